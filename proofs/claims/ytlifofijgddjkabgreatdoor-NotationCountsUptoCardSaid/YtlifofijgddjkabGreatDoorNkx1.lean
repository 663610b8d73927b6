/- Plain laws: what strings.Split, CutPrefix and CutSuffix do with one byte. -/
import Derived.Test.YtlifofijgddjkabGreatDoorPsx1
import Derived.KernelRfl
namespace Go.Proofs.YtlifofijgddjkabGreatDoor
open Go.AM Go.Proofs
def sp (c:UInt8):List UInt8->List (List UInt8)
 | []=>[[]]
 | b::l=>if b=c then []::sp c l else match sp c l with
  | x::r=>(b::x)::r
  | []=>[[b]]
theorem sp_len (c:UInt8):∀ s:List UInt8,(sp c s).length=s.count c+1
 | []=>rfl
 | b::l=>by
  have:=sp_len c l
  unfold sp
  by_cases h:b=c
  ·subst h
   rw[if_pos rfl,List.length_cons,this,List.count_cons_self]
  ·rw[if_neg h,List.count_cons_of_ne h]
   split<;>simp_all
theorem sp_none {c:UInt8}:∀ {s:List UInt8},c ∉ s->sp c s=[s]
 | [],_=>rfl
 | b::l,h=>by
  have h1:b≠c:=fun e=>h (by simp[e])
  have h2:c ∉ l:=fun e=>h (by simp[e])
  rw[sp,if_neg h1,sp_none h2]
theorem sp_at {c:UInt8} (r:List UInt8):∀ {a:List UInt8},c ∉ a->sp c (a++c::r)=a::sp c r
 | [],_=>by rw[List.nil_append,sp,if_pos rfl]
 | b::l,h=>by
  have h1:b≠c:=fun e=>h (by simp[e])
  have h2:c ∉ l:=fun e=>h (by simp[e])
  rw[List.cons_append,sp,if_neg h1,sp_at r h2]
theorem sp_sub {c:UInt8}:∀ {s x:List UInt8},x∈sp c s->x.length<=s.length
 | [],x,h=>by simp_all [sp]
 | b::l,x,h=>by
  unfold sp at h
  split at h
  ·rcases List.mem_cons.1 h with rfl | h
   ·simp
   ·have:=sp_sub h
    simp only[List.length_cons]
    omega
  ·have hl:=@sp_sub c l
   split at h
   ·rename_i y r e
    rcases List.mem_cons.1 h with rfl | h
    ·have:=hl (x:=y) (by simp[e])
     simp only[List.length_cons]
     omega
    ·have:=hl (x:=x) (by simp[e,h])
     simp only[List.length_cons]
     omega
   ·simp at h
    simp[h]
theorem index_one (c:UInt8):∀ s:List UInt8,(c ∉ s/\Lib.index s [c]=-1) \/ ∃ a r,s=a++c::r/\c ∉ a/\Lib.index s [c]=(a.length:Int)
 | []=>.inl ⟨by simp,rfl⟩
 | b::l=>by
  by_cases h:c=b
  ·subst h
   exact .inr ⟨[],l,rfl,by simp,by simp[Lib.index]⟩
  ·rcases index_one c l with ⟨h1,h2⟩ | ⟨a,r,rfl,h1,h2⟩
   ·exact .inl ⟨by simp[h,h1],by simp[Lib.index,h,h2]⟩
   ·refine .inr ⟨b::a,r,rfl,by simp[h,h1],?_⟩
    have h3:((a.length:Int) == -1)=false:=by rw[beq_eq_false_iff_ne]; omega
    simp[Lib.index,h,h2,h3]
theorem countFrom_one (c:UInt8):∀ (n:Nat) (s:List UInt8),s.length < n->Lib.countFrom [c] n s=s.count c
 | 0,_,h=>absurd h (by omega)
 | n+1,s,h=>by
  unfold Lib.countFrom
  rcases index_one c s with ⟨h1,h2⟩ | ⟨a,r,rfl,h1,h2⟩
  ·rw[h2,if_pos (by rfl),List.count_eq_zero_of_not_mem h1]
  ·have h3:((a.length:Int) == -1)=false:=by simp
   have h4:(a++c::r).drop (((a.length:Int)).toNat+[c].length)=r:=by simp
   rw[h2,h3,if_neg (by simp),h4,countFrom_one c n r (by simp at h; omega),List.count_append,List.count_eq_zero_of_not_mem h1,List.count_cons_self]
   omega
theorem splitK_one (c:UInt8):∀ (k:Nat) (s:List UInt8),s.count c<=k->Lib.splitK [c] 0 k s=sp c s
 | 0,s,h=>by rw[sp_none (fun e=>by have:=List.count_pos_iff.2 e; omega)]; rfl
 | k+1,s,h=>by
  unfold Lib.splitK
  rcases index_one c s with ⟨h1,h2⟩ | ⟨a,r,rfl,h1,h2⟩
  ·rw[h2,if_pos (by rfl),sp_none h1]
  ·have h3:((a.length:Int) == -1)=false:=by simp
   have h4:(a++c::r).drop (((a.length:Int)).toNat+[c].length)=r:=by simp
   have h5:(a++c::r).take (((a.length:Int)).toNat+0)=a:=by simp
   rw[List.count_append,List.count_cons_self] at h
   rw[h2,h3,if_neg (by simp),h4,h5,splitK_one c k r (by omega),sp_at r h1]
theorem split_one (c:UInt8) (s:List UInt8):Lib.split s [c]=sp c s:=splitK_one c _ s (by rw[Lib.count,countFrom_one c _ s (by omega)]; exact Nat.le_refl _)
theorem split_is (c:UInt8) {s:List UInt8} (h:s.length<=4000000000):m_strings_Split s [c]=some (sp c s):=by
 unfold m_strings_Split splitS
 rw[Nat.ble_eq_true_of_le h,split_one]
 rfl
def cp (c:UInt8):List UInt8->List UInt8×Bool
 | []=>([],false)
 | b::l=>bif b == c then (l,true) else (b::l,false)
theorem cutP_is (c:UInt8) (s:List UInt8):m_strings_CutPrefix s [c]=some (cp c s):=by
 unfold m_strings_CutPrefix m_internal_stringslite_CutPrefix m_internal_stringslite_HasPrefix
 cases s with
 | nil=>rfl
 | cons b l =>
  have h1:geB (bu (b::l)) (bu [c])=true:=by simp[geB,bu]; omega
  have h2:fA (b::l) 0 (bu [c])=some [b]:=by simp[fA,bu]; omega
  have h3:fA (b::l) (bu [c]) (bu (b::l))=some l:=by simp[fA,bu]; omega
  rw[h1,h2]
  simp only[cond_true,some_bind]
  by_cases h:b=c
  ·subst h
   simp[eqS,ba,h3,cp]
  ·have:eqS [b] [c]=false:=by simp[eqS,h]
   rw[this]
   have hb:(b == c)=false:=by simpa using h
   simp[ba,cp,hb]
theorem cp_len {c:UInt8} {s:List UInt8}:(cp c s).1.length<=s.length:=by
 cases s with
 | nil=>exact Nat.le_refl _
 | cons b l =>
  unfold cp
  cases hb:b == c<;>simp[hb]
def cu (c:UInt8) (s:List UInt8):List UInt8×Bool:=bif s.getLast? == some c then (s.dropLast,true) else (s,false)
theorem cutS_is (c:UInt8) {s:List UInt8} (h:s.length<=4000000000):m_strings_CutSuffix s [c]=some (cu c s):=by
 unfold m_strings_CutSuffix m_internal_stringslite_CutSuffix m_internal_stringslite_HasSuffix cu
 rcases List.eq_nil_or_concat s with rfl | ⟨l,b,rfl⟩
 ·rfl
 ·simp only[List.concat_eq_append] at *
  have h0:aX .i64 (bu (l++[b])) (bu [c])=(l.length:Int):=by
   unfold aX bu
   have e:((l++[b]).length:Int) - (([c]:List UInt8).length:Int)=l.length:=by simp only[List.length_append,List.length_singleton]; omega
   rw[e]
   exact i64_in (by simp only[List.length_append,List.length_singleton] at h; omega)
  have h1:geB (bu (l++[b])) (bu [c])=true:=decide_eq_true (by simp only[bu,List.length_append,List.length_singleton]; omega)
  have h2:fA (l++[b]) (l.length:Int) (bu (l++[b]))=some [b]:=by
   unfold fA bu
   rw[if_pos (by simp only[List.length_append,List.length_singleton]; omega)]
   have e:(((l++[b]).length:Nat):Int).toNat=(l++[b]).length:=rfl
   rw[e,List.take_length,Int.toNat_natCast,List.drop_left]
  have h3:fA (l++[b]) 0 (l.length:Int)=some l:=by
   unfold fA
   rw[if_pos (by simp only[List.length_append,List.length_singleton]; omega)]
   simp
  rw[h1,h0,h2]
  simp only[cond_true,some_bind]
  by_cases hb:b=c
  ·subst hb
   simp[eqS,ba,h3]
  ·have:eqS [b] [c]=false:=by simp[eqS,hb]
   rw[this]
   have hb2:(b == c)=false:=by simpa using hb
   simp[ba,hb2]
theorem cu_len {c:UInt8} {s:List UInt8}:(cu c s).1.length<=s.length:=by
 unfold cu
 cases hb:s.getLast? == some c<;>simp
end Go.Proofs.YtlifofijgddjkabGreatDoor
namespace Go.Proofs.YtlifofijgddjkabGreatDoor
open Go.AM Go.Proofs
theorem toB_len (s:List UInt8):(toB s).length=s.length:=by simp[toB]
theorem toBk_is {s:List UInt8} (h:s.length<=4000000000):toBk s=some (toB s):=if_pos (by omega)
theorem ap8k {l m:List Int} (h:l.length+m.length<=4000000001):appL 8 l m=some (l++m):=if_pos ⟨by decide,by omega⟩
theorem asc_tot {l:List Int} (h:l.length<=4000000000) (n:Int):∃ r,m_lifelike_ascends l n=some r:=by
 unfold m_lifelike_ascends
 obtain⟨o,ho,_⟩:=loop_iv (b:=b_lifelike_ascends_1 l n) (n:=l.length) (s:=((-1:Int),(0:Int))) (fun i st=>st.2=(i:Int)) (fun _=>True) (by omega) rfl
  (fun i st hi e=>by
   obtain⟨la,a⟩:=st
   simp only at e
   subst e
   have hx:l[i]?=some l[i]:=List.getElem?_eq_getElem hi
   unfold b_lifelike_ascends_1
   dsimp only
   rw[ltB_nat,decide_eq_true hi,cond_true,idx_nat,hx,up_nat (by omega)]
   simp only[some_bind,bif_some]
   cases (bif leB l[i] la then true else gtB l[i] n) with
   | true=>exact .inr ⟨_,rfl,trivial⟩
   | false=>exact .inl ⟨_,rfl,rfl⟩)
  (fun st e=>by
   obtain⟨la,a⟩:=st
   simp only at e
   subst e
   refine⟨.inr (),?_,trivial⟩
   unfold b_lifelike_ascends_1
   dsimp only
   rw[ltB_nat,decide_eq_false (Nat.lt_irrefl _)]
   rfl)
 rw[ho]
 cases o with
 | inl r=>exact⟨r,rfl⟩
 | inr u=>exact⟨true,rfl⟩
theorem ldig_tot {s:List UInt8} (h:s.length<=4000000000):∃ r,m_lifelike_digits s=some r/\r.1.length<=s.length:=by
 unfold m_lifelike_digits
 rw[toBk_is h,some_bind]
 have hl:=toB_len s
 generalize toB s=l at hl ⊢
 obtain⟨o,ho,hq⟩:=loop_iv (b:=b_lifelike_digits_1 l) (n:=l.length) (s:=((0:Int),([]:List Int))) (fun i st=>st.1=(i:Int)/\st.2.length=i) (fun o=>match o with | .inl r=>r.1.length<=s.length | .inr r=>r.length<=s.length) (by omega) ⟨rfl,rfl⟩
  (fun i st hi ⟨e,e2⟩=>by
   obtain⟨a,out⟩:=st
   simp only at e e2
   subst e
   have hx:l[i]?=some l[i]:=List.getElem?_eq_getElem hi
   unfold b_lifelike_digits_1
   dsimp only
   rw[ltB_nat,decide_eq_true hi,cond_true,idx_nat,hx,up_nat (by omega)]
   simp only[some_bind,bif_some]
   cases (bif ltB l[i] 48 then true else gtB l[i] 57) with
   | true=>exact .inr ⟨_,rfl,Nat.zero_le _⟩
   | false =>
    rw[ap8k (by simp only[List.length_singleton]; omega)]
    exact .inl ⟨_,rfl,rfl,by simp[e2]⟩)
  (fun st ⟨e,e2⟩=>by
   obtain⟨a,out⟩:=st
   simp only at e e2
   subst e
   refine⟨.inr out,?_,by simp only; omega⟩
   unfold b_lifelike_digits_1
   dsimp only
   rw[ltB_nat,decide_eq_false (Nat.lt_irrefl _)]
   rfl)
 rw[ho]
 cases o with
 | inl r=>exact⟨r,rfl,hq⟩
 | inr out =>
  simp only at hq
  obtain⟨r,hr⟩:=asc_tot (l:=out) (by omega) 9
  exact⟨(out,r),by simp[hr],hq⟩
theorem gdig_tot {s:List UInt8} (h:s.length<=4000000000):∃ r,m_generations_digits s=some r/\r.1.length<=s.length:=by
 unfold m_generations_digits
 rw[toBk_is h,some_bind]
 have hl:=toB_len s
 generalize toB s=l at hl ⊢
 obtain⟨o,ho,hq⟩:=loop_iv (b:=b_generations_digits_1 l) (n:=l.length) (s:=((0:Int),([]:List Int))) (fun i st=>st.1=(i:Int)/\st.2.length=i) (fun o=>match o with | .inl r=>r.1.length<=s.length | .inr r=>r.length<=s.length) (by omega) ⟨rfl,rfl⟩
  (fun i st hi ⟨e,e2⟩=>by
   obtain⟨a,out⟩:=st
   simp only at e e2
   subst e
   have hx:l[i]?=some l[i]:=List.getElem?_eq_getElem hi
   unfold b_generations_digits_1
   dsimp only
   rw[ltB_nat,decide_eq_true hi,cond_true,idx_nat,hx,up_nat (by omega)]
   simp only[some_bind]
   generalize aX .i64 (dz .i64 l[i]) 48=d
   have hc:∃ c,(bif (gtB (aO out) 0) then (idx out (aX .i64 (aO out) 1)).bind fun x1=>some (leB d x1) else some false)=some c:=by
    cases hg:gtB (aO out) 0 with
    | false=>exact⟨_,rfl⟩
    | true =>
     have hp:0 < i:=by
      have:=of_decide_eq_true hg
      unfold aO at this
      omega
     have e3:aX .i64 (aO out) 1=((i - 1:Nat):Int):=by
      unfold aO
      rw[e2,isub_in (by omega)]
      omega
     rw[cond_true,e3,idx_nat,List.getElem?_eq_getElem (by omega:i - 1 < out.length)]
     exact⟨_,rfl⟩
   obtain⟨c,hc⟩:=hc
   rw[hc]
   simp only[bif_some,some_bind]
   cases (bif ltB d 0 then true else bif gtB d 9 then true else c) with
   | true=>exact .inr ⟨_,rfl,Nat.zero_le _⟩
   | false =>
    rw[ap8k (by simp only[List.length_singleton]; omega)]
    exact .inl ⟨_,rfl,rfl,by simp[e2]⟩)
  (fun st ⟨e,e2⟩=>by
   obtain⟨a,out⟩:=st
   simp only at e e2
   subst e
   refine⟨.inr out,?_,by simp only; omega⟩
   unfold b_generations_digits_1
   dsimp only
   rw[ltB_nat,decide_eq_false (Nat.lt_irrefl _)]
   rfl)
 rw[ho]
 cases o with
 | inl r=>exact⟨r,rfl,hq⟩
 | inr out=>exact⟨(out,true),rfl,hq⟩
theorem gnum_tot {s:List UInt8} (h:s.length<=4000000000):∃ r,m_generations_number s=some r:=by
 unfold m_generations_number
 rw[toBk_is h,some_bind]
 have hl:=toB_len s
 generalize toB s=l at hl ⊢
 obtain⟨o,ho,_⟩:=loop_iv (b:=b_generations_number_1 s l) (n:=l.length) (s:=(0:Int)) (fun i st=>st=(i:Int)) (fun _=>True) (by omega) rfl
  (fun i st hi e=>by
   subst e
   have hx:l[i]?=some l[i]:=List.getElem?_eq_getElem hi
   unfold b_generations_number_1
   dsimp only
   rw[ltB_nat,decide_eq_true hi,cond_true,idx_nat,hx,up_nat (by omega)]
   simp only[some_bind,bif_some]
   cases (bif ltB l[i] 48 then true else gtB l[i] 57) with
   | true=>exact .inr ⟨_,rfl,trivial⟩
   | false=>exact .inl ⟨_,rfl,rfl⟩)
  (fun st e=>by
   subst e
   refine⟨.inr (),?_,trivial⟩
   unfold b_generations_number_1
   dsimp only
   rw[ltB_nat,decide_eq_false (Nat.lt_irrefl _)]
   rfl)
 rw[ho]
 cases o with
 | inl r=>exact⟨r,rfl⟩
 | inr u =>
  simp only[some_bind]
  cases hg:geB (bu s) 1 with
  | false=>exact⟨_,rfl⟩
  | true =>
   cases leB (bu s) 3 with
   | false=>exact⟨_,rfl⟩
   | true =>
    cases s with
    | nil=>cases hg
    | cons b r=>exact⟨_,rfl⟩
end Go.Proofs.YtlifofijgddjkabGreatDoor
namespace Go.Proofs.YtlifofijgddjkabGreatDoor
open Go.AM Go.Proofs
theorem eqP_tot {l m:List Point} (h:l.length<=4000000000):∃ r,m_slices_Equal_api_Point_api_Point l m=some r:=by
 unfold m_slices_Equal_api_Point_api_Point
 cases hn:neB (aO l) (aO m) with
 | true=>exact⟨_,rfl⟩
 | false =>
  have hlm:l.length=m.length:=by
   simp[neB,aO] at hn
   omega
  obtain⟨o,ho,_⟩:=loop_iv (b:=b_slices_Equal_api_Point_api_Point_1 l m) (n:=l.length) (s:=(0:Int)) (fun i st=>st=(i:Int)) (fun _=>True) (by omega) rfl
   (fun i st hi e=>by
    subst e
    have hx:l[i]?=some l[i]:=List.getElem?_eq_getElem hi
    have hy:m[i]?=some m[i]:=List.getElem?_eq_getElem (by omega)
    unfold b_slices_Equal_api_Point_api_Point_1
    dsimp only
    rw[ltB_nat,decide_eq_true hi,cond_true,idx_nat,hx,idx_nat,hy,up_nat (by omega)]
    simp only[some_bind]
    cases ba (gP (eqB l[i].X m[i].X) (gP (eqB l[i].Y m[i].Y) true)) with
    | true=>exact .inr ⟨_,rfl,trivial⟩
    | false=>exact .inl ⟨_,rfl,rfl⟩)
   (fun st e=>by
    subst e
    refine⟨.inr (),?_,trivial⟩
    unfold b_slices_Equal_api_Point_api_Point_1
    dsimp only
    rw[ltB_nat,decide_eq_false (Nat.lt_irrefl _)]
    rfl)
  rw[cond_false,ho]
  cases o with
  | inl r=>exact⟨r,rfl⟩
  | inr u=>exact⟨true,rfl⟩
theorem same_tot {l m:List Point} (h:l.length<=4000000000):∃ r,m_hood_Same l m=some r:=by
 obtain⟨r,hr⟩:=eqP_tot (m:=m) h
 exact⟨r,by unfold m_hood_Same; rw[hr]; rfl⟩
def hM:List Point:=[⟨-1,-1⟩,⟨0,-1⟩,⟨1,-1⟩,⟨-1,0⟩,⟨0,0⟩,⟨1,0⟩,⟨-1,1⟩,⟨0,1⟩,⟨1,1⟩]
def hN:List Point:=[⟨0,-1⟩,⟨-1,0⟩,⟨0,0⟩,⟨1,0⟩,⟨0,1⟩]
def hH:List Point:=[⟨-1,-1⟩,⟨0,-1⟩,⟨-1,0⟩,⟨0,0⟩,⟨1,0⟩,⟨0,1⟩,⟨1,1⟩]
theorem moore_is:m_hood_Moore 1=some hM:=by kernel_rfl
theorem neumann_is:m_hood_Neumann 1=some hN:=by kernel_rfl
theorem hex_is:m_hood_Hex=some hH:=by kernel_rfl
theorem letter_tot {l:List Point} (h:l.length<=4000000000):∃ r,m_lifelike_letter l=some r:=by
 unfold m_lifelike_letter
 rw[moore_is,neumann_is,hex_is]
 obtain⟨a,ha⟩:=same_tot (m:=hM) h
 obtain⟨b,hb⟩:=same_tot (m:=hN) h
 obtain⟨c,hc⟩:=same_tot (m:=hH) h
 simp only[some_bind,ha,hb,hc]
 cases a<;>cases b<;>cases c<;>exact⟨_,rfl⟩
theorem right_tot {t:Ar} (hh:t.Hood.length<=4000000000) (hb:t.Birth.length<=4000000000) (hs:t.Survive.length<=4000000000):∃ r,m_lifelike_Right t=some r:=by
 unfold m_lifelike_Right
 obtain⟨a,ha⟩:=letter_tot hh
 obtain⟨b,hb⟩:=asc_tot hb (aX .i64 (aO t.Hood) 1)
 obtain⟨c,hc⟩:=asc_tot hs (aX .i64 (aO t.Hood) 1)
 simp only[ha,hb,hc,some_bind]
 cases a.2<;>cases geB t.States 2<;>cases leB t.States 8<;>cases b<;>exact⟨_,rfl⟩
def Rd (r:Ar×Int):Prop:=r.2=15 \/ r.2=5 \/ (r.2=0/\(r.1.Hood=hM \/ r.1.Hood=hN \/ r.1.Hood=hH)/\m_lifelike_Right r.1=some true/\r.1.Birth.length<=4000000000/\r.1.Survive.length<=4000000000)
theorem hood_of {α:Type} {s:α} {b c:α} (a1 a2:Bool):∃ x:α×List Point,(bif a1 then some (b,hN) else bif a2 then some (c,hH) else some (s,hM))=some x/\(x.2=hM \/ x.2=hN \/ x.2=hH)/\(x.1=s \/ x.1=b \/ x.1=c):=by
 cases a1<;>cases a2<;>exact⟨_,rfl,by simp,by simp⟩
theorem cut_len (s sep:List UInt8):(Lib.cut s sep).1.length<=s.length/\(Lib.cut s sep).2.1.length<=s.length:=by
 unfold Lib.cut
 split
 ·exact⟨by rw[List.length_take]; omega,by rw[List.length_drop]; omega⟩
 ·exact⟨Nat.le_refl _,Nat.zero_le _⟩
theorem cut_is {s:List UInt8} (h:s.length<=4000000000) (sep:List UInt8):m_strings_Cut s sep=some (Lib.cut s sep):=by
 unfold m_strings_Cut cutS
 rw[Nat.ble_eq_true_of_le h]
 rfl
theorem llParse_tot {s:List UInt8} (h:s.length<=4000000000):∃ r,m_lifelike_Parse s=some r/\Rd r:=by
 unfold m_lifelike_Parse
 have h1:=@cp_len 66 s
 rw[cutP_is,some_bind,cut_is (by omega),some_bind]
 obtain⟨h2,h3⟩:=cut_len (cp 66 s).1 [47,83]
 generalize Lib.cut (cp 66 s).1 [47,83]=y at h2 h3 ⊢
 rw[bif_some,some_bind]
 cases (bif ba (cp 66 s).2 then true else ba y.2.2) with
 | true=>exact⟨_,rfl,.inl rfl⟩
 | false =>
  rw[cond_false,moore_is,neumann_is,hex_is,some_bind,cutS_is 86 (by omega),some_bind,cutS_is 72 (by omega)]
  simp only[some_bind]
  obtain⟨x,hx,hh,hl⟩:=hood_of (s:=y.2.1) (b:=(cu 86 y.2.1).1) (c:=(cu 72 y.2.1).1) (cu 86 y.2.1).2 (cu 72 y.2.1).2
  have h4:=@cu_len 86 y.2.1
  have h5:=@cu_len 72 y.2.1
  have h6:x.1.length<=4000000000:=by rcases hl with e | e | e<;>rw[e]<;>omega
  rw[hx,some_bind]
  obtain⟨d1,e1,l1⟩:=ldig_tot (s:=y.1) (by omega)
  obtain⟨d2,e2,l2⟩:=ldig_tot h6
  rw[e1,some_bind,e2,some_bind,bif_some,some_bind]
  cases (bif ba d1.2 then true else ba d2.2) with
  | true=>exact⟨_,rfl,.inl rfl⟩
  | false =>
   have hhl:x.2.length<=4000000000:=by rcases hh with e | e | e<;>rw[e]<;>decide
   obtain⟨r,hr⟩:=right_tot (t:=⟨x.2,2,d1.1,d2.1⟩) hhl (by simp only; omega) (by simp only; omega)
   rw[cond_false,hr,some_bind]
   cases r with
   | false=>exact⟨_,rfl,.inr (.inl rfl)⟩
   | true=>exact⟨_,rfl,.inr (.inr ⟨rfl,hh,hr,by show d1.1.length<=_; omega,by show d2.1.length<=_; omega⟩)⟩
end Go.Proofs.YtlifofijgddjkabGreatDoor
namespace Go.Proofs.YtlifofijgddjkabGreatDoor
open Go.AM Go.Proofs
theorem atoi_tot {s:List UInt8} (h:s.length<=4000000000):∃ r,m_strconv_Atoi s=some r:=by
 unfold m_strconv_Atoi atoiA
 rw[Nat.ble_eq_true_of_le h]
 exact⟨_,rfl⟩
theorem cp_count {c d:UInt8} {s:List UInt8} (h:(cp c s).2=true) (hd:c≠d):(cp c s).1.count d=s.count d:=by
 cases s with
 | nil=>cases h
 | cons b l =>
  have hu:cp c (b::l)=bif b == c then (l,true) else (b::l,false):=rfl
  rw[hu] at h ⊢
  cases hq:b == c with
  | false =>
   rw[hq] at h
   cases h
  | true=>rw[cond_true,beq_iff_eq.1 hq,List.count_cons_of_ne hd]
theorem gEnd_tot {hd:List Point} (hh:hd=hM \/ hd=hN \/ hd=hH) {b v n:List UInt8} (lb:b.length<=4000000000) (lv:v.length<=4000000000) (ln:n.length<=4000000000) :
  ∃ r,((m_generations_digits b).bind fun y3=>(m_generations_digits v).bind fun y4 =>
   ((bif (ba y3.2) then some true else (bif (ba y4.2) then some true else (m_generations_number n).bind fun y5=>some (ba y5)))).bind fun a =>
   (bif a then some ((⟨[],0,[],[]⟩:Ar),(15:Int)) else
    (m_strconv_Atoi n).bind fun y5 =>
    ((bif (ltB y5.1 3) then some true else (bif (gtB y5.1 8) then some true else (m_lifelike_Right (⟨hd,y5.1,y3.1,y4.1⟩:Ar)).bind fun y6=>some (ba y6)))).bind fun a1 =>
    (bif a1 then some ((⟨[],0,[],[]⟩:Ar),5) else some ((⟨hd,y5.1,y3.1,y4.1⟩:Ar),0))))=some r/\Rd r:=by
 obtain⟨d1,e1,l1⟩:=gdig_tot lb
 obtain⟨d2,e2,l2⟩:=gdig_tot lv
 obtain⟨m,e3⟩:=gnum_tot ln
 obtain⟨k,e4⟩:=atoi_tot ln
 have hhl:hd.length<=4000000000:=by rcases hh with e | e | e<;>rw[e]<;>decide
 obtain⟨r,hr⟩:=right_tot (t:=⟨hd,k.1,d1.1,d2.1⟩) hhl (by simp only; omega) (by simp only; omega)
 rw[e1,some_bind,e2,some_bind,e3,some_bind,e4,bif_some,bif_some,some_bind]
 cases (bif ba d1.2 then true else bif ba d2.2 then true else ba m) with
 | true=>exact⟨_,rfl,.inl rfl⟩
 | false =>
  rw[cond_false,some_bind,hr,some_bind,bif_some,bif_some,some_bind]
  cases hc:(bif ltB k.1 3 then true else bif gtB k.1 8 then true else ba r) with
  | true=>exact⟨_,rfl,.inr (.inl rfl)⟩
  | false =>
   refine⟨_,rfl,.inr (.inr ⟨rfl,hh,?_,by show d1.1.length<=_; omega,by show d2.1.length<=_; omega⟩)⟩
   refine hr.trans (congrArg some ?_)
   cases ltB k.1 3<;>cases gtB k.1 8<;>cases r<;>simp_all [ba]
theorem gParse_tot {s:List UInt8} (h:s.length<=4000000000):∃ r,m_generations_Parse s=some r/\Rd r:=by
 unfold m_generations_Parse
 rw[moore_is,neumann_is,hex_is,some_bind,cutS_is 86 h,some_bind,cutS_is 72 h]
 simp only[some_bind]
 obtain⟨x,hx,hh,hl⟩:=hood_of (s:=s) (b:=(cu 86 s).1) (c:=(cu 72 s).1) (cu 86 s).2 (cu 72 s).2
 have h4:=@cu_len 86 s
 have h5:=@cu_len 72 s
 have h6:x.1.length<=4000000000:=by rcases hl with e | e | e<;>rw[e]<;>omega
 rw[hx,some_bind,split_is 47 h6,some_bind]
 have hsl:=sp_len 47 x.1
 cases hn:neB (aO (sp 47 x.1)) 3 with
 | true=>exact⟨_,rfl,.inl rfl⟩
 | false =>
  have h3:(sp 47 x.1).length=3:=by
   simp[neB,aO] at hn
   omega
  have hsub:=fun y=>@sp_sub 47 x.1 y
  obtain⟨p0,p1,p2,hp⟩:∃ a b c,sp 47 x.1=[a,b,c]:=by
   match hq:sp 47 x.1,h3 with
   | [a,b,c],_=>exact⟨a,b,c,rfl⟩
  rw[hp] at hsub
  rw[cond_false,hp,show idx [p0,p1,p2] 1=some p1 from rfl,show idx [p0,p1,p2] 0=some p0 from rfl,show idx [p0,p1,p2] 2=some p2 from rfl,some_bind,some_bind,some_bind,cutP_is,some_bind]
  have l0:=hsub p0 (by simp)
  have l1:=hsub p1 (by simp)
  have l2:=hsub p2 (by simp)
  cases hb:(cp 66 x.1).2 with
  | false=>exact gEnd_tot hh (by omega) (by omega) (by omega)
  | true =>
   have hc:(cp 66 x.1).1.count 47=x.1.count 47:=cp_count hb (by decide)
   have l3:=@cp_len 66 x.1
   have h7:(sp 47 (cp 66 x.1).1).length=3:=by rw[sp_len,hc,<- hsl,h3]
   have hsub2:=fun y=>@sp_sub 47 (cp 66 x.1).1 y
   obtain⟨q0,q1,q2,hq⟩:∃ a b c,sp 47 (cp 66 x.1).1=[a,b,c]:=by
    match hq:sp 47 (cp 66 x.1).1,h7 with
    | [a,b,c],_=>exact⟨a,b,c,rfl⟩
   rw[hq] at hsub2
   have m0:=hsub2 q0 (by simp)
   have m1:=hsub2 q1 (by simp)
   have m2:=hsub2 q2 (by simp)
   have n1:=@cp_len 83 q1
   have n2:=@cp_len 67 q2
   rw[cond_true,split_is 47 (by omega),some_bind,hq,show idx [q0,q1,q2] 1=some q1 from rfl,show idx [q0,q1,q2] 0=some q0 from rfl,show idx [q0,q1,q2] 2=some q2 from rfl,some_bind,cutP_is,some_bind,some_bind,cutP_is,some_bind,bif_some,some_bind]
   cases (bif ba (cp 83 q1).2 then true else ba (cp 67 q2).2) with
   | true=>exact⟨_,rfl,.inl rfl⟩
   | false=>exact gEnd_tot hh (by omega) (by omega) (by omega)
end Go.Proofs.YtlifofijgddjkabGreatDoor
namespace Go.Proofs.YtlifofijgddjkabGreatDoor
open Go.AM Go.Proofs
theorem trim_tot {s:List UInt8} (h:s.length<=4000000000):∃ r,m_strings_Trim s [48,49,50,51,52,53,54,55,56,57]=some r:=by
 unfold m_strings_Trim trimM
 rw[Nat.ble_eq_true_of_le h]
 exact⟨_,rfl⟩
theorem wnum_tot {s:List UInt8} (h:s.length<=4000000000):∃ r,m_wolfram_number s=some r:=by
 unfold m_wolfram_number
 obtain⟨t,ht⟩:=trim_tot h
 obtain⟨k,hk⟩:=atoi_tot h
 rw[ht,hk]
 simp only[some_bind]
 have hi:∃ c,(bif gtB (bu s) 1 then (idxS s 0).bind fun b=>bif eqB b 48 then some true else some (ba (eqS t [])) else some (ba (eqS t [])))=some c:=by
  cases hg:gtB (bu s) 1 with
  | false=>exact⟨_,rfl⟩
  | true =>
   cases s with
   | nil=>cases hg
   | cons b r =>
    rw[cond_true,show idxS (b::r) 0=some (b.toNat:Int) from rfl,some_bind,bif_some]
    exact⟨_,rfl⟩
 obtain⟨c,hc⟩:=hi
 rw[hc,bif_some,some_bind]
 cases (bif eqS s [] then true else c)<;>exact⟨_,rfl⟩
theorem digits_tot (k n:Int):∃ r,m_wolfram_Digits k n=some r:=by
 unfold m_wolfram_Digits
 rw[bif_some,some_bind]
 cases hc:(bif ltB k 2 then true else gtB k 8) with
 | true=>exact⟨_,rfl⟩
 | false =>
  have hk:2<=k/\k<=8:=by
   cases h1:ltB k 2 with
   | true=>rw[h1] at hc; cases hc
   | false =>
    rw[h1,cond_false] at hc
    have h2:=of_decide_eq_false h1
    have h3:=of_decide_eq_false hc
    omega
  rw[cond_false]
  cases ltB n 0 with
  | true=>exact⟨_,rfl⟩
  | false =>
   unfold m_wolfram_sums
   rw[cond_false,some_bind,imul_in (by omega),isub_in (by omega)]
   obtain⟨y,hy⟩:∃ y:Nat,3*k - 2=(y:Int):=⟨(3*k - 2).toNat,by omega⟩
   rw[hy]
   obtain⟨o,ho,_⟩:=loop_iv (b:=b_wolfram_Digits_1 k (y:Int)) (n:=y) (s:=(n,(0:Int),([]:List Int))) (fun i st=>st.2.1=(i:Int)/\st.2.2.length=i) (fun _=>True) (by omega) ⟨rfl,rfl⟩
    (fun i st hi ⟨e,e2⟩=>by
     obtain⟨m,a,l⟩:=st
     simp only at e e2
     subst e
     unfold b_wolfram_Digits_1
     dsimp only
     have hlt:ltB (i:Int) (y:Int)=true:=decide_eq_true (by omega)
     rw[hlt,cond_true,irem,if_neg (by omega),some_bind,iquo,if_neg (by omega),ap8k (by simp only[List.length_singleton]; omega),some_bind,some_bind,up_nat (by omega)]
     exact .inl ⟨_,rfl,rfl,by simp[e2]⟩)
    (fun st ⟨e,e2⟩=>by
     obtain⟨m,a,l⟩:=st
     simp only at e e2
     subst e
     refine⟨(m,l),?_,trivial⟩
     unfold b_wolfram_Digits_1
     dsimp only
     have hlt:ltB (y:Int) (y:Int)=false:=decide_eq_false (by omega)
     rw[hlt]
     rfl)
   rw[ho,some_bind]
   obtain⟨o1,o2⟩:=o
   dsimp only
   cases gtB o1 0<;>exact⟨_,rfl⟩
theorem wParse_tot {s:List UInt8} (h:s.length<=4000000000):∃ r,m_wolfram_Parse s=some r:=by
 unfold m_wolfram_Parse
 have h1:=@cp_len 87 s
 have h2:=@cp_len 84 s
 obtain⟨a,ha⟩:=wnum_tot (s:=(cp 87 s).1) (by omega)
 obtain⟨l1,l2⟩:=cut_len (cp 84 s).1 [47]
 obtain⟨b,hb⟩:=wnum_tot (s:=(Lib.cut (cp 84 s).1 [47]).1) (by omega)
 obtain⟨c,hc⟩:=wnum_tot (s:=(Lib.cut (cp 84 s).1 [47]).2.1) (by omega)
 obtain⟨d,hd⟩:=digits_tot c.1 b.1
 have hcut:=cut_is (s:=(cp 84 s).1) (by omega) [47]
 rw[cutP_is,cutP_is]
 simp only[some_bind,bif_some,ha,hcut,hb,hc,hd]
 exact⟨_,rfl⟩
theorem hasP_tot (c:UInt8) (s:List UInt8):∃ r,m_strings_HasPrefix s [c]=some r:=by
 unfold m_strings_HasPrefix m_internal_stringslite_HasPrefix
 cases s with
 | nil=>exact⟨_,rfl⟩
 | cons b l =>
  have h1:geB (bu (b::l)) (bu [c])=true:=by simp[geB,bu]; omega
  have h2:fA (b::l) 0 (bu [c])=some [b]:=by simp[fA,bu]; omega
  rw[h1,h2]
  exact⟨_,rfl⟩
theorem con_tot {s:List UInt8} (h:s.length<=4000000000) (sub:List UInt8):∃ r,m_strings_Contains s sub=some r:=by
 unfold m_strings_Contains m_strings_Index indexS
 rw[Nat.ble_eq_true_of_le h]
 exact⟨_,rfl⟩
theorem kind_tot {s:List UInt8} (h:s.length<=4000000000):∃ k,m_notation_Kind s=some k /\
  ((k=1/\∃ r,m_lifelike_Parse s=some r/\Rd r/\r.2≠15) \/ (k=2/\∃ r,m_generations_Parse s=some r/\Rd r/\r.2≠15) \/ (k≠1/\k≠2)):=by
 unfold m_notation_Kind
 obtain⟨a,ha,ra⟩:=llParse_tot h
 obtain⟨b,hb,rb⟩:=gParse_tot h
 obtain⟨c,hc⟩:=wParse_tot h
 obtain⟨p,hp⟩:=hasP_tot 87 s
 obtain⟨q,hq⟩:=hasP_tot 84 s
 obtain⟨e,he⟩:=con_tot h [10]
 rw[ha,hb,hc,hp,hq,he]
 simp only[some_bind]
 cases h1:neB a.2 15 with
 | true=>exact⟨1,rfl,.inl ⟨rfl,a,rfl,ra,by simpa [neB] using h1⟩⟩
 | false =>
  cases h2:neB b.2 15 with
  | true=>exact⟨2,rfl,.inr (.inl ⟨rfl,b,rfl,rb,by simpa [neB] using h2⟩)⟩
  | false=>cases neB c.2.2.2 15<;>cases p<;>cases q<;>cases e<;>exact⟨_,rfl,.inr (.inr (by decide))⟩
end Go.Proofs.YtlifofijgddjkabGreatDoor
