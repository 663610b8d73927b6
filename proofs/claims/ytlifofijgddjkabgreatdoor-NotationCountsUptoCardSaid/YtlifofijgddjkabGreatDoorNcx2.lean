/- Plain laws: a rule by counts that is read from a text: its tree and the tree's symmetries. -/
import Derived.Test.YtlifofijgddjkabGreatDoorNcx1
import Derived.Test.YtlifofijgddjkabGreatDoorNkx1
import Derived.Test.YtlifofijgddjkabGreatDoorNrx1
namespace Go.Proofs.YtlifofijgddjkabGreatDoor
open Go.AM Go.Proofs
theorem right_states {x:Ar} (h:m_lifelike_Right x=some true):∃ n:Nat,x.States=(n:Int)/\2<=n/\n<=8:=by
 unfold m_lifelike_Right at h
 cases h1:m_lifelike_letter x.Hood with
 | none=>rw[h1] at h; cases h
 | some y =>
  rw[h1,some_bind] at h
  cases h2:y.2 with
  | false=>rw[h2] at h; cases h
  | true =>
   cases h3:geB x.States 2 with
   | false=>rw[h2,h3] at h; cases h
   | true =>
    cases h4:leB x.States 8 with
    | false=>rw[h2,h3,h4] at h; cases h
    | true =>
     have:=of_decide_eq_true h3
     have:=of_decide_eq_true h4
     exact⟨x.States.toNat,by omega,by omega,by omega⟩
def fH (l:List Point) (k:Nat):Bool:=l.all fun p=>l.any fun q=>eqB q.X (apK k p).X && eqB q.Y (apK k p).Y
theorem fH_iff {l:List Point} {k:Nat}:fH l k=true↔∀ p∈l,apK k p∈l:=by
 unfold fH
 rw[List.all_eq_true]
 refine forall_congr' fun p=>forall_congr' fun hp=>?_
 rw[List.any_eq_true]
 constructor
 ·rintro⟨q,hq,e⟩
  have:q=apK k p:=by
   simp[eqB] at e
   cases q
   cases hk:apK k p
   simp_all
  exact this ▸ hq
 ·exact fun h=>⟨_,h,by simp[eqB]⟩
theorem hood3 {l:List Point} (h:l=hM \/ l=hN \/ l=hH):∃ c L:Nat,m_hood_Centre l=some (c:Int)/\hoodOk l=true/\L+1=l.length/\L+1<=9/\l[c]?=some ⟨0,0⟩:=by
 rcases h with rfl | rfl | rfl
 ·exact⟨4,8,by kernel_rfl,by kernel_rfl,rfl,by decide,rfl⟩
 ·exact⟨2,4,by kernel_rfl,by kernel_rfl,rfl,by decide,rfl⟩
 ·exact⟨3,6,by kernel_rfl,by kernel_rfl,rfl,by decide,rfl⟩
theorem counts_syms {x:Ar} (hh:x.Hood=hM \/ x.Hood=hN \/ x.Hood=hH) (hR:m_lifelike_Right x=some true) (hb:x.Birth.length<=4000000000) (hv:x.Survive.length<=4000000000) :
  ∃ (t:Tree) (n c L:Nat),m_totaltree_Totals x=some (t,0)/\x.States=(n:Int)/\t.States=x.States/\t.Hood=x.Hood/\x.Hood[c]?=some ⟨0,0⟩/\L+1=x.Hood.length/\TD n L t (cD n c (Eo x) (L+1) 0 0 0)/\cntOk n L/\∀ k,fH x.Hood k=true↔Inv n L t (cD n c (Eo x) (L+1) 0 0 0) k:=by
 obtain⟨n,hn,h2,h8⟩:=right_states hR
 obtain⟨c,L,hC,ho,hL,h9,hc⟩:=hood3 hh
 obtain⟨nodes,ht,T⟩:=totals_is hn h2 h8 (by omega) (by omega) hR hC ho hL h9
 exact⟨_,n,c,L,ht,hn,rfl,rfl,hc,hL,T,cnt9 h8 (by omega),fun k=>fH_iff.trans ⟨fun h=>count_inv T hc h,fun h=>h.hood⟩⟩
end Go.Proofs.YtlifofijgddjkabGreatDoor
namespace Go.Proofs.YtlifofijgddjkabGreatDoor
open Go.AM Go.Proofs
theorem ints12_same (l:List Int) (hl:l.length < 1099511627776):m_L12_Ints l l=some true:=by
 unfold m_L12_Ints
 rw[show neB (aO l) (aO l)=false from by simp[neB],cond_false]
 obtain⟨r,hr,rfl⟩:=loop_iv (b:=b_L12_Ints_1 l l) (n:=l.length) (s:=0) (fun i st=>st=(i:Int)) (fun r=>r=.inr ()) hl rfl
  (fun i st hi e=>by
   subst e
   have hx:l[i]?=some l[i]:=List.getElem?_eq_getElem hi
   refine .inl ⟨_,?_,rfl⟩
   unfold b_L12_Ints_1
   dsimp only
   rw[ltB_nat,decide_eq_true hi,cond_true,idx_nat,hx,up_nat (by omega)]
   simp only[some_bind]
   rw[show neB l[i] l[i]=false from by simp[neB]]
   rfl)
  (fun st e=>by
   subst e
   refine⟨_,?_,rfl⟩
   unfold b_L12_Ints_1
   dsimp only
   rw[ltB_nat,decide_eq_false (Nat.lt_irrefl _)]
   rfl)
 rw[hr]
 rfl
set_option maxRecDepth 100000 in
theorem hsyms_is {l:List Point} (h:l=hM \/ l=hN \/ l=hH):m_hood_Syms l=some (selL (fH l) 8):=by
 rcases h with rfl | rfl | rfl<;>kernel_rfl
theorem states_is {t:Tree} {l:List Int} (hl:l.length < 1000000):∃ y,m_slices_ContainsFunc_int_int_tree_Eval_1 l t=some y/\(y=false->∀ s∈l,0<=s/\s < t.States):=by
 unfold m_slices_ContainsFunc_int_int_tree_Eval_1 m_slices_IndexFunc_int_int_tree_Eval_1
 obtain⟨r,hr,hq⟩:=loop_iv (b:=b_slices_IndexFunc_int_int_tree_Eval_1_1 l t) (n:=l.length) (s:=0) (fun i st=>st=(i:Int)/\∀ (j:Nat) s,j < i->l[j]?=some s->0<=s/\s < t.States)
  (fun r=>(∃ k:Nat,r=.inl (k:Int)) \/ (r=.inr ()/\∀ s∈l,0<=s/\s < t.States)) (by omega) ⟨rfl,fun j s h=>by omega⟩
  (fun i st hi ⟨e,h⟩=>by
   subst e
   have hx:l[i]?=some l[i]:=List.getElem?_eq_getElem hi
   generalize l[i]=s at hx
   unfold b_slices_IndexFunc_int_int_tree_Eval_1_1 m_tree_Eval_1
   dsimp only
   rw[ltB_nat,decide_eq_true hi,cond_true,idx_nat,hx,up_nat (by omega)]
   simp only[some_bind]
   cases h1:ltB s 0 with
   | true=>exact .inr ⟨_,rfl,.inl ⟨i,rfl⟩⟩
   | false =>
    simp only[cond_false,some_bind]
    cases h2:geB s t.States with
    | true=>exact .inr ⟨_,rfl,.inl ⟨i,rfl⟩⟩
    | false =>
     refine .inl ⟨_,rfl,rfl,fun j s' hj hs'=>?_⟩
     rcases Nat.lt_succ_iff_lt_or_eq.1 hj with hj | rfl
     ·exact h j s' hj hs'
     ·rw[hx] at hs'
      cases hs'
      have:=of_decide_eq_false h1
      have:=of_decide_eq_false h2
      omega)
  (fun st ⟨e,h⟩=>by
   subst e
   refine⟨_,?_,.inr ⟨rfl,fun s hs=>?_⟩⟩
   ·unfold b_slices_IndexFunc_int_int_tree_Eval_1_1
    dsimp only
    rw[ltB_nat,decide_eq_false (Nat.lt_irrefl _)]
    rfl
   ·obtain⟨j,hj⟩:=List.mem_iff_getElem?.1 hs
    exact h j s (List.getElem?_eq_some_iff.1 hj).1 hj)
 rw[hr]
 rcases hq with ⟨k,rfl⟩ | ⟨rfl,h⟩
 ·exact⟨_,rfl,fun h=>by have:=of_decide_eq_false h; omega⟩
 ·exact⟨_,rfl,fun _=>h⟩
theorem next_is {x:Ar} {n:Nat} (hn:x.States=(n:Int)) (h2:2<=n) (h8:n<=8) (hR:m_lifelike_Right x=some true) (hb:x.Birth.length < 1099511627776) (hv:x.Survive.length < 1099511627776) {o e:Nat} (he:e < n) (ho:o < x.Hood.length) :
  m_generations_Next x (e:Int) (o:Int)=some (Eo x o e):=by
 unfold m_generations_Next Eo
 rw[hR,contains_is hb,contains_is hv,show ltB (e:Int) 0=false from decide_eq_false (by omega),show geB (e:Int) x.States=false from decide_eq_false (by omega),show ltB (o:Int) 0=false from decide_eq_false (by omega),
  show geB (o:Int) (aO x.Hood)=false from decide_eq_false (by unfold aO; omega)]
 simp only[some_bind,ba,Bool.not_true,cond_false]
 by_cases h0:e=0
 ·subst h0
  rw[show eqB ((0:Nat):Int) 0=true from rfl,show eqB ((0:Nat):Int) 1=false from rfl]
  by_cases hm:(o:Int)∈x.Birth
  ·simp[hm]
  ·simp[hm]
 ·rw[show eqB (e:Int) 0=false from by simp[eqB]; omega]
  have hrem:irem (bq .i64 (e:Int) 1) x.States=some (((e:Int)+1) % x.States):=by
   rw[iadd_in (by omega),hn]
   unfold irem
   rw[if_neg (by omega)]
   rfl
  by_cases h1:e=1
  ·subst h1
   rw[show eqB ((1:Nat):Int) 1=true from rfl]
   by_cases hm:(o:Int)∈x.Survive
   ·simp[hm]
   ·simp only[hm,decide_false,cond_false,cond_true,some_bind,hrem]
    simp
  ·rw[show eqB (e:Int) 1=false from by simp[eqB]; omega]
   simp only[cond_false,some_bind,hrem]
   simp[h0,h1]
section
variable {in_:List Int} {H:List Point} {S:Int} {B V:List Int} {y:Int×Int} {l:List Nat} {c v:Nat}
theorem count_loop (hin:in_=l.map fun s:Nat=>(s:Int)) (hlen:l.length=H.length) (h40:H.length < 1000) (hc:H[c]?=some ⟨0,0⟩) (hu:∀ j,H[j]?=some ⟨0,0⟩->j=c) (hv:l[c]?=some v) :
  ∃ o:Nat,o+(if v=1 then 1 else 0)=l.count 1/\aT (b_L16_NotationCounts_1 in_ H S B V y) b7 (0,0,0)=some (.inr ((o:Int),(v:Int))):=by
 obtain⟨r,hr,o,ho,rfl⟩:=loop_iv (b:=b_L16_NotationCounts_1 in_ H S B V y) (n:=H.length) (s:=(0,0,0)) (fun i st=>∃ o:Nat,o+(if c < i/\v=1 then 1 else 0)=(l.take i).count 1/\st=((o:Int),(if c < i then (v:Int) else 0),(i:Int)))
  (fun r=>∃ o:Nat,o+(if v=1 then 1 else 0)=l.count 1/\r=.inr ((o:Int),(v:Int))) (by omega) ⟨0,by simp,by simp⟩
  (fun i st hi ⟨o,ho,e⟩=>by
   subst e
   have hx:l[i]?=some l[i]:=List.getElem?_eq_getElem (by omega)
   generalize l[i]=s at hx
   have hp:H[i]?=some H[i]:=List.getElem?_eq_getElem hi
   generalize H[i]=p at hp
   have htk:(l.take (i+1)).count 1=(l.take i).count 1+(if s=1 then 1 else 0):=by
    rw[List.take_add_one,hx,List.count_append]
    simp[List.count_cons]
   have hgi:idx in_ (i:Int)=some (s:Int):=by rw[idx_nat,hin,List.getElem?_map,hx]; rfl
   have hlt:geB (i:Int) (aO in_)=false:=decide_eq_false (by unfold aO; rw[hin,List.length_map]; omega)
   by_cases hpc:i=c
   ·subst hpc
    rw[hc] at hp
    cases hp
    rw[hv] at hx
    cases hx
    rw[if_neg (by omega)] at ho
    refine .inl ⟨((o:Int),(v:Int),((i+1:Nat):Int)),?_,o,?_,by rw[if_pos (by omega)]⟩
    ·unfold b_L16_NotationCounts_1
     dsimp only
     rw[show ltB (i:Int) (aO H)=true from decide_eq_true (by unfold aO; omega),cond_true,hlt,cond_false,idx_nat,hc,up_nat (by omega)]
     simp only[some_bind]
     rw[show gP (eqB 0 0) (gP (eqB 0 0) true)=true from rfl,cond_true,hgi]
     rfl
    ·rw[htk]
     by_cases h1:v=1
     ·rw[if_pos ⟨by omega,h1⟩,if_pos h1]; omega
     ·rw[if_neg (by omega),if_neg h1]; omega
   ·have hne:gP (eqB p.X 0) (gP (eqB p.Y 0) true)=false:=by
     cases hq:gP (eqB p.X 0) (gP (eqB p.Y 0) true) with
     | false=>rfl
     | true =>
      have:p=⟨0,0⟩:=by
       cases p
       simp[gP,eqB] at hq
       simp[hq]
      rw[this] at hp
      exact absurd (hu i hp) hpc
    have hlt':(c < i+1)=(c < i):=propext (by omega)
    refine .inl ⟨(((o+(if s=1 then 1 else 0):Nat):Int),(if c < i then (v:Int) else 0),((i+1:Nat):Int)),?_,o+(if s=1 then 1 else 0),?_,by simp only[hlt']⟩
    ·unfold b_L16_NotationCounts_1
     dsimp only
     rw[show ltB (i:Int) (aO H)=true from decide_eq_true (by unfold aO; omega),cond_true,hlt,cond_false,idx_nat,hp,up_nat (by omega)]
     simp only[some_bind]
     rw[hne,cond_false,hgi]
     simp only[some_bind]
     have hcl:(l.take i).count 1<=i:=Nat.le_trans List.count_le_length (by rw[List.length_take]; omega)
     have ho':o<=i:=by split at ho<;>omega
     by_cases h1:s=1
     ·subst h1
      rw[show eqB ((1:Nat):Int) 1=true from rfl,cond_true,up_nat (by omega),if_pos rfl]
     ·rw[show eqB (s:Int) 1=false from by simp[eqB]; omega,cond_false,if_neg h1]
      rfl
    ·rw[htk,<- ho]
     simp only[hlt']
     omega)
  (fun st ⟨o,ho,e⟩=>by
   subst e
   have hcl:=(List.getElem?_eq_some_iff.1 hc).1
   rw[List.take_of_length_le (by omega)] at ho
   refine⟨.inr ((o:Int),(v:Int)),?_,o,by rw[<- ho]; simp[hcl],rfl⟩
   rw[if_pos hcl]
   unfold b_L16_NotationCounts_1
   dsimp only
   rw[show ltB ((H.length:Nat):Int) (aO H)=false from decide_eq_false (by unfold aO; omega)]
   rfl)
 exact⟨o,ho,hr⟩
end
theorem counts_rule {x:Ar} {in_:List Int} {y2:Tree×Int} (hR:Rd (x,0)) (ht:m_totaltree_Totals x=some y2) (h40:in_.length<=40) :
  y2.2=0/\eqB (aO x.Hood) 0=false/\(∃ l,m_notation_Syms y2.1=some l/\m_hood_Syms x.Hood=some l/\m_L12_Ints l l=some true) /\
  ∃ e,m_tree_Eval y2.1 in_=some e/\(neB e.2 0=true->e.2=2 \/ e.2=10)/\(neB e.2 0=false->∃ o v:Nat,aT (b_L16_NotationCounts_1 in_ x.Hood x.States x.Birth x.Survive e) b7 (0,0,0)=some (.inr ((o:Int),(v:Int)))/\m_generations_Next x (v:Int) (o:Int)=some e.1):=by
 rcases hR with h | h | ⟨_,hh,hr,hb,hv⟩
 ·cases h
 ·cases h
 dsimp only at hh hr hb hv
 obtain⟨t',n,c,L,h1,hn,hts,hth,hc,hL,T,hcnt,hinv⟩:=counts_syms hh hr hb hv
 rw[ht] at h1
 cases h1
 have hn2:=T.tok.n2
 have hn8:=T.tok.n8
 have h25:=T.tok.h25
 have hsL:=syms_is T hcnt (fH x.Hood) (fun k _=>hinv k)
 refine⟨rfl,decide_eq_false (by unfold aO; omega),⟨_,hsL,hsyms_is hh,ints12_same _ (by have:=selL_len (fH x.Hood) 8; omega)⟩,?_⟩
 unfold m_tree_Eval
 rw[tree_eq (sz_of T.tok),T.ok]
 simp only[some_bind,ba,Bool.not_true,cond_false]
 cases hne:neB (aO in_) (aO t'.Hood) with
 | true=>exact⟨_,rfl,fun _=>.inl rfl,fun h=>by cases h⟩
 | false =>
  simp only[cond_false]
  obtain⟨b,hb1,hb2⟩:=states_is (t:=t') (l:=in_) (by omega)
  rw[hb1]
  cases b with
  | true=>exact⟨_,rfl,fun _=>.inr rfl,fun h=>by cases h⟩
  | false =>
   have hst:=hb2 rfl
   have hlen:in_.length=t'.Hood.length:=by
    have:aO in_=aO t'.Hood:=by simpa [neB] using hne
    unfold aO at this
    omega
   obtain⟨l,hl⟩:∃ l:List Nat,in_=l.map fun s:Nat=>(s:Int):=⟨in_.map Int.toNat,by
    rw[List.map_map]
    conv=>lhs; rw[<- List.map_id in_]
    exact List.map_congr_left fun s hs=>by have:=hst s hs; simp; omega⟩
   have hll:l.length=t'.Hood.length:=by rw[<- hlen,hl,List.length_map]
   have hsts:Sts n (L+1) l:=⟨by rw[hll,T.hL],fun s hs=>by
    have:=hst (s:Int) (by rw[hl]; exact List.mem_map.2 ⟨s,hs,rfl⟩)
    rw[T.tok.st] at this
    omega⟩
   obtain⟨i,hi,hrep⟩:=T.rep
   have hclt:c < l.length:=by rw[hll,hth]; exact (List.getElem?_eq_some_iff.1 hc).1
   obtain⟨v,hv'⟩:∃ v,l[c]?=some v:=⟨_,List.getElem?_eq_getElem hclt⟩
   have hnd:=sorted_nodup (hood_sorted (tok_hood T.ok))
   rw[hth] at hnd
   obtain⟨o,ho,hloop⟩:=count_loop (in_:=in_) (H:=x.Hood) (S:=x.States) (B:=x.Birth) (V:=x.Survive) (y:=(Eo x (cO c 0 0 l) v,0)) hl (by rw[hll,hth]) (by rw[<- hth]; omega) hc (fun j hj=>by
    exact (List.getElem?_inj (List.getElem?_eq_some_iff.1 hj).1 hnd).1 (hj.trans hc.symm)) hv'
   obtain⟨q1,q2⟩:=cO_at (c:=c) (at_:=0) (o:=0) (e:=0) (l:=l) (v:=v) (Nat.zero_le _) (by simpa using hv')
   have hoo:cO c 0 0 l=o:=by omega
   have hval:m_tree_value t' in_=some (Eo x o v):=by
    rw[value_eq (by omega),hl,show aO t'.Nodes=((i+1:Nat):Int) by unfold aO; omega,dn_nat (by have:=T.tok.nodes; omega),walk_ev hrep T.reg hsts,ev_cD _ _ _ _ _ hsts,q2,hoo]
   rw[hval]
   refine⟨_,rfl,fun h=>(by cases h),fun _=>⟨o,v,by rw[<- hoo] at hloop ⊢; exact hloop,?_⟩⟩
   refine next_is hn hn2 hn8 hr (by omega) (by omega) (hsts.2 v (List.mem_of_getElem? hv')) ?_
   have hcl:l.count 1<=l.length:=List.count_le_length
   rw[hth] at hll
   by_cases h1:v=1
   ·rw[if_pos h1] at ho; omega
   ·rw[if_neg h1] at ho
    have:l.count 1≠l.length:=fun he=>h1 (List.count_eq_length.1 he v (List.mem_of_getElem? hv')).symm
    omega
theorem counts_true (s:List UInt8) (in_:List Int) (hs:s.length<=4000000000):m_L16_NotationCounts s in_=some true:=by
 obtain⟨k,hk,hc⟩:=kind_tot hs
 unfold m_L16_NotationCounts
 rw[hk,awake16]
 simp only[some_bind]
 cases h1:gtB (bu s) 40 with
 | true=>rfl
 | false =>
  cases h2:gtB (aO in_) 40 with
  | true=>rfl
  | false =>
   have h40:in_.length<=40:=by have:=of_decide_eq_false h2; unfold aO at this; omega
   obtain⟨a,ha,ra⟩:=llParse_tot hs
   have key:∀ (r:Ar×Int),Rd r->r.2≠15->m_notation_Parse s=(bif neB r.2 0 then some ((⟨0,[],[]⟩:Tree),r.2) else (m_totaltree_Totals r.1).bind fun y2=>some (y2.1,y2.2)) ->
     ((m_notation_Parse s).bind fun y2 =>
      ((bif (neB r.2 0) then
       some true
      else
       some (neB y2.2 0))).bind fun a1 =>
      (bif a1 then
       ((bif (eqB r.2 y2.2) then
        some true
       else
        some false)).bind fun a2 =>
       some a2
      else
       ((bif (eqB (aO r.1.Hood) 0) then
        some true
       else
        (m_notation_Syms y2.1).bind fun y3 =>
        (m_hood_Syms r.1.Hood).bind fun y4 =>
        (m_L12_Ints y3 y4).bind fun y5 =>
        some (ba y5))).bind fun a2 =>
       (bif a2 then
        some false
       else
        (m_tree_Eval y2.1 in_).bind fun y3 =>
        (bif (neB y3.2 0) then
         ((bif (eqB y3.2 2) then
          some true
         else
          (bif (eqB y3.2 10) then
           some true
          else
           some false))).bind fun a3 =>
         some a3
        else
         (aT (b_L16_NotationCounts_1 in_ r.1.Hood r.1.States r.1.Birth r.1.Survive y3) b7 (0,0,0)).bind fun o=>match o with
          | .inl r =>
           some r
          | .inr (count,state) =>
           ((m_generations_Next (⟨r.1.Hood,r.1.States,r.1.Birth,r.1.Survive⟩:Ar) state count).bind fun y4 =>
           (bif (eqB y3.1 y4) then
            some true
           else
            some false)).bind fun a3 =>
           some a3))))=some true:=fun r hr h15 hp=>by
    obtain⟨x,e⟩:=r
    have he:e=5 \/ e=0:=by
     rcases hr with h | h | ⟨h,_⟩
     ·exact absurd h h15
     ·exact .inl h
     ·exact .inr h
    rw[hp]
    rcases he with rfl | rfl
    ·rfl
    ·have hr':=hr
     rcases hr' with h | h | ⟨_,hh,hR,hb,hv⟩
     ·cases h
     ·cases h
     obtain⟨t,n,c,L,ht,_⟩:=counts_syms hh hR hb hv
     obtain⟨g1,g2,⟨l,g3,g4,g5⟩,e,g6,g7,g8⟩:=counts_rule (y2:=(t,0)) hr ht h40
     dsimp only
     rw[show neB (0:Int) 0=false from rfl,cond_false,ht]
     simp only[some_bind,cond_false]
     rw[show neB (0:Int) 0=false from rfl,cond_false,g2,cond_false,g3,g4]
     simp only[some_bind]
     rw[g5]
     simp only[some_bind,ba,Bool.not_true,cond_false]
     rw[g6]
     simp only[some_bind]
     cases hn:neB e.2 0 with
     | true =>
      rcases g7 hn with h | h
      ·rw[h]; rfl
      ·rw[h]; rfl
     | false =>
      obtain⟨o,v,k1,k2⟩:=g8 hn
      simp only[cond_false]
      rw[k1]
      simp only[some_bind]
      rw[show (⟨x.Hood,x.States,x.Birth,x.Survive⟩:Ar)=x from rfl,k2]
      simp only[some_bind]
      rw[show eqB e.1 e.1=true from by simp[eqB]]
      rfl
   rcases hc with ⟨rfl,r,hr,hRd,h15⟩ | ⟨rfl,r,hr,hRd,h15⟩ | ⟨h1',h2'⟩
   ·rw[ha] at hr
    cases hr
    have hp:m_notation_Parse s=(bif neB a.2 0 then some ((⟨0,[],[]⟩:Tree),a.2) else (m_totaltree_Totals a.1).bind fun y2=>some (y2.1,y2.2)):=by
     unfold m_notation_Parse
     rw[hk,ha]
     rfl
    have:=key a hRd h15 hp
    rw[ha]
    exact this
   ·have hp:m_notation_Parse s=(bif neB r.2 0 then some ((⟨0,[],[]⟩:Tree),r.2) else (m_totaltree_Totals r.1).bind fun y2=>some (y2.1,y2.2)):=by
     unfold m_notation_Parse
     rw[hk,hr]
     rfl
    have:=key r hRd h15 hp
    rw[ha,hr]
    exact this
   ·simp only[cond_false]
    rw[show neB k 1=true from by simp[neB,h1'],show neB k 2=true from by simp[neB,h2']]
    rfl
end Go.Proofs.YtlifofijgddjkabGreatDoor
