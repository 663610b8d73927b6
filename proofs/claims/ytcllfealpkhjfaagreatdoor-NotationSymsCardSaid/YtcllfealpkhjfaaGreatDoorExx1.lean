/- Plain laws: a thing with a position fixed; the thing of some positions, in their own order. -/
import Derived.Test.YtcllfealpkhjfaaGreatDoorSwx3
namespace Go.Proofs.YtcllfealpkhjfaaGreatDoor
open Go.AM Go.Proofs
theorem fixD_same {M s L:Nat} {u:DD (L+1)} (h:L+1=M):(fixD M s (L+1) u).kids=List.replicate u.kids.length ((u.kids.map (fixD M s L)).getD s (DD.dflt L)):=by
 unfold fixD
 rw[if_pos h]
 rfl
theorem fixD_else {M s L:Nat} {u:DD (L+1)} (h:L+1≠M):(fixD M s (L+1) u).kids=u.kids.map (fixD M s L):=by
 rw[fixD]
 rw[if_neg h]
 rfl
theorem fixD_low {M s:Nat}:∀ {L:Nat} {u:DD L},L < M->fixD M s L u=u
 | 0,_,_=>rfl
 | L+1,u,h=>by
  unfold fixD
  rw[if_neg (by omega)]
  apply DD.ext
  rw[DD.kids_of]
  exact (List.map_congr_left fun d _=>fixD_low (by omega)).trans (List.map_id' _)
theorem fixD_reg {n M s:Nat} (hs:s < n):∀ {L:Nat} {u:DD L},Reg n L u->Reg n L (fixD M s L u)
 | 0,_,h=>h
 | L+1,u,h=>by
  unfold fixD
  split
  ·refine⟨by rw[DD.kids_of,List.length_replicate]; exact h.1,fun d hd=>?_⟩
   rw[DD.kids_of] at hd
   obtain rfl:=List.eq_of_mem_replicate hd
   rw[map_getD (fixD M s L) u.kids (by rw[h.1]; exact hs) (DD.dflt L)]
   exact fixD_reg hs (reg_kid h hs).2
  ·refine⟨by rw[DD.kids_of,List.length_map]; exact h.1,fun d hd=>?_⟩
   rw[DD.kids_of] at hd
   obtain⟨d',hd',rfl⟩:=List.mem_map.1 hd
   exact fixD_reg hs (h.2 d' hd')
theorem rep_getD {α:Type} {y d:α} {m x:Nat} (h:x < m):(List.replicate m y).getD x d=y:=by
 rw[List.getD_eq_getElem?_getD,List.getElem?_replicate,if_pos h]
 rfl
theorem ev_fix {n M s:Nat} (hs:s < n) (hM:1<=M):∀ {L:Nat} {u:DD L} {l:List Nat},Reg n L u->M<=L->Sts n L l->evD L (fixD M s L u) l=evD L u (l.set (L - M) s)
 | 0,_,_,_,h,_=>absurd h (by omega)
 | L+1,u,[],_,_,hl=>by
  have:=hl.1
  simp at this
 | L+1,u,x::l,h,hML,hl=>by
  have hx:=hl.cons
  have hxl:x < u.kids.length:=by rw[h.1]; exact hx.1
  by_cases hE:L+1=M
  ·have e:(fixD M s (L+1) u).kids.getD x (DD.dflt L)=u.kids.getD s (DD.dflt L):=by
    rw[fixD_same hE,rep_getD hxl,map_getD (fixD M s L) u.kids (by rw[h.1]; exact hs) (DD.dflt L),fixD_low (by omega)]
   show evD L ((fixD M s (L+1) u).kids.getD x (DD.dflt L)) l=_
   rw[e,show L+1 - M=0 by omega]
   rfl
  ·have e:(fixD M s (L+1) u).kids.getD x (DD.dflt L)=fixD M s L (u.kids.getD x (DD.dflt L)):=by
    rw[fixD_else hE,map_getD (fixD M s L) u.kids hxl (DD.dflt L)]
   show evD L ((fixD M s (L+1) u).kids.getD x (DD.dflt L)) l=_
   rw[e,ev_fix hs hM (reg_kid h hx.1).2 (by omega) hx.2,show L+1 - M=(L - M)+1 by omega]
   rfl
def tg (n L:Nat):(m:Nat)->List Nat->DD (L+1)->DD m
 | 0,_,u=>(evD (L+1) u (List.replicate (L+1) 0):Int)
 | m+1,o,u=>DD.of ((List.range n).map fun s=>tg n L m o.tail (fixD (L+1 - o.headD 0) s (L+1) u))
theorem tg_kids {n L m:Nat} {o:List Nat} {u:DD (L+1)}:(tg n L (m+1) o u).kids=(List.range n).map fun s=>tg n L m o.tail (fixD (L+1 - o.headD 0) s (L+1) u):=rfl
theorem zeros_sts {n m:Nat} (hn:1<=n):Sts n m (List.replicate m 0):=⟨List.length_replicate,fun s hs=>by
 obtain rfl:=List.eq_of_mem_replicate hs
 exact hn⟩
theorem tg_reg {n L:Nat} (hn:1<=n):∀ (m:Nat) (o:List Nat) (u:DD (L+1)),Reg n (L+1) u->Reg n m (tg n L m o u)
 | 0,_,_,h=>evD_in hn h (zeros_sts hn)
 | m+1,o,u,h=>⟨by unfold tg; rw[DD.kids_of,List.length_map,List.length_range],fun d hd=>by
  unfold tg at hd
  rw[DD.kids_of] at hd
  obtain⟨s,hs,rfl⟩:=List.mem_map.1 hd
  exact tg_reg hn m o.tail _ (fixD_reg (List.mem_range.1 hs) h)⟩
def place:List Nat->List Nat->List Nat->List Nat
 | k::o,s::l,b=>(place o l b).set k s
 | _,_,b=>b
theorem place_len:∀ (o l b:List Nat),(place o l b).length=b.length
 | k::o,s::l,b=>by rw[place,List.length_set,place_len o l b]
 | [],_,_=>by rw[place]; intros; contradiction
 | _::_,[],_=>by rw[place]; intros; contradiction
theorem place_sts {n L:Nat}:∀ {o l b:List Nat},Sts n L b->(∀ s∈l,s < n)->Sts n L (place o l b)
 | k::o,s::l,b,hb,hl=>by
  rw[place]
  have h:=place_sts (o:=o) (l:=l) hb fun x hx=>hl x (by simp[hx])
  refine⟨by rw[List.length_set]; exact h.1,fun x hx=>?_⟩
  rcases List.mem_or_eq_of_mem_set hx with hx | rfl
  ·exact h.2 x hx
  ·exact hl x (by simp)
 | [],_,_,hb,_=>by rw[place]; exact hb; intros; contradiction
 | _::_,[],_,hb,_=>by rw[place]; exact hb; intros; contradiction
theorem tg_ev {n L:Nat} (hn:1<=n):∀ (o:List Nat) (u:DD (L+1)) (l:List Nat),Reg n (L+1) u->(∀ k∈o,k < L+1)->Sts n o.length l->evD o.length (tg n L o.length o u) l=evD (L+1) u (place o l (List.replicate (L+1) 0))
 | [],u,l,_,_,hl=>by
  obtain rfl:l=[]:=List.eq_nil_of_length_eq_zero hl.1
  rfl
 | k::o,u,[],_,_,hl=>by
  have:=hl.1
  simp at this
 | k::o,u,s::l,h,ho,hl=>by
  have hs:=hl.cons
  have e:(tg n L (o.length+1) (k::o) u).kids.getD s (DD.dflt o.length)=tg n L o.length o (fixD (L+1 - k) s (L+1) u):=by
   rw[tg_kids,map_getD (fun s=>tg n L o.length (k::o).tail (fixD (L+1 - (k::o).headD 0) s (L+1) u)) (List.range n) (by rw[List.length_range]; exact hs.1) 0]
   have:(List.range n).getD s 0=s:=by
    rw[List.getD_eq_getElem?_getD,List.getElem?_range hs.1]
    rfl
   rw[this]
   rfl
  show evD o.length ((tg n L (o.length+1) (k::o) u).kids.getD s (DD.dflt o.length)) l=_
  have hk:=ho k (by simp)
  rw[e,tg_ev hn o _ l (fixD_reg hs.1 h) (fun x hx=>ho x (by simp[hx])) hs.2,ev_fix hs.1 (by omega) h (by omega) (place_sts (zeros_sts hn) hs.2.2),show L+1 - (L+1 - k)=k by omega]
  rfl
theorem place_get:∀ (o:List Nat) (f:Nat->Nat) (b:List Nat) (j:Nat),(place o (o.map f) b)[j]?=if j∈o/\j < b.length then some (f j) else b[j]?
 | [],f,b,j=>by simp[place]
 | k::o,f,b,j=>by
  rw[List.map_cons,place,List.getElem?_set,place_len,place_get o f b j]
  by_cases hkj:k=j
  ·subst hkj
   by_cases hb:k < b.length
   ·simp[hb]
   ·simp[hb]
  ·have:j≠k:=fun e=>hkj e.symm
   simp[hkj,this]
theorem place_all {m:Nat} {o:List Nat} {f:Nat->Nat} {b:List Nat} (hb:b.length=m) (ho:∀ j,j < m->j∈o):place o (o.map f) b=(List.range m).map f:=by
 apply List.ext_getElem?
 intro j
 rw[place_get]
 rcases Nat.lt_or_ge j m with h | h
 ·rw[if_pos ⟨ho j h,by omega⟩,List.getElem?_map,List.getElem?_range h]
  rfl
 ·rw[if_neg (fun e=>by omega),List.getElem?_eq_none (by omega),List.getElem?_eq_none (by simpa using h)]
end Go.Proofs.YtcllfealpkhjfaaGreatDoor
namespace Go.Proofs.YtcllfealpkhjfaaGreatDoor
open Go.AM Go.Proofs
theorem sameR_eq {a b:Tree} (hh:a.Hood.length < 1099511627776) (hn:a.Nodes.length < 1099511627776) (hx:∀ x∈a.Nodes,x.Next.length < 1099511627776):m_R12_Same a b=some (decide (a=b)):=by
 have hsplit:decide (a=b)=(decide (a.States=b.States) && (decide (a.Hood=b.Hood) && decide (a.Nodes=b.Nodes))):=by
  cases a
  cases b
  simp only[Tree.mk.injEq,Bool.decide_and]
 unfold m_R12_Same
 by_cases h1:a.States=b.States
 ·by_cases h2:a.Hood.length=b.Hood.length
  ·by_cases h3:a.Nodes.length=b.Nodes.length
   ·rw[show neB a.States b.States=false from by simp[neB,h1],show neB (aT a.Hood) (aT b.Hood)=false from by simp[neB,aT,h2],show neB (aT a.Nodes) (aT b.Nodes)=false from by simp[neB,aT,h3]]
    simp only[cond_false,some_bind]
    rw[eq_loop a.Hood b.Hood h2 hh (fun i x y hxi hy=>by
     unfold b_R12_Same_1
     dsimp only
     rw[ltB_nat,decide_eq_true (List.getElem?_eq_some_iff.1 hxi).1,cond_true,idx_nat,hxi,idx_nat,hy,up_nat (by have:=(List.getElem?_eq_some_iff.1 hxi).1; omega)]
     simp only[some_bind]
     have:bB (gK (eqB x.X y.X) (gK (eqB x.Y y.Y) true))=!decide (x=y):=by
      cases x
      cases y
      simp only[bB,gK,eqB,Point.mk.injEq,Bool.and_true,Bool.decide_and]
      rfl
     rw[this]
     cases decide (x=y)<;>rfl) (by
     unfold b_R12_Same_1
     dsimp only
     rw[ltB_nat,decide_eq_false (Nat.lt_irrefl _)]
     rfl)]
    rw[hsplit,decide_eq_true h1,Bool.true_and]
    cases decide (a.Hood=b.Hood) with
    | false=>rfl
    | true =>
     simp only[cond_true,some_bind]
     rw[eq_loop a.Nodes b.Nodes h3 hn (fun i x y hxi hy=>by
      unfold b_R12_Same_2
      dsimp only
      rw[ltB_nat,decide_eq_true (List.getElem?_eq_some_iff.1 hxi).1,cond_true,idx_nat,hxi,idx_nat,hy,up_nat (by have:=(List.getElem?_eq_some_iff.1 hxi).1; omega)]
      simp only[some_bind]
      have hd:decide (x=y)=(decide (x.Level=y.Level) && decide (x.Next=y.Next)):=by
       cases x
       cases y
       simp only[Node.mk.injEq,Bool.decide_and]
      by_cases g1:x.Level=y.Level
      ·by_cases g2:x.Next.length=y.Next.length
       ·rw[show neB x.Level y.Level=false from by simp[neB,g1],show neB (aT x.Next) (aT y.Next)=false from by simp[neB,aT,g2]]
        simp only[cond_false,some_bind]
        rw[eq_loop x.Next y.Next g2 (hx x (List.mem_of_getElem? hxi)) (fun j p q hp hq=>by
         unfold b_R12_Same_3
         dsimp only
         rw[ltB_nat,decide_eq_true (List.getElem?_eq_some_iff.1 hp).1,cond_true,idx_nat,hp,idx_nat,hq,up_nat (by have:=(List.getElem?_eq_some_iff.1 hp).1; have:=hx x (List.mem_of_getElem? hxi); omega)]
         simp only[some_bind]
         rw[show neB p q=!decide (p=q) from by
          by_cases h:p=q
          ·subst h; simp[neB]
          ·simp[neB,h]]
         cases decide (p=q)<;>rfl) (by
         unfold b_R12_Same_3
         dsimp only
         rw[ltB_nat,decide_eq_false (Nat.lt_irrefl _)]
         rfl),hd,decide_eq_true g1,Bool.true_and]
        cases decide (x.Next=y.Next)<;>rfl
       ·rw[show neB x.Level y.Level=false from by simp[neB,g1],show neB (aT x.Next) (aT y.Next)=true from by simp[neB,aT]; omega,decide_eq_false fun e=>g2 (by rw[e])]
        rfl
      ·rw[show neB x.Level y.Level=true from by simp[neB,g1],decide_eq_false fun e=>g1 (by rw[e])]
       rfl) (by
      unfold b_R12_Same_2
      dsimp only
      rw[ltB_nat,decide_eq_false (Nat.lt_irrefl _)]
      rfl)]
     cases decide (a.Nodes=b.Nodes)<;>rfl
   ·rw[show neB (aT a.Nodes) (aT b.Nodes)=true from by simp[neB,aT]; omega,decide_eq_false fun e=>h3 (by rw[e])]
    cases neB a.States b.States<;>cases neB (aT a.Hood) (aT b.Hood)<;>rfl
  ·rw[show neB (aT a.Hood) (aT b.Hood)=true from by simp[neB,aT]; omega,decide_eq_false fun e=>h2 (by rw[e])]
   cases neB a.States b.States<;>rfl
 ·rw[show neB a.States b.States=true from by simp[neB,h1],decide_eq_false fun e=>h1 (by rw[e])]
  rfl
section
variable {n n' L L':Nat} {t t':Tree} {u:DD (L+1)} {u':DD (L'+1)}
theorem TD.reduceR (T:TD n L t u):m_R13_Reduce t=some ⟨t.States,t.Hood,ser (post (L+1) u [])⟩:=by
 obtain⟨i,hi,hr⟩:=T.rep
 exact (reduce_is T.ok T.tok hi T.hL hr).2
theorem equalR_is (T:TD n L t u) (T':TD n' L' t' u'):m_R13_Equal t t'=some (decide (t.States=t'.States) && (decide (t.Hood=t'.Hood) && decide (ser (post (L+1) u [])=ser (post (L'+1) u' [])))):=by
 have h25:=T.tok.h25
 have hpo:=post_tree T.reg
 have hln:=red_len T
 have hn4:=T.tok.nodes
 have hn8:=T.tok.n8
 unfold m_R13_Equal
 rw[treeR_eq (sz_of T.tok),T.ok,treeR_eq (sz_of T'.tok),T'.ok,T.reduceR,T'.reduceR]
 simp only[some_bind,cond_true]
 rw[sameR_eq (by show t.Hood.length < _; omega) (by show (ser (post (L+1) u [])).length < _; omega) (fun x hx=>by
  obtain⟨i,hi⟩:=List.mem_iff_getElem?.1 hx
  have:=hpo.good.len i x hi
  omega)]
 simp only[some_bind,Tree.mk.injEq,Bool.decide_and]
end
end Go.Proofs.YtcllfealpkhjfaaGreatDoor
namespace Go.Proofs.YtcllfealpkhjfaaGreatDoor
open Go.AM Go.Proofs
theorem applyR_eq {p:Point} (hp:SmP p):∀ {k:Nat},k < 8->m_R04_Apply (k:Int) p=some (apK k p)
 | 0,_=>(show m_R04_Apply ((0:Nat):Int) p=some (⟨p.X,p.Y⟩:Point) from rfl)
 | 1,_=>(show m_R04_Apply ((1:Nat):Int) p=some (⟨da .i64 p.Y,p.X⟩:Point) from rfl).trans (by
  obtain⟨_,_,_⟩:=hp
  simp only[apK,da,IntKind.wrap_i64]; congr 2<;>omega)
 | 2,_=>(show m_R04_Apply ((2:Nat):Int) p=some (⟨da .i64 p.X,da .i64 p.Y⟩:Point) from rfl).trans (by
  obtain⟨⟨_,_⟩,_,_⟩:=hp
  simp only[apK,da,IntKind.wrap_i64]; congr 2<;>omega)
 | 3,_=>(show m_R04_Apply ((3:Nat):Int) p=some (⟨da .i64 (da .i64 p.Y),da .i64 p.X⟩:Point) from rfl).trans (by
  obtain⟨⟨_,_⟩,_,_⟩:=hp
  simp only[apK,da,IntKind.wrap_i64]; congr 2<;>omega)
 | 4,_=>(show m_R04_Apply ((4:Nat):Int) p=some (⟨da .i64 p.X,p.Y⟩:Point) from rfl).trans (by
  obtain⟨⟨_,_⟩,_,_⟩:=hp
  simp only[apK,da,IntKind.wrap_i64]; congr 2<;>omega)
 | 5,_=>(show m_R04_Apply ((5:Nat):Int) p=some (⟨da .i64 p.Y,da .i64 p.X⟩:Point) from rfl).trans (by
  obtain⟨⟨_,_⟩,_,_⟩:=hp
  simp only[apK,da,IntKind.wrap_i64]; congr 2<;>omega)
 | 6,_=>(show m_R04_Apply ((6:Nat):Int) p=some (⟨da .i64 (da .i64 p.X),da .i64 p.Y⟩:Point) from rfl).trans (by
  obtain⟨⟨_,_⟩,_,_⟩:=hp
  simp only[apK,da,IntKind.wrap_i64]; congr 2<;>omega)
 | 7,_=>(show m_R04_Apply ((7:Nat):Int) p=some (⟨da .i64 (da .i64 p.Y),da .i64 (da .i64 p.X)⟩:Point) from rfl).trans (by
  obtain⟨⟨_,_⟩,_,_⟩:=hp
  simp only[apK,da,IntKind.wrap_i64]; congr 2<;>omega)
 | _+8,h=>absurd h (by omega)
theorem compR (a b:Point):∃ c,m_R03_Compare a b=some c/\ltB c 0=befP a b/\(a≠b->neB c 0=true):=by
 have e:m_R03_Compare a b=some (bif befP a b then -1 else bif decide (a=b) then 0 else 1):=by
  cases a
  cases b
  simp only[m_R03_Compare,befP,ltB,eqB,gK,bif_some,some_bind,bif_some_t,bif_some_f,Point.mk.injEq,Bool.and_true,Bool.decide_and]
  simp only[show ∀ a b:Int,(a == b)=decide (a=b) from fun a b=>by by_cases h:a=b<;>simp[h]]
 refine⟨_,e,?_,fun h=>?_⟩
 ·cases h:befP a b with
  | true=>rfl
  | false=>cases decide (a=b)<;>rfl
 ·rw[decide_eq_false h]
  cases befP a b<;>rfl
theorem app16 {l:List Point} (hl:l.length<=1000) (x:Point):appL 16 l [x]=some (l++[x]):=if_pos ⟨by decide,by simp only[List.length_singleton]; omega⟩
theorem app8 {l:List Int} (hl:l.length<=1000) (x:Int):appL 8 l [x]=some (l++[x]):=if_pos ⟨by decide,by simp only[List.length_singleton]; omega⟩
structure Spl (out:List Point) (x:Point) (pre suf:List Point):Prop where
 eq:out=pre++suf
 lo:∀ y∈pre,befP y x=true
 hi:∀ y,suf.head?=some y->befP y x=false
theorem sort2 {l:List Point} {i:Int} {out:List Point} {x:Point} (hx:idx l i=some x) (ho:out.length<=900):∃ pre suf,aY (b_R03_Sort_2 l i out) ba (0,[])=some ((pre.length:Int),pre)/\Spl out x pre suf:=by
 obtain⟨t,ht,pre,suf,rfl,hS⟩:=loop_iv (b:=b_R03_Sort_2 l i out) (n:=out.length) (s:=(0,[])) (fun k st=>st=((k:Int),out.take k)/\∀ y∈out.take k,befP y x=true) (fun t=>∃ pre suf,t=((pre.length:Int),pre)/\Spl out x pre suf) (by omega)
  ⟨by simp,fun y hy=>by simp at hy⟩
  (fun k st hk ⟨e,h⟩=>by
   subst e
   have hy:out[k]?=some out[k]:=List.getElem?_eq_getElem hk
   have hlen:(out.take k).length=k:=by rw[List.length_take]; omega
   have htake:out.take (k+1)=out.take k++[out[k]]:=by rw[List.take_add_one,hy]; rfl
   generalize out[k]=y at hy htake
   obtain⟨c,c1,c2,_⟩:=compR y x
   unfold b_R03_Sort_2
   dsimp only
   rw[ltB_nat,decide_eq_true hk,cond_true,idx_nat,hy,hx]
   simp only[some_bind,c1,c2]
   cases hb:befP y x with
   | true =>
    rw[cond_true,app16 (by omega),up_nat (by omega)]
    refine .inl ⟨_,rfl,by rw[htake],fun z hz=>?_⟩
    rw[htake] at hz
    rcases List.mem_append.1 hz with hz | hz
    ·exact h z hz
    ·rw[List.mem_singleton.1 hz,hb]
   | false =>
    rw[cond_false]
    refine .inr ⟨_,rfl,out.take k,out.drop k,by rw[hlen],(List.take_append_drop k out).symm,h,fun z hz=>?_⟩
    rw[List.head?_drop,hy] at hz
    cases hz
    exact hb)
  (fun st ⟨e,h⟩=>by
   subst e
   unfold b_R03_Sort_2
   dsimp only
   rw[ltB_nat,decide_eq_false (Nat.lt_irrefl _)]
   simp only[cond_false,some_bind]
   rw[List.take_length] at h ⊢
   exact⟨_,rfl,out,[],rfl,(List.append_nil _).symm,h,fun y hy=>by simp at hy⟩)
 exact⟨pre,suf,ht,hS⟩
theorem sort3 {l:List Point} {i:Int} {out nx pre suf ins:List Point} (he:out=pre++suf) (ho:out.length<=900) (hi:ins.length<=1):aY (b_R03_Sort_3 l i out nx) ba ((pre.length:Int),pre++ins)=some (pre++ins++suf):=by
 have hle:out.length=pre.length+suf.length:=by rw[he,List.length_append]
 obtain⟨t,ht,rfl⟩:=loop_iv (b:=b_R03_Sort_3 l i out nx) (n:=suf.length) (s:=((pre.length:Int),pre++ins)) (fun k st=>st=(((pre.length+k:Nat):Int),pre++ins++suf.take k)) (fun t=>t=pre++ins++suf) (by omega) (by simp)
  (fun k st hk e=>by
   subst e
   have hy:suf[k]?=some suf[k]:=List.getElem?_eq_getElem hk
   have hlen:(suf.take k).length=k:=by rw[List.length_take]; omega
   have htake:suf.take (k+1)=suf.take k++[suf[k]]:=by rw[List.take_add_one,hy]; rfl
   generalize suf[k]=y at hy htake
   unfold b_R03_Sort_3
   dsimp only
   rw[ltB_nat,decide_eq_true (by omega),cond_true,idx_nat,he,List.getElem?_append_right (by omega),show pre.length+k - pre.length=k by omega,hy]
   simp only[some_bind]
   rw[app16 (by rw[List.length_append,List.length_append,hlen]; omega),up_nat (by omega)]
   exact .inl ⟨_,rfl,by rw[htake,List.append_assoc (pre++ins)]; rfl⟩)
  (fun st e=>by
   subst e
   unfold b_R03_Sort_3
   dsimp only
   rw[ltB_nat,decide_eq_false (by omega),cond_false,List.take_length]
   exact⟨_,rfl,rfl⟩)
 exact ht
theorem sort_is {l:List Point} (hnd:l.Nodup) (hl:l.length<=800):∃ s,m_R03_Sort l=some s/\s.Perm l/\s.Pairwise fun a b=>befP a b=true:=by
 unfold m_R03_Sort
 obtain⟨t,ht,h1,h2⟩:=loop_iv (b:=b_R03_Sort_1 l) (n:=l.length) (s:=(0,[])) (fun k st=>∃ out,st=((k:Int),out)/\out.Perm (l.take k)/\out.Pairwise fun a b=>befP a b=true) (fun t=>t.Perm l/\t.Pairwise fun a b=>befP a b=true) (by omega)
  ⟨[],rfl,by simp,List.Pairwise.nil⟩
  (fun k st hk ⟨out,e,hp,hs⟩=>by
   subst e
   have hx:l[k]?=some l[k]:=List.getElem?_eq_getElem hk
   have htake:l.take (k+1)=l.take k++[l[k]]:=by rw[List.take_add_one,hx]; rfl
   have hnot:l[k] ∉ l.take k:=fun hm=>by
    obtain⟨j,hj⟩:=List.mem_iff_getElem?.1 hm
    have hjk:j < k:=by
     have:=(List.getElem?_eq_some_iff.1 hj).1
     rw[List.length_take] at this
     omega
    rw[List.getElem?_take_of_lt hjk,List.getElem?_eq_getElem (by omega)] at hj
    have:=(List.getElem_inj hnd).1 (Option.some.inj hj)
    omega
   generalize l[k]=x at hx htake hnot
   have hlen:=hp.length_eq
   rw[List.length_take] at hlen
   have hxo:x ∉ out:=fun hm=>hnot (hp.subset hm)
   obtain⟨pre,suf,g1,S⟩:=sort2 (l:=l) (i:=(k:Int)) (out:=out) (x:=x) (by rw[idx_nat]; exact hx) (by omega)
   have hol:out.length=pre.length+suf.length:=by rw[S.eq,List.length_append]
   unfold b_R03_Sort_1
   dsimp only
   rw[ltB_nat,decide_eq_true hk,cond_true,g1]
   simp only[some_bind]
   have ha:(bif eqB (pre.length:Int) (aT out) then some true else (idx out (pre.length:Int)).bind fun x_1=>(idx l (k:Int)).bind fun x1=>(m_R03_Compare x_1 x1).bind fun y=>some (neB y 0))=some true:=by
    cases hsuf:suf with
    | nil =>
     rw[hsuf] at hol
     rw[show eqB (pre.length:Int) (aT out)=true from by simp[eqB,aT,hol]]
     rfl
    | cons y suf' =>
     rw[hsuf] at hol
     simp only[List.length_cons] at hol
     rw[show eqB (pre.length:Int) (aT out)=false from by simp[eqB,aT]; omega,cond_false,idx_nat,idx_nat,hx,S.eq,hsuf,List.getElem?_append_right (Nat.le_refl _),Nat.sub_self]
     obtain⟨c,c1,_,c3⟩:=compR y x
     simp only[List.getElem?_cons_zero,some_bind,c1]
     rw[c3 fun e=>hxo (by rw[S.eq,hsuf,<- e]; simp)]
   rw[ha]
   simp only[some_bind,cond_true]
   rw[idx_nat,hx]
   simp only[some_bind]
   rw[app16 (by omega)]
   simp only[some_bind]
   rw[sort3 S.eq (by omega) (by simp),up_nat (by omega)]
   refine .inl ⟨_,rfl,_,rfl,?_,?_⟩
   ·rw[htake]
    have q1:(pre++[x]++suf).Perm ((pre++suf)++[x]):=by
     rw[List.append_assoc,List.append_assoc]
     exact List.Perm.append_left pre List.perm_append_comm
    rw[<- S.eq] at q1
    exact q1.trans (List.Perm.append_right [x] hp)
   ·rw[S.eq] at hs hxo
    obtain⟨a1,a2,a3⟩:=List.pairwise_append.1 hs
    have hsx:∀ y∈suf,befP x y=true:=fun y hy=>by
     cases hsuf:suf with
     | nil=>rw[hsuf] at hy; cases hy
     | cons z suf' =>
      have hz:befP x z=true:=by
       rcases befP_tri x z with h | h | h
       ·exact h
       ·exact absurd (by rw[h,hsuf]; simp) hxo
       ·rw[S.hi z (by rw[hsuf]; rfl)] at h
        cases h
      rw[hsuf] at hy a2
      rcases List.mem_cons.1 hy with rfl | hy
      ·exact hz
      ·exact befP_trans hz ((List.pairwise_cons.1 a2).1 y hy)
    rw[List.append_assoc]
    refine List.pairwise_append.2 ⟨a1,List.pairwise_cons.2 ⟨hsx,a2⟩,fun a ha b hb=>?_⟩
    rcases List.mem_cons.1 hb with rfl | hb
    ·exact S.lo a ha
    ·exact a3 a ha b hb)
  (fun st ⟨out,e,hp,hs⟩=>by
   subst e
   unfold b_R03_Sort_1
   dsimp only
   rw[ltB_nat,decide_eq_false (Nat.lt_irrefl _),cond_false]
   rw[List.take_length] at hp
   exact⟨_,rfl,hp,hs⟩)
 exact⟨t,by rw[ht]; rfl,h1,h2⟩
theorem images_is {k:Nat} (hk:k < 8) {t:Tree} (hl:t.Hood.length<=800) (hp:∀ p∈t.Hood,SmP p):aY (b_R13_Turn_1 (k:Int) t) ba (0,[])=some (t.Hood.map (apK k)):=by
 obtain⟨r,hr,rfl⟩:=loop_iv (b:=b_R13_Turn_1 (k:Int) t) (n:=t.Hood.length) (s:=(0,[])) (fun i st=>st=((i:Int),(t.Hood.take i).map (apK k))) (fun r=>r=t.Hood.map (apK k)) (by omega) (by simp)
  (fun i st hi e=>by
   subst e
   have hx:t.Hood[i]?=some t.Hood[i]:=List.getElem?_eq_getElem hi
   have htake:t.Hood.take (i+1)=t.Hood.take i++[t.Hood[i]]:=by rw[List.take_add_one,hx]; rfl
   have hm:=hp t.Hood[i] (List.getElem_mem hi)
   generalize t.Hood[i]=x at hx htake hm
   unfold b_R13_Turn_1
   dsimp only
   rw[ltB_nat,decide_eq_true hi,cond_true,idx_nat,hx]
   simp only[some_bind]
   rw[applyR_eq hm hk]
   simp only[some_bind]
   rw[app16 (by rw[List.length_map,List.length_take]; omega),up_nat (by omega)]
   exact .inl ⟨_,rfl,by rw[htake,List.map_append]; rfl⟩)
  (fun st e=>by
   subst e
   unfold b_R13_Turn_1
   dsimp only
   rw[ltB_nat,decide_eq_false (Nat.lt_irrefl _),cond_false,List.take_length]
   exact⟨_,rfl,rfl⟩)
 exact hr
theorem order3 {t:Tree} {I s:List Point} {i:Int} {p:Point} {o:List Int} (hp:idx s i=some p) (hnd:I.Nodup) (hI:I.length<=800) (ho:o.length<=800) (hm:p∈I):aY (b_R13_Turn_3 t I s i) ba (0,o)=some (o++[((I.idxOf p:Nat):Int)]):=by
 have hlt:=List.idxOf_lt_length_iff.2 hm
 obtain⟨r,hr,rfl⟩:=loop_iv (b:=b_R13_Turn_3 t I s i) (n:=I.length) (s:=(0,o)) (fun j st=>st=((j:Int),o++bif decide (I.idxOf p < j) then [((I.idxOf p:Nat):Int)] else [])) (fun r=>r=o++[((I.idxOf p:Nat):Int)]) (by omega) (by simp)
  (fun j st hj e=>by
   subst e
   have hx:I[j]?=some I[j]:=List.getElem?_eq_getElem hj
   have hiff:I[j]=p↔j=I.idxOf p:=by
    constructor
    ·intro e
     have:I[I.idxOf p]=p:=List.getElem_idxOf hlt
     exact (List.getElem_inj hnd).1 (e.trans this.symm)
    ·intro e
     subst e
     exact List.getElem_idxOf hlt
   generalize I[j]=x at hx hiff
   unfold b_R13_Turn_3
   dsimp only
   rw[ltB_nat,decide_eq_true hj,cond_true,idx_nat,hx,hp]
   simp only[some_bind]
   rw[show gK (eqB x.X p.X) (gK (eqB x.Y p.Y) true)=decide (x=p) from by
    cases x
    cases p
    simp only[gK,eqB,Point.mk.injEq,Bool.and_true,Bool.decide_and]
    rfl]
   by_cases h:x=p
   ·have hj':=hiff.1 h
    rw[decide_eq_true h,decide_eq_false (by omega),decide_eq_true (by omega)]
    simp only[cond_true,cond_false,List.append_nil]
    rw[app8 (by omega),up_nat (by omega)]
    exact .inl ⟨_,rfl,by rw[<- hj']⟩
   ·have hj':j≠I.idxOf p:=fun e=>h (hiff.2 e)
    rw[decide_eq_false h,up_nat (by omega)]
    refine .inl ⟨_,rfl,?_⟩
    congr 2
    congr 1
    by_cases hlt':I.idxOf p < j
    ·rw[decide_eq_true hlt',decide_eq_true (by omega)]
    ·rw[decide_eq_false hlt',decide_eq_false (by omega)])
  (fun st e=>by
   subst e
   unfold b_R13_Turn_3
   dsimp only
   rw[ltB_nat,decide_eq_false (Nat.lt_irrefl _),cond_false,decide_eq_true hlt]
   exact⟨_,rfl,rfl⟩)
 exact hr
theorem order_is {t:Tree} {I s:List Point} (hnd:I.Nodup) (hI:I.length<=800) (hs:s.length<=800) (hm:∀ p∈s,p∈I):aY (b_R13_Turn_2 t I s) ba (0,[])=some (s.map fun p=>((I.idxOf p:Nat):Int)):=by
 obtain⟨r,hr,rfl⟩:=loop_iv (b:=b_R13_Turn_2 t I s) (n:=s.length) (s:=(0,[])) (fun i st=>st=((i:Int),(s.take i).map fun p=>((I.idxOf p:Nat):Int))) (fun r=>r=s.map fun p=>((I.idxOf p:Nat):Int)) (by omega) (by simp)
  (fun i st hi e=>by
   subst e
   have hx:s[i]?=some s[i]:=List.getElem?_eq_getElem hi
   have htake:s.take (i+1)=s.take i++[s[i]]:=by rw[List.take_add_one,hx]; rfl
   have hmem:=hm s[i] (List.getElem_mem hi)
   generalize s[i]=x at hx htake hmem
   unfold b_R13_Turn_2
   dsimp only
   rw[ltB_nat,decide_eq_true hi,cond_true,order3 (by rw[idx_nat]; exact hx) hnd hI (by rw[List.length_map,List.length_take]; omega) hmem]
   simp only[some_bind]
   rw[up_nat (by omega)]
   exact .inl ⟨_,rfl,by rw[htake,List.map_append]; rfl⟩)
  (fun st e=>by
   subst e
   unfold b_R13_Turn_2
   dsimp only
   rw[ltB_nat,decide_eq_false (Nat.lt_irrefl _),cond_false,List.take_length]
   exact⟨_,rfl,rfl⟩)
 exact hr
end Go.Proofs.YtcllfealpkhjfaaGreatDoor
