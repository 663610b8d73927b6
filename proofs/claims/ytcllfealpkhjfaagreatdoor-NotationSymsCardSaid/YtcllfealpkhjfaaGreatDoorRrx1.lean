/- Plain laws: the reference's reduced tree is the list of all that the root leads to, in the order of the walk. -/
import Derived.Test.YtcllfealpkhjfaaGreatDoorRdx1
namespace Go.Proofs.YtcllfealpkhjfaaGreatDoor
open Go.AM Go.Proofs
structure WR (nodes:List Node) (R:Int->Prop) (done:List Int) (us:List ND):Prop where
 len:done.length=nodes.length
 val:∀ L k (u:DD (L+1)),R k->Rep nodes (L+1) k u->idx done k=some (if (⟨L,u⟩:ND)∈us then ((us.idxOf (⟨L,u⟩:ND):Nat):Int) else -1)
 clo:Clo us
 nd:us.Nodup
 rep:∀ x∈us,∃ k,Rep nodes (x.1+1) k x.2
theorem WR.le {nodes:List Node} {R:Int->Prop} {done:List Int} {us:List ND} (h:WR nodes R done us):us.length<=nodes.length :=
 len_le (R:=fun k (x:ND)=>Rep nodes (x.1+1) (k:Nat) x.2) h.nd (fun x hx=>by
  obtain⟨k,hk⟩:=h.rep x hx
  obtain⟨y,h1,_⟩:=id hk
  obtain⟨a,b,_⟩:=idx_lt h1
  exact⟨k.toNat,by omega,by rwa [show ((k.toNat:Nat):Int)=k by omega]⟩) fun k x y hx hy=>hx.lev hy
theorem WR.snoc {nodes:List Node} {R:Int->Prop} {done:List Int} {us:List ND} (h:WR nodes R done us) (hD:∀ (L:Nat) (k k':Int) (u:DD (L+1)),R k->R k'->Rep nodes (L+1) k u->Rep nodes (L+1) k' u->k=k') {L:Nat} {k:Int} {u:DD (L+1)} (hk:R k) (hr:Rep nodes (L+1) k u) (hn:(⟨L,u⟩:ND) ∉ us)
  (hkid:∀ K w,(⟨L,u⟩:ND)=⟨K+1,w⟩->∀ d∈w.kids,(⟨K,d⟩:ND)∈us):WR nodes R (done.set k.toNat (us.length:Int)) (us++[⟨L,u⟩]):=by
 obtain⟨x,h1,_⟩:=id hr
 obtain⟨k0,k1,_⟩:=idx_lt h1
 refine⟨by rw[List.length_set]; exact h.len,fun L' k' u' hk' hr'=>?_,h.clo.snoc hn hkid,?_,fun y hy=>?_⟩
 ·obtain⟨x',h1',_⟩:=id hr'
  obtain⟨k0',k1',_⟩:=idx_lt h1'
  rw[idx_set k0 (by rw[h.len]; exact k1) k0']
  by_cases he:k=k'
  ·subst he
   have e:=hr.lev hr'
   rw[if_pos rfl,<- e,if_pos (by simp),List.idxOf_append,if_neg hn]
   simp
  ·rw[if_neg he,h.val L' k' u' hk' hr']
   have hne:(⟨L',u'⟩:ND)≠⟨L,u⟩:=fun e=>he (by
    cases e
    exact hD L k k' u hk hk' hr hr')
   by_cases hm:(⟨L',u'⟩:ND)∈us
   ·rw[if_pos hm,if_pos (List.mem_append_left _ hm),idxOf_app hm]
   ·rw[if_neg hm,if_neg fun hh=>(List.mem_append.1 hh).elim hm fun hh=>hne (List.mem_singleton.1 hh)]
 ·rw[List.nodup_append]
  exact⟨h.nd,by simp,fun a ha b hb e=>hn (by rw[List.mem_singleton] at hb; rw[<- hb,<- e]; exact ha)⟩
 ·rcases List.mem_append.1 hy with hy | hy
  ·exact h.rep y hy
  ·rw[List.mem_singleton] at hy
   subst hy
   exact⟨k,hr⟩
structure Cls (nodes:List Node) (cls:List Int):Prop where
 get:∀ (L:Nat) (k:Int) (u:DD (L+1)),Rep nodes (L+1) k u->∃ c,idx cls k=some c/\Rep nodes (L+1) c u/\idx cls c=some c
 one:∀ (L:Nat) (k k':Int) (u:DD (L+1)),Rep nodes (L+1) k u->Rep nodes (L+1) k' u->idx cls k=idx cls k'
section
variable {n:Nat} {nodes:List Node} (hG:Good n nodes) {cls:List Int} (hC:Cls nodes cls) (hlen:nodes.length<=1099511627776) (hn:n<=1000000) (z:List Node->List Int->Int->List Int->List Node->Option (List Int×List Node))
include hG hC hlen hn
theorem walkR_is:∀ (L:Nat) (m:Nat) (k:Int) (u:DD (L+1)) (us:List ND) (done:List Int),L < m->idx cls k=some k->Rep nodes (L+1) k u->WR nodes (fun k=>idx cls k=some k) done us ->
  ∃ done',fU mb_R13_walk_o_o z m nodes cls k done (ser us)=some (done',ser (post (L+1) u us))/\WR nodes (fun k=>idx cls k=some k) done' (post (L+1) u us):=by
 have hD:∀ (L:Nat) (k k':Int) (u:DD (L+1)),idx cls k=some k->idx cls k'=some k'->Rep nodes (L+1) k u->Rep nodes (L+1) k' u->k=k':=fun L k k' u h h' hr hr'=>by
  have:=hC.one L k k' u hr hr'
  rw[h,h'] at this
  exact Option.some.inj this
 intro L
 induction L with
 | zero =>
  intro m k u us done hm hk hr hW
  obtain⟨m,rfl⟩:∃ j,m=j+1:=⟨m - 1,by omega⟩
  obtain⟨x,h1,h2,h3,h4⟩:=id hr
  obtain⟨k0,k1,k2⟩:=idx_lt h1
  rw[fU]
  obtain⟨F,hF⟩:∃ F,F=fU mb_R13_walk_o_o z m:=⟨_,rfl⟩
  rw[<- hF]
  unfold mb_R13_walk_o_o
  rw[hW.val 0 k u hk hr]
  simp only[some_bind]
  unfold post
  by_cases hmem:(⟨0,u⟩:ND)∈us
  ·rw[if_pos hmem,if_pos hmem,show geB (((us.idxOf (⟨0,u⟩:ND):Nat):Int)) 0=true from decide_eq_true (by omega),cond_true]
   exact⟨done,rfl,hW⟩
  ·rw[if_neg hmem,if_neg hmem,show geB (-1) 0=false from rfl,cond_false,h1]
   have hxl:=hG.len k.toNat x k2
   simp only[some_bind]
   have hxn:x.Next=(show List Int from u.kids):=by
    apply List.ext_getElem?
    intro s
    cases hs:x.Next[s]? with
    | none=>exact (List.getElem?_eq_none (by have:=List.getElem?_eq_none_iff.1 hs; exact h3 ▸ this)).symm
    | some a =>
     have hlt:=(List.getElem?_eq_some_iff.1 hs).1
     have e2:u.kids[s]?=some (u.kids[s]'(by omega)):=List.getElem?_eq_getElem (by omega)
     have e3:a=u.kids[s]'(by omega):=h4 s a _ hs e2
     rw[e3]
     exact e2.symm
   have hfold:u.kids.foldl (fun s d=>post 0 d s) us=us:=by
    have:∀ (l:List (DD 0)) (us:List ND),l.foldl (fun s d=>post 0 d s) us=us:=fun l=>by
     induction l with
     | nil=>intro us; rfl
     | cons d l ih=>intro us; rw[List.foldl_cons]; exact ih us
    exact this _ us
   obtain⟨t,ht,rfl⟩:=loop_iv (b:=b_R13_walk_o_o_1 F nodes cls k (ser us) x) (n:=x.Next.length) (s:=(0,[],ser us,done)) (fun i s=>s=((i:Int),x.Next.take i,ser us,done)) (fun t=>t=(x.Next,ser us,done)) (by omega) rfl
    (fun i s hi h=>by
     subst h
     refine .inl ⟨_,?_,rfl⟩
     unfold b_R13_walk_o_o_1
     dsimp only
     rw[h1]
     simp only[some_bind]
     rw[ltB_nat,decide_eq_true hi,cond_true,idx_nat,List.getElem?_eq_getElem hi,up_nat (by omega)]
     simp only[some_bind]
     rw[show gtB x.Level 1=false from decide_eq_false (by have:x.Level=1:=(by simpa using h2); omega),cond_false]
     simp only[some_bind]
     rw[show appL 8 (x.Next.take i) [x.Next[i]]=some _ from if_pos ⟨by decide,by simp only[List.length_singleton,List.length_take]; omega⟩]
     simp only[some_bind]
     rw[List.take_add_one,List.getElem?_eq_getElem hi]
     rfl)
    (fun s h=>by
     subst h
     refine⟨_,?_,rfl⟩
     unfold b_R13_walk_o_o_1
     dsimp only
     rw[h1]
     simp only[some_bind]
     rw[ltB_nat,decide_eq_false (Nat.lt_irrefl _),cond_false,List.take_length])
   rw[ht,hfold]
   have hle:=hW.le
   have hsl:(ser us).length=us.length:=by unfold ser; rw[List.length_map]
   have hkid:∀ K w,(⟨0,u⟩:ND)=⟨K+1,w⟩->∀ d∈w.kids,(⟨K,d⟩:ND)∈us:=fun K w e=>by cases e
   simp only[some_bind]
   rw[hW.val 0 k u hk hr]
   simp only[some_bind]
   rw[show appL 32 (ser us) [(⟨x.Level,x.Next⟩:Node)]=some _ from if_pos ⟨by decide,by simp only[List.length_singleton,hsl]; omega⟩]
   simp only[some_bind]
   refine⟨done.set k.toNat (us.length:Int),?_,hW.snoc hD hk hr hmem hkid⟩
   rw[ser_snoc hW.clo hkid]
   have e2:(⟨x.Level,x.Next⟩:Node)=serNode us ⟨0,u⟩:=by
    rw[hxn,h2]
    rfl
   rw[e2]
   simp[aT,hsl]
 | succ L ih =>
  intro m k u us done hm hk hr hW
  obtain⟨m,rfl⟩:∃ j,m=j+1:=⟨m - 1,by omega⟩
  obtain⟨x,h1,h2,h3,h4⟩:=id hr
  obtain⟨k0,k1,k2⟩:=idx_lt h1
  rw[fU]
  obtain⟨F,hF⟩:∃ F,F=fU mb_R13_walk_o_o z m:=⟨_,rfl⟩
  rw[<- hF]
  unfold mb_R13_walk_o_o
  rw[hW.val (L+1) k u hk hr]
  simp only[some_bind]
  unfold post
  by_cases hmem:(⟨L+1,u⟩:ND)∈us
  ·rw[if_pos hmem,if_pos hmem,show geB (((us.idxOf (⟨L+1,u⟩:ND):Nat):Int)) 0=true from decide_eq_true (by omega),cond_true]
   exact⟨done,rfl,hW⟩
  ·rw[if_neg hmem,if_neg hmem,show geB (-1) 0=false from rfl,cond_false,h1]
   have hxl:=hG.len k.toNat x k2
   simp only[some_bind]
   let U:Nat->List ND:=fun i=>(u.kids.take i).foldl (fun s d=>post (L+1) d s) us
   have hU:∀ i,i < u.kids.length->∀ d,u.kids[i]?=some d->U (i+1)=post (L+1) d (U i):=fun i _ d hd=>by
    show (u.kids.take (i+1)).foldl _ us=_
    rw[List.take_add_one,hd,List.foldl_append]
    rfl
   obtain⟨t,ht,lst,dn,rfl,hl,hWn⟩:=loop_iv (b:=b_R13_walk_o_o_1 F nodes cls k (ser us) x) (n:=x.Next.length) (s:=(0,[],ser us,done))
    (fun i s=>∃ lst dn,s=((i:Int),lst,ser (U i),dn)/\lst=(u.kids.take i).map (fun d=>(((U i).idxOf (⟨L,d⟩:ND):Nat):Int))/\WR nodes (fun k=>idx cls k=some k) dn (U i))
    (fun t=>∃ lst dn,t=(lst,ser (U u.kids.length),dn)/\lst=u.kids.map (fun d=>(((U u.kids.length).idxOf (⟨L,d⟩:ND):Nat):Int))/\WR nodes (fun k=>idx cls k=some k) dn (U u.kids.length)) (by omega) ⟨[],done,rfl,by simp,hW⟩
    (fun i s hi ⟨lst,dn,h,hls,hWi⟩=>by
     subst h
     have hik:i < u.kids.length:=by omega
     have ed:u.kids[i]?=some u.kids[i]:=List.getElem?_eq_getElem hik
     have ex:x.Next[i]?=some x.Next[i]:=List.getElem?_eq_getElem hi
     have hrk:=h4 i _ _ ex ed
     obtain⟨c,hc1,hc2,hc3⟩:=hC.get L _ _ hrk
     obtain⟨dn',hc,hW'⟩:=ih m c u.kids[i] (U i) dn (by omega) hc3 hc2 hWi
     rw[<- hF] at hc
     rw[<- hU i hik _ ed] at hc hW'
     obtain⟨hE,hI⟩:=post_wk (L+1) u.kids[i] (U i)
     rw[<- hU i hik _ ed] at hE hI
     have hmem':∀ d∈u.kids.take i,(⟨L,d⟩:ND)∈U i:=(foldl_wk (L:=L+1) (u.kids.take i) us fun d _ s=>post_wk (L+1) d s).2
     have hll:((u.kids.take i).map (fun d=>(((U i).idxOf (⟨L,d⟩:ND):Nat):Int))).length=i:=by rw[List.length_map,List.length_take]; omega
     have hv:=hW'.val L c u.kids[i] hc3 hc2
     rw[if_pos (show (⟨L,u.kids[i]⟩:ND)∈U (i+1) from hI)] at hv
     refine .inl ⟨_,?_,lst++[(((U (i+1)).idxOf (⟨L,u.kids[i]⟩:ND):Nat):Int)],dn',rfl,?_,hW'⟩
     ·unfold b_R13_walk_o_o_1
      dsimp only
      rw[h1]
      simp only[some_bind]
      rw[ltB_nat,decide_eq_true hi,cond_true,idx_nat,ex,up_nat (by omega)]
      simp only[some_bind]
      rw[show gtB x.Level 1=true from decide_eq_true (by omega),cond_true,hc1]
      simp only[some_bind]
      rw[hc]
      simp only[some_bind]
      rw[hv]
      simp only[some_bind]
      rw[show appL 8 lst [(((U (i+1)).idxOf (⟨L,u.kids[i]⟩:ND):Nat):Int)]=some _ from if_pos ⟨by decide,by simp only[List.length_singleton,hls,hll]; omega⟩]
      rfl
     ·rw[hls,List.take_add_one,ed]
      simp only[Option.toList_some,List.map_append,List.map_cons,List.map_nil]
      congr 1
      apply List.map_congr_left
      intro d hd
      rw[hE.ext.idx (hmem' d hd)])
    (fun s ⟨lst,dn,h,hls,hWi⟩=>by
     subst h
     rw[h3] at hls hWi
     refine⟨_,?_,lst,dn,rfl,?_,hWi⟩
     ·unfold b_R13_walk_o_o_1
      dsimp only
      rw[h1]
      simp only[some_bind]
      rw[ltB_nat,decide_eq_false (Nat.lt_irrefl _),h3]
      rfl
     ·rw[hls,List.take_length])
   rw[ht]
   have hUn:U u.kids.length=u.kids.foldl (fun s d=>post (L+1) d s) us:=by show (u.kids.take _).foldl _ us=_; rw[List.take_length]
   rw[hUn] at hWn hl ⊢
   obtain⟨hE,hI⟩:=foldl_wk (L:=L+1) u.kids us fun d _ s=>post_wk (L+1) d s
   have hmem2:(⟨L+1,u⟩:ND) ∉ u.kids.foldl (fun s d=>post (L+1) d s) us:=fun h=>(hE.low _ h).elim hmem fun h=>absurd h (Nat.lt_irrefl _)
   have hkid:∀ K w,(⟨L+1,u⟩:ND)=⟨K+1,w⟩->∀ d∈w.kids,(⟨K,d⟩:ND)∈u.kids.foldl (fun s d=>post (L+1) d s) us:=fun K w e d hd=>by
    cases e
    exact hI d hd
   generalize u.kids.foldl (fun s d=>post (L+1) d s) us=V at hWn hl hmem2 hkid hE hI ⊢
   have hle:=hWn.le
   have hsl:(ser V).length=V.length:=by unfold ser; rw[List.length_map]
   simp only[some_bind]
   rw[hWn.val (L+1) k u hk hr]
   simp only[some_bind]
   rw[show appL 32 (ser V) [(⟨x.Level,lst⟩:Node)]=some _ from if_pos ⟨by decide,by simp only[List.length_singleton,hsl]; omega⟩]
   simp only[some_bind]
   refine⟨dn.set k.toNat (V.length:Int),?_,hWn.snoc hD hk hr hmem2 hkid⟩
   rw[ser_snoc hWn.clo hkid]
   have e2:(⟨x.Level,lst⟩:Node)=serNode V ⟨L+1,u⟩:=by
    rw[hl,h2]
    simp only[serNode]
    congr 1
   rw[e2]
   simp[aT,hsl]
end
end Go.Proofs.YtcllfealpkhjfaaGreatDoor
namespace Go.Proofs.YtcllfealpkhjfaaGreatDoor
open Go.AM Go.Proofs
theorem same13_loop (a b:List Int) (hl:a.length=b.length) (ha:a.length < 1099511627776):aY (b_R13_same_1 a b) ba 0=some (bif anyB (fun i x=>!decide (b[i]?=some x)) a 0 then .inl false else .inr ()):=by
 refine loop_any a (fun i x=>!decide (b[i]?=some x)) false ha (fun i x hx=>?_) ?_
 ·have hi:=(List.getElem?_eq_some_iff.1 hx).1
  have hb:b[i]?=some (b[i]'(by omega)):=List.getElem?_eq_getElem (by omega)
  unfold b_R13_same_1
  dsimp only
  rw[ltB_nat,decide_eq_true hi,cond_true,idx_nat,hx,idx_nat,hb,up_nat (by omega)]
  simp only[some_bind]
  by_cases he:x=b[i]'(by omega)
  ·subst he
   simp[neB]
  ·have he':¬ b[i]'(by omega)=x:=fun h=>he h.symm
   rw[show neB x (b[i]'(by omega))=true from by simpa [neB] using he,cond_true]
   simp[he']
 ·unfold b_R13_same_1
  dsimp only
  rw[ltB_nat,decide_eq_false (Nat.lt_irrefl _)]
  rfl
theorem same13 (a b:List Int) (ha:a.length < 1099511627776):m_R13_same a b=some (decide (a=b)):=by
 unfold m_R13_same
 by_cases hl:a.length=b.length
 ·have:neB (aT a) (aT b)=false:=by simp[neB,aT,hl]
  rw[this,cond_false,same13_loop a b hl ha]
  simp only[some_bind]
  cases hb:anyB (fun i x=>!decide (b[i]?=some x)) a 0 with
  | true =>
   have:a≠b:=fun e=>by
    subst e
    rw[anyB_of_false (fun j x hj=>by simp[hj])] at hb
    cases hb
   simp[this]
  | false =>
   have:a=b:=by
    apply List.ext_getElem?
    intro j
    cases hj:a[j]? with
    | none=>exact (List.getElem?_eq_none (by have:=List.getElem?_eq_none_iff.1 hj; omega)).symm
    | some x =>
     have:=anyB_false hb j x hj
     simp only[Nat.zero_add,Bool.not_eq_false',decide_eq_true_eq] at this
     exact this.symm
   simp[this]
 ·have:neB (aT a) (aT b)=true:=by simp[neB,aT]; omega
  rw[this,cond_true]
  have:a≠b:=fun e=>hl (by rw[e])
  simp[this]
def Least (nodes:List Node) (L:Nat) (u:DD (L+1)) (c:Nat):Prop:=Rep nodes (L+1) c u/\∀ j:Nat,j < c->¬ Rep nodes (L+1) j u
theorem Least.det {nodes:List Node} {L:Nat} {u:DD (L+1)} {c c':Nat} (h:Least nodes L u c) (h':Least nodes L u c'):c=c':=by
 rcases Nat.lt_trichotomy c c' with hc | hc | hc
 ·exact absurd h.1 (h'.2 c hc)
 ·exact hc
 ·exact absurd h'.1 (h.2 c' hc)
def NX (nodes:List Node):(L:Nat)->DD (L+1)->List Int->Prop
 | 0,u,nx=>nx=(show List Int from u.kids)
 | L+1,u,nx=>nx.length=u.kids.length/\∀ (s:Nat) d,u.kids[s]?=some d->∃ c:Nat,nx[s]?=some (c:Int)/\Least nodes L d c
theorem nx_iff {nodes:List Node}:∀ {L:Nat} {u v:DD (L+1)} {a b:List Int},NX nodes L u a->NX nodes L v b->(a=b↔u=v)
 | 0,u,v,a,b,ha,hb=>by
  have ha':a=(show List Int from u.kids):=ha
  have hb':b=(show List Int from v.kids):=hb
  exact⟨fun h=>DD.ext (L:=0) (u:=u) (v:=v) (show (show List Int from u.kids)=(show List Int from v.kids) from ha'.symm.trans (h.trans hb')),fun h=>by rw[ha',hb',h]⟩
 | L+1,u,v,a,b,⟨h1,h2⟩,⟨h1',h2'⟩=>by
  constructor
  ·intro e
   subst e
   apply DD.ext
   apply List.ext_getElem?
   intro s
   cases hs:u.kids[s]? with
   | none=>exact (List.getElem?_eq_none (by have:=List.getElem?_eq_none_iff.1 hs; omega)).symm
   | some d =>
    have hlt:=(List.getElem?_eq_some_iff.1 hs).1
    have hv:v.kids[s]?=some (v.kids[s]'(by omega)):=List.getElem?_eq_getElem (by omega)
    obtain⟨c,e1,l1⟩:=h2 s d hs
    obtain⟨c',e2,l2⟩:=h2' s _ hv
    rw[e1] at e2
    have:c=c':=by have:=Option.some.inj e2; omega
    subst this
    rw[hv,l1.1.det l2.1]
  ·intro e
   subst e
   apply List.ext_getElem?
   intro s
   cases hs:a[s]? with
   | none=>exact (List.getElem?_eq_none (by have:=List.getElem?_eq_none_iff.1 hs; omega)).symm
   | some y =>
    have hlt:=(List.getElem?_eq_some_iff.1 hs).1
    have hv:u.kids[s]?=some (u.kids[s]'(by omega)):=List.getElem?_eq_getElem (by omega)
    obtain⟨c,e1,l1⟩:=h2 s _ hv
    obtain⟨c',e2,l2⟩:=h2' s _ hv
    rw[e2,<- hs,e1,l1.det l2]
structure CI (nodes:List Node) (i:Nat) (cls:List Int) (nexts:List (List Int)):Prop where
 lc:cls.length=i
 ln:nexts.length=i
 val:∀ (k L:Nat) (u:DD (L+1)),k < i->Rep nodes (L+1) k u->(∃ c:Nat,cls[k]?=some (c:Int)/\Least nodes L u c)/\∃ nx,nexts[k]?=some nx/\NX nodes L u nx
def fm (p:Nat->Bool) (i:Nat):Nat->Nat
 | 0=>i
 | s+1=>if p (i - 1 - s) then i - 1 - s else fm p i s
theorem fm_spec (p:Nat->Bool) (i:Nat):∀ s,s<=i->(fm p i s=i/\∀ j,i - s<=j->j < i->p j=false) \/ (fm p i s < i/\i - s<=fm p i s/\p (fm p i s)=true/\∀ j,i - s<=j->j < fm p i s->p j=false)
 | 0,_=>.inl ⟨rfl,fun j h1 h2=>by omega⟩
 | s+1,hs=>by
  unfold fm
  by_cases hp:p (i - 1 - s)=true
  ·rw[if_pos hp]
   exact .inr ⟨by omega,by omega,hp,fun j h1 h2=>by omega⟩
  ·rw[if_neg hp]
   have hp':p (i - 1 - s)=false:=by simpa using hp
   rcases fm_spec p i s (by omega) with ⟨h1,h2⟩ | ⟨h1,h2,h3,h4⟩
   ·refine .inl ⟨h1,fun j h5 h6=>?_⟩
    by_cases he:j=i - 1 - s
    ·rw[he]; exact hp'
    ·exact h2 j (by omega) h6
   ·refine .inr ⟨h1,by omega,h3,fun j h5 h6=>?_⟩
    by_cases he:j=i - 1 - s
    ·rw[he]; exact hp'
    ·exact h4 j (by omega) h6
section
variable {n:Nat} {nodes:List Node} (hG:Good n nodes) (hlen:nodes.length<=1099511627) (hn:n<=1000000)
include hG hlen hn
theorem cls_next {i:Nat} {cls:List Int} {nexts:List (List Int)} (h:CI nodes i cls nexts) {x:Node} (hx:nodes[i]?=some x) {L:Nat} {u:DD (L+1)} (hr:Rep nodes (L+1) i u) :
  ∃ nx,aY (b_R13_classes_2 nodes i cls nexts) ba (0,[])=some nx/\NX nodes L u nx:=by
 have _av:=hlen
 obtain⟨x',h1,h2,h3,h4⟩:=id hr
 rw[idx_nat] at h1
 obtain rfl:=Option.some.inj (hx.symm.trans h1)
 have hxl:=hG.len i x hx
 cases L with
 | zero =>
  have hxn:x.Next=(show List Int from u.kids):=by
   apply List.ext_getElem?
   intro s
   cases hs:x.Next[s]? with
   | none=>exact (List.getElem?_eq_none (by have:=List.getElem?_eq_none_iff.1 hs; exact h3 ▸ this)).symm
   | some a =>
    have hlt:=(List.getElem?_eq_some_iff.1 hs).1
    have e2:u.kids[s]?=some (u.kids[s]'(by omega)):=List.getElem?_eq_getElem (by omega)
    have e3:a=u.kids[s]'(by omega):=h4 s a _ hs e2
    rw[e3]
    exact e2.symm
  obtain⟨t,ht,rfl⟩:=loop_iv (b:=b_R13_classes_2 nodes i cls nexts) (n:=x.Next.length) (s:=(0,[])) (fun s st=>st=((s:Int),x.Next.take s)) (fun t=>t=x.Next) (by omega) rfl
   (fun s st hs e=>by
    subst e
    refine .inl ⟨_,?_,rfl⟩
    unfold b_R13_classes_2
    dsimp only
    rw[idx_nat,hx]
    simp only[some_bind]
    rw[ltB_nat,decide_eq_true hs,cond_true,idx_nat,List.getElem?_eq_getElem hs,up_nat (by omega)]
    simp only[some_bind]
    rw[show gtB x.Level 1=false from decide_eq_false (by have:x.Level=1:=(by simpa using h2); omega),cond_false]
    simp only[some_bind]
    rw[show appL 8 (x.Next.take s) [x.Next[s]]=some _ from if_pos ⟨by decide,by simp only[List.length_singleton,List.length_take]; omega⟩]
    simp only[some_bind]
    rw[List.take_add_one,List.getElem?_eq_getElem hs]
    rfl)
   (fun st e=>by
    subst e
    refine⟨_,?_,rfl⟩
    unfold b_R13_classes_2
    dsimp only
    rw[idx_nat,hx]
    simp only[some_bind]
    rw[ltB_nat,decide_eq_false (Nat.lt_irrefl _),cond_false,List.take_length])
  exact⟨_,ht,hxn⟩
 | succ L =>
  have hkid:∀ s (hs:s < x.Next.length),∃ c:Nat,idx cls x.Next[s]=some (c:Int)/\Least nodes L (u.kids[s]'(by omega)) c:=fun s hs=>by
   have ed:u.kids[s]?=some (u.kids[s]'(by omega)):=List.getElem?_eq_getElem (by omega)
   have ex:x.Next[s]?=some x.Next[s]:=List.getElem?_eq_getElem hs
   have hrk:=h4 s _ _ ex ed
   obtain⟨k0,k1,_⟩:=hG.kid i x hx (by omega) x.Next[s] (List.getElem_mem hs)
   have hrk':Rep nodes (L+1) ((x.Next[s].toNat:Nat):Int) (u.kids[s]'(by omega)):=by rwa [show ((x.Next[s].toNat:Nat):Int)=x.Next[s] by omega]
   obtain⟨⟨c,hc,hl⟩,_⟩:=h.val x.Next[s].toNat L _ (by omega) hrk'
   exact⟨c,by rw[idx_int _ k0,hc],hl⟩
  obtain⟨t,ht,lst,rfl,hl1,hl2⟩:=loop_iv (b:=b_R13_classes_2 nodes i cls nexts) (n:=x.Next.length) (s:=(0,[]))
   (fun s st=>∃ lst:List Int,st=((s:Int),lst)/\lst.length=s/\∀ (j:Nat) d,j < s->u.kids[j]?=some d->∃ c:Nat,lst[j]?=some (c:Int)/\Least nodes L d c)
   (fun t=>∃ lst:List Int,t=lst/\lst.length=x.Next.length/\∀ (j:Nat) d,j < x.Next.length->u.kids[j]?=some d->∃ c:Nat,lst[j]?=some (c:Int)/\Least nodes L d c) (by omega) ⟨[],rfl,rfl,fun j d hj=>absurd hj (Nat.not_lt_zero _)⟩
   (fun s st hs ⟨lst,e,hl,hv⟩=>by
    subst e
    obtain⟨c,hc,hcl⟩:=hkid s hs
    refine .inl ⟨_,?_,lst++[(c:Int)],rfl,by simp[hl],fun j d hj hd=>?_⟩
    ·unfold b_R13_classes_2
     dsimp only
     rw[idx_nat,hx]
     simp only[some_bind]
     rw[ltB_nat,decide_eq_true hs,cond_true,idx_nat,List.getElem?_eq_getElem hs,up_nat (by omega)]
     simp only[some_bind]
     rw[show gtB x.Level 1=true from decide_eq_true (by omega),cond_true,hc]
     simp only[some_bind]
     rw[show appL 8 lst [(c:Int)]=some _ from if_pos ⟨by decide,by simp only[List.length_singleton,hl]; omega⟩]
     rfl
    ·by_cases he:j=s
     ·subst he
      rw[List.getElem?_eq_getElem (show j < u.kids.length by omega)] at hd
      cases hd
      exact⟨c,by rw[List.getElem?_append_right (by omega),hl,Nat.sub_self]; rfl,hcl⟩
     ·obtain⟨c',h1',h2'⟩:=hv j d (by omega) hd
      exact⟨c',by rw[List.getElem?_append_left (by omega),h1'],h2'⟩)
   (fun st ⟨lst,e,hl,hv⟩=>by
    subst e
    refine⟨_,?_,lst,rfl,hl,hv⟩
    unfold b_R13_classes_2
    dsimp only
    rw[idx_nat,hx]
    simp only[some_bind]
    rw[ltB_nat,decide_eq_false (Nat.lt_irrefl _),cond_false])
  exact⟨_,ht,by omega,fun s d hs=>hl2 s d (by have:=(List.getElem?_eq_some_iff.1 hs).1; omega) hs⟩
theorem CI.step {i:Nat} {cls:List Int} {nexts:List (List Int)} (h:CI nodes i cls nexts) (hi:i < nodes.length):∃ cls' nexts',b_R13_classes_1 nodes ((i:Int),cls,nexts)=some (.next (((i+1:Nat):Int),cls',nexts'))/\CI nodes (i+1) cls' nexts':=by
 obtain⟨x,hx⟩:∃ x,nodes[i]?=some x:=⟨_,List.getElem?_eq_getElem hi⟩
 have hlv:=hG.lev i x hx
 obtain⟨L,hL⟩:∃ L:Nat,x.Level=(L:Int)+1:=⟨(x.Level - 1).toNat,by omega⟩
 obtain⟨u,hr,_⟩:=hG.rep L i x hx hL
 obtain⟨nx,h1,h2⟩:=cls_next hG hlen hn h hx hr
 have hnx:nx.length=n:=by
  have hxl:=hG.len i x hx
  obtain⟨x',e1,_,e3,_⟩:=id hr
  rw[idx_nat] at e1
  obtain rfl:=Option.some.inj (hx.symm.trans e1)
  cases L with
  | zero=>rw[show nx=(show List Int from u.kids) from h2]; exact e3.symm.trans hxl
  | succ L=>rw[h2.1]; omega
 classical
 let p:Nat->Bool:=fun j=>decide (∃ y nz,nodes[j]?=some y/\y.Level=x.Level/\nexts[j]?=some nz/\nz=nx)
 have hp:∀ j,j < i->(p j=true↔Rep nodes (L+1) j u):=fun j hj=>by
  obtain⟨y,hy⟩:∃ y,nodes[j]?=some y:=⟨_,List.getElem?_eq_getElem (by omega)⟩
  have hyl:=hG.lev j y hy
  obtain⟨K,hK⟩:∃ K:Nat,y.Level=(K:Int)+1:=⟨(y.Level - 1).toNat,by omega⟩
  obtain⟨v,hv,_⟩:=hG.rep K j y hy hK
  obtain⟨_,nz,e1,e2⟩:=h.val j K v hj hv
  constructor
  ·intro hpt
   obtain⟨y',nz',a1,a2,a3,a4⟩:=of_decide_eq_true hpt
   obtain rfl:=Option.some.inj (hy.symm.trans a1)
   obtain rfl:=Option.some.inj (e1.symm.trans a3)
   obtain rfl:K=L:=by omega
   rw[<- (nx_iff e2 h2).1 a4]
   exact hv
  ·intro hru
   have e:=hv.lev hru
   cases e
   exact decide_eq_true ⟨y,nz,hy,by omega,e1,(nx_iff e2 h2).2 rfl⟩
 obtain⟨first,hf,rfl⟩:=loop_iv (b:=b_R13_classes_3 nodes i cls nexts nx) (n:=i) (s:=((i:Int),bc .i64 i 1)) (fun s st=>st=(((fm p i s:Nat):Int),(i:Int) - 1 - s)) (fun t=>t=((fm p i i:Nat):Int)) (by omega)
  (by unfold bc; rw[i64_in (by omega)]; simp[fm])
  (fun s st hs e=>by
   subst e
   obtain⟨y,hy⟩:∃ y,nodes[i - 1 - s]?=some y:=⟨_,List.getElem?_eq_getElem (by omega)⟩
   obtain⟨nz,hz⟩:∃ nz,nexts[i - 1 - s]?=some nz:=⟨_,List.getElem?_eq_getElem (by rw[h.ln]; omega)⟩
   have ej:(i:Int) - 1 - s=((i - 1 - s:Nat):Int):=by omega
   refine .inl ⟨_,?_,rfl⟩
   unfold b_R13_classes_3
   dsimp only
   rw[ej,show geB ((i - 1 - s:Nat):Int) 0=true from decide_eq_true (by omega),cond_true,idx_nat,hy,idx_nat,hx]
   simp only[some_bind]
   have hfin:bc .i64 ((i - 1 - s:Nat):Int) 1=(i:Int) - 1 - ((s+1:Nat):Int):=by
    unfold bc
    rw[i64_in (by omega)]
    omega
   by_cases hl:y.Level=x.Level
   ·rw[show eqB y.Level x.Level=true from by simp[eqB,hl],cond_true,idx_nat,hz]
    simp only[some_bind]
    have hzl:nz.length < 1099511627776:=by
     obtain⟨K,hK⟩:∃ K:Nat,y.Level=(K:Int)+1:=⟨(y.Level - 1).toNat,by have:=hG.lev _ y hy; omega⟩
     obtain⟨v,hv,_⟩:=hG.rep K _ y hy hK
     obtain⟨_,nz',e1,e2⟩:=h.val (i - 1 - s) K v (by omega) hv
     obtain rfl:=Option.some.inj (hz.symm.trans e1)
     obtain⟨y',e3,_,e5,_⟩:=id hv
     rw[idx_nat] at e3
     obtain rfl:=Option.some.inj (hy.symm.trans e3)
     have:=hG.len _ y hy
     cases K with
     | zero=>rw[show nz=(show List Int from v.kids) from e2]; show v.kids.length < _; omega
     | succ K=>rw[e2.1]; omega
    rw[same13 nz nx hzl]
    simp only[some_bind]
    by_cases he:nz=nx
    ·have hpt:p (i - 1 - s)=true:=decide_eq_true ⟨y,nz,hy,hl,hz,he⟩
     rw[decide_eq_true he,cond_true]
     simp only[some_bind]
     rw[hfin,fm,if_pos hpt]
    ·have hpf:¬ p (i - 1 - s)=true:=fun hpt=>by
      obtain⟨y',nz',a1,a2,a3,a4⟩:=of_decide_eq_true hpt
      exact he (by rw[Option.some.inj (hz.symm.trans a3),a4])
     rw[decide_eq_false he,cond_false]
     simp only[some_bind]
     rw[hfin,fm,if_neg hpf]
   ·have hpf:¬ p (i - 1 - s)=true:=fun hpt=>by
     obtain⟨y',nz',a1,a2,a3,a4⟩:=of_decide_eq_true hpt
     exact hl (by rw[Option.some.inj (hy.symm.trans a1),a2])
    rw[show eqB y.Level x.Level=false from by simp[eqB,hl],cond_false]
    simp only[some_bind]
    rw[cond_false]
    simp only[some_bind]
    rw[hfin,fm,if_neg hpf])
  (fun st e=>by
   subst e
   refine⟨_,?_,rfl⟩
   unfold b_R13_classes_3
   dsimp only
   rw[show geB ((i:Int) - 1 - (i:Int)) 0=false from decide_eq_false (by omega),cond_false])
 have hleast:Least nodes L u (fm p i i):=by
  rcases fm_spec p i i (Nat.le_refl _) with ⟨e1,e2⟩ | ⟨e1,_,e3,e4⟩
  ·rw[e1]
   exact⟨hr,fun j hj hrj=>by have:=e2 j (by omega) hj; rw[(hp j hj).2 hrj] at this; cases this⟩
  ·exact⟨(hp _ e1).1 e3,fun j hj hrj=>by have:=e4 j (by omega) hj; rw[(hp j (by omega)).2 hrj] at this; cases this⟩
 refine⟨cls++[((fm p i i:Nat):Int)],nexts++[nx],?_,by simp[h.lc],by simp[h.ln],fun k K w hk hw=>?_⟩
 ·unfold b_R13_classes_1
  dsimp only
  rw[ltB_nat,decide_eq_true hi,cond_true,h1]
  simp only[some_bind]
  rw[hf]
  simp only[some_bind]
  rw[show appL 8 cls [((fm p i i:Nat):Int)]=some _ from if_pos ⟨by decide,by simp only[List.length_singleton,h.lc]; omega⟩]
  simp only[some_bind]
  rw[show appL 24 nexts [nx]=some _ from if_pos ⟨by decide,by simp only[List.length_singleton,h.ln]; omega⟩]
  simp only[some_bind]
  rw[up_nat (by omega)]
 ·by_cases he:k=i
  ·subst he
   have e:=hr.lev hw
   cases e
   exact⟨⟨_,by rw[List.getElem?_append_right (by rw[h.lc]; exact Nat.le_refl _),h.lc,Nat.sub_self]; rfl,hleast⟩,nx,by rw[List.getElem?_append_right (by rw[h.ln]; exact Nat.le_refl _),h.ln,Nat.sub_self]; rfl,h2⟩
  ·obtain⟨⟨c,e1,e2⟩,nz,e3,e4⟩:=h.val k K w (by omega) hw
   exact⟨⟨c,by rw[List.getElem?_append_left (by rw[h.lc]; omega),e1],e2⟩,nz,by rw[List.getElem?_append_left (by rw[h.ln]; omega),e3],e4⟩
theorem classes_is:∃ cls,m_R13_classes nodes=some cls/\Cls nodes cls:=by
 obtain⟨t,ht,nexts,hC⟩:=loop_iv (b:=b_R13_classes_1 nodes) (n:=nodes.length) (s:=(0,[],[])) (fun i st=>∃ cls nexts,st=((i:Int),cls,nexts)/\CI nodes i cls nexts) (fun t=>∃ nexts,CI nodes nodes.length t nexts) (by omega)
  ⟨[],[],rfl,rfl,rfl,fun k L u hk=>absurd hk (Nat.not_lt_zero _)⟩
  (fun i st hi ⟨cls,nexts,e,h⟩=>by
   subst e
   obtain⟨cls',nexts',e1,e2⟩:=h.step hG hlen hn hi
   exact .inl ⟨_,e1,cls',nexts',rfl,e2⟩)
  (fun st ⟨cls,nexts,e,h⟩=>by
   subst e
   refine⟨cls,?_,nexts,h⟩
   unfold b_R13_classes_1
   dsimp only
   rw[ltB_nat,decide_eq_false (Nat.lt_irrefl _),cond_false])
 refine⟨t,by unfold m_R13_classes; rw[ht]; rfl,fun L k u hr=>?_,fun L k k' u hr hr'=>?_⟩
 ·obtain⟨x,e1,_⟩:=id hr
  obtain⟨k0,k1,_⟩:=idx_lt e1
  have hr1:Rep nodes (L+1) ((k.toNat:Nat):Int) u:=by rwa [show ((k.toNat:Nat):Int)=k by omega]
  obtain⟨⟨c,c1,c2⟩,_⟩:=hC.val k.toNat L u (by omega) hr1
  obtain⟨y,e2,_⟩:=id c2.1
  obtain⟨c0,c3,_⟩:=idx_lt e2
  obtain⟨⟨c',c4,c5⟩,_⟩:=hC.val c L u (by omega) c2.1
  exact⟨c,by rw[idx_int _ k0,c1],c2.1,by rw[idx_nat,c4,c5.det c2]⟩
 ·obtain⟨x,e1,_⟩:=id hr
  obtain⟨k0,k1,_⟩:=idx_lt e1
  obtain⟨x',e1',_⟩:=id hr'
  obtain⟨k0',k1',_⟩:=idx_lt e1'
  obtain⟨⟨c,c1,c2⟩,_⟩:=hC.val k.toNat L u (by omega) (by rwa [show ((k.toNat:Nat):Int)=k by omega])
  obtain⟨⟨c',c1',c2'⟩,_⟩:=hC.val k'.toNat L u (by omega) (by rwa [show ((k'.toNat:Nat):Int)=k' by omega])
  rw[idx_int _ k0,idx_int _ k0',c1,c1',c2.det c2']
theorem WR.init (R:Int->Prop):WR nodes R (List.replicate nodes.length (-1)) []:=by
 have _av:=hG
 have _bv:=hlen
 have _cv:=hn
 refine⟨List.length_replicate,fun L k u _ hr=>?_,fun L u h=>by simp at h,List.nodup_nil,fun x hx=>by simp at hx⟩
 obtain⟨x,e1,_⟩:=id hr
 obtain⟨k0,k1,_⟩:=idx_lt e1
 rw[idx_int _ k0,List.getElem?_replicate,if_pos (by omega),if_neg (by simp)]
theorem reduced13_is {L i:Nat} {u:DD (L+1)} (hi:i+1=nodes.length) (hr:Rep nodes (L+1) i u) (hL:L < 1000000):m_R13_reduced nodes=some (ser (post (L+1) u [])):=by
 obtain⟨cls,hc,hC⟩:=classes_is hG hlen hn
 obtain⟨c,c1,c2,c3⟩:=hC.get L i u hr
 obtain⟨t,ht,rfl⟩:=loop_iv (b:=b_R13_reduced_1 nodes cls) (n:=nodes.length) (s:=(0,[])) (fun i st=>st=((i:Int),List.replicate i (-1))) (fun t=>t=List.replicate nodes.length (-1)) (by omega) rfl
  (fun i st hi e=>by
   subst e
   refine .inl ⟨_,?_,rfl⟩
   unfold b_R13_reduced_1
   dsimp only
   rw[ltB_nat,decide_eq_true hi,cond_true,show appL 8 (List.replicate i (-1:Int)) [(-1)]=some _ from if_pos ⟨by decide,by simp only[List.length_singleton,List.length_replicate]; omega⟩]
   simp only[some_bind]
   rw[up_nat (by omega),List.replicate_succ'])
  (fun st e=>by
   subst e
   refine⟨_,?_,rfl⟩
   unfold b_R13_reduced_1
   dsimp only
   rw[ltB_nat,decide_eq_false (Nat.lt_irrefl _),cond_false])
 obtain⟨dn,hw,_⟩:=walkR_is hG hC (by omega) hn (fun _ _ _ _ _=>none) L (fg+1) c u [] (List.replicate nodes.length (-1)) (by unfold fg; omega) c3 c2 (WR.init hG hlen hn _)
 unfold m_R13_reduced
 rw[hc]
 simp only[some_bind]
 rw[ht]
 simp only[some_bind]
 have e1:bc .i64 (aT nodes) 1=(i:Int):=by
  unfold bc aT
  rw[i64_in (by omega)]
  omega
 rw[e1,c1]
 simp only[some_bind]
 have e2:m_R13_walk_o_N nodes cls c (List.replicate nodes.length (-1))=some (dn,ser (post (L+1) u [])):=hw
 rw[e2]
 rfl
end
end Go.Proofs.YtcllfealpkhjfaaGreatDoor
namespace Go.Proofs.YtcllfealpkhjfaaGreatDoor
open Go.AM Go.Proofs Go.Lib
def valD (l:List UInt8):Nat:=l.foldl (fun a b=>a*10+(b.toNat - 48)) 0
theorem valD_dec:∀ u:Nat,valD (decDigits u)=u:=by
 intro u
 induction u using Nat.strongRecOn with
 | ind u ih =>
  rw[decDigits]
  split
  ·rename_i h
   simp only[valD,List.foldl_cons,List.foldl_nil,UInt8.toNat_ofNat']
   omega
  ·rename_i h
   have h1:=ih (u / 10) (by omega)
   unfold valD at h1 ⊢
   rw[List.foldl_append,h1]
   simp only[List.foldl_cons,List.foldl_nil,UInt8.toNat_ofNat']
   omega
theorem dig_dec:∀ u:Nat,∀ b∈decDigits u,48<=b.toNat/\b.toNat<=57:=by
 intro u
 induction u using Nat.strongRecOn with
 | ind u ih =>
  rw[decDigits]
  split
  ·rename_i h
   intro b hb
   rw[List.mem_singleton] at hb
   subst hb
   rw[UInt8.toNat_ofNat']
   omega
  ·rename_i h
   intro b hb
   rcases List.mem_append.1 hb with hb | hb
   ·exact ih (u / 10) (by omega) b hb
   ·rw[List.mem_singleton] at hb
    subst hb
    rw[UInt8.toNat_ofNat']
    omega
theorem len_dec:∀ (k u:Nat),u < 10 ^ k->1<=k->(decDigits u).length<=k
 | 0,_,_,h=>absurd h (by omega)
 | k+1,u,hu,_=>by
  rw[decDigits]
  split
  ·simp
  ·rename_i h
   have hk:1<=k:=by
    rcases k with _ | k
    ·simp at hu; omega
    ·omega
   have:=len_dec k (u / 10) (by rw[Nat.pow_succ] at hu; omega) hk
   simp only[List.length_append,List.length_singleton]
   omega
theorem iconv_nn {x:Int} (h0:0<=x) (h1:x < 1152921504606846976):eg .u64 x=x:=by
 show x % 18446744073709551616=x
 omega
theorem numI:Num digI where
 inj x y h0 _ h0' _ e:=by
  have e':(decDigits x.toNat).map (fun b=>(b.toNat:Int))=(decDigits y.toNat).map (fun b=>(b.toNat:Int)):=e
  have e2:decDigits x.toNat=decDigits y.toNat:=List.map_inj_right (fun a b hab=>UInt8.toNat_inj.1 (by omega)) |>.1 e'
  have:=congrArg valD e2
  rw[valD_dec,valD_dec] at this
  omega
 dig x _ _ b hb:=by
  unfold digI at hb
  obtain⟨c,hc,rfl⟩:=List.mem_map.1 hb
  have:=dig_dec _ c hc
  omega
 len x h0 h1:=by
  unfold digI
  rw[List.length_map]
  exact len_dec 20 x.toNat (by omega) (by omega)
 ap dst x h0 h1 hl:=by
  unfold m_strconv_AppendInt_o m_internal_strconv_AppendInt_o m_internal_strconv_AppendUint_o
  rw[show ltB x 0=false from decide_eq_false (by omega),cond_false]
  simp only[some_bind]
  rw[iconv_nn h0 h1]
  unfold appUM
  rw[show Nat.ble dst.length 4000000000=true from Nat.ble_eq_true_of_le hl,decide_eq_true h0,decide_eq_true (show x < 18446744073709551616 by omega)]
  rfl
 ap0 x h0 h1:=by
  unfold m_strconv_AppendInt_N m_internal_strconv_AppendInt_N m_internal_strconv_AppendUint_o
  rw[show ltB x 0=false from decide_eq_false (by omega),cond_false]
  simp only[some_bind]
  rw[iconv_nn h0 h1]
  unfold appUM
  rw[decide_eq_true h0,decide_eq_true (show x < 18446744073709551616 by omega)]
  rfl
end Go.Proofs.YtcllfealpkhjfaaGreatDoor
namespace Go.Proofs.YtcllfealpkhjfaaGreatDoor
open Go.AM Go.Proofs
def fixD (M s:Nat):(L:Nat)->DD L->DD L
 | 0,u=>u
 | L+1,u=>if L+1=M then DD.of (List.replicate u.kids.length ((u.kids.map (fixD M s L)).getD s (DD.dflt L))) else DD.of (u.kids.map (fixD M s L))
def chgN (M s:Nat) (x:Node):Node:=if x.Level=(M:Int) then ⟨x.Level,List.replicate x.Next.length (x.Next.getD s 0)⟩ else x
theorem chgN_lev (M s:Nat) (x:Node):(chgN M s x).Level=x.Level:=by unfold chgN; split<;>rfl
theorem chgN_len (M s:Nat) (x:Node):(chgN M s x).Next.length=x.Next.length:=by
 unfold chgN
 split
 ·simp
 ·rfl
theorem chgN_mem {M s:Nat} {x:Node} {k:Int} (hs:s < x.Next.length) (h:k∈(chgN M s x).Next):k∈x.Next:=by
 unfold chgN at h
 split at h
 ·have:=List.eq_of_mem_replicate h
  rw[this,List.getD_eq_getElem?_getD,List.getElem?_eq_getElem hs]
  exact List.getElem_mem hs
 ·exact h
theorem rep_fix {nodes:List Node} {M s:Nat}:∀ {L:Nat} {k:Int} {u:DD L},(∀ (i:Nat) x,nodes[i]?=some x->s < x.Next.length)->Rep nodes L k u->Rep (nodes.map (chgN M s)) L k (fixD M s L u)
 | 0,_,_,_,h=>h
 | L+1,k,u,hs,⟨x,h1,h2,h3,h4⟩=>by
  obtain⟨k0,k1,k2⟩:=idx_lt h1
  have hsx:=hs _ x k2
  have ex:∀ (j:Nat) (hj:j < x.Next.length),Rep (nodes.map (chgN M s)) L (x.Next[j]) (fixD M s L (u.kids[j]'(by omega))):=fun j hj=>rep_fix hs (h4 j _ _ (List.getElem?_eq_getElem hj) (List.getElem?_eq_getElem (by omega)))
  refine⟨chgN M s x,by rw[idx_int _ k0,List.getElem?_map,k2]; rfl,by rw[chgN_lev,h2],?_,fun j k' d e1 e2=>?_⟩
  ·rw[chgN_len,h3]
   unfold fixD
   split
   ·simp[DD.kids_of]
   ·simp[DD.kids_of]
  ·have hjl:=(List.getElem?_eq_some_iff.1 e1).1
   rw[chgN_len] at hjl
   by_cases hM:L+1=M
   ·have hc:chgN M s x=⟨x.Level,List.replicate x.Next.length (x.Next.getD s 0)⟩:=if_pos (by omega)
    have hf:(fixD M s (L+1) u).kids=List.replicate u.kids.length ((u.kids.map (fixD M s L)).getD s (DD.dflt L)):=by
     unfold fixD
     rw[if_pos hM]
     rfl
    rw[hc] at e1
    rw[hf] at e2
    rw[List.getElem?_replicate,if_pos (by omega)] at e1 e2
    cases e1
    cases e2
    have hsu:s < u.kids.length:=by omega
    rw[List.getD_eq_getElem?_getD,List.getElem?_eq_getElem hsx,List.getD_eq_getElem?_getD,List.getElem?_map,List.getElem?_eq_getElem hsu]
    exact ex s hsx
   ·have hc:chgN M s x=x:=if_neg (by omega)
    have hf:(fixD M s (L+1) u).kids=u.kids.map (fixD M s L):=by
     unfold fixD
     rw[if_neg hM]
     rfl
    rw[hc,List.getElem?_eq_getElem hjl] at e1
    rw[hf,List.getElem?_map,List.getElem?_eq_getElem (show j < u.kids.length by omega)] at e2
    cases e1
    cases e2
    exact ex j hjl
theorem Good.chg {n:Nat} {nodes:List Node} (h:Good n nodes) {M s:Nat} (hs:s < n):Good n (nodes.map (chgN M s)):=by
 have get:∀ (i:Nat) y,(nodes.map (chgN M s))[i]?=some y->∃ x,nodes[i]?=some x/\y=chgN M s x:=fun i y hy=>by
  rw[List.getElem?_map] at hy
  obtain⟨x,hx,rfl⟩:=Option.map_eq_some_iff.1 hy
  exact⟨x,hx,rfl⟩
 refine⟨fun i y hy=>?_,fun i y hy=>?_,fun i y hy h1 k hk=>?_,fun i y hy h1 k hk=>?_⟩
 ·obtain⟨x,hx,rfl⟩:=get i y hy
  rw[chgN_lev]
  exact h.lev i x hx
 ·obtain⟨x,hx,rfl⟩:=get i y hy
  rw[chgN_len]
  exact h.len i x hx
 ·obtain⟨x,hx,rfl⟩:=get i y hy
  rw[chgN_lev] at h1 ⊢
  obtain⟨a,b,z,hz,hl⟩:=h.kid i x hx h1 k (chgN_mem (by rw[h.len i x hx]; exact hs) hk)
  exact⟨a,b,chgN M s z,by rw[List.getElem?_map,hz]; rfl,by rw[chgN_lev,hl]⟩
 ·obtain⟨x,hx,rfl⟩:=get i y hy
  rw[chgN_lev] at h1
  exact h.st i x hx h1 k (chgN_mem (by rw[h.len i x hx]; exact hs) hk)
theorem fix13_loop {n:Nat} {t:Tree} (hG:Good n t.Nodes) (hst:t.States=(n:Int)) (hn:n<=1000000) (hl:t.Nodes.length<=1099511627) (hh:t.Hood.length<=1000000) {k s:Nat} (hk:k < t.Hood.length) (hs:s < n) :
  aY (b_R13_Fix_1 t (k:Int) (s:Int)) ba (0,[])=some (t.Nodes.map (chgN (t.Hood.length - k) s)):=by
 have hM:bc .i64 (aT t.Hood) (k:Int)=((t.Hood.length - k:Nat):Int):=by
  unfold bc aT
  rw[i64_in (by omega)]
  omega
 have inner:∀ (i:Nat) (x:Node) (l:List Node),t.Nodes[i]?=some x->aY (b_R13_Fix_2 t (k:Int) (s:Int) (i:Int) l x) ba (0,[])=some (chgN (t.Hood.length - k) s x).Next:=fun i x l hx=>by
  have hxl:=hG.len i x hx
  have hcl:=chgN_len (t.Hood.length - k) s x
  obtain⟨r,hr,rfl⟩:=loop_iv (b:=b_R13_Fix_2 t (k:Int) (s:Int) (i:Int) l x) (n:=n) (s:=(0,[])) (fun j st=>st=((j:Int),(chgN (t.Hood.length - k) s x).Next.take j)) (fun r=>r=(chgN (t.Hood.length - k) s x).Next) (by omega) rfl
   (fun j st hj e=>by
    subst e
    refine .inl ⟨_,?_,rfl⟩
    have hjc:j < (chgN (t.Hood.length - k) s x).Next.length:=by omega
    unfold b_R13_Fix_2
    dsimp only
    rw[hst,show ltB (j:Int) (n:Int)=true from decide_eq_true (by omega),cond_true,hM,idx_nat,hx]
    have hap:∀ y:Int,appL 8 ((chgN (t.Hood.length - k) s x).Next.take j) [y]=some ((chgN (t.Hood.length - k) s x).Next.take j++[y]):=fun y=>if_pos ⟨by decide,by simp only[List.length_singleton,List.length_take]; omega⟩
    have htk:(chgN (t.Hood.length - k) s x).Next.take (j+1)=(chgN (t.Hood.length - k) s x).Next.take j++[(chgN (t.Hood.length - k) s x).Next[j]]:=by
     rw[List.take_add_one,List.getElem?_eq_getElem hjc]
     rfl
    by_cases hL:x.Level=((t.Hood.length - k:Nat):Int)
    ·have hg:(chgN (t.Hood.length - k) s x).Next[j]=x.Next[s]'(by omega):=by
      have:(chgN (t.Hood.length - k) s x)=⟨x.Level,List.replicate x.Next.length (x.Next.getD s 0)⟩:=if_pos hL
      simp only[this,List.getElem_replicate]
      rw[List.getD_eq_getElem?_getD,List.getElem?_eq_getElem (by omega)]
      rfl
     rw[show eqB x.Level ((t.Hood.length - k:Nat):Int)=true from by simp[eqB,hL],cond_true]
     simp only[some_bind]
     rw[idx_nat,List.getElem?_eq_getElem (show s < x.Next.length by omega)]
     simp only[some_bind]
     rw[hap]
     simp only[some_bind]
     rw[up_nat (by omega),htk,hg]
    ·have hg:(chgN (t.Hood.length - k) s x).Next[j]=x.Next[j]'(by omega):=by
      have:chgN (t.Hood.length - k) s x=x:=if_neg hL
      simp only[this]
     rw[show eqB x.Level ((t.Hood.length - k:Nat):Int)=false from by simp[eqB,hL],cond_false]
     simp only[some_bind]
     rw[idx_nat,List.getElem?_eq_getElem (show j < x.Next.length by omega)]
     simp only[some_bind]
     rw[hap]
     simp only[some_bind]
     rw[up_nat (by omega),htk,hg])
   (fun st e=>by
    subst e
    refine⟨_,?_,rfl⟩
    unfold b_R13_Fix_2
    dsimp only
    rw[hst,show ltB (n:Int) (n:Int)=false from decide_eq_false (by omega),cond_false,List.take_of_length_le (by omega)])
  exact hr
 obtain⟨r,hr,rfl⟩:=loop_iv (b:=b_R13_Fix_1 t (k:Int) (s:Int)) (n:=t.Nodes.length) (s:=(0,[])) (fun i st=>st=((i:Int),(t.Nodes.take i).map (chgN (t.Hood.length - k) s))) (fun r=>r=t.Nodes.map (chgN (t.Hood.length - k) s)) (by omega) rfl
  (fun i st hi e=>by
   subst e
   refine .inl ⟨_,?_,rfl⟩
   have hx:t.Nodes[i]?=some t.Nodes[i]:=List.getElem?_eq_getElem hi
   unfold b_R13_Fix_1
   dsimp only
   rw[ltB_nat,decide_eq_true hi,cond_true,idx_nat,hx]
   simp only[some_bind]
   rw[inner i _ _ hx]
   simp only[some_bind]
   rw[show appL 32 ((t.Nodes.take i).map (chgN (t.Hood.length - k) s)) [(⟨t.Nodes[i].Level,(chgN (t.Hood.length - k) s t.Nodes[i]).Next⟩:Node)]=some _ from if_pos ⟨by decide,by simp only[List.length_singleton,List.length_map,List.length_take]; omega⟩]
   simp only[some_bind]
   have e:(⟨t.Nodes[i].Level,(chgN (t.Hood.length - k) s t.Nodes[i]).Next⟩:Node)=chgN (t.Hood.length - k) s t.Nodes[i]:=by
    rw[<- chgN_lev (t.Hood.length - k) s t.Nodes[i]]
   rw[e,up_nat (by omega),List.take_add_one,hx,List.map_append]
   rfl)
  (fun st e=>by
   subst e
   refine⟨_,?_,rfl⟩
   unfold b_R13_Fix_1
   dsimp only
   rw[ltB_nat,decide_eq_false (Nat.lt_irrefl _),cond_false,List.take_length])
 exact hr
end Go.Proofs.YtcllfealpkhjfaaGreatDoor
namespace Go.Proofs.YtcllfealpkhjfaaGreatDoor
open Go.AM Go.Proofs
theorem set_same {α:Type} {l:List α} {i:Nat} {v:α} (h:l[i]?=some v):l.set i v=l:=by
 apply List.ext_getElem?
 intro j
 rw[List.getElem?_set]
 by_cases he:i=j
 ·subst he
  rw[if_pos rfl,if_pos (List.getElem?_eq_some_iff.1 h).1,h]
 ·rw[if_neg he]
theorem node2_eq (l:List Node) (mp:List (List UInt8×Int)) (v:Int) (next:List Int):m_reduce_builder_node_o_o l mp v next=m_reduce_builder_node_o l mp v next:=by
 have:b_reduce_builder_node_o_o_1 l mp v next=b_reduce_builder_node_o_1 l mp v next:=by
  funext st
  obtain⟨a1,keyv⟩:=st
  rfl
 unfold m_reduce_builder_node_o_o m_reduce_builder_node_o
 rw[this]
end Go.Proofs.YtcllfealpkhjfaaGreatDoor
