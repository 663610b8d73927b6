/- Plain laws: the program's turned tree, equal trees, and the symmetries of a tree. -/
import Derived.Test.YtlifofijgddjkabGreatDoorSwx1
namespace Go.Proofs.YtlifofijgddjkabGreatDoor
open Go.AM Go.Proofs
theorem hood_pts0 {l:List Point} (h:hoodOk l=true):1<=l.length/\l.length<=25/\∀ d∈l,-2<=d.X/\d.X<=2/\-2<=d.Y/\d.Y<=2:=by
 simp only[hoodOk,Bool.and_eq_true,Bool.not_eq_true',Bool.or_eq_false_iff] at h
 have c1:=of_decide_eq_false h.1.1
 have c2:=of_decide_eq_false h.1.2
 unfold aO at c1 c2
 refine⟨by omega,by omega,fun d hd=>?_⟩
 obtain⟨i,hi⟩:=List.mem_iff_getElem?.1 hd
 have hb:=anyB_false h.2 i d hi
 rw[Nat.zero_add] at hb
 unfold badP at hb
 simp only[Bool.or_eq_false_iff] at hb
 obtain⟨e1,e2,e3,e4,_⟩:=hb
 have f1:=of_decide_eq_false e1
 have f2:=of_decide_eq_false e2
 have f3:=of_decide_eq_false e3
 have f4:=of_decide_eq_false e4
 omega
theorem w1_eq (t:Tree):b_reduce_rebuilt_reduce_Reduce_1_w_1 t=b_reduce_rebuilt_reduce_Reduce_1_1 t:=by
 rfl
theorem rebuiltW_is {n:Nat} {t:Tree} (hS:Szd n t.Nodes) (hh:t.Hood.length<=1000000) {L i:Nat} {u:DD (L+1)} (hi:i+1=t.Nodes.length) (hr:Rep t.Nodes (L+1) i u) :
  m_reduce_rebuilt_reduce_Reduce_1_w t=some (ser (post (L+1) u [])):=by
 obtain⟨mp,l,to_,hl,h⟩:=rebuilt_loop numI hS
 obtain⟨k,hk,hr'⟩:=h.mp L i u (by omega) hr
 have hsl:=hS.len
 have hll:=h.ll
 obtain⟨x,hx1,hx2,_⟩:=id hr
 rw[idx_nat] at hx1
 have hlv:=hS.lev x (List.mem_of_getElem? hx1)
 have ho:=ordered_is h.gd h.kn.nd (by omega) hS.n6 (L:=L) (by omega) hr'
 have hi':idx to_ (aX .i64 (aO to_) 1)=some k:=by
  have:aX .i64 (aO to_) 1=(i:Int):=by
   unfold aX aO
   rw[h.tl,i64_in (by omega)]
   omega
  rw[this,idx_nat,hk]
 simp_all [m_reduce_rebuilt_reduce_Reduce_1_w,w1_eq,hoodc_is]
structure TD (n L:Nat) (t:Tree) (u:DD (L+1)):Prop where
 ok:treeOk t=true
 tok:TOk n t
 hL:L+1=t.Hood.length
 rep:∃ i,i+1=t.Nodes.length/\Rep t.Nodes (L+1) (i:Nat) u
 reg:Reg n (L+1) u
theorem td_of {t:Tree} (hok:treeOk t=true):∃ n L,∃ u:DD (L+1),TD n L t u:=by
 obtain⟨n,h⟩:=ok_tree hok
 obtain⟨L,i,u,hi,hL,hr,hg⟩:=h.rep
 exact⟨n,L,u,hok,h,hL,⟨i,hi,hr⟩,hg⟩
section
variable {n L:Nat} {t:Tree} {u:DD (L+1)}
theorem TD.reduceW (T:TD n L t u):m_reduce_Reduce_w t=some (t.States,ser (post (L+1) u []),t.Hood):=by
 obtain⟨i,hi,hr⟩:=T.rep
 have h25:=T.tok.h25
 unfold m_reduce_Reduce_w
 rw[tree_eq (sz_of T.tok),T.ok]
 simp only[some_bind,ba,Bool.not_true,cond_false]
 rw[rebuiltW_is T.tok.szd (by omega) hi hr]
 rfl
theorem TD.reduce (T:TD n L t u):m_reduce_Reduce t=some ⟨t.States,t.Hood,ser (post (L+1) u [])⟩:=by
 obtain⟨i,hi,hr⟩:=T.rep
 have h25:=T.tok.h25
 unfold m_reduce_Reduce
 rw[tree_eq (sz_of T.tok),T.ok]
 simp only[some_bind,ba,Bool.not_true,cond_false]
 rw[rebuilt_is numI T.tok.szd (by omega) hi hr]
 rfl
theorem apply_loop {k:Nat} (hk:k < 8) {S:Int} {nn:List Node} {l:List Point} (hl:l.length<=1000) (hp:∀ p∈l,-2<=p.X/\p.X<=2/\-2<=p.Y/\p.Y<=2):aT (b_reduce_Turn_1 (k:Int) (S,nn,l)) b7 (0,l)=some (l.map (apK k)):=by
 obtain⟨r,hr,rfl⟩:=loop_iv (b:=b_reduce_Turn_1 (k:Int) (S,nn,l)) (n:=l.length) (s:=(0,l)) (fun i st=>st=((i:Int),half (apK k) l i)) (fun r=>r=l.map (apK k)) (by omega) (by rfl)
  (fun i st hi e=>by
   subst e
   have hx:l[i]?=some l[i]:=List.getElem?_eq_getElem hi
   have hs:=hp l[i] (List.getElem_mem hi)
   refine .inl ⟨_,?_,rfl⟩
   unfold b_reduce_Turn_1
   dsimp only
   rw[ltB_nat,decide_eq_true hi,cond_true,idx_nat,half_get _ hi,hx,up_nat (by omega)]
   simp only[some_bind]
   rw[apply_eq (p:=l[i]) ⟨by omega,by omega⟩ hk]
   grind [half_set])
  (fun st e=>by
   subst e
   refine⟨_,?_,rfl⟩
   simp[b_reduce_Turn_1,ltB_nat,half_len])
 exact hr
theorem befP_trans {a b c:Point} (h:befP a b=true) (h':befP b c=true):befP a c=true:=by
 rw[befP_iff'] at *
 omega
theorem befP_tri (a b:Point):befP a b=true \/ a=b \/ befP b a=true:=by
 rw[befP_iff',befP_iff']
 cases a
 cases b
 grind
theorem hood_sorted {l:List Point} (h:hoodOk l=true):l.Pairwise fun a b=>befP a b=true:=by
 simp only[hoodOk,Bool.and_eq_true,Bool.not_eq_true',Bool.or_eq_false_iff] at h
 refine pairwise_adj (r:=fun a b=>befP a b=true) (fun a b c=>befP_trans) _ fun i a b ha hb=>?_
 have:=anyB_false h.2 (i+1) b hb
 simp_all [badP]
theorem sorted_hood {l:List Point} (h1:1<=l.length) (h25:l.length<=25) (hp:∀ p∈l,-2<=p.X/\p.X<=2/\-2<=p.Y/\p.Y<=2) (hs:l.Pairwise fun a b=>befP a b=true):hoodOk l=true:=by
 simp only[hoodOk,Bool.and_eq_true,Bool.not_eq_true',Bool.or_eq_false_iff]
 refine⟨⟨decide_eq_false (by unfold aO; omega),decide_eq_false (by unfold aO; omega)⟩,anyB_of_false fun i x hx=>?_⟩
 have g:=hp x (List.mem_of_getElem? hx)
 rw[Nat.zero_add]
 unfold badP
 simp only[Bool.or_eq_false_iff]
 refine⟨decide_eq_false (by omega),decide_eq_false (by omega),decide_eq_false (by omega),decide_eq_false (by omega),?_⟩
 grind [List.pairwise_iff_getElem]
theorem sorted_nodup {l:List Point} (hs:l.Pairwise fun a b=>befP a b=true):l.Nodup:=by
 rw[List.nodup_iff_pairwise_ne]
 refine hs.imp fun{a b} h e=>?_
 grind [befP_iff']
theorem sorted_uniq {l m:List Point} (hl:l.Pairwise fun a b=>befP a b=true) (hm:m.Pairwise fun a b=>befP a b=true) (hp:l.Perm m):l=m:=by
 grind [List.Perm.eq_of_pairwise,befP_iff']
theorem turned_is (T:TD n L t u) (hcnt:cntOk n L) {k:Nat} (hk:k < 8):∃ l v,TRI n L (t.Hood.map (apK k)) u l v/\l.Pairwise (fun a b=>befP a b=true) /\
  m_reduce_Turn (k:Int) t=some (bif gtB (aO (ser (post (L+1) v []))) 4096 then (⟨0,[],[]⟩,6) else (⟨t.States,l,ser (post (L+1) v [])⟩,0)):=by
 have h25:=T.tok.h25
 have hL:=T.hL
 have hh:=tok_hood T.ok
 obtain⟨_,_,hpt⟩:=hood_pts0 hh
 have hIs:∀ p∈t.Hood.map (apK k),-2<=p.X/\p.X<=2/\-2<=p.Y/\p.Y<=2:=fun p hp=>by
  obtain⟨q,hq,rfl⟩:=List.mem_map.1 hp
  exact apK_small (hpt q hq) k
 obtain⟨l,v,h1,h2,h3⟩:=passes_is (I:=t.Hood.map (apK k)) T.tok.st T.tok.n2 T.tok.n8 (by simp_all) (by omega) hcnt hIs (nn:=ser (post (L+1) u [])) (hh:=t.Hood) ⟨List.Perm.refl _,T.reg,fun _ _=>rfl⟩
 have hnd:(t.Hood.map (apK k)).Nodup:=by
  have:=sorted_nodup (hood_sorted hh)
  grind [apK_inj]
 have hndl:l.Nodup:=h2.perm.nodup_iff.2 hnd
 refine⟨l,v,h2,pairwise_adj (r:=fun a b=>befP a b=true) (fun a b c=>befP_trans) _ fun i a b ha hb=>?_,?_⟩
 ·grind [befP_tri,List.getElem?_inj]
 ·unfold m_reduce_Turn
  rw[tree_eq (sz_of T.tok),T.ok]
  simp only[some_bind,ba,Bool.not_true,cond_false]
  rw[T.reduceW]
  grind [apply_loop,sized_eq]
end
end Go.Proofs.YtlifofijgddjkabGreatDoor
namespace Go.Proofs.YtlifofijgddjkabGreatDoor
open Go.AM Go.Proofs
theorem eq_loop {α:Type} [DecidableEq α] {b:Int->Option (Lp Int (Bool ⊕ Unit))} (l m:List α) (hlm:l.length=m.length) (hl:l.length < 1099511627776)
  (hs:∀ (i:Nat) x y,l[i]?=some x->m[i]?=some y->b (i:Int)=some (bif decide (x=y) then .next ((i+1:Nat):Int) else .out (.inl false)))
  (he:b (l.length:Nat)=some (.out (.inr ()))):aT b b7 0=some (bif decide (l=m) then .inr () else .inl false):=by
 obtain⟨o,ho,rfl⟩:=loop_iv (b:=b) (n:=l.length) (s:=0) (fun i st=>st=(i:Int)/\∀ j:Nat,j < i->l[j]?=m[j]?) (fun o=>o=bif decide (l=m) then .inr () else .inl false) hl ⟨rfl,fun j hj=>by omega⟩
  (fun i st hi ⟨e,h⟩=>by
   subst e
   have hx:l[i]?=some l[i]:=List.getElem?_eq_getElem hi
   have hy:m[i]?=some (m[i]'(by omega)):=List.getElem?_eq_getElem _
   generalize l[i]=x at hx
   generalize m[i]'(by omega)=y at hy
   rw[hs i x y hx hy]
   by_cases hxy:x=y
   ·rw[decide_eq_true hxy]
    refine .inl ⟨_,rfl,rfl,fun j hj=>?_⟩
    rcases Nat.lt_succ_iff_lt_or_eq.1 hj with hj | rfl
    ·exact h j hj
    ·rw[hx,hy,hxy]
   ·rw[decide_eq_false hxy]
    refine .inr ⟨_,rfl,?_⟩
    rw[decide_eq_false fun e=>hxy (by subst e; rw[hx] at hy; exact Option.some.inj hy)]
    rfl)
  (fun st ⟨e,h⟩=>by
   subst e
   refine⟨_,he,?_⟩
   rw[decide_eq_true (List.ext_getElem? fun j=>?_)]
   ·rfl
   ·rcases Nat.lt_or_ge j l.length with hj | hj
    ·exact h j hj
    ·rw[List.getElem?_eq_none hj,List.getElem?_eq_none (by omega)])
 exact ho
theorem hoodSame_eq {a b:List Point} (ha:a.length < 1099511627776):m_hood_Same a b=some (decide (a=b)):=by
 unfold m_hood_Same m_slices_Equal_api_Point_api_Point
 by_cases hl:a.length=b.length
 ·rw[show neB (aO a) (aO b)=false from by simp[neB,aO,hl],cond_false,eq_loop a b hl ha (fun i x y hx hy=>by
   unfold b_slices_Equal_api_Point_api_Point_1
   dsimp only
   rw[ltB_nat,decide_eq_true (List.getElem?_eq_some_iff.1 hx).1,cond_true,idx_nat,hx,idx_nat,hy,up_nat (by have:=(List.getElem?_eq_some_iff.1 hx).1; omega)]
   simp only[some_bind]
   have:ba (gP (eqB x.X y.X) (gP (eqB x.Y y.Y) true))=!decide (x=y):=by
    cases x
    cases y
    simp only[ba,gP,eqB,Point.mk.injEq,Bool.and_true,Bool.decide_and]
    rfl
   rw[this]
   cases decide (x=y)<;>rfl) (by
   unfold b_slices_Equal_api_Point_api_Point_1
   dsimp only
   rw[ltB_nat,decide_eq_false (Nat.lt_irrefl _)]
   rfl)]
  cases decide (a=b)<;>rfl
 ·rw[show neB (aO a) (aO b)=true from by simp[neB,aO]; omega,cond_true,decide_eq_false fun e=>hl (by rw[e])]
  rfl
theorem intsSame_eq {a b:List Int} (ha:a.length < 1099511627776):m_slices_Equal_int_int a b=some (decide (a=b)):=by
 unfold m_slices_Equal_int_int
 by_cases hl:a.length=b.length
 ·rw[show neB (aO a) (aO b)=false from by simp[neB,aO,hl],cond_false,eq_loop a b hl ha (fun i x y hx hy=>by
   unfold b_slices_Equal_int_int_1
   dsimp only
   rw[ltB_nat,decide_eq_true (List.getElem?_eq_some_iff.1 hx).1,cond_true,idx_nat,hx,idx_nat,hy,up_nat (by have:=(List.getElem?_eq_some_iff.1 hx).1; omega)]
   simp only[some_bind]
   have:neB x y=!decide (x=y):=by
    by_cases h:x=y
    ·subst h; simp[neB]
    ·simp[neB,h]
   rw[this]
   cases decide (x=y)<;>rfl) (by
   unfold b_slices_Equal_int_int_1
   dsimp only
   rw[ltB_nat,decide_eq_false (Nat.lt_irrefl _)]
   rfl)]
  cases decide (a=b)<;>rfl
 ·rw[show neB (aO a) (aO b)=true from by simp[neB,aO]; omega,cond_true,decide_eq_false fun e=>hl (by rw[e])]
theorem treeSame_eq {a b:Tree} (hh:a.Hood.length < 1099511627776) (hn:a.Nodes.length < 1099511627776) (hx:∀ x∈a.Nodes,x.Next.length < 1099511627776):m_tree_Same a b=some (decide (a=b)):=by
 have hnodes:m_slices_EqualFunc_api_Node_api_Node_api_Node_api_Node_tree_Same_1 a.Nodes b.Nodes=some (decide (a.Nodes=b.Nodes)):=by
  unfold m_slices_EqualFunc_api_Node_api_Node_api_Node_api_Node_tree_Same_1
  by_cases hl:a.Nodes.length=b.Nodes.length
  ·rw[show neB (aO a.Nodes) (aO b.Nodes)=false from by simp[neB,aO,hl],cond_false,eq_loop a.Nodes b.Nodes hl hn (fun i x y hxi hy=>by
    unfold b_slices_EqualFunc_api_Node_api_Node_api_Node_api_Node_tree_Same_1_1 m_tree_Same_1
    dsimp only
    rw[ltB_nat,decide_eq_true (List.getElem?_eq_some_iff.1 hxi).1,cond_true,idx_nat,hxi,idx_nat,hy,up_nat (by have:=(List.getElem?_eq_some_iff.1 hxi).1; omega)]
    simp only[some_bind]
    rw[intsSame_eq (hx x (List.mem_of_getElem? hxi))]
    have:decide (x=y)=(eqB x.Level y.Level && decide (x.Next=y.Next)):=by
     cases x
     cases y
     simp only[eqB,Node.mk.injEq,Bool.decide_and]
     rfl
    rw[this]
    cases eqB x.Level y.Level<;>cases decide (x.Next=y.Next)<;>rfl) (by
    unfold b_slices_EqualFunc_api_Node_api_Node_api_Node_api_Node_tree_Same_1_1
    dsimp only
    rw[ltB_nat,decide_eq_false (Nat.lt_irrefl _)]
    rfl)]
   cases decide (a.Nodes=b.Nodes)<;>rfl
  ·rw[show neB (aO a.Nodes) (aO b.Nodes)=true from by simp[neB,aO]; omega,cond_true,decide_eq_false fun e=>hl (by rw[e])]
 unfold m_tree_Same
 rw[hoodSame_eq hh,hnodes]
 have:decide (a=b)=(eqB a.States b.States && (decide (a.Hood=b.Hood) && decide (a.Nodes=b.Nodes))):=by
  cases a
  cases b
  simp only[eqB,Tree.mk.injEq,Bool.decide_and]
  rfl
 rw[this]
 cases eqB a.States b.States<;>cases decide (a.Hood=b.Hood)<;>cases decide (a.Nodes=b.Nodes)<;>rfl
theorem post_rep {nodes:List Node}:∀ (L:Nat) (u:DD L) (s:List ND),(∃ k,Rep nodes L k u)->(∀ x∈s,∃ k,Rep nodes (x.1+1) k x.2)->∀ x∈post L u s,∃ k,Rep nodes (x.1+1) k x.2
 | 0,_,_,_,h=>h
 | L+1,u,s,hu,h=>by
  unfold post
  split
  ·exact h
  ·have hk:∀ d∈u.kids,∃ k,Rep nodes L k d:=by
    obtain⟨k,x,_,_,h3,h4⟩:=hu
    intro d hd
    obtain⟨i,hi⟩:=List.mem_iff_getElem?.1 hd
    have hlt:=(List.getElem?_eq_some_iff.1 hi).1
    have hx:x.Next[i]?=some (x.Next[i]'(by omega)):=List.getElem?_eq_getElem _
    exact⟨_,h4 i _ d hx hi⟩
   have fold:∀ (l:List (DD L)) (s:List ND),(∀ d∈l,∃ k,Rep nodes L k d)->(∀ x∈s,∃ k,Rep nodes (x.1+1) k x.2)->∀ x∈l.foldl (fun s d=>post L d s) s,∃ k,Rep nodes (x.1+1) k x.2:=by
    intro l
    induction l with
    | nil=>intro s _ hs; exact hs
    | cons d l ih=>intro s hl hs; exact ih _ (fun e he=>hl e (by simp[he])) (post_rep L d s (hl d (by simp)) hs)
   intro x hx
   rcases List.mem_append.1 hx with hx | hx
   ·exact fold u.kids s hk h x hx
   ·obtain rfl:=List.mem_singleton.1 hx
    exact hu
theorem red_len {n L:Nat} {t:Tree} {u:DD (L+1)} (T:TD n L t u):(ser (post (L+1) u [])).length<=t.Nodes.length:=by
 obtain⟨i,hi,hr⟩:=T.rep
 have hp:=post_tree T.reg
 rw[show (ser (post (L+1) u [])).length=(post (L+1) u []).length from by unfold ser; rw[List.length_map]]
 exact len_le (R:=fun k (x:ND)=>Rep t.Nodes (x.1+1) (k:Nat) x.2) hp.nd (fun x hx=>by
  obtain⟨k,hk⟩:=post_rep (L+1) u [] ⟨_,hr⟩ (fun x hx=>by cases hx) x hx
  obtain⟨y,h1,_⟩:=id hk
  obtain⟨a,b,_⟩:=idx_lt h1
  exact⟨k.toNat,by omega,by rwa [show ((k.toNat:Nat):Int)=k by omega]⟩) fun k x y hx hy=>hx.lev hy
section
variable {n n' L L':Nat} {t t':Tree} {u:DD (L+1)} {u':DD (L'+1)}
theorem equal_is (T:TD n L t u) (T':TD n' L' t' u'):m_reduce_Equal t t'=some (decide (t.States=t'.States) && (decide (t.Hood=t'.Hood) && decide (ser (post (L+1) u [])=ser (post (L'+1) u' [])))):=by
 have h25:=T.tok.h25
 have hpo:=post_tree T.reg
 have hln:=red_len T
 have hn4:=T.tok.nodes
 have hn8:=T.tok.n8
 unfold m_reduce_Equal
 rw[tree_eq (sz_of T.tok),T.ok,tree_eq (sz_of T'.tok),T'.ok,hoodSame_eq (by omega),T.reduce,T'.reduce]
 simp only[some_bind,cond_true]
 rw[treeSame_eq (by show t.Hood.length < _; omega) (by show (ser (post (L+1) u [])).length < _; omega) (fun x hx=>by
  obtain⟨i,hi⟩:=List.mem_iff_getElem?.1 hx
  have:=hpo.good.len i x hi
  omega)]
 have:decide ((⟨t.States,t.Hood,ser (post (L+1) u [])⟩:Tree)=⟨t'.States,t'.Hood,ser (post (L'+1) u' [])⟩)=(decide (t.States=t'.States) && (decide (t.Hood=t'.Hood) && decide (ser (post (L+1) u [])=ser (post (L'+1) u' [])))):=by
  simp only[Tree.mk.injEq,Bool.decide_and]
 rw[this,show eqB t.States t'.States=decide (t.States=t'.States) from by
  by_cases h:t.States=t'.States
  ·simp[eqB,h]
  ·simp[eqB,h]]
 cases decide (t.States=t'.States)<;>cases decide (t.Hood=t'.Hood)<;>cases decide (ser (post (L+1) u [])=ser (post (L'+1) u' []))<;>rfl
end
theorem perm_of_sub:∀ {l m:List Point},l.Nodup->(∀ p∈l,p∈m)->m.length<=l.length->l.Perm m
 | [],m,_,_,h=>by
  have:m=[]:=List.eq_nil_of_length_eq_zero (by simpa using h)
  rw[this]
 | a::l,m,hn,hs,h=>by
  obtain⟨h1,h2⟩:=List.nodup_cons.1 hn
  have ha:=hs a (by simp)
  have hp:=List.perm_cons_erase ha
  have hl:=hp.length_eq
  simp only[List.length_cons] at hl h
  exact ((perm_of_sub h2 (fun p hp=>(List.mem_erase_of_ne fun e=>h1 (by rw[<- e]; exact hp)).2 (hs p (by simp[hp]))) (by omega)).cons a).trans hp.symm
section
variable {n L:Nat} {t:Tree} {u:DD (L+1)}
structure Inv (n L:Nat) (t:Tree) (u:DD (L+1)) (k:Nat):Prop where
 hood:∀ p∈t.Hood,apK k p∈t.Hood
 sem:∀ c:Point->Nat,(∀ p,c p < n)->evD (L+1) u (t.Hood.map c)=evD (L+1) u (t.Hood.map fun p=>c (apK k p))
theorem td_turned (T:TD n L t u) {k:Nat} {l:List Point} {v:DD (L+1)} (h:TRI n L (t.Hood.map (apK k)) u l v) (hs:l.Pairwise fun a b=>befP a b=true) (hl:(ser (post (L+1) v [])).length<=4096):TD n L ⟨t.States,l,ser (post (L+1) v [])⟩ v:=by
 have hlen:=h.perm.length_eq
 rw[List.length_map] at hlen
 have hL:=T.hL
 have h25:=T.tok.h25
 have hp:=post_tree h.reg
 obtain⟨j,hj,hr⟩:=hp.rep
 have hpt:=(hood_pts0 (tok_hood T.ok)).2.2
 have hhood:hoodOk l=true:=sorted_hood (by omega) (by omega) (fun p hp'=>by
  obtain⟨q,hq,rfl⟩:=List.mem_map.1 (h.perm.subset hp')
  exact apK_small (hpt q hq) k) hs
 obtain⟨x,hx1,hx2,_⟩:=id hr
 rw[idx_nat] at hx1
 have tok:TOk n ⟨t.States,l,ser (post (L+1) v [])⟩:=⟨T.tok.st,T.tok.n2,T.tok.n8,by show 1<=l.length; omega,by show l.length<=25; omega,hl,hp.good,fun x hx=>by have:=hp.lev x hx; show x.Level<=(l.length:Int); omega,⟨j,x,hj,hx1,by show x.Level=(l.length:Int); omega⟩⟩
 exact⟨tok_ok tok hhood,tok,by show L+1=l.length; omega,⟨j,hj,hr⟩,h.reg⟩
theorem inv_iff (T:TD n L t u) {k:Nat} {l:List Point} {v:DD (L+1)} (h:TRI n L (t.Hood.map (apK k)) u l v) (hs:l.Pairwise fun a b=>befP a b=true):Inv n L t u k↔(l=t.Hood/\v=u):=by
 have hsort:=hood_sorted (tok_hood T.ok)
 have hnd:=sorted_nodup hsort
 have hn2:=T.tok.n2
 constructor
 ·intro hi
  have hndm:(t.Hood.map (apK k)).Nodup:=by
   have:=hnd
   rw[List.nodup_iff_pairwise_ne] at this ⊢
   rw[List.pairwise_map]
   exact this.imp fun{a b} h e=>h (apK_inj k e)
  have hperm:(t.Hood.map (apK k)).Perm t.Hood:=perm_of_sub hndm (fun p hp=>by
   obtain⟨q,hq,rfl⟩:=List.mem_map.1 hp
   exact hi.hood q hq) (by rw[List.length_map]; exact Nat.le_refl _)
  have hl:l=t.Hood:=sorted_uniq hs hsort (h.perm.trans hperm)
  refine⟨hl,evD_ext h.reg T.reg fun s hst=>?_⟩
  obtain⟨c,hc⟩:∃ c:Point->Nat,c=fun p=>s.getD (t.Hood.idxOf p) 0:=⟨_,rfl⟩
  have hcn:∀ p,c p < n:=fun p=>by
   rw[hc]
   dsimp only
   rw[List.getD_eq_getElem?_getD]
   cases hg:s[t.Hood.idxOf p]? with
   | none=>show (0:Nat) < n; omega
   | some x=>exact hst.2 x (List.mem_of_getElem? hg)
  have hcs:t.Hood.map c=s:=by
   apply List.ext_getElem?
   intro i
   rw[List.getElem?_map]
   rcases Nat.lt_or_ge i t.Hood.length with hi' | hi'
   ·have hp:t.Hood[i]?=some t.Hood[i]:=List.getElem?_eq_getElem hi'
    have hx:t.Hood.idxOf t.Hood[i]=i:=by
     have hm:t.Hood[i]∈t.Hood:=List.getElem_mem hi'
     have hlt:=List.idxOf_lt_length_iff.2 hm
     have e:t.Hood[t.Hood.idxOf t.Hood[i]]=t.Hood[i]:=List.getElem_idxOf hlt
     exact (List.getElem_inj hnd).1 e
    rw[hp,Option.map_some,hc]
    dsimp only
    have hL:=T.hL
    have hsl:=hst.1
    rw[hx,List.getD_eq_getElem?_getD,List.getElem?_eq_getElem (by omega)]
    rfl
   ·have hL:=T.hL
    have hsl:=hst.1
    rw[List.getElem?_eq_none hi',List.getElem?_eq_none (by omega)]
    rfl
  have h1:=h.sem c hcn
  rw[hl,hcs,List.map_map] at h1
  rw[h1]
  have h2:=hi.sem c hcn
  rw[hcs] at h2
  exact h2.symm
 ·rintro⟨rfl,rfl⟩
  refine⟨fun p hp=>h.perm.mem_iff.2 (List.mem_map_of_mem hp),fun c hc=>?_⟩
  have:=h.sem c hc
  rw[List.map_map] at this
  exact this
theorem turn_inv (T:TD n L t u) (hcnt:cntOk n L) {k:Nat} (hk:k < 8):∃ t' e,m_reduce_Turn (k:Int) t=some (t',e)/\((Inv n L t u k/\e=0/\m_reduce_Equal t t'=some true/\m_reduce_Equal t' t=some true) \/ (¬Inv n L t u k/\(e=6 \/ (e=0/\m_reduce_Equal t t'=some false)))):=by
 obtain⟨l,v,h1,h2,h3⟩:=turned_is T hcnt hk
 obtain⟨i,hi,hr⟩:=T.rep
 have hln:=red_len T
 have hn4:=T.tok.nodes
 have hiff:=inv_iff T h1 h2
 by_cases hgt:4096 < (ser (post (L+1) v [])).length
 ·rw[show gtB (aO (ser (post (L+1) v []))) 4096=true from decide_eq_true (by unfold aO; omega)] at h3
  refine⟨_,_,h3,.inr ⟨fun hi=>?_,.inl rfl⟩⟩
  obtain⟨_,rfl⟩:=hiff.1 hi
  omega
 ·rw[show gtB (aO (ser (post (L+1) v []))) 4096=false from decide_eq_false (by unfold aO; omega)] at h3
  have T':=td_turned T h1 h2 (by omega)
  have he:=equal_is T T'
  have he':=equal_is T' T
  dsimp only at he he'
  rw[decide_eq_true rfl,Bool.true_and] at he he'
  by_cases hinv:Inv n L t u k
  ·obtain⟨rfl,rfl⟩:=hiff.1 hinv
   rw[decide_eq_true rfl,decide_eq_true rfl] at he he'
   exact⟨_,_,h3,.inl ⟨hinv,rfl,he,he'⟩⟩
  ·refine⟨_,_,h3,.inr ⟨hinv,.inr ⟨rfl,?_⟩⟩⟩
   rw[he]
   congr 1
   by_cases hl:t.Hood=l
   ·rw[decide_eq_true hl,Bool.true_and]
    refine decide_eq_false fun e=>hinv (hiff.2 ⟨hl.symm,(ser_inj T.reg h1.reg e).symm⟩)
   ·rw[decide_eq_false hl]
    rfl
def selL (f:Nat->Bool) (k:Nat):List Int:=(List.range k).flatMap fun(j:Nat)=>bif f j then [(j:Int)] else []
theorem selL_succ (f:Nat->Bool) (k:Nat):selL f (k+1)=selL f k++bif f k then [(k:Int)] else []:=by
 unfold selL
 rw[List.range_succ,List.flatMap_append]
 simp
theorem selL_len (f:Nat->Bool):∀ k,(selL f k).length<=k
 | 0=>by simp[selL]
 | k+1=>by
  have:=selL_len f k
  rw[selL_succ,List.length_append]
  cases f k<;>simp<;>omega
theorem syms_is (T:TD n L t u) (hcnt:cntOk n L) (f:Nat->Bool) (hf:∀ k,k < 8->(f k=true↔Inv n L t u k)):m_notation_Syms t=some (selL f 8):=by
 unfold m_notation_Syms
 obtain⟨r,hr,rfl⟩:=loop_iv (b:=b_notation_Syms_1 t) (n:=8) (s:=(0,[])) (fun k st=>st=((k:Int),selL f k)) (fun r=>r=selL f 8) (by omega) (by simp[selL])
  (fun k st hk e=>by
   subst e
   have hlen:=selL_len f k
   obtain⟨t',e,h1,h2⟩:=turn_inv T hcnt hk
   refine .inl ⟨_,?_,rfl⟩
   unfold b_notation_Syms_1
   dsimp only
   rw[show ltB (k:Int) 8=true from decide_eq_true (by omega),cond_true,h1,up_nat (by omega),selL_succ]
   simp only[some_bind]
   rcases h2 with ⟨g1,rfl,g2,_⟩ | ⟨g1,g2⟩
   ·rw[show eqB 0 0=true from rfl,cond_true,g2,(hf k hk).2 g1]
    simp only[some_bind,cond_true]
    rw[show appL 8 (selL f k) [(k:Int)]=some (selL f k++[(k:Int)]) from if_pos ⟨by decide,by simp only[List.length_singleton]; omega⟩]
    rfl
   ·have hfk:f k=false:=by
     cases h:f k with
     | false=>rfl
     | true=>exact absurd ((hf k hk).1 h) g1
    rw[hfk]
    simp only[cond_false,List.append_nil]
    rcases g2 with rfl | ⟨rfl,g3⟩
    ·rfl
    ·rw[show eqB 0 0=true from rfl,cond_true,g3]
     rfl)
  (fun st e=>by
   subst e
   refine⟨_,?_,rfl⟩
   unfold b_notation_Syms_1
   rfl)
 rw[hr]
 rfl
end
end Go.Proofs.YtlifofijgddjkabGreatDoor
namespace Go.Proofs.YtlifofijgddjkabGreatDoor
open Go.AM Go.Proofs
theorem walk_ev {n:Nat} {t:Tree}:∀ {m:Nat} {k:Int} {u:DD m} {l:List Nat},Rep t.Nodes m k u->Reg n m u->Sts n m l->walkV t (l.map fun s:Nat=>(s:Int)) k=some (evD m u l)
 | 0,k,u,l,h,_,hl=>by
  obtain rfl:l=[]:=List.eq_nil_of_length_eq_zero hl.1
  exact congrArg some (show k=u from h)
 | m+1,k,u,[],_,_,hl=>by
  have:=hl.1
  simp at this
 | m+1,k,u,s::l,⟨x,h1,_,h3,h4⟩,hr,hl=>by
  have hs:=hl.cons
  obtain⟨e1,r1⟩:=reg_kid hr hs.1
  have hx:x.Next[s]?=some (x.Next[s]'(by have:=hr.1; omega)):=List.getElem?_eq_getElem _
  rw[List.map_cons,walkV,h1]
  simp only[some_bind]
  rw[idx_nat,hx]
  exact walk_ev (h4 s _ _ hx e1) r1 hs.2
theorem lt8 {a:Nat} (h:a < 8):a=0 \/ a=1 \/ a=2 \/ a=3 \/ a=4 \/ a=5 \/ a=6 \/ a=7:=by omega
theorem cnt8 {n:Nat} (hn:n<=8):∀ k,cntN n k<=cntN 8 k
 | 0=>Nat.le_refl _
 | k+1=>by
  have:=cnt8 hn k
  show n*cntN n k+1<=8*cntN 8 k+1
  have:=Nat.mul_le_mul hn this
  omega
theorem cnt9 {n L:Nat} (hn:n<=8) (hL:L < 9):cntOk n L:=by
 unfold cntOk
 refine Nat.le_trans (cnt8 hn _) ?_
 rcases lt8 (show L - 1 < 8 by omega) with h | h | h | h | h | h | h | h<;>rcases Nat.eq_zero_or_pos L with h' | h'<;>first | (obtain rfl:L=0:=h'; decide) | (obtain⟨m,rfl⟩:∃ m,L=m+1:=⟨L - 1,by omega⟩; rw[Nat.add_sub_cancel] at h; subst h; decide)
end Go.Proofs.YtlifofijgddjkabGreatDoor
