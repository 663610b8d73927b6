/- Plain laws: patterns, the checks ahead of a step; loops by an invariant. -/
import Derived.Test.YtlifofijgddjkabGreatDoorPlx1
namespace Go.Proofs.YtlifofijgddjkabGreatDoor
open Go.AM Go.Proofs
theorem loop_iv_aux {St T:Type} {b:St->Option (Lp St T)} {n:Nat} (I:Nat->St->Prop) (Q:T->Prop)
  (step:∀ i s,i < n->I i s->(∃ s',b s=some (.next s')/\I (i+1) s') \/ (∃ t,b s=some (.out t)/\Q t)) (fin:∀ s,I n s->∃ t,b s=some (.out t)/\Q t) :
  ∀ (k i:Nat) (s:St),i+k=n->I i s->∀ m,k < m->∃ t,aT b m s=some t/\Q t
 | 0,i,s,hi,h,m,hm=>by
  obtain⟨m,rfl⟩:∃ j,m=j+1:=⟨m - 1,by omega⟩
  obtain rfl:i=n:=by omega
  grind [aT]
 | k+1,i,s,hi,h,m,hm=>by
  obtain⟨m,rfl⟩:∃ j,m=j+1:=⟨m - 1,by omega⟩
  rcases step i s (by omega) h with ⟨s',hs,h'⟩ | ⟨t,ht,hq⟩
  ·obtain⟨t,ht,hq⟩:=loop_iv_aux I Q step fin k (i+1) s' (by omega) h' m (by omega)
   simp_all [aT]
  simp_all [aT]
theorem loop_iv {St T:Type} {b:St->Option (Lp St T)} {n:Nat} (I:Nat->St->Prop) (Q:T->Prop) (hn:n < 1099511627776) {s:St} (h0:I 0 s)
  (step:∀ i s,i < n->I i s->(∃ s',b s=some (.next s')/\I (i+1) s') \/ (∃ t,b s=some (.out t)/\Q t)) (fin:∀ s,I n s->∃ t,b s=some (.out t)/\Q t) :
  ∃ t,aT b b7 s=some t/\Q t:=loop_iv_aux I Q step fin n 0 s (by omega) h0 b7 hn
theorem pairwise_adj {α:Type} {r:α->α->Prop} (ht:∀ a b c,r a b->r b c->r a c):∀ l:List α,(∀ (i:Nat) a b,l[i]?=some a->l[i+1]?=some b->r a b)->l.Pairwise r
 | [],_=>List.Pairwise.nil
 | [x],_=>List.pairwise_singleton _ _
 | x::y::l,h=>by
  have ih:=pairwise_adj ht (y::l) fun i a b ha hb=>h (i+1) a b (by simpa using ha) (by simpa using hb)
  have hxy:=h 0 x y rfl rfl
  refine List.pairwise_cons.2 ⟨fun z hz=>?_,ih⟩
  rcases List.mem_cons.1 hz with rfl | hz
  ·exact hxy
  grind [List.pairwise_cons]
end Go.Proofs.YtlifofijgddjkabGreatDoor
namespace Go.Proofs.YtlifofijgddjkabGreatDoor
open Go.AM Go.Proofs
theorem mget_mset {κ ν:Type} [DecidableEq κ] (k:κ) (v:ν):∀ (m:List (κ×ν)) (q:κ),dJ (dm m k v) q=if k=q then some v else dJ m q
 | [],q=>by simp[dm,dJ]
 | x::m,q=>by
  unfold dm
  by_cases hx:x.1=k
  ·rw[if_pos hx]
   by_cases hq:k=q
   ·simp[dJ,hq]
   ·simp[dJ,hq,hx]
  ·rw[if_neg hx]
   simp only[dJ]
   rw[mget_mset k v m q]
   by_cases hq:k=q
   ·subst hq; simp[hx]
   ·simp[hq]
end Go.Proofs.YtlifofijgddjkabGreatDoor
