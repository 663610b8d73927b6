/- Plain laws: patterns, the checks ahead of a step; loops by an invariant. -/
import Derived.Test.YtlifofijgddjkacGreatDoorPlx1
namespace Go.Proofs.YtlifofijgddjkacGreatDoor
open Go.AM Go.Proofs
def befC (a b:Cell):Bool:=befP ⟨a.X,a.Y⟩ ⟨b.X,b.Y⟩
theorem imax_is (a b:Int):(gy a b=a \/ gy a b=b)/\a<=gy a b/\b<=gy a b:=by
 unfold gy
 omega
theorem gtB_not (a b:Int):gtB a b=!leB a b:=by
 grind [gtB,leB]
theorem loop_iv_aux {St T:Type} {b:St->Option (Lp St T)} {n:Nat} (I:Nat->St->Prop) (Q:T->Prop)
  (step:∀ i s,i < n->I i s->(∃ s',b s=some (.next s')/\I (i+1) s') \/ (∃ t,b s=some (.out t)/\Q t)) (fin:∀ s,I n s->∃ t,b s=some (.out t)/\Q t) :
  ∀ (k i:Nat) (s:St),i+k=n->I i s->∀ m,k < m->∃ t,bh b m s=some t/\Q t
 | 0,i,s,hi,h,m,hm=>by
  obtain⟨m,rfl⟩:∃ j,m=j+1:=⟨m - 1,by omega⟩
  obtain rfl:i=n:=by omega
  grind [bh]
 | k+1,i,s,hi,h,m,hm=>by
  obtain⟨m,rfl⟩:∃ j,m=j+1:=⟨m - 1,by omega⟩
  rcases step i s (by omega) h with ⟨s',hs,h'⟩ | ⟨t,ht,hq⟩
  ·obtain⟨t,ht,hq⟩:=loop_iv_aux I Q step fin k (i+1) s' (by omega) h' m (by omega)
   simp_all [bh]
  simp_all [bh]
theorem dK {St T:Type} {b:St->Option (Lp St T)} {n:Nat} (I:Nat->St->Prop) (Q:T->Prop) (hn:n < 1099511627776) {s:St} (h0:I 0 s)
  (step:∀ i s,i < n->I i s->(∃ s',b s=some (.next s')/\I (i+1) s') \/ (∃ t,b s=some (.out t)/\Q t)) (fin:∀ s,I n s->∃ t,b s=some (.out t)/\Q t) :
  ∃ t,bh b bK s=some t/\Q t:=loop_iv_aux I Q step fin n 0 s (by omega) h0 bK hn
structure Pat (p:List Cell):Prop where
 len:p.length<=5000
 cell:∀ c∈p,(-1048576<=c.X/\c.X<=1048576/\-1048576<=c.Y/\c.Y<=1048576)/\1<=c.S/\c.S < 8
 sorted:p.Pairwise fun a b=>befC a b=true
structure Fit (t:Tree) (p:List Cell):Prop where
 ok:Ok t
 zero:gT t (List.replicate t.Hood.length 0) (cu .i64 (b9 t.Nodes) 1)=some 0
 pat:Pat p
 small:∀ c∈p,c.S < t.States
end Go.Proofs.YtlifofijgddjkacGreatDoor
namespace Go.Proofs.YtlifofijgddjkacGreatDoor
open Go.AM Go.Proofs
theorem mget_mset {κ ν:Type} [DecidableEq κ] (k:κ) (v:ν):∀ (m:List (κ×ν)) (q:κ),kC (msetL m k v) q=if k=q then some v else kC m q
 | [],q=>by simp[msetL,kC]
 | x::m,q=>by
  unfold msetL
  by_cases hx:x.1=k
  ·rw[if_pos hx]
   by_cases hq:k=q
   ·simp[kC,hq]
   ·simp[kC,hq,hx]
  ·rw[if_neg hx]
   simp only[kC]
   rw[mget_mset k v m q]
   by_cases hq:k=q
   ·subst hq; simp[hx]
   ·simp[hq]
end Go.Proofs.YtlifofijgddjkacGreatDoor
