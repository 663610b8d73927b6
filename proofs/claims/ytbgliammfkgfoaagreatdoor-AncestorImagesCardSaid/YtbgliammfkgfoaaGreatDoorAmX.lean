/- A region that draws its order, with a store in the midst: what may come behind the store reads the same behind it. -/
import Derived.Test.YtbgliammfkgfoaaGreatDoorAmM
namespace Go.AM
open Go.RowKit
theorem aStore_iff {tb:Tb} {Z:Env} {O:Sto} {t:TypeId} {x y:V} {K:Env->Sto->Prop} (h:ou tb Z O t x y K):∃ O',(∀ (Z':Env) (K':Env->Sto->Prop),K' Z' O'->ou tb Z' O t x y K')/\K Z O':=by
 unfold ou at h
 split at h
 ·rename_i ti s off xs h1 h3
  split at h
  ·rename_i cs hs
   obtain⟨a1,a2,a3,hk⟩:=h
   refine⟨_,fun Z' K' hk'=>?_,hk⟩
   simp_all [ou]
  ·exact h.elim
 ·rename_i ti s i sz off xs h1 h3
  split at h
  ·rename_i sz' e rows ys hs hd
   split at h
   ·rename_i r hr
    obtain⟨a1,a2,a3,hk⟩:=h
    refine⟨_,fun Z' K' hk'=>?_,hk⟩
    simp_all [ou]
   ·exact h.elim
  ·rename_i e ie sz' els hs
   split at h
   ·rename_i t'
    obtain⟨a1,a2,a3,a4,hk⟩:=h
    refine⟨_,fun Z' K' hk'=>?_,hk⟩
    simp_all [ou]
   ·exact h.elim
  ·exact h.elim
 ·exact h.elim
section
variable {P:Program} {tb:Tb} {cx:Cx} {Z Z':Env} {O O':Sto} {ops:Array Oper} {K:Env->Prop} {x:Nat} {us:List Nat} {va vb:V}
theorem gst_put {o:Oper} {y:Option Nat} {v:V} (h:∀ d,y=some d->d ∉ o.looksAt ops):gst ops.toList o.guard (bQ Z y v)=gst ops.toList o.guard Z:=by
 unfold gst
 split
 ·rfl
 ·rename_i j want hgd
  split
  ·rename_i s hs
   rw[mr fun hx=>h s hx ?_]
   exact List.mem_append_right _ (by simp_all [gslot])
  ·rfl
theorem oev_puts {o:Oper} {y:Option Nat} {v:V} (h:∀ d,y=some d->d ∉ o.looksAt ops):∀ z∈o.op.operands,oev (bQ Z y v) z=oev Z z:=fun z hz=>oev_put fun t ht hx=>h t hx (by
 subst ht
 exact List.mem_append_left _ (List.mem_filterMap.2 ⟨.tmp t,by simpa using hz,rfl⟩))
theorem yrun_keep {Y:Nat->Oper->Env->V->Prop}:∀ (l:List Oper) (k:Nat) (Z:Env),lR Y k l Z K->lR Y k l Z fun ρ1=>K ρ1/\∀ t,(∀ o∈l,o.dst≠some t)->ρ1 t=Z t
 | [],_,_,h=>⟨h,fun _ _=>rfl⟩
 | o::l,k,Z,⟨v,hy,h⟩=>by
  refine⟨v,hy,?_⟩
  have key:∀ (l:List Oper) (k:Nat) (Z':Env) (K K':Env->Prop),(∀ ρ1,K ρ1->K' ρ1)->lR Y k l Z' K->lR Y k l Z' K':=by
   intro l
   induction l with
   | nil=>intro k Z' K K' hk h; exact hk _ h
   | cons o l ih=>intro k Z' K K' hk ⟨v,hy,h⟩; exact⟨v,hy,ih _ _ _ _ hk h⟩
  refine key l (k+1) _ _ _ (fun ρ1 hk=>⟨hk.1,fun t ht=>?_⟩) (yrun_keep l (k+1) _ h)
  simp_all [mr]
end
end Go.AM
