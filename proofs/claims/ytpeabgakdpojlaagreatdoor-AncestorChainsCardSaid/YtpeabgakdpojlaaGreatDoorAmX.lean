/- Lemmas for the law. -/
import Derived.Test.YtpeabgakdpojlaaGreatDoorAmM
namespace Go.AM
open Go.RowKit
theorem aStore_iff {tb:Tb} {Z:Env} {O:Sto} {t:TypeId} {x y:V} {K:A3} (h:tV tb Z O t x y K):∃O',(∀(Z':Env) (K':A3),K' Z' O'->tV tb Z' O t x y K')/\K Z O':=by unfold tV at h;split at h;{rename_i ti s off xs h1 h3;split at h;{rename_i cs hs;obtain⟨a1,a2,a3,hk⟩:=h;refine⟨_,λZ' K' hk'=>?_,hk⟩;simp_all[tV]};{exact h.elim}};{rename_i ti s i sz off xs h1 h3;split at h;{rename_i sz' e rows ys hs hd;split at h;{rename_i r hr;obtain⟨a1,a2,a3,hk⟩:=h;refine⟨_,λZ' K' hk'=>?_,hk⟩;simp_all[tV]};{exact h.elim}};{rename_i e ie sz' els hs;split at h;{rename_i t';obtain⟨a1,a2,a3,a4,hk⟩:=h;refine⟨_,λZ' K' hk'=>?_,hk⟩;simp_all[tV]};{exact h.elim}};{exact h.elim}};{exact h.elim}
section
variable {P:Program} {tb:Tb} {cx:Cx} {Z Z':Env} {O O':Sto} {ops:Array Oper} {K:Aq} {x:Nat} {us:A5} {va vb:V}
theorem gst_put {o:Oper} {y:Ac} {v:V} (h:∀d,y=some d->d ∉ o.looksAt ops):gst ops.toList o.guard (cK Z y v)=gst ops.toList o.guard Z:=by unfold gst;split;{rfl};{rename_i j want hgd;split;{rename_i s hs;rw[rc λhx=>h s hx ?_];exact List.mem_append_right _ (by simp_all[gslot])};{rfl}}
theorem oev_puts {o:Oper} {y:Ac} {v:V} (h:∀d,y=some d->d ∉ o.looksAt ops):∀z∈o.op.operands,oev (cK Z y v) z=oev Z z:=λz hz=>oev_put λt ht hx=>h t hx (by subst ht;exact List.mem_append_left _ (List.mem_filterMap.2 ⟨.tmp t,by simpa using hz,rfl⟩))
theorem yrun_keep {Y:Au}:∀(l:A6) (k:Nat) (Z:Env),pX Y k l Z K->pX Y k l Z λρ1=>K ρ1/\∀t,(∀o∈l,o.dst≠some t)->ρ1 t=Z t
 |[],_,_,h=>⟨h,λ_ _=>rfl⟩|o::l,k,Z,⟨v,hy,h⟩=>by
  refine⟨v,hy,?_⟩;have key:∀(l:A6) (k:Nat) (Z':Env) (K K':Aq),(∀ρ1,K ρ1->K' ρ1)->pX Y k l Z' K->pX Y k l Z' K':=by
   intro l;induction l with
   |nil=>intro k Z' K K' hk h;exact hk _ h|cons o l ih=>intro k Z' K K' hk ⟨v,hy,h⟩;exact⟨v,hy,ih _ _ _ _ hk h⟩
  refine key l (k+1) _ _ _ (λρ1 hk=>⟨hk.1,λt ht=>?_⟩) (yrun_keep l (k+1) _ h);simp_all[rc]
end
