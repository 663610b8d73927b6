/-
  A whole body, evaluated at once (but for its loops).
-/
import Derived.Test.YtdjclgfbggfpaaaGreatDoorAmO
namespace Go.AM
open Go.RowKit

def acond (c : V) (p q : Prop) : Prop := match c with
  | .u (.one (.d (.bool b))) => (b = true → p) ∧ (b = false → q)
  | _ => False
def adraw (P : Program) (cx : Cx) (tb : Tb) (all ops : List Oper) (ρ : Env) (σ : Sto) (K : Env → Sto → Prop) : Prop :=
  qops P tb all σ (ops.take (cutAt ops)) ρ fun ρ => aops P cx tb all (ops.drop (cutAt ops)) ρ σ K
def adrawM (P : Program) (cx : Cx) (tb : Tb) (all l : List Oper) (x : Nat) (us : List Nat) (ρ : Env) (σ : Sto) (K : Env → Sto → Prop) : Prop :=
  qops P tb all σ (l.take x) ρ fun ρ => midStep P cx tb all (l.drop (x + 1)) us l[x]? ρ σ K
def adrawn (P : Program) (cx : Cx) (tb : Tb) (h : Option (Nat × List Nat)) (ops : List Oper) (ρ : Env) (σ : Sto) (K : Env → Sto → Prop) : Prop := match h with
  | none => adraw P cx tb ops ops ρ σ K
  | some (x, us) => adrawM P cx tb ops ops x us ρ σ K
def aswp (P : Program) (cx : Cx) (tb : Tb) : Code → Env → Sto → (Exit → Env → Sto → Prop) → Prop
  | .skip, ρ, σ, Q => Q .normal ρ σ
  | .exit id, ρ, σ, Q => Q (.exit id) ρ σ
  | .ret, ρ, σ, Q => Q .ret ρ σ
  | .seq x y, ρ, σ, Q => aswp P cx tb x ρ σ (thenQ (fun ρ σ => aswp P cx tb y ρ σ Q) Q)
  | .cond c x y, ρ, σ, Q => acond (oev ρ c) (aswp P cx tb x ρ σ Q) (aswp P cx tb y ρ σ Q)
  | .block id c, ρ, σ, Q => aswp P cx tb c ρ σ (blockQ id Q)
  | .region _ ops false, ρ, σ, Q => aops P cx tb ops.toList ops.toList ρ σ (Q .normal)
  | .region id ops true, ρ, σ, Q => adrawn P cx tb (tb.mid id) ops.toList ρ σ (Q .normal)
  | .loop c, ρ, σ, Q => Swp P cx (.loop c) ρ σ Q
  | _, _, _, _ => False

/-- What is looked at once, of a body: slots in range, and the drawn regions. -/
def codeOk (mid : Nat → Option (Nat × List Nat)) (n : Nat) : Code → Bool
  | .seq x y => codeOk mid n x && codeOk mid n y
  | .cond _ x y => codeOk mid n x && codeOk mid n y
  | .block _ c => codeOk mid n c
  | .region _ ops false => dstOk n ops.toList
  | .region id ops true => dstOk n ops.toList && Region.lexB .any ops && match mid id with
    | none => decide (cutAt ops.toList < ops.size) && chainB ops (cutAt ops.toList)
    | some (x, us) => midB ops x us
  | _ => true

section
variable {P : Program} {cx : Cx} {tb : Tb}
theorem aswp_sound (ht : TbOk P tb) (hm : P.follows .mixedOrders = true) : ∀ (c : Code) (ρ : Env) (σ : Sto) (Q : Exit → Env → Sto → Prop), codeOk tb.mid cx.n c = true → aswp P cx tb c ρ σ Q → Swp P cx c ρ σ Q
  | .skip, ρ, σ, Q, _, h => swp_skip (by simpa [aswp] using h)
  | .exit id, ρ, σ, Q, _, h => swp_exit (by simpa [aswp] using h)
  | .ret, ρ, σ, Q, _, h => swp_ret (by simpa [aswp] using h)
  | .seq x y, ρ, σ, Q, hc, h => by
    simp only [codeOk, Bool.and_eq_true] at hc
    rw [aswp] at h
    refine swp_seq fun K hK => (aswp_sound ht hm x ρ σ _ hc.1 h).mono fun e ρ σ hh => ?_
    cases e with
    | normal => exact hK _ _ (aswp_sound ht hm y ρ σ Q hc.2 hh)
    | _ => exact hh
  | .cond c x y, ρ, σ, Q, hc, h => by
    simp only [codeOk, Bool.and_eq_true] at hc
    rw [aswp] at h
    unfold acond at h
    split at h
    · rename_i b hb
      exact swp_cond hb (fun hh => aswp_sound ht hm x ρ σ Q hc.1 (h.1 hh)) (fun hh => aswp_sound ht hm y ρ σ Q hc.2 (h.2 hh))
    · exact h.elim
  | .block id c, ρ, σ, Q, hc, h => by
    rw [codeOk] at hc
    rw [aswp] at h
    exact swp_block (aswp_sound ht hm c ρ σ _ hc h)
  | .region id ops false, ρ, σ, Q, hc, h => by
    rw [codeOk] at hc
    rw [aswp] at h
    exact swp_region ht hc h
  | .region id ops true, ρ, σ, Q, hc, h => by
    simp only [codeOk, Bool.and_eq_true] at hc
    rw [aswp] at h
    obtain ⟨⟨h1, h2⟩, h3⟩ := hc
    unfold adrawn at h
    split at h
    · rename_i hmid
      rw [hmid] at h3
      simp only [Bool.and_eq_true] at h3
      exact swp_chain ht hm h1 h2 (by simpa using h3.1) h3.2 h
    · rename_i x us hmid
      rw [hmid] at h3
      exact swp_mid ht hm h1 h2 h3 h
  | .loop c, ρ, σ, Q, _, h => by rw [aswp] at h; exact h
  | .rangeFunc _ _ _ _, _, _, _, _, h => by simp [aswp] at h
  | .scope _, _, _, _, _, h => by simp [aswp] at h
  | .label _, _, _, _, _, h => by simp [aswp] at h
  | .goto _, _, _, _, _, h => by simp [aswp] at h
  | .refuse _, _, _, _, _, h => by simp [aswp] at h

theorem pfn_body (ht : TbOk P tb) (hm : P.follows .mixedOrders = true) {f : FuncId} {fn : Func} {us : List V} {R : V → Prop} (c : Code) (hf : P.funcs[f]? = some fn) (hb : fn.body = some c) (hname : (fn.name == "runtime.NumGoroutine") = false)
    (hn : us.length ≤ fn.ntmps) (hc : codeOk tb.mid fn.ntmps c = true)
    (h : ∀ cx : Cx, cx.n = fn.ntmps → aswp P cx tb c (env0 us) sto0 (fun e ρ σ => (e = .normal ∨ e = .ret) ∧ ∃ v, resV tb ρ σ fn.results.toList = some v ∧ (v.frz σ).free = true ∧ R (v.frz σ))) : PFn P f us R :=
  pfn_intro ht hf hb hname hn fun cx hcx => aswp_sound ht hm c _ _ _ (by rw [hcx]; exact hc) (h cx hcx)

theorem loop_body (ht : TbOk P tb) (hm : P.follows .mixedOrders = true) {c : Code} {ρ : Env} {σ : Sto} {Q : Exit → Env → Sto → Prop} (I : Nat → Env → Sto → Prop) (n : Nat) (hc : codeOk tb.mid cx.n c = true) (h0 : I n ρ σ)
    (hr : ∀ n ρ σ, I n ρ σ → aswp P cx tb c ρ σ (thenQ (fun ρ σ => ∃ m, m < n ∧ I m ρ σ) Q)) : Swp P cx (.loop c) ρ σ Q :=
  swp_loop I n h0 fun n ρ σ hI => aswp_sound ht hm c _ _ _ hc (hr n ρ σ hI)

end
end Go.AM
