/-
  The table, for simp.
-/
import Derived.Test.YtdjclgfbggfpaaaGreatDoorTab
import Derived.Test.YtdjclgfbggfpaaaGreatDoorAmMp
namespace Go.Proofs.YtdjclgfbggfpaaaGreatDoor
open Go.AM Go.Proofs
theorem tb_ty : tb.ty = ty := rfl
theorem tb_eqn : tb.eqn = eqn := rfl
theorem tb_key : tb.key = key := rfl
theorem tb_call (f : FuncId) (us : List V) : tb.call f us = none := rfl
theorem tb_eff (f : FuncId) (us : List V) (d : Option Nat) (ρ : Env) (σ : Sto) : tb.eff f us d ρ σ = none := rfl
attribute [simp] tb_ty tb_eqn tb_key tb_call tb_eff ty eqn key ti2 ti3 ti4 ti5 ti9 ti21 ti22 ti23 ti25 ti26 ti27 ti31 ti32 ti43 ti51 ti54 ti55 ti61 ti65 ti70 ti72 ti75 ti77 ti81 ti88 ti89 ti91 ti96 ti98 ti102 ti106 ti108 ti110 ti121 ti130 ti131 ti133 ti140 ti144 ti145 ti146 ti147 ti149 ti151 ti158 ti169 ti176 ti177 ti179 ti183 ti184 ti186 ti187 ti189 ti193 ti196 ti197 ti199 ti207 ti223 ti224 ti226 ti241 ti259 ti263 ti264 ti277 ti279 ti286 ti295 ti299
theorem bv {f : FuncId} {fn : Func} {N : Nat} {us : List V} {R : V → Prop} {c : Code} (hf : Tryz.prog.funcs[f]? = some fn) (ht : fn.ntmps = N) (hb : fn.body = some c) (hname : (fn.name == "runtime.NumGoroutine") = false) (hn : us.length ≤ N)
  (h : ∀ cx : Cx, cx.n = N → Swp Tryz.prog cx c (env0 us) sto0 (fun e ρ σ => (e = .normal ∨ e = .ret) ∧ EE cx (fun ρ σ => ∃ v, resV tb ρ σ fn.results.toList = some v ∧ (v.frz σ).free = true ∧ R (v.frz σ)) ρ σ)) : PFn Tryz.prog f us R :=
 pfn_E bj c hf hb hname (by rw [ht]; exact hn) fun cx hc => h cx (hc.trans ht)
def bn {S : Type} (L : S → List (Nat × V)) (M : S → List (Nat × Ob)) (s : S) (ρ : Env) (σ : Sto) : Prop := Fits (L s) (M s) ρ σ
theorem bo {S T : Type} {cx : Cx} {L : S → List (Nat × V)} {M : S → List (Nat × Ob)} {s : S} {ρ : Env} {σ : Sto} (hE : bn L M s ρ σ) {step : S → Option (Lp S T)} {n : Nat} {t : T} (h : ar step n s = some t) (F : T → Exit → Env → Sto → Prop) {c : Code}
  (hn : ∀ s, dz ((L s).map (·.1)) = true) (hm : ∀ s, dz ((M s).map (·.1)) = true)
  (hstep : ∀ s r, step s = some r → ∀ ρ σ, Fits (L s) (M s) ρ σ → Swp Tryz.prog cx c ρ σ (Rd (fun s => EE cx (b6 (L s) (M s))) F r)) : Swp Tryz.prog cx (.loop c) ρ σ (F t) := loop_model L M F step hn hm hstep h hE
theorem sr1 {cx : Cx} {ρ : Env} {σ : Sto} {Q : Exit → Env → Sto → Prop} {N : Nat} (hn : cx.n = N) {id : Nat} {l : List Oper} (hd : eP N l = true) (h : gx Tryz.prog cx tb l l ρ σ (Q .normal) .mk) : Swp Tryz.prog cx (.region id l.toArray false) ρ σ Q := sw_reg bj (by rw [hn]; exact hd) h
theorem srs {cx : Cx} {ρ : Env} {σ : Sto} {Q : Exit → Env → Sto → Prop} {N : Nat} (hn : cx.n = N) {y : Code} {id : Nat} {l : List Oper} (hd : eP N l = true) (h : gx Tryz.prog cx tb l l ρ σ (fun ρ σ => Swp Tryz.prog cx y ρ σ Q) .mk) : Swp Tryz.prog cx (.seq (.region id l.toArray false) y) ρ σ Q := sw_regs bj (by rw [hn]; exact hd) h
end Go.Proofs.YtdjclgfbggfpaaaGreatDoor
