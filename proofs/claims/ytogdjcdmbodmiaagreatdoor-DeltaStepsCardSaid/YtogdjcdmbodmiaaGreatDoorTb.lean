/- The table, for simp. -/
import Derived.Test.YtogdjcdmbodmiaaGreatDoorTab
import Derived.Test.YtogdjcdmbodmiaaGreatDoorAmMp
namespace Go.Proofs.YtogdjcdmbodmiaaGreatDoor
open Go.AM Go.Proofs
theorem tb_ty : tb.ty = ty := rfl
theorem tb_eqn : tb.eqn = eqn := rfl
theorem tb_key : tb.key = key := rfl
theorem tb_call (f : FuncId) (us : List V) : tb.call f us = none := rfl
theorem tb_eff (f : FuncId) (us : List V) (d : Option Nat) (ρ : Env) (σ : Sto) : tb.eff f us d ρ σ = none := rfl
attribute [simp] qnil C.inNs C.inN tb_ty tb_eqn tb_key tb_call tb_eff ty eqn key ti2 ti3 ti4 ti5 ti9 ti22 ti23 ti24 ti25 ti26 ti28 ti29 ti35 ti44 ti48 ti55 ti62 ti63 ti65 ti71 ti74 ti76 ti83 ti86 ti90 ti110 ti114 ti119 ti120 ti122 ti130 ti131 ti133 ti145 ti147 ti150 ti155 ti163 ti174 ti180 ti181 ti183 ti187 ti188 ti190 ti200 ti217 ti250 ti305
theorem bv {f : FuncId} {fn : Func} {N : Nat} {us : List V} {R : V → Prop} {c : Code} (hf : Tryz.prog.funcs[f]? = some fn) (ht : fn.ntmps = N) (hb : fn.body = some c) (hname : (fn.name == "runtime.NumGoroutine") = false) (hn : us.length ≤ N)
  (h : ∀ cx : Cx, cx.n = N → Swp Tryz.prog cx c (env0 us) sto0 (fun e ρ σ => (e = .normal ∨ e = .ret) ∧ EE cx (fun ρ σ => ∃ v, eH tb ρ σ fn.results.toList = some v ∧ (v.frz σ).free = true ∧ R (v.frz σ)) ρ σ)) : PFn Tryz.prog f us R :=
 pfn_E aW c hf hb hname (by rw [ht]; exact hn) fun cx hc => h cx (hc.trans ht)
def bT {S : Type} (L : S → List (Nat × V)) (M : S → List (Nat × Ob)) (s : S) (ρ : Env) (σ : Sto) : Prop := Fits (L s) (M s) ρ σ
theorem cd {S T : Type} {cx : Cx} {L : S → List (Nat × V)} {M : S → List (Nat × Ob)} {s : S} {ρ : Env} {σ : Sto} (hE : bT L M s ρ σ) {step : S → Option (Lp S T)} {n : Nat} {t : T} (h : am step n s = some t) (F : T → Exit → Env → Sto → Prop) {c : Code}
  (hstep : ∀ s r, step s = some r → ∀ ρ σ, Fits (L s) (M s) ρ σ → Swp Tryz.prog cx c ρ σ (Rd (fun s => EE cx (b4 (L s) (M s))) F r))
  (hn : ∀ s, cK ((L s).map (·.1)) = true := by intro _; rfl) (hm : ∀ s, cK ((M s).map (·.1)) = true := by intro _; rfl) : Swp Tryz.prog cx (.loop c) ρ σ (F t) := loop_model L M F step hn hm hstep h hE
def dB (d : Option Nat) (N : Nat) : Bool := match d with
 | some x => decide (x < N)
 | none => true
theorem dkL {d : Option Nat} {n N : Nat} (hn : n = N) (h : dB d N = true := by rfl) : ∀ x, d = some x → x < n := fun x hx => by
 subst hx hn
 exact of_decide_eq_true h
theorem sr1 {cx : Cx} {ρ : Env} {σ : Sto} {Q : Exit → Env → Sto → Prop} {N : Nat} (hn : cx.n = N) {id : Nat} {l : List Oper} (h : eO Tryz.prog cx tb l l ρ σ (Q .normal) .mk) (hd : e9 N l = true := by kernel_rfl) : Swp Tryz.prog cx (.region id l.toArray false) ρ σ Q := sw_reg aW (by rw [hn]; exact hd) h
theorem srs {cx : Cx} {ρ : Env} {σ : Sto} {Q : Exit → Env → Sto → Prop} {N : Nat} (hn : cx.n = N) {y : Code} {id : Nat} {l : List Oper} (h : eO Tryz.prog cx tb l l ρ σ (fun ρ σ => Swp Tryz.prog cx y ρ σ Q) .mk) (hd : e9 N l = true := by kernel_rfl) : Swp Tryz.prog cx (.seq (.region id l.toArray false) y) ρ σ Q := sw_regs aW (by rw [hn]; exact hd) h
theorem bf {S : Type} {cx : Cx} {L : S → List (Nat × V)} {M : S → List (Nat × Ob)} {s : S} {c : Code} {F Q : Exit → Env → Sto → Prop} {ρ : Env} {σ : Sto} (h : ∀ {ρ : Env} {σ : Sto}, bT L M s ρ σ → Swp Tryz.prog cx c ρ σ F)
  (hE : EE cx (b4 (L s) (M s)) ρ σ) (hk : ∀ ee ρ σ, F ee ρ σ → Q ee ρ σ) (hn : cK ((L s).map (·.1)) = true := by rfl) (hm : cK ((M s).map (·.1)) = true := by rfl) : Swp Tryz.prog cx c ρ σ Q := sw_ent (L s) (M s) hn hm hE fun _ _ hf => (h hf).mono hk
end Go.Proofs.YtogdjcdmbodmiaaGreatDoor
