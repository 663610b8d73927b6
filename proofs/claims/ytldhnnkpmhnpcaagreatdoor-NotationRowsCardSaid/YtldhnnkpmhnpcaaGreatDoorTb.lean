/- The table, for simp. -/
import Derived.Test.YtldhnnkpmhnpcaaGreatDoorTab
import Derived.Test.YtldhnnkpmhnpcaaGreatDoorMdx1
namespace Go.Proofs.YtldhnnkpmhnpcaaGreatDoor
open Go.AM Go.Proofs
theorem tb_ty : tb.ty = ty := rfl
theorem tb_eqn : tb.eqn = eqn := rfl
theorem tb_key : tb.key = key := rfl
theorem tb_mid : tb.mid = fun _ => none := rfl
theorem tb_call (f : FuncId) (us : List V) : tb.call f us = none := rfl
theorem tb_eff (f : FuncId) (us : List V) (d : Option Nat) (ρ : Env) (σ : Sto) : tb.eff f us d ρ σ = none := rfl
def g0L : List L := [.int .i64 1, .int .i64 0, .int .i64 0, .int .i64 1, .int .i64 0, .int .i64 (-1), .int .i64 1, .int .i64 0, .int .i64 (-1), .int .i64 0, .int .i64 0, .int .i64 (-1), .int .i64 0, .int .i64 1, .int .i64 (-1), .int .i64 0, .int .i64 (-1), .int .i64 0, .int .i64 0, .int .i64 1, .int .i64 0, .int .i64 (-1), .int .i64 (-1), .int .i64 0, .int .i64 1, .int .i64 0, .int .i64 0, .int .i64 (-1), .int .i64 0, .int .i64 1, .int .i64 1, .int .i64 0]
theorem gval0 : gval 0 = .u (.one (.ref g0L 0)) := rfl
attribute [simp] gval0
theorem g0_get {i : Int} {x : Int × Int × Int × Int} (h : er 8 g0R i = some x) : subR g0L (i.toNat * 4) 4 = [.int .i64 x.1, .int .i64 x.2.1, .int .i64 x.2.2.1, .int .i64 x.2.2.2] := subR_get (xs := g0L) (l := g0R) (fun (x : Int × Int × Int × Int) => [.int .i64 x.1, .int .i64 x.2.1, .int .i64 x.2.2.1, .int .i64 x.2.2.2]) 4 (fun _ => rfl) rfl h
attribute [simp] qnil C.inNs C.inN tb_mid tb_ty tb_eqn tb_key tb_call tb_eff ty eqn key ti2 ti3 ti4 ti5 ti9 ti21 ti22 ti23 ti25 ti29 ti31 ti37 ti46 ti52 ti59 ti60 ti62 ti66 ti70 ti73 ti77 ti87 ti100 ti104 ti109 ti110 ti112 ti119 ti120 ti121 ti122 ti124 ti126 ti132 ti136 ti137 ti138 ti140 ti143 ti147 ti148 ti150 ti157 ti159 ti165 ti170 ti171 ti173 ti177 ti178 ti180 ti181 ti183 ti187 ti189 ti193 ti194 ti208 ti209 ti211 ti221 ti232 ti233 ti237 ti238 ti240 ti249 ti251 ti257 ti262 ti263 ti265
theorem aH {f : FuncId} {fn : Func} {N : Nat} {us : List V} {R : V → Prop} {c : Code} (hf : Tryz.prog.funcs[f]? = some fn) (ht : fn.ntmps = N) (hb : fn.body = some c) (hname : (fn.name == "runtime.NumGoroutine") = false) (hn : us.length ≤ N)
  (h : ∀ cx : Cx, cx.n = N → Swp Tryz.prog cx c (env0 us) sto0 (fun e ρ σ => (e = .normal ∨ e = .ret) ∧ EE cx (fun ρ σ => ∃ v, cC tb ρ σ fn.results.toList = some v ∧ (v.frz σ).free = true ∧ R (v.frz σ)) ρ σ)) : PFn Tryz.prog f us R :=
 pfn_E aM c hf hb hname (by rw [ht]; exact hn) fun cx hc => h cx (hc.trans ht)
def aT {S : Type} (L : S → List (Nat × V)) (M : S → List (Nat × Ob)) (s : S) (ρ : Env) (σ : Sto) : Prop := Fits (L s) (M s) ρ σ
theorem b3 {S T : Type} {cx : Cx} {L : S → List (Nat × V)} {M : S → List (Nat × Ob)} {s : S} {ρ : Env} {σ : Sto} (hE : aT L M s ρ σ) {step : S → Option (Lp S T)} {n : Nat} {t : T} (h : ah step n s = some t) (F : T → Exit → Env → Sto → Prop) {c : Code}
  (hstep : ∀ s r, step s = some r → ∀ ρ σ, Fits (L s) (M s) ρ σ → Swp Tryz.prog cx c ρ σ (Rd (fun s => EE cx (aK (L s) (M s))) F r))
  (hn : ∀ s, bj ((L s).map (·.1)) = true := by intro _; rfl) (hm : ∀ s, bj ((M s).map (·.1)) = true := by intro _; rfl) : Swp Tryz.prog cx (.loop c) ρ σ (F t) := loop_model L M F step hn hm hstep h hE
def dB (d : Option Nat) (N : Nat) : Bool := match d with
 | some x => decide (x < N)
 | none => true
theorem dkL {d : Option Nat} {n N : Nat} (hn : n = N) (h : dB d N = true := by rfl) : ∀ x, d = some x → x < n := fun x hx => by
 subst hx hn
 exact of_decide_eq_true h
theorem sr1 {cx : Cx} {ρ : Env} {σ : Sto} {Q : Exit → Env → Sto → Prop} {N : Nat} (hn : cx.n = N) {id : Nat} {l : List Oper} (h : bY Tryz.prog cx tb l l ρ σ (Q .normal) .mk) (hd : bJ N l = true := by kernel_rfl) : Swp Tryz.prog cx (.region id l.toArray false) ρ σ Q := sw_reg aM (by rw [hn]; exact hd) h
theorem srs {cx : Cx} {ρ : Env} {σ : Sto} {Q : Exit → Env → Sto → Prop} {N : Nat} (hn : cx.n = N) {y : Code} {id : Nat} {l : List Oper} (h : bY Tryz.prog cx tb l l ρ σ (fun ρ σ => Swp Tryz.prog cx y ρ σ Q) .mk) (hd : bJ N l = true := by kernel_rfl) : Swp Tryz.prog cx (.seq (.region id l.toArray false) y) ρ σ Q := sw_regs aM (by rw [hn]; exact hd) h
theorem aF {S : Type} {cx : Cx} {L : S → List (Nat × V)} {M : S → List (Nat × Ob)} {s : S} {c : Code} {F Q : Exit → Env → Sto → Prop} {ρ : Env} {σ : Sto} (h : ∀ {ρ : Env} {σ : Sto}, aT L M s ρ σ → Swp Tryz.prog cx c ρ σ F)
  (hE : EE cx (aK (L s) (M s)) ρ σ) (hk : ∀ ee ρ σ, F ee ρ σ → Q ee ρ σ) (hn : bj ((L s).map (·.1)) = true := by rfl) (hm : bj ((M s).map (·.1)) = true := by rfl) : Swp Tryz.prog cx c ρ σ Q := sw_ent (L s) (M s) hn hm hE fun _ _ hf => (h hf).mono hk
end Go.Proofs.YtldhnnkpmhnpcaaGreatDoor
