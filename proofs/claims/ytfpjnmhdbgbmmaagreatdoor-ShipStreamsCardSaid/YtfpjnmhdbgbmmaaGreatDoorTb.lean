/-
  The table, for simp.
-/
import Derived.Test.YtfpjnmhdbgbmmaaGreatDoorTab
import Derived.Test.YtfpjnmhdbgbmmaaGreatDoorAmMp
import Derived.Test.YtfpjnmhdbgbmmaaGreatDoorMd0
namespace Go.Proofs.YtfpjnmhdbgbmmaaGreatDoor
open Go.AM Go.Proofs
theorem tb_ty : tb.ty = ty := rfl
theorem tb_eqn : tb.eqn = eqn := rfl
theorem tb_key : tb.key = key := rfl
theorem tb_mid : tb.mid = fun _ => none := rfl
theorem tb_call (f : FuncId) (us : List V) : tb.call f us = none := rfl
theorem tb_eff (f : FuncId) (us : List V) (d : Option Nat) (ρ : Env) (σ : Sto) : tb.eff f us d ρ σ = none := rfl
def g0L : List L := [.int .i64 1, .int .i64 0, .int .i64 0, .int .i64 1, .int .i64 0, .int .i64 (-1), .int .i64 1, .int .i64 0, .int .i64 (-1), .int .i64 0, .int .i64 0, .int .i64 (-1), .int .i64 0, .int .i64 1, .int .i64 (-1), .int .i64 0, .int .i64 (-1), .int .i64 0, .int .i64 0, .int .i64 1, .int .i64 0, .int .i64 (-1), .int .i64 (-1), .int .i64 0, .int .i64 1, .int .i64 0, .int .i64 0, .int .i64 (-1), .int .i64 0, .int .i64 1, .int .i64 1, .int .i64 0]
theorem gval0 : gval 0 = .u (.one (.ref g0L 0)) := rfl
attribute [simp] gval0
theorem g0_get {i : Int} {x : Int × Int × Int × Int} (h : aidx 8 g0R i = some x) : subR g0L (i.toNat * 4) 4 = [.int .i64 x.1, .int .i64 x.2.1, .int .i64 x.2.2.1, .int .i64 x.2.2.2] := subR_get (xs := g0L) (l := g0R) (fun (x : Int × Int × Int × Int) => [.int .i64 x.1, .int .i64 x.2.1, .int .i64 x.2.2.1, .int .i64 x.2.2.2]) 4 (fun _ => rfl) rfl h
attribute [simp] qnil C.inNs C.inN tb_mid tb_ty tb_eqn tb_key tb_call tb_eff ty eqn key ti2 ti3 ti4 ti5 ti9 ti21 ti22 ti23 ti25 ti26 ti27 ti29 ti31 ti33 ti35 ti42 ti43 ti44 ti57 ti62 ti68 ti69 ti71 ti73 ti75 ti79 ti86 ti87 ti89 ti108 ti109 ti110 ti121 ti130 ti131 ti133 ti140 ti144 ti145 ti146 ti148 ti150 ti156 ti158 ti168 ti170 ti174 ti177 ti182 ti188 ti189 ti191 ti195 ti196 ti198 ti199 ti201 ti205 ti208 ti209 ti211 ti217 ti220 ti222 ti227 ti230 ti246 ti247 ti249 ti264 ti266 ti285 ti289 ti290 ti303 ti305 ti306 ti319 ti320 ti323 ti325
theorem aX {f : FuncId} {fn : Func} {N : Nat} {us : List V} {R : V → Prop} {c : Code} (hf : Tryz.prog.funcs[f]? = some fn) (ht : fn.ntmps = N) (hb : fn.body = some c) (hname : (fn.name == "runtime.NumGoroutine") = false) (hn : us.length ≤ N)
  (h : ∀ cx : Cx, cx.n = N → Swp Tryz.prog cx c (env0 us) sto0 (fun e ρ σ => (e = .normal ∨ e = .ret) ∧ EE cx (fun ρ σ => ∃ v, resV tb ρ σ fn.results.toList = some v ∧ (v.frz σ).free = true ∧ R (v.frz σ)) ρ σ)) : PFn Tryz.prog f us R :=
 pfn_E aK c hf hb hname (by rw [ht]; exact hn) fun cx hc => h cx (hc.trans ht)
def b4 {S : Type} (L : S → List (Nat × V)) (M : S → List (Nat × Ob)) (s : S) (ρ : Env) (σ : Sto) : Prop := Fits (L s) (M s) ρ σ
theorem b8 {S T : Type} {cx : Cx} {L : S → List (Nat × V)} {M : S → List (Nat × Ob)} {s : S} {ρ : Env} {σ : Sto} (hE : b4 L M s ρ σ) {step : S → Option (Lp S T)} {n : Nat} {t : T} (h : al step n s = some t) (F : T → Exit → Env → Sto → Prop) {c : Code}
  (hn : ∀ s, d4 ((L s).map (·.1)) = true) (hm : ∀ s, d4 ((M s).map (·.1)) = true)
  (hstep : ∀ s r, step s = some r → ∀ ρ σ, Fits (L s) (M s) ρ σ → Swp Tryz.prog cx c ρ σ (Rd (fun s => EE cx (aU (L s) (M s))) F r)) : Swp Tryz.prog cx (.loop c) ρ σ (F t) := loop_model L M F step hn hm hstep h hE
theorem sr1 {cx : Cx} {ρ : Env} {σ : Sto} {Q : Exit → Env → Sto → Prop} {N : Nat} (hn : cx.n = N) {id : Nat} {l : List Oper} (hd : dR N l = true) (h : eB Tryz.prog cx tb l l ρ σ (Q .normal) .mk) : Swp Tryz.prog cx (.region id l.toArray false) ρ σ Q := sw_reg aK (by rw [hn]; exact hd) h
theorem srs {cx : Cx} {ρ : Env} {σ : Sto} {Q : Exit → Env → Sto → Prop} {N : Nat} (hn : cx.n = N) {y : Code} {id : Nat} {l : List Oper} (hd : dR N l = true) (h : eB Tryz.prog cx tb l l ρ σ (fun ρ σ => Swp Tryz.prog cx y ρ σ Q) .mk) : Swp Tryz.prog cx (.seq (.region id l.toArray false) y) ρ σ Q := sw_regs aK (by rw [hn]; exact hd) h
end Go.Proofs.YtfpjnmhdbgbmmaaGreatDoor
