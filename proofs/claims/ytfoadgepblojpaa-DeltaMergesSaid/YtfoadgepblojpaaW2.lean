/-
  The walks of cmp.Or, point.Compare, the orders.
-/
import Derived.Test.YtfoadgepblojpaaW1
namespace Go.Proofs.Ytfoadgepblojpaa
open Go.AM Go.Proofs

theorem cmpOr_spec (a b : Int) : PFn Try.prog 65 [.one (.d (.sl 1 [[.int .i64 a], [.int .i64 b]]))] (· = .int (if a ≠ 0 then a else b)) := by
  refine pfn_L tb_ok mixed _ Try.func65 rfl (by kernel_rfl) (by simp [Try.ntmps65]) (by kernel_rfl) fun cx hn => ?_
  simp -dsimp
  refine loop_L tb_ok mixed (fun n ρ σ => ∃ i : Nat, i ≤ 2 ∧ n = 2 - i ∧ ρ 6 = .one (.d (.sl 1 [[.int .i64 a], [.int .i64 b]])) ∧ ρ 7 = .int 2 ∧ ρ 3 = .int 0 ∧ ρ 8 = .int i ∧ (1 ≤ i → a = 0) ∧ (i = 2 → b = 0)) 2 (by rw [hn]; kernel_rfl)
    (⟨0, by simp, by simp, by simp, by simp, by simp, by simp, by simp, by simp⟩) ?_
  rintro n ρ σ ⟨i, hi, rfl, h6, h7, h3, h8, ha, hb⟩
  obtain rfl | rfl | rfl : i = 0 ∨ i = 1 ∨ i = 2 := by omega
  · simp -dsimp [h6, h7, h3, h8, Try.results65]
    exact ⟨fun h h' => absurd h' h, fun h => ⟨1, by decide, 1, by decide, by decide, by decide, fun _ => h, (fun h => by cases h)⟩⟩
  · simp -dsimp [h6, h7, h3, h8, Try.results65, ha (by decide)]
    exact fun h => ⟨2, by decide, by decide, by decide, fun _ => h⟩
  · simp -dsimp [h6, h7, h3, h8, Try.results65, ha (by decide), hb rfl]

def c65 (us : List V) : Option V := match us with
  | [.u (.one (.d (.sl 1 [[.int .i64 a], [.int .i64 b]])))] => some (.int (if a ≠ 0 then a else b))
  | _ => none
def c66 (us : List V) : Option V := match us with
  | [.u (.one (.d (.int .i64 a))), .u (.one (.d (.int .i64 b)))] => some (.int (cmpI a b))
  | _ => none
def ct2 (f : FuncId) (us : List V) : Option V := match f with
  | 65 => c65 us
  | 66 => c66 us
  | _ => ct1 f us
theorem ct2_ok : ∀ f us v, ct2 f us = some v → PureCall Try.prog f us v := by
  intro f us v h
  unfold ct2 at h
  split at h
  · unfold c65 at h
    split at h
    · cases h; exact (cmpOr_spec _ _).pure
    · cases h
  · unfold c66 at h
    split at h
    · cases h; exact (cmpCompare_spec _ _).pure
    · cases h
  · exact ct1_ok f us v h
def tb2 : Tb := { tb with call := ct2 }
theorem tb2_ok : TbOk Try.prog tb2 := { tb_ok with call := ct2_ok }
theorem tb2_ty : tb2.ty = ty := rfl
theorem tb2_eqn : tb2.eqn = eqn := rfl
theorem tb2_key : tb2.key = key := rfl
theorem tb2_mid : tb2.mid = fun _ => none := rfl
theorem tb2_call : tb2.call = ct2 := rfl
theorem tb2_eff (f : FuncId) (us : List V) (d : Option Nat) (ρ : Env) (σ : Sto) : tb2.eff f us d ρ σ = none := rfl
attribute [simp] tb2_mid tb2_ty tb2_eqn tb2_key tb2_call tb2_eff ct2 c65 c66

theorem pointCmp_spec (x y x' y' : Int) : PFn Try.prog 51 [.agg [.d (.int .i64 x), .d (.int .i64 y)], .agg [.d (.int .i64 x'), .d (.int .i64 y')]] (· = .int (cmpP x y x' y')) := by
  refine pfn_L tb2_ok mixed _ Try.func51 rfl (by kernel_rfl) (by simp [Try.ntmps51]) (by kernel_rfl) fun cx hn => ?_
  simp -dsimp [Try.results51, cmpP, cmpI]
  grind

def c51 (us : List V) : Option V := match us with
  | [.u (.agg [.d (.int .i64 x), .d (.int .i64 y)]), .u (.agg [.d (.int .i64 x'), .d (.int .i64 y')])] => some (.int (cmpP x y x' y'))
  | _ => none
def ct3 (f : FuncId) (us : List V) : Option V := match f with
  | 51 => c51 us
  | _ => ct2 f us
theorem ct3_ok : ∀ f us v, ct3 f us = some v → PureCall Try.prog f us v := by
  intro f us v h
  unfold ct3 at h
  split at h
  · unfold c51 at h
    split at h
    · cases h; exact (pointCmp_spec _ _ _ _).pure
    · cases h
  · exact ct2_ok f us v h
def tb3 : Tb := { tb with call := ct3 }
theorem tb3_ok : TbOk Try.prog tb3 := { tb_ok with call := ct3_ok }
theorem tb3_ty : tb3.ty = ty := rfl
theorem tb3_eqn : tb3.eqn = eqn := rfl
theorem tb3_key : tb3.key = key := rfl
theorem tb3_mid : tb3.mid = fun _ => none := rfl
theorem tb3_call : tb3.call = ct3 := rfl
theorem tb3_eff (f : FuncId) (us : List V) (d : Option Nat) (ρ : Env) (σ : Sto) : tb3.eff f us d ρ σ = none := rfl
attribute [simp] tb3_mid tb3_ty tb3_eqn tb3_key tb3_call tb3_eff ct3 c51

theorem pOrder_spec (x y s x' y' s' : Int) : PFn Try.prog 48 [.agg [.d (.int .i64 x), .d (.int .i64 y), .d (.int .i64 s)], .agg [.d (.int .i64 x'), .d (.int .i64 y'), .d (.int .i64 s')]] (· = .int (cmpP x y x' y')) := by
  refine pfn_L tb3_ok mixed _ Try.func48 rfl (by kernel_rfl) (by simp [Try.ntmps48]) (by kernel_rfl) fun cx hn => ?_
  simp -dsimp [Try.results48]
theorem dOrder_spec (x y f t x' y' f' t' : Int) : PFn Try.prog 29 [.agg [.d (.int .i64 x), .d (.int .i64 y), .d (.int .i64 f), .d (.int .i64 t)], .agg [.d (.int .i64 x'), .d (.int .i64 y'), .d (.int .i64 f'), .d (.int .i64 t')]] (· = .int (cmpP x y x' y')) := by
  refine pfn_L tb3_ok mixed _ Try.func29 rfl (by kernel_rfl) (by simp [Try.ntmps29]) (by kernel_rfl) fun cx hn => ?_
  simp -dsimp [Try.results29]
end Go.Proofs.Ytfoadgepblojpaa
