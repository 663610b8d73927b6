/-
  The walks of the functions of integers (no loop, no object): made by gen_w1.py.
-/
import Derived.Test.YtfoadgepblojpaaTab
import Derived.Test.YtfoadgepblojpaaAmS
namespace Go.Proofs.Ytfoadgepblojpaa
open Go.AM Go.Proofs
theorem tb_ty : tb.ty = ty := rfl
theorem tb_eqn : tb.eqn = eqn := rfl
theorem tb_key : tb.key = key := rfl
theorem tb_mid : tb.mid = fun _ => none := rfl
theorem tb_call (f : FuncId) (us : List V) : tb.call f us = none := rfl
theorem tb_eff (f : FuncId) (us : List V) (d : Option Nat) (ρ : Env) (σ : Sto) : tb.eff f us d ρ σ = none := rfl
attribute [simp] tb_mid tb_ty tb_eqn tb_key tb_call tb_eff ty eqn key ti3 ti4 ti22 ti23 ti24 ti27 ti40 ti47 ti49 ti50 ti63 ti97

def cmpP (x y x' y' : Int) : Int := if y < y' ∨ y = y' ∧ x < x' then -1 else if x = x' ∧ y = y' then 0 else 1
def cmpI (a b : Int) : Int := if a < b then -1 else if b < a then 1 else 0

theorem isNaN_spec (a : Int) : PFn Try.prog 73 [.int a] (· = .bool false) := by
  refine pfn_L tb_ok mixed _ Try.func73 rfl (by kernel_rfl) (by simp [Try.ntmps73]) (by kernel_rfl) fun cx hn => ?_
  simp -dsimp [Try.results73]

theorem place53_spec (x y f t : Int) : PFn Try.prog 34 [.agg [.d (.int .i64 x), .d (.int .i64 y), .d (.int .i64 f), .d (.int .i64 t)]] (· = .agg [.d (.int .i64 x), .d (.int .i64 y)]) := by
  refine pfn_L tb_ok mixed _ Try.func34 rfl (by kernel_rfl) (by simp [Try.ntmps34]) (by kernel_rfl) fun cx hn => ?_
  simp -dsimp [Try.results34]

theorem dAt_spec (x y f t : Int) : PFn Try.prog 37 [.agg [.d (.int .i64 x), .d (.int .i64 y), .d (.int .i64 f), .d (.int .i64 t)]] (· = .agg [.d (.int .i64 x), .d (.int .i64 y)]) := by
  refine pfn_L tb_ok mixed _ Try.func37 rfl (by kernel_rfl) (by simp [Try.ntmps37]) (by kernel_rfl) fun cx hn => ?_
  simp -dsimp [Try.results37]

theorem pAt_spec (x y s : Int) : PFn Try.prog 47 [.agg [.d (.int .i64 x), .d (.int .i64 y), .d (.int .i64 s)]] (· = .agg [.d (.int .i64 x), .d (.int .i64 y)]) := by
  refine pfn_L tb_ok mixed _ Try.func47 rfl (by kernel_rfl) (by simp [Try.ntmps47]) (by kernel_rfl) fun cx hn => ?_
  simp -dsimp [Try.results47]

theorem valid_spec (x y : Int) : PFn Try.prog 33 [.agg [.d (.int .i64 x), .d (.int .i64 y)]] (· = .bool (decide (-1048576 ≤ x ∧ x ≤ 1048576 ∧ -1048576 ≤ y ∧ y ≤ 1048576))) := by
  refine pfn_L tb_ok mixed _ Try.func33 rfl (by kernel_rfl) (by simp [Try.ntmps33]) (by kernel_rfl) fun cx hn => ?_
  simp -dsimp [Try.results33]
  grind

theorem cmp03_spec (x y x' y' : Int) : PFn Try.prog 35 [.agg [.d (.int .i64 x), .d (.int .i64 y)], .agg [.d (.int .i64 x'), .d (.int .i64 y')]] (· = .int (cmpP x y x' y')) := by
  refine pfn_L tb_ok mixed _ Try.func35 rfl (by kernel_rfl) (by simp [Try.ntmps35]) (by kernel_rfl) fun cx hn => ?_
  simp -dsimp [Try.results35, cmpP]
  grind

theorem place05_spec (x y : Int) : PFn Try.prog 44 [.int x, .int y] (· = .bool (decide (-1048576 ≤ x ∧ x ≤ 1048576 ∧ -1048576 ≤ y ∧ y ≤ 1048576))) := by
  refine pfn_L tb_ok mixed _ Try.func44 rfl (by kernel_rfl) (by simp [Try.ntmps44]) (by kernel_rfl) fun cx hn => ?_
  simp -dsimp [Try.results44]
  grind

theorem before_spec (x y s x' y' s' : Int) : PFn Try.prog 45 [.agg [.d (.int .i64 x), .d (.int .i64 y), .d (.int .i64 s)], .agg [.d (.int .i64 x'), .d (.int .i64 y'), .d (.int .i64 s')]] (· = .bool (decide (y < y' ∨ y = y' ∧ x < x'))) := by
  refine pfn_L tb_ok mixed _ Try.func45 rfl (by kernel_rfl) (by simp [Try.ntmps45]) (by kernel_rfl) fun cx hn => ?_
  simp -dsimp [Try.results45]
  grind

theorem placed_spec (x y : Int) : PFn Try.prog 46 [.agg [.d (.int .i64 x), .d (.int .i64 y)]] (· = .bool (decide (-1048576 ≤ x ∧ x ≤ 1048576 ∧ -1048576 ≤ y ∧ y ≤ 1048576))) := by
  refine pfn_L tb_ok mixed _ Try.func46 rfl (by kernel_rfl) (by simp [Try.ntmps46]) (by kernel_rfl) fun cx hn => ?_
  simp -dsimp [Try.results46]
  grind

theorem state_spec (s : Int) : PFn Try.prog 32 [.int s] (· = .bool (decide (0 ≤ s ∧ s < 8))) := by
  refine pfn_L tb_ok mixed _ Try.func32 rfl (by kernel_rfl) (by simp [Try.ntmps32]) (by kernel_rfl) fun cx hn => ?_
  simp -dsimp [Try.results32]
  grind

theorem order05_spec (a b : Int) : PFn Try.prog 54 [.int a, .int b] (· = .int (cmpI a b)) := by
  refine pfn_L tb_ok mixed _ Try.func54 rfl (by kernel_rfl) (by simp [Try.ntmps54]) (by kernel_rfl) fun cx hn => ?_
  simp -dsimp [Try.results54, cmpI]
  grind

def c73 (us : List V) : Option V := match us with
  | [.u (.one (.d (.int .i64 _)))] => some (.bool false)
  | _ => none
def c34 (us : List V) : Option V := match us with
  | [.u (.agg [.d (.int .i64 x), .d (.int .i64 y), .d (.int .i64 _), .d (.int .i64 _)])] => some (.agg [.d (.int .i64 x), .d (.int .i64 y)])
  | _ => none
def c37 (us : List V) : Option V := match us with
  | [.u (.agg [.d (.int .i64 x), .d (.int .i64 y), .d (.int .i64 _), .d (.int .i64 _)])] => some (.agg [.d (.int .i64 x), .d (.int .i64 y)])
  | _ => none
def c47 (us : List V) : Option V := match us with
  | [.u (.agg [.d (.int .i64 x), .d (.int .i64 y), .d (.int .i64 _)])] => some (.agg [.d (.int .i64 x), .d (.int .i64 y)])
  | _ => none
def c33 (us : List V) : Option V := match us with
  | [.u (.agg [.d (.int .i64 x), .d (.int .i64 y)])] => some (.bool (decide (-1048576 ≤ x ∧ x ≤ 1048576 ∧ -1048576 ≤ y ∧ y ≤ 1048576)))
  | _ => none
def c35 (us : List V) : Option V := match us with
  | [.u (.agg [.d (.int .i64 x), .d (.int .i64 y)]), .u (.agg [.d (.int .i64 x'), .d (.int .i64 y')])] => some (.int (cmpP x y x' y'))
  | _ => none
def c44 (us : List V) : Option V := match us with
  | [.u (.one (.d (.int .i64 x))), .u (.one (.d (.int .i64 y)))] => some (.bool (decide (-1048576 ≤ x ∧ x ≤ 1048576 ∧ -1048576 ≤ y ∧ y ≤ 1048576)))
  | _ => none
def c45 (us : List V) : Option V := match us with
  | [.u (.agg [.d (.int .i64 x), .d (.int .i64 y), .d (.int .i64 _)]), .u (.agg [.d (.int .i64 x'), .d (.int .i64 y'), .d (.int .i64 _)])] => some (.bool (decide (y < y' ∨ y = y' ∧ x < x')))
  | _ => none
def c46 (us : List V) : Option V := match us with
  | [.u (.agg [.d (.int .i64 x), .d (.int .i64 y)])] => some (.bool (decide (-1048576 ≤ x ∧ x ≤ 1048576 ∧ -1048576 ≤ y ∧ y ≤ 1048576)))
  | _ => none
def c32 (us : List V) : Option V := match us with
  | [.u (.one (.d (.int .i64 s)))] => some (.bool (decide (0 ≤ s ∧ s < 8)))
  | _ => none
def c54 (us : List V) : Option V := match us with
  | [.u (.one (.d (.int .i64 a))), .u (.one (.d (.int .i64 b)))] => some (.int (cmpI a b))
  | _ => none
def ct1 (f : FuncId) (us : List V) : Option V := match f with
  | 73 => c73 us
  | 34 => c34 us
  | 37 => c37 us
  | 47 => c47 us
  | 33 => c33 us
  | 35 => c35 us
  | 44 => c44 us
  | 45 => c45 us
  | 46 => c46 us
  | 32 => c32 us
  | 54 => c54 us
  | _ => none

theorem ct1_ok : ∀ f us v, ct1 f us = some v → PureCall Try.prog f us v := by
  intro f us v h
  unfold ct1 at h
  split at h
  · unfold c73 at h
    split at h
    · cases h; exact (isNaN_spec _).pure
    · cases h
  · unfold c34 at h
    split at h
    · cases h; exact (place53_spec _ _ _ _).pure
    · cases h
  · unfold c37 at h
    split at h
    · cases h; exact (dAt_spec _ _ _ _).pure
    · cases h
  · unfold c47 at h
    split at h
    · cases h; exact (pAt_spec _ _ _).pure
    · cases h
  · unfold c33 at h
    split at h
    · cases h; exact (valid_spec _ _).pure
    · cases h
  · unfold c35 at h
    split at h
    · cases h; exact (cmp03_spec _ _ _ _).pure
    · cases h
  · unfold c44 at h
    split at h
    · cases h; exact (place05_spec _ _).pure
    · cases h
  · unfold c45 at h
    split at h
    · cases h; exact (before_spec _ _ _ _ _ _).pure
    · cases h
  · unfold c46 at h
    split at h
    · cases h; exact (placed_spec _ _).pure
    · cases h
  · unfold c32 at h
    split at h
    · cases h; exact (state_spec _).pure
    · cases h
  · unfold c54 at h
    split at h
    · cases h; exact (order05_spec _ _).pure
    · cases h
  · cases h

def tb1 : Tb := { tb with call := ct1 }
theorem tb1_ok : TbOk Try.prog tb1 := { tb_ok with call := ct1_ok }
theorem tb1_ty : tb1.ty = ty := rfl
theorem tb1_eqn : tb1.eqn = eqn := rfl
theorem tb1_key : tb1.key = key := rfl
theorem tb1_mid : tb1.mid = fun _ => none := rfl
theorem tb1_call : tb1.call = ct1 := rfl
theorem tb1_eff (f : FuncId) (us : List V) (d : Option Nat) (ρ : Env) (σ : Sto) : tb1.eff f us d ρ σ = none := rfl
attribute [simp] tb1_mid tb1_ty tb1_eqn tb1_key tb1_call tb1_eff ct1 c73 c34 c37 c47 c33 c35 c44 c45 c46 c32 c54

theorem cmpCompare_spec (a b : Int) : PFn Try.prog 66 [.int a, .int b] (· = .int (cmpI a b)) := by
  refine pfn_L tb1_ok mixed _ Try.func66 rfl (by kernel_rfl) (by simp [Try.ntmps66]) (by kernel_rfl) fun cx hn => ?_
  simp -dsimp [Try.results66, cmpI]
  grind

end Go.Proofs.Ytfoadgepblojpaa
