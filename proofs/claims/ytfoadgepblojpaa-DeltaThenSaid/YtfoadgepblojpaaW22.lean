/-
  The walks of the laws that compare with the reference: DeltaLists, DeltaApplies, DeltaCombines.
-/
import Derived.Test.YtfoadgepblojpaaW21
namespace Go.Proofs.Ytfoadgepblojpaa
open Go.AM Go.Proofs Go.Sort

def fewB (a b : List Cl) (x y : List Ch) : Bool := decide (a.length ≤ 200 ∧ b.length ≤ 200 ∧ x.length ≤ 200 ∧ y.length ≤ 200)
def c9 (us : List V) : Option V := match us with
  | [v1, v2, v3, v4] => match clV v1, clV v2, chV v3, chV v4 with
    | some a, some b, some x, some y => some (.bool (fewB a b x y))
    | _, _, _, _ => none
  | _ => none
def c10 (us : List V) : Option V := match us with
  | [] => some (.bool true)
  | _ => none
def ct13 (f : FuncId) (us : List V) : Option V := match f with
  | 9 => c9 us
  | 10 => c10 us
  | _ => ct12 f us
theorem ct13_ok : ∀ f us v, ct13 f us = some v → PureCall Try.prog f us v := by
  intro f us v h
  unfold ct13 at h
  split at h
  · unfold c9 at h
    split at h
    · split at h
      · rename_i a b x y ha hb hx hy
        cases h
        exact (few_spec a b x y).pure.wk ⟨clV_wk ha, clV_wk hb, chV_wk hx, chV_wk hy, trivial⟩
      · cases h
    · cases h
  · unfold c10 at h
    split at h
    · cases h; exact awake_spec.pure
    · cases h
  · exact ct12_ok f us v h
def tb13 : Tb := { tb with call := ct13, eff := effF ct13 }
theorem tb13_ok : TbOk Try.prog tb13 := { tb_ok with call := ct13_ok, eff := fun cx f us d ρ σ T K hd h hT => effF_ok ct13_ok cx f us d ρ σ T K hd h hT }
theorem tb13_ty : tb13.ty = ty := rfl
theorem tb13_eqn : tb13.eqn = eqn := rfl
theorem tb13_key : tb13.key = key := rfl
theorem tb13_mid : tb13.mid = fun _ => none := rfl
theorem tb13_call : tb13.call = ct13 := rfl
theorem tb13_eff : tb13.eff = effF ct13 := rfl
attribute [simp] tb13_mid tb13_ty tb13_eqn tb13_key tb13_call tb13_eff ct13 c9 c10
theorem fewB_le {a b : List Cl} {x y : List Ch} (h : fewB a b x y = true) : a.length ≤ 200 ∧ b.length ≤ 200 ∧ x.length ≤ 200 ∧ y.length ≤ 200 := by simpa [fewB] using h
/-! ### lengths -/
theorem foldl_insG_length {α : Type} (g : α → Option Ch) : ∀ (l : List α) (z : List Ch), (l.foldl (insG g) z).length ≤ z.length + l.length
  | [], z => by simp
  | c :: l, z => by
    have h := foldl_insG_length g l (insG g z c)
    have h' : (insG g z c).length ≤ z.length + 1 := by unfold insG; split <;> simp [insCh_length]
    rw [List.foldl_cons, List.length_cons]
    omega
theorem ofL_length (a b : List Cl) : (ofL a b).length ≤ a.length + b.length := by
  unfold ofL
  split
  · rw [ofR_eq]
    have h := foldl_insG_length (gB a) b (a.foldl (insG (gA b)) [])
    have h' := foldl_insG_length (gA b) a []
    simp at h'
    omega
  · simp
theorem thnL_length (a b : List Ch) : (thnL a b).length ≤ a.length + b.length := by
  unfold thnL thenR
  split
  · split
    · split
      · simp
      · rw [thenU_eq]
        have h := foldl_insG_length (gU a) b (a.foldl (insG (gW b)) [])
        have h' := foldl_insG_length (gW b) a []
        simp at h'
        simp only
        omega
    · simp
  · simp
theorem mrgL_length (a b : List Ch) : (mrgL a b).length ≤ a.length + b.length := by
  unfold mrgL mergeR
  split
  · split
    · simp
    · split
      · simp
      · rw [mergeU_eq]
        have h := foldl_insG_length (gU a) b a
        simp only
        omega
  · simp
theorem invL_length (l : List Ch) : (invL l).length ≤ l.length := by unfold invL; split <;> simp
theorem fromR_length (l : List Cl) : (fromR l).1.length ≤ l.length := by
  unfold fromR
  split
  · split
    · split
      · simp
      · have := foldl_length stepF stepF_length l []
        simpa using this
    · simp
  · simp
theorem appL_length (p : List Cl) (l : List Ch) : (appL p l).length ≤ p.length + l.length := by
  unfold appL applyR
  split
  · split
    · refine Nat.le_trans (fromR_length _) ?_
      unfold applyC
      rw [List.length_append, List.length_map]
      have := List.length_filter_le (fun c : Cl => decide (findP 0 l c.x c.y < 0)) p
      omega
    · simp
  · simp

theorem lists_spec (l : List Ch) (a b : List Cl) : PFn Try.prog 3 [.one (.d (chL l)), .one (.d (clL a)), .one (.d (clL b))] (· = .bool true) := by
  refine pfn_L tb13_ok mixed _ Try.func3 rfl (by kernel_rfl) (by simp [Try.ntmps3]) (by kernel_rfl) fun cx hn => ?_
  by_cases hf : fewB a b l [] = true
  · obtain ⟨h1, h2, h3, h4⟩ := fewB_le hf
    have q1 : a.length ≤ 1000 := by omega
    have q2 : b.length ≤ 1000 := by omega
    have q3 : l.length ≤ 1000 := by omega
    have q4 : l.length ≤ 100000 := by omega
    have q5 : (ofL a b).length ≤ 100000 := by have := ofL_length a b; omega
    have q6 : (invL l).length ≤ 100000 := by have := invL_length l; omega
    simp -dsimp [chL, clL, hf, q1, q2, q3, q4, q5, q6, Try.results3]
  · simp -dsimp [chL, clL, hf, Try.results3]
theorem applies_spec (p : List Cl) (l : List Ch) : PFn Try.prog 4 [.one (.d (clL p)), .one (.d (chL l))] (· = .bool true) := by
  refine pfn_L tb13_ok mixed _ Try.func4 rfl (by kernel_rfl) (by simp [Try.ntmps4]) (by kernel_rfl) fun cx hn => ?_
  by_cases hf : fewB p [] l [] = true
  · obtain ⟨h1, h2, h3, h4⟩ := fewB_le hf
    have q1 : p.length ≤ 1000 := by omega
    have q3 : l.length ≤ 1000 := by omega
    have q5 : (appL p l).length ≤ 100000 := by have := appL_length p l; omega
    simp -dsimp [chL, clL, hf, q1, q3, q5, Try.results4]
  · simp -dsimp [chL, clL, hf, Try.results4]
theorem combines_spec (a b : List Ch) : PFn Try.prog 5 [.one (.d (chL a)), .one (.d (chL b))] (· = .bool true) := by
  refine pfn_L tb13_ok mixed _ Try.func5 rfl (by kernel_rfl) (by simp [Try.ntmps5]) (by kernel_rfl) fun cx hn => ?_
  by_cases hf : fewB [] [] a b = true
  · obtain ⟨h1, h2, h3, h4⟩ := fewB_le hf
    have q1 : a.length ≤ 1000 := by omega
    have q3 : b.length ≤ 1000 := by omega
    have q5 : (thnL a b).length ≤ 100000 := by have := thnL_length a b; omega
    have q6 : (mrgL a b).length ≤ 100000 := by have := mrgL_length a b; omega
    simp -dsimp [chL, hf, q1, q3, q5, q6, Try.results5]
  · simp -dsimp [chL, hf, Try.results5]
end Go.Proofs.Ytfoadgepblojpaa
