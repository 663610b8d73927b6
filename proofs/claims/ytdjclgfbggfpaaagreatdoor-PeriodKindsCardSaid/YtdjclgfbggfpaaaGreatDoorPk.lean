/-
  PeriodKinds: the two sides agree on After and Kind.
-/
import Derived.Test.YtdjclgfbggfpaaaGreatDoorPlx1
import Derived.Test.YtdjclgfbggfpaaaGreatDoorPd0
namespace Go.Proofs.YtdjclgfbggfpaaaGreatDoor
open Go.AM Go.Proofs

theorem proper_eq (n : Int) : m_period_proper n = some (decide (1 ≤ n) && decide (n ≤ 64)) := by
  unfold m_period_proper geB leB
  by_cases h : n ≥ 1 <;> simp [h] <;> omega
theorem near34_eq (n : Int) : m_R34_near n = some (decide (-1048576 ≤ n) && decide (n ≤ 1048576)) := by
  unfold m_R34_near geB leB
  by_cases h : n ≥ -1048576 <;> simp [h] <;> omega
theorem kind34_eq (m : Motion) : m_period_Kind m = m_R34_Kind m := by
  unfold m_period_Kind m_R34_Kind
  rw [proper_eq]
  simp only [some_bind, ltB, gtB, neB, notB, imin]
  by_cases h1 : m.Period < 1
  · have : ¬ (1 ≤ m.Period) := by omega
    simp [h1, this]
  · have h1' : 1 ≤ m.Period := by omega
    by_cases h2 : m.Period > 64
    · have : ¬ (m.Period ≤ 64) := by omega
      simp [h1, h2, this]
    · have h2' : m.Period ≤ 64 := by omega
      simp only [h1, h1', h2, h2', decide_true, decide_false, Bool.and_true, Bool.not_true, cond_false, some_bind]
      by_cases h3 : m.DX = 0
      · by_cases h4 : m.DY = 0
        · simp only [h3, h4, bne_self_eq_false, cond_false, some_bind]
          by_cases h5 : m.Period > 1
          · simp only [h5, decide_true, cond_true]
            by_cases h6 : 2 < m.Period
            · simp [h6]
            · simp [h6]; omega
          · have : m.Period = 1 := by omega
            simp [this]
        · have h4' : (m.DY != 0) = true := by simpa using h4
          simp [h3, h4']
      · have h3' : (m.DX != 0) = true := by simpa using h3
        simp [h3']
/-- The overflow of the products cannot be met. -/
theorem after34_eq (m : Motion) (n : Int) : m_period_After m n = m_R34_After m n := by
  unfold m_period_After m_R34_After
  simp only [proper_eq, near34_eq, some_bind, ltB, gtB, notB]
  by_cases h1 : 1 ≤ m.Period
  case neg =>
    have h1' : m.Period < 1 := by omega
    simp [h1, h1']
  have h1' : ¬ m.Period < 1 := by omega
  by_cases h2 : m.Period ≤ 64
  case neg =>
    have h2' : m.Period > 64 := by omega
    simp [h1, h1', h2, h2']
  have h2' : ¬ m.Period > 64 := by omega
  simp only [h1, h1', h2, h2', decide_true, decide_false, Bool.and_true, Bool.not_true, cond_false]
  have e1 : (decide (imax m.DX m.DY > 1048576) || decide (imin m.DX m.DY < -1048576)) = (!(decide (-1048576 ≤ m.DX) && decide (m.DX ≤ 1048576)) || !(decide (-1048576 ≤ m.DY) && decide (m.DY ≤ 1048576))) := by
    rw [Bool.eq_iff_iff]
    simp only [Bool.or_eq_true, decide_eq_true_eq, Bool.not_eq_true', Bool.and_eq_false_iff, decide_eq_false_iff_not]
    simp only [imax, imin]; split <;> split <;> constructor <;> intro h <;> omega
  have e2 : ∀ a b : Int, (decide (imax a b > 1048576) || decide (imin a b < -1048576)) = (!(decide (-1048576 ≤ a) && decide (a ≤ 1048576)) || !(decide (-1048576 ≤ b) && decide (b ≤ 1048576))) := by
    intro a b
    rw [Bool.eq_iff_iff]
    simp only [Bool.or_eq_true, decide_eq_true_eq, Bool.not_eq_true', Bool.and_eq_false_iff, decide_eq_false_iff_not]
    simp only [imax, imin]; split <;> split <;> constructor <;> intro h <;> omega
  simp only [bif_some, bif_some_t, ← Bool.or_assoc, e2, some_bind]
  have e3 : ∀ a b, imul .i64 a b = imul .i64 b a := fun a b => by unfold imul; rw [Int.mul_comm]
  simp only [e3 n]
theorem kinds_true (m : Motion) (n : Int) : m_L34_PeriodKinds m n = some true := by
  unfold m_L34_PeriodKinds
  rw [kind34_eq, after34_eq]
  have hk : ∃ k, m_R34_Kind m = some k := by
    unfold m_R34_Kind
    simp only [bif_some, some_bind]
    exact ⟨_, rfl⟩
  have ha : ∃ a, m_R34_After m n = some a := by
    unfold m_R34_After
    simp only [near34_eq, bif_some, some_bind]
    exact ⟨_, rfl⟩
  obtain ⟨k, hk⟩ := hk
  obtain ⟨a, ha⟩ := ha
  simp [hk, ha, awake34, eqB, andB]
end Go.Proofs.YtdjclgfbggfpaaaGreatDoor
