/- NrZ -/
import Derived.Test.YtldhnnkpmhnpcaaGreatDoorNrS
import Derived.Test.YtldhnnkpmhnpcaaGreatDoorNry1
import Derived.Test.YtldhnnkpmhnpcaaGreatDoorNry2
import Derived.Test.YtldhnnkpmhnpcaaGreatDoorNry3
namespace Go.Proofs.YtldhnnkpmhnpcaaGreatDoor
open Go.AM Go.Proofs
set_option maxRecDepth 100000
theorem nr_eq (n : Int) : m_L16_NotationRows n = nrR n := by
 unfold m_L16_NotationRows nrR
 simp only [awake16]
 rfl
theorem nrb_all : ∀ j, j < 32 → nrB j = true
 | 0, _ => nrb0
 | 1, _ => nrb1
 | 2, _ => nrb2
 | 3, _ => nrb3
 | 4, _ => nrb4
 | 5, _ => nrb5
 | 6, _ => nrb6
 | 7, _ => nrb7
 | 8, _ => nrb8
 | 9, _ => nrb9
 | 10, _ => nrb10
 | 11, _ => nrb11
 | 12, _ => nrb12
 | 13, _ => nrb13
 | 14, _ => nrb14
 | 15, _ => nrb15
 | 16, _ => nrb16
 | 17, _ => nrb17
 | 18, _ => nrb18
 | 19, _ => nrb19
 | 20, _ => nrb20
 | 21, _ => nrb21
 | 22, _ => nrb22
 | 23, _ => nrb23
 | 24, _ => nrb24
 | 25, _ => nrb25
 | 26, _ => nrb26
 | 27, _ => nrb27
 | 28, _ => nrb28
 | 29, _ => nrb29
 | 30, _ => nrb30
 | 31, _ => nrb31
 | j + 32, h => absurd h (by omega)
theorem nr_true (n : Int) (h : 0 ≤ n ∧ n ≤ 255) : m_L16_NotationRows n = some true := by
 obtain ⟨k, rfl⟩ := Int.eq_ofNat_of_zero_le h.1
 have hk : k ≤ 255 := by omega
 have hb := nrb_all (k / 8) (by omega)
 unfold nrB at hb
 have hm : k ∈ List.range' (8 * (k / 8)) 8 := by
  rw [List.mem_range'_1]
  omega
 have h1 := List.all_eq_true.1 hb k hm
 rw [nr_eq]
 simpa using h1
end Go.Proofs.YtldhnnkpmhnpcaaGreatDoor
