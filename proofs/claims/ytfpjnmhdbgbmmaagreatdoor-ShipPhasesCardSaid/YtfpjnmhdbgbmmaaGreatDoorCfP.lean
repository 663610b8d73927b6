/- Comparisons by which slices are sorted: that the program gives them, and that they order. -/
import Derived.Test.YtfpjnmhdbgbmmaaGreatDoorPlx1
import Derived.Test.YtfpjnmhdbgbmmaaGreatDoorLays
namespace Go.Proofs.YtfpjnmhdbgbmmaaGreatDoor
open Go.AM Go.Proofs Go.Sort
instance : Inhabited Cell := ⟨⟨0, 0, 0⟩⟩
theorem swo_pattern_order : SWO (ltOf aB) where
 irrefl x := by simp [ltOf, aB, cmpYX, cmpI]
 trans x y z h1 h2 := by
  simp only [ltOf, aB, cmpYX, cmpI] at *
  grind
 ntrans x y z h1 h2 := by
  simp only [ltOf, aB, cmpYX, cmpI] at *
  grind
theorem tot_pattern_order (a b : Cell) : cg a b = some (aB a b) := by
 unfold cg bc bM
 simp only [some_bind, cmp_eq, or_eq]
 rfl
theorem swo_algebra_order : SWO (ltOf cm) where
 irrefl x := by simp [ltOf, cm, cmpYX, cmpI]
 trans x y z h1 h2 := by
  simp only [ltOf, cm, cmpYX, cmpI] at *
  grind
 ntrans x y z h1 h2 := by
  simp only [ltOf, cm, cmpYX, cmpI] at *
  grind
theorem tot_algebra_order (a b : Cell) : eP a b = some (cm a b) := by
 unfold eP
 simp only [some_bind, cmp_eq, or_eq]
 rfl
end Go.Proofs.YtfpjnmhdbgbmmaaGreatDoor
