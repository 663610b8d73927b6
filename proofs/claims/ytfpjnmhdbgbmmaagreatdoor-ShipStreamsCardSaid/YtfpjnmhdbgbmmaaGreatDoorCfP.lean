/-
  Comparisons by which slices are sorted: that the program gives them, and that they order.
-/
import Derived.Test.YtfpjnmhdbgbmmaaGreatDoorPlx1
import Derived.Test.YtfpjnmhdbgbmmaaGreatDoorLays
namespace Go.Proofs.YtfpjnmhdbgbmmaaGreatDoor
open Go.AM Go.Proofs Go.Sort
instance : Inhabited Cell := ⟨⟨0, 0, 0⟩⟩
theorem swo_pattern_order : SWO (ltOf bX) where
 irrefl x := by simp [ltOf, bX, cmpYX, cmpI]
 trans x y z h1 h2 := by
  simp only [ltOf, bX, cmpYX, cmpI] at *
  grind
 ntrans x y z h1 h2 := by
  simp only [ltOf, bX, cmpYX, cmpI] at *
  grind
theorem tot_pattern_order (a b : Cell) : d7 a b = some (bX a b) := by
 unfold d7 bM cu
 simp only [some_bind, cmp_eq, or_eq]
 rfl
theorem swo_algebra_order : SWO (ltOf bZ) where
 irrefl x := by simp [ltOf, bZ, cmpYX, cmpI]
 trans x y z h1 h2 := by
  simp only [ltOf, bZ, cmpYX, cmpI] at *
  grind
 ntrans x y z h1 h2 := by
  simp only [ltOf, bZ, cmpYX, cmpI] at *
  grind
theorem tot_algebra_order (a b : Cell) : dN a b = some (bZ a b) := by
 unfold dN
 simp only [some_bind, cmp_eq, or_eq]
 rfl
end Go.Proofs.YtfpjnmhdbgbmmaaGreatDoor
