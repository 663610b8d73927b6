/-
  Comparisons by which slices are sorted: that the program's give them, and that they order.
-/
import Derived.Test.YtdjclgfbggfpaaaGreatDoorPlx1
import Derived.Test.YtdjclgfbggfpaaaGreatDoorLays
namespace Go.Proofs.YtdjclgfbggfpaaaGreatDoor
open Go.AM Go.Proofs Go.Sort
instance : Inhabited Cell := ⟨⟨0, 0, 0⟩⟩
theorem swo_pattern_order : SWO (ltOf aC) where
 irrefl x := by simp [ltOf, aC, cmpYX, cmpI]
 trans x y z h1 h2 := by
  simp only [ltOf, aC, cmpYX, cmpI] at *
  grind
 ntrans x y z h1 h2 := by
  simp only [ltOf, aC, cmpYX, cmpI] at *
  grind
theorem tot_pattern_order (a b : Cell) : bQ a b = some (aC a b) := by
 unfold bQ b7 bR
 simp only [a8, cmp_eq, or_eq]
 rfl
end Go.Proofs.YtdjclgfbggfpaaaGreatDoor
