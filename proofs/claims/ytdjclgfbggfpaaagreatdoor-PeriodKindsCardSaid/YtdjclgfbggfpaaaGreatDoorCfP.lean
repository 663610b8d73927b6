/-
  Comparisons by which slices are sorted: that the program's give them, and that they order.
-/
import Derived.Test.YtdjclgfbggfpaaaGreatDoorPlx1
import Derived.Test.YtdjclgfbggfpaaaGreatDoorLays
namespace Go.Proofs.YtdjclgfbggfpaaaGreatDoor
open Go.AM Go.Proofs Go.Sort
instance : Inhabited Cell := ⟨⟨0, 0, 0⟩⟩
theorem swo_pattern_order : SWO (ltOf cf_pattern_order) where
  irrefl x := by simp [ltOf, cf_pattern_order, cmpYX, cmpI]
  trans x y z h1 h2 := by
    simp only [ltOf, cf_pattern_order, cmpYX, cmpI] at *
    grind
  ntrans x y z h1 h2 := by
    simp only [ltOf, cf_pattern_order, cmpYX, cmpI] at *
    grind
theorem tot_pattern_order (a b : Cell) : m_pattern_order a b = some (cf_pattern_order a b) := by
  unfold m_pattern_order m_pattern_at m_point_Compare
  simp only [some_bind, cmp_eq, or_eq]
  rfl
end Go.Proofs.YtdjclgfbggfpaaaGreatDoor
