/-
  The fixed examples of chapter 34 hold: reckoned by the kernel over the functions of lists.
-/
import Derived.Test.YtdjclgfbggfpaaaGreatDoorMd1
namespace Go.Proofs.YtdjclgfbggfpaaaGreatDoor
open Go.AM Go.Proofs
theorem awake34 : aI = some true := by kernel_rfl
end Go.Proofs.YtdjclgfbggfpaaaGreatDoor
