/- The fixed examples of chapter 50 hold: reckoned by the kernel over the functions of lists. -/
import Derived.Test.YtfpjnmhdbgbmmaaGreatDoorMd1
namespace Go.Proofs.YtfpjnmhdbgbmmaaGreatDoor
open Go.AM Go.Proofs
theorem awake50 : gH = some true := by kernel_rfl
end Go.Proofs.YtfpjnmhdbgbmmaaGreatDoor
