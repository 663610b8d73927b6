/- NrR6 -/
import Derived.Test.YtldhnnkpmhnpcaaGreatDoorNrR
namespace Go.Proofs.YtldhnnkpmhnpcaaGreatDoor
open Go.AM Go.Proofs
set_option maxRecDepth 100000
theorem nrb24 : nrB 24 = true := by kernel_rfl
theorem nrb25 : nrB 25 = true := by kernel_rfl
theorem nrb26 : nrB 26 = true := by kernel_rfl
theorem nrb27 : nrB 27 = true := by kernel_rfl
end Go.Proofs.YtldhnnkpmhnpcaaGreatDoor
namespace Go.Proofs.YtldhnnkpmhnpcaaGreatDoor
open Go.AM Go.Proofs
set_option maxRecDepth 100000
theorem nrb28 : nrB 28 = true := by kernel_rfl
theorem nrb29 : nrB 29 = true := by kernel_rfl
theorem nrb30 : nrB 30 = true := by kernel_rfl
theorem nrb31 : nrB 31 = true := by kernel_rfl
end Go.Proofs.YtldhnnkpmhnpcaaGreatDoor
