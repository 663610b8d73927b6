/- NrR3 -/
import Derived.Test.YtldhnnkpmhnpcaaGreatDoorNrR
namespace Go.Proofs.YtldhnnkpmhnpcaaGreatDoor
open Go.AM Go.Proofs
set_option maxRecDepth 100000
theorem nrb12 : nrB 12 = true := by kernel_rfl
theorem nrb13 : nrB 13 = true := by kernel_rfl
theorem nrb14 : nrB 14 = true := by kernel_rfl
theorem nrb15 : nrB 15 = true := by kernel_rfl
end Go.Proofs.YtldhnnkpmhnpcaaGreatDoor
namespace Go.Proofs.YtldhnnkpmhnpcaaGreatDoor
open Go.AM Go.Proofs
set_option maxRecDepth 100000
theorem nrb16 : nrB 16 = true := by kernel_rfl
theorem nrb17 : nrB 17 = true := by kernel_rfl
theorem nrb18 : nrB 18 = true := by kernel_rfl
theorem nrb19 : nrB 19 = true := by kernel_rfl
end Go.Proofs.YtldhnnkpmhnpcaaGreatDoor
namespace Go.Proofs.YtldhnnkpmhnpcaaGreatDoor
open Go.AM Go.Proofs
set_option maxRecDepth 100000
theorem nrb20 : nrB 20 = true := by kernel_rfl
theorem nrb21 : nrB 21 = true := by kernel_rfl
theorem nrb22 : nrB 22 = true := by kernel_rfl
theorem nrb23 : nrB 23 = true := by kernel_rfl
end Go.Proofs.YtldhnnkpmhnpcaaGreatDoor
