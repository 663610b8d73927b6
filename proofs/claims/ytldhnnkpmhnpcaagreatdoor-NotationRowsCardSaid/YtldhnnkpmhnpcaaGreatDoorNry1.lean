/- NrR0 -/
import Derived.Test.YtldhnnkpmhnpcaaGreatDoorNrR
namespace Go.Proofs.YtldhnnkpmhnpcaaGreatDoor
open Go.AM Go.Proofs
set_option maxRecDepth 100000
theorem nrb0 : nrB 0 = true := by kernel_rfl
theorem nrb1 : nrB 1 = true := by kernel_rfl
theorem nrb2 : nrB 2 = true := by kernel_rfl
theorem nrb3 : nrB 3 = true := by kernel_rfl
end Go.Proofs.YtldhnnkpmhnpcaaGreatDoor
namespace Go.Proofs.YtldhnnkpmhnpcaaGreatDoor
open Go.AM Go.Proofs
set_option maxRecDepth 100000
theorem nrb4 : nrB 4 = true := by kernel_rfl
theorem nrb5 : nrB 5 = true := by kernel_rfl
theorem nrb6 : nrB 6 = true := by kernel_rfl
theorem nrb7 : nrB 7 = true := by kernel_rfl
end Go.Proofs.YtldhnnkpmhnpcaaGreatDoor
namespace Go.Proofs.YtldhnnkpmhnpcaaGreatDoor
open Go.AM Go.Proofs
set_option maxRecDepth 100000
theorem nrb8 : nrB 8 = true := by kernel_rfl
theorem nrb9 : nrB 9 = true := by kernel_rfl
theorem nrb10 : nrB 10 = true := by kernel_rfl
theorem nrb11 : nrB 11 = true := by kernel_rfl
end Go.Proofs.YtldhnnkpmhnpcaaGreatDoor
