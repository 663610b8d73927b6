/-
  PeriodKinds: the two sides agree on After and Kind.
-/
import Derived.Test.YtdjclgfbggfpaaaGreatDoorPlx1
import Derived.Test.YtdjclgfbggfpaaaGreatDoorPd0
namespace Go.Proofs.YtdjclgfbggfpaaaGreatDoor
open Go.AM Go.Proofs
end Go.Proofs.YtdjclgfbggfpaaaGreatDoor
