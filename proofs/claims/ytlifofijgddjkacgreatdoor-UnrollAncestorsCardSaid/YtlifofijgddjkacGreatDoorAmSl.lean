/- Functions of Go's strings package, told by the kit: pure calls over lists of bytes. -/
import Derived.Test.YtlifofijgddjkacGreatDoorAmMp
import Derived.Shelf.Strings.Cut
import Derived.Shelf.Strings.Split
namespace Go.AM
open Go.Proofs
variable {P:Program}
end Go.AM
