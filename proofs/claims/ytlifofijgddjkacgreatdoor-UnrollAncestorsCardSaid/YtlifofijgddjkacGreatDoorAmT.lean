/- A whole body, evaluated at once (but for its loops). -/
import Derived.Test.YtlifofijgddjkacGreatDoorAmO
namespace Go.AM
open Go.RowKit
section
variable {P:Program} {cx:Cx} {tb:Tb}
end
end Go.AM
