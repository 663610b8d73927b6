/- Comparisons by which slices are sorted. -/
import Derived.Test.YtogdjcdmbodmiaaGreatDoorMd0
import Derived.Test.YtogdjcdmbodmiaaGreatDoorAmSo
namespace Go.Proofs.YtogdjcdmbodmiaaGreatDoor
def cmpI (a b : Int) : Int := if a < b then -1 else if a > b then 1 else 0
def cmpYX (ay ax byy bx : Int) : Int := if cmpI ay byy ≠ 0 then cmpI ay byy else cmpI ax bx
def aA (a b : Cell) : Int := cmpYX a.Y a.X b.Y b.X
end Go.Proofs.YtogdjcdmbodmiaaGreatDoor
