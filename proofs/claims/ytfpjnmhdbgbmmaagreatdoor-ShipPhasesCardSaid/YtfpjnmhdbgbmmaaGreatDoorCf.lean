/- Comparisons by which slices are sorted. -/
import Derived.Test.YtfpjnmhdbgbmmaaGreatDoorMd0
import Derived.Test.YtfpjnmhdbgbmmaaGreatDoorAmSo
namespace Go.Proofs.YtfpjnmhdbgbmmaaGreatDoor
def cmpI (a b : Int) : Int := if a < b then -1 else if a > b then 1 else 0
def cmpYX (ay ax byy bx : Int) : Int := if cmpI ay byy ≠ 0 then cmpI ay byy else cmpI ax bx
def aB (a b : Cell) : Int := cmpYX a.Y a.X b.Y b.X
def cm (a b : Cell) : Int := cmpYX a.Y a.X b.Y b.X
end Go.Proofs.YtfpjnmhdbgbmmaaGreatDoor
