/- Long loops, step by step, with the states between written out. -/
import Derived.Test.YtcllfealpkhjfaaGreatDoorMdx1
namespace Go.Proofs.YtcllfealpkhjfaaGreatDoor
open Go.AM Go.Proofs
def Run {S T:Type} (step:S->Option (Lp S T)) (k:Nat) (s:S) (t:T):Prop:=∀ n,aY step (n+k) s=some t
theorem Run.fin {S T:Type} {step:S->Option (Lp S T)} {k:Nat} {s:S} {t:T} (r:Run step k s t) (hk:k<=1000):aY step ba s=some t:=by
 have h:=r (ba - k)
 rwa [Nat.sub_add_cancel (Nat.le_trans hk (by decide))] at h
def mkN:List Int->List Node
 | a::b::c::r=>⟨a,[b,c]⟩::mkN r
 | _=>[]
def mkP:List Int->List Point
 | a::b::r=>⟨a,b⟩::mkP r
 | _=>[]
end Go.Proofs.YtcllfealpkhjfaaGreatDoor
namespace Go.Proofs.YtcllfealpkhjfaaGreatDoor
open Go.AM Go.Proofs
set_option maxRecDepth 100000
def raT:Tree:=⟨2,(mkP [-1,-1,0,-1,1,-1,-1,0,0,0,1,0,-1,1,0,1,1,1]),(mkN [1,0,0,2,0,0,1,0,1,2,0,2,3,1,3,1,1,0,2,2,5,3,3,6,4,4,7,1,1,1,2,2,9,3,3,10,2,9,5,3,10,12,4,11,13,5,8,14,2,5,0,3,6,16,4,7,17,3,12,16,4,13,19,5,18,20,6,15,21,3,16,1,4,17,23,4,19,23,5,24,25,6,21,26,7,22,27,3,1,1,4,23,29,5,30,30,6,26,31,7,27,32,8,28,33,4,29,29,5,35,35,6,31,36,7,32,37,8,33,38,9,34,39])⟩
def rbT:Tree:=⟨2,(mkP [-1,-1,0,-1,-1,0,0,0,1,0,0,1,1,1]),(mkN [1,0,0,1,0,1,2,0,1,1,1,0,2,1,3,3,2,4,2,0,0,3,6,2,4,5,7,2,3,0,3,4,9,1,1,1,2,1,11,3,2,12,4,10,13,5,8,14,3,9,6,2,11,3,3,12,17,4,16,18,5,14,19,6,15,20,3,6,6,3,17,9,4,22,23,5,19,24,6,20,25,7,21,26])⟩
end Go.Proofs.YtcllfealpkhjfaaGreatDoor
