/- Arrays of numbers and truth values in a variable: read and written at an index that is not known. -/
import Derived.Test.YtpeabgakdpojlaaGreatDoorAmFs
namespace Go.AM
open Go.RowKit
def cI (k:IntKind) (n:Int):C:=.d (.int k n)
theorem cI_eq (k:IntKind) (n:Int):cI k n=.d (.int k n):=rfl
section
variable {α:Type} {m:Nat} {l:List α} {i:Int} {x:α}
end
section
variable {tb:Tb} {O:Sto}
end
section
variable {tb:Tb} {O:Sto}
end
theorem C.wks_self (x:Ar):C.wks x x↔True:=iff_of_true (C.wks_refl x) trivial
attribute [simp] C.wks_self
attribute [simp] cI_eq
