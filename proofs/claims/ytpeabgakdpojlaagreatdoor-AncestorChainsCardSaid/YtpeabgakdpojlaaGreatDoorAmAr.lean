/- Lemmas for the law. -/
import Derived.Test.YtpeabgakdpojlaaGreatDoorAmFs
namespace Go.AM
open Go.RowKit
def cI (k:IntKind) (n:Int):C:=.d (.int k n)
theorem cI_eq (k:IntKind) (n:Int):cI k n=.d (.int k n):=rfl
section
variable {I:Type} {m:Nat} {l:List I} {i:Int} {x:I}
end
section
variable {tb:Tb} {O:Sto}
end
section
variable {tb:Tb} {O:Sto}
end
theorem C.wks_self (x:As):C.wks x x↔True:=iff_of_true (C.wks_refl x) trivial
attribute [simp] C.wks_self
attribute [simp] cI_eq
