/- Arrays of numbers and truth values in a variable: read and written at an index that is not known. -/
import Derived.Test.YtopmhknobhmbgaaGreatDoorAmFs
namespace Go.AM
open Go.RowKit
def cI (k:IntKind) (n:Int):C:=.d (.int k n)
def cB (b:Bool):C:=.d (.bool b)
theorem cI_eq (k:IntKind) (n:Int):cI k n=.d (.int k n):=rfl
theorem cB_eq (b:Bool):cB b=.d (.bool b):=rfl
def aok (m:Nat) (n:Int):Bool:=decide (0<=n/\n<(m:Int))
section
variable {α:Type} {m:Nat} {l:List α} {i:Int} {x:α}
end
section
variable {tb:Tb} {O:Sto}
def qixAE (te:Option TI) (m s o:Nat) (n:Int):Ap:=match te with|some te=>bif aok m n then some (.u (.one (.box s (o+n.toNat*te.size))))else none|none=>none
def qixAD (tb:Tb) (d:TypeDesc) (s o:Nat) (n:Int):Ap:=match d with|.array m e=>qixAE (tb.ty e) m s o n|_=>none
def qixAO (tb:Tb) (ti:Option TI) (s o:Nat) (n:Int):Ap:=match ti with|some ti=>qixAD tb ti.desc s o n|none=>none
theorem qixAO_some (ti:TI) (s o:Nat) (n:Int):qixAO tb (some ti) s o n=qixAD tb ti.desc s o n:=rfl
theorem qixAD_array (m:Nat) (e:TypeId) (s o:Nat) (n:Int):qixAD tb (.array m e) s o n=qixAE (tb.ty e) m s o n:=rfl
theorem qixAE_some (te:TI) (m s o:Nat) (n:Int):qixAE (some te) m s o n=bif aok m n then some (.u (.one (.box s (o+n.toNat*te.size))))else none:=rfl
end
section
variable {tb:Tb} {O:Sto}
def qixRE (te:Option TI) (m:Nat) (xs:Ai) (o:Nat) (n:Int):Ap:=match te with|some te=>bif aok m n then some (.u (.one (.ref (subR xs (o+n.toNat*te.size) te.size) 0)))else none|none=>none
def qixRD (tb:Tb) (d:TypeDesc) (xs:Ai) (o:Nat) (n:Int):Ap:=match d with|.array m e=>qixRE (tb.ty e) m xs o n|_=>none
def qixRO (tb:Tb) (ti:Option TI) (xs:Ai) (o:Nat) (n:Int):Ap:=match ti with|some ti=>qixRD tb ti.desc xs o n|none=>none
theorem qixRO_some (ti:TI) (xs:Ai) (o:Nat) (n:Int):qixRO tb (some ti) xs o n=qixRD tb ti.desc xs o n:=rfl
theorem qixRD_array (m:Nat) (e:TypeId) (xs:Ai) (o:Nat) (n:Int):qixRD tb (.array m e) xs o n=qixRE (tb.ty e) m xs o n:=rfl
theorem qixRE_some (te:TI) (m:Nat) (xs:Ai) (o:Nat) (n:Int):qixRE (some te) m xs o n=bif aok m n then some (.u (.one (.ref (subR xs (o+n.toNat*te.size) te.size) 0)))else none:=rfl
end
theorem C.wks_self (x:As):C.wks x x↔True:=iff_of_true (C.wks_refl x) trivial
attribute [simp] C.wks_self
attribute [simp] qixRO_some qixRD_array qixRE_some cI_eq cB_eq qixAO_some qixAD_array qixAE_some
