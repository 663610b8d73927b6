/-
  Arrays of numbers and truth values in a variable: read and written at an index that is not known.
-/
import Derived.Test.YtdjclgfbggfpaaaGreatDoorAmFs
namespace Go.AM
open Go.RowKit
def aok (m : Nat) (n : Int) : Bool := decide (0 ≤ n ∧ n < (m : Int))
section
variable {α : Type} {m : Nat} {l : List α} {i : Int} {x : α}
end
section
variable {tb : Tb} {σ : Sto}
def qixAE (te : Option TI) (m s o : Nat) (n : Int) : Option V := match te with
 | some te => bif aok m n then some (.u (.one (.box s (o + n.toNat * te.size)))) else none
 | none => none
def qixAD (tb : Tb) (d : TypeDesc) (s o : Nat) (n : Int) : Option V := match d with
 | .array m e => qixAE (tb.ty e) m s o n
 | _ => none
def qixAO (tb : Tb) (ti : Option TI) (s o : Nat) (n : Int) : Option V := match ti with
 | some ti => qixAD tb ti.desc s o n
 | none => none
theorem qixAO_some (ti : TI) (s o : Nat) (n : Int) : qixAO tb (some ti) s o n = qixAD tb ti.desc s o n := rfl
theorem qixAD_array (m : Nat) (e : TypeId) (s o : Nat) (n : Int) : qixAD tb (.array m e) s o n = qixAE (tb.ty e) m s o n := rfl
theorem qixAE_some (te : TI) (m s o : Nat) (n : Int) : qixAE (some te) m s o n = bif aok m n then some (.u (.one (.box s (o + n.toNat * te.size)))) else none := rfl
theorem qindex_boxE {t : TypeId} {k : IntKind} {n : Int} {s o : Nat} : qindex tb σ t (.u (.one (.box s o))) (.u (.one (.d (.int k n)))) = qixAO tb (tb.ty t) s o n := by
 unfold qindex qixAO qixAD qixAE
 rcases tb.ty t with _ | ti
 ·rfl
 dsimp only
 cases ti.desc with
 | array m e =>
  dsimp only
  rcases tb.ty e with _ | te
  ·rfl
  dsimp only
  unfold aok
  by_cases h : 0 ≤ n ∧ n < (m : Int) <;> simp [h]
 | slice e =>
  dsimp only
  rcases tb.ty e with _ | te <;> rfl
 | _ => rfl
end
theorem C.wks_self (x : List C) : C.wks x x ↔ True := iff_of_true (C.wks_refl x) trivial
attribute [simp] C.wks_self
attribute [simp] qindex_boxE qixAO_some qixAD_array qixAE_some
end Go.AM
