/-
  No cell of these rows narrows 'for every input' (looked for: loops, veiled, ifaces, maps, wideKeys, modest, calm, conditions, laid).
  DERIVED. THE GIVEN ROWS OF THIS SEAT. 6 by the template 'for every input the law returns true; each argument reads behind the call as it read before'; 0 by the template 'total and deterministic' (their statements: YtfoadgepblojpaaTotals.lean).
  GIVEN WITH THE SEED: the statements are not yours to turn. If you find one false, say at which input.
  Laid BY PROGRAM, IN A SANDBOX (cutbox-rows.mjs): the forced cells as the released guide's own fill.sh prints them over the translation 76d8da52a98c6988… (all of the seat's roots in one cut). By AI agents, Wed Nov 11 2026. No macro, syntax, notation, axiom, sorry.
-/
import Derived.Test.YtfoadgepblojpaaChecked
import GoSem.Claim
import GoSem.ClaimJoined
import GoSem.ClaimMapViews
import Derived.JoinedTies
import Derived.KernelRfl
namespace Go.Proofs.Ytfoadgepblojpaa
/- THE CELL 'sum', in the pinned program and in every row, IS THE sha256 OF THE DUMP (.gsa) THAT YtfoadgepblojpaaProg.lean LOADS. Nothing in Lean hashes anything: it is a label: what it is worth is what the hold of that sum in a sandbox is worth. -/
noncomputable def Try.pinned : Pinned := { name := "ytfoadgepblojpaa", sum := "76d8da52a98c6988c33159b914e2ac43cf468cf3af6aa790204cbaa34dea3f93", checked := Try.checked }
namespace Rows
def none {H : Type} : Left H := { results := [], args := [] }

/-- 'cellularlaw53.DeltaLists': WHATEVER THE INPUT: true; the input reads as it did. -/
def deltaListsSpec : ChangeSpec := { name := "deltaLists", fn := fun _ => fun
  | [d1, d2, d3] => { results := [.lit (.bool true)], args := [d1, d2, d3] }
  | _ => none }
def deltaListsRow : OpenClaim := { program := "ytfoadgepblojpaa", sum := "76d8da52a98c6988c33159b914e2ac43cf468cf3af6aa790204cbaa34dea3f93", func := "cellular/cellularlaw53.DeltaLists", spec := "deltaLists", unfollowed := true, recurses := true, plainKeys := false, apart := false }
def DeltaListsSaid : Prop := deltaListsRow.holds Try.pinned (OpenSpec.ofChange deltaListsSpec)

/-- ITS FALSE NEIGHBOUR: 'it returns false'. Refute it at one input. -/
def deltaListsWrong : ChangeSpec := { name := "deltaLists", fn := fun _ => fun
  | [d1, d2, d3] => { results := [.lit (.bool false)], args := [d1, d2, d3] }
  | _ => none }
def DeltaListsWrongFalsely : Prop := deltaListsRow.holds Try.pinned (OpenSpec.ofChange deltaListsWrong)

/-- 'cellularlaw53.DeltaApplies': WHATEVER THE INPUT: true; the input reads as it did. -/
def deltaAppliesSpec : ChangeSpec := { name := "deltaApplies", fn := fun _ => fun
  | [d1, d2] => { results := [.lit (.bool true)], args := [d1, d2] }
  | _ => none }
def deltaAppliesRow : OpenClaim := { program := "ytfoadgepblojpaa", sum := "76d8da52a98c6988c33159b914e2ac43cf468cf3af6aa790204cbaa34dea3f93", func := "cellular/cellularlaw53.DeltaApplies", spec := "deltaApplies", unfollowed := true, recurses := true, plainKeys := false, apart := false }
def DeltaAppliesSaid : Prop := deltaAppliesRow.holds Try.pinned (OpenSpec.ofChange deltaAppliesSpec)

/-- ITS FALSE NEIGHBOUR: 'it returns false'. Refute it at one input. -/
def deltaAppliesWrong : ChangeSpec := { name := "deltaApplies", fn := fun _ => fun
  | [d1, d2] => { results := [.lit (.bool false)], args := [d1, d2] }
  | _ => none }
def DeltaAppliesWrongFalsely : Prop := deltaAppliesRow.holds Try.pinned (OpenSpec.ofChange deltaAppliesWrong)

/-- 'cellularlaw53.DeltaCombines': WHATEVER THE INPUT: true; the input reads as it did. -/
def deltaCombinesSpec : ChangeSpec := { name := "deltaCombines", fn := fun _ => fun
  | [d1, d2] => { results := [.lit (.bool true)], args := [d1, d2] }
  | _ => none }
def deltaCombinesRow : OpenClaim := { program := "ytfoadgepblojpaa", sum := "76d8da52a98c6988c33159b914e2ac43cf468cf3af6aa790204cbaa34dea3f93", func := "cellular/cellularlaw53.DeltaCombines", spec := "deltaCombines", unfollowed := true, recurses := true, plainKeys := false, apart := false }
def DeltaCombinesSaid : Prop := deltaCombinesRow.holds Try.pinned (OpenSpec.ofChange deltaCombinesSpec)

/-- ITS FALSE NEIGHBOUR: 'it returns false'. Refute it at one input. -/
def deltaCombinesWrong : ChangeSpec := { name := "deltaCombines", fn := fun _ => fun
  | [d1, d2] => { results := [.lit (.bool false)], args := [d1, d2] }
  | _ => none }
def DeltaCombinesWrongFalsely : Prop := deltaCombinesRow.holds Try.pinned (OpenSpec.ofChange deltaCombinesWrong)

/-- 'cellularlaw53.DeltaReturns': WHATEVER THE INPUT: true; the input reads as it did. -/
def deltaReturnsSpec : ChangeSpec := { name := "deltaReturns", fn := fun _ => fun
  | [d1, d2] => { results := [.lit (.bool true)], args := [d1, d2] }
  | _ => none }
def deltaReturnsRow : OpenClaim := { program := "ytfoadgepblojpaa", sum := "76d8da52a98c6988c33159b914e2ac43cf468cf3af6aa790204cbaa34dea3f93", func := "cellular/cellularlaw53.DeltaReturns", spec := "deltaReturns", unfollowed := true, recurses := true, plainKeys := false, apart := false }
def DeltaReturnsSaid : Prop := deltaReturnsRow.holds Try.pinned (OpenSpec.ofChange deltaReturnsSpec)

/-- ITS FALSE NEIGHBOUR: 'it returns false'. Refute it at one input. -/
def deltaReturnsWrong : ChangeSpec := { name := "deltaReturns", fn := fun _ => fun
  | [d1, d2] => { results := [.lit (.bool false)], args := [d1, d2] }
  | _ => none }
def DeltaReturnsWrongFalsely : Prop := deltaReturnsRow.holds Try.pinned (OpenSpec.ofChange deltaReturnsWrong)

/-- 'cellularlaw53.DeltaThen': WHATEVER THE INPUT: true; the input reads as it did. -/
def deltaThenSpec : ChangeSpec := { name := "deltaThen", fn := fun _ => fun
  | [d1, d2, d3] => { results := [.lit (.bool true)], args := [d1, d2, d3] }
  | _ => none }
def deltaThenRow : OpenClaim := { program := "ytfoadgepblojpaa", sum := "76d8da52a98c6988c33159b914e2ac43cf468cf3af6aa790204cbaa34dea3f93", func := "cellular/cellularlaw53.DeltaThen", spec := "deltaThen", unfollowed := true, recurses := true, plainKeys := false, apart := false }
def DeltaThenSaid : Prop := deltaThenRow.holds Try.pinned (OpenSpec.ofChange deltaThenSpec)

/-- ITS FALSE NEIGHBOUR: 'it returns false'. Refute it at one input. -/
def deltaThenWrong : ChangeSpec := { name := "deltaThen", fn := fun _ => fun
  | [d1, d2, d3] => { results := [.lit (.bool false)], args := [d1, d2, d3] }
  | _ => none }
def DeltaThenWrongFalsely : Prop := deltaThenRow.holds Try.pinned (OpenSpec.ofChange deltaThenWrong)

/-- 'cellularlaw53.DeltaMerges': WHATEVER THE INPUT: true; the input reads as it did. -/
def deltaMergesSpec : ChangeSpec := { name := "deltaMerges", fn := fun _ => fun
  | [d1, d2] => { results := [.lit (.bool true)], args := [d1, d2] }
  | _ => none }
def deltaMergesRow : OpenClaim := { program := "ytfoadgepblojpaa", sum := "76d8da52a98c6988c33159b914e2ac43cf468cf3af6aa790204cbaa34dea3f93", func := "cellular/cellularlaw53.DeltaMerges", spec := "deltaMerges", unfollowed := true, recurses := true, plainKeys := false, apart := false }
def DeltaMergesSaid : Prop := deltaMergesRow.holds Try.pinned (OpenSpec.ofChange deltaMergesSpec)

/-- ITS FALSE NEIGHBOUR: 'it returns false'. Refute it at one input. -/
def deltaMergesWrong : ChangeSpec := { name := "deltaMerges", fn := fun _ => fun
  | [d1, d2] => { results := [.lit (.bool false)], args := [d1, d2] }
  | _ => none }
def DeltaMergesWrongFalsely : Prop := deltaMergesRow.holds Try.pinned (OpenSpec.ofChange deltaMergesWrong)

/- THE SECOND FORM. 'bulk': how many values and letters a reading holds, each counted each time it is reached (what is shared counts as often as it is met; a slice's spare places count too). A statement '..UptoSaid' is the law's where the arguments, and the package variables that the reading takes, are together of bulk at most 1048576: NARROWER than '..Said'. Prove '..Said' where nothing that the law and all that it calls make is longer than what came in: it says more and counts as full. Else prove '..UptoSaid'. A law counts once. -/
mutual
def uptoBulk {H : Type} : DataW H → Nat
  | .lit (.string bytes) => bytes.length + 1
  | .lit _ => 1
  | .nil => 1
  | .ptr d => uptoBulk d + 1
  | .slice elems spare => uptoBulkAll elems + uptoBulkAll spare + 1
  | .agg parts => uptoBulkAll parts + 1
  | .iface _ d => uptoBulk d + 1
  | .map entries => uptoBulkEntries entries + 1
  | .held _ => 1
def uptoBulkAll {H : Type} : List (DataW H) → Nat
  | [] => 0
  | d :: r => uptoBulk d + uptoBulkAll r
def uptoBulkEntries {H : Type} : List (Lit × DataW H) → Nat
  | [] => 0
  | x :: r => uptoBulkEntry x + uptoBulkEntries r
def uptoBulkEntry {H : Type} : Lit × DataW H → Nat
  | (.string bytes, d) => bytes.length + uptoBulk d + 1
  | (_, d) => uptoBulk d + 1
 end
def uptoSmall : (H : Type) → List (DataW H) → Bool := fun _ ds => decide (uptoBulkAll ds ≤ 1048576)
def OpenSpec.upto (s : _root_.Go.ChangeSpec) : _root_.Go.OpenSpec := { _root_.Go.OpenSpec.ofChange s with cond := some uptoSmall }

/-- 'cellularlaw53.DeltaLists', WHERE WHAT IT READS IS OF BULK AT MOST 1048576: true; the input reads as it did. -/
def deltaListsUptoRow : OpenClaim := { program := "ytfoadgepblojpaa", sum := "76d8da52a98c6988c33159b914e2ac43cf468cf3af6aa790204cbaa34dea3f93", func := "cellular/cellularlaw53.DeltaLists", spec := "deltaLists", unfollowed := true, recurses := true, plainKeys := false, apart := false, narrowed := true }
def DeltaListsUptoSaid : Prop := deltaListsUptoRow.holds Try.pinned (OpenSpec.upto deltaListsSpec)

/-- 'cellularlaw53.DeltaApplies', WHERE WHAT IT READS IS OF BULK AT MOST 1048576: true; the input reads as it did. -/
def deltaAppliesUptoRow : OpenClaim := { program := "ytfoadgepblojpaa", sum := "76d8da52a98c6988c33159b914e2ac43cf468cf3af6aa790204cbaa34dea3f93", func := "cellular/cellularlaw53.DeltaApplies", spec := "deltaApplies", unfollowed := true, recurses := true, plainKeys := false, apart := false, narrowed := true }
def DeltaAppliesUptoSaid : Prop := deltaAppliesUptoRow.holds Try.pinned (OpenSpec.upto deltaAppliesSpec)

/-- 'cellularlaw53.DeltaCombines', WHERE WHAT IT READS IS OF BULK AT MOST 1048576: true; the input reads as it did. -/
def deltaCombinesUptoRow : OpenClaim := { program := "ytfoadgepblojpaa", sum := "76d8da52a98c6988c33159b914e2ac43cf468cf3af6aa790204cbaa34dea3f93", func := "cellular/cellularlaw53.DeltaCombines", spec := "deltaCombines", unfollowed := true, recurses := true, plainKeys := false, apart := false, narrowed := true }
def DeltaCombinesUptoSaid : Prop := deltaCombinesUptoRow.holds Try.pinned (OpenSpec.upto deltaCombinesSpec)

/-- 'cellularlaw53.DeltaReturns', WHERE WHAT IT READS IS OF BULK AT MOST 1048576: true; the input reads as it did. -/
def deltaReturnsUptoRow : OpenClaim := { program := "ytfoadgepblojpaa", sum := "76d8da52a98c6988c33159b914e2ac43cf468cf3af6aa790204cbaa34dea3f93", func := "cellular/cellularlaw53.DeltaReturns", spec := "deltaReturns", unfollowed := true, recurses := true, plainKeys := false, apart := false, narrowed := true }
def DeltaReturnsUptoSaid : Prop := deltaReturnsUptoRow.holds Try.pinned (OpenSpec.upto deltaReturnsSpec)

/-- 'cellularlaw53.DeltaThen', WHERE WHAT IT READS IS OF BULK AT MOST 1048576: true; the input reads as it did. -/
def deltaThenUptoRow : OpenClaim := { program := "ytfoadgepblojpaa", sum := "76d8da52a98c6988c33159b914e2ac43cf468cf3af6aa790204cbaa34dea3f93", func := "cellular/cellularlaw53.DeltaThen", spec := "deltaThen", unfollowed := true, recurses := true, plainKeys := false, apart := false, narrowed := true }
def DeltaThenUptoSaid : Prop := deltaThenUptoRow.holds Try.pinned (OpenSpec.upto deltaThenSpec)

/-- 'cellularlaw53.DeltaMerges', WHERE WHAT IT READS IS OF BULK AT MOST 1048576: true; the input reads as it did. -/
def deltaMergesUptoRow : OpenClaim := { program := "ytfoadgepblojpaa", sum := "76d8da52a98c6988c33159b914e2ac43cf468cf3af6aa790204cbaa34dea3f93", func := "cellular/cellularlaw53.DeltaMerges", spec := "deltaMerges", unfollowed := true, recurses := true, plainKeys := false, apart := false, narrowed := true }
def DeltaMergesUptoSaid : Prop := deltaMergesUptoRow.holds Try.pinned (OpenSpec.upto deltaMergesSpec)

end Rows
end Go.Proofs.Ytfoadgepblojpaa
