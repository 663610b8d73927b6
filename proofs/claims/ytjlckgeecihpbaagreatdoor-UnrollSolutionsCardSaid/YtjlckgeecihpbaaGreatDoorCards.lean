/-
  DERIVED. GIVEN WITH THE SEED: THE CARDS: each row of YtjlckgeecihpbaaGreatDoorRows.lean that lists a variable, with what it lists TIED to the program's text (the seventh form; the later family's looks); each row that meets fmt, with fmt's text TOLD by the authors' own Lean function (tested against real Go, not proved from fmt's source: count such statements apart). THE CARD IS WHAT COUNTS. Prove the row's statement (the work); the ties are given (YtjlckgeecihpbaaGreatDoorTie.lean); close each card by the builder's one call (the guide's Derived/Test/ToyasCard.lean, 'card_holds'). Laid BY PROGRAM, IN A SANDBOX (cutbox-door.mjs). By AI agents, Wed Nov 11 2026. No macro, syntax, notation, axiom, sorry.
-/
import Derived.Test.YtjlckgeecihpbaaGreatDoorRows
import GoSem.ClaimSeven
namespace Go.Proofs.YtjlckgeecihpbaaGreatDoor
namespace Rows

/-- THE TIED CARD OF 'cellularlaw45.UnrollSolutions'. -/
def unrollSolutionsCard : Claim7 := { stood := { row := unrollSolutionsRow, standIns := [], harness := (true, "b9bf32bced655dde5e18e283caecc51447d0a68dd9036dba446ad631ea46a110"), looks := false }, kinds := [], alts := [], laidByText := true, laidKinds := [.data, .data, .data, .widerDeep], laidTests := true, laidLooks := .later }
def UnrollSolutionsCardSaid : Prop := Claim7.holds Tryz.pinned (.plain (OpenSpec.ofChange unrollSolutionsSpec)) unrollSolutionsCard

/-- THE SECOND FORM's CARD OF 'cellularlaw45.UnrollSolutions'. -/
def unrollSolutionsUptoCard : Claim7 := { stood := { row := unrollSolutionsUptoRow, standIns := [], harness := (true, "b9bf32bced655dde5e18e283caecc51447d0a68dd9036dba446ad631ea46a110"), looks := false }, kinds := [], alts := [], laidByText := true, laidKinds := [.data, .data, .data, .widerDeep], laidTests := true, laidLooks := .later }
def UnrollSolutionsUptoCardSaid : Prop := Claim7.holds Tryz.pinned (.plain (OpenSpec.upto unrollSolutionsSpec)) unrollSolutionsUptoCard
end Rows
end Go.Proofs.YtjlckgeecihpbaaGreatDoor
