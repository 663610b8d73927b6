/-
  DERIVED. GIVEN WITH THE SEED: THE CARDS: each row of YtogdjcdmbodmiaaGreatDoorRows.lean that lists a variable, with what it lists TIED to the program's text (the seventh form; the later family's looks); each row that meets fmt, with fmt's text TOLD by the authors' own Lean function (tested against real Go, not proved from fmt's source: count such statements apart). THE CARD IS WHAT COUNTS. Prove the row's statement (the work); the ties are given (YtogdjcdmbodmiaaGreatDoorTie.lean); close each card by the builder's one call (the guide's Derived/Test/ToyasCard.lean, 'card_holds'). Laid BY PROGRAM, IN A SANDBOX (cutbox-door.mjs). By AI agents, Wed Nov 11 2026. No macro, syntax, notation, axiom, sorry.
-/
import Derived.Test.YtogdjcdmbodmiaaGreatDoorRows
import GoSem.ClaimSeven
namespace Go.Proofs.YtogdjcdmbodmiaaGreatDoor
namespace Rows

/-- THE TIED CARD OF 'cellularlaw53.DeltaSteps'. -/
def deltaStepsCard : Claim7 := { stood := { row := deltaStepsRow, standIns := [], harness := (true, "10e0a71f40410bffe86337c4420819d00e386e541a02921f70232a9d4e08fcbf"), looks := true }, kinds := [], alts := [], laidByText := true, laidKinds := [.data, .data, .data, .data, .widerDeep, .sentinel, .sentinel, .widerDeep, .pinned], laidTests := true, laidLooks := .later }
def DeltaStepsCardSaid : Prop := Claim7.holds Tryz.pinned (.plain (OpenSpec.ofChange deltaStepsSpec)) deltaStepsCard

/-- THE TIED CARD OF 'cellularlaw16.NotationRows'. -/
def notationRowsCard : Claim7 := { stood := { row := notationRowsRow, standIns := [], harness := (true, "10e0a71f40410bffe86337c4420819d00e386e541a02921f70232a9d4e08fcbf"), looks := true }, kinds := [], alts := [], laidByText := true, laidKinds := [.data, .data, .data, .data, .widerDeep, .sentinel, .sentinel, .widerDeep, .pinned], laidTests := true, laidLooks := .later }
def NotationRowsCardSaid : Prop := Claim7.holds Tryz.pinned (.plain (OpenSpec.ofChange notationRowsSpec)) notationRowsCard

/-- THE SECOND FORM's CARD OF 'cellularlaw53.DeltaSteps'. -/
def deltaStepsUptoCard : Claim7 := { stood := { row := deltaStepsUptoRow, standIns := [], harness := (true, "10e0a71f40410bffe86337c4420819d00e386e541a02921f70232a9d4e08fcbf"), looks := true }, kinds := [], alts := [], laidByText := true, laidKinds := [.data, .data, .data, .data, .widerDeep, .sentinel, .sentinel, .widerDeep, .pinned], laidTests := true, laidLooks := .later }
def DeltaStepsUptoCardSaid : Prop := Claim7.holds Tryz.pinned (.plain (OpenSpec.upto deltaStepsSpec)) deltaStepsUptoCard

/-- THE SECOND FORM's CARD OF 'cellularlaw16.NotationRows'. -/
def notationRowsUptoCard : Claim7 := { stood := { row := notationRowsUptoRow, standIns := [], harness := (true, "10e0a71f40410bffe86337c4420819d00e386e541a02921f70232a9d4e08fcbf"), looks := true }, kinds := [], alts := [], laidByText := true, laidKinds := [.data, .data, .data, .data, .widerDeep, .sentinel, .sentinel, .widerDeep, .pinned], laidTests := true, laidLooks := .later }
def NotationRowsUptoCardSaid : Prop := Claim7.holds Tryz.pinned (.plain (OpenSpec.upto notationRowsSpec)) notationRowsUptoCard
end Rows
end Go.Proofs.YtogdjcdmbodmiaaGreatDoor
