/-
  DERIVED. GIVEN WITH THE SEED: THE CARDS: each row of YtlifofijgddjkabGreatDoorRows.lean that lists a variable, with what it lists TIED to the program's text (the seventh form; the later family's looks); each row that meets fmt, with fmt's text TOLD by the authors' own Lean function (tested against real Go, not proved from fmt's source: count such statements apart). THE CARD IS WHAT COUNTS. Prove the row's statement (the work); the ties are given (YtlifofijgddjkabGreatDoorTie.lean); close each card by the builder's one call (the guide's Derived/Test/ToyasCard.lean, 'card_holds'). Laid BY PROGRAM, IN A SANDBOX (cutbox-door.mjs). By AI agents, Wed Nov 11 2026. No macro, syntax, notation, axiom, sorry.
-/
import Derived.Test.YtlifofijgddjkabGreatDoorRows
import GoSem.ClaimSeven
namespace Go.Proofs.YtlifofijgddjkabGreatDoor
namespace Rows

/-- THE TIED CARD OF 'cellularlaw16.NotationCounts'. -/
def notationCountsCard : Claim7 := { stood := { row := notationCountsRow, standIns := [], harness := (true, "f72a948b8746eeb63324093078e13af53265fe69092b3ccf0f91726613ffc793"), looks := true }, kinds := [], alts := [], laidByText := true, laidKinds := [.data, .data, .data, .data, .widerDeep, .sentinel, .sentinel, .widerDeep, .pinned], laidTests := true, laidLooks := .later }
def NotationCountsCardSaid : Prop := Claim7.holds Tryz.pinned (.plain (OpenSpec.ofChange notationCountsSpec)) notationCountsCard

/-- THE SECOND FORM's CARD OF 'cellularlaw16.NotationCounts'. -/
def notationCountsUptoCard : Claim7 := { stood := { row := notationCountsUptoRow, standIns := [], harness := (true, "f72a948b8746eeb63324093078e13af53265fe69092b3ccf0f91726613ffc793"), looks := true }, kinds := [], alts := [], laidByText := true, laidKinds := [.data, .data, .data, .data, .widerDeep, .sentinel, .sentinel, .widerDeep, .pinned], laidTests := true, laidLooks := .later }
def NotationCountsUptoCardSaid : Prop := Claim7.holds Tryz.pinned (.plain (OpenSpec.upto notationCountsSpec)) notationCountsUptoCard
end Rows
end Go.Proofs.YtlifofijgddjkabGreatDoor
