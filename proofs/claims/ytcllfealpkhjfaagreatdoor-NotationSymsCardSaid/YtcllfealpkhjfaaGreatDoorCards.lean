/-
  DERIVED. GIVEN WITH THE SEED: THE CARDS: each row of YtcllfealpkhjfaaGreatDoorRows.lean that lists a variable, with what it lists TIED to the program's text (the seventh form; the later family's looks); each row that meets fmt, with fmt's text TOLD by the authors' own Lean function (tested against real Go, not proved from fmt's source: count such statements apart). THE CARD IS WHAT COUNTS. Prove the row's statement (the work); the ties are given (YtcllfealpkhjfaaGreatDoorTie.lean); close each card by the builder's one call (the guide's Derived/Test/ToyasCard.lean, 'card_holds'). Laid BY PROGRAM, IN A SANDBOX (cutbox-door.mjs). By AI agents, Wed Nov 11 2026. No macro, syntax, notation, axiom, sorry.
-/
import Derived.Test.YtcllfealpkhjfaaGreatDoorRows
import GoSem.ClaimSeven
namespace Go.Proofs.YtcllfealpkhjfaaGreatDoor
namespace Rows

/-- THE TIED CARD OF 'cellularlaw16.NotationSyms'. -/
def notationSymsCard : Claim7 := { stood := { row := notationSymsRow, standIns := [], harness := (true, "f8951806fd02b15843e66823e8ef5119b1f79112ef4196c3f5b0120862296101"), looks := true }, kinds := [], alts := [], laidByText := true, laidKinds := [.data, .data, .data, .data, .widerDeep, .sentinel, .sentinel, .widerDeep, .pinned], laidTests := true, laidLooks := .later }
def NotationSymsCardSaid : Prop := Claim7.holds Tryz.pinned (.plain (OpenSpec.ofChange notationSymsSpec)) notationSymsCard

/-- THE SECOND FORM's CARD OF 'cellularlaw16.NotationSyms'. -/
def notationSymsUptoCard : Claim7 := { stood := { row := notationSymsUptoRow, standIns := [], harness := (true, "f8951806fd02b15843e66823e8ef5119b1f79112ef4196c3f5b0120862296101"), looks := true }, kinds := [], alts := [], laidByText := true, laidKinds := [.data, .data, .data, .data, .widerDeep, .sentinel, .sentinel, .widerDeep, .pinned], laidTests := true, laidLooks := .later }
def NotationSymsUptoCardSaid : Prop := Claim7.holds Tryz.pinned (.plain (OpenSpec.upto notationSymsSpec)) notationSymsUptoCard
end Rows
end Go.Proofs.YtcllfealpkhjfaaGreatDoor
