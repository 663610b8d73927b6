/-
  DERIVED. GIVEN WITH THE SEED: THE CARDS: each row of YtfpjnmhdbgbmmaaGreatDoorRows.lean that lists a variable, with what it lists TIED to the program's text (the seventh form; the later family's looks); each row that meets fmt, with fmt's text TOLD by the authors' own Lean function (tested against real Go, not proved from fmt's source: count such statements apart). THE CARD IS WHAT COUNTS. Prove the row's statement (the work); the ties are given (YtfpjnmhdbgbmmaaGreatDoorTie.lean); close each card by the builder's one call (the guide's Derived/Test/ToyasCard.lean, 'card_holds'). Laid BY PROGRAM, IN A SANDBOX (cutbox-door.mjs). By AI agents, Wed Nov 11 2026. No macro, syntax, notation, axiom, sorry.
-/
import Derived.Test.YtfpjnmhdbgbmmaaGreatDoorRows
import GoSem.ClaimSeven
namespace Go.Proofs.YtfpjnmhdbgbmmaaGreatDoor
namespace Rows

/-- THE TIED CARD OF 'cellularlaw50.ShipPhases'. -/
def shipPhasesCard : Claim7 := { stood := { row := shipPhasesRow, standIns := [], harness := (true, "13a98bf937c3faffd2ad7e248e94f8651d8d2da47c00eb5830e39f74f3b65e5b"), looks := true }, kinds := [], alts := [], laidByText := true, laidKinds := [.data, .data, .data, .data, .widerDeep, .sentinel, .sentinel, .widerDeep, .pinned], laidTests := true, laidLooks := .later }
def ShipPhasesCardSaid : Prop := Claim7.holds Tryz.pinned (.plain (OpenSpec.ofChange shipPhasesSpec)) shipPhasesCard

/-- THE TIED CARD OF 'cellularlaw50.ShipStreams'. -/
def shipStreamsCard : Claim7 := { stood := { row := shipStreamsRow, standIns := [], harness := (true, "13a98bf937c3faffd2ad7e248e94f8651d8d2da47c00eb5830e39f74f3b65e5b"), looks := true }, kinds := [], alts := [], laidByText := true, laidKinds := [.data, .data, .data, .data, .widerDeep, .sentinel, .sentinel, .widerDeep, .pinned], laidTests := true, laidLooks := .later }
def ShipStreamsCardSaid : Prop := Claim7.holds Tryz.pinned (.plain (OpenSpec.ofChange shipStreamsSpec)) shipStreamsCard

/-- THE SECOND FORM's CARD OF 'cellularlaw50.ShipPhases'. -/
def shipPhasesUptoCard : Claim7 := { stood := { row := shipPhasesUptoRow, standIns := [], harness := (true, "13a98bf937c3faffd2ad7e248e94f8651d8d2da47c00eb5830e39f74f3b65e5b"), looks := true }, kinds := [], alts := [], laidByText := true, laidKinds := [.data, .data, .data, .data, .widerDeep, .sentinel, .sentinel, .widerDeep, .pinned], laidTests := true, laidLooks := .later }
def ShipPhasesUptoCardSaid : Prop := Claim7.holds Tryz.pinned (.plain (OpenSpec.upto shipPhasesSpec)) shipPhasesUptoCard

/-- THE SECOND FORM's CARD OF 'cellularlaw50.ShipStreams'. -/
def shipStreamsUptoCard : Claim7 := { stood := { row := shipStreamsUptoRow, standIns := [], harness := (true, "13a98bf937c3faffd2ad7e248e94f8651d8d2da47c00eb5830e39f74f3b65e5b"), looks := true }, kinds := [], alts := [], laidByText := true, laidKinds := [.data, .data, .data, .data, .widerDeep, .sentinel, .sentinel, .widerDeep, .pinned], laidTests := true, laidLooks := .later }
def ShipStreamsUptoCardSaid : Prop := Claim7.holds Tryz.pinned (.plain (OpenSpec.upto shipStreamsSpec)) shipStreamsUptoCard
end Rows
end Go.Proofs.YtfpjnmhdbgbmmaaGreatDoor
