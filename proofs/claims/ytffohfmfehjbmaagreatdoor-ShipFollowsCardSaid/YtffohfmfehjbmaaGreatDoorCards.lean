/-
  DERIVED. GIVEN WITH THE SEED: THE CARDS: each row of YtffohfmfehjbmaaGreatDoorRows.lean that lists a variable, with what it lists TIED to the program's text (the seventh form; the later family's looks); each row that meets fmt, with fmt's text TOLD by the authors' own Lean function (tested against real Go, not proved from fmt's source: count such statements apart). THE CARD IS WHAT COUNTS. Prove the row's statement (the work); the ties are given (YtffohfmfehjbmaaGreatDoorTie.lean); close each card by the builder's one call (the guide's Derived/Test/ToyasCard.lean, 'card_holds'). Laid BY PROGRAM, IN A SANDBOX (cutbox-door.mjs). By AI agents, Wed Nov 11 2026. No macro, syntax, notation, axiom, sorry.
-/
import Derived.Test.YtffohfmfehjbmaaGreatDoorRows
import GoSem.ClaimSeven
namespace Go.Proofs.YtffohfmfehjbmaaGreatDoor
namespace Rows

/-- THE TIED CARD OF 'cellularlaw50.ShipLaters'. -/
def shipLatersCard : Claim7 := { stood := { row := shipLatersRow, standIns := [], harness := (true, "b33c4f91e9f5225614fd4ec9cda8696ff3ee85385e261d3e7ae91ba27019f003"), looks := true }, kinds := [], alts := [], laidByText := true, laidKinds := [.data, .data, .data, .data, .widerDeep, .sentinel, .sentinel, .widerDeep, .pinned], laidTests := true, laidLooks := .later }
def ShipLatersCardSaid : Prop := Claim7.holds Tryz.pinned (.plain (OpenSpec.ofChange shipLatersSpec)) shipLatersCard

/-- THE TIED CARD OF 'cellularlaw50.ShipMoves'. -/
def shipMovesCard : Claim7 := { stood := { row := shipMovesRow, standIns := [], harness := (true, "b33c4f91e9f5225614fd4ec9cda8696ff3ee85385e261d3e7ae91ba27019f003"), looks := true }, kinds := [], alts := [], laidByText := true, laidKinds := [.data, .data, .data, .data, .widerDeep, .sentinel, .sentinel, .widerDeep, .pinned], laidTests := true, laidLooks := .later }
def ShipMovesCardSaid : Prop := Claim7.holds Tryz.pinned (.plain (OpenSpec.ofChange shipMovesSpec)) shipMovesCard

/-- THE TIED CARD OF 'cellularlaw50.ShipFollows'. -/
def shipFollowsCard : Claim7 := { stood := { row := shipFollowsRow, standIns := [], harness := (true, "b33c4f91e9f5225614fd4ec9cda8696ff3ee85385e261d3e7ae91ba27019f003"), looks := true }, kinds := [], alts := [], laidByText := true, laidKinds := [.data, .data, .data, .data, .widerDeep, .sentinel, .sentinel, .widerDeep, .pinned], laidTests := true, laidLooks := .later }
def ShipFollowsCardSaid : Prop := Claim7.holds Tryz.pinned (.plain (OpenSpec.ofChange shipFollowsSpec)) shipFollowsCard

/-- THE SECOND FORM's CARD OF 'cellularlaw50.ShipLaters'. -/
def shipLatersUptoCard : Claim7 := { stood := { row := shipLatersUptoRow, standIns := [], harness := (true, "b33c4f91e9f5225614fd4ec9cda8696ff3ee85385e261d3e7ae91ba27019f003"), looks := true }, kinds := [], alts := [], laidByText := true, laidKinds := [.data, .data, .data, .data, .widerDeep, .sentinel, .sentinel, .widerDeep, .pinned], laidTests := true, laidLooks := .later }
def ShipLatersUptoCardSaid : Prop := Claim7.holds Tryz.pinned (.plain (OpenSpec.upto shipLatersSpec)) shipLatersUptoCard

/-- THE SECOND FORM's CARD OF 'cellularlaw50.ShipMoves'. -/
def shipMovesUptoCard : Claim7 := { stood := { row := shipMovesUptoRow, standIns := [], harness := (true, "b33c4f91e9f5225614fd4ec9cda8696ff3ee85385e261d3e7ae91ba27019f003"), looks := true }, kinds := [], alts := [], laidByText := true, laidKinds := [.data, .data, .data, .data, .widerDeep, .sentinel, .sentinel, .widerDeep, .pinned], laidTests := true, laidLooks := .later }
def ShipMovesUptoCardSaid : Prop := Claim7.holds Tryz.pinned (.plain (OpenSpec.upto shipMovesSpec)) shipMovesUptoCard

/-- THE SECOND FORM's CARD OF 'cellularlaw50.ShipFollows'. -/
def shipFollowsUptoCard : Claim7 := { stood := { row := shipFollowsUptoRow, standIns := [], harness := (true, "b33c4f91e9f5225614fd4ec9cda8696ff3ee85385e261d3e7ae91ba27019f003"), looks := true }, kinds := [], alts := [], laidByText := true, laidKinds := [.data, .data, .data, .data, .widerDeep, .sentinel, .sentinel, .widerDeep, .pinned], laidTests := true, laidLooks := .later }
def ShipFollowsUptoCardSaid : Prop := Claim7.holds Tryz.pinned (.plain (OpenSpec.upto shipFollowsSpec)) shipFollowsUptoCard
end Rows
end Go.Proofs.YtffohfmfehjbmaaGreatDoor
