/-
  DERIVED. GIVEN WITH THE SEED: THE CARDS: each row of YtlcdmiapdfdcaaaGreatDoorRows.lean that lists a variable, with what it lists TIED to the program's text (the seventh form; the later family's looks); each row that meets fmt, with fmt's text TOLD by the authors' own Lean function (tested against real Go, not proved from fmt's source: count such statements apart). THE CARD IS WHAT COUNTS. Prove the row's statement (the work); the ties are given (YtlcdmiapdfdcaaaGreatDoorTie.lean); close each card by the builder's one call (the guide's Derived/Test/ToyasCard.lean, 'card_holds'). Laid BY PROGRAM, IN A SANDBOX (cutbox-door.mjs). By AI agents, Wed Nov 11 2026. No macro, syntax, notation, axiom, sorry.
-/
import Derived.Test.YtlcdmiapdfdcaaaGreatDoorRows
import GoSem.ClaimSeven
namespace Go.Proofs.YtlcdmiapdfdcaaaGreatDoor
namespace Rows

/-- THE TIED CARD OF 'cellularlaw16.NotationSyms'. -/
def notationSymsCard : Claim7 := { stood := { row := notationSymsRow, standIns := [], harness := (true, "eeb17cab5ee72860e36ad6e21edea3a9de70d118692e5075cc1eda3cc9452b33"), looks := true }, kinds := [], alts := [], laidByText := true, laidKinds := [.data, .data, .data, .data, .widerDeep, .sentinel, .sentinel, .widerDeep, .pinned], laidTests := true, laidLooks := .later }
def NotationSymsCardSaid : Prop := Claim7.holds Tryz.pinned (.plain (OpenSpec.ofChange notationSymsSpec)) notationSymsCard

/-- THE TIED CARD OF 'cellularlaw16.NotationGroup'. -/
def notationGroupCard : Claim7 := { stood := { row := notationGroupRow, standIns := [], harness := (true, "eeb17cab5ee72860e36ad6e21edea3a9de70d118692e5075cc1eda3cc9452b33"), looks := true }, kinds := [], alts := [], laidByText := true, laidKinds := [.data, .data, .data, .data, .widerDeep, .sentinel, .sentinel, .widerDeep, .pinned], laidTests := true, laidLooks := .later }
def NotationGroupCardSaid : Prop := Claim7.holds Tryz.pinned (.plain (OpenSpec.ofChange notationGroupSpec)) notationGroupCard

/-- THE SECOND FORM's CARD OF 'cellularlaw16.NotationSyms'. -/
def notationSymsUptoCard : Claim7 := { stood := { row := notationSymsUptoRow, standIns := [], harness := (true, "eeb17cab5ee72860e36ad6e21edea3a9de70d118692e5075cc1eda3cc9452b33"), looks := true }, kinds := [], alts := [], laidByText := true, laidKinds := [.data, .data, .data, .data, .widerDeep, .sentinel, .sentinel, .widerDeep, .pinned], laidTests := true, laidLooks := .later }
def NotationSymsUptoCardSaid : Prop := Claim7.holds Tryz.pinned (.plain (OpenSpec.upto notationSymsSpec)) notationSymsUptoCard

/-- THE SECOND FORM's CARD OF 'cellularlaw16.NotationGroup'. -/
def notationGroupUptoCard : Claim7 := { stood := { row := notationGroupUptoRow, standIns := [], harness := (true, "eeb17cab5ee72860e36ad6e21edea3a9de70d118692e5075cc1eda3cc9452b33"), looks := true }, kinds := [], alts := [], laidByText := true, laidKinds := [.data, .data, .data, .data, .widerDeep, .sentinel, .sentinel, .widerDeep, .pinned], laidTests := true, laidLooks := .later }
def NotationGroupUptoCardSaid : Prop := Claim7.holds Tryz.pinned (.plain (OpenSpec.upto notationGroupSpec)) notationGroupUptoCard
end Rows
end Go.Proofs.YtlcdmiapdfdcaaaGreatDoor
