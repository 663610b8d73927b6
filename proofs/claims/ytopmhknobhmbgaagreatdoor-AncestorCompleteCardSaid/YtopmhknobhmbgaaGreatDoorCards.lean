/-
  DERIVED. GIVEN WITH THE SEED: THE CARDS: each row of YtopmhknobhmbgaaGreatDoorRows.lean that lists a variable, with what it lists TIED to the program's text (the seventh form; the later family's looks); each row that meets fmt, with fmt's text TOLD by the authors' own Lean function (tested against real Go, not proved from fmt's source: count such statements apart). THE CARD IS WHAT COUNTS. Prove the row's statement (the work); the ties are given (YtopmhknobhmbgaaGreatDoorTie.lean); close each card by the builder's one call (the guide's Derived/Test/ToyasCard.lean, 'card_holds'). Laid BY PROGRAM, IN A SANDBOX (cutbox-door.mjs). By AI agents, Wed Nov 11 2026. No macro, syntax, notation, axiom, sorry.
-/
import Derived.Test.YtopmhknobhmbgaaGreatDoorRows
import GoSem.ClaimSeven
namespace Go.Proofs.YtopmhknobhmbgaaGreatDoor
namespace Rows

/-- THE TIED CARD OF 'cellularlaw48.AncestorLeads'. -/
def ancestorLeadsCard : Claim7 := { stood := { row := ancestorLeadsRow, standIns := [], harness := (true, "3b3e2624b438910ec50f03406a57bf617f955b5a87289cda0e70e1ac58b0071f"), looks := false }, kinds := [], alts := [], laidByText := true, laidKinds := [.data, .data, .data], laidTests := true, laidLooks := .later }
def AncestorLeadsCardSaid : Prop := Claim7.holds Tryz.pinned (.plain (OpenSpec.ofChange ancestorLeadsSpec)) ancestorLeadsCard

/-- THE TIED CARD OF 'cellularlaw48.AncestorComplete'. -/
def ancestorCompleteCard : Claim7 := { stood := { row := ancestorCompleteRow, standIns := [], harness := (true, "3b3e2624b438910ec50f03406a57bf617f955b5a87289cda0e70e1ac58b0071f"), looks := false }, kinds := [], alts := [], laidByText := true, laidKinds := [.data, .data, .data], laidTests := true, laidLooks := .later }
def AncestorCompleteCardSaid : Prop := Claim7.holds Tryz.pinned (.plain (OpenSpec.ofChange ancestorCompleteSpec)) ancestorCompleteCard

/-- THE SECOND FORM's CARD OF 'cellularlaw48.AncestorLeads'. -/
def ancestorLeadsUptoCard : Claim7 := { stood := { row := ancestorLeadsUptoRow, standIns := [], harness := (true, "3b3e2624b438910ec50f03406a57bf617f955b5a87289cda0e70e1ac58b0071f"), looks := false }, kinds := [], alts := [], laidByText := true, laidKinds := [.data, .data, .data], laidTests := true, laidLooks := .later }
def AncestorLeadsUptoCardSaid : Prop := Claim7.holds Tryz.pinned (.plain (OpenSpec.upto ancestorLeadsSpec)) ancestorLeadsUptoCard

/-- THE SECOND FORM's CARD OF 'cellularlaw48.AncestorComplete'. -/
def ancestorCompleteUptoCard : Claim7 := { stood := { row := ancestorCompleteUptoRow, standIns := [], harness := (true, "3b3e2624b438910ec50f03406a57bf617f955b5a87289cda0e70e1ac58b0071f"), looks := false }, kinds := [], alts := [], laidByText := true, laidKinds := [.data, .data, .data], laidTests := true, laidLooks := .later }
def AncestorCompleteUptoCardSaid : Prop := Claim7.holds Tryz.pinned (.plain (OpenSpec.upto ancestorCompleteSpec)) ancestorCompleteUptoCard
end Rows
end Go.Proofs.YtopmhknobhmbgaaGreatDoor
