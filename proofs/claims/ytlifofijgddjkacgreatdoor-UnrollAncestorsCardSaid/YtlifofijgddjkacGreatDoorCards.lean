/-
  DERIVED. GIVEN WITH THE SEED: THE CARDS: each row of YtlifofijgddjkacGreatDoorRows.lean that lists a variable, with what it lists TIED to the program's text (the seventh form; the later family's looks); each row that meets fmt, with fmt's text TOLD by the authors' own Lean function (tested against real Go, not proved from fmt's source: count such statements apart). THE CARD IS WHAT COUNTS. Prove the row's statement (the work); the ties are given (YtlifofijgddjkacGreatDoorTie.lean); close each card by the builder's one call (the guide's Derived/Test/ToyasCard.lean, 'card_holds'). Laid BY PROGRAM, IN A SANDBOX (cutbox-door.mjs). By AI agents, Wed Nov 11 2026. No macro, syntax, notation, axiom, sorry.
-/
import Derived.Test.YtlifofijgddjkacGreatDoorRows
import GoSem.ClaimSeven
namespace Go.Proofs.YtlifofijgddjkacGreatDoor
namespace Rows

/-- THE TIED CARD OF 'cellularlaw45.UnrollAncestors'. -/
def unrollAncestorsCard : Claim7 := { stood := { row := unrollAncestorsRow, standIns := [], harness := (true, "52e10d455695105a4bcac56c0bbed49ff34fd68c3c637503a5c7e7a04a40cf7c"), looks := false }, kinds := [], alts := [], laidByText := true, laidKinds := [.data, .data, .data, .widerDeep], laidTests := true, laidLooks := .later }
def UnrollAncestorsCardSaid : Prop := Claim7.holds Tryz.pinned (.plain (OpenSpec.ofChange unrollAncestorsSpec)) unrollAncestorsCard

/-- THE SECOND FORM's CARD OF 'cellularlaw45.UnrollAncestors'. -/
def unrollAncestorsUptoCard : Claim7 := { stood := { row := unrollAncestorsUptoRow, standIns := [], harness := (true, "52e10d455695105a4bcac56c0bbed49ff34fd68c3c637503a5c7e7a04a40cf7c"), looks := false }, kinds := [], alts := [], laidByText := true, laidKinds := [.data, .data, .data, .widerDeep], laidTests := true, laidLooks := .later }
def UnrollAncestorsUptoCardSaid : Prop := Claim7.holds Tryz.pinned (.plain (OpenSpec.upto unrollAncestorsSpec)) unrollAncestorsUptoCard
end Rows
end Go.Proofs.YtlifofijgddjkacGreatDoor
