/-
  DERIVED. GIVEN WITH THE SEED: THE CARDS: each row of YtnkmjlncmlmnbaaGreatDoorRows.lean that lists a variable, with what it lists TIED to the program's text (the seventh form; the later family's looks); each row that meets fmt, with fmt's text TOLD by the authors' own Lean function (tested against real Go, not proved from fmt's source: count such statements apart). THE CARD IS WHAT COUNTS. Prove the row's statement (the work); the ties are given (YtnkmjlncmlmnbaaGreatDoorTie.lean); close each card by the builder's one call (the guide's Derived/Test/ToyasCard.lean, 'card_holds'). Laid BY PROGRAM, IN A SANDBOX (cutbox-door.mjs). By AI agents, Wed Nov 11 2026. No macro, syntax, notation, axiom, sorry.
-/
import Derived.Test.YtnkmjlncmlmnbaaGreatDoorRows
import GoSem.ClaimSeven
namespace Go.Proofs.YtnkmjlncmlmnbaaGreatDoor
namespace Rows

/-- THE TIED CARD OF 'cellularlaw45.UnrollFormulas'. -/
def unrollFormulasCard : Claim7 := { stood := { row := unrollFormulasRow, standIns := [], harness := (true, "ee060df2e1ce71506dfb07bdbc95db741bf74c634fd9fafc4ce6fa7f15583185"), looks := false }, kinds := [], alts := [], laidByText := true, laidKinds := [.data, .data, .data, .widerDeep], laidTests := true, laidLooks := .later }
def UnrollFormulasCardSaid : Prop := Claim7.holds Tryz.pinned (.plain (OpenSpec.ofChange unrollFormulasSpec)) unrollFormulasCard

/-- THE SECOND FORM's CARD OF 'cellularlaw45.UnrollFormulas'. -/
def unrollFormulasUptoCard : Claim7 := { stood := { row := unrollFormulasUptoRow, standIns := [], harness := (true, "ee060df2e1ce71506dfb07bdbc95db741bf74c634fd9fafc4ce6fa7f15583185"), looks := false }, kinds := [], alts := [], laidByText := true, laidKinds := [.data, .data, .data, .widerDeep], laidTests := true, laidLooks := .later }
def UnrollFormulasUptoCardSaid : Prop := Claim7.holds Tryz.pinned (.plain (OpenSpec.upto unrollFormulasSpec)) unrollFormulasUptoCard
end Rows
end Go.Proofs.YtnkmjlncmlmnbaaGreatDoor
