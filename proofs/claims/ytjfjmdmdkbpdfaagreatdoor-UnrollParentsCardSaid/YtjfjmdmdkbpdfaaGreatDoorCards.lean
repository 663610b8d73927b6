/-
  DERIVED. GIVEN WITH THE SEED: THE CARDS: each row of YtjfjmdmdkbpdfaaGreatDoorRows.lean that lists a variable, with what it lists TIED to the program's text (the seventh form; the later family's looks); each row that meets fmt, with fmt's text TOLD by the authors' own Lean function (tested against real Go, not proved from fmt's source: count such statements apart). THE CARD IS WHAT COUNTS. Prove the row's statement (the work); the ties are given (YtjfjmdmdkbpdfaaGreatDoorTie.lean); close each card by the builder's one call (the guide's Derived/Test/ToyasCard.lean, 'card_holds'). Laid BY PROGRAM, IN A SANDBOX (cutbox-door.mjs). By AI agents, Wed Nov 11 2026. No macro, syntax, notation, axiom, sorry.
-/
import Derived.Test.YtjfjmdmdkbpdfaaGreatDoorRows
import GoSem.ClaimSeven
namespace Go.Proofs.YtjfjmdmdkbpdfaaGreatDoor
namespace Rows

/-- THE TIED CARD OF 'cellularlaw45.UnrollFormulas'. -/
def unrollFormulasCard : Claim7 := { stood := { row := unrollFormulasRow, standIns := [], harness := (true, "7cd86c4e25f85c9455121a1df1862bdfbbf0dfd2aceed4924e000b53e8f2e971"), looks := false }, kinds := [], alts := [], laidByText := true, laidKinds := [.data, .data, .data, .widerDeep], laidTests := true, laidLooks := .later }
def UnrollFormulasCardSaid : Prop := Claim7.holds Tryz.pinned (.plain (OpenSpec.ofChange unrollFormulasSpec)) unrollFormulasCard

/-- THE TIED CARD OF 'cellularlaw45.UnrollParents'. -/
def unrollParentsCard : Claim7 := { stood := { row := unrollParentsRow, standIns := [], harness := (true, "7cd86c4e25f85c9455121a1df1862bdfbbf0dfd2aceed4924e000b53e8f2e971"), looks := false }, kinds := [], alts := [], laidByText := true, laidKinds := [.data, .data, .data, .widerDeep], laidTests := true, laidLooks := .later }
def UnrollParentsCardSaid : Prop := Claim7.holds Tryz.pinned (.plain (OpenSpec.ofChange unrollParentsSpec)) unrollParentsCard

/-- THE TIED CARD OF 'cellularlaw45.UnrollSolutions'. -/
def unrollSolutionsCard : Claim7 := { stood := { row := unrollSolutionsRow, standIns := [], harness := (true, "7cd86c4e25f85c9455121a1df1862bdfbbf0dfd2aceed4924e000b53e8f2e971"), looks := false }, kinds := [], alts := [], laidByText := true, laidKinds := [.data, .data, .data, .widerDeep], laidTests := true, laidLooks := .later }
def UnrollSolutionsCardSaid : Prop := Claim7.holds Tryz.pinned (.plain (OpenSpec.ofChange unrollSolutionsSpec)) unrollSolutionsCard

/-- THE TIED CARD OF 'cellularlaw45.UnrollAncestors'. -/
def unrollAncestorsCard : Claim7 := { stood := { row := unrollAncestorsRow, standIns := [], harness := (true, "7cd86c4e25f85c9455121a1df1862bdfbbf0dfd2aceed4924e000b53e8f2e971"), looks := false }, kinds := [], alts := [], laidByText := true, laidKinds := [.data, .data, .data, .widerDeep], laidTests := true, laidLooks := .later }
def UnrollAncestorsCardSaid : Prop := Claim7.holds Tryz.pinned (.plain (OpenSpec.ofChange unrollAncestorsSpec)) unrollAncestorsCard

/-- THE SECOND FORM's CARD OF 'cellularlaw45.UnrollFormulas'. -/
def unrollFormulasUptoCard : Claim7 := { stood := { row := unrollFormulasUptoRow, standIns := [], harness := (true, "7cd86c4e25f85c9455121a1df1862bdfbbf0dfd2aceed4924e000b53e8f2e971"), looks := false }, kinds := [], alts := [], laidByText := true, laidKinds := [.data, .data, .data, .widerDeep], laidTests := true, laidLooks := .later }
def UnrollFormulasUptoCardSaid : Prop := Claim7.holds Tryz.pinned (.plain (OpenSpec.upto unrollFormulasSpec)) unrollFormulasUptoCard

/-- THE SECOND FORM's CARD OF 'cellularlaw45.UnrollParents'. -/
def unrollParentsUptoCard : Claim7 := { stood := { row := unrollParentsUptoRow, standIns := [], harness := (true, "7cd86c4e25f85c9455121a1df1862bdfbbf0dfd2aceed4924e000b53e8f2e971"), looks := false }, kinds := [], alts := [], laidByText := true, laidKinds := [.data, .data, .data, .widerDeep], laidTests := true, laidLooks := .later }
def UnrollParentsUptoCardSaid : Prop := Claim7.holds Tryz.pinned (.plain (OpenSpec.upto unrollParentsSpec)) unrollParentsUptoCard

/-- THE SECOND FORM's CARD OF 'cellularlaw45.UnrollSolutions'. -/
def unrollSolutionsUptoCard : Claim7 := { stood := { row := unrollSolutionsUptoRow, standIns := [], harness := (true, "7cd86c4e25f85c9455121a1df1862bdfbbf0dfd2aceed4924e000b53e8f2e971"), looks := false }, kinds := [], alts := [], laidByText := true, laidKinds := [.data, .data, .data, .widerDeep], laidTests := true, laidLooks := .later }
def UnrollSolutionsUptoCardSaid : Prop := Claim7.holds Tryz.pinned (.plain (OpenSpec.upto unrollSolutionsSpec)) unrollSolutionsUptoCard

/-- THE SECOND FORM's CARD OF 'cellularlaw45.UnrollAncestors'. -/
def unrollAncestorsUptoCard : Claim7 := { stood := { row := unrollAncestorsUptoRow, standIns := [], harness := (true, "7cd86c4e25f85c9455121a1df1862bdfbbf0dfd2aceed4924e000b53e8f2e971"), looks := false }, kinds := [], alts := [], laidByText := true, laidKinds := [.data, .data, .data, .widerDeep], laidTests := true, laidLooks := .later }
def UnrollAncestorsUptoCardSaid : Prop := Claim7.holds Tryz.pinned (.plain (OpenSpec.upto unrollAncestorsSpec)) unrollAncestorsUptoCard
end Rows
end Go.Proofs.YtjfjmdmdkbpdfaaGreatDoor
