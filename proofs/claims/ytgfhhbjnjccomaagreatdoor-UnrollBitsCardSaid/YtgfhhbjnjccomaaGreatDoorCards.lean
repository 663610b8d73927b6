/-
  DERIVED. GIVEN WITH THE SEED: THE CARDS: each row of YtgfhhbjnjccomaaGreatDoorRows.lean that lists a variable, with what it lists TIED to the program's text (the seventh form; the later family's looks); each row that meets fmt, with fmt's text TOLD by the authors' own Lean function (tested against real Go, not proved from fmt's source: count such statements apart). THE CARD IS WHAT COUNTS. Prove the row's statement (the work); the ties are given (YtgfhhbjnjccomaaGreatDoorTie.lean); close each card by the builder's one call (the guide's Derived/Test/ToyasCard.lean, 'card_holds'). Laid BY PROGRAM, IN A SANDBOX (cutbox-door.mjs). By AI agents, Wed Nov 11 2026. No macro, syntax, notation, axiom, sorry.
-/
import Derived.Test.YtgfhhbjnjccomaaGreatDoorRows
import GoSem.ClaimSeven
namespace Go.Proofs.YtgfhhbjnjccomaaGreatDoor
namespace Rows

/-- THE TIED CARD OF 'cellularlaw45.UnrollFormulas'. -/
def unrollFormulasCard : Claim7 := { stood := { row := unrollFormulasRow, standIns := [], harness := (true, "9e4763e79087e3244c3f7b283584f99d18d6e5ce6093b2fac021dcac42111532"), looks := false }, kinds := [], alts := [], laidByText := true, laidKinds := [.data, .data, .data, .widerDeep], laidTests := true, laidLooks := .later }
def UnrollFormulasCardSaid : Prop := Claim7.holds Tryz.pinned (.plain (OpenSpec.ofChange unrollFormulasSpec)) unrollFormulasCard

/-- THE TIED CARD OF 'cellularlaw45.UnrollParents'. -/
def unrollParentsCard : Claim7 := { stood := { row := unrollParentsRow, standIns := [], harness := (true, "9e4763e79087e3244c3f7b283584f99d18d6e5ce6093b2fac021dcac42111532"), looks := false }, kinds := [], alts := [], laidByText := true, laidKinds := [.data, .data, .data, .widerDeep], laidTests := true, laidLooks := .later }
def UnrollParentsCardSaid : Prop := Claim7.holds Tryz.pinned (.plain (OpenSpec.ofChange unrollParentsSpec)) unrollParentsCard

/-- THE TIED CARD OF 'cellularlaw45.UnrollPatterns'. -/
def unrollPatternsCard : Claim7 := { stood := { row := unrollPatternsRow, standIns := [], harness := (true, "9e4763e79087e3244c3f7b283584f99d18d6e5ce6093b2fac021dcac42111532"), looks := false }, kinds := [], alts := [], laidByText := true, laidKinds := [.data, .data, .data, .widerDeep], laidTests := true, laidLooks := .later }
def UnrollPatternsCardSaid : Prop := Claim7.holds Tryz.pinned (.plain (OpenSpec.ofChange unrollPatternsSpec)) unrollPatternsCard

/-- THE TIED CARD OF 'cellularlaw45.UnrollBits'. -/
def unrollBitsCard : Claim7 := { stood := { row := unrollBitsRow, standIns := [], harness := (true, "9e4763e79087e3244c3f7b283584f99d18d6e5ce6093b2fac021dcac42111532"), looks := false }, kinds := [], alts := [], laidByText := true, laidKinds := [.data, .data, .data, .widerDeep], laidTests := true, laidLooks := .later }
def UnrollBitsCardSaid : Prop := Claim7.holds Tryz.pinned (.plain (OpenSpec.ofChange unrollBitsSpec)) unrollBitsCard

/-- THE TIED CARD OF 'cellularlaw45.UnrollSolutions'. -/
def unrollSolutionsCard : Claim7 := { stood := { row := unrollSolutionsRow, standIns := [], harness := (true, "9e4763e79087e3244c3f7b283584f99d18d6e5ce6093b2fac021dcac42111532"), looks := false }, kinds := [], alts := [], laidByText := true, laidKinds := [.data, .data, .data, .widerDeep], laidTests := true, laidLooks := .later }
def UnrollSolutionsCardSaid : Prop := Claim7.holds Tryz.pinned (.plain (OpenSpec.ofChange unrollSolutionsSpec)) unrollSolutionsCard

/-- THE TIED CARD OF 'cellularlaw45.UnrollAncestors'. -/
def unrollAncestorsCard : Claim7 := { stood := { row := unrollAncestorsRow, standIns := [], harness := (true, "9e4763e79087e3244c3f7b283584f99d18d6e5ce6093b2fac021dcac42111532"), looks := false }, kinds := [], alts := [], laidByText := true, laidKinds := [.data, .data, .data, .widerDeep], laidTests := true, laidLooks := .later }
def UnrollAncestorsCardSaid : Prop := Claim7.holds Tryz.pinned (.plain (OpenSpec.ofChange unrollAncestorsSpec)) unrollAncestorsCard

/-- THE SECOND FORM's CARD OF 'cellularlaw45.UnrollFormulas'. -/
def unrollFormulasUptoCard : Claim7 := { stood := { row := unrollFormulasUptoRow, standIns := [], harness := (true, "9e4763e79087e3244c3f7b283584f99d18d6e5ce6093b2fac021dcac42111532"), looks := false }, kinds := [], alts := [], laidByText := true, laidKinds := [.data, .data, .data, .widerDeep], laidTests := true, laidLooks := .later }
def UnrollFormulasUptoCardSaid : Prop := Claim7.holds Tryz.pinned (.plain (OpenSpec.upto unrollFormulasSpec)) unrollFormulasUptoCard

/-- THE SECOND FORM's CARD OF 'cellularlaw45.UnrollParents'. -/
def unrollParentsUptoCard : Claim7 := { stood := { row := unrollParentsUptoRow, standIns := [], harness := (true, "9e4763e79087e3244c3f7b283584f99d18d6e5ce6093b2fac021dcac42111532"), looks := false }, kinds := [], alts := [], laidByText := true, laidKinds := [.data, .data, .data, .widerDeep], laidTests := true, laidLooks := .later }
def UnrollParentsUptoCardSaid : Prop := Claim7.holds Tryz.pinned (.plain (OpenSpec.upto unrollParentsSpec)) unrollParentsUptoCard

/-- THE SECOND FORM's CARD OF 'cellularlaw45.UnrollPatterns'. -/
def unrollPatternsUptoCard : Claim7 := { stood := { row := unrollPatternsUptoRow, standIns := [], harness := (true, "9e4763e79087e3244c3f7b283584f99d18d6e5ce6093b2fac021dcac42111532"), looks := false }, kinds := [], alts := [], laidByText := true, laidKinds := [.data, .data, .data, .widerDeep], laidTests := true, laidLooks := .later }
def UnrollPatternsUptoCardSaid : Prop := Claim7.holds Tryz.pinned (.plain (OpenSpec.upto unrollPatternsSpec)) unrollPatternsUptoCard

/-- THE SECOND FORM's CARD OF 'cellularlaw45.UnrollBits'. -/
def unrollBitsUptoCard : Claim7 := { stood := { row := unrollBitsUptoRow, standIns := [], harness := (true, "9e4763e79087e3244c3f7b283584f99d18d6e5ce6093b2fac021dcac42111532"), looks := false }, kinds := [], alts := [], laidByText := true, laidKinds := [.data, .data, .data, .widerDeep], laidTests := true, laidLooks := .later }
def UnrollBitsUptoCardSaid : Prop := Claim7.holds Tryz.pinned (.plain (OpenSpec.upto unrollBitsSpec)) unrollBitsUptoCard

/-- THE SECOND FORM's CARD OF 'cellularlaw45.UnrollSolutions'. -/
def unrollSolutionsUptoCard : Claim7 := { stood := { row := unrollSolutionsUptoRow, standIns := [], harness := (true, "9e4763e79087e3244c3f7b283584f99d18d6e5ce6093b2fac021dcac42111532"), looks := false }, kinds := [], alts := [], laidByText := true, laidKinds := [.data, .data, .data, .widerDeep], laidTests := true, laidLooks := .later }
def UnrollSolutionsUptoCardSaid : Prop := Claim7.holds Tryz.pinned (.plain (OpenSpec.upto unrollSolutionsSpec)) unrollSolutionsUptoCard

/-- THE SECOND FORM's CARD OF 'cellularlaw45.UnrollAncestors'. -/
def unrollAncestorsUptoCard : Claim7 := { stood := { row := unrollAncestorsUptoRow, standIns := [], harness := (true, "9e4763e79087e3244c3f7b283584f99d18d6e5ce6093b2fac021dcac42111532"), looks := false }, kinds := [], alts := [], laidByText := true, laidKinds := [.data, .data, .data, .widerDeep], laidTests := true, laidLooks := .later }
def UnrollAncestorsUptoCardSaid : Prop := Claim7.holds Tryz.pinned (.plain (OpenSpec.upto unrollAncestorsSpec)) unrollAncestorsUptoCard
end Rows
end Go.Proofs.YtgfhhbjnjccomaaGreatDoor
