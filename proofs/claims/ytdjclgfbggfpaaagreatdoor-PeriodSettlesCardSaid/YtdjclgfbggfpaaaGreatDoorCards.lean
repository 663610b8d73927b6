/-
  DERIVED. GIVEN WITH THE SEED: THE CARDS: each row of YtdjclgfbggfpaaaGreatDoorRows.lean that lists a variable, with what it lists TIED to the program's text (the seventh form; the later family's looks); each row that meets fmt, with fmt's text TOLD by the authors' own Lean function (tested against real Go, not proved from fmt's source: count such statements apart). THE CARD IS WHAT COUNTS. Prove the row's statement (the work); the ties are given (YtdjclgfbggfpaaaGreatDoorTie.lean); close each card by the builder's one call (the guide's Derived/Test/ToyasCard.lean, 'card_holds'). Laid BY PROGRAM, IN A SANDBOX (cutbox-door.mjs). By AI agents, Wed Nov 11 2026. No macro, syntax, notation, axiom, sorry.
-/
import Derived.Test.YtdjclgfbggfpaaaGreatDoorRows
import GoSem.ClaimSeven
namespace Go.Proofs.YtdjclgfbggfpaaaGreatDoor
namespace Rows

/-- THE TIED CARD OF 'cellularlaw34.PeriodFinds'. -/
def periodFindsCard : Claim7 := { stood := { row := periodFindsRow, standIns := [], harness := (true, "3416179ee3553ee90b614a1afd0b7b692cbdefcecb8325931e4637598401d635"), looks := true }, kinds := [], alts := [], laidByText := true, laidKinds := [.data, .data, .data, .data, .widerDeep, .sentinel, .sentinel, .widerDeep, .pinned], laidTests := true, laidLooks := .later }
def PeriodFindsCardSaid : Prop := Claim7.holds Tryz.pinned (.plain (OpenSpec.ofChange periodFindsSpec)) periodFindsCard

/-- THE TIED CARD OF 'cellularlaw34.PeriodHas'. -/
def periodHasCard : Claim7 := { stood := { row := periodHasRow, standIns := [], harness := (true, "3416179ee3553ee90b614a1afd0b7b692cbdefcecb8325931e4637598401d635"), looks := true }, kinds := [], alts := [], laidByText := true, laidKinds := [.data, .data, .data, .data, .widerDeep, .sentinel, .sentinel, .widerDeep, .pinned], laidTests := true, laidLooks := .later }
def PeriodHasCardSaid : Prop := Claim7.holds Tryz.pinned (.plain (OpenSpec.ofChange periodHasSpec)) periodHasCard

/-- THE TIED CARD OF 'cellularlaw34.PeriodKinds'. -/
def periodKindsCard : Claim7 := { stood := { row := periodKindsRow, standIns := [], harness := (true, "3416179ee3553ee90b614a1afd0b7b692cbdefcecb8325931e4637598401d635"), looks := true }, kinds := [], alts := [], laidByText := true, laidKinds := [.data, .data, .data, .data, .widerDeep, .sentinel, .sentinel, .widerDeep, .pinned], laidTests := true, laidLooks := .later }
def PeriodKindsCardSaid : Prop := Claim7.holds Tryz.pinned (.plain (OpenSpec.ofChange periodKindsSpec)) periodKindsCard

/-- THE TIED CARD OF 'cellularlaw34.PeriodSettles'. -/
def periodSettlesCard : Claim7 := { stood := { row := periodSettlesRow, standIns := [], harness := (true, "3416179ee3553ee90b614a1afd0b7b692cbdefcecb8325931e4637598401d635"), looks := true }, kinds := [], alts := [], laidByText := true, laidKinds := [.data, .data, .data, .data, .widerDeep, .sentinel, .sentinel, .widerDeep, .pinned], laidTests := true, laidLooks := .later }
def PeriodSettlesCardSaid : Prop := Claim7.holds Tryz.pinned (.plain (OpenSpec.ofChange periodSettlesSpec)) periodSettlesCard

/-- THE TIED CARD OF 'cellularlaw34.PeriodFirst'. -/
def periodFirstCard : Claim7 := { stood := { row := periodFirstRow, standIns := [], harness := (true, "3416179ee3553ee90b614a1afd0b7b692cbdefcecb8325931e4637598401d635"), looks := true }, kinds := [], alts := [], laidByText := true, laidKinds := [.data, .data, .data, .data, .widerDeep, .sentinel, .sentinel, .widerDeep, .pinned], laidTests := true, laidLooks := .later }
def PeriodFirstCardSaid : Prop := Claim7.holds Tryz.pinned (.plain (OpenSpec.ofChange periodFirstSpec)) periodFirstCard

/-- THE TIED CARD OF 'cellularlaw34.PeriodTrue'. -/
def periodTrueCard : Claim7 := { stood := { row := periodTrueRow, standIns := [], harness := (true, "3416179ee3553ee90b614a1afd0b7b692cbdefcecb8325931e4637598401d635"), looks := true }, kinds := [], alts := [], laidByText := true, laidKinds := [.data, .data, .data, .data, .widerDeep, .sentinel, .sentinel, .widerDeep, .pinned], laidTests := true, laidLooks := .later }
def PeriodTrueCardSaid : Prop := Claim7.holds Tryz.pinned (.plain (OpenSpec.ofChange periodTrueSpec)) periodTrueCard

/-- THE TIED CARD OF 'cellularlaw34.PeriodPhases'. -/
def periodPhasesCard : Claim7 := { stood := { row := periodPhasesRow, standIns := [], harness := (true, "3416179ee3553ee90b614a1afd0b7b692cbdefcecb8325931e4637598401d635"), looks := true }, kinds := [], alts := [], laidByText := true, laidKinds := [.data, .data, .data, .data, .widerDeep, .sentinel, .sentinel, .widerDeep, .pinned], laidTests := true, laidLooks := .later }
def PeriodPhasesCardSaid : Prop := Claim7.holds Tryz.pinned (.plain (OpenSpec.ofChange periodPhasesSpec)) periodPhasesCard

/-- THE SECOND FORM's CARD OF 'cellularlaw34.PeriodFinds'. -/
def periodFindsUptoCard : Claim7 := { stood := { row := periodFindsUptoRow, standIns := [], harness := (true, "3416179ee3553ee90b614a1afd0b7b692cbdefcecb8325931e4637598401d635"), looks := true }, kinds := [], alts := [], laidByText := true, laidKinds := [.data, .data, .data, .data, .widerDeep, .sentinel, .sentinel, .widerDeep, .pinned], laidTests := true, laidLooks := .later }
def PeriodFindsUptoCardSaid : Prop := Claim7.holds Tryz.pinned (.plain (OpenSpec.upto periodFindsSpec)) periodFindsUptoCard

/-- THE SECOND FORM's CARD OF 'cellularlaw34.PeriodHas'. -/
def periodHasUptoCard : Claim7 := { stood := { row := periodHasUptoRow, standIns := [], harness := (true, "3416179ee3553ee90b614a1afd0b7b692cbdefcecb8325931e4637598401d635"), looks := true }, kinds := [], alts := [], laidByText := true, laidKinds := [.data, .data, .data, .data, .widerDeep, .sentinel, .sentinel, .widerDeep, .pinned], laidTests := true, laidLooks := .later }
def PeriodHasUptoCardSaid : Prop := Claim7.holds Tryz.pinned (.plain (OpenSpec.upto periodHasSpec)) periodHasUptoCard

/-- THE SECOND FORM's CARD OF 'cellularlaw34.PeriodKinds'. -/
def periodKindsUptoCard : Claim7 := { stood := { row := periodKindsUptoRow, standIns := [], harness := (true, "3416179ee3553ee90b614a1afd0b7b692cbdefcecb8325931e4637598401d635"), looks := true }, kinds := [], alts := [], laidByText := true, laidKinds := [.data, .data, .data, .data, .widerDeep, .sentinel, .sentinel, .widerDeep, .pinned], laidTests := true, laidLooks := .later }
def PeriodKindsUptoCardSaid : Prop := Claim7.holds Tryz.pinned (.plain (OpenSpec.upto periodKindsSpec)) periodKindsUptoCard

/-- THE SECOND FORM's CARD OF 'cellularlaw34.PeriodSettles'. -/
def periodSettlesUptoCard : Claim7 := { stood := { row := periodSettlesUptoRow, standIns := [], harness := (true, "3416179ee3553ee90b614a1afd0b7b692cbdefcecb8325931e4637598401d635"), looks := true }, kinds := [], alts := [], laidByText := true, laidKinds := [.data, .data, .data, .data, .widerDeep, .sentinel, .sentinel, .widerDeep, .pinned], laidTests := true, laidLooks := .later }
def PeriodSettlesUptoCardSaid : Prop := Claim7.holds Tryz.pinned (.plain (OpenSpec.upto periodSettlesSpec)) periodSettlesUptoCard

/-- THE SECOND FORM's CARD OF 'cellularlaw34.PeriodFirst'. -/
def periodFirstUptoCard : Claim7 := { stood := { row := periodFirstUptoRow, standIns := [], harness := (true, "3416179ee3553ee90b614a1afd0b7b692cbdefcecb8325931e4637598401d635"), looks := true }, kinds := [], alts := [], laidByText := true, laidKinds := [.data, .data, .data, .data, .widerDeep, .sentinel, .sentinel, .widerDeep, .pinned], laidTests := true, laidLooks := .later }
def PeriodFirstUptoCardSaid : Prop := Claim7.holds Tryz.pinned (.plain (OpenSpec.upto periodFirstSpec)) periodFirstUptoCard

/-- THE SECOND FORM's CARD OF 'cellularlaw34.PeriodTrue'. -/
def periodTrueUptoCard : Claim7 := { stood := { row := periodTrueUptoRow, standIns := [], harness := (true, "3416179ee3553ee90b614a1afd0b7b692cbdefcecb8325931e4637598401d635"), looks := true }, kinds := [], alts := [], laidByText := true, laidKinds := [.data, .data, .data, .data, .widerDeep, .sentinel, .sentinel, .widerDeep, .pinned], laidTests := true, laidLooks := .later }
def PeriodTrueUptoCardSaid : Prop := Claim7.holds Tryz.pinned (.plain (OpenSpec.upto periodTrueSpec)) periodTrueUptoCard

/-- THE SECOND FORM's CARD OF 'cellularlaw34.PeriodPhases'. -/
def periodPhasesUptoCard : Claim7 := { stood := { row := periodPhasesUptoRow, standIns := [], harness := (true, "3416179ee3553ee90b614a1afd0b7b692cbdefcecb8325931e4637598401d635"), looks := true }, kinds := [], alts := [], laidByText := true, laidKinds := [.data, .data, .data, .data, .widerDeep, .sentinel, .sentinel, .widerDeep, .pinned], laidTests := true, laidLooks := .later }
def PeriodPhasesUptoCardSaid : Prop := Claim7.holds Tryz.pinned (.plain (OpenSpec.upto periodPhasesSpec)) periodPhasesUptoCard
end Rows
end Go.Proofs.YtdjclgfbggfpaaaGreatDoor
