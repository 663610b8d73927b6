/-
  DERIVED. GIVEN WITH THE SEED: THE CARDS: each row of YtpeabgakdpojlaaGreatDoorRows.lean that lists a variable, with what it lists TIED to the program's text (the seventh form; the later family's looks); each row that meets fmt, with fmt's text TOLD by the authors' own Lean function (tested against real Go, not proved from fmt's source: count such statements apart). THE CARD IS WHAT COUNTS. Prove the row's statement (the work); the ties are given (YtpeabgakdpojlaaGreatDoorTie.lean); close each card by the builder's one call (the guide's Derived/Test/ToyasCard.lean, 'card_holds'). Laid BY PROGRAM, IN A SANDBOX (cutbox-door.mjs). By AI agents, Wed Nov 11 2026. No macro, syntax, notation, axiom, sorry.
-/
import Derived.Test.YtpeabgakdpojlaaGreatDoorRows
import GoSem.ClaimSeven
namespace Go.Proofs.YtpeabgakdpojlaaGreatDoor
namespace Rows

/-- THE TIED CARD OF 'cellularlaw48.AncestorAll'. -/
def ancestorAllCard : Claim7 := { stood := { row := ancestorAllRow, standIns := [], harness := (true, "3243a79e09dacd662fb8647c20a94c82327e358b9348fa5cf948689f7a13b000"), looks := false }, kinds := [], alts := [], laidByText := true, laidKinds := [.data, .data, .data], laidTests := true, laidLooks := .later }
def AncestorAllCardSaid : Prop := Claim7.holds Tryz.pinned (.plain (OpenSpec.ofChange ancestorAllSpec)) ancestorAllCard

/-- THE TIED CARD OF 'cellularlaw48.AncestorFirst'. -/
def ancestorFirstCard : Claim7 := { stood := { row := ancestorFirstRow, standIns := [], harness := (true, "3243a79e09dacd662fb8647c20a94c82327e358b9348fa5cf948689f7a13b000"), looks := false }, kinds := [], alts := [], laidByText := true, laidKinds := [.data, .data, .data], laidTests := true, laidLooks := .later }
def AncestorFirstCardSaid : Prop := Claim7.holds Tryz.pinned (.plain (OpenSpec.ofChange ancestorFirstSpec)) ancestorFirstCard

/-- THE TIED CARD OF 'cellularlaw48.AncestorChains'. -/
def ancestorChainsCard : Claim7 := { stood := { row := ancestorChainsRow, standIns := [], harness := (true, "3243a79e09dacd662fb8647c20a94c82327e358b9348fa5cf948689f7a13b000"), looks := false }, kinds := [], alts := [], laidByText := true, laidKinds := [.data, .data, .data], laidTests := true, laidLooks := .later }
def AncestorChainsCardSaid : Prop := Claim7.holds Tryz.pinned (.plain (OpenSpec.ofChange ancestorChainsSpec)) ancestorChainsCard

/-- THE SECOND FORM's CARD OF 'cellularlaw48.AncestorAll'. -/
def ancestorAllUptoCard : Claim7 := { stood := { row := ancestorAllUptoRow, standIns := [], harness := (true, "3243a79e09dacd662fb8647c20a94c82327e358b9348fa5cf948689f7a13b000"), looks := false }, kinds := [], alts := [], laidByText := true, laidKinds := [.data, .data, .data], laidTests := true, laidLooks := .later }
def AncestorAllUptoCardSaid : Prop := Claim7.holds Tryz.pinned (.plain (OpenSpec.upto ancestorAllSpec)) ancestorAllUptoCard

/-- THE SECOND FORM's CARD OF 'cellularlaw48.AncestorFirst'. -/
def ancestorFirstUptoCard : Claim7 := { stood := { row := ancestorFirstUptoRow, standIns := [], harness := (true, "3243a79e09dacd662fb8647c20a94c82327e358b9348fa5cf948689f7a13b000"), looks := false }, kinds := [], alts := [], laidByText := true, laidKinds := [.data, .data, .data], laidTests := true, laidLooks := .later }
def AncestorFirstUptoCardSaid : Prop := Claim7.holds Tryz.pinned (.plain (OpenSpec.upto ancestorFirstSpec)) ancestorFirstUptoCard

/-- THE SECOND FORM's CARD OF 'cellularlaw48.AncestorChains'. -/
def ancestorChainsUptoCard : Claim7 := { stood := { row := ancestorChainsUptoRow, standIns := [], harness := (true, "3243a79e09dacd662fb8647c20a94c82327e358b9348fa5cf948689f7a13b000"), looks := false }, kinds := [], alts := [], laidByText := true, laidKinds := [.data, .data, .data], laidTests := true, laidLooks := .later }
def AncestorChainsUptoCardSaid : Prop := Claim7.holds Tryz.pinned (.plain (OpenSpec.upto ancestorChainsSpec)) ancestorChainsUptoCard
end Rows
end Go.Proofs.YtpeabgakdpojlaaGreatDoor
