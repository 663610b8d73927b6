/-
  Plain laws: Settles: both sides agree; and what it gives is the first.
-/
import Derived.Test.YtdjclgfbggfpaaaGreatDoorPf1
namespace Go.Proofs.YtdjclgfbggfpaaaGreatDoor
open Go.AM Go.Proofs
section
variable {t : Tree} {gens most : Int} (hs : Sz t) (hg1 : gens ≤ 10000)
include hs hg1
end
def aT (t : Tree) : Nat → List Cell → List Cell × Int
 | 0, q => (q, 0)
 | n + 1, q => bif neB (aC t q).2 0 then ([], (aC t q).2) else aT t n (aC t q).1
structure First (t : Tree) (p : List Cell) (most : Int) (k : Nat) (m : Motion) : Prop where
 here : ∃ q, aT t k p = (q, 0) ∧ aU t q = 0 ∧ ((q = [] ∧ m = ⟨0, 0, 0⟩) ∨ (q ≠ [] ∧ aV t q most = (m, true, 0)))
 before : ∀ j, k = j + 1 → ∃ q m', aT t j p = (q, 0) ∧ aU t q = 0 ∧ q ≠ [] ∧ aV t q most = (m', false, 0)
end Go.Proofs.YtdjclgfbggfpaaaGreatDoor
