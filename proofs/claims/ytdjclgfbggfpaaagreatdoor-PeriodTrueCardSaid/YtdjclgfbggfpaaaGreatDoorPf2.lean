/-
  Plain laws: Settles: both sides agree; and what it gives is the first.
-/
import Derived.Test.YtdjclgfbggfpaaaGreatDoorPf1
namespace Go.Proofs.YtdjclgfbggfpaaaGreatDoor
open Go.AM Go.Proofs
section
variable {t : Tree} {gens most : Int} (hs : Sz t) (hg1 : gens ≤ 10000)
include hs hg1
end
def aP (t : Tree) : Nat → List Cell → List Cell × Int
 | 0, q => (q, 0)
 | n + 1, q => bif neB (aA t q).2 0 then ([], (aA t q).2) else aP t n (aA t q).1
theorem step_fit {t : Tree} {q : List Cell} (hs : Sz t) (hq : fitE t q = 0) : bN t q = some (aA t q) := by
 have hl := (fit_of hq).pat.len
 have h1 := (dc hs (q := q) (by omega)).1
 unfold b8 at h1
 rw [check_eq hs (by omega)] at h1
 simp only [some_bind] at h1
 have e : neB (fitE t q) 0 = false := by simpa [neB] using hq
 rw [e] at h1
 simp only [cond_false] at h1
 cases hd : bN t q with
 | none => rw [hd] at h1; cases h1
 | some y => rw [hd] at h1; exact h1
theorem run_loop {t : Tree} (hs : Sz t) {N : Int} (hN : N ≤ 10000) : ∀ (n : Nat) (q : List Cell) (a : Int) (k : Nat), fitE t q = 0 → 0 ≤ a → a + n = N → n < k →
  ap (bR t N) k (q, a) = some (bif neB (aP t n q).2 0 then .inl (aP t n q) else .inr (aP t n q).1)
 | 0, q, a, k, hq, ha, hn, hk => by
  obtain ⟨k, rfl⟩ : ∃ j, k = j + 1 := ⟨k - 1, by omega⟩
  rw [ap]
  unfold bR
  have e : ltB a N = false := decide_eq_false (by omega)
  dsimp only
  rw [e]
  rfl
 | n + 1, q, a, k, hq, ha, hn, hk => by
  obtain ⟨k, rfl⟩ : ∃ j, k = j + 1 := ⟨k - 1, by omega⟩
  rw [ap]
  obtain ⟨w, hw⟩ : ∃ w, bR t N (q, a) = w := ⟨_, rfl⟩
  rw [hw]
  unfold bR at hw
  have e : ltB a N = true := decide_eq_true (by omega)
  dsimp only at hw
  rw [e, step_fit hs hq] at hw
  simp only [cond_true, some_bind] at hw
  rw [iadd_in (by omega)] at hw
  unfold aP
  cases he : neB (aA t q).2 0 with
  | true =>
   rw [he] at hw
   rw [← hw]
   simp only [cond_true, he]
  | false =>
   rw [he] at hw
   rw [← hw]
   simp only [cond_false]
   exact run_loop hs hN n _ _ k (bT hs hq (by simpa [neB] using he)) (by omega) (by omega) (by omega)
theorem run_eq {t : Tree} (hs : Sz t) {p : List Cell} (hp : fitE t p = 0) {n : Nat} (hn : n ≤ 10000) : bi t p (n : Int) = some (aP t n p) := by
 have hl := (fit_of hp).pat.len
 unfold bi
 rw [check_eq hs (by omega)]
 simp only [some_bind]
 have e : neB (fitE t p) 0 = false := by simpa [neB] using hp
 have e1 : ltB (n : Int) 0 = false := decide_eq_false (by omega)
 have e2 : gtB (n : Int) 10000 = false := decide_eq_false (by omega)
 rw [e, e1, e2, run_loop hs (by omega) n p 0 aF hp (by omega) (by omega) (by unfold aF; omega)]
 simp only [cond_false, some_bind]
 cases he : neB (aP t n p).2 0 with
 | true => rfl
 | false =>
  have h0 : (aP t n p).2 = 0 := by simpa [neB] using he
  simp only [cond_false]
  rw [← h0]
structure First (t : Tree) (p : List Cell) (most : Int) (k : Nat) (m : Motion) : Prop where
 here : ∃ q, aP t k p = (q, 0) ∧ fitE t q = 0 ∧ ((q = [] ∧ m = ⟨0, 0, 0⟩) ∨ (q ≠ [] ∧ aR t q most = (m, true, 0)))
 before : ∀ j, k = j + 1 → ∃ q m', aP t j p = (q, 0) ∧ fitE t q = 0 ∧ q ≠ [] ∧ aR t q most = (m', false, 0)
theorem gtB_len {q : List Cell} : gtB (aj q) 0 = decide (q ≠ []) := by
 unfold gtB aj
 cases q <;> simp
end Go.Proofs.YtdjclgfbggfpaaaGreatDoor
