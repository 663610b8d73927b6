/-
  Plain laws: Settles: both sides agree; and what it gives is the first.
-/
import Derived.Test.YtdjclgfbggfpaaaGreatDoorPf1
namespace Go.Proofs.YtdjclgfbggfpaaaGreatDoor
open Go.AM Go.Proofs
def ig (t : Tree) (gens most : Int) : Nat → List Cell → Int → (Int × Motion × Int) ⊕ Unit
 | 0, _, _ => .inr ()
 | n + 1, q, g => bif eqB (ak q) 0 then .inl (g, ⟨0, 0, 0⟩, 0) else bif neB (aV t q most).2.2 0 then .inl (0, ⟨0, 0, 0⟩, (aV t q most).2.2) else bif (aV t q most).2.1 then .inl (g, (aV t q most).1, 0)
   else bif ltB g gens then (bif neB (aC t q).2 0 then .inl (0, ⟨0, 0, 0⟩, (aC t q).2) else ig t gens most n (aC t q).1 (g + 1)) else ig t gens most n q (g + 1)
theorem findA_nil {t : Tree} {most : Int} (hs : Sz t) (hp : aU t [] = 0) (h1 : 1 ≤ most) (h2 : most ≤ 64) : aV t [] most = (⟨0, 0, 0⟩, false, 0) := by
 unfold aV
 have e1 : neB (aU t []) 0 = false := by simpa [neB] using hp
 have e2 : (!(decide (1 ≤ most) && decide (most ≤ 64))) = false := by simp [h1, h2]
 rw [e1, e2, findS_nil hs hp]
 rfl
theorem lenL_zero {l : List Cell} (h : eqB (ak l) 0 = true) : l = [] := by
 unfold eqB ak at h
 rw [beq_iff_eq] at h
 exact List.eq_nil_of_length_eq_zero (by omega)
section
variable {t : Tree} {gens most : Int} (hs : Sz t) (hg1 : gens ≤ 10000)
include hs hg1
theorem sett_loop : ∀ (n : Nat) (q : List Cell) (g : Int) (k : Nat), aU t q = 0 → 0 ≤ g → g + n = gens + 1 → n < k → ar (bJ t gens most) k (q, g) = some (ig t gens most n q g)
 | 0, q, g, k, hq, hg, hn, hk => by
  obtain ⟨k, rfl⟩ : ∃ j, k = j + 1 := ⟨k - 1, by omega⟩
  rw [ar]
  unfold bJ
  have e : leB g gens = false := decide_eq_false (by omega)
  dsimp only
  rw [e]
  rfl
 | n + 1, q, g, k, hq, hg, hn, hk => by
  obtain ⟨k, rfl⟩ : ∃ j, k = j + 1 := ⟨k - 1, by omega⟩
  have hl := (bh hq).pat.len
  obtain ⟨h1, _, _⟩ := dM hs (q := q) (by omega)
  rw [ar]
  obtain ⟨w, hw⟩ : ∃ w, bJ t gens most (q, g) = w := ⟨_, rfl⟩
  rw [hw]
  unfold bJ at hw
  have e : leB g gens = true := decide_eq_true (by omega)
  dsimp only at hw
  rw [e, gR hs (by omega)] at hw
  simp only [cond_true, a8] at hw
  rw [b0 (by omega), h1] at hw
  simp only [a8] at hw
  unfold ig
  cases c1 : eqB (ak q) 0 with
  | true => rw [c1] at hw; rw [← hw]; rfl
  | false =>
   rw [c1] at hw
   cases c2 : neB (aV t q most).2.2 0 with
   | true => rw [c2] at hw; rw [← hw]; rfl
   | false =>
    rw [c2] at hw
    cases c3 : (aV t q most).2.1 with
    | true => rw [c3] at hw; rw [← hw]; rfl
    | false =>
     rw [c3] at hw
     cases c4 : ltB g gens with
     | false =>
      rw [c4] at hw
      rw [← hw]
      exact sett_loop n _ _ k hq (by omega) (by omega) (by omega)
     | true =>
      rw [c4] at hw
      cases c5 : neB (aC t q).2 0 with
      | true => rw [c5] at hw; rw [← hw]; rfl
      | false =>
       rw [c5] at hw
       rw [← hw]
       exact sett_loop n _ _ k (cp hs hq (by simpa [neB] using c5)) (by omega) (by omega) (by omega)
end
def settA (t : Tree) (p : List Cell) (gens most : Int) : Int × Motion × Int :=
 bif neB (aU t p) 0 then (0, ⟨0, 0, 0⟩, aU t p) else bif ltB gens 0 || (gtB gens 10000 || !(decide (1 ≤ most) && decide (most ≤ 64))) then (0, ⟨0, 0, 0⟩, 2) else match ig t gens most (gens + 1).toNat p 0 with
  | .inl r => r
  | .inr _ => (0, ⟨0, 0, 0⟩, 14)
theorem settles_eq {t : Tree} {p : List Cell} (hs : Sz t) (hp : p.length < 1099511627776) (gens most : Int) : bu t p gens most = some (settA t p gens most) := by
 unfold bu settA
 rw [run0_is hs hp]
 simp only [a8]
 cases hn : neB (aU t p) 0 with
 | true => simp only [cond_true, hn]
 | false =>
  have h0 : aU t p = 0 := by simpa [neB] using hn
  simp only [cond_false]
  have e : neB 0 0 = false := rfl
  rw [e, proper_is]
  simp only [cond_false, a8, aR, aO, aZ]
  cases hm : (ltB gens 0 || (gtB gens 10000 || !(decide (1 ≤ most) && decide (most ≤ 64)))) with
  | true => rfl
  | false =>
   simp only [Bool.or_eq_false_iff, Bool.not_eq_false', Bool.and_eq_true, decide_eq_true_eq] at hm
   have e1 := of_decide_eq_false hm.1
   have e2 := of_decide_eq_false hm.2.1
   rw [sett_loop hs (by omega) (gens + 1).toNat p 0 aG h0 (by omega) (by omega) (by unfold aG; omega)]
   simp only [cond_false, a8]
   cases ig t gens most (gens + 1).toNat p 0 <;> rfl
def aT (t : Tree) : Nat → List Cell → List Cell × Int
 | 0, q => (q, 0)
 | n + 1, q => bif neB (aC t q).2 0 then ([], (aC t q).2) else aT t n (aC t q).1
theorem step_fit {t : Tree} {q : List Cell} (hs : Sz t) (hq : aU t q = 0) : cb t q = some (aC t q) := by
 have hl := (bh hq).pat.len
 have h1 := (dM hs (q := q) (by omega)).1
 unfold bg at h1
 rw [check_eq hs (by omega)] at h1
 simp only [a8] at h1
 have e : neB (aU t q) 0 = false := by simpa [neB] using hq
 rw [e] at h1
 simp only [cond_false] at h1
 cases hd : cb t q with
 | none => rw [hd] at h1; cases h1
 | some y => rw [hd] at h1; exact h1
theorem run_loop {t : Tree} (hs : Sz t) {N : Int} (hN : N ≤ 10000) : ∀ (n : Nat) (q : List Cell) (a : Int) (k : Nat), aU t q = 0 → 0 ≤ a → a + n = N → n < k →
  ar (cj t N) k (q, a) = some (bif neB (aT t n q).2 0 then .inl (aT t n q) else .inr (aT t n q).1)
 | 0, q, a, k, hq, ha, hn, hk => by
  obtain ⟨k, rfl⟩ : ∃ j, k = j + 1 := ⟨k - 1, by omega⟩
  rw [ar]
  unfold cj
  have e : ltB a N = false := decide_eq_false (by omega)
  dsimp only
  rw [e]
  rfl
 | n + 1, q, a, k, hq, ha, hn, hk => by
  obtain ⟨k, rfl⟩ : ∃ j, k = j + 1 := ⟨k - 1, by omega⟩
  rw [ar]
  obtain ⟨w, hw⟩ : ∃ w, cj t N (q, a) = w := ⟨_, rfl⟩
  rw [hw]
  unfold cj at hw
  have e : ltB a N = true := decide_eq_true (by omega)
  dsimp only at hw
  rw [e, step_fit hs hq] at hw
  simp only [cond_true, a8] at hw
  rw [b0 (by omega)] at hw
  unfold aT
  cases he : neB (aC t q).2 0 with
  | true =>
   rw [he] at hw
   rw [← hw]
   simp only [cond_true, he]
  | false =>
   rw [he] at hw
   rw [← hw]
   simp only [cond_false]
   exact run_loop hs hN n _ _ k (cp hs hq (by simpa [neB] using he)) (by omega) (by omega) (by omega)
theorem run_eq {t : Tree} (hs : Sz t) {p : List Cell} (hp : aU t p = 0) {n : Nat} (hn : n ≤ 10000) : br t p (n : Int) = some (aT t n p) := by
 have hl := (bh hp).pat.len
 unfold br
 rw [check_eq hs (by omega)]
 simp only [a8]
 have e : neB (aU t p) 0 = false := by simpa [neB] using hp
 have e1 : ltB (n : Int) 0 = false := decide_eq_false (by omega)
 have e2 : gtB (n : Int) 10000 = false := decide_eq_false (by omega)
 rw [e, e1, e2, run_loop hs (by omega) n p 0 aG hp (by omega) (by omega) (by unfold aG; omega)]
 simp only [cond_false, a8]
 cases he : neB (aT t n p).2 0 with
 | true => rfl
 | false =>
  have h0 : (aT t n p).2 = 0 := by simpa [neB] using he
  simp only [cond_false]
  rw [← h0]
theorem stepS_err {t : Tree} {q : List Cell} (hs : Sz t) (hq : aU t q = 0) : (aC t q).2 = 0 ∨ (aC t q).2 = 5 ∨ (aC t q).2 = 6 := by
 have hl := (bh hq).pat.len
 rcases (dM hs (q := q) (by omega)).2.2 with ⟨h, _⟩ | ⟨_, h⟩
 ·exact absurd hq h
 ·rcases h with ⟨_, e⟩ | ⟨_, y, _, e⟩
  ·rw [e]; exact .inr (.inl rfl)
  ·rw [e]
   cases gtB (ak y) 5000 with
   | true => exact .inr (.inr rfl)
   | false => exact .inl rfl
theorem findS_errs {t : Tree} {p : List Cell} (hs : Sz t) : ∀ (n : Nat) (q : List Cell) (g : Int) r, aU t q = 0 → dW t p n q g = .inl r → r.2.2 = 0 ∨ r.2.2 = 5 ∨ r.2.2 = 6
 | 0, _, _, r, _, h => by cases h
 | n + 1, q, g, r, hq, h => by
  unfold dW at h
  cases he : neB (aC t q).2 0 with
  | true =>
   rw [he] at h
   cases h
   exact stepS_err hs hq
  | false =>
   rw [he] at h
   cases hm : mvB p (aC t q).1 with
   | true =>
    rw [hm] at h
    cases h
    exact .inl rfl
   | false =>
    rw [hm] at h
    exact findS_errs hs n _ _ r (cp hs hq (by simpa [neB] using he)) h
theorem findA_errs {t : Tree} {q : List Cell} {most : Int} (hs : Sz t) (hq : aU t q = 0) (h1 : 1 ≤ most) (h2 : most ≤ 64) : (aV t q most).2.2 = 0 ∨ (aV t q most).2.2 = 5 ∨ (aV t q most).2.2 = 6 := by
 unfold aV
 have e1 : neB (aU t q) 0 = false := by simpa [neB] using hq
 have e2 : (!(decide (1 ≤ most) && decide (most ≤ 64))) = false := by simp [h1, h2]
 rw [e1, e2]
 simp only [cond_false]
 cases hf : dW t q most.toNat q 1 with
 | inl r => exact findS_errs hs _ _ _ r hq hf
 | inr u => exact .inl rfl
structure First (t : Tree) (p : List Cell) (most : Int) (k : Nat) (m : Motion) : Prop where
 here : ∃ q, aT t k p = (q, 0) ∧ aU t q = 0 ∧ ((q = [] ∧ m = ⟨0, 0, 0⟩) ∨ (q ≠ [] ∧ aV t q most = (m, true, 0)))
 before : ∀ j, k = j + 1 → ∃ q m', aT t j p = (q, 0) ∧ aU t q = 0 ∧ q ≠ [] ∧ aV t q most = (m', false, 0)
theorem sett_first {t : Tree} {gens most : Int} (hs : Sz t) (hm1 : 1 ≤ most) (hm2 : most ≤ 64) : ∀ (n : Nat) (q : List Cell) (g : Int) r, aU t q = 0 → g + n = gens + 1 → ig t gens most n q g = .inl r →
  (r.2.2 = 0 ∧ ∃ k : Nat, r.1 = g + k ∧ r.1 ≤ gens ∧ First t q most k r.2.1) ∨ (r.1 = 0 ∧ r.2.1 = ⟨0, 0, 0⟩ ∧ (r.2.2 = 5 ∨ r.2.2 = 6))
 | 0, _, _, r, _, _, h => by cases h
 | n + 1, q, g, r, hq, hn, h => by
  unfold ig at h
  cases c1 : eqB (ak q) 0 with
  | true =>
   rw [c1] at h
   cases h
   exact .inl ⟨rfl, 0, by simp, by dsimp only; omega, ⟨q, rfl, hq, .inl ⟨lenL_zero c1, rfl⟩⟩, fun j hj => by omega⟩
  | false =>
   rw [c1] at h
   have hne : q ≠ [] := fun e => by rw [e] at c1; cases c1
   cases c2 : neB (aV t q most).2.2 0 with
   | true =>
    rw [c2] at h
    cases h
    have h0 : (aV t q most).2.2 ≠ 0 := by simpa [neB] using c2
    exact .inr ⟨rfl, rfl, (findA_errs hs hq hm1 hm2).resolve_left h0⟩
   | false =>
    rw [c2] at h
    have h0 : (aV t q most).2.2 = 0 := by simpa [neB] using c2
    cases c3 : (aV t q most).2.1 with
    | true =>
     rw [c3] at h
     cases h
     refine .inl ⟨rfl, 0, by simp, by dsimp only; omega, ⟨q, rfl, hq, .inr ⟨hne, ?_⟩⟩, fun j hj => by omega⟩
     rw [← c3, ← h0]
    | false =>
     rw [c3] at h
     cases c4 : ltB g gens with
     | false =>
      rw [c4] at h
      have := of_decide_eq_false c4
      have hn0 : n = 0 := by omega
      subst hn0
      cases h
     | true =>
      rw [c4] at h
      cases c5 : neB (aC t q).2 0 with
      | true =>
       rw [c5] at h
       cases h
       have h5 : (aC t q).2 ≠ 0 := by simpa [neB] using c5
       exact .inr ⟨rfl, rfl, (stepS_err hs hq).resolve_left h5⟩
      | false =>
       rw [c5] at h
       have h5 : (aC t q).2 = 0 := by simpa [neB] using c5
       rcases sett_first hs hm1 hm2 n _ _ r (cp hs hq h5) (by omega) h with ⟨e0, k, e1, e2, hF⟩ | hr
       ·refine .inl ⟨e0, k + 1, by omega, e2, ?_, fun j hj => ?_⟩
        ·obtain ⟨q', h1, h2⟩ := hF.here
         refine ⟨q', ?_, h2⟩
         unfold aT
         rw [c5]
         exact h1
        ·have hj' : j = k := by omega
         subst hj'
         cases j with
         | zero => exact ⟨q, (aV t q most).1, rfl, hq, hne, by rw [← c3, ← h0]⟩
         | succ j =>
          obtain ⟨q', m', h1, h2⟩ := hF.before j rfl
          refine ⟨q', m', ?_, h2⟩
          unfold aT
          rw [c5]
          exact h1
       ·exact .inr hr
theorem gtB_len {q : List Cell} : gtB (ak q) 0 = decide (q ≠ []) := by
 unfold gtB ak
 cases q <;> simp
theorem first_true (t : Tree) (p : List Cell) : cY t p = some true := by
 unfold cY
 obtain ⟨y, hy, hsm⟩ := fL t p
 rw [hy, awake34]
 simp only [a8, aR]
 cases y with
 | false => rfl
 | true =>
  obtain ⟨hs, hl⟩ := hsm rfl
  simp only [Bool.not_true, cond_false]
  rw [settles_eq hs (by omega), runR0_is hs (by omega)]
  simp only [a8]
  by_cases hp : aU t p = 0
  ·have e0 : neB (aU t p) 0 = false := by simpa [neB] using hp
   have hA : settA t p 10 3 = match ig t 10 3 11 p 0 with
     | .inl r => r
     | .inr _ => (0, ⟨0, 0, 0⟩, 14) := by
    unfold settA
    rw [e0]
    rfl
   cases hS : ig t 10 3 11 p 0 with
   | inr u =>
    rw [hS] at hA
    rw [hA, e0]
    rfl
   | inl r =>
    rw [hS] at hA
    dsimp only at hA
    rw [hA]
    rcases sett_first hs (by omega) (by omega) 11 p 0 r hp (by omega) hS with ⟨h0, k, h1, h2, hF⟩ | ⟨h0, h1, h2⟩
    ·obtain ⟨q, q1, q2, q3⟩ := hF.here
     have hk : r.1 = (k : Int) := by omega
     have hql := (bh q2).pat.len
     rw [h0, hk, run_eq hs hp (by omega), q1]
     have e1 : neB 0 0 = false := rfl
     simp only [e1, cond_false, a8]
     rw [gR hs (by omega)]
     simp only [a8]
     have hchk : (neB (aV t q 3).2.2 0) = false ∧ eqb (aV t q 3).2.1 (gtB (ak q) 0) = true ∧ bv (eqB (aV t q 3).1.Period r.2.1.Period) (bv (eqB (aV t q 3).1.DX r.2.1.DX) (bv (eqB (aV t q 3).1.DY r.2.1.DY) true)) = true := by
      rcases q3 with ⟨rfl, e⟩ | ⟨hne, e⟩
      ·rw [findA_nil hs q2 (by omega) (by omega), e]
       exact ⟨rfl, rfl, rfl⟩
      ·rw [e, gtB_len, decide_eq_true hne]
       exact ⟨rfl, rfl, motion_self _⟩
     rw [hchk.1, hchk.2.1, hchk.2.2]
     simp only [Bool.not_true, cond_false, aO, a8]
     cases k with
     | zero => rfl
     | succ j =>
      obtain ⟨q', m', p1, p2, p3, p4⟩ := hF.before j rfl
      have hql' := (bh p2).pat.len
      have e2 : eqB ((j + 1 : Nat) : Int) 0 = false := by
       unfold eqB
       rw [beq_eq_false_iff_ne]
       omega
      rw [e2, iq (by omega), run_eq hs hp (by omega), p1]
      simp only [cond_false, a8]
      rw [gR hs (by omega), p4, gtB_len, decide_eq_true p3]
      rfl
    ·rw [h0, h1, e0]
     rcases h2 with h2 | h2 <;> rw [h2] <;> rfl
  ·have e0 : neB (aU t p) 0 = true := by simpa [neB] using hp
   have hA : settA t p 10 3 = (0, ⟨0, 0, 0⟩, aU t p) := by
    unfold settA
    rw [e0]
    rfl
   rw [hA, e0]
   simp only [cond_true, e0]
   rfl
end Go.Proofs.YtdjclgfbggfpaaaGreatDoor
