/-
  Plain laws: Settles: both sides agree; and what it gives is the first.
-/
import Derived.Test.YtdjclgfbggfpaaaGreatDoorPf1
namespace Go.Proofs.YtdjclgfbggfpaaaGreatDoor
open Go.AM Go.Proofs
def i4 (t : Tree) (gens most : Int) : Nat → List Cell → Int → (Int × Motion × Int) ⊕ Unit
 | 0, _, _ => .inr ()
 | n + 1, q, g => bif eqB (ak q) 0 then .inl (g, ⟨0, 0, 0⟩, 0) else bif neB (aV t q most).2.2 0 then .inl (0, ⟨0, 0, 0⟩, (aV t q most).2.2) else bif (aV t q most).2.1 then .inl (g, (aV t q most).1, 0)
   else bif ltB g gens then (bif neB (aB t q).2 0 then .inl (0, ⟨0, 0, 0⟩, (aB t q).2) else i4 t gens most n (aB t q).1 (g + 1)) else i4 t gens most n q (g + 1)
theorem findA_nil {t : Tree} {most : Int} (hs : Sz t) (hp : aU t [] = 0) (h1 : 1 ≤ most) (h2 : most ≤ 64) : aV t [] most = (⟨0, 0, 0⟩, false, 0) := by
 unfold aV
 have e1 : neB (aU t []) 0 = false := by simpa [neB] using hp
 have e2 : (!(decide (1 ≤ most) && decide (most ≤ 64))) = false := by simp [h1, h2]
 rw [e1, e2, findS_nil hs hp]
 rfl
theorem lenL_zero {l : List Cell} (h : eqB (ak l) 0 = true) : l = [] := by
 unfold eqB ak at h
 rw [beq_iff_eq] at h
 exact List.eq_nil_of_length_eq_zero (by omega)
section
variable {t : Tree} {gens most : Int} (hs : Sz t) (hg1 : gens ≤ 10000)
include hs hg1
theorem sett_loop : ∀ (n : Nat) (q : List Cell) (g : Int) (k : Nat), aU t q = 0 → 0 ≤ g → g + n = gens + 1 → n < k → ar (bF t gens most) k (q, g) = some (i4 t gens most n q g)
 | 0, q, g, k, hq, hg, hn, hk => by
  obtain ⟨k, rfl⟩ : ∃ j, k = j + 1 := ⟨k - 1, by omega⟩
  rw [ar]
  unfold bF
  have e : leB g gens = false := decide_eq_false (by omega)
  dsimp only
  rw [e]
  rfl
 | n + 1, q, g, k, hq, hg, hn, hk => by
  obtain ⟨k, rfl⟩ : ∃ j, k = j + 1 := ⟨k - 1, by omega⟩
  have hl := (bg hq).pat.len
  obtain ⟨h1, _, _⟩ := dJ hs (q := q) (by omega)
  rw [ar]
  obtain ⟨w, hw⟩ : ∃ w, bF t gens most (q, g) = w := ⟨_, rfl⟩
  rw [hw]
  unfold bF at hw
  have e : leB g gens = true := decide_eq_true (by omega)
  dsimp only at hw
  rw [e, gQ hs (by omega)] at hw
  simp only [cond_true, a8] at hw
  rw [b0 (by omega), h1] at hw
  simp only [a8] at hw
  unfold i4
  cases c1 : eqB (ak q) 0 with
  | true => rw [c1] at hw; rw [← hw]; rfl
  | false =>
   rw [c1] at hw
   cases c2 : neB (aV t q most).2.2 0 with
   | true => rw [c2] at hw; rw [← hw]; rfl
   | false =>
    rw [c2] at hw
    cases c3 : (aV t q most).2.1 with
    | true => rw [c3] at hw; rw [← hw]; rfl
    | false =>
     rw [c3] at hw
     cases c4 : ltB g gens with
     | false =>
      rw [c4] at hw
      rw [← hw]
      exact sett_loop n _ _ k hq (by omega) (by omega) (by omega)
     | true =>
      rw [c4] at hw
      cases c5 : neB (aB t q).2 0 with
      | true => rw [c5] at hw; rw [← hw]; rfl
      | false =>
       rw [c5] at hw
       rw [← hw]
       exact sett_loop n _ _ k (cm hs hq (by simpa [neB] using c5)) (by omega) (by omega) (by omega)
theorem settR_loop (hm1 : 1 ≤ most) (hm2 : most ≤ 64) : ∀ (n : Nat) (q : List Cell) (g : Int) (k : Nat), aU t q = 0 → 0 ≤ g → g + n = gens + 1 → n < k → ar (cu t gens most) k (q, g) = some (i4 t gens most n q g)
 | 0, q, g, k, hq, hg, hn, hk => by
  obtain ⟨k, rfl⟩ : ∃ j, k = j + 1 := ⟨k - 1, by omega⟩
  rw [ar]
  unfold cu
  have e : leB g gens = false := decide_eq_false (by omega)
  dsimp only
  rw [e]
  rfl
 | n + 1, q, g, k, hq, hg, hn, hk => by
  obtain ⟨k, rfl⟩ : ∃ j, k = j + 1 := ⟨k - 1, by omega⟩
  have hl := (bg hq).pat.len
  obtain ⟨_, h1, _⟩ := dJ hs (q := q) (by omega)
  rw [ar]
  obtain ⟨w, hw⟩ : ∃ w, cu t gens most (q, g) = w := ⟨_, rfl⟩
  rw [hw]
  unfold cu at hw
  have e : leB g gens = true := decide_eq_true (by omega)
  dsimp only at hw
  rw [e, findR_eq hs (by omega)] at hw
  simp only [cond_true, a8] at hw
  rw [b0 (by omega), h1] at hw
  simp only [a8, aO, aZ] at hw
  unfold i4
  cases c1 : eqB (ak q) 0 with
  | true =>
   have hnil := lenL_zero c1
   subst hnil
   have ha := findA_nil hs hq hm1 hm2
   rw [ha] at hw
   rw [← hw]
   rfl
  | false =>
   rw [c1] at hw
   cases c2 : neB (aV t q most).2.2 0 with
   | true => rw [c2] at hw; rw [← hw]; rfl
   | false =>
    rw [c2] at hw
    cases c3 : (aV t q most).2.1 with
    | true => rw [c3] at hw; rw [← hw]; rfl
    | false =>
     rw [c3] at hw
     cases c4 : ltB g gens with
     | false =>
      rw [c4] at hw
      rw [← hw]
      exact settR_loop hm1 hm2 n _ _ k hq (by omega) (by omega) (by omega)
     | true =>
      rw [c4] at hw
      cases c5 : neB (aB t q).2 0 with
      | true => rw [c5] at hw; rw [← hw]; rfl
      | false =>
       rw [c5] at hw
       rw [← hw]
       exact settR_loop hm1 hm2 n _ _ k (cm hs hq (by simpa [neB] using c5)) (by omega) (by omega) (by omega)
end
def settA (t : Tree) (p : List Cell) (gens most : Int) : Int × Motion × Int :=
 bif neB (aU t p) 0 then (0, ⟨0, 0, 0⟩, aU t p) else bif ltB gens 0 || (gtB gens 10000 || !(decide (1 ≤ most) && decide (most ≤ 64))) then (0, ⟨0, 0, 0⟩, 2) else match i4 t gens most (gens + 1).toNat p 0 with
  | .inl r => r
  | .inr _ => (0, ⟨0, 0, 0⟩, 14)
theorem settles_eq {t : Tree} {p : List Cell} (hs : Sz t) (hp : p.length < 1099511627776) (gens most : Int) : bq t p gens most = some (settA t p gens most) := by
 unfold bq settA
 rw [run0_is hs hp]
 simp only [a8]
 cases hn : neB (aU t p) 0 with
 | true => simp only [cond_true, hn]
 | false =>
  have h0 : aU t p = 0 := by simpa [neB] using hn
  simp only [cond_false]
  have e : neB 0 0 = false := rfl
  rw [e, proper_is]
  simp only [cond_false, a8, aR, aO, aZ]
  cases hm : (ltB gens 0 || (gtB gens 10000 || !(decide (1 ≤ most) && decide (most ≤ 64)))) with
  | true => rfl
  | false =>
   simp only [Bool.or_eq_false_iff, Bool.not_eq_false', Bool.and_eq_true, decide_eq_true_eq] at hm
   have e1 := of_decide_eq_false hm.1
   have e2 := of_decide_eq_false hm.2.1
   rw [sett_loop hs (by omega) (gens + 1).toNat p 0 aG h0 (by omega) (by omega) (by unfold aG; omega)]
   simp only [cond_false, a8]
   cases i4 t gens most (gens + 1).toNat p 0 <;> rfl
theorem settlesR_eq {t : Tree} {p : List Cell} (hs : Sz t) (hp : p.length < 1099511627776) (gens most : Int) : dM t p gens most = some (settA t p gens most) := by
 unfold dM settA
 rw [runR0_is hs hp]
 simp only [a8]
 cases hn : neB (aU t p) 0 with
 | true => simp only [cond_true, hn]
 | false =>
  have h0 : aU t p = 0 := by simpa [neB] using hn
  simp only [cond_false]
  have e : neB 0 0 = false := rfl
  rw [e]
  simp only [cond_false, a8, aO, aZ]
  have e3 : (ltB most 1 || gtB most 64) = !(decide (1 ≤ most) && decide (most ≤ 64)) := by
   rw [Bool.eq_iff_iff]
   simp only [ltB, gtB, Bool.or_eq_true, decide_eq_true_eq, Bool.not_eq_true', Bool.and_eq_false_iff, decide_eq_false_iff_not]
   omega
  rw [e3]
  cases hm : (ltB gens 0 || (gtB gens 10000 || !(decide (1 ≤ most) && decide (most ≤ 64)))) with
  | true => rfl
  | false =>
   simp only [Bool.or_eq_false_iff, Bool.not_eq_false', Bool.and_eq_true, decide_eq_true_eq] at hm
   have e1 := of_decide_eq_false hm.1
   have e2 := of_decide_eq_false hm.2.1
   rw [settR_loop hs (by omega) hm.2.2.1 hm.2.2.2 (gens + 1).toNat p 0 aG h0 (by omega) (by omega) (by unfold aG; omega)]
   simp only [cond_false, a8]
   cases i4 t gens most (gens + 1).toNat p 0 <;> rfl
theorem settles_true (t : Tree) (p : List Cell) (x : Int × Int) : cz t p x = some true := by
 unfold cz
 obtain ⟨y, hy, hsm⟩ := fN t p
 rw [hy, awake34]
 simp only [a8, aR, aO]
 generalize hc : (bif !y then true else bif gtB x.1 12 then bif leB x.1 10000 then true else bif gtB x.2 4 then leB x.2 64 else false else bif gtB x.2 4 then leB x.2 64 else false) = c
 cases c with
 | true => rfl
 | false =>
  cases y with
  | false => cases hc
  | true =>
   obtain ⟨hs, hl⟩ := hsm rfl
   rw [settles_eq hs (by omega), settlesR_eq hs (by omega)]
   simp only [cond_false, a8, eqB_self, cond_true]
   rfl
def aT (t : Tree) : Nat → List Cell → List Cell × Int
 | 0, q => (q, 0)
 | n + 1, q => bif neB (aB t q).2 0 then ([], (aB t q).2) else aT t n (aB t q).1
structure First (t : Tree) (p : List Cell) (most : Int) (k : Nat) (m : Motion) : Prop where
 here : ∃ q, aT t k p = (q, 0) ∧ aU t q = 0 ∧ ((q = [] ∧ m = ⟨0, 0, 0⟩) ∨ (q ≠ [] ∧ aV t q most = (m, true, 0)))
 before : ∀ j, k = j + 1 → ∃ q m', aT t j p = (q, 0) ∧ aU t q = 0 ∧ q ≠ [] ∧ aV t q most = (m', false, 0)
end Go.Proofs.YtdjclgfbggfpaaaGreatDoor
