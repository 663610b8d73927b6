/-
  Plain laws: Find, Has and Settles: both sides agree.
-/
import Derived.Test.YtdjclgfbggfpaaaGreatDoorPsx2
import Derived.Test.YtdjclgfbggfpaaaGreatDoorPd0
namespace Go.Proofs.YtdjclgfbggfpaaaGreatDoor
open Go.AM Go.Proofs
def hdC (l : List Cell) : Cell := (l[0]?).getD ⟨0, 0, 0⟩
def mvB (p y : List Cell) : Bool := decide (p ≠ [] ∧ eI y = eI p)
def mvR (p y : List Cell) : Int × Int × Bool := bif mvB p y then ((hdC y).X - (hdC p).X, (hdC y).Y - (hdC p).Y, true) else (0, 0, false)
theorem bL (l : List Cell) : (eI l).length = l.length := by
 cases l <;> simp [eI]
theorem homeL_get {l : List Cell} {c0 : Cell} (h0 : l[0]? = some c0) (i : Nat) : (eI l)[i]? = (l[i]?).map (relC c0) := by
 cases l with
 | nil => simp at h0
 | cons h l =>
  simp only [List.getElem?_cons_zero, Option.some.injEq] at h0
  subst h0
  unfold eI
  rw [List.getElem?_map]
theorem moved_eq {p y : List Cell} (hp : Pat p) (hy : Pat y) : cS p y = some (mvR p y) := by
 have hpl := hp.len
 have hyl := hy.len
 unfold cS
 simp only [bif_some, bif_some_t, some_bind]
 cases hc : neB (aj p) (aj y) || eqB (aj p) 0 with
 | true =>
  have hm : mvB p y = false := by
   unfold mvB
   rw [decide_eq_false_iff_not]
   rintro ⟨h1, h2⟩
   have h3 := congrArg List.length h2
   rw [bL, bL] at h3
   have h4 : p.length ≠ 0 := fun e => h1 (List.eq_nil_of_length_eq_zero e)
   simp only [Bool.or_eq_true, neB, eqB, bne_iff_ne, beq_iff_eq] at hc
   unfold aj at hc
   omega
  unfold mvR
  rw [hm]
  rfl
 | false =>
  simp only [Bool.or_eq_false_iff, neB, eqB, bne_eq_false_iff_eq, beq_eq_false_iff_ne] at hc
  unfold aj at hc
  have hlen : p.length = y.length := by omega
  have hp0 : p[0]? = some (p[0]'(by omega)) := List.getElem?_eq_getElem (by omega)
  have hy0 : y[0]? = some (y[0]'(by omega)) := List.getElem?_eq_getElem (by omega)
  have hcp := (hp.cell _ (List.mem_of_getElem? hp0)).1
  have hcy := (hy.cell _ (List.mem_of_getElem? hy0)).1
  have i0p : idx p 0 = some (p[0]'(by omega)) := by rw [show (0 : Int) = ((0 : Nat) : Int) from rfl, idx_nat, hp0]
  have i0y : idx y 0 = some (y[0]'(by omega)) := by rw [show (0 : Int) = ((0 : Nat) : Int) from rfl, idx_nat, hy0]
  simp only [cond_false]
  rw [i0p, i0y]
  simp only [some_bind]
  have hpne : p ≠ [] := fun e => by rw [e] at hc; simp at hc
  have hd1 : hdC p = (p[0]'(by omega)) := by unfold hdC; rw [hp0]; rfl
  have hd2 : hdC y = (y[0]'(by omega)) := by unfold hdC; rw [hy0]; rfl
  obtain ⟨t, ht, hq⟩ := loop_iv (b := bG p y (y[0]'(by omega)) (p[0]'(by omega))) (n := p.length) (s := 0) (fun i s => s = (i : Int) ∧ ∀ j < i, (eI y)[j]? = (eI p)[j]?)
   (fun t => (t = .inl (0, 0, false) ∧ mvB p y = false) ∨ (t = .inr () ∧ mvB p y = true)) (by omega)
   ⟨rfl, fun j hj => by omega⟩
   (fun i s hi ⟨h1, h2⟩ => by
    subst h1
    have hxp : p[i]? = some (p[i]'(by omega)) := List.getElem?_eq_getElem (by omega)
    have hxy : y[i]? = some (y[i]'(by omega)) := List.getElem?_eq_getElem (by omega)
    have h1p := (hp.cell _ (List.mem_of_getElem? hxp)).1
    have h1y := (hy.cell _ (List.mem_of_getElem? hxy)).1
    obtain ⟨w, hw⟩ : ∃ w, bG p y (y[0]'(by omega)) (p[0]'(by omega)) (i : Int) = w := ⟨_, rfl⟩
    rw [hw]
    unfold bG at hw
    dsimp only at hw
    rw [ltB_nat, decide_eq_true hi, idx_nat, idx_nat, hxp, hxy, up_nat (by omega)] at hw
    simp only [cond_true, some_bind] at hw
    rw [isub_in (by omega), isub_in (by omega), iadd_in (by omega), iadd_in (by omega)] at hw
    have gy := homeL_get hy0 i
    have gp := homeL_get hp0 i
    rw [hxy] at gy
    rw [hxp] at gp
    by_cases he : (eI y)[i]? = (eI p)[i]?
    ·have he' := he
     rw [gy, gp] at he'
     simp only [Option.map_some, Option.some.injEq, relC, Cell.mk.injEq] at he'
     have e1 : bk (eqB (y[i]'(by omega)).X ((p[i]'(by omega)).X + ((y[0]'(by omega)).X - (p[0]'(by omega)).X))) (bk (eqB (y[i]'(by omega)).Y ((p[i]'(by omega)).Y + ((y[0]'(by omega)).Y - (p[0]'(by omega)).Y))) (bk (eqB (y[i]'(by omega)).S (p[i]'(by omega)).S) true)) = true := by
      unfold bk eqB
      simp only [Bool.and_eq_true, beq_iff_eq, and_true]
      omega
     rw [e1] at hw
     refine .inl ⟨_, hw.symm, rfl, fun j hj => ?_⟩
     rcases Nat.lt_succ_iff_lt_or_eq.1 hj with hj | rfl
     ·exact h2 j hj
     ·exact he
    ·have e1 : bk (eqB (y[i]'(by omega)).X ((p[i]'(by omega)).X + ((y[0]'(by omega)).X - (p[0]'(by omega)).X))) (bk (eqB (y[i]'(by omega)).Y ((p[i]'(by omega)).Y + ((y[0]'(by omega)).Y - (p[0]'(by omega)).Y))) (bk (eqB (y[i]'(by omega)).S (p[i]'(by omega)).S) true)) = false := by
      rw [Bool.eq_false_iff]
      unfold bk eqB
      simp only [ne_eq, Bool.and_eq_true, beq_iff_eq, and_true]
      rintro ⟨a1, a2, a3⟩
      apply he
      rw [gy, gp]
      simp only [Option.map_some, Option.some.injEq, relC, Cell.mk.injEq]
      omega
     rw [e1] at hw
     refine .inr ⟨_, hw.symm, .inl ⟨rfl, ?_⟩⟩
     unfold mvB
     rw [decide_eq_false_iff_not]
     rintro ⟨_, h⟩
     exact he (by rw [h]))
   (fun s ⟨h1, h2⟩ => by
    subst h1
    refine ⟨_, ?_, .inr ⟨rfl, ?_⟩⟩
    ·unfold bG
     dsimp only
     rw [ltB_nat, decide_eq_false (Nat.lt_irrefl _)]
     rfl
    ·unfold mvB
     rw [decide_eq_true_eq]
     refine ⟨hpne, List.ext_getElem? fun j => ?_⟩
     by_cases hj : j < p.length
     ·exact h2 j hj
     ·rw [List.getElem?_eq_none (by rw [bL]; omega), List.getElem?_eq_none (by rw [bL]; omega)])
  rw [ht]
  unfold mvR
  rcases hq with ⟨rfl, hm⟩ | ⟨rfl, hm⟩
  ·rw [hm]; rfl
  ·rw [hm, hd1, hd2]
   simp only [some_bind, cond_true]
   rw [isub_in (by omega), isub_in (by omega)]
def aA (t : Tree) (q : List Cell) : List Cell × Int := (b8 t q).getD ([], 0)
theorem dc {t : Tree} {q : List Cell} (hs : Sz t) (hq : q.length < 1099511627776) : b8 t q = some (aA t q) ∧ ct t q = some (aA t q) ∧ ((fitE t q ≠ 0 ∧ aA t q = ([], fitE t q)) ∨ (fitE t q = 0 ∧ Stp t q (aA t q))) := by
 obtain ⟨r, h1, h2, h3⟩ := step_both hs hq
 have e : aA t q = r := by unfold aA; rw [h1]; rfl
 rw [e]
 exact ⟨h1, h2, h3⟩
def dt (t : Tree) (p : List Cell) : Nat → List Cell → Int → (Motion × Bool × Int) ⊕ Unit
 | 0, _, _ => .inr ()
 | n + 1, q, g => bif neB (aA t q).2 0 then .inl (⟨0, 0, 0⟩, false, (aA t q).2) else bif mvB p (aA t q).1 then .inl (⟨g, (hdC (aA t q).1).X - (hdC p).X, (hdC (aA t q).1).Y - (hdC p).Y⟩, true, 0) else dt t p n (aA t q).1 (g + 1)
theorem bT {t : Tree} {q : List Cell} (hs : Sz t) (hq : fitE t q = 0) (h0 : (aA t q).2 = 0) : fitE t (aA t q).1 = 0 := by
 have hl := (fit_of hq).pat.len
 rcases (dc hs (q := q) (by omega)).2.2 with ⟨h, _⟩ | ⟨_, h⟩
 ·exact absurd hq h
 ·exact fitE_of (stp_pat (fit_of hq) hs h h0) (fitE_quiet hq)
theorem stepS_nil {t : Tree} (hs : Sz t) (hp : fitE t [] = 0) : aA t [] = ([], 0) := by
 rcases (dc hs (q := []) (by simp)).2.2 with ⟨h, _⟩ | ⟨_, h⟩
 ·exact absurd hp h
 ·exact stp_nil (fit_of hp) h
theorem findS_nil {t : Tree} {p : List Cell} (hs : Sz t) (hp : fitE t [] = 0) : ∀ (n : Nat) (g : Int), dt t p n [] g = .inr ()
 | 0, _ => rfl
 | n + 1, g => by
  unfold dt
  rw [stepS_nil hs hp]
  have e1 : neB (([] : List Cell), (0 : Int)).2 0 = false := rfl
  have e2 : mvB p (([] : List Cell), (0 : Int)).1 = false := by
   unfold mvB
   rw [decide_eq_false_iff_not]
   rintro ⟨h1, h2⟩
   cases p with
   | nil => exact h1 rfl
   | cons c p => simp [eI] at h2
  rw [e1, e2]
  exact findS_nil hs hp n _
section
variable {t : Tree} {p : List Cell} {most : Int} (hs : Sz t) (hp : fitE t p = 0) (hm : most ≤ 64)
include hs hp hm
theorem find_loop : ∀ (n : Nat) (q : List Cell) (g : Int) (k : Nat), fitE t q = 0 → 1 ≤ g → g + n = most + 1 → n < k → ap (ca t p most) k (q, g) = some (dt t p n q g)
 | 0, q, g, k, hq, hg, hn, hk => by
  obtain ⟨k, rfl⟩ : ∃ j, k = j + 1 := ⟨k - 1, by omega⟩
  rw [ap]
  unfold ca
  have e : leB g most = false := decide_eq_false (by omega)
  dsimp only
  rw [e]
  rfl
 | n + 1, q, g, k, hq, hg, hn, hk => by
  obtain ⟨k, rfl⟩ : ∃ j, k = j + 1 := ⟨k - 1, by omega⟩
  have hl := (fit_of hq).pat.len
  obtain ⟨h1, _, _⟩ := dc hs (q := q) (by omega)
  rw [ap]
  obtain ⟨w, hw⟩ : ∃ w, ca t p most (q, g) = w := ⟨_, rfl⟩
  rw [hw]
  unfold ca at hw
  have e : leB g most = true := decide_eq_true (by omega)
  dsimp only at hw
  rw [e] at hw
  simp only [cond_true, some_bind] at hw
  cases hq0 : gtB (aj q) 0 with
  | false =>
   have hnil : q = [] := by
    have := of_decide_eq_false hq0
    unfold aj at this
    exact List.eq_nil_of_length_eq_zero (by omega)
   subst hnil
   rw [hq0] at hw
   rw [← hw, findS_nil hs hq]
   rfl
  | true =>
   rw [hq0, h1] at hw
   simp only [cond_true, some_bind] at hw
   unfold dt
   cases he : neB (aA t q).2 0 with
   | true =>
    rw [he] at hw
    rw [← hw]
    rfl
   | false =>
    have he0 : (aA t q).2 = 0 := by simpa [neB] using he
    have hf := bT hs hq he0
    rw [he, moved_eq (fit_of hp).pat (fit_of hf).pat] at hw
    simp only [cond_false, some_bind] at hw
    unfold mvR at hw
    cases hmv : mvB p (aA t q).1 with
    | true =>
     rw [hmv] at hw
     rw [← hw]
     rfl
    | false =>
     rw [hmv] at hw
     rw [← hw]
     simp only [cond_false]
     rw [iadd_in (by omega)]
     exact find_loop n _ _ k hf (by omega) (by omega) (by omega)
end
def aR (t : Tree) (p : List Cell) (most : Int) : Motion × Bool × Int :=
 bif neB (fitE t p) 0 then (⟨0, 0, 0⟩, false, fitE t p) else bif !(decide (1 ≤ most) && decide (most ≤ 64)) then (⟨0, 0, 0⟩, false, 2) else match dt t p most.toNat p 1 with
  | .inl r => r
  | .inr _ => (⟨0, 0, 0⟩, false, 0)
theorem proper_is (n : Int) : bm n = some (decide (1 ≤ n) && decide (n ≤ 64)) := by
 unfold bm geB leB
 by_cases h : n ≥ 1 <;> simp [h] <;> omega
theorem fH {t : Tree} {p : List Cell} (hs : Sz t) (hp : p.length < 1099511627776) (most : Int) : b0 t p most = some (aR t p most) := by
 unfold b0 aR
 rw [run0_is hs hp]
 simp only [some_bind]
 cases hn : neB (fitE t p) 0 with
 | true =>
  simp only [cond_true, hn]
 | false =>
  have h0 : fitE t p = 0 := by simpa [neB] using hn
  simp only [cond_false]
  have e : neB 0 0 = false := rfl
  rw [e, proper_is]
  simp only [cond_false, some_bind, aN]
  cases hm : (decide (1 ≤ most) && decide (most ≤ 64)) with
  | false => rfl
  | true =>
   simp only [Bool.and_eq_true, decide_eq_true_eq] at hm
   rw [find_loop hs h0 (by omega) most.toNat p 1 aF h0 (by omega) (by omega) (by unfold aF; omega)]
   simp only [Bool.not_true, cond_false, some_bind]
   cases dt t p most.toNat p 1 <;> rfl
theorem eqB_self (n : Int) : eqB n n = true := by simp [eqB]
end Go.Proofs.YtdjclgfbggfpaaaGreatDoor
