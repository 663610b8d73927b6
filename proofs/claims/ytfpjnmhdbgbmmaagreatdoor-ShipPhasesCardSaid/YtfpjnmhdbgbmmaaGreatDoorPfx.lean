/- Plain laws: Find, Has and Settles: both sides agree. -/
import Derived.Test.YtfpjnmhdbgbmmaaGreatDoorPsx2
namespace Go.Proofs.YtfpjnmhdbgbmmaaGreatDoor
open Go.AM Go.Proofs
def hdC (l : List Cell) : Cell := (l[0]?).getD ⟨0, 0, 0⟩
def mvB (p y : List Cell) : Bool := decide (p ≠ [] ∧ iP y = iP p)
def mvR (p y : List Cell) : Int × Int × Bool := bif mvB p y then ((hdC y).X - (hdC p).X, (hdC y).Y - (hdC p).Y, true) else (0, 0, false)
theorem cw (l : List Cell) : (iP l).length = l.length := by
 cases l <;> simp [iP]
theorem homeL_get {l : List Cell} {c0 : Cell} (h0 : l[0]? = some c0) (i : Nat) : (iP l)[i]? = (l[i]?).map (relC c0) := by
 cases l with
 | nil => simp at h0
 | cons h l =>
  simp only [List.getElem?_cons_zero, Option.some.injEq] at h0
  subst h0
  unfold iP
  rw [List.getElem?_map]
theorem moved_eq {p y : List Cell} (hp : Pat p) (hy : Pat y) : ed p y = some (mvR p y) := by
 have hpl := hp.len
 have hyl := hy.len
 unfold ed
 simp only [bif_some, bif_some_t, some_bind]
 cases hc : neB (ah p) (ah y) || eqB (ah p) 0 with
 | true =>
  have hm : mvB p y = false := by
   unfold mvB
   rw [decide_eq_false_iff_not]
   rintro ⟨h1, h2⟩
   have h3 := congrArg List.length h2
   rw [cw, cw] at h3
   have h4 : p.length ≠ 0 := fun e => h1 (List.eq_nil_of_length_eq_zero e)
   simp only [Bool.or_eq_true, neB, eqB, bne_iff_ne, beq_iff_eq] at hc
   unfold ah at hc
   omega
  unfold mvR
  rw [hm]
  rfl
 | false =>
  simp only [Bool.or_eq_false_iff, neB, eqB, bne_eq_false_iff_eq, beq_eq_false_iff_ne] at hc
  unfold ah at hc
  have hlen : p.length = y.length := by omega
  have hp0 : p[0]? = some (p[0]'(by omega)) := List.getElem?_eq_getElem (by omega)
  have hy0 : y[0]? = some (y[0]'(by omega)) := List.getElem?_eq_getElem (by omega)
  have hcp := (hp.cell _ (List.mem_of_getElem? hp0)).1
  have hcy := (hy.cell _ (List.mem_of_getElem? hy0)).1
  have i0p : idx p 0 = some (p[0]'(by omega)) := by rw [show (0 : Int) = ((0 : Nat) : Int) from rfl, idx_nat, hp0]
  have i0y : idx y 0 = some (y[0]'(by omega)) := by rw [show (0 : Int) = ((0 : Nat) : Int) from rfl, idx_nat, hy0]
  simp only [cond_false]
  rw [i0p, i0y]
  simp only [some_bind]
  have hpne : p ≠ [] := fun e => by rw [e] at hc; simp at hc
  have hd1 : hdC p = (p[0]'(by omega)) := by unfold hdC; rw [hp0]; rfl
  have hd2 : hdC y = (y[0]'(by omega)) := by unfold hdC; rw [hy0]; rfl
  obtain ⟨t, ht, hq⟩ := bq (b := cr p y (y[0]'(by omega)) (p[0]'(by omega))) (n := p.length) (s := 0) (fun i s => s = (i : Int) ∧ ∀ j < i, (iP y)[j]? = (iP p)[j]?)
   (fun t => (t = .inl (0, 0, false) ∧ mvB p y = false) ∨ (t = .inr () ∧ mvB p y = true)) (by omega)
   ⟨rfl, fun j hj => by omega⟩
   (fun i s hi ⟨h1, h2⟩ => by
    subst h1
    have hxp : p[i]? = some (p[i]'(by omega)) := List.getElem?_eq_getElem (by omega)
    have hxy : y[i]? = some (y[i]'(by omega)) := List.getElem?_eq_getElem (by omega)
    have h1p := (hp.cell _ (List.mem_of_getElem? hxp)).1
    have h1y := (hy.cell _ (List.mem_of_getElem? hxy)).1
    obtain ⟨w, hw⟩ : ∃ w, cr p y (y[0]'(by omega)) (p[0]'(by omega)) (i : Int) = w := ⟨_, rfl⟩
    rw [hw]
    unfold cr at hw
    dsimp only at hw
    rw [ltB_nat, decide_eq_true hi, idx_nat, idx_nat, hxp, hxy, up_nat (by omega)] at hw
    simp only [cond_true, some_bind] at hw
    rw [isub_in (by omega), isub_in (by omega), iadd_in (by omega), iadd_in (by omega)] at hw
    have gy := homeL_get hy0 i
    have gp := homeL_get hp0 i
    rw [hxy] at gy
    rw [hxp] at gp
    by_cases he : (iP y)[i]? = (iP p)[i]?
    ·have he' := he
     rw [gy, gp] at he'
     simp only [Option.map_some, Option.some.injEq, relC, Cell.mk.injEq] at he'
     have e1 : bY (eqB (y[i]'(by omega)).X ((p[i]'(by omega)).X + ((y[0]'(by omega)).X - (p[0]'(by omega)).X))) (bY (eqB (y[i]'(by omega)).Y ((p[i]'(by omega)).Y + ((y[0]'(by omega)).Y - (p[0]'(by omega)).Y))) (bY (eqB (y[i]'(by omega)).S (p[i]'(by omega)).S) true)) = true := by
      unfold bY eqB
      simp only [Bool.and_eq_true, beq_iff_eq, and_true]
      omega
     rw [e1] at hw
     refine .inl ⟨_, hw.symm, rfl, fun j hj => ?_⟩
     rcases Nat.lt_succ_iff_lt_or_eq.1 hj with hj | rfl
     ·exact h2 j hj
     ·exact he
    ·have e1 : bY (eqB (y[i]'(by omega)).X ((p[i]'(by omega)).X + ((y[0]'(by omega)).X - (p[0]'(by omega)).X))) (bY (eqB (y[i]'(by omega)).Y ((p[i]'(by omega)).Y + ((y[0]'(by omega)).Y - (p[0]'(by omega)).Y))) (bY (eqB (y[i]'(by omega)).S (p[i]'(by omega)).S) true)) = false := by
      rw [Bool.eq_false_iff]
      unfold bY eqB
      simp only [ne_eq, Bool.and_eq_true, beq_iff_eq, and_true]
      rintro ⟨a1, a2, a3⟩
      apply he
      rw [gy, gp]
      simp only [Option.map_some, Option.some.injEq, relC, Cell.mk.injEq]
      omega
     rw [e1] at hw
     refine .inr ⟨_, hw.symm, .inl ⟨rfl, ?_⟩⟩
     unfold mvB
     rw [decide_eq_false_iff_not]
     rintro ⟨_, h⟩
     exact he (by rw [h]))
   (fun s ⟨h1, h2⟩ => by
    subst h1
    refine ⟨_, ?_, .inr ⟨rfl, ?_⟩⟩
    ·unfold cr
     dsimp only
     rw [ltB_nat, decide_eq_false (Nat.lt_irrefl _)]
     rfl
    ·unfold mvB
     rw [decide_eq_true_eq]
     refine ⟨hpne, List.ext_getElem? fun j => ?_⟩
     by_cases hj : j < p.length
     ·exact h2 j hj
     ·rw [List.getElem?_eq_none (by rw [cw]; omega), List.getElem?_eq_none (by rw [cw]; omega)])
  rw [ht]
  unfold mvR
  rcases hq with ⟨rfl, hm⟩ | ⟨rfl, hm⟩
  ·rw [hm]; rfl
  ·rw [hm, hd1, hd2]
   simp only [some_bind, cond_true]
   rw [isub_in (by omega), isub_in (by omega)]
def b8 (t : Tree) (q : List Cell) : List Cell × Int := (bK t q).getD ([], 0)
theorem jL {t : Tree} {q : List Cell} (hs : Sz t) (hq : q.length < 1099511627776) : bK t q = some (b8 t q) ∧ dS t q = some (b8 t q) ∧ ((bL t q ≠ 0 ∧ b8 t q = ([], bL t q)) ∨ (bL t q = 0 ∧ Stp t q (b8 t q))) := by
 obtain ⟨r, h1, h2, h3⟩ := step_both hs hq
 have e : b8 t q = r := by unfold b8; rw [h1]; rfl
 rw [e]
 exact ⟨h1, h2, h3⟩
def jf (t : Tree) (p : List Cell) : Nat → List Cell → Int → (Motion × Bool × Int) ⊕ Unit
 | 0, _, _ => .inr ()
 | n + 1, q, g => bif neB (b8 t q).2 0 then .inl (⟨0, 0, 0⟩, false, (b8 t q).2) else bif mvB p (b8 t q).1 then .inl (⟨g, (hdC (b8 t q).1).X - (hdC p).X, (hdC (b8 t q).1).Y - (hdC p).Y⟩, true, 0) else jf t p n (b8 t q).1 (g + 1)
theorem jB {t : Tree} {q : List Cell} (hs : Sz t) (hq : bL t q = 0) (h0 : (b8 t q).2 = 0) : bL t (b8 t q).1 = 0 := by
 have hl := (fY hq).pat.len
 rcases (jL hs (q := q) (by omega)).2.2 with ⟨h, _⟩ | ⟨_, h⟩
 ·exact absurd hq h
 ·exact fitE_of (stp_pat (fY hq) hs h h0) (fitE_quiet hq)
theorem stepS_nil {t : Tree} (hs : Sz t) (hp : bL t [] = 0) : b8 t [] = ([], 0) := by
 rcases (jL hs (q := []) (by simp)).2.2 with ⟨h, _⟩ | ⟨_, h⟩
 ·exact absurd hp h
 ·exact stp_nil (fY hp) h
theorem findS_nil {t : Tree} {p : List Cell} (hs : Sz t) (hp : bL t [] = 0) : ∀ (n : Nat) (g : Int), jf t p n [] g = .inr ()
 | 0, _ => rfl
 | n + 1, g => by
  unfold jf
  rw [stepS_nil hs hp]
  have e1 : neB (([] : List Cell), (0 : Int)).2 0 = false := rfl
  have e2 : mvB p (([] : List Cell), (0 : Int)).1 = false := by
   unfold mvB
   rw [decide_eq_false_iff_not]
   rintro ⟨h1, h2⟩
   cases p with
   | nil => exact h1 rfl
   | cons c p => simp [iP] at h2
  rw [e1, e2]
  exact findS_nil hs hp n _
section
variable {t : Tree} {p : List Cell} {most : Int} (hs : Sz t) (hp : bL t p = 0) (hm : most ≤ 64)
include hs hp hm
theorem find_loop : ∀ (n : Nat) (q : List Cell) (g : Int) (k : Nat), bL t q = 0 → 1 ≤ g → g + n = most + 1 → n < k → ak (cQ t p most) k (q, g) = some (jf t p n q g)
 | 0, q, g, k, hq, hg, hn, hk => by
  obtain ⟨k, rfl⟩ : ∃ j, k = j + 1 := ⟨k - 1, by omega⟩
  rw [ak]
  unfold cQ
  have e : leB g most = false := decide_eq_false (by omega)
  dsimp only
  rw [e]
  rfl
 | n + 1, q, g, k, hq, hg, hn, hk => by
  obtain ⟨k, rfl⟩ : ∃ j, k = j + 1 := ⟨k - 1, by omega⟩
  have hl := (fY hq).pat.len
  obtain ⟨h1, _, _⟩ := jL hs (q := q) (by omega)
  rw [ak]
  obtain ⟨w, hw⟩ : ∃ w, cQ t p most (q, g) = w := ⟨_, rfl⟩
  rw [hw]
  unfold cQ at hw
  have e : leB g most = true := decide_eq_true (by omega)
  dsimp only at hw
  rw [e] at hw
  simp only [cond_true, some_bind] at hw
  cases hq0 : gtB (ah q) 0 with
  | false =>
   have hnil : q = [] := by
    have := of_decide_eq_false hq0
    unfold ah at this
    exact List.eq_nil_of_length_eq_zero (by omega)
   subst hnil
   rw [hq0] at hw
   rw [← hw, findS_nil hs hq]
   rfl
  | true =>
   rw [hq0, h1] at hw
   simp only [cond_true, some_bind] at hw
   unfold jf
   cases he : neB (b8 t q).2 0 with
   | true =>
    rw [he] at hw
    rw [← hw]
    rfl
   | false =>
    have he0 : (b8 t q).2 = 0 := by simpa [neB] using he
    have hf := jB hs hq he0
    rw [he, moved_eq (fY hp).pat (fY hf).pat] at hw
    simp only [cond_false, some_bind] at hw
    unfold mvR at hw
    cases hmv : mvB p (b8 t q).1 with
    | true =>
     rw [hmv] at hw
     rw [← hw]
     rfl
    | false =>
     rw [hmv] at hw
     rw [← hw]
     simp only [cond_false]
     rw [iadd_in (by omega)]
     exact find_loop n _ _ k hf (by omega) (by omega) (by omega)
theorem findR_loop (hpne : p ≠ []) : ∀ (n : Nat) (q : List Cell) (g : Int) (k : Nat), bL t q = 0 → 1 ≤ g → g + n = most + 1 → n < k → ak (eG t p most) k (q, g) = some (jf t p n q g)
 | 0, q, g, k, hq, hg, hn, hk => by
  obtain ⟨k, rfl⟩ : ∃ j, k = j + 1 := ⟨k - 1, by omega⟩
  rw [ak]
  unfold eG
  have e : leB g most = false := decide_eq_false (by omega)
  dsimp only
  rw [e]
  rfl
 | n + 1, q, g, k, hq, hg, hn, hk => by
  obtain ⟨k, rfl⟩ : ∃ j, k = j + 1 := ⟨k - 1, by omega⟩
  have hl := (fY hq).pat.len
  obtain ⟨_, h1, _⟩ := jL hs (q := q) (by omega)
  rw [ak]
  obtain ⟨w, hw⟩ : ∃ w, eG t p most (q, g) = w := ⟨_, rfl⟩
  rw [hw]
  unfold eG at hw
  have e : leB g most = true := decide_eq_true (by omega)
  dsimp only at hw
  rw [e, h1] at hw
  simp only [cond_true, some_bind] at hw
  unfold jf
  cases he : neB (b8 t q).2 0 with
  | true =>
   rw [he] at hw
   rw [← hw]
   rfl
  | false =>
   have he0 : (b8 t q).2 = 0 := by simpa [neB] using he
   have hf := jB hs hq he0
   have hyp := (fY hf).pat
   have hpp := (fY hp).pat
   have hpl := hpp.len
   have hyl := hyp.len
   rw [he, home_eq hyp, home_eq hpp] at hw
   simp only [cond_false, some_bind] at hw
   rw [same_eq (by rw [cw]; exact hyl) (by rw [cw]; exact hpl)] at hw
   simp only [some_bind, bif_some] at hw
   have hcond : (bif gtB (ah (b8 t q).1) 0 then decide (iP (b8 t q).1 = iP p) else false) = mvB p (b8 t q).1 := by
    unfold mvB
    cases hy0 : gtB (ah (b8 t q).1) 0 with
    | false =>
     have hnil : (b8 t q).1 = [] := by
      have := of_decide_eq_false hy0
      unfold ah at this
      exact List.eq_nil_of_length_eq_zero (by omega)
     rw [hnil]
     simp only [cond_false]
     symm
     rw [decide_eq_false_iff_not]
     rintro ⟨_, h⟩
     have := congrArg List.length h
     rw [cw, cw] at this
     exact hpne (List.eq_nil_of_length_eq_zero this.symm)
    | true =>
     simp only [cond_true]
     congr 1
     simp [hpne]
   rw [hcond] at hw
   cases hmv : mvB p (b8 t q).1 with
   | true =>
    rw [hmv] at hw
    have hyne : (b8 t q).1.length = p.length := by
     unfold mvB at hmv
     rw [decide_eq_true_eq] at hmv
     have := congrArg List.length hmv.2
     rwa [cw, cw] at this
    have hp1 : 0 < p.length := by
     cases p with
     | nil => exact absurd rfl hpne
     | cons c p => simp
    have ip : idx p 0 = some (hdC p) := by
     rw [show (0 : Int) = ((0 : Nat) : Int) from rfl, idx_nat]
     unfold hdC
     rw [List.getElem?_eq_getElem hp1]
     rfl
    have iy : idx (b8 t q).1 0 = some (hdC (b8 t q).1) := by
     rw [show (0 : Int) = ((0 : Nat) : Int) from rfl, idx_nat]
     unfold hdC
     rw [List.getElem?_eq_getElem (by omega)]
     rfl
    have m1 : hdC p ∈ p := List.mem_of_getElem? (by rw [← idx_nat]; exact ip)
    have m2 : hdC (b8 t q).1 ∈ (b8 t q).1 := List.mem_of_getElem? (by rw [← idx_nat]; exact iy)
    have b1 := (hpp.cell _ m1).1
    have b2 := (hyp.cell _ m2).1
    rw [ip, iy] at hw
    simp only [cond_true, some_bind] at hw
    rw [isub_in (by omega), isub_in (by omega)] at hw
    rw [← hw]
    rfl
   | false =>
    rw [hmv] at hw
    rw [← hw]
    simp only [cond_false]
    rw [iadd_in (by omega)]
    exact findR_loop hpne n _ _ k hf (by omega) (by omega) (by omega)
end
def ib (t : Tree) (p : List Cell) (most : Int) : Motion × Bool × Int :=
 bif neB (bL t p) 0 then (⟨0, 0, 0⟩, false, bL t p) else bif !(decide (1 ≤ most) && decide (most ≤ 64)) then (⟨0, 0, 0⟩, false, 2) else match jf t p most.toNat p 1 with
  | .inl r => r
  | .inr _ => (⟨0, 0, 0⟩, false, 0)
theorem proper_is (n : Int) : dE n = some (decide (1 ≤ n) && decide (n ≤ 64)) := by
 unfold dE geB leB
 by_cases h : n ≥ 1 <;> simp [h] <;> omega
theorem find_eq {t : Tree} {p : List Cell} (hs : Sz t) (hp : p.length < 1099511627776) (most : Int) : eS t p most = some (ib t p most) := by
 unfold eS ib
 rw [run0_is hs hp]
 simp only [some_bind]
 cases hn : neB (bL t p) 0 with
 | true =>
  simp only [cond_true, hn]
 | false =>
  have h0 : bL t p = 0 := by simpa [neB] using hn
  simp only [cond_false]
  have e : neB 0 0 = false := rfl
  rw [e, proper_is]
  simp only [cond_false, some_bind, aD]
  cases hm : (decide (1 ≤ most) && decide (most ≤ 64)) with
  | false => rfl
  | true =>
   simp only [Bool.and_eq_true, decide_eq_true_eq] at hm
   rw [find_loop hs h0 (by omega) most.toNat p 1 aA h0 (by omega) (by omega) (by unfold aA; omega)]
   simp only [Bool.not_true, cond_false, some_bind]
   cases jf t p most.toNat p 1 <;> rfl
theorem findR_eq {t : Tree} {p : List Cell} (hs : Sz t) (hp : p.length < 1099511627776) (most : Int) : iE t p most = some (ib t p most) := by
 unfold iE ib
 rw [runR0_is hs hp]
 simp only [some_bind]
 cases hn : neB (bL t p) 0 with
 | true =>
  simp only [cond_true, hn]
 | false =>
  have h0 : bL t p = 0 := by simpa [neB] using hn
  simp only [cond_false]
  have e : neB 0 0 = false := rfl
  rw [e]
  simp only [cond_false, some_bind, bif_some, bif_some_t]
  cases hm : (decide (1 ≤ most) && decide (most ≤ 64)) with
  | false =>
   have e2 : (ltB most 1 || gtB most 64) = true := by
    unfold ltB gtB
    simp only [Bool.and_eq_false_iff, decide_eq_false_iff_not] at hm
    simp only [Bool.or_eq_true, decide_eq_true_eq]
    omega
   rw [e2]
   rfl
  | true =>
   have e2 : (ltB most 1 || gtB most 64) = false := by
    unfold ltB gtB
    simp only [Bool.and_eq_true, decide_eq_true_eq] at hm
    simp only [Bool.or_eq_false_iff, decide_eq_false_iff_not]
    omega
   rw [e2]
   simp only [Bool.and_eq_true, decide_eq_true_eq] at hm
   simp only [Bool.not_true, cond_false]
   cases hl : eqB (ah p) 0 with
   | true =>
    have hnil : p = [] := by
     unfold eqB ah at hl
     rw [beq_iff_eq] at hl
     exact List.eq_nil_of_length_eq_zero (by omega)
    subst hnil
    rw [findS_nil hs h0]
    rfl
   | false =>
    have hpne : p ≠ [] := fun e => by rw [e] at hl; cases hl
    simp only [cond_false]
    rw [findR_loop hs h0 (by omega) hpne most.toNat p 1 aA h0 (by omega) (by omega) (by unfold aA; omega)]
    simp only [some_bind]
    cases jf t p most.toNat p 1 <;> rfl
theorem findS_err (t : Tree) (p : List Cell) : ∀ (n : Nat) (q : List Cell) (g : Int) r, jf t p n q g = .inl r → r.2.2 ≠ 0 → r.2.1 = false
 | 0, _, _, r, h, _ => by cases h
 | n + 1, q, g, r, h, h0 => by
  unfold jf at h
  cases he : neB (b8 t q).2 0 with
  | true =>
   rw [he] at h
   cases h
   rfl
  | false =>
   rw [he] at h
   cases hm : mvB p (b8 t q).1 with
   | true =>
    rw [hm] at h
    cases h
    exact absurd rfl h0
   | false =>
    rw [hm] at h
    exact findS_err t p n _ _ r h h0
theorem findA_err {t : Tree} {p : List Cell} {most : Int} (h : (ib t p most).2.2 ≠ 0) : (ib t p most).2.1 = false := by
 unfold ib at *
 cases hn : neB (bL t p) 0 with
 | true => rfl
 | false =>
  rw [hn] at h
  simp only [cond_false] at h ⊢
  cases hm : !(decide (1 ≤ most) && decide (most ≤ 64)) with
  | true => rfl
  | false =>
   rw [hm] at h
   simp only [cond_false] at h ⊢
   cases hf : jf t p most.toNat p 1 with
   | inl r =>
    rw [hf] at h
    exact findS_err t p _ _ _ r hf h
   | inr u => rfl
theorem eqB_self (n : Int) : eqB n n = true := by simp [eqB]
theorem eqb_self (b : Bool) : eqb b b = true := by simp [eqb]
end Go.Proofs.YtfpjnmhdbgbmmaaGreatDoor
namespace Go.Proofs.YtfpjnmhdbgbmmaaGreatDoor
open Go.AM Go.Proofs
section
variable {t : Tree} {gens most : Int} (hs : Sz t) (hg1 : gens ≤ 10000)
include hs hg1
end
def cW (t : Tree) : Nat → List Cell → List Cell × Int
 | 0, q => (q, 0)
 | n + 1, q => bif neB (b8 t q).2 0 then ([], (b8 t q).2) else cW t n (b8 t q).1
theorem step_fit {t : Tree} {q : List Cell} (hs : Sz t) (hq : bL t q = 0) : cz t q = some (b8 t q) := by
 have hl := (fY hq).pat.len
 have h1 := (jL hs (q := q) (by omega)).1
 unfold bK at h1
 rw [check_eq hs (by omega)] at h1
 simp only [some_bind] at h1
 have e : neB (bL t q) 0 = false := by simpa [neB] using hq
 rw [e] at h1
 simp only [cond_false] at h1
 cases hd : cz t q with
 | none => rw [hd] at h1; cases h1
 | some y => rw [hd] at h1; exact h1
theorem run_loop {t : Tree} (hs : Sz t) {N : Int} (hN : N ≤ 10000) : ∀ (n : Nat) (q : List Cell) (a : Int) (k : Nat), bL t q = 0 → 0 ≤ a → a + n = N → n < k →
  ak (cG t N) k (q, a) = some (bif neB (cW t n q).2 0 then .inl (cW t n q) else .inr (cW t n q).1)
 | 0, q, a, k, hq, ha, hn, hk => by
  obtain ⟨k, rfl⟩ : ∃ j, k = j + 1 := ⟨k - 1, by omega⟩
  rw [ak]
  unfold cG
  have e : ltB a N = false := decide_eq_false (by omega)
  dsimp only
  rw [e]
  rfl
 | n + 1, q, a, k, hq, ha, hn, hk => by
  obtain ⟨k, rfl⟩ : ∃ j, k = j + 1 := ⟨k - 1, by omega⟩
  rw [ak]
  obtain ⟨w, hw⟩ : ∃ w, cG t N (q, a) = w := ⟨_, rfl⟩
  rw [hw]
  unfold cG at hw
  have e : ltB a N = true := decide_eq_true (by omega)
  dsimp only at hw
  rw [e, step_fit hs hq] at hw
  simp only [cond_true, some_bind] at hw
  rw [iadd_in (by omega)] at hw
  unfold cW
  cases he : neB (b8 t q).2 0 with
  | true =>
   rw [he] at hw
   rw [← hw]
   simp only [cond_true, he]
  | false =>
   rw [he] at hw
   rw [← hw]
   simp only [cond_false]
   exact run_loop hs hN n _ _ k (jB hs hq (by simpa [neB] using he)) (by omega) (by omega) (by omega)
theorem run_eq {t : Tree} (hs : Sz t) {p : List Cell} (hp : bL t p = 0) {n : Nat} (hn : n ≤ 10000) : cy t p (n : Int) = some (cW t n p) := by
 have hl := (fY hp).pat.len
 unfold cy
 rw [check_eq hs (by omega)]
 simp only [some_bind]
 have e : neB (bL t p) 0 = false := by simpa [neB] using hp
 have e1 : ltB (n : Int) 0 = false := decide_eq_false (by omega)
 have e2 : gtB (n : Int) 10000 = false := decide_eq_false (by omega)
 rw [e, e1, e2, run_loop hs (by omega) n p 0 aA hp (by omega) (by omega) (by unfold aA; omega)]
 simp only [cond_false, some_bind]
 cases he : neB (cW t n p).2 0 with
 | true => rfl
 | false =>
  have h0 : (cW t n p).2 = 0 := by simpa [neB] using he
  simp only [cond_false]
  rw [← h0]
structure First (t : Tree) (p : List Cell) (most : Int) (k : Nat) (m : Motion) : Prop where
 here : ∃ q, cW t k p = (q, 0) ∧ bL t q = 0 ∧ ((q = [] ∧ m = ⟨0, 0, 0⟩) ∨ (q ≠ [] ∧ ib t q most = (m, true, 0)))
 before : ∀ j, k = j + 1 → ∃ q m', cW t j p = (q, 0) ∧ bL t q = 0 ∧ q ≠ [] ∧ ib t q most = (m', false, 0)
end Go.Proofs.YtfpjnmhdbgbmmaaGreatDoor
namespace Go.Proofs.YtfpjnmhdbgbmmaaGreatDoor
open Go.AM Go.Proofs
def newF (t : Tree) (S : Int → Int → Int) : Int → Int → Int := fun x y => (iV t (t.Hood.map fun o => S (x + o.X) (y + o.Y)) (aC .i64 (ah t.Nodes) 1)).getD 0
def itF (t : Tree) : Nat → (Int → Int → Int) → Int → Int → Int
 | 0, S => S
 | n + 1, S => itF t n (newF t S)
def shC (a b : Int) (c : Cell) : Cell := ⟨c.X + a, c.Y + b, c.S⟩
def shL (a b : Int) (l : List Cell) : List Cell := l.map (shC a b)
theorem newS_newF (t : Tree) (p : List Cell) (x y : Int) : eQ t p x y = newF t (dc p) x y := rfl
theorem canon_getS {t : Tree} {p y : List Cell} (h : Canon t p y) : dc y = newF t (dc p) := by
 funext x z
 rw [← newS_newF]
 by_cases h0 : eQ t p x z = 0
 ·rw [h0]
  refine getS_out fun c hc ⟨e1, e2⟩ => ?_
  obtain ⟨h1, h2⟩ := (h.mem c).1 hc
  rw [e1, e2, h0] at h1
  exact h2 h1
 ·have : (⟨x, z, eQ t p x z⟩ : Cell) ∈ y := (h.mem _).2 ⟨rfl, h0⟩
  exact getS_of h.sorted this
theorem stepS_cases {t : Tree} {q : List Cell} (hs : Sz t) (hq : bL t q = 0) : b8 t q = ([], 5) ∨ b8 t q = ([], 6) ∨ ∃ y, b8 t q = (y, 0) ∧ bL t y = 0 ∧ dc y = newF t (dc q) := by
 have hl := (fY hq).pat.len
 rcases (jL hs (q := q) (by omega)).2.2 with ⟨h, _⟩ | ⟨_, h⟩
 ·exact absurd hq h
 ·rcases h with ⟨_, e⟩ | ⟨hno, y, hy, e⟩
  ·exact .inl e
  ·cases hg : gtB (ah y) 5000 with
   | true => rw [hg] at e; exact .inr (.inl e)
   | false =>
    rw [hg] at e
    refine .inr (.inr ⟨y, e, ?_, canon_getS hy⟩)
    have := jB hs hq (by rw [e]; rfl)
    rw [e] at this
    exact this
theorem iterS_fit {t : Tree} (hs : Sz t) : ∀ (n : Nat) (q y : List Cell), bL t q = 0 → cW t n q = (y, 0) → bL t y = 0 ∧ dc y = itF t n (dc q)
 | 0, q, y, hq, h => by
  cases h
  exact ⟨hq, rfl⟩
 | n + 1, q, y, hq, h => by
  unfold cW at h
  cases he : neB (b8 t q).2 0 with
  | true =>
   rw [he] at h
   have h0 : (b8 t q).2 ≠ 0 := by simpa [neB] using he
   simp only [cond_true, Prod.mk.injEq] at h
   exact absurd h.2 h0
  | false =>
   rw [he] at h
   have h0 : (b8 t q).2 = 0 := by simpa [neB] using he
   have hf := jB hs hq h0
   obtain ⟨h1, h2⟩ := iterS_fit hs n _ y hf h
   refine ⟨h1, ?_⟩
   have e2 : itF t (n + 1) (dc q) = itF t n (newF t (dc q)) := rfl
   rw [h2, e2]
   rcases stepS_cases hs hq with e | e | ⟨y', e, _, h3⟩
   ·rw [e] at h0; cases h0
   ·rw [e] at h0; cases h0
   ·rw [e, ← h3]
theorem iterS_add (t : Tree) : ∀ (m n : Nat) (q y : List Cell), cW t m q = (y, 0) → cW t (m + n) q = cW t n y
 | 0, n, q, y, h => by
  cases h
  rw [Nat.zero_add]
 | m + 1, n, q, y, h => by
  rw [Nat.add_right_comm]
  have e1 : cW t (m + n + 1) q = bif neB (b8 t q).2 0 then ([], (b8 t q).2) else cW t (m + n) (b8 t q).1 := rfl
  rw [e1]
  unfold cW at h
  cases he : neB (b8 t q).2 0 with
  | true =>
   rw [he] at h
   have h0 : (b8 t q).2 ≠ 0 := by simpa [neB] using he
   simp only [cond_true, Prod.mk.injEq] at h
   exact absurd h.2 h0
  | false =>
   rw [he] at h
   exact iterS_add t m n _ y h
theorem shL_home {p y : List Cell} (hne : p ≠ []) (h : iP y = iP p) : y = shL ((hdC y).X - (hdC p).X) ((hdC y).Y - (hdC p).Y) p := by
 cases p with
 | nil => exact absurd rfl hne
 | cons c0 p =>
  cases y with
  | nil => simp [iP] at h
  | cons d0 y =>
   have e1 : hdC (c0 :: p) = c0 := rfl
   have e2 : hdC (d0 :: y) = d0 := rfl
   rw [e1, e2]
   refine List.ext_getElem? fun i => ?_
   have h1 := congrArg (·[i]?) h
   rw [homeL_get (c0 := d0) rfl, homeL_get (c0 := c0) rfl] at h1
   unfold shL
   rw [List.getElem?_map]
   cases hy : (d0 :: y)[i]? with
   | none =>
    rw [hy] at h1
    cases hp : (c0 :: p)[i]? with
    | none => rfl
    | some c => rw [hp] at h1; cases h1
   | some d =>
    rw [hy] at h1
    cases hp : (c0 :: p)[i]? with
    | none => rw [hp] at h1; cases h1
    | some c =>
     rw [hp] at h1
     simp only [Option.map_some, Option.some.injEq, relC, Cell.mk.injEq] at h1
     simp only [Option.map_some, Option.some.injEq]
     unfold shC
     cases d; cases c
     simp only [Cell.mk.injEq] at h1 ⊢
     omega
structure Per (t : Tree) (p : List Cell) (m : Motion) (P : Nat) : Prop where
 fit : bL t p = 0
 ne : p ≠ []
 is : m.Period = P
 pos : 1 ≤ P
 here : cW t P p = (shL m.DX m.DY p, 0)
 before : ∀ g, 1 ≤ g → g < P → ∃ y, cW t g p = (y, 0) ∧ mvB p y = false
theorem findS_per {t : Tree} {p : List Cell} (hs : Sz t) : ∀ (n : Nat) (q : List Cell) (g : Nat) r, bL t q = 0 → cW t g p = (q, 0) → (∀ j, 1 ≤ j → j ≤ g → ∃ y, cW t j p = (y, 0) ∧ mvB p y = false) →
  jf t p n q ((g + 1 : Nat) : Int) = .inl r → r.2.2 = 0 → ∃ P, r.1.Period = (P : Nat) ∧ g + 1 ≤ P ∧ P ≤ g + n ∧ p ≠ [] ∧ r.2.1 = true ∧ cW t P p = (shL r.1.DX r.1.DY p, 0) ∧ ∀ j, 1 ≤ j → j < P → ∃ y, cW t j p = (y, 0) ∧ mvB p y = false
 | 0, _, _, r, _, _, _, h, _ => by cases h
 | n + 1, q, g, r, hq, hi, hb, h, h0 => by
  unfold jf at h
  cases he : neB (b8 t q).2 0 with
  | true =>
   rw [he] at h
   cases h
   have : (b8 t q).2 ≠ 0 := by simpa [neB] using he
   exact absurd h0 this
  | false =>
   rw [he] at h
   have e0 : (b8 t q).2 = 0 := by simpa [neB] using he
   have hst : b8 t q = ((b8 t q).1, 0) := by rw [← e0]
   have hi' : cW t (g + 1) p = ((b8 t q).1, 0) := by
    rw [iterS_add t g 1 p q hi]
    unfold cW
    rw [he]
    rfl
   cases hm : mvB p (b8 t q).1 with
   | true =>
    rw [hm] at h
    cases h
    have hm' := hm
    unfold mvB at hm'
    rw [decide_eq_true_eq] at hm'
    refine ⟨g + 1, rfl, by omega, by omega, hm'.1, rfl, ?_, fun j h1 h2 => hb j h1 (by omega)⟩
    rw [hi']
    congr 1
    exact shL_home hm'.1 hm'.2
   | false =>
    rw [hm] at h
    simp only [cond_false] at h
    rw [show (((g + 1 : Nat) : Int) + 1) = ((g + 1 + 1 : Nat) : Int) by omega] at h
    obtain ⟨P, h1, h2, h3, h4⟩ := findS_per hs n _ (g + 1) r (jB hs hq e0) hi' (fun j h1 h2 => by
     by_cases hj : j = g + 1
     ·subst hj
      exact ⟨_, hi', hm⟩
     ·exact hb j h1 (by omega)) h h0
    exact ⟨P, h1, by omega, by omega, h4⟩
theorem findA_per {t : Tree} {p : List Cell} {most : Int} (hs : Sz t) (h0 : (ib t p most).2.2 = 0) (h1 : (ib t p most).2.1 = true) : ∃ P : Nat, Per t p (ib t p most).1 P ∧ (P : Int) ≤ most := by
 unfold ib at *
 cases hn : neB (bL t p) 0 with
 | true => rw [hn] at h1; cases h1
 | false =>
  rw [hn] at h0 h1
  have hp : bL t p = 0 := by simpa [neB] using hn
  simp only [cond_false] at h0 h1 ⊢
  cases hm : !(decide (1 ≤ most) && decide (most ≤ 64)) with
  | true => rw [hm] at h1; cases h1
  | false =>
   rw [hm] at h0 h1
   simp only [cond_false] at h0 h1 ⊢
   cases hf : jf t p most.toNat p 1 with
   | inr u => rw [hf] at h1; cases h1
   | inl r =>
    rw [hf] at h0 h1
    dsimp only at h0 h1 ⊢
    obtain ⟨P, e1, e2, e3, e4, _, e5, e6⟩ := findS_per hs most.toNat p 0 r hp rfl (fun j a b => by omega) hf h0
    simp only [Bool.not_eq_false', Bool.and_eq_true, decide_eq_true_eq] at hm
    exact ⟨P, ⟨hp, e4, e1, by omega, e5, e6⟩, by omega⟩
end Go.Proofs.YtfpjnmhdbgbmmaaGreatDoor
