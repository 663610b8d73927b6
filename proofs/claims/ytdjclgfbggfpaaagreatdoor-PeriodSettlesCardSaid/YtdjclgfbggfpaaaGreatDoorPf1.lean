/-
  Plain laws: Find, Has and Settles: both sides agree.
-/
import Derived.Test.YtdjclgfbggfpaaaGreatDoorPsx2
import Derived.Test.YtdjclgfbggfpaaaGreatDoorPd0
namespace Go.Proofs.YtdjclgfbggfpaaaGreatDoor
open Go.AM Go.Proofs
def hdC (l : List Cell) : Cell := (l[0]?).getD ⟨0, 0, 0⟩
def mvB (p y : List Cell) : Bool := decide (p ≠ [] ∧ fB y = fB p)
def mvR (p y : List Cell) : Int × Int × Bool := bif mvB p y then ((hdC y).X - (hdC p).X, (hdC y).Y - (hdC p).Y, true) else (0, 0, false)
theorem ca (l : List Cell) : (fB l).length = l.length := by
 cases l <;> simp [fB]
theorem homeL_get {l : List Cell} {c0 : Cell} (h0 : l[0]? = some c0) (i : Nat) : (fB l)[i]? = (l[i]?).map (relC c0) := by
 cases l with
 | nil => simp at h0
 | cons h l =>
  simp only [List.getElem?_cons_zero, Option.some.injEq] at h0
  subst h0
  unfold fB
  rw [List.getElem?_map]
theorem moved_eq {p y : List Cell} (hp : Pat p) (hy : Pat y) : df p y = some (mvR p y) := by
 have hpl := hp.len
 have hyl := hy.len
 unfold df
 simp only [aO, aZ, a8]
 cases hc : neB (ak p) (ak y) || eqB (ak p) 0 with
 | true =>
  have hm : mvB p y = false := by
   unfold mvB
   rw [decide_eq_false_iff_not]
   rintro ⟨h1, h2⟩
   have h3 := congrArg List.length h2
   rw [ca, ca] at h3
   have h4 : p.length ≠ 0 := fun e => h1 (List.eq_nil_of_length_eq_zero e)
   simp only [Bool.or_eq_true, neB, eqB, bne_iff_ne, beq_iff_eq] at hc
   unfold ak at hc
   omega
  unfold mvR
  rw [hm]
  rfl
 | false =>
  simp only [Bool.or_eq_false_iff, neB, eqB, bne_eq_false_iff_eq, beq_eq_false_iff_ne] at hc
  unfold ak at hc
  have hlen : p.length = y.length := by omega
  have hp0 : p[0]? = some (p[0]'(by omega)) := List.getElem?_eq_getElem (by omega)
  have hy0 : y[0]? = some (y[0]'(by omega)) := List.getElem?_eq_getElem (by omega)
  have hcp := (hp.cell _ (List.mem_of_getElem? hp0)).1
  have hcy := (hy.cell _ (List.mem_of_getElem? hy0)).1
  have i0p : idx p 0 = some (p[0]'(by omega)) := by rw [show (0 : Int) = ((0 : Nat) : Int) from rfl, aH, hp0]
  have i0y : idx y 0 = some (y[0]'(by omega)) := by rw [show (0 : Int) = ((0 : Nat) : Int) from rfl, aH, hy0]
  simp only [cond_false]
  rw [i0p, i0y]
  simp only [a8]
  have hpne : p ≠ [] := fun e => by rw [e] at hc; simp at hc
  have hd1 : hdC p = (p[0]'(by omega)) := by unfold hdC; rw [hp0]; rfl
  have hd2 : hdC y = (y[0]'(by omega)) := by unfold hdC; rw [hy0]; rfl
  obtain ⟨t, ht, hq⟩ := bz (b := bY p y (y[0]'(by omega)) (p[0]'(by omega))) (n := p.length) (s := 0) (fun i s => s = (i : Int) ∧ ∀ j < i, (fB y)[j]? = (fB p)[j]?)
   (fun t => (t = .inl (0, 0, false) ∧ mvB p y = false) ∨ (t = .inr () ∧ mvB p y = true)) (by omega)
   ⟨rfl, fun j hj => by omega⟩
   (fun i s hi ⟨h1, h2⟩ => by
    subst h1
    have hxp : p[i]? = some (p[i]'(by omega)) := List.getElem?_eq_getElem (by omega)
    have hxy : y[i]? = some (y[i]'(by omega)) := List.getElem?_eq_getElem (by omega)
    have h1p := (hp.cell _ (List.mem_of_getElem? hxp)).1
    have h1y := (hy.cell _ (List.mem_of_getElem? hxy)).1
    obtain ⟨w, hw⟩ : ∃ w, bY p y (y[0]'(by omega)) (p[0]'(by omega)) (i : Int) = w := ⟨_, rfl⟩
    rw [hw]
    unfold bY at hw
    dsimp only at hw
    rw [aw, decide_eq_true hi, aH, aH, hxp, hxy, bh (by omega)] at hw
    simp only [cond_true, a8] at hw
    rw [bL (by omega), bL (by omega), b0 (by omega), b0 (by omega)] at hw
    have gy := homeL_get hy0 i
    have gp := homeL_get hp0 i
    rw [hxy] at gy
    rw [hxp] at gp
    by_cases he : (fB y)[i]? = (fB p)[i]?
    ·have he' := he
     rw [gy, gp] at he'
     simp only [Option.map_some, Option.some.injEq, relC, Cell.mk.injEq] at he'
     have e1 : bu (eqB (y[i]'(by omega)).X ((p[i]'(by omega)).X + ((y[0]'(by omega)).X - (p[0]'(by omega)).X))) (bu (eqB (y[i]'(by omega)).Y ((p[i]'(by omega)).Y + ((y[0]'(by omega)).Y - (p[0]'(by omega)).Y))) (bu (eqB (y[i]'(by omega)).S (p[i]'(by omega)).S) true)) = true := by
      unfold bu eqB
      simp only [Bool.and_eq_true, beq_iff_eq, and_true]
      omega
     rw [e1] at hw
     refine .inl ⟨_, hw.symm, rfl, fun j hj => ?_⟩
     rcases Nat.lt_succ_iff_lt_or_eq.1 hj with hj | rfl
     ·exact h2 j hj
     ·exact he
    ·have e1 : bu (eqB (y[i]'(by omega)).X ((p[i]'(by omega)).X + ((y[0]'(by omega)).X - (p[0]'(by omega)).X))) (bu (eqB (y[i]'(by omega)).Y ((p[i]'(by omega)).Y + ((y[0]'(by omega)).Y - (p[0]'(by omega)).Y))) (bu (eqB (y[i]'(by omega)).S (p[i]'(by omega)).S) true)) = false := by
      rw [Bool.eq_false_iff]
      unfold bu eqB
      simp only [ne_eq, Bool.and_eq_true, beq_iff_eq, and_true]
      rintro ⟨a1, a2, a3⟩
      apply he
      rw [gy, gp]
      simp only [Option.map_some, Option.some.injEq, relC, Cell.mk.injEq]
      omega
     rw [e1] at hw
     refine .inr ⟨_, hw.symm, .inl ⟨rfl, ?_⟩⟩
     unfold mvB
     rw [decide_eq_false_iff_not]
     rintro ⟨_, h⟩
     exact he (by rw [h]))
   (fun s ⟨h1, h2⟩ => by
    subst h1
    refine ⟨_, ?_, .inr ⟨rfl, ?_⟩⟩
    ·unfold bY
     dsimp only
     rw [aw, decide_eq_false (Nat.lt_irrefl _)]
     rfl
    ·unfold mvB
     rw [decide_eq_true_eq]
     refine ⟨hpne, List.ext_getElem? fun j => ?_⟩
     by_cases hj : j < p.length
     ·exact h2 j hj
     ·rw [List.getElem?_eq_none (by rw [ca]; omega), List.getElem?_eq_none (by rw [ca]; omega)])
  rw [ht]
  unfold mvR
  rcases hq with ⟨rfl, hm⟩ | ⟨rfl, hm⟩
  ·rw [hm]; rfl
  ·rw [hm, hd1, hd2]
   simp only [a8, cond_true]
   rw [bL (by omega), bL (by omega)]
def aB (t : Tree) (q : List Cell) : List Cell × Int := (bf t q).getD ([], 0)
theorem dJ {t : Tree} {q : List Cell} (hs : Sz t) (hq : q.length < 1099511627776) : bf t q = some (aB t q) ∧ cN t q = some (aB t q) ∧ ((aU t q ≠ 0 ∧ aB t q = ([], aU t q)) ∨ (aU t q = 0 ∧ Stp t q (aB t q))) := by
 obtain ⟨r, h1, h2, h3⟩ := step_both hs hq
 have e : aB t q = r := by unfold aB; rw [h1]; rfl
 rw [e]
 exact ⟨h1, h2, h3⟩
def dT (t : Tree) (p : List Cell) : Nat → List Cell → Int → (Motion × Bool × Int) ⊕ Unit
 | 0, _, _ => .inr ()
 | n + 1, q, g => bif neB (aB t q).2 0 then .inl (⟨0, 0, 0⟩, false, (aB t q).2) else bif mvB p (aB t q).1 then .inl (⟨g, (hdC (aB t q).1).X - (hdC p).X, (hdC (aB t q).1).Y - (hdC p).Y⟩, true, 0) else dT t p n (aB t q).1 (g + 1)
theorem cm {t : Tree} {q : List Cell} (hs : Sz t) (hq : aU t q = 0) (h0 : (aB t q).2 = 0) : aU t (aB t q).1 = 0 := by
 have hl := (bg hq).pat.len
 rcases (dJ hs (q := q) (by omega)).2.2 with ⟨h, _⟩ | ⟨_, h⟩
 ·exact absurd hq h
 ·exact fitE_of (stp_pat (bg hq) hs h h0) (fitE_quiet hq)
theorem stepS_nil {t : Tree} (hs : Sz t) (hp : aU t [] = 0) : aB t [] = ([], 0) := by
 rcases (dJ hs (q := []) (by simp)).2.2 with ⟨h, _⟩ | ⟨_, h⟩
 ·exact absurd hp h
 ·exact stp_nil (bg hp) h
theorem findS_nil {t : Tree} {p : List Cell} (hs : Sz t) (hp : aU t [] = 0) : ∀ (n : Nat) (g : Int), dT t p n [] g = .inr ()
 | 0, _ => rfl
 | n + 1, g => by
  unfold dT
  rw [stepS_nil hs hp]
  have e1 : neB (([] : List Cell), (0 : Int)).2 0 = false := rfl
  have e2 : mvB p (([] : List Cell), (0 : Int)).1 = false := by
   unfold mvB
   rw [decide_eq_false_iff_not]
   rintro ⟨h1, h2⟩
   cases p with
   | nil => exact h1 rfl
   | cons c p => simp [fB] at h2
  rw [e1, e2]
  exact findS_nil hs hp n _
section
variable {t : Tree} {p : List Cell} {most : Int} (hs : Sz t) (hp : aU t p = 0) (hm : most ≤ 64)
include hs hp hm
theorem find_loop : ∀ (n : Nat) (q : List Cell) (g : Int) (k : Nat), aU t q = 0 → 1 ≤ g → g + n = most + 1 → n < k → ar (cy t p most) k (q, g) = some (dT t p n q g)
 | 0, q, g, k, hq, hg, hn, hk => by
  obtain ⟨k, rfl⟩ : ∃ j, k = j + 1 := ⟨k - 1, by omega⟩
  rw [ar]
  unfold cy
  have e : leB g most = false := decide_eq_false (by omega)
  dsimp only
  rw [e]
  rfl
 | n + 1, q, g, k, hq, hg, hn, hk => by
  obtain ⟨k, rfl⟩ : ∃ j, k = j + 1 := ⟨k - 1, by omega⟩
  have hl := (bg hq).pat.len
  obtain ⟨h1, _, _⟩ := dJ hs (q := q) (by omega)
  rw [ar]
  obtain ⟨w, hw⟩ : ∃ w, cy t p most (q, g) = w := ⟨_, rfl⟩
  rw [hw]
  unfold cy at hw
  have e : leB g most = true := decide_eq_true (by omega)
  dsimp only at hw
  rw [e] at hw
  simp only [cond_true, a8] at hw
  cases hq0 : gtB (ak q) 0 with
  | false =>
   have hnil : q = [] := by
    have := of_decide_eq_false hq0
    unfold ak at this
    exact List.eq_nil_of_length_eq_zero (by omega)
   subst hnil
   rw [hq0] at hw
   rw [← hw, findS_nil hs hq]
   rfl
  | true =>
   rw [hq0, h1] at hw
   simp only [cond_true, a8] at hw
   unfold dT
   cases he : neB (aB t q).2 0 with
   | true =>
    rw [he] at hw
    rw [← hw]
    rfl
   | false =>
    have he0 : (aB t q).2 = 0 := by simpa [neB] using he
    have hf := cm hs hq he0
    rw [he, moved_eq (bg hp).pat (bg hf).pat] at hw
    simp only [cond_false, a8] at hw
    unfold mvR at hw
    cases hmv : mvB p (aB t q).1 with
    | true =>
     rw [hmv] at hw
     rw [← hw]
     rfl
    | false =>
     rw [hmv] at hw
     rw [← hw]
     simp only [cond_false]
     rw [b0 (by omega)]
     exact find_loop n _ _ k hf (by omega) (by omega) (by omega)
theorem findR_loop (hpne : p ≠ []) : ∀ (n : Nat) (q : List Cell) (g : Int) (k : Nat), aU t q = 0 → 1 ≤ g → g + n = most + 1 → n < k → ar (dr t p most) k (q, g) = some (dT t p n q g)
 | 0, q, g, k, hq, hg, hn, hk => by
  obtain ⟨k, rfl⟩ : ∃ j, k = j + 1 := ⟨k - 1, by omega⟩
  rw [ar]
  unfold dr
  have e : leB g most = false := decide_eq_false (by omega)
  dsimp only
  rw [e]
  rfl
 | n + 1, q, g, k, hq, hg, hn, hk => by
  obtain ⟨k, rfl⟩ : ∃ j, k = j + 1 := ⟨k - 1, by omega⟩
  have hl := (bg hq).pat.len
  obtain ⟨_, h1, _⟩ := dJ hs (q := q) (by omega)
  rw [ar]
  obtain ⟨w, hw⟩ : ∃ w, dr t p most (q, g) = w := ⟨_, rfl⟩
  rw [hw]
  unfold dr at hw
  have e : leB g most = true := decide_eq_true (by omega)
  dsimp only at hw
  rw [e, h1] at hw
  simp only [cond_true, a8] at hw
  unfold dT
  cases he : neB (aB t q).2 0 with
  | true =>
   rw [he] at hw
   rw [← hw]
   rfl
  | false =>
   have he0 : (aB t q).2 = 0 := by simpa [neB] using he
   have hf := cm hs hq he0
   have hyp := (bg hf).pat
   have hpp := (bg hp).pat
   have hpl := hpp.len
   have hyl := hyp.len
   rw [he, home_eq hyp, home_eq hpp] at hw
   simp only [cond_false, a8] at hw
   rw [same_eq (by rw [ca]; exact hyl) (by rw [ca]; exact hpl)] at hw
   simp only [a8, aO] at hw
   have hcond : (bif gtB (ak (aB t q).1) 0 then decide (fB (aB t q).1 = fB p) else false) = mvB p (aB t q).1 := by
    unfold mvB
    cases hy0 : gtB (ak (aB t q).1) 0 with
    | false =>
     have hnil : (aB t q).1 = [] := by
      have := of_decide_eq_false hy0
      unfold ak at this
      exact List.eq_nil_of_length_eq_zero (by omega)
     rw [hnil]
     simp only [cond_false]
     symm
     rw [decide_eq_false_iff_not]
     rintro ⟨_, h⟩
     have := congrArg List.length h
     rw [ca, ca] at this
     exact hpne (List.eq_nil_of_length_eq_zero this.symm)
    | true =>
     simp only [cond_true]
     congr 1
     simp [hpne]
   rw [hcond] at hw
   cases hmv : mvB p (aB t q).1 with
   | true =>
    rw [hmv] at hw
    have hyne : (aB t q).1.length = p.length := by
     unfold mvB at hmv
     rw [decide_eq_true_eq] at hmv
     have := congrArg List.length hmv.2
     rwa [ca, ca] at this
    have hp1 : 0 < p.length := by
     cases p with
     | nil => exact absurd rfl hpne
     | cons c p => simp
    have ip : idx p 0 = some (hdC p) := by
     rw [show (0 : Int) = ((0 : Nat) : Int) from rfl, aH]
     unfold hdC
     rw [List.getElem?_eq_getElem hp1]
     rfl
    have iy : idx (aB t q).1 0 = some (hdC (aB t q).1) := by
     rw [show (0 : Int) = ((0 : Nat) : Int) from rfl, aH]
     unfold hdC
     rw [List.getElem?_eq_getElem (by omega)]
     rfl
    have m1 : hdC p ∈ p := List.mem_of_getElem? (by rw [← aH]; exact ip)
    have m2 : hdC (aB t q).1 ∈ (aB t q).1 := List.mem_of_getElem? (by rw [← aH]; exact iy)
    have b1 := (hpp.cell _ m1).1
    have b2 := (hyp.cell _ m2).1
    rw [ip, iy] at hw
    simp only [cond_true, a8] at hw
    rw [bL (by omega), bL (by omega)] at hw
    rw [← hw]
    rfl
   | false =>
    rw [hmv] at hw
    rw [← hw]
    simp only [cond_false]
    rw [b0 (by omega)]
    exact findR_loop hpne n _ _ k hf (by omega) (by omega) (by omega)
end
def aV (t : Tree) (p : List Cell) (most : Int) : Motion × Bool × Int :=
 bif neB (aU t p) 0 then (⟨0, 0, 0⟩, false, aU t p) else bif !(decide (1 ≤ most) && decide (most ≤ 64)) then (⟨0, 0, 0⟩, false, 2) else match dT t p most.toNat p 1 with
  | .inl r => r
  | .inr _ => (⟨0, 0, 0⟩, false, 0)
theorem proper_is (n : Int) : bC n = some (decide (1 ≤ n) && decide (n ≤ 64)) := by
 unfold bC geB leB
 by_cases h : n ≥ 1 <;> simp [h] <;> omega
theorem gQ {t : Tree} {p : List Cell} (hs : Sz t) (hp : p.length < 1099511627776) (most : Int) : b9 t p most = some (aV t p most) := by
 unfold b9 aV
 rw [run0_is hs hp]
 simp only [a8]
 cases hn : neB (aU t p) 0 with
 | true =>
  simp only [cond_true, hn]
 | false =>
  have h0 : aU t p = 0 := by simpa [neB] using hn
  simp only [cond_false]
  have e : neB 0 0 = false := rfl
  rw [e, proper_is]
  simp only [cond_false, a8, aR]
  cases hm : (decide (1 ≤ most) && decide (most ≤ 64)) with
  | false => rfl
  | true =>
   simp only [Bool.and_eq_true, decide_eq_true_eq] at hm
   rw [find_loop hs h0 (by omega) most.toNat p 1 aG h0 (by omega) (by omega) (by unfold aG; omega)]
   simp only [Bool.not_true, cond_false, a8]
   cases dT t p most.toNat p 1 <;> rfl
theorem findR_eq {t : Tree} {p : List Cell} (hs : Sz t) (hp : p.length < 1099511627776) (most : Int) : ej t p most = some (aV t p most) := by
 unfold ej aV
 rw [runR0_is hs hp]
 simp only [a8]
 cases hn : neB (aU t p) 0 with
 | true =>
  simp only [cond_true, hn]
 | false =>
  have h0 : aU t p = 0 := by simpa [neB] using hn
  simp only [cond_false]
  have e : neB 0 0 = false := rfl
  rw [e]
  simp only [cond_false, a8, aO, aZ]
  cases hm : (decide (1 ≤ most) && decide (most ≤ 64)) with
  | false =>
   have e2 : (ltB most 1 || gtB most 64) = true := by
    unfold ltB gtB
    simp only [Bool.and_eq_false_iff, decide_eq_false_iff_not] at hm
    simp only [Bool.or_eq_true, decide_eq_true_eq]
    omega
   rw [e2]
   rfl
  | true =>
   have e2 : (ltB most 1 || gtB most 64) = false := by
    unfold ltB gtB
    simp only [Bool.and_eq_true, decide_eq_true_eq] at hm
    simp only [Bool.or_eq_false_iff, decide_eq_false_iff_not]
    omega
   rw [e2]
   simp only [Bool.and_eq_true, decide_eq_true_eq] at hm
   simp only [Bool.not_true, cond_false]
   cases hl : eqB (ak p) 0 with
   | true =>
    have hnil : p = [] := by
     unfold eqB ak at hl
     rw [beq_iff_eq] at hl
     exact List.eq_nil_of_length_eq_zero (by omega)
    subst hnil
    rw [findS_nil hs h0]
    rfl
   | false =>
    have hpne : p ≠ [] := fun e => by rw [e] at hl; cases hl
    simp only [cond_false]
    rw [findR_loop hs h0 (by omega) hpne most.toNat p 1 aG h0 (by omega) (by omega) (by unfold aG; omega)]
    simp only [a8]
    cases dT t p most.toNat p 1 <;> rfl
theorem eqB_self (n : Int) : eqB n n = true := by simp [eqB]
end Go.Proofs.YtdjclgfbggfpaaaGreatDoor
