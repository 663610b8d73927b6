/-
  Plain laws: PeriodTrue and PeriodPhases.
-/
import Derived.Test.YtdjclgfbggfpaaaGreatDoorPt0
import Derived.Test.YtdjclgfbggfpaaaGreatDoorPk
namespace Go.Proofs.YtdjclgfbggfpaaaGreatDoor
open Go.AM Go.Proofs
theorem shift_loop {p : List Cell} (h : Pat p) {dx dy : Int} (hx : -2097152 ≤ dx ∧ dx ≤ 2097152) (hy : -2097152 ≤ dy ∧ dy ≤ 2097152) :
  (InR (shL dx dy p) ∧ ap (ba dx dy p) aF (0, p) = some (.inr (shL dx dy p))) ∨ (¬ InR (shL dx dy p) ∧ ap (ba dx dy p) aF (0, p) = some (.inl ([], 5))) := by
 have hl := h.len
 obtain ⟨t, ht, hq⟩ := loop_iv (b := ba dx dy p) (n := p.length) (s := (0, p)) (fun i s => s = ((i : Int), shL dx dy (p.take i) ++ p.drop i) ∧ InR (shL dx dy (p.take i)))
  (fun t => (InR (shL dx dy p) ∧ t = .inr (shL dx dy p)) ∨ (¬ InR (shL dx dy p) ∧ t = .inl ([], 5))) (by omega)
  ⟨by simp [shL], fun c hc => by simp [shL] at hc⟩
  (fun i s hi ⟨h1, h2⟩ => by
   subst h1
   have hxi : p[i]? = some p[i] := List.getElem?_eq_getElem hi
   have hc := (h.cell p[i] (List.getElem_mem hi)).1
   have hA : (shL dx dy (p.take i)).length = i := by unfold shL; rw [List.length_map, List.length_take]; omega
   have hg : ∀ (z : Cell) (B : List Cell), (shL dx dy (p.take i) ++ z :: B)[i]? = some z := fun z B => by
    rw [List.getElem?_append_right (by omega), hA, Nat.sub_self]
    rfl
   have hset : ∀ (z w : Cell) (B : List Cell), (shL dx dy (p.take i) ++ z :: B).set i w = shL dx dy (p.take i) ++ w :: B := fun z w B => by
    rw [List.set_append_right _ _ (by omega), hA, Nat.sub_self]
    rfl
   rw [List.drop_eq_getElem_cons hi]
   obtain ⟨w, hw⟩ : ∃ w, ba dx dy p ((i : Int), shL dx dy (p.take i) ++ p[i] :: p.drop (i + 1)) = w := ⟨_, rfl⟩
   rw [hw]
   unfold ba at hw
   dsimp only at hw
   rw [ltB_nat, decide_eq_true hi, idx_nat, hg, up_nat (by omega)] at hw
   simp only [cond_true, some_bind, Int.toNat_natCast] at hw
   rw [hset, idx_nat, hg] at hw
   simp only [some_bind] at hw
   rw [hset, idx_nat, hg, iadd_in (by omega), iadd_in (by omega)] at hw
   simp only [some_bind, aY, placed_eq, aN] at hw
   have hsnoc : shL dx dy (p.take (i + 1)) = shL dx dy (p.take i) ++ [⟨p[i].X + dx, p[i].Y + dy, p[i].S⟩] := by
    unfold shL
    rw [List.take_add_one, hxi, Option.toList_some, List.map_append]
    rfl
   cases hp : placeB (p[i].X + dx) (p[i].Y + dy) with
   | true =>
    rw [hp] at hw
    refine .inl ⟨_, hw.symm, ?_, ?_⟩
    ·rw [hsnoc, List.append_assoc]
     rfl
    ·rw [hsnoc]
     intro c hc
     rcases List.mem_append.1 hc with hc | hc
     ·exact h2 c hc
     ·rw [List.mem_singleton] at hc
      subst hc
      exact hp
   | false =>
    rw [hp] at hw
    refine .inr ⟨_, hw.symm, .inr ⟨fun hin => ?_, rfl⟩⟩
    have := hin (shC dx dy p[i]) (List.mem_map.2 ⟨_, List.getElem_mem hi, rfl⟩)
    unfold shC at this
    dsimp only at this
    rw [hp] at this
    cases this)
  (fun s ⟨h1, h2⟩ => by
   subst h1
   rw [List.take_length] at h2
   refine ⟨_, ?_, .inl ⟨h2, rfl⟩⟩
   unfold ba
   dsimp only
   rw [ltB_nat, decide_eq_false (Nat.lt_irrefl _), List.take_length, List.drop_length, List.append_nil]
   rfl)
 rw [ht]
 rcases hq with ⟨h1, rfl⟩ | ⟨h1, rfl⟩
 ·exact .inl ⟨h1, rfl⟩
 ·exact .inr ⟨h1, rfl⟩
theorem shift_eq {p : List Cell} (hp : patOk p = true) {dx dy : Int} (hx : -2097152 ≤ dx ∧ dx ≤ 2097152) (hy : -2097152 ≤ dy ∧ dy ≤ 2097152) :
  (InR (shL dx dy p) ∧ bl p dx dy = some (shL dx dy p, 0)) ∨ bl p dx dy = some ([], 5) := by
 have h := pat_of hp
 have hl := h.len
 unfold bl
 rw [pat_eq (by omega), hp]
 simp only [some_bind, aN, Bool.not_true, cond_false, bif_some]
 have e1 : gtB (f5 dx dy) 2097152 = false := decide_eq_false (by have := imax_is dx dy; omega)
 have e2 : ltB (imin dx dy) (-2097152) = false := decide_eq_false (by have := imin_is dx dy; omega)
 rw [e1, e2]
 have e3 : aZ p = some p := by
  unfold aZ fh
  rw [if_pos, List.nil_append]
  simp only [List.length_nil]
  omega
 rw [e3]
 simp only [cond_false, some_bind]
 rcases shift_loop h hx hy with ⟨h1, e⟩ | ⟨_, e⟩ <;> rw [e]
 ·exact .inl ⟨h1, rfl⟩
 ·exact .inr rfl
theorem iterS_near {t : Tree} (hs : Sz t) : ∀ (n : Nat) (q y : List Cell), fitE t q = 0 → aP t n q = (y, 0) → ∀ c ∈ y, ∃ d ∈ q, c.X - d.X ≤ 2 * n ∧ d.X - c.X ≤ 2 * n ∧ c.Y - d.Y ≤ 2 * n ∧ d.Y - c.Y ≤ 2 * n
 | 0, q, y, _, h, c, hc => by
  cases h
  exact ⟨c, hc, by omega, by omega, by omega, by omega⟩
 | n + 1, q, y, hq, h, c, hc => by
  unfold aP at h
  cases he : neB (aA t q).2 0 with
  | true =>
   rw [he] at h
   have h0 : (aA t q).2 ≠ 0 := by simpa [neB] using he
   simp only [cond_true, Prod.mk.injEq] at h
   exact absurd h.2 h0
  | false =>
   rw [he] at h
   have h0 : (aA t q).2 = 0 := by simpa [neB] using he
   have hf := bT hs hq h0
   obtain ⟨d, hd, hdc⟩ := iterS_near hs n _ y hf h c hc
   rcases stepS_cases hs hq with e | e | ⟨y', e, _, h3⟩
   ·rw [e] at h0; cases h0
   ·rw [e] at h0; cases h0
   ·rw [e] at hd hf
    have hm := (mem_getS (fit_of hf).pat d).1 hd
    rw [h3] at hm
    obtain ⟨b, hb, o, ho, e1, e2⟩ := newS_near (fit_of hq) (x := d.X) (y := d.Y) (by rw [newS_newF, hm.1]; exact hm.2)
    have := hood_in (fit_of hq).ok ho
    exact ⟨b, hb, by omega, by omega, by omega, by omega⟩
theorem fD (f : Cell → Int) : ∀ {p : List Cell}, p ≠ [] → ∃ c ∈ p, ∀ d ∈ p, f d ≤ f c
 | [], h => absurd rfl h
 | [c], _ => ⟨c, by simp, fun d hd => by simp at hd; rw [hd]; exact Int.le_refl _⟩
 | c :: d :: p, _ => by
  obtain ⟨e, he, hm⟩ := fD f (p := d :: p) (by simp)
  by_cases hce : f e ≤ f c
  ·refine ⟨c, by simp, fun x hx => ?_⟩
   rcases List.mem_cons.1 hx with rfl | hx
   ·exact Int.le_refl _
   ·exact Int.le_trans (hm x hx) hce
  ·refine ⟨e, List.mem_cons_of_mem _ he, fun x hx => ?_⟩
   rcases List.mem_cons.1 hx with rfl | hx
   ·omega
   ·exact hm x hx
theorem Per.bound {t : Tree} {p : List Cell} {m : Motion} {P : Nat} (h : Per t p m P) (hs : Sz t) : -(2 * (P : Int)) ≤ m.DX ∧ m.DX ≤ 2 * P ∧ -(2 * (P : Int)) ≤ m.DY ∧ m.DY ≤ 2 * P := by
 have hn := iterS_near hs P p _ h.fit h.here
 have hm : ∀ c ∈ p, shC m.DX m.DY c ∈ shL m.DX m.DY p := fun c hc => List.mem_map.2 ⟨c, hc, rfl⟩
 obtain ⟨c1, h1, t1⟩ := fD (fun c => c.X) h.ne
 obtain ⟨c2, h2, t2⟩ := fD (fun c => -c.X) h.ne
 obtain ⟨c3, h3, t3⟩ := fD (fun c => c.Y) h.ne
 obtain ⟨c4, h4, t4⟩ := fD (fun c => -c.Y) h.ne
 obtain ⟨d1, g1, n1⟩ := hn _ (hm c1 h1)
 obtain ⟨d2, g2, n2⟩ := hn _ (hm c2 h2)
 obtain ⟨d3, g3, n3⟩ := hn _ (hm c3 h3)
 obtain ⟨d4, g4, n4⟩ := hn _ (hm c4 h4)
 have := t1 d1 g1
 have := t2 d2 g2
 have := t3 d3 g3
 have := t4 d4 g4
 unfold shC at n1 n2 n3 n4
 dsimp only at *
 omega
theorem iterS_err (t : Tree) : ∀ (m n : Nat) (q : List Cell) (e : Int), e ≠ 0 → aP t m q = ([], e) → aP t (m + n) q = ([], e)
 | 0, _, q, e, he, h => by
  cases h
  exact absurd rfl he
 | m + 1, n, q, e, he, h => by
  rw [Nat.add_right_comm]
  have e1 : aP t (m + n + 1) q = bif neB (aA t q).2 0 then ([], (aA t q).2) else aP t (m + n) (aA t q).1 := rfl
  have e2 : aP t (m + 1) q = bif neB (aA t q).2 0 then ([], (aA t q).2) else aP t m (aA t q).1 := rfl
  rw [e2] at h
  rw [e1]
  cases hc : neB (aA t q).2 0 with
  | true =>
   rw [hc] at h
   exact h
  | false =>
   rw [hc] at h
   exact iterS_err t m n _ e he h
theorem shL_add (a b c d : Int) (p : List Cell) : shL a b (shL c d p) = shL (a + c) (b + d) p := by
 unfold shL
 rw [List.map_map]
 refine List.map_congr_left fun x _ => ?_
 unfold shC
 simp only [Function.comp]
 congr 1 <;> omega
theorem Per.many {t : Tree} {p : List Cell} {m : Motion} {P : Nat} (h : Per t p m P) (hs : Sz t) : ∀ k : Nat, aP t (P * (k + 1)) p = ([], 5) ∨ aP t (P * (k + 1)) p = (shL (m.DX * (k + 1 : Nat)) (m.DY * (k + 1 : Nat)) p, 0)
 | 0 => by
  right
  have e1 : m.DX * ((0 + 1 : Nat) : Int) = m.DX := by simp
  have e2 : m.DY * ((0 + 1 : Nat) : Int) = m.DY := by simp
  rw [e1, e2, Nat.zero_add, Nat.mul_one]
  exact h.here
 | k + 1 => by
  have e : P * (k + 1 + 1) = P * (k + 1) + P := by rw [Nat.mul_add P (k + 1) 1, Nat.mul_one]
  rw [e]
  rcases h.many hs k with hk | hk
  ·left
   exact iterS_err t _ _ _ 5 (by decide) hk
  ·rw [fQ t _ _ _ _ hk]
   have hin : InR (shL (m.DX * (k + 1 : Nat)) (m.DY * (k + 1 : Nat)) p) := inR_pat (fit_of (eF hs _ _ _ h.fit hk).1).pat
   rcases iterS_sh hs P p _ h.fit h.here hin with h5 | ⟨h6, _⟩
   ·exact .inl h5
   ·right
    rw [h6, shL_add]
    have e3 : ∀ a : Int, a * (k + 1 : Nat) + a = a * ((k + 1 + 1 : Nat) : Int) := fun a => by
     rw [show (((k + 1 + 1 : Nat)) : Int) = ((k + 1 : Nat) : Int) + 1 by omega, Int.mul_add, Int.mul_one]
    rw [e3, e3]
theorem findS_zero (t : Tree) (p : List Cell) : ∀ (n : Nat) (q : List Cell) (g : Int) r, dt t p n q g = .inl r → r.2.2 ≠ 0 ∨ r.2.1 = false → r.1 = ⟨0, 0, 0⟩
 | 0, _, _, r, h, _ => by cases h
 | n + 1, q, g, r, h, h0 => by
  unfold dt at h
  cases he : neB (aA t q).2 0 with
  | true =>
   rw [he] at h
   cases h
   rfl
  | false =>
   rw [he] at h
   cases hm : mvB p (aA t q).1 with
   | true =>
    rw [hm] at h
    cases h
    rcases h0 with h0 | h0
    ·exact absurd rfl h0
    ·cases h0
   | false =>
    rw [hm] at h
    exact findS_zero t p n _ _ r h h0
theorem findA_zero {t : Tree} {p : List Cell} {most : Int} (h : (aR t p most).2.2 ≠ 0 ∨ (aR t p most).2.1 = false) : (aR t p most).1 = ⟨0, 0, 0⟩ := by
 unfold aR at *
 cases hn : neB (fitE t p) 0 with
 | true => rfl
 | false =>
  rw [hn] at h
  simp only [cond_false] at h ⊢
  cases hm : !(decide (1 ≤ most) && decide (most ≤ 64)) with
  | true => rfl
  | false =>
   rw [hm] at h
   simp only [cond_false] at h ⊢
   cases hf : dt t p most.toNat p 1 with
   | inl r =>
    rw [hf] at h
    exact findS_zero t p _ _ _ r hf h
   | inr u => rfl
theorem true_loop {t : Tree} {p : List Cell} {n : Int} {y1 : Motion × Bool × Int} {P : Nat} (hs : Sz t) (h : Per t p y1.1 P) (hP : P ≤ 6) : ap (bp t p n y1) aF 1 = some (.inr ()) := by
 have hpp := (fit_of h.fit).pat
 have hpl := hpp.len
 obtain ⟨r, hr, e⟩ := loop_iv (b := bp t p n y1) (n := P - 1) (s := 1) (fun i s => s = ((i + 1 : Nat) : Int)) (fun r => r = .inr ()) (by omega) rfl
  (fun i s hi e => by
   subst e
   obtain ⟨y, hy, hmv⟩ := h.before (i + 1) (by omega) (by omega)
   have hyf := (eF hs _ _ _ h.fit hy).1
   have hyp := (fit_of hyf).pat
   have hyl := hyp.len
   refine .inl ⟨((i + 1 + 1 : Nat) : Int), ?_, rfl⟩
   unfold bp
   dsimp only
   have e1 : ltB ((i + 1 : Nat) : Int) y1.1.Period = true := decide_eq_true (by rw [h.is]; omega)
   rw [e1, run_eq hs h.fit (by omega), hy, up_nat (by omega)]
   have e2 : neB 0 0 = false := rfl
   simp only [cond_true, some_bind, e2, cond_false, bif_some, gtB_len]
   cases y with
   | nil => rfl
   | cons d0 y =>
    have hne := h.ne
    cases hpc : p with
    | nil => exact absurd hpc hne
    | cons c0 p' =>
     have hc0 := (hpp.cell c0 (by rw [hpc]; simp)).1
     have hd0 := (hyp.cell d0 (by simp)).1
     have i1 : idx (d0 :: y) 0 = some d0 := rfl
     have i2 : idx (c0 :: p') 0 = some c0 := rfl
     have e3 : decide ((d0 :: y) ≠ []) = true := decide_eq_true (by simp)
     have e4 : decide ((c0 :: p') ≠ []) = true := decide_eq_true (by simp)
     rw [e3, e4, i1, i2]
     simp only [cond_true, some_bind]
     rw [isub_in (by omega), isub_in (by omega)]
     have hok := fit_pat h.fit
     rw [hpc] at hok hmv hpl
     rcases shift_eq hok (dx := d0.X - c0.X) (dy := d0.Y - c0.Y) (by omega) (by omega) with ⟨_, es⟩ | es
     ·rw [es]
      have hsl : (shL (d0.X - c0.X) (d0.Y - c0.Y) (c0 :: p')).length ≤ 5000 := by unfold shL; rw [List.length_map]; exact hpl
      simp only [some_bind, eqB_self, cond_true]
      rw [same_eq hsl hyl]
      have e5 : decide (shL (d0.X - c0.X) (d0.Y - c0.Y) (c0 :: p') = d0 :: y) = false := by
       rw [decide_eq_false_iff_not]
       intro heq
       unfold mvB at hmv
       rw [decide_eq_false_iff_not] at hmv
       exact hmv ⟨by simp, by rw [← heq, home_shL]⟩
      rw [e5]
      rfl
     ·rw [es]
      rfl)
  (fun s e => by
   subst e
   refine ⟨_, ?_, rfl⟩
   have hpos := h.pos
   unfold bp
   dsimp only
   have e1 : ltB ((P - 1 + 1 : Nat) : Int) y1.1.Period = false := decide_eq_false (by rw [h.is]; omega)
   rw [e1]
   rfl)
 rw [hr, e]
theorem after_is {m : Motion} {P k : Nat} (hp : m.Period = P) (h1 : 1 ≤ P) (h6 : P ≤ 6) (hx : -12 ≤ m.DX ∧ m.DX ≤ 12) (hy : -12 ≤ m.DY ∧ m.DY ≤ 12) (hk1 : 1 ≤ k) (hk3 : k ≤ 3) : cn m (k : Int) = some (⟨((P * k : Nat) : Int), m.DX * k, m.DY * k⟩, 0) := by
 have hk : k = 1 ∨ k = 2 ∨ k = 3 := by omega
 have hmul : ∀ a : Int, -12 ≤ a ∧ a ≤ 12 → -36 ≤ a * (k : Int) ∧ a * (k : Int) ≤ 36 := fun a ha => by
  rcases hk with rfl | rfl | rfl <;> omega
 have hPk : (P : Int) * (k : Int) = ((P * k : Nat) : Int) := by rw [Int.natCast_mul]
 have hPk' : P * k ≤ 18 := by rcases hk with rfl | rfl | rfl <;> omega
 have mx := hmul _ hx
 have my := hmul _ hy
 unfold cn
 rw [proper_is, hp]
 have e1 : (decide (1 ≤ (P : Int)) && decide ((P : Int) ≤ 64)) = true := by
  simp only [Bool.and_eq_true, decide_eq_true_eq]
  omega
 have a1 := imax_is m.DX m.DY
 have a2 := imin_is m.DX m.DY
 have e2 : gtB (f5 m.DX m.DY) 1048576 = false := decide_eq_false (by omega)
 have e3 : ltB (imin m.DX m.DY) (-1048576) = false := decide_eq_false (by omega)
 have e4 : ltB (k : Int) 1 = false := decide_eq_false (by omega)
 have e5 : gtB (k : Int) 10000 = false := decide_eq_false (by omega)
 rw [e1, e2, e3, e4, e5]
 simp only [some_bind, aN, Bool.not_true, cond_false]
 rw [imul_in (a := (P : Int)) (by rw [hPk]; omega), imul_in (a := m.DX) (by omega), imul_in (a := m.DY) (by omega), hPk]
 have b1 := imax_is (m.DX * (k : Int)) (m.DY * (k : Int))
 have b2 := imin_is (m.DX * (k : Int)) (m.DY * (k : Int))
 have e6 : gtB ((P * k : Nat) : Int) 10000 = false := decide_eq_false (by omega)
 have e7 : gtB (f5 (m.DX * (k : Int)) (m.DY * (k : Int))) 1048576 = false := decide_eq_false (by omega)
 have e8 : ltB (imin (m.DX * (k : Int)) (m.DY * (k : Int))) (-1048576) = false := decide_eq_false (by omega)
 rw [e6, e7, e8]
 rfl
theorem true_true (t : Tree) (p : List Cell) (n : Int) (hn : 0 ≤ n ∧ n ≤ 255) : cU t p n = some true := by
 unfold cU
 obtain ⟨y, hy, hsm⟩ := eO t p
 rw [hy, awake34]
 simp only [some_bind, aN]
 cases y with
 | false => rfl
 | true =>
  obtain ⟨hs, hl⟩ := hsm rfl
  simp only [Bool.not_true, cond_false]
  rw [fH hs (by omega)]
  simp only [some_bind, bif_some]
  cases hc : (bif neB (aR t p 6).2.2 0 then true else !(aR t p 6).2.1) with
  | true =>
   have hz : (aR t p 6).1 = ⟨0, 0, 0⟩ := findA_zero (by
    cases he : neB (aR t p 6).2.2 0 with
    | true => exact .inl (by simpa [neB] using he)
    | false =>
     rw [he] at hc
     exact .inr (by simpa using hc))
   rw [hz]
   rfl
  | false =>
   have he : (aR t p 6).2.2 = 0 ∧ (aR t p 6).2.1 = true := by
    cases he : neB (aR t p 6).2.2 0 with
    | true => rw [he] at hc; cases hc
    | false =>
     rw [he] at hc
     exact ⟨by simpa [neB] using he, by simpa using hc⟩
   obtain ⟨P, hPer, hP6⟩ := findA_per hs he.1 he.2
   have hP6' : P ≤ 6 := by omega
   rw [true_loop hs hPer hP6']
   obtain ⟨k, hk3, hkn⟩ : ∃ k : Nat, k + 1 ≤ 3 ∧ irem n 3 = some (k : Int) := by
    refine ⟨(n.tmod 3).toNat, ?_, ?_⟩
    ·have h1 := Int.tmod_lt_of_pos n (b := 3) (by omega)
     omega
    ·unfold irem
     rw [if_neg (by decide)]
     have h2 := Int.tmod_nonneg (a := n) 3 hn.1
     congr 1
     omega
   have hconv : aM .i64 1 (fC .i64 (k : Int)) = ((k + 1 : Nat) : Int) := by
    have e : fC .i64 (k : Int) = (k : Int) := i64_in (by omega)
    rw [e, iadd_in (by omega)]
    omega
   rw [hkn]
   simp only [cond_false, some_bind]
   have hb := hPer.bound hs
   rw [hconv, after_is hPer.is hPer.pos hP6' (by omega) (by omega) (by omega) hk3]
   have e0 : neB 0 0 = false := rfl
   simp only [some_bind, e0, cond_false]
   have hPk : P * (k + 1) ≤ 18 := by
    have : k = 0 ∨ k = 1 ∨ k = 2 := by omega
    rcases this with rfl | rfl | rfl <;> omega
   rw [run_eq hs hPer.fit (by omega)]
   have hmul : ∀ a : Int, -12 ≤ a ∧ a ≤ 12 → -36 ≤ a * ((k + 1 : Nat) : Int) ∧ a * ((k + 1 : Nat) : Int) ≤ 36 := fun a ha => by
    have : k = 0 ∨ k = 1 ∨ k = 2 := by omega
    rcases this with rfl | rfl | rfl <;> omega
   have mx := hmul (aR t p 6).1.DX (by omega)
   have my := hmul (aR t p 6).1.DY (by omega)
   have e5 : neB 5 0 = true := rfl
   have hlen := (fit_of hPer.fit).pat.len
   rcases shift_eq (fit_pat hPer.fit) (dx := (aR t p 6).1.DX * ((k + 1 : Nat) : Int)) (dy := (aR t p 6).1.DY * ((k + 1 : Nat) : Int)) (by omega) (by omega) with ⟨_, es⟩ | es
   ·rw [es]
    rcases hPer.many hs k with h5 | h6
    ·rw [h5]
     rfl
    ·rw [h6]
     have hsl : (shL ((aR t p 6).1.DX * ((k + 1 : Nat) : Int)) ((aR t p 6).1.DY * ((k + 1 : Nat) : Int)) p).length ≤ 5000 := by unfold shL; rw [List.length_map]; exact hlen
     simp only [some_bind, e0, cond_false, gtB_len]
     rw [same_eq hsl hsl, decide_eq_true hPer.ne]
     simp
   ·rw [es]
    rcases hPer.many hs k with h5 | h6
    ·rw [h5]
     rfl
    ·rw [h6]
     rfl
theorem iterS_nil {t : Tree} (hs : Sz t) (hp : fitE t [] = 0) : ∀ n : Nat, aP t n [] = ([], 0)
 | 0 => rfl
 | n + 1 => by
  unfold aP
  rw [stepS_nil hs hp]
  exact iterS_nil hs hp n
theorem Per.first {t : Tree} {p : List Cell} {m : Motion} {P : Nat} (h : Per t p m P) (hs : Sz t) : ∃ y1, aA t p = (y1, 0) ∧ fitE t y1 = 0 ∧ y1 ≠ [] ∧ aP t 1 p = (y1, 0) ∧ ∀ g, 1 ≤ g → aP t (g + 1) p = aP t g y1 := by
 obtain ⟨Q, rfl⟩ : ∃ Q, P = Q + 1 := ⟨P - 1, by have := h.pos; omega⟩
 have hh := h.here
 have e1 : aP t (Q + 1) p = bif neB (aA t p).2 0 then ([], (aA t p).2) else aP t Q (aA t p).1 := rfl
 rw [e1] at hh
 cases he : neB (aA t p).2 0 with
 | true =>
  rw [he] at hh
  have h0 : (aA t p).2 ≠ 0 := by simpa [neB] using he
  simp only [cond_true, Prod.mk.injEq] at hh
  exact absurd hh.2 h0
 | false =>
  rw [he] at hh
  have h0 : (aA t p).2 = 0 := by simpa [neB] using he
  have hf := bT hs h.fit h0
  have h1 : aP t 1 p = ((aA t p).1, 0) := by
   unfold aP
   rw [he]
   rfl
  refine ⟨(aA t p).1, by rw [← h0], hf, fun e => ?_, h1, fun g _ => ?_⟩
  ·simp only [cond_false] at hh
   rw [e] at hh hf
   rw [iterS_nil hs hf] at hh
   simp only [Prod.mk.injEq, and_true] at hh
   exact shL_ne h.ne hh.symm
  ·have e2 : aP t (g + 1) p = bif neB (aA t p).2 0 then ([], (aA t p).2) else aP t g (aA t p).1 := rfl
   rw [e2, he]
   rfl
end Go.Proofs.YtdjclgfbggfpaaaGreatDoor
