/-
  Plain laws: PeriodTrue and PeriodPhases.
-/
import Derived.Test.YtdjclgfbggfpaaaGreatDoorPt0
import Derived.Test.YtdjclgfbggfpaaaGreatDoorPk
namespace Go.Proofs.YtdjclgfbggfpaaaGreatDoor
open Go.AM Go.Proofs
theorem shift_loop {p : List Cell} (h : Pat p) {dx dy : Int} (hx : -2097152 ≤ dx ∧ dx ≤ 2097152) (hy : -2097152 ≤ dy ∧ dy ≤ 2097152) :
  (InR (shL dx dy p) ∧ ar (bm dx dy p) aG (0, p) = some (.inr (shL dx dy p))) ∨ (¬ InR (shL dx dy p) ∧ ar (bm dx dy p) aG (0, p) = some (.inl ([], 5))) := by
 have hl := h.len
 obtain ⟨t, ht, hq⟩ := bD (b := bm dx dy p) (n := p.length) (s := (0, p)) (fun i s => s = ((i : Int), shL dx dy (p.take i) ++ p.drop i) ∧ InR (shL dx dy (p.take i)))
  (fun t => (InR (shL dx dy p) ∧ t = .inr (shL dx dy p)) ∨ (¬ InR (shL dx dy p) ∧ t = .inl ([], 5))) (by omega)
  ⟨by simp [shL], fun c hc => by simp [shL] at hc⟩
  (fun i s hi ⟨h1, h2⟩ => by
   subst h1
   have hxi : p[i]? = some p[i] := List.getElem?_eq_getElem hi
   have hc := (h.cell p[i] (List.getElem_mem hi)).1
   have hA : (shL dx dy (p.take i)).length = i := by unfold shL; rw [List.length_map, List.length_take]; omega
   have hg : ∀ (z : Cell) (B : List Cell), (shL dx dy (p.take i) ++ z :: B)[i]? = some z := fun z B => by
    rw [List.getElem?_append_right (by omega), hA, Nat.sub_self]
    rfl
   have hset : ∀ (z w : Cell) (B : List Cell), (shL dx dy (p.take i) ++ z :: B).set i w = shL dx dy (p.take i) ++ w :: B := fun z w B => by
    rw [List.set_append_right _ _ (by omega), hA, Nat.sub_self]
    rfl
   rw [List.drop_eq_getElem_cons hi]
   obtain ⟨w, hw⟩ : ∃ w, bm dx dy p ((i : Int), shL dx dy (p.take i) ++ p[i] :: p.drop (i + 1)) = w := ⟨_, rfl⟩
   rw [hw]
   unfold bm at hw
   dsimp only at hw
   rw [aw, decide_eq_true hi, aH, hg, bi (by omega)] at hw
   simp only [cond_true, a8, Int.toNat_natCast] at hw
   rw [hset, aH, hg] at hw
   simp only [a8] at hw
   rw [hset, aH, hg, b0 (by omega), b0 (by omega)] at hw
   simp only [a8, b8, placed_eq, aR] at hw
   have hsnoc : shL dx dy (p.take (i + 1)) = shL dx dy (p.take i) ++ [⟨p[i].X + dx, p[i].Y + dy, p[i].S⟩] := by
    unfold shL
    rw [List.take_add_one, hxi, Option.toList_some, List.map_append]
    rfl
   cases hp : bZ (p[i].X + dx) (p[i].Y + dy) with
   | true =>
    rw [hp] at hw
    refine .inl ⟨_, hw.symm, ?_, ?_⟩
    ·rw [hsnoc, List.append_assoc]
     rfl
    ·rw [hsnoc]
     intro c hc
     rcases List.mem_append.1 hc with hc | hc
     ·exact h2 c hc
     ·rw [List.mem_singleton] at hc
      subst hc
      exact hp
   | false =>
    rw [hp] at hw
    refine .inr ⟨_, hw.symm, .inr ⟨fun hin => ?_, rfl⟩⟩
    have := hin (shC dx dy p[i]) (List.mem_map.2 ⟨_, List.getElem_mem hi, rfl⟩)
    unfold shC at this
    dsimp only at this
    rw [hp] at this
    cases this)
  (fun s ⟨h1, h2⟩ => by
   subst h1
   rw [List.take_length] at h2
   refine ⟨_, ?_, .inl ⟨h2, rfl⟩⟩
   unfold bm
   dsimp only
   rw [aw, decide_eq_false (Nat.lt_irrefl _), List.take_length, List.drop_length, List.append_nil]
   rfl)
 rw [ht]
 rcases hq with ⟨h1, rfl⟩ | ⟨h1, rfl⟩
 ·exact .inl ⟨h1, rfl⟩
 ·exact .inr ⟨h1, rfl⟩
theorem shift_eq {p : List Cell} (hp : fY p = true) {dx dy : Int} (hx : -2097152 ≤ dx ∧ dx ≤ 2097152) (hy : -2097152 ≤ dy ∧ dy ≤ 2097152) :
  (InR (shL dx dy p) ∧ bA p dx dy = some (shL dx dy p, 0)) ∨ bA p dx dy = some ([], 5) := by
 have h := pat_of hp
 have hl := h.len
 unfold bA
 rw [pat_eq (by omega), hp]
 simp only [a8, aR, Bool.not_true, cond_false, aO]
 have e1 : gtB (fW dx dy) 2097152 = false := decide_eq_false (by have := iE dx dy; omega)
 have e2 : ltB (imin dx dy) (-2097152) = false := decide_eq_false (by have := imin_is dx dy; omega)
 rw [e1, e2]
 have e3 : b9 p = some p := by
  unfold b9 gf
  rw [if_pos, List.nil_append]
  simp only [List.length_nil]
  omega
 rw [e3]
 simp only [cond_false, a8]
 rcases shift_loop h hx hy with ⟨h1, e⟩ | ⟨_, e⟩ <;> rw [e]
 ·exact .inl ⟨h1, rfl⟩
 ·exact .inr rfl
theorem shL_add (a b c d : Int) (p : List Cell) : shL a b (shL c d p) = shL (a + c) (b + d) p := by
 unfold shL
 rw [List.map_map]
 refine List.map_congr_left fun x _ => ?_
 unfold shC
 simp only [Function.comp]
 congr 1 <;> omega
theorem findS_has {t : Tree} {q : List Cell} {m : Motion} {P : Nat} (hs : Sz t) (hq : aU t q = 0) (hne : q ≠ []) (hm : m.Period = P)
  (hb : ∀ g, 1 ≤ g → g < P → aT t g q = ([], 5) ∨ ∃ y, aT t g q = (y, 0) ∧ mvB q y = false) (hP : aT t P q = ([], 5) ∨ aT t P q = (shL m.DX m.DY q, 0)) :
  ∀ (n g : Nat) (q' : List Cell), aT t g q = (q', 0) → aU t q' = 0 → g + n = P → 1 ≤ n → ∃ r, dW t q n q' ((g + 1 : Nat) : Int) = .inl r ∧ (r.2.2 = 5 ∨ r = (m, true, 0))
 | 0, _, _, _, _, _, h => by omega
 | n + 1, g, q', hi, hq', hg, _ => by
  have hnext : aT t (g + 1) q = bif neB (aC t q').2 0 then ([], (aC t q').2) else ((aC t q').1, 0) := by
   rw [i4 t g 1 q q' hi]
   rfl
  unfold dW
  cases he : neB (aC t q').2 0 with
  | true =>
   rw [he] at hnext
   have h0 : (aC t q').2 ≠ 0 := by simpa [neB] using he
   refine ⟨_, rfl, .inl ?_⟩
   dsimp only
   by_cases hgP : g + 1 = P
   ·rcases hP with e | e <;> rw [← hgP, hnext] at e
    ·simp only [cond_true, Prod.mk.injEq] at e
     exact e.2
    ·simp only [cond_true, Prod.mk.injEq] at e
     exact absurd e.2 h0
   ·rcases hb (g + 1) (by omega) (by omega) with e | ⟨y, e, _⟩ <;> rw [hnext] at e
    ·simp only [cond_true, Prod.mk.injEq] at e
     exact e.2
    ·simp only [cond_true, Prod.mk.injEq] at e
     exact absurd e.2 h0
  | false =>
   rw [he] at hnext
   simp only [cond_false] at hnext ⊢
   have h0 : (aC t q').2 = 0 := by simpa [neB] using he
   by_cases hgP : g + 1 = P
   ·have ey : (aC t q').1 = shL m.DX m.DY q := by
     rcases hP with e | e <;> rw [← hgP, hnext] at e
     ·simp only [Prod.mk.injEq] at e
      exact absurd e.2 (by decide)
     ·simp only [Prod.mk.injEq] at e
      exact e.1
    have hmv : mvB q (aC t q').1 = true := by
     unfold mvB
     rw [decide_eq_true_eq, ey]
     exact ⟨hne, home_shL _ _ _⟩
    rw [hmv]
    refine ⟨_, rfl, .inr ?_⟩
    rw [ey]
    cases q with
    | nil => exact absurd rfl hne
    | cons c q =>
     have e1 : hdC (shL m.DX m.DY (c :: q)) = shC m.DX m.DY c := rfl
     have e2 : hdC (c :: q) = c := rfl
     rw [e1, e2]
     unfold shC
     cases m
     dsimp only at hm ⊢
     simp only [Prod.mk.injEq, Motion.mk.injEq, and_true]
     refine ⟨?_, ?_, ?_⟩ <;> omega
   ·rcases hb (g + 1) (by omega) (by omega) with e | ⟨y, e, hy⟩ <;> rw [hnext] at e
    ·simp only [Prod.mk.injEq] at e
     exact absurd e.2 (by decide)
    ·simp only [Prod.mk.injEq, and_true] at e
     rw [e, hy]
     simp only [cond_false]
     rw [show ((g + 1 : Nat) : Int) + 1 = ((g + 1 + 1 : Nat) : Int) by omega]
     rw [e] at hnext
     exact findS_has hs hq hne hm hb hP n (g + 1) y hnext (by rw [← e]; exact cp hs hq' h0) (by omega) (by omega)
theorem has_is {t : Tree} {q : List Cell} {m : Motion} {P : Nat} (hs : Sz t) (hq : aU t q = 0) (hne : q ≠ []) (hm : m.Period = P) (hP1 : 1 ≤ P) (hP6 : P ≤ 6)
  (hb : ∀ g, 1 ≤ g → g < P → aT t g q = ([], 5) ∨ ∃ y, aT t g q = (y, 0) ∧ mvB q y = false) (hP : aT t P q = ([], 5) ∨ aT t P q = (shL m.DX m.DY q, 0)) :
  be t q m = some (false, 5) ∨ be t q m = some (true, 0) := by
 have hl := (bh hq).pat.len
 obtain ⟨r, hr, hr'⟩ := findS_has hs hq hne hm hb hP P 0 q rfl hq (by omega) hP1
 have hA : aV t q m.Period = r := by
  unfold aV
  have e1 : neB (aU t q) 0 = false := by simpa [neB] using hq
  have e2 : (!(decide (1 ≤ m.Period) && decide (m.Period ≤ 64))) = false := by
   rw [hm]
   simp only [Bool.not_eq_false', Bool.and_eq_true, decide_eq_true_eq]
   omega
  rw [e1, e2]
  simp only [cond_false]
  rw [hm, Int.toNat_natCast]
  rw [show (((0 : Nat) + 1 : Nat) : Int) = 1 from rfl] at hr
  rw [hr]
 unfold be
 rw [gR hs (by omega), hA]
 rcases hr' with h5 | rfl
 ·left
  have hf : r.2.1 = false := by
   have := findA_err (t := t) (p := q) (most := m.Period) (by rw [hA, h5]; decide)
   rw [hA] at this
   exact this
  simp only [a8]
  rw [hf, h5]
  rfl
 ·right
  simp only [a8, cond_true, motion_self]
theorem iterS_nil {t : Tree} (hs : Sz t) (hp : aU t [] = 0) : ∀ n : Nat, aT t n [] = ([], 0)
 | 0 => rfl
 | n + 1 => by
  unfold aT
  rw [stepS_nil hs hp]
  exact iterS_nil hs hp n
theorem mvB_sh (a b : Int) (p y : List Cell) : mvB (shL a b p) (shL a b y) = mvB p y := by
 unfold mvB
 rw [home_shL, home_shL]
 congr 1
 simp only [eq_iff_iff, and_congr_left_iff]
 intro _
 exact ⟨fun h e => h (by rw [e]; rfl), shL_ne⟩
theorem Per.first {t : Tree} {p : List Cell} {m : Motion} {P : Nat} (h : Per t p m P) (hs : Sz t) : ∃ y1, aC t p = (y1, 0) ∧ aU t y1 = 0 ∧ y1 ≠ [] ∧ aT t 1 p = (y1, 0) ∧ ∀ g, 1 ≤ g → aT t (g + 1) p = aT t g y1 := by
 obtain ⟨Q, rfl⟩ : ∃ Q, P = Q + 1 := ⟨P - 1, by have := h.pos; omega⟩
 have hh := h.here
 have e1 : aT t (Q + 1) p = bif neB (aC t p).2 0 then ([], (aC t p).2) else aT t Q (aC t p).1 := rfl
 rw [e1] at hh
 cases he : neB (aC t p).2 0 with
 | true =>
  rw [he] at hh
  have h0 : (aC t p).2 ≠ 0 := by simpa [neB] using he
  simp only [cond_true, Prod.mk.injEq] at hh
  exact absurd hh.2 h0
 | false =>
  rw [he] at hh
  have h0 : (aC t p).2 = 0 := by simpa [neB] using he
  have hf := cp hs h.fit h0
  have h1 : aT t 1 p = ((aC t p).1, 0) := by
   unfold aT
   rw [he]
   rfl
  refine ⟨(aC t p).1, by rw [← h0], hf, fun e => ?_, h1, fun g _ => ?_⟩
  ·simp only [cond_false] at hh
   rw [e] at hh hf
   rw [iterS_nil hs hf] at hh
   simp only [Prod.mk.injEq, and_true] at hh
   exact shL_ne h.ne hh.symm
  ·have e2 : aT t (g + 1) p = bif neB (aC t p).2 0 then ([], (aC t p).2) else aT t g (aC t p).1 := rfl
   rw [e2, he]
   rfl
theorem sh_ext {a b : Int} {p y : List Cell} (hp : Pat p) (hy : Pat y) (h : bO y = bO (shL a b p)) : y = shL a b p := by
 refine sorted_ext hy.sorted (sh_sorted hp.sorted) fun c => ?_
 rw [mem_getS hy, h]
 constructor
 ·rintro ⟨h1, h2⟩
  obtain ⟨d, hd, e1, e2, e3⟩ := getS_mem (by rw [h1]; exact h2)
  have : d = c := by
   cases c; cases d
   simp_all
  rw [← this]
  exact hd
 ·intro hc
  refine ⟨getS_of (sh_sorted hp.sorted) hc, ?_⟩
  obtain ⟨d, hd, rfl⟩ := List.mem_map.1 hc
  have := (hp.cell d hd).2
  unfold shC
  dsimp only
  omega
theorem next_has {t : Tree} {p : List Cell} {m : Motion} {P : Nat} (h : Per t p m P) (hs : Sz t) (hP6 : P ≤ 6) {y1 : List Cell} (hy1 : aT t 1 p = (y1, 0)) (hf1 : aU t y1 = 0) (hne1 : y1 ≠ []) (hadd : ∀ g, 1 ≤ g → aT t (g + 1) p = aT t g y1) :
  be t y1 m = some (false, 5) ∨ be t y1 m = some (true, 0) := by
 refine has_is hs hf1 hne1 h.is h.pos hP6 (fun g hg1 hg2 => ?_) ?_
 ·-- no smaller period
  right
  obtain ⟨z, hz⟩ : ∃ z, aT t (g + 1) p = (z, 0) := by
   by_cases hgP : g + 1 = P
   ·rw [hgP]; exact ⟨_, h.here⟩
   ·obtain ⟨z, hz, _⟩ := h.before (g + 1) (by omega) (by omega)
    exact ⟨z, hz⟩
  refine ⟨z, by rw [← hadd g hg1]; exact hz, ?_⟩
  cases hmv : mvB y1 z with
  | false => rfl
  | true =>
   exfalso
   unfold mvB at hmv
   rw [decide_eq_true_eq] at hmv
   have ez := shL_home hmv.1 hmv.2
   revert ez
   generalize (hdC z).X - (hdC y1).X = a
   generalize (hdC z).Y - (hdC y1).Y = b
   intro ez
   obtain ⟨w, hw, hwm⟩ := h.before g hg1 hg2
   have s1 := (fh hs _ _ _ h.fit hy1).2
   have s2 := (fh hs _ _ _ h.fit hz).2
   obtain ⟨fw, s3⟩ := fh hs _ _ _ h.fit hw
   have s4 := (fh hs _ _ _ h.fit h.here).2
   rw [ix] at s4
   rw [ez, ix, s1] at s2
   obtain ⟨Q, rfl⟩ : ∃ Q, P = Q + 1 := ⟨P - 1, by omega⟩
   have s5 := congrArg (itF t Q) s2
   rw [itF_sh, ← itF_add, ← itF_add, Nat.add_comm 1 Q, ← s4, show g + 1 + Q = Q + 1 + g by omega, itF_add t (Q + 1) g, ← s4, itF_sh] at s5
   rw [shF_comm] at s5
   have s6 := shF_inj s5
   have ew : w = shL a b p := sh_ext (bh h.fit).pat (bh fw).pat (by rw [s3, ix, ← s6])
   unfold mvB at hwm
   rw [decide_eq_false_iff_not] at hwm
   exact hwm ⟨h.ne, by rw [ew, home_shL]⟩
 ·have e : aT t (P + 1) p = aT t 1 (shL m.DX m.DY p) := i4 t P 1 p _ h.here
  rw [hadd P h.pos] at e
  rw [e]
  have hin : InR (shL m.DX m.DY p) := inR_pat (bh (fh hs _ _ _ h.fit h.here).1).pat
  rcases iterS_sh hs 1 p y1 h.fit hy1 hin with h5 | ⟨h6, _⟩
  ·exact .inl h5
  ·exact .inr h6
theorem moved_has {t : Tree} {p : List Cell} {m : Motion} {P : Nat} (h : Per t p m P) (hs : Sz t) (hP6 : P ≤ 6) {a b : Int} (hin : InR (shL a b p)) :
  be t (shL a b p) m = some (false, 5) ∨ be t (shL a b p) m = some (true, 0) := by
 have hf := bh h.fit
 refine has_is hs (fitE_of (fit_sh hf hin) (fitE_quiet h.fit)) (shL_ne h.ne) h.is h.pos hP6 (fun g hg1 hg2 => ?_) ?_
 ·obtain ⟨y, hy, hm⟩ := h.before g hg1 hg2
  rcases iterS_sh hs g p y h.fit hy hin with h5 | ⟨h6, _⟩
  ·exact .inl h5
  ·exact .inr ⟨_, h6, by rw [mvB_sh, hm]⟩
 ·rcases iterS_sh hs P p _ h.fit h.here hin with h5 | ⟨h6, _⟩
  ·exact .inl h5
  ·right
   rw [h6, shL_add, shL_add, Int.add_comm a, Int.add_comm b]
theorem phases_true (t : Tree) (p : List Cell) (move : Int × Int) (hm : (-128 ≤ move.1 ∧ move.1 ≤ 127) ∧ (-128 ≤ move.2 ∧ move.2 ≤ 127)) : cH t p move = some true := by
 unfold cH
 obtain ⟨y, hy, hsm⟩ := fL t p
 rw [hy, awake34]
 simp only [a8, aR]
 cases y with
 | false => rfl
 | true =>
  obtain ⟨hs, hl⟩ := hsm rfl
  simp only [Bool.not_true, cond_false]
  rw [gR hs (by omega)]
  simp only [a8, aO]
  cases hc : (bif neB (aV t p 6).2.2 0 then true else !(aV t p 6).2.1) with
  | true => rfl
  | false =>
   have he : (aV t p 6).2.2 = 0 ∧ (aV t p 6).2.1 = true := by
    cases he : neB (aV t p 6).2.2 0 with
    | true => rw [he] at hc; cases hc
    | false =>
     rw [he] at hc
     exact ⟨by simpa [neB] using he, by simpa using hc⟩
   obtain ⟨P, hPer, hP6⟩ := findA_per hs he.1 he.2
   obtain ⟨y1, e1, e2, e3, e4, e5⟩ := hPer.first hs
   have c1 : gH .i64 move.1 = move.1 := i64_in (by omega)
   have c2 : gH .i64 move.2 = move.2 := i64_in (by omega)
   rw [(dM hs (q := p) (by omega)).1, e1, c1, c2]
   have z0 : neB 0 0 = false := rfl
   simp only [cond_false, a8, z0]
   rcases shift_eq (fit_pat hPer.fit) (dx := move.1) (dy := move.2) (by omega) (by omega) with ⟨hin, es⟩ | es
   ·rw [es]
    simp only [cond_false, a8, z0]
    rcases next_has hPer hs (by omega) e4 e2 e3 e5 with n1 | n1 <;> rcases moved_has hPer hs (by omega) hin with n2 | n2 <;> rw [n1, n2] <;> rfl
   ·rw [es]
    rfl
end Go.Proofs.YtdjclgfbggfpaaaGreatDoor
