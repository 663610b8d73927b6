/- Plain laws: one step of the reference: From by insertion; the places it looks at; the state of a place. -/
import Derived.Test.YtfpjnmhdbgbmmaaGreatDoorPsx1
namespace Go.Proofs.YtfpjnmhdbgbmmaaGreatDoor
open Go.AM Go.Proofs
def gm (c x : Cell) (s : Bool × List Cell) : Option (Bool × List Cell) := bif (!s.1 && fI c x) then some (true, s.2 ++ [c, x]) else some (s.1, s.2 ++ [x])
theorem ins_true {c : Cell} : ∀ (p : List Cell) (i : Nat) (out : List Cell), runL (fun _ (x : Cell) s => (gm c x s).map Lp.next) (fun s => some s) p i (true, out) = some (true, out ++ p)
 | [], _, out => by simp [runL]
 | x :: p, i, out => by
  have e : gm c x (true, out) = some (true, out ++ [x]) := rfl
  rw [runL, e]
  simp only [Option.map_some]
  rw [ins_true p (i + 1) (out ++ [x]), List.append_assoc]
  rfl
theorem ins_false {c : Cell} : ∀ (p : List Cell) (i : Nat) (out : List Cell), ∃ d l, runL (fun _ (x : Cell) s => (gm c x s).map Lp.next) (fun s => some s) p i (false, out) = some (d, l) ∧ (bif !d then l ++ [c] else l) = out ++ insS aB c p
 | [], _, out => ⟨false, out, rfl, rfl⟩
 | x :: p, i, out => by
  unfold insS
  cases hc : fI c x with
  | true =>
   have e : gm c x (false, out) = some (true, out ++ [c, x]) := by unfold gm; rw [hc]; rfl
   refine ⟨true, out ++ [c, x] ++ p, ?_, ?_⟩
   ·rw [runL, e]
    simp only [Option.map_some]
    exact ins_true p _ _
   ·rw [if_pos ((cf_lt _ _).2 hc)]
    simp
  | false =>
   have e : gm c x (false, out) = some (false, out ++ [x]) := by unfold gm; rw [hc]; rfl
   obtain ⟨d, l, h1, h2⟩ := ins_false (c := c) p (i + 1) (out ++ [x])
   refine ⟨d, l, ?_, ?_⟩
   ·rw [runL, e]
    simp only [Option.map_some]
    exact h1
   ·rw [h2, if_neg (fun h => by rw [cf_lt, hc] at h; cases h)]
    simp
theorem app_in {l : List Cell} (hl : l.length ≤ 5000000) (d : Cell) : dr 24 l [d] = some (l ++ [d]) := by
 unfold dr
 rw [if_pos]
 simp only [List.length_cons, List.length_nil]
 omega
theorem insert_eq {p : List Cell} (hl : p.length ≤ 1000000) (c : Cell) : fE p c = some (insS aB c p) := by
 obtain ⟨d, l, h1, h2⟩ := ins_false (c := c) p 0 []
 obtain ⟨r, hr, e⟩ := bq (b := dm p c) (n := p.length) (s := (false, 0, []))
  (fun i s => s.2.1 = (i : Int) ∧ s.2.2.length ≤ 2 * i ∧ runL (fun _ (x : Cell) s => (gm c x s).map Lp.next) (fun s => some s) (p.drop i) i (s.1, s.2.2) = some (d, l)) (fun r => r = (d, l)) (by omega)
  ⟨rfl, by simp, h1⟩
  (fun i s hi ⟨h1, h2, h3⟩ => by
   obtain ⟨dn, a, out⟩ := s
   dsimp only at h1 h2 h3
   subst h1
   have hx : p[i]? = some p[i] := List.getElem?_eq_getElem hi
   rw [List.drop_eq_getElem_cons hi, runL] at h3
   refine .inl ?_
   have hb : dm p c (dn, (i : Int), out) = (gm c p[i] (dn, out)).map fun s => Lp.next (s.1, ((i + 1 : Nat) : Int), s.2) := by
    unfold dm gm
    dsimp only
    rw [ltB_nat, decide_eq_true hi, cond_true, idx_nat, hx, up_nat (by omega)]
    simp only [some_bind, beforeR_eq, aD]
    cases dn with
    | true =>
     simp only [Bool.not_true, cond_false, some_bind, Bool.false_and]
     rw [app_in (by omega)]
     rfl
    | false =>
     cases fI c p[i] with
     | true =>
      simp only [Bool.not_false, cond_true, some_bind, Bool.true_and]
      rw [app_in (by omega)]
      simp only [some_bind]
      rw [app_in (by simp; omega)]
      simp
     | false =>
      simp only [Bool.not_false, cond_true, cond_false, some_bind, Bool.true_and]
      rw [app_in (by omega)]
      rfl
   have hs : ∃ d' out', gm c p[i] (dn, out) = some (d', out') ∧ out'.length ≤ 2 * (i + 1) := by
    unfold gm
    cases (!dn && fI c p[i]) with
    | true => exact ⟨_, _, rfl, by simp; omega⟩
    | false => exact ⟨_, _, rfl, by simp; omega⟩
   obtain ⟨d', out', e, hlen⟩ := hs
   rw [e] at hb h3
   exact ⟨_, hb, rfl, hlen, h3⟩)
  (fun s ⟨h1, h2, h3⟩ => by
   obtain ⟨dn, a, out⟩ := s
   dsimp only at h1 h2 h3
   subst h1
   rw [List.drop_length] at h3
   refine ⟨(dn, out), ?_, Option.some.inj h3⟩
   unfold dm
   dsimp only
   rw [ltB_nat, decide_eq_false (Nat.lt_irrefl _)]
   rfl)
 subst e
 have hlen : l.length ≤ 5000000 := by
  have h4 := congrArg List.length h2
  have h5 := (jA (cf := aB) c p).length_eq
  cases d <;> simp at h4 h5 <;> omega
 unfold fE
 rw [hr]
 simp only [some_bind, aD]
 simp only [List.nil_append] at h2
 cases d with
 | true =>
  simp only [Bool.not_true, cond_false, some_bind]
  rw [← h2]
  rfl
 | false =>
  simp only [Bool.not_false, cond_true]
  rw [app_in hlen]
  simp only [some_bind]
  rw [← h2]
  rfl
def ig : List Cell → List Cell → List Cell
 | acc, [] => acc
 | acc, c :: l => ig (insS aB c acc) l
theorem jH : ∀ (l acc : List Cell), (ig acc l).Perm (acc ++ l)
 | [], acc => by simp [ig]
 | c :: l, acc => by
  unfold ig
  refine (jH l _).trans ?_
  refine ((jA c acc).append_right l).trans ?_
  rw [List.cons_append]
  exact List.perm_middle.symm
theorem kl : ∀ (l acc : List Cell), acc.Pairwise (fun a b => fI a b = true) → (acc ++ l).Pairwise Dist → (ig acc l).Pairwise fun a b => fI a b = true
 | [], acc, h, _ => h
 | c :: l, acc, h, hd => by
  unfold ig
  have hd' := List.pairwise_append.1 hd
  have hsym : ∀ a b : Cell, Dist a b → Dist b a := fun a b h ⟨e1, e2⟩ => h ⟨e1.symm, e2.symm⟩
  refine kl l _ (ins_sorted h fun y hy => hsym _ _ (hd'.2.2 y hy c (by simp))) ?_
  have hp : ((insS aB c acc) ++ l).Perm (acc ++ c :: l) := ((jA c acc).append_right l).trans (by rw [List.cons_append]; exact List.perm_middle.symm)
  exact hp.symm.pairwise hd fun {a b} h => hsym a b h
theorem fromR_one {l : List Cell} (hl : l.length < 1099511627776) (hc : ∀ c ∈ l, cS c.X c.Y = true ∧ 1 ≤ c.S ∧ c.S < 8) : ak (ew l) aA 0 = some (.inr ()) := by
 obtain ⟨r, hr, e⟩ := bq (b := ew l) (n := l.length) (s := 0) (fun i s => s = (i : Int)) (fun r => r = .inr ()) hl rfl
  (fun i s hi e => by
   subst e
   have hx : l[i]? = some l[i] := List.getElem?_eq_getElem hi
   obtain ⟨h1, h2, h3⟩ := hc l[i] (List.getElem_mem hi)
   refine .inl ⟨((i + 1 : Nat) : Int), ?_, rfl⟩
   unfold ew
   dsimp only
   rw [ltB_nat, decide_eq_true hi, cond_true, idx_nat, hx, up_nat (by omega)]
   have e1 : ltB l[i].S 0 = false := decide_eq_false (by omega)
   have e2 : geB l[i].S 8 = false := decide_eq_false (by omega)
   simp only [some_bind, placeR_eq, h1, aD, Bool.not_true, cond_false, e1, e2])
  (fun s e => by
   subst e
   refine ⟨_, ?_, rfl⟩
   unfold ew
   dsimp only
   rw [ltB_nat, decide_eq_false (Nat.lt_irrefl _)]
   rfl)
 rw [hr, e]
theorem fsort_snoc : ∀ (l acc : List Cell) (c : Cell), ig acc (l ++ [c]) = insS aB c (ig acc l)
 | [], _, _ => rfl
 | x :: l, acc, c => by
  rw [List.cons_append, ig, ig, fsort_snoc l]
theorem fromR_two {l : List Cell} (hl : l.length ≤ 1000000) (hc : ∀ c ∈ l, c.S ≠ 0) : ak (ey l) aA ([], 0) = some (ig [] l) := by
 obtain ⟨r, hr, e⟩ := bq (b := ey l) (n := l.length) (s := ([], 0)) (fun i s => s = (ig [] (l.take i), (i : Int))) (fun r => r = ig [] l) (by omega) rfl
  (fun i s hi e => by
   subst e
   have hx : l[i]? = some l[i] := List.getElem?_eq_getElem hi
   have h1 : neB l[i].S 0 = true := by simpa [neB] using hc l[i] (List.getElem_mem hi)
   refine .inl ⟨_, ?_, rfl⟩
   unfold ey
   dsimp only
   rw [ltB_nat, decide_eq_true hi, cond_true, idx_nat, hx, up_nat (by omega)]
   have hle : (ig [] (l.take i)).length ≤ 1000000 := by
    rw [(jH _ _).length_eq]
    simp
    omega
   simp only [some_bind, h1, cond_true, insert_eq hle]
   rw [List.take_add_one, hx, Option.toList_some, fsort_snoc])
  (fun s e => by
   subst e
   refine ⟨_, ?_, rfl⟩
   unfold ey
   dsimp only
   rw [ltB_nat, decide_eq_false (Nat.lt_irrefl _), List.take_length]
   rfl)
 rw [hr, e]
theorem fromR_three {y : List Cell} (hl : y.length < 1099511627776) (hs : y.Pairwise fun a b => fI a b = true) : ak (ep y) aA 1 = some (.inr ()) := by
 obtain ⟨r, hr, e⟩ := bq (b := ep y) (n := y.length - 1) (s := 1) (fun i s => s = ((i + 1 : Nat) : Int)) (fun r => r = .inr ()) (by omega) rfl
  (fun i s hi e => by
   subst e
   have h0 : y[i]? = some y[i] := List.getElem?_eq_getElem (by omega)
   have h1 : y[i + 1]? = some y[i + 1] := List.getElem?_eq_getElem (by omega)
   refine .inl ⟨((i + 1 + 1 : Nat) : Int), ?_, rfl⟩
   unfold ep
   dsimp only
   rw [ltB_nat, decide_eq_true (by omega), cond_true, dn_nat (by omega), idx_nat, h0, idx_nat, h1, up_nat (by omega)]
   have hb := List.pairwise_iff_getElem.1 hs i (i + 1) (by omega) (by omega) (by omega)
   simp only [some_bind, beforeR_eq, hb, aD, Bool.not_true, cond_false])
  (fun s e => by
   subst e
   refine ⟨_, ?_, rfl⟩
   unfold ep
   dsimp only
   rw [ltB_nat, decide_eq_false (by omega)]
   rfl)
 rw [hr, e]
theorem fromR_eq {l : List Cell} (hl : l.length ≤ 1000000) (hc : ∀ c ∈ l, cS c.X c.Y = true ∧ 1 ≤ c.S ∧ c.S < 8) (hd : l.Pairwise Dist) :
  iG l = some (bif gtB (ah (ig [] l)) 5000 then ([], 6) else (ig [] l, 0)) := by
 unfold iG
 rw [fromR_one (by omega) hc]
 simp only [some_bind]
 rw [fromR_two hl fun c h => by have := (hc c h).2; omega]
 simp only [some_bind]
 rw [fromR_three (by rw [(jH _ _).length_eq]; simp; omega) (kl _ _ List.Pairwise.nil (by simpa using hd))]
 simp only [some_bind, bif_some]
end Go.Proofs.YtfpjnmhdbgbmmaaGreatDoor
namespace Go.Proofs.YtfpjnmhdbgbmmaaGreatDoor
open Go.AM Go.Proofs
theorem fit_pat {t : Tree} {p : List Cell} (h : bL t p = 0) : gY p = true := by
 unfold bL at h
 cases hq : gb t with
 | false => rw [hq] at h; simp at h
 | true =>
  rw [hq] at h
  cases hp : gY p with
  | false => rw [hp] at h; simp at h
  | true => rfl
structure BoxOk (p : List Cell) (b : Box) : Prop where
 inn : ∀ c ∈ p, b.X ≤ c.X ∧ c.X < b.X + b.W ∧ b.Y ≤ c.Y ∧ c.Y < b.Y + b.H
 xl : -1048576 ≤ b.X
 xh : b.X + b.W ≤ 1048577
 yl : -1048576 ≤ b.Y
 yh : b.Y + b.H ≤ 1048577
 wh : (b.W = 0 ∧ b.H = 0) ∨ (1 ≤ b.W ∧ 1 ≤ b.H)
theorem box_loop {p : List Cell} (h : Pat p) {c0 : Cell} (h0 : p[0]? = some c0) : ∃ x1 y r bt, ak (cF p) aA (c0.X, c0.Y, c0.X, c0.Y, 0) = some (x1, y, r, bt) ∧
  (∀ c ∈ p, x1 ≤ c.X ∧ c.X ≤ r ∧ y ≤ c.Y ∧ c.Y ≤ bt) ∧ -1048576 ≤ x1 ∧ x1 ≤ r ∧ r ≤ 1048576 ∧ -1048576 ≤ y ∧ y ≤ bt ∧ bt ≤ 1048576 := by
 have hl := h.len
 have hc0 := (h.cell c0 (List.mem_of_getElem? h0)).1
 obtain ⟨t, ht, hq⟩ := bq (b := cF p) (n := p.length) (s := (c0.X, c0.Y, c0.X, c0.Y, 0))
  (fun i s => s.2.2.2.2 = (i : Int) ∧ (∀ j < i, ∀ c, p[j]? = some c → s.1 ≤ c.X ∧ c.X ≤ s.2.2.1 ∧ s.2.1 ≤ c.Y ∧ c.Y ≤ s.2.2.2.1) ∧ -1048576 ≤ s.1 ∧ s.1 ≤ s.2.2.1 ∧ s.2.2.1 ≤ 1048576 ∧ -1048576 ≤ s.2.1 ∧ s.2.1 ≤ s.2.2.2.1 ∧ s.2.2.2.1 ≤ 1048576)
  (fun t => (∀ c ∈ p, t.1 ≤ c.X ∧ c.X ≤ t.2.2.1 ∧ t.2.1 ≤ c.Y ∧ c.Y ≤ t.2.2.2) ∧ -1048576 ≤ t.1 ∧ t.1 ≤ t.2.2.1 ∧ t.2.2.1 ≤ 1048576 ∧ -1048576 ≤ t.2.1 ∧ t.2.1 ≤ t.2.2.2 ∧ t.2.2.2 ≤ 1048576) (by omega)
  ⟨rfl, fun j hj => by omega, by dsimp only; omega⟩
  (fun i s hi ⟨h1, h2, h3⟩ => by
   obtain ⟨x1, y, r, bt, a⟩ := s
   dsimp only at h1 h2 h3
   subst h1
   have hx : p[i]? = some p[i] := List.getElem?_eq_getElem hi
   have hc := (h.cell p[i] (List.getElem_mem hi)).1
   have a1 := imin_is x1 p[i].X
   have a2 := imin_is y p[i].Y
   have a3 := imax_is r p[i].X
   have a4 := imax_is bt p[i].Y
   refine .inl ⟨(gR x1 p[i].X, gR y p[i].Y, gQ r p[i].X, gQ bt p[i].Y, ((i + 1 : Nat) : Int)), ?_, rfl, ?_, ?_⟩
   ·unfold cF
    dsimp only
    rw [ltB_nat, decide_eq_true hi, cond_true, idx_nat, hx, up_nat (by omega)]
    rfl
   ·intro j hj c hcj
    dsimp only
    rcases Nat.lt_succ_iff_lt_or_eq.1 hj with hj | rfl
    ·have := h2 j hj c hcj
     omega
    ·rw [hx] at hcj
     cases hcj
     omega
   ·dsimp only
    omega)
  (fun s ⟨h1, h2, h3⟩ => by
   obtain ⟨x1, y, r, bt, a⟩ := s
   dsimp only at h1 h2 h3
   subst h1
   refine ⟨(x1, y, r, bt), ?_, fun c hc => ?_, h3⟩
   ·unfold cF
    dsimp only
    rw [ltB_nat, decide_eq_false (Nat.lt_irrefl _)]
    rfl
   ·obtain ⟨j, hj⟩ := List.mem_iff_getElem?.1 hc
    exact h2 j (aR hj) c hj)
 obtain ⟨x1, y, r, bt⟩ := t
 exact ⟨x1, y, r, bt, ht, hq⟩
theorem box_eq {p : List Cell} (hp : gY p = true) : ∃ b : Box × Bool, fB p = some b ∧ BoxOk p b.1 := by
 have h := pat_of hp
 unfold fB
 cases p with
 | nil => exact ⟨_, rfl, ⟨fun c hc => by simp at hc, by decide, by decide, by decide, by decide, .inl ⟨rfl, rfl⟩⟩⟩
 | cons c0 p =>
  have e1 : eqB (ah (c0 :: p)) 0 = false := by
   unfold eqB ah
   simp
   omega
  rw [e1, patR_eq (by have := h.len; omega), hp]
  simp only [cond_false, some_bind, aD, Bool.not_true]
  obtain ⟨x1, y, r, bt, hl, hall, hb⟩ := box_loop h (c0 := c0) rfl
  have e2 : idx (c0 :: p) 0 = some c0 := rfl
  rw [e2]
  simp only [some_bind]
  rw [hl]
  simp only [some_bind]
  rw [isub_in (by omega), isub_in (by omega), iadd_in (by omega), iadd_in (by omega)]
  refine ⟨_, rfl, ⟨fun c hc => ?_, ?_, ?_, ?_, ?_, .inr ?_⟩⟩
  ·have := hall c hc
   dsimp only
   omega
  all_goals (dsimp only; omega)
theorem mul_in {W H u v : Int} (hu : 0 ≤ u) (hu' : u < W) (hv : 0 ≤ v) (hv' : v < H) : 0 ≤ v * W ∧ v * W + u < W * H := by
 have h1 : v * W ≤ (H - 1) * W := Int.mul_le_mul_of_nonneg_right (by omega) (by omega)
 have h2 : (H - 1) * W = W * H - W := by rw [Int.sub_mul, Int.one_mul, Int.mul_comm]
 exact ⟨Int.mul_nonneg hv (by omega), by omega⟩
theorem mul_inj {W u v u' v' : Int} (hu : 0 ≤ u) (hu1 : u < W) (hu' : 0 ≤ u') (hu1' : u' < W) (h : v * W + u = v' * W + u') : v = v' ∧ u = u' := by
 have key : ∀ a b : Int, a < b → a * W + W ≤ b * W := fun a b hab => by
  have h1 : (a + 1) * W ≤ b * W := Int.mul_le_mul_of_nonneg_right (by omega) (by omega)
  rw [Int.add_mul, Int.one_mul] at h1
  exact h1
 have hv : v = v' := by
  rcases Int.lt_trichotomy v v' with hlt | he | hgt
  ·have := key v v' hlt; omega
  ·exact he
  ·have := key v' v hgt; omega
 subst hv
 exact ⟨rfl, by omega⟩
theorem area_le {b : Box} (hw : 0 ≤ b.W) (hw' : b.W ≤ 2097153) (hh : 0 ≤ b.H) (hh' : b.H ≤ 2097153) : 0 ≤ b.W * b.H ∧ b.W * b.H ≤ 4398050705409 := by
 have h1 : b.W * b.H ≤ 2097153 * b.H := Int.mul_le_mul_of_nonneg_right hw' hh
 exact ⟨Int.mul_nonneg hw hh, by omega⟩
theorem get_eq {p : List Cell} (hl : p.length ≤ 5000) (x y : Int) : jz p x y = some (dc p x y) := by
 obtain ⟨r, hr, hq⟩ := bq (b := fy p x y) (n := p.length) (s := 0) (fun i s => s = (i : Int) ∧ dc p x y = dc (p.drop i) x y) (fun r => r = .inl (dc p x y) ∨ (r = .inr () ∧ dc p x y = 0)) (by omega)
  ⟨rfl, rfl⟩
  (fun i s hi ⟨h1, h2⟩ => by
   subst h1
   have hx : p[i]? = some p[i] := List.getElem?_eq_getElem hi
   obtain ⟨r, hb⟩ : ∃ r, fy p x y (i : Int) = r := ⟨_, rfl⟩
   rw [hb]
   unfold fy at hb
   dsimp only at hb
   rw [ltB_nat, decide_eq_true hi, cond_true, idx_nat, hx, up_nat (by omega)] at hb
   simp only [some_bind, bif_some, bif_some_f, eqB] at hb
   rw [List.drop_eq_getElem_cons hi] at h2
   unfold dc at h2
   rw [List.find?_cons] at h2
   cases hc : (p[i].X == x && p[i].Y == y) with
   | true =>
    rw [hc] at hb h2
    simp only [cond_true] at hb
    refine .inr ⟨_, hb.symm, .inl ?_⟩
    unfold dc
    rw [h2]
   | false =>
    rw [hc] at hb h2
    exact .inl ⟨_, hb.symm, rfl, h2⟩)
  (fun s ⟨h1, h2⟩ => by
   subst h1
   refine ⟨_, ?_, .inr ⟨rfl, by rw [h2, List.drop_length]; rfl⟩⟩
   unfold fy
   dsimp only
   rw [ltB_nat, decide_eq_false (Nat.lt_irrefl _)]
   rfl)
 unfold jz
 rw [hr]
 rcases hq with rfl | ⟨rfl, h0⟩
 ·rfl
 ·rw [h0]; rfl
theorem getS_out {p : List Cell} {x y : Int} (h : ∀ c ∈ p, ¬ (c.X = x ∧ c.Y = y)) : dc p x y = 0 := by
 apply Classical.byContradiction
 intro h0
 obtain ⟨c, hc, e1, e2, _⟩ := getS_mem h0
 exact h c hc ⟨e1, e2⟩
theorem states_loop {p : List Cell} (h : Pat p) {b : Box × Bool} (hb : BoxOk p b.1) (ha : b.1.W * b.1.H ≤ 40000) : ∃ l, ak (di p b) aA (0, List.replicate (b.1.W * b.1.H).toNat 0) = some l ∧
  ∀ u v : Int, 0 ≤ u → u < b.1.W → 0 ≤ v → v < b.1.H → l[(v * b.1.W + u).toNat]? = some (dc p (b.1.X + u) (b.1.Y + v)) := by
 have hl := h.len
 have hbx := hb.xl; have hbx' := hb.xh; have hby := hb.yl; have hby' := hb.yh; have hbwh := hb.wh
 obtain ⟨t, ht, hq⟩ := bq (b := di p b) (n := p.length) (s := (0, List.replicate (b.1.W * b.1.H).toNat 0))
  (fun i s => s.1 = (i : Int) ∧ s.2.length = (b.1.W * b.1.H).toNat ∧ ∀ u v : Int, 0 ≤ u → u < b.1.W → 0 ≤ v → v < b.1.H → s.2[(v * b.1.W + u).toNat]? = some (dc (p.take i) (b.1.X + u) (b.1.Y + v)))
  (fun l => ∀ u v : Int, 0 ≤ u → u < b.1.W → 0 ≤ v → v < b.1.H → l[(v * b.1.W + u).toNat]? = some (dc p (b.1.X + u) (b.1.Y + v))) (by omega)
  ⟨rfl, by simp, fun u v hu hu' hv hv' => by
   have := mul_in hu hu' hv hv'
   rw [List.getElem?_replicate, if_pos (by omega)]
   rfl⟩
  (fun i s hi ⟨h1, h2, h3⟩ => by
   obtain ⟨a, l⟩ := s
   dsimp only at h1 h2 h3
   subst h1
   have hx : p[i]? = some p[i] := List.getElem?_eq_getElem hi
   have hc := hb.inn p[i] (List.getElem_mem hi)
   have hm := mul_in (W := b.1.W) (H := b.1.H) (u := p[i].X - b.1.X) (v := p[i].Y - b.1.Y) (by omega) (by omega) (by omega) (by omega)
   have hidx : aC .i64 (aG .i64 (dW .i64 (aC .i64 p[i].Y b.1.Y) b.1.W) p[i].X) b.1.X = (p[i].Y - b.1.Y) * b.1.W + (p[i].X - b.1.X) := by
    rw [isub_in (a := p[i].Y) (by omega), imul_in (by omega), iadd_in (by omega), isub_in (by omega)]
    omega
   have hlt : ((p[i].Y - b.1.Y) * b.1.W + (p[i].X - b.1.X)).toNat < l.length := by omega
   refine .inl ⟨(((i + 1 : Nat) : Int), l.set ((p[i].Y - b.1.Y) * b.1.W + (p[i].X - b.1.X)).toNat p[i].S), ?_, rfl, by simpa using h2, fun u v hu hu' hv hv' => ?_⟩
   ·unfold di
    dsimp only
    rw [ltB_nat, decide_eq_true hi, cond_true, idx_nat, hx, up_nat (by omega)]
    simp only [some_bind]
    rw [hidx, idx_int _ (by omega), List.getElem?_eq_getElem hlt]
    rfl
   ·dsimp only
    rw [List.getElem?_set]
    have hm' := mul_in hu hu' hv hv'
    rw [List.take_add_one, hx, Option.toList_some, getS_snoc]
    ·by_cases he : p[i].X = b.1.X + u ∧ p[i].Y = b.1.Y + v
     ·have e' : (p[i].Y - b.1.Y) * b.1.W + (p[i].X - b.1.X) = v * b.1.W + u := by
       rw [show p[i].Y - b.1.Y = v by omega, show p[i].X - b.1.X = u by omega]
      rw [if_pos he, if_pos (by rw [e']), if_pos hlt]
     ·rw [if_neg he, if_neg, h3 u v hu hu' hv hv']
      intro hk
      apply he
      have := mul_inj (W := b.1.W) (u := p[i].X - b.1.X) (v := p[i].Y - b.1.Y) (u' := u) (v' := v) (by omega) (by omega) hu hu' (by omega)
      omega
    ·intro d hd ⟨e1, e2⟩
     obtain ⟨j, hj⟩ := List.mem_iff_getElem?.1 hd
     rw [List.getElem?_take] at hj
     split at hj
     ·rename_i hji
      obtain ⟨hjl, rfl⟩ := List.getElem?_eq_some_iff.1 hj
      have := List.pairwise_iff_getElem.1 h.sorted j i hjl hi hji
      rw [fq] at this
      omega
     ·cases hj)
  (fun s ⟨h1, h2, h3⟩ => by
   obtain ⟨a, l⟩ := s
   dsimp only at h1 h2 h3
   subst h1
   refine ⟨l, ?_, fun u v hu hu' hv hv' => by rw [h3 u v hu hu' hv hv', List.take_length]⟩
   unfold di
   dsimp only
   rw [ltB_nat, decide_eq_false (Nat.lt_irrefl _)]
   rfl)
 exact ⟨t, ht, hq⟩
def Near2 (x y : Int) : Prop := -1048700 ≤ x ∧ x ≤ 1048700 ∧ -1048700 ≤ y ∧ y ≤ 1048700
structure FieldOk (p : List Cell) (f : cellularref20_field) : Prop where
 list : f.list = p
 box : BoxOk p f.box
 flat : f.flat = true → f.box.W * f.box.H ≤ 40000
 at_ : ∀ x y, Near2 x y → dj f x y = some (dc p x y)
theorem states_eq {p : List Cell} (hp : gY p = true) : ∃ f, fK p = some f ∧ FieldOk p f := by
 have h := pat_of hp
 obtain ⟨b, hb, hB⟩ := box_eq hp
 have hbx := hB.xl; have hbx' := hB.xh; have hby := hB.yl; have hby' := hB.yh; have hbwh := hB.wh
 have har := area_le (b := b.1) (by omega) (by omega) (by omega) (by omega)
 unfold fK
 rw [hb]
 simp only [some_bind]
 rw [imul_in (by omega)]
 by_cases ha : b.1.W * b.1.H ≤ 40000
 ·have e : leB (b.1.W * b.1.H) 40000 = true := decide_eq_true ha
  rw [e]
  simp only [aD, Bool.not_true, cond_false]
  have em : mkL 8 (b.1.W * b.1.H) (b.1.W * b.1.H) (0 : Nat) = some (List.replicate (b.1.W * b.1.H).toNat 0) := by
   unfold mkL
   rw [if_pos (by omega)]
  rw [em]
  obtain ⟨l, hl, hall⟩ := states_loop h hB ha
  simp only [some_bind]
  rw [hl]
  refine ⟨_, rfl, rfl, hB, fun _ => ha, fun x y hn => ?_⟩
  unfold Near2 at hn
  unfold dj
  simp only [aD, Bool.not_true, cond_false]
  rw [iadd_in (by omega), iadd_in (by omega)]
  simp only [bif_some, bif_some_t, some_bind]
  by_cases hin : b.1.X ≤ x ∧ x < b.1.X + b.1.W ∧ b.1.Y ≤ y ∧ y < b.1.Y + b.1.H
  ·have e1 : (ltB x b.1.X || (geB x (b.1.X + b.1.W) || (ltB y b.1.Y || geB y (b.1.Y + b.1.H)))) = false := by
    unfold ltB geB
    simp only [Bool.or_eq_false_iff, decide_eq_false_iff_not]
    omega
   rw [e1]
   simp only [cond_false]
   have hm := mul_in (W := b.1.W) (H := b.1.H) (u := x - b.1.X) (v := y - b.1.Y) (by omega) (by omega) (by omega) (by omega)
   have hidx : aC .i64 (aG .i64 (dW .i64 (aC .i64 y b.1.Y) b.1.W) x) b.1.X = (y - b.1.Y) * b.1.W + (x - b.1.X) := by
    rw [isub_in (a := y) (by omega), imul_in (by omega), iadd_in (by omega), isub_in (by omega)]
    omega
   have hg := hall (x - b.1.X) (y - b.1.Y) (by omega) (by omega) (by omega) (by omega)
   rw [hidx, idx_int _ (by omega), hg]
   simp only [some_bind]
   congr 2 <;> omega
  ·have e1 : (ltB x b.1.X || (geB x (b.1.X + b.1.W) || (ltB y b.1.Y || geB y (b.1.Y + b.1.H)))) = true := by
    unfold ltB geB
    simp only [Bool.or_eq_true, decide_eq_true_eq]
    omega
   rw [e1]
   simp only [cond_true]
   rw [getS_out]
   intro c hc ⟨e1, e2⟩
   have := hB.inn c hc
   omega
 ·have e : leB (b.1.W * b.1.H) 40000 = false := decide_eq_false ha
  rw [e]
  simp only [aD, Bool.not_false, cond_true]
  refine ⟨_, rfl, rfl, hB, (fun h => by cases h), fun x y _ => ?_⟩
  unfold dj
  simp only [aD, Bool.not_false, cond_true]
  rw [get_eq h.len]
  rfl
theorem nextR_eq {t : Tree} {p : List Cell} (h : Fit t p) (hs : Sz t) {f : cellularref20_field} (hf : FieldOk p f) {x y : Int} (hq : Near x y) : iz t f x y = some (eQ t p x y) := by
 have h25 := h.ok.h25
 unfold Near at hq
 obtain ⟨r, hr, e⟩ := bq (b := fA t f x y) (n := t.Hood.length) (s := (0, [])) (fun i s => s = ((i : Int), (t.Hood.take i).map fun o => dc p (x + o.X) (y + o.Y))) (fun r => r = t.Hood.map fun o => dc p (x + o.X) (y + o.Y)) (by omega) rfl
  (fun i s hi e => by
   subst e
   have ho : t.Hood[i]? = some t.Hood[i] := List.getElem?_eq_getElem hi
   have hi' := hood_in h.ok (List.getElem_mem hi)
   refine .inl ⟨_, ?_, rfl⟩
   unfold fA
   dsimp only
   rw [ltB_nat, decide_eq_true hi, cond_true, idx_nat, ho, up_nat (by omega)]
   simp only [some_bind]
   rw [iadd_in (by omega), iadd_in (by omega), hf.at_ _ _ (by unfold Near2; omega)]
   have ea : ∀ d : Int, dr 8 (List.map (fun o : Point => dc p (x + o.X) (y + o.Y)) (List.take i t.Hood)) [d] = some (List.map (fun o : Point => dc p (x + o.X) (y + o.Y)) (List.take i t.Hood) ++ [d]) := fun d => by
    unfold dr
    rw [if_pos]
    simp only [List.length_map, List.length_take, List.length_cons, List.length_nil]
    omega
   simp only [some_bind, ea]
   rw [List.take_add_one, ho, Option.toList_some, List.map_append]
   rfl)
  (fun s e => by
   subst e
   refine ⟨_, ?_, rfl⟩
   unfold fA
   dsimp only
   rw [ltB_nat, decide_eq_false (Nat.lt_irrefl _), List.take_length]
   rfl)
 subst e
 unfold iz
 rw [hr]
 simp only [some_bind]
 rw [valueR_eq (by simp; omega), (newS_eq h hs x y).1]
 rfl
end Go.Proofs.YtfpjnmhdbgbmmaaGreatDoor
namespace Go.Proofs.YtfpjnmhdbgbmmaaGreatDoor
open Go.AM Go.Proofs
structure NearOk (p : List Cell) (l : List Point) : Prop where
 dist : l.Pairwise fun a b => ¬ (a.X = b.X ∧ a.Y = b.Y)
 inn : ∀ q ∈ l, Near q.X q.Y
 all : ∀ c ∈ p, ∀ q : Point, c.X - 2 ≤ q.X → q.X ≤ c.X + 2 → c.Y - 2 ≤ q.Y → q.Y ≤ c.Y + 2 → q ∈ l
 len : l.length ≤ 400000
theorem app_pt {l : List Point} (hl : l.length ≤ 5000000) (d : Point) : dr 16 l [d] = some (l ++ [d]) := by
 unfold dr
 rw [if_pos]
 simp only [List.length_cons, List.length_nil]
 omega
structure BoxIn (b : Box) : Prop where
 xl : -1048576 ≤ b.X
 xh : b.X + b.W ≤ 1048577
 yl : -1048576 ≤ b.Y
 yh : b.Y + b.H ≤ 1048577
 w0 : 0 ≤ b.W
 h0 : 0 ≤ b.H
 area : (b.H + 4) * (b.W + 4) ≤ 400000
def InB (b : Box) (q : Point) : Prop := b.X - 2 ≤ q.X ∧ q.X < b.X + b.W + 2 ∧ b.Y - 2 ≤ q.Y ∧ q.Y < b.Y + b.H + 2
structure Scan (b : Box) (x y : Int) (l : List Point) (k : Int) : Prop where
 dist : l.Pairwise fun a b => ¬ (a.X = b.X ∧ a.Y = b.Y)
 mem : ∀ q, q ∈ l ↔ InB b q ∧ (q.Y < y ∨ (q.Y = y ∧ q.X < x))
 len : (l.length : Int) ≤ k
theorem scan_row {f : cellularref20_field} (hb : BoxIn f.box) {y : Int} (hy : f.box.Y - 2 ≤ y) (hy' : y < f.box.Y + f.box.H + 2) {l : List Point} {k : Int} (hk : k + (f.box.W + 4) ≤ 400000) (hk0 : 0 ≤ k) (h : Scan f.box (f.box.X - 2) y l k) :
  ∃ l', ak (bP f y l) aA (aC .i64 f.box.X 2, l) = some l' ∧ Scan f.box (f.box.X - 2) (y + 1) l' (k + (f.box.W + 4)) := by
 have hx := hb.xl; have hx' := hb.xh; have hw := hb.w0
 obtain ⟨t, ht, hq⟩ := bq (b := bP f y l) (n := (f.box.W + 4).toNat) (s := (aC .i64 f.box.X 2, l))
  (fun i s => s.1 = f.box.X - 2 + (i : Int) ∧ Scan f.box s.1 y s.2 (k + i)) (fun l' => Scan f.box (f.box.X - 2) (y + 1) l' (k + (f.box.W + 4))) (by omega)
  (by
   rw [isub_in (by omega)]
   exact ⟨by simp, by simpa using h⟩)
  (fun i s hi ⟨h1, h2⟩ => by
   obtain ⟨x, out⟩ := s
   dsimp only at h1 h2
   have hlen := h2.len
   refine .inl ⟨(x + 1, out ++ [⟨x, y⟩]), ?_, by dsimp only; omega, ?_, ?_, ?_⟩
   ·unfold bP
    dsimp only
    rw [iadd_in (a := f.box.X) (by omega), iadd_in (a := f.box.X + f.box.W) (by omega), iadd_in (a := x) (by omega)]
    have e : ltB x (f.box.X + f.box.W + 2) = true := decide_eq_true (by omega)
    rw [e, app_pt (by omega)]
    rfl
   ·refine List.pairwise_append.2 ⟨h2.dist, List.pairwise_singleton _ _, fun q hq e he => ?_⟩
    rw [List.mem_singleton] at he
    subst he
    have := ((h2.mem q).1 hq).2
    dsimp only
    omega
   ·intro q
    dsimp only
    rw [List.mem_append, List.mem_singleton, h2.mem q]
    unfold InB
    constructor
    ·rintro (hq | rfl)
     ·omega
     ·dsimp only; omega
    ·intro hq
     by_cases he : q.Y = y ∧ q.X = x
     ·right
      cases q
      simp_all
     ·left
      omega
   ·dsimp only
    rw [List.length_append]
    simp only [List.length_cons, List.length_nil]
    omega)
  (fun s ⟨h1, h2⟩ => by
   obtain ⟨x, out⟩ := s
   dsimp only at h1 h2
   refine ⟨out, ?_, h2.dist, fun q => ?_, by have := h2.len; omega⟩
   ·unfold bP
    dsimp only
    rw [iadd_in (a := f.box.X) (by omega), iadd_in (a := f.box.X + f.box.W) (by omega)]
    have e : ltB x (f.box.X + f.box.W + 2) = false := decide_eq_false (by omega)
    rw [e]
    rfl
   ·rw [h2.mem q]
    unfold InB
    omega)
 exact ⟨t, ht, hq⟩
theorem scan_all {f : cellularref20_field} (hb : BoxIn f.box) : ∃ l, ak (bQ f) aA (aC .i64 f.box.Y 2, []) = some l ∧ Scan f.box (f.box.X - 2) (f.box.Y + f.box.H + 2) l 400000 := by
 have hx := hb.yl; have hx' := hb.yh; have hw := hb.h0
 have ha := hb.area
 have hw0 := hb.w0
 obtain ⟨t, ht, hq⟩ := bq (b := bQ f) (n := (f.box.H + 4).toNat) (s := (aC .i64 f.box.Y 2, []))
  (fun i s => s.1 = f.box.Y - 2 + (i : Int) ∧ Scan f.box (f.box.X - 2) s.1 s.2 ((i : Int) * (f.box.W + 4))) (fun l' => Scan f.box (f.box.X - 2) (f.box.Y + f.box.H + 2) l' 400000) (by omega)
  (by
   rw [isub_in (by omega)]
   refine ⟨by simp, List.Pairwise.nil, fun q => ?_, by simp⟩
   unfold InB
   dsimp only
   constructor
   ·intro h; simp at h
   ·intro h; omega)
  (fun i s hi ⟨h1, h2⟩ => by
   obtain ⟨y, out⟩ := s
   dsimp only at h1 h2
   have hm : ((i : Int) + 1) * (f.box.W + 4) ≤ (f.box.H + 4) * (f.box.W + 4) := Int.mul_le_mul_of_nonneg_right (by omega) (by omega)
   have hm0 : 0 ≤ (i : Int) * (f.box.W + 4) := Int.mul_nonneg (by omega) (by omega)
   have hm1 : ((i : Int) + 1) * (f.box.W + 4) = (i : Int) * (f.box.W + 4) + (f.box.W + 4) := by rw [Int.add_mul, Int.one_mul]
   obtain ⟨l', hl, hs⟩ := scan_row hb (y := y) (by omega) (by omega) (by omega) hm0 h2
   refine .inl ⟨(y + 1, l'), ?_, by dsimp only; omega, by
    dsimp only
    rw [show (((i + 1 : Nat) : Int)) = (i : Int) + 1 by omega, hm1]
    exact hs⟩
   unfold bQ
   dsimp only
   rw [iadd_in (a := f.box.Y) (by omega), iadd_in (a := f.box.Y + f.box.H) (by omega), iadd_in (a := y) (by omega)]
   have e : ltB y (f.box.Y + f.box.H + 2) = true := decide_eq_true (by omega)
   rw [e, hl]
   rfl)
  (fun s ⟨h1, h2⟩ => by
   obtain ⟨y, out⟩ := s
   dsimp only at h1 h2
   have hy : y = f.box.Y + f.box.H + 2 := by omega
   subst hy
   refine ⟨out, ?_, h2.dist, h2.mem, ?_⟩
   ·unfold bQ
    dsimp only
    rw [iadd_in (a := f.box.Y) (by omega), iadd_in (a := f.box.Y + f.box.H) (by omega)]
    have e : ltB (f.box.Y + f.box.H + 2) (f.box.Y + f.box.H + 2) = false := decide_eq_false (by omega)
    rw [e]
    rfl
   ·have := h2.len
    have e : (((f.box.H + 4).toNat : Nat) : Int) = f.box.H + 4 := by omega
    rw [e] at this
    omega)
 exact ⟨t, ht, hq⟩
theorem boxIn_of {p : List Cell} {b : Box} (h : BoxOk p b) (ha : b.W * b.H ≤ 40000) : BoxIn b := by
 have hwh := h.wh
 refine ⟨h.xl, h.xh, h.yl, h.yh, by omega, by omega, ?_⟩
 have e : (b.H + 4) * (b.W + 4) = b.W * b.H + 4 * b.H + 4 * b.W + 16 := by
  rw [Int.add_mul, Int.mul_add, Int.mul_comm b.H b.W]
  omega
 rw [e]
 rcases hwh with ⟨h1, h2⟩ | ⟨h1, h2⟩
 ·rw [h1, h2]; decide
 ·have a1 : b.W * 1 ≤ b.W * b.H := Int.mul_le_mul_of_nonneg_left h2 (by omega)
  have a2 : 1 * b.H ≤ b.W * b.H := Int.mul_le_mul_of_nonneg_right h1 (by omega)
  omega
def By2 (c : Cell) (q : Point) : Prop := c.X - 2 ≤ q.X ∧ q.X ≤ c.X + 2 ∧ c.Y - 2 ≤ q.Y ∧ q.Y ≤ c.Y + 2
theorem earlier_eq {p : List Cell} (h : Pat p) {f : cellularref20_field} (hf : f.list = p) {n : Nat} (hn : n ≤ p.length) {q : Point} (hq : Near q.X q.Y) : ∃ r, cb f (n : Int) q = some r ∧ (r = true ↔ ∃ j < n, ∃ c, p[j]? = some c ∧ By2 c q) := by
 have hl := h.len
 unfold Near at hq
 have habs : ∀ d : Int, -3000000 ≤ d → d ≤ 3000000 → (leB (gQ d (ineg .i64 d)) 2 = decide (-2 ≤ d ∧ d ≤ 2)) := fun d h1 h2 => by
  have e : ineg .i64 d = -d := by
   unfold ineg
   rw [i64_in (by omega)]
   omega
  rw [e]
  unfold leB gQ
  rw [Bool.eq_iff_iff, decide_eq_true_eq, decide_eq_true_eq]
  split <;> omega
 obtain ⟨t, ht, hr⟩ := bq (b := bh f (n : Int) q) (n := n) (s := 0) (fun i s => s = (i : Int) ∧ ¬ ∃ j < i, ∃ c, p[j]? = some c ∧ By2 c q)
  (fun t => (t = .inl true ∧ ∃ j < n, ∃ c, p[j]? = some c ∧ By2 c q) ∨ (t = .inr () ∧ ¬ ∃ j < n, ∃ c, p[j]? = some c ∧ By2 c q)) (by omega)
  ⟨rfl, fun ⟨j, hj, _⟩ => by omega⟩
  (fun i s hi ⟨h1, h2⟩ => by
   subst h1
   have hx : p[i]? = some (p[i]'(by omega)) := List.getElem?_eq_getElem (by omega)
   have hc := (h.cell (p[i]'(by omega)) (List.getElem_mem _)).1
   obtain ⟨r, hb⟩ : ∃ r, bh f (n : Int) q (i : Int) = r := ⟨_, rfl⟩
   rw [hb]
   unfold bh at hb
   dsimp only at hb
   have e : ltB (i : Int) (n : Int) = true := decide_eq_true (by omega)
   rw [e, cond_true, hf, idx_nat, hx, up_nat (by omega)] at hb
   simp only [some_bind] at hb
   rw [isub_in (by omega), isub_in (by omega), habs _ (by omega) (by omega), habs _ (by omega) (by omega)] at hb
   simp only [bif_some, bif_some_f, some_bind] at hb
   by_cases hby : By2 (p[i]'(by omega)) q
   ·have e : (decide (-2 ≤ q.X - (p[i]'(by omega)).X ∧ q.X - (p[i]'(by omega)).X ≤ 2) && decide (-2 ≤ q.Y - (p[i]'(by omega)).Y ∧ q.Y - (p[i]'(by omega)).Y ≤ 2)) = true := by
     unfold By2 at hby
     simp only [Bool.and_eq_true, decide_eq_true_eq]
     omega
    rw [e] at hb
    exact .inr ⟨_, hb.symm, .inl ⟨rfl, i, hi, _, hx, hby⟩⟩
   ·have e : (decide (-2 ≤ q.X - (p[i]'(by omega)).X ∧ q.X - (p[i]'(by omega)).X ≤ 2) && decide (-2 ≤ q.Y - (p[i]'(by omega)).Y ∧ q.Y - (p[i]'(by omega)).Y ≤ 2)) = false := by
     rw [Bool.eq_false_iff]
     unfold By2 at hby
     simp only [ne_eq, Bool.and_eq_true, decide_eq_true_eq]
     omega
    rw [e] at hb
    refine .inl ⟨_, hb.symm, rfl, fun ⟨j, hj, c, hcj, hb2⟩ => ?_⟩
    rcases Nat.lt_succ_iff_lt_or_eq.1 hj with hj | rfl
    ·exact h2 ⟨j, hj, c, hcj, hb2⟩
    ·rw [hx] at hcj
     cases hcj
     exact hby hb2)
  (fun s ⟨h1, h2⟩ => by
   subst h1
   refine ⟨_, ?_, .inr ⟨rfl, h2⟩⟩
   unfold bh
   dsimp only
   have e : ltB (n : Int) (n : Int) = false := decide_eq_false (by omega)
   rw [e]
   rfl)
 unfold cb
 rw [ht]
 rcases hr with ⟨rfl, h2⟩ | ⟨rfl, h2⟩
 ·exact ⟨true, rfl, by simpa using h2⟩
 ·exact ⟨false, rfl, by simpa using h2⟩
structure Far (p : List Cell) (i : Nat) (c : Cell) (x y : Int) (l : List Point) (k : Int) : Prop where
 dist : l.Pairwise fun a b => ¬ (a.X = b.X ∧ a.Y = b.Y)
 mem : ∀ q, q ∈ l ↔ (∃ j < i, ∃ c, p[j]? = some c ∧ By2 c q) ∨ (By2 c q ∧ (q.Y < c.Y + y ∨ (q.Y = c.Y + y ∧ q.X < c.X + x)))
 len : (l.length : Int) ≤ k
theorem far_row {p : List Cell} (h : Pat p) {f : cellularref20_field} (hf : f.list = p) {i : Nat} {c : Cell} (hi : p[i]? = some c) {y : Int} (hy : -2 ≤ y) (hy' : y ≤ 2) {l o : List Point} {k : Int} (hk : k ≤ 200000) (hF : Far p i c (-2) y l k) :
  ∃ l', ak (bu f (i : Int) o y) aA (-2, l) = some l' ∧ Far p i c (-2) (y + 1) l' (k + 5) := by
 have hl := h.len
 have hil := aR hi
 have hc := (h.cell c (List.mem_of_getElem? hi)).1
 obtain ⟨t, ht, hq⟩ := bq (b := bu f (i : Int) o y) (n := 5) (s := (-2, l)) (fun j s => s.1 = -2 + (j : Int) ∧ Far p i c s.1 y s.2 (k + j)) (fun l' => Far p i c (-2) (y + 1) l' (k + 5)) (by omega)
  ⟨by simp, by simpa using hF⟩
  (fun j s hj ⟨h1, h2⟩ => by
   obtain ⟨x, out⟩ := s
   dsimp only at h1 h2
   have hlen := h2.len
   obtain ⟨r, hr, hr'⟩ := earlier_eq h hf (n := i) (by omega) (q := ⟨c.X + x, c.Y + y⟩) (by unfold Near; dsimp only; omega)
   obtain ⟨w, hb⟩ : ∃ w, bu f (i : Int) o y (x, out) = w := ⟨_, rfl⟩
   rw [hb]
   unfold bu at hb
   dsimp only at hb
   have e : leB x 2 = true := decide_eq_true (by omega)
   rw [e, cond_true, hf, idx_nat, hi] at hb
   simp only [some_bind] at hb
   rw [iadd_in (a := c.X) (by omega), iadd_in (a := c.Y) (by omega), iadd_in (a := x) (by omega), hr] at hb
   simp only [some_bind, aD] at hb
   cases r with
   | true =>
    simp only [Bool.not_true, cond_false, some_bind] at hb
    refine .inl ⟨_, hb.symm, by dsimp only; omega, h2.dist, fun q => ?_, by dsimp only; omega⟩
    dsimp only
    rw [h2.mem q]
    have hin := hr'.1 rfl
    constructor
    ·rintro (hq | ⟨hq, hq'⟩)
     ·exact .inl hq
     ·exact .inr ⟨hq, by omega⟩
    ·rintro (hq | ⟨hq, hq'⟩)
     ·exact .inl hq
     ·by_cases he : q.Y = c.Y + y ∧ q.X = c.X + x
      ·left
       have : q = ⟨c.X + x, c.Y + y⟩ := by cases q; simp_all
       rw [this]
       exact hin
      ·exact .inr ⟨hq, by omega⟩
   | false =>
    simp only [Bool.not_false, cond_true] at hb
    rw [app_pt (by omega)] at hb
    simp only [some_bind] at hb
    have hnin : ¬ ∃ j < i, ∃ c', p[j]? = some c' ∧ By2 c' ⟨c.X + x, c.Y + y⟩ := fun hh => by cases hr'.2 hh
    refine .inl ⟨_, hb.symm, by dsimp only; omega, ?_, fun q => ?_, ?_⟩
    ·refine List.pairwise_append.2 ⟨h2.dist, List.pairwise_singleton _ _, fun q hq e he => ?_⟩
     rw [List.mem_singleton] at he
     subst he
     rintro ⟨e1, e2⟩
     dsimp only at e1 e2
     rcases (h2.mem q).1 hq with hq | ⟨_, hq⟩
     ·apply hnin
      have : q = ⟨c.X + x, c.Y + y⟩ := by cases q; simp_all
      rw [← this]
      exact hq
     ·omega
    ·dsimp only
     rw [List.mem_append, List.mem_singleton, h2.mem q]
     constructor
     ·rintro ((hq | ⟨hq, hq'⟩) | rfl)
      ·exact .inl hq
      ·exact .inr ⟨hq, by omega⟩
      ·right
       unfold By2
       dsimp only
       omega
     ·rintro (hq | ⟨hq, hq'⟩)
      ·exact .inl (.inl hq)
      ·by_cases he : q.Y = c.Y + y ∧ q.X = c.X + x
       ·right
        cases q
        simp_all
       ·exact .inl (.inr ⟨hq, by omega⟩)
    ·dsimp only
     rw [List.length_append]
     simp only [List.length_cons, List.length_nil]
     omega)
  (fun s ⟨h1, h2⟩ => by
   obtain ⟨x, out⟩ := s
   dsimp only at h1 h2
   refine ⟨out, ?_, h2.dist, fun q => ?_, by have := h2.len; omega⟩
   ·unfold bu
    dsimp only
    have e : leB x 2 = false := decide_eq_false (by omega)
    rw [e]
    rfl
   ·rw [h2.mem q]
    constructor
    ·rintro (hq | ⟨hq, hq'⟩)
     ·exact .inl hq
     ·exact .inr ⟨hq, by omega⟩
    ·rintro (hq | ⟨hq, hq'⟩)
     ·exact .inl hq
     ·refine .inr ⟨hq, ?_⟩
      unfold By2 at hq
      omega)
 exact ⟨t, ht, hq⟩
theorem far_cell {p : List Cell} (h : Pat p) {f : cellularref20_field} (hf : f.list = p) {i : Nat} {c : Cell} (hi : p[i]? = some c) {l : List Point} {k : Int} (hk : k ≤ 150000) (hF : Far p i c (-2) (-2) l k) :
  ∃ l', ak (cj f (i : Int) l) aA (-2, l) = some l' ∧ Far p i c (-2) 3 l' (k + 25) := by
 obtain ⟨t, ht, hq⟩ := bq (b := cj f (i : Int) l) (n := 5) (s := (-2, l)) (fun j s => s.1 = -2 + (j : Int) ∧ Far p i c (-2) s.1 s.2 (k + 5 * j)) (fun l' => Far p i c (-2) 3 l' (k + 25)) (by omega)
  ⟨by simp, by simpa using hF⟩
  (fun j s hj ⟨h1, h2⟩ => by
   obtain ⟨y, out⟩ := s
   dsimp only at h1 h2
   obtain ⟨l', hl, hs⟩ := far_row h hf hi (y := y) (by omega) (by omega) (o := l) (by omega) h2
   refine .inl ⟨(y + 1, l'), ?_, by dsimp only; omega, by
    dsimp only
    rw [show k + 5 * (((j + 1 : Nat)) : Int) = k + 5 * (j : Int) + 5 by omega]
    exact hs⟩
   unfold cj
   dsimp only
   have e : leB y 2 = true := decide_eq_true (by omega)
   rw [e, iadd_in (by omega), hl]
   rfl)
  (fun s ⟨h1, h2⟩ => by
   obtain ⟨y, out⟩ := s
   dsimp only at h1 h2
   have hy : y = 3 := by omega
   subst hy
   exact ⟨out, rfl, by simpa using h2⟩)
 exact ⟨t, ht, hq⟩
theorem far_all {p : List Cell} (h : Pat p) {f : cellularref20_field} (hf : f.list = p) : ∃ l, ak (bT f) aA (0, []) = some l ∧ l.Pairwise (fun a b => ¬ (a.X = b.X ∧ a.Y = b.Y)) ∧ (∀ q, q ∈ l ↔ ∃ c ∈ p, By2 c q) ∧ l.length ≤ 125000 := by
 have hl := h.len
 obtain ⟨t, ht, hq⟩ := bq (b := bT f) (n := p.length) (s := (0, [])) (fun i s => s.1 = (i : Int) ∧ s.2.Pairwise (fun a b => ¬ (a.X = b.X ∧ a.Y = b.Y)) ∧ (∀ q, q ∈ s.2 ↔ ∃ j < i, ∃ c, p[j]? = some c ∧ By2 c q) ∧ s.2.length ≤ 25 * i)
  (fun l => l.Pairwise (fun a b => ¬ (a.X = b.X ∧ a.Y = b.Y)) ∧ (∀ q, q ∈ l ↔ ∃ c ∈ p, By2 c q) ∧ l.length ≤ 125000) (by omega)
  ⟨rfl, List.Pairwise.nil, fun q => ⟨fun hq => by simp at hq, fun ⟨j, hj, _⟩ => by omega⟩, by simp⟩
  (fun i s hi ⟨h1, h2, h3, h4⟩ => by
   obtain ⟨a, out⟩ := s
   dsimp only at h1 h2 h3 h4
   subst h1
   have hx : p[i]? = some p[i] := List.getElem?_eq_getElem hi
   obtain ⟨l', hl', hF⟩ := far_cell h hf hx (l := out) (k := 25 * i) (by omega) ⟨h2, fun q => by
    rw [h3 q]
    constructor
    ·exact .inl
    ·rintro (hq | ⟨hq, hq'⟩)
     ·exact hq
     ·unfold By2 at hq
      omega, by omega⟩
   refine .inl ⟨(((i + 1 : Nat) : Int), l'), ?_, rfl, hF.dist, fun q => ?_, by have := hF.len; dsimp only; omega⟩
   ·unfold bT
    dsimp only
    rw [hf, ltB_nat, decide_eq_true hi, cond_true, up_nat (by omega), hl']
    rfl
   ·dsimp only
    rw [hF.mem q]
    constructor
    ·rintro (⟨j, hj, hq⟩ | ⟨hq, hq'⟩)
     ·exact ⟨j, by omega, hq⟩
     ·exact ⟨i, by omega, _, hx, hq⟩
    ·rintro ⟨j, hj, c, hc, hq⟩
     rcases Nat.lt_succ_iff_lt_or_eq.1 hj with hj | rfl
     ·exact .inl ⟨j, hj, c, hc, hq⟩
     ·rw [hx] at hc
      cases hc
      refine .inr ⟨hq, ?_⟩
      unfold By2 at hq
      omega)
  (fun s ⟨h1, h2, h3, h4⟩ => by
   obtain ⟨a, out⟩ := s
   dsimp only at h1 h2 h3 h4
   subst h1
   refine ⟨out, ?_, h2, fun q => ?_, by omega⟩
   ·unfold bT
    dsimp only
    rw [hf, ltB_nat, decide_eq_false (Nat.lt_irrefl _)]
    rfl
   ·rw [h3 q]
    constructor
    ·rintro ⟨j, hj, c, hc, hq⟩
     exact ⟨c, List.mem_of_getElem? hc, hq⟩
    ·rintro ⟨c, hc, hq⟩
     obtain ⟨j, hj⟩ := List.mem_iff_getElem?.1 hc
     exact ⟨j, aR hj, c, hj, hq⟩)
 exact ⟨t, ht, hq⟩
theorem near_eq {p : List Cell} (h : Pat p) {f : cellularref20_field} (hf : FieldOk p f) : ∃ l, da f = some l ∧ NearOk p l := by
 unfold da
 cases hfl : f.flat with
 | true =>
  have hb := boxIn_of hf.box (hf.flat hfl)
  obtain ⟨l, hl, hS⟩ := scan_all hb
  have b1 := hb.xl; have b2 := hb.xh; have b3 := hb.yl; have b4 := hb.yh
  simp only [cond_true]
  rw [hl]
  refine ⟨l, rfl, hS.dist, fun q hq => ?_, fun c hc q h1 h2 h3 h4 => ?_, by have := hS.len; omega⟩
  ·have := ((hS.mem q).1 hq).1
   unfold InB at this
   unfold Near
   omega
  ·refine (hS.mem q).2 ?_
   have := hf.box.inn c hc
   unfold InB
   omega
 | false =>
  obtain ⟨l, hl, hd, hm, hlen⟩ := far_all h hf.list
  simp only [cond_false]
  rw [hl]
  refine ⟨l, rfl, hd, fun q hq => ?_, fun c hc q h1 h2 h3 h4 => (hm q).2 ⟨c, hc, h1, h2, h3, h4⟩, by omega⟩
  obtain ⟨c, hc, hb⟩ := (hm q).1 hq
  have := (h.cell c hc).1
  unfold By2 at hb
  unfold Near
  omega
theorem validR_eq (x y : Int) : gC x y = some (cS x y) := by
 unfold gC cS
 simp only [bif_some, bif_some_f, some_bind]
theorem stepR_loop {t : Tree} {p : List Cell} (h : Fit t p) (hs : Sz t) {f : cellularref20_field} (hf : FieldOk p f) {N : List Point} (hN : NearOk p N) :
  ∃ out l, ak (dM t f N) aA (false, 0, []) = some (out, l) ∧ (out = true ↔ ∃ q ∈ N, eQ t p q.X q.Y ≠ 0 ∧ cS q.X q.Y = false) ∧ (∀ c, c ∈ l ↔ (⟨c.X, c.Y⟩ : Point) ∈ N ∧ c.S = eQ t p c.X c.Y ∧ c.S ≠ 0) ∧ l.Pairwise Dist ∧ l.length ≤ 400000 := by
 have hlen := hN.len
 obtain ⟨r, hr, hq⟩ := bq (b := dM t f N) (n := N.length) (s := (false, 0, []))
  (fun i s => s.2.1 = (i : Int) ∧ (s.1 = true ↔ ∃ j < i, ∃ q, N[j]? = some q ∧ eQ t p q.X q.Y ≠ 0 ∧ cS q.X q.Y = false) ∧ (∀ c, c ∈ s.2.2 ↔ (∃ j < i, N[j]? = some (⟨c.X, c.Y⟩ : Point)) ∧ c.S = eQ t p c.X c.Y ∧ c.S ≠ 0) ∧ s.2.2.Pairwise Dist ∧ s.2.2.length ≤ i)
  (fun r => (r.1 = true ↔ ∃ q ∈ N, eQ t p q.X q.Y ≠ 0 ∧ cS q.X q.Y = false) ∧ (∀ c, c ∈ r.2 ↔ (⟨c.X, c.Y⟩ : Point) ∈ N ∧ c.S = eQ t p c.X c.Y ∧ c.S ≠ 0) ∧ r.2.Pairwise Dist ∧ r.2.length ≤ 400000) (by omega)
  ⟨rfl, ⟨(fun h => by cases h), fun ⟨j, hj, _⟩ => by omega⟩, fun c => ⟨(fun hc => by simp at hc), fun ⟨⟨j, hj, _⟩, _⟩ => by omega⟩, List.Pairwise.nil, by simp⟩
  (fun i s hi ⟨h1, h2, h3, h4, h5⟩ => by
   obtain ⟨out, a, l⟩ := s
   dsimp only at h1 h2 h3 h4 h5
   subst h1
   have hx : N[i]? = some N[i] := List.getElem?_eq_getElem hi
   obtain ⟨w, hb⟩ : ∃ w, dM t f N (out, (i : Int), l) = w := ⟨_, rfl⟩
   rw [hb]
   unfold dM at hb
   dsimp only at hb
   rw [ltB_nat, decide_eq_true hi, cond_true, idx_nat, hx, up_nat (by omega)] at hb
   simp only [some_bind] at hb
   rw [nextR_eq h hs hf (hN.inn _ (List.getElem_mem hi))] at hb
   simp only [some_bind] at hb
   by_cases hn : eQ t p N[i].X N[i].Y = 0
   ·have e : neB (eQ t p N[i].X N[i].Y) 0 = false := by simpa [neB] using hn
    rw [e] at hb
    refine .inl ⟨_, hb.symm, rfl, ?_, fun c => ?_, h4, by dsimp only; omega⟩
    ·dsimp only
     rw [h2]
     constructor
     ·rintro ⟨j, hj, hq⟩
      exact ⟨j, by omega, hq⟩
     ·rintro ⟨j, hj, q, hq, hq'⟩
      rcases Nat.lt_succ_iff_lt_or_eq.1 hj with hj | rfl
      ·exact ⟨j, hj, q, hq, hq'⟩
      ·rw [hx] at hq
       cases hq
       exact absurd hn hq'.1
    ·dsimp only
     rw [h3 c]
     constructor
     ·rintro ⟨⟨j, hj, hq⟩, h'⟩
      exact ⟨⟨j, by omega, hq⟩, h'⟩
     ·rintro ⟨⟨j, hj, hq⟩, h', h''⟩
      rcases Nat.lt_succ_iff_lt_or_eq.1 hj with hj | rfl
      ·exact ⟨⟨j, hj, hq⟩, h', h''⟩
      ·rw [hx] at hq
       have hq' := Option.some.inj hq
       rw [hq'] at hn
       exact absurd (h'.trans hn) h''
   ·have e : neB (eQ t p N[i].X N[i].Y) 0 = true := by simpa [neB] using hn
    rw [e, validR_eq] at hb
    simp only [cond_true] at hb
    rw [app_in (by omega)] at hb
    simp only [some_bind, bif_some, aD] at hb
    refine .inl ⟨_, hb.symm, ?_⟩
    have hcore : (∀ c, c ∈ l ++ [(⟨N[i].X, N[i].Y, eQ t p N[i].X N[i].Y⟩ : Cell)] ↔ (∃ j < i + 1, N[j]? = some (⟨c.X, c.Y⟩ : Point)) ∧ c.S = eQ t p c.X c.Y ∧ c.S ≠ 0) ∧ (l ++ [(⟨N[i].X, N[i].Y, eQ t p N[i].X N[i].Y⟩ : Cell)]).Pairwise Dist := by
     refine ⟨fun c => ?_, ?_⟩
     ·rw [List.mem_append, List.mem_singleton, h3 c]
      constructor
      ·rintro (⟨⟨j, hj, hq⟩, h'⟩ | rfl)
       ·exact ⟨⟨j, by omega, hq⟩, h'⟩
       ·exact ⟨⟨i, by omega, hx⟩, rfl, hn⟩
      ·rintro ⟨⟨j, hj, hq⟩, h', h''⟩
       rcases Nat.lt_succ_iff_lt_or_eq.1 hj with hj | rfl
       ·exact .inl ⟨⟨j, hj, hq⟩, h', h''⟩
       ·right
        rw [hx] at hq
        have hq' := Option.some.inj hq
        rw [hq']
        cases c
        simp_all
     ·refine List.pairwise_append.2 ⟨h4, List.pairwise_singleton _ _, fun d hd e he => ?_⟩
      rw [List.mem_singleton] at he
      subst he
      rintro ⟨e1, e2⟩
      dsimp only at e1 e2
      obtain ⟨⟨j, hj, hq⟩, _⟩ := (h3 d).1 hd
      obtain ⟨hjl, hje⟩ := List.getElem?_eq_some_iff.1 hq
      have := List.pairwise_iff_getElem.1 hN.dist j i hjl hi hj
      rw [hje] at this
      exact this ⟨e1, e2⟩
    have hout : ∀ o : Bool, (o = true ↔ (out = true ∨ cS N[i].X N[i].Y = false)) → (o = true ↔ ∃ j < i + 1, ∃ q, N[j]? = some q ∧ eQ t p q.X q.Y ≠ 0 ∧ cS q.X q.Y = false) := fun o ho => by
     rw [ho, h2]
     constructor
     ·rintro (⟨j, hj, hq⟩ | hp)
      ·exact ⟨j, by omega, hq⟩
      ·exact ⟨i, by omega, _, hx, hn, hp⟩
     ·rintro ⟨j, hj, q, hq, hq'⟩
      rcases Nat.lt_succ_iff_lt_or_eq.1 hj with hj | rfl
      ·exact .inl ⟨j, hj, q, hq, hq'⟩
      ·rw [hx] at hq
       cases hq
       exact .inr hq'.2
    refine ⟨?_, ?_, ?_, ?_, ?_⟩
    ·cases out <;> rfl
    ·refine hout _ ?_
     cases out <;> simp
    ·cases out <;> exact hcore.1
    ·cases out <;> exact hcore.2
    ·cases out <;> (simp only [cond_true, cond_false, List.length_append, List.length_cons, List.length_nil]; omega))
  (fun s ⟨h1, h2, h3, h4, h5⟩ => by
   obtain ⟨out, a, l⟩ := s
   dsimp only at h1 h2 h3 h4 h5
   subst h1
   refine ⟨(out, l), ?_, ?_, fun c => ?_, h4, by dsimp only; omega⟩
   ·unfold dM
    dsimp only
    rw [ltB_nat, decide_eq_false (Nat.lt_irrefl _)]
    rfl
   ·dsimp only
    rw [h2]
    constructor
    ·rintro ⟨j, hj, q, hq, hq'⟩
     exact ⟨q, List.mem_of_getElem? hq, hq'⟩
    ·rintro ⟨q, hq, hq'⟩
     obtain ⟨j, hj⟩ := List.mem_iff_getElem?.1 hq
     exact ⟨j, aR hj, q, hj, hq'⟩
   ·dsimp only
    rw [h3 c]
    constructor
    ·rintro ⟨⟨j, hj, hq⟩, h'⟩
     exact ⟨List.mem_of_getElem? hq, h'⟩
    ·rintro ⟨hq, h'⟩
     obtain ⟨j, hj⟩ := List.mem_iff_getElem?.1 hq
     exact ⟨⟨j, aR hj, hj⟩, h'⟩)
 obtain ⟨out, l⟩ := r
 exact ⟨out, l, hr, hq⟩
theorem stepR_eq {t : Tree} {p : List Cell} (hs : Sz t) (hp : p.length < 1099511627776) : (bL t p ≠ 0 ∧ dS t p = some ([], bL t p)) ∨ (bL t p = 0 ∧ ∃ r, dS t p = some r ∧ Stp t p r) := by
 unfold dS
 rw [fits_eq hs hp]
 simp only [some_bind]
 by_cases h0 : bL t p = 0
 ·have h := fY h0
  obtain ⟨f, hf, hF⟩ := states_eq (fit_pat h0)
  obtain ⟨N, hN, hNO⟩ := near_eq h.pat hF
  obtain ⟨out, l, hl, h1, h2, h3, h4⟩ := stepR_loop h hs hF hNO
  have e : neB (bL t p) 0 = false := by simpa [neB] using h0
  rw [e, hf]
  simp only [cond_false, some_bind]
  rw [hN]
  simp only [some_bind]
  rw [hl]
  simp only [some_bind]
  have hall : ∀ x z, eQ t p x z ≠ 0 → (⟨x, z⟩ : Point) ∈ N := fun x z hn => by
   obtain ⟨c, hc, o, ho, e1, e2⟩ := newS_near h hn
   have := hood_in h.ok ho
   exact hNO.all c hc ⟨x, z⟩ (by dsimp only; omega) (by dsimp only; omega) (by dsimp only; omega) (by dsimp only; omega)
  refine .inr ⟨h0, ?_⟩
  cases out with
  | true =>
   obtain ⟨q, _, hq⟩ := h1.1 rfl
   exact ⟨_, rfl, .inl ⟨⟨_, _, hq⟩, rfl⟩⟩
  | false =>
   have hno : ¬ Out t p := fun ⟨x, z, hn, hpl⟩ => by
    have := h1.2 ⟨⟨x, z⟩, hall x z hn, hn, hpl⟩
    cases this
   have hC : Canon t p (ig [] l) := ⟨kl _ _ List.Pairwise.nil (by simpa using h3), fun c => by
    have hm : c ∈ ig [] l ↔ c ∈ l := by
     have := jH l []
     rw [List.nil_append] at this
     exact this.mem_iff
    rw [hm, h2 c]
    exact ⟨fun h => h.2, fun h => ⟨hall _ _ (by rw [← h.1]; exact h.2), h⟩⟩⟩
   have hlen : ah (ig [] l) = ah l := by
    have := (jH l []).length_eq
    unfold ah
    rw [this, List.nil_append]
   simp only [cond_false]
   cases hg : gtB (ah l) 5000 with
   | true =>
    refine ⟨_, rfl, .inr ⟨hno, _, hC, ?_⟩⟩
    rw [hlen, hg]
    rfl
   | false =>
    simp only [cond_false]
    have hfr := fromR_eq (l := l) (by omega) (fun c hc => by
     obtain ⟨_, e1, e2⟩ := (h2 c).1 hc
     have hv := (newS_eq h hs c.X c.Y).2
     have h8 := h.ok.s8
     refine ⟨?_, by omega, by omega⟩
     cases hpl : cS c.X c.Y with
     | true => rfl
     | false => exact absurd ⟨c.X, c.Y, by rw [← e1]; exact e2, hpl⟩ hno) h3
    rw [hfr]
    simp only [some_bind]
    exact ⟨_, rfl, .inr ⟨hno, _, hC, rfl⟩⟩
 ·have : neB (bL t p) 0 = true := by simpa [neB] using h0
  rw [this]
  exact .inl ⟨h0, rfl⟩
theorem step_both {t : Tree} {p : List Cell} (hs : Sz t) (hp : p.length < 1099511627776) : ∃ r, bK t p = some r ∧ dS t p = some r ∧ ((bL t p ≠ 0 ∧ r = ([], bL t p)) ∨ (bL t p = 0 ∧ Stp t p r)) := by
 rcases step_eq hs hp with ⟨h0, h1⟩ | ⟨h0, r, h1, h2⟩
 ·rcases stepR_eq hs hp with ⟨_, h3⟩ | ⟨h0', _⟩
  ·exact ⟨_, h1, h3, .inl ⟨h0, rfl⟩⟩
  ·exact absurd h0' h0
 ·rcases stepR_eq hs hp with ⟨h0', _⟩ | ⟨_, r', h3, h4⟩
  ·exact absurd h0 h0'
  ·rw [h2.uniq h4] at h1 h2
   exact ⟨r', h1, h3, .inr ⟨h0, h2⟩⟩
end Go.Proofs.YtfpjnmhdbgbmmaaGreatDoor
namespace Go.Proofs.YtfpjnmhdbgbmmaaGreatDoor
open Go.AM Go.Proofs
theorem run0_is {t : Tree} {p : List Cell} (hs : Sz t) (hp : p.length < 1099511627776) : cy t p 0 = some (bif neB (bL t p) 0 then ([], bL t p) else (p, 0)) := by
 unfold cy
 rw [check_eq hs hp]
 simp only [some_bind]
 cases neB (bL t p) 0 with
 | true => rfl
 | false =>
  have hF : ∃ k, aA = k + 1 := ⟨1099511627775, rfl⟩
  obtain ⟨k, hk⟩ := hF
  have hl : ak (cG t 0) aA (p, 0) = some (.inr p) := by
   rw [hk, ak]
   rfl
  rw [hl]
  rfl
theorem runR0_is {t : Tree} {p : List Cell} (hs : Sz t) (hp : p.length < 1099511627776) : fD t p 0 = some (bif neB (bL t p) 0 then ([], bL t p) else (p, 0)) := by
 unfold fD eR
 rw [fits_eq hs hp]
 simp only [some_bind]
 cases hn : neB (bL t p) 0 with
 | true =>
  simp only [cond_true, some_bind, hn]
 | false =>
  have hF : ∃ k, aA = k + 1 := ⟨1099511627775, rfl⟩
  obtain ⟨k, hk⟩ := hF
  have hl : ak (cO t 0) aA (0, [p]) = some (.inr [p]) := by
   rw [hk, ak]
   rfl
  rw [hl]
  rfl
theorem stp_pat {t : Tree} {p : List Cell} {r : List Cell × Int} (h : Fit t p) (hs : Sz t) (hr : Stp t p r) (h0 : r.2 = 0) : Fit t r.1 := by
 rcases hr with ⟨_, rfl⟩ | ⟨hno, y, hy, rfl⟩
 ·cases h0
 ·cases hg : gtB (ah y) 5000 with
  | true => rw [hg] at h0; cases h0
  | false =>
   simp only [cond_false]
   have hl := of_decide_eq_false hg
   unfold ah at hl
   have hc : ∀ c ∈ y, (-1048576 ≤ c.X ∧ c.X ≤ 1048576 ∧ -1048576 ≤ c.Y ∧ c.Y ≤ 1048576) ∧ 1 ≤ c.S ∧ c.S < t.States := fun c hc => by
    obtain ⟨e1, e2⟩ := (hy.mem c).1 hc
    have hv := (newS_eq h hs c.X c.Y).2
    refine ⟨?_, by omega, by omega⟩
    rw [← place_iff]
    cases hpl : cS c.X c.Y with
    | true => rfl
    | false => exact absurd ⟨c.X, c.Y, by rw [← e1]; exact e2, hpl⟩ hno
   have h8 := h.ok.s8
   exact ⟨h.ok, h.zero, ⟨by omega, fun c hc' => ⟨(hc c hc').1, by have := (hc c hc').2; omega⟩, hy.sorted⟩, fun c hc' => (hc c hc').2.2⟩
theorem anyB_all {α : Type} {f : α → Bool} : ∀ {l : List α} {i : Nat}, (∀ x ∈ l, f x = false) → anyB (fun _ x => f x) l i = false
 | [], _, _ => rfl
 | x :: l, i, h => by
  unfold anyB
  rw [h x (by simp), anyB_all fun y hy => h y (List.mem_cons_of_mem _ hy)]
  rfl
theorem fitE_of {t : Tree} {p : List Cell} (h : Fit t p) (hq : gb t = true) : bL t p = 0 := by
 unfold bL
 have h1 : gY p = true := by
  unfold gY
  have hl := h.pat.len
  have e : leB (ah p) 5000 = true := decide_eq_true (by unfold ah; omega)
  rw [e, Bool.true_and]
  have : anyB (badC p) p 0 = false := anyB_of_false fun j x hx => by
   have hc := h.pat.cell x (List.mem_of_getElem? hx)
   have hpl := (place_iff x.X x.Y).2 hc.1
   unfold badC
   have e1 : ltB x.S 1 = false := decide_eq_false (by omega)
   have e2 : geB x.S 8 = false := decide_eq_false (by omega)
   rw [hpl, e1, e2, Nat.zero_add]
   cases j with
   | zero => rfl
   | succ j =>
    obtain ⟨y, hy⟩ := kd hx
    simp only [hy]
    have h1 := aR hx
    obtain ⟨_, e3⟩ := List.getElem?_eq_some_iff.1 hx
    obtain ⟨_, e4⟩ := List.getElem?_eq_some_iff.1 hy
    have := List.pairwise_iff_getElem.1 h.pat.sorted j (j + 1) (by omega) h1 (by omega)
    rw [e3, e4] at this
    rw [this]
    rfl
  rw [this]
  rfl
 have h2 : anyB (fun _ (c : Cell) => geB c.S t.States) p 0 = false := anyB_all fun c hc => decide_eq_false (by have := h.small c hc; omega)
 rw [hq, h1, h2]
 rfl
theorem fitE_quiet {t : Tree} {p : List Cell} (h : bL t p = 0) : gb t = true := by
 unfold bL at h
 cases hq : gb t with
 | false => rw [hq] at h; simp at h
 | true => rfl
theorem stp_nil {t : Tree} {r : List Cell × Int} (h : Fit t []) (hr : Stp t [] r) : r = ([], 0) := by
 have h0 : ∀ x y, eQ t [] x y = 0 := fun x y => by
  apply Classical.byContradiction
  intro hn
  obtain ⟨c, hc, _⟩ := newS_near h hn
  simp at hc
 rcases hr with ⟨⟨x, y, hn, _⟩, _⟩ | ⟨_, y, hy, rfl⟩
 ·exact absurd (h0 x y) hn
 ·have : y = [] := by
   cases y with
   | nil => rfl
   | cons c y =>
    obtain ⟨e1, e2⟩ := (hy.mem c).1 (by simp)
    exact absurd (e1.trans (h0 _ _)) e2
  subst this
  rfl
def relC (h c : Cell) : Cell := ⟨c.X - h.X, c.Y - h.Y, c.S⟩
def iP : List Cell → List Cell
 | [] => []
 | h :: l => (h :: l).map (relC h)
theorem home_eq {p : List Cell} (h : Pat p) : fc p = some (iP p) := by
 have hl := h.len
 cases p with
 | nil =>
  have hF : ∃ k, aA = k + 1 := ⟨1099511627775, rfl⟩
  obtain ⟨k, hk⟩ := hF
  unfold fc
  rw [hk]
  rfl
 | cons c0 p =>
  have hc0 := (h.cell c0 (by simp)).1
  obtain ⟨r, hr, e⟩ := bq (b := fJ (c0 :: p)) (n := (c0 :: p).length) (s := (0, [])) (fun i s => s = ((i : Int), ((c0 :: p).take i).map (relC c0))) (fun r => r = (c0 :: p).map (relC c0)) (by omega) rfl
   (fun i s hi e => by
    subst e
    have hx : (c0 :: p)[i]? = some (c0 :: p)[i] := List.getElem?_eq_getElem hi
    have hc := (h.cell _ (List.getElem_mem hi)).1
    refine .inl ⟨(((i + 1 : Nat) : Int), ((c0 :: p).take (i + 1)).map (relC c0)), ?_, rfl⟩
    unfold fJ
    dsimp only
    have e0 : idx (c0 :: p) 0 = some c0 := rfl
    rw [ltB_nat, decide_eq_true hi, cond_true, idx_nat, hx, e0, up_nat (by omega)]
    simp only [some_bind]
    rw [isub_in (by omega), isub_in (by omega), app_in (by rw [List.length_map, List.length_take]; omega)]
    simp only [some_bind]
    rw [List.take_add_one, hx, Option.toList_some, List.map_append]
    rfl)
   (fun s e => by
    subst e
    refine ⟨_, ?_, rfl⟩
    unfold fJ
    dsimp only
    rw [ltB_nat, decide_eq_false (Nat.lt_irrefl _), List.take_length]
    rfl)
  unfold fc
  rw [hr, e]
  rfl
theorem order_ne {a b : Int} (h : a ≠ b) : ∃ v, cd a b = some v ∧ v ≠ 0 := by
 unfold cd ltB gtB
 by_cases h1 : a < b
 ·simp [h1]
 ·have : a > b := by omega
  simp [h1, this]
theorem order_self (a : Int) : cd a a = some 0 := by
 unfold cd ltB gtB
 simp
theorem same_eq {a b : List Cell} (ha : a.length ≤ 5000) (hb : b.length ≤ 5000) : eu a b = some (decide (a = b)) := by
 have hmain : ∃ v, eY a b = some v ∧ (v = 0 ↔ a = b) := by
  obtain ⟨t, ht, hq⟩ := bq (b := cN a b) (n := min a.length b.length) (s := 0) (fun i s => s = (i : Int) ∧ a.take i = b.take i)
   (fun t => (∃ v, t = .inl v ∧ v ≠ 0 ∧ a ≠ b) ∨ (t = .inr () ∧ a.take (min a.length b.length) = b.take (min a.length b.length))) (by omega)
   ⟨rfl, rfl⟩
   (fun i s hi ⟨h1, h2⟩ => by
    subst h1
    have hxa : a[i]? = some (a[i]'(by omega)) := List.getElem?_eq_getElem (by omega)
    have hxb : b[i]? = some (b[i]'(by omega)) := List.getElem?_eq_getElem (by omega)
    obtain ⟨w, hw⟩ : ∃ w, cN a b (i : Int) = w := ⟨_, rfl⟩
    rw [hw]
    unfold cN at hw
    dsimp only at hw
    rw [ltB_nat, ltB_nat, decide_eq_true (by omega), decide_eq_true (by omega), idx_nat, idx_nat, hxa, hxb, up_nat (by omega)] at hw
    simp only [cond_true, some_bind] at hw
    have hne : ∀ {v : Int} {x y : Int}, x ≠ y → (∀ (e : a = b), x = y) → cd x y = some v → v ≠ 0 → (∃ v', (Sum.inl v : Int ⊕ Unit) = .inl v' ∧ v' ≠ 0 ∧ a ≠ b) := fun hxy hab _ hv => ⟨_, rfl, hv, fun e => hxy (hab e)⟩
    have hab : a = b → (a[i]'(by omega)) = (b[i]'(by omega)) := fun e => by
     subst e; rfl
    by_cases hY : (a[i]'(by omega)).Y = (b[i]'(by omega)).Y
    ·have e1 : neB (a[i]'(by omega)).Y (b[i]'(by omega)).Y = false := by simpa [neB] using hY
     rw [e1] at hw
     simp only [cond_false] at hw
     by_cases hX : (a[i]'(by omega)).X = (b[i]'(by omega)).X
     ·have e2 : neB (a[i]'(by omega)).X (b[i]'(by omega)).X = false := by simpa [neB] using hX
      rw [e2] at hw
      simp only [cond_false] at hw
      by_cases hS : (a[i]'(by omega)).S = (b[i]'(by omega)).S
      ·have e3 : neB (a[i]'(by omega)).S (b[i]'(by omega)).S = false := by simpa [neB] using hS
       rw [e3] at hw
       simp only [cond_false] at hw
       refine .inl ⟨_, hw.symm, rfl, ?_⟩
       rw [List.take_add_one, List.take_add_one, h2, hxa, hxb]
       congr 2
       revert hX hY hS
       generalize (a[i]'(by omega)) = u
       generalize (b[i]'(by omega)) = v
       intro hX hY hS
       cases u; cases v
       simp_all
      ·have e3 : neB (a[i]'(by omega)).S (b[i]'(by omega)).S = true := by simpa [neB] using hS
       rw [e3] at hw
       obtain ⟨v, hv, hv0⟩ := order_ne hS
       rw [hv] at hw
       exact .inr ⟨_, hw.symm, .inl ⟨v, rfl, hv0, fun e => hS (by rw [hab e])⟩⟩
     ·have e2 : neB (a[i]'(by omega)).X (b[i]'(by omega)).X = true := by simpa [neB] using hX
      rw [e2] at hw
      obtain ⟨v, hv, hv0⟩ := order_ne hX
      rw [hv] at hw
      exact .inr ⟨_, hw.symm, .inl ⟨v, rfl, hv0, fun e => hX (by rw [hab e])⟩⟩
    ·have e1 : neB (a[i]'(by omega)).Y (b[i]'(by omega)).Y = true := by simpa [neB] using hY
     rw [e1] at hw
     obtain ⟨v, hv, hv0⟩ := order_ne hY
     rw [hv] at hw
     exact .inr ⟨_, hw.symm, .inl ⟨v, rfl, hv0, fun e => hY (by rw [hab e])⟩⟩)
   (fun s ⟨h1, h2⟩ => by
    subst h1
    refine ⟨_, ?_, .inr ⟨rfl, h2⟩⟩
    unfold cN
    dsimp only
    rw [ltB_nat, ltB_nat]
    by_cases hab : min a.length b.length < a.length
    ·have : ¬ min a.length b.length < b.length := by omega
     rw [decide_eq_true hab, decide_eq_false this]
     rfl
    ·rw [decide_eq_false hab]
     rfl)
  unfold eY
  rw [ht]
  rcases hq with ⟨v, rfl, hv, hab⟩ | ⟨rfl, htk⟩
  ·exact ⟨v, rfl, ⟨fun h => absurd h hv, fun h => absurd h hab⟩⟩
  ·by_cases hlen : a.length = b.length
   ·have e : a = b := by
     rw [hlen, Nat.min_self, List.take_length] at htk
     rw [← hlen, List.take_length] at htk
     exact htk
    refine ⟨0, ?_, ⟨fun _ => e, fun _ => rfl⟩⟩
    simp only [some_bind]
    unfold ah
    rw [hlen, order_self]
    rfl
   ·obtain ⟨v, hv, hv0⟩ := order_ne (a := ah a) (b := ah b) (by unfold ah; omega)
    refine ⟨v, ?_, ⟨fun h => absurd h hv0, fun h => absurd (by rw [h]) hlen⟩⟩
    simp only [some_bind, hv]
 obtain ⟨v, hv, hiff⟩ := hmain
 unfold eu
 rw [hv]
 simp only [some_bind]
 congr 1
 unfold eqB
 by_cases h : a = b
 ·rw [decide_eq_true h, hiff.2 h]; rfl
 ·rw [decide_eq_false h]
  have : v ≠ 0 := fun e => h (hiff.1 e)
  simpa using this
end Go.Proofs.YtfpjnmhdbgbmmaaGreatDoor
