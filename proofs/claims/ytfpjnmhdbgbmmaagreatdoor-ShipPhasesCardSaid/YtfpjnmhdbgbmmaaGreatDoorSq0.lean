/- ShipPhases: the two sides agree on boxes, homes, runs, Right and Phase. -/
import Derived.Test.YtfpjnmhdbgbmmaaGreatDoorPfx
import Derived.Test.YtfpjnmhdbgbmmaaGreatDoorSd0
namespace Go.Proofs.YtfpjnmhdbgbmmaaGreatDoor
open Go.AM Go.Proofs
theorem gB {α β : Type} (f : β → α → β) (a : β) (l : List α) {i : Nat} {x : α} (h : l[i]? = some x) : (l.take (i + 1)).foldl f a = f ((l.take i).foldl f a) x := by
 obtain ⟨hi, rfl⟩ := List.getElem?_eq_some_iff.1 h
 rw [List.take_succ_eq_append_getElem hi, List.foldl_append]
 rfl
theorem iZ (f : Cell → Int) : ∀ (l : List Cell) (a : Int), (∀ c ∈ l, a ≤ f c) → l.foldl (fun x c => gR x (f c)) a = a
 | [], _, _ => rfl
 | c :: l, a, h => by
  have hc := h c (by simp)
  have : gR a (f c) = a := by unfold gR; rw [if_neg (by omega)]
  rw [List.foldl_cons, this]
  exact iZ f l a fun d hd => h d (by simp [hd])
theorem fold_imax_is (f : Cell → Int) (m : Int) : ∀ (l : List Cell) (a : Int), a ≤ m → (∀ c ∈ l, f c ≤ m) → (a = m ∨ ∃ c ∈ l, f c = m) → l.foldl (fun x c => gQ x (f c)) a = m
 | [], a, _, _, h => by
  rcases h with h | ⟨c, hc, _⟩
  ·exact h
  ·simp at hc
 | c :: l, a, ha, hl, h => by
  rw [List.foldl_cons]
  have hc := hl c (by simp)
  have h2 := imax_is a (f c)
  refine fold_imax_is f m l _ (by omega) (fun d hd => hl d (by simp [hd])) ?_
  rcases h with h | ⟨d, hd, hm⟩
  ·exact .inl (by omega)
  ·rcases List.mem_cons.1 hd with rfl | hd
   ·exact .inl (by omega)
   ·exact .inr ⟨d, hd, hm⟩
def lowX (p : List Cell) (a : Int) : Int := p.foldl (fun x c => gR x c.X) a
def highX (p : List Cell) (a : Int) : Int := p.foldl (fun x c => gQ x c.X) a
theorem boxP_loop {p : List Cell} (hl : p.length ≤ 5000) (a : Int) : ak (cP p) aA (a, a, 0) = some (lowX p a, highX p a) := by
 obtain ⟨t, ht, rfl⟩ := bq (b := cP p) (n := p.length) (s := (a, a, 0)) (fun i s => s = ((p.take i).foldl (fun x c => gR x c.X) a, (p.take i).foldl (fun x c => gQ x c.X) a, (i : Int))) (fun t => t = (lowX p a, highX p a)) (by omega) rfl
  (fun i s hi hs => by
   subst hs
   have hx : p[i]? = some p[i] := List.getElem?_eq_getElem hi
   refine .inl ⟨_, ?_, rfl⟩
   unfold cP
   dsimp only
   rw [ltB_nat, decide_eq_true hi, cond_true, idx_nat, hx, up_nat (by omega), gB _ _ _ hx, gB _ _ _ hx]
   rfl)
  (fun s hs => by
   subst hs
   refine ⟨_, ?_, rfl⟩
   unfold cP
   dsimp only
   rw [ltB_nat, decide_eq_false (Nat.lt_irrefl _), List.take_length]
   rfl)
 exact ht
theorem boxR_loop {p : List Cell} (hl : p.length ≤ 5000) (a b : Int) : ak (cF p) aA (a, b, a, b, 0) = some (lowX p a, p.foldl (fun x c => gR x c.Y) b, highX p a, p.foldl (fun x c => gQ x c.Y) b) := by
 obtain ⟨t, ht, rfl⟩ := bq (b := cF p) (n := p.length) (s := (a, b, a, b, 0)) (fun i s => s = ((p.take i).foldl (fun x c => gR x c.X) a, (p.take i).foldl (fun x c => gR x c.Y) b, (p.take i).foldl (fun x c => gQ x c.X) a, (p.take i).foldl (fun x c => gQ x c.Y) b, (i : Int)))
  (fun t => t = (lowX p a, p.foldl (fun x c => gR x c.Y) b, highX p a, p.foldl (fun x c => gQ x c.Y) b)) (by omega) rfl
  (fun i s hi hs => by
   subst hs
   have hx : p[i]? = some p[i] := List.getElem?_eq_getElem hi
   refine .inl ⟨_, ?_, rfl⟩
   unfold cF
   dsimp only
   rw [ltB_nat, decide_eq_true hi, cond_true, idx_nat, hx, up_nat (by omega), gB _ _ _ hx, gB _ _ _ hx, gB _ _ _ hx, gB _ _ _ hx]
   rfl)
  (fun s hs => by
   subst hs
   refine ⟨_, ?_, rfl⟩
   unfold cF
   dsimp only
   rw [ltB_nat, decide_eq_false (Nat.lt_irrefl _), List.take_length]
   rfl)
 exact ht
theorem home6_loop {p : List Cell} (hl : p.length ≤ 5000) (a b : Int) : ak (ez p) aA (a, b, 0) = some (lowX p a, p.foldl (fun x c => gR x c.Y) b) := by
 obtain ⟨t, ht, rfl⟩ := bq (b := ez p) (n := p.length) (s := (a, b, 0)) (fun i s => s = ((p.take i).foldl (fun x c => gR x c.X) a, (p.take i).foldl (fun x c => gR x c.Y) b, (i : Int)))
  (fun t => t = (lowX p a, p.foldl (fun x c => gR x c.Y) b)) (by omega) rfl
  (fun i s hi hs => by
   subst hs
   have hx : p[i]? = some p[i] := List.getElem?_eq_getElem hi
   refine .inl ⟨_, ?_, rfl⟩
   unfold ez
   dsimp only
   rw [ltB_nat, decide_eq_true hi, cond_true, idx_nat, hx, up_nat (by omega), gB _ _ _ hx, gB _ _ _ hx]
   rfl)
  (fun s hs => by
   subst hs
   refine ⟨_, ?_, rfl⟩
   unfold ez
   dsimp only
   rw [ltB_nat, decide_eq_false (Nat.lt_irrefl _), List.take_length]
   rfl)
 exact ht
theorem sorted_ends {c0 : Cell} {q : List Cell} (h : Pat (c0 :: q)) : (∀ c ∈ c0 :: q, c0.Y ≤ c.Y) ∧ ∃ cl, (c0 :: q)[q.length]? = some cl ∧ ∀ c ∈ c0 :: q, c.Y ≤ cl.Y := by
 have hs := h.sorted
 refine ⟨fun c hc => ?_, ?_⟩
 ·rcases List.mem_cons.1 hc with rfl | hc
  ·exact Int.le_refl _
  ·have := (fq _ _).1 ((List.pairwise_cons.1 hs).1 c hc)
   omega
 ·have hlt : q.length < (c0 :: q).length := by simp
  refine ⟨(c0 :: q)[q.length], List.getElem?_eq_getElem hlt, fun c hc => ?_⟩
  obtain ⟨i, hi, rfl⟩ := List.mem_iff_getElem.1 hc
  rcases Nat.lt_or_ge i q.length with hi2 | hi2
  ·have := (fq _ _).1 (List.pairwise_iff_getElem.1 hs i q.length hi hlt hi2)
   omega
  ·have : i = q.length := by simp at hi; omega
   subst this
   exact Int.le_refl _
theorem box_both {p : List Cell} (hl : p.length < 1099511627776) : ∃ r, cB p = some r ∧ fB p = some r ∧ (gY p = true → p = [] ∨ ∃ c0 w h, p[0]? = some c0 ∧ r = (⟨lowX p c0.X, c0.Y, w, h⟩, true)) := by
 unfold cB fB
 rw [pat_eq hl, patR_eq hl]
 cases p with
 | nil => exact ⟨_, rfl, rfl, fun _ => .inl rfl⟩
 | cons c0 q =>
  have e1 : eqB (ah (c0 :: q)) 0 = false := by
   unfold eqB ah
   simp
   omega
  rw [e1]
  cases hp : gY (c0 :: q) with
  | false => exact ⟨_, rfl, rfl, fun h => by cases h⟩
  | true =>
   have h := pat_of hp
   obtain ⟨hY, cl, hcl, hL⟩ := sorted_ends h
   have e2 : idx (c0 :: q) 0 = some c0 := rfl
   have hlen : aC .i64 (ah (c0 :: q)) 1 = ((q.length : Nat) : Int) := by
    unfold ah
    rw [isub_in (by have := h.len; simp at this ⊢; omega)]
    simp
   simp only [cond_false, some_bind, aD, Bool.not_true, e2]
   rw [boxP_loop h.len, boxR_loop h.len, hlen, idx_nat, hcl]
   rw [iZ (fun c => c.Y) _ _ hY, fold_imax_is (fun c => c.Y) cl.Y _ _ (hL c0 (by simp)) hL (.inr ⟨cl, List.mem_of_getElem? hcl, rfl⟩)]
   exact ⟨_, rfl, rfl, fun _ => .inr ⟨c0, _, _, rfl, rfl⟩⟩
theorem homeB_eq (p : List Cell) (b : Box) (z : Bool) : fM p (b, z) = dL p b.X b.Y := by
 funext ⟨i, out⟩
 rfl
theorem home2_loop {p : List Cell} (hl : p.length ≤ 5000) (x y : Int) : ∃ h, ak (dL p x y) aA (0, []) = some h ∧ h.length = p.length :=
 bq (b := dL p x y) (n := p.length) (s := (0, [])) (fun i s => s.1 = (i : Int) ∧ s.2.length = i) (fun t => t.length = p.length) (by omega) ⟨rfl, rfl⟩
  (fun i s hi ⟨h1, h2⟩ => by
   obtain ⟨a, out⟩ := s
   dsimp only at h1 h2
   subst h1
   have hx : p[i]? = some p[i] := List.getElem?_eq_getElem hi
   have ha : ∀ c : Cell, dr 24 out [c] = some (out ++ [c]) := fun c => by
    unfold dr
    rw [if_pos ⟨by decide, by simp; omega⟩]
   refine .inl ⟨(((i + 1 : Nat) : Int), out ++ [⟨aC .i64 p[i].X x, aC .i64 p[i].Y y, p[i].S⟩]), ?_, rfl, by simp; omega⟩
   unfold dL
   dsimp only
   rw [ltB_nat, decide_eq_true hi, cond_true, idx_nat, hx, up_nat (by omega)]
   simp only [some_bind, ha])
  (fun s ⟨h1, h2⟩ => by
   obtain ⟨a, out⟩ := s
   dsimp only at h1 h2
   subst h1
   refine ⟨out, ?_, h2⟩
   unfold dL
   dsimp only
   rw [ltB_nat, decide_eq_false (Nat.lt_irrefl _)]
   rfl)
theorem home_both {p : List Cell} (hp : gY p = true) : ∃ h, dh p = some h ∧ iw p = some h ∧ h.length ≤ 5000 := by
 have hP := pat_of hp
 have hl := hP.len
 obtain ⟨r, hb, _, hr⟩ := box_both (p := p) (by omega)
 unfold dh iw
 rw [hb, pat_eq (by omega), patR_eq (by omega), hp]
 cases p with
 | nil =>
  have : r.2 = false := by
   have e : cB [] = some (⟨0, 0, 0, 0⟩, false) := rfl
   rw [e] at hb
   cases hb
   rfl
  refine ⟨[], ?_, rfl, by simp⟩
  simp only [some_bind, this, aD, Bool.not_false, cond_true]
 | cons c0 q =>
  rcases hr hp with h | ⟨c, w, h, hc, rfl⟩
  ·cases h
  ·cases hc
   have e1 : eqB (ah (c0 :: q)) 0 = false := by
    unfold eqB ah
    simp
    omega
   have e2 : idx (c0 :: q) 0 = some c0 := rfl
   obtain ⟨h, hh, hlen⟩ := home2_loop hl (lowX (c0 :: q) c0.X) c0.Y
   have hm : mkL 24 0 (ah (c0 :: q)) (⟨0, 0, 0⟩ : Cell) = some [] := by
    unfold mkL ah
    rw [if_pos (by omega)]
    rfl
   refine ⟨h, ?_, ?_, by omega⟩
   ·simp only [some_bind, aD, Bool.not_true, cond_false, hm]
    rw [homeB_eq, hh]
    rfl
   ·simp only [some_bind, aD, Bool.not_true, cond_false, e1, e2]
    rw [home6_loop hl, iZ (fun c => c.Y) _ _ (sorted_ends hP).1]
    simp only [some_bind, hh]
theorem iterS_one {t : Tree} {q q' : List Cell} (h : cW t 1 q = (q', 0)) : b8 t q = (q', 0) := by
 unfold cW at h
 cases hn : neB (b8 t q).2 0 with
 | true =>
  rw [hn] at h
  simp only [cond_true, Prod.mk.injEq] at h
  simp [neB, h.2] at hn
 | false =>
  rw [hn] at h
  simp only [cond_false, cW, Prod.mk.injEq] at h
  have : (b8 t q).2 = 0 := by simpa [neB] using hn
  rw [← h.1, ← this]
theorem runR_eq {t : Tree} (hs : Sz t) {p y : List Cell} (hp : bL t p = 0) {n : Nat} (hn : n ≤ 10000) (hall : ∀ g, g ≤ n → ∃ q, cW t g p = (q, 0)) (hy : cW t n p = (y, 0)) : fD t p (n : Int) = some (y, 0) := by
 have hlen := (fY hp).pat.len
 have hz : neB (0 : Int) 0 = false := rfl
 have hn1 : ltB (n : Int) 0 = false := decide_eq_false (by omega)
 have hn2 : gtB (n : Int) 10000 = false := decide_eq_false (by omega)
 obtain ⟨r, hr, out, rfl, ho⟩ := bq (b := cO t (n : Int)) (n := n) (s := (0, [p])) (fun i s => s.1 = (i : Int) ∧ s.2.length = i + 1 ∧ ∃ q, s.2[i]? = some q ∧ cW t i p = (q, 0)) (fun r => ∃ out, r = .inr out ∧ out[n]? = some y) (by omega)
  ⟨rfl, rfl, p, rfl, rfl⟩
  (fun i s hi ⟨h1, h2, q, h3, h4⟩ => by
   obtain ⟨a, out⟩ := s
   dsimp only at h1 h2 h3
   subst h1
   obtain ⟨q', hq'⟩ := hall (i + 1) hi
   have hst := iterS_one ((iterS_add t i 1 p q h4).symm.trans hq')
   have hfq := (iterS_fit hs i p q hp h4).1
   have hstep := (jL hs (q := q) (by have := (fY hfq).pat.len; omega)).2.1
   rw [hst] at hstep
   have ha : dr 24 out [q'] = some (out ++ [q']) := by
    unfold dr
    rw [if_pos ⟨by decide, by simp; omega⟩]
   refine .inl ⟨(((i + 1 : Nat) : Int), out ++ [q']), ?_, rfl, by simp; omega, q', ?_, hq'⟩
   ·unfold cO
    dsimp only
    rw [show ltB (i : Int) (n : Int) = true from decide_eq_true (by omega), cond_true, idx_nat, h3, up_nat (by omega)]
    simp only [some_bind, hstep, hz, cond_false, ha]
   ·dsimp only
    rw [List.getElem?_append_right (by omega), show i + 1 - out.length = 0 from by omega]
    rfl)
  (fun s ⟨h1, h2, q, h3, h4⟩ => by
   obtain ⟨a, out⟩ := s
   dsimp only at h1 h2 h3
   subst h1
   refine ⟨.inr out, ?_, out, rfl, ?_⟩
   ·unfold cO
    dsimp only
    rw [show ltB (n : Int) (n : Int) = false from decide_eq_false (by omega)]
    rfl
   ·rw [h4] at hy
    cases hy
    exact h3)
 unfold fD eR
 rw [fits_eq hs (by omega), hp]
 simp only [some_bind, hz, cond_false, hn1, hn2, hr, idx_nat, ho]
theorem has_both {t : Tree} {p : List Cell} (hs : Sz t) (hp : p.length < 1099511627776) (m : Motion) : ∃ h, fP t p m = some h ∧ jy t p m = some h ∧ (h.1 = true → ∃ P, Per t p m P) := by
 unfold fP jy
 rw [find_eq hs (by omega), findR_eq hs (by omega)]
 simp only [some_bind, bif_some]
 cases he : neB (ib t p m.Period).2.2 0 with
 | true =>
  have h0 : (ib t p m.Period).2.2 ≠ 0 := by simpa [neB] using he
  rw [findA_err h0]
  exact ⟨_, rfl, rfl, fun h => by cases h⟩
 | false =>
  have h0 : (ib t p m.Period).2.2 = 0 := by simpa [neB] using he
  rw [h0]
  refine ⟨_, rfl, rfl, fun h => ?_⟩
  dsimp only at h
  cases h1 : (ib t p m.Period).2.1 with
  | false => rw [h1] at h; cases h
  | true =>
   rw [h1] at h
   obtain ⟨P, hP, _⟩ := findA_per hs h0 h1
   have hm : (ib t p m.Period).1 = m := by
    generalize (ib t p m.Period).1 = x at h
    obtain ⟨a, b, c⟩ := x
    obtain ⟨a', b', c'⟩ := m
    simp only [cond_true, bY, eqB, Bool.and_eq_true, beq_iff_eq] at h
    obtain ⟨rfl, rfl, rfl, _⟩ := h
    rfl
   rw [hm] at hP
   exact ⟨P, hP⟩
theorem right_both {t : Tree} {s : Ship} (hs : Sz t) (hp : s.Cells.length < 1099511627776) : ∃ b, dN t s = some b ∧ fh t s = some b ∧ (b = true → ∃ P, Per t s.Cells s.Motion P) := by
 obtain ⟨r, hb1, hb2, _⟩ := box_both hp
 obtain ⟨h, hh1, hh2, hP⟩ := has_both hs hp s.Motion
 unfold dN fh
 rw [hb1, hb2, hh1, hh2]
 obtain ⟨⟨X, Y, W, H⟩, o⟩ := r
 obtain ⟨h, e⟩ := h
 have e1 : gtB W 10000 = !leB W 10000 := by unfold gtB leB; rw [← decide_not]; exact decide_eq_decide.2 (by omega)
 have e2 : gtB H 10000 = !leB H 10000 := by unfold gtB leB; rw [← decide_not]; exact decide_eq_decide.2 (by omega)
 simp only [some_bind, e1, e2]
 refine ⟨h && (eqB e 0 && (o && (leB W 10000 && leB H 10000))), ?_, ?_, fun hb => hP ?_⟩
 ·cases o <;> cases leB W 10000 <;> cases leB H 10000 <;> cases h <;> cases eqB e 0 <;> rfl
 ·cases o <;> cases leB W 10000 <;> cases leB H 10000 <;> cases h <;> cases eqB e 0 <;> rfl
 ·simp only [Bool.and_eq_true] at hb
  exact hb.1
theorem Per.all {t : Tree} {p : List Cell} {m : Motion} {P : Nat} (h : Per t p m P) {k : Nat} (hk : k < P) : ∀ g, g ≤ k → ∃ q, cW t g p = (q, 0) := fun g hg => by
 rcases Nat.eq_zero_or_pos g with rfl | hg0
 ·exact ⟨p, rfl⟩
 ·obtain ⟨y, hy, _⟩ := h.before g hg0 (by omega)
  exact ⟨y, hy⟩
theorem phase_both {t : Tree} {s : Ship} (hs : Sz t) (hp : s.Cells.length < 1099511627776) (n : Int) : ∃ r, dK t s n = some r ∧ gO t s n = some r ∧ r.1.length ≤ 5000 := by
 obtain ⟨b, hb1, hb2, hP⟩ := right_both hs hp
 unfold dK gO
 rw [quiet_eq hs, quietR_eq hs, hb1, hb2]
 simp only [some_bind]
 cases gb t with
 | false => exact ⟨_, rfl, rfl, Nat.zero_le _⟩
 | true =>
  simp only [aD, Bool.not_true, cond_false]
  cases h1 : ltB n 0 with
  | true => cases b <;> exact ⟨_, rfl, rfl, Nat.zero_le _⟩
  | false =>
   cases h2 : gtB n 10000 with
   | true => cases b <;> exact ⟨_, rfl, rfl, Nat.zero_le _⟩
   | false =>
    cases b with
    | false => exact ⟨_, rfl, rfl, Nat.zero_le _⟩
    | true =>
     obtain ⟨P, h⟩ := hP rfl
     have n1 := of_decide_eq_false h1
     have n2 := of_decide_eq_false h2
     obtain ⟨N, rfl⟩ := Int.eq_ofNat_of_zero_le (by omega : 0 ≤ n)
     have hpos := h.pos
     have hk : N % P < P := Nat.mod_lt _ (by omega)
     have hk2 : N % P ≤ N := Nat.mod_le _ _
     have hrem : irem (N : Int) s.Motion.Period = some ((N % P : Nat) : Int) := by
      rw [h.is]
      unfold irem
      rw [if_neg (by omega)]
      rfl
     obtain ⟨y, hy⟩ := h.all hk (N % P) (Nat.le_refl _)
     have hfy := (iterS_fit hs _ _ y h.fit hy).1
     obtain ⟨z, hz1, hz2, hzl⟩ := home_both (fit_pat hfy)
     have hr1 := run_eq hs h.fit (n := N % P) (by omega)
     have hr2 := runR_eq hs h.fit (n := N % P) (by omega) (h.all hk) hy
     rw [hy] at hr1
     refine ⟨(z, 0), ?_, ?_, hzl⟩
     ·simp only [Bool.not_true, cond_false, some_bind, hrem, hr1, hz1]
     ·unfold gj
      simp only [Bool.not_true, cond_false, some_bind, hrem, hr2, hz2]
theorem small50_eq (t : Tree) (s : Ship) : ∃ y, gF t [s] = some y ∧ (y = true → Sz t ∧ s.Cells.length ≤ 40) := by
 unfold gF kc
 simp only [bif_some, some_bind, bif_some_t]
 cases h1 : gtB (ah t.Hood) 40 with
 | true => exact ⟨false, rfl, fun h => by cases h⟩
 | false =>
  cases h2 : gtB (ah t.Nodes) 400 with
  | true => exact ⟨false, rfl, fun h => by cases h⟩
  | false =>
   have e1 := of_decide_eq_false h1
   have e2 := of_decide_eq_false h2
   unfold ah at e1 e2
   simp only [Bool.or_false, cond_false]
   rw [loop_any t.Nodes (fun _ n => gtB (ah n.Next) 20) false (by omega) (fun i n hn => by
    unfold iT
    dsimp only
    rw [ltB_nat, decide_eq_true (aR hn), cond_true, idx_nat, hn, up_nat (by have := aR hn; omega)]
    simp only [some_bind, bif_some]) (by
    unfold iT
    dsimp only
    rw [ltB_nat, decide_eq_false (Nat.lt_irrefl _)]
    rfl)]
   cases ha : anyB (fun _ n => gtB (ah n.Next) 20) t.Nodes 0 with
   | true => exact ⟨false, rfl, fun h => by cases h⟩
   | false =>
    simp only [cond_false, some_bind, aD, Bool.not_true, Bool.false_or]
    rw [loop_any [s] (fun _ x => gtB (ah x.Cells) 40 || (bif gtB x.Motion.Period 12 then leB x.Motion.Period 64 else false)) false (by simp) (fun i x hx => by
     unfold ge
     dsimp only
     rw [ltB_nat, decide_eq_true (aR hx), cond_true, idx_nat, hx, up_nat (by have := aR hx; simp at this; omega)]
     simp only [some_bind, bif_some, bif_some_t]) (by
     unfold ge
     dsimp only
     rw [ltB_nat, decide_eq_false (Nat.lt_irrefl _)]
     rfl)]
    cases h3 : (gtB (ah t.Nodes) 100 || gtB (ah [s]) 6) with
    | true => exact ⟨false, rfl, fun h => by cases h⟩
    | false =>
     cases hb : anyB (fun _ x => gtB (ah x.Cells) 40 || (bif gtB x.Motion.Period 12 then leB x.Motion.Period 64 else false)) [s] 0 with
     | true => exact ⟨false, rfl, fun h => by cases h⟩
     | false =>
      refine ⟨true, rfl, fun _ => ⟨⟨by omega, by omega, fun n hn => ?_⟩, ?_⟩⟩
      ·obtain ⟨j, hj⟩ := List.getElem?_of_mem hn
       have := anyB_false ha j n hj
       have := of_decide_eq_false this
       unfold ah at this
       omega
      ·have := anyB_false hb 0 s rfl
       simp only [Bool.or_eq_false_iff] at this
       have := of_decide_eq_false this.1
       unfold ah at this
       omega
theorem shipPhases_true (t : Tree) (s : Ship) (n : Int) : e7 t s n = some true := by
 unfold e7
 obtain ⟨y, hy, hsm⟩ := small50_eq t s
 rw [hy, awake50]
 cases y with
 | false => rfl
 | true =>
  obtain ⟨hs, hl⟩ := hsm rfl
  obtain ⟨r, hr1, hr2, hrl⟩ := phase_both hs (by omega : s.Cells.length < 1099511627776) n
  obtain ⟨b, hb1, hb2, _⟩ := right_both hs (by omega : s.Cells.length < 1099511627776)
  simp only [some_bind, aD, Bool.not_true, cond_false, hr1, hr2, hb1, hb2, eqb_self, cond_true, same_eq hrl hrl, decide_true, eqB_self]
end Go.Proofs.YtfpjnmhdbgbmmaaGreatDoor
