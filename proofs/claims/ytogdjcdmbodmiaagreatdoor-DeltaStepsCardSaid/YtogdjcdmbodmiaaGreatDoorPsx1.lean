/- Comparisons by which slices are sorted: that the program gives them, and that they order. -/
import Derived.Test.YtogdjcdmbodmiaaGreatDoorPlx1
import Derived.Test.YtogdjcdmbodmiaaGreatDoorLays
namespace Go.Proofs.YtogdjcdmbodmiaaGreatDoor
open Go.AM Go.Proofs Go.Sort
instance : Inhabited Cell := ⟨⟨0, 0, 0⟩⟩
instance : Inhabited Change := ⟨⟨0, 0, 0, 0⟩⟩
theorem swo_pattern_order : SWO (ltOf aA) where
 irrefl x := by simp [ltOf, aA, cmpYX, cmpI]
 trans x y z h1 h2 := by
  simp only [ltOf, aA, cmpYX, cmpI] at *
  grind
 ntrans x y z h1 h2 := by
  simp only [ltOf, aA, cmpYX, cmpI] at *
  grind
theorem tot_pattern_order (a b : Cell) : ca a b = some (aA a b) := by
 unfold ca bi bq
 simp only [some_bind, cmp_eq, or_eq]
 rfl
theorem swo_delta_order : SWO (ltOf aM) where
 irrefl x := by simp [ltOf, aM, cmpYX, cmpI]
 trans x y z h1 h2 := by
  simp only [ltOf, aM, cmpYX, cmpI] at *
  grind
 ntrans x y z h1 h2 := by
  simp only [ltOf, aM, cmpYX, cmpI] at *
  grind
theorem tot_delta_order (a b : Change) : di a b = some (aM a b) := by
 unfold di cU bq
 simp only [some_bind, cmp_eq, or_eq]
 rfl
end Go.Proofs.YtogdjcdmbodmiaaGreatDoor
namespace Go.Proofs.YtogdjcdmbodmiaaGreatDoor
open Go.AM Go.Proofs
def placeB (x y : Int) : Bool := geB x (-1048576) && (leB x 1048576 && (geB y (-1048576) && leB y 1048576))
def befC (a b : Cell) : Bool := befP ⟨a.X, a.Y⟩ ⟨b.X, b.Y⟩
def badC (l : List Cell) (i : Nat) (x : Cell) : Bool :=
 !placeB x.X x.Y || (ltB x.S 1 || (geB x.S 8 || match i with
  | 0 => false
  | j + 1 => match l[j]? with
   | some y => !befC y x
   | none => false))
def patOk (l : List Cell) : Bool := leB (ak l) 5000 && !anyB (badC l) l 0
theorem imax_is (a b : Int) : (imax a b = a ∨ imax a b = b) ∧ a ≤ imax a b ∧ b ≤ imax a b := by
 unfold imax
 by_cases h : b > a
 ·rw [if_pos h]; exact ⟨.inr rfl, by omega, by omega⟩
 ·rw [if_neg h]; exact ⟨.inl rfl, by omega, by omega⟩
theorem imin_is (a b : Int) : (imin a b = a ∨ imin a b = b) ∧ imin a b ≤ a ∧ imin a b ≤ b := by
 unfold imin
 by_cases h : b < a
 ·rw [if_pos h]; exact ⟨.inr rfl, by omega, by omega⟩
 ·rw [if_neg h]; exact ⟨.inl rfl, by omega, by omega⟩
theorem gtB_not (a b : Int) : gtB a b = !leB a b := by
 unfold gtB leB
 by_cases h : a ≤ b
 ·rw [decide_eq_true h, decide_eq_false (by omega)]; rfl
 ·rw [decide_eq_false h, decide_eq_true (by omega)]; rfl
theorem placed_eq (p : Point) : ck p = some (placeB p.X p.Y) := by
 unfold ck placeB
 simp only [bif_some, bif_some_f, some_bind]
 congr 1
 rw [Bool.eq_iff_iff]
 have e1 := imax_is p.X p.Y
 have e2 := imin_is p.X p.Y
 simp only [leB, geB, Bool.and_eq_true, decide_eq_true_eq]
 constructor
 ·rintro ⟨h1, h2⟩
  refine ⟨?_, ?_, ?_, ?_⟩ <;> omega
 ·rintro ⟨h1, h2, h3, h4⟩
  refine ⟨?_, ?_⟩ <;> omega
theorem order_eq (a b : Cell) : ∃ c, ca a b = some c ∧ geB c 0 = !befC a b := by
 obtain ⟨c, h1, h2⟩ := comp_eq ⟨a.X, a.Y⟩ ⟨b.X, b.Y⟩
 refine ⟨c, ?_, h2⟩
 simp only [ca, bi, some_bind, h1]
theorem pat_eq {l : List Cell} (hl : l.length < 1099511627776) : bp l = some (patOk l) := by
 unfold bp patOk
 rw [loop_any l (badC l) false hl]
 ·rw [gtB_not]
  cases leB (ak l) 5000 <;> cases anyB (badC l) l 0 <;> rfl
 ·intro i x hx
  unfold dh
  dsimp only
  rw [ltB_nat, decide_eq_true (getE_lt hx), cond_true, idx_nat, hx, up_nat (Nat.lt_trans (getE_lt hx) hl)]
  simp only [some_bind, bi, placed_eq, br]
  unfold badC
  cases i with
  | zero => simp only [gtB_zero, cond_false, bif_some, some_bind, bif_some_t]
  | succ j =>
   obtain ⟨y, hy⟩ := getE_prev hx
   obtain ⟨c, hc, hg⟩ := order_eq y x
   simp only [gtB_succ, cond_true, dn_nat (Nat.lt_trans (Nat.lt_of_succ_lt (getE_lt hx)) hl), idx_nat, hy, some_bind, hc, hg, bif_some, bif_some_t]
 ·unfold dh
  dsimp only
  rw [ltB_nat, decide_eq_false (Nat.lt_irrefl _)]
  rfl
theorem loop_iv_aux {St T : Type} {b : St → Option (Lp St T)} {n : Nat} (I : Nat → St → Prop) (Q : T → Prop)
  (step : ∀ i s, i < n → I i s → (∃ s', b s = some (.next s') ∧ I (i + 1) s') ∨ (∃ t, b s = some (.out t) ∧ Q t)) (fin : ∀ s, I n s → ∃ t, b s = some (.out t) ∧ Q t) :
  ∀ (k i : Nat) (s : St), i + k = n → I i s → ∀ m, k < m → ∃ t, am b m s = some t ∧ Q t
 | 0, i, s, hi, h, m, hm => by
  obtain ⟨m, rfl⟩ : ∃ j, m = j + 1 := ⟨m - 1, by omega⟩
  obtain rfl : i = n := by omega
  obtain ⟨t, ht, hq⟩ := fin s h
  exact ⟨t, by rw [am, ht], hq⟩
 | k + 1, i, s, hi, h, m, hm => by
  obtain ⟨m, rfl⟩ : ∃ j, m = j + 1 := ⟨m - 1, by omega⟩
  rcases step i s (by omega) h with ⟨s', hs, h'⟩ | ⟨t, ht, hq⟩
  ·obtain ⟨t, ht, hq⟩ := loop_iv_aux I Q step fin k (i + 1) s' (by omega) h' m (by omega)
   exact ⟨t, by rw [am, hs]; exact ht, hq⟩
  ·exact ⟨t, by rw [am, ht], hq⟩
theorem loop_iv {St T : Type} {b : St → Option (Lp St T)} {n : Nat} (I : Nat → St → Prop) (Q : T → Prop) (hn : n < 1099511627776) {s : St} (h0 : I 0 s)
  (step : ∀ i s, i < n → I i s → (∃ s', b s = some (.next s') ∧ I (i + 1) s') ∨ (∃ t, b s = some (.out t) ∧ Q t)) (fin : ∀ s, I n s → ∃ t, b s = some (.out t) ∧ Q t) :
  ∃ t, am b b3 s = some t ∧ Q t := loop_iv_aux I Q step fin n 0 s (by omega) h0 b3 hn
structure Pat (p : List Cell) : Prop where
 len : p.length ≤ 5000
 cell : ∀ c ∈ p, (-1048576 ≤ c.X ∧ c.X ≤ 1048576 ∧ -1048576 ≤ c.Y ∧ c.Y ≤ 1048576) ∧ 1 ≤ c.S ∧ c.S < 8
 sorted : p.Pairwise fun a b => befC a b = true
theorem place_iff (x y : Int) : placeB x y = true ↔ -1048576 ≤ x ∧ x ≤ 1048576 ∧ -1048576 ≤ y ∧ y ≤ 1048576 := by
 unfold placeB geB leB
 simp only [Bool.and_eq_true, decide_eq_true_eq, ge_iff_le]
theorem befC_iff (a b : Cell) : befC a b = true ↔ a.Y < b.Y ∨ (a.Y = b.Y ∧ a.X < b.X) := by
 unfold befC befP
 simp only [Bool.or_eq_true, Bool.and_eq_true, decide_eq_true_eq, beq_iff_eq]
theorem befC_trans {a b c : Cell} (h : befC a b = true) (h' : befC b c = true) : befC a c = true := by
 rw [befC_iff] at *
 omega
theorem pairwise_adj {α : Type} {r : α → α → Prop} (ht : ∀ a b c, r a b → r b c → r a c) : ∀ l : List α, (∀ (i : Nat) a b, l[i]? = some a → l[i + 1]? = some b → r a b) → l.Pairwise r
 | [], _ => List.Pairwise.nil
 | [x], _ => List.pairwise_singleton _ _
 | x :: y :: l, h => by
  have ih := pairwise_adj ht (y :: l) fun i a b ha hb => h (i + 1) a b (by simpa using ha) (by simpa using hb)
  have hxy := h 0 x y rfl rfl
  refine List.pairwise_cons.2 ⟨fun z hz => ?_, ih⟩
  rcases List.mem_cons.1 hz with rfl | hz
  ·exact hxy
  ·exact ht _ _ _ hxy ((List.pairwise_cons.1 ih).1 z hz)
theorem pat_of {p : List Cell} (h : patOk p = true) : Pat p := by
 unfold patOk at h
 simp only [Bool.and_eq_true, Bool.not_eq_true'] at h
 have hl := of_decide_eq_true h.1
 have hb := fun j x hx => anyB_false h.2 j x hx
 unfold ak at hl
 have hall : ∀ (j : Nat) x, p[j]? = some x → (placeB x.X x.Y = true ∧ 1 ≤ x.S ∧ x.S < 8) ∧ (∀ i, j = i + 1 → ∀ y, p[i]? = some y → befC y x = true) := by
  intro j x hx
  have hj := hb j x hx
  rw [Nat.zero_add] at hj
  unfold badC at hj
  simp only [Bool.or_eq_false_iff, Bool.not_eq_false'] at hj
  obtain ⟨h1, h2, h3, h4⟩ := hj
  have e2 := of_decide_eq_false h2
  have e3 := of_decide_eq_false h3
  refine ⟨⟨h1, by omega, by omega⟩, fun i hi y hy => ?_⟩
  subst hi
  simp only [hy, Bool.not_eq_false'] at h4
  exact h4
 refine ⟨by omega, fun c hc => ?_, pairwise_adj (r := fun a b => befC a b = true) (fun a b c => befC_trans) _ fun i a b ha hb' => (hall (i + 1) b hb').2 i rfl a ha⟩
 obtain ⟨j, hj⟩ := List.mem_iff_getElem?.1 hc
 have := (hall j c hj).1
 exact ⟨(place_iff _ _).1 this.1, this.2⟩
def fitE (t : Tree) (p : List Cell) : Int := bif quietB t then (bif patOk p then (bif anyB (fun _ (c : Cell) => geB c.S t.States) p 0 then 10 else 0) else 2) else 11
theorem top_run (s : Int) (hs : 0 < s) : ∀ (p : List Cell) (i : Nat) (n : Int), ∃ v, runL (fun _ (x : Cell) n => (some (.next (imax n x.S)) : Option (Lp Int Int))) (fun n => some n) p i n = some v ∧ geB v s = (geB n s || anyB (fun _ (c : Cell) => geB c.S s) p i)
 | [], i, n => ⟨n, rfl, by simp [anyB]⟩
 | x :: p, i, n => by
  obtain ⟨v, h1, h2⟩ := top_run s hs p (i + 1) (imax n x.S)
  refine ⟨v, by rw [runL]; exact h1, ?_⟩
  rw [h2, anyB, ← Bool.or_assoc]
  congr 1
  rw [Bool.eq_iff_iff]
  simp only [geB, Bool.or_eq_true, decide_eq_true_eq, ge_iff_le]
  have := imax_is n x.S
  omega
theorem top_eq (s : Int) (hs : 0 < s) {p : List Cell} (hl : p.length < 1099511627776) : ∃ v, dU p = some v ∧ geB v s = anyB (fun _ (c : Cell) => geB c.S s) p 0 := by
 have h := loop_run (b := d7 p) (fun i (n : Int) => (n, (i : Int))) p (fun _ (x : Cell) n => some (.next (imax n x.S))) (fun n => some n) hl (fun i x n hx => by
   unfold d7
   dsimp only
   rw [ltB_nat, decide_eq_true (getE_lt hx), cond_true, idx_nat, hx, up_nat (Nat.lt_trans (getE_lt hx) hl)]
   rfl)
  (fun k => by
   unfold d7
   dsimp only
   rw [ltB_nat, decide_eq_false (Nat.lt_irrefl _)]
   rfl) 0
 rw [show ((0 : Nat) : Int) = 0 from rfl] at h
 obtain ⟨v, h1, h2⟩ := top_run s hs p 0 0
 refine ⟨v, by unfold dU; rw [h, h1]; rfl, ?_⟩
 rw [h2]
 have : geB 0 s = false := decide_eq_false (by omega)
 rw [this, Bool.false_or]
theorem quiet_ok {t : Tree} (h : quietB t = true) : Ok t := by
 unfold quietB at h
 simp only [Bool.and_eq_true] at h
 exact ok_of h.1
theorem check_eq {t : Tree} {p : List Cell} (hs : Sz t) (hp : p.length < 1099511627776) : cV t p = some (fitE t p) := by
 unfold cV fitE
 rw [quiet_eq hs, pat_eq hp]
 cases hq : quietB t with
 | false => rfl
 | true =>
  obtain ⟨v, h1, h2⟩ := top_eq t.States (by have := (quiet_ok hq).s2; omega) hp
  rw [h1]
  simp only [some_bind, br, Bool.not_true, cond_false, cond_true]
  cases patOk p with
  | false => rfl
  | true =>
   simp only [Bool.not_true, cond_false, cond_true, h2, bif_some]
   try rfl
structure Fit (t : Tree) (p : List Cell) : Prop where
 ok : Ok t
 zero : walkV t (List.replicate t.Hood.length 0) (aO .i64 (ak t.Nodes) 1) = some 0
 pat : Pat p
 small : ∀ c ∈ p, c.S < t.States
theorem fit_of {t : Tree} {p : List Cell} (h : fitE t p = 0) : Fit t p := by
 unfold fitE at h
 cases hq : quietB t with
 | false => rw [hq] at h; simp at h
 | true =>
  rw [hq] at h
  cases hp : patOk p with
  | false => rw [hp] at h; simp at h
  | true =>
   rw [hp] at h
   cases ha : anyB (fun _ (c : Cell) => geB c.S t.States) p 0 with
   | true => rw [ha] at h; simp at h
   | false =>
    refine ⟨quiet_ok hq, ?_, pat_of hp, fun c hc => ?_⟩
    ·unfold quietB at hq
     simp only [Bool.and_eq_true, beq_iff_eq] at hq
     exact hq.2
    ·obtain ⟨j, hj⟩ := List.mem_iff_getElem?.1 hc
     have := of_decide_eq_false (anyB_false ha j c hj)
     omega
end Go.Proofs.YtogdjcdmbodmiaaGreatDoor
namespace Go.Proofs.YtogdjcdmbodmiaaGreatDoor
open Go.AM Go.Proofs
def getS (p : List Cell) (x y : Int) : Int := match p.find? (fun c => c.X == x && c.Y == y) with
 | some c => c.S
 | none => 0
theorem getS_mem {p : List Cell} {x y : Int} (h : getS p x y ≠ 0) : ∃ c ∈ p, c.X = x ∧ c.Y = y ∧ getS p x y = c.S := by
 unfold getS at *
 cases hf : p.find? (fun c => c.X == x && c.Y == y) with
 | none => rw [hf] at h; exact absurd rfl h
 | some c =>
  have h1 := List.find?_some hf
  simp only [Bool.and_eq_true, beq_iff_eq] at h1
  exact ⟨c, List.mem_of_find?_eq_some hf, h1.1, h1.2, rfl⟩
theorem Pat.uniq {p : List Cell} (h : p.Pairwise fun a b => befC a b = true) : ∀ {a b : Cell}, a ∈ p → b ∈ p → a.X = b.X → a.Y = b.Y → a = b := by
 induction p with
 | nil => intro a b ha; cases ha
 | cons x p ih =>
  intro a b ha hb hx hy
  obtain ⟨h1, h2⟩ := List.pairwise_cons.1 h
  rcases List.mem_cons.1 ha with e | ha'
  ·rcases List.mem_cons.1 hb with e' | hb'
   ·rw [e, e']
   ·subst e; have := (befC_iff _ _).1 (h1 b hb'); omega
  ·rcases List.mem_cons.1 hb with e' | hb'
   ·subst e'; have := (befC_iff _ _).1 (h1 a ha'); omega
   ·exact ih h2 ha' hb' hx hy
theorem getS_of {p : List Cell} (h : p.Pairwise fun a b => befC a b = true) {c : Cell} (hc : c ∈ p) : getS p c.X c.Y = c.S := by
 unfold getS
 cases hf : p.find? (fun d => d.X == c.X && d.Y == c.Y) with
 | none =>
  have := List.find?_eq_none.1 hf c hc
  simp at this
 | some d =>
  have h1 := List.find?_some hf
  simp only [Bool.and_eq_true, beq_iff_eq] at h1
  rw [Pat.uniq h (List.mem_of_find?_eq_some hf) hc h1.1 h1.2]
theorem getS_in {t : Tree} {p : List Cell} (h : Fit t p) (x y : Int) : 0 ≤ getS p x y ∧ getS p x y < t.States := by
 by_cases h0 : getS p x y = 0
 ·have := h.ok.s2; omega
 ·obtain ⟨c, hc, _, _, e⟩ := getS_mem h0
  rw [e]
  have := h.small c hc
  have := (h.pat.cell c hc).2
  omega
def newS (t : Tree) (p : List Cell) (x y : Int) : Int := (walkV t (t.Hood.map fun o => getS p (x + o.X) (y + o.Y)) (aO .i64 (ak t.Nodes) 1)).getD 0
theorem newS_eq {t : Tree} {p : List Cell} (h : Fit t p) (hs : Sz t) (x y : Int) : walkV t (t.Hood.map fun o => getS p (x + o.X) (y + o.Y)) (aO .i64 (ak t.Nodes) 1) = some (newS t p x y) ∧ 0 ≤ newS t p x y ∧ newS t p x y < t.States := by
 obtain ⟨v, h1, h2, h3⟩ := value_total h.ok hs (l := t.Hood.map fun o => getS p (x + o.X) (y + o.Y)) (by simp) (fun s hs => by
  obtain ⟨o, _, rfl⟩ := List.mem_map.1 hs
  exact getS_in h _ _)
 unfold newS
 rw [h1]
 exact ⟨rfl, h2, h3⟩
theorem newS_near {t : Tree} {p : List Cell} (h : Fit t p) {x y : Int} (hn : newS t p x y ≠ 0) : ∃ c ∈ p, ∃ o ∈ t.Hood, c.X = x + o.X ∧ c.Y = y + o.Y := by
 apply Classical.byContradiction
 intro hc
 have hz : (t.Hood.map fun o => getS p (x + o.X) (y + o.Y)) = List.replicate t.Hood.length 0 := by
  refine List.eq_replicate_iff.2 ⟨by simp, fun s hs => ?_⟩
  obtain ⟨o, ho, rfl⟩ := List.mem_map.1 hs
  apply Classical.byContradiction
  intro h0
  obtain ⟨c, h1, h2, h3, _⟩ := getS_mem h0
  exact hc ⟨c, h1, o, ho, h2, h3⟩
 unfold newS at hn
 rw [hz, h.zero] at hn
 exact hn rfl
theorem hood_in {t : Tree} (h : Ok t) {o : Point} (ho : o ∈ t.Hood) : -2 ≤ o.X ∧ o.X ≤ 2 ∧ -2 ≤ o.Y ∧ o.Y ≤ 2 := by
 have hh := h.hood
 unfold hoodOk at hh
 simp only [Bool.and_eq_true, Bool.not_eq_true'] at hh
 obtain ⟨j, hj⟩ := List.mem_iff_getElem?.1 ho
 have hb := anyB_false hh.2 j o hj
 unfold badP at hb
 simp only [Bool.or_eq_false_iff] at hb
 have e1 := of_decide_eq_false hb.1
 have e2 := of_decide_eq_false hb.2.1
 have e3 := of_decide_eq_false hb.2.2.1
 have e4 := of_decide_eq_false hb.2.2.2.1
 omega
theorem mget_mset {κ ν : Type} [DecidableEq κ] (k : κ) (v : ν) : ∀ (m : List (κ × ν)) (q : κ), dQ (bD m k v) q = if k = q then some v else dQ m q
 | [], q => by simp [bD, dQ]
 | x :: m, q => by
  unfold bD
  by_cases hx : x.1 = k
  ·rw [if_pos hx]
   by_cases hq : k = q
   ·simp [dQ, hq]
   ·simp [dQ, hq, hx]
  ·rw [if_neg hx]
   simp only [dQ]
   rw [mget_mset k v m q]
   by_cases hq : k = q
   ·subst hq; simp [hx]
   ·simp [hq]
theorem mgetD_mset {κ ν : Type} [DecidableEq κ] (k : κ) (v z : ν) (m : List (κ × ν)) (q : κ) : aL (bD m k v) q z = if k = q then v else aL m q z := by
 unfold aL
 rw [mget_mset]
 by_cases h : k = q <;> simp [h]
theorem kck_in {x y : Int} (h : -9223372036854775808 ≤ x ∧ x ≤ 9223372036854775807 ∧ -9223372036854775808 ≤ y ∧ y ≤ 9223372036854775807) : kckL [x, y] = some () := by
 unfold kckL
 have e : ∀ n : Int, -9223372036854775808 ≤ n → n ≤ 9223372036854775807 → (Lit.int .i64 n).wf = true := fun n h1 h2 => by
  simp [Lit.wf, IntKind.min, IntKind.max, IntKind.signed, IntKind.bits]
  omega
 simp [e x h.1 h.2.1, e y h.2.2.1 h.2.2.2]
theorem getS_snoc {p : List Cell} {c : Cell} (h : ∀ d ∈ p, ¬ (d.X = c.X ∧ d.Y = c.Y)) (x y : Int) : getS (p ++ [c]) x y = if c.X = x ∧ c.Y = y then c.S else getS p x y := by
 unfold getS
 rw [List.find?_append]
 by_cases hc : c.X = x ∧ c.Y = y
 ·rw [if_pos hc]
  have : p.find? (fun d => d.X == x && d.Y == y) = none := by
   rw [List.find?_eq_none]
   intro d hd
   simp only [Bool.and_eq_true, beq_iff_eq]
   rw [← hc.1, ← hc.2]
   exact h d hd
  rw [this]
  simp [hc.1, hc.2]
 ·rw [if_neg hc]
  have : (c.X == x && c.Y == y) = false := by
   rw [Bool.eq_false_iff]
   simpa using hc
  cases hf : p.find? (fun d => d.X == x && d.Y == y) with
  | none => simp [this]
  | some d => simp
theorem of_eq {p : List Cell} (h : Pat p) : ∃ m, fP p = some m ∧ ∀ q : Point, aL m q 0 = getS p q.X q.Y := by
 have hl := h.len
 obtain ⟨m, hm, hq⟩ := loop_iv (b := dW p) (n := p.length) (s := (0, [])) (fun i s => s.1 = (i : Int) ∧ ∀ q : Point, aL s.2 q 0 = getS (p.take i) q.X q.Y) (fun m => ∀ q : Point, aL m q 0 = getS p q.X q.Y) (by omega)
  ⟨rfl, fun q => rfl⟩
  (fun i s hi ⟨h1, h2⟩ => by
   obtain ⟨a, m⟩ := s
   dsimp only at h1 h2
   subst h1
   have hx : p[i]? = some p[i] := List.getElem?_eq_getElem hi
   have hc := h.cell p[i] (List.getElem_mem hi)
   refine .inl ⟨(((i + 1 : Nat) : Int), bD m ⟨p[i].X, p[i].Y⟩ p[i].S), ?_, rfl, fun q => ?_⟩
   ·unfold dW
    dsimp only
    rw [ltB_nat, decide_eq_true hi, cond_true, idx_nat, hx, up_nat (by omega)]
    simp only [some_bind]
    rw [kck_in (by omega)]
    rfl
   ·rw [mgetD_mset, h2 q, List.take_add_one, hx]
    simp only [Option.toList_some]
    rw [getS_snoc]
    ·by_cases hq : (⟨p[i].X, p[i].Y⟩ : Point) = q
     ·subst hq; simp
     ·have : ¬ (p[i].X = q.X ∧ p[i].Y = q.Y) := fun ⟨e1, e2⟩ => hq (by cases q; simp_all)
      rw [if_neg hq, if_neg this]
    ·intro d hd ⟨e1, e2⟩
     obtain ⟨j, hj⟩ := List.mem_iff_getElem?.1 hd
     rw [List.getElem?_take] at hj
     split at hj
     ·rename_i hji
      obtain ⟨hjl, rfl⟩ := List.getElem?_eq_some_iff.1 hj
      have := List.pairwise_iff_getElem.1 h.sorted j i hjl hi hji
      rw [befC_iff] at this
      omega
     ·cases hj)
  (fun s ⟨h1, h2⟩ => by
   obtain ⟨a, m⟩ := s
   dsimp only at h1 h2
   subst h1
   refine ⟨m, ?_, fun q => by rw [h2 q, List.take_length]⟩
   unfold dW
   dsimp only
   rw [ltB_nat, decide_eq_false (Nat.lt_irrefl _)]
   rfl)
 exact ⟨m, by unfold fP; rw [hm]; rfl, hq⟩
def Near (x y : Int) : Prop := -1048600 ≤ x ∧ x ≤ 1048600 ∧ -1048600 ≤ y ∧ y ≤ 1048600
theorem run_walk' (t : Tree) {α : Type} (g : α → Int) : ∀ (l : List α) (i : Nat) (k : Int), runL (fun _ o k => (idx t.Nodes k).bind fun x => (idx x.Next (g o)).bind fun k' => some (.next k')) (fun k => some k) l i k = walkV t (l.map g) k
 | [], _, _ => rfl
 | s :: l, i, k => by
  rw [runL, List.map_cons, walkV]
  cases idx t.Nodes k with
  | none => rfl
  | some x =>
   simp only [some_bind]
   cases idx x.Next (g s) with
   | none => rfl
   | some k' => exact run_walk' t g l (i + 1) k'
theorem next_eq {t : Tree} {p : List Cell} (h : Fit t p) (hs : Sz t) {m : List (Point × Int)} (hm : ∀ q : Point, aL m q 0 = getS p q.X q.Y) {x y : Int} (hq : Near x y) : ce m t ⟨x, y⟩ = some (newS t p x y) := by
 unfold ce
 have hl := hs.hood
 unfold Near at hq
 have hr := loop_run (b := bl m t ⟨x, y⟩) (fun i (k : Int) => (k, (i : Int))) t.Hood (fun _ (o : Point) k => (idx t.Nodes k).bind fun n => (idx n.Next (getS p (x + o.X) (y + o.Y))).bind fun k' => some (.next k')) (fun k => some k) hl
  (fun i o k ho => by
   have hi := hood_in h.ok (List.mem_of_getElem? ho)
   unfold bl
   dsimp only
   rw [ltB_nat, decide_eq_true (getE_lt ho), cond_true, idx_nat, ho, up_nat (Nat.lt_trans (getE_lt ho) hl)]
   simp only [some_bind]
   rw [iadd_in (by omega), iadd_in (by omega), kck_in (by omega), hm]
   simp only [some_bind]
   cases idx t.Nodes k with
   | none => rfl
   | some n =>
    simp only [some_bind]
    cases idx n.Next (getS p (x + o.X) (y + o.Y)) <;> rfl)
  (fun k => by
   unfold bl
   dsimp only
   rw [ltB_nat, decide_eq_false (Nat.lt_irrefl _)]
   rfl) (aO .i64 (ak t.Nodes) 1)
 rw [show ((0 : Nat) : Int) = 0 from rfl] at hr
 rw [hr, run_walk' t (fun o : Point => getS p (x + o.X) (y + o.Y)), (newS_eq h hs x y).1]
 rfl
end Go.Proofs.YtogdjcdmbodmiaaGreatDoor
namespace Go.Proofs.YtogdjcdmbodmiaaGreatDoor
open Go.AM Go.Proofs
theorem cf_lt (a b : Cell) : aA a b < 0 ↔ befC a b = true := by
 rw [befC_iff]
 unfold aA cmpYX cmpI
 by_cases h1 : a.Y < b.Y
 ·simp [h1]
 ·by_cases h2 : a.Y > b.Y
  ·simp [h1, h2]; omega
  ·have h3 : a.Y = b.Y := by omega
   by_cases h4 : a.X < b.X
   ·simp [h3, h4]
   ·by_cases h5 : a.X > b.X <;> simp [h3, h4, h5]
def Dist (a b : Cell) : Prop := ¬ (a.X = b.X ∧ a.Y = b.Y)
theorem bef_or {a b : Cell} (h : Dist a b) (hn : befC a b = false) : befC b a = true := by
 have h1 : ¬ befC a b = true := by simp [hn]
 rw [befC_iff] at *
 unfold Dist at h
 omega
theorem ins_sorted {x : Cell} : ∀ {l : List Cell}, l.Pairwise (fun a b => befC a b = true) → (∀ y ∈ l, Dist x y) → (insS aA x l).Pairwise fun a b => befC a b = true
 | [], _, _ => List.pairwise_singleton _ _
 | y :: l, hl, hx => by
  obtain ⟨h1, h2⟩ := List.pairwise_cons.1 hl
  unfold insS
  split
  ·rename_i hc
   rw [cf_lt] at hc
   refine List.pairwise_cons.2 ⟨fun z hz => ?_, hl⟩
   rcases List.mem_cons.1 hz with e | hz
   ·rw [e]; exact hc
   ·exact befC_trans hc (h1 z hz)
  ·rename_i hc
   rw [cf_lt] at hc
   have hyx := bef_or (hx y (by simp)) (by simpa using hc)
   refine List.pairwise_cons.2 ⟨fun z hz => ?_, ins_sorted h2 fun z hz => hx z (List.mem_cons_of_mem _ hz)⟩
   rcases List.mem_cons.1 ((insS_perm x l).subset hz) with e | hz
   ·rw [e]; exact hyx
   ·exact h1 z hz
theorem isort_sorted : ∀ {l : List Cell}, l.Pairwise Dist → (ed aA l).Pairwise fun a b => befC a b = true
 | [], _ => List.Pairwise.nil
 | x :: l, h => by
  obtain ⟨h1, h2⟩ := List.pairwise_cons.1 h
  exact ins_sorted (isort_sorted h2) fun y hy => h1 y ((dp l).subset hy)
theorem strictB_of : ∀ {l : List Cell}, l.Pairwise (fun a b => befC a b = true) → eB aA l = true
 | [], _ => rfl
 | [x], _ => rfl
 | x :: y :: l, h => by
  obtain ⟨h1, h2⟩ := List.pairwise_cons.1 h
  simp only [eB, Bool.and_eq_true, decide_eq_true_eq]
  exact ⟨(cf_lt _ _).2 (h1 y (by simp)), strictB_of h2⟩
theorem sort_eq {l : List Cell} (h : l.Pairwise Dist) (hl : l.length < 1099511627776) : gM aA l = some (ed aA l) := by
 unfold gM
 rw [strictB_of (isort_sorted h), decide_eq_true (by omega)]
 rfl
theorem sorted_ext : ∀ {l m : List Cell}, l.Pairwise (fun a b => befC a b = true) → m.Pairwise (fun a b => befC a b = true) → (∀ c, c ∈ l ↔ c ∈ m) → l = m
 | [], [], _, _, _ => rfl
 | [], y :: m, _, _, h => by have := (h y).2 (by simp); simp at this
 | x :: l, [], _, _, h => by have := (h x).1 (by simp); simp at this
 | x :: l, y :: m, hl, hm, h => by
  obtain ⟨l1, l2⟩ := List.pairwise_cons.1 hl
  obtain ⟨m1, m2⟩ := List.pairwise_cons.1 hm
  have irr : ∀ a : Cell, ¬ befC a a = true := fun a ha => by rw [befC_iff] at ha; omega
  have hxy : x = y := by
   rcases List.mem_cons.1 ((h x).1 (by simp)) with e | e
   ·exact e
   ·rcases List.mem_cons.1 ((h y).2 (by simp)) with e' | e'
    ·exact e'.symm
    ·exact absurd (befC_trans (m1 x e) (l1 y e')) (irr y)
  subst hxy
  congr 1
  refine sorted_ext l2 m2 fun c => ⟨fun hc => ?_, fun hc => ?_⟩
  ·rcases List.mem_cons.1 ((h c).1 (List.mem_cons_of_mem _ hc)) with e | e
   ·subst e; exact absurd (l1 c hc) (irr c)
   ·exact e
  ·rcases List.mem_cons.1 ((h c).2 (List.mem_cons_of_mem _ hc)) with e | e
   ·subst e; exact absurd (m1 c hc) (irr c)
   ·exact e
theorem from_one {l : List Cell} (hl : l.length < 1099511627776) (hc : ∀ c ∈ l, placeB c.X c.Y = true ∧ 1 ≤ c.S ∧ c.S < 8) : am (cp l) b3 (0, []) = some (.inr l) := by
 obtain ⟨r, hr, e⟩ := loop_iv (b := cp l) (n := l.length) (s := (0, [])) (fun i s => s = ((i : Int), l.take i)) (fun r => r = .inr l) hl rfl
  (fun i s hi e => by
   subst e
   have hx : l[i]? = some l[i] := List.getElem?_eq_getElem hi
   obtain ⟨h1, h2, h3⟩ := hc l[i] (List.getElem_mem hi)
   refine .inl ⟨(((i + 1 : Nat) : Int), l.take (i + 1)), ?_, rfl⟩
   unfold cp
   dsimp only
   rw [ltB_nat, decide_eq_true hi, cond_true, idx_nat, hx, up_nat (by omega)]
   have e1 : ltB l[i].S 0 = false := decide_eq_false (by omega)
   have e2 : geB l[i].S 8 = false := decide_eq_false (by omega)
   have e3 : gtB l[i].S 0 = true := decide_eq_true (by omega)
   have e4 : eF 24 (l.take i) [l[i]] = some (l.take i ++ [l[i]]) := by
    unfold eF
    rw [if_pos]
    simp only [List.length_take, List.length_cons, List.length_nil]
    omega
   simp only [some_bind, bi, placed_eq, h1, br, Bool.not_true, cond_false, e1, e2, e3, cond_true, e4]
   rw [List.take_add_one, hx]
   rfl)
  (fun s e => by
   subst e
   refine ⟨_, ?_, rfl⟩
   unfold cp
   dsimp only
   rw [ltB_nat, decide_eq_false (Nat.lt_irrefl _), List.take_length]
   rfl)
 rw [hr, e]
theorem from_two {out y : List Cell} (hl : y.length < 1099511627776) (hs : y.Pairwise fun a b => befC a b = true) : am (co out y) b3 1 = some (.inr ()) := by
 obtain ⟨r, hr, e⟩ := loop_iv (b := co out y) (n := y.length - 1) (s := 1) (fun i s => s = ((i + 1 : Nat) : Int)) (fun r => r = .inr ()) (by omega) rfl
  (fun i s hi e => by
   subst e
   have h0 : y[i]? = some y[i] := List.getElem?_eq_getElem (by omega)
   have h1 : y[i + 1]? = some y[i + 1] := List.getElem?_eq_getElem (by omega)
   refine .inl ⟨((i + 1 + 1 : Nat) : Int), ?_, rfl⟩
   unfold co
   dsimp only
   rw [ltB_nat, decide_eq_true (by omega), cond_true, dn_nat (by omega), idx_nat, h0, idx_nat, h1, up_nat (by omega)]
   have hb := (befC_iff _ _).1 (List.pairwise_iff_getElem.1 hs i (i + 1) (by omega) (by omega) (by omega))
   have e1 : gY (eqB y[i].X y[i + 1].X) (gY (eqB y[i].Y y[i + 1].Y) true) = false := by
    rw [Bool.eq_false_iff]
    unfold gY eqB
    simp only [ne_eq, Bool.and_eq_true, beq_iff_eq, and_true]
    omega
   simp only [some_bind, bi, e1, cond_false])
  (fun s e => by
   subst e
   refine ⟨_, ?_, rfl⟩
   unfold co
   dsimp only
   rw [ltB_nat, decide_eq_false (by omega)]
   rfl)
 rw [hr, e]
theorem from_eq {l : List Cell} (hl : l.length < 1099511627776) (hc : ∀ c ∈ l, placeB c.X c.Y = true ∧ 1 ≤ c.S ∧ c.S < 8) (hd : l.Pairwise Dist) :
  ba l = some (bif gtB (ak (ed aA l)) 5000 then ([], 6) else (ed aA l, 0)) := by
 unfold ba
 rw [from_one hl hc]
 simp only [some_bind, al]
 rw [sort_eq hd hl]
 simp only [some_bind]
 rw [from_two (by rw [(dp l).length_eq]; exact hl) (isort_sorted hd)]
 simp only [some_bind, bif_some]
structure J (t : Tree) (p : List Cell) (P : Point → Prop) (done : List (Point × Bool)) (l : List Cell) (k : Nat) : Prop where
 done : ∀ q, aL done q false = true ↔ P q
 mem : ∀ c ∈ l, P ⟨c.X, c.Y⟩ ∧ c.S = newS t p c.X c.Y ∧ c.S ≠ 0 ∧ placeB c.X c.Y = true
 all : ∀ q, P q → newS t p q.X q.Y ≠ 0 → (⟨q.X, q.Y, newS t p q.X q.Y⟩ : Cell) ∈ l
 dist : l.Pairwise Dist
 len : l.length ≤ k
theorem J.congr {t : Tree} {p : List Cell} {P P' : Point → Prop} {done : List (Point × Bool)} {l : List Cell} {k k' : Nat} (h : J t p P done l k) (hP : ∀ q, P q ↔ P' q) (hk : k ≤ k') : J t p P' done l k' :=
 ⟨fun q => (h.done q).trans (hP q), fun c hc => ⟨(hP _).1 (h.mem c hc).1, (h.mem c hc).2⟩, fun q hq => h.all q ((hP q).2 hq), h.dist, Nat.le_trans h.len hk⟩
def Out (t : Tree) (p : List Cell) : Prop := ∃ x y, newS t p x y ≠ 0 ∧ placeB x y = false
theorem dplace_eq (q : Point) : eh q = some (placeB q.X q.Y) := placed_eq q
section
variable {t : Tree} {p : List Cell} (h : Fit t p) (hs : Sz t) {y : List (Point × Int)} (hy : ∀ q : Point, aL y q 0 = getS p q.X q.Y)
include h hs hy
theorem inner_step {P : Point → Prop} {done : List (Point × Bool)} {l : List Cell} {k : Nat} (hJ : J t p P done l k) (hk : k < 200000) {a : Int} {c : Cell} (hc : c ∈ p) {i : Nat} {o : Point} (ho : t.Hood[i]? = some o) :
  (∃ done' l', b9 t p y a c ((i : Int), done, l) = some (.next (((i + 1 : Nat) : Int), done', l')) ∧ J t p (fun q => P q ∨ q = ⟨c.X - o.X, c.Y - o.Y⟩) done' l' (k + 1)) ∨
   (b9 t p y a c ((i : Int), done, l) = some (.out (.inl ([], 5))) ∧ Out t p) := by
 have hi := hood_in h.ok (List.mem_of_getElem? ho)
 have hcc := (h.pat.cell c hc).1
 have hl := hs.hood
 obtain ⟨r, hb⟩ : ∃ r, b9 t p y a c ((i : Int), done, l) = r := ⟨_, rfl⟩
 rw [hb]
 unfold b9 at hb
 dsimp only at hb
 rw [ltB_nat, decide_eq_true (getE_lt ho), cond_true, idx_nat, ho, up_nat (Nat.lt_trans (getE_lt ho) hl)] at hb
 simp only [some_bind] at hb
 rw [isub_in (by omega), isub_in (by omega), kck_in (by omega), next_eq h hs hy (by unfold Near; omega), dplace_eq] at hb
 simp only [some_bind] at hb
 have hv := (newS_eq h hs (c.X - o.X) (c.Y - o.Y)).2
 by_cases hd : aL done (⟨c.X - o.X, c.Y - o.Y⟩ : Point) false = true
 ·rw [hd] at hb
  refine .inl ⟨done, l, hb.symm, hJ.congr (fun q => ⟨.inl, fun hq => ?_⟩) (by omega)⟩
  rcases hq with hq | rfl
  ·exact hq
  ·exact (hJ.done _).1 hd
 ·have hd' : aL done (⟨c.X - o.X, c.Y - o.Y⟩ : Point) false = false := by simpa using hd
  rw [hd'] at hb
  simp only [cond_false] at hb
  by_cases hn : newS t p (c.X - o.X) (c.Y - o.Y) = 0
  ·have e : gtB (newS t p (c.X - o.X) (c.Y - o.Y)) 0 = false := decide_eq_false (by omega)
   rw [e] at hb
   refine .inl ⟨_, _, hb.symm, ⟨fun q => ?_, fun d hd => ⟨.inl (hJ.mem d hd).1, (hJ.mem d hd).2⟩, fun q hq hq0 => ?_, hJ.dist, by have := hJ.len; omega⟩⟩
   ·rw [mgetD_mset]
    by_cases hq : (⟨c.X - o.X, c.Y - o.Y⟩ : Point) = q
    ·simp [hq]
    ·rw [if_neg hq, hJ.done q]
     exact ⟨.inl, fun hq' => hq'.resolve_right fun e => hq e.symm⟩
   ·rcases hq with hq | rfl
    ·exact hJ.all q hq hq0
    ·exact absurd hn hq0
  ·have e : gtB (newS t p (c.X - o.X) (c.Y - o.Y)) 0 = true := decide_eq_true (by omega)
   rw [e] at hb
   simp only [cond_true] at hb
   cases hp : placeB (c.X - o.X) (c.Y - o.Y) with
   | false =>
    rw [hp] at hb
    exact .inr ⟨hb.symm, _, _, hn, hp⟩
   | true =>
    rw [hp] at hb
    have ea : eF 24 l [(⟨c.X - o.X, c.Y - o.Y, newS t p (c.X - o.X) (c.Y - o.Y)⟩ : Cell)] = some (l ++ [⟨c.X - o.X, c.Y - o.Y, newS t p (c.X - o.X) (c.Y - o.Y)⟩]) := by
     unfold eF
     rw [if_pos]
     have := hJ.len
     simp only [List.length_cons, List.length_nil]
     omega
    rw [ea] at hb
    simp only [br, Bool.not_true, cond_false, some_bind] at hb
    have hnP : ¬ P ⟨c.X - o.X, c.Y - o.Y⟩ := fun hP => by rw [(hJ.done _).2 hP] at hd'; cases hd'
    refine .inl ⟨_, _, hb.symm, ⟨fun q => ?_, fun d hd => ?_, fun q hq hq0 => ?_, ?_, by have := hJ.len; simp; omega⟩⟩
    ·rw [mgetD_mset]
     by_cases hq : (⟨c.X - o.X, c.Y - o.Y⟩ : Point) = q
     ·simp [hq]
     ·rw [if_neg hq, hJ.done q]
      exact ⟨.inl, fun hq' => hq'.resolve_right fun e => hq e.symm⟩
    ·rcases List.mem_append.1 hd with hd | hd
     ·exact ⟨.inl (hJ.mem d hd).1, (hJ.mem d hd).2⟩
     ·rw [List.mem_singleton] at hd
      subst hd
      exact ⟨.inr rfl, rfl, hn, hp⟩
    ·rcases hq with hq | rfl
     ·exact List.mem_append_left _ (hJ.all q hq hq0)
     ·exact List.mem_append_right _ (by simp)
    ·refine List.pairwise_append.2 ⟨hJ.dist, List.pairwise_singleton _ _, fun d hd e he => ?_⟩
     rw [List.mem_singleton] at he
     subst he
     rintro ⟨e1, e2⟩
     have := (hJ.mem d hd).1
     dsimp only at e1 e2
     rw [e1, e2] at this
     exact hnP this
theorem inner_loop {P : Point → Prop} {done : List (Point × Bool)} {l : List Cell} {k : Nat} (hJ : J t p P done l k) (hk : k + 25 < 200000) {a : Int} {c : Cell} (hc : c ∈ p) :
  (∃ done' l', am (b9 t p y a c) b3 (0, done, l) = some (.inr (done', l')) ∧ J t p (fun q => P q ∨ ∃ o ∈ t.Hood, q = ⟨c.X - o.X, c.Y - o.Y⟩) done' l' (k + 25)) ∨
   (am (b9 t p y a c) b3 (0, done, l) = some (.inl ([], 5)) ∧ Out t p) := by
 have hl := hs.hood
 have h25 := h.ok.h25
 obtain ⟨r, hr, hq⟩ := loop_iv (b := b9 t p y a c) (n := t.Hood.length) (s := (0, done, l))
  (fun i s => s.1 = (i : Int) ∧ J t p (fun q => P q ∨ ∃ j < i, ∃ o, t.Hood[j]? = some o ∧ q = ⟨c.X - o.X, c.Y - o.Y⟩) s.2.1 s.2.2 (k + i))
  (fun r => (∃ done' l', r = .inr (done', l') ∧ J t p (fun q => P q ∨ ∃ o ∈ t.Hood, q = ⟨c.X - o.X, c.Y - o.Y⟩) done' l' (k + 25)) ∨ (r = .inl ([], 5) ∧ Out t p)) hl
  ⟨rfl, hJ.congr (fun q => ⟨.inl, fun hq => hq.resolve_right fun ⟨j, hj, _⟩ => by omega⟩) (by omega)⟩
  (fun i s hi ⟨h1, h2⟩ => by
   obtain ⟨a1, d, l1⟩ := s
   dsimp only at h1 h2
   subst h1
   have hx : t.Hood[i]? = some t.Hood[i] := List.getElem?_eq_getElem hi
   rcases inner_step h hs hy h2 (by omega) (a := a) hc hx with ⟨d', l', e, hj⟩ | ⟨e, ho⟩
   ·refine .inl ⟨_, e, rfl, hj.congr (fun q => ?_) (by omega)⟩
    constructor
    ·rintro ((hq | ⟨j, hj, o, ho, e⟩) | e)
     ·exact .inl hq
     ·exact .inr ⟨j, by omega, o, ho, e⟩
     ·exact .inr ⟨i, by omega, _, hx, e⟩
    ·rintro (hq | ⟨j, hj, o, ho, e⟩)
     ·exact .inl (.inl hq)
     ·rcases Nat.lt_succ_iff_lt_or_eq.1 hj with hj | rfl
      ·exact .inl (.inr ⟨j, hj, o, ho, e⟩)
      ·rw [hx] at ho
       cases ho
       exact .inr e
   ·exact .inr ⟨_, e, .inr ⟨rfl, ho⟩⟩)
  (fun s ⟨h1, h2⟩ => by
   obtain ⟨a1, d, l1⟩ := s
   dsimp only at h1 h2
   subst h1
   refine ⟨.inr (d, l1), ?_, .inl ⟨d, l1, rfl, h2.congr (fun q => ?_) (by omega)⟩⟩
   ·unfold b9
    dsimp only
    rw [ltB_nat, decide_eq_false (Nat.lt_irrefl _)]
    rfl
   ·constructor
    ·rintro (hq | ⟨j, hj, o, ho, e⟩)
     ·exact .inl hq
     ·exact .inr ⟨o, List.mem_of_getElem? ho, e⟩
    ·rintro (hq | ⟨o, ho, e⟩)
     ·exact .inl hq
     ·obtain ⟨j, hj⟩ := List.mem_iff_getElem?.1 ho
      exact .inr ⟨j, getE_lt hj, o, hj, e⟩)
 rcases hq with ⟨d', l', e, hj⟩ | ⟨e, ho⟩
 ·exact .inl ⟨d', l', by rw [hr, e], hj⟩
 ·exact .inr ⟨by rw [hr, e], ho⟩
theorem outer_loop : (∃ done l, am (bM t p y) b3 (0, [], []) = some (.inr l) ∧ J t p (fun q => ∃ c ∈ p, ∃ o ∈ t.Hood, q = ⟨c.X - o.X, c.Y - o.Y⟩) done l 125000) ∨
   (am (bM t p y) b3 (0, [], []) = some (.inl ([], 5)) ∧ Out t p) := by
 have hl := h.pat.len
 obtain ⟨r, hr, hq⟩ := loop_iv (b := bM t p y) (n := p.length) (s := (0, [], []))
  (fun i s => s.1 = (i : Int) ∧ J t p (fun q => ∃ j < i, ∃ c, p[j]? = some c ∧ ∃ o ∈ t.Hood, q = ⟨c.X - o.X, c.Y - o.Y⟩) s.2.1 s.2.2 (25 * i))
  (fun r => (∃ done l, r = .inr l ∧ J t p (fun q => ∃ c ∈ p, ∃ o ∈ t.Hood, q = ⟨c.X - o.X, c.Y - o.Y⟩) done l 125000) ∨ (r = .inl ([], 5) ∧ Out t p)) (by omega)
  ⟨rfl, J.mk (fun q => ⟨fun hq => by simp [aL, dQ] at hq, fun ⟨j, hj, _⟩ => by omega⟩) (fun c hc => by simp at hc) (fun q ⟨j, hj, _⟩ => by omega) List.Pairwise.nil (by simp)⟩
  (fun i s hi ⟨h1, h2⟩ => by
   obtain ⟨a1, d, l1⟩ := s
   dsimp only at h1 h2
   subst h1
   have hx : p[i]? = some p[i] := List.getElem?_eq_getElem hi
   obtain ⟨r, hb⟩ : ∃ r, bM t p y ((i : Int), d, l1) = r := ⟨_, rfl⟩
   rw [hb]
   unfold bM at hb
   dsimp only at hb
   rw [ltB_nat, decide_eq_true hi, cond_true, idx_nat, hx, up_nat (by omega)] at hb
   simp only [some_bind] at hb
   rcases inner_loop h hs hy h2 (by omega) (a := (i : Int)) (List.getElem_mem hi) with ⟨d', l', e, hj⟩ | ⟨e, ho⟩
   ·rw [e] at hb
    refine .inl ⟨_, hb.symm, rfl, hj.congr (fun q => ?_) (by omega)⟩
    constructor
    ·rintro (⟨j, hj, hq⟩ | hq)
     ·exact ⟨j, by omega, hq⟩
     ·exact ⟨i, by omega, _, hx, hq⟩
    ·rintro ⟨j, hj, c, hc, hq⟩
     rcases Nat.lt_succ_iff_lt_or_eq.1 hj with hj | rfl
     ·exact .inl ⟨j, hj, c, hc, hq⟩
     ·rw [hx] at hc
      cases hc
      exact .inr hq
   ·rw [e] at hb
    exact .inr ⟨_, hb.symm, .inr ⟨rfl, ho⟩⟩)
  (fun s ⟨h1, h2⟩ => by
   obtain ⟨a1, d, l1⟩ := s
   dsimp only at h1 h2
   subst h1
   refine ⟨.inr l1, ?_, .inl ⟨d, l1, rfl, h2.congr (fun q => ?_) (by omega)⟩⟩
   ·unfold bM
    dsimp only
    rw [ltB_nat, decide_eq_false (Nat.lt_irrefl _)]
    rfl
   ·constructor
    ·rintro ⟨j, hj, c, hc, hq⟩
     exact ⟨c, List.mem_of_getElem? hc, hq⟩
    ·rintro ⟨c, hc, hq⟩
     obtain ⟨j, hj⟩ := List.mem_iff_getElem?.1 hc
     exact ⟨j, getE_lt hj, c, hj, hq⟩)
 rcases hq with ⟨d', l', e, hj⟩ | ⟨e, ho⟩
 ·exact .inl ⟨d', l', by rw [hr, e], hj⟩
 ·exact .inr ⟨by rw [hr, e], ho⟩
end
structure Canon (t : Tree) (p y : List Cell) : Prop where
 sorted : y.Pairwise fun a b => befC a b = true
 mem : ∀ c, c ∈ y ↔ c.S = newS t p c.X c.Y ∧ c.S ≠ 0
theorem Canon.uniq {t : Tree} {p y y' : List Cell} (h : Canon t p y) (h' : Canon t p y') : y = y' := sorted_ext h.sorted h'.sorted fun c => (h.mem c).trans (h'.mem c).symm
def Stp (t : Tree) (p : List Cell) (r : List Cell × Int) : Prop := (Out t p ∧ r = ([], 5)) ∨ (¬ Out t p ∧ ∃ y, Canon t p y ∧ r = (bif gtB (ak y) 5000 then ([], 6) else (y, 0)))
theorem Stp.uniq {t : Tree} {p : List Cell} {r r' : List Cell × Int} (h : Stp t p r) (h' : Stp t p r') : r = r' := by
 rcases h with ⟨h1, rfl⟩ | ⟨h1, y, hy, rfl⟩ <;> rcases h' with ⟨h2, rfl⟩ | ⟨h2, y', hy', rfl⟩
 ·rfl
 ·exact absurd h1 h2
 ·exact absurd h2 h1
 ·rw [hy.uniq hy']
theorem step_is {t : Tree} {p : List Cell} (h : Fit t p) (hs : Sz t) : ∃ r, dV t p = some r ∧ Stp t p r := by
 obtain ⟨y, hy, hm⟩ := of_eq h.pat
 unfold dV
 rw [hy]
 simp only [some_bind]
 rcases outer_loop h hs hm with ⟨d, l, e, hj⟩ | ⟨e, ho⟩
 ·rw [e]
  have hall : ∀ x z, newS t p x z ≠ 0 → (⟨x, z, newS t p x z⟩ : Cell) ∈ l := fun x z hn => by
   obtain ⟨c, hc, o, ho, e1, e2⟩ := newS_near h hn
   exact hj.all ⟨x, z⟩ ⟨c, hc, o, ho, by rw [e1, e2]; congr 1 <;> omega⟩ hn
  have hf := from_eq (l := l) (by have := hj.len; omega) (fun c hc => by
   have h1 := hj.mem c hc
   have h2 := (newS_eq h hs c.X c.Y).2
   have h3 := h.ok.s8
   exact ⟨h1.2.2.2, by omega, by omega⟩) hj.dist
  simp only [some_bind]
  rw [hf]
  simp only [some_bind]
  refine ⟨_, rfl, .inr ⟨fun ⟨x, z, hn, hp⟩ => ?_, ed aA l, ⟨isort_sorted hj.dist, fun c => ⟨fun hc => ?_, fun ⟨e1, e2⟩ => ?_⟩⟩, ?_⟩⟩
  ·have := (hj.mem _ (hall x z hn)).2.2.2
   dsimp only at this
   rw [hp] at this
   cases this
  ·have := hj.mem c ((dp l).subset hc)
   exact ⟨this.2.1, this.2.2.1⟩
  ·refine (dp l).symm.subset ?_
   have := hall c.X c.Y (by rw [← e1]; exact e2)
   rw [← e1] at this
   exact this
  ·rfl
 ·rw [e]
  exact ⟨_, rfl, .inl ⟨ho, rfl⟩⟩
theorem step_eq {t : Tree} {p : List Cell} (hs : Sz t) (hp : p.length < 1099511627776) : (fitE t p ≠ 0 ∧ bS t p = some ([], fitE t p)) ∨ (fitE t p = 0 ∧ ∃ r, bS t p = some r ∧ Stp t p r) := by
 unfold bS
 rw [check_eq hs hp]
 simp only [some_bind]
 by_cases h0 : fitE t p = 0
 ·obtain ⟨r, hr, h⟩ := step_is (fit_of h0) hs
  rw [hr, h0]
  exact .inr ⟨rfl, r, rfl, h⟩
 ·have : neB (fitE t p) 0 = true := by simpa [neB] using h0
  rw [this]
  exact .inl ⟨h0, rfl⟩
end Go.Proofs.YtogdjcdmbodmiaaGreatDoor
namespace Go.Proofs.YtogdjcdmbodmiaaGreatDoor
open Go.AM Go.Proofs Go.Sort
theorem fromOk_iff (l : List Cell) : fromOk l = true ↔ l.length < 1099511627776 ∧ ∀ c ∈ l, placeB c.X c.Y = true ∧ 1 ≤ c.S ∧ c.S < 8 := by
 unfold fromOk
 simp only [Bool.and_eq_true, decide_eq_true_eq, List.all_eq_true, place_iff]
 exact and_congr_right fun _ => forall_congr' fun c => imp_congr_right fun _ => by simp only [and_assoc]
theorem from_perm {l l' : List Cell} (h : fromOk l = true) (hp : l'.Perm l) : ba l = ba l' := by
 obtain ⟨h1, h2⟩ := (fromOk_iff l).1 h
 unfold ba
 rw [from_one h1 h2, from_one (by rw [hp.length_eq]; exact h1) fun c hc => h2 c (hp.subset hc)]
 simp only [some_bind]
 rw [show al l' = al l from sortM_perm swo_pattern_order hp]
 rfl
end Go.Proofs.YtogdjcdmbodmiaaGreatDoor
namespace Go.Proofs.YtogdjcdmbodmiaaGreatDoor
open Go.AM Go.Proofs
theorem stp_pat {t : Tree} {p : List Cell} {r : List Cell × Int} (h : Fit t p) (hs : Sz t) (hr : Stp t p r) (h0 : r.2 = 0) : Fit t r.1 := by
 rcases hr with ⟨_, rfl⟩ | ⟨hno, y, hy, rfl⟩
 ·cases h0
 ·cases hg : gtB (ak y) 5000 with
  | true => rw [hg] at h0; cases h0
  | false =>
   simp only [cond_false]
   have hl := of_decide_eq_false hg
   unfold ak at hl
   have hc : ∀ c ∈ y, (-1048576 ≤ c.X ∧ c.X ≤ 1048576 ∧ -1048576 ≤ c.Y ∧ c.Y ≤ 1048576) ∧ 1 ≤ c.S ∧ c.S < t.States := fun c hc => by
    obtain ⟨e1, e2⟩ := (hy.mem c).1 hc
    have hv := (newS_eq h hs c.X c.Y).2
    refine ⟨?_, by omega, by omega⟩
    rw [← place_iff]
    cases hpl : placeB c.X c.Y with
    | true => rfl
    | false => exact absurd ⟨c.X, c.Y, by rw [← e1]; exact e2, hpl⟩ hno
   have h8 := h.ok.s8
   exact ⟨h.ok, h.zero, ⟨by omega, fun c hc' => ⟨(hc c hc').1, by have := (hc c hc').2; omega⟩, hy.sorted⟩, fun c hc' => (hc c hc').2.2⟩
theorem order_ne {a b : Int} (h : a ≠ b) : ∃ v, bZ a b = some v ∧ v ≠ 0 := by
 unfold bZ ltB gtB
 by_cases h1 : a < b
 ·simp [h1]
 ·have : a > b := by omega
  simp [h1, this]
theorem order_self (a : Int) : bZ a a = some 0 := by
 unfold bZ ltB gtB
 simp
theorem same_eq {a b : List Cell} (ha : a.length ≤ 5000) (hb : b.length ≤ 5000) : ej a b = some (decide (a = b)) := by
 have hmain : ∃ v, dX a b = some v ∧ (v = 0 ↔ a = b) := by
  obtain ⟨t, ht, hq⟩ := loop_iv (b := cC a b) (n := min a.length b.length) (s := 0) (fun i s => s = (i : Int) ∧ a.take i = b.take i)
   (fun t => (∃ v, t = .inl v ∧ v ≠ 0 ∧ a ≠ b) ∨ (t = .inr () ∧ a.take (min a.length b.length) = b.take (min a.length b.length))) (by omega)
   ⟨rfl, rfl⟩
   (fun i s hi ⟨h1, h2⟩ => by
    subst h1
    have hxa : a[i]? = some (a[i]'(by omega)) := List.getElem?_eq_getElem (by omega)
    have hxb : b[i]? = some (b[i]'(by omega)) := List.getElem?_eq_getElem (by omega)
    obtain ⟨w, hw⟩ : ∃ w, cC a b (i : Int) = w := ⟨_, rfl⟩
    rw [hw]
    unfold cC at hw
    dsimp only at hw
    rw [ltB_nat, ltB_nat, decide_eq_true (by omega), decide_eq_true (by omega), idx_nat, idx_nat, hxa, hxb, up_nat (by omega)] at hw
    simp only [cond_true, some_bind] at hw
    have hne : ∀ {v : Int} {x y : Int}, x ≠ y → (∀ (e : a = b), x = y) → bZ x y = some v → v ≠ 0 → (∃ v', (Sum.inl v : Int ⊕ Unit) = .inl v' ∧ v' ≠ 0 ∧ a ≠ b) := fun hxy hab _ hv => ⟨_, rfl, hv, fun e => hxy (hab e)⟩
    have hab : a = b → (a[i]'(by omega)) = (b[i]'(by omega)) := fun e => by
     subst e; rfl
    by_cases hY : (a[i]'(by omega)).Y = (b[i]'(by omega)).Y
    ·have e1 : neB (a[i]'(by omega)).Y (b[i]'(by omega)).Y = false := by simpa [neB] using hY
     rw [e1] at hw
     simp only [cond_false] at hw
     by_cases hX : (a[i]'(by omega)).X = (b[i]'(by omega)).X
     ·have e2 : neB (a[i]'(by omega)).X (b[i]'(by omega)).X = false := by simpa [neB] using hX
      rw [e2] at hw
      simp only [cond_false] at hw
      by_cases hS : (a[i]'(by omega)).S = (b[i]'(by omega)).S
      ·have e3 : neB (a[i]'(by omega)).S (b[i]'(by omega)).S = false := by simpa [neB] using hS
       rw [e3] at hw
       simp only [cond_false] at hw
       refine .inl ⟨_, hw.symm, rfl, ?_⟩
       rw [List.take_add_one, List.take_add_one, h2, hxa, hxb]
       congr 2
       revert hX hY hS
       generalize (a[i]'(by omega)) = u
       generalize (b[i]'(by omega)) = v
       intro hX hY hS
       cases u; cases v
       simp_all
      ·have e3 : neB (a[i]'(by omega)).S (b[i]'(by omega)).S = true := by simpa [neB] using hS
       rw [e3] at hw
       obtain ⟨v, hv, hv0⟩ := order_ne hS
       rw [hv] at hw
       exact .inr ⟨_, hw.symm, .inl ⟨v, rfl, hv0, fun e => hS (by rw [hab e])⟩⟩
     ·have e2 : neB (a[i]'(by omega)).X (b[i]'(by omega)).X = true := by simpa [neB] using hX
      rw [e2] at hw
      obtain ⟨v, hv, hv0⟩ := order_ne hX
      rw [hv] at hw
      exact .inr ⟨_, hw.symm, .inl ⟨v, rfl, hv0, fun e => hX (by rw [hab e])⟩⟩
    ·have e1 : neB (a[i]'(by omega)).Y (b[i]'(by omega)).Y = true := by simpa [neB] using hY
     rw [e1] at hw
     obtain ⟨v, hv, hv0⟩ := order_ne hY
     rw [hv] at hw
     exact .inr ⟨_, hw.symm, .inl ⟨v, rfl, hv0, fun e => hY (by rw [hab e])⟩⟩)
   (fun s ⟨h1, h2⟩ => by
    subst h1
    refine ⟨_, ?_, .inr ⟨rfl, h2⟩⟩
    unfold cC
    dsimp only
    rw [ltB_nat, ltB_nat]
    by_cases hab : min a.length b.length < a.length
    ·have : ¬ min a.length b.length < b.length := by omega
     rw [decide_eq_true hab, decide_eq_false this]
     rfl
    ·rw [decide_eq_false hab]
     rfl)
  unfold dX
  rw [ht]
  rcases hq with ⟨v, rfl, hv, hab⟩ | ⟨rfl, htk⟩
  ·exact ⟨v, rfl, ⟨fun h => absurd h hv, fun h => absurd h hab⟩⟩
  ·by_cases hlen : a.length = b.length
   ·have e : a = b := by
     rw [hlen, Nat.min_self, List.take_length] at htk
     rw [← hlen, List.take_length] at htk
     exact htk
    refine ⟨0, ?_, ⟨fun _ => e, fun _ => rfl⟩⟩
    simp only [some_bind]
    unfold ak
    rw [hlen, order_self]
    rfl
   ·obtain ⟨v, hv, hv0⟩ := order_ne (a := ak a) (b := ak b) (by unfold ak; omega)
    refine ⟨v, ?_, ⟨fun h => absurd h hv0, fun h => absurd (by rw [h]) hlen⟩⟩
    simp only [some_bind, hv]
 obtain ⟨v, hv, hiff⟩ := hmain
 unfold ej
 rw [hv]
 simp only [some_bind]
 congr 1
 unfold eqB
 by_cases h : a = b
 ·rw [decide_eq_true h, hiff.2 h]; rfl
 ·rw [decide_eq_false h]
  have : v ≠ 0 := fun e => h (hiff.1 e)
  simpa using this
end Go.Proofs.YtogdjcdmbodmiaaGreatDoor
