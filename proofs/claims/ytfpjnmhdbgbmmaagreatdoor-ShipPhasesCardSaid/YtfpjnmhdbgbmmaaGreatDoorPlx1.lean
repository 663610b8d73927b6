/- Plain lists and numbers: loops over a list. -/
import Derived.Test.YtfpjnmhdbgbmmaaGreatDoorMd1
import Derived.IntWalk
namespace Go.Proofs.YtfpjnmhdbgbmmaaGreatDoor
open Go.AM Go.Proofs
theorem i64_in {n : Int} (h : -9223372036854775808 ≤ n ∧ n ≤ 9223372036854775807) : IntKind.i64.wrap n = n := IntWalk.i64_in n h
theorem up_nat {n : Nat} (h : n < 1099511627776) : aG .i64 (n : Int) 1 = ((n + 1 : Nat) : Int) := by
 unfold aG
 rw [i64_in (by omega)]
 omega
theorem dn_nat {n : Nat} (h : n < 1099511627776) : aC .i64 ((n + 1 : Nat) : Int) 1 = (n : Int) := by
 unfold aC
 rw [i64_in (by omega)]
 omega
theorem iadd_in {a b : Int} (h : -9223372036854775808 ≤ a + b ∧ a + b ≤ 9223372036854775807) : aG .i64 a b = a + b := i64_in h
theorem isub_in {a b : Int} (h : -9223372036854775808 ≤ a - b ∧ a - b ≤ 9223372036854775807) : aC .i64 a b = a - b := i64_in h
theorem imul_in {a b : Int} (h : -9223372036854775808 ≤ a * b ∧ a * b ≤ 9223372036854775807) : dW .i64 a b = a * b := i64_in h
theorem idx_nat {α : Type} (l : List α) (n : Nat) : idx l (n : Int) = l[n]? := by simp [idx]
theorem idx_int {α : Type} (l : List α) {i : Int} (h : 0 ≤ i) : idx l i = l[i.toNat]? := by simp [idx, h]
theorem ltB_nat {α : Type} (n : Nat) (l : List α) : ltB (n : Int) (ah l) = decide (n < l.length) := by simp [ltB, ah]
theorem bif_some {α : Type} (c : Bool) (a b : α) : (bif c then some a else some b) = some (bif c then a else b) := by cases c <;> rfl
theorem bif_some_t (c : Bool) (b : Bool) : (bif c then true else b) = (c || b) := by cases c <;> rfl
theorem bif_some_f (c : Bool) (b : Bool) : (bif c then b else false) = (c && b) := by cases c <;> rfl
theorem some_bind {α β : Type} (a : α) (f : α → Option β) : (some a).bind f = f a := rfl
def anyB {α : Type} (bad : Nat → α → Bool) : List α → Nat → Bool
 | [], _ => false
 | x :: l, i => bad i x || anyB bad l (i + 1)
theorem loop_any_aux {α β : Type} {b : Int → Option (Lp Int (β ⊕ Unit))} (l : List α) (bad : Nat → α → Bool) (r : β)
  (hs : ∀ (i : Nat) (x : α), l[i]? = some x → b i = some (bif bad i x then .out (.inl r) else .next ((i + 1 : Nat) : Int)))
  (he : b (l.length : Nat) = some (.out (.inr ()))) : ∀ (m : List α) (i n : Nat), l.drop i = m → i + m.length = l.length → m.length < n → ak b n (i : Nat) = some (bif anyB bad m i then .inl r else .inr ())
 | [], i, n, _, hl, hn => by
  obtain ⟨n, rfl⟩ : ∃ k, n = k + 1 := ⟨n - 1, by simp at hn; omega⟩
  obtain rfl : i = l.length := by simpa using hl
  rw [ak, he]
  rfl
 | x :: m, i, n, hd, hl, hn => by
  obtain ⟨n, rfl⟩ : ∃ k, n = k + 1 := ⟨n - 1, by simp at hn; omega⟩
  have hx : l[i]? = some x := by
   have := congrArg (·[0]?) hd
   simpa using this
  rw [ak, hs i x hx, anyB]
  cases hb : bad i x with
  | true => rfl
  | false =>
   simp only [cond_false, Bool.false_or]
   refine loop_any_aux l bad r hs he m (i + 1) n ?_ (by simp at hl; omega) (by simp at hn; omega)
   have := congrArg (List.drop 1) hd
   simpa using this
theorem loop_any {α β : Type} {b : Int → Option (Lp Int (β ⊕ Unit))} (l : List α) (bad : Nat → α → Bool) (r : β) (hl : l.length < 1099511627776)
  (hs : ∀ (i : Nat) (x : α), l[i]? = some x → b i = some (bif bad i x then .out (.inl r) else .next ((i + 1 : Nat) : Int)))
  (he : b (l.length : Nat) = some (.out (.inr ()))) : ak b aA 0 = some (bif anyB bad l 0 then .inl r else .inr ()) :=
 loop_any_aux l bad r hs he l 0 aA rfl (by simp) hl
theorem anyB_false {α : Type} {f : Nat → α → Bool} : ∀ {l : List α} {i : Nat}, anyB f l i = false → ∀ (j : Nat) (x : α), l[j]? = some x → f (i + j) x = false
 | [], _, _, j, x, hj => by simp at hj
 | y :: l, i, h, j, x, hj => by
  rw [anyB, Bool.or_eq_false_iff] at h
  cases j with
  | zero => simp at hj; subst hj; exact h.1
  | succ j => have := anyB_false h.2 j x (by simpa using hj); rwa [show i + 1 + j = i + (j + 1) by omega] at this
theorem anyB_of_false {α : Type} {f : Nat → α → Bool} : ∀ {l : List α} {i : Nat}, (∀ (j : Nat) (x : α), l[j]? = some x → f (i + j) x = false) → anyB f l i = false
 | [], _, _ => rfl
 | y :: l, i, h => by
  rw [anyB, show f i y = false from h 0 y rfl, Bool.false_or]
  exact anyB_of_false fun j x hj => by have := h (j + 1) x (by simpa using hj); rwa [show i + (j + 1) = i + 1 + j by omega] at this
def runL {α S T : Type} (f : Nat → α → S → Option (Lp S T)) (fin : S → Option T) : List α → Nat → S → Option T
 | [], _, s => fin s
 | x :: l, i, s => match f i x s with
  | some (.next s') => runL f fin l (i + 1) s'
  | some (.out t) => some t
  | none => none
def mapE {S St T : Type} (E : S → St) : Option (Lp S T) → Option (Lp St T)
 | some (.next s) => some (.next (E s))
 | some (.out t) => some (.out t)
 | none => none
theorem loop_run_aux {α S St T : Type} {b : St → Option (Lp St T)} (E : Nat → S → St) (l : List α) (f : Nat → α → S → Option (Lp S T)) (fin : S → Option T)
  (hs : ∀ (i : Nat) (x : α) (s : S), l[i]? = some x → b (E i s) = mapE (E (i + 1)) (f i x s))
  (he : ∀ s, b (E l.length s) = (fin s).map .out) : ∀ (m : List α) (i n : Nat) (s : S), l.drop i = m → i + m.length = l.length → m.length < n → ak b n (E i s) = runL f fin m i s
 | [], i, n, s, _, hl, hn => by
  obtain ⟨n, rfl⟩ : ∃ k, n = k + 1 := ⟨n - 1, by simp at hn; omega⟩
  obtain rfl : i = l.length := by simpa using hl
  rw [ak, he, runL]
  cases fin s <;> rfl
 | x :: m, i, n, s, hd, hl, hn => by
  obtain ⟨n, rfl⟩ : ∃ k, n = k + 1 := ⟨n - 1, by simp at hn; omega⟩
  have hx : l[i]? = some x := by
   have := congrArg (·[0]?) hd
   simpa using this
  rw [ak, hs i x s hx, runL]
  rcases f i x s with _ | (s' | t)
  ·rfl
  ·simp only [mapE]
   refine loop_run_aux E l f fin hs he m (i + 1) n s' ?_ (by simp at hl; omega) (by simp at hn; omega)
   have := congrArg (List.drop 1) hd
   simpa using this
  ·rfl
theorem loop_run {α S St T : Type} {b : St → Option (Lp St T)} (E : Nat → S → St) (l : List α) (f : Nat → α → S → Option (Lp S T)) (fin : S → Option T) (hl : l.length < 1099511627776)
  (hs : ∀ (i : Nat) (x : α) (s : S), l[i]? = some x → b (E i s) = mapE (E (i + 1)) (f i x s))
  (he : ∀ s, b (E l.length s) = (fin s).map .out) (s : S) : ak b aA (E 0 s) = runL f fin l 0 s := loop_run_aux E l f fin hs he l 0 aA s rfl (by simp) hl
end Go.Proofs.YtfpjnmhdbgbmmaaGreatDoor
namespace Go.Proofs.YtfpjnmhdbgbmmaaGreatDoor
open Go.AM Go.Proofs
theorem cmp_eq (x y : Int) : bo x y = some (if x < y then -1 else if x > y then 1 else 0) := by
 simp only [bo, dC, some_bind, neB, ltB, gtB, bne_self_eq_false, cond_false]
 by_cases h : x < y
 ·simp [h]
 ·by_cases h2 : x > y <;> simp [h, h2]
theorem or_eq (a b : Int) : eH [a, b] = some (if a ≠ 0 then a else b) := by
 unfold eH
 have h := loop_run (b := ej [a, b]) (fun i (_ : Unit) => (i : Int)) [a, b] (fun _ x _ => some (bif neB x 0 then .out (.inl x) else .next ())) (fun _ => some (.inr ())) (by simp)
  (fun i x s hx => by
   unfold ej
   dsimp only
   rw [ltB_nat, decide_eq_true (List.getElem?_eq_some_iff.1 hx).1, cond_true, idx_nat, hx, up_nat (Nat.lt_trans (List.getElem?_eq_some_iff.1 hx).1 (by simp))]
   simp only [some_bind]
   cases neB x 0 <;> rfl)
  (fun s => by
   unfold ej
   dsimp only
   rw [ltB_nat, decide_eq_false (Nat.lt_irrefl _)]
   rfl) ()
 rw [show ((0 : Nat) : Int) = 0 from rfl] at h
 rw [h]
 simp only [runL, neB]
 by_cases ha : a = 0
 ·by_cases hb : b = 0
  ·simp [ha, hb]
  ·have h1 : (b != 0) = true := by simpa using hb
   simp [ha, h1]
 ·have h1 : (a != 0) = true := by simpa using ha
  simp [ha, h1]
end Go.Proofs.YtfpjnmhdbgbmmaaGreatDoor
namespace Go.Proofs.YtfpjnmhdbgbmmaaGreatDoor
open Go.AM Go.Proofs
def befP (a b : Point) : Bool := decide (a.Y < b.Y) || (a.Y == b.Y && decide (a.X < b.X))
theorem m_R07_before_eq (a b : Point) : fL a b = some (befP a b) := by
 simp only [fL, befP, ltB, eqB, bif_some, some_bind, bif_some_t, bif_some_f]
theorem comp_eq (a b : Point) : ∃ c, bM a b = some c ∧ geB c 0 = !befP a b := by
 simp only [bM, cmp_eq, some_bind, or_eq]
 refine ⟨_, rfl, ?_⟩
 unfold befP geB
 by_cases h1 : a.Y < b.Y
 ·simp [h1]
 ·by_cases h2 : a.Y > b.Y
  ·have : ¬ a.Y = b.Y := by omega
   simp [h1, h2, this]
  ·have h3 : a.Y = b.Y := by omega
   simp only [h3, Int.lt_irrefl, ↓reduceIte, gt_iff_lt, ne_eq, not_true_eq_false, decide_false, Bool.false_or]
   by_cases h4 : a.X < b.X
   ·simp [h4]
   ·by_cases h5 : b.X < a.X <;> simp [h4, h5]
def badP (l : List Point) (i : Nat) (x : Point) : Bool :=
 ltB x.X (-2) || (gtB x.X 2 || (ltB x.Y (-2) || (gtB x.Y 2 || match i with
  | 0 => false
  | j + 1 => match l[j]? with
   | some y => !befP y x
   | none => false)))
def ja (l : List Point) : Bool := !(ltB (ah l) 1 || gtB (ah l) 25) && !anyB (badP l) l 0
theorem aR {α : Type} {l : List α} {i : Nat} {x : α} (h : l[i]? = some x) : i < l.length := (List.getElem?_eq_some_iff.1 h).1
theorem kd {α : Type} {l : List α} {i : Nat} {x : α} (h : l[i + 1]? = some x) : ∃ y, l[i]? = some y := ⟨_, List.getElem?_eq_getElem (Nat.lt_of_succ_lt (aR h))⟩
theorem gtB_zero : gtB ((0 : Nat) : Int) 0 = false := rfl
theorem gtB_succ (n : Nat) : gtB ((n + 1 : Nat) : Int) 0 = true := by simp [gtB]
theorem hood_eq {l : List Point} (hl : l.length < 1099511627776) : eA l = some (ja l) := by
 unfold eA ja
 simp only [bif_some, some_bind, bif_some_t]
 rw [loop_any l (badP l) false hl]
 ·cases (ltB (ah l) 1 || gtB (ah l) 25) <;> cases anyB (badP l) l 0 <;> rfl
 ·intro i x hx
  unfold fw
  dsimp only
  rw [ltB_nat, decide_eq_true (aR hx), cond_true, idx_nat, hx, up_nat (Nat.lt_trans (aR hx) hl)]
  unfold badP
  cases i with
  | zero => simp only [gtB_zero, cond_false, bif_some, some_bind, bif_some_t]
  | succ j =>
   obtain ⟨y, hy⟩ := kd hx
   obtain ⟨c, hc, hg⟩ := comp_eq y x
   simp only [gtB_succ, cond_true, dn_nat (Nat.lt_trans (Nat.lt_of_succ_lt (aR hx)) hl), idx_nat, hy, some_bind, hc, hg, bif_some, bif_some_t]
 ·unfold fw
  dsimp only
  rw [ltB_nat, decide_eq_false (Nat.lt_irrefl _)]
  rfl
theorem hoodR_eq {l : List Point} (hl : l.length < 1099511627776) : gG l = some (ja l) := by
 unfold gG ja
 simp only [bif_some, some_bind, bif_some_t]
 rw [loop_any l (badP l) false hl]
 ·cases (ltB (ah l) 1 || gtB (ah l) 25) <;> cases anyB (badP l) l 0 <;> rfl
 ·intro i x hx
  unfold gh
  dsimp only
  rw [ltB_nat, decide_eq_true (aR hx), cond_true, idx_nat, hx, up_nat (Nat.lt_trans (aR hx) hl)]
  unfold badP
  cases i with
  | zero => simp only [gtB_zero, cond_false, bif_some, some_bind, bif_some_t]
  | succ j =>
   obtain ⟨y, hy⟩ := kd hx
   simp only [gtB_succ, cond_true, dn_nat (Nat.lt_trans (Nat.lt_of_succ_lt (aR hx)) hl), idx_nat, hy, some_bind, m_R07_before_eq, aD, bif_some, bif_some_t]
 ·unfold gh
  dsimp only
  rw [ltB_nat, decide_eq_false (Nat.lt_irrefl _)]
  rfl
end Go.Proofs.YtfpjnmhdbgbmmaaGreatDoor
