/-
  Plain lists and numbers: loops over a list.
  Plain laws: the library's comparisons of numbers.
  The fixed examples of chapter 50 hold: reckoned by the kernel over the functions of lists.
  ShipStreams: the two sides agree on Turned and Stream.
-/
import Derived.Test.YtfpjnmhdbgbmmaaGreatDoorMd1
import Derived.IntWalk
namespace Go.Proofs.YtfpjnmhdbgbmmaaGreatDoor
open Go.AM Go.Proofs
theorem i64_in {n : Int} (h : -9223372036854775808 ≤ n ∧ n ≤ 9223372036854775807) : IntKind.i64.wrap n = n := IntWalk.i64_in n h
theorem up_nat {n : Nat} (h : n < 1099511627776) : aH .i64 (n : Int) 1 = ((n + 1 : Nat) : Int) := by
 unfold aH
 rw [i64_in (by omega)]
 omega
theorem iadd_in {a b : Int} (h : -9223372036854775808 ≤ a + b ∧ a + b ≤ 9223372036854775807) : aH .i64 a b = a + b := i64_in h
theorem idx_nat {α : Type} (l : List α) (n : Nat) : idx l (n : Int) = l[n]? := by simp [idx]
theorem ltB_nat {α : Type} (n : Nat) (l : List α) : ltB (n : Int) (ah l) = decide (n < l.length) := by simp [ltB, ah]
theorem some_bind {α β : Type} (a : α) (f : α → Option β) : (some a).bind f = f a := rfl
def anyB {α : Type} (bad : Nat → α → Bool) : List α → Nat → Bool
 | [], _ => false
 | x :: l, i => bad i x || anyB bad l (i + 1)
theorem loop_any_aux {α β : Type} {b : Int → Option (Lp Int (β ⊕ Unit))} (l : List α) (bad : Nat → α → Bool) (r : β)
  (hs : ∀ (i : Nat) (x : α), l[i]? = some x → b i = some (bif bad i x then .out (.inl r) else .next ((i + 1 : Nat) : Int)))
  (he : b (l.length : Nat) = some (.out (.inr ()))) : ∀ (m : List α) (i n : Nat), l.drop i = m → i + m.length = l.length → m.length < n → al b n (i : Nat) = some (bif anyB bad m i then .inl r else .inr ())
 | [], i, n, _, hl, hn => by
  obtain ⟨n, rfl⟩ : ∃ k, n = k + 1 := ⟨n - 1, by simp at hn; omega⟩
  obtain rfl : i = l.length := by simpa using hl
  rw [al, he]
  rfl
 | x :: m, i, n, hd, hl, hn => by
  obtain ⟨n, rfl⟩ : ∃ k, n = k + 1 := ⟨n - 1, by simp at hn; omega⟩
  have hx : l[i]? = some x := by
   have := congrArg (·[0]?) hd
   simpa using this
  rw [al, hs i x hx, anyB]
  cases hb : bad i x with
  | true => rfl
  | false =>
   simp only [cond_false, Bool.false_or]
   refine loop_any_aux l bad r hs he m (i + 1) n ?_ (by simp at hl; omega) (by simp at hn; omega)
   have := congrArg (List.drop 1) hd
   simpa using this
theorem loop_any {α β : Type} {b : Int → Option (Lp Int (β ⊕ Unit))} (l : List α) (bad : Nat → α → Bool) (r : β) (hl : l.length < 1099511627776)
  (hs : ∀ (i : Nat) (x : α), l[i]? = some x → b i = some (bif bad i x then .out (.inl r) else .next ((i + 1 : Nat) : Int)))
  (he : b (l.length : Nat) = some (.out (.inr ()))) : al b aY 0 = some (bif anyB bad l 0 then .inl r else .inr ()) :=
 loop_any_aux l bad r hs he l 0 aY rfl (by simp) hl
theorem anyB_of_false {α : Type} {f : Nat → α → Bool} : ∀ {l : List α} {i : Nat}, (∀ (j : Nat) (x : α), l[j]? = some x → f (i + j) x = false) → anyB f l i = false
 | [], _, _ => rfl
 | y :: l, i, h => by
  rw [anyB, show f i y = false from h 0 y rfl, Bool.false_or]
  exact anyB_of_false fun j x hj => by have := h (j + 1) x (by simpa using hj); rwa [show i + (j + 1) = i + 1 + j by omega] at this
def runL {α S T : Type} (f : Nat → α → S → Option (Lp S T)) (fin : S → Option T) : List α → Nat → S → Option T
 | [], _, s => fin s
 | x :: l, i, s => match f i x s with
  | some (.next s') => runL f fin l (i + 1) s'
  | some (.out t) => some t
  | none => none
def mapE {S St T : Type} (E : S → St) : Option (Lp S T) → Option (Lp St T)
 | some (.next s) => some (.next (E s))
 | some (.out t) => some (.out t)
 | none => none
theorem loop_run_aux {α S St T : Type} {b : St → Option (Lp St T)} (E : Nat → S → St) (l : List α) (f : Nat → α → S → Option (Lp S T)) (fin : S → Option T)
  (hs : ∀ (i : Nat) (x : α) (s : S), l[i]? = some x → b (E i s) = mapE (E (i + 1)) (f i x s))
  (he : ∀ s, b (E l.length s) = (fin s).map .out) : ∀ (m : List α) (i n : Nat) (s : S), l.drop i = m → i + m.length = l.length → m.length < n → al b n (E i s) = runL f fin m i s
 | [], i, n, s, _, hl, hn => by
  obtain ⟨n, rfl⟩ : ∃ k, n = k + 1 := ⟨n - 1, by simp at hn; omega⟩
  obtain rfl : i = l.length := by simpa using hl
  rw [al, he, runL]
  cases fin s <;> rfl
 | x :: m, i, n, s, hd, hl, hn => by
  obtain ⟨n, rfl⟩ : ∃ k, n = k + 1 := ⟨n - 1, by simp at hn; omega⟩
  have hx : l[i]? = some x := by
   have := congrArg (·[0]?) hd
   simpa using this
  rw [al, hs i x s hx, runL]
  rcases f i x s with _ | (s' | t)
  ·rfl
  ·simp only [mapE]
   refine loop_run_aux E l f fin hs he m (i + 1) n s' ?_ (by simp at hl; omega) (by simp at hn; omega)
   have := congrArg (List.drop 1) hd
   simpa using this
  ·rfl
theorem loop_run {α S St T : Type} {b : St → Option (Lp St T)} (E : Nat → S → St) (l : List α) (f : Nat → α → S → Option (Lp S T)) (fin : S → Option T) (hl : l.length < 1099511627776)
  (hs : ∀ (i : Nat) (x : α) (s : S), l[i]? = some x → b (E i s) = mapE (E (i + 1)) (f i x s))
  (he : ∀ s, b (E l.length s) = (fin s).map .out) (s : S) : al b aY (E 0 s) = runL f fin l 0 s := loop_run_aux E l f fin hs he l 0 aY s rfl (by simp) hl
end Go.Proofs.YtfpjnmhdbgbmmaaGreatDoor
namespace Go.Proofs.YtfpjnmhdbgbmmaaGreatDoor
open Go.AM Go.Proofs
theorem cmp_eq (x y : Int) : bc x y = some (if x < y then -1 else if x > y then 1 else 0) := by
 simp only [bc, d8, some_bind, neB, ltB, gtB, bne_self_eq_false, cond_false]
 by_cases h : x < y
 ·simp [h]
 ·by_cases h2 : x > y <;> simp [h, h2]
theorem or_eq (a b : Int) : dC [a, b] = some (if a ≠ 0 then a else b) := by
 unfold dC
 have h := loop_run (b := du [a, b]) (fun i (_ : Unit) => (i : Int)) [a, b] (fun _ x _ => some (bif neB x 0 then .out (.inl x) else .next ())) (fun _ => some (.inr ())) (by simp)
  (fun i x s hx => by
   unfold du
   dsimp only
   rw [ltB_nat, decide_eq_true (List.getElem?_eq_some_iff.1 hx).1, cond_true, idx_nat, hx, up_nat (Nat.lt_trans (List.getElem?_eq_some_iff.1 hx).1 (by simp))]
   simp only [some_bind]
   cases neB x 0 <;> rfl)
  (fun s => by
   unfold du
   dsimp only
   rw [ltB_nat, decide_eq_false (Nat.lt_irrefl _)]
   rfl) ()
 rw [show ((0 : Nat) : Int) = 0 from rfl] at h
 rw [h]
 simp only [runL, neB]
 by_cases ha : a = 0
 ·by_cases hb : b = 0
  ·simp [ha, hb]
  ·have h1 : (b != 0) = true := by simpa using hb
   simp [ha, h1]
 ·have h1 : (a != 0) = true := by simpa using ha
  simp [ha, h1]
end Go.Proofs.YtfpjnmhdbgbmmaaGreatDoor
namespace Go.Proofs.YtfpjnmhdbgbmmaaGreatDoor
open Go.AM Go.Proofs
theorem awake50 : fW = some true := by kernel_rfl
end Go.Proofs.YtfpjnmhdbgbmmaaGreatDoor
namespace Go.Proofs.YtfpjnmhdbgbmmaaGreatDoor
open Go.AM Go.Proofs
theorem shipIn_eq (x y : Int) : eO x y = some (decide (-1048576 ≤ x ∧ x ≤ 1048576 ∧ -1048576 ≤ y ∧ y ≤ 1048576)) := by
 have h1 : leB (imax x y) 1048576 = (decide (x ≤ 1048576) && decide (y ≤ 1048576)) := by
  unfold leB imax
  rw [← Bool.decide_and]
  split <;> exact decide_eq_decide.2 (by omega)
 have h2 : geB (imin x y) (-1048576) = (decide (-1048576 ≤ x) && decide (-1048576 ≤ y)) := by
  unfold geB imin
  rw [← Bool.decide_and]
  split <;> exact decide_eq_decide.2 (by omega)
 unfold eO
 rw [h1, h2]
 by_cases a1 : x ≤ 1048576 <;> by_cases a2 : y ≤ 1048576 <;> by_cases a3 : -1048576 ≤ x <;> by_cases a4 : -1048576 ≤ y <;> simp [a1, a2, a3, a4]
theorem valid03_eq (p : Point) : cM p = some (decide (-1048576 ≤ p.X ∧ p.X ≤ 1048576 ∧ -1048576 ≤ p.Y ∧ p.Y ≤ 1048576)) := by
 unfold cM leB geB
 by_cases a1 : p.X ≤ 1048576 <;> by_cases a2 : p.Y ≤ 1048576 <;> by_cases a3 : -1048576 ≤ p.X <;> by_cases a4 : -1048576 ≤ p.Y <;>
  simp [a1, a2, a3, a4]
theorem streamB_eq (x : Shot) (m : Motion) (count gap : Int) : dL x m count gap = cj x m count gap := by
 funext ⟨a, out⟩
 unfold dL cj
 simp only [shipIn_eq, valid03_eq]
theorem stream_eq (x : Shot) (m : Motion) (count gap : Int) : di x m count gap = dd x m count gap := by
 unfold di dd
 simp only [streamB_eq, shipIn_eq, valid03_eq]
theorem streamL (x : Shot) (m : Motion) (count gap : Int) (hc : count ≤ 16) : ∀ (n i : Nat) (out : List Shot) (fuel : Nat), count ≤ (i : Int) + n → i ≤ 17 → out.length ≤ i → n < fuel →
  ∃ o, al (cj x m count gap) fuel ((i : Int), out) = some o ∧ (∀ l, o = .inr l → l.length ≤ 100) ∧ ∀ r, o = .inl r → r.1.length ≤ 100
 | n, i, out, 0, _, _, _, hf => by omega
 | n, i, out, fuel + 1, hn, hi, ho, hf => by
  have key : ∀ p, ∃ b, cM p = some b := fun p => ⟨_, valid03_eq p⟩
  obtain ⟨c1, h1⟩ := key ⟨x.X, x.Y⟩
  obtain ⟨c2, h2⟩ := key ⟨aA .i64 x.X (bP .i64 (bP .i64 (i : Int) gap) m.DX), aA .i64 x.Y (bP .i64 (bP .i64 (i : Int) gap) m.DY)⟩
  have ha : ∀ s : Shot, eP 40 out [s] = some (out ++ [s]) := fun s => by
   unfold eP
   rw [if_pos ⟨by decide, by simp; omega⟩]
  obtain ⟨w, hw⟩ : ∃ w, cj x m count gap ((i : Int), out) = w := ⟨_, rfl⟩
  rw [al, hw]
  unfold cj at hw
  simp only [h1, h2, some_bind, ha] at hw
  by_cases h : (i : Int) < count
  ·obtain ⟨n, rfl⟩ : ∃ k, n = k + 1 := ⟨n - 1, by omega⟩
   simp only [ltB, h, decide_true, cond_true] at hw
   cases c1
   ·cases hw
    exact ⟨.inl ([], 5), rfl, fun l hl => (by cases hl), fun r hr => by cases hr; exact Nat.zero_le _⟩
   ·cases c2
    ·cases hw
     exact ⟨.inl ([], 5), rfl, fun l hl => (by cases hl), fun r hr => by cases hr; exact Nat.zero_le _⟩
    ·simp only [aM, Bool.not_true, cond_false] at hw
     rw [up_nat (by omega)] at hw
     cases hw
     refine streamL x m count gap hc n (i + 1) _ fuel (by omega) (by omega) ?_ (by omega)
     simp only [List.length_append, List.length_cons, List.length_nil]
     omega
  ·simp only [ltB, h, decide_false, cond_false] at hw
   cases hw
   exact ⟨_, rfl, fun l hl => by cases hl; omega, fun r hr => by cases hr⟩
theorem stream_ok (x : Shot) (m : Motion) (count gap : Int) : ∃ r, dd x m count gap = some r ∧ r.1.length ≤ 100 := by
 unfold dd
 obtain ⟨d, hd⟩ : ∃ d, cM ⟨m.DX, m.DY⟩ = some d := ⟨_, valid03_eq _⟩
 simp only [hd, some_bind]
 by_cases h1 : m.Period < 1
 ·exact ⟨([], 2), by simp [ltB, h1], Nat.zero_le _⟩
 by_cases h2 : m.Period > 64
 ·exact ⟨([], 2), by simp [ltB, gtB, h1, h2], Nat.zero_le _⟩
 cases d
 ·exact ⟨([], 2), by simp [ltB, gtB, h1, h2, aM], Nat.zero_le _⟩
 by_cases h3 : count < 0
 ·exact ⟨([], 2), by simp [ltB, gtB, h1, h2, h3, aM], Nat.zero_le _⟩
 by_cases h4 : count > 16
 ·exact ⟨([], 2), by simp [ltB, gtB, h1, h2, h3, h4, aM], Nat.zero_le _⟩
 by_cases h5 : gap < 1
 ·exact ⟨([], 2), by simp [ltB, gtB, h1, h2, h3, h4, h5, aM], Nat.zero_le _⟩
 by_cases h6 : gap > 1000
 ·exact ⟨([], 2), by simp [ltB, gtB, h1, h2, h3, h4, h5, h6, aM], Nat.zero_le _⟩
 obtain ⟨o, ho, hl, hr⟩ := streamL x m count gap (by omega) 17 0 [] aY (by simp; omega) (by omega) (by simp) (by unfold aY; omega)
 rw [show ((0 : Nat) : Int) = 0 from rfl] at ho
 simp only [ltB, gtB, h1, h2, h3, h4, h5, h6, decide_false, cond_false, some_bind, aM, Bool.not_true, ho]
 cases o with
 | inl r => exact ⟨r, rfl, hr r rfl⟩
 | inr l => exact ⟨(l, 0), rfl, hl l rfl⟩
theorem and7 (k : Int) : iand .i64 k 7 = k % 8 := by
 unfold iand
 rw [show IntKind.i64.bits = 64 from rfl, BitVec.toNat_and, show (BitVec.ofInt 64 7).toNat = 2 ^ 3 - 1 from by decide, Nat.and_two_pow_sub_one_eq_mod, BitVec.toNat_ofInt]
 rw [i64_in (by omega)]
 omega
theorem mod04_eq (k : Int) (_hk : -9223372036854775808 ≤ k ∧ k ≤ 9223372036854775807) : gL k = some (k % 8) := by
 unfold gL irem
 simp only [show ¬ ((8 : Int) = 0) from by decide, if_false, some_bind]
 have h1 := Int.tmod_def k 8
 have h2 : -8 < k.tmod 8 ∧ k.tmod 8 < 8 := ⟨by have := Int.lt_tmod_of_pos k (show (0 : Int) < 8 by decide); omega, Int.tmod_lt_of_pos k (by decide)⟩
 rw [iadd_in (by omega), Int.tmod_eq_emod_of_nonneg (by omega)]
 congr 1
 omega
def in64 (n : Int) : Prop := -9223372036854775808 ≤ n ∧ n ≤ 9223372036854775807
theorem turn_prog (k : Int) (p : Point) : ∃ x, aidx 8 g0R (k % 8) = some x ∧ bn k p = some ⟨aH .i64 (bP .i64 x.1 p.X) (bP .i64 x.2.1 p.Y), aH .i64 (bP .i64 x.2.2.1 p.X) (bP .i64 x.2.2.2 p.Y)⟩ := by
 unfold bn
 rw [and7]
 obtain h : k % 8 = 0 ∨ k % 8 = 1 ∨ k % 8 = 2 ∨ k % 8 = 3 ∨ k % 8 = 4 ∨ k % 8 = 5 ∨ k % 8 = 6 ∨ k % 8 = 7 := by omega
 rcases h with h | h | h | h | h | h | h | h <;> rw [h] <;> exact ⟨_, rfl, rfl⟩
theorem turn_both (k : Int) (hk : in64 k) (p : Point) (hx : in64 p.X) (hy : in64 p.Y) : ∃ r, bn k p = some r ∧ eM k p = some r := by
 obtain ⟨x, ha, hp⟩ := turn_prog k p
 refine ⟨_, hp, ?_⟩
 unfold eM
 rw [mod04_eq k hk]
 obtain ⟨X, Y⟩ := p
 simp only at hx hy
 obtain ⟨x1, x2⟩ := hx
 obtain ⟨y1, y2⟩ := hy
 obtain h : k % 8 = 0 ∨ k % 8 = 1 ∨ k % 8 = 2 ∨ k % 8 = 3 ∨ k % 8 = 4 ∨ k % 8 = 5 ∨ k % 8 = 6 ∨ k % 8 = 7 := by omega
 rcases h with h | h | h | h | h | h | h | h <;> rw [h] at ha ⊢ <;> cases ha
 ·refine (show _ = some (⟨X, Y⟩ : Point) from rfl).trans ?_
  simp only [aH, bP, IntKind.wrap_i64]; congr 2 <;> omega
 ·refine (show _ = some (⟨dl .i64 Y, X⟩ : Point) from rfl).trans ?_
  simp only [dl, aH, bP, IntKind.wrap_i64]; congr 2 <;> omega
 ·refine (show _ = some (⟨dl .i64 X, dl .i64 Y⟩ : Point) from rfl).trans ?_
  simp only [dl, aH, bP, IntKind.wrap_i64]; congr 2 <;> omega
 ·refine (show _ = some (⟨dl .i64 (dl .i64 Y), dl .i64 X⟩ : Point) from rfl).trans ?_
  simp only [dl, aH, bP, IntKind.wrap_i64]; congr 2 <;> omega
 ·refine (show _ = some (⟨dl .i64 X, Y⟩ : Point) from rfl).trans ?_
  simp only [dl, aH, bP, IntKind.wrap_i64]; congr 2 <;> omega
 ·refine (show _ = some (⟨dl .i64 Y, dl .i64 X⟩ : Point) from rfl).trans ?_
  simp only [dl, aH, bP, IntKind.wrap_i64]; congr 2 <;> omega
 ·refine (show _ = some (⟨dl .i64 (dl .i64 X), dl .i64 Y⟩ : Point) from rfl).trans ?_
  simp only [dl, aH, bP, IntKind.wrap_i64]; congr 2 <;> omega
 ·refine (show _ = some (⟨dl .i64 (dl .i64 Y), dl .i64 (dl .i64 X)⟩ : Point) from rfl).trans ?_
  simp only [dl, aH, bP, IntKind.wrap_i64]; congr 2 <;> omega
theorem turned_both (k : Int) (m : Motion) (hk : in64 k) (hx : in64 m.DX) (hy : in64 m.DY) : ∃ r, cP k m = some r ∧ ek k m = some r := by
 obtain ⟨r, h1, h2⟩ := turn_both k hk ⟨m.DX, m.DY⟩ hx hy
 unfold cP ek
 rw [h1, h2]
 exact ⟨_, rfl, rfl⟩
theorem streams_true (x : Shot) (m : Motion) (n : Int × Int × Int) (hm : in64 m.DX ∧ in64 m.DY) (hn : in64 n.2.2) : da x m n = some true := by
 unfold da
 obtain ⟨r, hr, hl⟩ := stream_ok x m n.1 n.2.1
 obtain ⟨t, ht1, ht2⟩ := turned_both n.2.2 m hn hm.1 hm.2
 rw [stream_eq, hr]
 simp only [some_bind, ht1, ht2, neB, bne_self_eq_false, cond_false, eqB, beq_self_eq_true, bA, Bool.and_self, aM, Bool.not_true]
 have h := loop_any (b := bN r r) r.1 (fun _ _ => false) false (by omega)
  (fun i y hy => by
   unfold bN
   dsimp only
   rw [ltB_nat, decide_eq_true (List.getElem?_eq_some_iff.1 hy).1, cond_true, idx_nat, hy, up_nat (Nat.lt_trans (List.getElem?_eq_some_iff.1 hy).1 (by omega))]
   simp [eqB, bA, aM])
  (by
   unfold bN
   dsimp only
   rw [ltB_nat, decide_eq_false (Nat.lt_irrefl _)]
   rfl)
 rw [anyB_of_false (fun _ _ _ => rfl)] at h
 rw [h]
 simp only [cond_false, some_bind, awake50]
end Go.Proofs.YtfpjnmhdbgbmmaaGreatDoor
