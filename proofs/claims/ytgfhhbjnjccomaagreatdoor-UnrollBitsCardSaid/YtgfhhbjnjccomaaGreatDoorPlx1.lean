/-
  Plain lists and numbers: loops over a list.
  Plain laws: neighbourhoods and trees, the program's checks and the reference's.
  Plain laws: rule trees: the program's check and the reference's, and whether zeros lead to zero.
  Plain laws: whether zeros lead to zero.
  Plain laws: the check of a problem, the program's and the reference's.
  Plain laws: patterns; bits of states; comparisons with itself.
  Plain laws: the pattern of bits, the program's and the reference's.
  Plain laws: what Pattern and Bits answer, the program's and the reference's.
  Plain laws: what Bits answers, the program's and the reference's.
  Plain laws: bits to cells and back.
  Plain laws: UnrollPatterns and UnrollBits are true of every rule, problem, list of values and pattern.
-/
import Derived.Test.YtgfhhbjnjccomaaGreatDoorMd1
import Derived.IntWalk
namespace Go.Proofs.YtgfhhbjnjccomaaGreatDoor
open Go.AM Go.Proofs

theorem i64_in {n : Int} (h : -9223372036854775808 ≤ n ∧ n ≤ 9223372036854775807) : IntKind.i64.wrap n = n := IntWalk.i64_in n h
theorem up_nat {n : Nat} (h : n < 1099511627776) : iadd .i64 (n : Int) 1 = ((n + 1 : Nat) : Int) := by
  unfold iadd
  rw [i64_in (by omega)]
  omega
theorem dn_nat {n : Nat} (h : n < 1099511627776) : isub .i64 ((n + 1 : Nat) : Int) 1 = (n : Int) := by
  unfold isub
  rw [i64_in (by omega)]
  omega
theorem iadd_in {a b : Int} (h : -9223372036854775808 ≤ a + b ∧ a + b ≤ 9223372036854775807) : iadd .i64 a b = a + b := i64_in h
theorem isub_in {a b : Int} (h : -9223372036854775808 ≤ a - b ∧ a - b ≤ 9223372036854775807) : isub .i64 a b = a - b := i64_in h
theorem imul_in {a b : Int} (h : -9223372036854775808 ≤ a * b ∧ a * b ≤ 9223372036854775807) : imul .i64 a b = a * b := i64_in h
theorem idx_nat {α : Type} (l : List α) (n : Nat) : idx l (n : Int) = l[n]? := by simp [idx]
theorem idx_int {α : Type} (l : List α) {i : Int} (h : 0 ≤ i) : idx l i = l[i.toNat]? := by simp [idx, h]
theorem ltB_nat {α : Type} (n : Nat) (l : List α) : ltB (n : Int) (lenL l) = decide (n < l.length) := by simp [ltB, lenL]
theorem bif_some {α : Type} (c : Bool) (a b : α) : (bif c then some a else some b) = some (bif c then a else b) := by cases c <;> rfl
theorem bif_some_t (c : Bool) (b : Bool) : (bif c then true else b) = (c || b) := by cases c <;> rfl
theorem bif_some_f (c : Bool) (b : Bool) : (bif c then b else false) = (c && b) := by cases c <;> rfl
theorem some_bind {α β : Type} (a : α) (f : α → Option β) : (some a).bind f = f a := rfl

def anyB {α : Type} (bad : Nat → α → Bool) : List α → Nat → Bool
  | [], _ => false
  | x :: l, i => bad i x || anyB bad l (i + 1)
theorem loop_any_aux {α β : Type} {b : Int → Option (Lp Int (β ⊕ Unit))} (l : List α) (bad : Nat → α → Bool) (r : β)
    (hs : ∀ (i : Nat) (x : α), l[i]? = some x → b i = some (bif bad i x then .out (.inl r) else .next ((i + 1 : Nat) : Int)))
    (he : b (l.length : Nat) = some (.out (.inr ()))) : ∀ (m : List α) (i n : Nat), l.drop i = m → i + m.length = l.length → m.length < n → loopN b n (i : Nat) = some (bif anyB bad m i then .inl r else .inr ())
  | [], i, n, _, hl, hn => by
    obtain ⟨n, rfl⟩ : ∃ k, n = k + 1 := ⟨n - 1, by simp at hn; omega⟩
    obtain rfl : i = l.length := by simpa using hl
    rw [loopN, he]
    rfl
  | x :: m, i, n, hd, hl, hn => by
    obtain ⟨n, rfl⟩ : ∃ k, n = k + 1 := ⟨n - 1, by simp at hn; omega⟩
    have hx : l[i]? = some x := by
      have := congrArg (·[0]?) hd
      simpa using this
    rw [loopN, hs i x hx, anyB]
    cases hb : bad i x with
    | true => rfl
    | false =>
      simp only [cond_false, Bool.false_or]
      refine loop_any_aux l bad r hs he m (i + 1) n ?_ (by simp at hl; omega) (by simp at hn; omega)
      have := congrArg (List.drop 1) hd
      simpa using this
/-- A loop that looks for a bad element. -/
theorem loop_any {α β : Type} {b : Int → Option (Lp Int (β ⊕ Unit))} (l : List α) (bad : Nat → α → Bool) (r : β) (hl : l.length < 1099511627776)
    (hs : ∀ (i : Nat) (x : α), l[i]? = some x → b i = some (bif bad i x then .out (.inl r) else .next ((i + 1 : Nat) : Int)))
    (he : b (l.length : Nat) = some (.out (.inr ()))) : loopN b loopF 0 = some (bif anyB bad l 0 then .inl r else .inr ()) :=
  loop_any_aux l bad r hs he l 0 loopF rfl (by simp) hl
theorem anyB_congr {α : Type} {f g : Nat → α → Bool} : ∀ (l : List α) (i : Nat), (∀ (j : Nat) (x : α), l[j]? = some x → f (i + j) x = g (i + j) x) → anyB f l i = anyB g l i
  | [], _, _ => rfl
  | x :: l, i, h => by
    have h1 : f i x = g i x := h 0 x rfl
    have h2 : anyB f l (i + 1) = anyB g l (i + 1) := anyB_congr l (i + 1) fun j y hy => by
      have := h (j + 1) y (by simpa using hy)
      rwa [show i + (j + 1) = i + 1 + j by omega] at this
    simp only [anyB, h1, h2]
theorem anyB_false {α : Type} {f : Nat → α → Bool} : ∀ {l : List α} {i : Nat}, anyB f l i = false → ∀ (j : Nat) (x : α), l[j]? = some x → f (i + j) x = false
  | [], _, _, j, x, hj => by simp at hj
  | y :: l, i, h, j, x, hj => by
    rw [anyB, Bool.or_eq_false_iff] at h
    cases j with
    | zero => simp at hj; subst hj; exact h.1
    | succ j => have := anyB_false h.2 j x (by simpa using hj); rwa [show i + 1 + j = i + (j + 1) by omega] at this
theorem anyB_of_false {α : Type} {f : Nat → α → Bool} : ∀ {l : List α} {i : Nat}, (∀ (j : Nat) (x : α), l[j]? = some x → f (i + j) x = false) → anyB f l i = false
  | [], _, _ => rfl
  | y :: l, i, h => by
    rw [anyB, show f i y = false from h 0 y rfl, Bool.false_or]
    exact anyB_of_false fun j x hj => by have := h (j + 1) x (by simpa using hj); rwa [show i + (j + 1) = i + 1 + j by omega] at this

/-- A loop over a list, with what it gathers. -/
def runL {α S T : Type} (f : Nat → α → S → Option (Lp S T)) (fin : S → Option T) : List α → Nat → S → Option T
  | [], _, s => fin s
  | x :: l, i, s => match f i x s with
    | some (.next s') => runL f fin l (i + 1) s'
    | some (.out t) => some t
    | none => none
def mapE {S St T : Type} (E : S → St) : Option (Lp S T) → Option (Lp St T)
  | some (.next s) => some (.next (E s))
  | some (.out t) => some (.out t)
  | none => none
theorem loop_run_aux {α S St T : Type} {b : St → Option (Lp St T)} (E : Nat → S → St) (l : List α) (f : Nat → α → S → Option (Lp S T)) (fin : S → Option T)
    (hs : ∀ (i : Nat) (x : α) (s : S), l[i]? = some x → b (E i s) = mapE (E (i + 1)) (f i x s))
    (he : ∀ s, b (E l.length s) = (fin s).map .out) : ∀ (m : List α) (i n : Nat) (s : S), l.drop i = m → i + m.length = l.length → m.length < n → loopN b n (E i s) = runL f fin m i s
  | [], i, n, s, _, hl, hn => by
    obtain ⟨n, rfl⟩ : ∃ k, n = k + 1 := ⟨n - 1, by simp at hn; omega⟩
    obtain rfl : i = l.length := by simpa using hl
    rw [loopN, he, runL]
    cases fin s <;> rfl
  | x :: m, i, n, s, hd, hl, hn => by
    obtain ⟨n, rfl⟩ : ∃ k, n = k + 1 := ⟨n - 1, by simp at hn; omega⟩
    have hx : l[i]? = some x := by
      have := congrArg (·[0]?) hd
      simpa using this
    rw [loopN, hs i x s hx, runL]
    rcases f i x s with _ | (s' | t)
    · rfl
    · simp only [mapE]
      refine loop_run_aux E l f fin hs he m (i + 1) n s' ?_ (by simp at hl; omega) (by simp at hn; omega)
      have := congrArg (List.drop 1) hd
      simpa using this
    · rfl
theorem loop_run {α S St T : Type} {b : St → Option (Lp St T)} (E : Nat → S → St) (l : List α) (f : Nat → α → S → Option (Lp S T)) (fin : S → Option T) (hl : l.length < 1099511627776)
    (hs : ∀ (i : Nat) (x : α) (s : S), l[i]? = some x → b (E i s) = mapE (E (i + 1)) (f i x s))
    (he : ∀ s, b (E l.length s) = (fin s).map .out) (s : S) : loopN b loopF (E 0 s) = runL f fin l 0 s := loop_run_aux E l f fin hs he l 0 loopF s rfl (by simp) hl
theorem run_any {α T β : Type} (bad : Nat → α → Bool) (r : β) : ∀ (l : List α) (i : Nat), runL (fun i x (_ : Unit) => some (bif bad i x then Lp.out (Sum.inl r) else .next ())) (fun _ => some (.inr ())) l i () = some (bif anyB bad l i then (.inl r : β ⊕ Unit) else .inr ())
  | [], _ => rfl
  | x :: l, i => by
    rw [runL, anyB]
    cases bad i x with
    | true => rfl
    | false => exact run_any (T := T) bad r l (i + 1)
/-- A loop that looks for a bad element, with a state that the place determines. -/
theorem loop_anyE {α β St : Type} {b : St → Option (Lp St (β ⊕ Unit))} (E : Nat → St) (l : List α) (bad : Nat → α → Bool) (r : β) (hl : l.length < 1099511627776)
    (hs : ∀ (i : Nat) (x : α), l[i]? = some x → b (E i) = some (bif bad i x then .out (.inl r) else .next (E (i + 1))))
    (he : b (E l.length) = some (.out (.inr ()))) : loopN b loopF (E 0) = some (bif anyB bad l 0 then .inl r else .inr ()) := by
  have h := loop_run (b := b) (fun i (_ : Unit) => E i) l (fun i x _ => some (bif bad i x then .out (.inl r) else .next ())) (fun _ => some (.inr ())) hl
    (fun i x _ hx => by
      rw [hs i x hx]
      cases bad i x <;> rfl) (fun _ => he) ()
  exact h.trans (run_any (T := Unit) bad r l 0)
end Go.Proofs.YtgfhhbjnjccomaaGreatDoor

namespace Go.Proofs.YtgfhhbjnjccomaaGreatDoor
open Go.AM Go.Proofs

/-! ### positions -/
def befP (a b : Point) : Bool := decide (a.Y < b.Y) || (a.Y == b.Y && decide (a.X < b.X))
theorem m_R07_before_eq (a b : Point) : m_R07_before a b = some (befP a b) := by
  simp only [m_R07_before, befP, ltB, eqB, bif_some, some_bind, bif_some_t, bif_some_f]
theorem cmp_eq (x y : Int) : m_cmp_Compare_int x y = some (if x < y then -1 else if x > y then 1 else 0) := by
  simp only [m_cmp_Compare_int, m_cmp_isNaN_int, some_bind, neB, ltB, gtB, bne_self_eq_false, cond_false]
  by_cases h : x < y
  · simp [h]
  · by_cases h2 : x > y <;> simp [h, h2]
theorem or_eq (a b : Int) : m_cmp_Or_int [a, b] = some (if a ≠ 0 then a else b) := by
  unfold m_cmp_Or_int
  have h := loop_run (b := b_cmp_Or_int_1 [a, b]) (fun i (_ : Unit) => (i : Int)) [a, b] (fun _ x _ => some (bif neB x 0 then .out (.inl x) else .next ())) (fun _ => some (.inr ())) (by simp)
    (fun i x s hx => by
      unfold b_cmp_Or_int_1
      dsimp only
      rw [ltB_nat, decide_eq_true (List.getElem?_eq_some_iff.1 hx).1, cond_true, idx_nat, hx, up_nat (Nat.lt_trans (List.getElem?_eq_some_iff.1 hx).1 (by simp))]
      simp only [some_bind]
      cases neB x 0 <;> rfl)
    (fun s => by
      unfold b_cmp_Or_int_1
      dsimp only
      rw [ltB_nat, decide_eq_false (Nat.lt_irrefl _)]
      rfl) ()
  rw [show ((0 : Nat) : Int) = 0 from rfl] at h
  rw [h]
  simp only [runL, neB]
  by_cases ha : a = 0
  · by_cases hb : b = 0
    · simp [ha, hb]
    · have h1 : (b != 0) = true := by simpa using hb
      simp [ha, h1]
  · have h1 : (a != 0) = true := by simpa using ha
    simp [ha, h1]
theorem comp_eq (a b : Point) : ∃ c, m_point_Compare a b = some c ∧ geB c 0 = !befP a b := by
  simp only [m_point_Compare, cmp_eq, some_bind, or_eq]
  refine ⟨_, rfl, ?_⟩
  unfold befP geB
  by_cases h1 : a.Y < b.Y
  · simp [h1]
  · by_cases h2 : a.Y > b.Y
    · have : ¬ a.Y = b.Y := by omega
      simp [h1, h2, this]
    · have h3 : a.Y = b.Y := by omega
      simp only [h3, Int.lt_irrefl, ↓reduceIte, gt_iff_lt, ne_eq, not_true_eq_false, decide_false, Bool.false_or]
      by_cases h4 : a.X < b.X
      · simp [h4]
      · by_cases h5 : b.X < a.X <;> simp [h4, h5]

/-! ### neighbourhoods -/
def badP (l : List Point) (i : Nat) (x : Point) : Bool :=
  ltB x.X (-2) || (gtB x.X 2 || (ltB x.Y (-2) || (gtB x.Y 2 || match i with
    | 0 => false
    | j + 1 => match l[j]? with
      | some y => !befP y x
      | none => false)))
def hoodOk (l : List Point) : Bool := !(ltB (lenL l) 1 || gtB (lenL l) 25) && !anyB (badP l) l 0
theorem getE_lt {α : Type} {l : List α} {i : Nat} {x : α} (h : l[i]? = some x) : i < l.length := (List.getElem?_eq_some_iff.1 h).1
theorem getE_prev {α : Type} {l : List α} {i : Nat} {x : α} (h : l[i + 1]? = some x) : ∃ y, l[i]? = some y := ⟨_, List.getElem?_eq_getElem (Nat.lt_of_succ_lt (getE_lt h))⟩
theorem gtB_zero : gtB ((0 : Nat) : Int) 0 = false := rfl
theorem gtB_succ (n : Nat) : gtB ((n + 1 : Nat) : Int) 0 = true := by simp [gtB]
theorem hood_eq {l : List Point} (hl : l.length < 1099511627776) : m_hood_Right l = some (hoodOk l) := by
  unfold m_hood_Right hoodOk
  simp only [bif_some, some_bind, bif_some_t]
  rw [loop_any l (badP l) false hl]
  · cases (ltB (lenL l) 1 || gtB (lenL l) 25) <;> cases anyB (badP l) l 0 <;> rfl
  · intro i x hx
    unfold b_hood_Right_1
    dsimp only
    rw [ltB_nat, decide_eq_true (getE_lt hx), cond_true, idx_nat, hx, up_nat (Nat.lt_trans (getE_lt hx) hl)]
    unfold badP
    cases i with
    | zero => simp only [gtB_zero, cond_false, bif_some, some_bind, bif_some_t]
    | succ j =>
      obtain ⟨y, hy⟩ := getE_prev hx
      obtain ⟨c, hc, hg⟩ := comp_eq y x
      simp only [gtB_succ, cond_true, dn_nat (Nat.lt_trans (Nat.lt_of_succ_lt (getE_lt hx)) hl), idx_nat, hy, some_bind, hc, hg, bif_some, bif_some_t]
  · unfold b_hood_Right_1
    dsimp only
    rw [ltB_nat, decide_eq_false (Nat.lt_irrefl _)]
    rfl
theorem hoodR_eq {l : List Point} (hl : l.length < 1099511627776) : m_R07_Right l = some (hoodOk l) := by
  unfold m_R07_Right hoodOk
  simp only [bif_some, some_bind, bif_some_t]
  rw [loop_any l (badP l) false hl]
  · cases (ltB (lenL l) 1 || gtB (lenL l) 25) <;> cases anyB (badP l) l 0 <;> rfl
  · intro i x hx
    unfold b_R07_Right_1
    dsimp only
    rw [ltB_nat, decide_eq_true (getE_lt hx), cond_true, idx_nat, hx, up_nat (Nat.lt_trans (getE_lt hx) hl)]
    unfold badP
    cases i with
    | zero => simp only [gtB_zero, cond_false, bif_some, some_bind, bif_some_t]
    | succ j =>
      obtain ⟨y, hy⟩ := getE_prev hx
      simp only [gtB_succ, cond_true, dn_nat (Nat.lt_trans (Nat.lt_of_succ_lt (getE_lt hx)) hl), idx_nat, hy, some_bind, m_R07_before_eq, notB, bif_some, bif_some_t]
  · unfold b_R07_Right_1
    dsimp only
    rw [ltB_nat, decide_eq_false (Nat.lt_irrefl _)]
    rfl
end Go.Proofs.YtgfhhbjnjccomaaGreatDoor

namespace Go.Proofs.YtgfhhbjnjccomaaGreatDoor
open Go.AM Go.Proofs

structure Sz (t : Tree) : Prop where
  hood : t.Hood.length < 1099511627776
  nodes : t.Nodes.length < 1099511627776
  next : ∀ x ∈ t.Nodes, x.Next.length < 1099511627776
def lowOk (t : Tree) (x : Node) (k : Int) : Bool := match t.Nodes[k.toNat]? with
  | some y => neB y.Level (isub .i64 x.Level 1)
  | none => true
def badE (t : Tree) (i : Int) (x : Node) (k : Int) : Bool := ltB k 0 || ((eqB x.Level 1 && geB k t.States) || (gtB x.Level 1 && (geB k i || lowOk t x k)))
def badN (t : Tree) (i : Nat) (x : Node) : Bool := ltB x.Level 1 || (gtB x.Level (lenL t.Hood) || (neB (lenL x.Next) t.States || anyB (fun _ k => badE t (i : Nat) x k) x.Next 0))
def rootOk (t : Tree) : Bool := match t.Nodes[t.Nodes.length - 1]? with
  | some x => eqB x.Level (lenL t.Hood)
  | none => false
def treeOk (t : Tree) : Bool := !(ltB t.States 2 || (gtB t.States 8 || (!hoodOk t.Hood || (ltB (lenL t.Nodes) 1 || gtB (lenL t.Nodes) 4096)))) && (!anyB (badN t) t.Nodes 0 && rootOk t)
section
variable {t : Tree} {n : Nat} {x : Node}
theorem low_get (hn : n < t.Nodes.length) {k : Int} (h0 : ltB k 0 = false) (h1 : geB k (n : Nat) = false) : ∃ y, idx t.Nodes k = some y ∧ lowOk t x k = neB y.Level (isub .i64 x.Level 1) := by
  simp only [ltB, geB, decide_eq_false_iff_not, Int.not_lt, ge_iff_le, Int.not_le] at h0 h1
  have hk : k.toNat < t.Nodes.length := by omega
  refine ⟨t.Nodes[k.toNat], ?_, ?_⟩
  · rw [idx_int _ h0]; exact List.getElem?_eq_getElem hk
  · unfold lowOk
    rw [List.getElem?_eq_getElem hk]
theorem inner_eq (hn : n < t.Nodes.length) (hx : x.Next.length < 1099511627776) : loopN (b_tree_Right_2 t (n : Nat) x) loopF 0 = some (bif anyB (fun _ k => badE t (n : Nat) x k) x.Next 0 then .inl false else .inr ()) := by
  refine loop_any x.Next (fun _ k => badE t (n : Nat) x k) false hx (fun i k hk => ?_) ?_
  · unfold b_tree_Right_2 badE
    dsimp only
    rw [ltB_nat, decide_eq_true (getE_lt hk), cond_true, idx_nat, hk, up_nat (Nat.lt_trans (getE_lt hk) hx)]
    simp only [some_bind]
    cases h0 : ltB k 0 with
    | true => rfl
    | false =>
      cases h1 : geB k (n : Nat) with
      | true => cases eqB x.Level 1 <;> cases geB k t.States <;> cases gtB x.Level 1 <;> rfl
      | false =>
        obtain ⟨y, hy, hl⟩ := low_get (x := x) hn h0 h1
        rw [hy, hl]
        simp only [some_bind]
        cases eqB x.Level 1 <;> cases geB k t.States <;> cases gtB x.Level 1 <;> cases neB y.Level (isub .i64 x.Level 1) <;> rfl
  · unfold b_tree_Right_2
    dsimp only
    rw [ltB_nat, decide_eq_false (Nat.lt_irrefl _)]
    rfl
theorem innerR_eq (hn : n < t.Nodes.length) (hx : x.Next.length < 1099511627776) (hl : lenL x.Next = t.States) : loopN (b_R12_Right_2 t (n : Nat) x) loopF 0 = some (bif anyB (fun _ k => badE t (n : Nat) x k) x.Next 0 then .inl false else .inr ()) := by
  refine loop_any x.Next (fun _ k => badE t (n : Nat) x k) false hx (fun i k hk => ?_) ?_
  · unfold b_R12_Right_2 badE
    dsimp only
    rw [← hl, ltB_nat, decide_eq_true (getE_lt hk), cond_true, idx_nat, hk, up_nat (Nat.lt_trans (getE_lt hk) hx)]
    simp only [some_bind]
    cases h0 : ltB k 0 with
    | true => rfl
    | false =>
      cases h1 : geB k (n : Nat) with
      | true => cases eqB x.Level 1 <;> cases geB k (lenL x.Next) <;> cases gtB x.Level 1 <;> rfl
      | false =>
        obtain ⟨y, hy, hl⟩ := low_get (x := x) hn h0 h1
        rw [hy, hl]
        simp only [some_bind]
        cases eqB x.Level 1 <;> cases geB k (lenL x.Next) <;> cases gtB x.Level 1 <;> cases neB y.Level (isub .i64 x.Level 1) <;> rfl
  · unfold b_R12_Right_2
    dsimp only
    rw [← hl, ltB_nat, decide_eq_false (Nat.lt_irrefl _)]
    rfl
theorem outer_eq (hs : Sz t) : loopN (b_tree_Right_1 t) loopF 0 = some (bif anyB (badN t) t.Nodes 0 then .inl false else .inr ()) := by
  refine loop_any t.Nodes (badN t) false hs.nodes (fun i x hx => ?_) ?_
  · unfold b_tree_Right_1 badN
    dsimp only
    rw [ltB_nat, decide_eq_true (getE_lt hx), cond_true, idx_nat, hx, up_nat (Nat.lt_trans (getE_lt hx) hs.nodes)]
    simp only [some_bind, inner_eq (getE_lt hx) (hs.next x (List.mem_of_getElem? hx))]
    cases ltB x.Level 1 <;> cases gtB x.Level (lenL t.Hood) <;> cases neB (lenL x.Next) t.States <;> cases anyB (fun _ k => badE t (i : Nat) x k) x.Next 0 <;> rfl
  · unfold b_tree_Right_1
    dsimp only
    rw [ltB_nat, decide_eq_false (Nat.lt_irrefl _)]
    rfl
theorem outerR_eq (hs : Sz t) : loopN (b_R12_Right_1 t) loopF 0 = some (bif anyB (badN t) t.Nodes 0 then .inl false else .inr ()) := by
  refine loop_any t.Nodes (badN t) false hs.nodes (fun i x hx => ?_) ?_
  · unfold b_R12_Right_1 badN
    dsimp only
    rw [ltB_nat, decide_eq_true (getE_lt hx), cond_true, idx_nat, hx, up_nat (Nat.lt_trans (getE_lt hx) hs.nodes)]
    simp only [some_bind]
    cases hne : neB (lenL x.Next) t.States with
    | true => cases ltB x.Level 1 <;> cases gtB x.Level (lenL t.Hood) <;> rfl
    | false =>
      rw [innerR_eq (getE_lt hx) (hs.next x (List.mem_of_getElem? hx)) (by simpa [neB] using hne)]
      cases ltB x.Level 1 <;> cases gtB x.Level (lenL t.Hood) <;> cases anyB (fun _ k => badE t (i : Nat) x k) x.Next 0 <;> rfl
  · unfold b_R12_Right_1
    dsimp only
    rw [ltB_nat, decide_eq_false (Nat.lt_irrefl _)]
    rfl
theorem root_get (hs : Sz t) (h : ltB (lenL t.Nodes) 1 = false) : ∃ x, idx t.Nodes (isub .i64 (lenL t.Nodes) 1) = some x ∧ rootOk t = eqB x.Level (lenL t.Hood) := by
  have h3 : 0 < t.Nodes.length := by
    have := of_decide_eq_false h
    unfold lenL at this
    omega
  have h2 := hs.nodes
  obtain ⟨m, hm⟩ : ∃ m, t.Nodes.length = m + 1 := ⟨t.Nodes.length - 1, by omega⟩
  have hlt : m < t.Nodes.length := by omega
  refine ⟨t.Nodes[m], ?_, ?_⟩
  · unfold lenL
    rw [hm, dn_nat (by omega), idx_nat]
    exact List.getElem?_eq_getElem hlt
  · unfold rootOk
    rw [show t.Nodes.length - 1 = m by omega, List.getElem?_eq_getElem hlt]
theorem neB_eqB (a b : Int) : neB a b = !eqB a b := rfl
theorem tree_eq (hs : Sz t) : m_tree_Right t = some (treeOk t) := by
  unfold m_tree_Right treeOk
  rw [outer_eq hs, hood_eq hs.hood]
  simp only [some_bind]
  cases hl : ltB (lenL t.Nodes) 1 with
  | true => cases ltB t.States 2 <;> cases gtB t.States 8 <;> cases hoodOk t.Hood <;> rfl
  | false =>
    obtain ⟨x, hx, hr⟩ := root_get hs hl
    rw [hx, hr]
    simp only [some_bind, neB_eqB]
    cases ltB t.States 2 <;> cases gtB t.States 8 <;> cases hoodOk t.Hood <;> cases gtB (lenL t.Nodes) 4096 <;> cases eqB x.Level (lenL t.Hood) <;> cases anyB (badN t) t.Nodes 0 <;> rfl
theorem treeR_eq (hs : Sz t) : m_R12_Right t = some (treeOk t) := by
  unfold m_R12_Right treeOk
  rw [outerR_eq hs, hoodR_eq hs.hood]
  simp only [some_bind]
  cases hl : ltB (lenL t.Nodes) 1 with
  | true => cases ltB t.States 2 <;> cases gtB t.States 8 <;> cases hoodOk t.Hood <;> rfl
  | false =>
    obtain ⟨x, hx, hr⟩ := root_get hs hl
    rw [hx, hr]
    simp only [some_bind]
    cases ltB t.States 2 <;> cases gtB t.States 8 <;> cases hoodOk t.Hood <;> cases gtB (lenL t.Nodes) 4096 <;> cases eqB x.Level (lenL t.Hood) <;> cases anyB (badN t) t.Nodes 0 <;> rfl
end
end Go.Proofs.YtgfhhbjnjccomaaGreatDoor

namespace Go.Proofs.YtgfhhbjnjccomaaGreatDoor
open Go.AM Go.Proofs

def walkV (t : Tree) : List Int → Int → Option Int
  | [], k => some k
  | s :: l, k => (idx t.Nodes k).bind fun x => (idx x.Next s).bind fun k' => walkV t l k'
theorem run_walk (t : Tree) : ∀ (l : List Int) (i : Nat) (k : Int), runL (fun _ s k => (idx t.Nodes k).bind fun x => (idx x.Next s).bind fun k' => some (.next k')) (fun k => some k) l i k = walkV t l k
  | [], _, _ => rfl
  | s :: l, i, k => by
    rw [runL, walkV]
    cases idx t.Nodes k with
    | none => rfl
    | some x =>
      simp only [some_bind]
      cases idx x.Next s with
      | none => rfl
      | some k' => exact run_walk t l (i + 1) k'
theorem value_eq {t : Tree} {l : List Int} (hl : l.length < 1099511627776) : m_tree_value t l = walkV t l (isub .i64 (lenL t.Nodes) 1) := by
  unfold m_tree_value
  have h := loop_run (b := b_tree_value_1 t l) (fun i (k : Int) => (k, (i : Int))) l (fun _ s k => (idx t.Nodes k).bind fun x => (idx x.Next s).bind fun k' => some (.next k')) (fun k => some k) hl
    (fun i x k hx => by
      unfold b_tree_value_1
      dsimp only
      rw [ltB_nat, decide_eq_true (getE_lt hx), cond_true, idx_nat, hx, up_nat (Nat.lt_trans (getE_lt hx) hl)]
      simp only [some_bind]
      cases idx t.Nodes k with
      | none => rfl
      | some y =>
        simp only [some_bind]
        cases idx y.Next x <;> rfl)
    (fun k => by
      unfold b_tree_value_1
      dsimp only
      rw [ltB_nat, decide_eq_false (Nat.lt_irrefl _)]
      rfl) (isub .i64 (lenL t.Nodes) 1)
  rw [show ((0 : Nat) : Int) = 0 from rfl] at h
  rw [h, run_walk]
  cases walkV t l (isub .i64 (lenL t.Nodes) 1) <;> rfl
theorem valueR_eq {t : Tree} {l : List Int} (hl : l.length < 1099511627776) : m_R12_Value t l = walkV t l (isub .i64 (lenL t.Nodes) 1) := by
  unfold m_R12_Value
  have h := loop_run (b := b_R12_Value_1 t l) (fun i (k : Int) => (k, (i : Int))) l (fun _ s k => (idx t.Nodes k).bind fun x => (idx x.Next s).bind fun k' => some (.next k')) (fun k => some k) hl
    (fun i x k hx => by
      unfold b_R12_Value_1
      dsimp only
      rw [ltB_nat, decide_eq_true (getE_lt hx), cond_true, idx_nat, hx, up_nat (Nat.lt_trans (getE_lt hx) hl)]
      simp only [some_bind]
      cases idx t.Nodes k with
      | none => rfl
      | some y =>
        simp only [some_bind]
        cases idx y.Next x <;> rfl)
    (fun k => by
      unfold b_R12_Value_1
      dsimp only
      rw [ltB_nat, decide_eq_false (Nat.lt_irrefl _)]
      rfl) (isub .i64 (lenL t.Nodes) 1)
  rw [show ((0 : Nat) : Int) = 0 from rfl] at h
  rw [h, run_walk]
  cases walkV t l (isub .i64 (lenL t.Nodes) 1) <;> rfl

/-! ### what a tree that is right gives -/
structure Ok (t : Tree) : Prop where
  s2 : 2 ≤ t.States
  s8 : t.States ≤ 8
  hood : hoodOk t.Hood = true
  h1 : 1 ≤ t.Hood.length
  h25 : t.Hood.length ≤ 25
  n1 : 1 ≤ t.Nodes.length
  bad : anyB (badN t) t.Nodes 0 = false
  root : rootOk t = true
theorem ok_of {t : Tree} (h : treeOk t = true) : Ok t := by
  unfold treeOk at h
  simp only [Bool.and_eq_true, Bool.not_eq_true', Bool.or_eq_false_iff, Bool.not_eq_false'] at h
  obtain ⟨⟨h1, h2, h3, h4, h5⟩, h6, h7⟩ := h
  have h3' := h3
  unfold hoodOk at h3'
  simp only [Bool.and_eq_true, Bool.not_eq_true', Bool.or_eq_false_iff] at h3'
  have e1 := of_decide_eq_false h1
  have e2 := of_decide_eq_false h2
  have e3 := of_decide_eq_false h3'.1.1
  have e4 := of_decide_eq_false h3'.1.2
  have e5 := of_decide_eq_false h4
  unfold lenL at e3 e4 e5
  exact ⟨by omega, by omega, h3, by omega, by omega, by omega, h6, h7⟩
theorem Ok.node {t : Tree} (h : Ok t) {n : Nat} {x : Node} (hx : t.Nodes[n]? = some x) : 1 ≤ x.Level ∧ x.Level ≤ t.Hood.length ∧ (x.Next.length : Int) = t.States ∧ ∀ (j : Nat) (k : Int), x.Next[j]? = some k → badE t (n : Nat) x k = false := by
  have hb := anyB_false h.bad n x hx
  rw [Nat.zero_add] at hb
  unfold badN at hb
  simp only [Bool.or_eq_false_iff] at hb
  obtain ⟨h1, h2, h3, h4⟩ := hb
  have e1 := of_decide_eq_false h1
  have e2 := of_decide_eq_false h2
  have e3 : lenL x.Next = t.States := by simpa [neB] using h3
  unfold lenL at e2 e3
  exact ⟨by omega, by omega, e3, fun j k hk => by simpa using anyB_false h4 j k hk⟩
theorem Ok.elem {t : Tree} (h : Ok t) {n : Nat} {x : Node} (hx : t.Nodes[n]? = some x) {j : Nat} {k : Int} (hk : x.Next[j]? = some k) : 0 ≤ k ∧ (x.Level = 1 → k < t.States) ∧ (x.Level ≠ 1 → ∃ (m : Nat) (y : Node), k = m ∧ m < n ∧ t.Nodes[m]? = some y ∧ y.Level = x.Level - 1) := by
  obtain ⟨h1, h2, h3, h4⟩ := h.node hx
  have hb := h4 j k hk
  unfold badE at hb
  simp only [Bool.or_eq_false_iff, Bool.and_eq_false_imp] at hb
  obtain ⟨e1, e2, e3⟩ := hb
  have f1 := of_decide_eq_false e1
  refine ⟨by omega, fun hl => ?_, fun hl => ?_⟩
  · have := e2 (by simp [eqB, hl])
    have := of_decide_eq_false this
    omega
  · have hg := e3 (by simp only [gtB, decide_eq_true_eq]; omega)
    have f2 := of_decide_eq_false hg.1
    have hlt : k.toNat < t.Nodes.length := by
      have := getE_lt hx
      omega
    have hlo := hg.2
    unfold lowOk at hlo
    rw [List.getElem?_eq_getElem hlt] at hlo
    refine ⟨k.toNat, _, by omega, by omega, List.getElem?_eq_getElem hlt, ?_⟩
    have h25 := h.h25
    rw [isub_in (by omega)] at hlo
    simpa [neB] using hlo
theorem Ok.zero {t : Tree} (h : Ok t) {n : Nat} {x : Node} (hx : t.Nodes[n]? = some x) {s : Int} (h0 : 0 ≤ s) (h1 : s < t.States) : ∃ k, idx x.Next s = some k ∧ x.Next[s.toNat]? = some k := by
  obtain ⟨_, _, h3, _⟩ := h.node hx
  have hlt : s.toNat < x.Next.length := by omega
  exact ⟨_, by rw [idx_int _ h0]; exact List.getElem?_eq_getElem hlt, List.getElem?_eq_getElem hlt⟩
/-- Every list of states leads somewhere. -/
theorem walk_total {t : Tree} (h : Ok t) : ∀ (l : List Int) (n : Nat) (x : Node), t.Nodes[n]? = some x → x.Level = l.length → (∀ s ∈ l, 0 ≤ s ∧ s < t.States) → ∃ v, walkV t l (n : Nat) = some v ∧ 0 ≤ v ∧ v < t.States
  | [], n, x, hx, hl, _ => by
    have := (h.node hx).1
    simp at hl
    omega
  | s :: l, n, x, hx, hl, hs => by
    obtain ⟨h0, h1⟩ := hs s (by simp)
    obtain ⟨k, hk, hk'⟩ := h.zero hx h0 h1
    rw [walkV, idx_nat, hx]
    simp only [some_bind, hk]
    obtain ⟨g0, g1, g2⟩ := h.elem hx hk'
    by_cases hx1 : x.Level = 1
    · have : l = [] := by
        cases l with
        | nil => rfl
        | cons _ _ => simp at hl; omega
      subst this
      exact ⟨k, rfl, g0, g1 hx1⟩
    · obtain ⟨m, y, rfl, hm, hy, hyl⟩ := g2 hx1
      exact walk_total h l m y hy (by simp at hl; omega) fun s' hs' => hs s' (by simp [hs'])
theorem value_total {t : Tree} (h : Ok t) (hs : Sz t) {l : List Int} (hl : l.length = t.Hood.length) (hb : ∀ s ∈ l, 0 ≤ s ∧ s < t.States) : ∃ v, walkV t l (isub .i64 (lenL t.Nodes) 1) = some v ∧ 0 ≤ v ∧ v < t.States := by
  have hr := h.root
  unfold rootOk at hr
  have hn := h.n1
  have hns := hs.nodes
  obtain ⟨m, hm⟩ : ∃ m, t.Nodes.length = m + 1 := ⟨t.Nodes.length - 1, by omega⟩
  rw [hm, Nat.add_sub_cancel] at hr
  have hlt : m < t.Nodes.length := by omega
  rw [List.getElem?_eq_getElem hlt] at hr
  unfold lenL
  rw [hm, dn_nat (by omega)]
  refine walk_total h l m _ (List.getElem?_eq_getElem hlt) ?_ hb
  have : (t.Nodes[m]).Level = lenL t.Hood := by simpa [eqB] using hr
  rw [this, hl]
  rfl

/-! ### zeros -/
def quietB (t : Tree) : Bool := treeOk t && (walkV t (List.replicate t.Hood.length 0) (isub .i64 (lenL t.Nodes) 1) == some 0)
theorem mk_hood {t : Tree} (h : Ok t) {α : Type} (z : α) : mkL 8 (lenL t.Hood) (lenL t.Hood) z = some (List.replicate t.Hood.length z) := by
  unfold mkL lenL
  have := h.h25
  rw [if_pos (by omega)]
  simp
theorem lenL_toNat {α : Type} (l : List α) : (lenL l).toNat = l.length := by simp [lenL]
theorem quiet_eq {t : Tree} (hs : Sz t) : m_tree_Quiet t = some (quietB t) := by
  unfold m_tree_Quiet quietB
  rw [tree_eq hs]
  simp only [some_bind]
  cases ht : treeOk t with
  | false => rfl
  | true =>
    have h := ok_of ht
    have h25 := h.h25
    rw [mk_hood h, lenL_toNat, value_eq (by simp; omega)]
    obtain ⟨v, hv, _⟩ := value_total h hs (l := List.replicate t.Hood.length 0) (by simp) (fun s hs => by
      have := List.eq_of_mem_replicate hs
      have := h.s2
      omega)
    rw [hv]
    simp [eqB]
theorem quietR_eq {t : Tree} (hs : Sz t) : m_R12_Quiet t = some (quietB t) := by
  unfold m_R12_Quiet quietB m_R12_Eval
  rw [treeR_eq hs]
  simp only [some_bind]
  cases ht : treeOk t with
  | false => rfl
  | true =>
    have h := ok_of ht
    have h25 := h.h25
    have h2 := h.s2
    rw [mk_hood h, lenL_toNat, valueR_eq (by simp; omega)]
    have hz : ∀ s ∈ List.replicate t.Hood.length (0 : Int), 0 ≤ s ∧ s < t.States := fun s hs => by
      have := List.eq_of_mem_replicate hs
      omega
    obtain ⟨v, hv, _⟩ := value_total h hs (l := List.replicate t.Hood.length 0) (by simp) hz
    rw [hv]
    have hl : neB (lenL (List.replicate t.Hood.length (0 : Int))) (lenL t.Hood) = false := by simp [neB, lenL]
    rw [hl]
    have hlen : (List.replicate t.Hood.length (0 : Int)).length < 1099511627776 := by simp; omega
    rw [loop_any (List.replicate t.Hood.length (0 : Int)) (fun _ _ => false) (0, 10) hlen (fun i x hx => by
        have hx0 := hz x (List.mem_of_getElem? hx)
        unfold b_R12_Eval_1
        dsimp only
        rw [ltB_nat, decide_eq_true (getE_lt hx), cond_true, idx_nat, hx, up_nat (Nat.lt_trans (getE_lt hx) hlen)]
        have e1 : ltB x 0 = false := decide_eq_false (by omega)
        have e2 : geB x t.States = false := decide_eq_false (by omega)
        simp only [some_bind, e1, e2, cond_false]) (by
        unfold b_R12_Eval_1
        dsimp only
        rw [ltB_nat, decide_eq_false (Nat.lt_irrefl _)]
        rfl)]
    rw [anyB_of_false fun _ _ _ => rfl]
    simp [eqB, notB]
end Go.Proofs.YtgfhhbjnjccomaaGreatDoor

namespace Go.Proofs.YtgfhhbjnjccomaaGreatDoor
open Go.AM Go.Proofs

/-! ### symmetries that are given -/
def seenOf (l : List Int) (i : Nat) : List Bool := (List.range 8).map fun (c : Nat) => (l.take i).contains (c : Int)
theorem seen_len (l : List Int) (i : Nat) : (seenOf l i).length = 8 := by simp [seenOf]
theorem seen_get (l : List Int) (i : Nat) {c : Nat} (h : c < 8) : (seenOf l i)[c]? = some ((l.take i).contains (c : Int)) := by
  simp [seenOf, List.getElem?_range h]
theorem aidx_seen {l : List Int} {i : Nat} {k : Int} (h0 : ltB k 0 = false) (h8 : geB k 8 = false) : aidx 8 (seenOf l i) k = some ((l.take i).contains k) := by
  have e0 := of_decide_eq_false h0
  have e8 := of_decide_eq_false h8
  have hk : aok 8 k = true := decide_eq_true ⟨by omega, by omega⟩
  unfold aidx
  rw [hk, cond_true, seen_get l i (by omega), show ((k.toNat : Nat) : Int) = k by omega]
theorem seen_set {l : List Int} {i : Nat} {k : Int} (hk : l[i]? = some k) (h0 : ltB k 0 = false) (h8 : geB k 8 = false) : (seenOf l i).set k.toNat true = seenOf l (i + 1) := by
  have e0 := of_decide_eq_false h0
  have e8 := of_decide_eq_false h8
  apply List.ext_getElem?
  intro c
  by_cases hc : c < 8
  · rw [seen_get l (i + 1) hc, List.take_add_one, hk]
    by_cases he : k.toNat = c
    · subst he
      rw [List.getElem?_set_self (by rw [seen_len]; exact hc), show ((k.toNat : Nat) : Int) = k by omega]
      simp
    · rw [List.getElem?_set_ne he, seen_get l i hc]
      have : ((c : Nat) : Int) ≠ k := by omega
      simp [this]
  · rw [List.getElem?_eq_none (by rw [List.length_set, seen_len]; omega), List.getElem?_eq_none (by rw [seen_len]; omega)]
def oddB (k : Int) : Bool := eqB (k.tmod 2) 1
def badS (x : Problem) (i : Nat) (k : Int) : Bool := ltB k 0 || (geB k 8 || ((x.Syms.take i).contains k || (oddB k && neB x.W x.H)))
theorem irem2 (k : Int) : irem k 2 = some (k.tmod 2) := by unfold irem; rw [if_neg (by decide)]
theorem fits_eq {x : Problem} (hx : x.Syms.length < 1099511627776) : m_problem_fits x = some (!anyB (badS x) x.Syms 0) := by
  unfold m_problem_fits
  have h := loop_anyE (b := b_problem_fits_1 x) (fun i => ((i : Int), seenOf x.Syms i)) x.Syms (badS x) false hx
    (fun i k hk => by
      unfold b_problem_fits_1 badS oddB
      dsimp only
      rw [ltB_nat, decide_eq_true (getE_lt hk), cond_true, idx_nat, hk, up_nat (Nat.lt_trans (getE_lt hk) hx)]
      simp only [some_bind, irem2]
      cases h0 : ltB k 0 with
      | true => rfl
      | false =>
        cases h8 : geB k 8 with
        | true => rfl
        | false =>
          rw [aidx_seen h0 h8, seen_set hk h0 h8]
          simp only [some_bind]
          cases (x.Syms.take i).contains k <;> cases eqB (k.tmod 2) 1 <;> cases neB x.W x.H <;> rfl)
    (by
      unfold b_problem_fits_1
      dsimp only
      rw [ltB_nat, decide_eq_false (Nat.lt_irrefl _)]
      rfl)
  rw [show ((((0 : Nat) : Int), seenOf x.Syms 0) : Int × List Bool) = (0, [false, false, false, false, false, false, false, false]) from by
    simp [seenOf, List.range, List.range.loop]] at h
  rw [h]
  cases anyB (badS x) x.Syms 0 <;> rfl
theorem any_contains (l : List Int) (k : Int) : ∀ i : Nat, anyB (fun _ y => eqB y k) l i = l.contains k := by
  induction l with
  | nil => intro i; rfl
  | cons y l ih =>
    intro i
    rw [anyB, ih]
    simp only [List.contains_cons, eqB]
    rw [show (y == k) = (k == y) from Bool.eq_iff_iff.2 (by simp only [beq_iff_eq]; exact ⟨Eq.symm, Eq.symm⟩)]
theorem box2_eq {x : Problem} {i : Nat} {k : Int} (hx : x.Syms.length < 1099511627776) (hi : i ≤ x.Syms.length) : loopN (b_R44_Box_2 x (i : Nat) k) loopF 0 = some (bif (x.Syms.take i).contains k then .inl 2 else .inr ()) := by
  have hl : (x.Syms.take i).length = i := by simp; omega
  rw [← any_contains _ _ 0]
  refine loop_any (x.Syms.take i) (fun _ y => eqB y k) 2 (by omega) (fun j y hy => ?_) ?_
  · have hj : j < i := by have := getE_lt hy; omega
    unfold b_R44_Box_2
    dsimp only
    rw [show ltB (j : Int) (i : Int) = true from decide_eq_true (by omega), cond_true, idx_nat, show x.Syms[j]? = some y by rw [List.getElem?_take, if_pos hj] at hy; exact hy, up_nat (by omega)]
    simp only [some_bind]
    cases eqB y k <;> rfl
  · unfold b_R44_Box_2
    dsimp only
    rw [hl, show ltB (i : Int) (i : Int) = false from decide_eq_false (by omega)]
    rfl
theorem box1_eq {x : Problem} (hx : x.Syms.length < 1099511627776) : loopN (b_R44_Box_1 x) loopF 0 = some (bif anyB (badS x) x.Syms 0 then .inl 2 else .inr ()) := by
  refine loop_any x.Syms (badS x) 2 hx (fun i k hk => ?_) ?_
  · unfold b_R44_Box_1 badS oddB
    dsimp only
    rw [ltB_nat, decide_eq_true (getE_lt hk), cond_true, idx_nat, hk, up_nat (Nat.lt_trans (getE_lt hk) hx)]
    simp only [some_bind, irem2, box2_eq hx (Nat.le_of_lt (getE_lt hk))]
    rw [show gtB k 7 = geB k 8 from decide_eq_decide.2 ⟨fun h => by omega, fun h => by omega⟩]
    cases ltB k 0 <;> cases geB k 8 <;> cases (x.Syms.take i).contains k <;> cases eqB (k.tmod 2) 1 <;> cases neB x.W x.H <;> rfl
  · unfold b_R44_Box_1
    dsimp only
    rw [ltB_nat, decide_eq_false (Nat.lt_irrefl _)]
    rfl

/-! ### the check -/
theorem ltB_min (a b c : Int) : ltB (imin a b) c = (ltB a c || ltB b c) := by
  unfold ltB imin
  rw [Bool.eq_iff_iff]
  simp only [decide_eq_true_eq, Bool.or_eq_true]
  split <;> omega
theorem gtB_max (a b c : Int) : gtB (imax a b) c = (gtB a c || gtB b c) := by
  unfold gtB imax
  rw [Bool.eq_iff_iff]
  simp only [decide_eq_true_eq, Bool.or_eq_true]
  split <;> omega
def probE (x : Problem) : Int :=
  bif ltB x.W 1 || ltB x.H 1 then 2 else bif gtB x.W 16 || (gtB x.H 16 || gtB (imul .i64 x.W x.H) 16) then 6 else
    bif ltB x.Gens 1 || (gtB x.Gens 6 || (ltB x.DX (-24) || (gtB x.DX 24 || (ltB x.DY (-24) || (gtB x.DY 24 || anyB (badS x) x.Syms 0))))) then 2 else 0
theorem first_eq {x : Problem} (hx : x.Syms.length < 1099511627776) : m_problem_first x = some (probE x) := by
  unfold m_problem_first probE
  rw [fits_eq hx, ltB_min, gtB_max, gtB_max, ltB_min]
  simp only [some_bind, bif_some, bif_some_t, notB, Bool.not_not]
  cases ltB x.W 1 || ltB x.H 1 with
  | true => rfl
  | false =>
    rw [Bool.or_assoc]
    cases gtB x.W 16 || (gtB x.H 16 || gtB (imul .i64 x.W x.H) 16) with
    | true => rfl
    | false =>
      cases ltB x.Gens 1 <;> cases gtB x.Gens 6 <;> cases ltB x.DX (-24) <;> cases gtB x.DX 24 <;> cases ltB x.DY (-24) <;> cases gtB x.DY 24 <;> cases anyB (badS x) x.Syms 0 <;> rfl
theorem box_eq {x : Problem} (hx : x.Syms.length < 1099511627776) : m_R44_Box x = some (probE x) := by
  unfold m_R44_Box probE
  rw [box1_eq hx]
  simp only [some_bind, bif_some, bif_some_t]
  cases ltB x.W 1 || ltB x.H 1 with
  | true => rfl
  | false =>
    cases gtB x.W 16 || (gtB x.H 16 || gtB (imul .i64 x.W x.H) 16) with
    | true => rfl
    | false =>
      cases ltB x.Gens 1 <;> cases gtB x.Gens 6 <;> cases ltB x.DX (-24) <;> cases gtB x.DX 24 <;> cases ltB x.DY (-24) <;> cases gtB x.DY 24 <;> cases anyB (badS x) x.Syms 0 <;> rfl
theorem patR_nil : m_pattern_Right [] = some true := by
  unfold m_pattern_Right
  rw [loop_any (b := b_pattern_Right_1 []) ([] : List Unit) (fun _ _ => false) false (by simp) (fun i x hx => by simp at hx) (by rfl)]
  rfl
theorem patT_nil : m_pattern_Top [] = some 0 := by
  unfold m_pattern_Top
  have h := loop_run (b := b_pattern_Top_1 []) (fun i (n : Int) => (n, (i : Int))) [] (fun _ (x : Cell) n => some (.next (imax n x.S))) (fun n => some n) (by simp) (fun i x s hx => by simp at hx) (fun n => by rfl) 0
  rw [show ((0 : Nat) : Int) = 0 from rfl] at h
  rw [h]
  rfl
def chkE (t : Tree) (x : Problem) : Int := bif quietB t then probE x else 11
theorem run0_eq {t : Tree} (hs : Sz t) : m_direct_Run t [] 0 = some ([], bif quietB t then 0 else 11) := by
  unfold m_direct_Run m_direct_check
  rw [quiet_eq hs, patR_nil, patT_nil]
  simp only [some_bind]
  cases hq : quietB t with
  | false => rfl
  | true =>
    have ht : treeOk t = true := by
      unfold quietB at hq
      simp only [Bool.and_eq_true] at hq
      exact hq.1
    have h2 := (ok_of ht).s2
    have hg : geB 0 t.States = false := decide_eq_false (by omega)
    rw [hg]
    have hl : loopN (b_direct_Run_1 t [] 0) loopF () = some () := by
      have hF : ∃ k, loopF = k + 1 := ⟨1099511627775, rfl⟩
      obtain ⟨k, hk⟩ := hF
      rw [hk, loopN]
      rfl
    rw [hl]
    rfl
theorem check_eq {t : Tree} {x : Problem} (hs : Sz t) (hx : x.Syms.length < 1099511627776) : m_problem_Check t x = some (chkE t x) := by
  unfold m_problem_Check chkE
  rw [run0_eq hs, first_eq hx]
  cases quietB t <;> rfl
theorem checkR_eq {t : Tree} {x : Problem} (hs : Sz t) (hx : x.Syms.length < 1099511627776) : m_R44_Check t x = some (chkE t x) := by
  unfold m_R44_Check chkE
  rw [quietR_eq hs, box_eq hx]
  cases quietB t <;> rfl
end Go.Proofs.YtgfhhbjnjccomaaGreatDoor

namespace Go.Proofs.YtgfhhbjnjccomaaGreatDoor
open Go.AM Go.Proofs

/-! ### comparisons of a thing with itself -/
theorem sameB_refl {l : List Bool} (hl : l.length < 1099511627776) : m_R17_SameBools l l = some true := by
  unfold m_R17_SameBools
  rw [show neB (lenL l) (lenL l) = false from by simp [neB], cond_false, loop_any l (fun _ _ => false) false hl (fun i x hx => by
    unfold b_R17_SameBools_1
    dsimp only
    rw [ltB_nat, decide_eq_true (getE_lt hx), cond_true, idx_nat, hx, up_nat (Nat.lt_trans (getE_lt hx) hl)]
    cases x <;> rfl) (by
    unfold b_R17_SameBools_1
    dsimp only
    rw [ltB_nat, decide_eq_false (Nat.lt_irrefl _)]
    rfl), anyB_of_false fun _ _ _ => rfl]
  rfl
theorem sameC_refl {l : List Cell} (hl : l.length < 1099511627776) : m_R05_Same l l = some true := by
  unfold m_R05_Same m_R05_Compare
  rw [loop_any l (fun _ _ => false) (0 : Int) hl (fun i x hx => by
    unfold b_R05_Compare_1
    dsimp only
    rw [ltB_nat, decide_eq_true (getE_lt hx), cond_true, up_nat (Nat.lt_trans (getE_lt hx) hl)]
    simp only [some_bind, cond_true, idx_nat, hx]
    rw [show neB x.Y x.Y = false from by simp [neB], show neB x.X x.X = false from by simp [neB], show neB x.S x.S = false from by simp [neB]]
    rfl) (by
    unfold b_R05_Compare_1
    dsimp only
    rw [ltB_nat, decide_eq_false (Nat.lt_irrefl _)]
    rfl), anyB_of_false fun _ _ _ => rfl]
  simp only [cond_false, some_bind, m_R05_order]
  rw [show ltB (lenL l) (lenL l) = false from decide_eq_false (by omega), show gtB (lenL l) (lenL l) = false from decide_eq_false (by omega)]
  rfl

/-! ### patterns that are right -/
def placeB (x y : Int) : Bool := geB x (-1048576) && (leB x 1048576 && (geB y (-1048576) && leB y 1048576))
def befC (a b : Cell) : Bool := befP ⟨a.X, a.Y⟩ ⟨b.X, b.Y⟩
def badC (l : List Cell) (i : Nat) (x : Cell) : Bool :=
  !placeB x.X x.Y || (ltB x.S 1 || (geB x.S 8 || match i with
    | 0 => false
    | j + 1 => match l[j]? with
      | some y => !befC y x
      | none => false))
def patOk (l : List Cell) : Bool := leB (lenL l) 5000 && !anyB (badC l) l 0
theorem imax_is (a b : Int) : (imax a b = a ∨ imax a b = b) ∧ a ≤ imax a b ∧ b ≤ imax a b := by
  unfold imax
  by_cases h : b > a
  · rw [if_pos h]; exact ⟨.inr rfl, by omega, by omega⟩
  · rw [if_neg h]; exact ⟨.inl rfl, by omega, by omega⟩
theorem imin_is (a b : Int) : (imin a b = a ∨ imin a b = b) ∧ imin a b ≤ a ∧ imin a b ≤ b := by
  unfold imin
  by_cases h : b < a
  · rw [if_pos h]; exact ⟨.inr rfl, by omega, by omega⟩
  · rw [if_neg h]; exact ⟨.inl rfl, by omega, by omega⟩
theorem gtB_not (a b : Int) : gtB a b = !leB a b := by
  unfold gtB leB
  by_cases h : a ≤ b
  · rw [decide_eq_true h, decide_eq_false (by omega)]; rfl
  · rw [decide_eq_false h, decide_eq_true (by omega)]; rfl
theorem placed_eq (p : Point) : m_pattern_placed p = some (placeB p.X p.Y) := by
  unfold m_pattern_placed placeB
  simp only [bif_some, bif_some_f, some_bind]
  congr 1
  rw [Bool.eq_iff_iff]
  have e1 := imax_is p.X p.Y
  have e2 := imin_is p.X p.Y
  simp only [leB, geB, Bool.and_eq_true, decide_eq_true_eq]
  constructor
  · rintro ⟨h1, h2⟩
    refine ⟨?_, ?_, ?_, ?_⟩ <;> omega
  · rintro ⟨h1, h2, h3, h4⟩
    refine ⟨?_, ?_⟩ <;> omega
theorem placeR_eq (x y : Int) : m_R05_Place x y = some (placeB x y) := by
  unfold m_R05_Place placeB
  simp only [bif_some, bif_some_f, some_bind]
theorem beforeR_eq (a b : Cell) : m_R05_before a b = some (befC a b) := by
  simp only [m_R05_before, befC, befP, ltB, eqB, bif_some, some_bind, bif_some_t, bif_some_f]
theorem order_eq (a b : Cell) : ∃ c, m_pattern_order a b = some c ∧ geB c 0 = !befC a b := by
  obtain ⟨c, h1, h2⟩ := comp_eq ⟨a.X, a.Y⟩ ⟨b.X, b.Y⟩
  refine ⟨c, ?_, h2⟩
  simp only [m_pattern_order, m_pattern_at, some_bind, h1]
theorem pat_eq {l : List Cell} (hl : l.length < 1099511627776) : m_pattern_Right l = some (patOk l) := by
  unfold m_pattern_Right patOk
  rw [loop_any l (badC l) false hl]
  · rw [gtB_not]
    cases leB (lenL l) 5000 <;> cases anyB (badC l) l 0 <;> rfl
  · intro i x hx
    unfold b_pattern_Right_1
    dsimp only
    rw [ltB_nat, decide_eq_true (getE_lt hx), cond_true, idx_nat, hx, up_nat (Nat.lt_trans (getE_lt hx) hl)]
    simp only [some_bind, m_pattern_at, placed_eq, notB]
    unfold badC
    cases i with
    | zero => simp only [gtB_zero, cond_false, bif_some, some_bind, bif_some_t]
    | succ j =>
      obtain ⟨y, hy⟩ := getE_prev hx
      obtain ⟨c, hc, hg⟩ := order_eq y x
      simp only [gtB_succ, cond_true, dn_nat (Nat.lt_trans (Nat.lt_of_succ_lt (getE_lt hx)) hl), idx_nat, hy, some_bind, hc, hg, bif_some, bif_some_t]
  · unfold b_pattern_Right_1
    dsimp only
    rw [ltB_nat, decide_eq_false (Nat.lt_irrefl _)]
    rfl
theorem patR_eq {l : List Cell} (hl : l.length < 1099511627776) : m_R05_Right l = some (patOk l) := by
  unfold m_R05_Right patOk
  rw [loop_any l (badC l) false hl]
  · cases leB (lenL l) 5000 <;> cases anyB (badC l) l 0 <;> rfl
  · intro i x hx
    unfold b_R05_Right_1
    dsimp only
    rw [ltB_nat, decide_eq_true (getE_lt hx), cond_true, idx_nat, hx, up_nat (Nat.lt_trans (getE_lt hx) hl)]
    simp only [some_bind, placeR_eq, notB]
    unfold badC
    cases i with
    | zero => simp only [gtB_zero, cond_false, bif_some, some_bind, bif_some_t]
    | succ j =>
      obtain ⟨y, hy⟩ := getE_prev hx
      simp only [gtB_succ, cond_true, dn_nat (Nat.lt_trans (Nat.lt_of_succ_lt (getE_lt hx)) hl), idx_nat, hy, some_bind, beforeR_eq, bif_some, bif_some_t]
  · unfold b_R05_Right_1
    dsimp only
    rw [ltB_nat, decide_eq_false (Nat.lt_irrefl _)]
    rfl

/-! ### bits of states -/
def bitsOf (s : Int) : Int := bif eqB s 2 then 1 else bif eqB s 3 || eqB s 4 then 2 else bif gtB s 4 && leB s 8 then 3 else 0
theorem bits_eq (s : Int) : m_lower_Bits s = some (bitsOf s) := by
  unfold m_lower_Bits bitsOf
  cases eqB s 2 <;> cases eqB s 3 <;> cases eqB s 4 <;> cases gtB s 4 <;> cases leB s 8 <;> rfl
theorem bitsR_eq (s : Int) : m_R18_Bits s = some (bitsOf s) := by
  unfold m_R18_Bits bitsOf
  rw [show geB s 5 = gtB s 4 from decide_eq_decide.2 ⟨fun h => by omega, fun h => by omega⟩]
  cases eqB s 2 <;> cases eqB s 3 <;> cases eqB s 4 <;> cases gtB s 4 <;> cases leB s 8 <;> rfl
/-- Of a rule's states: as many bits as are wanted, and no more than three. -/
theorem bits_in {s : Int} (h2 : 2 ≤ s) (h8 : s ≤ 8) : (bitsOf s = 1 ∧ s ≤ 2) ∨ (bitsOf s = 2 ∧ s ≤ 4) ∨ (bitsOf s = 3 ∧ s ≤ 8) := by
  unfold bitsOf eqB gtB leB
  by_cases e2 : s = 2
  · subst e2; exact .inl ⟨rfl, by omega⟩
  · by_cases e3 : s = 3
    · subst e3; exact .inr (.inl ⟨rfl, by omega⟩)
    · by_cases e4 : s = 4
      · subst e4; exact .inr (.inl ⟨rfl, by omega⟩)
      · refine .inr (.inr ⟨?_, h8⟩)
        have : s > 4 := by omega
        rw [beq_false_of_ne e2, beq_false_of_ne e3, beq_false_of_ne e4, decide_eq_true this, decide_eq_true h8]
        rfl
theorem bind_id {α : Type} (o : Option α) : (o.bind fun n => some n) = o := by cases o <;> rfl
def stv : List Bool → Int
  | [] => 0
  | b :: l => 2 * stv l + (bif b then 1 else 0)
theorem state_run {l : List Bool} (hl : l.length ≤ 8) : m_lower_State l = runL (fun i x n => ((bif x then (ishl .i64 1 (i : Nat)).bind fun n1 => some (ior .i64 n n1) else some n).bind fun n1 => some (.next n1) : Option (Lp Int Int))) (fun n => some n) l 0 0 := by
  unfold m_lower_State
  have hlen : l.length < 1099511627776 := by omega
  have h := loop_run (b := b_lower_State_1 l) (fun i (n : Int) => (n, (i : Int))) l (fun i x n => ((bif x then (ishl .i64 1 (i : Nat)).bind fun n1 => some (ior .i64 n n1) else some n).bind fun n1 => some (.next n1) : Option (Lp Int Int))) (fun n => some n) hlen
    (fun i x n hx => by
      unfold b_lower_State_1
      dsimp only
      rw [ltB_nat, decide_eq_true (getE_lt hx), cond_true, idx_nat, hx, up_nat (Nat.lt_trans (getE_lt hx) hlen)]
      simp only [some_bind]
      cases x with
      | false => rfl
      | true =>
        simp only [cond_true]
        cases ishl .i64 1 (i : Nat) <;> rfl)
    (fun n => by
      unfold b_lower_State_1
      dsimp only
      rw [ltB_nat, decide_eq_false (Nat.lt_irrefl _)]
      rfl) 0
  rw [show ((0 : Nat) : Int) = 0 from rfl] at h
  rw [show gtB (lenL l) 8 = false from decide_eq_false (by unfold lenL; omega), cond_false, h]
  exact bind_id _
theorem state1 (a : Bool) : m_lower_State [a] = some (stv [a]) := by
  rw [state_run (by simp)]
  cases a <;> decide
theorem state2 (a b : Bool) : m_lower_State [a, b] = some (stv [a, b]) := by
  rw [state_run (by simp)]
  cases a <;> cases b <;> decide
theorem state3 (a b c : Bool) : m_lower_State [a, b, c] = some (stv [a, b, c]) := by
  rw [state_run (by simp)]
  cases a <;> cases b <;> cases c <;> decide
end Go.Proofs.YtgfhhbjnjccomaaGreatDoor

namespace Go.Proofs.YtgfhhbjnjccomaaGreatDoor
open Go.AM Go.Proofs

structure BoxOk (x : Problem) : Prop where
  w1 : 1 ≤ x.W
  w16 : x.W ≤ 16
  h1 : 1 ≤ x.H
  h16 : x.H ≤ 16
  a16 : x.W * x.H ≤ 16
theorem chk_ok {t : Tree} {x : Problem} (h : chkE t x = 0) : Ok t ∧ BoxOk x := by
  unfold chkE at h
  cases hq : quietB t with
  | false => rw [hq] at h; simp at h
  | true =>
    rw [hq, cond_true] at h
    have ht : treeOk t = true := by
      unfold quietB at hq
      simp only [Bool.and_eq_true] at hq
      exact hq.1
    refine ⟨ok_of ht, ?_⟩
    unfold probE at h
    cases h1 : ltB x.W 1 || ltB x.H 1 with
    | true => rw [h1] at h; simp at h
    | false =>
      rw [h1] at h
      cases h2 : gtB x.W 16 || (gtB x.H 16 || gtB (imul .i64 x.W x.H) 16) with
      | true => rw [h2] at h; simp at h
      | false =>
        simp only [Bool.or_eq_false_iff] at h1 h2
        have a1 := of_decide_eq_false h1.1
        have a2 := of_decide_eq_false h1.2
        have a3 := of_decide_eq_false h2.1
        have a4 := of_decide_eq_false h2.2.1
        have a5 := of_decide_eq_false h2.2.2
        have hm : x.W * x.H ≤ 16 * 16 := Int.mul_le_mul (by omega) (by omega) (by omega) (by omega)
        have hm0 : 0 ≤ x.W * x.H := Int.mul_nonneg (by omega) (by omega)
        rw [imul_in (by omega)] at a5
        exact ⟨by omega, by omega, by omega, by omega, by omega⟩
def area (x : Problem) : Nat := (x.W * x.H).toNat
theorem BoxOk.area {x : Problem} (h : BoxOk x) : imul .i64 x.W x.H = ((area x : Nat) : Int) ∧ area x ≤ 16 ∧ ((area x : Nat) : Int) = x.W * x.H := by
  have h0 : 0 ≤ x.W * x.H := Int.mul_nonneg (by have := h.w1; omega) (by have := h.h1; omega)
  have := h.a16
  have he : ((Go.Proofs.YtgfhhbjnjccomaaGreatDoor.area x : Nat) : Int) = x.W * x.H := by unfold Go.Proofs.YtgfhhbjnjccomaaGreatDoor.area; omega
  rw [imul_in (by omega)]
  exact ⟨he.symm, by omega, he⟩

def sub (l : List Bool) (b i : Nat) : List Bool := (l.drop (i * b)).take b
theorem sub_len {l : List Bool} {b n i : Nat} (hl : l.length = n * b) (hi : i < n) : (sub l b i).length = b := by
  have : (i + 1) * b ≤ n * b := Nat.mul_le_mul_right _ hi
  rw [Nat.add_mul, Nat.one_mul] at this
  simp only [sub, List.length_take, List.length_drop]
  omega
theorem sub_get {l : List Bool} {b i k : Nat} (hk : k < b) : (sub l b i)[k]? = l[i * b + k]? := by
  unfold sub
  rw [List.getElem?_take, if_pos hk, List.getElem?_drop]
theorem slc_eq {l : List Bool} {b n i : Nat} (hl : l.length = n * b) (hi : i < n) (hb : b ≤ 3) (hn : n ≤ 16) : slcL l (imul .i64 (i : Int) (b : Int)) (imul .i64 (iadd .i64 (i : Int) 1) (b : Int)) = some (sub l b i) := by
  have h1 : i * b ≤ 16 * 3 := Nat.mul_le_mul (by omega) hb
  have h2 : (i + 1) * b ≤ n * b := Nat.mul_le_mul_right _ hi
  have h3 : n * b ≤ 16 * 3 := Nat.mul_le_mul hn hb
  rw [up_nat (by omega), imul_in (by rw [← Int.natCast_mul]; omega), imul_in (by rw [← Int.natCast_mul]; omega), ← Int.natCast_mul, ← Int.natCast_mul]
  unfold slcL
  rw [if_pos (by rw [Nat.add_mul] at h2; rw [Nat.add_mul]; omega)]
  congr 1
  rw [Int.toNat_natCast, Int.toNat_natCast, List.drop_take, sub]
  congr 1
  rw [Nat.add_mul]
  omega
theorem state_eq {l : List Bool} (h : l.length = 1 ∨ l.length = 2 ∨ l.length = 3) : m_lower_State l = some (stv l) := by
  match l, h with
  | [a], _ => exact state1 a
  | [a, b], _ => exact state2 a b
  | [a, b, c], _ => exact state3 a b c
  | [], h => simp at h
  | _ :: _ :: _ :: _ :: _, h => simp at h

section
variable {t : Tree} {x : Problem} {l : List Bool} {p : List Cell} {b i k s : Int} {e : Bool} {n : Nat}
theorem dn_step (hk : geB k 0 = true) (he : idx l (iadd .i64 (imul .i64 i b) k) = some e) :
    loopN (b_R45_Pattern_2 t x l b i p) (n + 1) (s, k) = loopN (b_R45_Pattern_2 t x l b i p) n (bif e then iadd .i64 (imul .i64 2 s) 1 else imul .i64 2 s, isub .i64 k 1) := by
  rw [loopN]
  unfold b_R45_Pattern_2
  dsimp only
  rw [hk, cond_true, he]
  cases e <;> rfl
theorem dn_end (hk : geB k 0 = false) : loopN (b_R45_Pattern_2 t x l b i p) (n + 1) (s, k) = some s := by
  rw [loopN]
  unfold b_R45_Pattern_2
  dsimp only
  rw [hk]
  rfl
end
theorem dn_idx {l : List Bool} {b i k : Nat} (h : i * b + k ≤ 1000) : idx l (iadd .i64 (imul .i64 (i : Int) (b : Int)) (k : Int)) = l[i * b + k]? := by
  rw [imul_in (by rw [← Int.natCast_mul]; omega), ← Int.natCast_mul, iadd_in (by omega), ← Int.natCast_add, idx_nat]
theorem down_eq {t : Tree} {x : Problem} {l : List Bool} {p : List Cell} {b n i : Nat} (hl : l.length = n * b) (hi : i < n) (hn : n ≤ 16) (hb : b = 1 ∨ b = 2 ∨ b = 3) :
    loopN (b_R45_Pattern_2 t x l (b : Int) (i : Int) p) loopF (0, isub .i64 (b : Int) 1) = some (stv (sub l b i)) := by
  have hlen := sub_len hl hi
  obtain ⟨m, hm⟩ : ∃ m, loopF = m + 1 + 1 + 1 + 1 := ⟨1099511627772, rfl⟩
  have hib : i * b ≤ 16 * 3 := Nat.mul_le_mul (by omega) (by omega)
  have hg : ∀ k, k < b → idx l (iadd .i64 (imul .i64 (i : Int) (b : Int)) (k : Int)) = (sub l b i)[k]? := fun k hk => by
    rw [dn_idx (by omega), sub_get hk]
  rw [hm]
  generalize sub l b i = es at *
  rcases hb with rfl | rfl | rfl
  · match es, hlen with
    | [e0], _ =>
      rw [show isub .i64 ((1 : Nat) : Int) 1 = ((0 : Nat) : Int) from by decide, dn_step (by decide) (hg 0 (by omega)), dn_end (by decide)]
      cases e0 <;> decide
  · match es, hlen with
    | [e0, e1], _ =>
      rw [show isub .i64 ((2 : Nat) : Int) 1 = ((1 : Nat) : Int) from by decide, dn_step (by decide) (hg 1 (by omega)), show isub .i64 ((1 : Nat) : Int) 1 = ((0 : Nat) : Int) from by decide, dn_step (by decide) (hg 0 (by omega)), dn_end (by decide)]
      cases e0 <;> cases e1 <;> decide
  · match es, hlen with
    | [e0, e1, e2], _ =>
      rw [show isub .i64 ((3 : Nat) : Int) 1 = ((2 : Nat) : Int) from by decide, dn_step (by decide) (hg 2 (by omega)), show isub .i64 ((2 : Nat) : Int) 1 = ((1 : Nat) : Int) from by decide, dn_step (by decide) (hg 1 (by omega)), show isub .i64 ((1 : Nat) : Int) 1 = ((0 : Nat) : Int) from by decide, dn_step (by decide) (hg 0 (by omega)), dn_end (by decide)]
      cases e0 <;> cases e1 <;> cases e2 <;> decide

/-! ### the loop over the cells -/
def cellOf (x : Problem) (l : List Bool) (b i : Nat) : Cell := ⟨(i : Int).tmod x.W, (i : Int).tdiv x.W, stv (sub l b i)⟩
def patF (t : Tree) (x : Problem) (l : List Bool) (b : Nat) (_ : Nat) (i : Nat) (out : List Cell) : Option (Lp (List Cell) (((List Cell) × Int) ⊕ (List Cell))) :=
  bif geB (stv (sub l b i)) t.States then some (.out (.inl ([], 10))) else bif gtB (stv (sub l b i)) 0 then (appL 24 out [cellOf x l b i]).bind fun _ => some (.next (out ++ [cellOf x l b i])) else some (.next out)
theorem quo_in {x : Problem} (h : BoxOk x) {i : Nat} (hi : i < 16) : irem (i : Int) x.W = some ((i : Int).tmod x.W) ∧ iquo .i64 (i : Int) x.W = some ((i : Int).tdiv x.W) := by
  have h1 := h.w1
  unfold irem iquo
  rw [if_neg (by omega), if_neg (by omega)]
  have h2 : (i : Int).tdiv x.W = (i : Int) / x.W := Int.tdiv_eq_ediv_of_nonneg (by omega)
  have h3 : 0 ≤ (i : Int) / x.W := Int.ediv_nonneg (by omega) (by omega)
  have h4 : (i : Int) / x.W ≤ i := Int.ediv_le_self _ (by omega)
  exact ⟨rfl, by rw [i64_in (by omega)]⟩
section
variable {t : Tree} {x : Problem} {l : List Bool} {b : Nat}
theorem patLoop (h : BoxOk x) (hl : l.length = area x * b) (hb : b = 1 ∨ b = 2 ∨ b = 3) : loopN (b_unroll_Pattern_1 t x l (b : Int)) loopF (0, []) = runL (patF t x l b) (fun out => some (.inr out)) (List.range (area x)) 0 [] := by
  obtain ⟨ha, hn, _⟩ := h.area
  refine loop_run (b := b_unroll_Pattern_1 t x l (b : Int)) (fun i (out : List Cell) => ((i : Int), out)) (List.range (area x)) (patF t x l b) (fun out => some (.inr out)) (by simp; omega) (fun i j out hj => ?_) (fun out => ?_) []
  · have hi : i < area x := by have := getE_lt hj; simpa using this
    rw [List.getElem?_range hi] at hj
    cases hj
    unfold b_unroll_Pattern_1 patF
    dsimp only
    rw [ha, show ltB (i : Int) ((area x : Nat) : Int) = true from decide_eq_true (by omega), cond_true, slc_eq hl hi (by omega) hn, up_nat (by omega)]
    simp only [some_bind]
    rw [state_eq (by rw [sub_len hl hi]; exact hb)]
    simp only [some_bind, (quo_in h (show i < 16 by omega)).1, (quo_in h (show i < 16 by omega)).2]
    cases geB (stv (sub l b i)) t.States with
    | true => rfl
    | false =>
      cases gtB (stv (sub l b i)) 0 with
      | false => rfl
      | true =>
        simp only [cond_true, cond_false]
        show _ = mapE _ ((appL 24 out [cellOf x l b i]).bind _)
        unfold cellOf
        cases appL 24 out [(⟨(i : Int).tmod x.W, (i : Int).tdiv x.W, stv (sub l b i)⟩ : Cell)] <;> rfl
  · unfold b_unroll_Pattern_1
    dsimp only
    rw [ha, show ltB (((List.range (area x)).length : Nat) : Int) ((area x : Nat) : Int) = false from decide_eq_false (by simp)]
    rfl
theorem patLoopR (h : BoxOk x) (hl : l.length = area x * b) (hb : b = 1 ∨ b = 2 ∨ b = 3) : loopN (b_R45_Pattern_1 t x l (b : Int)) loopF (0, []) = runL (patF t x l b) (fun out => some (.inr out)) (List.range (area x)) 0 [] := by
  obtain ⟨ha, hn, _⟩ := h.area
  refine loop_run (b := b_R45_Pattern_1 t x l (b : Int)) (fun i (out : List Cell) => ((i : Int), out)) (List.range (area x)) (patF t x l b) (fun out => some (.inr out)) (by simp; omega) (fun i j out hj => ?_) (fun out => ?_) []
  · have hi : i < area x := by have := getE_lt hj; simpa using this
    rw [List.getElem?_range hi] at hj
    cases hj
    unfold b_R45_Pattern_1 patF
    dsimp only
    rw [ha, show ltB (i : Int) ((area x : Nat) : Int) = true from decide_eq_true (by omega), cond_true, down_eq hl hi hn hb, up_nat (by omega)]
    simp only [some_bind, (quo_in h (show i < 16 by omega)).1, (quo_in h (show i < 16 by omega)).2]
    cases geB (stv (sub l b i)) t.States with
    | true => rfl
    | false =>
      cases gtB (stv (sub l b i)) 0 with
      | false => rfl
      | true =>
        simp only [cond_true, cond_false]
        show _ = mapE _ ((appL 24 out [cellOf x l b i]).bind _)
        unfold cellOf
        cases appL 24 out [(⟨(i : Int).tmod x.W, (i : Int).tdiv x.W, stv (sub l b i)⟩ : Cell)] <;> rfl
  · unfold b_R45_Pattern_1
    dsimp only
    rw [ha, show ltB (((List.range (area x)).length : Nat) : Int) ((area x : Nat) : Int) = false from decide_eq_false (by simp)]
    rfl
end
end Go.Proofs.YtgfhhbjnjccomaaGreatDoor

namespace Go.Proofs.YtgfhhbjnjccomaaGreatDoor
open Go.AM Go.Proofs

section
variable {t : Tree} {x : Problem} {l : List Bool} {b : Nat}
def cellAt (x : Problem) (l : List Bool) (b i : Nat) : Option Cell := bif gtB (stv (sub l b i)) 0 then some (cellOf x l b i) else none
def highB (t : Tree) (l : List Bool) (b i : Nat) : Bool := geB (stv (sub l b i)) t.States
theorem pat_run : ∀ (js : List Nat) (i : Nat) (out : List Cell), out.length + js.length ≤ 1000 →
    runL (patF t x l b) (fun out => some (.inr out)) js i out = some (bif js.any (highB t l b) then .inl ([], 10) else .inr (out ++ js.filterMap (cellAt x l b)))
  | [], i, out, _ => by simp [runL]
  | j :: js, i, out, h => by
    simp only [List.length_cons] at h
    rw [runL]
    unfold patF
    simp only [List.any_cons, highB, List.filterMap_cons, cellAt]
    cases hg : geB (stv (sub l b j)) t.States with
    | true => rfl
    | false =>
      cases hs : gtB (stv (sub l b j)) 0 with
      | false =>
        simp only [cond_false, Bool.false_or]
        exact pat_run js (i + 1) out (by omega)
      | true =>
        have ha : appL 24 out [cellOf x l b j] = some (out ++ [cellOf x l b j]) := by
          unfold appL
          rw [if_pos ⟨by omega, by simp; omega⟩]
        simp only [cond_true, cond_false, Bool.false_or, ha, some_bind]
        have := pat_run js (i + 1) (out ++ [cellOf x l b j]) (by simp; omega)
        refine Eq.trans this ?_
        rw [List.append_assoc]
        rfl
def patAns (t : Tree) (x : Problem) (l : List Bool) : List Cell × Int :=
  bif (List.range (area x)).any (highB t l (bitsOf t.States).toNat) then ([], 10) else ((List.range (area x)).filterMap (cellAt x l (bitsOf t.States).toNat), 0)
def patSpec (t : Tree) (x : Problem) (l : List Bool) : List Cell × Int :=
  bif neB (chkE t x) 0 then ([], chkE t x) else bif neB (lenL l) (x.W * x.H * bitsOf t.States) then ([], 2) else patAns t x l
theorem bits_nat (h : Ok t) : ∃ b : Nat, bitsOf t.States = (b : Int) ∧ (bitsOf t.States).toNat = b ∧ (b = 1 ∨ b = 2 ∨ b = 3) := by
  rcases bits_in h.s2 h.s8 with ⟨e, _⟩ | ⟨e, _⟩ | ⟨e, _⟩ <;> rw [e]
  · exact ⟨1, rfl, rfl, .inl rfl⟩
  · exact ⟨2, rfl, rfl, .inr (.inl rfl)⟩
  · exact ⟨3, rfl, rfl, .inr (.inr rfl)⟩
theorem cells_mul (h : Ok t) (hx : BoxOk x) : imul .i64 (imul .i64 x.W x.H) (bitsOf t.States) = x.W * x.H * bitsOf t.States ∧ x.W * x.H * bitsOf t.States = ((area x * (bitsOf t.States).toNat : Nat) : Int) ∧ area x * (bitsOf t.States).toNat ≤ 48 := by
  obtain ⟨ha, hn, hc⟩ := hx.area
  obtain ⟨b, h1, h2, h3⟩ := bits_nat h
  have hb : area x * b ≤ 16 * 3 := Nat.mul_le_mul hn (by omega)
  rw [ha, h1, ← hc, Int.toNat_natCast]
  rw [← Int.natCast_mul, imul_in (by rw [← Int.natCast_mul]; omega), ← Int.natCast_mul]
  exact ⟨rfl, rfl, hb⟩
theorem len_ne (hn : neB (lenL l) (x.W * x.H * bitsOf t.States) = false) (h : Ok t) (hx : BoxOk x) : l.length = area x * (bitsOf t.States).toNat := by
  have : lenL l = x.W * x.H * bitsOf t.States := by simpa [neB] using hn
  rw [(cells_mul h hx).2.1] at this
  unfold lenL at this
  omega
theorem pattern_eq (hs : Sz t) (hx : x.Syms.length < 1099511627776) : m_unroll_Pattern t x l = some (patSpec t x l) := by
  unfold m_unroll_Pattern patSpec
  rw [check_eq hs hx, bits_eq]
  simp only [some_bind]
  cases hc : neB (chkE t x) 0 with
  | true => rfl
  | false =>
    have hc0 : chkE t x = 0 := by simpa [neB] using hc
    obtain ⟨hok, hbx⟩ := chk_ok hc0
    rw [(cells_mul hok hbx).1]
    cases hn : neB (lenL l) (x.W * x.H * bitsOf t.States) with
    | true => rfl
    | false =>
      obtain ⟨b, h1, h2, h3⟩ := bits_nat hok
      have hl := len_ne hn hok hbx
      unfold patAns
      rw [h2] at hl ⊢
      rw [h1]
      simp only [cond_false]
      rw [patLoop hbx hl h3, pat_run _ _ _ (by have := hbx.area.2.1; simp; omega)]
      cases (List.range (area x)).any (highB t l b) <;> rfl
theorem patternR_eq (hs : Sz t) (hx : x.Syms.length < 1099511627776) : m_R45_Pattern t x l = some (patSpec t x l) := by
  unfold m_R45_Pattern patSpec
  rw [checkR_eq hs hx, bitsR_eq]
  simp only [some_bind]
  cases hc : neB (chkE t x) 0 with
  | true => rfl
  | false =>
    have hc0 : chkE t x = 0 := by simpa [neB] using hc
    obtain ⟨hok, hbx⟩ := chk_ok hc0
    rw [(cells_mul hok hbx).1]
    cases hn : neB (lenL l) (x.W * x.H * bitsOf t.States) with
    | true => rfl
    | false =>
      obtain ⟨b, h1, h2, h3⟩ := bits_nat hok
      have hl := len_ne hn hok hbx
      unfold patAns
      rw [h2] at hl ⊢
      rw [h1]
      simp only [cond_false]
      rw [patLoopR hbx hl h3, pat_run _ _ _ (by have := hbx.area.2.1; simp; omega)]
      cases (List.range (area x)).any (highB t l b) <;> rfl
end

/-! ### bits of a pattern -/
def bitB (s : Int) (k : Nat) : Bool := eqB (iand .i64 (s.fdiv (2 ^ min k 64)) 1) 1
def outB (x : Problem) (c : Cell) : Bool := ltB c.X 0 || (geB c.X x.W || (ltB c.Y 0 || geB c.Y x.H))
def pos (x : Problem) (c : Cell) : Nat := (c.Y * x.W + c.X).toNat
def setBits (x : Problem) (b : Nat) (out : List Bool) (c : Cell) : List Bool := (List.range b).foldl (fun o k => o.set (pos x c * b + k) (bitB c.S k)) out
theorem setBits_len (x : Problem) (b : Nat) (out : List Bool) (c : Cell) : (setBits x b out c).length = out.length := by
  have key : ∀ (ks : List Nat) (o : List Bool), (ks.foldl (fun o k => o.set (pos x c * b + k) (bitB c.S k)) o).length = o.length := by
    intro ks
    induction ks with
    | nil => intro o; rfl
    | cons k ks ih => intro o; rw [List.foldl_cons, ih, List.length_set]
  exact key _ _
theorem pos_in {x : Problem} {c : Cell} (h : BoxOk x) (hc : outB x c = false) : 0 ≤ c.X ∧ c.X < x.W ∧ 0 ≤ c.Y ∧ c.Y < x.H ∧ ((pos x c : Nat) : Int) = c.Y * x.W + c.X ∧ pos x c < area x ∧ 0 ≤ c.Y * x.W ∧ c.Y * x.W + c.X < 16 := by
  unfold outB at hc
  simp only [Bool.or_eq_false_iff] at hc
  have a1 := of_decide_eq_false hc.1
  have a2 := of_decide_eq_false hc.2.1
  have a3 := of_decide_eq_false hc.2.2.1
  have a4 := of_decide_eq_false hc.2.2.2
  have h0 : 0 ≤ c.Y * x.W := Int.mul_nonneg (by omega) (by have := h.w1; omega)
  have h1 : (c.Y + 1) * x.W ≤ x.H * x.W := Int.mul_le_mul_of_nonneg_right (by omega) (by have := h.w1; omega)
  rw [Int.add_mul, Int.one_mul, Int.mul_comm x.H] at h1
  have h2 := h.area.2.2
  have h3 := h.a16
  refine ⟨by omega, by omega, by omega, by omega, ?_, ?_, h0, by omega⟩
  · unfold pos; omega
  · have : ((pos x c : Nat) : Int) = c.Y * x.W + c.X := by unfold pos; omega
    omega
theorem ishr_nat (s : Int) (k : Nat) : ishr .i64 s (k : Int) = some (s.fdiv (2 ^ min k 64)) := by
  unfold ishr
  rw [if_neg (by omega)]
  rfl
theorem conv_nat {k : Nat} (h : k < 1000) : iconv .u64 (k : Int) = (k : Int) := by
  unfold iconv
  exact IntWalk.u64_in _ ⟨by omega, by omega⟩
section
variable {t : Tree} {x : Problem} {p : List Cell} {b n : Nat} {c : Cell} {out : List Bool}
theorem bit_idx (hx : BoxOk x) (hc : outB x c = false) (hb : b ≤ 3) {k : Nat} (hk : k < b) : iadd .i64 (imul .i64 (iadd .i64 (imul .i64 c.Y x.W) c.X) (b : Int)) (k : Int) = ((pos x c * b + k : Nat) : Int) := by
  obtain ⟨_, _, _, _, h1, h2, h3, h4⟩ := pos_in hx hc
  have h5 := hx.area.2.1
  have h6 : pos x c * b ≤ 16 * 3 := Nat.mul_le_mul (by omega) hb
  rw [imul_in (a := c.Y) (by omega), iadd_in (a := c.Y * x.W) (by omega), ← h1, imul_in (by rw [← Int.natCast_mul]; omega), ← Int.natCast_mul, iadd_in (by omega)]
  rfl
theorem set_run : ∀ (ks : List Nat) (i : Nat) (o : List Bool), (∀ k ∈ ks, pos x c * b + k < o.length) →
    runL (fun _ k (o : List Bool) => ((idx o ((pos x c * b + k : Nat) : Int)).bind fun _ => some (.next (o.set (pos x c * b + k) (bitB c.S k))) : Option (Lp (List Bool) (List Bool)))) (fun o => some o) ks i o = some (ks.foldl (fun o k => o.set (pos x c * b + k) (bitB c.S k)) o)
  | [], _, _, _ => rfl
  | k :: ks, i, o, h => by
    rw [runL, idx_nat, List.getElem?_eq_getElem (h k (by simp))]
    exact set_run ks (i + 1) _ fun k' hk' => by rw [List.length_set]; exact h k' (by simp [hk'])
theorem inner_set (hx : BoxOk x) (hc : outB x c = false) (hb : b ≤ 3) (hl : out.length = area x * b) (i : Int) (o0 : List Bool) : loopN (b_unroll_Bits_2 x p (b : Int) i o0 c) loopF (0, out) = some (setBits x b out c) := by
  obtain ⟨_, _, _, _, h1, h2, h3, h4⟩ := pos_in hx hc
  have hbd : ∀ k, k < b → pos x c * b + k < area x * b := fun k hk => by
    have : (pos x c + 1) * b ≤ area x * b := Nat.mul_le_mul_right _ h2
    rw [Nat.add_mul] at this
    omega
  have h := loop_run (b := b_unroll_Bits_2 x p (b : Int) i o0 c) (fun k (o : List Bool) => ((k : Int), o)) (List.range b)
    (fun _ k (o : List Bool) => ((idx o ((pos x c * b + k : Nat) : Int)).bind fun _ => some (.next (o.set (pos x c * b + k) (bitB c.S k))) : Option (Lp (List Bool) (List Bool)))) (fun o => some o) (by simp; omega) (fun k j o hj => by
      have hk : k < b := by have := getE_lt hj; simpa using this
      rw [List.getElem?_range hk] at hj
      cases hj
      unfold b_unroll_Bits_2
      dsimp only
      rw [show ltB (k : Int) (b : Int) = true from decide_eq_true (by omega), cond_true, ishr_nat, up_nat (by omega)]
      simp only [some_bind, bit_idx hx hc hb hk]
      cases idx o ((pos x c * b + k : Nat) : Int) <;> rfl) (fun o => by
      unfold b_unroll_Bits_2
      dsimp only
      rw [show ltB (((List.range b).length : Nat) : Int) (b : Int) = false from decide_eq_false (by simp)]
      rfl) out
  rw [show ((0 : Nat) : Int) = 0 from rfl] at h
  rw [h, set_run _ _ _ fun k hk => by rw [hl]; exact hbd k (by simpa using hk)]
  rfl
theorem inner_setR (hx : BoxOk x) (hc : outB x c = false) (hb : b ≤ 3) (hl : out.length = area x * b) {i : Nat} (hi : p[i]? = some c) (o0 : List Bool) : loopN (b_R45_Bits_2 t x p (b : Int) (i : Int) o0) loopF (0, out) = some (setBits x b out c) := by
  obtain ⟨_, _, _, _, h1, h2, h3, h4⟩ := pos_in hx hc
  have hbd : ∀ k, k < b → pos x c * b + k < area x * b := fun k hk => by
    have : (pos x c + 1) * b ≤ area x * b := Nat.mul_le_mul_right _ h2
    rw [Nat.add_mul] at this
    omega
  have h := loop_run (b := b_R45_Bits_2 t x p (b : Int) (i : Int) o0) (fun k (o : List Bool) => ((k : Int), o)) (List.range b)
    (fun _ k (o : List Bool) => ((idx o ((pos x c * b + k : Nat) : Int)).bind fun _ => some (.next (o.set (pos x c * b + k) (bitB c.S k))) : Option (Lp (List Bool) (List Bool)))) (fun o => some o) (by simp; omega) (fun k j o hj => by
      have hk : k < b := by have := getE_lt hj; simpa using this
      rw [List.getElem?_range hk] at hj
      cases hj
      unfold b_R45_Bits_2 m_R45_bit
      dsimp only
      rw [show ltB (k : Int) (b : Int) = true from decide_eq_true (by omega), cond_true, idx_nat, hi, up_nat (by omega), conv_nat (by omega)]
      simp only [some_bind, ishr_nat, bit_idx hx hc hb hk]
      cases idx o ((pos x c * b + k : Nat) : Int) <;> rfl) (fun o => by
      unfold b_R45_Bits_2
      dsimp only
      rw [show ltB (((List.range b).length : Nat) : Int) (b : Int) = false from decide_eq_false (by simp)]
      rfl) out
  rw [show ((0 : Nat) : Int) = 0 from rfl] at h
  rw [h, set_run _ _ _ fun k hk => by rw [hl]; exact hbd k (by simpa using hk)]
  rfl
end
end Go.Proofs.YtgfhhbjnjccomaaGreatDoor

namespace Go.Proofs.YtgfhhbjnjccomaaGreatDoor
open Go.AM Go.Proofs

section
variable {t : Tree} {x : Problem} {p : List Cell} {b n : Nat} {c : Cell} {out : List Bool}
def bitsAll (x : Problem) (b : Nat) (p : List Cell) (out : List Bool) : List Bool := p.foldl (setBits x b) out
theorem bitsAll_len (x : Problem) (b : Nat) : ∀ (p : List Cell) (out : List Bool), (bitsAll x b p out).length = out.length
  | [], _ => rfl
  | c :: p, out => by
    show (bitsAll x b p (setBits x b out c)).length = _
    rw [bitsAll_len x b p, setBits_len]
/-- The outer loop of Bits, of cells in the box. -/
theorem out_run (hx : BoxOk x) (hb : b ≤ 3) : ∀ (q : List Cell) (i : Nat) (o : List Bool), (∀ c ∈ q, outB x c = false) → o.length = area x * b →
    runL (fun (_ : Nat) c (o : List Bool) => (some (.next (setBits x b o c)) : Option (Lp (List Bool) (List Bool)))) (fun o => some o) q i o = some (bitsAll x b q o)
  | [], _, _, _, _ => rfl
  | c :: q, i, o, h, hl => by
    rw [runL]
    exact out_run hx hb q (i + 1) _ (fun c hc => h c (by simp [hc])) (by rw [setBits_len]; exact hl)
/-- A loop over a list whose state keeps what the steps want. -/
theorem loop_inv_aux {α S St T : Type} {b : St → Option (Lp St T)} (E : Nat → S → St) (l : List α) (I : S → Prop) (f : Nat → α → S → Option (Lp S T)) (fin : S → Option T)
    (hs : ∀ (i : Nat) (x : α) (s : S), l[i]? = some x → I s → b (E i s) = mapE (E (i + 1)) (f i x s) ∧ ∀ s', f i x s = some (.next s') → I s')
    (he : ∀ s, b (E l.length s) = (fin s).map .out) : ∀ (m : List α) (i n : Nat) (s : S), I s → l.drop i = m → i + m.length = l.length → m.length < n → loopN b n (E i s) = runL f fin m i s
  | [], i, n, s, _, _, hl, hn => by
    obtain ⟨n, rfl⟩ : ∃ k, n = k + 1 := ⟨n - 1, by simp at hn; omega⟩
    obtain rfl : i = l.length := by simpa using hl
    rw [loopN, he, runL]
    cases fin s <;> rfl
  | x :: m, i, n, s, hI, hd, hl, hn => by
    obtain ⟨n, rfl⟩ : ∃ k, n = k + 1 := ⟨n - 1, by simp at hn; omega⟩
    have hx : l[i]? = some x := by
      have := congrArg (·[0]?) hd
      simpa using this
    obtain ⟨h1, h2⟩ := hs i x s hx hI
    rw [loopN, h1, runL]
    rcases hf : f i x s with _ | (s' | t)
    · rfl
    · simp only [mapE]
      refine loop_inv_aux E l I f fin hs he m (i + 1) n s' (h2 s' hf) ?_ (by simp at hl; omega) (by simp at hn; omega)
      have := congrArg (List.drop 1) hd
      simpa using this
    · rfl
theorem loop_inv {α S St T : Type} {b : St → Option (Lp St T)} (E : Nat → S → St) (l : List α) (I : S → Prop) (f : Nat → α → S → Option (Lp S T)) (fin : S → Option T) (hl : l.length < 1099511627776)
    (hs : ∀ (i : Nat) (x : α) (s : S), l[i]? = some x → I s → b (E i s) = mapE (E (i + 1)) (f i x s) ∧ ∀ s', f i x s = some (.next s') → I s')
    (he : ∀ s, b (E l.length s) = (fin s).map .out) (s : S) (hI : I s) : loopN b loopF (E 0 s) = runL f fin l 0 s := loop_inv_aux E l I f fin hs he l 0 loopF s hI rfl (by simp) hl

theorem outer_set (hx : BoxOk x) (hb : b ≤ 3) (hp : p.length < 1099511627776) (hin : ∀ c ∈ p, outB x c = false) (hl : out.length = area x * b) : loopN (b_unroll_Bits_1 x p (b : Int)) loopF (0, out) = some (bitsAll x b p out) := by
  have h := loop_inv (b := b_unroll_Bits_1 x p (b : Int)) (fun k (o : List Bool) => ((k : Int), o)) p (fun o => o.length = area x * b)
    (fun (_ : Nat) c (o : List Bool) => (some (.next (setBits x b o c)) : Option (Lp (List Bool) (List Bool)))) (fun o => some o) hp (fun i c o hc hI => ⟨by
      unfold b_unroll_Bits_1
      dsimp only
      rw [ltB_nat, decide_eq_true (getE_lt hc), cond_true, idx_nat, hc, up_nat (Nat.lt_trans (getE_lt hc) hp)]
      simp only [some_bind]
      rw [inner_set hx (hin c (List.mem_of_getElem? hc)) hb hI]
      rfl, fun s' hs' => by cases hs'; rw [setBits_len]; exact hI⟩) (fun o => by
      unfold b_unroll_Bits_1
      dsimp only
      rw [ltB_nat, decide_eq_false (Nat.lt_irrefl _)]
      rfl) out hl
  rw [show ((0 : Nat) : Int) = 0 from rfl] at h
  rw [h, out_run hx hb p 0 out hin hl]
/-- The reference looks at the box on the way. -/
theorem outR_run : ∀ (q : List Cell) (i : Nat) (o : List Bool),
    runL (fun (_ : Nat) c (o : List Bool) => (bif outB x c then some (.out (.inl ([], 2))) else some (.next (setBits x b o c)) : Option (Lp (List Bool) ((List Bool × Int) ⊕ List Bool)))) (fun o => some (.inr o)) q i o = some (bif q.any (outB x) then .inl ([], 2) else .inr (bitsAll x b q o))
  | [], _, _ => rfl
  | c :: q, i, o => by
    rw [runL, List.any_cons]
    cases outB x c with
    | true => rfl
    | false => exact outR_run q (i + 1) _
theorem outer_setR (hx : BoxOk x) (hb : b ≤ 3) (hp : p.length < 1099511627776) (hl : out.length = area x * b) : loopN (b_R45_Bits_1 t x p (b : Int)) loopF (0, out) = some (bif p.any (outB x) then .inl ([], 2) else .inr (bitsAll x b p out)) := by
  have h := loop_inv (b := b_R45_Bits_1 t x p (b : Int)) (fun k (o : List Bool) => ((k : Int), o)) p (fun o => o.length = area x * b)
    (fun (_ : Nat) c (o : List Bool) => (bif outB x c then some (.out (.inl ([], 2))) else some (.next (setBits x b o c)) : Option (Lp (List Bool) ((List Bool × Int) ⊕ List Bool)))) (fun o => some (.inr o)) hp (fun i c o hc hI => ⟨by
      unfold b_R45_Bits_1
      dsimp only
      rw [ltB_nat, decide_eq_true (getE_lt hc), cond_true, idx_nat, hc, up_nat (Nat.lt_trans (getE_lt hc) hp)]
      simp only [some_bind, bif_some, bif_some_t]
      show (bif outB x c then _ else _) = _
      cases ho : outB x c with
      | true => rfl
      | false =>
        simp only [cond_false]
        rw [inner_setR hx ho hb hI hc]
        rfl, fun s' hs' => by
      cases ho : outB x c with
      | true => rw [ho] at hs'; cases hs'
      | false => rw [ho] at hs'; cases hs'; rw [setBits_len]; exact hI⟩) (fun o => by
      unfold b_R45_Bits_1
      dsimp only
      rw [ltB_nat, decide_eq_false (Nat.lt_irrefl _)]
      rfl) out hl
  rw [show ((0 : Nat) : Int) = 0 from rfl] at h
  rw [h, outR_run]
def bigB (t : Tree) (c : Cell) : Bool := geB c.S t.States
theorem any_anyB {α : Type} (f : α → Bool) : ∀ (l : List α) (i : Nat), anyB (fun _ c => f c) l i = l.any f
  | [], _ => rfl
  | c :: l, i => by rw [anyB, List.any_cons, any_anyB f l]
theorem big_run {o : List Bool} (hp : p.length < 1099511627776) : loopN (b_R45_Bits_3 t p o) loopF 0 = some (bif p.any (bigB t) then .inl ([], 10) else .inr ()) := by
  rw [← any_anyB _ _ 0]
  refine loop_any p (fun _ c => bigB t c) ([], 10) hp (fun i c hc => ?_) ?_
  · unfold b_R45_Bits_3
    dsimp only
    rw [ltB_nat, decide_eq_true (getE_lt hc), cond_true, idx_nat, hc, up_nat (Nat.lt_trans (getE_lt hc) hp)]
    simp only [some_bind, bif_some]
    rfl
  · unfold b_R45_Bits_3
    dsimp only
    rw [ltB_nat, decide_eq_false (Nat.lt_irrefl _)]
    rfl
theorem top_run : ∀ (q : List Cell) (i : Nat) (n : Int), ∃ m, runL (fun (_ : Nat) (c : Cell) (n : Int) => (some (.next (imax n c.S)) : Option (Lp Int Int))) (fun n => some n) q i n = some m ∧ geB m t.States = (geB n t.States || q.any (bigB t))
  | [], _, n => ⟨n, rfl, by simp⟩
  | c :: q, i, n => by
    obtain ⟨m, h1, h2⟩ := top_run q (i + 1) (imax n c.S)
    refine ⟨m, h1, ?_⟩
    rw [h2, List.any_cons, ← Bool.or_assoc]
    congr 1
    unfold bigB geB
    have := imax_is n c.S
    rw [Bool.eq_iff_iff]
    simp only [decide_eq_true_eq, Bool.or_eq_true]
    omega
theorem top_eq (hp : p.length < 1099511627776) (h2 : 2 ≤ t.States) : ∃ m, m_pattern_Top p = some m ∧ geB m t.States = p.any (bigB t) := by
  obtain ⟨m, h3, h4⟩ := top_run (t := t) p 0 0
  have h := loop_run (b := b_pattern_Top_1 p) (fun i (n : Int) => (n, (i : Int))) p (fun _ (c : Cell) n => some (.next (imax n c.S))) (fun n => some n) hp (fun i c n hc => by
      unfold b_pattern_Top_1
      dsimp only
      rw [ltB_nat, decide_eq_true (getE_lt hc), cond_true, idx_nat, hc, up_nat (Nat.lt_trans (getE_lt hc) hp)]
      rfl) (fun n => by
      unfold b_pattern_Top_1
      dsimp only
      rw [ltB_nat, decide_eq_false (Nat.lt_irrefl _)]
      rfl) 0
  rw [show ((0 : Nat) : Int) = 0 from rfl] at h
  refine ⟨m, ?_, ?_⟩
  · unfold m_pattern_Top
    rw [h, h3]
    rfl
  · rw [h4, show geB 0 t.States = false from decide_eq_false (by omega)]
    rfl
theorem out1_eq (c : Cell) (x : Problem) : m_unroll_Bits_1 c x = some (outB x c) := by
  unfold m_unroll_Bits_1 outB
  simp only [bif_some, bif_some_t, some_bind]
theorem has_run : ∀ (q : List Cell) (i : Nat), ∃ o, runL (fun (i : Nat) (c : Cell) (_ : Unit) => (some (bif outB x c then .out (.inl (i : Int)) else .next ()) : Option (Lp Unit (Int ⊕ Unit)))) (fun _ => some (.inr ())) q i () = some o ∧
    match o with | .inl r => 0 ≤ r ∧ q.any (outB x) = true | .inr _ => q.any (outB x) = false
  | [], _ => ⟨_, rfl, rfl⟩
  | c :: q, i => by
    rw [runL, List.any_cons]
    cases outB x c with
    | true => exact ⟨_, rfl, by omega, rfl⟩
    | false =>
      obtain ⟨o, h1, h2⟩ := has_run q (i + 1)
      exact ⟨o, h1, h2⟩
theorem has_eq (hp : p.length < 1099511627776) : m_slices_ContainsFunc_api_Pattern_api_Cell_unroll_Bits_1 p x = some (p.any (outB x)) := by
  unfold m_slices_ContainsFunc_api_Pattern_api_Cell_unroll_Bits_1 m_slices_IndexFunc_api_Pattern_api_Cell_unroll_Bits_1
  have h := loop_run (b := b_slices_IndexFunc_api_Pattern_api_Cell_unroll_Bits_1_1 p x) (fun i (_ : Unit) => (i : Int)) p (fun (i : Nat) (c : Cell) (_ : Unit) => (some (bif outB x c then .out (.inl (i : Int)) else .next ()) : Option (Lp Unit (Int ⊕ Unit)))) (fun _ => some (.inr ())) hp (fun i c n hc => by
      unfold b_slices_IndexFunc_api_Pattern_api_Cell_unroll_Bits_1_1
      dsimp only
      rw [ltB_nat, decide_eq_true (getE_lt hc), cond_true, idx_nat, hc, up_nat (Nat.lt_trans (getE_lt hc) hp)]
      simp only [some_bind, out1_eq]
      cases outB x c <;> rfl) (fun n => by
      unfold b_slices_IndexFunc_api_Pattern_api_Cell_unroll_Bits_1_1
      dsimp only
      rw [ltB_nat, decide_eq_false (Nat.lt_irrefl _)]
      rfl) ()
  rw [show ((0 : Nat) : Int) = 0 from rfl] at h
  obtain ⟨o, h1, h2⟩ := has_run (x := x) p 0
  rw [h, h1]
  rcases o with r | _
  · simp only [some_bind]
    rw [h2.2, show geB r 0 = true from decide_eq_true h2.1]
  · simp only [some_bind]
    rw [h2]
    rfl
def bitsSpec (t : Tree) (x : Problem) (p : List Cell) : List Bool × Int :=
  bif neB (chkE t x) 0 then ([], chkE t x) else bif !patOk p || p.any (outB x) then ([], 2) else bif p.any (bigB t) then ([], 10) else
    (bitsAll x (bitsOf t.States).toNat p (List.replicate (area x * (bitsOf t.States).toNat) false), 0)
theorem mk_cells (h : Ok t) (hx : BoxOk x) {α : Type} (z : α) : mkL 1 (imul .i64 (imul .i64 x.W x.H) (bitsOf t.States)) (imul .i64 (imul .i64 x.W x.H) (bitsOf t.States)) z = some (List.replicate (area x * (bitsOf t.States).toNat) z) := by
  obtain ⟨h1, h2, h3⟩ := cells_mul h hx
  rw [h1, h2]
  unfold mkL
  rw [if_pos (by omega), Int.toNat_natCast]
theorem bitsP_eq (hs : Sz t) (hx : x.Syms.length < 1099511627776) (hp : p.length < 1099511627776) : m_unroll_Bits t x p = some (bitsSpec t x p) := by
  unfold m_unroll_Bits bitsSpec
  rw [check_eq hs hx, bits_eq, pat_eq hp, has_eq hp]
  simp only [some_bind]
  cases hc : neB (chkE t x) 0 with
  | true => rfl
  | false =>
    have hc0 : chkE t x = 0 := by simpa [neB] using hc
    obtain ⟨hok, hbx⟩ := chk_ok hc0
    obtain ⟨m, hm, hg⟩ := top_eq (t := t) hp hok.s2
    rw [hm, mk_cells hok hbx]
    simp only [some_bind, hg]
    cases patOk p with
    | false => rfl
    | true =>
      cases ho : p.any (outB x) with
      | true => rfl
      | false =>
        cases p.any (bigB t) with
        | true => rfl
        | false =>
          obtain ⟨b, h1, h2, h3⟩ := bits_nat hok
          have hlen : (imul .i64 (imul .i64 x.W x.H) (bitsOf t.States)).toNat = area x * b := by
            obtain ⟨g1, g2, _⟩ := cells_mul hok hbx
            rw [g1, g2, Int.toNat_natCast, h2]
          rw [hlen, h2, h1]
          simp only [cond_false, notB, Bool.not_true, Bool.false_or]
          rw [outer_set hbx (by omega) hp (fun c hc => by
            have := List.any_eq_false.1 ho c hc
            simpa using this) (by simp)]
          rfl
theorem bitsPR_eq (hs : Sz t) (hx : x.Syms.length < 1099511627776) (hp : p.length < 1099511627776) : m_R45_Bits t x p = some (bitsSpec t x p) := by
  unfold m_R45_Bits bitsSpec
  rw [checkR_eq hs hx, bitsR_eq, patR_eq hp]
  simp only [some_bind]
  cases hc : neB (chkE t x) 0 with
  | true => rfl
  | false =>
    have hc0 : chkE t x = 0 := by simpa [neB] using hc
    obtain ⟨hok, hbx⟩ := chk_ok hc0
    rw [mk_cells hok hbx]
    simp only [some_bind]
    cases patOk p with
    | false => rfl
    | true =>
      obtain ⟨b, h1, h2, h3⟩ := bits_nat hok
      have hlen : (imul .i64 (imul .i64 x.W x.H) (bitsOf t.States)).toNat = area x * b := by
        obtain ⟨g1, g2, _⟩ := cells_mul hok hbx
        rw [g1, g2, Int.toNat_natCast, h2]
      rw [hlen, h2, h1, outer_setR hbx (by omega) hp (by simp)]
      cases ho : p.any (outB x) with
      | true => rfl
      | false =>
        simp only [some_bind, cond_false]
        rw [big_run hp]
        cases p.any (bigB t) <;> rfl
end
end Go.Proofs.YtgfhhbjnjccomaaGreatDoor

namespace Go.Proofs.YtgfhhbjnjccomaaGreatDoor
open Go.AM Go.Proofs

/-! ### the bits that are set -/
theorem fold_get {B : Nat} {g : Nat → Bool} : ∀ (ks : List Nat) (o : List Bool) (q : Nat), q < o.length → (ks.foldl (fun o k => o.set (B + k) (g k)) o)[q]? = if ks.any (fun k => B + k == q) then some (g (q - B)) else o[q]?
  | [], o, q, _ => by simp
  | k :: ks, o, q, hq => by
    rw [List.foldl_cons, fold_get ks _ q (by rw [List.length_set]; exact hq), List.any_cons]
    by_cases h1 : ks.any (fun k => B + k == q) = true
    · simp [h1]
    · by_cases h2 : B + k = q
      · subst h2
        simp [h1, hq]
      · have h3 : (B + k == q) = false := beq_false_of_ne h2
        rw [List.getElem?_set_ne h2]
        simp [h1, h3]
theorem setBits_get {x : Problem} {b : Nat} {out : List Bool} {c : Cell} (hb : 0 < b) {q : Nat} (hq : q < out.length) : (setBits x b out c)[q]? = if pos x c = q / b then some (bitB c.S (q % b)) else out[q]? := by
  unfold setBits
  rw [fold_get _ _ _ hq]
  have hd : b * (q / b) + q % b = q := Nat.div_add_mod q b
  have hm : q % b < b := Nat.mod_lt _ hb
  by_cases h : pos x c = q / b
  · have h1 : pos x c * b = b * (q / b) := by rw [h, Nat.mul_comm]
    rw [if_pos (List.any_eq_true.2 ⟨q % b, by simpa using hm, by rw [beq_iff_eq]; omega⟩), if_pos h]
    congr 2
    omega
  · rw [if_neg h, if_neg]
    intro ha
    obtain ⟨k, hk, he⟩ := List.any_eq_true.1 ha
    rw [beq_iff_eq] at he
    rw [List.mem_range] at hk
    apply h
    rw [← he, Nat.mul_comm, Nat.mul_add_div hb, Nat.div_eq_of_lt hk, Nat.add_zero]
theorem bitsAll_get {x : Problem} {b : Nat} (hb : 0 < b) : ∀ (p : List Cell) (out : List Bool) (q : Nat), q < out.length → p.Pairwise (fun c d => pos x c < pos x d) →
    (bitsAll x b p out)[q]? = match p.find? (fun c => pos x c == q / b) with | some c => some (bitB c.S (q % b)) | none => out[q]?
  | [], _, _, _, _ => rfl
  | c :: p, out, q, hq, hp => by
    have hp' := List.pairwise_cons.1 hp
    show (bitsAll x b p (setBits x b out c))[q]? = _
    rw [bitsAll_get hb p _ q (by rw [setBits_len]; exact hq) hp'.2, List.find?_cons, setBits_get hb hq]
    by_cases h : pos x c = q / b
    · rw [if_pos h, show (pos x c == q / b) = true from beq_iff_eq.2 h]
      have : p.find? (fun c => pos x c == q / b) = none := List.find?_eq_none.2 fun d hd hb => by
        rw [beq_iff_eq] at hb
        have := hp'.1 d hd
        omega
      rw [this]
    · rw [if_neg h, show (pos x c == q / b) = false from beq_false_of_ne h]
theorem stv_get {es : List Bool} (h : es.length = 1 ∨ es.length = 2 ∨ es.length = 3) {k : Nat} (hk : k < es.length) : es[k]? = some (bitB (stv es) k) := by
  match es, h with
  | [a], _ =>
    have : k = 0 := by simp at hk; exact hk
    subst this
    cases a <;> decide
  | [a, b], _ =>
    have : k = 0 ∨ k = 1 := by simp at hk; omega
    rcases this with rfl | rfl <;> cases a <;> cases b <;> decide
  | [a, b, c], _ =>
    have : k = 0 ∨ k = 1 ∨ k = 2 := by simp at hk; omega
    rcases this with rfl | rfl | rfl <;> cases a <;> cases b <;> cases c <;> decide
  | [], h => simp at h
  | _ :: _ :: _ :: _ :: _, h => simp at h
theorem stv_zero {es : List Bool} (h : es.length = 1 ∨ es.length = 2 ∨ es.length = 3) (h0 : gtB (stv es) 0 = false) {k : Nat} (hk : k < es.length) : es[k]? = some false := by
  match es, h with
  | [a], _ =>
    have : k = 0 := by simp at hk; exact hk
    subst this
    revert h0
    cases a <;> decide
  | [a, b], _ =>
    have : k = 0 ∨ k = 1 := by simp at hk; omega
    revert h0
    rcases this with rfl | rfl <;> cases a <;> cases b <;> decide
  | [a, b, c], _ =>
    have : k = 0 ∨ k = 1 ∨ k = 2 := by simp at hk; omega
    revert h0
    rcases this with rfl | rfl | rfl <;> cases a <;> cases b <;> cases c <;> decide
  | [], h => simp at h
  | _ :: _ :: _ :: _ :: _, h => simp at h
/-- The number whose bits a list holds. -/
theorem stv_of {es : List Bool} {b : Nat} {s : Int} (hl : es.length = b) (hb : b = 1 ∨ b = 2 ∨ b = 3) (h0 : 0 ≤ s) (h1 : (b = 1 ∧ s < 2) ∨ (b = 2 ∧ s < 4) ∨ (b = 3 ∧ s < 8)) (hg : ∀ k, k < b → es[k]? = some (bitB s k)) : stv es = s := by
  rcases h1 with ⟨rfl, h1⟩ | ⟨rfl, h1⟩ | ⟨rfl, h1⟩
  · match es, hl with
    | [a], _ =>
      have g0 := hg 0 (by omega)
      simp only [List.getElem?_cons_zero, Option.some.injEq] at g0
      subst g0
      have : s = 0 ∨ s = 1 := by omega
      rcases this with rfl | rfl <;> decide
  · match es, hl with
    | [a, b], _ =>
      have g0 := hg 0 (by omega)
      have g1 := hg 1 (by omega)
      simp only [List.getElem?_cons_zero, List.getElem?_cons_succ, Option.some.injEq] at g0 g1
      subst g0 g1
      have : s = 0 ∨ s = 1 ∨ s = 2 ∨ s = 3 := by omega
      rcases this with rfl | rfl | rfl | rfl <;> decide
  · match es, hl with
    | [a, b, c], _ =>
      have g0 := hg 0 (by omega)
      have g1 := hg 1 (by omega)
      have g2 := hg 2 (by omega)
      simp only [List.getElem?_cons_zero, List.getElem?_cons_succ, Option.some.injEq] at g0 g1 g2
      subst g0 g1 g2
      have : s = 0 ∨ s = 1 ∨ s = 2 ∨ s = 3 ∨ s = 4 ∨ s = 5 ∨ s = 6 ∨ s = 7 := by omega
      rcases this with rfl | rfl | rfl | rfl | rfl | rfl | rfl | rfl <;> decide

/-! ### cells by their numbers -/
theorem find_fm {x : Problem} {g : Nat → Option Cell} (hg : ∀ i c, g i = some c → pos x c = i) (i : Nat) : ∀ n, ((List.range n).filterMap g).find? (fun c => pos x c == i) = if i < n then g i else none
  | 0 => by simp
  | n + 1 => by
    rw [List.range_succ, List.filterMap_append, List.find?_append, find_fm hg i n]
    have hlast : (List.filterMap g [n]).find? (fun c => pos x c == i) = if i = n then g i else none := by
      rw [List.filterMap_cons]
      cases hn : g n with
      | none =>
        by_cases h : i = n
        · rw [if_pos h, h, hn]; rfl
        · rw [if_neg h]; rfl
      | some c =>
        have hc := hg n c hn
        by_cases h : i = n
        · rw [if_pos h, h, hn]; simp [hc]
        · rw [if_neg h]
          have : (pos x c == i) = false := beq_false_of_ne (by omega)
          simp [this]
    rw [hlast]
    by_cases h1 : i < n
    · rw [if_pos h1, if_neg (show ¬ i = n by omega), if_pos (show i < n + 1 by omega)]
      cases g i <;> rfl
    · rw [if_neg h1]
      by_cases h2 : i = n
      · rw [if_pos h2, if_pos (show i < n + 1 by omega)]; rfl
      · rw [if_neg h2, if_neg (show ¬ i < n + 1 by omega)]; rfl
theorem fm_congr {α β : Type} {f g : α → Option β} : ∀ l : List α, (∀ a ∈ l, f a = g a) → l.filterMap f = l.filterMap g
  | [], _ => rfl
  | a :: l, h => by rw [List.filterMap_cons, List.filterMap_cons, h a (by simp), fm_congr l fun b hb => h b (by simp [hb])]
theorem fm_find {x : Problem} : ∀ (k m : Nat) (p : List Cell), p.Pairwise (fun c d => pos x c < pos x d) → (∀ c ∈ p, m ≤ pos x c ∧ pos x c < m + k) → (List.range' m k).filterMap (fun i => p.find? (fun c => pos x c == i)) = p
  | 0, m, p, _, h => by
    cases p with
    | nil => rfl
    | cons c p => have := h c (by simp); omega
  | k + 1, m, p, hp, h => by
    rw [List.range'_succ, List.filterMap_cons]
    cases p with
    | nil =>
      simp only [List.find?_nil]
      exact List.filterMap_eq_nil_iff.2 fun _ _ => rfl
    | cons c p =>
      have hp' := List.pairwise_cons.1 hp
      have hc := h c (by simp)
      by_cases hm : pos x c = m
      · have h1 : (c :: p).find? (fun c => pos x c == m) = some c := by simp [hm]
        rw [h1]
        simp only
        congr 1
        refine Eq.trans (fm_congr _ fun i hi => ?_) (fm_find k (m + 1) p hp'.2 fun d hd => ?_)
        · rw [List.mem_range'] at hi
          obtain ⟨j, _, rfl⟩ := hi
          rw [List.find?_cons, show (pos x c == m + 1 + 1 * j) = false from beq_false_of_ne (by omega)]
        · have := hp'.1 d hd
          have := h d (by simp [hd])
          omega
      · have h1 : (c :: p).find? (fun c => pos x c == m) = none := List.find?_eq_none.2 fun d hd hb => by
          rw [beq_iff_eq] at hb
          rcases List.mem_cons.1 hd with rfl | hd
          · exact hm hb
          · have := hp'.1 d hd
            omega
        rw [h1]
        simp only
        exact fm_find k (m + 1) (c :: p) hp fun d hd => by
          have := h d hd
          rcases List.mem_cons.1 hd with rfl | hd
          · omega
          · have := hp'.1 d hd
            omega
theorem cell_div {x : Problem} (hx : BoxOk x) {i : Nat} (hi : i < area x) : 0 ≤ (i : Int).tmod x.W ∧ (i : Int).tmod x.W < x.W ∧ 0 ≤ (i : Int).tdiv x.W ∧ (i : Int).tdiv x.W < x.H ∧ (i : Int).tdiv x.W * x.W + (i : Int).tmod x.W = i := by
  have hw := hx.w1
  have h1 : (i : Int).tdiv x.W = (i : Int) / x.W := Int.tdiv_eq_ediv_of_nonneg (by omega)
  have h2 : (i : Int).tmod x.W = (i : Int) % x.W := Int.tmod_eq_emod_of_nonneg (by omega)
  rw [h1, h2]
  have h3 := Int.emod_nonneg (i : Int) (show x.W ≠ 0 by omega)
  have h4 := Int.emod_lt_of_pos (i : Int) (show 0 < x.W by omega)
  have h5 : 0 ≤ (i : Int) / x.W := Int.ediv_nonneg (by omega) (by omega)
  have h6 := Int.mul_ediv_add_emod (i : Int) x.W
  have h7 := hx.area.2.2
  refine ⟨h3, h4, h5, ?_, by rw [Int.mul_comm]; exact h6⟩
  refine Int.ediv_lt_of_lt_mul (by omega) ?_
  rw [Int.mul_comm]
  omega
theorem pos_cell {x : Problem} (hx : BoxOk x) {l : List Bool} {b i : Nat} (hi : i < area x) : pos x (cellOf x l b i) = i := by
  obtain ⟨_, _, _, _, h⟩ := cell_div hx hi
  unfold pos cellOf
  rw [h, Int.toNat_natCast]
theorem pos_lt {x : Problem} (hx : BoxOk x) {c d : Cell} (hc : outB x c = false) (hd : outB x d = false) (h : befC c d = true) : pos x c < pos x d := by
  obtain ⟨c1, c2, c3, c4, c5, _⟩ := pos_in hx hc
  obtain ⟨d1, d2, d3, d4, d5, _⟩ := pos_in hx hd
  unfold befC befP at h
  simp only [Bool.or_eq_true, Bool.and_eq_true, decide_eq_true_eq, beq_iff_eq] at h
  rcases h with h | ⟨h, h'⟩
  · have h1 : (c.Y + 1) * x.W ≤ d.Y * x.W := Int.mul_le_mul_of_nonneg_right (by omega) (by have := hx.w1; omega)
    rw [Int.add_mul, Int.one_mul] at h1
    omega
  · rw [h] at c5
    omega
theorem bef_of_pos {x : Problem} (hx : BoxOk x) {c d : Cell} (hc : outB x c = false) (hd : outB x d = false) (h : pos x c < pos x d) : befC c d = true := by
  obtain ⟨c1, c2, c3, c4, c5, _⟩ := pos_in hx hc
  obtain ⟨d1, d2, d3, d4, d5, _⟩ := pos_in hx hd
  unfold befC befP
  simp only [Bool.or_eq_true, Bool.and_eq_true, decide_eq_true_eq, beq_iff_eq]
  by_cases h1 : c.Y < d.Y
  · exact .inl h1
  · by_cases h2 : c.Y = d.Y
    · rw [h2] at c5
      exact .inr ⟨h2, by omega⟩
    · have h3 : (d.Y + 1) * x.W ≤ c.Y * x.W := Int.mul_le_mul_of_nonneg_right (by omega) (by have := hx.w1; omega)
      rw [Int.add_mul, Int.one_mul] at h3
      omega
theorem out_cell {x : Problem} (hx : BoxOk x) {l : List Bool} {b i : Nat} (hi : i < area x) : outB x (cellOf x l b i) = false := by
  obtain ⟨h1, h2, h3, h4, _⟩ := cell_div hx hi
  unfold outB cellOf
  simp only [Bool.or_eq_false_iff]
  exact ⟨decide_eq_false (by omega), decide_eq_false (by omega), decide_eq_false (by omega), decide_eq_false (by omega)⟩
/-- A pattern that is right, within the box: its cells' numbers rise. -/
theorem pos_sorted {x : Problem} (hx : BoxOk x) {p : List Cell} (hp : patOk p = true) (hin : ∀ c ∈ p, outB x c = false) : p.Pairwise (fun c d => pos x c < pos x d) := by
  unfold patOk at hp
  simp only [Bool.and_eq_true, Bool.not_eq_true'] at hp
  have step : ∀ j c d, p[j]? = some c → p[j + 1]? = some d → pos x c < pos x d := fun j c d hc hd => by
    have hb := anyB_false hp.2 (j + 1) d hd
    rw [Nat.zero_add] at hb
    unfold badC at hb
    simp only [Bool.or_eq_false_iff, hc, Bool.not_eq_false'] at hb
    exact pos_lt hx (hin c (List.mem_of_getElem? hc)) (hin d (List.mem_of_getElem? hd)) hb.2.2.2
  have far : ∀ (k i : Nat) (c d : Cell), p[i]? = some c → p[i + k + 1]? = some d → pos x c < pos x d := by
    intro k
    induction k with
    | zero => intro i c d hc hd; exact step i c d hc hd
    | succ k ih =>
      intro i c d hc hd
      obtain ⟨e, he⟩ := getE_prev (l := p) (i := i + k + 1) (x := d) (by rw [show i + k + 1 + 1 = i + (k + 1) + 1 by omega]; exact hd)
      exact Nat.lt_trans (ih i c e hc he) (step _ e d he (by rw [show i + k + 1 + 1 = i + (k + 1) + 1 by omega]; exact hd))
  refine List.pairwise_iff_getElem.2 fun i j hi hj hij => ?_
  exact far (j - i - 1) i _ _ (List.getElem?_eq_getElem hi) (by rw [show i + (j - i - 1) + 1 = j by omega]; exact List.getElem?_eq_getElem hj)
end Go.Proofs.YtgfhhbjnjccomaaGreatDoor

namespace Go.Proofs.YtgfhhbjnjccomaaGreatDoor
open Go.AM Go.Proofs

section
variable {t : Tree} {x : Problem} {l : List Bool} {p : List Cell} {b : Nat}
theorem high_lt (hh : (List.range (area x)).any (highB t l b) = false) {i : Nat} (hi : i < area x) : stv (sub l b i) < t.States := by
  have := List.any_eq_false.1 hh i (by simpa using hi)
  have h2 : highB t l b i = false := by simpa using this
  have := of_decide_eq_false h2
  omega
theorem mem_cells {c : Cell} (hc : c ∈ (List.range (area x)).filterMap (cellAt x l b)) : ∃ i, i < area x ∧ c = cellOf x l b i ∧ gtB (stv (sub l b i)) 0 = true := by
  obtain ⟨i, hi, he⟩ := List.mem_filterMap.1 hc
  rw [List.mem_range] at hi
  unfold cellAt at he
  cases hg : gtB (stv (sub l b i)) 0 with
  | false => rw [hg] at he; cases he
  | true => rw [hg] at he; cases he; exact ⟨i, hi, rfl, hg⟩
/-- Bits restores the values. -/
theorem bits_of_pat (hc0 : chkE t x = 0) (hl : l.length = area x * (bitsOf t.States).toNat) (hh : (List.range (area x)).any (highB t l (bitsOf t.States).toNat) = false) :
    bitsSpec t x ((List.range (area x)).filterMap (cellAt x l (bitsOf t.States).toNat)) = (l, 0) := by
  obtain ⟨hok, hbx⟩ := chk_ok hc0
  obtain ⟨b, h1, h2, h3⟩ := bits_nat hok
  rw [h2] at hl hh ⊢
  have hn := hbx.area.2.1
  have hb0 : 0 < b := by omega
  have hout : ∀ c ∈ (List.range (area x)).filterMap (cellAt x l b), outB x c = false := fun c hc => by
    obtain ⟨i, hi, rfl, _⟩ := mem_cells hc
    exact out_cell hbx hi
  have hst : ∀ c ∈ (List.range (area x)).filterMap (cellAt x l b), 1 ≤ c.S ∧ c.S < t.States := fun c hc => by
    obtain ⟨i, hi, rfl, hg⟩ := mem_cells hc
    have hg' := of_decide_eq_true hg
    have := high_lt hh hi
    exact ⟨by unfold cellOf; dsimp only; omega, this⟩
  have hpair : ((List.range (area x)).filterMap (cellAt x l b)).Pairwise (fun c d => pos x c < pos x d) := by
    rw [List.pairwise_filterMap]
    refine (List.pairwise_lt_range (n := area x)).imp_of_mem fun {i j} hi hj hij c hc d hd => ?_
    rw [List.mem_range] at hi hj
    have e1 : c = cellOf x l b i := by
      unfold cellAt at hc
      cases hg : gtB (stv (sub l b i)) 0 <;> rw [hg] at hc <;> cases hc
      rfl
    have e2 : d = cellOf x l b j := by
      unfold cellAt at hd
      cases hg : gtB (stv (sub l b j)) 0 <;> rw [hg] at hd <;> cases hd
      rfl
    rw [e1, e2, pos_cell hbx hi, pos_cell hbx hj]
    exact hij
  have hlen : ((List.range (area x)).filterMap (cellAt x l b)).length ≤ 16 := Nat.le_trans (List.length_filterMap_le _ _) (by simpa using hn)
  have hpat : patOk ((List.range (area x)).filterMap (cellAt x l b)) = true := by
    unfold patOk
    simp only [Bool.and_eq_true, Bool.not_eq_true']
    refine ⟨decide_eq_true (by unfold lenL; omega), anyB_of_false fun j c hc => ?_⟩
    rw [Nat.zero_add]
    have hm := List.mem_of_getElem? hc
    obtain ⟨s1, s2⟩ := hst c hm
    obtain ⟨g1, g2, g3, g4, _⟩ := pos_in hbx (hout c hm)
    have w := hbx.w16
    have h := hbx.h16
    have s8 := hok.s8
    unfold badC
    simp only [Bool.or_eq_false_iff, Bool.not_eq_false']
    refine ⟨?_, decide_eq_false (by omega), decide_eq_false (by omega), ?_⟩
    · unfold placeB
      simp only [Bool.and_eq_true]
      exact ⟨decide_eq_true (by omega), decide_eq_true (by omega), decide_eq_true (by omega), decide_eq_true (by omega)⟩
    · cases j with
      | zero => rfl
      | succ j =>
        obtain ⟨d, hd⟩ := getE_prev hc
        simp only [hd, Bool.not_eq_false']
        have hij := List.pairwise_iff_getElem.1 hpair j (j + 1) (getE_lt hd) (getE_lt hc) (by omega)
        rw [(List.getElem?_eq_some_iff.1 hd).2, (List.getElem?_eq_some_iff.1 hc).2] at hij
        exact bef_of_pos hbx (hout d (List.mem_of_getElem? hd)) (hout c hm) hij
  have hbig : ((List.range (area x)).filterMap (cellAt x l b)).any (bigB t) = false := List.any_eq_false.2 fun c hc => by
    have := (hst c hc).2
    have : bigB t c = false := decide_eq_false (by omega)
    simp [this]
  have hany : ((List.range (area x)).filterMap (cellAt x l b)).any (outB x) = false := List.any_eq_false.2 fun c hc => by simp [hout c hc]
  unfold bitsSpec
  rw [hc0, hpat, hany, hbig, h2]
  show (_, (0 : Int)) = _
  congr 1
  apply List.ext_getElem?
  intro q
  by_cases hq : q < area x * b
  · rw [bitsAll_get hb0 _ _ q (by simpa using hq) hpair, find_fm (fun i c he => ?_) (q / b) (area x)]
    · have hi : q / b < area x := (Nat.div_lt_iff_lt_mul hb0).2 hq
      have hk : q % b < b := Nat.mod_lt _ hb0
      rw [if_pos hi]
      have hsl := sub_len hl hi
      have hsg : (sub l b (q / b))[q % b]? = l[q]? := by
        rw [sub_get hk, Nat.mul_comm, Nat.div_add_mod]
      unfold cellAt
      cases hg : gtB (stv (sub l b (q / b))) 0 with
      | true =>
        simp only [cond_true]
        rw [← hsg, stv_get (by rw [hsl]; exact h3) (by rw [hsl]; exact hk)]
        rfl
      | false =>
        simp only [cond_false]
        rw [← hsg, stv_zero (by rw [hsl]; exact h3) hg (by rw [hsl]; exact hk)]
        simp [hq]
    · unfold cellAt at he
      cases hg : gtB (stv (sub l b i)) 0 <;> rw [hg] at he <;> cases he
      by_cases hi : i < area x
      · exact pos_cell hbx hi
      · exfalso
        have : sub l b i = [] := by
          unfold sub
          rw [List.drop_eq_nil_of_le (by rw [hl]; exact Nat.mul_le_mul_right _ (by omega))]
          simp
        rw [this] at hg
        revert hg
        decide
  · rw [List.getElem?_eq_none (by rw [bitsAll_len]; simp; omega), List.getElem?_eq_none (by omega)]
/-- Pattern restores the pattern. -/
theorem pat_of_bits (hc0 : chkE t x = 0) (hp : patOk p = true) (hin : p.any (outB x) = false) (hbig : p.any (bigB t) = false) :
    patSpec t x (bitsAll x (bitsOf t.States).toNat p (List.replicate (area x * (bitsOf t.States).toNat) false)) = (p, 0) := by
  obtain ⟨hok, hbx⟩ := chk_ok hc0
  obtain ⟨b, h1, h2, h3⟩ := bits_nat hok
  have hn := hbx.area.2.1
  have hb0 : 0 < b := by omega
  have hout : ∀ c ∈ p, outB x c = false := fun c hc => by simpa using List.any_eq_false.1 hin c hc
  have hpair := pos_sorted hbx hp hout
  have hst : ∀ c ∈ p, 1 ≤ c.S ∧ c.S < t.States := fun c hc => by
    have hb : bigB t c = false := by simpa using List.any_eq_false.1 hbig c hc
    have hb' := of_decide_eq_false hb
    obtain ⟨j, hj⟩ := List.getElem?_of_mem hc
    unfold patOk at hp
    simp only [Bool.and_eq_true, Bool.not_eq_true'] at hp
    have hbad := anyB_false hp.2 j c hj
    unfold badC at hbad
    simp only [Bool.or_eq_false_iff] at hbad
    have := of_decide_eq_false hbad.2.1
    exact ⟨by omega, by omega⟩
  rw [h2]
  generalize hl : bitsAll x b p (List.replicate (area x * b) false) = l
  have hlen : l.length = area x * b := by rw [← hl, bitsAll_len]; simp
  have hget : ∀ i k, i < area x → k < b → (sub l b i)[k]? = match p.find? (fun c => pos x c == i) with | some c => some (bitB c.S k) | none => some false := fun i k hi hk => by
    have hq : i * b + k < area x * b := by
      have : (i + 1) * b ≤ area x * b := Nat.mul_le_mul_right _ hi
      rw [Nat.add_mul] at this
      omega
    have hd : (i * b + k) / b = i := by rw [Nat.mul_comm, Nat.mul_add_div hb0, Nat.div_eq_of_lt hk, Nat.add_zero]
    have hm : (i * b + k) % b = k := by rw [Nat.mul_comm, Nat.mul_add_mod, Nat.mod_eq_of_lt hk]
    rw [sub_get hk, ← hl, bitsAll_get hb0 _ _ _ (by simpa using hq) hpair, hd, hm]
    cases p.find? (fun c => pos x c == i) with
    | some c => rfl
    | none => simp [hq]
  have hmax : ∀ s : Int, s < t.States → (b = 1 ∧ s < 2) ∨ (b = 2 ∧ s < 4) ∨ (b = 3 ∧ s < 8) := fun s hs => by
    rcases bits_in hok.s2 hok.s8 with ⟨e, he⟩ | ⟨e, he⟩ | ⟨e, he⟩
    · exact .inl ⟨by omega, by omega⟩
    · exact .inr (.inl ⟨by omega, by omega⟩)
    · exact .inr (.inr ⟨by omega, by omega⟩)
  have hstv : ∀ i, i < area x → stv (sub l b i) = match p.find? (fun c => pos x c == i) with | some c => c.S | none => 0 := fun i hi => by
    have hsl := sub_len hlen hi
    have hg := hget i
    cases hf : p.find? (fun c => pos x c == i) with
    | some c =>
      rw [hf] at hg
      have hm := List.mem_of_find?_eq_some hf
      show stv (sub l b i) = c.S
      exact stv_of hsl h3 (by have := (hst c hm).1; omega) (hmax _ (hst c hm).2) fun k hk => hg k hi hk
    | none =>
      rw [hf] at hg
      show stv (sub l b i) = 0
      refine stv_of hsl h3 (by omega) (hmax 0 (by have := hok.s2; omega)) fun k hk => ?_
      rw [hg k hi hk]
      have : k = 0 ∨ k = 1 ∨ k = 2 := by omega
      rcases this with rfl | rfl | rfl <;> decide
  have hhigh : (List.range (area x)).any (highB t l b) = false := List.any_eq_false.2 fun i hi => by
    rw [List.mem_range] at hi
    have : highB t l b i = false := by
      unfold highB
      have hv := hstv i hi
      cases hf : p.find? (fun c => pos x c == i) with
      | some c =>
        rw [hf] at hv
        simp only at hv
        rw [hv]
        exact decide_eq_false (by have := (hst c (List.mem_of_find?_eq_some hf)).2; omega)
      | none =>
        rw [hf] at hv
        simp only at hv
        rw [hv]
        exact decide_eq_false (by have := hok.s2; omega)
    simp [this]
  have hcells : (List.range (area x)).filterMap (cellAt x l b) = p := by
    refine Eq.trans (fm_congr _ fun i hi => ?_) (Eq.trans (congrArg _ (List.range_eq_range')) (fm_find (area x) 0 p hpair fun c hc => ⟨Nat.zero_le _, by rw [Nat.zero_add]; exact (pos_in hbx (hout c hc)).2.2.2.2.2.1⟩))
    rw [List.mem_range] at hi
    unfold cellAt
    rw [hstv i hi]
    cases hf : p.find? (fun c => pos x c == i) with
    | none => rfl
    | some c =>
      have hm := List.mem_of_find?_eq_some hf
      have hpc : pos x c = i := by simpa using List.find?_some hf
      simp only
      rw [show gtB c.S 0 = true from decide_eq_true (by have := (hst c hm).1; omega), cond_true]
      congr 1
      obtain ⟨g1, g2, g3, g4, g5, _⟩ := pos_in hbx (hout c hm)
      obtain ⟨k1, k2, k3, k4, k5⟩ := cell_div hbx hi
      have hS : stv (sub l b i) = c.S := by rw [hstv i hi, hf]
      rw [hpc] at g5
      have hW := hbx.w1
      have hY : (i : Int).tdiv x.W = c.Y := by
        rw [Int.tdiv_eq_ediv_of_nonneg (by omega), g5, Int.add_comm, Int.add_mul_ediv_right _ _ (by omega), Int.ediv_eq_zero_of_lt g1 g2, Int.zero_add]
      have hX : (i : Int).tmod x.W = c.X := by
        rw [hY] at k5
        omega
      unfold cellOf
      rw [hX, hY, hS]
  unfold patSpec patAns
  have hle : neB (lenL l) (x.W * x.H * bitsOf t.States) = false := by
    rw [(cells_mul hok hbx).2.1, h2]
    unfold lenL
    rw [hlen]
    simp [neB]
  rw [hc0, hle, h2, hhigh, hcells]
  rfl
end

/-! ### small rules and problems -/
theorem small_eq (t : Tree) (x : Problem) : ∃ y, m_L45_Small t x = some y ∧ (y = true → Sz t ∧ x.Syms.length < 1099511627776) := by
  unfold m_L45_Small
  simp only [bif_some, some_bind, bif_some_t, bif_some_f]
  cases h1 : gtB (lenL t.Nodes) 150 with
  | true => exact ⟨false, rfl, fun h => by cases h⟩
  | false =>
    cases h2 : gtB (lenL t.Hood) 9 with
    | true => exact ⟨false, rfl, fun h => by cases h⟩
    | false =>
      cases h3 : gtB (lenL x.Syms) 20 with
      | true => exact ⟨false, rfl, fun h => by cases h⟩
      | false =>
        have e1 := of_decide_eq_false h1
        have e2 := of_decide_eq_false h2
        have e3 := of_decide_eq_false h3
        unfold lenL at e1 e2 e3
        rw [loop_any t.Nodes (fun _ n => gtB (lenL n.Next) 20) false (by omega) (fun i n hn => by
          unfold b_L45_Small_1
          dsimp only
          rw [ltB_nat, decide_eq_true (getE_lt hn), cond_true, idx_nat, hn, up_nat (by have := getE_lt hn; omega)]
          simp only [some_bind, bif_some]) (by
          unfold b_L45_Small_1
          dsimp only
          rw [ltB_nat, decide_eq_false (Nat.lt_irrefl _)]
          rfl)]
        cases hG : gtB x.Gens 3 && leB x.Gens 6 with
        | true => exact ⟨false, rfl, fun h => by cases h⟩
        | false =>
          cases ha : anyB (fun _ n => gtB (lenL n.Next) 20) t.Nodes 0 with
          | true => exact ⟨false, rfl, fun h => by cases h⟩
          | false =>
            refine ⟨_, rfl, fun _ => ⟨⟨by omega, by omega, fun n hn => ?_⟩, by omega⟩⟩
            obtain ⟨j, hj⟩ := List.getElem?_of_mem hn
            have := anyB_false ha j n hj
            have := of_decide_eq_false this
            unfold lenL at this
            omega
theorem patSpec_len (t : Tree) (x : Problem) (l : List Bool) : (patSpec t x l).1.length < 1099511627776 := by
  unfold patSpec
  cases hc : neB (chkE t x) 0 with
  | true => simp
  | false =>
    have hc0 : chkE t x = 0 := by simpa [neB] using hc
    have hn := (chk_ok hc0).2.area.2.1
    cases neB (lenL l) (x.W * x.H * bitsOf t.States) with
    | true => simp
    | false =>
      unfold patAns
      simp only [cond_false]
      cases (List.range (area x)).any (highB t l (bitsOf t.States).toNat) with
      | true => simp
      | false =>
        have := List.length_filterMap_le (cellAt x l (bitsOf t.States).toNat) (List.range (area x))
        simp only [List.length_range] at this
        simp only [cond_false]
        omega
theorem bitsSpec_len (t : Tree) (x : Problem) (p : List Cell) : (bitsSpec t x p).1.length < 1099511627776 := by
  unfold bitsSpec
  cases hc : neB (chkE t x) 0 with
  | true => simp
  | false =>
    have hc0 : chkE t x = 0 := by simpa [neB] using hc
    obtain ⟨hok, hbx⟩ := chk_ok hc0
    have := (cells_mul hok hbx).2.2
    simp only [cond_false]
    cases !patOk p || p.any (outB x) with
    | true => simp
    | false =>
      simp only [cond_false]
      cases p.any (bigB t) with
      | true => simp
      | false =>
        simp only [cond_false]
        rw [bitsAll_len, List.length_replicate]
        omega

/-! ### the laws -/
theorem patterns_true (t : Tree) (x : Problem) (l : List Bool) : m_L45_UnrollPatterns t x l = some true := by
  obtain ⟨y, hy, hsm⟩ := small_eq t x
  unfold m_L45_UnrollPatterns m_L45_alive
  rw [hy]
  simp only [some_bind]
  cases y with
  | false => rfl
  | true =>
    cases h100 : gtB (lenL l) 100 with
    | true => rfl
    | false =>
      obtain ⟨hs, hx⟩ := hsm rfl
      have e1 := of_decide_eq_false h100
      unfold lenL at e1
      rw [pattern_eq hs hx, patternR_eq hs hx]
      simp only [some_bind, notB, Bool.not_true, cond_false]
      rw [sameC_refl (patSpec_len t x l)]
      simp only [some_bind, Bool.not_true, cond_false]
      rw [show neB (patSpec t x l).2 (patSpec t x l).2 = false from by simp [neB]]
      simp only [cond_false]
      cases hz : neB (patSpec t x l).2 0 with
      | true => rfl
      | false =>
        have hz0 : (patSpec t x l).2 = 0 := by simpa [neB] using hz
        have key : chkE t x = 0 ∧ neB (lenL l) (x.W * x.H * bitsOf t.States) = false ∧ (List.range (area x)).any (highB t l (bitsOf t.States).toNat) = false ∧ (patSpec t x l).1 = (List.range (area x)).filterMap (cellAt x l (bitsOf t.States).toNat) := by
          unfold patSpec at hz0 ⊢
          cases hc : neB (chkE t x) 0 with
          | true =>
            rw [hc] at hz0
            simp only [cond_true] at hz0
            rw [hz0] at hc
            simp [neB] at hc
          | false =>
            have hc0 : chkE t x = 0 := by simpa [neB] using hc
            rw [hc] at hz0
            simp only [cond_false] at hz0
            cases hn : neB (lenL l) (x.W * x.H * bitsOf t.States) with
            | true => rw [hn] at hz0; simp at hz0
            | false =>
              rw [hn] at hz0
              simp only [cond_false] at hz0 ⊢
              unfold patAns at hz0 ⊢
              cases hh : (List.range (area x)).any (highB t l (bitsOf t.States).toNat) with
              | true => rw [hh] at hz0; simp at hz0
              | false => exact ⟨hc0, by trivial, by trivial, rfl⟩
        obtain ⟨hc0, hn, hh, he⟩ := key
        obtain ⟨hok, hbx⟩ := chk_ok hc0
        simp only [cond_false]
        rw [bitsP_eq hs hx (patSpec_len t x l), he, bits_of_pat hc0 (len_ne hn hok hbx) hh]
        simp only [some_bind]
        rw [sameB_refl (by omega)]
        rfl
theorem bits_true (t : Tree) (x : Problem) (p : List Cell) : m_L45_UnrollBits t x p = some true := by
  obtain ⟨y, hy, hsm⟩ := small_eq t x
  unfold m_L45_UnrollBits m_L45_alive
  rw [hy]
  simp only [some_bind]
  cases y with
  | false => rfl
  | true =>
    cases h100 : gtB (lenL p) 100 with
    | true => rfl
    | false =>
      obtain ⟨hs, hx⟩ := hsm rfl
      have e1 := of_decide_eq_false h100
      unfold lenL at e1
      rw [bitsP_eq hs hx (by omega), bitsPR_eq hs hx (by omega)]
      simp only [some_bind, notB, Bool.not_true, cond_false]
      rw [sameB_refl (bitsSpec_len t x p)]
      simp only [some_bind, Bool.not_true, cond_false]
      rw [show neB (bitsSpec t x p).2 (bitsSpec t x p).2 = false from by simp [neB]]
      simp only [cond_false]
      cases hz : neB (bitsSpec t x p).2 0 with
      | true => rfl
      | false =>
        have hz0 : (bitsSpec t x p).2 = 0 := by simpa [neB] using hz
        have key : chkE t x = 0 ∧ patOk p = true ∧ p.any (outB x) = false ∧ p.any (bigB t) = false ∧ (bitsSpec t x p).1 = bitsAll x (bitsOf t.States).toNat p (List.replicate (area x * (bitsOf t.States).toNat) false) := by
          unfold bitsSpec at hz0 ⊢
          cases hc : neB (chkE t x) 0 with
          | true =>
            rw [hc] at hz0
            simp only [cond_true] at hz0
            rw [hz0] at hc
            simp [neB] at hc
          | false =>
            have hc0 : chkE t x = 0 := by simpa [neB] using hc
            rw [hc] at hz0
            simp only [cond_false] at hz0
            cases hn : !patOk p || p.any (outB x) with
            | true => rw [hn] at hz0; simp at hz0
            | false =>
              rw [hn] at hz0
              simp only [cond_false] at hz0
              simp only [Bool.or_eq_false_iff, Bool.not_eq_false'] at hn
              cases hh : p.any (bigB t) with
              | true => rw [hh] at hz0; simp at hz0
              | false => exact ⟨hc0, hn.1, hn.2, rfl, rfl⟩
        obtain ⟨hc0, hp, hin, hbig, he⟩ := key
        simp only [cond_false]
        rw [pattern_eq hs hx, he, pat_of_bits hc0 hp hin hbig]
        simp only [some_bind]
        rw [sameC_refl (by omega)]
        rfl
end Go.Proofs.YtgfhhbjnjccomaaGreatDoor
