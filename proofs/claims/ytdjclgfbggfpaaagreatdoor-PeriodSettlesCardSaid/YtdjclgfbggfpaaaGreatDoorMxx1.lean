/-
  A deterministic machine for the program's code: its values and its memory, and how they stand for the model's.
  The machine's quiet operations.
  The machine's quiet operations: the model's do the same.
  The machine's quiet operations, continued; and all of them together.
  The machine's operations that make or write objects.
  The machine's operations that make or write objects: the model's do the same.
  The machine's operations that make or write objects, the rest; and all of them together.
-/
import Derived.Test.YtdjclgfbggfpaaaGreatDoorAmx1
import Derived.Deep.AppendSrc
import Derived.Lib.ConvBytes
namespace Go.MX
open Go.RowKit
open Go.AM (Blw Key KK)
inductive MV where
 | top
 | int (k : IntKind) (n : Int)
 | bool (b : Bool)
 | str (s : List UInt8)
 | ptr (i o : Nat)
 | sl (i o n c : Nat) (op : Bool)
 | nilp
 | nils
 | nilm
 | nilf
 | nili
 | map (i : Nat)
 | fn (f : FuncId) (xs ys : List MV)
 | iface (t : TypeId) (v : MV)
 | agg (cs : List MV)
 | tup (us : List MV)
 deriving Inhabited
abbrev Pl := Nat → Option (Nat × Nat × Nat)
def Pl.le (φ ψ : Pl) : Prop := ∀ i x, φ i = some x → ψ i = some x
theorem Pl.le_refl (φ : Pl) : Pl.le φ φ := fun _ _ h => h
theorem Pl.le_trans {φ ψ χ : Pl} (h : Pl.le φ ψ) (k : Pl.le ψ χ) : Pl.le φ χ := fun i x hx => k i x (h i x hx)
def xtra (op : Bool) (sp : Nat) : Nat := match op with | true => sp | false => 0
mutual
def vr (φ : Pl) : MV → Value → Prop
 | .top, _ => True
 | .int k n, v => v = .int k n
 | .bool b, v => v = .bool b
 | .str s, v => v = .string ⟨s.toArray⟩
 | .ptr i o, v => ∃ b base sp, φ i = some (b, base, sp) ∧ v = .pointer (some ⟨b, base + o, none⟩)
 | .sl i o n c op, v => ∃ b base sp a, φ i = some (b, base, sp) ∧ v = .slice (some a) n (c + xtra op sp) ∧ n ≤ c ∧ c + xtra op sp ≤ maxLen ∧ (c + xtra op sp ≠ 0 → a = ⟨b, base + o, none⟩)
 | .nilp, v => v = .pointer none
 | .nils, v => v = .slice none 0 0
 | .nilm, v => v = .map none
 | .nilf, v => v = .nilFunc
 | .nili, v => v = .nilIface
 | .map i, v => ∃ b base sp, φ i = some (b, base, sp) ∧ v = .map (some b)
 | .fn f xs ys, v => ∃ a b : Array Value, v = .func (.func f) a b ∧ vrs φ xs a.toList ∧ vrs φ ys b.toList
 | .iface t x, v => ∃ u, v = .iface t u ∧ vr φ x u
 | .agg cs, v => ∃ arr : Array Value, v = .agg arr ∧ vrs φ cs arr.toList
 | .tup us, v => ∃ arr : Array Value, v = .tuple arr ∧ vrs φ us arr.toList
def vrs (φ : Pl) : List MV → List Value → Prop
 | [], vs => vs = []
 | c :: cs, vs => ∃ v r, vs = v :: r ∧ vr φ c v ∧ vrs φ cs r
end
section
variable {φ ψ : Pl}
mutual
theorem vr_le (h : Pl.le φ ψ) : ∀ (c : MV) (v : Value), vr φ c v → vr ψ c v
 | .top, _, hv => by simp [vr]
 | .int _ _, _, hv => by simpa [vr] using hv
 | .bool _, _, hv => by simpa [vr] using hv
 | .str _, _, hv => by simpa [vr] using hv
 | .ptr i o, _, hv => by simp only [vr] at hv ⊢; obtain ⟨b, base, sp, hi, hv⟩ := hv; exact ⟨b, base, sp, h _ _ hi, hv⟩
 | .sl i o n c op, _, hv => by simp only [vr] at hv ⊢; obtain ⟨b, base, sp, a, hi, hv⟩ := hv; exact ⟨b, base, sp, a, h _ _ hi, hv⟩
 | .nilp, _, hv => by simpa [vr] using hv
 | .nils, _, hv => by simpa [vr] using hv
 | .nilm, _, hv => by simpa [vr] using hv
 | .nilf, _, hv => by simpa [vr] using hv
 | .nili, _, hv => by simpa [vr] using hv
 | .map i, _, hv => by simp only [vr] at hv ⊢; obtain ⟨b, base, sp, hi, hv⟩ := hv; exact ⟨b, base, sp, h _ _ hi, hv⟩
 | .fn f xs ys, _, hv => by simp only [vr] at hv ⊢; obtain ⟨a, b, rfl, h1, h2⟩ := hv; exact ⟨a, b, rfl, vrs_le h xs _ h1, vrs_le h ys _ h2⟩
 | .iface t x, _, hv => by simp only [vr] at hv ⊢; obtain ⟨u, rfl, h1⟩ := hv; exact ⟨u, rfl, vr_le h x _ h1⟩
 | .agg cs, _, hv => by simp only [vr] at hv ⊢; obtain ⟨a, rfl, h1⟩ := hv; exact ⟨a, rfl, vrs_le h cs _ h1⟩
 | .tup cs, _, hv => by simp only [vr] at hv ⊢; obtain ⟨a, rfl, h1⟩ := hv; exact ⟨a, rfl, vrs_le h cs _ h1⟩
theorem vrs_le (h : Pl.le φ ψ) : ∀ (cs : List MV) (vs : List Value), vrs φ cs vs → vrs ψ cs vs
 | [], vs, hv => by simpa [vrs] using hv
 | c :: cs, vs, hv => by
  simp only [vrs] at hv ⊢
  obtain ⟨v, r, rfl, hc, hcs⟩ := hv
  exact ⟨v, r, rfl, vr_le h c v hc, vrs_le h cs r hcs⟩
end
theorem vrs_length : ∀ {cs : List MV} {vs : List Value}, vrs φ cs vs → cs.length = vs.length
 | [], _, h => by simp only [vrs] at h; subst h; rfl
 | c :: cs, vs, h => by
  simp only [vrs] at h
  obtain ⟨v, r, rfl, _, h⟩ := h
  simp [vrs_length h]
theorem vrs_get : ∀ {cs : List MV} {vs : List Value}, vrs φ cs vs → ∀ {i : Nat} {c : MV}, cs[i]? = some c → ∃ v, vs[i]? = some v ∧ vr φ c v
 | [], _, _, i, c, hi => by simp at hi
 | c :: cs, vs, h, i, x, hi => by
  simp only [vrs] at h
  obtain ⟨v, r, rfl, hc, h⟩ := h
  cases i with
  | zero => simp at hi; subst hi; exact ⟨v, rfl, hc⟩
  | succ i => simp at hi; simpa using vrs_get h hi
theorem vrs_append : ∀ {cs ds : List MV} {vs us : List Value}, vrs φ cs vs → vrs φ ds us → vrs φ (cs ++ ds) (vs ++ us)
 | [], _, _, _, h, h' => by simp only [vrs] at h; subst h; exact h'
 | c :: cs, ds, vs, us, h, h' => by
  simp only [vrs] at h
  obtain ⟨v, r, rfl, hc, h⟩ := h
  simp only [List.cons_append, vrs]
  exact ⟨v, r ++ us, rfl, hc, vrs_append h h'⟩
theorem vrs_take : ∀ {cs : List MV} {vs : List Value} (n : Nat), vrs φ cs vs → vrs φ (cs.take n) (vs.take n)
 | [], _, n, h => by simp only [vrs] at h; subst h; simp [vrs]
 | c :: cs, vs, n, h => by
  simp only [vrs] at h
  obtain ⟨v, r, rfl, hc, h⟩ := h
  cases n with
  | zero => simp [vrs]
  | succ n => simp only [List.take_succ_cons, vrs]; exact ⟨v, _, rfl, hc, vrs_take n h⟩
theorem vrs_drop : ∀ {cs : List MV} {vs : List Value} (n : Nat), vrs φ cs vs → vrs φ (cs.drop n) (vs.drop n)
 | [], _, n, h => by simp only [vrs] at h; subst h; simp [vrs]
 | c :: cs, vs, n, h => by
  simp only [vrs] at h
  obtain ⟨v, r, rfl, hc, h⟩ := h
  cases n with
  | zero => simp only [List.drop_zero, vrs]; exact ⟨v, r, rfl, hc, h⟩
  | succ n => simpa using vrs_drop n h
theorem vrs_flat {cs : List MV} {vs : List Value} (h : vrs φ cs vs) : ∀ n : Nat, vrs φ (List.replicate n cs).flatten (List.replicate n vs).flatten
 | 0 => by simp [vrs]
 | n + 1 => by simp only [List.replicate_succ, List.flatten_cons]; exact vrs_append h (vrs_flat h n)
end
def MV.one : MV → Bool
 | .top => false
 | .agg _ => false
 | .tup _ => false
 | _ => true
def ones : List MV → Bool
 | [] => true
 | c :: cs => bif c.one then ones cs else false
theorem ones_mem : ∀ {cs : List MV}, ones cs = true → ∀ c ∈ cs, c.one = true
 | [], _, c, h => by cases h
 | x :: cs, hs, c, h => by
  simp only [ones] at hs
  cases hx : x.one with
  | false => rw [hx] at hs; cases hs
  | true =>
   rw [hx] at hs
   rcases List.mem_cons.1 h with rfl | h
   ·exact hx
   ·exact ones_mem hs c h
theorem vr_one {φ : Pl} {c : MV} {v : Value} (h : c.one = true) (hv : vr φ c v) : v.oneCell' = true := by
 cases c <;> first | (cases h; done) | (simp only [vr] at hv; subst hv; rfl) | skip
 ·simp only [vr] at hv; obtain ⟨_, _, _, _, rfl⟩ := hv; rfl
 ·simp only [vr] at hv; obtain ⟨_, _, _, _, _, rfl, _⟩ := hv; rfl
 ·simp only [vr] at hv; obtain ⟨_, _, _, _, rfl⟩ := hv; rfl
 ·simp only [vr] at hv; obtain ⟨_, _, rfl, _⟩ := hv; rfl
 ·simp only [vr] at hv; obtain ⟨_, rfl, _⟩ := hv; rfl
theorem vrs_one {φ : Pl} : ∀ {cs : List MV} {vs : List Value}, ones cs = true → vrs φ cs vs → ∀ u ∈ vs, u.oneCell' = true
 | [], vs, _, h => by simp only [vrs] at h; subst h; simp
 | c :: cs, vs, hn, h => by
  simp only [vrs] at h
  obtain ⟨v, r, rfl, hc, h⟩ := h
  intro u hu
  have h1 := ones_mem hn c (by simp)
  rcases List.mem_cons.1 hu with rfl | hu
  ·exact vr_one h1 hc
  ·refine vrs_one ?_ h u hu
   simpa [ones, h1] using hn
mutual
def MV.same : MV → MV → Bool
 | .int k n, .int k' n' => decide (k = k') && decide (n = n')
 | .bool b, .bool b' => b == b'
 | .str s, .str s' => decide (s = s')
 | .ptr i o, .ptr i' o' => Nat.beq i i' && Nat.beq o o'
 | .sl i o n c op, .sl i' o' n' c' op' => Nat.beq i i' && (Nat.beq o o' && (Nat.beq n n' && (Nat.beq c c' && op == op')))
 | .nilp, .nilp => true
 | .nils, .nils => true
 | .nilm, .nilm => true
 | .nilf, .nilf => true
 | .nili, .nili => true
 | .map i, .map i' => Nat.beq i i'
 | .fn f xs ys, .fn f' xs' ys' => Nat.beq f f' && (sames xs xs' && sames ys ys')
 | .agg cs, .agg cs' => sames cs cs'
 | .tup cs, .tup cs' => sames cs cs'
 | _, _ => false
def sames : List MV → List MV → Bool
 | [], [] => true
 | c :: cs, d :: ds => c.same d && sames cs ds
 | _, _ => false
end
mutual
theorem same_eq : ∀ (c d : MV), c.same d = true → c = d
 | .top, d, h => by cases d <;> simp [MV.same] at h
 | .int k n, d, h => by cases d <;> simp_all [MV.same]
 | .bool b, d, h => by cases d <;> simp_all [MV.same]
 | .str s, d, h => by cases d <;> simp_all [MV.same]
 | .ptr i o, d, h => by cases d <;> simp_all [MV.same]
 | .sl i o n c op, d, h => by cases d <;> simp_all [MV.same]
 | .nilp, d, h => by cases d <;> simp_all [MV.same]
 | .nils, d, h => by cases d <;> simp_all [MV.same]
 | .nilm, d, h => by cases d <;> simp_all [MV.same]
 | .nilf, d, h => by cases d <;> simp_all [MV.same]
 | .nili, d, h => by cases d <;> simp_all [MV.same]
 | .map i, d, h => by cases d <;> simp_all [MV.same]
 | .iface _ _, d, h => by cases d <;> simp [MV.same] at h
 | .fn f xs ys, d, h => by
  cases d with
  | fn f' xs' ys' =>
   simp only [MV.same, Bool.and_eq_true] at h
   rw [Nat.eq_of_beq_eq_true h.1, sames_eq xs xs' h.2.1, sames_eq ys ys' h.2.2]
  | _ => simp [MV.same] at h
 | .agg cs, d, h => by
  cases d with
  | agg cs' => rw [sames_eq cs cs' (by simpa [MV.same] using h)]
  | _ => simp [MV.same] at h
 | .tup cs, d, h => by
  cases d with
  | tup cs' => rw [sames_eq cs cs' (by simpa [MV.same] using h)]
  | _ => simp [MV.same] at h
theorem sames_eq : ∀ (cs ds : List MV), sames cs ds = true → cs = ds
 | [], [], _ => rfl
 | c :: cs, d :: ds, h => by simp only [sames, Bool.and_eq_true] at h; rw [same_eq c d h.1, sames_eq cs ds h.2]
 | [], _ :: _, h | _ :: _, [], h => by simp [sames] at h
end
inductive Tr (α : Type) where
 | nil
 | nd (l : Tr α) (v : Option α) (r : Tr α)
 deriving Inhabited
def Tr.get {α : Type} : Tr α → Nat → Option α
 | .nil, _ => none
 | .nd l v r, n => bif Nat.beq n 0 then v else bif Nat.beq (n % 2) 1 then l.get (n / 2) else r.get (n / 2 - 1)
def Tr.root {α : Type} : Tr α → Option α → Tr α
 | .nil, v => .nd .nil v .nil
 | .nd l _ r, v => .nd l v r
def Tr.setF {α : Type} : Nat → Tr α → Nat → Option α → Tr α
 | 0, t, _, v => t.root v
 | f + 1, .nil, n, v => bif Nat.beq n 0 then .nd .nil v .nil else bif Nat.beq (n % 2) 1 then .nd (Tr.setF f .nil (n / 2) v) none .nil else .nd .nil none (Tr.setF f .nil (n / 2 - 1) v)
 | f + 1, .nd l x r, n, v => bif Nat.beq n 0 then .nd l v r else bif Nat.beq (n % 2) 1 then .nd (Tr.setF f l (n / 2) v) x r else .nd l x (Tr.setF f r (n / 2 - 1) v)
def Tr.set {α : Type} (t : Tr α) (n : Nat) (v : Option α) : Tr α := Tr.setF n t n v
theorem nbeq (a b : Nat) : Nat.beq a b = decide (a = b) := by
 rw [Bool.eq_iff_iff]
 simp [Nat.beq_eq]
theorem Tr.get_nil {α : Type} (n : Nat) : (Tr.nil : Tr α).get n = none := rfl
theorem Tr.get_setF {α : Type} : ∀ (f : Nat) (t : Tr α) (n m : Nat) (v : Option α), n ≤ f → (Tr.setF f t n v).get m = if m = n then v else t.get m := by
 intro f
 induction f with
 | zero =>
  intro t n m v h
  have : n = 0 := by omega
  subst this
  cases t with
  | nil =>
   simp only [Tr.setF, Tr.root, Tr.get, nbeq, cond_eq_ite, decide_eq_true_eq]
   by_cases hm : m = 0 <;> simp [hm]
  | nd l x r =>
   simp only [Tr.setF, Tr.root, Tr.get, nbeq, cond_eq_ite, decide_eq_true_eq]
   by_cases hm : m = 0 <;> simp [hm]
 | succ f ih =>
  intro t n m v h
  have hb := nbeq
  cases t with
  | nil =>
   simp only [Tr.setF, hb, cond_eq_ite, decide_eq_true_eq]
   split
   ·rename_i hn
    subst hn
    simp only [Tr.get, hb, cond_eq_ite, decide_eq_true_eq]
    by_cases hm : m = 0 <;> simp [hm]
   ·rename_i hn
    split
    ·rename_i h2
     simp only [Tr.get, hb, cond_eq_ite, decide_eq_true_eq, ih _ _ _ _ (show n / 2 ≤ f by omega)]
     by_cases hm : m = n
     ·subst hm; simp [hn, h2]
     ·rw [if_neg hm]
      split
      ·rfl
      ·split
       ·rw [if_neg (by omega)]
       ·rfl
    ·rename_i h2
     simp only [Tr.get, hb, cond_eq_ite, decide_eq_true_eq, ih _ _ _ _ (show n / 2 - 1 ≤ f by omega)]
     by_cases hm : m = n
     ·subst hm; simp [hn, h2]
     ·rw [if_neg hm]
      split
      ·rfl
      ·split
       ·rfl
       ·rw [if_neg (by omega)]
  | nd l x r =>
   simp only [Tr.setF, hb, cond_eq_ite, decide_eq_true_eq]
   split
   ·rename_i hn
    subst hn
    simp only [Tr.get, hb, cond_eq_ite, decide_eq_true_eq]
    by_cases hm : m = 0 <;> simp [hm]
   ·rename_i hn
    split
    ·rename_i h2
     simp only [Tr.get, hb, cond_eq_ite, decide_eq_true_eq, ih _ _ _ _ (show n / 2 ≤ f by omega)]
     by_cases hm : m = n
     ·subst hm; simp [hn, h2]
     ·rw [if_neg hm]
      split
      ·rfl
      ·split
       ·rw [if_neg (by omega)]
       ·rfl
    ·rename_i h2
     simp only [Tr.get, hb, cond_eq_ite, decide_eq_true_eq, ih _ _ _ _ (show n / 2 - 1 ≤ f by omega)]
     by_cases hm : m = n
     ·subst hm; simp [hn, h2]
     ·rw [if_neg hm]
      split
      ·rfl
      ·split
       ·rfl
       ·rw [if_neg (by omega)]
theorem Tr.get_set {α : Type} (t : Tr α) (n m : Nat) (v : Option α) : (t.set n v).get m = if m = n then v else t.get m := Tr.get_setF n t n m v (Nat.le_refl _)
theorem Tr.get_set_same {α : Type} (t : Tr α) (n : Nat) (v : Option α) : (t.set n v).get n = v := by rw [Tr.get_set, if_pos rfl]
theorem Tr.get_set_ne {α : Type} (t : Tr α) {n m : Nat} (v : Option α) (h : m ≠ n) : (t.set n v).get m = t.get m := by rw [Tr.get_set, if_neg h]
inductive MO where
 | cells (sz : Nat) (e : TypeId) (cs : List MV) (op : Bool)
 | map (kk : KK) (es : List (Key × MV × Nat)) (clk : Nat)
 | ro (e : TypeId) (cs : List MV)
 deriving Inhabited
abbrev Hf := Nat → Option MO
def Hf.le (h g : Hf) : Prop := ∀ i o, h i = some o → g i = some o
theorem Hf.le_refl (h : Hf) : Hf.le h h := fun _ _ e => e
theorem Hf.le_trans {h g k : Hf} (a : Hf.le h g) (b : Hf.le g k) : Hf.le h k := fun i o e => b i o (a i o e)
def ers (φ : Pl) : List (Key × MV × Nat) → List MapEntry → Prop
 | [], l => l = []
 | x :: es, l => ∃ e r, l = e :: r ∧ e.key = x.1.val ∧ vr φ x.2.1 e.val ∧ e.born = x.2.2 ∧ ers φ es r
def ors (φ : Pl) (w : World) : MO → Nat → Nat → Nat → Prop
 | .cells sz e cs op, b, base, sp => (op = false → sp = 0) ∧ ∃ pre us post : List Value, pre.length = base ∧ post.length = sp * sz ∧ vrs φ cs us ∧ w.heap[b]? = some (.cells (pre ++ us ++ post).toArray e (0, 0))
 | .ro e cs, b, base, _ => ∃ (us post : List Value) (z : Nat × Nat), base = 0 ∧ vrs φ cs us ∧ w.heap[b]? = some (.cells (us ++ post).toArray e z)
 | .map kk es clk, b, _, _ => ∃ ents, w.heap[b]? = some (.map ents clk) ∧ ers φ es ents.toList ∧ (es.map (·.2.2)).Nodup ∧ (∀ x ∈ es, x.2.2 < clk) ∧ (∀ x ∈ es, x.1.fits kk = true) ∧ (es.map (·.1)).Nodup
theorem ers_le {φ ψ : Pl} (h : Pl.le φ ψ) : ∀ {es : List (Key × MV × Nat)} {l : List MapEntry}, ers φ es l → ers ψ es l
 | [], _, hs => hs
 | x :: es, l, hs => by
  obtain ⟨e, r, rfl, h1, h2, h3, h4⟩ := hs
  exact ⟨e, r, rfl, h1, vr_le h _ _ h2, h3, ers_le h h4⟩
theorem ors_le {φ ψ : Pl} (h : Pl.le φ ψ) {w w' : World} {o : MO} {b base sp : Nat} (hb : w'.heap[b]? = w.heap[b]?) (ho : ors φ w o b base sp) : ors ψ w' o b base sp := by
 cases o with
 | cells sz e cs op =>
  obtain ⟨h0, pre, us, post, h1, h2, h3, h4⟩ := ho
  exact ⟨h0, pre, us, post, h1, h2, vrs_le h _ _ h3, hb.trans h4⟩
 | map kk es clk =>
  obtain ⟨ents, h1, h2, h3⟩ := ho
  exact ⟨ents, hb.trans h1, ers_le h h2, h3⟩
 | ro e cs =>
  obtain ⟨us, post, z, h1, h2, h3⟩ := ho
  exact ⟨us, post, z, h1, vrs_le h _ _ h2, hb.trans h3⟩
theorem ors_lt {φ : Pl} {w : World} {o : MO} {b base sp : Nat} (ho : ors φ w o b base sp) : b < w.heap.size := by
 cases o with
 | cells sz e cs op => obtain ⟨_, _, _, _, _, _, _, h⟩ := ho; exact (Array.getElem?_eq_some_iff.1 h).1
 | map kk es clk => obtain ⟨_, h, _⟩ := ho; exact (Array.getElem?_eq_some_iff.1 h).1
 | ro e cs => obtain ⟨_, _, _, _, _, h⟩ := ho; exact (Array.getElem?_eq_some_iff.1 h).1
structure Core (w0 : World) (φ : Pl) (h : Hf) (w : World) : Prop where
 below : Blw w0.heap.size w0 w
 objs : ∀ i o, h i = some o → ∃ b base sp, φ i = some (b, base, sp) ∧ ors φ w o b base sp
 own : ∀ i o b base sp, h i = some o → φ i = some (b, base, sp) → w0.heap.size ≤ b
 disj : ∀ i j o o' b base sp base' sp', h i = some o → h j = some o' → φ i = some (b, base, sp) → φ j = some (b, base', sp') → i = j
 gw : Go.AM.GW w0 fun _ => True
theorem Core.sub {w0 w : World} {φ : Pl} {h g : Hf} (hc : Core w0 φ g w) (hl : Hf.le h g) : Core w0 φ h w :=
 ⟨hc.below, fun i o hi => hc.objs i o (hl i o hi), fun i o b base sp hi => hc.own i o b base sp (hl i o hi), fun i j o o' b base sp base' sp' hi hj => hc.disj i j o o' b base sp base' sp' (hl i o hi) (hl j o' hj), hc.gw⟩
theorem Core.grow {w0 w w' : World} {φ : Pl} {h : Hf} (hc : Core w0 φ h w) (hw : Blw w.heap.size w w') : Core w0 φ h w' := by
 refine ⟨⟨⟨hw.os.trans hc.below.os, hw.tape.trans hc.below.tape, hw.output.trans hc.below.output, Nat.le_trans hc.below.size hw.size, fun b hb => ?_⟩, Nat.le_trans hc.below.drawn hw.drawn⟩, fun i o hi => ?_, hc.own, hc.disj, hc.gw⟩
 ·exact (hw.block b (Nat.lt_of_lt_of_le hb hc.below.size)).trans (hc.below.block b hb)
 ·obtain ⟨b, base, sp, h1, h2⟩ := hc.objs i o hi
  exact ⟨b, base, sp, h1, ors_le (Pl.le_refl _) (hw.block b (ors_lt h2)) h2⟩
theorem Core.fr {w0 w : World} {φ : Pl} {h : Hf} (hc : Core w0 φ h w) : Go.AM.Fr w fun _ => True :=
 ⟨fun _ _ => trivial, hc.gw.keep (fun b hb => hc.below.block b (hc.gw.low b hb).2) hc.below.size fun _ _ => trivial⟩
def upd {α : Type} (f : Nat → α) (t : Nat) (x : α) : Nat → α := fun t' => if t' = t then x else f t'
theorem upd_same {α : Type} (f : Nat → α) (t : Nat) (x : α) : upd f t x t = x := if_pos rfl
theorem upd_other {α : Type} (f : Nat → α) {t t' : Nat} (x : α) (h : t' ≠ t) : upd f t x t' = f t' := if_neg h
theorem Pl.le_upd {φ : Pl} {i : Nat} {x : Nat × Nat × Nat} (h : φ i = none) : Pl.le φ (upd φ i (some x)) := fun j y hj => by
 rw [upd_other _ _ (fun e => by rw [e, h] at hj; cases hj)]
 exact hj
theorem Core.new {w0 w w' : World} {φ : Pl} {h : Hf} (hc : Core w0 φ h w) {i : Nat} (hi : φ i = none) {o : MO} {ob : Obj} (hw : Blw w.heap.size w w') {sp : Nat} (_hb : w'.heap[w.heap.size]? = some ob)
  (ho : ors (upd φ i (some (w.heap.size, 0, sp))) w' o w.heap.size 0 sp) : Core w0 (upd φ i (some (w.heap.size, 0, sp))) (upd h i (some o)) w' := by
 have hg := hc.grow hw
 have hne : ∀ j o', h j = some o' → j ≠ i := fun j o' hj e => by
  obtain ⟨b, base, sp, h1, _⟩ := hc.objs j o' hj
  rw [e, hi] at h1
  cases h1
 refine ⟨hg.below, fun j o' hj => ?_, fun j o' b base sp' hj hp => ?_, fun j k o1 o2 b base sp1 base' sp2 hj hk hpj hpk => ?_, hc.gw⟩
 ·by_cases hji : j = i
  ·subst hji
   rw [upd_same] at hj
   cases hj
   exact ⟨_, _, _, upd_same _ _ _, ho⟩
  ·rw [upd_other _ _ hji] at hj
   obtain ⟨b, base, sp', h1, h2⟩ := hg.objs j o' hj
   exact ⟨b, base, sp', by rw [upd_other _ _ hji]; exact h1, ors_le (Pl.le_upd hi) rfl h2⟩
 ·by_cases hji : j = i
  ·subst hji
   rw [upd_same] at hp
   cases hp
   exact hc.below.size
  ·rw [upd_other _ _ hji] at hj hp
   exact hc.own j o' b base sp' hj hp
 ·by_cases hji : j = i <;> by_cases hki : k = i
  ·rw [hji, hki]
  ·subst hji
   rw [upd_same] at hpj
   rw [upd_other _ _ hki] at hk hpk
   cases hpj
   obtain ⟨b', _, _, h1, h2⟩ := hc.objs k o2 hk
   rw [hpk] at h1
   cases h1
   exact absurd (ors_lt h2) (Nat.lt_irrefl _)
  ·subst hki
   rw [upd_same] at hpk
   rw [upd_other _ _ hji] at hj hpj
   cases hpk
   obtain ⟨b', _, _, h1, h2⟩ := hc.objs j o1 hj
   rw [hpj] at h1
   cases h1
   exact absurd (ors_lt h2) (Nat.lt_irrefl _)
  ·rw [upd_other _ _ hji] at hj hpj
   rw [upd_other _ _ hki] at hk hpk
   exact hc.disj j k o1 o2 b base sp1 base' sp2 hj hk hpj hpk
theorem Core.write {w0 w w' : World} {φ : Pl} {h : Hf} (hc : Core w0 φ h w) {i : Nat} {o o' : MO} {b base sp : Nat} (hi : h i = some o) (hp : φ i = some (b, base, sp))
  (hos : w'.os = w.os) (htape : w'.tape = w.tape) (hout : w'.output = w.output) (hdr : w.drawn ≤ w'.drawn) (hsize : w.heap.size ≤ w'.heap.size) (hblk : ∀ b', b' < w.heap.size → b' ≠ b → w'.heap[b']? = w.heap[b']?)
  (ho : ors φ w' o' b base sp) : Core w0 φ (upd h i (some o')) w' := by
 have hbase := hc.own i o b base sp hi hp
 refine ⟨⟨⟨hos.trans hc.below.os, htape.trans hc.below.tape, hout.trans hc.below.output, Nat.le_trans hc.below.size hsize, fun b' hb' => ?_⟩, Nat.le_trans hc.below.drawn hdr⟩, fun j o1 hj => ?_, fun j o1 b1 base1 sp1 hj hpj => ?_, fun j k o1 o2 b1 base1 sp1 base2 sp2 hj hk hpj hpk => ?_, hc.gw⟩
 ·exact (hblk b' (Nat.lt_of_lt_of_le hb' hc.below.size) (by omega)).trans (hc.below.block b' hb')
 ·by_cases hji : j = i
  ·subst hji
   rw [upd_same] at hj
   cases hj
   exact ⟨b, base, sp, hp, ho⟩
  ·rw [upd_other _ _ hji] at hj
   obtain ⟨b1, base1, sp1, h1, h2⟩ := hc.objs j o1 hj
   refine ⟨b1, base1, sp1, h1, ors_le (Pl.le_refl _) (hblk b1 (ors_lt h2) fun e => ?_) h2⟩
   subst e
   exact hji (hc.disj j i o1 o b1 base1 sp1 base sp hj hi h1 hp)
 ·by_cases hji : j = i
  ·subst hji
   exact hc.own j o b1 base1 sp1 hi hpj
  ·rw [upd_other _ _ hji] at hj
   exact hc.own j o1 b1 base1 sp1 hj hpj
 ·have key : ∀ j o1, upd h i (some o') j = some o1 → ∃ o2, h j = some o2 := fun j o1 hj => by
   by_cases hji : j = i
   ·subst hji; exact ⟨o, hi⟩
   ·rw [upd_other _ _ hji] at hj; exact ⟨o1, hj⟩
  obtain ⟨o3, h3⟩ := key j o1 hj
  obtain ⟨o4, h4⟩ := key k o2 hk
  exact hc.disj j k o3 o4 b1 base1 sp1 base2 sp2 h3 h4 hpj hpk
theorem Core.rename {w0 w w' : World} {φ : Pl} {h : Hf} (hc : Core w0 φ h w) {i j : Nat} {o o' : MO} {b base sp base' sp' : Nat} (hi : h i = some o) (hp : φ i = some (b, base, sp)) (hj : φ j = none)
  (hos : w'.os = w.os) (htape : w'.tape = w.tape) (hout : w'.output = w.output) (hdr : w.drawn ≤ w'.drawn) (hsize : w.heap.size ≤ w'.heap.size) (hblk : ∀ b', b' < w.heap.size → b' ≠ b → w'.heap[b']? = w.heap[b']?)
  (ho : ors (upd φ j (some (b, base', sp'))) w' o' b base' sp') : Core w0 (upd φ j (some (b, base', sp'))) (upd (upd h i none) j (some o')) w' := by
 have hbase := hc.own i o b base sp hi hp
 have key : ∀ k o1, k ≠ j → upd (upd h i none) j (some o') k = some o1 → k ≠ i ∧ h k = some o1 := fun k o1 hk he => by
  rw [upd_other _ _ hk] at he
  by_cases hki : k = i
  ·subst hki; rw [upd_same] at he; cases he
  ·rw [upd_other _ _ hki] at he; exact ⟨hki, he⟩
 refine ⟨⟨⟨hos.trans hc.below.os, htape.trans hc.below.tape, hout.trans hc.below.output, Nat.le_trans hc.below.size hsize, fun b' hb' => ?_⟩, Nat.le_trans hc.below.drawn hdr⟩, fun k o1 hk => ?_, fun k o1 b1 base1 sp1 hk hpk => ?_, fun k l o1 o2 b1 base1 sp1 base2 sp2 hk hl hpk hpl => ?_, hc.gw⟩
 ·exact (hblk b' (Nat.lt_of_lt_of_le hb' hc.below.size) (by omega)).trans (hc.below.block b' hb')
 ·by_cases hkj : k = j
  ·subst hkj
   rw [upd_same] at hk
   cases hk
   exact ⟨_, _, _, upd_same _ _ _, ho⟩
  ·obtain ⟨hki, hk'⟩ := key k o1 hkj hk
   obtain ⟨b1, base1, sp1, h1, h2⟩ := hc.objs k o1 hk'
   refine ⟨b1, base1, sp1, by rw [upd_other _ _ hkj]; exact h1, ors_le (Pl.le_upd hj) (hblk b1 (ors_lt h2) fun e => ?_) h2⟩
   subst e
   exact hki (hc.disj k i o1 o b1 base1 sp1 base sp hk' hi h1 hp)
 ·by_cases hkj : k = j
  ·subst hkj
   rw [upd_same] at hpk
   cases hpk
   exact hbase
  ·obtain ⟨hki, hk'⟩ := key k o1 hkj hk
   rw [upd_other _ _ hkj] at hpk
   exact hc.own k o1 b1 base1 sp1 hk' hpk
 ·by_cases hkj : k = j <;> by_cases hlj : l = j
  ·rw [hkj, hlj]
  ·subst hkj
   obtain ⟨hli, hl'⟩ := key l o2 hlj hl
   rw [upd_same] at hpk
   rw [upd_other _ _ hlj] at hpl
   cases hpk
   exact absurd (hc.disj l i o2 o b base2 sp2 base sp hl' hi hpl hp) hli
  ·subst hlj
   obtain ⟨hki, hk'⟩ := key k o1 hkj hk
   rw [upd_same] at hpl
   rw [upd_other _ _ hkj] at hpk
   cases hpl
   exact absurd (hc.disj k i o1 o b base1 sp1 base sp hk' hi hpk hp) hki
  ·obtain ⟨_, hk'⟩ := key k o1 hkj hk
   obtain ⟨_, hl'⟩ := key l o2 hlj hl
   rw [upd_other _ _ hkj] at hpk
   rw [upd_other _ _ hlj] at hpl
   exact hc.disj k l o1 o2 b1 base1 sp1 base2 sp2 hk' hl' hpk hpl
end Go.MX
namespace Go.MX
open Go.RowKit
open Go.AM (Blw Key KK TI TabFact Tab TabOk Tb TbOk addr_add)
def ofV1 : Value → MV
 | .int k n => .int k n
 | .bool b => .bool b
 | .string s => .str s.data.toList
 | .pointer none => .nilp
 | .slice none 0 0 => .nils
 | .map none => .nilm
 | .nilFunc => .nilf
 | .nilIface => .nili
 | _ => .top
def ofV : Value → MV
 | .agg arr => .agg (arr.toList.map ofV1)
 | .tuple arr => .tup (arr.toList.map ofV1)
 | v => ofV1 v
section
variable {φ : Pl}
theorem vr_ofV1 (v : Value) : vr φ (ofV1 v) v := by
 unfold ofV1
 split <;> simp [vr]
theorem vrs_ofV1 : ∀ l : List Value, vrs φ (l.map ofV1) l
 | [] => by simp [vrs]
 | v :: l => by simp only [List.map_cons, vrs]; exact ⟨v, l, rfl, vr_ofV1 v, vrs_ofV1 l⟩
theorem vr_ofV (v : Value) : vr φ (ofV v) v := by
 unfold ofV
 split
 ·simp only [vr]; exact ⟨_, rfl, vrs_ofV1 _⟩
 ·simp only [vr]; exact ⟨_, rfl, vrs_ofV1 _⟩
 ·exact vr_ofV1 v
end
abbrev Env := Nat → MV
def oev (ρ : Env) : Operand → MV
 | .tmp t => ρ t
 | .const v => ofV v
 | .global _ => .top
 | .func f => .fn f [] []
theorem vr_oev {φ : Pl} {ρ : Env} {a : Act} (h : ∀ t, vr φ (ρ t) (a.tmps.getD t undef)) (x : Operand) : vr φ (oev ρ x) (a.eval x) := by
 cases x with
 | tmp t => exact h t
 | const v => exact vr_ofV v
 | global g => simp [oev, vr]
 | func f => simp only [oev, vr]; exact ⟨#[], #[], rfl, by simp [vrs], by simp [vrs]⟩
def mcells : MV → List MV
 | .agg cs => cs
 | v => [v]
theorem mcells_sound {φ : Pl} {x : MV} {u : Value} (h : vr φ x u) (ho : ones (mcells x) = true) : vrs φ (mcells x) u.cells.toList := by
 have key : x.one = true → mcells x = [x] → vrs φ (mcells x) u.cells.toList := fun h1 h2 => by
  have h3 : u.cells = #[u] := Go.AM.oneCell_cells (vr_one h1 h)
  rw [h2, h3]
  simp only [vrs]
  exact ⟨u, [], rfl, h, rfl⟩
 cases x with
 | agg cs => simp only [vr] at h; obtain ⟨arr, rfl, h⟩ := h; exact h
 | top => simp [mcells, ones, MV.one] at ho
 | tup cs => simp [mcells, ones, MV.one] at ho
 | _ => exact key rfl rfl
def mload (tb : Tb) (h : Hf) (t : TypeId) (x : MV) : Option MV := match tb.ty t with
 | none => none
 | some ti => match x with
  | .ptr i o => match h i with
   | some (.cells _ _ cs _) => match ti.agg with
    | true => match Nat.beq ((cs.drop o).take ti.size).length ti.size with
     | true => some (.agg ((cs.drop o).take ti.size))
     | false => none
    | false => cs[o]?
   | some (.ro _ cs) => match ti.agg with
    | true => none
    | false => cs[o]?
   | _ => none
  | _ => none
def mfield (tb : Tb) (t : TypeId) (x : MV) (k : Nat) : Option MV := match tb.ty t with
 | none => none
 | some ti => match ti.desc, ti.offs[k]? with
  | .struct _, some (off, sz) => match Nat.beq sz 0 with
   | true => none
   | false => match x with
    | .ptr i o => some (.ptr i (o + off))
    | _ => none
  | _, _ => none
def mpart (tb : Tb) (t : TypeId) (cs : List MV) (off : Nat) : Option MV := match tb.ty t with
 | none => none
 | some ti => match ti.agg with
  | true => match Nat.beq ((cs.drop off).take ti.size).length ti.size with
   | true => some (.agg ((cs.drop off).take ti.size))
   | false => none
  | false => cs[off]?
def mfieldV (tb : Tb) (t : TypeId) (x : MV) (k : Nat) : Option MV := match tb.ty t with
 | none => none
 | some ti => match ti.desc with
  | .struct fs => match fs[k]?, x with
   | some f, .agg cs => mpart tb f.type cs f.offset
   | _, _ => none
  | _ => none
def natOf : Int → Option Nat
 | .ofNat n => some n
 | .negSucc _ => none
def mindexAddr (tb : Tb) (t : TypeId) (x i : MV) : Option MV := match tb.ty t, i with
 | some ti, .int _ k => match natOf k with
  | none => none
  | some n => match ti.desc, x with
   | .slice e, .sl j o m _ _ => match tb.ty e, Nat.blt n m with
    | some te, true => some (.ptr j (o + n * te.size))
    | _, _ => none
   | .array m e, .ptr j o => match tb.ty e, Nat.blt n m with
    | some te, true => some (.ptr j (o + n * te.size))
    | _, _ => none
   | _, _ => none
 | _, _ => none
def mindexV (tb : Tb) (t : TypeId) (x i : MV) : Option MV := match tb.ty t, i with
 | some ti, .int _ k => match natOf k with
  | none => none
  | some n => match ti.desc, x with
   | .string, .str s => match s[n]? with
    | some b => some (.int .u8 b.toNat)
    | none => none
   | .array m e, .agg cs => match tb.ty e, Nat.blt n m with
    | some te, true => mpart tb e cs (n * te.size)
    | _, _ => none
   | _, _ => none
 | _, _ => none
def bnd (d : Nat) : Option MV → Option Nat
 | none => some d
 | some (.int _ n) => natOf n
 | some _ => none
def hmx : Option MV → Option MV → Bool
 | none, some _ => false
 | _, _ => true
def mslice (tb : Tb) (t : TypeId) (x : MV) (lo hi mx : Option MV) : Option MV := match tb.ty t, hmx hi mx with
 | none, _ => none
 | _, false => none
 | some ti, true => match ti.desc, x with
  | .string, .str s => match mx, bnd 0 lo, bnd s.length hi with
   | none, some l, some h => match Nat.ble l h, Nat.ble h s.length with
    | true, true => some (.str ((s.take h).drop l))
    | _, _ => none
   | _, _, _ => none
  | .slice e, .sl i o n c op => match tb.ty e, bnd 0 lo, bnd n hi, bnd c mx with
   | some te, some l, some h, some m => match Nat.ble l h, Nat.ble h m, Nat.ble m c with
    | true, true, true => some (.sl i (o + l * te.size) (h - l) (m - l) (match mx with | none => op | some _ => false))
    | _, _, _ => none
   | _, _, _, _ => none
  | .slice e, .nils => match tb.ty e, mx, bnd 0 lo, bnd 0 hi with
   | some _, none, some 0, some 0 => some .nils
   | _, _, _, _ => none
  | .array n e, .ptr i o => match tb.ty e, bnd 0 lo, bnd n hi, bnd n mx with
   | some te, some l, some h, some m => match Nat.ble l h, Nat.ble h m, Nat.ble m n, Nat.ble n 1000000 with
    | true, true, true, true => some (.sl i (o + l * te.size) (h - l) (m - l) false)
    | _, _, _, _ => none
   | _, _, _, _ => none
  | _, _ => none
def mbinI (op : BinOp) (k : IntKind) (a b : Int) : Option MV := match op with
 | .add => some (.int k (k.wrap (a + b)))
 | .sub => some (.int k (k.wrap (a - b)))
 | .mul => some (.int k (k.wrap (a * b)))
 | .quo => match b with
  | .ofNat 0 => none
  | _ => some (.int k (k.wrap (a.tdiv b)))
 | .rem => match b with
  | .ofNat 0 => none
  | _ => some (.int k (a.tmod b))
 | .and => some (.int k (k.wrap ((BitVec.ofInt k.bits a &&& BitVec.ofInt k.bits b).toNat)))
 | .or => some (.int k (k.wrap ((BitVec.ofInt k.bits a ||| BitVec.ofInt k.bits b).toNat)))
 | .xor => some (.int k (k.wrap ((BitVec.ofInt k.bits a ^^^ BitVec.ofInt k.bits b).toNat)))
 | .andNot => some (.int k (k.wrap ((BitVec.ofInt k.bits a &&& ~~~BitVec.ofInt k.bits b).toNat)))
 | .eql => some (.bool (decide (a = b)))
 | .neq => some (.bool !(decide (a = b)))
 | .lss => some (.bool (decide (a < b)))
 | .leq => some (.bool (decide (a ≤ b)))
 | .gtr => some (.bool (decide (b < a)))
 | .geq => some (.bool (decide (b ≤ a)))
 | .shl => match natOf b with
  | some n => some (.int k (k.wrap (a * 2 ^ min n k.bits)))
  | none => none
 | .shr => match natOf b with
  | some n => some (.int k (a.fdiv (2 ^ min n k.bits)))
  | none => none
def isShift : BinOp → Bool
 | .shl => true
 | .shr => true
 | _ => false
def mneg (op : BinOp) (b : Bool) : Option MV := match op with
 | .eql => some (.bool b)
 | .neq => some (.bool !b)
 | _ => none
def eqL : List UInt8 → List UInt8 → Bool
 | [], [] => true
 | a :: l, b :: m => match Nat.beq a.toNat b.toNat with
  | true => eqL l m
  | false => false
 | _, _ => false
def mbinS (op : BinOp) (x y : List UInt8) : Option MV := match op with
 | .add => match Nat.ble (x.length + y.length) 9223372036854775807 with
  | true => some (.str (x ++ y))
  | false => none
 | .lss => some (.bool (Op.bytesLess x y))
 | .leq => some (.bool (Op.bytesLess x y || eqL x y))
 | .gtr => some (.bool !(Op.bytesLess x y || eqL x y))
 | .geq => some (.bool !(Op.bytesLess x y))
 | op => mneg op (eqL x y)
def eqCs : List MV → List MV → Option Bool
 | [], [] => some true
 | .int k a :: xs, .int k' b :: ys => match decide (k = k'), eqCs xs ys with
  | true, some t => some (decide (a = b) && t)
  | _, _ => none
 | _, _ => none
def mbin (tb : Tb) (op : BinOp) (t : TypeId) (x y : MV) : Option MV := match x, y with
 | .int k a, .int k' b => match isShift op with
  | true => mbinI op k a b
  | false => match decide (k = k') with
   | true => mbinI op k a b
   | false => none
 | .str a, .str b => mbinS op a b
 | .bool a, .bool b => match tb.ty t with
  | some ti => match ti.desc with
   | .bool => mneg op (a == b)
   | _ => none
  | none => none
 | .agg xs, .agg ys => match tb.eqn t with
  | some n => match Nat.beq xs.length n, Nat.beq ys.length n, eqCs xs ys with
   | true, true, some b => mneg op b
   | _, _, _ => none
  | none => none
 | .nils, .nils => match tb.ty t with
  | some ti => match ti.desc with | .slice _ => mneg op true | _ => none
  | none => none
 | .sl _ _ _ _ _, .nils => match tb.ty t with
  | some ti => match ti.desc with | .slice _ => mneg op false | _ => none
  | none => none
 | .nilp, .nilp => match tb.ty t with
  | some ti => match ti.desc with | .pointer _ => mneg op true | _ => none
  | none => none
 | .ptr _ _, .nilp => match tb.ty t with
  | some ti => match ti.desc with | .pointer _ => mneg op false | _ => none
  | none => none
 | .nilm, .nilm => match tb.ty t with
  | some ti => match ti.desc with | .map _ _ => mneg op true | _ => none
  | none => none
 | .map _, .nilm => match tb.ty t with
  | some ti => match ti.desc with | .map _ _ => mneg op false | _ => none
  | none => none
 | .nilf, .nilf => match tb.ty t with
  | some ti => match ti.desc with | .func _ _ _ => mneg op true | _ => none
  | none => none
 | .fn _ _ _, .nilf => match tb.ty t with
  | some ti => match ti.desc with | .func _ _ _ => mneg op false | _ => none
  | none => none
 | _, _ => none
def mun (op : UnOp) (x : MV) : Option MV := match op, x with
 | .not, .bool b => some (.bool !b)
 | .neg, .int k n => some (.int k (k.wrap (0 - n)))
 | .xor, .int k n => some (.int k (k.wrap ((BitVec.ofInt k.bits (if k.signed then -1 else k.max) ^^^ BitVec.ofInt k.bits n).toNat)))
 | _, _ => none
def bytesOf : List MV → Option (List UInt8)
 | [] => some []
 | .int .u8 n :: cs => match bytesOf cs with
  | some l => some (UInt8.ofNat n.toNat :: l)
  | none => none
 | _ => none
def mconv (tb : Tb) (h : Hf) (src dst : TypeId) (x : MV) : Option MV := match tb.ty src, tb.ty dst, x with
 | some _, some td, .int _ n => match td.desc with
  | .int k => some (.int k (k.wrap n))
  | _ => none
 | some _, some td, .str s => match td.desc with
  | .string => some (.str s)
  | _ => none
 | some ts, some td, .sl i o n _ _ => match ts.desc, td.desc with
  | .slice e, .string => match tb.ty e with
   | some te => match te.desc, h i with
    | .int .u8, some (.cells _ _ cs _) => match Nat.beq ((cs.drop o).take n).length n, bytesOf ((cs.drop o).take n) with
     | true, some l => some (.str l)
     | _, _ => none
    | _, _ => none
   | none => none
  | _, _ => none
 | some ts, some td, .nils => match ts.desc, td.desc with
  | .slice e, .string => match tb.ty e with
   | some te => match te.desc with
    | .int .u8 => some (.str [])
    | _ => none
   | none => none
  | _, _ => none
 | _, _, _ => none
def mfill (cs : List MV) (place : Nat → Option (Nat × Nat)) : List (Nat × MV) → Option (List MV)
 | [] => some cs
 | (i, v) :: r => match place i with
  | some (off, sz) => match Nat.beq (mcells v).length sz, Nat.ble (off + sz) cs.length, ones (mcells v) with
   | true, true, true => mfill (cs.take off ++ (mcells v ++ cs.drop (off + sz))) place r
   | _, _, _ => none
  | none => none
def mbuild (tb : Tb) (t : TypeId) (parts : List (Nat × MV)) : Option MV := match tb.ty t with
 | some ti => match ti.desc with
  | .struct _ => match mfill (mcells (ofV ti.zv)) (fun i => ti.offs[i]?) parts, ofV ti.zv with
   | some cs, .agg _ => some (.agg cs)
   | _, _ => none
  | .array _ e => match tb.ty e with
   | some te => match mfill (mcells (ofV ti.zv)) (fun i => some (i * te.size, te.size)) parts, ofV ti.zv with
    | some cs, .agg _ => some (.agg cs)
    | _, _ => none
   | none => none
  | _ => none
 | none => none
def mlen (tb : Tb) (h : Hf) (t : TypeId) (x : MV) : Option MV := match tb.ty t with
 | none => none
 | some ti => match ti.desc, x with
  | .slice _, .sl _ _ n _ _ => some (.int .i64 n)
  | .slice _, .nils => some (.int .i64 0)
  | .string, .str s => some (.int .i64 s.length)
  | .array n _, _ => some (.int .i64 n)
  | .map _ _, .nilm => some (.int .i64 0)
  | .map _ _, .map i => match h i with
   | some (.map _ es _) => some (.int .i64 es.length)
   | _ => none
  | _, _ => none
def mcap (tb : Tb) (t : TypeId) (x : MV) : Option MV := match tb.ty t with
 | none => none
 | some ti => match ti.desc, x with
  | .slice _, .sl _ _ _ c false => some (.int .i64 c)
  | .slice _, .nils => some (.int .i64 0)
  | .array n _, _ => some (.int .i64 n)
  | _, _ => none
def mmax : MV → List MV → Option MV
 | .int k a, [] => some (.int k a)
 | .int k a, .int k' b :: r => match decide (k = k') with
  | true => mmax (.int k (if b > a then b else a)) r
  | false => none
 | _, _ => none
def mmin : MV → List MV → Option MV
 | .int k a, [] => some (.int k a)
 | .int k a, .int k' b :: r => match decide (k = k') with
  | true => mmin (.int k (if b < a then b else a)) r
  | false => none
 | _, _ => none
def intsOf : List MV → Option (List Int)
 | [] => some []
 | .int .i64 n :: cs => match intsOf cs with
  | some l => some (n :: l)
  | none => none
 | _ => none
def mkey : MV → Option Key
 | .int k n => some (.int k n)
 | .str s => some (.str s)
 | .agg cs => match intsOf cs with
  | some l => some (.ints l)
  | none => none
 | _ => none
def eqInts : List Int → List Int → Bool
 | [], [] => true
 | a :: l, b :: m => match decide (a = b) with
  | true => eqInts l m
  | false => false
 | _, _ => false
def eqK : Key → Key → Bool
 | .int k n, .int k' n' => decide (k = k') && decide (n = n')
 | .str s, .str s' => eqL s s'
 | .ints l, .ints l' => eqInts l l'
 | _, _ => false
def mget : List (Key × MV × Nat) → Key → Option MV
 | [], _ => none
 | x :: es, k => match eqK x.1 k with
  | true => some x.2.1
  | false => mget es k
def mlookup (tb : Tb) (h : Hf) (t : TypeId) (m k : MV) (ok : Bool) : Option MV := match tb.ty t, mkey k with
 | some ti, some key => match ti.desc with
  | .map kt e => match tb.ty e, m with
   | some te, .map i => match h i with
    | some (.map kk es _) => match decide (tb.key kt = some kk), key.fits kk with
     | true, true => match mget es key, ok with
      | some u, true => some (.tup [u, .bool true])
      | some u, false => some u
      | none, true => some (.tup [ofV te.zv, .bool false])
      | none, false => some (ofV te.zv)
     | _, _ => none
    | _ => none
   | _, _ => none
  | _ => none
 | _, _ => none
def mextract (x : MV) (i : Nat) : Option MV := match x with
 | .tup us => us[i]?
 | _ => none
def mpick (c a b : MV) : Option MV := match c with
 | .bool true => some a
 | .bool false => some b
 | _ => none
def mnil (x : MV) : Option MV := match x with
 | .ptr i o => some (.ptr i o)
 | .fn f xs ys => some (.fn f xs ys)
 | _ => none
def qev (tb : Tb) (h : Hf) (x : Operand → MV) : Op → Option MV
 | .move a => some (x a)
 | .assign a => some (x a)
 | .pick c a b => mpick (x c) (x a) (x b)
 | .load t a => mload tb h t (x a)
 | .nilCheck a => mnil (x a)
 | .fieldAddr t a k => mfield tb t (x a) k
 | .field t a k => mfieldV tb t (x a) k
 | .indexAddr t a i => mindexAddr tb t (x a) (x i)
 | .index t a i => mindexV tb t (x a) (x i)
 | .slice t a lo hi mx => mslice tb t (x a) (lo.map x) (hi.map x) (mx.map x)
 | .binOp op t a b _ => mbin tb op t (x a) (x b)
 | .unOp op _ a => mun op (x a)
 | .convert src dst a => mconv tb h src dst (x a)
 | .build t parts => mbuild tb t (parts.toList.map fun p => (p.1, x p.2))
 | .extract a i => mextract (x a) i
 | .makeFunc (.func f) first caps => some (.fn f (first.toList.map x) (caps.toList.map x))
 | .lookup t m k ok => mlookup tb h t (x m) (x k) ok
 | .call { callee := .builtin b, args := args, argTypes := ts } => match b, args.toList, ts.toList with
  | .len, [a], [t] => mlen tb h t (x a)
  | .cap, [a], [t] => mcap tb t (x a)
  | .max, a :: r, _ => mmax (x a) (r.map x)
  | .min, a :: r, _ => mmin (x a) (r.map x)
  | _, _, _ => none
 | _ => none
end Go.MX
namespace Go.MX
open Go.RowKit
open Go.AM (Blw Key KK TI TabFact Tab TabOk Tb TbOk addr_add)
def Here (P : Program) (φ : Pl) (s : Sem Value) (w : World) (v : MV) : Prop := ∃ u, s.run P w = .ok u w ∧ vr φ v u
section
variable {P : Program} {φ : Pl} {w w0 : World} {tb : Tb} {h g : Hf}
theorem cell_at (b j : Nat) (c : Array Value) (e : TypeId) (fz : Nat × Nat) (hh : w.heap[b]? = some (.cells c e fz)) : w.cell? ⟨b, j, none⟩ = c[j]? := by
 simp [World.cell?, hh]
theorem mem_cells {sz : Nat} {e : TypeId} {cs : List MV} {op : Bool} {b base sp : Nat} (ho : ors φ w (.cells sz e cs op) b base sp) : ∃ us : List Value, vrs φ cs us ∧ ∀ (j : Nat) (u : Value), us[j]? = some u → w.cell? ⟨b, base + j, none⟩ = some u := by
 obtain ⟨_, pre, us, post, h1, h2, h3, h4⟩ := ho
 refine ⟨us, h3, fun j u hj => ?_⟩
 have hjl : j < us.length := (List.getElem?_eq_some_iff.1 hj).1
 rw [cell_at b (base + j) _ e (0, 0) h4]
 rw [List.getElem?_toArray, List.append_assoc, List.getElem?_append_right (by omega), List.getElem?_append_left (by omega)]
 rw [h1, Nat.add_sub_cancel_left]
 exact hj
theorem mem_ro {e : TypeId} {cs : List MV} {b base sp : Nat} (ho : ors φ w (.ro e cs) b base sp) : ∃ us : List Value, vrs φ cs us ∧ ∀ (j : Nat) (u : Value), us[j]? = some u → w.cell? ⟨b, base + j, none⟩ = some u := by
 obtain ⟨us, post, z, rfl, h2, h3⟩ := ho
 refine ⟨us, h2, fun j u hj => ?_⟩
 have hjl : j < us.length := (List.getElem?_eq_some_iff.1 hj).1
 rw [cell_at b (0 + j) _ e z h3, List.getElem?_toArray, List.getElem?_append_left (by omega), Nat.zero_add]
 exact hj
theorem Core.obj (hc : Core w0 φ g w) (hl : Hf.le h g) {i : Nat} {o : MO} (hi : h i = some o) {b base sp : Nat} (hp : φ i = some (b, base, sp)) : ors φ w o b base sp := by
 obtain ⟨b', base', sp', h1, h2⟩ := hc.objs i o (hl i o hi)
 rw [hp] at h1
 cases h1
 exact h2
theorem take_ok {cs : List MV} {o n : Nat} (h : Nat.beq ((cs.drop o).take n).length n = true) : ((cs.drop o).take n).length = n := Nat.eq_of_beq_eq_true h
theorem mload_sound (ht : TbOk P tb) (hc : Core w0 φ g w) (hl : Hf.le h g) {t : TypeId} {x v : MV} {u : Value} (hv : mload tb h t x = some v) (hx : vr φ x u) : Here P φ (Instr.loadAt t u) w v := by
 unfold mload at hv
 split at hv
 ·cases hv
 ·rename_i ti hty
  have T := ht.ty t ti hty
  split at hv
  ·rename_i i o
   simp only [vr] at hx
   obtain ⟨b, base, sp, hp, rfl⟩ := hx
   split at hv
   ·rename_i sz e cs op hi
    obtain ⟨us, h1, h2⟩ := mem_cells (hc.obj hl hi hp)
    split at hv
    ·rename_i hagg
     split at hv
     ·rename_i hlen
      cases hv
      have hlen := take_ok hlen
      have h3 := vrs_take ti.size (vrs_drop o h1)
      have h4 : ((us.drop o).take ti.size).length = ti.size := by rw [← vrs_length h3, hlen]
      refine ⟨.agg ((us.drop o).take ti.size).toArray, ?_, by simp only [vr]; exact ⟨_, rfl, by simpa using h3⟩⟩
      have := run_loadCells_list (P := P) w ⟨b, base + o, none⟩ ((us.drop o).take ti.size) (fun j u hj => by
       rw [addr_add, Nat.add_assoc]
       rw [List.getElem?_take] at hj
       split at hj
       ·rw [List.getElem?_drop] at hj
        exact h2 _ u hj
       ·cases hj)
      rw [h4] at this
      simp [Instr.loadAt, Instr.sureAddr, loadVar, T.run_agg, T.run_size, hagg, this]
     ·cases hv
    ·rename_i hagg
     obtain ⟨u, hu, hcu⟩ := vrs_get h1 hv
     refine ⟨u, ?_, hcu⟩
     simp [Instr.loadAt, Instr.sureAddr, loadVar, T.run_agg, hagg, load, Sem.run, h2 o u hu]
   ·rename_i e cs hi
    obtain ⟨us, h1, h2⟩ := mem_ro (hc.obj hl hi hp)
    split at hv
    ·cases hv
    ·rename_i hagg
     obtain ⟨u, hu, hcu⟩ := vrs_get h1 hv
     refine ⟨u, ?_, hcu⟩
     simp [Instr.loadAt, Instr.sureAddr, loadVar, T.run_agg, hagg, load, Sem.run, h2 o u hu]
   ·cases hv
  ·cases hv
theorem mfield_sound (ht : TbOk P tb) {t : TypeId} {x v : MV} {k : Nat} {u : Value} (hv : mfield tb t x k = some v) (hx : vr φ x u) : Here P φ (Instr.fieldAt t u k) w v := by
 unfold mfield at hv
 split at hv
 ·cases hv
 ·rename_i ti hty
  have T := ht.ty t ti hty
  split at hv
  ·rename_i fs off sz hd hk
   have ho := T.offs fs hd
   rw [ho, List.getElem?_map] at hk
   cases hf : fs.toList[k]? with
   | none => rw [hf] at hk; cases hk
   | some f =>
    rw [hf] at hk
    simp only [Option.map_some, Option.some.injEq, Prod.mk.injEq] at hk
    obtain ⟨h1, h2⟩ := hk
    have hf' : fs[k]? = some f := by simpa using hf
    split at hv
    ·cases hv
    ·rename_i hsz
     have hsz : sz ≠ 0 := fun e => by rw [nbeq, e] at hsz; simp at hsz
     split at hv
     ·cases hv
      simp only [vr] at hx
      obtain ⟨b, base, sp, hp, rfl⟩ := hx
      refine ⟨_, ?_, by simp only [vr]; exact ⟨b, base, sp, hp, rfl⟩⟩
      have hi : ∃ i, P.info? f.type = some i ∧ i.size = sz := by
       unfold Program.cellsOf at h2
       cases hi : P.info? f.type with
       | none => rw [hi] at h2; simp at h2; exact absurd h2.symm hsz
       | some i => rw [hi] at h2; simp at h2; exact ⟨i, rfl, h2⟩
      obtain ⟨i, hi, hi'⟩ := hi
      have hrun : (sizeOf f.type).run P w = .ok sz w := by simp [sizeOf, typeInfo, hi, hi']
      unfold Instr.fieldAt
      simp only [Sem.run_bind, T.run_und, Result.andThen_ok, hd, hf', Instr.sureAddr, Sem.run_pure, fieldPlace]
      simp [hrun, hsz, addr_add, h1, Nat.add_assoc]
     ·cases hv
  ·cases hv
theorem vrs_extract {cs : List MV} {arr : Array Value} (hs : vrs φ cs arr.toList) (o n : Nat) : vrs φ ((cs.drop o).take n) (arr.extract o (o + n)).toList := by
 have := vrs_take n (vrs_drop o hs)
 rw [Array.toList_extract, List.extract_eq_take_drop, Nat.add_sub_cancel_left]
 exact this
theorem mpart_sound (ht : TbOk P tb) {t : TypeId} {cs : List MV} {off : Nat} {v : MV} {arr : Array Value} (hv : mpart tb t cs off = some v) (hx : vrs φ cs arr.toList) : Here P φ (part t arr off) w v := by
 unfold mpart at hv
 split at hv
 ·cases hv
 ·rename_i ti hty
  have T := ht.ty t ti hty
  split at hv
  ·rename_i hagg
   split at hv
   ·cases hv
    refine ⟨.agg (arr.extract off (off + ti.size)), ?_, by simp only [vr]; exact ⟨_, rfl, vrs_extract hx _ _⟩⟩
    simp [part, T.run_agg, hagg, T.run_size]
   ·cases hv
  ·rename_i hagg
   obtain ⟨u, hu, hcu⟩ := vrs_get hx hv
   refine ⟨u, ?_, hcu⟩
   have : arr[off]? = some u := by simpa using hu
   simp [part, T.run_agg, hagg, this]
theorem mfieldV_sound (ht : TbOk P tb) {t : TypeId} {x v : MV} {k : Nat} {u : Value} (hv : mfieldV tb t x k = some v) (hx : vr φ x u) : Here P φ (Instr.field t u k) w v := by
 unfold mfieldV at hv
 split at hv
 ·cases hv
 ·rename_i ti hty
  have T := ht.ty t ti hty
  split at hv
  ·rename_i fs hd
   split at hv
   ·rename_i f cs hf
    simp only [vr] at hx
    obtain ⟨arr, rfl, hx⟩ := hx
    obtain ⟨y, h1, h2⟩ := mpart_sound (P := P) (w := w) ht hv hx
    exact ⟨y, by simp [Instr.field, T.run_und, hd, hf, asAgg, h1], h2⟩
   ·cases hv
  ·cases hv
theorem natOf_eq {k : Int} {n : Nat} (h : natOf k = some n) : k = n := by
 unfold natOf at h
 split at h
 ·cases h; rfl
 ·cases h
theorem blt_lt {n m : Nat} (h : Nat.blt n m = true) : n < m := by
 exact Nat.le_of_ble_eq_true h
theorem mindexAddr_sound (ht : TbOk P tb) {t : TypeId} {x i v : MV} {u q : Value} (hv : mindexAddr tb t x i = some v) (hx : vr φ x u) (hi : vr φ i q) : Here P φ (Instr.indexAt t u q) w v := by
 unfold mindexAddr at hv
 split at hv
 ·rename_i ti k' k hty
  have T := ht.ty t ti hty
  simp only [vr] at hi
  subst hi
  split at hv
  ·cases hv
  ·rename_i n hn
   have hn := natOf_eq hn
   subst hn
   split at hv
   ·rename_i e j o m c op hd
    split at hv
    ·rename_i te hte hlt
     have TE := ht.ty e te hte
     have hlt := blt_lt hlt
     cases hv
     simp only [vr] at hx
     obtain ⟨b, base, sp, a, hp, rfl, hnc, _, ha⟩ := hx
     have ha := ha (by omega)
     subst ha
     refine ⟨.pointer (some ⟨b, base + o + n * te.size, none⟩), ?_, by simp only [vr]; exact ⟨b, base, sp, hp, by rw [Nat.add_assoc]⟩⟩
     have h2 : (n : Int) < (m : Int) := by omega
     simp [Instr.indexAt, asIntOf, T.run_und, hd, TE.run_size, hlt, addr_add]
    ·cases hv
   ·rename_i m e j o hd
    split at hv
    ·rename_i te hte hlt
     have TE := ht.ty e te hte
     have hlt := blt_lt hlt
     cases hv
     simp only [vr] at hx
     obtain ⟨b, base, sp, hp, rfl⟩ := hx
     refine ⟨.pointer (some ⟨b, base + o + n * te.size, none⟩), ?_, by simp only [vr]; exact ⟨b, base, sp, hp, by rw [Nat.add_assoc]⟩⟩
     have h2 : (n : Int) < (m : Int) := by omega
     simp [Instr.indexAt, Instr.sureAddr, asIntOf, T.run_und, hd, TE.run_size, hlt, addr_add]
    ·cases hv
   ·cases hv
 ·cases hv
theorem bytes_get (s : List UInt8) (n : Nat) : (⟨s.toArray⟩ : ByteArray)[n]? = s[n]? := by
 by_cases hn : n < s.length
 ·rw [List.getElem?_eq_getElem hn]
  have : n < (⟨s.toArray⟩ : ByteArray).size := by simpa [ByteArray.size] using hn
  rw [getElem?_pos _ n this]
  simp [ByteArray.getElem_eq_getElem_data]
 ·rw [List.getElem?_eq_none (by omega)]
  have : ¬ n < (⟨s.toArray⟩ : ByteArray).size := by simpa [ByteArray.size] using hn
  rw [getElem?_neg _ n this]
theorem mindexV_sound (ht : TbOk P tb) {t : TypeId} {x i v : MV} {u q : Value} (hv : mindexV tb t x i = some v) (hx : vr φ x u) (hi : vr φ i q) : Here P φ (Instr.index t u q) w v := by
 unfold mindexV at hv
 split at hv
 ·rename_i ti k' k hty
  have T := ht.ty t ti hty
  simp only [vr] at hi
  subst hi
  split at hv
  ·cases hv
  ·rename_i n hn
   have hn := natOf_eq hn
   subst hn
   split at hv
   ·rename_i s hd
    split at hv
    ·rename_i bt hb
     cases hv
     simp only [vr] at hx
     subst hx
     refine ⟨.int .u8 bt.toNat, ?_, by simp [vr]⟩
     have := bytes_get s n
     rw [hb] at this
     simp [Instr.index, asIntOf, T.run_und, hd, this]
    ·cases hv
   ·rename_i m e cs hd
    split at hv
    ·rename_i te hte hlt
     have TE := ht.ty e te hte
     have hlt := blt_lt hlt
     simp only [vr] at hx
     obtain ⟨arr, rfl, hx⟩ := hx
     obtain ⟨y, h1, h2⟩ := mpart_sound (P := P) (w := w) ht hv hx
     have h3 : (n : Int) < (m : Int) := by omega
     exact ⟨y, by simp [Instr.index, asIntOf, T.run_und, hd, TE.run_size, hlt, h1], h2⟩
    ·cases hv
   ·cases hv
 ·cases hv
def ovr (φ : Pl) : Option MV → Option Value → Prop
 | none, none => True
 | some x, some u => vr φ x u
 | _, _ => False
theorem bnd_sound {d : Nat} {x : Option MV} {u : Option Value} {l : Nat} (h : bnd d x = some l) (hx : ovr φ x u) : (x = none ∧ u = none ∧ l = d) ∨ ∃ k, x.isSome = true ∧ u = some (.int k l) := by
 cases x with
 | none =>
  cases u with
  | none => simp only [bnd, Option.some.injEq] at h; exact .inl ⟨rfl, rfl, h.symm⟩
  | some u => exact hx.elim
 | some x =>
  cases u with
  | none => exact hx.elim
  | some u =>
   cases x with
   | int k n =>
    simp only [bnd] at h
    have := natOf_eq h
    subst this
    simp only [ovr, vr] at hx
    exact .inr ⟨k, rfl, by rw [hx]⟩
   | _ => simp [bnd] at h
theorem run_bounds {isSlice : Bool} {len cap k : Nat} {lo hi mx : Option MV} {ulo uhi umx : Option Value} {l h m : Nat} (hh : hmx hi mx = true) (h1 : bnd 0 lo = some l) (h2 : bnd len hi = some h) (h3 : bnd cap mx = some m) (hlh : l ≤ h) (hhm : h ≤ m)
  (hmc : m ≤ cap + k) (hlo : ovr φ lo ulo) (hhi : ovr φ hi uhi) (hmx' : ovr φ mx umx) : (Instr.sliceBounds isSlice len (cap + k) ulo uhi umx).run P w = .ok (l, h, if mx.isSome then m else cap + k) w := by
 rcases bnd_sound h1 hlo with ⟨rfl, rfl, rfl⟩ | ⟨k1, hl1, rfl⟩ <;> rcases bnd_sound h2 hhi with ⟨rfl, rfl, rfl⟩ | ⟨k2, hl2, rfl⟩ <;> rcases bnd_sound h3 hmx' with ⟨rfl, rfl, rfl⟩ | ⟨k3, hl3, rfl⟩
 all_goals first
  | (exfalso; revert hh; cases mx <;> simp_all [hmx]; done)
  | skip
 ·simp [Instr.sliceBounds]
 ·simp [Instr.sliceBounds]
  cases isSlice <;> simp [run_sliceBound w k2 h (m + k) .sliceAcap (by omega) (by omega), run_sliceBound w k2 h (m + k) .sliceAlen (by omega) (by omega)]
 ·rw [hl3]
  cases isSlice <;> simp [Instr.sliceBounds, run_sliceBound w k3 m (cap + k) .slice3Acap (by omega) (by omega), run_sliceBound w k3 m (cap + k) .slice3Alen (by omega) (by omega), run_sliceBound w k2 h m .slice3B (by omega) (by omega)]
 ·simp [Instr.sliceBounds, run_sliceBound w k1 l h .sliceB (by omega) (by omega)]
 ·cases isSlice <;> simp [Instr.sliceBounds, run_sliceBound w k2 h (m + k) .sliceAcap (by omega) (by omega), run_sliceBound w k2 h (m + k) .sliceAlen (by omega) (by omega), run_sliceBound w k1 l h .sliceB (by omega) (by omega)]
 ·rw [hl3]
  cases isSlice <;> simp [Instr.sliceBounds, run_sliceBound w k3 m (cap + k) .slice3Acap (by omega) (by omega), run_sliceBound w k3 m (cap + k) .slice3Alen (by omega) (by omega), run_sliceBound w k2 h m .slice3B (by omega) (by omega), run_sliceBound w k1 l h .slice3C (by omega) (by omega)]
theorem vr_sl_intro {i o n c sp b base : Nat} {op : Bool} {a : Addr} (hp : φ i = some (b, base, sp)) (h1 : n ≤ c) (h2 : c + xtra op sp ≤ maxLen) (ha : c + xtra op sp ≠ 0 → a = ⟨b, base + o, none⟩) :
  vr φ (.sl i o n c op) (.slice (some a) n (c + xtra op sp)) := by
 simp only [vr]
 exact ⟨b, base, sp, a, hp, rfl, h1, h2, ha⟩
theorem mslice_sound (ht : TbOk P tb) {t : TypeId} {x v : MV} {lo hi mx : Option MV} {u : Value} {ulo uhi umx : Option Value} (hv : mslice tb t x lo hi mx = some v) (hx : vr φ x u)
  (hlo : ovr φ lo ulo) (hhi : ovr φ hi uhi) (hmx' : ovr φ mx umx) : Here P φ (Instr.sliceAt t u ulo uhi umx) w v := by
 unfold mslice at hv
 split at hv
 ·cases hv
 ·cases hv
 ·rename_i ti hty hm
  have T := ht.ty t ti hty
  split at hv
  ·-- a string
   rename_i s hd
   simp only [vr] at hx
   subst hx
   split at hv
   ·rename_i l h h1 h2
    split at hv
    ·rename_i h3 h4
     cases hv
     have h3 := Nat.le_of_ble_eq_true h3
     have h4 := Nat.le_of_ble_eq_true h4
     have hu : umx = none := by cases umx with | none => rfl | some _ => exact hmx'.elim
     subst hu
     have hr := run_bounds (P := P) (w := w) (isSlice := false) (len := s.length) (cap := s.length) (k := 0) (ulo := ulo) (uhi := uhi) (umx := none) hm h1 h2 rfl h3 h4 (by omega) hlo hhi trivial
     simp only [Nat.add_zero, Option.isSome_none, Bool.false_eq_true, if_false] at hr
     refine ⟨.string ⟨((s.take h).drop l).toArray⟩, ?_, by simp [vr]⟩
     have hsz : (⟨s.toArray⟩ : ByteArray).size = s.length := by simp [ByteArray.size]
     have hex : (⟨s.toArray⟩ : ByteArray).extract l h = ⟨((s.take h).drop l).toArray⟩ := by
      ext1
      apply Array.ext'
      simp [ByteArray.data_extract, List.extract_eq_take_drop, List.drop_take]
     simp [Instr.sliceAt, Instr.slice, T.run_und, hd, hsz, hr, hex]
    ·cases hv
   ·cases hv
  ·-- a slice
   rename_i e i o n c op hd
   simp only [vr] at hx
   obtain ⟨b, base, sp, a, hp, rfl, hnc, hmax, ha⟩ := hx
   split at hv
   ·rename_i te l h m hte h1 h2 h3
    have TE := ht.ty e te hte
    split at hv
    ·rename_i h4 h5 h6
     cases hv
     have h4 := Nat.le_of_ble_eq_true h4
     have h5 := Nat.le_of_ble_eq_true h5
     have h6 := Nat.le_of_ble_eq_true h6
     have hr := run_bounds (P := P) (w := w) (isSlice := true) (len := n) (cap := c) (k := xtra op sp) (ulo := ulo) (uhi := uhi) (umx := umx) hm h1 h2 h3 h4 h5 (by omega) hlo hhi hmx'
     cases mx with
     | none =>
      simp only [bnd, Option.some.injEq] at h3
      subst h3
      simp only [Option.isSome_none, Bool.false_eq_true, if_false] at hr
      refine ⟨.slice (some (if c + xtra op sp = l then a else a.add (l * te.size))) (h - l) (c + xtra op sp - l), ?_, ?_⟩
      ·simp only [Instr.sliceAt, Instr.slice, Sem.run_bind, T.run_und, Result.andThen_ok, hd, hr, TE.run_size, Sem.run_pure]
       split <;> simp [*]
      ·have e1 : c + xtra op sp - l = (c - l) + xtra op sp := by omega
       rw [e1]
       show vr φ (.sl i (o + l * te.size) (h - l) (c - l) op) _
       refine vr_sl_intro hp (by omega) (by omega) fun hne => ?_
       rw [if_neg (by omega), ha (by omega), addr_add, Nat.add_assoc]
     | some mv =>
      simp only [Option.isSome_some, if_true] at hr
      refine ⟨.slice (some (if m = l then a else a.add (l * te.size))) (h - l) (m - l), ?_, ?_⟩
      ·simp only [Instr.sliceAt, Instr.slice, Sem.run_bind, T.run_und, Result.andThen_ok, hd, hr, TE.run_size, Sem.run_pure]
       split <;> simp [*]
      ·refine vr_sl_intro (op := false) hp (by omega) (by simp [xtra]; omega) fun hne => ?_
       simp only [xtra, Nat.add_zero] at hne
       rw [if_neg (by omega), ha (by omega), addr_add, Nat.add_assoc]
    ·cases hv
   ·cases hv
  ·-- nil
   rename_i e hd
   simp only [vr] at hx
   subst hx
   split at hv
   ·rename_i te hte h1 h2
    have TE := ht.ty e te hte
    cases hv
    have hu : umx = none := by cases umx with | none => rfl | some _ => exact hmx'.elim
    subst hu
    have hr := run_bounds (P := P) (w := w) (isSlice := true) (len := 0) (cap := 0) (k := 0) (ulo := ulo) (uhi := uhi) (umx := none) hm h1 h2 rfl (Nat.le_refl _) (Nat.le_refl _) (by omega) hlo hhi trivial
    simp only [Nat.add_zero, Option.isSome_none, Bool.false_eq_true, if_false] at hr
    refine ⟨.slice none 0 0, ?_, by simp [vr]⟩
    simp [Instr.sliceAt, Instr.slice, T.run_und, hd, hr, TE.run_size]
   ·cases hv
  ·-- an array
   rename_i n e i o hd
   simp only [vr] at hx
   obtain ⟨b, base, sp, hp, rfl⟩ := hx
   split at hv
   ·rename_i te l h m hte h1 h2 h3
    have TE := ht.ty e te hte
    split at hv
    ·rename_i h4 h5 h6 h7
     cases hv
     have h4 := Nat.le_of_ble_eq_true h4
     have h5 := Nat.le_of_ble_eq_true h5
     have h6 := Nat.le_of_ble_eq_true h6
     have h7 := Nat.le_of_ble_eq_true h7
     have hr := run_bounds (P := P) (w := w) (isSlice := false) (len := n) (cap := n) (k := 0) (ulo := ulo) (uhi := uhi) (umx := umx) hm h1 h2 h3 h4 h5 (by omega) hlo hhi hmx'
     have hr : (Instr.sliceBounds false n n ulo uhi umx).run P w = .ok (l, h, m) w := by
      rw [Nat.add_zero] at hr
      rw [hr]
      cases mx with
      | none => simp only [bnd, Option.some.injEq] at h3; simp [h3]
      | some _ => rfl
     refine ⟨.slice (some (if m = l then ⟨b, base + o, none⟩ else (⟨b, base + o, none⟩ : Addr).add (l * te.size))) (h - l) (m - l), ?_, ?_⟩
     ·simp only [Instr.sliceAt, Sem.run_bind, T.run_und, Result.andThen_ok, hd, Instr.sureAddr, Sem.run_pure, hr, TE.run_size]
     ·refine vr_sl_intro (op := false) hp (by omega) (by simp [xtra, maxLen]; omega) fun hne => ?_
      simp only [xtra, Nat.add_zero] at hne
      rw [if_neg (by omega), addr_add, Nat.add_assoc]
    ·cases hv
   ·cases hv
  ·cases hv
theorem mneg_cases {op : BinOp} {b : Bool} {x : MV} (h : mneg op b = some x) : (op = .eql ∧ x = .bool b) ∨ (op = .neq ∧ x = .bool !b) := by
 unfold mneg at h
 split at h
 ·cases h; exact .inl ⟨rfl, rfl⟩
 ·cases h; exact .inr ⟨rfl, rfl⟩
 ·cases h
theorem eqL_eq : ∀ a b : List UInt8, eqL a b = (a == b)
 | [], [] => rfl
 | [], _ :: _ => rfl
 | _ :: _, [] => rfl
 | a :: l, b :: m => by
  have ih := eqL_eq l m
  simp only [eqL, nbeq]
  by_cases hab : a = b
  ·subst hab; simp [ih]
  ·have : a.toNat ≠ b.toNat := fun e => hab (UInt8.toNat.inj e)
   simp [this, hab]
theorem vr_int {k : IntKind} {n : Int} : vr φ (.int k n) (.int k n) := by simp [vr]
theorem vr_bool {b : Bool} : vr φ (.bool b) (.bool b) := by simp [vr]
theorem mbinI_sound {op : BinOp} {k k' : IntKind} {a b : Int} {v : MV} (hv : mbinI op k a b = some v) (hk : isShift op = true ∨ k = k') : ∃ u, ∀ t, (binOp op t (.int k a) (.int k' b)).run P w = .ok u w ∧ vr φ v u := by
 have norm : ∀ (u : Value), vr φ v u → (∀ t, binOp op t (.int k a) (.int k' b) = pure u) → ∃ u, ∀ t, (binOp op t (.int k a) (.int k' b)).run P w = .ok u w ∧ vr φ v u := fun u hu he =>
  ⟨u, fun t => ⟨by rw [he t]; rfl, hu⟩⟩
 unfold mbinI at hv
 cases op
 case shl =>
  simp only at hv
  split at hv
  ·rename_i n hn
   have hn := natOf_eq hn
   subst hn
   cases hv
   exact norm _ vr_int fun t => by simp only [binOp, Op.shift]; rw [if_neg (by omega)]; rfl
  ·cases hv
 case shr =>
  simp only at hv
  split at hv
  ·rename_i n hn
   have hn := natOf_eq hn
   subst hn
   cases hv
   exact norm _ vr_int fun t => by simp only [binOp, Op.shift]; rw [if_neg (by omega)]; rfl
  ·cases hv
 case quo =>
  obtain rfl := hk.resolve_left (by simp [isShift])
  simp only at hv
  split at hv
  ·cases hv
  ·rename_i hb
   cases hv
   have hb : b ≠ 0 := fun e => hb (by rw [e]; rfl)
   exact norm _ vr_int fun t => by simp only [binOp, ne_eq, not_true_eq_false, if_false, Op.intDiv, if_neg hb]; try rfl
 case rem =>
  obtain rfl := hk.resolve_left (by simp [isShift])
  simp only at hv
  split at hv
  ·cases hv
  ·rename_i hb
   cases hv
   have hb : b ≠ 0 := fun e => hb (by rw [e]; rfl)
   exact norm _ vr_int fun t => by simp only [binOp, ne_eq, not_true_eq_false, if_false, Op.intDiv, if_neg hb]; try rfl
 all_goals
  obtain rfl := hk.resolve_left (by simp [isShift])
  simp only [Option.some.injEq] at hv
  subst hv
  refine norm _ (by first | exact vr_int | exact vr_bool) fun t => ?_
  simp only [binOp, ne_eq, not_true_eq_false, if_false, Op.intArith, Op.intBits, Op.intCmp]
  try rfl
theorem bytes_toList (a : List UInt8) : (⟨a.toArray⟩ : ByteArray).toList = a := by
 rw [ByteArray.toList_eq]
theorem bytes_size (a : List UInt8) : (⟨a.toArray⟩ : ByteArray).size = a.length := rfl
theorem bytes_append (a b : List UInt8) : (⟨a.toArray⟩ : ByteArray) ++ ⟨b.toArray⟩ = ⟨(a ++ b).toArray⟩ := by
 ext1
 apply Array.ext'
 simp [ByteArray.data_append]
theorem mbinS_sound {op : BinOp} {a b : List UInt8} {v : MV} (hv : mbinS op a b = some v) : ∃ u, (Op.stringOp op ⟨a.toArray⟩ ⟨b.toArray⟩).run P w = .ok u w ∧ vr φ v u := by
 unfold mbinS at hv
 split at hv
 ·split at hv
  ·rename_i hle
   cases hv
   have hle := Nat.le_of_ble_eq_true hle
   refine ⟨_, ?_, by simp only [vr]; rfl⟩
   have h63 : ¬ ((((⟨a.toArray⟩ : ByteArray).size + (⟨b.toArray⟩ : ByteArray).size : Nat) : Int) > IntKind.i64.max) := by
    rw [bytes_size, bytes_size]
    have : IntKind.i64.max = 9223372036854775807 := by decide
    rw [this]
    omega
   simp only [Op.stringOp, if_neg h63, bytes_append]
   rfl
  ·cases hv
 ·cases hv; exact ⟨_, by simp only [Op.stringOp, bytes_toList]; rfl, vr_bool⟩
 ·cases hv; exact ⟨_, by simp only [Op.stringOp, bytes_toList, ← eqL_eq]; rfl, vr_bool⟩
 ·cases hv; exact ⟨_, by simp only [Op.stringOp, bytes_toList, ← eqL_eq]; rfl, vr_bool⟩
 ·cases hv; exact ⟨_, by simp only [Op.stringOp, bytes_toList]; rfl, vr_bool⟩
 ·rcases mneg_cases hv with ⟨rfl, rfl⟩ | ⟨rfl, rfl⟩
  ·exact ⟨_, by simp only [Op.stringOp, bytes_toList, ← eqL_eq]; rfl, vr_bool⟩
  ·exact ⟨_, by simp only [Op.stringOp, bytes_toList, ← eqL_eq]; rfl, vr_bool⟩
theorem eqFields_ok {xs ys : Array Value} (d : Nat) : ∀ (fs : List Field) (i : Nat) (cs ds : List MV) (b : Bool), cs.length = fs.length → ds.length = fs.length →
  (∀ (j : Nat) (f : Field), fs[j]? = some f → f.name ≠ "_" ∧ f.offset = i + j ∧ ∃ k, P.underlying f.type = some (.int k)) →
  vrs φ cs (xs.toList.drop i) → vrs φ ds (ys.toList.drop i) → eqCs cs ds = some b → (Op.eqFields (d + 1) xs ys fs).run P w = .ok b w
 | [], i, cs, ds, b, hc, hd, _, _, _, h => by
  have h1 : cs = [] := List.eq_nil_of_length_eq_zero hc
  have h2 : ds = [] := List.eq_nil_of_length_eq_zero hd
  subst h1 h2
  cases h
  simp [Op.eqFields]
 | f :: fs, i, cs, ds, b, hc, hd, hf, hx, hy, h => by
  match cs, ds, hc, hd with
  | c :: cs, e :: ds, hc, hd =>
   unfold eqCs at h
   split at h
   ·rename_i h1 _; cases h1
   ·rename_i k a cs' k' a' ds' h1 h2
    cases h1; cases h2
    split at h
    ·rename_i t hk hr
     have hk : k = k' := by simpa using hk
     subst hk
     simp only [Option.some.injEq] at h
     simp only [vrs] at hx hy
     obtain ⟨u, ru, hu, hcu, hru⟩ := hx
     obtain ⟨v, rv, hv, hcv, hrv⟩ := hy
     simp only [vr] at hcu hcv
     subst hcu hcv
     obtain ⟨hn, ho, k', hk'⟩ := hf 0 f rfl
     have e1 : xs[i]? = some (.int k a) := by
      have : xs.toList[i]? = some (.int k a) := by rw [← Nat.add_zero i, ← List.getElem?_drop, hu]; rfl
      simpa using this
     have e2 : ys[i]? = some (.int k a') := by
      have : ys.toList[i]? = some (.int k a') := by rw [← Nat.add_zero i, ← List.getElem?_drop, hv]; rfl
      simpa using this
     have p1 : (part f.type xs f.offset).run P w = .ok (.int k a) w := by simp [part, isAgg, run_underlying hk', ho, e1]
     have p2 : (part f.type ys f.offset).run P w = .ok (.int k a') w := by simp [part, isAgg, run_underlying hk', ho, e2]
     have ih := eqFields_ok d fs (i + 1) cs ds t (by simpa using hc) (by simpa using hd) (fun j f' hj => by
      have := hf (j + 1) f' (by simpa using hj)
      exact ⟨this.1, by rw [this.2.1]; omega, this.2.2⟩) (by rw [← List.tail_drop, hu]; exact hru) (by rw [← List.tail_drop, hv]; exact hrv) hr
     simp only [Op.eqFields, Sem.run_bind, hn, ne_eq, not_false_eq_true, if_true, p1, p2, Result.andThen_ok, run_equalIn_int w d f.type k k' a a' hk', Sem.run_ite]
     have hdec : decide (a = a') = (a == a') := rfl
     rw [hdec] at h
     cases hab : (a == a') with
     | false => rw [hab] at h; simp at h; subst h; simp
     | true => rw [hab] at h; simp at h; subst h; simpa using ih
    ·cases h
   ·cases h
theorem neg_run {op : BinOp} {b : Bool} {v : MV} {t : TypeId} {x y : Value} {xo yo : Operand} (hv : mneg op b = some v) (hg : ∀ op, (eqGuard op t xo yo x y).run P w = .ok () w) (he : (Op.equal t x y).run P w = .ok b w)
  (h1 : binOp .eql t x y = (do pure (.bool (← Op.equal t x y)))) (h2 : binOp .neq t x y = (do pure (.bool (!(← Op.equal t x y))))) : Here P φ (do eqGuard op t xo yo x y; binOp op t x y) w v := by
 rcases mneg_cases hv with ⟨rfl, rfl⟩ | ⟨rfl, rfl⟩
 ·exact ⟨.bool b, by simp only [Sem.run_bind, hg, Result.andThen_ok, h1, he]; rfl, vr_bool⟩
 ·exact ⟨.bool !b, by simp only [Sem.run_bind, hg, Result.andThen_ok, h2, he]; rfl, vr_bool⟩
theorem guard_free {op : BinOp} {t : TypeId} {xo yo : Operand} {x y : Value} (h1 : ∀ a, x ≠ .agg a) (h2 : x ≠ .nilIface) : (eqGuard op t xo yo x y).run P w = .ok () w := by
 unfold eqGuard
 cases x with
 | agg a => exact absurd rfl (h1 a)
 | nilIface => exact absurd rfl h2
 | _ => cases op <;> simp
section
variable (d : Nat) {t : TypeId}
theorem eq_nils {e : TypeId} (h : P.underlying t = some (.slice e)) (a : Option Addr) (n c : Nat) : (Op.equalIn (d + 1) t (.slice a n c) (.slice none 0 0)).run P w = .ok a.isNone w := by
 cases a <;> simp [Op.equalIn, run_underlying h]
theorem eq_nilp {e : TypeId} (h : P.underlying t = some (.pointer e)) (a : Option Addr) : (Op.equalIn (d + 1) t (.pointer a) (.pointer none)).run P w = .ok a.isNone w := by
 cases a <;> simp [Op.equalIn, run_underlying h]
theorem eq_nilm {k e : TypeId} (h : P.underlying t = some (.map k e)) (a : Option Nat) : (Op.equalIn (d + 1) t (.map a) (.map none)).run P w = .ok a.isNone w := by
 cases a <;> simp [Op.equalIn, run_underlying h]
theorem eq_nilf {p r : Array TypeId} {b : Bool} (h : P.underlying t = some (.func p r b)) : (Op.equalIn (d + 1) t .nilFunc .nilFunc).run P w = .ok true w := by
 simp [Op.equalIn, run_underlying h]
theorem eq_fn {p r : Array TypeId} {b : Bool} (h : P.underlying t = some (.func p r b)) (f : Fn) (x y : Array Value) : (Op.equalIn (d + 1) t (.func f x y) .nilFunc).run P w = .ok false w := by
 simp [Op.equalIn, run_underlying h]
end
theorem mbin_sound (ht : TbOk P tb) {op : BinOp} {t : TypeId} {x y v : MV} {u q : Value} {xo yo : Operand} (hv : mbin tb op t x y = some v) (hx : vr φ x u) (hy : vr φ y q) : Here P φ (do eqGuard op t xo yo u q; binOp op t u q) w v := by
 have nn : ∀ {b : Bool} {ti : TI} {x y : Value}, tb.ty t = some ti → mneg op b = some v → (∀ a, x ≠ .agg a) → x ≠ .nilIface → (∀ k n, x ≠ .int k n) → (∀ s, x ≠ .string s) → (∀ k n, x ≠ .float k n) → (∀ k n m, x ≠ .complex k n m) →
   (Op.equalIn 10000 t x y).run P w = .ok b w → Here P φ (do eqGuard op t xo yo x y; binOp op t x y) w v := by
  intro b ti x y hty hn h1 h2 h3 h4 h5 h6 he
  refine neg_run hn (fun op => guard_free h1 h2) he ?_ ?_
  ·cases x <;> first | rfl | (exact absurd rfl (h3 _ _)) | (exact absurd rfl (h4 _)) | (exact absurd rfl (h5 _ _)) | (exact absurd rfl (h6 _ _ _))
  ·cases x <;> first | rfl | (exact absurd rfl (h3 _ _)) | (exact absurd rfl (h4 _)) | (exact absurd rfl (h5 _ _)) | (exact absurd rfl (h6 _ _ _))
 unfold mbin at hv
 split at hv
 ·-- ints
  rename_i k a k' b
  simp only [vr] at hx hy
  subst hx hy
  have hg : (eqGuard op t xo yo (.int k a) (.int k' b)).run P w = .ok () w := guard_free (fun _ => by simp) (by simp)
  have key : ∀ h : mbinI op k a b = some v, (isShift op = true ∨ k = k') → Here P φ (do eqGuard op t xo yo (.int k a) (.int k' b); binOp op t (.int k a) (.int k' b)) w v := fun h hk => by
   obtain ⟨u, hu⟩ := mbinI_sound (P := P) (w := w) (φ := φ) h hk
   exact ⟨u, by simp only [Sem.run_bind, hg, Result.andThen_ok, (hu t).1], (hu t).2⟩
  split at hv
  ·rename_i hs; exact key hv (.inl hs)
  ·split at hv
   ·rename_i hk; exact key hv (.inr (by simpa using hk))
   ·cases hv
 ·rename_i a b
  simp only [vr] at hx hy
  subst hx hy
  have hg : (eqGuard op t xo yo (.string ⟨a.toArray⟩) (.string ⟨b.toArray⟩)).run P w = .ok () w := guard_free (fun _ => by simp) (by simp)
  obtain ⟨u, h1, h2⟩ := mbinS_sound (P := P) (w := w) (φ := φ) hv
  refine ⟨u, ?_, h2⟩
  have hb : binOp op t (.string ⟨a.toArray⟩) (.string ⟨b.toArray⟩) = Op.stringOp op ⟨a.toArray⟩ ⟨b.toArray⟩ := by
   cases op <;> first | rfl | (simp [mbinS, mneg] at hv)
  simp only [Sem.run_bind, hg, Result.andThen_ok, hb, h1]
 ·rename_i a b
  simp only [vr] at hx hy
  subst hx hy
  split at hv
  ·rename_i ti hty
   have T := ht.ty t ti hty
   split at hv
   ·rename_i hd
    exact nn hty hv (by simp) (by simp) (by simp) (by simp) (by simp) (by simp) (run_equalIn_bool' w 9999 t a b (T.und.trans (by rw [hd])))
   ·cases hv
  ·cases hv
 ·rename_i xs ys
  split at hv
  ·rename_i n hn
   split at hv
   ·rename_i b h1 h2 hq
    have h1 := Nat.eq_of_beq_eq_true h1
    have h2 := Nat.eq_of_beq_eq_true h2
    obtain ⟨fs, hu, hp, heq, hsz, hfs⟩ := ht.eqn t n hn
    simp only [vr] at hx hy
    obtain ⟨xa, rfl, hxs⟩ := hx
    obtain ⟨ya, rfl, hys⟩ := hy
    have hfo : P.fieldsOf t = fs := by simp [Program.fieldsOf, hu]
    have he : (Op.equalIn 10000 t (.agg xa) (.agg ya)).run P w = .ok b w := by
     rw [run_equalIn_struct w 9999 t xa ya (by rw [hfo]; exact hu) hp, hfo]
     exact eqFields_ok (φ := φ) 9998 fs.toList 0 xs ys b (by simp; omega) (by simp; omega) (fun j f hj => by simpa using hfs j f hj) (by simpa using hxs) (by simpa using hys) hq
    have hg := run_eqGuard_agg (P := P) w op t xo yo xa ya heq
    rcases mneg_cases hv with ⟨rfl, rfl⟩ | ⟨rfl, rfl⟩
    ·exact ⟨.bool b, by simp only [Sem.run_bind, hg, Result.andThen_ok, run_eql_struct, he], vr_bool⟩
    ·exact ⟨.bool !b, by simp only [Sem.run_bind, hg, Result.andThen_ok, run_neq_struct, he], vr_bool⟩
   ·cases hv
  ·cases hv
 ·split at hv
  ·rename_i ti hty
   have T := ht.ty t ti hty
   split at hv
   ·rename_i e hd
    simp only [vr] at hx hy
    subst hx hy
    exact nn hty hv (by simp) (by simp) (by simp) (by simp) (by simp) (by simp) (eq_nils 9999 (T.und.trans (by rw [hd])) none 0 0)
   ·cases hv
  ·cases hv
 ·split at hv
  ·rename_i ti hty
   have T := ht.ty t ti hty
   split at hv
   ·rename_i e hd
    simp only [vr] at hx hy
    subst hy
    obtain ⟨b, base, sp, a, hp, rfl, _⟩ := hx
    exact nn hty hv (by simp) (by simp) (by simp) (by simp) (by simp) (by simp) (eq_nils 9999 (T.und.trans (by rw [hd])) (some a) _ _)
   ·cases hv
  ·cases hv
 ·split at hv
  ·rename_i ti hty
   have T := ht.ty t ti hty
   split at hv
   ·rename_i e hd
    simp only [vr] at hx hy
    subst hx hy
    exact nn hty hv (by simp) (by simp) (by simp) (by simp) (by simp) (by simp) (eq_nilp 9999 (T.und.trans (by rw [hd])) none)
   ·cases hv
  ·cases hv
 ·split at hv
  ·rename_i ti hty
   have T := ht.ty t ti hty
   split at hv
   ·rename_i e hd
    simp only [vr] at hx hy
    subst hy
    obtain ⟨b, base, sp, hp, rfl⟩ := hx
    exact nn hty hv (by simp) (by simp) (by simp) (by simp) (by simp) (by simp) (eq_nilp 9999 (T.und.trans (by rw [hd])) (some _))
   ·cases hv
  ·cases hv
 ·split at hv
  ·rename_i ti hty
   have T := ht.ty t ti hty
   split at hv
   ·rename_i e1 e2 hd
    simp only [vr] at hx hy
    subst hx hy
    exact nn hty hv (by simp) (by simp) (by simp) (by simp) (by simp) (by simp) (eq_nilm 9999 (T.und.trans (by rw [hd])) none)
   ·cases hv
  ·cases hv
 ·split at hv
  ·rename_i ti hty
   have T := ht.ty t ti hty
   split at hv
   ·rename_i e1 e2 hd
    simp only [vr] at hx hy
    subst hy
    obtain ⟨b, base, sp, hp, rfl⟩ := hx
    exact nn hty hv (by simp) (by simp) (by simp) (by simp) (by simp) (by simp) (eq_nilm 9999 (T.und.trans (by rw [hd])) (some _))
   ·cases hv
  ·cases hv
 ·split at hv
  ·rename_i ti hty
   have T := ht.ty t ti hty
   split at hv
   ·rename_i e1 e2 e3 hd
    simp only [vr] at hx hy
    subst hx hy
    exact nn hty hv (by simp) (by simp) (by simp) (by simp) (by simp) (by simp) (eq_nilf 9999 (T.und.trans (by rw [hd])))
   ·cases hv
  ·cases hv
 ·split at hv
  ·rename_i ti hty
   have T := ht.ty t ti hty
   split at hv
   ·rename_i e1 e2 e3 hd
    simp only [vr] at hx hy
    subst hy
    obtain ⟨a, b, rfl, _⟩ := hx
    exact nn hty hv (by simp) (by simp) (by simp) (by simp) (by simp) (by simp) (eq_fn 9999 (T.und.trans (by rw [hd])) _ _ _)
   ·cases hv
  ·cases hv
 ·cases hv
theorem mun_sound {op : UnOp} {x v : MV} {u : Value} (hv : mun op x = some v) (hx : vr φ x u) : Here P φ (Op.unary op u) w v := by
 unfold mun at hv
 split at hv
 ·cases hv
  simp only [vr] at hx
  subst hx
  exact ⟨_, by simp only [Op.unary]; rfl, vr_bool⟩
 ·cases hv
  simp only [vr] at hx
  subst hx
  exact ⟨_, by simp only [Op.unary, Op.intArith]; rfl, vr_int⟩
 ·cases hv
  simp only [vr] at hx
  subst hx
  exact ⟨_, by simp only [Op.unary, Op.intBits]; rfl, vr_int⟩
 ·cases hv
theorem mextract_sound {x v : MV} {i : Nat} {u : Value} (hv : mextract x i = some v) (hx : vr φ x u) : Here P φ (Instr.extract u i) w v := by
 unfold mextract at hv
 split at hv
 ·simp only [vr] at hx
  obtain ⟨arr, rfl, hx⟩ := hx
  obtain ⟨z, hz, hvz⟩ := vrs_get hx hv
  exact ⟨z, by simp [Instr.extract, show arr[i]? = some z from by simpa using hz], hvz⟩
 ·cases hv
end
end Go.MX
namespace Go.MX
open Go.RowKit
open Go.AM (Blw Key KK TI TabFact Tab TabOk Tb TbOk addr_add)
section
variable {P : Program} {φ : Pl} {w w0 : World} {tb : Tb} {h g : Hf}
theorem bytesOf_sound : ∀ {cs : List MV} {l : List UInt8} {us : List Value}, bytesOf cs = some l → vrs φ cs us → ∃ ns : List Int, us = ns.map (Value.int .u8) ∧ l = ns.map fun n => UInt8.ofNat n.toNat
 | [], l, us, h, hs => by
  cases h
  simp only [vrs] at hs
  subst hs
  exact ⟨[], rfl, rfl⟩
 | c :: cs, l, us, h, hs => by
  unfold bytesOf at h
  split at h
  ·rename_i he; cases he
  ·rename_i n cs' he
   cases he
   split at h
   ·rename_i l' hl'
    cases h
    simp only [vrs, vr] at hs
    obtain ⟨v, r, rfl, rfl, hr⟩ := hs
    obtain ⟨ns, h1, h2⟩ := bytesOf_sound hl' hr
    exact ⟨n :: ns, by rw [h1]; rfl, by rw [h2]; rfl⟩
   ·cases h
  ·cases h
theorem run_pushBytes (w : World) : ∀ (ns : List Int) (s : ByteArray), (forIn (ns.map (Value.int .u8)) s (fun c r => match c with
   | .int .u8 n => pure (ForInStep.yield (r.push (UInt8.ofNat n.toNat)))
   | _ => do
    stuck "bytesToString: byte expected"
    pure (ForInStep.yield r)) : Sem ByteArray).run P w = .ok (⟨s.data ++ (ns.map fun n => UInt8.ofNat n.toNat).toArray⟩) w
 | [], s => by simp
 | n :: ns, s => by
  have ih := run_pushBytes w ns (s.push (UInt8.ofNat n.toNat))
  simp only [List.map_cons, List.forIn_cons, Sem.run_bind, Sem.run_pure, Result.andThen_ok, ih]
  congr 2
  apply Array.ext'
  simp [ByteArray.push]
theorem mconv_sound (ht : TbOk P tb) (hc : Core w0 φ g w) (hl : Hf.le h g) {src dst : TypeId} {x v : MV} {u : Value} (hv : mconv tb h src dst x = some v) (hx : vr φ x u) : Here P φ (convert src dst u) w v := by
 unfold mconv at hv
 split at hv
 ·rename_i ts td k n hs hd
  have S := ht.ty src ts hs
  have D := ht.ty dst td hd
  split at hv
  ·rename_i k' hk'
   cases hv
   simp only [vr] at hx
   subst hx
   refine ⟨.int k' (k'.wrap n), ?_, vr_int⟩
   unfold convert
   simp only [Sem.run_bind, S.run_und, D.run_und, Result.andThen_ok, hk']
   simp [Conv.intToInt]
  ·cases hv
 ·rename_i ts td s hs hd
  have S := ht.ty src ts hs
  have D := ht.ty dst td hd
  split at hv
  ·rename_i hk'
   cases hv
   simp only [vr] at hx
   subst hx
   refine ⟨.string ⟨s.toArray⟩, ?_, by simp [vr]⟩
   unfold convert
   simp only [Sem.run_bind, S.run_und, D.run_und, Result.andThen_ok, hk']
   simp
  ·cases hv
 ·rename_i ts td i o n c op hs hd
  have S := ht.ty src ts hs
  have D := ht.ty dst td hd
  split at hv
  ·rename_i e hds hdd
   split at hv
   ·rename_i te hte
    have TE := ht.ty e te hte
    split at hv
    ·rename_i sz e' cs op' hde hi
     split at hv
     ·rename_i l hlen hb
      cases hv
      have hlen := take_ok hlen
      simp only [vr] at hx
      obtain ⟨b, base, sp, a, hp, rfl, hnc, _, ha⟩ := hx
      obtain ⟨us, h1, h2⟩ := mem_cells (hc.obj hl hi hp)
      have h3 := vrs_take n (vrs_drop o h1)
      obtain ⟨ns, h4, h5⟩ := bytesOf_sound hb h3
      have hun : ((us.drop o).take n).length = n := by rw [← vrs_length h3, hlen]
      have hld : (loadCells a n).run P w = .ok (ns.map (Value.int .u8)).toArray w := by
       rw [← h4]
       rcases Nat.eq_zero_or_pos n with rfl | hn
       ·simp [loadCells, loadCellsFrom]
       ·have ha := ha (by omega)
        subst ha
        have := run_loadCells_list (P := P) w ⟨b, base + o, none⟩ ((us.drop o).take n) (fun j u hj => by
         rw [addr_add, Nat.add_assoc]
         rw [List.getElem?_take] at hj
         split at hj
         ·rw [List.getElem?_drop] at hj
          exact h2 _ u hj
         ·cases hj)
        rwa [hun] at this
      refine ⟨.string ⟨l.toArray⟩, ?_, by simp [vr]⟩
      unfold convert
      simp only [Sem.run_bind, S.run_und, D.run_und, TE.run_und, Result.andThen_ok, hds, hdd, hde]
      unfold Conv.bytesToString
      simp only [Sem.run_bind, hld, Result.andThen_ok]
      rw [← Array.forIn_toList]
      have := run_pushBytes (P := P) w ns ByteArray.empty
      simp only [Sem.run_pure]
      refine Eq.trans (congrArg (fun r => Result.andThen r _) this) ?_
      simp only [Result.andThen_ok, h5]
      congr 3
      show (#[] : Array UInt8) ++ _ = _
      simp
     ·cases hv
    ·cases hv
   ·cases hv
  ·cases hv
 ·rename_i ts td hs hd
  have S := ht.ty src ts hs
  have D := ht.ty dst td hd
  split at hv
  ·rename_i e hds hdd
   split at hv
   ·rename_i te hte
    have TE := ht.ty e te hte
    split at hv
    ·rename_i hde
     cases hv
     simp only [vr] at hx
     subst hx
     refine ⟨.string ⟨([] : List UInt8).toArray⟩, ?_, by simp [vr]⟩
     unfold convert
     simp only [Sem.run_bind, S.run_und, D.run_und, TE.run_und, Result.andThen_ok, hds, hdd, hde]
     simp [Conv.bytesToString]
     rfl
    ·cases hv
   ·cases hv
  ·cases hv
 ·cases hv
theorem mlen_sound (ht : TbOk P tb) (hc : Core w0 φ g w) (hl : Hf.le h g) {t ty : TypeId} {x v : MV} {u : Value} (hv : mlen tb h t x = some v) (hx : vr φ x u) : Here P φ (Builtin.len_ #[t] ty #[u]) w v := by
 unfold mlen at hv
 split at hv
 ·cases hv
 ·rename_i ti hty
  have T := ht.ty t ti hty
  have fin : ∀ n : Int, v = .int .i64 n → (Builtin.len_ #[t] ty #[u]).run P w = .ok (goInt n) w → Here P φ (Builtin.len_ #[t] ty #[u]) w v := fun n hvn hr => ⟨_, hr, by rw [hvn]; exact vr_int⟩
  split at hv
  ·rename_i hd
   cases hv
   simp only [vr] at hx
   obtain ⟨b, base, sp, a, hp, rfl, _⟩ := hx
   exact fin _ rfl (by simp [Builtin.len_, T.run_und, hd])
  ·rename_i hd
   cases hv
   simp only [vr] at hx
   subst hx
   exact fin _ rfl (by simp [Builtin.len_, T.run_und, hd])
  ·rename_i s hd
   cases hv
   simp only [vr] at hx
   subst hx
   exact fin _ rfl (by simp [Builtin.len_, T.run_und, hd, bytes_size])
  ·rename_i hd
   cases hv
   exact fin _ rfl (by simp [Builtin.len_, T.run_und, hd])
  ·rename_i hd
   cases hv
   simp only [vr] at hx
   subst hx
   exact fin _ rfl (by simp [Builtin.len_, T.run_und, hd])
  ·rename_i i hd
   split at hv
   ·rename_i kk es clk hi
    cases hv
    simp only [vr] at hx
    obtain ⟨b, base, sp, hp, rfl⟩ := hx
    obtain ⟨ents, h1, h2, _⟩ := hc.obj hl hi hp
    have hlen : es.length = ents.size := by
     have : ∀ {es : List (Key × MV × Nat)} {l : List MapEntry}, ers φ es l → es.length = l.length := by
      intro es
      induction es with
      | nil => intro l h; simp only [ers] at h; subst h; rfl
      | cons x es ih => intro l h; obtain ⟨e, r, rfl, _, _, _, h⟩ := h; simp [ih h]
     simpa using this h2
    exact fin _ rfl (by simp [Builtin.len_, T.run_und, hd, getObj, Sem.run, h1, hlen])
   ·cases hv
  ·cases hv
theorem mcap_sound (ht : TbOk P tb) {t ty : TypeId} {x v : MV} {u : Value} (hv : mcap tb t x = some v) (hx : vr φ x u) : Here P φ (Builtin.cap_ #[t] ty #[u]) w v := by
 unfold mcap at hv
 split at hv
 ·cases hv
 ·rename_i ti hty
  have T := ht.ty t ti hty
  have fin : ∀ n : Int, v = .int .i64 n → (Builtin.cap_ #[t] ty #[u]).run P w = .ok (goInt n) w → Here P φ (Builtin.cap_ #[t] ty #[u]) w v := fun n hvn hr => ⟨_, hr, by rw [hvn]; exact vr_int⟩
  split at hv
  ·rename_i hd
   cases hv
   simp only [vr] at hx
   obtain ⟨b, base, sp, a, hp, rfl, _⟩ := hx
   exact fin _ rfl (by simp [Builtin.cap_, T.run_und, hd, xtra])
  ·rename_i hd
   cases hv
   simp only [vr] at hx
   subst hx
   exact fin _ rfl (by simp [Builtin.cap_, T.run_und, hd])
  ·rename_i hd
   cases hv
   exact fin _ rfl (by simp [Builtin.cap_, T.run_und, hd])
  ·cases hv
theorem mmax_sound : ∀ {r : List MV} {x v : MV} {u : Value} {us : List Value}, mmax x r = some v → vr φ x u → vrs φ r us → Here P φ (us.foldlM Builtin.max2 u) w v
 | [], x, v, u, us, h, hx, hs => by
  simp only [vrs] at hs
  subst hs
  unfold mmax at h
  split at h
  ·cases h; exact ⟨u, by simp, hx⟩
  ·rename_i he; cases he
  ·cases h
 | y :: r, x, v, u, us, h, hx, hs => by
  simp only [vrs] at hs
  obtain ⟨q, us, rfl, hy, hs⟩ := hs
  unfold mmax at h
  split at h
  ·rename_i he; cases he
  ·rename_i k a k' b r' he
   cases he
   split at h
   ·rename_i hk
    have hk : k = k' := by simpa using hk
    subst hk
    simp only [vr] at hx hy
    subst hx hy
    obtain ⟨z, h1, h2⟩ := mmax_sound (r := r) h (u := .int k (if b > a then b else a)) vr_int hs
    exact ⟨z, by simpa [List.foldlM_cons, Builtin.max2] using h1, h2⟩
   ·cases h
  ·cases h
theorem mmin_sound : ∀ {r : List MV} {x v : MV} {u : Value} {us : List Value}, mmin x r = some v → vr φ x u → vrs φ r us → Here P φ (us.foldlM Builtin.min2 u) w v
 | [], x, v, u, us, h, hx, hs => by
  simp only [vrs] at hs
  subst hs
  unfold mmin at h
  split at h
  ·cases h; exact ⟨u, by simp, hx⟩
  ·rename_i he; cases he
  ·cases h
 | y :: r, x, v, u, us, h, hx, hs => by
  simp only [vrs] at hs
  obtain ⟨q, us, rfl, hy, hs⟩ := hs
  unfold mmin at h
  split at h
  ·rename_i he; cases he
  ·rename_i k a k' b r' he
   cases he
   split at h
   ·rename_i hk
    have hk : k = k' := by simpa using hk
    subst hk
    simp only [vr] at hx hy
    subst hx hy
    obtain ⟨z, h1, h2⟩ := mmin_sound (r := r) h (u := .int k (if b < a then b else a)) vr_int hs
    exact ⟨z, by simpa [List.foldlM_cons, Builtin.min2] using h1, h2⟩
   ·cases h
  ·cases h
theorem intsOf_sound : ∀ {cs : List MV} {l : List Int} {us : List Value}, intsOf cs = some l → vrs φ cs us → us = l.map (Value.int .i64)
 | [], l, us, h, hs => by
  cases h
  simp only [vrs] at hs
  exact hs
 | c :: cs, l, us, h, hs => by
  unfold intsOf at h
  split at h
  ·rename_i he; cases he
  ·rename_i n cs' he
   cases he
   split at h
   ·rename_i l' hl'
    cases h
    simp only [vrs, vr] at hs
    obtain ⟨v, r, rfl, rfl, hr⟩ := hs
    rw [intsOf_sound hl' hr]
    rfl
   ·cases h
  ·cases h
theorem mkey_sound {x : MV} {k : Key} {u : Value} (h : mkey x = some k) (hx : vr φ x u) : u = k.val := by
 unfold mkey at h
 split at h
 ·cases h; simp only [vr] at hx; exact hx
 ·cases h; simp only [vr] at hx; exact hx
 ·split at h
  ·rename_i l hl
   cases h
   simp only [vr] at hx
   obtain ⟨arr, rfl, hx⟩ := hx
   have := intsOf_sound hl hx
   simp only [Key.val, Value.agg.injEq]
   rw [← this]
  ·cases h
 ·cases h
theorem eqInts_iff : ∀ a b : List Int, eqInts a b = true ↔ a = b
 | [], [] => by simp [eqInts]
 | [], _ :: _ => by simp [eqInts]
 | _ :: _, [] => by simp [eqInts]
 | a :: l, b :: m => by
  have ih := eqInts_iff l m
  unfold eqInts
  by_cases hab : a = b
  ·simp [hab, ih]
  ·simp [hab]
theorem eqK_iff (a b : Key) : eqK a b = true ↔ a = b := by
 cases a <;> cases b <;> simp [eqK, eqL_eq, eqInts_iff]
theorem ers_mem : ∀ {es : List (Key × MV × Nat)} {l : List MapEntry}, ers φ es l → ∀ e ∈ l, ∃ x ∈ es, e.key = x.1.val
 | [], _, h, e, he => by simp only [ers] at h; subst h; cases he
 | x :: es, l, h, e, he => by
  obtain ⟨e', r, rfl, h1, h2, _, h3⟩ := h
  rcases List.mem_cons.1 he with rfl | he
  ·exact ⟨x, by simp, h1⟩
  ·obtain ⟨y, hy, hk⟩ := ers_mem h3 e he
   exact ⟨y, by simp [hy], hk⟩
theorem ers_get : ∀ {es : List (Key × MV × Nat)} {l : List MapEntry}, ers φ es l → ∀ {j : Nat} {e : MapEntry}, l[j]? = some e → ∃ x, es[j]? = some x ∧ e.key = x.1.val ∧ vr φ x.2.1 e.val ∧ e.born = x.2.2
 | [], _, h, j, e, he => by simp only [ers] at h; subst h; simp at he
 | x :: es, l, h, j, e, he => by
  obtain ⟨e', r, rfl, h1, h2, h3, h4⟩ := h
  cases j with
  | zero => simp at he; subst he; exact ⟨x, rfl, h1, h2, h3⟩
  | succ j => simp at he; simpa using ers_get h4 he
theorem mget_none : ∀ {es : List (Key × MV × Nat)} {l : List MapEntry} {k : Key}, ers φ es l → (∀ e ∈ l, e.key ≠ k.val) → mget es k = none
 | [], _, _, _, _ => rfl
 | x :: es, l, k, h, hn => by
  obtain ⟨e', r, rfl, h1, h2, _, h3⟩ := h
  have : eqK x.1 k = false := by
   rw [Bool.eq_false_iff]
   intro e
   exact hn e' (by simp) (by rw [h1, (eqK_iff _ _).1 e])
  simp only [mget, this]
  exact mget_none h3 fun e he => hn e (by simp [he])
theorem mget_some : ∀ {es : List (Key × MV × Nat)} {j : Nat} {x : Key × MV × Nat}, (es.map (·.1)).Nodup → es[j]? = some x → mget es x.1 = some x.2.1
 | [], j, x, _, h => by simp at h
 | y :: es, 0, x, _, h => by simp at h; subst h; simp [mget, (eqK_iff y.1 y.1).2 rfl]
 | y :: es, j + 1, x, hn, h => by
  simp only [List.map_cons, List.nodup_cons] at hn
  simp only [List.getElem?_cons_succ] at h
  have : eqK y.1 x.1 = false := by
   rw [Bool.eq_false_iff]
   intro e
   exact hn.1 (by rw [(eqK_iff _ _).1 e]; exact List.mem_map.2 ⟨x, List.mem_of_getElem? h, rfl⟩)
  simp only [mget, this]
  exact mget_some hn.2 h
theorem find_ok (ht : TbOk P tb) {kt : TypeId} {kk : KK} (hk : tb.key kt = some kk) {es : List (Key × MV × Nat)} {ents : List MapEntry} (hes : ers φ es ents) (hfit : ∀ x ∈ es, x.1.fits kk = true) (hnd : (es.map (·.1)).Nodup)
  {key : Key} (hf : key.fits kk = true) :
  (∀ em, (Instr.checkKey em 10000 kt key.val).run P w = .ok () w) ∧
  (((Instr.findKey kt key.val ents).run P w = .ok none w ∧ mget es key = none ∧ ∀ x ∈ es, x.1 ≠ key) ∨
   ∃ j e u n, (Instr.findKey kt key.val ents).run P w = .ok (some (j, e.val)) w ∧ ents[j]? = some e ∧ e.key = key.val ∧ es[j]? = some (key, u, n) ∧ e.born = n ∧ mget es key = some u ∧ vr φ u e.val) := by
 obtain ⟨K, hof⟩ := ht.key kt kk hk
 obtain ⟨l, hl⟩ := hof key hf
 refine ⟨fun em => K.check w em hl, ?_⟩
 have hall : ∀ e ∈ ents, ∃ l, keyOf P kt e.key = some l := fun e he => by
  obtain ⟨x, hx, hkx⟩ := ers_mem hes e he
  rw [hkx]
  exact hof x.1 (hfit x hx)
 rcases K.find w hl ents hall with ⟨h1, h2⟩ | ⟨j, e, h1, h2, h3⟩
 ·refine .inl ⟨h1, mget_none hes h2, fun x hx he => ?_⟩
  have hm := mget_none hes h2
  obtain ⟨j, hj⟩ := List.getElem?_of_mem hx
  have := mget_some hnd hj
  rw [he, hm] at this
  cases this
 ·obtain ⟨x, hx, hkx, hv, hb⟩ := ers_get hes h2
  have : x.1 = key := Go.AM.Key.val_inj (hkx.symm.trans h3)
  obtain ⟨xk, xu, xn⟩ := x
  subst this
  exact .inr ⟨j, e, xu, xn, h1, h2, h3, hx, hb, mget_some hnd hx, hv⟩
theorem mlookup_sound (ht : TbOk P tb) (hc : Core w0 φ g w) (hl : Hf.le h g) {t : TypeId} {m k v : MV} {ok : Bool} {u q : Value} (hv : mlookup tb h t m k ok = some v) (hm : vr φ m u) (hk : vr φ k q) : Here P φ (Instr.lookup t u q ok) w v := by
 unfold mlookup at hv
 split at hv
 ·rename_i ti key hty hkey
  have T := ht.ty t ti hty
  have hq := mkey_sound hkey hk
  subst hq
  split at hv
  ·rename_i kt e hd
   split at hv
   ·rename_i te i hte
    have TE := ht.ty e te hte
    simp only [vr] at hm
    obtain ⟨b, base, sp, hp, rfl⟩ := hm
    split at hv
    ·rename_i kk es clk hi
     split at hv
     ·rename_i hkt hfits
      have hkt : tb.key kt = some kk := by simpa using hkt
      obtain ⟨ents, hh, hes, hb1, hb2, hfit, hnd⟩ := hc.obj hl hi hp
      obtain ⟨hchk, hfind⟩ := find_ok (w := w) ht hkt hes hfit hnd hfits
      have hg : (getObj b).run P w = .ok (.map ents clk) w := by simp [getObj, Sem.run, hh]
      rcases hfind with ⟨h1, h2, _⟩ | ⟨j, en, x, n, h1, h2, h3, h4, _, h5, h6⟩
      ·rw [h2] at hv
       have hrun : (Instr.lookup t (.map (some b)) key.val ok).run P w = .ok (if ok then .tuple #[te.zv, .bool false] else te.zv) w := by
        unfold Instr.lookup
        simp [T.run_und, hd, hg, hchk, h1, TE.run_zero]
       cases ok with
       | true =>
        cases hv
        exact ⟨_, hrun, by simp only [vr]; exact ⟨_, rfl, by simp only [vrs]; exact ⟨_, _, rfl, vr_ofV _, _, _, rfl, vr_bool, rfl⟩⟩⟩
       | false =>
        cases hv
        exact ⟨_, hrun, vr_ofV _⟩
      ·rw [h5] at hv
       have hrun : (Instr.lookup t (.map (some b)) key.val ok).run P w = .ok (if ok then .tuple #[en.val, .bool true] else en.val) w := by
        unfold Instr.lookup
        simp [T.run_und, hd, hg, hchk, h1]
       cases ok with
       | true =>
        cases hv
        exact ⟨_, hrun, by simp only [vr]; exact ⟨_, rfl, by simp only [vrs]; exact ⟨_, _, rfl, h6, _, _, rfl, vr_bool, rfl⟩⟩⟩
       | false =>
        cases hv
        exact ⟨_, hrun, h6⟩
     ·cases hv
    ·cases hv
   ·cases hv
  ·cases hv
 ·cases hv
theorem mfill_sound {place : Nat → Option (Nat × Nat)} : ∀ (parts : List (Nat × MV)) (vals : List (Nat × Value)) (cs cs' : List MV) (arr : Array Value),
  parts.length = vals.length → (∀ (j : Nat) (p : Nat × MV) (q : Nat × Value), parts[j]? = some p → vals[j]? = some q → p.1 = q.1 ∧ vr φ p.2 q.2) → vrs φ cs arr.toList → mfill cs place parts = some cs' →
  ∃ arr', Instr.fill place arr vals = some arr' ∧ vrs φ cs' arr'.toList
 | [], [], cs, cs', arr, _, _, hc, h => by cases h; exact ⟨arr, rfl, hc⟩
 | [], q :: vals, _, _, _, hl, _, _, _ => by simp at hl
 | p :: parts, [], _, _, _, hl, _, _, _ => by simp at hl
 | (i, x) :: parts, (i', u) :: vals, cs, cs', arr, hl, hs, hc, h => by
  obtain ⟨h1, h2⟩ := hs 0 (i, x) (i', u) rfl rfl
  simp only at h1 h2
  subst h1
  simp only [mfill] at h
  split at h
  ·rename_i off sz ho
   split at h
   ·rename_i hsz hle hone
    have hsz := Nat.eq_of_beq_eq_true hsz
    have hle := Nat.le_of_ble_eq_true hle
    have hcu := mcells_sound h2 hone
    have hlen := vrs_length hcu
    have hlen2 := vrs_length hc
    simp only [Array.length_toList] at hlen hlen2
    have e := Go.AM.foldl_set off u.cells.toList 0 arr (by simp; omega)
    simp only [Nat.add_zero, Array.length_toList] at e
    have hz : (u.cells.zipIdx.foldl (fun cs (c, j) => cs.setIfInBounds (off + j) c) arr).toList = arr.toList.take off ++ u.cells.toList ++ arr.toList.drop (off + u.cells.size) := by
     rw [← e, ← Array.foldl_toList]
     simp
    obtain ⟨arr', hf, hc'⟩ := mfill_sound parts vals _ cs' (u.cells.zipIdx.foldl (fun cs (c, j) => cs.setIfInBounds (off + j) c) arr) (by simpa using hl)
     (fun j p q hj hq => hs (j + 1) p q (by simpa using hj) (by simpa using hq))
     (by rw [hz, List.append_assoc, ← hlen, hsz]; exact vrs_append (vrs_take off hc) (vrs_append hcu (vrs_drop _ hc))) h
    refine ⟨arr', ?_, hc'⟩
    simp only [Instr.fill, ho]
    rw [if_neg]
    ·exact hf
    ·simp only [ne_eq, Bool.or_eq_true, decide_eq_true_eq]
     omega
   ·cases h
  ·cases h
theorem zero_cells {v : Value} {cs : List MV} (h : ofV v = .agg cs) : vrs φ (mcells (ofV v)) v.cells.toList := by
 have := vr_ofV (φ := φ) v
 rw [h] at this ⊢
 simp only [vr] at this
 obtain ⟨arr, rfl, hc⟩ := this
 exact hc
theorem mbuild_sound (ht : TbOk P tb) {t : TypeId} {parts : List (Nat × MV)} {v : MV} {vals : List (Nat × Value)}
  (hv : mbuild tb t parts = some v) (hl : parts.length = vals.length) (hs : ∀ (j : Nat) (p : Nat × MV) (q : Nat × Value), parts[j]? = some p → vals[j]? = some q → p.1 = q.1 ∧ vr φ p.2 q.2) :
  Here P φ (Instr.build t vals.toArray) w v := by
 unfold mbuild at hv
 split at hv
 ·rename_i ti hty
  have T := ht.ty t ti hty
  split at hv
  ·rename_i fs hd
   split at hv
   ·rename_i cs cs0 hf hz
    cases hv
    have ho := T.offs fs hd
    obtain ⟨arr', h1, h2⟩ := mfill_sound (place := fun i : Nat => ti.offs[i]?) parts vals _ cs ti.zv.cells hl hs (zero_cells hz) hf
    refine ⟨.agg arr', ?_, by simp only [vr]; exact ⟨_, rfl, h2⟩⟩
    unfold Instr.build
    have hpl : (fun i : Nat => ti.offs[i]?) = ((fs.toList.map fun f => (f.offset, P.cellsOf f.type)).toArray[·]?) := by
     funext i
     rw [ho]
     simp
    rw [hpl] at h1
    simp only [Sem.run_bind, T.run_zero, T.run_und, Result.andThen_ok, hd, Go.AM.run_mapM_array, Go.AM.mapM_places fs fs.toList (fun f hf => Option.isSome_iff_exists.1 (List.all_eq_true.1 (T.fty fs hd) f hf)), h1, Sem.run_pure]
   ·cases hv
  ·rename_i n e hd
   split at hv
   ·rename_i te hte
    have TE := ht.ty e te hte
    split at hv
    ·rename_i cs cs0 hf hz
     cases hv
     obtain ⟨arr', h1, h2⟩ := mfill_sound (place := fun i => some (i * te.size, te.size)) parts vals _ cs ti.zv.cells hl hs (zero_cells hz) hf
     refine ⟨.agg arr', ?_, by simp only [vr]; exact ⟨_, rfl, h2⟩⟩
     unfold Instr.build
     simp only [Sem.run_bind, T.run_zero, T.run_und, TE.run_size, Result.andThen_ok, hd, h1, Sem.run_pure]
    ·cases hv
   ·cases hv
  ·cases hv
 ·cases hv
theorem mnil_sound {x v : MV} {u : Value} (hv : mnil x = some v) (hx : vr φ x u) : vr φ v u ∧ ((∃ a, u = .pointer (some a)) ∨ ∃ f a b, u = .func (.func f) a b) := by
 unfold mnil at hv
 split at hv
 ·cases hv
  refine ⟨hx, .inl ?_⟩
  simp only [vr] at hx
  obtain ⟨b, base, sp, hp, rfl⟩ := hx
  exact ⟨_, rfl⟩
 ·cases hv
  refine ⟨hx, .inr ?_⟩
  simp only [vr] at hx
  obtain ⟨a, b, rfl, _⟩ := hx
  exact ⟨_, _, _, rfl⟩
 ·cases hv
theorem vrs_map {α : Type} {f : α → MV} {f' : α → Value} : ∀ {l : List α}, (∀ x ∈ l, vr φ (f x) (f' x)) → vrs φ (l.map f) (l.map f')
 | [], _ => by simp [vrs]
 | x :: l, h => by
  simp only [List.map_cons, vrs]
  exact ⟨_, _, rfl, h x (by simp), vrs_map fun y hy => h y (by simp [hy])⟩
theorem parts_ok {α : Type} {f : α → MV} {f' : α → Value} {ps : List (Nat × α)} (h : ∀ p ∈ ps, vr φ (f p.2) (f' p.2)) (j : Nat) (p : Nat × MV) (q : Nat × Value) (hp : (ps.map fun p => (p.1, f p.2))[j]? = some p) (hq : (ps.map fun p => (p.1, f' p.2))[j]? = some q) : p.1 = q.1 ∧ vr φ p.2 q.2 := by
 rw [List.getElem?_map] at hp hq
 cases hx : ps[j]? with
 | none => rw [hx] at hp; cases hp
 | some x =>
  rw [hx] at hp hq
  cases hp; cases hq
  exact ⟨rfl, h x (List.mem_of_getElem? hx)⟩
theorem ovr_map {x : Operand → MV} {y : Operand → Value} {o : Option Operand} (h : ∀ a, o = some a → vr φ (x a) (y a)) : ovr φ (o.map x) (o.map y) := by
 cases o with
 | none => trivial
 | some a => exact h a rfl
theorem qev_sound (ht : TbOk P tb) (hc : Core w0 φ g w) (hl : Hf.le h g) {o : Oper} {x : Operand → MV} {y : Operand → Value} {v : MV} (hv : qev tb h x o.op = some v) (hop : ∀ a ∈ o.op.operands, vr φ (x a) (y a)) :
  ∃ u, (execOp y o).run P w = .ok (.value u) w ∧ vr φ v u := by
 have of : ∀ {s : Sem Value}, Here P φ s w v → (∀ u, s.run P w = .ok u w → (execOp y o).run P w = .ok (.value u) w) → ∃ u, (execOp y o).run P w = .ok (.value u) w ∧ vr φ v u := fun ⟨u, h1, h2⟩ h3 => ⟨u, h3 u h1, h2⟩
 obtain ⟨dst, op, type, pos, after, guard⟩ := o
 simp only at hv hop
 cases op with
 | move a => cases hv; exact ⟨_, rfl, hop a (by simp [Op.operands])⟩
 | assign a => cases hv; exact ⟨_, rfl, hop a (by simp [Op.operands])⟩
 | pick c a b =>
  simp only [qev] at hv
  unfold mpick at hv
  have hcc := hop c (by simp [Op.operands])
  split at hv
  ·rename_i hct
   cases hv
   rw [hct] at hcc
   simp only [vr] at hcc
   exact ⟨y a, by simp [execOp, hcc, asBool], hop a (by simp [Op.operands])⟩
  ·rename_i hct
   cases hv
   rw [hct] at hcc
   simp only [vr] at hcc
   exact ⟨y b, by simp [execOp, hcc, asBool], hop b (by simp [Op.operands])⟩
  ·cases hv
 | load t a => exact of (mload_sound ht hc hl hv (hop a (by simp [Op.operands]))) fun u hu => by simp [execOp, hu]
 | nilCheck a =>
  obtain ⟨h1, h2⟩ := mnil_sound (show mnil (x a) = some v from hv) (hop a (by simp [Op.operands]))
  refine ⟨y a, ?_, h1⟩
  rcases h2 with ⟨ad, he⟩ | ⟨f, p, q, he⟩ <;> simp [execOp, he]
 | fieldAddr t a k => exact of (mfield_sound ht hv (hop a (by simp [Op.operands]))) fun u hu => by simp [execOp, hu]
 | field t a k => exact of (mfieldV_sound ht hv (hop a (by simp [Op.operands]))) fun u hu => by simp [execOp, hu]
 | indexAddr t a i => exact of (mindexAddr_sound ht hv (hop a (by simp [Op.operands])) (hop i (by simp [Op.operands]))) fun u hu => by simp [execOp, hu]
 | index t a i => exact of (mindexV_sound ht hv (hop a (by simp [Op.operands])) (hop i (by simp [Op.operands]))) fun u hu => by simp [execOp, hu]
 | slice t a lo hi mx =>
  refine of (mslice_sound ht hv (hop a (by simp [Op.operands])) (ovr_map fun b hb => hop b (by simp [Op.operands, hb])) (ovr_map fun b hb => hop b (by simp [Op.operands, hb])) (ovr_map fun b hb => hop b (by simp [Op.operands, hb]))) fun u hu => by simp [execOp, hu]
 | binOp op t a b yt =>
  refine of (mbin_sound ht (xo := a) (yo := b) hv (hop a (by simp [Op.operands])) (hop b (by simp [Op.operands]))) fun u hu => ?_
  simp only [Sem.run_bind] at hu
  simp only [execOp, Sem.run_bind, Sem.run_pure]
  revert hu
  cases (eqGuard op t a b (y a) (y b)).run P w with
  | ok c w' =>
   simp only [Result.andThen_ok]
   intro hu
   rw [hu]
   rfl
  | halt c w' => intro hu; cases hu
 | unOp op t a => exact of (mun_sound hv (hop a (by simp [Op.operands]))) fun u hu => by simp [execOp, hu]
 | convert src dst' a => exact of (mconv_sound ht hc hl hv (hop a (by simp [Op.operands]))) fun u hu => by simp [execOp, hu]
 | build t parts =>
  have hv' : mbuild tb t (parts.toList.map fun p => (p.1, x p.2)) = some v := hv
  have hp : ∀ p ∈ parts.toList, vr φ (x p.2) (y p.2) := fun p hp => hop p.2 (by simp only [Op.operands]; simpa using ⟨p.1, by simpa using hp⟩)
  have := mbuild_sound (P := P) (w := w) ht hv' (vals := parts.toList.map fun p => (p.1, y p.2)) (by simp) (fun j p q hp' hq' => parts_ok hp j p q hp' hq')
  have e : (parts.toList.map fun p => (p.1, y p.2)).toArray = parts.map fun p => (p.1, y p.2) := by rw [← Array.toList_map, Array.toArray_toList]
  rw [e] at this
  exact of this fun u hu => by simp [execOp, hu]
 | extract a i => exact of (mextract_sound hv (hop a (by simp [Op.operands]))) fun u hu => by simp [execOp, hu]
 | lookup t m k ok => exact of (mlookup_sound ht hc hl hv (hop m (by simp [Op.operands])) (hop k (by simp [Op.operands]))) fun u hu => by simp [execOp, hu]
 | makeFunc fn first caps =>
  cases fn with
  | func f =>
   cases hv
   refine ⟨.func (.func f) (first.map y) (caps.map y), by simp [execOp, Instr.makeFunc], ?_⟩
   simp only [vr]
   refine ⟨_, _, rfl, ?_, ?_⟩
   ·rw [Array.toList_map]
    exact vrs_map fun a ha => hop a (by simp only [Op.operands]; exact Array.mem_append.2 (.inl (by simpa using ha)))
   ·rw [Array.toList_map]
    exact vrs_map fun a ha => hop a (by simp only [Op.operands]; exact Array.mem_append.2 (.inr (by simpa using ha)))
  | _ => cases hv
 | call c =>
  obtain ⟨callee, args, ts⟩ := c
  obtain ⟨args⟩ := args
  obtain ⟨ts⟩ := ts
  cases callee with
  | builtin b =>
   have ha : ∀ z ∈ args, vr φ (x z) (y z) := fun z hz => hop z (by simp [Op.operands, Call.operands]; exact hz)
   simp only [qev] at hv
   split at hv
   ·rename_i a t
    exact of (mlen_sound (ty := type) ht hc hl hv (ha a (by simp))) fun u hu => by simp [execOp, resolve, invoke, builtin, hu]
   ·rename_i a t
    exact of (mcap_sound (ty := type) ht hv (ha a (by simp))) fun u hu => by simp [execOp, resolve, invoke, builtin, hu]
   ·rename_i a r
    exact of (mmax_sound hv (ha a (by simp)) (vrs_map fun z hz => ha z (by simp [hz]))) fun u hu => by
     simp [execOp, resolve, invoke, builtin, Builtin.max_, hu]
   ·rename_i a r
    exact of (mmin_sound hv (ha a (by simp)) (vrs_map fun z hz => ha z (by simp [hz]))) fun u hu => by
     simp [execOp, resolve, invoke, builtin, Builtin.min_, hu]
   ·cases hv
  | _ => cases hv
 | _ => cases hv
end
end Go.MX
namespace Go.MX
open Go.RowKit
open Go.AM (Blw Key KK TI TabFact Tab TabOk Tb TbOk addr_add)
abbrev Ups := List (Nat × Option MO)
def app (h : Hf) : Ups → Hf
 | [] => h
 | (i, o) :: r => app (upd h i o) r
def splice (cs : List MV) (o : Nat) (xs : List MV) : List MV := cs.take o ++ (xs ++ cs.drop (o + xs.length))
def mstore (tb : Tb) (h : Hf) (t : TypeId) (x y : MV) : Option (MV × Ups) := match tb.ty t, x with
 | some ti, .ptr i o => match h i with
  | some (.cells sz e cs op) => match Nat.beq (mcells y).length ti.size, Nat.ble (o + ti.size) cs.length, ones (mcells y) with
   | true, true, true => some (.tup [], [(i, some (.cells sz e (splice cs o (mcells y)) op))])
   | _, _, _ => none
  | _ => none
 | _, _ => none
def byteMs : List UInt8 → List MV
 | [] => []
 | b :: s => .int .u8 b.toNat :: byteMs s
def msrc (tb : Tb) (h : Hf) (tx : TypeId) (sz : Nat) (y : MV) : Option (Nat × List MV) := match tb.ty tx with
 | none => none
 | some tix => match tix.desc, y with
  | .slice _, .nils => some (0, [])
  | .slice _, .sl _ _ 0 _ _ => some (0, [])
  | .slice _, .sl i o (m + 1) _ _ => match h i with
   | some (.cells _ _ cs _) => match Nat.beq ((cs.drop o).take ((m + 1) * sz)).length ((m + 1) * sz), ones ((cs.drop o).take ((m + 1) * sz)) with
    | true, true => some (m + 1, (cs.drop o).take ((m + 1) * sz))
    | _, _ => none
   | _ => none
  | .string, .str s => match sz with
   | 1 => some (s.length, byteMs s)
   | _ => none
  | _, _ => none
def mgrow (h : Hf) (n0 sz : Nat) (e : TypeId) (m : Nat) (ys : List MV) : MV → Option (MV × Ups)
 | .nils => match m with
  | 0 => some (.nils, [])
  | m + 1 => some (.sl n0 0 (m + 1) (m + 1) true, [(n0, some (.cells sz e ys true))])
 | .sl i o n c op => match m with
  | 0 => some (.sl i o n c op, [])
  | m + 1 => match Nat.ble (n + (m + 1)) c, op with
   | true, _ => match h i with
    | some (.cells sz' e' cs op') => match Nat.ble (o + (n + (m + 1)) * sz) cs.length with
     | true => some (.sl i o (n + (m + 1)) c op, [(i, some (.cells sz' e' (splice cs (o + n * sz) ys) op'))])
     | false => none
    | _ => none
   | false, false => match n with
    | 0 => some (.sl n0 0 (m + 1) (m + 1) true, [(n0, some (.cells sz e ys true))])
    | n + 1 => match h i with
     | some (.cells _ _ cs _) => match Nat.beq ((cs.drop o).take ((n + 1) * sz)).length ((n + 1) * sz) with
      | true => some (.sl n0 0 ((n + 1) + (m + 1)) ((n + 1) + (m + 1)) true, [(n0, some (.cells sz e ((cs.drop o).take ((n + 1) * sz) ++ ys) true))])
      | false => none
     | _ => none
   | false, true => match h i with
    | some (.cells sz' e' cs _) => match Nat.beq sz sz', Nat.beq e e', Nat.beq cs.length (o + c * sz) with
     | true, true, true => some (.sl n0 0 (n + (m + 1)) (n + (m + 1)) true, [(i, none), (n0, some (.cells sz e ((cs.drop o).take (n * sz) ++ ys) true))])
     | _, _, _ => none
    | _ => none
 | _ => none
def lenOfM : MV → Option Nat
 | .nils => some 0
 | .sl _ _ n _ _ => some n
 | _ => none
def mappend (tb : Tb) (h : Hf) (n0 : Nat) (t tx : TypeId) (x y : MV) : Option (MV × Ups × Nat) := match tb.ty t with
 | none => none
 | some ti => match ti.desc with
  | .slice e => match tb.ty e with
   | some te => match msrc tb h tx te.size y, lenOfM x with
    | some (m, ys), some n => match Nat.ble 1 te.size, Nat.ble 1 te.bytes, Nat.ble ((n + m) * te.bytes) 140737488355328 with
     | true, true, true => match mgrow h n0 te.size e m ys x with
      | some (v, us) => some (v, us, n0 + 1)
      | none => none
     | _, _, _ => none
    | _, _ => none
   | none => none
  | _ => none
def mzeros (zs : List MV) : Nat → List MV
 | 0 => []
 | n + 1 => zs ++ mzeros zs n
def mmakeSlice (tb : Tb) (n0 : Nat) (t : TypeId) (l c : MV) : Option (MV × Ups × Nat) := match tb.ty t, l, c with
 | some ti, .int _ l, .int _ c => match ti.desc, natOf l, natOf c with
  | .slice e, some n, some m => match tb.ty e with
   | some te => match Nat.ble n m, Nat.ble 1 te.size, Nat.ble 1 te.bytes, Nat.ble (m * te.bytes) 140737488355328, ones (mcells (ofV te.zv)) with
    | true, true, true, true, true => some (.sl n0 0 n m false, [(n0, some (.cells te.size e (mzeros (mcells (ofV te.zv)) m) false))], n0 + 1)
    | _, _, _, _, _ => none
   | none => none
  | _, _, _ => none
 | _, _, _ => none
def mbuildSlice (tb : Tb) (n0 : Nat) (t : TypeId) (len : Nat) (parts : List (Nat × MV)) : Option (MV × Ups × Nat) := match tb.ty t with
 | none => none
 | some ti => match ti.desc with
  | .slice e => match tb.ty e with
   | some te => match Nat.ble 1 te.size, Nat.ble (len * te.size) 16777216, ones (mcells (ofV te.zv)) with
    | true, true, true => match mfill (mzeros (mcells (ofV te.zv)) len) (fun i => some (i * te.size, te.size)) parts with
     | some cs => some (.sl n0 0 len len false, [(n0, some (.cells te.size e cs false))], n0 + 1)
     | none => none
    | _, _, _ => none
   | none => none
  | _ => none
def mset : List (Key × MV × Nat) → Key → MV → Nat → List (Key × MV × Nat)
 | [], k, u, n => [(k, u, n)]
 | x :: es, k, u, n => match eqK x.1 k with
  | true => (x.1, u, x.2.2) :: es
  | false => x :: mset es k u n
def mhas : List (Key × MV × Nat) → Key → Bool
 | [], _ => false
 | x :: es, k => match eqK x.1 k with
  | true => true
  | false => mhas es k
def mdel : List (Key × MV × Nat) → Key → List (Key × MV × Nat)
 | [], _ => []
 | x :: es, k => match eqK x.1 k with
  | true => es
  | false => x :: mdel es k
def mmapSet (tb : Tb) (h : Hf) (t : TypeId) (m k u : MV) : Option (MV × Ups) := match tb.ty t, mkey k, m with
 | some ti, some key, .map i => match ti.desc, h i with
  | .map kt _, some (.map kk es clk) => match decide (tb.key kt = some kk), key.fits kk with
   | true, true => some (.tup [], [(i, some (.map kk (mset es key u clk) (match mhas es key with | true => clk | false => clk + 1)))])
   | _, _ => none
  | _, _ => none
 | _, _, _ => none
def mdelete (tb : Tb) (h : Hf) (t : TypeId) (m k : MV) : Option (MV × Ups) := match tb.ty t, mkey k, m with
 | some ti, some key, .map i => match ti.desc, h i with
  | .map kt _, some (.map kk es clk) => match decide (tb.key kt = some kk), key.fits kk with
   | true, true => some (.tup [], [(i, some (.map kk (mdel es key) clk))])
   | _, _ => none
  | _, _ => none
 | _, _, _ => none
def mentry (tb : Tb) (h : Hf) (t : TypeId) (m k : MV) : Option (MV × Ups) := match tb.ty t, mkey k, m with
 | some ti, some key, .map i => match ti.desc, h i with
  | .map kt e, some (.map kk es clk) => match decide (tb.key kt = some kk), key.fits kk, tb.ty e with
   | true, true, some te => match es.find? (fun x => eqK x.1 key) with
    | some x => some (.tup [x.2.1, .int .i64 x.2.2], [(i, some (.map kk es clk))])
    | none => some (.tup [ofV te.zv, .int .i64 clk], [(i, some (.map kk (es ++ [(key, ofV te.zv, clk)]) (clk + 1)))])
   | _, _, _ => none
  | _, _ => none
 | _, _, _ => none
def mput : List (Key × MV × Nat) → Nat → MV → Option (List (Key × MV × Nat))
 | [], _, _ => none
 | x :: es, n, u => match Nat.beq x.2.2 n with
  | true => some ((x.1, u, x.2.2) :: es)
  | false => match mput es n u with
   | some es => some (x :: es)
   | none => none
def mentryStore (h : Hf) (m s u : MV) : Option (MV × Ups) := match m, s with
 | .map i, .int _ n => match h i, natOf n with
  | some (.map kk es clk), some n => match mput es n u with
   | some es' => some (.tup [], [(i, some (.map kk es' clk))])
   | none => none
  | _, _ => none
 | _, _ => none
def mbytes (tb : Tb) (n0 : Nat) (src dst : TypeId) (x : MV) : Option (MV × Ups × Nat) := match tb.ty src, tb.ty dst, x with
 | some _, some td, .str s => match td.desc with
  | .slice e => match tb.ty e, Nat.ble s.length 1000000 with
   | some te, true => match te.desc with
    | .int .u8 => some (.sl n0 0 s.length s.length true, [(n0, some (.ro e (byteMs s)))], n0 + 1)
    | _ => none
   | _, _ => none
  | _ => none
 | _, _, _ => none
def noNew (n0 : Nat) : Option (MV × Ups) → Option (MV × Ups × Nat)
 | some (v, us) => some (v, us, n0)
 | none => none
def eev (tb : Tb) (h : Hf) (n0 : Nat) (x : Operand → MV) : Op → Option (MV × Ups × Nat)
 | .alloc t => match tb.ty t with
  | some ti => match ones (mcells (ofV ti.zv)) with
   | true => some (.ptr n0 0, [(n0, some (.cells ti.size t (mcells (ofV ti.zv)) false))], n0 + 1)
   | false => none
  | none => none
 | .box t a => match ones (mcells (x a)) with
  | true => some (.ptr n0 0, [(n0, some (.cells (mcells (x a)).length t (mcells (x a)) false))], n0 + 1)
  | false => none
 | .buildSlice t n parts => mbuildSlice tb n0 t n (parts.toList.map fun p => (p.1, x p.2))
 | .makeSlice t l c => mmakeSlice tb n0 t (x l) (x c)
 | .makeMap t r => match tb.ty t with
  | some ti => match ti.desc with
   | .map kt _ => match tb.key kt, r.map x with
    | some kk, none => some (.map n0, [(n0, some (.map kk [] 0))], n0 + 1)
    | some kk, some (.int _ _) => some (.map n0, [(n0, some (.map kk [] 0))], n0 + 1)
    | _, _ => none
   | _ => none
  | none => none
 | .convert src dst a => mbytes tb n0 src dst (x a)
 | .store t a v => noNew n0 (mstore tb h t (x a) (x v))
 | .mapUpdate t m k u => noNew n0 (mmapSet tb h t (x m) (x k) (x u))
 | .insert t m k u => noNew n0 (mmapSet tb h t (x m) (x k) (x u))
 | .mapEntry t m k => noNew n0 (mentry tb h t (x m) (x k))
 | .entryStore _ m s u => noNew n0 (mentryStore h (x m) (x s) (x u))
 | .call { callee := .builtin b, args := args, argTypes := ts } => match b, args.toList, ts.toList with
  | .append, [a, b], [t, tx] => mappend tb h n0 t tx (x a) (x b)
  | .delete, [m, k], t :: _ => noNew n0 (mdelete tb h t (x m) (x k))
  | _, _, _ => none
 | _ => none
def EffOk (P : Program) (w0 : World) (φ : Pl) (w : World) (g : Hf) (n0 n1 : Nat) (us : Ups) (s : Sem Next) (v : MV) : Prop :=
 ∃ φ' w' r u, s.run P w = .ok r w' ∧ (r = .value u ∨ (r = .skip ∧ u = undef)) ∧ vr φ' v u ∧ Pl.le φ φ' ∧ (∀ i, φ i = none → φ' i ≠ none → n0 ≤ i ∧ i < n1) ∧ Core w0 φ' (app g us) w'
section
variable {P : Program} {φ : Pl} {w w0 : World} {tb : Tb} {h g : Hf}
theorem ors_splice {sz : Nat} {e : TypeId} {cs : List MV} {op : Bool} {b base sp : Nat} (ho : ors φ w (.cells sz e cs op) b base sp) {o : Nat} {xs : List MV} {vs : List Value} (hx : vrs φ xs vs) (h1 : ones xs = true) (hle : o + xs.length ≤ cs.length) :
  ∃ cur : Array Value, w.heap[b]? = some (.cells cur e (0, 0)) ∧ base + o + vs.length ≤ cur.size ∧
   (storeCells ⟨b, base + o, none⟩ vs 0).run P w = .ok () (w.setRow b (cur.toList.take (base + o) ++ vs ++ cur.toList.drop (base + o + vs.length)).toArray) ∧
   ors φ (w.setRow b (cur.toList.take (base + o) ++ vs ++ cur.toList.drop (base + o + vs.length)).toArray) (.cells sz e (splice cs o xs) op) b base sp := by
 obtain ⟨h0, pre, us, post, h2, h3, h4, h5⟩ := ho
 have hl := vrs_length hx
 have hl2 := vrs_length h4
 refine ⟨_, h5, by simp; omega, ?_, ?_⟩
 ·have := run_storeCells_at (P := P) b (base + o) e vs 0 _ w h5 (by simp; omega) (vrs_one h1 hx)
  simpa only [Nat.add_zero] using this
 ·refine ⟨h0, pre, us.take o ++ (vs ++ us.drop (o + xs.length)), post, h2, h3, ?_, ?_⟩
  ·exact vrs_append (vrs_take o h4) (vrs_append hx (vrs_drop _ h4))
  ·rw [setRow_heap w b _ _ e (0, 0) h5]
   congr 2
   apply Array.ext'
   simp only [List.append_assoc]
   have e1 : (pre ++ (us ++ post)).take (base + o) = pre ++ us.take o := by
    rw [← h2, List.take_length_add_append, List.take_append_of_le_length (by omega)]
   have e2 : (pre ++ (us ++ post)).drop (base + o + vs.length) = us.drop (o + xs.length) ++ post := by
    rw [← h2, Nat.add_assoc, List.drop_length_add_append, List.drop_append_of_le_length (by omega), hl]
   rw [e1, e2]
   simp [List.append_assoc]
theorem Core.cells_write (hc : Core w0 φ g w) {i : Nat} {sz : Nat} {e : TypeId} {cs : List MV} {op : Bool} {b base sp : Nat} (hi : g i = some (.cells sz e cs op)) (hp : φ i = some (b, base, sp)) {cur new : Array Value} (_hh : w.heap[b]? = some (.cells cur e (0, 0))) {o' : MO}
  (ho : ors φ (w.setRow b new) o' b base sp) : Core w0 φ (upd g i (some o')) (w.setRow b new) :=
 hc.write hi hp rfl rfl rfl (Nat.le_refl _) (by simp) (fun b' _ hne => setRow_other w b b' _ hne) ho
theorem mstore_sound (ht : TbOk P tb) (hc : Core w0 φ g w) (hl : Hf.le h g) {t : TypeId} {x y v : MV} {us : Ups} {u q : Value} (hv : mstore tb h t x y = some (v, us)) (hx : vr φ x u) (hy : vr φ y q) (n0 : Nat) :
  EffOk P w0 φ w g n0 n0 us (do Instr.storeAt t u q; pure .skip) v := by
 unfold mstore at hv
 split at hv
 ·rename_i ti i o hty
  have T := ht.ty t ti hty
  simp only [vr] at hx
  obtain ⟨b, base, sp, hp, rfl⟩ := hx
  split at hv
  ·rename_i sz e cs op hi
   split at hv
   ·rename_i h1 h2 h3
    cases hv
    have h1 := Nat.eq_of_beq_eq_true h1
    have h2 := Nat.le_of_ble_eq_true h2
    have hq := mcells_sound hy h3
    have hql := vrs_length hq
    simp only [Array.length_toList] at hql
    obtain ⟨cur, hh, hle, hr, ho⟩ := ors_splice (P := P) (hc.obj hl hi hp) (o := o) hq h3 (by omega)
    refine ⟨φ, _, .skip, undef, ?_, .inr ⟨rfl, rfl⟩, by simp [vr, undef, vrs], Pl.le_refl _, fun i h1 h2 => absurd h1 h2, hc.cells_write (hl i _ hi) hp hh ho⟩
    simp only [Instr.storeAt, storeVar, Instr.sureAddr, Sem.run_bind, Sem.run_pure, Result.andThen_ok, T.run_size]
    rw [if_neg (by omega)]
    rw [hr]
    rfl
   ·cases hv
  ·cases hv
 ·cases hv
theorem vr_put {φ : Pl} {i b base sp : Nat} (hp : φ i = none) : Pl.le φ (upd φ i (some (b, base, sp))) := Pl.le_upd hp
theorem EffOk.made (hc : Core w0 φ g w) {n0 : Nat} (hn : φ n0 = none) {o : MO} {ob : Obj} {w' : World} {sp : Nat} (hw : Blw w.heap.size w w') (hb : w'.heap[w.heap.size]? = some ob) {s : Sem Next} {v : MV} {u : Value} (hr : s.run P w = .ok (.value u) w')
  (hv : vr (upd φ n0 (some (w.heap.size, 0, sp))) v u) (ho : ors (upd φ n0 (some (w.heap.size, 0, sp))) w' o w.heap.size 0 sp) : EffOk P w0 φ w g n0 (n0 + 1) [(n0, some o)] s v :=
 ⟨_, _, _, _, hr, .inl rfl, hv, vr_put hn, fun i h1 h2 => by
  by_cases hi : i = n0
  ·omega
  ·rw [upd_other _ _ hi] at h2; exact absurd h1 h2, hc.new hn hw hb ho⟩
theorem ors_new {w : World} {sz : Nat} {e : TypeId} {cs : List MV} {vs : List Value} (hs : vrs φ cs vs) : ors φ (w.alloc (.cells vs.toArray e)) (.cells sz e cs false) w.heap.size 0 0 :=
 ⟨fun _ => rfl, [], vs, [], rfl, by simp, hs, by rw [heap_alloc_new]; simp⟩
theorem blw_alloc (w : World) (o : Obj) : Blw w.heap.size w (w.alloc o) := (Blw.refl _ _).alloc (Nat.le_refl _) _
theorem box_sound (hc : Core w0 φ g w) {n0 : Nat} (hn : φ n0 = none) {t : TypeId} {x : MV} {u : Value} (hx : vr φ x u) (h1 : ones (mcells x) = true) (sz : Nat) {s : Sem Next} (hs : s.run P w = .ok (.value (.pointer (some ⟨w.heap.size, 0, none⟩))) (w.alloc (.cells u.cells t))) :
  EffOk P w0 φ w g n0 (n0 + 1) [(n0, some (.cells sz t (mcells x) false))] s (.ptr n0 0) := by
 have hq := mcells_sound hx h1
 refine EffOk.made (sp := 0) hc hn (blw_alloc w _) (heap_alloc_new w _) hs ?_ ?_
 ·simp only [vr]
  exact ⟨_, _, _, upd_same _ _ _, rfl⟩
 ·have := ors_new (w := w) (sz := sz) (e := t) (vrs_le (vr_put (b := w.heap.size) (base := 0) (sp := 0) hn) _ _ hq)
  simpa using this
theorem byteMs_sound : ∀ s : List UInt8, vrs φ (byteMs s) (s.map fun b => Value.int .u8 b.toNat)
 | [] => by simp [byteMs, vrs]
 | b :: s => by simp only [byteMs, List.map_cons, vrs]; exact ⟨_, _, rfl, vr_int, byteMs_sound s⟩
theorem byteMs_ones : ∀ s : List UInt8, ones (byteMs s) = true
 | [] => rfl
 | b :: s => by simp only [byteMs, ones, MV.one]; exact byteMs_ones s
theorem msrc_sound (ht : TbOk P tb) (hc : Core w0 φ g w) (hl : Hf.le h g) {tx : TypeId} {sz m : Nat} {y : MV} {ys : List MV} {q : Value} (hv : msrc tb h tx sz y = some (m, ys)) (hy : vr φ y q) :
  ∃ vs, vrs φ ys vs ∧ ones ys = true ∧ ys.length = m * sz ∧ Src P sz tx q m vs w := by
 unfold msrc at hv
 split at hv
 ·cases hv
 ·rename_i tix hty
  have T := ht.ty tx tix hty
  split at hv
  ·rename_i e hd
   cases hv
   simp only [vr] at hy
   subst hy
   exact ⟨[], by simp [vrs], rfl, by simp, Src.ofNil w (T.und.trans (by rw [hd])) 0⟩
  ·rename_i e i o c op hd
   cases hv
   simp only [vr] at hy
   obtain ⟨b, base, sp, a, hp, rfl, _⟩ := hy
   exact ⟨[], by simp [vrs], rfl, by simp, Src.ofSlice w (T.und.trans (by rw [hd])) a 0 _ [] (by simp) (fun j u hj => by simp at hj) (fun u hu => by cases hu)⟩
  ·rename_i e i o m' c op hd
   split at hv
   ·rename_i sz' e' cs op' hi
    split at hv
    ·rename_i h1 h2
     cases hv
     have h1 := Nat.eq_of_beq_eq_true h1
     simp only [vr] at hy
     obtain ⟨b, base, sp, a, hp, rfl, hnc, _, ha⟩ := hy
     have ha := ha (by omega)
     subst ha
     obtain ⟨us, h3, h4⟩ := mem_cells (hc.obj hl hi hp)
     have h5 := vrs_take ((m' + 1) * sz) (vrs_drop o h3)
     refine ⟨_, h5, h2, h1, Src.ofSlice w (T.und.trans (by rw [hd])) _ _ _ _ (by rw [← vrs_length h5, h1]) (fun j u hj => ?_) (vrs_one h2 h5)⟩
     rw [addr_add, Nat.add_assoc]
     rw [List.getElem?_take] at hj
     split at hj
     ·rw [List.getElem?_drop] at hj
      exact h4 _ u hj
     ·cases hj
    ·cases hv
   ·cases hv
  ·rename_i s hd
   split at hv
   ·cases hv
    simp only [vr] at hy
    subst hy
    exact ⟨_, byteMs_sound s, byteMs_ones s, by
     have := vrs_length (byteMs_sound (φ := φ) s)
     simp at this
     omega, by
     have := Src.ofString (P := P) w (T.und.trans (by rw [hd])) ⟨s.toArray⟩
     simpa [byteCells, bytes_size] using this⟩
   ·cases hv
  ·cases hv
end
end Go.MX
namespace Go.MX
open Go.RowKit
open Go.AM (Blw Key KK TI TabFact Tab TabOk Tb TbOk addr_add)
section
variable {P : Program} {φ : Pl} {w w0 : World} {tb : Tb} {h g : Hf}
theorem run_app_zero {t tx ty e : TypeId} {i : TypeInfo} (ht : P.underlying t = some (.slice e)) (hi : P.info? e = some i) {x : Value} {news : List Value} (hs : Src P i.size tx x 0 news w) (base : Option Addr) (n c : Nat) (hle : n ≤ c) :
  (Builtin.append_ #[t, tx] ty #[.slice base n c, x]).run P w = .ok (.slice base n c) w := by
 have hn : news = [] := List.eq_nil_of_length_eq_zero (by rw [hs.newsLen]; simp)
 subst hn
 rcases hs.kind with ⟨e', hk⟩ | hk <;> cases base <;> simp [Builtin.append_, run_underlying ht, run_underlying hk, sizeOf, typeInfo, hi, hs.len, hs.cells, hle, storeCells]
theorem run_app_room {w' : World} {t tx ty e : TypeId} {i : TypeInfo} (ht : P.underlying t = some (.slice e)) (hi : P.info? e = some i) {x : Value} {m : Nat} {news : List Value} (hs : Src P i.size tx x m news w) (b off n c : Nat) (hle : n + m ≤ c)
  (hst : (storeCells ⟨b, off + n * i.size, none⟩ news 0).run P w = .ok () w') :
  (Builtin.append_ #[t, tx] ty #[.slice (some ⟨b, off, none⟩) n c, x]).run P w = .ok (.slice (some ⟨b, off, none⟩) (n + m) c) w' := by
 rcases hs.kind with ⟨e', hk⟩ | hk <;> simp [Builtin.append_, run_underlying ht, run_underlying hk, sizeOf, typeInfo, hi, hs.len, hs.cells, hle, Addr.add_lit, hst]
theorem blw_drew_alloc (w : World) (o : Obj) : Blw w.heap.size w (w.drew.alloc o) := ⟨⟨rfl, rfl, rfl, by simp, fun b hb => Below.heap_alloc w.drew o b hb⟩, Nat.le_succ _⟩
theorem grow_ok (ht : TbOk P tb) (hc : Core w0 φ g w) {n0 : Nat} (hn : φ n0 = none) {t tx ty e : TypeId} {ti te : TI} (hty : tb.ty t = some ti) (hd : ti.desc = .slice e) (hte : tb.ty e = some te) (_h1 : 1 ≤ te.size) (h2 : 1 ≤ te.bytes)
  {base : Option Addr} {n c : Nat} {os ys : List MV} {ov : List Value} (hos : vrs φ os ov) (_hol : os.length = n * te.size) (hcell : ∀ w' : World, (∀ (j : Nat) (u : Value), ov[j]? = some u → ∀ b, base = some b → w'.cell? (b.add j) = w.cell? (b.add j)) → (Builtin.firstCells te.size n (.slice base n c)).run P w' = .ok ov.toArray w')
  {q : Value} {m : Nat} {yv : List Value} (hys : vrs φ ys yv) (_hyl : ys.length = m * te.size) (hs : Src P te.size tx q m yv w) (hg : c < n + m) (hb : (n + m) * te.bytes ≤ 140737488355328) :
  ∃ u w', (Builtin.append_ #[t, tx] ty #[.slice base n c, q]).run P w = .ok u w' ∧ EffOk P w0 φ w g n0 (n0 + 1) [(n0, some (.cells te.size e (os ++ ys) true))] (do pure (.value (← Builtin.append_ #[t, tx] ty #[.slice base n c, q]))) (.sl n0 0 (n + m) (n + m) true) := by
 have T := ht.ty t ti hty
 have TE := ht.ty e te hte
 obtain ⟨i, hi, hi1, hi2, hi3⟩ := TE.get
 have hnm : n + m ≤ (n + m) * te.bytes := Nat.le_mul_of_pos_right _ h2
 have h63 : n + m ≤ maxLen := by simp only [maxLen]; omega
 have hrun := run_append_grow_src w t tx ty e i te.zv (T.und.trans (by rw [hd])) hi hi3 base n c ov (by rw [hi1]; exact hcell w.drew fun j u _ b _ => rfl) q m yv (by rw [hi1]; exact hs) hg (by simp only [maxLen] at h63; omega)
  (growslice_fits hg (by rw [hi2]; exact hb))
 have hge := grownCap_ge w (n + m) c e
 have hcm := grownCap_le_maxLen w (n + m) c e h63
 refine ⟨_, _, hrun, EffOk.made (sp := grownCap w (n + m) c e - (n + m)) hc hn (blw_drew_alloc w _) (heap_alloc_new w.drew _) (by simp only [Sem.run_bind, hrun, Result.andThen_ok, Sem.run_pure]; rfl) ?_ ?_⟩
 ·simp only [vr, xtra]
  refine ⟨_, _, _, _, upd_same _ _ _, ?_, Nat.le_refl _, by omega, fun _ => rfl⟩
  congr 1
  omega
 ·refine ⟨(fun h => by cases h), [], ov ++ yv, (Builtin.zeroCells te.zv.cells (grownCap w (n + m) c e - (n + m))).toList, rfl, ?_, vrs_le (vr_put hn) _ _ (vrs_append hos hys), ?_⟩
  ·rw [Array.length_toList, size_zeroCells, TE.zsize]
  ·have := heap_alloc_new w.drew (.cells ((ov ++ yv).toArray ++ Builtin.zeroCells te.zv.cells (grownCap w (n + m) c e - (n + m))) e)
   rw [show w.drew.heap.size = w.heap.size from rfl] at this
   rw [this]
   congr 2
   apply Array.ext'
   simp
theorem cells_first (w' : World) {n sz c : Nat} {a : Addr} {ov : List Value} (hl : ov.length = n * sz) (h : ∀ (j : Nat) (u : Value), ov[j]? = some u → w'.cell? (a.add j) = some u) : (Builtin.firstCells sz n (.slice (some a) n c)).run P w' = .ok ov.toArray w' :=
 run_firstCells_some w' sz n a n c ov hl h
theorem mappend_sound (ht : TbOk P tb) (hc : Core w0 φ g w) (hl : Hf.le h g) {n0 n1 : Nat} (hn : ∀ i, n0 ≤ i → i < n1 → φ i = none) {t tx ty : TypeId} {x y v : MV} {us : Ups} {u q : Value} (hv : mappend tb h n0 t tx x y = some (v, us, n1)) (hx : vr φ x u) (hy : vr φ y q) :
  EffOk P w0 φ w g n0 n1 us (do pure (.value (← Builtin.append_ #[t, tx] ty #[u, q]))) v := by
 unfold mappend at hv
 split at hv
 ·cases hv
 ·rename_i ti hty
  have T := ht.ty t ti hty
  split at hv
  ·rename_i e hd
   split at hv
   ·rename_i te hte
    have TE := ht.ty e te hte
    obtain ⟨i, hi, hi1, hi2, hi3⟩ := TE.get
    have hund := T.und.trans (by rw [hd])
    split at hv
    ·rename_i m ys n hsrc hlen
     split at hv
     ·rename_i h1 h2 h3
      have h1 := Nat.le_of_ble_eq_true h1
      have h2 := Nat.le_of_ble_eq_true h2
      have h3 := Nat.le_of_ble_eq_true h3
      split at hv
      ·rename_i v' us' hgr
       cases hv
       have hn0 : φ n0 = none := hn n0 (Nat.le_refl _) (by omega)
       obtain ⟨yv, hyv, hone, hyl, hs⟩ := msrc_sound ht hc hl hsrc hy
       have hs' : Src P i.size tx q m yv w := by rw [hi1]; exact hs
       have same : ∀ base n c, u = .slice base n c → n ≤ c → m = 0 → v = x → us = [] → EffOk P w0 φ w g n0 (n0 + 1) us (do pure (.value (← Builtin.append_ #[t, tx] ty #[u, q]))) v := by
        intro base n c hu hle hm hvx hus
        subst hu hm hvx hus
        exact ⟨φ, w, _, _, by simp only [Sem.run_bind, run_app_zero hund hi hs' base n c hle, Result.andThen_ok, Sem.run_pure], .inl rfl, hx, Pl.le_refl _, fun i h1 h2 => absurd h1 h2, hc⟩
       cases x with
       | nils =>
        simp only [vr] at hx
        subst hx
        cases m with
        | zero =>
         cases hgr
         exact ⟨φ, w, _, _, by simp only [Sem.run_bind, run_app_zero hund hi hs' none 0 0 (Nat.le_refl _), Result.andThen_ok, Sem.run_pure]; rfl, .inl rfl, by simp [vr], Pl.le_refl _, fun i h1 h2 => absurd h1 h2, hc⟩
        | succ m =>
         cases hgr
         simp only [lenOfM, Option.some.injEq] at hlen
         subst hlen
         obtain ⟨_, _, _, h5⟩ := grow_ok (ty := ty) (base := none) (n := 0) (c := 0) (os := []) (ov := []) ht hc hn0 hty hd hte h1 h2 (by simp [vrs]) (by simp) (fun w' _ => by simp [Builtin.firstCells]) hyv hyl hs (by omega) (by simpa using h3)
         simpa using h5
       | sl i' o n' c op =>
        simp only [lenOfM, Option.some.injEq] at hlen
        subst hlen
        have hx0 := hx
        simp only [vr] at hx
        obtain ⟨b, base, sp, a, hp, rfl, hnc, hmax, ha⟩ := hx
        cases m with
        | zero =>
         cases hgr
         exact same _ _ _ rfl (by omega) rfl rfl rfl
        | succ m =>
         simp only [mgrow] at hgr
         by_cases hle : n' + (m + 1) ≤ c
         ·-- there is room
          rw [Nat.ble_eq_true_of_le hle] at hgr
          simp only at hgr
          split at hgr
          ·rename_i sz' e' cs op' hi'
           split at hgr
           ·rename_i hroom
            cases hgr
            have hroom := Nat.le_of_ble_eq_true hroom
            have ha := ha (by omega)
            subst ha
            have hmul : (n' + (m + 1)) * te.size = n' * te.size + (m + 1) * te.size := Nat.add_mul _ _ _
            obtain ⟨cur, hh, hle', hr, ho⟩ := ors_splice (P := P) (hc.obj hl hi' hp) (o := o + n' * te.size) hyv hone (by omega)
            rw [← Nat.add_assoc] at hr ho
            have hrun := run_app_room (ty := ty) hund hi hs' b (base + o) n' (c + xtra op sp) (by omega) (by rw [hi1]; exact hr)
            refine ⟨φ, _, _, _, by simp only [Sem.run_bind, hrun, Result.andThen_ok, Sem.run_pure]; rfl, .inl rfl, ?_, Pl.le_refl _, fun i h1 h2 => absurd h1 h2, hc.cells_write (hl _ _ hi') hp hh ho⟩
            exact vr_sl_intro hp (by omega) hmax fun _ => rfl
           ·cases hgr
          ·cases hgr
         have hble : Nat.ble (n' + (m + 1)) c = false := by
          rw [Bool.eq_false_iff]
          exact fun e => hle (Nat.le_of_ble_eq_true e)
         rw [hble] at hgr
         cases op with
         | false => -- none, for certain
          simp only at hgr
          cases n' with
          | zero =>
           cases hgr
           obtain ⟨_, _, _, h5⟩ := grow_ok (ty := ty) (base := some a) (n := 0) (c := c + xtra false sp) (os := []) (ov := []) ht hc hn0 hty hd hte h1 h2 (by simp [vrs]) (by simp) (fun w' _ => cells_first w' (by simp) fun j u hj => by simp at hj) hyv hyl hs (by simp only [xtra]; omega) (by simpa using h3)
           simpa using h5
          | succ n' =>
           simp only at hgr
           split at hgr
           ·rename_i sz' e' cs op' hi'
            split at hgr
            ·rename_i hlen'
             cases hgr
             have hlen' := Nat.eq_of_beq_eq_true hlen'
             obtain ⟨us, h5, h6⟩ := mem_cells (hc.obj hl hi' hp)
             have h7 := vrs_take ((n' + 1) * te.size) (vrs_drop o h5)
             have ha := ha (by omega)
             subst ha
             obtain ⟨_, _, _, h8⟩ := grow_ok (ty := ty) (base := some ⟨b, base + o, none⟩) (n := n' + 1) (c := c + xtra false sp) ht hc hn0 hty hd hte h1 h2 h7 hlen' (fun w' hw' => cells_first w' (by rw [← vrs_length h7, hlen']) fun j u hj => by
              rw [hw' j u hj _ rfl, addr_add, Nat.add_assoc]
              rw [List.getElem?_take] at hj
              split at hj
              ·rw [List.getElem?_drop] at hj
               exact h6 _ u hj
              ·cases hj) hyv hyl hs (by simp only [xtra]; omega) h3
             exact h8
            ·cases hgr
           ·cases hgr
         | true => -- perhaps
          simp only at hgr
          split at hgr
          ·rename_i sz' e' cs op' hi'
           split at hgr
           ·rename_i hz he hcl
            cases hgr
            have hz := Nat.eq_of_beq_eq_true hz
            have he := Nat.eq_of_beq_eq_true he
            have hcl := Nat.eq_of_beq_eq_true hcl
            subst hz he
            have hob := hc.obj hl hi' hp
            obtain ⟨h0, pre, us, post, h5, h6, h7, h8⟩ := hob
            have hus := vrs_length h7
            simp only [xtra] at hmax ha
            have hnc' : n' * te.size ≤ c * te.size := Nat.mul_le_mul_right _ hnc
            have h9 := vrs_take (n' * te.size) (vrs_drop o h7)
            have h10 : ((us.drop o).take (n' * te.size)).length = n' * te.size := by simp; omega
            by_cases hfit : n' + (m + 1) ≤ c + sp
            ·-- in place
             have ha := ha (by omega)
             subst ha
             have hcap : (c + sp) * te.size = c * te.size + sp * te.size := Nat.add_mul _ _ _
             have hmul : (n' + (m + 1)) * te.size = n' * te.size + (m + 1) * te.size := Nat.add_mul _ _ _
             have hfit' : (n' + (m + 1)) * te.size ≤ (c + sp) * te.size := Nat.mul_le_mul_right _ hfit
             have hyvl : yv.length = (m + 1) * te.size := by rw [← vrs_length hyv, hyl]
             have hst := run_storeCells_at (P := P) b (base + o + n' * te.size) e yv 0 _ w h8 (by simp; omega) (vrs_one hone hyv)
             simp only [Nat.add_zero] at hst
             have hrun := run_app_room (ty := ty) hund hi hs' b (base + o) n' (c + sp) hfit (by rw [hi1]; exact hst)
             refine ⟨upd φ n0 (some (b, base + o, c + sp - (n' + (m + 1)))), _, _, _, by simp only [xtra, Sem.run_bind, hrun, Result.andThen_ok, Sem.run_pure]; rfl, .inl rfl, ?_, vr_put hn0, fun j h1 h2 => ?_, ?_⟩
             ·simp only [vr, xtra]
              refine ⟨_, _, _, ⟨b, base + o, none⟩, upd_same _ _ _, ?_, Nat.le_refl _, by omega, fun _ => rfl⟩
              congr 1
              omega
             ·by_cases hj : j = n0
              ·omega
              ·rw [upd_other _ _ hj] at h2; exact absurd h1 h2
             ·refine hc.rename (hl _ _ hi') hp hn0 rfl rfl rfl (Nat.le_refl _) (by simp) (fun b' _ hne => setRow_other w b b' _ hne) ?_
              refine ⟨(fun h => by cases h), pre ++ us.take o, (us.drop o).take (n' * te.size) ++ yv, (us.drop (o + n' * te.size) ++ post).drop yv.length, by simp; omega, ?_, vrs_le (vr_put hn0) _ _ (vrs_append h9 hyv), ?_⟩
              ·rw [Nat.sub_mul, List.length_drop, List.length_append, List.length_drop]
               omega
              ·rw [setRow_heap w b _ _ e (0, 0) h8]
               congr 2
               apply Array.ext'
               simp only [List.append_assoc]
               have e1 : us = us.take o ++ ((us.drop o).take (n' * te.size) ++ us.drop (o + n' * te.size)) := by
                rw [← List.drop_drop, List.take_append_drop, List.take_append_drop]
               have e2 : pre ++ (us ++ post) = (pre ++ (us.take o ++ (us.drop o).take (n' * te.size))) ++ (us.drop (o + n' * te.size) ++ post) := by
                conv => lhs; rw [e1]
                simp only [List.append_assoc]
               have e3 : (pre ++ (us.take o ++ (us.drop o).take (n' * te.size))).length = base + o + n' * te.size := by
                simp only [List.length_append, h10, h5, List.length_take]
                omega
               rw [e2]
               rw [List.take_left' e3, ← e3, List.drop_length_add_append]
               simp only [List.append_assoc]
            ·-- a new row
             have hc' : Core w0 φ (upd g i' none) w := hc.sub fun j o' hj => by
              by_cases hji : j = i'
              ·subst hji; rw [upd_same] at hj; cases hj
              ·rw [upd_other _ _ hji] at hj; exact hj
             have hcell : ∀ w' : World, (∀ (j : Nat) (u : Value), ((us.drop o).take (n' * te.size))[j]? = some u → ∀ b', some a = some b' → w'.cell? (b'.add j) = w.cell? (b'.add j)) →
               (Builtin.firstCells te.size n' (.slice (some a) n' (c + sp))).run P w' = .ok ((us.drop o).take (n' * te.size)).toArray w' := fun w' hw' => by
              refine cells_first w' h10 fun j u hj => ?_
              rw [hw' j u hj a rfl]
              have hjl : j < n' * te.size := by
               have := (List.getElem?_eq_some_iff.1 hj).1
               omega
              have hn'0 : n' ≠ 0 := fun e => by subst e; omega
              rw [ha (by omega), addr_add, Nat.add_assoc]
              rw [List.getElem?_take, if_pos hjl, List.getElem?_drop] at hj
              rw [cell_at _ _ _ _ _ h8, List.getElem?_toArray, List.append_assoc, List.getElem?_append_right (by omega), h5, Nat.add_sub_cancel_left, List.getElem?_append_left (by omega)]
              exact hj
             obtain ⟨_, _, _, h11⟩ := grow_ok (ty := ty) (base := some a) (n := n') (c := c + sp) ht hc' hn0 hty hd hte h1 h2 h9 (by rw [vrs_length h9, h10]) hcell hyv hyl hs (by omega) h3
             obtain ⟨φ', w', r, u, a1, a2, a3, a4, a5, a6⟩ := h11
             exact ⟨φ', w', r, u, a1, a2, a3, a4, a5, a6⟩
           ·cases hgr
          ·cases hgr
       | _ => cases hgr
      ·cases hv
     ·cases hv
    ·cases hv
   ·cases hv
  ·cases hv
end
end Go.MX
namespace Go.MX
open Go.RowKit
open Go.AM (Blw Key KK TI TabFact Tab TabOk Tb TbOk addr_add)
section
variable {P : Program} {φ : Pl} {w w0 : World} {tb : Tb} {h g : Hf}
theorem mzeros_eq (zs : List MV) : ∀ n, mzeros zs n = (List.replicate n zs).flatten
 | 0 => rfl
 | n + 1 => by simp [mzeros, mzeros_eq zs n, List.replicate_succ]
theorem zeros_list (zero : Array Value) (n : Nat) : ((Array.range (n * zero.size)).map fun j => zero[j % zero.size]!).toList = (List.replicate n zero.toList).flatten := by
 induction n with
 | zero => simp
 | succ n ih =>
  simp only [Array.toList_map, Array.toList_range] at ih ⊢
  rw [Nat.add_mul, Nat.one_mul, List.range_add, List.map_append, ih, List.replicate_succ', List.flatten_append]
  congr 1
  simp only [List.map_map, List.flatten_cons, List.flatten_nil, List.append_nil]
  apply List.ext_getElem
  ·simp
  ·intro i h1 h2
   simp only [List.length_map, List.length_range] at h1
   simp [Nat.mod_eq_of_lt h1, h1]
theorem zero_vrs {v : Value} (h1 : ones (mcells (ofV v)) = true) : vrs φ (mcells (ofV v)) v.cells.toList := mcells_sound (vr_ofV v) h1
theorem made_id {n0 b base sp : Nat} : upd φ n0 (some (b, base, sp)) n0 = some (b, base, sp) := upd_same _ _ _
theorem mmakeSlice_sound (ht : TbOk P tb) (hc : Core w0 φ g w) {n0 n1 : Nat} (hn : ∀ i, n0 ≤ i → i < n1 → φ i = none) {t : TypeId} {l c v : MV} {us : Ups} {u q : Value} (hv : mmakeSlice tb n0 t l c = some (v, us, n1)) (hx : vr φ l u) (hy : vr φ c q) :
  EffOk P w0 φ w g n0 n1 us (do pure (.value (← Instr.makeSlice t u q))) v := by
 unfold mmakeSlice at hv
 split at hv
 ·rename_i ti kl l kc c hty
  have T := ht.ty t ti hty
  simp only [vr] at hx hy
  subst hx hy
  split at hv
  ·rename_i e n m hd hnn hnm
   have hnn := natOf_eq hnn
   have hnm := natOf_eq hnm
   subst hnn hnm
   split at hv
   ·rename_i te hte
    have TE := ht.ty e te hte
    obtain ⟨i, hi, hi1, hi2, hi3⟩ := TE.get
    split at hv
    ·rename_i h1 h2 h3 h4 h5
     cases hv
     have h1 := Nat.le_of_ble_eq_true h1
     have h2 := Nat.le_of_ble_eq_true h2
     have h3 := Nat.le_of_ble_eq_true h3
     have h4 := Nat.le_of_ble_eq_true h4
     have hn0 : φ n0 = none := hn n0 (Nat.le_refl _) (by omega)
     have hMM : m ≤ m * te.bytes := Nat.le_mul_of_pos_right _ h3
     have hwN : IntKind.i64.wrap (n : Int) = n := IntWalk.i64_in _ ⟨by omega, by omega⟩
     have hwM : IntKind.i64.wrap (m : Int) = m := IntWalk.i64_in _ ⟨by omega, by omega⟩
     have hbi : ¬ ((te.bytes : Int) * (m : Int) > 2 ^ 48) := by
      have : ((te.bytes : Int) * (m : Int)) = ((m * te.bytes : Nat) : Int) := by rw [Int.natCast_mul, Int.mul_comm]
      rw [this]; omega
     have hask : (askRoom (m * te.bytes)).run P w = .ok () w := by
      unfold askRoom roomBytes
      rw [if_neg (by omega)]
      rfl
     have hrun : (Instr.makeSlice t (.int kl n) (.int kc m)).run P w = .ok (.slice (some ⟨w.heap.size, 0, none⟩) n m) (w.alloc (.cells ((List.replicate m te.zv.cells.toList).flatten).toArray e)) := by
      have hz := zeros_list te.zv.cells m
      have hsz : te.zv.cells.size = te.size := TE.zsize
      have hz' : (Array.range (m * te.size)).map (fun j => te.zv.cells[j % te.zv.cells.size]!) = ((List.replicate m te.zv.cells.toList).flatten).toArray := by
       apply Array.ext'
       rw [← hsz, hz]
      have hcond : (decide ((m : Int) < 0) || decide ((te.bytes : Int) * (m : Int) > 2 ^ 48) || decide ((n : Int) < 0) || decide ((n : Int) > (m : Int))) = false := by
       simp only [Bool.or_eq_false_iff, decide_eq_false_iff_not]
       exact ⟨⟨⟨by omega, hbi⟩, by omega⟩, by omega⟩
      unfold Instr.makeSlice
      simp only [Sem.run_bind, T.run_und, Result.andThen_ok, hd, asInt, asIntOf, Sem.run_pure, typeInfo, run_program, hi, hi2, hwN, hwM]
      simp only [hcond, Bool.false_eq_true, if_false, Sem.run_bind, Result.andThen_ok, Int.toNat_natCast, hask, TE.run_size]
      by_cases hm : m * te.size = 0
      ·have : m = 0 := by
        rcases Nat.mul_eq_zero.1 hm with h | h <;> omega
       subst this
       simp [Go.AM.range_zero_map, Go.AM.run_newRow]
      ·simp only [hm, if_false, Sem.run_bind, TE.run_zero, Result.andThen_ok, Sem.run_pure]
       rw [hz']
       rfl
     refine EffOk.made (sp := 0) hc hn0 (blw_alloc w _) (heap_alloc_new w _) (by simp only [Sem.run_bind, hrun, Result.andThen_ok, Sem.run_pure]; rfl) ?_ ?_
     ·refine vr_sl_intro (op := false) made_id h1 (by simp only [xtra, maxLen]; omega) fun _ => rfl
     ·rw [mzeros_eq]
      exact ors_new (vrs_flat (zero_vrs h5) m)
    ·cases hv
   ·cases hv
  ·cases hv
 ·cases hv
theorem mbuildSlice_sound (ht : TbOk P tb) (hc : Core w0 φ g w) {n0 n1 : Nat} (hn : ∀ i, n0 ≤ i → i < n1 → φ i = none) {t : TypeId} {n : Nat} {parts : List (Nat × MV)} {v : MV} {us : Ups} {vals : List (Nat × Value)} (hv : mbuildSlice tb n0 t n parts = some (v, us, n1))
  (hl : parts.length = vals.length) (hs : ∀ (j : Nat) (p : Nat × MV) (q : Nat × Value), parts[j]? = some p → vals[j]? = some q → p.1 = q.1 ∧ vr φ p.2 q.2) :
  EffOk P w0 φ w g n0 n1 us (do pure (.value (← Instr.buildSlice t n vals.toArray))) v := by
 unfold mbuildSlice at hv
 split at hv
 ·cases hv
 ·rename_i ti hty
  have T := ht.ty t ti hty
  split at hv
  ·rename_i e hd
   split at hv
   ·rename_i te hte
    have TE := ht.ty e te hte
    split at hv
    ·rename_i h1 h2 h3
     have h1 := Nat.le_of_ble_eq_true h1
     have h2 := Nat.le_of_ble_eq_true h2
     split at hv
     ·rename_i cs hf
      cases hv
      have hn0 : φ n0 = none := hn n0 (Nat.le_refl _) (by omega)
      have hz : vrs φ (mzeros (mcells (ofV te.zv)) n) ((Array.range (n * te.size)).map fun j => te.zv.cells[j % te.zv.cells.size]!).toList := by
       rw [mzeros_eq, ← TE.zsize, zeros_list]
       exact vrs_flat (zero_vrs h3) n
      obtain ⟨arr', a1, a2⟩ := mfill_sound (place := fun i => some (i * te.size, te.size)) parts vals _ cs _ hl hs hz hf
      have hrun := Go.AM.run_buildSlice (P := P) (w := w) (T.und.trans (by rw [hd])) TE (n := n) (by omega) (vals := vals) (arr' := arr') (fun h0 => by
       rw [h0, Go.AM.range_zero_map] at a1
       exact a1) (fun _ => a1)
      refine EffOk.made (sp := 0) hc hn0 (blw_alloc w _) (heap_alloc_new w _) (by simp only [Sem.run_bind, hrun, Result.andThen_ok, Sem.run_pure]; rfl) ?_ ?_
      ·have hnm : n ≤ n * te.size := Nat.le_mul_of_pos_right n h1
       exact vr_sl_intro (op := false) made_id (Nat.le_refl _) (by simp only [xtra, maxLen]; omega) fun _ => rfl
      ·have := ors_new (w := w) (sz := te.size) (e := e) (vrs_le (vr_put (b := w.heap.size) (base := 0) (sp := 0) hn0) _ _ a2)
       simpa using this
     ·cases hv
    ·cases hv
   ·cases hv
  ·cases hv
def setObjW (w : World) (b : Nat) (o : Obj) : World := { w with heap := w.heap.setIfInBounds b o }
theorem run_getMap {b : Nat} {ents : Array MapEntry} {clk : Nat} (hh : w.heap[b]? = some (.map ents clk)) : (getObj b).run P w = .ok (.map ents clk) w := by simp [getObj, Sem.run, hh]
theorem run_setMap {b : Nat} {ents : Array MapEntry} {clk : Nat} (hh : w.heap[b]? = some (.map ents clk)) (o : Obj) : (setObj b o).run P w = .ok () (setObjW w b o) := by simp [setObj, Sem.run, hh, setObjW]
theorem Core.map_write (hc : Core w0 φ g w) {i : Nat} {o : MO} {b base sp : Nat} (hi : g i = some o) (hp : φ i = some (b, base, sp)) {ents' : Array MapEntry} {clk clk' : Nat} {kk : KK} {es' : List (Key × MV × Nat)}
  (h1 : ers φ es' ents'.toList) (h2 : (es'.map (·.2.2)).Nodup) (h3 : ∀ x ∈ es', x.2.2 < clk') (h4 : ∀ x ∈ es', x.1.fits kk = true) (h5 : (es'.map (·.1)).Nodup) (_ : clk ≤ clk') : Core w0 φ (upd g i (some (.map kk es' clk'))) (setObjW w b (.map ents' clk')) := by
 have hlt : b < w.heap.size := by
  obtain ⟨b', _, _, h6, h7⟩ := hc.objs i o hi
  rw [hp] at h6
  cases h6
  exact ors_lt h7
 refine hc.write hi hp rfl rfl rfl (Nat.le_refl _) (by simp [setObjW]) (fun b' _ hne => by simp [setObjW, Array.getElem?_setIfInBounds_ne (Ne.symm hne)]) ⟨ents', by simp [setObjW, hlt], h1, h2, h3, h4, h5⟩
theorem ers_set : ∀ {es : List (Key × MV × Nat)} {l : List MapEntry} {j : Nat} {k : Key} {u : MV} {n : Nat} {e : MapEntry}, ers φ es l → e.key = k.val → vr φ u e.val → e.born = n → ers φ (es.set j (k, u, n)) (l.set j e)
 | [], _, j, _, _, _, _, h, _, _, _ => by simp only [ers] at h; subst h; simp [ers]
 | x :: es, l, j, k, u, n, e, h, hk, hu, hn => by
  obtain ⟨e', r, rfl, h1, h2, h3, h4⟩ := h
  cases j with
  | zero => exact ⟨e, r, rfl, hk, hu, hn, h4⟩
  | succ j => exact ⟨e', _, rfl, h1, h2, h3, ers_set h4 hk hu hn⟩
theorem ers_append : ∀ {es fs : List (Key × MV × Nat)} {l m : List MapEntry}, ers φ es l → ers φ fs m → ers φ (es ++ fs) (l ++ m)
 | [], _, _, _, h, h' => by simp only [ers] at h; subst h; exact h'
 | x :: es, fs, l, m, h, h' => by
  obtain ⟨e, r, rfl, h1, h2, h3, h4⟩ := h
  exact ⟨e, r ++ m, rfl, h1, h2, h3, ers_append h4 h'⟩
theorem ers_eraseIdx : ∀ {es : List (Key × MV × Nat)} {l : List MapEntry} {j : Nat}, ers φ es l → ers φ (es.eraseIdx j) (l.eraseIdx j)
 | [], _, j, h => by simp only [ers] at h; subst h; simp [ers]
 | x :: es, l, j, h => by
  obtain ⟨e, r, rfl, h1, h2, h3, h4⟩ := h
  cases j with
  | zero => exact h4
  | succ j => exact ⟨e, _, rfl, h1, h2, h3, ers_eraseIdx h4⟩
theorem eqK_false {a b : Key} (h : a ≠ b) : eqK a b = false := by
 rw [Bool.eq_false_iff]
 exact fun e => h ((eqK_iff a b).1 e)
theorem mset_found {u : MV} {n' : Nat} : ∀ {es : List (Key × MV × Nat)} {j : Nat} {k : Key} {x : MV} {n : Nat}, (es.map (·.1)).Nodup → es[j]? = some (k, x, n) → mset es k u n' = es.set j (k, u, n) ∧ mhas es k = true
 | [], j, _, _, _, _, h => by simp at h
 | y :: es, 0, k, x, n, _, h => by simp at h; subst h; simp [mset, mhas, (eqK_iff k k).2 rfl]
 | y :: es, j + 1, k, x, n, hn, h => by
  simp only [List.map_cons, List.nodup_cons] at hn
  simp only [List.getElem?_cons_succ] at h
  have : y.1 ≠ k := fun e => hn.1 (by rw [e]; exact List.mem_map.2 ⟨(k, x, n), List.mem_of_getElem? h, rfl⟩)
  simp only [mset, mhas, eqK_false this, List.set_cons_succ]
  have ih := mset_found (u := u) (n' := n') hn.2 h
  exact ⟨by rw [ih.1], ih.2⟩
theorem mset_new {u : MV} {n' : Nat} : ∀ {es : List (Key × MV × Nat)} {k : Key}, (∀ x ∈ es, x.1 ≠ k) → mset es k u n' = es ++ [(k, u, n')] ∧ mhas es k = false
 | [], _, _ => ⟨rfl, rfl⟩
 | y :: es, k, h => by
  have ih := mset_new (u := u) (n' := n') (es := es) (k := k) fun x hx => h x (by simp [hx])
  simp only [mset, mhas, eqK_false (h y (by simp)), List.cons_append]
  exact ⟨by rw [ih.1], ih.2⟩
theorem mdel_found : ∀ {es : List (Key × MV × Nat)} {j : Nat} {k : Key} {x : MV} {n : Nat}, (es.map (·.1)).Nodup → es[j]? = some (k, x, n) → mdel es k = es.eraseIdx j
 | [], j, _, _, _, _, h => by simp at h
 | y :: es, 0, k, x, n, _, h => by simp at h; subst h; simp [mdel, (eqK_iff k k).2 rfl]
 | y :: es, j + 1, k, x, n, hn, h => by
  simp only [List.map_cons, List.nodup_cons] at hn
  simp only [List.getElem?_cons_succ] at h
  have : y.1 ≠ k := fun e => hn.1 (by rw [e]; exact List.mem_map.2 ⟨(k, x, n), List.mem_of_getElem? h, rfl⟩)
  simp only [mdel, eqK_false this, List.eraseIdx_cons_succ]
  rw [mdel_found hn.2 h]
theorem mdel_none : ∀ {es : List (Key × MV × Nat)} {k : Key}, (∀ x ∈ es, x.1 ≠ k) → mdel es k = es
 | [], _, _ => rfl
 | y :: es, k, h => by
  simp only [mdel, eqK_false (h y (by simp))]
  rw [mdel_none fun x hx => h x (by simp [hx])]
theorem nodup_snoc {α : Type} {l : List α} {a : α} (h : l.Nodup) (h1 : ∀ x ∈ l, x ≠ a) : (l ++ [a]).Nodup := by
 rw [List.nodup_append]
 exact ⟨h, by simp, fun x hx y hy => by simp at hy; subst hy; exact h1 x hx⟩
theorem entry_new {kk : KK} {es : List (Key × MV × Nat)} {clk : Nat} {ents : Array MapEntry} {key : Key} {u : MV} {x : Value} (hes : ers φ es ents.toList) (hb1 : (es.map (·.2.2)).Nodup) (hb2 : ∀ x ∈ es, x.2.2 < clk) (hfits : ∀ x ∈ es, x.1.fits kk = true) (hnd : (es.map (·.1)).Nodup)
  (hnew : ∀ x ∈ es, x.1 ≠ key) (hfit : key.fits kk = true) (hx : vr φ u x) :
  ers φ (es ++ [(key, u, clk)]) (ents.push { key := key.val, val := x, born := clk }).toList ∧ ((es ++ [(key, u, clk)]).map (·.2.2)).Nodup ∧ (∀ x ∈ es ++ [(key, u, clk)], x.2.2 < clk + 1) ∧ (∀ x ∈ es ++ [(key, u, clk)], x.1.fits kk = true) ∧ ((es ++ [(key, u, clk)]).map (·.1)).Nodup := by
 refine ⟨?_, ?_, ?_, ?_, ?_⟩
 ·rw [Array.toList_push]
  exact ers_append hes ⟨_, [], rfl, rfl, hx, rfl, rfl⟩
 ·rw [List.map_append]
  refine nodup_snoc hb1 fun n hn => ?_
  obtain ⟨y, hy, rfl⟩ := List.mem_map.1 hn
  exact Nat.ne_of_lt (hb2 y hy)
 ·intro y hy
  rcases List.mem_append.1 hy with hy | hy
  ·have := hb2 y hy; omega
  ·simp at hy; subst hy; exact Nat.lt_succ_self clk
 ·intro y hy
  rcases List.mem_append.1 hy with hy | hy
  ·exact hfits y hy
  ·simp at hy; subst hy; exact hfit
 ·rw [List.map_append]
  refine nodup_snoc hnd fun n hn => ?_
  obtain ⟨y, hy, rfl⟩ := List.mem_map.1 hn
  exact hnew y hy
theorem entry_set {kk : KK} {es : List (Key × MV × Nat)} {clk : Nat} {ents : Array MapEntry} {key : Key} {u v0 : MV} {x : Value} {j n : Nat} {en : MapEntry} (hes : ers φ es ents.toList) (hb1 : (es.map (·.2.2)).Nodup) (hb2 : ∀ x ∈ es, x.2.2 < clk) (hfits : ∀ x ∈ es, x.1.fits kk = true) (hnd : (es.map (·.1)).Nodup)
  (h4 : es[j]? = some (key, v0, n)) (h2 : ents.toList[j]? = some en) (hen : en.born = n) (hx : vr φ u x) {f : MapEntry → MapEntry} (hf : f en = { key := key.val, val := x, born := en.born }) :
  ers φ (es.set j (key, u, n)) (ents.modify j f).toList ∧ ((es.set j (key, u, n)).map (·.2.2)).Nodup ∧ (∀ x ∈ es.set j (key, u, n), x.2.2 < clk) ∧ (∀ x ∈ es.set j (key, u, n), x.1.fits kk = true) ∧ ((es.set j (key, u, n)).map (·.1)).Nodup := by
 have hej : ents[j]? = some en := by simpa using h2
 have hlt : j < ents.size := (Array.getElem?_eq_some_iff.1 hej).1
 have hmod : (ents.modify j f).toList = ents.toList.set j { key := key.val, val := x, born := en.born } := by
  apply List.ext_getElem?
  intro i
  rw [List.getElem?_set]
  have : (ents.modify j f).toList[i]? = (ents.modify j f)[i]? := by rw [Array.getElem?_toList]
  rw [this, Array.getElem?_modify]
  by_cases hij : j = i
  ·subst hij
   rw [if_pos rfl, if_pos rfl, hej, Option.map_some, if_pos (by simpa using hlt), hf]
  ·simp [hij]
 have hmem : (key, v0, n) ∈ es := List.mem_of_getElem? h4
 refine ⟨?_, ?_, ?_, ?_, ?_⟩
 ·rw [hmod]
  exact ers_set hes rfl hx hen
 ·rw [List.map_set, Go.AM.set_same (by rw [List.getElem?_map, h4]; rfl)]
  exact hb1
 ·intro y hy
  rcases List.mem_or_eq_of_mem_set hy with hy | rfl
  ·exact hb2 y hy
  ·exact (hb2 (key, v0, n) hmem : n < clk)
 ·intro y hy
  rcases List.mem_or_eq_of_mem_set hy with hy | rfl
  ·exact hfits y hy
  ·exact (hfits (key, v0, n) hmem : key.fits kk = true)
 ·rw [List.map_set, Go.AM.set_same (by rw [List.getElem?_map, h4]; rfl)]
  exact hnd
theorem mmapSet_sound (ht : TbOk P tb) (hc : Core w0 φ g w) (hl : Hf.le h g) {t : TypeId} {m k x v : MV} {us : Ups} {um uk ux : Value} (hv : mmapSet tb h t m k x = some (v, us)) (hm : vr φ m um) (hk : vr φ k uk) (hx : vr φ x ux) (n0 : Nat) :
  EffOk P w0 φ w g n0 n0 us (do Instr.mapUpdate t um uk ux; pure .skip) v := by
 unfold mmapSet at hv
 split at hv
 ·rename_i ti key i hty hkey
  have T := ht.ty t ti hty
  have hq := mkey_sound hkey hk
  subst hq
  simp only [vr] at hm
  obtain ⟨b, base, sp, hp, rfl⟩ := hm
  split at hv
  ·rename_i kt e kk es clk hd hi
   split at hv
   ·rename_i hkt hfits
    cases hv
    have hkt : tb.key kt = some kk := by simpa using hkt
    obtain ⟨ents, hh, hes, hb1, hb2, hfit, hnd⟩ := hc.obj hl hi hp
    obtain ⟨hchk, hfind⟩ := find_ok (w := w) ht hkt hes hfit hnd hfits
    obtain ⟨K', hof⟩ := ht.key kt kk hkt
    obtain ⟨lk, hlk⟩ := hof key hfits
    rcases hfind with ⟨h1, h2, hnew⟩ | ⟨j, en, x', n, h1, h2, h3, h4, h5, h6, h7⟩
    ·obtain ⟨e1, e2⟩ := mset_new (u := x) (n' := clk) hnew
     obtain ⟨a1, a2, a3, a4, a5⟩ := entry_new hes hb1 hb2 hfit hnd hnew hfits hx
     rw [e1, e2]
     refine ⟨φ, setObjW w b (.map (ents.push { key := key.val, val := ux, born := clk }) (clk + 1)), .skip, undef, ?_, .inr ⟨rfl, rfl⟩, by simp [vr, undef, vrs], Pl.le_refl _, fun i h1 h2 => absurd h1 h2, hc.map_write (clk := clk) (hl _ _ hi) hp a1 a2 a3 a4 a5 (Nat.le_succ _)⟩
     simp only [Instr.mapUpdate, Sem.run_bind, T.run_und, Result.andThen_ok, hd, run_getMap hh, hchk, h1, run_setMap hh, Sem.run_pure]
    ·obtain ⟨e1, e2⟩ := mset_found (u := x) (n' := clk) hnd h4
     have hej : ents[j]? = some en := by simpa using h2
     obtain ⟨a1, a2, a3, a4, a5⟩ := entry_set (u := x) (x := ux) (f := fun e => { e with key := key.val, val := ux }) hes hb1 hb2 hfit hnd h4 h2 h5 hx rfl
     rw [e1, e2]
     refine ⟨φ, setObjW w b (.map (ents.modify j fun e => { e with key := key.val, val := ux }) clk), .skip, undef, ?_, .inr ⟨rfl, rfl⟩, by simp [vr, undef, vrs], Pl.le_refl _, fun i h1 h2 => absurd h1 h2, hc.map_write (clk := clk) (hl _ _ hi) hp a1 a2 a3 a4 a5 (Nat.le_refl _)⟩
     have hstay := K'.stays w hlk
     simp only [Instr.mapUpdate, Sem.run_bind, T.run_und, Result.andThen_ok, hd, run_getMap hh, hchk, h1, hej, Option.map_some, Option.getD_some, h3, hstay, run_setMap hh, Sem.run_pure]
   ·cases hv
  ·cases hv
 ·cases hv
theorem mdelete_sound (ht : TbOk P tb) (hc : Core w0 φ g w) (hl : Hf.le h g) {t ty : TypeId} {ts : List TypeId} {m k v : MV} {us : Ups} {um uk : Value} (hv : mdelete tb h t m k = some (v, us)) (hm : vr φ m um) (hk : vr φ k uk) (n0 : Nat) :
  EffOk P w0 φ w g n0 n0 us (do pure (.value (← Builtin.delete_ (t :: ts).toArray ty #[um, uk]))) v := by
 unfold mdelete at hv
 split at hv
 ·rename_i ti key i hty hkey
  have T := ht.ty t ti hty
  have hq := mkey_sound hkey hk
  subst hq
  simp only [vr] at hm
  obtain ⟨b, base, sp, hp, rfl⟩ := hm
  split at hv
  ·rename_i kt e kk es clk hd hi
   split at hv
   ·rename_i hkt hfits
    cases hv
    have hkt : tb.key kt = some kk := by simpa using hkt
    obtain ⟨ents, hh, hes, hb1, hb2, hfit, hnd⟩ := hc.obj hl hi hp
    obtain ⟨hchk, hfind⟩ := find_ok (w := w) ht hkt hes hfit hnd hfits
    rcases hfind with ⟨h1, h2, hnew⟩ | ⟨j, en, x', n, h1, h2, h3, h4, h5, h6, h7⟩
    ·rw [mdel_none hnew]
     refine ⟨φ, setObjW w b (.map ents clk), .value (.tuple #[]), .tuple #[], ?_, .inl rfl, by simp [vr, vrs], Pl.le_refl _, fun i h1 h2 => absurd h1 h2, hc.map_write (clk := clk) (hl _ _ hi) hp hes hb1 hb2 hfit hnd (Nat.le_refl _)⟩
     simp [Builtin.delete_, T.run_und, hd, run_getMap hh, hchk, h1, run_setMap hh]
    ·have hej : ents[j]? = some en := by simpa using h2
     have hlt : j < ents.size := (Array.getElem?_eq_some_iff.1 hej).1
     have hel : (ents.eraseIdxIfInBounds j).toList = ents.toList.eraseIdx j := by
      unfold Array.eraseIdxIfInBounds
      rw [dif_pos hlt]
      simp
     rw [mdel_found hnd h4]
     refine ⟨φ, setObjW w b (.map (ents.eraseIdxIfInBounds j) clk), .value (.tuple #[]), .tuple #[], ?_, .inl rfl, by simp [vr, vrs], Pl.le_refl _, fun i h1 h2 => absurd h1 h2,
      hc.map_write (clk := clk) (hl _ _ hi) hp (by rw [hel]; exact ers_eraseIdx hes) (hb1.sublist ((List.eraseIdx_sublist _ _).map _)) (fun y hy => hb2 y (List.mem_of_mem_eraseIdx hy)) (fun y hy => hfit y (List.mem_of_mem_eraseIdx hy)) (hnd.sublist ((List.eraseIdx_sublist _ _).map _)) (Nat.le_refl _)⟩
     simp [Builtin.delete_, T.run_und, hd, run_getMap hh, hchk, h1, run_setMap hh]
   ·cases hv
  ·cases hv
 ·cases hv
theorem find_mem : ∀ {es : List (Key × MV × Nat)} {key : Key} {j n : Nat} {u : MV}, (es.map (·.1)).Nodup → es[j]? = some (key, u, n) → es.find? (fun x => eqK x.1 key) = some (key, u, n)
 | [], _, j, _, _, _, h => by simp at h
 | y :: es, key, 0, n, u, _, h => by simp at h; subst h; simp [List.find?, (eqK_iff key key).2 rfl]
 | y :: es, key, j + 1, n, u, hn, h => by
  simp only [List.map_cons, List.nodup_cons] at hn
  simp only [List.getElem?_cons_succ] at h
  have : y.1 ≠ key := fun e => hn.1 (by rw [e]; exact List.mem_map.2 ⟨(key, u, n), List.mem_of_getElem? h, rfl⟩)
  simp only [List.find?, eqK_false this]
  exact find_mem hn.2 h
theorem find_none {es : List (Key × MV × Nat)} {key : Key} (h : ∀ x ∈ es, x.1 ≠ key) : es.find? (fun x => eqK x.1 key) = none := by
 rw [List.find?_eq_none]
 intro x hx
 rw [eqK_false (h x hx)]
 simp
theorem mentry_sound (ht : TbOk P tb) (hc : Core w0 φ g w) (hl : Hf.le h g) {t : TypeId} {m k v : MV} {us : Ups} {um uk : Value} (hv : mentry tb h t m k = some (v, us)) (hm : vr φ m um) (hk : vr φ k uk) (n0 : Nat) :
  EffOk P w0 φ w g n0 n0 us (do pure (.value (← Instr.mapEntry t um uk))) v := by
 unfold mentry at hv
 split at hv
 ·rename_i ti key i hty hkey
  have T := ht.ty t ti hty
  have hq := mkey_sound hkey hk
  subst hq
  simp only [vr] at hm
  obtain ⟨b, base, sp, hp, rfl⟩ := hm
  split at hv
  ·rename_i kt e kk es clk hd hi
   split at hv
   ·rename_i te hkt hfits hte
    have TE := ht.ty e te hte
    have hkt : tb.key kt = some kk := by simpa using hkt
    obtain ⟨ents, hh, hes, hb1, hb2, hfit, hnd⟩ := hc.obj hl hi hp
    obtain ⟨hchk, hfind⟩ := find_ok (w := w) ht hkt hes hfit hnd hfits
    obtain ⟨K', hof⟩ := ht.key kt kk hkt
    obtain ⟨lk, hlk⟩ := hof key hfits
    rcases hfind with ⟨h1, h2, hnew⟩ | ⟨j, en, x', n, h1, h2, h3, h4, h5, h6, h7⟩
    ·rw [find_none hnew] at hv
     cases hv
     obtain ⟨a1, a2, a3, a4, a5⟩ := entry_new hes hb1 hb2 hfit hnd hnew hfits (vr_ofV (φ := φ) te.zv)
     refine ⟨φ, setObjW w b (.map (ents.push { key := key.val, val := te.zv, born := clk }) (clk + 1)), .value (.tuple #[te.zv, goInt clk]), .tuple #[te.zv, goInt clk], ?_, .inl rfl, ?_, Pl.le_refl _, fun i h1 h2 => absurd h1 h2, hc.map_write (clk := clk) (hl _ _ hi) hp a1 a2 a3 a4 a5 (Nat.le_succ _)⟩
     ·simp [Instr.mapEntry, T.run_und, hd, run_getMap hh, hchk, h1, run_setMap hh, TE.run_zero]
     ·simp only [vr]
      exact ⟨_, rfl, by simp only [vrs]; exact ⟨_, _, rfl, vr_ofV _, _, _, rfl, vr_int, rfl⟩⟩
    ·rw [find_mem hnd h4] at hv
     cases hv
     have hej : ents[j]? = some en := by simpa using h2
     obtain ⟨a1, a2, a3, a4, a5⟩ := entry_set (u := x') (x := en.val) (f := fun e => { e with key := key.val }) hes hb1 hb2 hfit hnd h4 h2 h5 h7 (by simp)
     rw [Go.AM.set_same h4] at a1 a2 a3 a4 a5
     have hstay := K'.stays w hlk
     refine ⟨φ, setObjW w b (.map (ents.modify j fun e => { e with key := key.val }) clk), .value (.tuple #[en.val, goInt n]), .tuple #[en.val, goInt n], ?_, .inl rfl, ?_, Pl.le_refl _, fun i h1 h2 => absurd h1 h2, hc.map_write (clk := clk) (hl _ _ hi) hp a1 a2 a3 a4 a5 (Nat.le_refl _)⟩
     ·simp [Instr.mapEntry, T.run_und, hd, run_getMap hh, hchk, h1, run_setMap hh, hej, h3, hstay, h5]
     ·simp only [vr]
      exact ⟨_, rfl, by simp only [vrs]; exact ⟨_, _, rfl, h7, _, _, rfl, vr_int, rfl⟩⟩
   ·cases hv
  ·cases hv
 ·cases hv
theorem mput_sound {u : MV} {n : Nat} : ∀ {es es' : List (Key × MV × Nat)}, mput es n u = some es' → ∃ j k v0, es[j]? = some (k, v0, n) ∧ es' = es.set j (k, u, n) ∧ ∀ j' x, j' < j → es[j']? = some x → x.2.2 ≠ n
 | [], _, h => by cases h
 | x :: es, es', h => by
  unfold mput at h
  split at h
  ·rename_i hb
   cases h
   have hb := Nat.eq_of_beq_eq_true hb
   obtain ⟨k, v0, n'⟩ := x
   simp only at hb
   subst hb
   exact ⟨0, k, v0, rfl, rfl, fun j' _ hj => absurd hj (Nat.not_lt_zero _)⟩
  ·rename_i hb
   split at h
   ·rename_i es2 h2
    cases h
    obtain ⟨j, k, v0, h3, h4, h5⟩ := mput_sound h2
    refine ⟨j + 1, k, v0, by simpa using h3, by rw [h4]; rfl, fun j' y hj hy => ?_⟩
    cases j' with
    | zero =>
     simp at hy
     subst hy
     exact fun e => by rw [e] at hb; simp at hb
    | succ j' => exact h5 j' y (by omega) (by simpa using hy)
   ·cases h
theorem ers_get' : ∀ {es : List (Key × MV × Nat)} {l : List MapEntry}, ers φ es l → ∀ {j : Nat} {x : Key × MV × Nat}, es[j]? = some x → ∃ e, l[j]? = some e ∧ e.key = x.1.val ∧ vr φ x.2.1 e.val ∧ e.born = x.2.2
 | [], _, h, j, e, he => by simp at he
 | x :: es, l, h, j, e, he => by
  obtain ⟨e', r, rfl, h1, h2, h3, h4⟩ := h
  cases j with
  | zero => simp at he; subst he; exact ⟨e', rfl, h1, h2, h3⟩
  | succ j => simp at he; simpa using ers_get' h4 he
theorem mentryStore_sound (hc : Core w0 φ g w) (hl : Hf.le h g) {t : TypeId} {m s x v : MV} {us : Ups} {um uk ux : Value} (hv : mentryStore h m s x = some (v, us)) (hm : vr φ m um) (hk : vr φ s uk) (hx : vr φ x ux) (n0 : Nat) :
  EffOk P w0 φ w g n0 n0 us (do Instr.entryStore t um uk ux; pure .skip) v := by
 unfold mentryStore at hv
 split at hv
 ·rename_i i kn n
  simp only [vr] at hm hk
  obtain ⟨b, base, sp, hp, rfl⟩ := hm
  subst hk
  split at hv
  ·rename_i kk es clk n' hi hn
   have hn := natOf_eq hn
   subst hn
   split at hv
   ·rename_i es' hput
    cases hv
    obtain ⟨ents, hh, hes, hb1, hb2, hfit, hnd⟩ := hc.obj hl hi hp
    obtain ⟨j, k, v0, h1, rfl, h2⟩ := mput_sound hput
    obtain ⟨en, h3, h4, h5, h6⟩ := ers_get' hes h1
    have hej : ents[j]? = some en := by simpa using h3
    have hlt : j < ents.size := (Array.getElem?_eq_some_iff.1 hej).1
    have hfind : ents.findIdx? (fun e => (e.born : Int) == (n' : Int)) = some j := by
     rw [Array.findIdx?_eq_some_iff_getElem]
     refine ⟨hlt, ?_, fun j' hj' => ?_⟩
     ·have : ents[j] = en := by simpa [hlt] using hej
      rw [this]
      simp only at h6
      rw [h6]
      simp
     ·have hl' : j' < ents.size := by omega
      have hg : ents.toList[j']? = some ents[j'] := by simp [hl']
      obtain ⟨y, hy1, _, _, hy2⟩ := ers_get hes hg
      have := h2 j' y hj' hy1
      rw [hy2]
      simp only [beq_iff_eq]
      omega
    obtain ⟨a1, a2, a3, a4, a5⟩ := entry_set (u := x) (x := ux) (f := fun e => { e with val := ux }) hes hb1 hb2 hfit hnd h1 h3 h6 hx (by rw [← h4])
    refine ⟨φ, setObjW w b (.map (ents.modify j fun e => { e with val := ux }) clk), .skip, undef, ?_, .inr ⟨rfl, rfl⟩, by simp [vr, undef, vrs], Pl.le_refl _, fun i h1 h2 => absurd h1 h2, hc.map_write (clk := clk) (hl _ _ hi) hp a1 a2 a3 a4 a5 (Nat.le_refl _)⟩
    simp only [Instr.entryStore, Sem.run_bind, Result.andThen_ok, run_getMap hh, asInt, asIntOf, Sem.run_pure, hfind, run_setMap hh]
   ·cases hv
  ·cases hv
 ·cases hv
theorem byteMs_vrs : ∀ s : List UInt8, vrs φ (byteMs s) (s.map fun b => Value.int .u8 b.toNat)
 | [] => by simp [byteMs, vrs]
 | b :: s => by simp only [byteMs, List.map_cons, vrs]; exact ⟨_, _, rfl, by simp [vr], byteMs_vrs s⟩
theorem mbytes_sound (ht : TbOk P tb) (hc : Core w0 φ g w) {n0 n1 : Nat} (hn : ∀ i, n0 ≤ i → i < n1 → φ i = none) {src dst : TypeId} {x v : MV} {us : Ups} {u : Value} (hv : mbytes tb n0 src dst x = some (v, us, n1)) (hx : vr φ x u) :
  EffOk P w0 φ w g n0 n1 us (do pure (.value (← convert src dst u))) v := by
 unfold mbytes at hv
 split at hv
 ·rename_i ts td s hts htd
  have TS := ht.ty src ts hts
  have TD := ht.ty dst td htd
  split at hv
  ·rename_i e hd
   split at hv
   ·rename_i te hte hlen
    have TE := ht.ty e te hte
    have hlen := Nat.le_of_ble_eq_true hlen
    split at hv
    ·rename_i hk
     cases hv
     have hn0 : φ n0 = none := hn n0 (Nat.le_refl _) (by omega)
     simp only [vr] at hx
     subst hx
     have hrun := Go.Lib.run_convert_string_bytes (P := P) w src dst e ⟨s.toArray⟩ TS.und (TD.und.trans (by rw [hd])) (TE.und.trans (by rw [hk]))
     have hsz : (⟨s.toArray⟩ : ByteArray).size = s.length := by simp [ByteArray.size]
     have hge := grownCap_ge w s.length 0 e
     have hcm := grownCap_le_maxLen w s.length 0 e (by simp only [maxLen]; omega)
     rw [hsz] at hrun
     have hnew := Go.Lib.bytesWorld_at_new w e ⟨s.toArray⟩
     refine EffOk.made (sp := grownCap w s.length 0 e - s.length) hc hn0 ⟨⟨?_, ?_, ?_, by rw [Go.Lib.bytesWorld_size]; omega, fun b hb => Go.Lib.bytesWorld_at_old w e _ b hb⟩, ?_⟩ hnew (by simp only [Sem.run_bind, hrun, Result.andThen_ok, Sem.run_pure]; rfl) ?_ ?_
     ·simp [Go.Lib.bytesWorld, World.freeze, World.alloc, World.drew, -World.alloc_eq, -World.drew_eq]
     ·simp [Go.Lib.bytesWorld, World.freeze, World.alloc, World.drew, -World.alloc_eq, -World.drew_eq]
     ·simp [Go.Lib.bytesWorld, World.freeze, World.alloc, World.drew, -World.alloc_eq, -World.drew_eq]
     ·simp [Go.Lib.bytesWorld, World.freeze, World.alloc, World.drew, -World.alloc_eq, -World.drew_eq]
     ·simp only [vr, xtra]
      refine ⟨_, _, _, _, upd_same _ _ _, ?_, Nat.le_refl _, by omega, fun _ => rfl⟩
      congr 1
      omega
     ·refine ⟨s.map fun b => Value.int .u8 b.toNat, List.replicate (grownCap w s.length 0 e - s.length) (.int .u8 0), ((Go.Lib.bytesCells w e ⟨s.toArray⟩).size, (Go.Lib.bytesCells w e ⟨s.toArray⟩).size + 1), rfl, byteMs_vrs s, ?_⟩
      rw [hnew]
      congr 2
      apply Array.ext'
      simp [Go.Lib.bytesCells, hsz]
    ·cases hv
   ·cases hv
  ·cases hv
 ·cases hv
theorem noNew_eq {n0 n1 : Nat} {r : Option (MV × Ups)} {v : MV} {us : Ups} (h : noNew n0 r = some (v, us, n1)) : r = some (v, us) ∧ n1 = n0 := by
 unfold noNew at h
 split at h
 ·cases h; exact ⟨rfl, rfl⟩
 ·cases h
theorem eev_sound (ht : TbOk P tb) (hc : Core w0 φ g w) (hl : Hf.le h g) {n0 n1 : Nat} (hn : ∀ i, n0 ≤ i → i < n1 → φ i = none) {o : Oper} {x : Operand → MV} {y : Operand → Value} {v : MV} {us : Ups} (hv : eev tb h n0 x o.op = some (v, us, n1)) (hop : ∀ a ∈ o.op.operands, vr φ (x a) (y a)) :
  EffOk P w0 φ w g n0 n1 us (execOp y o) v := by
 obtain ⟨dst, op, type, pos, after, guard⟩ := o
 simp only at hv hop
 cases op with
 | alloc t =>
  simp only [eev] at hv
  split at hv
  ·rename_i ti hty
   have T := ht.ty t ti hty
   split at hv
   ·rename_i h1
    cases hv
    refine box_sound hc (hn n0 (Nat.le_refl _) (by omega)) (vr_ofV (φ := φ) ti.zv) h1 ti.size ?_
    simp [execOp, Instr.alloc, T.run_zero, newVar, Go.AM.run_newRow]
   ·cases hv
  ·cases hv
 | box t a =>
  simp only [eev] at hv
  split at hv
  ·rename_i h1
   cases hv
   refine box_sound hc (hn n0 (Nat.le_refl _) (by omega)) (hop a (by simp [Op.operands])) h1 _ ?_
   simp [execOp, Instr.box, newVar, Go.AM.run_newRow]
  ·cases hv
 | buildSlice t n parts =>
  have hv' : mbuildSlice tb n0 t n (parts.toList.map fun p => (p.1, x p.2)) = some (v, us, n1) := hv
  have hp : ∀ p ∈ parts.toList, vr φ (x p.2) (y p.2) := fun p hp => hop p.2 (by simp only [Op.operands]; simpa using ⟨p.1, by simpa using hp⟩)
  have := mbuildSlice_sound (P := P) ht hc hn hv' (vals := parts.toList.map fun p => (p.1, y p.2)) (by simp) (fun j p q hp' hq' => parts_ok hp j p q hp' hq')
  have e : (parts.toList.map fun p => (p.1, y p.2)).toArray = parts.map fun p => (p.1, y p.2) := by rw [← Array.toList_map, Array.toArray_toList]
  rw [e] at this
  exact this
 | makeSlice t l c => exact mmakeSlice_sound ht hc hn hv (hop l (by simp [Op.operands])) (hop c (by simp [Op.operands]))
 | makeMap t r =>
  simp only [eev] at hv
  split at hv
  ·rename_i ti hty
   have T := ht.ty t ti hty
   split at hv
   ·rename_i kt e hd
    have hnew : (newObj (.map #[] 0)).run P w = .ok w.heap.size (w.alloc (.map #[] 0)) := rfl
    have key : ∀ kk, φ n0 = none → (execOp y { dst := dst, op := .makeMap t r, type := type, pos := pos, after := after, guard := guard }).run P w = .ok (.value (.map (some w.heap.size))) (w.alloc (.map #[] 0)) →
      EffOk P w0 φ w g n0 (n0 + 1) [(n0, some (.map kk [] 0))] (execOp y { dst := dst, op := .makeMap t r, type := type, pos := pos, after := after, guard := guard }) (.map n0) := fun kk hn0 hr => by
     refine EffOk.made (sp := 0) hc hn0 (blw_alloc w _) (heap_alloc_new w _) hr ?_ ?_
     ·simp only [vr]
      exact ⟨_, _, _, made_id, rfl⟩
     ·exact ⟨#[], heap_alloc_new w _, by simp [ers], by simp, by simp, by simp, by simp⟩
    split at hv
    ·rename_i kk hkk hr
     cases hv
     have hr : r = none := by cases r with | none => rfl | some _ => simp at hr
     subst hr
     exact key kk (hn n0 (Nat.le_refl _) (by omega)) (by simp [execOp, Instr.makeMap])
    ·rename_i kk k n hkk hr
     cases hv
     cases r with
     | none => simp at hr
     | some a =>
      simp only [Option.map_some, Option.some.injEq] at hr
      have ha := hop a (by simp [Op.operands])
      rw [hr] at ha
      simp only [vr] at ha
      exact key kk (hn n0 (Nat.le_refl _) (by omega)) (by simp [execOp, Instr.makeMap, T.run_und, hd, ha, asInt, asIntOf])
    ·cases hv
   ·cases hv
  ·cases hv
 | convert src dst' a =>
  have := mbytes_sound (P := P) ht hc hn hv (hop a (by simp [Op.operands]))
  simpa [execOp] using this
 | store t a b =>
  obtain ⟨h1, rfl⟩ := noNew_eq hv
  exact mstore_sound ht hc hl h1 (hop a (by simp [Op.operands])) (hop b (by simp [Op.operands])) _
 | mapUpdate t m k u =>
  obtain ⟨h1, rfl⟩ := noNew_eq hv
  exact mmapSet_sound ht hc hl h1 (hop m (by simp [Op.operands])) (hop k (by simp [Op.operands])) (hop u (by simp [Op.operands])) _
 | insert t m k u =>
  obtain ⟨h1, rfl⟩ := noNew_eq hv
  exact mmapSet_sound ht hc hl h1 (hop m (by simp [Op.operands])) (hop k (by simp [Op.operands])) (hop u (by simp [Op.operands])) _
 | mapEntry t m k =>
  obtain ⟨h1, rfl⟩ := noNew_eq hv
  exact mentry_sound ht hc hl h1 (hop m (by simp [Op.operands])) (hop k (by simp [Op.operands])) _
 | entryStore t m s u =>
  obtain ⟨h1, rfl⟩ := noNew_eq hv
  exact mentryStore_sound hc hl h1 (hop m (by simp [Op.operands])) (hop s (by simp [Op.operands])) (hop u (by simp [Op.operands])) _
 | call c =>
  obtain ⟨callee, args, ts⟩ := c
  obtain ⟨args⟩ := args
  obtain ⟨ts⟩ := ts
  cases callee with
  | builtin b =>
   have ha : ∀ z ∈ args, vr φ (x z) (y z) := fun z hz => hop z (by simp [Op.operands, Call.operands]; exact hz)
   simp only [eev] at hv
   split at hv
   ·rename_i a b t tx
    have := mappend_sound (P := P) (ty := type) ht hc hl hn hv (ha a (by simp)) (ha b (by simp))
    simpa [execOp, resolve, invoke, builtin] using this
   ·rename_i m k t ts
    obtain ⟨h1, rfl⟩ := noNew_eq hv
    have := mdelete_sound (P := P) (ty := type) (ts := ts) ht hc hl h1 (ha m (by simp)) (ha k (by simp)) n1
    simpa [execOp, resolve, invoke, builtin] using this
   ·cases hv
  | _ => cases hv
 | _ => cases hv
end
end Go.MX
