/-
  The abstract values and how they stand for memory: read-only data, the call's own objects, and that this is kept when memory grows.
-/
import Derived.WalkKit
import Derived.Still
namespace Go.AM
open Go.RowKit

/-- What a call leaves that only makes memory; the tape's place only goes forward. -/
structure Blw (B : Nat) (w w' : World) : Prop extends Below B w w' where
  drawn : w.drawn ≤ w'.drawn
theorem Blw.refl (B : Nat) (w : World) : Blw B w w := ⟨Below.refl B w, Nat.le_refl _⟩
theorem Blw.alloc {B : Nat} {a w : World} (h : Blw B a w) (hB : B ≤ w.heap.size) (o : Obj) : Blw B a (w.alloc o) := ⟨h.toBelow.alloc hB o, h.drawn⟩
theorem sem_drawn {α : Type} {P : Program} : ∀ (s : Sem α) (w : World) (v : α) (w' : World), s.run P w = .ok v w' → w.drawn ≤ w'.drawn := by
  have ask : ∀ {α : Type} (k : Ask α) (w : World), w.drawn ≤ (w.ask k).2.drawn := by
    intro α k
    induction k with
    | done a => intro w; exact Nat.le_refl _
    | ask what range k ih =>
      intro w
      simp only [World.ask]
      split
      · exact ih _ w
      · exact Nat.le_trans (Nat.le_succ _) (ih _ { w with drawn := w.drawn + 1 })
  intro s
  induction s with
  | pure a => intro w v w' h; simp only [Sem.run] at h; cases h; exact Nat.le_refl _
  | load m a k ih =>
    intro w v w' h
    simp only [Sem.run] at h
    split at h
    · exact ih _ _ _ _ h
    · split at h
      · exact ih _ _ _ _ h
      · cases h
  | store m a x k ih =>
    intro w v w' h
    have key : (match w.cell? a with
      | some _ => if w.frozen? a then Result.halt (.unsupported (.unsafePointer "a write to bytes that a string shares")) w else k.run P (w.setCell a x)
      | none => match w.farStore P a x (m == Mode.atomic) with
        | .ok (w, _) => k.run P w
        | .error h => .halt h w) = .ok v w' → w.drawn ≤ w'.drawn := by
      intro h
      split at h
      · split at h
        · cases h
        · have := ih _ _ _ h
          unfold World.setCell at this
          split at this <;> exact this
      · split at h
        · rename_i w1 l he
          refine Nat.le_trans (Nat.le_of_eq ?_) (ih _ _ _ h)
          unfold World.farStore at he
          split at he
          · split at he
            · rename_i r hr
              cases he
              unfold World.viewStore at hr
              simp only [bind, Except.bind, pure, Except.pure] at hr
              repeat' (split at hr <;> try (first | cases hr | skip))
              all_goals first | rfl | (cases hr; rfl)
            · cases he
          · cases he
        · cases h
    cases x <;> first | exact key h | (simp only [Sem.run] at h; cases h)
  | new o k ih => intro w v w' h; simp only [Sem.run] at h; exact ih _ { w with heap := w.heap.push o } _ _ h
  | shape r k ih => intro w v w' h; simp only [Sem.run] at h; exact ih _ _ _ _ h
  | freeze a n k ih =>
    intro w v w' h
    simp only [Sem.run] at h
    have := ih _ _ _ h
    unfold World.freeze at this
    split at this <;> exact this
  | frozen a k ih => intro w v w' h; simp only [Sem.run] at h; exact ih _ _ _ _ h
  | getObj r k ih =>
    intro w v w' h
    simp only [Sem.run] at h
    split at h
    · cases h
    · exact ih _ _ _ _ h
    · cases h
  | setObj r o k ih =>
    intro w v w' h
    simp only [Sem.run] at h
    split at h
    · cases h
    · exact ih { w with heap := w.heap.setIfInBounds r o } _ _ h
    · cases h
  | choose q k ih =>
    intro w v w' h
    simp only [Sem.run] at h
    split at h
    · exact ih _ _ _ _ h
    · exact Nat.le_trans (Nat.le_succ _) (ih _ _ _ _ h)
  | sys c k ih =>
    intro w v w' h
    simp only [Sem.run] at h
    refine Nat.le_trans ?_ (ih _ _ _ _ h)
    have hs := ask (Kernel.perform c w.os) w
    unfold World.sys
    revert hs
    rcases w.ask (Kernel.perform c w.os) with ⟨⟨r, os⟩, w1⟩
    intro hs
    cases r <;> first | exact hs | exact Nat.le_refl _
  | program k ih => intro w v w' h; simp only [Sem.run] at h; exact ih _ _ _ _ h
  | mark m k ih => intro w v w' h; simp only [Sem.run] at h; exact ih _ _ _ h
  | halt h => intro w v w' h'; simp only [Sem.run] at h'; cases h'

/-- A leaf of read-only data: what one cell holds, with all that it leads to. -/
inductive L where
  | int (k : IntKind) (n : Int)
  | bool (b : Bool)
  | str (s : ByteArray)
  | nil
  | emp
  | sl (sz : Nat) (rows : List (List L))
  deriving Inhabited

mutual
def rep (w : World) (F : Nat → Prop) : L → Value → Prop
  | .int k n, v => v = .int k n
  | .bool b, v => v = .bool b
  | .str s, v => v = .string s
  | .nil, v => v = .slice none 0 0
  | .emp, v => ∃ a, v = .slice a 0 0
  | .sl sz rows, v => ∃ ao n c, v = .slice ao n c ∧ n = rows.length ∧ n ≤ c ∧ c ≤ maxLen ∧
      (rows = [] ∨ ∃ b o, ao = some ⟨b, o, none⟩ ∧ F b ∧ b < w.heap.size ∧ repRows w F sz rows b o)
def repRow (w : World) (F : Nat → Prop) : List L → Nat → Nat → Prop
  | [], _, _ => True
  | x :: xs, b, o => (∃ u, w.cell? ⟨b, o, none⟩ = some u ∧ rep w F x u) ∧ repRow w F xs b (o + 1)
def repRows (w : World) (F : Nat → Prop) (sz : Nat) : List (List L) → Nat → Nat → Prop
  | [], _, _ => True
  | r :: rs, b, o => (r.length = sz ∧ repRow w F r b o) ∧ repRows w F sz rs b (o + sz)
end

/-- The world has only grown, but for the blocks outside of F. -/
structure Keep (F F' : Nat → Prop) (w w' : World) : Prop where
  size : w.heap.size ≤ w'.heap.size
  block : ∀ b, F b → b < w.heap.size → w'.heap[b]? = w.heap[b]?
  sub : ∀ b, F b → b < w.heap.size → F' b

theorem Keep.refl (F : Nat → Prop) (w : World) : Keep F F w w := ⟨Nat.le_refl _, fun _ _ _ => rfl, fun _ h _ => h⟩

theorem Keep.trans {F F' F'' : Nat → Prop} {w w' w'' : World} (h : Keep F F' w w') (k : Keep F' F'' w' w'') : Keep F F'' w w'' :=
  ⟨Nat.le_trans h.size k.size, fun b hb hl => (k.block b (h.sub b hb hl) (Nat.lt_of_lt_of_le hl h.size)).trans (h.block b hb hl),
   fun b hb hl => k.sub b (h.sub b hb hl) (Nat.lt_of_lt_of_le hl h.size)⟩

theorem Keep.cell {F F' : Nat → Prop} {w w' : World} (h : Keep F F' w w') {b o : Nat} (hb : F b) (hl : b < w.heap.size) : w'.cell? ⟨b, o, none⟩ = w.cell? ⟨b, o, none⟩ :=
  World.cell?_of_block (h.block b hb hl)

mutual
theorem rep_keep {F F' : Nat → Prop} {w w' : World} (h : Keep F F' w w') : ∀ (x : L) (v : Value), rep w F x v → rep w' F' x v
  | .int k n, v, hv => by simpa [rep] using hv
  | .bool b, v, hv => by simpa [rep] using hv
  | .str s, v, hv => by simpa [rep] using hv
  | .nil, v, hv => by simpa [rep] using hv
  | .emp, v, hv => by simpa [rep] using hv
  | .sl sz rows, v, hv => by
    simp only [rep] at hv ⊢
    obtain ⟨ao, n, c, rfl, hn, hc, hm, hr⟩ := hv
    refine ⟨ao, n, c, rfl, hn, hc, hm, ?_⟩
    rcases hr with hr | ⟨b, o, ha, hF, hl, hr⟩
    · exact .inl hr
    · exact .inr ⟨b, o, ha, h.sub b hF hl, Nat.lt_of_lt_of_le hl h.size, repRows_keep h rows b o hF hl hr⟩
theorem repRow_keep {F F' : Nat → Prop} {w w' : World} (h : Keep F F' w w') : ∀ (xs : List L) (b o : Nat), F b → b < w.heap.size → repRow w F xs b o → repRow w' F' xs b o
  | [], _, _, _, _, _ => by simp [repRow]
  | x :: xs, b, o, hF, hl, hr => by
    simp only [repRow] at hr ⊢
    obtain ⟨⟨u, hu, hx⟩, hr⟩ := hr
    exact ⟨⟨u, (h.cell hF hl).trans hu, rep_keep h x u hx⟩, repRow_keep h xs b (o + 1) hF hl hr⟩
theorem repRows_keep {F F' : Nat → Prop} {w w' : World} (h : Keep F F' w w') {sz : Nat} : ∀ (rs : List (List L)) (b o : Nat), F b → b < w.heap.size → repRows w F sz rs b o → repRows w' F' sz rs b o
  | [], _, _, _, _, _ => by simp [repRows]
  | r :: rs, b, o, hF, hl, hr => by
    simp only [repRows] at hr ⊢
    exact ⟨⟨hr.1.1, repRow_keep h r b o hF hl hr.1.2⟩, repRows_keep h rs b (o + sz) hF hl hr.2⟩
end

/-- What one slot's cell holds: data, or a way to an object of the call's own (named by a number). -/
inductive C where
  | top
  | d (x : L)
  | ref (xs : List L) (off : Nat)
  | box (s : Nat) (off : Nat)
  | own (s : Nat)
  | elt (s i sz off : Nat)
  | map (s : Nat)
  | nilmap
  | iter (s : Nat)
  | fn (f : FuncId) (caps : List C)
  deriving Inhabited

inductive U where
  | one (c : C)
  | agg (cs : List C)
  deriving Inhabited

inductive V where
  | u (x : U)
  | tup (us : List U)
  deriving Inhabited

abbrev V.one (c : C) : V := .u (.one c)
abbrev V.agg (cs : List C) : V := .u (.agg cs)
abbrev V.top : V := .u (.one .top)
abbrev V.int (n : Int) : V := .u (.one (.d (.int .i64 n)))
abbrev V.bool (b : Bool) : V := .u (.one (.d (.bool b)))

section
variable (φ : Nat → Value) (w : World) (F : Nat → Prop)
mutual
def csim : C → Value → Prop
  | .top, _ => True
  | .d x, v => rep w F x v
  | .ref xs off, v => ∃ b o, v = .pointer (some ⟨b, o + off, none⟩) ∧ F b ∧ b < w.heap.size ∧ repRow w F xs b o
  | .box s off, v => ∃ b, φ s = .pointer (some ⟨b, 0, none⟩) ∧ v = .pointer (some ⟨b, off, none⟩)
  | .own s, v => v = φ s ∧ v.oneCell' = true
  | .elt s i sz off, v => ∃ b n c, φ s = .slice (some ⟨b, 0, none⟩) n c ∧ v = .pointer (some ⟨b, i * sz + off, none⟩)
  | .map s, v => v = φ s ∧ v.oneCell' = true
  | .nilmap, v => v = .map none
  | .iter s, v => v = φ s ∧ v.oneCell' = true
  | .fn f caps, v => ∃ arr : Array Value, v = .func (.func f) #[] arr ∧ csims caps arr.toList
def csims : List C → List Value → Prop
  | [], vs => vs = []
  | c :: cs, vs => ∃ v r, vs = v :: r ∧ csim c v ∧ csims cs r
end
def usim : U → Value → Prop
  | .one c, v => csim φ w F c v
  | .agg cs, v => ∃ arr : Array Value, v = .agg arr ∧ csims φ w F cs arr.toList
def usims : List U → List Value → Prop
  | [], vs => vs = []
  | c :: cs, vs => ∃ v r, vs = v :: r ∧ usim φ w F c v ∧ usims cs r
def vsim : V → Value → Prop
  | .u x, v => usim φ w F x v
  | .tup us, v => ∃ arr : Array Value, v = .tuple arr ∧ usims φ w F us arr.toList
end

section
variable {φ : Nat → Value} {w w' : World} {F F' : Nat → Prop}
mutual
theorem csim_keep (h : Keep F F' w w') : ∀ (c : C) (v : Value), csim φ w F c v → csim φ w' F' c v
  | .top, v, hv => by simp [csim]
  | .d x, v, hv => by simp only [csim] at hv ⊢; exact rep_keep h x v hv
  | .ref xs off, v, hv => by
    simp only [csim] at hv ⊢
    obtain ⟨b, o, rfl, hF, hl, hr⟩ := hv
    exact ⟨b, o, rfl, h.sub b hF hl, Nat.lt_of_lt_of_le hl h.size, repRow_keep h xs b o hF hl hr⟩
  | .box s off, v, hv => by simpa [csim] using hv
  | .own s, v, hv => by simpa [csim] using hv
  | .elt s i sz off, v, hv => by simpa [csim] using hv
  | .map s, v, hv => by simpa [csim] using hv
  | .nilmap, v, hv => by simpa [csim] using hv
  | .iter s, v, hv => by simpa [csim] using hv
  | .fn f caps, v, hv => by
    simp only [csim] at hv ⊢
    obtain ⟨arr, rfl, hc⟩ := hv
    exact ⟨arr, rfl, csims_keep h caps _ hc⟩
theorem csims_keep (h : Keep F F' w w') : ∀ (cs : List C) (vs : List Value), csims φ w F cs vs → csims φ w' F' cs vs
  | [], vs, hv => by simpa [csims] using hv
  | c :: cs, vs, hv => by
    simp only [csims] at hv ⊢
    obtain ⟨v, r, rfl, hc, hcs⟩ := hv
    exact ⟨v, r, rfl, csim_keep h c v hc, csims_keep h cs r hcs⟩
end
theorem usim_keep (h : Keep F F' w w') (x : U) (v : Value) (hv : usim φ w F x v) : usim φ w' F' x v := by
  cases x with
  | one c => exact csim_keep h c v hv
  | agg cs => obtain ⟨arr, rfl, hc⟩ := hv; exact ⟨arr, rfl, csims_keep h cs _ hc⟩
theorem usims_keep (h : Keep F F' w w') : ∀ (us : List U) (vs : List Value), usims φ w F us vs → usims φ w' F' us vs
  | [], _, hv => hv
  | x :: us, vs, hv => by
    obtain ⟨v, r, rfl, hc, hcs⟩ := hv
    exact ⟨v, r, rfl, usim_keep h x v hc, usims_keep h us r hcs⟩
theorem vsim_keep (h : Keep F F' w w') (x : V) (v : Value) (hv : vsim φ w F x v) : vsim φ w' F' x v := by
  cases x with
  | u x => exact usim_keep h x v hv
  | tup us => obtain ⟨arr, rfl, hc⟩ := hv; exact ⟨arr, rfl, usims_keep h us _ hc⟩
end

/-! ### names: which are mentioned, forgetting one, renaming -/
mutual
def C.ment (s : Nat) : C → Bool
  | .box t _ | .own t | .elt t _ _ _ | .map t | .iter t => t == s
  | .fn _ caps => C.ments s caps
  | _ => false
def C.ments (s : Nat) : List C → Bool
  | [] => false
  | c :: cs => C.ment s c || C.ments s cs
end
def C.wipe (s : Nat) (c : C) : C := match c with
  | .top => .top | .d x => .d x | .ref xs o => .ref xs o | .nilmap => .nilmap
  | .box t o => if t = s then .top else .box t o
  | .own t => if t = s then .top else .own t
  | .elt t i z o => if t = s then .top else .elt t i z o
  | .map t => if t = s then .top else .map t
  | .iter t => if t = s then .top else .iter t
  | .fn f caps => if C.ments s caps then .top else .fn f caps
def U.wipe (s : Nat) : U → U
  | .one c => .one (c.wipe s)
  | .agg cs => .agg (cs.map (C.wipe s))
def V.wipe (s : Nat) : V → V
  | .u x => .u (x.wipe s)
  | .tup us => .tup (us.map (U.wipe s))

mutual
def C.ren (f : Nat → Nat) : C → C
  | .top => .top | .d x => .d x | .ref xs o => .ref xs o | .nilmap => .nilmap
  | .box t o => .box (f t) o
  | .own t => .own (f t)
  | .elt t i z o => .elt (f t) i z o
  | .map t => .map (f t)
  | .iter t => .iter (f t)
  | .fn g caps => .fn g (C.rens f caps)
def C.rens (f : Nat → Nat) : List C → List C
  | [] => []
  | c :: cs => c.ren f :: C.rens f cs
end
def U.ren (f : Nat → Nat) : U → U
  | .one c => .one (c.ren f)
  | .agg cs => .agg (C.rens f cs)
def U.rens (f : Nat → Nat) : List U → List U
  | [] => []
  | c :: cs => c.ren f :: U.rens f cs
def V.ren (f : Nat → Nat) : V → V
  | .u x => .u (x.ren f)
  | .tup us => .tup (U.rens f us)

section
variable {φ ψ : Nat → Value} {w : World} {F : Nat → Prop} {s : Nat}
mutual
theorem csim_other (h : ∀ t, t ≠ s → ψ t = φ t) : ∀ (c : C) (v : Value), c.ment s = false → csim φ w F c v → csim ψ w F c v
  | .top, v, _, hv => by simp [csim]
  | .d x, v, _, hv => by simpa [csim] using hv
  | .ref xs off, v, _, hv => by simpa [csim] using hv
  | .box t off, v, hm, hv => by simp only [C.ment, beq_eq_false_iff_ne] at hm; simpa [csim, h t hm] using hv
  | .own t, v, hm, hv => by simp only [C.ment, beq_eq_false_iff_ne] at hm; simpa [csim, h t hm] using hv
  | .elt t i z off, v, hm, hv => by simp only [C.ment, beq_eq_false_iff_ne] at hm; simpa [csim, h t hm] using hv
  | .map t, v, hm, hv => by simp only [C.ment, beq_eq_false_iff_ne] at hm; simpa [csim, h t hm] using hv
  | .nilmap, v, _, hv => by simpa [csim] using hv
  | .iter t, v, hm, hv => by simp only [C.ment, beq_eq_false_iff_ne] at hm; simpa [csim, h t hm] using hv
  | .fn f caps, v, hm, hv => by
    simp only [csim, C.ment] at hm hv ⊢
    obtain ⟨arr, rfl, hc⟩ := hv
    exact ⟨arr, rfl, csims_other h caps _ hm hc⟩
theorem csims_other (h : ∀ t, t ≠ s → ψ t = φ t) : ∀ (cs : List C) (vs : List Value), C.ments s cs = false → csims φ w F cs vs → csims ψ w F cs vs
  | [], vs, _, hv => by simpa [csims] using hv
  | c :: cs, vs, hm, hv => by
    simp only [C.ments, Bool.or_eq_false_iff] at hm
    simp only [csims] at hv ⊢
    obtain ⟨v, r, rfl, hc, hcs⟩ := hv
    exact ⟨v, r, rfl, csim_other h c v hm.1 hc, csims_other h cs r hm.2 hcs⟩
end
theorem csim_wipe (h : ∀ t, t ≠ s → ψ t = φ t) (c : C) (v : Value) (hv : csim φ w F c v) : csim ψ w F (c.wipe s) v := by
  cases c with
  | top | d _ | ref _ _ | nilmap => exact csim_other h _ v rfl hv
  | box t o | own t | elt t i z o | map t | iter t =>
    simp only [C.wipe]
    split
    · simp [csim]
    · rename_i hne; exact csim_other h _ v (by simpa [C.ment] using hne) hv
  | fn f caps =>
    simp only [C.wipe]
    split
    · simp [csim]
    · rename_i hne; exact csim_other h _ v (by simpa [C.ment] using hne) hv
theorem csims_wipe (h : ∀ t, t ≠ s → ψ t = φ t) : ∀ (cs : List C) (vs : List Value), csims φ w F cs vs → csims ψ w F (cs.map (C.wipe s)) vs
  | [], _, hv => hv
  | c :: cs, vs, hv => by
    simp only [csims] at hv
    obtain ⟨v, r, rfl, hc, hcs⟩ := hv
    simp only [List.map_cons, csims]
    exact ⟨v, r, rfl, csim_wipe h c v hc, csims_wipe h cs r hcs⟩
theorem usim_wipe (h : ∀ t, t ≠ s → ψ t = φ t) (x : U) (v : Value) (hv : usim φ w F x v) : usim ψ w F (x.wipe s) v := by
  cases x with
  | one c => exact csim_wipe h c v hv
  | agg cs => obtain ⟨arr, rfl, hc⟩ := hv; exact ⟨arr, rfl, csims_wipe h cs _ hc⟩
theorem usims_wipe (h : ∀ t, t ≠ s → ψ t = φ t) : ∀ (us : List U) (vs : List Value), usims φ w F us vs → usims ψ w F (us.map (U.wipe s)) vs
  | [], _, hv => hv
  | x :: us, vs, hv => by
    obtain ⟨v, r, rfl, hc, hcs⟩ := hv
    exact ⟨v, r, rfl, usim_wipe h x v hc, usims_wipe h us r hcs⟩
theorem vsim_wipe (h : ∀ t, t ≠ s → ψ t = φ t) (x : V) (v : Value) (hv : vsim φ w F x v) : vsim ψ w F (x.wipe s) v := by
  cases x with
  | u x => exact usim_wipe h x v hv
  | tup us => obtain ⟨arr, rfl, hc⟩ := hv; exact ⟨arr, rfl, usims_wipe h us _ hc⟩
end

section
variable {φ : Nat → Value} {w : World} {F : Nat → Prop} {f : Nat → Nat}
mutual
theorem csim_ren : ∀ (c : C) (v : Value), csim φ w F (c.ren f) v ↔ csim (fun t => φ (f t)) w F c v
  | .top, v => by simp [csim, C.ren]
  | .d x, v => by simp [csim, C.ren]
  | .ref xs off, v => by simp [csim, C.ren]
  | .box t off, v => by simp [csim, C.ren]
  | .own t, v => by simp [csim, C.ren]
  | .elt t i z off, v => by simp [csim, C.ren]
  | .map t, v => by simp [csim, C.ren]
  | .nilmap, v => by simp [csim, C.ren]
  | .iter t, v => by simp [csim, C.ren]
  | .fn g caps, v => by simp only [csim, C.ren]; exact exists_congr fun arr => and_congr Iff.rfl (csims_ren caps _)
theorem csims_ren : ∀ (cs : List C) (vs : List Value), csims φ w F (C.rens f cs) vs ↔ csims (fun t => φ (f t)) w F cs vs
  | [], vs => by simp [csims, C.rens]
  | c :: cs, vs => by
    simp only [csims, C.rens]
    exact exists_congr fun v => exists_congr fun r => and_congr Iff.rfl (and_congr (csim_ren c v) (csims_ren cs r))
end
theorem usim_ren (x : U) (v : Value) : usim φ w F (x.ren f) v ↔ usim (fun t => φ (f t)) w F x v := by
  cases x with
  | one c => exact csim_ren c v
  | agg cs => exact exists_congr fun arr => and_congr Iff.rfl (csims_ren cs _)
theorem usims_ren : ∀ (us : List U) (vs : List Value), usims φ w F (U.rens f us) vs ↔ usims (fun t => φ (f t)) w F us vs
  | [], _ => Iff.rfl
  | x :: us, _ => exists_congr fun v => exists_congr fun r => and_congr Iff.rfl (and_congr (usim_ren x v) (usims_ren us r))
theorem vsim_ren (x : V) (v : Value) : vsim φ w F (x.ren f) v ↔ vsim (fun t => φ (f t)) w F x v := by
  cases x with
  | u x => exact usim_ren x v
  | tup us => exact exists_congr fun arr => and_congr Iff.rfl (usims_ren us _)
end

/-! ### lists -/
theorem csims_length {φ : Nat → Value} {w : World} {F : Nat → Prop} : ∀ {cs : List C} {vs : List Value}, csims φ w F cs vs → cs.length = vs.length
  | [], _, h => by simp only [csims] at h; subst h; rfl
  | c :: cs, vs, h => by
    simp only [csims] at h
    obtain ⟨v, r, rfl, _, h⟩ := h
    simp [csims_length h]
theorem csims_get {φ : Nat → Value} {w : World} {F : Nat → Prop} : ∀ {cs : List C} {vs : List Value}, csims φ w F cs vs → ∀ {i : Nat} {c : C}, cs[i]? = some c → ∃ v, vs[i]? = some v ∧ csim φ w F c v
  | [], _, _, i, c, hi => by simp at hi
  | c :: cs, vs, h, i, x, hi => by
    simp only [csims] at h
    obtain ⟨v, r, rfl, hc, h⟩ := h
    cases i with
    | zero => simp at hi; subst hi; exact ⟨v, rfl, hc⟩
    | succ i => simp at hi; simpa using csims_get h hi
theorem csims_append {φ : Nat → Value} {w : World} {F : Nat → Prop} : ∀ {cs ds : List C} {vs us : List Value}, csims φ w F cs vs → csims φ w F ds us → csims φ w F (cs ++ ds) (vs ++ us)
  | [], _, _, _, h, h' => by simp only [csims] at h; subst h; exact h'
  | c :: cs, ds, vs, us, h, h' => by
    simp only [csims] at h
    obtain ⟨v, r, rfl, hc, h⟩ := h
    simp only [List.cons_append, csims]
    exact ⟨v, r ++ us, rfl, hc, csims_append h h'⟩
theorem csims_take {φ : Nat → Value} {w : World} {F : Nat → Prop} : ∀ {cs : List C} {vs : List Value} (n : Nat), csims φ w F cs vs → csims φ w F (cs.take n) (vs.take n)
  | [], _, n, h => by simp only [csims] at h; subst h; simp [csims]
  | c :: cs, vs, n, h => by
    simp only [csims] at h
    obtain ⟨v, r, rfl, hc, h⟩ := h
    cases n with
    | zero => simp [csims]
    | succ n => simp only [List.take_succ_cons, csims]; exact ⟨v, _, rfl, hc, csims_take n h⟩
theorem csims_drop {φ : Nat → Value} {w : World} {F : Nat → Prop} : ∀ {cs : List C} {vs : List Value} (n : Nat), csims φ w F cs vs → csims φ w F (cs.drop n) (vs.drop n)
  | [], _, n, h => by simp only [csims] at h; subst h; simp [csims]
  | c :: cs, vs, n, h => by
    simp only [csims] at h
    obtain ⟨v, r, rfl, hc, h⟩ := h
    cases n with
    | zero => simp only [List.drop_zero, csims]; exact ⟨v, r, rfl, hc, h⟩
    | succ n => simpa using csims_drop n h
theorem csims_set {φ : Nat → Value} {w : World} {F : Nat → Prop} : ∀ {cs : List C} {vs : List Value} {c : C} {v : Value} (i : Nat), csims φ w F cs vs → csim φ w F c v → csims φ w F (cs.set i c) (vs.set i v)
  | [], _, _, _, i, h, _ => by simp only [csims] at h; subst h; simp [csims]
  | x :: cs, vs, c, v, i, h, hc => by
    simp only [csims] at h
    obtain ⟨u, r, rfl, hu, h⟩ := h
    cases i with
    | zero => simp only [List.set_cons_zero, csims]; exact ⟨v, r, rfl, hc, h⟩
    | succ i => simp only [List.set_cons_succ, csims]; exact ⟨u, _, rfl, hu, csims_set i h hc⟩
theorem csims_of_get {φ : Nat → Value} {w : World} {F : Nat → Prop} : ∀ {cs : List C} {vs : List Value}, cs.length = vs.length → (∀ (i : Nat) (c : C) (v : Value), cs[i]? = some c → vs[i]? = some v → csim φ w F c v) → csims φ w F cs vs
  | [], vs, h, _ => by simp only [csims]; exact List.eq_nil_of_length_eq_zero h.symm
  | c :: cs, [], h, _ => by simp at h
  | c :: cs, v :: r, h, hi => by
    simp only [csims]
    exact ⟨v, r, rfl, hi 0 c v rfl rfl, csims_of_get (by simpa using h) fun i c v hc hv => hi (i + 1) c v (by simpa using hc) (by simpa using hv)⟩
end Go.AM
