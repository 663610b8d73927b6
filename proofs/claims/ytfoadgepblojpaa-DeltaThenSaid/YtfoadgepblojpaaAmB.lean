/-
  The call's own objects, the relation between the abstract state and the model's, and the table of types.
-/
import Derived.Test.YtfoadgepblojpaaAmA
namespace Go.AM
open Go.RowKit

/-- A map's key: an integer, a string, or a struct of integers. -/
inductive Key where
  | int (k : IntKind) (n : Int)
  | str (s : List UInt8)
  | ints (l : List Int)
  deriving DecidableEq, Inhabited
def Key.val : Key → Value
  | .int k n => .int k n
  | .str s => .string ⟨s.toArray⟩
  | .ints l => .agg (l.map (Value.int .i64)).toArray
def Key.u : Key → U
  | .int k n => .one (.d (.int k n))
  | .str s => .one (.d (.str ⟨s.toArray⟩))
  | .ints l => .agg (l.map fun n => .d (.int .i64 n))
/-- What a key type's keys look like. -/
inductive KK where
  | int (k : IntKind)
  | str
  | ints (n : Nat)
  deriving DecidableEq, Inhabited
def Key.fits : KK → Key → Bool
  | .int k, .int k' n => decide (k = k') && (Lit.int k n).wf
  | .str, .str s => decide (s.length ≤ maxLen)
  | .ints m, .ints l => decide (l.length = m) && l.all fun n => (Lit.int .i64 n).wf
  | _, _ => false

inductive Ob where
  | box (cs : List C)
  | row (sz : Nat) (e : TypeId) (rows : List (List L))
  | map (kk : KK) (es : List (Key × U))
  | iter (m : Nat) (left : List (Key × U)) (last : Option (Key × U))
  deriving Inhabited

abbrev Env := Nat → V
abbrev Sto := Nat → Option Ob

def upd {α : Type} (f : Nat → α) (t : Nat) (x : α) : Nat → α := fun t' => if t' = t then x else f t'
theorem upd_apply {α : Type} (f : Nat → α) (t : Nat) (x : α) (t' : Nat) : upd f t x t' = if t' = t then x else f t' := rfl
theorem upd_same {α : Type} (f : Nat → α) (t : Nat) (x : α) : upd f t x t = x := if_pos rfl
theorem upd_other {α : Type} (f : Nat → α) {t t' : Nat} (x : α) (h : t' ≠ t) : upd f t x t' = f t' := if_neg h

def hblk : Value → Option Nat
  | .pointer (some a) => some a.block
  | .slice (some a) _ c => if c = 0 then none else some a.block
  | .map (some r) => some r
  | _ => none

def esims (φ : Nat → Value) (w : World) (F : Nat → Prop) : List (Key × U) → List MapEntry → Prop
  | [], l => l = []
  | x :: es, l => ∃ e r, l = e :: r ∧ e.key = x.1.val ∧ usim φ w F x.2 e.val ∧ esims φ w F es r

def osim (φ : Nat → Value) (w : World) (F : Nat → Prop) (s : Nat) : Ob → Prop
  | .box cs => ∃ b arr t, φ s = .pointer (some ⟨b, 0, none⟩) ∧ w.heap[b]? = some (.cells arr t (0, 0)) ∧ csims φ w F cs arr.toList ∧ ∀ u ∈ arr.toList, u.oneCell' = true
  | .row sz e rows => (∀ r ∈ rows, r.length = sz) ∧ ((rows = [] ∧ ∃ a, φ s = .slice a 0 0) ∨
      ∃ b cap cur, 0 < cap ∧ φ s = .slice (some ⟨b, 0, none⟩) rows.length cap ∧ rows.length ≤ cap ∧ cap ≤ maxLen ∧ w.heap[b]? = some (.cells cur e (0, 0)) ∧ cur.size = cap * sz ∧
        csims φ w F (rows.flatten.map C.d) (cur.toList.take (rows.length * sz)))
  | .map kk es => ∃ b ents clk, φ s = .map (some b) ∧ w.heap[b]? = some (.map ents clk) ∧ esims φ w F es ents.toList ∧ (ents.toList.map (·.born)).Nodup ∧ (∀ e ∈ ents.toList, e.born < clk) ∧
      (∀ x ∈ es, x.1.fits kk = true) ∧ (es.map (·.1)).Nodup
  | .iter m left last => ∃ b c ents clk seen, φ s = .pointer (some ⟨b, 0, none⟩) ∧ φ m = .map (some c) ∧ w.heap[b]? = some (.mapIter (some c) clk seen clk) ∧ w.heap[c]? = some (.map ents clk) ∧
      esims φ w F left (ents.toList.filter fun e => !seen.contains e.born) ∧ (ents.toList.map (·.born)).Nodup ∧ (∀ e ∈ ents.toList, e.born < clk) ∧
      ∀ x, last = some x → ∃ e, seen.back? = some e.born ∧ ents.find? (·.born == e.born) = some e ∧ e.key = x.1.val ∧ usim φ w F x.2 e.val

def owned (φ : Nat → Value) (σ : Sto) (b : Nat) : Prop := ∃ s o, σ s = some o ∧ hblk (φ s) = some b

/-- What stays fixed in a call: the world at its beginning, the blocks that the arguments may be read from, the blocks of the objects that came in. -/
structure Cx where
  w0 : World
  base : Nat → Prop
  inb : Nat → Prop
  n : Nat
  φ0 : Nat → Value

/-- Names from here on are the objects that came in. -/
def inBase : Nat := 10000

def Cx.fr (cx : Cx) (φ : Nat → Value) (σ : Sto) (b : Nat) : Prop := (cx.base b ∨ cx.w0.heap.size ≤ b ∨ cx.inb b) ∧ ¬ owned φ σ b

structure Core (cx : Cx) (φ : Nat → Value) (σ : Sto) (w : World) : Prop where
  os : w.os = cx.w0.os
  tape : w.tape = cx.w0.tape
  output : w.output = cx.w0.output
  drawn : cx.w0.drawn ≤ w.drawn
  size : cx.w0.heap.size ≤ w.heap.size
  block : ∀ b, b < cx.w0.heap.size → ¬ cx.inb b → w.heap[b]? = cx.w0.heap[b]?
  objs : ∀ s o, σ s = some o → osim φ w (cx.fr φ σ) s o
  own : ∀ s o b, σ s = some o → hblk (φ s) = some b → (cx.w0.heap.size ≤ b ∨ cx.inb b) ∧ b < w.heap.size
  disj : ∀ s s' o o' b, σ s = some o → σ s' = some o' → hblk (φ s) = some b → hblk (φ s') = some b → s = s'
  inp : ∀ i, inBase ≤ i → φ i = cx.φ0 i
  itm : ∀ s m left last, σ s = some (.iter m left last) → ∃ kk es, σ m = some (.map kk es)

structure Sim (cx : Cx) (φ : Nat → Value) (ρ : Env) (σ : Sto) (a : Act) (w : World) : Prop where
  core : Core cx φ σ w
  slots : ∀ t, vsim φ w (cx.fr φ σ) (ρ t) (a.tmps.getD t undef)
  defers : a.defers = []
  room : cx.n ≤ a.tmps.size

theorem esims_keep {φ : Nat → Value} {w w' : World} {F F' : Nat → Prop} (h : Keep F F' w w') : ∀ {es : List (Key × U)} {l : List MapEntry}, esims φ w F es l → esims φ w' F' es l
  | [], _, hs => hs
  | x :: es, l, hs => by
    obtain ⟨e, r, rfl, hk, hv, hs⟩ := hs
    exact ⟨e, r, rfl, hk, usim_keep h _ _ hv, esims_keep h hs⟩

/-- An object whose block (and, of an iterator, whose map's block) has not turned is as it was. -/
theorem osim_keep {φ : Nat → Value} {w w' : World} {F F' : Nat → Prop} (h : Keep F F' w w') {s : Nat} {o : Ob} (ho : osim φ w F s o)
    (hb : ∀ b, hblk (φ s) = some b → w'.heap[b]? = w.heap[b]?) (hm : ∀ m left last b, o = .iter m left last → hblk (φ m) = some b → w'.heap[b]? = w.heap[b]?) : osim φ w' F' s o := by
  cases o with
  | box cs =>
    obtain ⟨b, arr, t, hp, hh, hc, h1⟩ := ho
    exact ⟨b, arr, t, hp, (hb b (by rw [hp]; rfl)).trans hh, csims_keep h cs _ hc, h1⟩
  | row sz e rows =>
    obtain ⟨hsz, ho⟩ := ho
    refine ⟨hsz, ?_⟩
    rcases ho with ho | ⟨b, cap, cur, h0, hp, hl, hm', hh, hs, hc⟩
    · exact .inl ho
    · exact .inr ⟨b, cap, cur, h0, hp, hl, hm', (hb b (by rw [hp]; simp only [hblk]; rw [if_neg (by omega)])).trans hh, hs, csims_keep h _ _ hc⟩
  | map kk es =>
    obtain ⟨b, ents, clk, hp, hh, hc, h1, h2⟩ := ho
    exact ⟨b, ents, clk, hp, (hb b (by rw [hp]; rfl)).trans hh, esims_keep h hc, h1, h2⟩
  | iter m left last =>
    obtain ⟨b, c, ents, clk, seen, hp, hq, hh, hh', hc, h1, h2, h3⟩ := ho
    exact ⟨b, c, ents, clk, seen, hp, hq, (hb b (by rw [hp]; rfl)).trans hh, (hm m left last c rfl (by rw [hq]; rfl)).trans hh', esims_keep h hc, h1, h2,
      fun x hx => let ⟨e, a1, a2, a3, a4⟩ := h3 x hx; ⟨e, a1, a2, a3, usim_keep h _ _ a4⟩⟩

theorem osim_iter_block {φ : Nat → Value} {w : World} {F : Nat → Prop} {s m : Nat} {left : List (Key × U)} {last : Option (Key × U)} (ho : osim φ w F s (.iter m left last)) {b : Nat} (hb : hblk (φ m) = some b) : b < w.heap.size := by
  obtain ⟨_, c, ents, clk, seen, _, hq, _, hh', _⟩ := ho
  rw [hq] at hb
  simp only [hblk, Option.some.injEq] at hb
  subst hb
  exact (Array.getElem?_eq_some_iff.1 hh').1

theorem Keep.of_below {F : Nat → Prop} {w w' : World} (h : Blw w.heap.size w w') : Keep F F w w' := ⟨h.size, fun b _ hl => h.block b hl, fun _ hb _ => hb⟩

/-- The state stands when memory has only grown. -/
theorem Core.below {cx : Cx} {φ : Nat → Value} {σ : Sto} {w w' : World} (h : Core cx φ σ w) (hw : Blw w.heap.size w w') : Core cx φ σ w' where
  os := hw.os.trans h.os
  tape := hw.tape.trans h.tape
  output := hw.output.trans h.output
  drawn := Nat.le_trans h.drawn hw.drawn
  size := Nat.le_trans h.size hw.size
  block := fun b hb hn => (hw.block b (Nat.lt_of_lt_of_le hb h.size)).trans (h.block b hb hn)
  objs := fun s o hs => osim_keep (Keep.of_below hw) (h.objs s o hs) (fun b hb => hw.block b (h.own s o b hs hb).2)
    (fun _ _ _ b ho hb => hw.block b (osim_iter_block (ho ▸ h.objs s o hs) hb))
  own := fun s o b hs hb => ⟨(h.own s o b hs hb).1, Nat.lt_of_lt_of_le (h.own s o b hs hb).2 hw.size⟩
  disj := h.disj
  inp := h.inp
  itm := h.itm

theorem Core.drew {cx : Cx} {φ : Nat → Value} {σ : Sto} {w : World} (h : Core cx φ σ w) : Core cx φ σ { w with drawn := w.drawn + 1 } :=
  h.below ⟨⟨rfl, rfl, rfl, Nat.le_refl _, fun _ _ => rfl⟩, Nat.le_succ _⟩

theorem Act.eval_tmp (a : Act) (t : Nat) : a.eval (.tmp t) = a.tmps.getD t undef := rfl

theorem Sim.below {cx : Cx} {φ : Nat → Value} {ρ : Env} {σ : Sto} {a : Act} {w w' : World} (h : Sim cx φ ρ σ a w) (hw : Blw w.heap.size w w') : Sim cx φ ρ σ a w' :=
  ⟨h.core.below hw, fun t => vsim_keep (Keep.of_below hw) _ _ (h.slots t), h.defers, h.room⟩

theorem slots_put {φ : Nat → Value} {w : World} {F : Nat → Prop} {ρ : Env} {a : Act} (h : ∀ t, vsim φ w F (ρ t) (a.tmps.getD t undef)) {d : Nat} {v : V} {u : Value} (hv : vsim φ w F v u) (hlt : d < a.tmps.size) :
    ∀ t, vsim φ w F (upd ρ d v t) ((a.put (some d) u).tmps.getD t undef) := by
  intro t
  by_cases htd : t = d
  · subst htd
    rw [upd_same]
    simp only [Act.put]
    simpa [hlt] using hv
  · rw [upd_other _ _ htd]
    have := h t
    simpa [Act.put, Array.getElem?_setIfInBounds_ne (Ne.symm htd)] using this

/-! ### the table of types -/
structure TI where
  size : Nat
  bytes : Nat
  zu : U
  zv : Value
  desc : TypeDesc
  offs : List (Nat × Nat) := []
  deriving Inhabited

def TI.agg (ti : TI) : Bool := match ti.desc with | .struct _ | .array _ _ => true | _ => false

structure TabFact (P : Program) (t : TypeId) (ti : TI) : Prop where
  info : (P.info? t).map (fun i => (i.size, i.bytes, i.zero)) = some (ti.size, ti.bytes, some ti.zv)
  und : P.underlying t = some ti.desc
  zero : ∀ φ w F, usim φ w F ti.zu ti.zv
  zsize : ti.zv.cells.size = ti.size
  offs : ∀ fs, ti.desc = .struct fs → (ti.offs = fs.toList.map fun f => (f.offset, P.cellsOf f.type))
  fty : ∀ fs, ti.desc = .struct fs → (fs.toList.all fun f => (P.info? f.type).isSome) = true

abbrev Tab := Nat → Option TI
def TabOk (P : Program) (tb : Tab) : Prop := ∀ t ti, tb t = some ti → TabFact P t ti

section
variable {P : Program} {t : TypeId} {ti : TI}
theorem TabFact.get (h : TabFact P t ti) : ∃ i, P.info? t = some i ∧ i.size = ti.size ∧ i.bytes = ti.bytes ∧ i.zero = some ti.zv := by
  have := h.info
  cases hi : P.info? t with
  | none => rw [hi] at this; cases this
  | some i => rw [hi] at this; simp at this; exact ⟨i, rfl, this.1, this.2.1, this.2.2⟩
theorem TabFact.run_und (h : TabFact P t ti) (w : World) : (underlying t).run P w = .ok ti.desc w := run_underlying h.und w
theorem TabFact.run_size (h : TabFact P t ti) (w : World) : (sizeOf t).run P w = .ok ti.size w := by
  obtain ⟨i, hi, hs, _, _⟩ := h.get
  simp [sizeOf, typeInfo, hi, hs]
theorem TabFact.run_zero (h : TabFact P t ti) (w : World) : (zeroValue t).run P w = .ok ti.zv w := by
  obtain ⟨i, hi, _, _, hz⟩ := h.get
  simp [zeroValue, typeInfo, hi, hz]
theorem TabFact.run_agg (h : TabFact P t ti) (w : World) : (isAgg t).run P w = .ok ti.agg w := by
  unfold isAgg TI.agg
  simp only [Sem.run_bind, h.run_und, Result.andThen_ok]
  cases ti.desc <;> rfl
end
theorem TabFact.cells {P : Program} {t : TypeId} {ti : TI} (h : TabFact P t ti) : P.cellsOf t = ti.size := by
  obtain ⟨i, hi, hs, _, _⟩ := h.get
  simp [Program.cellsOf, hi, hs]

/-! ### memory that is known -/
/-- The cells at (b, o), (b, o + 1), .. hold cs. -/
def Mem (φ : Nat → Value) (w : World) (F : Nat → Prop) (cs : List C) (b o : Nat) : Prop :=
  ∃ us : List Value, csims φ w F cs us ∧ ∀ (j : Nat) (u : Value), us[j]? = some u → w.cell? ⟨b, o + j, none⟩ = some u ∧ u.oneCell' = true

theorem rep_one {w : World} {F : Nat → Prop} {x : L} {v : Value} (h : rep w F x v) : v.oneCell' = true := by
  cases x with
  | int k n => simp only [rep] at h; subst h; rfl
  | bool b => simp only [rep] at h; subst h; rfl
  | str s => simp only [rep] at h; subst h; rfl
  | nil => simp only [rep] at h; subst h; rfl
  | emp => simp only [rep] at h; obtain ⟨a, rfl⟩ := h; rfl
  | sl sz rows => simp only [rep] at h; obtain ⟨ao, n, c, rfl, _⟩ := h; rfl

theorem mem_of_row {φ : Nat → Value} {w : World} {F : Nat → Prop} : ∀ {xs : List L} {b o : Nat}, repRow w F xs b o → Mem φ w F (xs.map C.d) b o
  | [], b, o, _ => ⟨[], by simp [csims], fun j u hj => by simp at hj⟩
  | x :: xs, b, o, h => by
    simp only [repRow] at h
    obtain ⟨⟨u, hu, hx⟩, hr⟩ := h
    obtain ⟨us, h1, h2⟩ := mem_of_row (φ := φ) hr
    refine ⟨u :: us, by simp only [List.map_cons, csims]; exact ⟨u, us, rfl, by simpa [csim] using hx, h1⟩, fun j v hj => ?_⟩
    cases j with
    | zero => simp at hj; subst hj; exact ⟨hu, rep_one hx⟩
    | succ j =>
      have := h2 j v (by simpa using hj)
      rwa [show o + 1 + j = o + (j + 1) from by omega] at this

theorem Mem.sub {φ : Nat → Value} {w : World} {F : Nat → Prop} {cs : List C} {b o : Nat} (h : Mem φ w F cs b o) (off n : Nat) : Mem φ w F ((cs.drop off).take n) b (o + off) := by
  obtain ⟨us, h1, h2⟩ := h
  refine ⟨(us.drop off).take n, csims_take n (csims_drop off h1), fun j u hj => ?_⟩
  rw [List.getElem?_take] at hj
  split at hj
  · rw [List.getElem?_drop] at hj
    have := h2 _ u hj
    rwa [← Nat.add_assoc] at this
  · cases hj

theorem repRows_get {w : World} {F : Nat → Prop} {sz : Nat} : ∀ {rs : List (List L)} {b o i : Nat} {r : List L}, repRows w F sz rs b o → rs[i]? = some r → r.length = sz ∧ repRow w F r b (o + i * sz)
  | [], b, o, i, r, _, hi => by simp at hi
  | x :: rs, b, o, i, r, h, hi => by
    simp only [repRows] at h
    cases i with
    | zero => simp at hi; subst hi; simpa using h.1
    | succ i =>
      have := repRows_get h.2 (i := i) (r := r) (by simpa using hi)
      rw [show o + (i + 1) * sz = o + sz + i * sz from by rw [Nat.add_mul]; omega]
      exact this

theorem repRows_drop {w : World} {F : Nat → Prop} {sz : Nat} : ∀ {rs : List (List L)} {b o : Nat} (i : Nat), repRows w F sz rs b o → repRows w F sz (rs.drop i) b (o + i * sz)
  | [], b, o, i, _ => by simp [repRows]
  | x :: rs, b, o, i, h => by
    cases i with
    | zero => simpa using h
    | succ i =>
      simp only [repRows] at h
      have := repRows_drop i h.2
      rw [show o + (i + 1) * sz = o + sz + i * sz from by rw [Nat.add_mul]; omega]
      simpa using this
theorem repRows_take {w : World} {F : Nat → Prop} {sz : Nat} : ∀ {rs : List (List L)} {b o : Nat} (i : Nat), repRows w F sz rs b o → repRows w F sz (rs.take i) b o
  | [], b, o, i, _ => by simp [repRows]
  | x :: rs, b, o, i, h => by
    cases i with
    | zero => simp [repRows]
    | succ i =>
      simp only [repRows, List.take_succ_cons] at h ⊢
      exact ⟨h.1, repRows_take i h.2⟩

def memOf (σ : Sto) : C → Option (List C × Nat)
  | .ref xs off => some (xs.map C.d, off)
  | .box s off => match σ s with | some (.box cs) => some (cs, off) | _ => none
  | .elt s i sz off => match σ s with
    | some (.row sz' _ rows) => if sz = sz' then match rows[i]? with
        | some r => some (r.map C.d, off)
        | none => none
      else none
    | _ => none
  | _ => none

theorem csims_one {φ : Nat → Value} {w : World} {F : Nat → Prop} : ∀ {xs : List L} {vs : List Value}, csims φ w F (xs.map C.d) vs → ∀ u ∈ vs, u.oneCell' = true
  | [], vs, h => by simp only [List.map_nil, csims] at h; subst h; simp
  | x :: xs, vs, h => by
    simp only [List.map_cons, csims] at h
    obtain ⟨v, r, rfl, hc, h⟩ := h
    intro u hu
    rcases List.mem_cons.1 hu with rfl | hu
    · exact rep_one (by simpa [csim] using hc)
    · exact csims_one h u hu

theorem mem_of_cells {φ : Nat → Value} {w : World} {F : Nat → Prop} {cs : List C} {b : Nat} {arr : Array Value} {t : TypeId} {z : Nat × Nat} (hh : w.heap[b]? = some (.cells arr t z)) {n : Nat} (hc : csims φ w F cs (arr.toList.take n))
    (h1 : ∀ u ∈ arr.toList.take n, u.oneCell' = true) : Mem φ w F cs b 0 := by
  refine ⟨_, hc, fun j u hj => ⟨?_, h1 u (List.mem_of_getElem? hj)⟩⟩
  rw [List.getElem?_take] at hj
  split at hj
  · rw [Nat.zero_add, cell_of_row w b j arr t z hh]; simpa using hj
  · cases hj

theorem flatten_row {sz : Nat} : ∀ {rs : List (List L)} {i : Nat} {r : List L}, (∀ r ∈ rs, r.length = sz) → rs[i]? = some r → (rs.flatten.drop (i * sz)).take sz = r
  | [], i, r, _, hi => by simp at hi
  | x :: rs, 0, r, h, hi => by
    simp at hi
    subst hi
    have := h x (by simp)
    simp [← this]
  | x :: rs, i + 1, r, h, hi => by
    have hx := h x (by simp)
    have ih := flatten_row (rs := rs) (i := i) (r := r) (fun r hr => h r (List.mem_cons_of_mem _ hr)) (by simpa using hi)
    rw [List.flatten_cons, show (i + 1) * sz = x.length + i * sz from by rw [Nat.add_mul, hx]; omega, List.drop_length_add_append]
    exact ih

theorem memOf_sound {cx : Cx} {φ : Nat → Value} {σ : Sto} {w : World} (hco : Core cx φ σ w) {c : C} {cs : List C} {off : Nat} (h : memOf σ c = some (cs, off)) {v : Value} (hv : csim φ w (cx.fr φ σ) c v) :
    ∃ b o, v = .pointer (some ⟨b, o + off, none⟩) ∧ Mem φ w (cx.fr φ σ) cs b o := by
  cases c with
  | ref xs off' =>
    simp only [memOf, Option.some.injEq, Prod.mk.injEq] at h
    obtain ⟨rfl, rfl⟩ := h
    simp only [csim] at hv
    obtain ⟨b, o, rfl, _, _, hr⟩ := hv
    exact ⟨b, o, rfl, mem_of_row hr⟩
  | box s off' =>
    simp only [memOf] at h
    split at h
    · rename_i cs' hs
      simp only [Option.some.injEq, Prod.mk.injEq] at h
      obtain ⟨rfl, rfl⟩ := h
      obtain ⟨b, arr, t, hp, hh, hc, h1⟩ := hco.objs s _ hs
      simp only [csim, hp] at hv
      obtain ⟨b', hb', rfl⟩ := hv
      simp only [Value.pointer.injEq, Option.some.injEq, Addr.mk.injEq] at hb'
      obtain ⟨rfl, _, _⟩ := hb'
      exact ⟨b, 0, by simp, mem_of_cells (n := arr.toList.length) hh (by rw [List.take_length]; exact hc) (by rw [List.take_length]; exact h1)⟩
    · cases h
  | elt s i sz off' =>
    simp only [memOf] at h
    split at h
    · rename_i sz' e rows hs
      split at h
      · rename_i hsz
        subst hsz
        split at h
        · rename_i r hr
          simp only [Option.some.injEq, Prod.mk.injEq] at h
          obtain ⟨rfl, rfl⟩ := h
          simp only [csim] at hv
          obtain ⟨b', n', c', hb', rfl⟩ := hv
          obtain ⟨hrl, ho⟩ := hco.objs s _ hs
          rcases ho with ⟨h0, _⟩ | ⟨b, cap, cur, h0, hp, hl, hm', hh, hs', hc⟩
          · subst h0; simp at hr
          · rw [hp] at hb'
            simp at hb'
            obtain ⟨rfl, _, _⟩ := hb'
            refine ⟨b, i * sz, rfl, ?_⟩
            have hm := (mem_of_cells hh hc (csims_one hc)).sub (i * sz) sz
            rw [← List.map_drop, ← List.map_take, flatten_row hrl hr] at hm
            simpa using hm
        · cases h
      · cases h
    · cases h
  | _ => simp [memOf] at h
end Go.AM
