/-
  The quiet operations, the rest; and all of them together.
-/
import Derived.Test.YtfoadgepblojpaaAmE
namespace Go.AM
open Go.RowKit

section
variable {P : Program} {φ : Nat → Value} {F : Nat → Prop} {w : World} {tb : Tb} {σ : Sto} {cx : Cx}

theorem oneCell_cells {u : Value} (h : u.oneCell' = true) : u.cells = #[u] := by
  cases u <;> first | rfl | simp [Value.oneCell'] at h

theorem csim_oneCell {c : C} {u : Value} (hc : c ≠ .top) (h : csim φ w F c u) : u.oneCell' = true := by
  cases c with
  | top => exact absurd rfl hc
  | d x => exact rep_one (by simpa [csim] using h)
  | ref xs off => simp only [csim] at h; obtain ⟨b, o, rfl, _⟩ := h; rfl
  | box s off => simp only [csim] at h; obtain ⟨b, _, rfl⟩ := h; rfl
  | own s => exact h.2
  | elt s i z off => simp only [csim] at h; obtain ⟨b, n, c, _, rfl⟩ := h; rfl
  | map s => exact h.2
  | nilmap => simp only [csim] at h; subst h; rfl
  | iter s => exact h.2
  | fn f caps => simp only [csim] at h; obtain ⟨arr, rfl, _⟩ := h; rfl

theorem vcells_sound {x : V} {cs : List C} {u : Value} (h : vcells x = some cs) (hx : vsim φ w F x u) : csims φ w F cs u.cells.toList := by
  unfold vcells at h
  split at h
  · cases h
  · rename_i c hc
    cases h
    have := oneCell_cells (csim_oneCell (fun e => hc e) hx)
    rw [this]
    simp only [csims]
    exact ⟨u, [], rfl, hx, rfl⟩
  · cases h
    obtain ⟨arr, rfl, hc⟩ := hx
    exact hc
  · cases h

theorem foldl_set (off : Nat) : ∀ (xs : List Value) (k : Nat) (arr : Array Value), off + k + xs.length ≤ arr.size →
    ((xs.zipIdx k).foldl (fun cs (p : Value × Nat) => cs.setIfInBounds (off + p.2) p.1) arr).toList = arr.toList.take (off + k) ++ xs ++ arr.toList.drop (off + k + xs.length)
  | [], k, arr, _ => by simp
  | x :: xs, k, arr, h => by
    simp only [List.length_cons] at h
    simp only [List.zipIdx_cons, List.foldl_cons]
    rw [foldl_set off xs (k + 1) _ (by simp; omega)]
    have hlt : off + k < arr.toList.length := by simp; omega
    simp only [Array.toList_setIfInBounds]
    rw [show off + (k + 1) = off + k + 1 from rfl, List.take_add_one, List.getElem?_set_self hlt, List.take_set_of_le (Nat.le_refl _), List.drop_set_of_lt (by omega)]
    simp [show off + k + 1 + xs.length = off + k + (xs.length + 1) from by omega]

theorem fill_sound {place : Nat → Option (Nat × Nat)} {offs : List (Nat × Nat)} (hp : ∀ i p, offs[i]? = some p → place i = some p) : ∀ (parts : List (Nat × V)) (vals : List (Nat × Value)) (cs cs' : List C) (arr : Array Value),
    parts.length = vals.length → (∀ (j : Nat) (p : Nat × V) (q : Nat × Value), parts[j]? = some p → vals[j]? = some q → p.1 = q.1 ∧ vsim φ w F p.2 q.2) → csims φ w F cs arr.toList → fillC offs cs parts = some cs' →
    ∃ arr', Instr.fill place arr vals = some arr' ∧ csims φ w F cs' arr'.toList
  | [], [], cs, cs', arr, _, _, hc, h => by cases h; exact ⟨arr, rfl, hc⟩
  | [], q :: vals, _, _, _, hl, _, _, _ => by simp at hl
  | p :: parts, [], _, _, _, hl, _, _, _ => by simp at hl
  | (i, x) :: parts, (i', u) :: vals, cs, cs', arr, hl, hs, hc, h => by
    obtain ⟨h1, h2⟩ := hs 0 (i, x) (i', u) rfl rfl
    simp only at h1 h2
    subst h1
    simp only [fillC] at h
    split at h
    · rename_i off sz xs ho hv
      split at h
      · rename_i hle
        have hcu := vcells_sound hv h2
        have hlen := csims_length hcu
        have hlen2 := csims_length hc
        simp only [Array.length_toList] at hlen hlen2
        have e := foldl_set off u.cells.toList 0 arr (by simp; omega)
        simp only [Nat.add_zero, Array.length_toList] at e
        have hcs : csims φ w F (cs.take off ++ xs ++ cs.drop (off + sz)) (arr.toList.take off ++ u.cells.toList ++ arr.toList.drop (off + u.cells.size)) :=
          csims_append (csims_append (csims_take off hc) hcu) (by rw [← hlen, hle.1]; exact csims_drop (off + sz) hc)
        have hz : (u.cells.zipIdx.foldl (fun cs (c, j) => cs.setIfInBounds (off + j) c) arr).toList = arr.toList.take off ++ u.cells.toList ++ arr.toList.drop (off + u.cells.size) := by
          rw [← e, ← Array.foldl_toList]
          simp
        obtain ⟨arr', hf, hc'⟩ := fill_sound hp parts vals _ cs' (u.cells.zipIdx.foldl (fun cs (c, j) => cs.setIfInBounds (off + j) c) arr) (by simpa using hl)
          (fun j p q hj hq => hs (j + 1) p q (by simpa using hj) (by simpa using hq)) (by rw [hz]; exact hcs) h
        refine ⟨arr', ?_, hc'⟩
        simp only [Instr.fill, hp i _ ho]
        rw [if_neg]
        · exact hf
        · simp only [ne_eq, Bool.or_eq_true, decide_eq_true_eq]
          omega
      · cases h
    · cases h

theorem usim_cells {x : U} {cs : List C} {u : Value} (hz : x = .agg cs) (h : usim φ w F x u) : csims φ w F cs u.cells.toList := by
  subst hz
  obtain ⟨arr, rfl, hc⟩ := h
  exact hc

theorem mapM_places (fs : Array Field) : ∀ l : List Field, (∀ f ∈ l, ∃ i, P.info? f.type = some i) →
    (l.mapM fun f => do pure (f.offset, ← sizeOf f.type) : Sem (List (Nat × Nat))).run P w = .ok (l.map fun f => (f.offset, P.cellsOf f.type)) w
  | [], _ => by simp
  | f :: l, h => by
    obtain ⟨i, hi⟩ := h f (by simp)
    have hr : (sizeOf f.type).run P w = .ok (P.cellsOf f.type) w := by simp [sizeOf, typeInfo, hi, Program.cellsOf]
    have ih := mapM_places fs l (fun g hg => h g (by simp [hg]))
    simp only [List.mapM_cons, Sem.run_bind, hr, Result.andThen_ok, Sem.run_pure, ih, List.map_cons]

theorem run_mapM_array {α β : Type} (f : α → Sem β) (l : Array α) : (l.mapM f).run P w = ((l.toList.mapM f).run P w).andThen fun r w' => .ok r.toArray w' := by
  rw [Array.mapM_eq_mapM_toList]
  simp [Sem.run_map]

theorem qbuild_sound (ht : TbOk P tb) {t : TypeId} {parts : List (Nat × V)} {v : V} {vals : List (Nat × Value)}
    (h : qbuild tb t parts = some v) (hl : parts.length = vals.length) (hs : ∀ (j : Nat) (p : Nat × V) (q : Nat × Value), parts[j]? = some p → vals[j]? = some q → p.1 = q.1 ∧ vsim φ w F p.2 q.2) :
    Yields P φ F (Instr.build t vals.toArray) w v := by
  unfold qbuild at h
  split at h
  · rename_i ti hty
    have T := ht.ty t ti hty
    split at h
    · rename_i fs cs hd hz
      cases hf : fillC ti.offs cs parts with
      | none => rw [hf] at h; cases h
      | some cs' =>
        rw [hf] at h
        cases h
        have hz' := usim_cells hz (T.zero φ w F)
        have ho := T.offs fs hd
        obtain ⟨arr', h1, h2⟩ := fill_sound (place := ((fs.toList.map fun f => (f.offset, P.cellsOf f.type)).toArray[·]?)) (offs := ti.offs)
          (fun i p hi => by rw [ho] at hi; simpa using hi) parts vals cs cs' ti.zv.cells hl hs hz' hf
        refine Yields.here (u := .agg arr') ?_ ⟨arr', rfl, h2⟩
        unfold Instr.build
        simp only [Sem.run_bind, T.run_zero, T.run_und, Result.andThen_ok, hd, run_mapM_array, mapM_places fs fs.toList (fun f hf => Option.isSome_iff_exists.1 (List.all_eq_true.1 (T.fty fs hd) f hf)), h1, Sem.run_pure]
    · cases h
  · cases h

/-! ### a literal of a slice -/
theorem cdatas_eq : ∀ {cs : List C} {xs : List L}, cdatas cs = some xs → cs = xs.map C.d
  | [], _, h => by cases h; rfl
  | c :: cs, xs, h => by
    simp only [cdatas] at h
    split at h
    · rename_i x ys h1 h2
      cases h
      cases c <;> simp only [cdata] at h1 <;> cases h1
      rw [cdatas_eq h2]
      rfl
    · cases h

theorem flatten_length {sz : Nat} : ∀ {rs : List (List L)}, (∀ r ∈ rs, r.length = sz) → rs.flatten.length = rs.length * sz
  | [], _ => by simp
  | r :: rs, h => by
    rw [List.flatten_cons, List.length_append, h r (by simp), flatten_length (fun r hr => h r (by simp [hr])), List.length_cons, Nat.add_mul]
    omega

theorem flatten_set {sz : Nat} : ∀ {rs : List (List L)} {i : Nat} {ys : List L}, (∀ r ∈ rs, r.length = sz) → i < rs.length → (rs.set i ys).flatten = rs.flatten.take (i * sz) ++ ys ++ rs.flatten.drop (i * sz + sz)
  | [], i, ys, _, hi => by simp at hi
  | r :: rs, 0, ys, h, _ => by
    have := h r (by simp)
    simp [← this]
  | r :: rs, i + 1, ys, h, hi => by
    have hr := h r (by simp)
    have ih := flatten_set (rs := rs) (i := i) (ys := ys) (fun r hr => h r (List.mem_cons_of_mem _ hr)) (by simpa using hi)
    simp only [List.set_cons_succ, List.flatten_cons, ih]
    have e1 : (i + 1) * sz = r.length + i * sz := by rw [Nat.add_mul, hr]; omega
    have e2 : (i + 1) * sz + sz = r.length + (i * sz + sz) := by omega
    rw [e2, e1, List.take_length_add_append, List.drop_length_add_append]
    simp

theorem repRow_of {b : Nat} : ∀ {xs : List L} {us : List Value} {o : Nat}, csims φ w F (xs.map C.d) us → (∀ (j : Nat) (u : Value), us[j]? = some u → w.cell? ⟨b, o + j, none⟩ = some u) → repRow w F xs b o
  | [], _, _, _, _ => by simp [repRow]
  | x :: xs, us, o, h, hc => by
    simp only [List.map_cons, csims] at h
    obtain ⟨v, r, rfl, hv, hr⟩ := h
    simp only [repRow]
    exact ⟨⟨v, hc 0 v rfl, by simpa [csim] using hv⟩, repRow_of hr fun j u hj => by rw [show o + 1 + j = o + (j + 1) from by omega]; exact hc (j + 1) u (by simpa using hj)⟩

theorem repRows_of {b sz : Nat} : ∀ {rs : List (List L)} {us : List Value} {o : Nat}, (∀ r ∈ rs, r.length = sz) → csims φ w F (rs.flatten.map C.d) us → (∀ (j : Nat) (u : Value), us[j]? = some u → w.cell? ⟨b, o + j, none⟩ = some u) → repRows w F sz rs b o
  | [], _, _, _, _, _ => by simp [repRows]
  | r :: rs, us, o, hl, h, hc => by
    have hr := hl r (by simp)
    rw [List.flatten_cons, List.map_append] at h
    have hlen := csims_length h
    have h1 := csims_take sz h
    have h2 := csims_drop sz h
    rw [List.take_left' (by simp [hr])] at h1
    rw [List.drop_left' (by simp [hr])] at h2
    simp only [repRows]
    refine ⟨⟨hr, repRow_of h1 fun j u hj => ?_⟩, repRows_of (fun r hr => hl r (by simp [hr])) h2 fun j u hj => ?_⟩
    · rw [List.getElem?_take] at hj
      split at hj
      · exact hc j u hj
      · cases hj
    · rw [List.getElem?_drop] at hj
      have := hc _ u hj
      rwa [← Nat.add_assoc] at this

theorem zero_cells {zr : List L} {zero : Array Value} (h : csims φ w F (zr.map C.d) zero.toList) (n : Nat) :
    csims φ w F ((List.replicate n zr).flatten.map C.d) ((Array.range (n * zero.size)).map fun j => zero[j % zero.size]!).toList := by
  have hz : ∀ n, ((Array.range (n * zero.size)).map fun j => zero[j % zero.size]!).toList = (List.replicate n zero.toList).flatten := by
    intro n
    induction n with
    | zero => simp
    | succ n ih =>
      simp only [Array.toList_map, Array.toList_range] at ih ⊢
      rw [Nat.add_mul, Nat.one_mul, List.range_add, List.map_append, ih, List.replicate_succ', List.flatten_append]
      congr 1
      simp only [List.map_map, List.flatten_cons, List.flatten_nil, List.append_nil]
      apply List.ext_getElem
      · simp
      · intro i h1 h2
        simp only [List.length_map, List.length_range] at h1
        simp [Nat.mod_eq_of_lt h1, h1]
  rw [hz]
  clear hz
  induction n with
  | zero => simp [csims]
  | succ n ih =>
    simp only [List.replicate_succ, List.flatten_cons, List.map_append]
    exact csims_append h ih

theorem run_newRow (e : TypeId) (cells : Array Value) (w : World) : (newRow e cells).run P w = .ok ⟨w.heap.size, 0, none⟩ (w.alloc (.cells cells e)) := rfl
theorem range_zero_map (f : Nat → Value) : (Array.range 0).map f = #[] := by simp

theorem fillRows_sound {sz : Nat} : ∀ (parts : List (Nat × V)) (vals : List (Nat × Value)) (rs rs' : List (List L)) (arr : Array Value), (∀ r ∈ rs, r.length = sz) →
    parts.length = vals.length → (∀ (j : Nat) (p : Nat × V) (q : Nat × Value), parts[j]? = some p → vals[j]? = some q → p.1 = q.1 ∧ vsim φ w F p.2 q.2) → csims φ w F (rs.flatten.map C.d) arr.toList → fillRows sz rs parts = some rs' →
    ∃ arr', Instr.fill (fun i => some (i * sz, sz)) arr vals = some arr' ∧ csims φ w F (rs'.flatten.map C.d) arr'.toList ∧ (∀ r ∈ rs', r.length = sz) ∧ rs'.length = rs.length
  | [], [], rs, rs', arr, hr, _, _, hc, h => by cases h; exact ⟨arr, rfl, hc, hr, rfl⟩
  | [], q :: vals, _, _, _, _, hl, _, _, _ => by simp at hl
  | p :: parts, [], _, _, _, _, hl, _, _, _ => by simp at hl
  | (i, x) :: parts, (i', u) :: vals, rs, rs', arr, hr, hl, hs, hc, h => by
    obtain ⟨h1, h2⟩ := hs 0 (i, x) (i', u) rfl rfl
    simp only at h1 h2
    subst h1
    simp only [fillRows] at h
    split at h
    · rename_i xs hv
      split at h
      · rename_i ys hy
        split at h
        · rename_i hle
          have hcu := vcells_sound hv h2
          rw [cdatas_eq hy] at hcu
          have hlen := csims_length hcu
          have hlen2 := csims_length hc
          simp only [Array.length_toList, List.length_map] at hlen hlen2
          rw [flatten_length hr] at hlen2
          have hroom : i * sz + sz ≤ rs.length * sz := by
            have := Nat.mul_le_mul_right sz (show i + 1 ≤ rs.length from hle.2)
            rwa [Nat.add_mul, Nat.one_mul] at this
          have e := foldl_set (i * sz) u.cells.toList 0 arr (by simp; omega)
          simp only [Nat.add_zero, Array.length_toList] at e
          have hcs : csims φ w F ((rs.set i ys).flatten.map C.d) (arr.toList.take (i * sz) ++ u.cells.toList ++ arr.toList.drop (i * sz + u.cells.size)) := by
            rw [flatten_set hr hle.2, List.map_append, List.map_append, List.map_take, List.map_drop]
            exact csims_append (csims_append (csims_take _ hc) hcu) (by rw [← hlen, hle.1]; exact csims_drop _ hc)
          have hz : (u.cells.zipIdx.foldl (fun cs (c, j) => cs.setIfInBounds (i * sz + j) c) arr).toList = arr.toList.take (i * sz) ++ u.cells.toList ++ arr.toList.drop (i * sz + u.cells.size) := by
            rw [← e, ← Array.foldl_toList]
            simp
          obtain ⟨arr', hf, hc', hr', hl'⟩ := fillRows_sound parts vals (rs.set i ys) rs' (u.cells.zipIdx.foldl (fun cs (c, j) => cs.setIfInBounds (i * sz + j) c) arr)
            (fun r hm => by
              rcases List.mem_or_eq_of_mem_set hm with hm | rfl
              · exact hr r hm
              · exact hle.1) (by simpa using hl)
            (fun j p q hj hq => hs (j + 1) p q (by simpa using hj) (by simpa using hq)) (by rw [hz]; exact hcs) h
          refine ⟨arr', ?_, hc', hr', by simpa using hl'⟩
          simp only [Instr.fill]
          rw [if_neg]
          · exact hf
          · simp only [ne_eq, Bool.or_eq_true, decide_eq_true_eq]
            omega
        · cases h
      · cases h
    · cases h

theorem run_buildSlice {t e : TypeId} {te : TI} (hT : P.underlying t = some (.slice e)) (TE : TabFact P e te) {n : Nat} (hle : n * te.size ≤ 2 ^ 24) {vals : List (Nat × Value)} {arr' : Array Value}
    (h0 : n * te.size = 0 → Instr.fill (fun i => some (i * te.size, te.size)) #[] vals = some arr')
    (h1 : n * te.size ≠ 0 → Instr.fill (fun i => some (i * te.size, te.size)) ((Array.range (n * te.size)).map fun j => te.zv.cells[j % te.zv.cells.size]!) vals = some arr') :
    (Instr.buildSlice t n vals.toArray).run P w = .ok (.slice (some ⟨w.heap.size, 0, none⟩) n n) (w.alloc (.cells arr' e)) := by
  unfold Instr.buildSlice
  have hgt : ¬ (n * te.size > 2 ^ 24) := by omega
  simp only [Sem.run_bind, run_underlying hT, Result.andThen_ok, TE.run_size, if_neg hgt]
  by_cases hz : n * te.size = 0
  · have := h0 hz
    simp only [hz, if_true]
    simp only [range_zero_map, this, Sem.run_bind, run_newRow, Result.andThen_ok, Sem.run_pure]
  · have := h1 hz
    simp only [if_neg hz, Sem.run_bind, TE.run_zero, Result.andThen_ok, Sem.run_pure, this, run_newRow]

theorem qbuildSlice_sound (ht : TbOk P tb) (hnew : ∀ b, w.heap.size ≤ b → F b) (hmax : 2 ^ 24 ≤ maxLen) {t : TypeId} {n : Nat} {parts : List (Nat × V)} {v : V} {vals : List (Nat × Value)}
    (h : qbuildSlice tb t n parts = some v) (hl : parts.length = vals.length) (hs : ∀ (j : Nat) (p : Nat × V) (q : Nat × Value), parts[j]? = some p → vals[j]? = some q → p.1 = q.1 ∧ vsim φ w F p.2 q.2) :
    Yields P φ F (Instr.buildSlice t n vals.toArray) w v := by
  unfold qbuildSlice at h
  split at h
  · rename_i ti hty
    have T := ht.ty t ti hty
    split at h
    · rename_i e hd
      split at h
      · rename_i te hte
        have TE := ht.ty e te hte
        split at h
        · rename_i h0
          obtain ⟨rfl, rfl⟩ := h0
          cases h
          have hv : vals = [] := List.eq_nil_of_length_eq_zero hl.symm
          subst hv
          refine ⟨.slice (some ⟨w.heap.size, 0, none⟩) 0 0, w.alloc (.cells #[] e), ?_, (Blw.refl _ _).alloc (Nat.le_refl _) _, ?_⟩
          · exact run_buildSlice (te := te) (vals := []) (T.und.trans (by rw [hd])) TE (by omega) (fun _ => rfl) (fun h => absurd (Nat.zero_mul _) h)
          · simp [vsim, usim, csim, rep]
        · split at h
          · cases h
          · rename_i hsz
            simp only [not_or, Nat.not_lt] at hsz
            split at h
            · rename_i zs hzs
              split at h
              · rename_i zr hzr
                cases hf : fillRows te.size (List.replicate n zr) parts with
                | none => rw [hf] at h; cases h
                | some rs =>
                  rw [hf] at h
                  cases h
                  have hzc := vcells_sound (φ := φ) (w := w) (F := F) hzs (TE.zero φ w F)
                  rw [cdatas_eq hzr] at hzc
                  have hzl := csims_length hzc
                  simp only [List.length_map, Array.length_toList] at hzl
                  rw [TE.zsize] at hzl
                  obtain ⟨arr', h1, h2, h3, h4⟩ := fillRows_sound parts vals (List.replicate n zr) rs _ (fun r hr => by rw [List.eq_of_mem_replicate hr]; exact hzl) hl hs (zero_cells hzc n) hf
                  rw [List.length_replicate] at h4
                  have hsize : arr'.size = n * te.size := by
                    have := csims_length h2
                    simp only [List.length_map, Array.length_toList] at this
                    rw [← this, flatten_length h3, h4]
                  by_cases hn : n = 0
                  · subst hn
                    have hrs : rs = [] := List.eq_nil_of_length_eq_zero h4
                    subst hrs
                    refine ⟨.slice (some ⟨w.heap.size, 0, none⟩) 0 0, w.alloc (.cells arr' e), ?_, (Blw.refl _ _).alloc (Nat.le_refl _) _, ?_⟩
                    · have h1' : Instr.fill (fun i => some (i * te.size, te.size)) #[] vals = some arr' := by rw [← h1, Nat.zero_mul, range_zero_map]
                      exact run_buildSlice (T.und.trans (by rw [hd])) TE (by omega) (fun _ => h1') (fun h => absurd (Nat.zero_mul _) h)
                    · simp only [vsim, usim, csim, rep]
                      exact ⟨_, _, _, rfl, rfl, Nat.le_refl _, Nat.zero_le _, .inl trivial⟩
                  · have hne : n * te.size ≠ 0 := Nat.mul_ne_zero hn hsz.1
                    refine ⟨.slice (some ⟨w.heap.size, 0, none⟩) n n, w.alloc (.cells arr' e), ?_, (Blw.refl _ _).alloc (Nat.le_refl _) _, ?_⟩
                    · exact run_buildSlice (T.und.trans (by rw [hd])) TE hsz.2 (fun h => absurd h hne) (fun _ => by rw [← h1, TE.zsize])
                    · simp only [vsim, usim, csim, rep]
                      have hnm : n ≤ n * te.size := Nat.le_mul_of_pos_right n (by omega)
                      refine ⟨_, _, _, rfl, h4.symm, Nat.le_refl _, by have := hsz.2; omega, .inr ⟨w.heap.size, 0, rfl, hnew _ (Nat.le_refl _), by simp, ?_⟩⟩
                      have hk : Keep F F w (w.alloc (.cells arr' e)) := Keep.of_below ((Blw.refl _ _).alloc (Nat.le_refl _) _)
                      exact repRows_of (us := arr'.toList) (φ := φ) h3 (csims_keep hk _ _ h2) fun j u hj => by
                        rw [Nat.zero_add, cell_of_row _ w.heap.size j arr' e (0, 0) (heap_alloc_new w _)]
                        simpa using hj
              · cases h
            · cases h
      · cases h
    · cases h
  · cases h
end
end Go.AM
