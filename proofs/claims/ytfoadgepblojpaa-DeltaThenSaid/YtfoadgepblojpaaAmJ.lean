/-
  The operations with an effect, continued: append, maps, ranging over a map.
-/
import Derived.Test.YtfoadgepblojpaaAmI
namespace Go.AM
open Go.RowKit

section
variable {P : Program} {tb : Tb} {cx : Cx} {ρ : Env} {σ : Sto} {o : Oper} {K : Env → Sto → Prop}

theorem csims_data {φ ψ : Nat → Value} {w : World} {F : Nat → Prop} : ∀ {xs : List L} {vs : List Value}, csims φ w F (xs.map C.d) vs → csims ψ w F (xs.map C.d) vs
  | [], _, h => h
  | x :: xs, vs, h => by
    simp only [List.map_cons, csims] at h ⊢
    obtain ⟨v, r, rfl, hc, h⟩ := h
    exact ⟨v, r, rfl, by simpa [csim] using hc, csims_data h⟩

/-- A value to which may be appended: nothing, or a row that lies whole in block b. -/
def RowAt (w : World) (e : TypeId) (sz : Nat) (u : Value) (n : Nat) (xs : List Value) : Prop :=
  (n = 0 ∧ xs = [] ∧ ∃ a, u = .slice a 0 0) ∨
  ∃ b cap cur, 0 < cap ∧ u = .slice (some ⟨b, 0, none⟩) n cap ∧ n ≤ cap ∧ cap ≤ maxLen ∧ w.heap[b]? = some (.cells cur e (0, 0)) ∧ cur.size = cap * sz ∧ cur.toList.take (n * sz) = xs

theorem hblk_none (a : Option Addr) (n : Nat) : hblk (.slice a n 0) = none := by cases a <;> rfl

theorem run_app {w : World} {t ty e : TypeId} {te : TI} (hT : P.underlying t = some (.slice e)) (TE : TabFact P e te) (hsz : 0 < te.size) (hby : 0 < te.bytes) {u : Value} {n : Nat} {xs : List Value} (hu : RowAt w e te.size u n xs) (hxl : xs.length = n * te.size)
    {A : Option Addr} {m c : Nat} {ns : List Value} (hl : ns.length = m * te.size) (hA : 0 < m → ∃ ad, A = some ad ∧ ∀ (j : Nat) (v : Value), ns[j]? = some v → w.cell? (ad.add j) = some v) (h1 : ∀ v ∈ ns, v.oneCell' = true)
    (hb : (n + m) * te.bytes ≤ 140737488355328) :
    ∃ v' w', (Builtin.append_ #[t, t] ty #[u, .slice A m c]).run P w = .ok v' w' ∧ w'.os = w.os ∧ w'.tape = w.tape ∧ w'.output = w.output ∧ w.heap.size ≤ w'.heap.size ∧ (∀ b, b < w.heap.size → hblk u ≠ some b → w'.heap[b]? = w.heap[b]?) ∧
      (∀ b, hblk v' = some b → (w.heap.size ≤ b ∨ hblk u = some b) ∧ b < w'.heap.size) ∧ RowAt w' e te.size v' (n + m) (xs ++ ns) := by
  obtain ⟨i, hi, hi1, hi2, hi3⟩ := TE.get
  have hnm : n + m ≤ (n + m) * te.bytes := Nat.le_mul_of_pos_right _ hby
  have h63 : n + m ≤ maxLen := by simp only [maxLen]; omega
  rcases Nat.eq_zero_or_pos m with hm | hm
  · subst hm
    have hns : ns = [] := List.eq_nil_of_length_eq_zero (by simpa using hl)
    subst hns
    refine ⟨u, w, ?_, rfl, rfl, rfl, Nat.le_refl _, fun _ _ _ => rfl, fun b hbk => ⟨.inr hbk, ?_⟩, by simpa using hu⟩
    · have hlc : ∀ ad : Addr, (loadCells ad 0).run P w = .ok #[] w := fun ad => by simp [loadCells, loadCellsFrom]
      rcases hu with ⟨rfl, rfl, a, rfl⟩ | ⟨b, cap, cur, _, rfl, hnc, _⟩
      · cases a <;> cases A <;> simp [Builtin.append_, run_underlying hT, sizeOf, typeInfo, hi, Builtin.lenOf, Builtin.firstCells, hlc, storeCells]
      · cases A <;> simp [Builtin.append_, run_underlying hT, sizeOf, typeInfo, hi, Builtin.lenOf, Builtin.firstCells, hlc, storeCells, hnc]
    · rcases hu with ⟨rfl, rfl, a, rfl⟩ | ⟨b', cap, cur, h0, rfl, hnc, _, hh, _⟩
      · rw [hblk_none] at hbk; cases hbk
      · simp only [hblk] at hbk
        rw [if_neg (by omega)] at hbk
        cases hbk
        exact (Array.getElem?_eq_some_iff.1 hh).1
  · obtain ⟨ad, rfl, hcells⟩ := hA hm
    have key : ∀ v w'', w.heap.size ≤ w''.heap.size → w''.ownsRow 0 e te.size v (n + m) (xs ++ ns) → RowAt w'' e te.size v (n + m) (xs ++ ns) := by
      intro v w'' _ ho
      rcases ho.2 with ⟨_, h0⟩ | ⟨g, cap, cur, rfl, _, hh, hc1, hc2, hc3, hc4⟩
      · omega
      · exact .inr ⟨g, cap, cur, by omega, rfl, hc1, hc2, hh, hc3, hc4⟩
    rcases hu with ⟨rfl, rfl, a, rfl⟩ | ⟨b, cap, cur, h0, rfl, hnc, hcm, hh, hcs, htk⟩
    · have fin : ∀ v' w'', w''.ownsRow 0 e te.size v' (0 + m) ([] ++ ns) → w.grownBy w'' none → (v'.ownBlock = none ∨ v'.ownBlock = some w.heap.size) → (Builtin.append_ #[t, t] ty #[.slice a 0 0, .slice (some ad) m c]).run P w = .ok v' w'' →
          ∃ v' w', (Builtin.append_ #[t, t] ty #[.slice a 0 0, .slice (some ad) m c]).run P w = .ok v' w' ∧ w'.os = w.os ∧ w'.tape = w.tape ∧ w'.output = w.output ∧ w.heap.size ≤ w'.heap.size ∧ (∀ b, b < w.heap.size → hblk (.slice a 0 0) ≠ some b → w'.heap[b]? = w.heap[b]?) ∧
            (∀ b, hblk v' = some b → (w.heap.size ≤ b ∨ hblk (.slice a 0 0) = some b) ∧ b < w'.heap.size) ∧ RowAt w' e te.size v' (0 + m) ([] ++ ns) := by
        intro v' w'' ho hg hbk hrun
        refine ⟨v', w'', hrun, hg.os, hg.tape, hg.output, hg.size, fun b hb' _ => hg.block b hb' (by simp), fun b hb' => ?_, key v' w'' hg.size ho⟩
        rcases key v' w'' hg.size ho with ⟨h0, _⟩ | ⟨g, cap, cur, h0, rfl, _, _, hh, _⟩
        · omega
        · simp only [hblk] at hb'
          rw [if_neg (by omega)] at hb'
          cases hb'
          simp [Value.ownBlock] at hbk
          exact ⟨.inl (by omega), (Array.getElem?_eq_some_iff.1 hh).1⟩
      cases a with
      | none =>
        obtain ⟨v', w'', hrun, ho, hg, _, hbk⟩ := run_append_own_at (P := P) w 0 t ty e i te.zv te.size te.bytes hT hi hi3 hi1 hi2 TE.zsize hsz (.slice none 0 0) 0 [] (World.ownsRow_nil w 0 e te.size) ad m c ns hl hcells h1 h63 hb (Nat.zero_le _)
        exact fin v' w'' ho (by simpa [Value.ownBlock] using hg) (by simpa [Value.ownBlock] using hbk) hrun
      | some a0 =>
        have hrun := run_append_grow (P := P) w t ty e i te.zv hT hi hi3 a0 0 0 [] (by simp) (fun j v hj => by simp at hj) ad m c ns (by rw [hi1]; exact hl) hcells (by omega) (by simp only [maxLen] at h63; omega) (growslice_fits (by omega) (by rw [hi2]; exact hb))
        have hge := grownCap_ge w (0 + m) 0 e
        have hcm := grownCap_le_maxLen w (0 + m) 0 e h63
        refine fin _ _ ?_ ?_ ?_ hrun
        rotate_left
        · exact ⟨rfl, rfl, rfl, by simp, fun k hk _ => Below.heap_alloc w.drew _ k hk⟩
        · simp [Value.ownBlock]
        refine ⟨by simpa using hl, .inr ⟨w.heap.size, _, _, rfl, Nat.zero_le _, heap_alloc_new w.drew _, hge, hcm, ?_, ?_⟩⟩
        · simp only [Array.size_append, List.size_toArray, size_zeroCells, TE.zsize, List.length_nil, Nat.zero_add, hl, ← Nat.add_mul]
          congr 1
          have hge' := hge
          simp only [Nat.zero_add] at hge'
          omega
        · simp only [Array.toList_append, List.nil_append, Nat.zero_add, ← hl]
          exact List.take_left
    · obtain ⟨v', w'', hrun, ho, hg, _, hbk⟩ := run_append_own_at (P := P) w 0 t ty e i te.zv te.size te.bytes hT hi hi3 hi1 hi2 TE.zsize hsz (.slice (some ⟨b, 0, none⟩) n cap) n xs
        ⟨hxl, .inr ⟨b, cap, cur, rfl, Nat.zero_le _, hh, hnc, hcm, hcs, htk⟩⟩ ad m c ns hl hcells h1 h63 hb (Nat.zero_le _)
      refine ⟨v', w'', hrun, hg.os, hg.tape, hg.output, hg.size, fun b' hb' hne => hg.block b' hb' (fun e => hne ?_), fun b' hb' => ?_, key v' w'' hg.size ho⟩
      · simp only [hblk]
        rw [if_neg (by omega)]
        simpa [Value.ownBlock] using e.symm
      · rcases key v' w'' hg.size ho with ⟨h0, _⟩ | ⟨g, cap', cur', h0', rfl, _, _, hh', _⟩
        · omega
        · simp only [hblk] at hb'
          rw [if_neg (by omega)] at hb'
          cases hb'
          refine ⟨?_, (Array.getElem?_eq_some_iff.1 hh').1⟩
          simp only [Value.ownBlock, Option.some.injEq] at hbk
          rcases hbk with hbk | hbk
          · exact .inr (by simp only [hblk]; rw [if_neg (by omega), hbk])
          · exact .inl (by omega)

theorem sndRow_sound {φ : Nat → Value} {w : World} (hco : Core cx φ σ w) {sz : Nat} {y : V} {q : Value} {news : List (List L)} (h : sndRow σ sz y = some news) (hy : vsim φ w (cx.fr φ σ) y q) :
    (∀ r ∈ news, r.length = sz) ∧ ∃ A c ns, q = .slice A news.length c ∧ csims φ w (cx.fr φ σ) (news.flatten.map C.d) ns ∧ (0 < news.length → ∃ ad, A = some ad ∧ ∀ (j : Nat) (v : Value), ns[j]? = some v → w.cell? (ad.add j) = some v) := by
  unfold sndRow at h
  split at h
  · cases h
    simp only [vsim, usim, csim, rep] at hy
    subst hy
    exact ⟨by simp, none, 0, [], rfl, by simp [csims], by simp⟩
  · cases h
    simp only [vsim, usim, csim, rep] at hy
    obtain ⟨a, rfl⟩ := hy
    exact ⟨by simp, a, 0, [], rfl, by simp [csims], by simp⟩
  · split at h
    · rename_i hz
      cases h
      simp only [vsim, usim, csim, rep] at hy
      obtain ⟨ao, n, c, rfl, rfl, _, _, hr⟩ := hy
      rcases hr with rfl | ⟨b, o, rfl, hF, hl, hr⟩
      · exact ⟨by simp, ao, c, [], rfl, by simp [csims], by simp⟩
      · have hall : ∀ (rs : List (List L)) (o : Nat), repRows w (cx.fr φ σ) sz rs b o → (∀ r ∈ rs, r.length = sz) ∧ ∃ ns, csims φ w (cx.fr φ σ) (rs.flatten.map C.d) ns ∧ ∀ (j : Nat) (v : Value), ns[j]? = some v → w.cell? ⟨b, o + j, none⟩ = some v := by
          intro rs
          induction rs with
          | nil => intro o _; exact ⟨by simp, [], by simp [csims], fun j v hj => by simp at hj⟩
          | cons r rs ih =>
            intro o hrs
            simp only [repRows] at hrs
            obtain ⟨ih1, ns, ih2, ih3⟩ := ih (o + sz) hrs.2
            obtain ⟨us, h1, h2⟩ := mem_of_row (φ := φ) hrs.1.2
            have hul := csims_length h1
            simp only [List.length_map] at hul
            refine ⟨by simpa using ⟨hrs.1.1, ih1⟩, us ++ ns, by rw [List.flatten_cons, List.map_append]; exact csims_append h1 ih2, fun j v hj => ?_⟩
            by_cases hjl : j < us.length
            · rw [List.getElem?_append_left hjl] at hj
              exact (h2 j v hj).1
            · rw [List.getElem?_append_right (by omega)] at hj
              have := ih3 _ v hj
              rwa [show o + sz + (j - us.length) = o + j from by have := hrs.1.1; omega] at this
        subst hz
        obtain ⟨h1, ns, h2, h3⟩ := hall news o hr
        exact ⟨h1, _, c, ns, rfl, h2, fun _ => ⟨_, rfl, fun j v hj => by rw [addr_add]; exact h3 j v hj⟩⟩
    · cases h
  · rename_i s
    split at h
    · rename_i sz' e' rows hs
      split at h
      · rename_i hz
        cases h
        subst hz
        simp only [vsim, usim, csim] at hy
        obtain ⟨h1, ho⟩ := hco.objs s _ hs
        refine ⟨h1, ?_⟩
        obtain ⟨rfl, _⟩ := hy
        rcases ho with ⟨rfl, a, ha⟩ | ⟨b, cap, cur, h0, hp, hl, hm', hh, hs', hc⟩
        · exact ⟨a, 0, [], ha, by simp [csims], by simp⟩
        · refine ⟨_, cap, _, hp, hc, fun _ => ⟨_, rfl, fun j v hj => ?_⟩⟩
          rw [addr_add, Nat.zero_add, cell_of_row w b j cur e' (0, 0) hh]
          rw [List.getElem?_take] at hj
          split at hj
          · simpa using hj
          · cases hj
      · cases h
    · cases h
  · cases h

theorem append_sound (ht : TbOk P tb) {d : Nat} {x y : Operand} {t : TypeId} {ats : Array TypeId} {args : Array Operand} (hop : o.op = .call { callee := .builtin .append, args := args, argTypes := ats }) (hargs : args.toList = [x, y]) (hats : ats.toList = [t, t])
    (hdst : o.dst = some d) (hd : d < cx.n) (hd' : d < inBase) (h : aAppend tb ρ σ d t (oev ρ x) (oev ρ y) K) : Step P cx o ρ σ K := by
  intro φ a w hs next Q hn
  obtain ⟨args⟩ := args
  obtain ⟨ats⟩ := ats
  simp only at hargs hats
  subst hargs hats
  have hx := vsim_oev hs.slots x
  have hy := vsim_oev hs.slots y
  unfold aAppend at h
  split at h
  · rename_i ti hty
    have T := ht.ty t ti hty
    split at h
    · rename_i e hde
      split at h
      · rename_i te hte
        have TE := ht.ty e te hte
        split at h
        · rename_i so rows news hf hsn
          obtain ⟨hsz, hby, hbd, hk⟩ := h
          obtain ⟨hn1, A, c, ns, hq, hns, hA⟩ := sndRow_sound hs.core hsn hy
          have hnl : ns.length = news.length * te.size := by rw [← csims_length hns, List.length_map, flatten_length hn1]
          -- the first operand
          have hfst : (∀ r ∈ rows, r.length = te.size) ∧ (∃ xs, RowAt w e te.size (a.eval x) rows.length xs ∧ csims φ w (cx.fr φ σ) (rows.flatten.map C.d) xs) ∧ (∀ s o, so = some s → σ s = some o → ∃ sz e rows, o = .row sz e rows) ∧
              (∀ b, hblk (a.eval x) = some b → ∃ s o, so = some s ∧ σ s = some o ∧ hblk (φ s) = some b) ∧ (∀ b, (∀ s o, so = some s → σ s = some o → hblk (φ s) ≠ some b) → hblk (a.eval x) ≠ some b) := by
            unfold fstRow at hf
            split at hf
            · cases hf
              rename_i hxv
              rw [hxv] at hx
              simp only [vsim, usim, csim, rep] at hx
              rw [hx]
              refine ⟨by simp, ⟨[], .inl ⟨rfl, rfl, none, rfl⟩, by simp [csims]⟩, ?_, ?_, ?_⟩
              · intro s o h; cases h
              · intro b h; cases h
              · intro b _ h; cases h
            · cases hf
              rename_i hxv
              rw [hxv] at hx
              simp only [vsim, usim, csim, rep] at hx
              obtain ⟨a0, ha0⟩ := hx
              rw [ha0]
              refine ⟨by simp, ⟨[], .inl ⟨rfl, rfl, a0, rfl⟩, by simp [csims]⟩, ?_, ?_, ?_⟩
              · intro s o h; cases h
              · intro b h; rw [hblk_none] at h; cases h
              · intro b _ h; rw [hblk_none] at h; cases h
            · rename_i s hxv
              split at hf
              · rename_i sz' e' rows' hs'
                split at hf
                · rename_i hz
                  cases hf
                  obtain ⟨rfl, rfl⟩ := hz
                  rw [hxv] at hx
                  obtain ⟨hxe, _⟩ := hx
                  rw [hxe]
                  obtain ⟨h1, ho⟩ := hs.core.objs s _ hs'
                  refine ⟨h1, ?_, fun s' o' hso hs2 => ?_, fun b hb => ⟨s, _, rfl, hs', hb⟩, fun b hb => hb s _ rfl hs'⟩
                  · rcases ho with ⟨rfl, a0, ha0⟩ | ⟨b, cap, cur, h0, hp, hl, hm', hh, hs', hc⟩
                    · exact ⟨[], .inl ⟨rfl, rfl, a0, ha0⟩, by simp [csims]⟩
                    · exact ⟨_, .inr ⟨b, cap, cur, h0, hp, hl, hm', hh, hs', rfl⟩, hc⟩
                  · cases hso
                    rw [hs'] at hs2
                    cases hs2
                    exact ⟨_, _, _, rfl⟩
                · cases hf
              · cases hf
            · cases hf
          obtain ⟨hr1, ⟨xs, hrow, hxs⟩, hso, hbo, hbo'⟩ := hfst
          have hxl : xs.length = rows.length * te.size := by rw [← csims_length hxs, List.length_map, flatten_length hr1]
          obtain ⟨v', w', hrun, hos, htp, hout, hsize, hblk', hnew, hrow'⟩ := run_app (P := P) (ty := o.type) (c := c) (T.und.trans (by rw [hde])) TE hsz hby hrow hxl hnl hA (csims_one hns) hbd
          have hfl : ∀ r ∈ rows ++ news, r.length = te.size := fun r hr => by
            rcases List.mem_append.1 hr with hr | hr
            · exact hr1 r hr
            · exact hn1 r hr
          have hone : v'.oneCell' = true := by
            rcases hrow' with ⟨_, _, a0, rfl⟩ | ⟨_, _, _, _, rfl, _⟩ <;> rfl
          have key := hs.core.replace (so := so) (d := d) (hv := v') (ob := .row te.size e (rows ++ news)) (w' := w') hd' hso hos htp hout (sem_drawn _ _ _ _ hrun) hsize
            (fun b hl hne => hblk' b hl (hbo' b hne)) (fun b hb => by
              obtain ⟨h1, h2⟩ := hnew b hb
              exact ⟨h1.imp id (hbo b), h2⟩) (fun _ _ _ h => by cases h)
            (fun hkp => by
              refine ⟨hfl, ?_⟩
              rw [upd_same]
              have hcs : csims (upd φ d v') w' (cx.fr (upd φ d v') (upd (wipeS d (drop so σ)) d (some (.row te.size e (rows ++ news))))) ((rows ++ news).flatten.map C.d) (xs ++ ns) := by
                rw [List.flatten_append, List.map_append]
                exact csims_append (csims_data (csims_keep hkp _ _ hxs)) (csims_data (csims_keep hkp _ _ hns))
              rcases hrow' with ⟨h0, _, a0, hv⟩ | ⟨b, cap, cur, h0, hv, h1, h2, h3, h4, h5⟩
              · exact .inl ⟨List.eq_nil_of_length_eq_zero (by rw [List.length_append]; exact h0), a0, hv⟩
              · exact .inr ⟨b, cap, cur, h0, by rw [List.length_append]; exact hv, by rw [List.length_append]; exact h1, h2, h3, h4, by rw [List.length_append, h5]; exact hcs⟩)
          refine Step.of_run (u := v') (w' := w') ?_ (by rw [hdst]; exact Sim.new hs hd key rfl (by simp only [csim]; exact ⟨(upd_same _ _ _).symm, hone⟩)) hk hn
          unfold execOp
          simp only [hop, resolve, invoke, builtin, Sem.run_bind, Sem.run_pure, Result.andThen_ok, List.map_toArray, List.map_cons, List.map_nil, hq, hrun]
        · exact h.elim
      · exact h.elim
    · exact h.elim
  · exact h.elim
end
end Go.AM
