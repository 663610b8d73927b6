/-
  Look-ups in maps of the call's own; and the theorem on all quiet operations.
-/
import Derived.Test.YtfoadgepblojpaaAmF
namespace Go.AM
open Go.RowKit

theorem Key.val_inj : ∀ {k k' : Key}, k.val = k'.val → k = k'
  | .int _ _, .int _ _, h => by simp only [Key.val, Value.int.injEq] at h; rw [h.1, h.2]
  | .str _, .str _, h => by
    simp only [Key.val, Value.string.injEq, ByteArray.mk.injEq] at h
    have h := congrArg Array.toList h
    simp only at h
    rw [h]
  | .ints l, .ints l', h => by
    simp only [Key.val, Value.agg.injEq] at h
    have h := congrArg Array.toList h
    simp only at h
    rw [List.map_inj_right (fun a b e => by simpa using e)] at h
    rw [h]
  | .int _ _, .str _, h => by simp [Key.val] at h
  | .int _ _, .ints _, h => by simp [Key.val] at h
  | .str _, .int _ _, h => by simp [Key.val] at h
  | .str _, .ints _, h => by simp [Key.val] at h
  | .ints _, .int _ _, h => by simp [Key.val] at h
  | .ints _, .str _, h => by simp [Key.val] at h

section
variable {P : Program} {φ : Nat → Value} {F : Nat → Prop} {w : World} {tb : Tb} {σ : Sto} {cx : Cx}

theorem cints_sound : ∀ {cs : List C} {l : List Int} {vs : List Value}, cints cs = some l → csims φ w F cs vs → vs = l.map (Value.int .i64)
  | [], _, _, h, hc => by cases h; simpa [csims] using hc
  | c :: cs, l, vs, h, hc => by
    unfold cints at h
    split at h
    · rename_i h0; cases h0
    · rename_i n cs' h0
      cases h0
      cases hr : cints cs with
      | none => rw [hr] at h; cases h
      | some l' =>
        rw [hr] at h
        cases h
        simp only [csims, csim, rep] at hc
        obtain ⟨v, r, rfl, rfl, hc⟩ := hc
        rw [cints_sound hr hc]
        rfl
    · cases h

theorem vkey_sound {x : V} {k : Key} {u : Value} (h : vkey x = some k) (hx : vsim φ w F x u) : u = k.val := by
  unfold vkey at h
  split at h
  · cases h; simpa [vsim, usim, csim, rep, Key.val] using hx
  · cases h; simpa [vsim, usim, csim, rep, Key.val] using hx
  · rename_i cs
    cases hr : cints cs with
    | none => rw [hr] at h; cases h
    | some l =>
      rw [hr] at h
      cases h
      obtain ⟨arr, rfl, hc⟩ := hx
      have := cints_sound hr hc
      simp only [Key.val, Value.agg.injEq]
      rw [← this]
  · cases h

theorem esims_mem : ∀ {es : List (Key × U)} {l : List MapEntry}, esims φ w F es l → ∀ e ∈ l, ∃ x ∈ es, e.key = x.1.val
  | [], _, h, e, he => by simp only [esims] at h; subst h; cases he
  | x :: es, l, h, e, he => by
    obtain ⟨e', r, rfl, h1, h2, h3⟩ := h
    rcases List.mem_cons.1 he with rfl | he
    · exact ⟨x, by simp, h1⟩
    · obtain ⟨y, hy, hk⟩ := esims_mem h3 e he
      exact ⟨y, by simp [hy], hk⟩

theorem esims_get : ∀ {es : List (Key × U)} {l : List MapEntry}, esims φ w F es l → ∀ {j : Nat} {e : MapEntry}, l[j]? = some e → ∃ x, es[j]? = some x ∧ e.key = x.1.val ∧ usim φ w F x.2 e.val
  | [], _, h, j, e, he => by simp only [esims] at h; subst h; simp at he
  | x :: es, l, h, j, e, he => by
    obtain ⟨e', r, rfl, h1, h2, h3⟩ := h
    cases j with
    | zero => simp at he; subst he; exact ⟨x, rfl, h1, h2⟩
    | succ j => simp at he; simpa using esims_get h3 he

theorem mget_none : ∀ {es : List (Key × U)} {l : List MapEntry} {k : Key}, esims φ w F es l → (∀ e ∈ l, e.key ≠ k.val) → mget es k = none
  | [], _, _, _, _ => rfl
  | x :: es, l, k, h, hn => by
    obtain ⟨e', r, rfl, h1, h2, h3⟩ := h
    have : x.1 ≠ k := fun e => hn e' (by simp) (by rw [h1, e])
    simp only [mget, if_neg this]
    exact mget_none h3 fun e he => hn e (by simp [he])

theorem mget_some : ∀ {es : List (Key × U)} {j : Nat} {x : Key × U}, (es.map (·.1)).Nodup → es[j]? = some x → mget es x.1 = some x.2
  | [], j, x, _, h => by simp at h
  | y :: es, 0, x, _, h => by simp at h; subst h; simp [mget]
  | y :: es, j + 1, x, hn, h => by
    simp only [List.map_cons, List.nodup_cons] at hn
    simp only [List.getElem?_cons_succ] at h
    have : y.1 ≠ x.1 := fun e => hn.1 (by rw [e]; exact List.mem_map.2 ⟨x, List.mem_of_getElem? h, rfl⟩)
    simp only [mget, if_neg this]
    exact mget_some hn.2 h

/-- What the model's search for a key says of the abstract entries. -/
theorem find_sound (ht : TbOk P tb) {kt : TypeId} {kk : KK} (hk : tb.key kt = some kk) {es : List (Key × U)} {ents : List MapEntry} (hes : esims φ w F es ents) (hfit : ∀ x ∈ es, x.1.fits kk = true) (hnd : (es.map (·.1)).Nodup)
    {key : Key} (hf : key.fits kk = true) :
    (∀ em, (Instr.checkKey em 10000 kt key.val).run P w = .ok () w) ∧
    (((Instr.findKey kt key.val ents).run P w = .ok none w ∧ mget es key = none) ∨
      ∃ j e u, (Instr.findKey kt key.val ents).run P w = .ok (some (j, e.val)) w ∧ ents[j]? = some e ∧ e.key = key.val ∧ es[j]? = some (key, u) ∧ mget es key = some u ∧ usim φ w F u e.val) := by
  obtain ⟨K, hof⟩ := ht.key kt kk hk
  obtain ⟨l, hl⟩ := hof key hf
  refine ⟨fun em => K.check w em hl, ?_⟩
  have hall : ∀ e ∈ ents, ∃ l, keyOf P kt e.key = some l := fun e he => by
    obtain ⟨x, hx, hkx⟩ := esims_mem hes e he
    rw [hkx]
    exact hof x.1 (hfit x hx)
  rcases K.find w hl ents hall with ⟨h1, h2⟩ | ⟨j, e, h1, h2, h3⟩
  · exact .inl ⟨h1, mget_none hes h2⟩
  · obtain ⟨x, hx, hkx, hv⟩ := esims_get hes h2
    have : x.1 = key := Key.val_inj (hkx.symm.trans h3)
    obtain ⟨xk, xu⟩ := x
    subst this
    exact .inr ⟨j, e, xu, h1, h2, h3, hx, mget_some hnd hx, hv⟩

theorem qlookup_sound (ht : TbOk P tb) (hco : Core cx φ σ w) {t : TypeId} {m k v : V} {ok : Bool} {u q : Value} (h : qlookup tb σ t m k ok = some v) (hm : vsim φ w (cx.fr φ σ) m u) (hk : vsim φ w (cx.fr φ σ) k q) :
    Yields P φ (cx.fr φ σ) (Instr.lookup t u q ok) w v := by
  unfold qlookup at h
  split at h
  · rename_i ti s key hty hkey
    have T := ht.ty t ti hty
    have hq := vkey_sound hkey hk
    subst hq
    split at h
    · rename_i kt e kk es hd hs
      split at h
      · rename_i te hte
        have TE := ht.ty e te hte
        split at h
        · rename_i hc
          obtain ⟨b, ents, clk, hp, hh, hes, hb1, hb2, hfit, hnd⟩ := hco.objs s _ hs
          have hu : u = .map (some b) := hm.1.trans hp
          subst hu
          obtain ⟨hchk, hfind⟩ := find_sound ht hc.1 hes hfit hnd hc.2
          have hg : (getObj b).run P w = .ok (.map ents clk) w := by simp [getObj, Sem.run, hh]
          rcases hfind with ⟨h1, h2⟩ | ⟨j, en, x, h1, h2, h3, h4, h5, h6⟩
          · rw [h2] at h
            have hrun : (Instr.lookup t (.map (some b)) key.val ok).run P w = .ok (if ok then .tuple #[te.zv, .bool false] else te.zv) w := by
              unfold Instr.lookup
              simp [T.run_und, hd, hg, hchk, h1, TE.run_zero]
            cases ok with
            | true =>
              cases h
              exact Yields.here hrun ⟨_, rfl, te.zv, [.bool false], rfl, TE.zero _ _ _, .bool false, [], rfl, by simp [usim, csim, rep], rfl⟩
            | false =>
              cases h
              exact Yields.here hrun (TE.zero _ _ _)
          · rw [h5] at h
            have hrun : (Instr.lookup t (.map (some b)) key.val ok).run P w = .ok (if ok then .tuple #[en.val, .bool true] else en.val) w := by
              unfold Instr.lookup
              simp [T.run_und, hd, hg, hchk, h1]
            cases ok with
            | true =>
              cases h
              exact Yields.here hrun ⟨_, rfl, en.val, [.bool true], rfl, h6, .bool true, [], rfl, by simp [usim, csim, rep], rfl⟩
            | false =>
              cases h
              exact Yields.here hrun h6
        · cases h
      · cases h
    · cases h
  · cases h

theorem cdatasC_sound : ∀ {vs : List V} {cs : List C} {us : List Value}, cdatasC vs = some cs → vs.length = us.length → (∀ (j : Nat) (v : V) (u : Value), vs[j]? = some v → us[j]? = some u → vsim φ w F v u) → csims φ w F cs us
  | [], cs, us, h, hl, _ => by
    cases h
    simp only [csims]
    exact List.eq_nil_of_length_eq_zero hl.symm
  | v :: vs, cs, [], _, hl, _ => by simp at hl
  | v :: vs, cs, u :: us, h, hl, hs => by
    unfold cdatasC at h
    split at h
    · rename_i h0; cases h0
    · rename_i c r h0
      cases h0
      cases hr : cdatasC vs with
      | none => rw [hr] at h; cases h
      | some cs' =>
        rw [hr] at h
        cases h
        simp only [csims]
        exact ⟨u, us, rfl, hs 0 _ u rfl rfl, cdatasC_sound hr (by simpa using hl) fun j v u hv hu => hs (j + 1) v u (by simpa using hv) (by simpa using hu)⟩
    · cases h

/-- What a quiet operation's run must be: a value that stands for v, in a world that has only grown; or a call of such a result. -/
def QRes (P : Program) (φ : Nat → Value) (F : Nat → Prop) (w : World) (S : V → Prop) : Result Next → Prop
  | .ok (.value u) w' => Blw w.heap.size w w' ∧ ∃ v, S v ∧ vsim φ w' F v u
  | .ok (.enter f args) w' => Blw w.heap.size w w' ∧ Calls P f args w' fun e w'' => ∃ u v, e = .returned u ∧ Blw w'.heap.size w' w'' ∧ S v ∧ vsim φ w'' F v u
  | _ => False

theorem QRes.of_yields {s : Sem Value} {v : V} (h : Yields P φ F s w v) : QRes P φ F w (· = v) ((do pure (.value (← s)) : Sem Next).run P w) := by
  obtain ⟨u, w', hr, hb, hv⟩ := h
  simp only [Sem.run_bind, hr, Result.andThen_ok, Sem.run_pure]
  exact ⟨hb, v, rfl, hv⟩

/-- The operation, run in whatever state that is as the abstract one says, yields a value of S. -/
def Quiet (P : Program) (cx : Cx) (o : Oper) (ρ : Env) (σ : Sto) (S : V → Prop) : Prop :=
  ∀ (φ : Nat → Value) (a : Act) (w : World), Core cx φ σ w → (∀ x ∈ o.op.operands.toList, vsim φ w (cx.fr φ σ) (oev ρ x) (a.eval x)) → QRes P φ (cx.fr φ σ) w S ((execOp a.eval o).run P w)

theorem Core.new {φ : Nat → Value} {w : World} (h : Core cx φ σ w) : ∀ b, w.heap.size ≤ b → cx.fr φ σ b := fun b hb =>
  ⟨.inr (.inl (Nat.le_trans h.size hb)), fun ⟨s, o, hs, hk⟩ => by have := (h.own s o b hs hk).2; omega⟩

theorem maxLen_big : 2 ^ 24 ≤ maxLen := by simp only [maxLen]; omega

theorem parts_sim {ρ : Env} {a : Act} {parts : Array (Nat × Operand)} (hp : ∀ x ∈ (parts.toList.map (·.2)), vsim φ w F (oev ρ x) (a.eval x)) :
    ∀ (j : Nat) (p : Nat × V) (q : Nat × Value), (parts.toList.map fun p => (p.1, oev ρ p.2))[j]? = some p → (parts.toList.map fun p => (p.1, a.eval p.2))[j]? = some q → p.1 = q.1 ∧ vsim φ w F p.2 q.2 := by
  intro j p q h1 h2
  rw [List.getElem?_map] at h1 h2
  cases hx : parts.toList[j]? with
  | none => rw [hx] at h1; cases h1
  | some x =>
    rw [hx] at h1 h2
    cases h1; cases h2
    exact ⟨rfl, hp x.2 (List.mem_map.2 ⟨x, List.mem_of_getElem? hx, rfl⟩)⟩

theorem qev_sound (ht : TbOk P tb) {o : Oper} {ρ : Env} {v : V} (h : qev tb ρ σ o.op = some v) : Quiet P cx o ρ σ (· = v) := by
  intro φ a w hco hop
  obtain ⟨dst, op, type, pos, after, guard⟩ := o
  simp only at h hop
  cases op with
  | move x =>
    cases h
    exact ⟨Blw.refl _ _, _, rfl, hop x (by simp [Op.operands])⟩
  | assign x =>
    cases h
    exact ⟨Blw.refl _ _, _, rfl, hop x (by simp [Op.operands])⟩
  | pick c x y =>
    simp only [qev] at h
    unfold qpick at h
    have hc := hop c (by simp [Op.operands])
    have hx := hop x (by simp [Op.operands])
    have hy := hop y (by simp [Op.operands])
    split at h
    · rename_i t hct
      cases h
      rw [hct] at hc
      simp only [vsim, usim, csim, rep] at hc
      have := pickV_sound (t := t) hx hy
      simp only [execOp, hc, asBool, Sem.run_bind, Sem.run_pure, Result.andThen_ok]
      exact ⟨Blw.refl _ _, _, rfl, this⟩
    · cases h
  | load t x => exact QRes.of_yields (qload_sound ht hco h (hop x (by simp [Op.operands])))
  | fieldAddr t x k => exact QRes.of_yields (qfield_sound ht h (hop x (by simp [Op.operands])))
  | indexAddr t x i => exact QRes.of_yields (qindex_sound ht hco h (hop x (by simp [Op.operands])) (hop i (by simp [Op.operands])))
  | slice t x lo hi mx =>
    refine QRes.of_yields (qslice_sound ht h (hop x (by simp [Op.operands])) ?_ ?_ ?_)
    · cases lo with
      | none => trivial
      | some l => exact hop l (by simp [Op.operands])
    · cases hi with
      | none => trivial
      | some l => exact hop l (by simp [Op.operands])
    · cases mx with
      | none => trivial
      | some l => exact hop l (by simp [Op.operands])
  | binOp op t x y yt => exact QRes.of_yields (qbin_sound ht h (hop x (by simp [Op.operands])) (hop y (by simp [Op.operands])))
  | unOp op t x => exact QRes.of_yields (qun_sound h (hop x (by simp [Op.operands])))
  | convert src dst' x => exact QRes.of_yields (qconv_sound ht h (hop x (by simp [Op.operands])))
  | build t parts =>
    have h' : qbuild tb t (parts.toList.map fun p => (p.1, oev ρ p.2)) = some v := h
    have hl' : (parts.toList.map fun p => (p.1, oev ρ p.2)).length = (parts.toList.map fun p => (p.1, a.eval p.2)).length := by rw [List.length_map, List.length_map]
    have := qbuild_sound (φ := φ) (w := w) (F := cx.fr φ σ) ht h' (vals := parts.toList.map fun p => (p.1, a.eval p.2)) hl' (parts_sim fun x hx => hop x (by simpa [Op.operands] using hx))
    have e : (parts.toList.map fun p => (p.1, a.eval p.2)).toArray = parts.map fun p => (p.1, a.eval p.2) := by rw [← Array.toList_map, Array.toArray_toList]
    rw [e] at this
    exact QRes.of_yields this
  | buildSlice t n parts =>
    have h' : qbuildSlice tb t n (parts.toList.map fun p => (p.1, oev ρ p.2)) = some v := h
    have hl' : (parts.toList.map fun p => (p.1, oev ρ p.2)).length = (parts.toList.map fun p => (p.1, a.eval p.2)).length := by rw [List.length_map, List.length_map]
    have := qbuildSlice_sound (φ := φ) (w := w) (F := cx.fr φ σ) ht hco.new maxLen_big h' (vals := parts.toList.map fun p => (p.1, a.eval p.2)) hl' (parts_sim fun x hx => hop x (by simpa [Op.operands] using hx))
    have e : (parts.toList.map fun p => (p.1, a.eval p.2)).toArray = parts.map fun p => (p.1, a.eval p.2) := by rw [← Array.toList_map, Array.toArray_toList]
    rw [e] at this
    exact QRes.of_yields this
  | extract x i => exact QRes.of_yields (qextract_sound h (hop x (by simp [Op.operands])))
  | lookup t m k ok => exact QRes.of_yields (qlookup_sound ht hco h (hop m (by simp [Op.operands])) (hop k (by simp [Op.operands])))
  | makeFunc fn first caps =>
    cases fn with
    | func f =>
      simp only [qev] at h
      split at h
      · rename_i hf
        have hf' : first = #[] := by simpa using hf
        subst hf'
        cases hc : cdatasC (caps.toList.map (oev ρ)) with
        | none => rw [hc] at h; cases h
        | some cs =>
          rw [hc] at h
          cases h
          have hcs : csims φ w (cx.fr φ σ) cs (caps.map a.eval).toList := cdatasC_sound hc (by simp) fun j v u hv hu => by
            rw [List.getElem?_map] at hv
            simp only [Array.toList_map, List.getElem?_map] at hu
            cases hx : caps.toList[j]? with
            | none => rw [hx] at hv; cases hv
            | some x =>
              rw [hx] at hv hu
              cases hv; cases hu
              exact hop x (by simpa [Op.operands] using List.mem_of_getElem? hx)
          exact ⟨Blw.refl _ _, _, rfl, caps.map a.eval, by simp, hcs⟩
      · cases h
    | _ => cases h
  | call c =>
    obtain ⟨callee, args, ts⟩ := c
    simp only [qev] at h
    split at h
    · rename_i hargs hts
      obtain ⟨args⟩ := args
      obtain ⟨ts⟩ := ts
      simp only at hargs hts
      subst hargs hts
      have := qlenB_sound (ty := type) ht hco h (hop _ (by simp [Op.operands, Call.operands]))
      obtain ⟨u, w', hr, hb, hv⟩ := this
      simp only [execOp, resolve, invoke, builtin, Sem.run_bind, Sem.run_pure, Result.andThen_ok, List.map_toArray, List.map_cons, List.map_nil, hr]
      exact ⟨hb, _, rfl, hv⟩
    · rename_i hargs
      obtain ⟨args⟩ := args
      simp only at hargs
      subst hargs
      have := qmax_sound h (hop _ (by simp [Op.operands, Call.operands])) (hop _ (by simp [Op.operands, Call.operands])) ts type (P := P)
      obtain ⟨u, w', hr, hb, hv⟩ := this
      simp only [execOp, resolve, invoke, builtin, Sem.run_bind, Sem.run_pure, Result.andThen_ok, List.map_toArray, List.map_cons, List.map_nil, hr]
      exact ⟨hb, _, rfl, hv⟩
    · rename_i hargs
      obtain ⟨args⟩ := args
      simp only at hargs
      subst hargs
      have := qmin_sound h (hop _ (by simp [Op.operands, Call.operands])) (hop _ (by simp [Op.operands, Call.operands])) ts type (P := P)
      obtain ⟨u, w', hr, hb, hv⟩ := this
      simp only [execOp, resolve, invoke, builtin, Sem.run_bind, Sem.run_pure, Result.andThen_ok, List.map_toArray, List.map_cons, List.map_nil, hr]
      exact ⟨hb, _, rfl, hv⟩
    · cases h
  | _ => cases h
end
end Go.AM
