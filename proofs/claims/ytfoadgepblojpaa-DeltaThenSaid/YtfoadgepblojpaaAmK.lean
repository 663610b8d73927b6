/-
  The operations with an effect, the rest: maps, ranging over a map; and all of them together.
-/
import Derived.Test.YtfoadgepblojpaaAmJ
import Derived.Deep.Draws
namespace Go.AM
open Go.RowKit

theorem set_same {α : Type} : ∀ {l : List α} {i : Nat} {x : α}, l[i]? = some x → l.set i x = l
  | [], i, _, h => by simp at h
  | y :: l, 0, x, h => by simp at h; subst h; rfl
  | y :: l, i + 1, x, h => by simp at h; rw [List.set_cons_succ, set_same (by simpa using h)]

theorem mset_found : ∀ {es : List (Key × U)} {j : Nat} {k : Key} {x u : U}, (es.map (·.1)).Nodup → es[j]? = some (k, x) → mset es k u = es.set j (k, u)
  | [], j, _, _, _, _, h => by simp at h
  | y :: es, 0, k, x, u, _, h => by simp at h; subst h; simp [mset]
  | y :: es, j + 1, k, x, u, hn, h => by
    simp only [List.map_cons, List.nodup_cons] at hn
    simp only [List.getElem?_cons_succ] at h
    have : y.1 ≠ k := fun e => hn.1 (by rw [e]; exact List.mem_map.2 ⟨(k, x), List.mem_of_getElem? h, rfl⟩)
    simp only [mset, if_neg this, List.set_cons_succ]
    rw [mset_found hn.2 h]
theorem mget_none_ne : ∀ {es : List (Key × U)} {k : Key}, mget es k = none → ∀ x ∈ es, x.1 ≠ k
  | [], _, _, x, hx => by cases hx
  | y :: es, k, h, x, hx => by
    simp only [mget] at h
    split at h
    · cases h
    · rename_i hne
      rcases List.mem_cons.1 hx with rfl | hx
      · exact hne
      · exact mget_none_ne h x hx
theorem mset_new : ∀ {es : List (Key × U)} {k : Key} {u : U}, mget es k = none → mset es k u = es ++ [(k, u)]
  | [], _, _, _ => rfl
  | y :: es, k, u, h => by
    simp only [mget] at h
    split at h
    · cases h
    · rename_i hne
      simp only [mset, if_neg hne, List.cons_append]
      rw [mset_new h]
theorem mdel_found : ∀ {es : List (Key × U)} {j : Nat} {k : Key} {x : U}, (es.map (·.1)).Nodup → es[j]? = some (k, x) → mdel es k = es.eraseIdx j
  | [], j, _, _, _, h => by simp at h
  | y :: es, 0, k, x, _, h => by simp at h; subst h; simp [mdel]
  | y :: es, j + 1, k, x, hn, h => by
    simp only [List.map_cons, List.nodup_cons] at hn
    simp only [List.getElem?_cons_succ] at h
    have : y.1 ≠ k := fun e => hn.1 (by rw [e]; exact List.mem_map.2 ⟨(k, x), List.mem_of_getElem? h, rfl⟩)
    simp only [mdel, if_neg this, List.eraseIdx_cons_succ]
    rw [mdel_found hn.2 h]
theorem mdel_none : ∀ {es : List (Key × U)} {k : Key}, mget es k = none → mdel es k = es
  | [], _, _ => rfl
  | y :: es, k, h => by
    simp only [mget] at h
    split at h
    · cases h
    · rename_i hne
      simp only [mdel, if_neg hne]
      rw [mdel_none h]

section
variable {P : Program} {tb : Tb} {cx : Cx} {ρ : Env} {σ : Sto} {o : Oper} {K : Env → Sto → Prop} {φ : Nat → Value} {w : World} {F : Nat → Prop}

theorem esims_set : ∀ {es : List (Key × U)} {l : List MapEntry} {j : Nat} {k : Key} {u : U} {e : MapEntry}, esims φ w F es l → e.key = k.val → usim φ w F u e.val → esims φ w F (es.set j (k, u)) (l.set j e)
  | [], _, j, _, _, _, h, _, _ => by simp only [esims] at h; subst h; simp [esims]
  | x :: es, l, j, k, u, e, h, hk, hu => by
    obtain ⟨e', r, rfl, h1, h2, h3⟩ := h
    cases j with
    | zero => exact ⟨e, r, rfl, hk, hu, h3⟩
    | succ j => exact ⟨e', _, rfl, h1, h2, esims_set h3 hk hu⟩
theorem esims_append : ∀ {es fs : List (Key × U)} {l m : List MapEntry}, esims φ w F es l → esims φ w F fs m → esims φ w F (es ++ fs) (l ++ m)
  | [], _, _, _, h, h' => by simp only [esims] at h; subst h; exact h'
  | x :: es, fs, l, m, h, h' => by
    obtain ⟨e, r, rfl, h1, h2, h3⟩ := h
    exact ⟨e, r ++ m, rfl, h1, h2, esims_append h3 h'⟩
theorem esims_eraseIdx : ∀ {es : List (Key × U)} {l : List MapEntry} {j : Nat}, esims φ w F es l → esims φ w F (es.eraseIdx j) (l.eraseIdx j)
  | [], _, j, h => by simp only [esims] at h; subst h; simp [esims]
  | x :: es, l, j, h => by
    obtain ⟨e, r, rfl, h1, h2, h3⟩ := h
    cases j with
    | zero => exact h3
    | succ j => exact ⟨e, _, rfl, h1, h2, esims_eraseIdx h3⟩

def setObjW (w : World) (b : Nat) (o : Obj) : World := { w with heap := w.heap.setIfInBounds b o }
theorem setObjW_other (w : World) (b b' : Nat) (o : Obj) (h : b ≠ b') : (setObjW w b o).heap[b']? = w.heap[b']? := by
  simp [setObjW, Array.getElem?_setIfInBounds_ne h]
theorem setObjW_same (w : World) (b : Nat) (o : Obj) (h : b < w.heap.size) : (setObjW w b o).heap[b]? = some o := by simp [setObjW, h]
theorem run_getMap {b : Nat} {ents : Array MapEntry} {clk : Nat} (hh : w.heap[b]? = some (.map ents clk)) : (getObj b).run P w = .ok (.map ents clk) w := by simp [getObj, Sem.run, hh]
theorem run_setMap {b : Nat} {ents : Array MapEntry} {clk : Nat} (hh : w.heap[b]? = some (.map ents clk)) (o : Obj) : (setObj b o).run P w = .ok () (setObjW w b o) := by simp [setObj, Sem.run, hh, setObjW]

theorem dropIt_sub {s t : Nat} {o : Ob} (h : dropIt s σ t = some o) : σ t = some o := by
  unfold dropIt at h
  split at h
  · rename_i m l la hs
    split at h
    · cases h
    · rw [hs]; exact h
  · exact h
theorem dropIt_iter {s t m : Nat} {l : List (Key × U)} {la : Option (Key × U)} (h : dropIt s σ t = some (.iter m l la)) : m ≠ s := by
  unfold dropIt at h
  split at h
  · rename_i m' l' la' hs
    split at h
    · cases h
    · rename_i hne
      cases h
      exact hne
  · rename_i hne
    exact absurd h (hne m l la)
theorem dropIt_map {s m : Nat} {kk : KK} {es : List (Key × U)} (h : σ m = some (.map kk es)) : dropIt s σ m = some (.map kk es) := by
  unfold dropIt
  rw [h]

/-- A map's block is written. -/
theorem mapWrite (hco : Core cx φ σ w) {s : Nat} {kk : KK} {es es' : List (Key × U)} (hs : σ s = some (.map kk es)) {b : Nat} {ents : Array MapEntry} {clk clk' : Nat} {ents' : Array MapEntry} (hp : φ s = .map (some b)) (hh : w.heap[b]? = some (.map ents clk))
    (hes : ∀ F' w', Keep (cx.fr φ σ) F' w w' → esims φ w' F' es' ents'.toList)
    (h1 : (ents'.toList.map (·.born)).Nodup) (h2 : ∀ e ∈ ents'.toList, e.born < clk') (h3 : ∀ x ∈ es', x.1.fits kk = true) (h4 : (es'.map (·.1)).Nodup) :
    Core cx φ (upd (dropIt s σ) s (some (.map kk es'))) (setObjW w b (.map ents' clk')) ∧ Keep (cx.fr φ σ) (cx.fr φ (upd (dropIt s σ) s (some (.map kk es')))) w (setObjW w b (.map ents' clk')) := by
  have hl : b < w.heap.size := (Array.getElem?_eq_some_iff.1 hh).1
  refine hco.mutate (ob' := .map kk es') hs (fun t o _ h => dropIt_sub h) (fun t m l la _ h => dropIt_iter h) (fun m kk es h _ => dropIt_map h) (fun _ _ _ h => by cases h) rfl rfl rfl (Nat.le_refl _) (by simp [setObjW])
    (fun b' _ hne => setObjW_other w b b' _ (fun e => hne (by rw [hp, e]; rfl))) (fun hk => ?_)
  exact ⟨b, ents', clk', hp, setObjW_same w b _ hl, hes _ _ hk, h1, h2, h3, h4⟩

theorem Sim.written {φ : Nat → Value} {a : Act} {w w' : World} {σ' : Sto} (hs : Sim cx φ ρ σ a w) (h : Core cx φ σ' w' ∧ Keep (cx.fr φ σ) (cx.fr φ σ') w w') : Sim cx φ ρ σ' a w' :=
  ⟨h.1, fun t => vsim_keep h.2 _ _ (hs.slots t), hs.defers, hs.room⟩

theorem mapset_sound (ht : TbOk P tb) {t : TypeId} {m k x : Operand} (hop : o.op = .mapUpdate t m k x) (hdst : o.dst = none) (h : aMapSet tb ρ σ t (oev ρ m) (oev ρ k) (oev ρ x) K) : Step P cx o ρ σ K := by
  intro φ a w hs next Q hn
  have hm := vsim_oev hs.slots m
  have hk := vsim_oev hs.slots k
  have hx := vsim_oev hs.slots x
  unfold aMapSet at h
  split at h
  · rename_i ti s key u hty hmv hkv hxv
    have T := ht.ty t ti hty
    split at h
    · rename_i kt e kk es hd hs'
      obtain ⟨hkt, hfit, hK⟩ := h
      obtain ⟨b, ents, clk, hp, hh, hes, hb1, hb2, hfits, hnd⟩ := hs.core.objs s _ hs'
      rw [hmv] at hm
      have hme : a.eval m = .map (some b) := hm.1.trans hp
      have hke := vkey_sound hkv hk
      have hxu : usim φ w (cx.fr φ σ) u (a.eval x) := by
        unfold vu at hxv
        split at hxv
        · cases hxv
          rename_i hxe
          rw [hxe] at hx
          exact hx
        · cases hxv
      obtain ⟨hchk, hfind⟩ := find_sound (P := P) (w := w) ht hkt hes hfits hnd hfit
      obtain ⟨K', hof⟩ := ht.key kt kk hkt
      obtain ⟨lk, hlk⟩ := hof key hfit
      rcases hfind with ⟨h1, h2⟩ | ⟨j, en, x', h1, h2, h3, h4, h5, h6⟩
      · have hw := mapWrite hs.core hs' hp hh (es' := mset es key u) (ents' := ents.push { key := key.val, val := a.eval x, born := clk }) (clk' := clk + 1)
          (fun F' w' hkp => by
            rw [mset_new h2, Array.toList_push]
            exact esims_append (esims_keep hkp hes) ⟨_, [], rfl, rfl, usim_keep hkp _ _ hxu, rfl⟩)
          (by
            rw [Array.toList_push, List.map_append, List.nodup_append]
            refine ⟨hb1, by simp, fun p hp q hq => ?_⟩
            obtain ⟨e, he, rfl⟩ := List.mem_map.1 hp
            have := hb2 e he
            simp only [List.map_cons, List.map_nil, List.mem_cons, List.not_mem_nil, or_false] at hq
            omega)
          (fun e he => by
            rw [Array.toList_push] at he
            rcases List.mem_append.1 he with he | he
            · have := hb2 e he; omega
            · simp only [List.mem_cons, List.not_mem_nil, or_false] at he
              subst he
              show clk < clk + 1
              omega)
          (fun y hy => by
            rw [mset_new h2] at hy
            rcases List.mem_append.1 hy with hy | hy
            · exact hfits y hy
            · simp only [List.mem_cons, List.not_mem_nil, or_false] at hy
              subst hy
              exact hfit)
          (by
            rw [mset_new h2, List.map_append, List.nodup_append]
            refine ⟨hnd, by simp, fun p hp q hq => ?_⟩
            obtain ⟨e, he, rfl⟩ := List.mem_map.1 hp
            simp only [List.map_cons, List.map_nil, List.mem_cons, List.not_mem_nil, or_false] at hq
            subst hq
            exact mget_none_ne h2 e he)
        have hrun : (execOp a.eval o).run P w = .ok .skip (setObjW w b (.map (ents.push { key := key.val, val := a.eval x, born := clk }) (clk + 1))) := by
          simp only [execOp, hop, hme, hke, Instr.mapUpdate, Sem.run_bind, T.run_und, Result.andThen_ok, hd, run_getMap hh, hchk, h1, run_setMap hh, Sem.run_pure]
        unfold Oper.wp
        rw [hrun]
        refine hn φ ρ _ _ _ ?_ hK
        rw [hdst]
        exact hs.written hw
      · have hej : ents[j]? = some en := by simpa using h2
        have hlt : j < ents.size := (Array.getElem?_eq_some_iff.1 hej).1
        have hmod : (ents.modify j fun e => { e with key := key.val, val := a.eval x }).toList = ents.toList.set j { key := key.val, val := a.eval x, born := en.born } := by
          apply List.ext_getElem?
          intro i
          rw [List.getElem?_set]
          have : (ents.modify j fun e => { e with key := key.val, val := a.eval x }).toList[i]? = (ents.modify j fun e => { e with key := key.val, val := a.eval x })[i]? := by rw [Array.getElem?_toList]
          rw [this, Array.getElem?_modify]
          by_cases hij : j = i
          · subst hij
            rw [if_pos rfl, if_pos rfl, hej, Option.map_some, if_pos (by simpa using hlt)]
          · simp [hij]
        have hborn : (ents.toList.set j { key := key.val, val := a.eval x, born := en.born }).map (·.born) = ents.toList.map (·.born) := by
          rw [List.map_set]
          exact set_same (by rw [List.getElem?_map, h2]; rfl)
        have hw := mapWrite hs.core hs' hp hh (es' := mset es key u) (ents' := ents.modify j fun e => { e with key := key.val, val := a.eval x }) (clk' := clk)
          (fun F' w' hkp => by
            rw [mset_found hnd h4, hmod]
            exact esims_set (esims_keep hkp hes) rfl (usim_keep hkp _ _ hxu))
          (by rw [hmod, hborn]; exact hb1)
          (fun e he => by
            rw [hmod] at he
            rcases List.mem_or_eq_of_mem_set he with he | rfl
            · exact hb2 e he
            · exact hb2 en (List.mem_of_getElem? h2))
          (fun y hy => by
            rw [mset_found hnd h4] at hy
            rcases List.mem_or_eq_of_mem_set hy with hy | rfl
            · exact hfits y hy
            · exact hfit)
          (by
            rw [mset_found hnd h4, List.map_set, set_same (by rw [List.getElem?_map, h4]; rfl)]
            exact hnd)
        have hstay := K'.stays w hlk
        have hrun : (execOp a.eval o).run P w = .ok .skip (setObjW w b (.map (ents.modify j fun e => { e with key := key.val, val := a.eval x }) clk)) := by
          simp only [execOp, hop, hme, hke, Instr.mapUpdate, Sem.run_bind, T.run_und, Result.andThen_ok, hd, run_getMap hh, hchk, h1, hej, Option.map_some, Option.getD_some, h3, hstay, run_setMap hh, Sem.run_pure]
        unfold Oper.wp
        rw [hrun]
        refine hn φ ρ _ _ _ ?_ hK
        rw [hdst]
        exact hs.written hw
    · exact h.elim
  · exact h.elim

theorem delete_sound (ht : TbOk P tb) {t t' : TypeId} {m k : Operand} {args : Array Operand} {ats : Array TypeId} (hop : o.op = .call { callee := .builtin .delete, args := args, argTypes := ats }) (hargs : args.toList = [m, k]) (hats : ats.toList = [t, t'])
    (hd' : ∀ x, o.dst = some x → x < cx.n) (h : aDelete tb ρ σ o.dst t (oev ρ m) (oev ρ k) K) : Step P cx o ρ σ K := by
  intro φ a w hs next Q hn
  obtain ⟨args⟩ := args
  obtain ⟨ats⟩ := ats
  simp only at hargs hats
  subst hargs hats
  have hm := vsim_oev hs.slots m
  have hk := vsim_oev hs.slots k
  unfold aDelete at h
  split at h
  · rename_i ti s key hty hmv hkv
    have T := ht.ty t ti hty
    split at h
    · rename_i kt e kk es hd hs'
      obtain ⟨hkt, hfit, hK⟩ := h
      obtain ⟨b, ents, clk, hp, hh, hes, hb1, hb2, hfits, hnd⟩ := hs.core.objs s _ hs'
      rw [hmv] at hm
      have hme : a.eval m = .map (some b) := hm.1.trans hp
      have hke := vkey_sound hkv hk
      obtain ⟨hchk, hfind⟩ := find_sound (P := P) (w := w) ht hkt hes hfits hnd hfit
      rcases hfind with ⟨h1, h2⟩ | ⟨j, en, x', h1, h2, h3, h4, h5, h6⟩
      · have hw := mapWrite hs.core hs' hp hh (es' := mdel es key) (ents' := ents) (clk' := clk) (fun F' w' hkp => by rw [mdel_none h2]; exact esims_keep hkp hes) hb1 hb2 (by rw [mdel_none h2]; exact hfits) (by rw [mdel_none h2]; exact hnd)
        refine Step.of_run (u := .tuple #[]) (w' := setObjW w b (.map ents clk)) ?_ ((hs.written hw).put hd' (v := .tup []) ⟨#[], rfl, rfl⟩) hK hn
        unfold execOp
        simp only [hop, resolve, invoke, builtin, Builtin.delete_, Sem.run_bind, Sem.run_pure, Result.andThen_ok, List.map_toArray, List.map_cons, List.map_nil, List.getElem?_toArray, List.getElem?_cons_zero, List.getElem?_cons_succ, hme, hke, T.run_und, hd, run_getMap hh, hchk, h1, run_setMap hh]
      · have hej : ents[j]? = some en := by simpa using h2
        have hlt : j < ents.size := (Array.getElem?_eq_some_iff.1 hej).1
        have hel : (ents.eraseIdxIfInBounds j).toList = ents.toList.eraseIdx j := by
          unfold Array.eraseIdxIfInBounds
          rw [dif_pos hlt]
          simp
        have hw := mapWrite hs.core hs' hp hh (es' := mdel es key) (ents' := ents.eraseIdxIfInBounds j) (clk' := clk) (fun F' w' hkp => by rw [mdel_found hnd h4, hel]; exact esims_eraseIdx (esims_keep hkp hes))
          (by rw [hel]; exact hb1.sublist ((List.eraseIdx_sublist _ _).map _)) (fun e he => by rw [hel] at he; exact hb2 e (List.mem_of_mem_eraseIdx he))
          (fun y hy => by rw [mdel_found hnd h4] at hy; exact hfits y (List.mem_of_mem_eraseIdx hy)) (by rw [mdel_found hnd h4]; exact hnd.sublist ((List.eraseIdx_sublist _ _).map _))
        refine Step.of_run (u := .tuple #[]) (w' := setObjW w b (.map (ents.eraseIdxIfInBounds j) clk)) ?_ ((hs.written hw).put hd' (v := .tup []) ⟨#[], rfl, rfl⟩) hK hn
        unfold execOp
        simp only [hop, resolve, invoke, builtin, Builtin.delete_, Sem.run_bind, Sem.run_pure, Result.andThen_ok, List.map_toArray, List.map_cons, List.map_nil, List.getElem?_toArray, List.getElem?_cons_zero, List.getElem?_cons_succ, hme, hke, T.run_und, hd, run_getMap hh, hchk, h1, run_setMap hh]
    · exact h.elim
  · exact h.elim

theorem makeMap_sound (ht : TbOk P tb) {d : Nat} {t : TypeId} {r : Option Operand} (hop : o.op = .makeMap t r) (hdst : o.dst = some d) (hd : d < cx.n) (hd' : d < inBase) (h : aMakeMap tb ρ σ d t (r.map (oev ρ)) K) : Step P cx o ρ σ K := by
  intro φ a w hs next Q hn
  unfold aMakeMap at h
  split at h
  · rename_i ti hty
    have T := ht.ty t ti hty
    split at h
    · rename_i kt e hde
      split at h
      · rename_i kk hkk
        obtain ⟨hr, hK⟩ := h
        have hb : Blw w.heap.size w (w.alloc (.map #[] 0)) := (Blw.refl _ _).alloc (Nat.le_refl _) _
        have key := hs.core.replace (so := none) (d := d) (hv := .map (some w.heap.size)) (ob := .map kk []) (w' := w.alloc (.map #[] 0)) hd' (fun _ _ h => by cases h) hb.os hb.tape hb.output hb.drawn hb.size
          (fun b hl _ => hb.block b hl) (fun b hbk => by simp only [hblk, Option.some.injEq] at hbk; subst hbk; exact ⟨.inl (Nat.le_refl _), by simp⟩) (fun _ _ _ h => by cases h)
          (fun _ => ⟨w.heap.size, #[], 0, upd_same _ _ _, heap_alloc_new w _, rfl, by simp, by simp, by simp, by simp⟩)
        rw [drop_none] at key
        refine Step.of_run (u := .map (some w.heap.size)) (w' := w.alloc (.map #[] 0)) ?_ (by rw [hdst]; exact Sim.new hs hd key rfl (by simp only [csim]; exact ⟨(upd_same _ _ _).symm, rfl⟩)) hK hn
        have hnew : (newObj (.map #[] 0)).run P w = .ok w.heap.size (w.alloc (.map #[] 0)) := rfl
        cases r with
        | none => simp only [execOp, hop, Instr.makeMap, Option.map_none, Sem.run_bind, Sem.run_pure, Result.andThen_ok, hnew]
        | some x =>
          have hx := vsim_oev hs.slots x
          simp only [Option.map_some] at hr
          unfold qint at hr
          split at hr
          · rename_i q n hxe
            rw [hxe] at hx
            simp only [vsim, usim, csim, rep] at hx
            simp only [execOp, hop, Instr.makeMap, Option.map_some, Sem.run_bind, Sem.run_pure, Result.andThen_ok, T.run_und, hde, hx, asInt, asIntOf, hnew]
          · cases hr
      · exact h.elim
    · exact h.elim
  · exact h.elim

theorem range_sound (ht : TbOk P tb) {d : Nat} {t : TypeId} {x : Operand} (hop : o.op = .range t x) (hdst : o.dst = some d) (hd : d < cx.n) (hd' : d < inBase) (h : aRange tb ρ σ d t (oev ρ x) K) : Step P cx o ρ σ K := by
  intro φ a w hs next Q hn
  have hx := vsim_oev hs.slots x
  unfold aRange at h
  split at h
  · rename_i ti s hty hxv
    have T := ht.ty t ti hty
    split at h
    · rename_i kt e kk es hde hs'
      obtain ⟨hsd, hK⟩ := h
      obtain ⟨c, ents, clk, hp, hh, hes, hb1, hb2, hfits, hnd⟩ := hs.core.objs s _ hs'
      rw [hxv] at hx
      have hxe : a.eval x = .map (some c) := hx.1.trans hp
      have hb : Blw w.heap.size w (w.alloc (.mapIter (some c) clk #[] clk)) := (Blw.refl _ _).alloc (Nat.le_refl _) _
      have hcl : c < w.heap.size := (Array.getElem?_eq_some_iff.1 hh).1
      have key := hs.core.replace (so := none) (d := d) (hv := .pointer (some ⟨w.heap.size, 0, none⟩)) (ob := .iter s (es.map fun x => (x.1, x.2.wipe d)) none) (w' := w.alloc (.mapIter (some c) clk #[] clk)) hd' (fun _ _ h => by cases h) hb.os hb.tape hb.output hb.drawn hb.size
        (fun b hl _ => hb.block b hl) (fun b hbk => by simp only [hblk, Option.some.injEq] at hbk; subst hbk; exact ⟨.inl (Nat.le_refl _), by simp⟩) (fun m l la h => by cases h; exact ⟨hsd, by simp, kk, es, hs'⟩)
        (fun hkp => ⟨w.heap.size, c, ents, clk, #[], upd_same _ _ _, (upd_other _ _ hsd).trans hp, heap_alloc_new w _, (Below.heap_alloc w _ c hcl).trans hh, by
          have : (ents.toList.filter fun e => !(#[] : Array Nat).contains e.born) = ents.toList := by simp
          rw [this]
          exact esims_wipe (fun t ht => upd_other _ _ ht) (esims_keep hkp hes), hb1, hb2, fun _ h => by cases h⟩)
      rw [drop_none] at key
      refine Step.of_run (u := .pointer (some ⟨w.heap.size, 0, none⟩)) (w' := w.alloc (.mapIter (some c) clk #[] clk)) ?_ (by rw [hdst]; exact Sim.new hs hd key rfl (by simp only [csim]; exact ⟨(upd_same _ _ _).symm, rfl⟩)) hK hn
      have hnew : ∀ ob, (newObj ob).run P w = .ok w.heap.size (w.alloc ob) := fun _ => rfl
      simp only [execOp, hop, Instr.range, Sem.run_bind, Sem.run_pure, Result.andThen_ok, T.run_und, hde, hxe, run_getMap hh, hnew]
    · exact h.elim
  · exact h.elim

theorem filter_born : ∀ {l : List MapEntry} {k : Nat} {e : MapEntry}, (l.map (·.born)).Nodup → l[k]? = some e → (l.filter fun x => !(x.born == e.born)) = l.eraseIdx k
  | [], k, _, _, h => by simp at h
  | y :: l, 0, e, hn, h => by
    simp at h
    subst h
    simp only [List.map_cons, List.nodup_cons] at hn
    simp only [List.filter_cons, beq_self_eq_true, Bool.not_true, Bool.false_eq_true, if_false, List.eraseIdx_cons_zero]
    rw [List.filter_eq_self]
    intro x hx
    have : x.born ≠ y.born := fun he => hn.1 (by rw [← he]; exact List.mem_map.2 ⟨x, hx, rfl⟩)
    simpa using this
  | y :: l, k + 1, e, hn, h => by
    simp only [List.map_cons, List.nodup_cons] at hn
    simp only [List.getElem?_cons_succ] at h
    have : y.born ≠ e.born := fun he => hn.1 (by rw [he]; exact List.mem_map.2 ⟨e, List.mem_of_getElem? h, rfl⟩)
    simp only [List.filter_cons, List.eraseIdx_cons_succ]
    rw [if_pos (by simpa using this), filter_born hn.2 h]

theorem find_born : ∀ {l : List MapEntry} {e : MapEntry}, (l.map (·.born)).Nodup → e ∈ l → l.find? (·.born == e.born) = some e
  | [], _, _, h => by cases h
  | y :: l, e, hn, h => by
    simp only [List.map_cons, List.nodup_cons] at hn
    rcases List.mem_cons.1 h with rfl | h
    · simp
    · have : y.born ≠ e.born := fun he => hn.1 (by rw [he]; exact List.mem_map.2 ⟨e, h, rfl⟩)
      rw [List.find?_cons_of_neg (by simpa using this)]
      exact find_born hn.2 h

theorem esims_get' : ∀ {es : List (Key × U)} {l : List MapEntry}, esims φ w F es l → ∀ {j : Nat} {e : MapEntry}, l[j]? = some e → ∃ x, es[j]? = some x ∧ e.key = x.1.val ∧ usim φ w F x.2 e.val := fun h => esims_get h

theorem usim_key (k : Key) : usim φ w F k.u k.val := by
  cases k with
  | int k n => simp [Key.u, Key.val, usim, csim, rep]
  | str s => simp [Key.u, Key.val, usim, csim, rep]
  | ints l =>
    refine ⟨_, rfl, ?_⟩
    have : ∀ l : List Int, csims φ w F (l.map fun n => C.d (.int .i64 n)) (l.map (Value.int .i64)) := by
      intro l
      induction l with
      | nil => simp [csims]
      | cons n l ih => simp only [List.map_cons, csims]; exact ⟨_, _, rfl, by simp [csim, rep], ih⟩
    simpa using this l

theorem entry_sound {d : Nat} {x : Operand} (hop : o.op = .entry x) (hdst : o.dst = some d) (hd : d < cx.n) (h : aEntry ρ σ d (oev ρ x) K) : Step P cx o ρ σ K := by
  intro φ a w hs next Q hn
  have hx := vsim_oev hs.slots x
  unfold aEntry at h
  split at h
  · rename_i s hxv
    split at h
    · rename_i m left y hs'
      obtain ⟨b, c, ents, clk, seen, hp, hq, hh, hh', hc, h1, h2, h3⟩ := hs.core.objs s _ hs'
      obtain ⟨e, a1, a2, a3, a4⟩ := h3 y rfl
      rw [hxv] at hx
      have hxe : a.eval x = .pointer (some ⟨b, 0, none⟩) := hx.1.trans hp
      have hgi : (getObj b).run P w = .ok (.mapIter (some c) clk seen clk) w := by simp [getObj, Sem.run, hh]
      refine Step.of_run (u := .tuple #[e.key, e.val]) (w' := w) ?_ (hs.put (d := o.dst) (v := .tup [y.1.u, y.2]) (fun z hz => by rw [hdst] at hz; cases hz; exact hd)
        ⟨_, rfl, e.key, [e.val], rfl, by rw [a3]; exact usim_key _, e.val, [], rfl, a4, rfl⟩) (by rw [hdst]; exact h) hn
      simp [execOp, hop, Instr.entry, hxe, hgi, a1, run_getMap hh', a2]
    · exact h.elim
  · exact h.elim

theorem next_sound {d : Nat} {x : Operand} (hop : o.op = .next x false) (hdst : o.dst = some d) (hd : d < cx.n) (h : aNext ρ σ d (oev ρ x) K) : Step P cx o ρ σ K := by
  intro φ a w hs next Q hn
  have hx := vsim_oev hs.slots x
  unfold aNext at h
  split at h
  · rename_i s hxv
    split at h
    · rename_i m left la hs'
      obtain ⟨hK1, hK2⟩ := h
      obtain ⟨b, c, ents, clk, seen, hp, hq, hh, hh', hc, h1, h2, h3⟩ := hs.core.objs s _ hs'
      rw [hxv] at hx
      have hxe : a.eval x = .pointer (some ⟨b, 0, none⟩) := hx.1.trans hp
      have hgi : (getObj b).run P w = .ok (.mapIter (some c) clk seen clk) w := by simp [getObj, Sem.run, hh]
      have hcond : (!seen.isEmpty && !ents.isEmpty && ents.all (·.born ≥ clk)) = false := by
        cases hE : ents.isEmpty with
        | true => simp
        | false =>
          simp only [Bool.not_false, Bool.and_true, Bool.and_eq_false_iff]
          right
          rw [Bool.eq_false_iff]
          intro hall
          have hne : ents.toList ≠ [] := fun e => by
            have : ents = #[] := by simpa using e
            rw [this] at hE
            simp at hE
          obtain ⟨e, he⟩ := List.exists_mem_of_ne_nil _ hne
          have := h2 e he
          have hge := Array.all_eq_true_iff_forall_mem.1 hall e (by simpa using he)
          simp only [ge_iff_le, decide_eq_true_eq] at hge
          omega
      have hbl : ∀ e ∈ (ents.filter fun e => !seen.contains e.born).toList, e.born < clk := fun e he => h2 e (by
        simp only [Array.toList_filter] at he
        exact (List.mem_filter.1 he).1)
      have hold : ((ents.filter fun e => !seen.contains e.born).filter (·.born < clk)) = (ents.filter fun e => !seen.contains e.born) := by
        apply Array.ext'
        rw [Array.toList_filter, List.filter_eq_self]
        intro e he
        simpa using hbl e he
      have hnew : ((ents.filter fun e => !seen.contains e.born).filter (·.born ≥ clk)) = #[] := by
        apply Array.ext'
        rw [Array.toList_filter, List.filter_eq_nil_iff]
        intro e he
        have := hbl e he
        simp only [ge_iff_le, decide_eq_true_eq]
        omega
      have hfl : (ents.filter fun e => !seen.contains e.born).toList = ents.toList.filter fun e => !seen.contains e.born := Array.toList_filter
      rw [← hfl] at hc
      generalize hL : (ents.filter fun e => !seen.contains e.born) = L at *
      have hll := esims_length hc
      simp only [Array.length_toList] at hll
      by_cases hz : L.size = 0
      · have hLe : L = #[] := Array.eq_empty_of_size_eq_zero hz
        subst hLe
        have hle : left = [] := List.eq_nil_of_length_eq_zero (by simpa using hll)
        refine Step.of_run (u := .tuple #[.bool false]) (w' := w) ?_ (hs.put (d := o.dst) (v := .tup [.one (.d (.bool false))]) (fun z hz => by rw [hdst] at hz; cases hz; exact hd)
          ⟨_, rfl, _, [], rfl, by simp [usim, csim, rep], rfl⟩) (by rw [hdst]; exact hK1 hle) hn
        simp only [execOp, hop, Instr.next, hxe, Sem.run_bind, Sem.run_pure, Result.andThen_ok, hgi, run_getMap hh', hcond, Bool.false_eq_true, if_false, hL, hold, hnew]
        have e1 : ((if (#[] : Array MapEntry).isEmpty = true then (#[none] : Array (Option MapEntry)) else #[]) ++ Array.map some ((#[] : Array MapEntry) ++ (#[] : Array MapEntry))) = #[none] := by simp
        have e2 : (choose (.mapNext (#[none] : Array (Option MapEntry)).size)).run P w = .ok 0 w := by simp [choose, Sem.run, Question.forced]
        rw [e1, e2]
        rfl
      · -- some entry is picked
        have pick : ∃ (k : Nat) (n : Nat), k < L.size ∧ (choose (.mapNext ((#[] : Array (Option MapEntry)) ++ (L ++ (#[] : Array MapEntry)).map some).size)).run P w = .ok k (w.drewN n) := by
          have hsz : ((#[] : Array (Option MapEntry)) ++ (L ++ (#[] : Array MapEntry)).map some).size = L.size := by simp
          rw [hsz]
          by_cases h1 : L.size ≤ 1
          · exact ⟨0, 0, by omega, by simp [choose, Sem.run, Question.forced, h1]; rfl⟩
          · exact ⟨_, 1, Nat.mod_lt (w.tape w.drawn (.mapNext L.size)) (by omega), by simp [choose, Sem.run, Question.forced, h1, Question.cut]; rfl⟩
        obtain ⟨k, n, hk, hpick⟩ := pick
        have hLk : L.toList[k]? = some L[k] := by simp [hk]
        obtain ⟨y, hy, hyk, hyv⟩ := esims_get hc hLk
        have hmem : L[k] ∈ ents.toList := by
          have : L[k] ∈ L.toList := by simp
          rw [hfl] at this
          exact (List.mem_filter.1 this).1
        have hbd : Blw w.heap.size w (w.drewN n) := ⟨⟨rfl, rfl, rfl, Nat.le_refl _, fun _ _ => rfl⟩, by simp [World.drewN]⟩
        have hcd := hs.core.below hbd
        have hbl' : b < w.heap.size := (Array.getElem?_eq_some_iff.1 hh).1
        have hbc : b ≠ c := fun e => by rw [e, hh'] at hh; cases hh
        obtain ⟨kk, es, hsm⟩ := hs.core.itm s m left la hs'
        have hms : m ≠ s := fun e => by rw [e, hs'] at hsm; cases hsm
        have hw := hcd.mutate (s := s) (ob' := .iter m (left.eraseIdx k) (some y)) (w' := setObjW (w.drewN n) b (.mapIter (some c) clk (seen.push L[k].born) clk)) hs' (σ1 := σ) (fun _ _ _ h => h)
          (fun t m' l la' _ h e => by
            subst e
            obtain ⟨_, _, hm⟩ := hs.core.itm t _ l la' h
            rw [hs'] at hm
            cases hm) (fun _ _ _ h _ => h) (fun m' l la' h => by cases h; exact ⟨kk, es, hms, hsm⟩) rfl rfl rfl (Nat.le_refl _) (by simp [setObjW])
          (fun b' _ hne => setObjW_other _ b b' _ (fun e => hne (by rw [hp, e]; rfl)))
          (fun hkp => by
            refine ⟨b, c, ents, clk, seen.push L[k].born, hp, hq, setObjW_same _ b _ hbl', (setObjW_other _ b c _ hbc).trans hh', ?_, h1, h2, fun x hx => ?_⟩
            · have hf : (ents.toList.filter fun e => !(seen.push L[k].born).contains e.born) = L.toList.eraseIdx k := by
                have hnd : (L.toList.map (·.born)).Nodup := by rw [hfl]; exact h1.sublist (List.filter_sublist.map _)
                rw [← filter_born hnd hLk, hfl, List.filter_filter]
                apply List.filter_congr
                intro e _
                simp only [Array.contains_push, Bool.not_or]
                rw [Bool.and_comm]
              rw [hf]
              exact esims_eraseIdx (esims_keep hkp (esims_keep (Keep.of_below hbd) hc))
            · cases hx
              refine ⟨L[k], by simp, ?_, hyk, usim_keep hkp _ _ (usim_keep (Keep.of_below hbd) _ _ hyv)⟩
              rw [← Array.find?_toList]
              exact find_born h1 hmem)
        refine Step.of_run (u := .tuple #[.bool true, L[k].key, L[k].val]) (w' := setObjW (w.drewN n) b (.mapIter (some c) clk (seen.push L[k].born) clk)) ?_
          ((Sim.written (hs.below hbd) hw).put (d := o.dst) (v := .tup [.one (.d (.bool true)), y.1.u, y.2]) (fun z hz => by rw [hdst] at hz; cases hz; exact hd)
            ⟨_, rfl, _, _, rfl, by simp [usim, csim, rep], _, _, rfl, by rw [hyk]; exact usim_key _, _, [], rfl, vsim_keep hw.2 (.u y.2) _ (vsim_keep (Keep.of_below hbd) (.u y.2) _ hyv), rfl⟩) (by rw [hdst]; exact hK2 k y hy) hn
        have hLne : L.isEmpty = false := by simpa [Array.isEmpty] using hz
        have hset : ∀ ob, (setObj b ob).run P (w.drewN n) = .ok () (setObjW (w.drewN n) b ob) := fun ob => by simp [setObj, Sem.run, hh, setObjW]
        have hget : ((#[] : Array (Option MapEntry)) ++ (L ++ (#[] : Array MapEntry)).map some)[k]? = some (some L[k]) := by simp [hk]
        simp only [execOp, hop, Instr.next, hxe, Sem.run_bind, Sem.run_pure, Result.andThen_ok, hgi, run_getMap hh', hcond, Bool.false_eq_true, if_false, hL, hold, hnew, hLne, hpick, hget, hset]
    · exact h.elim
  · exact h.elim
end
end Go.AM
