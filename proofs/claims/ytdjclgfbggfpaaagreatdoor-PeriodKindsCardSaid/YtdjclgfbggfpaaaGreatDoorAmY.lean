/-
  Functions that take objects of the caller's: consumed by the call, or changed in their place.
-/
import Derived.Test.YtdjclgfbggfpaaaGreatDoorAmV
import Derived.Test.YtdjclgfbggfpaaaGreatDoorAmS
namespace Go.AM
open Go.RowKit

def inblk (φ : Nat → Value) (ins : List Ob) (b : Nat) : Prop := ∃ i o, ins[i]? = some o ∧ hblk (φ (inBase + i)) = some b

structure InOk (φ : Nat → Value) (w : World) (F : Nat → Prop) (ins : List Ob) : Prop where
  objs : ∀ i o, ins[i]? = some o → osim φ w (fun b => F b ∧ ¬ inblk φ ins b) (inBase + i) o
  blk : ∀ i o b, ins[i]? = some o → hblk (φ (inBase + i)) = some b → b < w.heap.size
  disj : ∀ i j o o' b, ins[i]? = some o → ins[j]? = some o' → hblk (φ (inBase + i)) = some b → hblk (φ (inBase + j)) = some b → i = j
  plain : ∀ o ∈ ins, obFree o = true
  glob : ∀ i o b, ins[i]? = some o → hblk (φ (inBase + i)) = some b → glow ≤ b

/-- What a call has left of the world: but for the blocks of the objects that it was given, it has only grown. -/
structure Chg (φ : Nat → Value) (ins : List Ob) (w w' : World) : Prop where
  os : w'.os = w.os
  tape : w'.tape = w.tape
  output : w'.output = w.output
  drawn : w.drawn ≤ w'.drawn
  size : w.heap.size ≤ w'.heap.size
  block : ∀ b, b < w.heap.size → ¬ inblk φ ins b → w'.heap[b]? = w.heap[b]?

/-- A function that takes objects of the caller's and returns data (of R); the objects are gone. -/
def ConsFn (P : Program) (f : FuncId) (us : List V) (ins : List Ob) (R : V → Prop) : Prop :=
  (∃ fn, P.funcs[f]? = some fn ∧ (fn.name == "runtime.NumGoroutine") = false ∧ fn.body.isNone = false) ∧
  ∀ (φ : Nat → Value) (w : World) (F : Nat → Prop), Fr w F → InOk φ w F ins →
    ∀ vals : List Value, vals.length = us.length → (∀ (i : Nat) (x : V) (u : Value), us[i]? = some x → vals[i]? = some u → vsim φ w (fun b => F b ∧ ¬ inblk φ ins b) x u) →
    Calls P f vals.toArray w fun e w' => ∃ u v, e = .returned u ∧ Chg φ ins w w' ∧ R v ∧ v.free = true ∧ vsim φ w' (fun b => F b ∨ inblk φ ins b) v u

/-- A function that changes a row of the caller's in its place. -/
def MutFn (P : Program) (f : FuncId) (us : List V) (o : Ob) (R : V → Ob → Prop) : Prop :=
  (∃ fn, P.funcs[f]? = some fn ∧ (fn.name == "runtime.NumGoroutine") = false ∧ fn.body.isNone = false) ∧
  ∀ (φ : Nat → Value) (w : World) (F : Nat → Prop), Fr w F → InOk φ w F [o] →
    ∀ vals : List Value, vals.length = us.length → (∀ (i : Nat) (x : V) (u : Value), us[i]? = some x → vals[i]? = some u → vsim φ w (fun b => F b ∧ ¬ inblk φ [o] b) x u) →
    Calls P f vals.toArray w fun e w' => ∃ u v o', e = .returned u ∧ Chg φ [o] w w' ∧ R v o' ∧ v.free = true ∧ obFree o' = true ∧ vsim φ w' (fun b => F b ∧ ¬ inblk φ [o] b) v u ∧ osim φ w' (fun b => F b ∧ ¬ inblk φ [o] b) inBase o'

def stoIn (ins : List Ob) : Sto := fun s => if inBase ≤ s then ins[s - inBase]? else none

section
variable {P : Program} {tb : Tb} {cx : Cx} {ρ : Env} {σ : Sto} {K : Env → Sto → Prop} {φ : Nat → Value} {w w' : World} {F : Nat → Prop} {ins : List Ob}

/-- The frame of a call that was given objects. -/
structure Gq (w : World) (F : Nat → Prop) (φ : Nat → Value) (ins : List Ob) : Prop where
  gw : GW w fun b => F b ∧ ¬ inblk φ ins b
  gi : ∀ b, inblk φ ins b → glow ≤ b
theorem Gq.of (hF : Fr w F) (h : ∀ i o b, ins[i]? = some o → hblk (φ (inBase + i)) = some b → glow ≤ b) : Gq w F φ ins := by
  have hi : ∀ b, inblk φ ins b → glow ≤ b := fun b ⟨i, o, ho, hb⟩ => h i o b ho hb
  exact ⟨hF.gw.keep (fun _ _ => rfl) (Nat.le_refl _) fun b hb => ⟨(hF.gw.low b hb).1, fun hh => absurd (hi b hh) (by omega)⟩, hi⟩
def cxIn (w : World) (F : Nat → Prop) (φ : Nat → Value) (ins : List Ob) (q : Gq w F φ ins) (n : Nat) : Cx := { w0 := w, base := fun b => F b ∧ ¬ inblk φ ins b, inb := inblk φ ins, n := n, φ0 := φ, k := ins.length, gw := q.gw, gin := q.gi }

theorem stoIn_some {s : Nat} {o : Ob} (h : stoIn ins s = some o) : ∃ i, s = inBase + i ∧ ins[i]? = some o := by
  unfold stoIn at h
  split at h
  · exact ⟨s - inBase, by omega, h⟩
  · cases h

theorem owned_stoIn {b : Nat} : owned φ (stoIn ins) b ↔ inblk φ ins b := by
  constructor
  · rintro ⟨s, o, ho, hb⟩
    obtain ⟨i, rfl, hi⟩ := stoIn_some ho
    exact ⟨i, o, hi, hb⟩
  · rintro ⟨i, o, hi, hb⟩
    exact ⟨inBase + i, o, by unfold stoIn; rw [if_pos (by omega)]; simpa using hi, hb⟩

theorem core_in (h : InOk φ w F ins) (q : Gq w F φ ins) (n : Nat) : Core (cxIn w F φ ins q n) φ (stoIn ins) w := by
  refine ⟨rfl, rfl, rfl, Nat.le_refl _, Nat.le_refl _, fun _ _ _ => rfl, fun s o hs => ?_, fun s o b hs hb => ?_, fun s s' o o' b hs hs' hb hb' => ?_, fun _ _ _ => rfl, fun s m left last hs => ?_⟩
  · obtain ⟨i, rfl, hi⟩ := stoIn_some hs
    refine osim_keep ⟨Nat.le_refl _, fun _ _ _ => rfl, fun b hb _ => ⟨.inl hb, fun ho => hb.2 (owned_stoIn.1 ho)⟩⟩ (h.objs i o hi) (fun _ _ => rfl) (fun _ _ _ _ _ _ => rfl)
  · obtain ⟨i, rfl, hi⟩ := stoIn_some hs
    exact ⟨.inr ⟨i, o, hi, hb⟩, h.blk i o b hi hb⟩
  · obtain ⟨i, rfl, hi⟩ := stoIn_some hs
    obtain ⟨j, rfl, hj⟩ := stoIn_some hs'
    rw [h.disj i j o o' b hi hj hb hb']
  · obtain ⟨i, rfl, hi⟩ := stoIn_some hs
    have := h.plain _ (List.mem_of_getElem? hi)
    cases this

theorem sim_in (h : InOk φ w F ins) (q : Gq w F φ ins) {us : List V} {vals : List Value} {n : Nat} (hn : us.length ≤ n) (hl : vals.length = us.length)
    (hv : ∀ (i : Nat) (x : V) (u : Value), us[i]? = some x → vals[i]? = some u → vsim φ w (fun b => F b ∧ ¬ inblk φ ins b) x u) :
    Sim (cxIn w F φ ins q n) φ (env0 us) (stoIn ins) { tmps := vals.toArray ++ Array.replicate (n - vals.toArray.size) undef, defers := [] } w := by
  refine ⟨core_in h q n, fun t => ?_, rfl, by show n ≤ _; simp; omega⟩
  unfold env0
  split
  · rename_i v hvt
    have hlt : t < us.length := (List.getElem?_eq_some_iff.1 hvt).1
    have hu : vals[t]? = some vals[t] := List.getElem?_eq_getElem (by omega)
    have := hv t v _ hvt hu
    have he : (vals.toArray ++ Array.replicate (n - vals.toArray.size) undef).getD t undef = vals[t] := by
      rw [Array.getD_eq_getD_getElem?, Array.getElem?_append_left (by simp; omega)]
      simp [hu]
    simp only [he]
    exact vsim_keep ⟨Nat.le_refl _, fun _ _ _ => rfl, fun b hb _ => ⟨.inl hb, fun ho => hb.2 (owned_stoIn.1 ho)⟩⟩ _ _ this
  · exact vsim_top _

theorem cons_intro (ht : TbOk P tb) {f : FuncId} {fn : Func} {c : Code} {us : List V} {R : V → Prop} (hf : P.funcs[f]? = some fn) (hb : fn.body = some c) (hname : (fn.name == "runtime.NumGoroutine") = false)
    (hn : us.length ≤ fn.ntmps)
    (h : ∀ cx : Cx, cx.n = fn.ntmps → Swp P cx c (env0 us) (stoIn ins) (fun e ρ σ => (e = .normal ∨ e = .ret) ∧ ∃ v, resV tb ρ σ fn.results.toList = some v ∧ (v.frz σ).free = true ∧ R (v.frz σ))) : ConsFn P f us ins R := by
  refine ⟨⟨fn, hf, hname, by rw [hb]; rfl⟩, fun φ w F hF hin vals hl hv => ?_⟩
  have q := Gq.of hF hin.glob
  refine calls_of_wp hf hb (wp_mono (h (cxIn w F φ ins q fn.ntmps) rfl φ _ w (sim_in hin q hn hl hv)) fun e a' w' ⟨h1, h2, φ', ρ', σ', hs', he, v, hres, hvf, hR⟩ => ?_)
  obtain ⟨u, hru, hvu⟩ := results_sound ht hs' hres
  have hchg : Chg φ ins w w' := ⟨hs'.core.os, hs'.core.tape, hs'.core.output, hs'.core.drawn, hs'.core.size, fun b hb hni => hs'.core.block b hb hni⟩
  have hfin : vsim φ w' (fun b => F b ∨ inblk φ ins b) (v.frz σ') u := by
    refine vsim_free _ _ hvf (vsim_frz hs'.core (fun b hb _ => ?_) (fun s o b hs hb => ?_) _ _ hvu)
    · rcases hb.1 with hb | hb | hb
      · exact .inl hb.1
      · exact .inl (hF b hb)
      · exact .inr hb
    · rcases (hs'.core.own s o b hs hb).1 with hb | hb
      · exact .inl (hF b hb)
      · exact .inr hb
  rcases he with rfl | rfl
  · exact ⟨hs'.defers, u, hru, u, v.frz σ', rfl, hchg, hR, hvf, hfin⟩
  · exact ⟨hs'.defers, u, hru, u, v.frz σ', rfl, hchg, hR, hvf, hfin⟩

theorem mut_intro (ht : TbOk P tb) {f : FuncId} {fn : Func} {c : Code} {us : List V} {o : Ob} {R : V → Ob → Prop} (hf : P.funcs[f]? = some fn) (hb : fn.body = some c) (hname : (fn.name == "runtime.NumGoroutine") = false)
    (hn : us.length ≤ fn.ntmps)
    (h : ∀ cx : Cx, cx.n = fn.ntmps → Swp P cx c (env0 us) (stoIn [o]) (fun e ρ σ => (e = .normal ∨ e = .ret) ∧ ∃ v, resV tb ρ σ fn.results.toList = some v ∧ v.free = true ∧ ∃ o', σ inBase = some o' ∧ obFree o' = true ∧ R v o')) : MutFn P f us o R := by
  refine ⟨⟨fn, hf, hname, by rw [hb]; rfl⟩, fun φ w F hF hin vals hl hv => ?_⟩
  have q := Gq.of hF hin.glob
  refine calls_of_wp hf hb (wp_mono (h (cxIn w F φ [o] q fn.ntmps) rfl φ _ w (sim_in hin q hn hl hv)) fun e a' w' ⟨h1, h2, φ', ρ', σ', hs', he, v, hres, hvf, o', ho', hof, hR⟩ => ?_)
  obtain ⟨u, hru, hvu⟩ := results_sound ht hs' hres
  have hchg : Chg φ [o] w w' := ⟨hs'.core.os, hs'.core.tape, hs'.core.output, hs'.core.drawn, hs'.core.size, fun b hb hni => hs'.core.block b hb hni⟩
  have hφ : φ' inBase = φ inBase := hs'.core.inp inBase (Nat.le_refl _) (by simp [cxIn])
  -- the object's own block is still there
  have hsub : ∀ b, (cxIn w F φ [o] q fn.ntmps).fr φ' σ' b → b < w'.heap.size → F b ∧ ¬ inblk φ [o] b := by
    intro b hb _
    have hno : ¬ inblk φ [o] b → True := fun _ => trivial
    refine ⟨?_, ?_⟩
    · rcases hb.1 with h | h | h
      · exact h.1
      · exact hF b h
      · obtain ⟨i, o1, hi, hbk⟩ := h
        have hi0 : i = 0 := by
          rcases i with _ | i
          · rfl
          · simp at hi
        subst hi0
        exact absurd ⟨inBase, o', ho', by rw [hφ]; simpa using hbk⟩ hb.2
    · rintro ⟨i, o1, hi, hbk⟩
      have hi0 : i = 0 := by
        rcases i with _ | i
        · rfl
        · simp at hi
      subst hi0
      exact hb.2 ⟨inBase, o', ho', by rw [hφ]; simpa using hbk⟩
  have K : Keep ((cxIn w F φ [o] q fn.ntmps).fr φ' σ') (fun b => F b ∧ ¬ inblk φ [o] b) w' w' := ⟨Nat.le_refl _, fun _ _ _ => rfl, hsub⟩
  have hfin : vsim φ w' (fun b => F b ∧ ¬ inblk φ [o] b) v u := vsim_free _ _ hvf (vsim_keep K _ _ hvu)
  have hob : osim φ w' (fun b => F b ∧ ¬ inblk φ [o] b) inBase o' := osim_free hof hφ.symm (osim_keep K (hs'.core.objs _ _ ho') (fun _ _ => rfl) (fun _ _ _ _ _ _ => rfl))
  rcases he with rfl | rfl
  · exact ⟨hs'.defers, u, hru, u, v, o', rfl, hchg, hR, hvf, hof, hfin, hob⟩
  · exact ⟨hs'.defers, u, hru, u, v, o', rfl, hchg, hR, hvf, hof, hfin, hob⟩
end

def nameF (names : List Nat) (t : Nat) : Nat := if inBase ≤ t then names.getD (t - inBase) t else t
def dropN (names : List Nat) (σ : Sto) : Sto := fun t => if names.contains t then none else match σ t with
  | some (.iter m l la) => if names.contains m then none else some (.iter m l la)
  | o => o
/-- The objects that go to a call. -/
structure Gives (σ : Sto) (names : List Nat) (ins : List Ob) : Prop where
  len : names.length = ins.length
  nodup : names.Nodup
  objs : ∀ (i s : Nat) (o : Ob), names[i]? = some s → ins[i]? = some o → σ s = some o
  plain : ∀ o ∈ ins, obFree o = true

section
variable {P : Program} {tb : Tb} {cx : Cx} {ρ : Env} {σ : Sto} {K : Env → Sto → Prop} {φ : Nat → Value} {w w' : World} {F : Nat → Prop} {ins : List Ob} {names : List Nat}

theorem nameF_in {i s : Nat} (h : names[i]? = some s) : nameF names (inBase + i) = s := by
  unfold nameF
  rw [if_pos (by omega), Nat.add_sub_cancel_left, List.getD_eq_getElem?_getD, h]
  rfl
theorem Gives.get (h : Gives σ names ins) {i : Nat} {o : Ob} (hi : ins[i]? = some o) : ∃ s, names[i]? = some s ∧ σ s = some o := by
  have hl : i < names.length := by rw [h.len]; exact (List.getElem?_eq_some_iff.1 hi).1
  exact ⟨_, List.getElem?_eq_getElem hl, h.objs i _ o (List.getElem?_eq_getElem hl) hi⟩
theorem Gives.at (h : Gives σ names ins) {s : Nat} (hs : s ∈ names) : ∃ (i : Nat) (o : Ob), names[i]? = some s ∧ ins[i]? = some o ∧ σ s = some o := by
  obtain ⟨i, hi, rfl⟩ := List.getElem_of_mem hs
  have hl : i < ins.length := by rw [← h.len]; exact hi
  exact ⟨i, _, List.getElem?_eq_getElem hi, List.getElem?_eq_getElem hl, h.objs i _ _ (List.getElem?_eq_getElem hi) (List.getElem?_eq_getElem hl)⟩
theorem inblk_iff (h : Gives σ names ins) {b : Nat} : inblk (fun t => φ (nameF names t)) ins b ↔ ∃ s o, s ∈ names ∧ σ s = some o ∧ hblk (φ s) = some b := by
  constructor
  · rintro ⟨i, o, hi, hb⟩
    obtain ⟨s, hs, ho⟩ := h.get hi
    simp only [nameF_in hs] at hb
    exact ⟨s, o, List.mem_of_getElem? hs, ho, hb⟩
  · rintro ⟨s, o, hs, ho, hb⟩
    obtain ⟨i, o', h1, h2, h3⟩ := h.at hs
    exact ⟨i, o', h2, by simp only [nameF_in h1]; exact hb⟩

theorem fr_not_in (h : Gives σ names ins) {b : Nat} (hb : cx.fr φ σ b) : ¬ inblk (fun t => φ (nameF names t)) ins b := fun hi => by
  obtain ⟨s, o, _, ho, hbk⟩ := (inblk_iff h).1 hi
  exact hb.2 ⟨s, o, ho, hbk⟩

theorem inok_of (hco : Core cx φ σ w) (h : Gives σ names ins) : InOk (fun t => φ (nameF names t)) w (fun b => cx.fr φ σ b ∨ inblk (fun t => φ (nameF names t)) ins b) ins := by
  refine ⟨fun i o hi => ?_, fun i o b hi hb => ?_, fun i j o o' b hi hj hb hb' => ?_, h.plain, fun i o b hi hb => by
    obtain ⟨s, hs, ho⟩ := h.get hi
    simp only [nameF_in hs] at hb
    exact hco.glob ho hb⟩
  · obtain ⟨s, hs, ho⟩ := h.get hi
    exact osim_free (h.plain o (List.mem_of_getElem? hi)) (by simp only [nameF_in hs]) (osim_keep ⟨Nat.le_refl _, fun _ _ _ => rfl, fun b hb _ => ⟨.inl hb, fr_not_in h hb⟩⟩ (hco.objs s o ho) (fun _ _ => rfl) (fun _ _ _ _ _ _ => rfl))
  · obtain ⟨s, hs, ho⟩ := h.get hi
    simp only [nameF_in hs] at hb
    exact (hco.own s o b ho hb).2
  · obtain ⟨s, hs, ho⟩ := h.get hi
    obtain ⟨s', hs', ho'⟩ := h.get hj
    simp only [nameF_in hs] at hb
    simp only [nameF_in hs'] at hb'
    have := hco.disj s s' o o' b ho ho' hb hb'
    subst this
    have hi' := (List.getElem?_eq_some_iff.1 hs).1
    exact (List.getElem?_inj hi' h.nodup).1 (hs.trans hs'.symm)

theorem dropN_some {t : Nat} {o : Ob} (h : dropN names σ t = some o) : t ∉ names ∧ σ t = some o ∧ ∀ m l la, o = .iter m l la → m ∉ names := by
  unfold dropN at h
  split at h
  · cases h
  · rename_i hn
    refine ⟨by simpa using hn, ?_⟩
    split at h
    · rename_i m l la hs
      split at h
      · cases h
      · rename_i hm
        cases h
        exact ⟨hs, fun m' l' la' he => by cases he; simpa using hm⟩
    · rename_i hni
      exact ⟨h, fun m l la he => by subst he; exact absurd h (hni m l la)⟩

theorem core_cons (hco : Core cx φ σ w) (h : Gives σ names ins) (hc : Chg (fun t => φ (nameF names t)) ins w w') :
    Core cx φ (dropN names σ) w' ∧ Keep (cx.fr φ σ) (cx.fr φ (dropN names σ)) w w' := by
  have hk : Keep (cx.fr φ σ) (cx.fr φ (dropN names σ)) w w' := ⟨hc.size, fun b hb hl => hc.block b hl (fr_not_in h hb), fun b hb _ => ⟨hb.1, fun ⟨t, o, ht, hbk⟩ => hb.2 ⟨t, o, (dropN_some ht).2.1, hbk⟩⟩⟩
  have hblk : ∀ t o b, t ∉ names → σ t = some o → hblk (φ t) = some b → w'.heap[b]? = w.heap[b]? := fun t o b htn ho hb =>
    hc.block b (hco.own t o b ho hb).2 fun hi => by
      obtain ⟨s, o', hs, ho', hb'⟩ := (inblk_iff h).1 hi
      exact htn (by rw [hco.disj t s o o' b ho ho' hb hb']; exact hs)
  refine ⟨⟨hc.os.trans hco.os, hc.tape.trans hco.tape, hc.output.trans hco.output, Nat.le_trans hco.drawn hc.drawn, Nat.le_trans hco.size hc.size, fun b hb hni => ?_, fun t o ht => ?_, fun t o b ht hb => ?_, fun t t' o o' b ht ht' hb hb' => ?_, hco.inp, fun t m l la ht => ?_⟩, hk⟩
  · rw [hc.block b (Nat.lt_of_lt_of_le hb hco.size) fun hi => ?_]
    · exact hco.block b hb hni
    · obtain ⟨s, o', hs, ho', hb'⟩ := (inblk_iff h).1 hi
      rcases (hco.own s o' b ho' hb').1 with h1 | h1
      · omega
      · exact hni h1
  · obtain ⟨h1, h2, h3⟩ := dropN_some ht
    refine osim_keep hk (hco.objs t o h2) (fun b hb => hblk t o b h1 h2 hb) fun m l la b he hb => ?_
    subst he
    obtain ⟨kk, es, hm⟩ := hco.itm t m l la h2
    exact hblk m _ b (h3 m l la rfl) hm hb
  · obtain ⟨h1, h2, h3⟩ := dropN_some ht
    exact ⟨(hco.own t o b h2 hb).1, Nat.lt_of_lt_of_le (hco.own t o b h2 hb).2 hc.size⟩
  · exact hco.disj t t' o o' b (dropN_some ht).2.1 (dropN_some ht').2.1 hb hb'
  · obtain ⟨h1, h2, h3⟩ := dropN_some ht
    obtain ⟨kk, es, hm⟩ := hco.itm t m l la h2
    refine ⟨kk, es, ?_⟩
    unfold dropN
    rw [if_neg (by simpa using h3 m l la rfl), hm]

theorem ren_args {f : Nat → Nat} {us us' : List V} (hu : us = us'.map (V.ren f)) {vals : List Value} (hv : ∀ (i : Nat) (x : V) (u : Value), us[i]? = some x → vals[i]? = some u → vsim φ w F x u) :
    ∀ (i : Nat) (x : V) (u : Value), us'[i]? = some x → vals[i]? = some u → vsim (fun t => φ (f t)) w F x u := by
  intro i x u hx hvu
  have := hv i (x.ren f) u (by rw [hu, List.getElem?_map, hx]; rfl) hvu
  exact (vsim_ren x u).1 this

theorem callK_cons {f : FuncId} {us us' : List V} {R : V → Prop} {d : Option Nat} (h : ConsFn P f us' ins R) (hg : Gives σ names ins) (hu : us = us'.map (V.ren (nameF names))) (hd : ∀ x, d = some x → x < cx.n)
    (hk : ∀ v, R v → K (putE ρ d v) (dropN names σ)) : CallK P cx f us ρ σ d K := by
  refine ⟨h.1, fun φ a w hs vals hl hv next hn => ?_⟩
  have hnew : Fr w fun b => cx.fr φ σ b ∨ inblk (fun t => φ (nameF names t)) ins b := ⟨fun b hb => .inl (hs.core.new b hb), hs.core.gw.mono fun b hb => .inl hb⟩
  refine (h.2 _ w _ hnew (inok_of hs.core hg) vals (by rw [hl, hu]; simp) (fun i x u hx hvu => ?_)).mono fun e w' ⟨u, v, he, hc, hR, hfr, hvs⟩ => ⟨u, he, ?_⟩
  · exact vsim_keep ⟨Nat.le_refl _, fun _ _ _ => rfl, fun b hb _ => ⟨.inl hb, fr_not_in hg hb⟩⟩ _ _ (ren_args hu hv i x u hx hvu)
  · obtain ⟨hco, hkp⟩ := core_cons hs.core hg hc
    refine hn φ _ _ _ w' (Sim.put ⟨hco, fun t => vsim_keep hkp _ _ (hs.slots t), hs.defers, hs.room⟩ hd ?_) (hk v hR)
    refine vsim_free _ _ hfr (vsim_keep ⟨Nat.le_refl _, fun _ _ _ => rfl, fun b hb hl => ?_⟩ _ _ hvs)
    have key : inblk (fun t => φ (nameF names t)) ins b → cx.fr φ (dropN names σ) b := fun hi => by
      obtain ⟨s, o', hs', ho', hb'⟩ := (inblk_iff hg).1 hi
      refine ⟨.inr (hs.core.own s o' b ho' hb').1, fun ⟨t, o, ht, hbk⟩ => ?_⟩
      obtain ⟨h1, h2, _⟩ := dropN_some ht
      exact h1 (by rw [hs.core.disj t s o o' b h2 ho' hbk hb']; exact hs')
    rcases hb with (hb | hb) | hb
    · exact ⟨hb.1, fun ⟨t, o, ht, hbk⟩ => hb.2 ⟨t, o, (dropN_some ht).2.1, hbk⟩⟩
    · exact key hb
    · exact key hb

theorem callK_mut {f : FuncId} {us us' : List V} {o : Ob} {R : V → Ob → Prop} {s : Nat} {d : Option Nat} (h : MutFn P f us' o R) (hs0 : σ s = some o) (hf : obFree o = true) (hrow : ∃ sz e rows, o = .row sz e rows) (hR' : ∀ v o', R v o' → ∃ sz e rows, o' = .row sz e rows)
    (hu : us = us'.map (V.ren (nameF [s]))) (hd : ∀ x, d = some x → x < cx.n) (hk : ∀ v o', R v o' → K (putE ρ d v) (upd σ s (some o'))) : CallK P cx f us ρ σ d K := by
  have hg : Gives σ [s] [o] := ⟨rfl, by simp, fun i s' o' hi ho => by
    rcases i with _ | i
    · simp at hi ho; subst hi ho; exact hs0
    · simp at hi, fun o' ho => by simp at ho; subst ho; exact hf⟩
  refine ⟨h.1, fun φ a w hs vals hl hv next hn => ?_⟩
  have hnew : Fr w fun b => cx.fr φ σ b ∨ inblk (fun t => φ (nameF [s] t)) [o] b := ⟨fun b hb => .inl (hs.core.new b hb), hs.core.gw.mono fun b hb => .inl hb⟩
  refine (h.2 _ w _ hnew (inok_of hs.core hg) vals (by rw [hl, hu]; simp) (fun i x u hx hvu => ?_)).mono fun e w' ⟨u, v, o', he, hc, hR, hfr, hof, hvs, hos⟩ => ⟨u, he, ?_⟩
  · exact vsim_keep ⟨Nat.le_refl _, fun _ _ _ => rfl, fun b hb _ => ⟨.inl hb, fr_not_in hg hb⟩⟩ _ _ (ren_args hu hv i x u hx hvu)
  · obtain ⟨sz', e', rows', rfl⟩ := hR' v o' hR
    obtain ⟨sz, e, rows, rfl⟩ := hrow
    have hinb : ∀ b, (cx.fr φ σ b ∨ inblk (fun t => φ (nameF [s] t)) [Ob.row sz e rows] b) ∧ ¬ inblk (fun t => φ (nameF [s] t)) [Ob.row sz e rows] b → cx.fr φ σ b := fun b hb => hb.1.resolve_right hb.2
    have key := hs.core.mutate (s := s) (ob' := .row sz' e' rows') (w' := w') hs0 (σ1 := σ) (fun _ _ _ h => h) (fun t m l la _ ht he' => by
        subst he'
        obtain ⟨kk, es, hm⟩ := hs.core.itm t _ l la ht
        rw [hs0] at hm
        cases hm) (fun _ _ _ h _ => h) (fun _ _ _ h => by cases h) hc.os hc.tape hc.output hc.drawn hc.size
      (fun b hbl hne => hc.block b hbl fun hi => by
        obtain ⟨s', o2, hs', ho2, hb2⟩ := (inblk_iff hg).1 hi
        simp at hs'
        subst hs'
        exact hne hb2)
      (fun hkp => osim_free hof (by rw [show inBase = inBase + 0 from rfl, nameF_in (names := [s]) (i := 0) rfl]) (osim_keep ⟨Nat.le_refl _, fun _ _ _ => rfl, fun b hb hl => ?_⟩ hos (fun _ _ => rfl) (fun _ _ _ _ _ _ => rfl)))
    · refine hn φ _ _ _ w' (Sim.put ⟨key.1, fun t => vsim_keep key.2 _ _ (hs.slots t), hs.defers, hs.room⟩ hd ?_) (hk v _ hR)
      refine vsim_free _ _ hfr (vsim_keep ⟨Nat.le_refl _, fun _ _ _ => rfl, fun b hb hl => ?_⟩ _ _ hvs)
      have hb' := hinb b hb
      exact ⟨hb'.1, fun ⟨t, o, ht, hbk⟩ => by
        by_cases hts : t = s
        · subst hts; exact hb'.2 ⟨t, _, hs0, hbk⟩
        · rw [upd_other _ _ hts] at ht; exact hb'.2 ⟨t, o, ht, hbk⟩⟩
    · have hb' := hinb b hb
      exact ⟨hb'.1, fun ⟨t, o, ht, hbk⟩ => by
        by_cases hts : t = s
        · subst hts; exact hb'.2 ⟨t, _, hs0, hbk⟩
        · rw [upd_other _ _ hts] at ht; exact hb'.2 ⟨t, o, ht, hbk⟩⟩
end

/-! ### in the locked layer -/
def nres (r : Option V) (σ : Sto) (R : Ob → Prop) : Prop := match r with
  | some (.u (.one (.own s))) => ∃ o, σ s = some o ∧ obFree o = true ∧ R o
  | some (.u (.one (.map s))) => ∃ o, σ s = some o ∧ obFree o = true ∧ R o
  | some (.u (.one (.d .nil))) => ∃ sz e, R (.row sz e [])
  | _ => False
theorem newRes_eq (tb : Tb) (ρ : Env) (σ : Sto) (rs : List ResultVar) (R : Ob → Prop) : newRes tb ρ σ rs R = nres (resV tb ρ σ rs) σ R := rfl
theorem nres_own (s : Nat) (σ : Sto) (R : Ob → Prop) : nres (some (.u (.one (.own s)))) σ R = ∃ o, σ s = some o ∧ obFree o = true ∧ R o := rfl
theorem nres_map (s : Nat) (σ : Sto) (R : Ob → Prop) : nres (some (.u (.one (.map s)))) σ R = ∃ o, σ s = some o ∧ obFree o = true ∧ R o := rfl
theorem nres_nil (σ : Sto) (R : Ob → Prop) : nres (some (.u (.one (.d .nil)))) σ R = ∃ sz e, R (.row sz e []) := rfl
theorem obFree_row (sz e : Nat) (rows : List (List L)) : obFree (.row sz e rows) = true := rfl
attribute [simp] newRes_eq nres_own nres_map nres_nil obFree_row
section
variable {P : Program} {tb : Tb}
theorem new_L (ht : TbOk P tb) (hm : P.follows .mixedOrders = true) {f : FuncId} {fn : Func} {us : List V} {R : Ob → Prop} (c : Code) (hf : P.funcs[f]? = some fn) (hb : fn.body = some c) (hname : (fn.name == "runtime.NumGoroutine") = false)
    (hn : us.length ≤ fn.ntmps) (hc : codeOk tb.mid fn.ntmps c = true)
    (h : ∀ cx : Cx, cx.n = fn.ntmps → aswpL P cx tb c (env0 us) sto0 (fun e ρ σ => (e = .normal ∨ e = .ret) ∧ newRes tb ρ σ fn.results.toList R) .mk) : NewFn P f us R :=
  new_intro ht hf hb hname hn fun cx hcx => aswp_sound ht hm c _ _ _ (by rw [hcx]; exact hc) (h cx hcx)
theorem cons_L (ht : TbOk P tb) (hm : P.follows .mixedOrders = true) {f : FuncId} {fn : Func} {us : List V} {ins : List Ob} {R : V → Prop} (c : Code) (hf : P.funcs[f]? = some fn) (hb : fn.body = some c) (hname : (fn.name == "runtime.NumGoroutine") = false)
    (hn : us.length ≤ fn.ntmps) (hc : codeOk tb.mid fn.ntmps c = true)
    (h : ∀ cx : Cx, cx.n = fn.ntmps → aswpL P cx tb c (env0 us) (stoIn ins) (fun e ρ σ => (e = .normal ∨ e = .ret) ∧ ∃ v, resV tb ρ σ fn.results.toList = some v ∧ (v.frz σ).free = true ∧ R (v.frz σ)) .mk) : ConsFn P f us ins R :=
  cons_intro ht hf hb hname hn fun cx hcx => aswp_sound ht hm c _ _ _ (by rw [hcx]; exact hc) (h cx hcx)
theorem mut_L (ht : TbOk P tb) (hm : P.follows .mixedOrders = true) {f : FuncId} {fn : Func} {us : List V} {o : Ob} {R : V → Ob → Prop} (c : Code) (hf : P.funcs[f]? = some fn) (hb : fn.body = some c) (hname : (fn.name == "runtime.NumGoroutine") = false)
    (hn : us.length ≤ fn.ntmps) (hc : codeOk tb.mid fn.ntmps c = true)
    (h : ∀ cx : Cx, cx.n = fn.ntmps → aswpL P cx tb c (env0 us) (stoIn [o]) (fun e ρ σ => (e = .normal ∨ e = .ret) ∧ ∃ v, resV tb ρ σ fn.results.toList = some v ∧ v.free = true ∧ ∃ o', σ inBase = some o' ∧ obFree o' = true ∧ R v o') .mk) : MutFn P f us o R :=
  mut_intro ht hf hb hname hn fun cx hcx => aswp_sound ht hm c _ _ _ (by rw [hcx]; exact hc) (h cx hcx)
end

/-! ### values without names -/
mutual
theorem C.ment_free (d : Nat) : ∀ c : C, c.free = true → C.ment d c = false
  | .top, _ => rfl
  | .d _, _ => rfl
  | .ref _ _, _ => rfl
  | .nilmap, _ => rfl
  | .fn _ caps, h => by
    simp only [C.free] at h
    simp only [C.ment]
    exact C.ments_free d caps h
  | .box _ _, h => by simp [C.free] at h
  | .own _, h => by simp [C.free] at h
  | .elt _ _ _ _, h => by simp [C.free] at h
  | .map _, h => by simp [C.free] at h
  | .iter _, h => by simp [C.free] at h
theorem C.ments_free (d : Nat) : ∀ cs : List C, C.frees cs = true → C.ments d cs = false
  | [], _ => rfl
  | c :: cs, h => by
    simp only [C.frees, Bool.and_eq_true] at h
    simp only [C.ments, Bool.or_eq_false_iff]
    exact ⟨C.ment_free d c h.1, C.ments_free d cs h.2⟩
end
theorem C.wipe_free (d : Nat) (c : C) (h : c.free = true) : C.wipe d c = c := by
  cases c with
  | fn f caps =>
    simp only [C.free] at h
    simp [C.wipe, C.ments_free d caps h]
  | top | d _ | ref _ _ | nilmap => rfl
  | box _ _ | own _ | elt _ _ _ _ | map _ | iter _ => simp [C.free] at h
theorem C.wipes_free (d : Nat) : ∀ cs : List C, C.frees cs = true → cs.map (C.wipe d) = cs
  | [], _ => rfl
  | c :: cs, h => by
    simp only [C.frees, Bool.and_eq_true] at h
    rw [List.map_cons, C.wipe_free d c h.1, C.wipes_free d cs h.2]
theorem U.wipe_free (d : Nat) (x : U) (h : x.free = true) : U.wipe d x = x := by
  cases x with
  | one c => simp only [U.free] at h; rw [U.wipe, C.wipe_free d c h]
  | agg cs => simp only [U.free] at h; rw [U.wipe, C.wipes_free d cs h]
def esFree (es : List (Key × U)) : Bool := es.all fun x => x.2.free
theorem es_wipe {es : List (Key × U)} (h : esFree es = true) (d : Nat) : es.map (fun x => (x.1, U.wipe d x.2)) = es := by
  induction es with
  | nil => rfl
  | cons x es ih =>
    simp only [esFree, List.all_cons, Bool.and_eq_true] at h
    rw [List.map_cons, U.wipe_free d x.2 h.1, ih h.2]
theorem esFree_cons (x : Key × U) (es : List (Key × U)) : esFree (x :: es) = (x.2.free && esFree es) := rfl
theorem esFree_mset : ∀ {es : List (Key × U)} {k : Key} {u : U}, esFree es = true → u.free = true → esFree (mset es k u) = true
  | [], k, u, _, hu => by unfold mset; rw [esFree_cons]; simp only [hu]; rfl
  | x :: es, k, u, h, hu => by
    rw [esFree_cons, Bool.and_eq_true] at h
    unfold mset
    split
    · rw [esFree_cons]; simp only [hu, h.2]; rfl
    · rw [esFree_cons, h.1, esFree_mset h.2 hu]; rfl
theorem esFree_sub {es es' : List (Key × U)} (h : esFree es = true) (hs : ∀ x ∈ es', x ∈ es) : esFree es' = true := by
  unfold esFree at *
  rw [List.all_eq_true] at *
  exact fun x hx => h x (hs x hx)
theorem obFree_map (kk : KK) (es : List (Key × U)) : obFree (.map kk es) = esFree es := rfl
attribute [simp] obFree_map
end Go.AM
