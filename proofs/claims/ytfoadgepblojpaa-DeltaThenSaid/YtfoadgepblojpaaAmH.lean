/-
  What an effect does to the state: an object is made, consumed, or written.
-/
import Derived.Test.YtfoadgepblojpaaAmG
import Derived.Maps.AppendAt
namespace Go.AM
open Go.RowKit

def Ob.wipe (d : Nat) : Ob → Option Ob
  | .box cs => some (.box (cs.map (C.wipe d)))
  | .row sz e rows => some (.row sz e rows)
  | .map kk es => some (.map kk (es.map fun x => (x.1, x.2.wipe d)))
  | .iter m left last => if m = d then none else some (.iter m (left.map fun x => (x.1, x.2.wipe d)) (last.map fun x => (x.1, x.2.wipe d)))
def wipeE (d : Nat) (ρ : Env) : Env := fun t => (ρ t).wipe d
def wipeS (d : Nat) (σ : Sto) : Sto := fun s => (σ s).bind (Ob.wipe d)
def drop (so : Option Nat) (σ : Sto) : Sto := fun t => if so = some t then none else σ t
def dropIt (s : Nat) (σ : Sto) : Sto := fun t => match σ t with
  | some (.iter m left last) => if m = s then none else some (.iter m left last)
  | o => o

section
variable {φ ψ : Nat → Value} {w w' : World} {F F' : Nat → Prop} {s d : Nat} {σ : Sto} {cx : Cx}

theorem esims_wipe (h : ∀ t, t ≠ d → ψ t = φ t) : ∀ {es : List (Key × U)} {l : List MapEntry}, esims φ w F es l → esims ψ w F (es.map fun x => (x.1, x.2.wipe d)) l
  | [], _, hs => hs
  | x :: es, l, hs => by
    obtain ⟨e, r, rfl, h1, h2, h3⟩ := hs
    exact ⟨e, r, rfl, h1, usim_wipe h _ _ h2, esims_wipe h h3⟩

theorem osim_wipe (h : ∀ t, t ≠ d → ψ t = φ t) {t : Nat} (htd : t ≠ d) {o o' : Ob} (ho : osim φ w F t o) (hw : o.wipe d = some o') : osim ψ w F t o' := by
  cases o with
  | box cs =>
    cases hw
    obtain ⟨b, arr, ty, hp, hh, hc, h1⟩ := ho
    exact ⟨b, arr, ty, (h t htd).trans hp, hh, csims_wipe h _ _ hc, h1⟩
  | row sz e rows =>
    cases hw
    obtain ⟨h1, h2⟩ := ho
    refine ⟨h1, ?_⟩
    rw [h t htd]
    rcases h2 with h2 | ⟨b, cap, cur, h0, hp, hl, hm, hh, hs, hc⟩
    · exact .inl h2
    · refine .inr ⟨b, cap, cur, h0, hp, hl, hm, hh, hs, ?_⟩
      have := csims_wipe h _ _ hc
      rwa [List.map_map] at this
  | map kk es =>
    cases hw
    obtain ⟨b, ents, clk, hp, hh, hc, h1, h2, h3, h4⟩ := ho
    refine ⟨b, ents, clk, (h t htd).trans hp, hh, esims_wipe h hc, h1, h2, ?_, ?_⟩
    · intro x hx
      obtain ⟨y, hy, rfl⟩ := List.mem_map.1 hx
      exact h3 y hy
    · rw [List.map_map]
      exact h4
  | iter m left last =>
    simp only [Ob.wipe] at hw
    split at hw
    · cases hw
    · rename_i hmd
      cases hw
      obtain ⟨b, c, ents, clk, seen, hp, hq, hh, hh', hc, h1, h2, h3⟩ := ho
      refine ⟨b, c, ents, clk, seen, (h t htd).trans hp, (h m hmd).trans hq, hh, hh', esims_wipe h hc, h1, h2, fun x hx => ?_⟩
      cases last with
      | none => cases hx
      | some y =>
        cases hx
        obtain ⟨e, a1, a2, a3, a4⟩ := h3 y rfl
        exact ⟨e, a1, a2, a3, usim_wipe h _ _ a4⟩

/-- The name s is consumed (if it stands for a row), the name d stands for a new object; nothing else in memory has turned. -/
theorem Core.replace (h : Core cx φ σ w) (hd : d < inBase) {so : Option Nat} (hs : ∀ s o, so = some s → σ s = some o → ∃ sz e rows, o = .row sz e rows) {hv : Value} {ob : Ob}
    (hos : w'.os = w.os) (htape : w'.tape = w.tape) (hout : w'.output = w.output) (hdr : w.drawn ≤ w'.drawn) (hsize : w.heap.size ≤ w'.heap.size)
    (hblock : ∀ b, b < w.heap.size → (∀ s o, so = some s → σ s = some o → hblk (φ s) ≠ some b) → w'.heap[b]? = w.heap[b]?)
    (hnew : ∀ b, hblk hv = some b → (w.heap.size ≤ b ∨ ∃ s o, so = some s ∧ σ s = some o ∧ hblk (φ s) = some b) ∧ b < w'.heap.size)
    (hit : ∀ m left last, ob = .iter m left last → m ≠ d ∧ so ≠ some m ∧ ∃ kk es, σ m = some (.map kk es))
    (hob : Keep (cx.fr φ σ) (cx.fr (upd φ d hv) (upd (wipeS d (drop so σ)) d (some ob))) w w' → osim (upd φ d hv) w' (cx.fr (upd φ d hv) (upd (wipeS d (drop so σ)) d (some ob))) d ob) :
    Core cx (upd φ d hv) (upd (wipeS d (drop so σ)) d (some ob)) w' ∧ Keep (cx.fr φ σ) (cx.fr (upd φ d hv) (upd (wipeS d (drop so σ)) d (some ob))) w w' ∧
      ∀ v u, vsim φ w (cx.fr φ σ) v u → vsim (upd φ d hv) w' (cx.fr (upd φ d hv) (upd (wipeS d (drop so σ)) d (some ob))) (v.wipe d) u := by
  have hφ : ∀ t, t ≠ d → upd φ d hv t = φ t := fun t ht => upd_other _ _ ht
  have hσ : ∀ t o', t ≠ d → upd (wipeS d (drop so σ)) d (some ob) t = some o' → ∃ o, σ t = some o ∧ so ≠ some t ∧ o.wipe d = some o' := by
    intro t o' ht ho
    rw [upd_other _ _ ht] at ho
    simp only [wipeS, drop] at ho
    split at ho
    · cases ho
    · rename_i hts
      cases hst : σ t with
      | none => rw [hst] at ho; cases ho
      | some o => rw [hst] at ho; exact ⟨o, rfl, hts, ho⟩
  have hk : Keep (cx.fr φ σ) (cx.fr (upd φ d hv) (upd (wipeS d (drop so σ)) d (some ob))) w w' := by
    refine ⟨hsize, fun b hb hl => hblock b hl fun s o _ ho he => hb.2 ⟨s, o, ho, he⟩, fun b hb hl => ⟨hb.1, ?_⟩⟩
    rintro ⟨t, o', ho, he⟩
    by_cases htd : t = d
    · subst htd
      rw [upd_same] at he
      rcases (hnew b he).1 with h1 | ⟨s, o, _, h1, h2⟩
      · omega
      · exact hb.2 ⟨s, o, h1, h2⟩
    · obtain ⟨o, h1, _, _⟩ := hσ t o' htd ho
      rw [hφ t htd] at he
      exact hb.2 ⟨t, o, h1, he⟩
  have hkeepb : ∀ t o b, so ≠ some t → σ t = some o → hblk (φ t) = some b → w'.heap[b]? = w.heap[b]? := fun t o b hts ho hb =>
    hblock b (h.own t o b ho hb).2 fun s o' hs' ho' he => hts (by rw [h.disj t s o o' b ho ho' hb he]; exact hs')
  refine ⟨⟨hos.trans h.os, htape.trans h.tape, hout.trans h.output, Nat.le_trans h.drawn hdr, Nat.le_trans h.size hsize, ?_, ?_, ?_, ?_, ?_, ?_⟩, hk, fun v u hvu => vsim_wipe hφ v u (vsim_keep hk v u hvu)⟩
  · intro b hb hn
    rw [hblock b (Nat.lt_of_lt_of_le hb h.size) fun s o _ ho he => ?_]
    · exact h.block b hb hn
    · rcases (h.own s o b ho he).1 with h1 | h1
      · omega
      · exact hn h1
  · intro t o' ho
    by_cases htd : t = d
    · subst htd
      rw [upd_same] at ho
      cases ho
      exact hob hk
    · obtain ⟨o, h1, hts, h2⟩ := hσ t o' htd ho
      refine osim_wipe hφ htd (osim_keep hk (h.objs t o h1) (fun b hb => hkeepb t o b hts h1 hb) fun m left last b hoi hb => ?_) h2
      subst hoi
      obtain ⟨kk, es, hm⟩ := h.itm t m left last h1
      refine hkeepb m _ b (fun e => ?_) hm hb
      obtain ⟨_, _, _, e⟩ := hs _ _ e hm
      cases e
  · intro t o' b ho hb
    by_cases htd : t = d
    · subst htd
      rw [upd_same] at hb
      obtain ⟨h1, h2⟩ := hnew b hb
      refine ⟨?_, h2⟩
      rcases h1 with h1 | ⟨s, o, _, h1, h3⟩
      · exact .inl (Nat.le_trans h.size h1)
      · exact (h.own s o b h1 h3).1
    · obtain ⟨o, h1, _, _⟩ := hσ t o' htd ho
      rw [hφ t htd] at hb
      exact ⟨(h.own t o b h1 hb).1, Nat.lt_of_lt_of_le (h.own t o b h1 hb).2 hsize⟩
  · intro t t' o o' b ho ho' hb hb'
    by_cases htd : t = d <;> by_cases htd' : t' = d
    · rw [htd, htd']
    · subst htd
      obtain ⟨o1, h1, hts, _⟩ := hσ t' o' htd' ho'
      rw [hφ t' htd'] at hb'
      rw [upd_same] at hb
      rcases (hnew b hb).1 with h2 | ⟨s, o2, hs', h2, h3⟩
      · have := (h.own t' o1 b h1 hb').2; omega
      · exact absurd (by rw [h.disj t' s o1 o2 b h1 h2 hb' h3]; exact hs') hts
    · subst htd'
      obtain ⟨o1, h1, hts, _⟩ := hσ t o htd ho
      rw [hφ t htd] at hb
      rw [upd_same] at hb'
      rcases (hnew b hb').1 with h2 | ⟨s, o2, hs', h2, h3⟩
      · have := (h.own t o1 b h1 hb).2; omega
      · exact absurd (by rw [h.disj t s o1 o2 b h1 h2 hb h3]; exact hs') hts
    · obtain ⟨o1, h1, _, _⟩ := hσ t o htd ho
      obtain ⟨o2, h2, _, _⟩ := hσ t' o' htd' ho'
      rw [hφ t htd] at hb
      rw [hφ t' htd'] at hb'
      exact h.disj t t' o1 o2 b h1 h2 hb hb'
  · intro i hi
    rw [hφ i (by omega)]
    exact h.inp i hi
  · intro t m left last ho
    have hmap : ∀ m kk es, m ≠ d → so ≠ some m → σ m = some (.map kk es) → ∃ kk es, upd (wipeS d (drop so σ)) d (some ob) m = some (.map kk es) := by
      intro m kk es hmd hms hm
      rw [upd_other _ _ hmd]
      simp only [wipeS, drop, if_neg hms, hm, Option.bind_some, Ob.wipe]
      exact ⟨_, _, rfl⟩
    by_cases htd : t = d
    · subst htd
      rw [upd_same] at ho
      cases ho
      obtain ⟨h1, h2, kk, es, h3⟩ := hit m left last rfl
      exact hmap m kk es h1 h2 h3
    · obtain ⟨o, h1, hts, h2⟩ := hσ t _ htd ho
      cases o with
      | iter m' left' last' =>
        simp only [Ob.wipe] at h2
        split at h2
        · cases h2
        · rename_i hmd
          cases h2
          obtain ⟨kk, es, hm⟩ := h.itm t _ _ _ h1
          refine hmap _ kk es hmd (fun e => ?_) hm
          obtain ⟨_, _, _, e⟩ := hs _ _ e hm
          cases e
      | _ => simp [Ob.wipe] at h2

/-- An object is written. -/
theorem Core.mutate (h : Core cx φ σ w) {ob ob' : Ob} (hs : σ s = some ob) {σ1 : Sto} (h1 : ∀ t o, t ≠ s → σ1 t = some o → σ t = some o) (h2 : ∀ t m left last, t ≠ s → σ1 t = some (.iter m left last) → m ≠ s)
    (h3 : ∀ m kk es, σ m = some (.map kk es) → m ≠ s → σ1 m = some (.map kk es)) (h4 : ∀ m left last, ob' = .iter m left last → ∃ kk es, m ≠ s ∧ σ m = some (.map kk es))
    (hos : w'.os = w.os) (htape : w'.tape = w.tape) (hout : w'.output = w.output) (hdr : w.drawn ≤ w'.drawn) (hsize : w.heap.size ≤ w'.heap.size)
    (hblock : ∀ b, b < w.heap.size → hblk (φ s) ≠ some b → w'.heap[b]? = w.heap[b]?)
    (hob : Keep (cx.fr φ σ) (cx.fr φ (upd σ1 s (some ob'))) w w' → osim φ w' (cx.fr φ (upd σ1 s (some ob'))) s ob') :
    Core cx φ (upd σ1 s (some ob')) w' ∧ Keep (cx.fr φ σ) (cx.fr φ (upd σ1 s (some ob'))) w w' := by
  have hσ : ∀ t o, upd σ1 s (some ob') t = some o → ∃ o', σ t = some o' ∧ (t ≠ s → o' = o) := by
    intro t o ho
    by_cases hts : t = s
    · subst hts; exact ⟨ob, hs, fun h => absurd rfl h⟩
    · rw [upd_other _ _ hts] at ho
      exact ⟨o, h1 t o hts ho, fun _ => rfl⟩
  have hk : Keep (cx.fr φ σ) (cx.fr φ (upd σ1 s (some ob'))) w w' := by
    refine ⟨hsize, fun b hb hl => hblock b hl fun he => hb.2 ⟨s, ob, hs, he⟩, fun b hb hl => ⟨hb.1, ?_⟩⟩
    rintro ⟨t, o, ho, he⟩
    obtain ⟨o', h5, _⟩ := hσ t o ho
    exact hb.2 ⟨t, o', h5, he⟩
  have hkeepb : ∀ t o b, t ≠ s → σ t = some o → hblk (φ t) = some b → w'.heap[b]? = w.heap[b]? := fun t o b hts ho hb =>
    hblock b (h.own t o b ho hb).2 fun he => hts (h.disj t s o ob b ho hs hb he)
  refine ⟨⟨hos.trans h.os, htape.trans h.tape, hout.trans h.output, Nat.le_trans h.drawn hdr, Nat.le_trans h.size hsize, ?_, ?_, ?_, ?_, h.inp, ?_⟩, hk⟩
  · intro b hb hn
    rw [hblock b (Nat.lt_of_lt_of_le hb h.size) fun he => ?_]
    · exact h.block b hb hn
    · rcases (h.own s ob b hs he).1 with h6 | h6
      · omega
      · exact hn h6
  · intro t o ho
    by_cases hts : t = s
    · subst hts
      rw [upd_same] at ho
      cases ho
      exact hob hk
    · rw [upd_other _ _ hts] at ho
      have h5 := h1 t o hts ho
      refine osim_keep hk (h.objs t o h5) (fun b hb => hkeepb t o b hts h5 hb) fun m left last b hoi hb => ?_
      subst hoi
      obtain ⟨kk, es, hm⟩ := h.itm t m left last h5
      exact hkeepb m _ b (h2 t m left last hts ho) hm hb
  · intro t o b ho hb
    obtain ⟨o', h5, _⟩ := hσ t o ho
    exact ⟨(h.own t o' b h5 hb).1, Nat.lt_of_lt_of_le (h.own t o' b h5 hb).2 hsize⟩
  · intro t t' o o' b ho ho' hb hb'
    obtain ⟨o1, h5, _⟩ := hσ t o ho
    obtain ⟨o2, h6, _⟩ := hσ t' o' ho'
    exact h.disj t t' o1 o2 b h5 h6 hb hb'
  · intro t m left last ho
    have hm : ∃ kk es, m ≠ s ∧ σ m = some (.map kk es) := by
      by_cases hts : t = s
      · subst hts
        rw [upd_same] at ho
        cases ho
        exact h4 m left last rfl
      · rw [upd_other _ _ hts] at ho
        obtain ⟨kk, es, hm⟩ := h.itm t m left last (h1 t _ hts ho)
        exact ⟨kk, es, h2 t m left last hts ho, hm⟩
    obtain ⟨kk, es, hms, hm⟩ := hm
    exact ⟨kk, es, by rw [upd_other _ _ hms]; exact h3 m kk es hm hms⟩
end
end Go.AM
