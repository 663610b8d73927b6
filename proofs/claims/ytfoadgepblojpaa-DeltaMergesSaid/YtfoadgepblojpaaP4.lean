/-
  Plain: what Then and Merge make, position by position.
-/
import Derived.Test.YtfoadgepblojpaaW10
import Derived.Test.YtfoadgepblojpaaP3
namespace Go.Proofs.Ytfoadgepblojpaa
open Go.AM Go.Proofs Go.Sort

def PDh (l : List Ch) : Prop := l.Pairwise fun a b => ¬ (a.x = b.x ∧ a.y = b.y)
theorem PDh_perm {l l' : List Ch} (h : l.Perm l') : PDh l ↔ PDh l' :=
  List.Perm.pairwise_iff (R := fun c d : Ch => ¬ (c.x = d.x ∧ c.y = d.y)) (fun {_c _d} h h' => h ⟨h'.1.symm, h'.2.symm⟩) h
theorem mem_lk {l : List Ch} (h : PDh l) (d : Ch) : d ∈ l ↔ lk l d.x d.y = some d := ⟨fun hd => lk_mem h hd, fun hd => (lk_pos hd).1⟩
theorem lk_none {l : List Ch} {x y : Int} : lk l x y = none ↔ ∀ c ∈ l, ¬ (c.x = x ∧ c.y = y) := by
  unfold lk; rw [List.find?_eq_none]; simp
theorem sorted_srt {ys : List Ch} (hs : ys.Pairwise fun x y => ¬ cfCh y x < 0) (hp : PDh ys) : srt ys := by
  refine (hs.and hp).imp fun {c d} h => ?_
  rw [lt_iff]
  have := h.1
  simp only [cfCh, cmpP] at this
  have := h.2
  grind
theorem srt_sorted {ys : List Ch} (h : srt ys) : ys.Pairwise fun x y => ¬ cfCh y x < 0 := by
  refine h.imp fun {c d} h => ?_
  rw [lt_iff] at h
  simp only [cfCh, cmpP]
  grind
theorem right_ne {l : List Ch} (h : rightCh l = true) : ∀ c ∈ l, c.f ≠ c.t := fun c hc => by
  have := (rightCh_iff l).1 h |>.2.1 c hc
  simp only [Ch.ok, Bool.and_eq_true, decide_eq_true_eq] at this
  exact this.2.2.2.2.2
theorem right_PDh {l : List Ch} (h : rightCh l = true) : PDh l := srt_pos ((rightCh_iff l).1 h).2.2
theorem right_srt {l : List Ch} (h : rightCh l = true) : srt l := ((rightCh_iff l).1 h).2.2

def thenAt (a b : List Ch) (x y : Int) : Option Ch := match lk a x y, lk b x y with
  | some c, some d => if c.f = d.t then none else some ⟨x, y, c.f, d.t⟩
  | some c, none => some c
  | none, o => o
theorem thenAt_pos {a b : List Ch} {x y : Int} {d : Ch} (h : thenAt a b x y = some d) : d.x = x ∧ d.y = y := by
  unfold thenAt at h
  split at h
  · split at h
    · cases h
    · cases h; exact ⟨rfl, rfl⟩
  · rename_i c h1 h2; cases h; exact (lk_pos h1).2
  · exact (lk_pos h).2
def gW (b : List Ch) (c : Ch) : Option Ch := match lk b c.x c.y with
  | some d => if c.f = d.t then none else some ⟨c.x, c.y, c.f, d.t⟩
  | none => if c.f = c.t then none else some c
def gU (a : List Ch) (c : Ch) : Option Ch := if findP 0 a c.x c.y < 0 then some c else none
def gE (a : List Ch) (c : Ch) : Option Ch := match lk a c.x c.y with
  | some x => if x.f = c.t then none else some ⟨c.x, c.y, x.f, c.t⟩
  | none => if c.f = c.t then none else some c
theorem gU_eq (a : List Ch) (c : Ch) : gU a c = if lk a c.x c.y = none then some c else none := by
  unfold gU
  by_cases h : lk a c.x c.y = none
  · rw [if_pos h, if_pos ((findP_neg a c.x c.y).2 h)]
  · rw [if_neg h, if_neg (fun h' => h ((findP_neg a c.x c.y).1 h'))]
theorem stepT_insG (b : List Ch) : stepT b = insG (gW b) := by
  funext out c
  unfold stepT insG gW
  cases lk b c.x c.y with
  | none => by_cases h : c.f = c.t <;> simp [h]
  | some d => by_cases h : c.f = d.t <;> simp [h]
theorem stepU_insG (a : List Ch) : stepU a = insG (gU a) := by
  funext out c
  unfold stepU insG gU
  split <;> rfl
theorem gT_at {a b : List Ch} (ha : rightCh a = true) {c : Ch} (hc : c ∈ a) : gW b c = thenAt a b c.x c.y := by
  unfold gW thenAt
  rw [lk_mem (right_PDh ha) hc]
  cases lk b c.x c.y with
  | none => simp [right_ne ha c hc]
  | some d => rfl
theorem gE_at {a b : List Ch} (hb : rightCh b = true) {c : Ch} (hc : c ∈ b) : gE a c = thenAt a b c.x c.y := by
  unfold gE thenAt
  rw [lk_mem (right_PDh hb) hc]
  cases lk a c.x c.y with
  | none => simp [right_ne hb c hc]
  | some d => rfl
theorem thenU_eq (a b : List Ch) : thenU a b = b.foldl (insG (gU a)) (a.foldl (insG (gW b)) []) := by
  unfold thenU; rw [stepT_insG, stepU_insG]
theorem thenU_mem {a b : List Ch} (ha : rightCh a = true) (hb : rightCh b = true) (d : Ch) : d ∈ thenU a b ↔ thenAt a b d.x d.y = some d := by
  rw [thenU_eq, insG_mem, insG_mem]
  constructor
  · rintro ((h | ⟨c, hc, h⟩) | ⟨c, hc, h⟩)
    · simp at h
    · rw [gT_at ha hc] at h
      obtain ⟨h1, h2⟩ := thenAt_pos h
      rw [h1, h2, h]
    · rw [gU_eq] at h
      split at h
      · rename_i hn
        cases h
        unfold thenAt
        rw [hn, lk_mem (right_PDh hb) hc]
      · cases h
  · intro h
    cases ha' : lk a d.x d.y with
    | some c =>
      obtain ⟨h1, h2, h3⟩ := lk_pos ha'
      exact .inl (.inr ⟨c, h1, by rw [gT_at ha h1, h2, h3, h]⟩)
    | none =>
      have hd : lk b d.x d.y = some d := by unfold thenAt at h; rw [ha'] at h; exact h
      exact .inr ⟨d, (lk_pos hd).1, by rw [gU_eq, if_pos ha']⟩
theorem gT_pos {b : List Ch} {c d : Ch} (h : gW b c = some d) : d.x = c.x ∧ d.y = c.y := by
  unfold gW at h
  split at h <;> split at h <;> cases h <;> exact ⟨rfl, rfl⟩
theorem gE_pos {b : List Ch} {c d : Ch} (h : gE b c = some d) : d.x = c.x ∧ d.y = c.y := by
  unfold gE at h
  split at h <;> split at h <;> cases h <;> exact ⟨rfl, rfl⟩
theorem gU_some {a : List Ch} {c d : Ch} (h : gU a c = some d) : d = c ∧ lk a c.x c.y = none := by
  rw [gU_eq] at h
  split at h
  · rename_i hn; cases h; exact ⟨rfl, hn⟩
  · cases h
theorem insU_srt {a b z : List Ch} (hb : srt b) (hz : srt z) (hpos : ∀ e ∈ z, lk a e.x e.y ≠ none) : srt (b.foldl (insG (gU a)) z) := by
  refine insG_srt _ _ _ hz (fun c hc d h e he h' => ?_) ((srt_pos hb).imp fun {c c'} hcc d d' h h' => ?_)
  · obtain ⟨rfl, hn⟩ := gU_some h
    exact hpos e he (by rw [h'.1, h'.2]; exact hn)
  · rw [(gU_some h).1, (gU_some h').1]; exact hcc
theorem thenU_srt {a b : List Ch} (ha : rightCh a = true) (hb : rightCh b = true) : srt (thenU a b) := by
  rw [thenU_eq]
  refine insU_srt (right_srt hb) (insG_srt _ _ _ List.Pairwise.nil (fun c hc d h e he => by simp at he) ((right_PDh ha).imp fun {c c'} hcc d d' h h' => ?_)) fun e he => ?_
  · rw [(gT_pos h).1, (gT_pos h).2, (gT_pos h').1, (gT_pos h').2]; exact hcc
  · rw [insG_mem] at he
    rcases he with he | ⟨c, hc, h⟩
    · simp at he
    · rw [(gT_pos h).1, (gT_pos h).2, lk_mem (right_PDh ha) hc]; simp

def kd (c : Ch) : Key := .ints [c.x, c.y]
def vd (c : Ch) : U := .agg [.d (.int .i64 c.x), .d (.int .i64 c.y), .d (.int .i64 c.f), .d (.int .i64 c.t)]
theorem vd_free (c : Ch) : (vd c).free = true := rfl
theorem kd_eq (c : Ch) (x y : Int) : kd c = .ints [x, y] ↔ c.x = x ∧ c.y = y := by simp [kd]
theorem kd_ne {c d : Ch} : kd c ≠ kd d ↔ ¬ (c.x = d.x ∧ c.y = d.y) := by simp [kd]
def restT (a b : List Ch) (i : Nat) : List Ch := rest kd a ((b.take i).map kd)
def outT (a b : List Ch) (i : Nat) : List Ch := (b.take i).filterMap (gE a)
theorem outT_length (a b : List Ch) (i : Nat) : (outT a b i).length ≤ b.length := by
  unfold outT
  exact Nat.le_trans (List.length_filterMap_le _ _) (by simp; omega)
theorem restT_length (a b : List Ch) (i : Nat) : (restT a b i).length ≤ a.length := List.length_filter_le _ _
theorem mem_restT {a b : List Ch} {d : Ch} : d ∈ restT a b b.length ↔ d ∈ a ∧ lk b d.x d.y = none := by
  unfold restT
  rw [mem_rest, List.take_length, lk_none]
  refine and_congr_right fun _ => ⟨fun h c hc hp => h (List.mem_map.2 ⟨c, hc, by simp [kd, hp]⟩), fun h hm => ?_⟩
  obtain ⟨c, hc, hk⟩ := List.mem_map.1 hm
  exact h c hc (by simpa [kd] using hk)
theorem restT_PDh {a b : List Ch} (h : PDh a) (i : Nat) : PDh (restT a b i) := rest_pair kd h _
theorem pdh_app {l l' : List Ch} (h : PDh l) (h' : PDh l') (hx : ∀ c ∈ l, ∀ d ∈ l', ¬ (c.x = d.x ∧ c.y = d.y)) : PDh (l ++ l') := List.pairwise_append.2 ⟨h, h', hx⟩
theorem then_final {a b ys : List Ch} (ha : rightCh a = true) (hb : rightCh b = true) (hp : ys.Perm (outT a b b.length ++ restT a b b.length)) (hs : ys.Pairwise fun x y => ¬ cfCh y x < 0) : ys = thenU a b := by
  have hout : ∀ d, d ∈ outT a b b.length ↔ ∃ c ∈ b, gE a c = some d := fun d => by unfold outT; rw [List.take_length, List.mem_filterMap]
  refine srt_ext (sorted_srt hs ((PDh_perm hp).2 (pdh_app ?_ (restT_PDh (right_PDh ha) _) fun c hc d hd => ?_))) (thenU_srt ha hb) fun d => ?_
  · unfold outT
    rw [List.take_length]
    unfold PDh
    rw [List.pairwise_filterMap]
    exact (right_PDh hb).imp fun {c d} h e he e' he' => by rw [(gE_pos he).1, (gE_pos he).2, (gE_pos he').1, (gE_pos he').2]; exact h
  · obtain ⟨c', hc', h⟩ := (hout c).1 hc
    have h1 := lk_none.1 (mem_restT.1 hd).2 c' hc'
    rw [(gE_pos h).1, (gE_pos h).2]; exact h1
  · rw [hp.mem_iff, thenU_mem ha hb, List.mem_append, hout, mem_restT]
    constructor
    · rintro (⟨c, hc, h⟩ | ⟨h1, h2⟩)
      · rw [gE_at hb hc] at h
        obtain ⟨h1, h2⟩ := thenAt_pos h
        rw [h1, h2, h]
      · unfold thenAt; rw [lk_mem (right_PDh ha) h1, h2]
    · intro h
      cases hb' : lk b d.x d.y with
      | some c =>
        obtain ⟨h1, h2, h3⟩ := lk_pos hb'
        exact .inl ⟨c, h1, by rw [gE_at hb h1, h2, h3, h]⟩
      | none =>
        refine .inr ⟨?_, rfl⟩
        unfold thenAt at h
        rw [hb'] at h
        cases ha' : lk a d.x d.y with
        | none => rw [ha'] at h; cases h
        | some c => rw [ha'] at h; cases h; exact (lk_pos ha').1
theorem okT_all {a b : List Ch} (_ha : PDh a) (hb : PDh b) : a.all (okT b) = true ↔ ∀ c ∈ a, ∀ d ∈ b, c.x = d.x → c.y = d.y → c.t = d.f := by
  rw [List.all_eq_true]
  refine ⟨fun h c hc d hd h1 h2 => ?_, fun h c hc => ?_⟩
  · have := h c hc
    unfold okT at this
    rw [h1, h2, lk_mem hb hd] at this
    simpa using this
  · unfold okT
    cases hl : lk b c.x c.y with
    | none => rfl
    | some d => obtain ⟨h1, h2, h3⟩ := lk_pos hl; simpa using h c hc d h1 h2.symm h3.symm

/-! ### Merge -/
def mergeAt (a b : List Ch) (x y : Int) : Option Ch := match lk a x y with
  | some c => some c
  | none => lk b x y
theorem mergeU_eq (a b : List Ch) : mergeU a b = b.foldl (insG (gU a)) a := by unfold mergeU; rw [stepU_insG]
theorem mergeU_mem {a b : List Ch} (hb : PDh b) (ha : PDh a) (d : Ch) : d ∈ mergeU a b ↔ mergeAt a b d.x d.y = some d := by
  rw [mergeU_eq, insG_mem]
  constructor
  · rintro (h | ⟨c, hc, h⟩)
    · unfold mergeAt; rw [lk_mem ha h]
    · obtain ⟨rfl, hn⟩ := gU_some h
      unfold mergeAt; rw [hn]; exact lk_mem hb hc
  · intro h
    unfold mergeAt at h
    cases ha' : lk a d.x d.y with
    | some c => rw [ha'] at h; cases h; exact .inl (lk_pos ha').1
    | none => rw [ha'] at h; exact .inr ⟨d, (lk_pos h).1, by rw [gU_eq, if_pos ha']⟩
theorem mergeU_srt {a b : List Ch} (ha : srt a) (hb : srt b) : srt (mergeU a b) := by
  rw [mergeU_eq]
  exact insU_srt hb ha fun e he => by rw [lk_mem (srt_pos ha) he]; simp
theorem badM_iff {b : List Ch} {c : Ch} : badM b c = true ↔ ∃ d, lk b c.x c.y = some d ∧ c ≠ d := by
  unfold badM
  cases lk b c.x c.y with
  | none => simp
  | some d => simp
theorem bad_swap {a b : List Ch} (ha : PDh a) {c : Ch} (hc : c ∈ a) (h : badM b c = true) : ∃ d ∈ b, d.x = c.x ∧ d.y = c.y ∧ badM a d = true := by
  obtain ⟨d, h1, h2⟩ := badM_iff.1 h
  obtain ⟨h3, h4, h5⟩ := lk_pos h1
  exact ⟨d, h3, h4, h5, badM_iff.2 ⟨c, by rw [h4, h5]; exact lk_mem ha hc, Ne.symm h2⟩⟩
theorem find_first {p : Ch → Bool} : ∀ {l : List Ch} {c : Ch}, srt l → l.find? p = some c → ∀ d ∈ l, p d = true → d = c ∨ Ch.lt c d = true
  | e :: l, c, hs, h, d, hd, hp => by
    unfold srt at hs
    rw [List.pairwise_cons] at hs
    by_cases he : p e = true
    · rw [List.find?_cons_of_pos he] at h
      cases h
      rcases List.mem_cons.1 hd with rfl | hd
      · exact .inl rfl
      · exact .inr (hs.1 d hd)
    · rw [List.find?_cons_of_neg he] at h
      rcases List.mem_cons.1 hd with rfl | hd
      · exact absurd hp he
      · exact find_first hs.2 h d hd hp
def posOf (c : Ch) : Int × Int := (c.x, c.y)
theorem bad_first {a b : List Ch} (ha : srt a) (hb : srt b) : (a.find? (badM b)).map posOf = (b.find? (badM a)).map posOf := by
  have key : ∀ {a b : List Ch}, srt a → srt b → ∀ {c}, a.find? (badM b) = some c → ∃ d, b.find? (badM a) = some d ∧ posOf d = posOf c := by
    intro a b ha hb c h
    have hc := List.mem_of_find?_eq_some h
    obtain ⟨d, hd, h1, h2, h3⟩ := bad_swap (srt_pos ha) hc (List.find?_some h)
    cases hf : b.find? (badM a) with
    | none => exact absurd h3 (List.find?_eq_none.1 hf d hd)
    | some d' =>
      have hd' := List.mem_of_find?_eq_some hf
      obtain ⟨c', hc', h4, h5, h6⟩ := bad_swap (srt_pos hb) hd' (List.find?_some hf)
      have q1 := find_first ha h c' hc' h6
      have q2 := find_first hb hf d hd h3
      refine ⟨d', rfl, ?_⟩
      unfold posOf
      rcases q1 with rfl | q1
      · rw [← h4, ← h5]
      · rcases q2 with rfl | q2
        · rw [h1, h2]
        · rw [lt_iff] at q1 q2
          omega
  cases h : a.find? (badM b) with
  | some c =>
    obtain ⟨d, h1, h2⟩ := key ha hb h
    rw [h1]; simp [h2]
  | none =>
    cases h' : b.find? (badM a) with
    | none => rfl
    | some d =>
      obtain ⟨c, h1, h2⟩ := key hb ha h'
      rw [h] at h1; cases h1
theorem bad_none {a b : List Ch} : b.find? (badM a) = none ↔ ∀ d ∈ b, ∀ c, lk a d.x d.y = some c → d = c := by
  rw [List.find?_eq_none]
  refine forall_congr' fun d => forall_congr' fun _ => ?_
  rw [badM_iff]
  constructor
  · intro h c hc
    by_cases hd : d = c
    · exact hd
    · exact absurd ⟨c, hc, hd⟩ h
  · rintro h ⟨c, hc, hd⟩
    exact hd (h c hc)
theorem merge_final {a b ys : List Ch} (ha : rightCh a = true) (hb : rightCh b = true) (hn : b.find? (badM a) = none) (hp : ys.Perm (b ++ restT a b b.length)) (hs : ys.Pairwise fun x y => ¬ cfCh y x < 0) : ys = mergeU a b := by
  rw [bad_none] at hn
  refine srt_ext (sorted_srt hs ((PDh_perm hp).2 (pdh_app (right_PDh hb) (restT_PDh (right_PDh ha) _) fun c hc d hd => lk_none.1 (mem_restT.1 hd).2 c hc))) (mergeU_srt (right_srt ha) (right_srt hb)) fun d => ?_
  rw [hp.mem_iff, mergeU_mem (right_PDh hb) (right_PDh ha), List.mem_append, mem_restT]
  unfold mergeAt
  constructor
  · rintro (h | ⟨h1, h2⟩)
    · cases ha' : lk a d.x d.y with
      | none => exact lk_mem (right_PDh hb) h
      | some c => rw [hn d h c ha']
    · rw [lk_mem (right_PDh ha) h1]
  · intro h
    cases ha' : lk a d.x d.y with
    | none => rw [ha'] at h; exact .inl (lk_pos h).1
    | some c =>
      rw [ha'] at h
      cases h
      cases hb' : lk b d.x d.y with
      | none => exact .inr ⟨(lk_pos ha').1, rfl⟩
      | some e =>
        left
        obtain ⟨h1, h2, h3⟩ := lk_pos hb'
        have := hn e h1 d (by rw [h2, h3]; exact ha')
        rw [← this]; exact h1
end Go.Proofs.Ytfoadgepblojpaa
