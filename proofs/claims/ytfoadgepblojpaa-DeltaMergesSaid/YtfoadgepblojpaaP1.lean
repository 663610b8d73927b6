/-
  Plain: lists in order by position; what the reference's inserts make.
-/
import Derived.Test.YtfoadgepblojpaaW10
namespace Go.Proofs.Ytfoadgepblojpaa
open Go.AM Go.Proofs

theorem lt_iff (a b : Ch) : Ch.lt a b = true ↔ a.y < b.y ∨ a.y = b.y ∧ a.x < b.x := by simp [Ch.lt, ltP]
theorem lt_irrefl (a : Ch) : ¬ Ch.lt a a = true := by rw [lt_iff]; omega
theorem lt_trans {a b c : Ch} (h : Ch.lt a b = true) (h' : Ch.lt b c = true) : Ch.lt a c = true := by rw [lt_iff] at *; omega
theorem lt_total (a b : Ch) : Ch.lt a b = true ∨ Ch.lt b a = true ∨ (a.x = b.x ∧ a.y = b.y) := by rw [lt_iff, lt_iff]; omega
def srt (l : List Ch) : Prop := l.Pairwise fun a b => Ch.lt a b = true
/-- Is there a change at the position? -/
def hasP (l : List Ch) (x y : Int) : Prop := ∃ c ∈ l, c.x = x ∧ c.y = y

theorem insCh_mem (c d : Ch) : ∀ l : List Ch, d ∈ insCh l c ↔ d = c ∨ d ∈ l
  | [] => by simp [insCh]
  | e :: l => by
    unfold insCh
    split
    · simp only [List.mem_cons, insCh_mem c d l]
      constructor
      · rintro (h | h | h)
        · exact .inr (.inl h)
        · exact .inl h
        · exact .inr (.inr h)
      · rintro (h | h | h)
        · exact .inr (.inl h)
        · exact .inl h
        · exact .inr (.inr h)
    · simp
theorem insCh_srt (c : Ch) : ∀ l : List Ch, srt l → (∀ d ∈ l, ¬ (d.x = c.x ∧ d.y = c.y)) → srt (insCh l c)
  | [], _, _ => by simp [insCh, srt]
  | e :: l, h, hd => by
    unfold srt at h
    rw [List.pairwise_cons] at h
    unfold insCh
    split
    · rename_i hlt
      unfold srt
      rw [List.pairwise_cons]
      refine ⟨fun d hd' => ?_, insCh_srt c l h.2 fun d hd' => hd d (List.mem_cons_of_mem _ hd')⟩
      rcases (insCh_mem c d l).1 hd' with rfl | hd'
      · exact hlt
      · exact h.1 d hd'
    · rename_i hlt
      have hce : Ch.lt c e = true := by
        rcases lt_total c e with h1 | h1 | h1
        · exact h1
        · exact absurd h1 hlt
        · exact absurd ⟨h1.1.symm, h1.2.symm⟩ (hd e (by simp))
      unfold srt
      rw [List.pairwise_cons, List.pairwise_cons]
      refine ⟨fun d hd' => ?_, h⟩
      rcases List.mem_cons.1 hd' with rfl | hd'
      · exact hce
      · exact lt_trans hce (h.1 d hd')

/-- Two lists in order with the same members are one. -/
theorem srt_ext : ∀ {l l' : List Ch}, srt l → srt l' → (∀ c, c ∈ l ↔ c ∈ l') → l = l'
  | [], [], _, _, _ => rfl
  | [], b :: l', _, _, h => by have := (h b).2 (by simp); simp at this
  | a :: l, [], _, _, h => by have := (h a).1 (by simp); simp at this
  | a :: l, b :: l', h1, h2, h => by
    unfold srt at h1 h2
    rw [List.pairwise_cons] at h1 h2
    have hab : a = b := by
      rcases List.mem_cons.1 ((h a).1 (by simp)) with h3 | h3
      · exact h3
      · rcases List.mem_cons.1 ((h b).2 (by simp)) with h4 | h4
        · exact h4.symm
        · exact absurd (lt_trans (h1.1 b h4) (h2.1 a h3)) (lt_irrefl a)
    subst hab
    congr 1
    refine srt_ext h1.2 h2.2 fun c => ⟨fun hc => ?_, fun hc => ?_⟩
    · rcases List.mem_cons.1 ((h c).1 (List.mem_cons_of_mem _ hc)) with rfl | h3
      · exact absurd (h1.1 c hc) (lt_irrefl c)
      · exact h3
    · rcases List.mem_cons.1 ((h c).2 (List.mem_cons_of_mem _ hc)) with rfl | h3
      · exact absurd (h2.1 c hc) (lt_irrefl c)
      · exact h3

/-- Inserts one after the other. -/
def insG {α : Type} (g : α → Option Ch) (out : List Ch) (c : α) : List Ch := match g c with
  | some d => insCh out d
  | none => out
theorem insG_mem {α : Type} (g : α → Option Ch) (d : Ch) : ∀ (l : List α) (z : List Ch), d ∈ l.foldl (insG g) z ↔ d ∈ z ∨ ∃ c ∈ l, g c = some d
  | [], z => by simp
  | c :: l, z => by
    rw [List.foldl_cons, insG_mem g d l]
    unfold insG
    cases hg : g c with
    | none => simp [hg]
    | some e =>
      simp only [insCh_mem, List.mem_cons, exists_eq_or_imp, hg, Option.some.injEq]
      constructor
      · rintro ((h | h) | h)
        · exact .inr (.inl h.symm)
        · exact .inl h
        · exact .inr (.inr h)
      · rintro (h | h | h)
        · exact .inl (.inr h)
        · exact .inl (.inl h.symm)
        · exact .inr h
theorem insG_srt {α : Type} (g : α → Option Ch) : ∀ (l : List α) (z : List Ch), srt z → (∀ c ∈ l, ∀ d, g c = some d → ∀ e ∈ z, ¬ (e.x = d.x ∧ e.y = d.y)) →
    l.Pairwise (fun c c' => ∀ d d', g c = some d → g c' = some d' → ¬ (d.x = d'.x ∧ d.y = d'.y)) → srt (l.foldl (insG g) z)
  | [], z, h, _, _ => h
  | c :: l, z, h, hz, hl => by
    rw [List.pairwise_cons] at hl
    rw [List.foldl_cons]
    refine insG_srt g l _ ?_ (fun c' hc' d' hd' e he => ?_) hl.2
    · unfold insG
      cases hg : g c with
      | none => exact h
      | some d => exact insCh_srt d z h fun e he => hz c (by simp) d hg e he
    · unfold insG at he
      cases hg : g c with
      | none => rw [hg] at he; exact hz c' (List.mem_cons_of_mem _ hc') d' hd' e he
      | some d =>
        rw [hg] at he
        rcases (insCh_mem d e z).1 he with rfl | he
        · exact hl.1 c' hc' e d' hg hd'
        · exact hz c' (List.mem_cons_of_mem _ hc') d' hd' e he

/-! ### cells in order -/
theorem cl_lt_iff (a b : Cl) : Cl.lt a b = true ↔ a.y < b.y ∨ a.y = b.y ∧ a.x < b.x := by simp [Cl.lt, ltP]
def srtC (l : List Cl) : Prop := l.Pairwise fun a b => Cl.lt a b = true
theorem chk_all {α : Type} {ok : α → Bool} {lt : α → α → Bool} (ht : ∀ a b c, lt a b = true → lt b c = true → lt a c = true) : ∀ (l : List α) (p : Option α), chk ok lt p l = true ↔ (∀ c ∈ l, ok c = true) ∧ l.Pairwise (fun a b => lt a b = true) ∧ ∀ q, p = some q → ∀ c ∈ l, lt q c = true
  | [], p => by simp [chk]
  | c :: l, p => by
    simp only [chk, Bool.and_eq_true, chk_all ht l (some c), List.mem_cons, forall_eq_or_imp, List.pairwise_cons]
    constructor
    · rintro ⟨⟨h1, h2⟩, h3, h4, h5⟩
      have h6 := h5 c rfl
      refine ⟨⟨h1, h3⟩, ⟨h6, h4⟩, ?_⟩
      rintro q rfl
      exact ⟨h2, fun d hd => ht q c d h2 (h6 d hd)⟩
    · rintro ⟨⟨h1, h3⟩, ⟨h6, h4⟩, h7⟩
      refine ⟨⟨h1, ?_⟩, h3, h4, ?_⟩
      · cases p with
        | none => rfl
        | some q => exact (h7 q rfl).1
      · rintro q ⟨⟩
        exact h6
theorem cl_lt_trans (a b c : Cl) (h : Cl.lt a b = true) (h' : Cl.lt b c = true) : Cl.lt a c = true := by rw [cl_lt_iff] at *; omega
theorem rightCl_iff (l : List Cl) : rightCl l = true ↔ l.length ≤ 5000 ∧ (∀ c ∈ l, c.ok = true) ∧ srtC l := by
  unfold rightCl srtC
  rw [Bool.and_eq_true, decide_eq_true_eq, chk_all cl_lt_trans]
  simp
theorem rightCh_iff (l : List Ch) : rightCh l = true ↔ l.length ≤ 10000 ∧ (∀ c ∈ l, c.ok = true) ∧ srt l := by
  unfold rightCh srt
  rw [Bool.and_eq_true, decide_eq_true_eq, chk_all (lt := Ch.lt) (fun a b c h h' => lt_trans h h')]
  simp
theorem srtC_pos {l : List Cl} (h : srtC l) : l.Pairwise fun a b => ¬ (a.x = b.x ∧ a.y = b.y) := h.imp fun {a b} hab => by rw [cl_lt_iff] at hab; omega
theorem srt_pos {l : List Ch} (h : srt l) : l.Pairwise fun a b => ¬ (a.x = b.x ∧ a.y = b.y) := h.imp fun {a b} hab => by rw [lt_iff] at hab; omega

/-- The state at a position, of a list in order. -/
theorem getP_mem : ∀ {l : List Cl}, l.Pairwise (fun a b => ¬ (a.x = b.x ∧ a.y = b.y)) → ∀ c ∈ l, getP l c.x c.y = c.s
  | d :: l, h, c, hc => by
    rw [List.pairwise_cons] at h
    unfold getP
    rcases List.mem_cons.1 hc with rfl | hc
    · simp
    · rw [if_neg (h.1 c hc)]
      exact getP_mem h.2 c hc
theorem getP_none : ∀ {l : List Cl} {x y : Int}, (∀ c ∈ l, ¬ (c.x = x ∧ c.y = y)) → getP l x y = 0
  | [], x, y, _ => rfl
  | d :: l, x, y, h => by
    unfold getP
    rw [if_neg (h d (by simp))]
    exact getP_none fun c hc => h c (List.mem_cons_of_mem _ hc)
theorem getP_some : ∀ {l : List Cl} {x y : Int}, getP l x y ≠ 0 → ∃ c ∈ l, c.x = x ∧ c.y = y ∧ c.s = getP l x y
  | [], x, y, h => absurd rfl h
  | d :: l, x, y, h => by
    unfold getP at h ⊢
    by_cases hd : d.x = x ∧ d.y = y
    · rw [if_pos hd]; exact ⟨d, by simp, hd.1, hd.2, rfl⟩
    · rw [if_neg hd] at h ⊢
      obtain ⟨c, hc, h1⟩ := getP_some h
      exact ⟨c, List.mem_cons_of_mem _ hc, h1⟩

/-! ### the changes between two patterns -/
def gA (b : List Cl) (c : Cl) : Option Ch := if getP b c.x c.y = c.s then none else some ⟨c.x, c.y, c.s, getP b c.x c.y⟩
def gB (a : List Cl) (c : Cl) : Option Ch := if getP a c.x c.y = 0 then some ⟨c.x, c.y, 0, c.s⟩ else none
theorem ofR_eq (a b : List Cl) : ofR a b = b.foldl (insG (gB a)) (a.foldl (insG (gA b)) []) := by
  have h1 : stepA b = insG (gA b) := by funext out c; unfold stepA insG gA; split <;> rfl
  have h2 : stepB a = insG (gB a) := by funext out c; unfold stepB insG gB; split <;> rfl
  unfold ofR
  rw [h1, h2]
/-- A change is one between two patterns just if it leads from the one's state to the other's, and these are not one. -/
theorem ofR_mem {a b : List Cl} (ha : rightCl a = true) (hb : rightCl b = true) (d : Ch) : d ∈ ofR a b ↔ d.f = getP a d.x d.y ∧ d.t = getP b d.x d.y ∧ d.f ≠ d.t := by
  obtain ⟨_, oka, sa⟩ := (rightCl_iff a).1 ha
  obtain ⟨_, okb, sb⟩ := (rightCl_iff b).1 hb
  have pa := srtC_pos sa
  have pb := srtC_pos sb
  rw [ofR_eq, insG_mem, insG_mem]
  constructor
  · rintro ((h | ⟨c, hc, h⟩) | ⟨c, hc, h⟩)
    · simp at h
    · unfold gA at h
      split at h
      · cases h
      · cases h
        exact ⟨(getP_mem pa c hc).symm, rfl, by simp only; omega⟩
    · unfold gB at h
      split at h
      · rename_i h0
        cases h
        have := getP_mem pb c hc
        have hs := okb c hc
        simp only [Cl.ok, Bool.and_eq_true, decide_eq_true_eq] at hs
        exact ⟨h0.symm, this.symm, by simp only; omega⟩
      · cases h
  · rintro ⟨h1, h2, h3⟩
    by_cases h0 : d.f = 0
    · right
      have hb0 : getP b d.x d.y ≠ 0 := by omega
      obtain ⟨c, hc, hx, hy, hs⟩ := getP_some hb0
      refine ⟨c, hc, ?_⟩
      unfold gB
      rw [hx, hy, if_pos (by omega), hs, ← h2, ← h0]
    · left; right
      have ha0 : getP a d.x d.y ≠ 0 := by omega
      obtain ⟨c, hc, hx, hy, hs⟩ := getP_some ha0
      refine ⟨c, hc, ?_⟩
      unfold gA
      rw [hx, hy, hs, if_neg (by omega), ← h2, ← h1]
theorem ofR_srt {a b : List Cl} (ha : rightCl a = true) (hb : rightCl b = true) : srt (ofR a b) := by
  obtain ⟨_, oka, sa⟩ := (rightCl_iff a).1 ha
  obtain ⟨_, okb, sb⟩ := (rightCl_iff b).1 hb
  have pa := srtC_pos sa
  have pb := srtC_pos sb
  have pos1 : ∀ c d, gA b c = some d → d.x = c.x ∧ d.y = c.y := fun c d h => by
    unfold gA at h; split at h
    · cases h
    · cases h; exact ⟨rfl, rfl⟩
  have pos2 : ∀ c d, gB a c = some d → d.x = c.x ∧ d.y = c.y ∧ getP a c.x c.y = 0 := fun c d h => by
    unfold gB at h; split at h
    · cases h; exact ⟨rfl, rfl, by assumption⟩
    · cases h
  rw [ofR_eq]
  refine insG_srt _ _ _ (insG_srt _ _ _ List.Pairwise.nil (fun _ _ _ _ e he => by simp at he) (pa.imp fun {c c'} h d d' hd hd' => ?_)) (fun c hc d hd e he => ?_) (pb.imp fun {c c'} h d d' hd hd' => ?_)
  · rw [(pos1 c d hd).1, (pos1 c d hd).2, (pos1 c' d' hd').1, (pos1 c' d' hd').2]; exact h
  · obtain ⟨h1, h2, h3⟩ := pos2 c d hd
    rcases (insG_mem _ _ _ _).1 he with he | ⟨c', hc', he⟩
    · simp at he
    · obtain ⟨h4, h5⟩ := pos1 c' e he
      intro h6
      have := getP_mem pa c' hc'
      have hs := oka c' hc'
      simp only [Cl.ok, Bool.and_eq_true, decide_eq_true_eq] at hs
      rw [← h4, ← h5, h6.1, h6.2, h1, h2] at this
      omega
  · rw [(pos2 c d hd).1, (pos2 c d hd).2.1, (pos2 c' d' hd').1, (pos2 c' d' hd').2.1]; exact h
end Go.Proofs.Ytfoadgepblojpaa
