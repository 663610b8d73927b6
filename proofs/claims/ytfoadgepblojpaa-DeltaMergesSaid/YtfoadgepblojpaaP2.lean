/-
  Plain: pattern.From against the reference's From.
-/
import Derived.Test.YtfoadgepblojpaaW11
import Derived.Test.YtfoadgepblojpaaP1
namespace Go.Proofs.Ytfoadgepblojpaa
open Go.AM Go.Proofs Go.Sort

theorem before_iff (c d : Cl) : before c d = true ↔ c.y < d.y ∨ c.y = d.y ∧ c.x < d.x := by simp [before, ltP]
/-- In order; equals may stand side by side. -/
def wkSrt (l : List Cl) : Prop := l.Pairwise fun a b => ¬ before b a = true
theorem insCl_perm (c : Cl) : ∀ l : List Cl, (insCl l c).Perm (c :: l)
  | [] => by simp [insCl]
  | d :: l => by
    unfold insCl
    split
    · exact List.Perm.refl _
    · exact ((insCl_perm c l).cons d).trans (List.Perm.swap c d l)
theorem insCl_srt (c : Cl) : ∀ l : List Cl, wkSrt l → wkSrt (insCl l c)
  | [], _ => by simp [insCl, wkSrt]
  | d :: l, h => by
    unfold wkSrt at h
    rw [List.pairwise_cons] at h
    unfold insCl
    split
    · rename_i hcd
      unfold wkSrt
      rw [List.pairwise_cons, List.pairwise_cons]
      refine ⟨fun e he => ?_, h⟩
      rw [before_iff] at hcd
      rw [before_iff]
      rcases List.mem_cons.1 he with rfl | he
      · omega
      · have := h.1 e he
        rw [before_iff] at this
        omega
    · rename_i hcd
      unfold wkSrt
      rw [List.pairwise_cons]
      refine ⟨fun e he => ?_, insCl_srt c l h.2⟩
      rcases List.mem_cons.1 ((insCl_perm c l).mem_iff.1 he) with rfl | he
      · exact hcd
      · exact h.1 e he
theorem foldF : ∀ (l z : List Cl), wkSrt z → wkSrt (l.foldl stepF z) ∧ (l.foldl stepF z).Perm (l.filter (fun c => !decide (c.s = 0)) ++ z)
  | [], z, h => ⟨h, List.Perm.refl _⟩
  | c :: l, z, h => by
    rw [List.foldl_cons]
    unfold stepF
    split
    · rename_i h0
      have := foldF l z h
      rw [List.filter_cons_of_neg (by simp [h0])]
      exact this
    · rename_i h0
      have := foldF l (insCl z c) (insCl_srt c z h)
      rw [List.filter_cons_of_pos (by simp [h0])]
      refine ⟨this.1, this.2.trans ?_⟩
      exact ((insCl_perm c z).append_left _).trans List.perm_middle
def PD (l : List Cl) : Prop := l.Pairwise fun a b => ¬ (a.x = b.x ∧ a.y = b.y)
theorem PD_perm {l l' : List Cl} (h : l.Perm l') : PD l ↔ PD l' :=
  List.Perm.pairwise_iff (R := fun c d : Cl => ¬ (c.x = d.x ∧ c.y = d.y)) (fun {_c _d} h h' => h ⟨h'.1.symm, h'.2.symm⟩) h
theorem incr_srt : ∀ {l : List Cl}, incr l = true → srtC l
  | [], _ => List.Pairwise.nil
  | [a], _ => by simp [srtC]
  | a :: b :: l, h => by
    unfold incr at h
    rw [Bool.and_eq_true] at h
    have ih := incr_srt h.2
    unfold srtC at ih ⊢
    rw [List.pairwise_cons]
    refine ⟨fun c hc => ?_, ih⟩
    have hab := (before_iff a b).1 h.1
    rw [List.pairwise_cons] at ih
    rcases List.mem_cons.1 hc with rfl | hc
    · rw [cl_lt_iff]; exact hab
    · have := ih.1 c hc
      rw [cl_lt_iff] at this ⊢
      omega
theorem srt_incr : ∀ {l : List Cl}, srtC l → incr l = true
  | [], _ => rfl
  | [a], _ => rfl
  | a :: b :: l, h => by
    unfold srtC at h
    rw [List.pairwise_cons] at h
    unfold incr
    rw [Bool.and_eq_true]
    have := h.1 b (by simp)
    rw [cl_lt_iff] at this
    exact ⟨(before_iff a b).2 this, srt_incr h.2⟩
theorem wk_strict {l : List Cl} (h : wkSrt l) (hp : PD l) : srtC l :=
  (h.and hp).imp fun {a b} hab => by
    have h1 := hab.1
    have h2 := hab.2
    rw [before_iff] at h1
    rw [cl_lt_iff]
    omega
theorem incr_iff {l : List Cl} (h : wkSrt l) : incr l = true ↔ PD l := ⟨fun hi => srtC_pos (incr_srt hi), fun hp => srt_incr (wk_strict h hp)⟩
def adj : List Cl → Bool
  | a :: b :: l => decide (a.x = b.x ∧ a.y = b.y) || adj (b :: l)
  | _ => false
theorem adj_incr : ∀ {l : List Cl}, wkSrt l → adj l = !incr l
  | [], _ => rfl
  | [a], _ => rfl
  | a :: b :: l, h => by
    unfold wkSrt at h
    rw [List.pairwise_cons] at h
    unfold adj incr
    rw [adj_incr h.2, Bool.not_and]
    congr 1
    have := h.1 b (by simp)
    rw [Bool.eq_iff_iff]
    simp only [decide_eq_true_eq, Bool.not_eq_true', Bool.eq_false_iff, ne_eq]
    rw [before_iff] at this ⊢
    omega
theorem srtC_ext : ∀ {l l' : List Cl}, srtC l → srtC l' → (∀ c, c ∈ l ↔ c ∈ l') → l = l'
  | [], [], _, _, _ => rfl
  | [], b :: l', _, _, h => by have := (h b).2 (by simp); simp at this
  | a :: l, [], _, _, h => by have := (h a).1 (by simp); simp at this
  | a :: l, b :: l', h1, h2, h => by
    have irr : ∀ a : Cl, ¬ Cl.lt a a = true := fun a => by rw [cl_lt_iff]; omega
    unfold srtC at h1 h2
    rw [List.pairwise_cons] at h1 h2
    have hab : a = b := by
      rcases List.mem_cons.1 ((h a).1 (by simp)) with h3 | h3
      · exact h3
      · rcases List.mem_cons.1 ((h b).2 (by simp)) with h4 | h4
        · exact h4.symm
        · exact absurd (cl_lt_trans _ _ _ (h1.1 b h4) (h2.1 a h3)) (irr a)
    subst hab
    congr 1
    refine srtC_ext h1.2 h2.2 fun c => ⟨fun hc => ?_, fun hc => ?_⟩
    · rcases List.mem_cons.1 ((h c).1 (List.mem_cons_of_mem _ hc)) with rfl | h3
      · exact absurd (h1.1 c hc) (irr c)
      · exact h3
    · rcases List.mem_cons.1 ((h c).2 (List.mem_cons_of_mem _ hc)) with rfl | h3
      · exact absurd (h2.1 c hc) (irr c)
      · exact h3
theorem scan_states : ∀ {l : List Cl}, scanE l = 0 → ∀ c ∈ l, c.placed = true ∧ 0 ≤ c.s ∧ c.s < 8
  | d :: l, h, c, hc => by
    unfold scanE at h
    split at h
    · rename_i hp
      split at h
      · omega
      · rename_i hs
        rcases List.mem_cons.1 hc with rfl | hc
        · exact ⟨hp, by omega, by omega⟩
        · exact scan_states h c hc
    · omega
theorem from_final {l ys : List Cl} (h0 : scanE l = 0) (hp : ys.Perm (l.filter fun c => decide (0 < c.s))) (hs : ys.Pairwise fun x y => ¬ cfCl y x < 0) :
    fromR l = if adj ys then ([], 8) else if ys.length > 5000 then ([], 6) else (ys, 0) := by
  obtain ⟨h1, h2⟩ := foldF l [] List.Pairwise.nil
  have hf : l.filter (fun c => !decide (c.s = 0)) = l.filter fun c => decide (0 < c.s) := by
    apply List.filter_congr
    intro c hc
    have := scan_states h0 c hc
    rw [Bool.eq_iff_iff]
    simp
    omega
  rw [List.append_nil, hf] at h2
  have hw : wkSrt ys := hs.imp fun {a b} h => by
    rw [before_iff]
    simp only [cfCl, cmpP] at h
    grind
  have hyp : ys.Perm (l.foldl stepF []) := hp.trans h2.symm
  have hinc : incr ys = incr (l.foldl stepF []) := by
    rw [Bool.eq_iff_iff, incr_iff hw, incr_iff h1]
    exact PD_perm hyp
  rw [adj_incr hw, hinc, fromR, if_pos h0]
  by_cases hi : incr (l.foldl stepF []) = true
  · have he : ys = l.foldl stepF [] := srtC_ext (incr_srt (by rw [hinc]; exact hi)) (incr_srt hi) fun c => hyp.mem_iff
    rw [if_pos hi, he, hi]
    rfl
  · rw [if_neg hi]
    have : incr (l.foldl stepF []) = false := by simpa using hi
    rw [this]
    rfl
theorem adj_drop {p : List Cl} {j : Nat} (h : j + 1 < p.length) : adj (p.drop j) = (decide (p[j].x = p[j + 1].x ∧ p[j].y = p[j + 1].y) || adj (p.drop (j + 1))) := by
  rw [List.drop_eq_getElem_cons (by omega : j < p.length), List.drop_eq_getElem_cons h, adj]
theorem adj_last {p : List Cl} {j : Nat} (h : ¬ j + 1 < p.length) : adj (p.drop j) = false := by
  rcases Nat.lt_or_ge j p.length with h1 | h1
  · rw [List.drop_eq_getElem_cons h1, List.drop_of_length_le (by omega)]; rfl
  · rw [List.drop_of_length_le h1]; rfl
end Go.Proofs.Ytfoadgepblojpaa
