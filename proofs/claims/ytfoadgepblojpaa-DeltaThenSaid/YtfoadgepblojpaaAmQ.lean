/-
  Maps that hold one entry for each of a list's elements.
-/
import Derived.Test.YtfoadgepblojpaaAmY
namespace Go.AM

section
variable {α : Type} (kf : α → Key) (vf : α → U)
def ents (l : List α) : List (Key × U) := l.map fun c => (kf c, vf c)
theorem mget_ents (k : Key) : ∀ l : List α, mget (ents kf vf l) k = (l.find? fun c => decide (kf c = k)).map vf
  | [] => rfl
  | c :: l => by
    show mget ((kf c, vf c) :: ents kf vf l) k = _
    unfold mget
    by_cases h : kf c = k
    · rw [if_pos h, List.find?_cons_of_pos (by simpa using h)]; rfl
    · rw [if_neg h, List.find?_cons_of_neg (by simpa using h)]
      exact mget_ents k l
theorem mdel_ents (k : Key) : ∀ l : List α, l.Pairwise (fun c d => kf c ≠ kf d) → mdel (ents kf vf l) k = ents kf vf (l.filter fun c => !decide (kf c = k))
  | [], _ => rfl
  | c :: l, hl => by
    rw [List.pairwise_cons] at hl
    show mdel ((kf c, vf c) :: ents kf vf l) k = _
    unfold mdel
    by_cases h : kf c = k
    · rw [if_pos h, List.filter_cons_of_neg (by simp [h])]
      congr 1
      symm
      rw [List.filter_eq_self]
      intro d hd
      have := hl.1 d hd
      rw [h] at this
      simp [Ne.symm this]
    · rw [if_neg h, List.filter_cons_of_pos (by simpa using h), mdel_ents k l hl.2]
      rfl
theorem mset_ents_new (k : Key) (u : U) : ∀ l : List α, (∀ c ∈ l, kf c ≠ k) → mset (ents kf vf l) k u = ents kf vf l ++ [(k, u)]
  | [], _ => rfl
  | c :: l, h => by
    show mset ((kf c, vf c) :: ents kf vf l) k u = _
    unfold mset
    rw [if_neg (h c (by simp)), mset_ents_new k u l fun d hd => h d (List.mem_cons_of_mem _ hd)]
    rfl
theorem mset_fold (l : List α) (hl : l.Pairwise fun c d => kf c ≠ kf d) : l.foldl (fun es c => mset es (kf c) (vf c)) [] = ents kf vf l := by
  have : ∀ (l z : List α), (∀ c ∈ z, ∀ d ∈ l, kf c ≠ kf d) → l.Pairwise (fun c d => kf c ≠ kf d) → l.foldl (fun es c => mset es (kf c) (vf c)) (ents kf vf z) = ents kf vf (z ++ l) := by
    intro l
    induction l with
    | nil => intro z _ _; simp
    | cons c l ih =>
      intro z hz hl
      rw [List.pairwise_cons] at hl
      rw [List.foldl_cons, mset_ents_new kf vf _ _ z fun d hd => hz d hd c (by simp)]
      have : ents kf vf z ++ [(kf c, vf c)] = ents kf vf (z ++ [c]) := by simp [ents]
      rw [this, ih (z ++ [c]) (fun d hd e he => ?_) hl.2]
      · simp
      · rcases List.mem_append.1 hd with hd | hd
        · exact hz d hd e (List.mem_cons_of_mem _ he)
        · rw [List.mem_singleton] at hd; subst hd; exact hl.1 e he
  have h := this l [] (fun _ h => by simp at h) hl
  rw [List.nil_append] at h
  exact h
theorem ents_free (hf : ∀ c, (vf c).free = true) (l : List α) : esFree (ents kf vf l) = true := by
  induction l with
  | nil => rfl
  | cons c l ih =>
    show esFree ((kf c, vf c) :: ents kf vf l) = true
    rw [esFree_cons, ih]
    simp only [hf c]; rfl
theorem ents_get {l : List α} {i : Nat} {x : Key × U} (h : (ents kf vf l)[i]? = some x) : ∃ c, l[i]? = some c ∧ x = (kf c, vf c) := by
  unfold ents at h
  rw [List.getElem?_map] at h
  cases hc : l[i]? with
  | none => rw [hc] at h; cases h
  | some c => rw [hc] at h; cases h; exact ⟨c, rfl, rfl⟩
theorem ents_eraseIdx (l : List α) (i : Nat) : (ents kf vf l).eraseIdx i = ents kf vf (l.eraseIdx i) := by
  unfold ents
  induction l generalizing i with
  | nil => rfl
  | cons c l ih =>
    cases i with
    | zero => rfl
    | succ i => simp only [List.map_cons, List.eraseIdx_cons_succ, ih]
theorem ents_nil (l : List α) : ents kf vf l = [] ↔ l = [] := by simp [ents]

/-- What is left of l when the keys of ks are gone. -/
def rest (l : List α) (ks : List Key) : List α := l.filter fun c => !decide (kf c ∈ ks)
theorem rest_nil (l : List α) : rest kf l [] = l := by simp [rest]
theorem rest_add (l : List α) (ks : List Key) (k : Key) : rest kf l (ks ++ [k]) = (rest kf l ks).filter fun c => !decide (kf c = k) := by
  unfold rest
  rw [List.filter_filter]
  apply List.filter_congr
  intro c _
  by_cases h1 : kf c ∈ ks <;> by_cases h2 : kf c = k <;> simp [h1, h2]
theorem rest_pair {l : List α} {R : α → α → Prop} (h : l.Pairwise R) (ks : List Key) : (rest kf l ks).Pairwise R := h.sublist (List.filter_sublist)
theorem rest_find (l : List α) (ks : List Key) (k : Key) (hk : k ∉ ks) : (rest kf l ks).find? (fun c => decide (kf c = k)) = l.find? fun c => decide (kf c = k) := by
  unfold rest
  induction l with
  | nil => rfl
  | cons c l ih =>
    by_cases h1 : kf c ∈ ks
    · rw [List.filter_cons_of_neg (by simp [h1]), ih, List.find?_cons_of_neg]
      simp
      rintro rfl
      exact hk h1
    · rw [List.filter_cons_of_pos (by simp [h1])]
      by_cases h2 : kf c = k
      · rw [List.find?_cons_of_pos (by simpa using h2), List.find?_cons_of_pos (by simpa using h2)]
      · rw [List.find?_cons_of_neg (by simpa using h2), List.find?_cons_of_neg (by simpa using h2), ih]
theorem mem_rest {l : List α} {ks : List Key} {c : α} : c ∈ rest kf l ks ↔ c ∈ l ∧ kf c ∉ ks := by simp [rest]
theorem perm_erase {l : List α} {i : Nat} {c : α} (h : l[i]? = some c) : (c :: l.eraseIdx i).Perm l := by
  induction l generalizing i with
  | nil => simp at h
  | cons d l ih =>
    cases i with
    | zero => simp at h; subst h; exact List.Perm.refl _
    | succ i =>
      simp only [List.getElem?_cons_succ] at h
      simp only [List.eraseIdx_cons_succ]
      exact (List.Perm.swap d c _).trans ((ih h).cons d)
end
end Go.AM
