/-
  Plain: Apply.
-/
import Derived.Test.YtfoadgepblojpaaW13
import Derived.Test.YtfoadgepblojpaaP2
namespace Go.Proofs.Ytfoadgepblojpaa
open Go.AM Go.Proofs Go.Sort

def setL (cs : List Cl) (x y s : Int) : List Cl := match cs with
  | [] => [⟨x, y, s⟩]
  | d :: ds => if d.x = x ∧ d.y = y then ⟨x, y, s⟩ :: ds else d :: setL ds x y s
def delL (cs : List Cl) (x y : Int) : List Cl := cs.filter fun d => !decide (kc d = .ints [x, y])
def stepL (cs : List Cl) (c : Ch) : List Cl := if c.t = 0 then delL (setL cs c.x c.y c.t) c.x c.y else setL cs c.x c.y c.t
def stL (p : List Cl) (l : List Ch) (i : Nat) : List Cl := (l.take i).foldl stepL p
theorem mset_setL (x y s : Int) : ∀ cs : List Cl, mset (ents kc vc cs) (.ints [x, y]) (.one (.d (.int .i64 s))) = ents kc vc (setL cs x y s)
  | [] => rfl
  | d :: ds => by
    show mset ((kc d, vc d) :: ents kc vc ds) _ _ = _
    unfold mset setL
    by_cases h : d.x = x ∧ d.y = y
    · rw [if_pos ((kc_eq d x y).2 h), if_pos h]; rfl
    · rw [if_neg fun h' => h ((kc_eq d x y).1 h'), if_neg h, mset_setL x y s ds]; rfl
theorem setL_mem (x y s : Int) (e : Cl) : ∀ {cs : List Cl}, e ∈ setL cs x y s → e = ⟨x, y, s⟩ ∨ e ∈ cs
  | [], h => by simp [setL] at h; exact .inl h
  | d :: ds, h => by
    unfold setL at h
    split at h
    · rcases List.mem_cons.1 h with h | h
      · exact .inl h
      · exact .inr (List.mem_cons_of_mem _ h)
    · rcases List.mem_cons.1 h with h | h
      · exact .inr (by rw [h]; simp)
      · exact (setL_mem x y s e h).imp id (List.mem_cons_of_mem _)
theorem setL_PD (x y s : Int) : ∀ {cs : List Cl}, PD cs → PD (setL cs x y s)
  | [], _ => by simp [setL, PD]
  | d :: ds, h => by
    unfold PD at h
    rw [List.pairwise_cons] at h
    unfold setL
    split
    · rename_i hd
      unfold PD
      rw [List.pairwise_cons]
      exact ⟨fun e he => by have := h.1 e he; rw [hd.1, hd.2] at this; exact this, h.2⟩
    · rename_i hd
      unfold PD
      rw [List.pairwise_cons]
      refine ⟨fun e he => ?_, setL_PD x y s h.2⟩
      rcases setL_mem x y s e he with rfl | he
      · exact hd
      · exact h.1 e he
theorem getP_setL (x y s x' y' : Int) : ∀ cs : List Cl, getP (setL cs x y s) x' y' = if x' = x ∧ y' = y then s else getP cs x' y'
  | [] => by
    simp only [setL, getP]
    by_cases h : x' = x ∧ y' = y
    · rw [if_pos ⟨h.1.symm, h.2.symm⟩, if_pos h]
    · rw [if_neg fun h' => h ⟨h'.1.symm, h'.2.symm⟩, if_neg h]
  | d :: ds => by
    unfold setL
    split
    · rename_i hd
      simp only [getP]
      by_cases h : x' = x ∧ y' = y
      · rw [if_pos ⟨h.1.symm, h.2.symm⟩, if_pos h]
      · rw [if_neg fun h' => h ⟨h'.1.symm, h'.2.symm⟩, if_neg h, if_neg fun h' => h (by rw [← hd.1, ← hd.2]; exact ⟨h'.1.symm, h'.2.symm⟩)]
    · rename_i hd
      simp only [getP]
      by_cases h1 : d.x = x' ∧ d.y = y'
      · rw [if_pos h1, if_neg fun h => hd (by rw [h1.1, h1.2]; exact h), if_pos h1]
      · rw [if_neg h1, if_neg h1, getP_setL x y s x' y' ds]
theorem delL_PD {cs : List Cl} (h : PD cs) (x y : Int) : PD (delL cs x y) := h.sublist (List.filter_sublist)
theorem getP_delL {cs : List Cl} (x y x' y' : Int) : getP (delL cs x y) x' y' = if x' = x ∧ y' = y then 0 else getP cs x' y' := by
  unfold delL
  induction cs with
  | nil => simp [getP]
  | cons d ds ih =>
    by_cases h : d.x = x ∧ d.y = y
    · rw [List.filter_cons_of_neg (by simp [(kc_eq d x y).2 h]), ih]
      simp only [getP]
      by_cases h1 : x' = x ∧ y' = y
      · rw [if_pos h1, if_pos h1]
      · rw [if_neg h1, if_neg h1, if_neg fun h2 => h1 (by rw [← h.1, ← h.2]; exact ⟨h2.1.symm, h2.2.symm⟩)]
    · rw [List.filter_cons_of_pos (by simpa using fun h' => h ((kc_eq d x y).1 h'))]
      simp only [getP]
      by_cases h2 : d.x = x' ∧ d.y = y'
      · rw [if_pos h2, if_pos h2, if_neg fun h1 => h (by rw [h2.1, h2.2]; exact h1)]
      · rw [if_neg h2, if_neg h2, ih]
theorem stepL_PD {cs : List Cl} (h : PD cs) (c : Ch) : PD (stepL cs c) := by
  unfold stepL
  split
  · exact delL_PD (setL_PD _ _ _ h) _ _
  · exact setL_PD _ _ _ h
theorem getP_stepL {cs : List Cl} (c : Ch) (x y : Int) : getP (stepL cs c) x y = if x = c.x ∧ y = c.y then c.t else getP cs x y := by
  unfold stepL
  split
  · rename_i h0
    rw [getP_delL, getP_setL]
    split
    · rw [h0]
    · rfl
  · rw [getP_setL]
/-- All cells lie within bounds and are alive. -/
def okL (cs : List Cl) : Prop := ∀ c ∈ cs, c.ok = true
theorem stepL_ok {cs : List Cl} (h : okL cs) {c : Ch} (hc : c.ok = true) : okL (stepL cs c) := by
  simp only [Ch.ok, Bool.and_eq_true, decide_eq_true_eq] at hc
  intro e he
  unfold stepL at he
  split at he
  · rename_i h0
    unfold delL at he
    obtain ⟨h1, h2⟩ := List.mem_filter.1 he
    rcases setL_mem _ _ _ e h1 with rfl | h1
    · simp [kc] at h2
    · exact h e h1
  · rename_i h0
    rcases setL_mem _ _ _ e he with rfl | h1
    · simp only [Cl.ok, Bool.and_eq_true, decide_eq_true_eq]
      exact ⟨hc.1, by omega⟩
    · exact h e h1
theorem foldL_PD : ∀ (l : List Ch) {cs : List Cl}, PD cs → PD (l.foldl stepL cs)
  | [], _, h => h
  | c :: l, _, h => foldL_PD l (stepL_PD h c)
theorem foldL_ok : ∀ (l : List Ch) {cs : List Cl}, (∀ c ∈ l, c.ok = true) → okL cs → okL (l.foldl stepL cs)
  | [], _, _, h => h
  | c :: l, _, hl, h => foldL_ok l (fun d hd => hl d (List.mem_cons_of_mem _ hd)) (stepL_ok h (hl c (by simp)))
theorem lk_pos {l : List Ch} {x y : Int} {c : Ch} (h : lk l x y = some c) : c ∈ l ∧ c.x = x ∧ c.y = y := by
  unfold lk at h
  exact ⟨List.mem_of_find?_eq_some h, by have := List.find?_some h; simpa using this⟩
theorem lk_mem : ∀ {l : List Ch}, l.Pairwise (fun a b => ¬ (a.x = b.x ∧ a.y = b.y)) → ∀ {d : Ch}, d ∈ l → lk l d.x d.y = some d
  | e :: l, hpp, d, hd => by
    rw [List.pairwise_cons] at hpp
    unfold lk
    rcases List.mem_cons.1 hd with rfl | hd
    · rw [List.find?_cons_of_pos (by simp)]
    · rw [List.find?_cons_of_neg (by simpa using hpp.1 d hd)]
      exact lk_mem hpp.2 hd
theorem getP_foldL : ∀ (l : List Ch) (cs : List Cl) (x y : Int), srt l → getP (l.foldl stepL cs) x y = match lk l x y with | some c => c.t | none => getP cs x y
  | [], cs, x, y, _ => rfl
  | c :: l, cs, x, y, h => by
    have hs := h
    unfold srt at hs
    rw [List.pairwise_cons] at hs
    rw [List.foldl_cons, getP_foldL l (stepL cs c) x y hs.2, getP_stepL]
    unfold lk
    by_cases hc : c.x = x ∧ c.y = y
    · rw [List.find?_cons_of_pos (by simpa using hc)]
      have : (l.find? fun c => decide (c.x = x ∧ c.y = y)) = none := by
        rw [List.find?_eq_none]
        intro d hd
        have := hs.1 d hd
        rw [lt_iff] at this
        simp
        omega
      rw [this]
      simp only
      rw [if_pos ⟨hc.1.symm, hc.2.symm⟩]
    · rw [List.find?_cons_of_neg (by simpa using hc)]
      split
      · rfl
      · rw [if_neg fun h' => hc ⟨h'.1.symm, h'.2.symm⟩]
theorem mem_getP {cs : List Cl} (hp : PD cs) (ho : okL cs) (c : Cl) : c ∈ cs ↔ getP cs c.x c.y = c.s ∧ c.s ≠ 0 := by
  constructor
  · intro h
    have := ho c h
    simp only [Cl.ok, Bool.and_eq_true, decide_eq_true_eq] at this
    exact ⟨getP_mem hp c h, by omega⟩
  · rintro ⟨h1, h2⟩
    obtain ⟨d, hd, hx, hy, hs⟩ := getP_some (l := cs) (x := c.x) (y := c.y) (by omega)
    have : d = c := by
      cases c; cases d
      simp only at *
      subst hx hy
      rw [hs, h1]
    exact this ▸ hd

theorem scan_zero : ∀ {l : List Cl}, (∀ c ∈ l, c.placed = true ∧ 0 ≤ c.s ∧ c.s < 8) → scanE l = 0
  | [], _ => rfl
  | c :: l, h => by
    unfold scanE
    have := h c (by simp)
    rw [if_pos this.1, if_neg (by omega)]
    exact scan_zero fun d hd => h d (List.mem_cons_of_mem _ hd)
def nz (l : List Cl) : List Cl := l.filter fun c => !decide (c.s = 0)
theorem fromR_ext {l l' : List Cl} (h : scanE l = 0) (h' : scanE l' = 0) (hp : PD (nz l)) (hp' : PD (nz l')) (hm : ∀ c, c ∈ nz l ↔ c ∈ nz l') : fromR l = fromR l' := by
  obtain ⟨s1, p1⟩ := foldF l [] List.Pairwise.nil
  obtain ⟨s2, p2⟩ := foldF l' [] List.Pairwise.nil
  rw [List.append_nil] at p1 p2
  have he : l.foldl stepF [] = l'.foldl stepF [] := by
    refine srtC_ext (wk_strict s1 ((PD_perm p1).2 hp)) (wk_strict s2 ((PD_perm p2).2 hp')) fun c => ?_
    rw [p1.mem_iff, p2.mem_iff]
    exact hm c
  unfold fromR
  rw [h, h', he]
theorem apply_final {p : List Cl} {l : List Ch} (hp : rightCl p = true) (hl : rightCh l = true) {out : List Cl} (ho : out.Perm (stL p l l.length)) : fromR out = fromR (applyC p l) := by
  obtain ⟨_, okp, sp⟩ := (rightCl_iff p).1 hp
  obtain ⟨_, okl, sl⟩ := (rightCh_iff l).1 hl
  have pdp : PD p := srtC_pos sp
  unfold stL at ho
  rw [List.take_length] at ho
  have hPD := foldL_PD l pdp
  have hok := foldL_ok l okl okp
  have hget := fun x y => getP_foldL l p x y sl
  have hoo : okL out := fun c hc => hok c (ho.mem_iff.1 hc)
  have hnz : nz out = out := by
    unfold nz
    rw [List.filter_eq_self]
    intro c hc
    have := hoo c hc
    simp only [Cl.ok, Bool.and_eq_true, decide_eq_true_eq] at this
    simp
    omega
  have hPDo : PD out := (PD_perm ho).2 hPD
  have hpc : (applyC p l).Pairwise fun a b => ¬ (a.x = b.x ∧ a.y = b.y) := by
    unfold applyC
    rw [List.pairwise_append, List.pairwise_map]
    refine ⟨srt_pos sl, List.Pairwise.sublist List.filter_sublist pdp, fun a ha b hb hab => ?_⟩
    obtain ⟨c, hc, rfl⟩ := List.mem_map.1 ha
    obtain ⟨hb1, hb2⟩ := List.mem_filter.1 hb
    rw [decide_eq_true_eq, findP_neg] at hb2
    unfold lk at hb2
    rw [List.find?_eq_none] at hb2
    have := hb2 c hc
    simp at this
    exact this hab.1 hab.2
  refine fromR_ext (scan_zero fun c hc => ?_) (scan_zero fun c hc => ?_) (by rw [hnz]; exact hPDo) (hpc.sublist List.filter_sublist) fun c => ?_
  · have := hoo c hc
    simp only [Cl.ok, Bool.and_eq_true, decide_eq_true_eq] at this
    simp only [Cl.placed, decide_eq_true_eq]
    omega
  · unfold applyC at hc
    rcases List.mem_append.1 hc with hc | hc
    · obtain ⟨d, hd, rfl⟩ := List.mem_map.1 hc
      have := okl d hd
      simp only [Ch.ok, Bool.and_eq_true, decide_eq_true_eq] at this
      exact ⟨decide_eq_true this.1, this.2.2.2.1, this.2.2.2.2.1⟩
    · have := okp c (List.mem_filter.1 hc).1
      simp only [Cl.ok, Bool.and_eq_true, decide_eq_true_eq] at this
      simp only [Cl.placed, decide_eq_true_eq]
      omega
  · rw [hnz, ho.mem_iff, mem_getP hPD hok, hget]
    unfold nz applyC
    rw [List.mem_filter, List.mem_append]
    constructor
    · rintro ⟨h1, h2⟩
      refine ⟨?_, by simpa using h2⟩
      split at h1
      · rename_i d hd
        obtain ⟨h3, h4, h5⟩ := lk_pos hd
        left
        refine List.mem_map.2 ⟨d, h3, ?_⟩
        cases c
        simp only [Ch.cl] at *
        rw [h4, h5, h1]
      · rename_i hd
        right
        refine List.mem_filter.2 ⟨(mem_getP pdp okp c).2 ⟨h1, h2⟩, ?_⟩
        rw [decide_eq_true_eq, findP_neg]
        exact hd
    · rintro ⟨h1, h2⟩
      refine ⟨?_, by simpa using h2⟩
      rcases h1 with h1 | h1
      · obtain ⟨d, hd, rfl⟩ := List.mem_map.1 h1
        have : lk l d.x d.y = some d := lk_mem (srt_pos sl) hd
        show (match lk l d.x d.y with | some c => c.t | none => getP p d.x d.y) = d.t
        rw [this]
      · obtain ⟨h3, h4⟩ := List.mem_filter.1 h1
        rw [decide_eq_true_eq, findP_neg] at h4
        rw [h4]
        exact getP_mem pdp c h3
end Go.Proofs.Ytfoadgepblojpaa
