/-
  The walk of delta.collected, at a row of the caller's and at none.
-/
import Derived.Test.YtfoadgepblojpaaW12
import Derived.Test.YtfoadgepblojpaaP4
namespace Go.Proofs.Ytfoadgepblojpaa
open Go.AM Go.Proofs Go.Sort

/-- What it returns: the changes that it was given, in order. -/
def Coll (xs : List Ch) (v : V) : Prop := ∃ ys : List Ch, ys.Perm xs ∧ (ys.Pairwise fun x y => ¬ cfCh y x < 0) ∧ v.wk (chPair (ys, 0))

theorem coll_own (xs ls : List Ch) (hl : xs.length + ls.length ≤ 5000) :
    ConsFn Try.prog 43 [.one (.own 10000), .one (.map 10001)] [.row 4 49 (xs.map Ch.row), .map (.ints 2) (ents kd vd ls)] (Coll (xs ++ ls)) := by
  refine cons_L tb9_ok mixed _ Try.func43 rfl (by kernel_rfl) (by simp [Try.ntmps43]) (by kernel_rfl) fun cx hn => ?_
  have hw := fun d => es_wipe (ents_free kd vd vd_free ls) d
  simp -dsimp [hw]
  refine loop_L tb9_ok mixed (fun n ρ σ => ∃ done left last, n = left.length ∧ (done ++ left).Perm (xs ++ ls) ∧ ρ 5 = .int 0 ∧ ρ 9 = .one (.iter 9) ∧ σ 9 = some (.iter 10001 (ents kd vd left) last) ∧ ((ρ 0 = .one (.own 10000) ∧ σ 10000 = some (.row 4 49 (done.map Ch.row))) ∨ (ρ 0 = .one (.own 17) ∧ σ 17 = some (.row 4 49 (done.map Ch.row))))) ls.length (by rw [hn]; kernel_rfl)
    (⟨xs, ls, none, rfl, List.Perm.refl _, by simp⟩) ?_
  rintro n ρ σ ⟨done, left, last, rfl, hperm, h5, h9, s9, hac⟩
  have hdl : done.length + left.length ≤ 5000 := by have := hperm.length_eq; simp at this; omega
  have hdl' : done.length ≤ 100000 := by omega
  have hdz : ¬ (10000 < (done.length : Int)) := by omega
  have nxt : ∀ (i : Nat) (k : Key) (u : U), (ents kd vd left)[i]? = some (k, u) → ∃ c, k = kd c ∧ u = vd c ∧ (done ++ [c] ++ left.eraseIdx i).Perm (xs ++ ls) ∧ (left.eraseIdx i).length < left.length := by
    intro i k u hx
    obtain ⟨c, hc, he⟩ := ents_get kd vd hx
    cases he
    have hpe := perm_erase hc
    refine ⟨c, rfl, rfl, ?_, by have := hpe.length_eq; simp at this; omega⟩
    rw [List.append_assoc]
    exact (hpe.append_left done).trans hperm
  rcases hac with ⟨h0, s0⟩ | ⟨h0, s0⟩
  · simp -dsimp [h0, s0, h9, s9, hdl', hdz, Try.results43]
    refine ⟨fun h => ?_, fun i k u hx => ?_⟩
    · rw [ents_nil] at h
      subst h
      rw [List.append_nil] at hperm
      intro ys hp hs
      exact ⟨ys, hp.trans hperm, by simpa using hs, by simp [chPair, pairV]⟩
    · obtain ⟨c, rfl, rfl, h3, h4⟩ := nxt i k u hx
      have hw := fun d => es_wipe (ents_free kd vd vd_free (left.eraseIdx i)) d
      simp -dsimp [h0, s0, h5, h9, hw, ents_eraseIdx, kd, vd]
      refine ⟨by omega, (left.eraseIdx i).length, by omega, done ++ [c], left.eraseIdx i, rfl, h3, ?_⟩

      simp [Ch.row]
  · simp -dsimp [h0, s0, h9, s9, hdl', hdz, Try.results43]
    refine ⟨fun h => ?_, fun i k u hx => ?_⟩
    · rw [ents_nil] at h
      subst h
      rw [List.append_nil] at hperm
      intro ys hp hs
      exact ⟨ys, hp.trans hperm, by simpa using hs, by simp [chPair, pairV]⟩
    · obtain ⟨c, rfl, rfl, h3, h4⟩ := nxt i k u hx
      have hw := fun d => es_wipe (ents_free kd vd vd_free (left.eraseIdx i)) d
      simp -dsimp [h0, s0, h5, h9, hw, ents_eraseIdx, kd, vd]
      refine ⟨by omega, (left.eraseIdx i).length, by omega, done ++ [c], left.eraseIdx i, rfl, h3, ?_⟩
      simp [Ch.row]

theorem coll_nil (ls : List Ch) (hl : ls.length ≤ 5000) :
    ConsFn Try.prog 43 [.one (.d .nil), .one (.map 10000)] [.map (.ints 2) (ents kd vd ls)] (Coll (ls)) := by
  refine cons_L tb9_ok mixed _ Try.func43 rfl (by kernel_rfl) (by simp [Try.ntmps43]) (by kernel_rfl) fun cx hn => ?_
  have hw := fun d => es_wipe (ents_free kd vd vd_free ls) d
  simp -dsimp [hw]
  refine loop_L tb9_ok mixed (fun n ρ σ => ∃ done left last, n = left.length ∧ (done ++ left).Perm (ls) ∧ ρ 5 = .int 0 ∧ ρ 9 = .one (.iter 9) ∧ σ 9 = some (.iter 10000 (ents kd vd left) last) ∧ ((ρ 0 = .one (.d .nil) ∧ done = []) ∨ (ρ 0 = .one (.own 17) ∧ σ 17 = some (.row 4 49 (done.map Ch.row))))) ls.length (by rw [hn]; kernel_rfl)
    (⟨[], ls, none, rfl, List.Perm.refl _, by simp⟩) ?_
  rintro n ρ σ ⟨done, left, last, rfl, hperm, h5, h9, s9, hac⟩
  have hdl : done.length + left.length ≤ 5000 := by have := hperm.length_eq; simp at this; omega
  have hdl' : done.length ≤ 100000 := by omega
  have hdz : ¬ (10000 < (done.length : Int)) := by omega
  have nxt : ∀ (i : Nat) (k : Key) (u : U), (ents kd vd left)[i]? = some (k, u) → ∃ c, k = kd c ∧ u = vd c ∧ (done ++ [c] ++ left.eraseIdx i).Perm (ls) ∧ (left.eraseIdx i).length < left.length := by
    intro i k u hx
    obtain ⟨c, hc, he⟩ := ents_get kd vd hx
    cases he
    have hpe := perm_erase hc
    refine ⟨c, rfl, rfl, ?_, by have := hpe.length_eq; simp at this; omega⟩
    rw [List.append_assoc]
    exact (hpe.append_left done).trans hperm
  rcases hac with ⟨h0, hr⟩ | ⟨h0, s0⟩
  · simp -dsimp [h0, h9, s9, Try.results43]
    refine ⟨fun h => ?_, fun i k u hx => ?_⟩
    · rw [ents_nil] at h
      subst h
      rw [List.append_nil] at hperm
      subst hr
      exact ⟨[], hperm, List.Pairwise.nil, by simp [chPair, pairV]⟩
    · obtain ⟨c, rfl, rfl, h3, h4⟩ := nxt i k u hx
      have hw := fun d => es_wipe (ents_free kd vd vd_free (left.eraseIdx i)) d
      simp -dsimp [h0, h5, h9, hw, ents_eraseIdx, kd, vd]
      refine ⟨(left.eraseIdx i).length, by omega, done ++ [c], left.eraseIdx i, rfl, h3, ?_⟩
      rw [hr]
      simp [Ch.row]
  · simp -dsimp [h0, s0, h9, s9, hdl', hdz, Try.results43]
    refine ⟨fun h => ?_, fun i k u hx => ?_⟩
    · rw [ents_nil] at h
      subst h
      rw [List.append_nil] at hperm
      intro ys hp hs
      exact ⟨ys, hp.trans hperm, by simpa using hs, by simp [chPair, pairV]⟩
    · obtain ⟨c, rfl, rfl, h3, h4⟩ := nxt i k u hx
      have hw := fun d => es_wipe (ents_free kd vd vd_free (left.eraseIdx i)) d
      simp -dsimp [h0, s0, h5, h9, hw, ents_eraseIdx, kd, vd]
      refine ⟨by omega, (left.eraseIdx i).length, by omega, done ++ [c], left.eraseIdx i, rfl, h3, ?_⟩
      simp [Ch.row]
end Go.Proofs.Ytfoadgepblojpaa
