/-
  The walk of delta.Merge.
-/
import Derived.Test.YtfoadgepblojpaaW19
namespace Go.Proofs.Ytfoadgepblojpaa
open Go.AM Go.Proofs Go.Sort

theorem merge_spec (a b : List Ch) (ha : a.length ≤ 1000) (hb : b.length ≤ 1000) : PFn Try.prog 23 [.one (.d (chL a)), .one (.d (chL b))] (fun v => v.wk (mergeV (mergeR a b))) := by
  have ha' : a.length ≤ 100000 := by omega
  have hb' : b.length ≤ 100000 := by omega
  have hba := big hb'
  refine pfn_L tb11_ok mixed _ Try.func23 rfl (by kernel_rfl) (by simp [Try.ntmps23]) (by kernel_rfl) fun cx hn => ?_
  by_cases h1 : rightCh a = true
  · by_cases h2 : rightCh b = true
    · obtain ⟨_, oka, sa⟩ := (rightCh_iff a).1 h1
      obtain ⟨_, okb, sb⟩ := (rightCh_iff b).1 h2
      have pa := srt_pos sa
      have pb := srt_pos sb
      have hpl := placedCh h1
      have hM : changesM a = ents kd vd (restT a b 0) := by rw [changesM_ents pa]; unfold restT; rw [List.take_zero, List.map_nil, rest_nil]
      simp -dsimp [chL, ha', hb', h1, h2, hpl, Try.results23]
      refine loop_up tb11_ok mixed b.length (fun i ρ σ => ρ 5 = .one (.box 5 0) ∧ σ 5 = some (.box [.d (.int .i64 0), .d (.int .i64 0)]) ∧ ρ 6 = .int 0 ∧ ρ 7 = .one (.map 24) ∧ ρ 1 = .one (.d (chL b)) ∧ ρ 25 = .one (.d (chL b)) ∧ ρ 26 = .int b.length ∧ ρ 27 = .int i ∧ σ 24 = some (.map (.ints 2) (ents kd vd (restT a b i))) ∧ b.find? (badM a) = (b.drop i).find? (badM a))
        (by rw [hn]; kernel_rfl) (by simp [chL, hM]) ?_
      rintro i ρ σ hi ⟨h5, s5, h6, h7, hr1, h25, h26, h27, s24, hq⟩
      have hw := fun d => es_wipe (ents_free kd vd vd_free (restT a b i)) d
      have hw' := fun d => es_wipe (ents_free kd vd vd_free (restT a b (i + 1))) d
      have hrL := restT_length a b i
      by_cases hlt : i < b.length
      · have hc : b[i]? = some b[i] := List.getElem?_eq_getElem hlt
        have hok := okb b[i] (List.getElem_mem hlt)
        simp only [Ch.ok, Bool.and_eq_true, decide_eq_true_eq] at hok
        have hf1 := wf_i64 hok.1.1 hok.1.2.1
        have hf2 := wf_i64 hok.1.2.2.1 hok.1.2.2.2
        have hget := restT_get (a := a) hlt pb
        have hdel := restT_up hlt pa
        rw [List.drop_eq_getElem_cons hlt] at hq
        have hbad : badM a b[i] = true → V.wk (.tup [.one (.d .nil), .agg [.d (.int .i64 b[i].x), .d (.int .i64 b[i].y)], .one (.d (.int .i64 17))]) (mergeV (mergeR a b)) := fun h => by
          rw [List.find?_cons_of_pos h] at hq
          have hf := bad_first sa sb
          rw [hq] at hf
          cases hfa : a.find? (badM b) with
          | none => rw [hfa] at hf; cases hf
          | some c =>
            rw [hfa] at hf
            have : c.x = b[i].x ∧ c.y = b[i].y := by simpa [posOf] using hf
            simp [mergeR, h1, h2, hfa, mergeV, tripV, this]
        have hgo : badM a b[i] = false → b.find? (badM a) = (b.drop (i + 1)).find? (badM a) := fun h => by rw [hq, List.find?_cons_of_neg (by simp [h])]
        generalize hR : restT a b i = R at *
        cases hlk : lk a b[i].x b[i].y with
        | none =>
          rw [hlk] at hget
          have hgo := hgo (by unfold badM; rw [hlk])
          simp -dsimp [h5, s5, h6, h7, hr1, h25, h26, h27, s24, hw, hf1, hf2, hget, hdel, hlt, chL, Ch.row, Try.results23, wrap_up hlt hba]
          exact hgo
        | some x =>
          rw [hlk] at hget
          have he : b[i] = x ↔ b[i].x = x.x ∧ b[i].y = x.y ∧ b[i].f = x.f ∧ b[i].t = x.t := by
            cases b[i]; cases x; simp
          have hbM : badM a b[i] = decide (b[i] ≠ x) := by unfold badM; rw [hlk]
          rw [hbM] at hbad hgo
          simp only [decide_eq_true_eq, decide_eq_false_iff_not, he, ne_eq, Decidable.not_not] at hbad hgo
          simp -dsimp [h5, s5, h6, h7, hr1, h25, h26, h27, s24, hw, hf1, hf2, hget, hdel, hlt, vd, chL, Ch.row, Try.results23, wrap_up hlt hba]
          exact ⟨fun h => hbad (by omega), fun q1 q2 q3 q4 => hgo ⟨q1.symm, q2.symm, q3.symm, q4.symm⟩⟩
      · have hib : i = b.length := by omega
        subst hib
        rw [List.drop_of_length_le (Nat.le_refl _)] at hq
        have hnb : b.find? (badM a) = none := hq
        have hna : a.find? (badM b) = none := by
          have := bad_first sa sb
          rw [hnb] at this
          simpa using this
        have hfin := fun (ys : List Ch) hp hs => merge_final h1 h2 hnb (ys := ys) hp hs
        have hT : mergeR a b = if (mergeU a b).length > 10000 then ([], (0, 0), 6) else (mergeU a b, (0, 0), 0) := by unfold mergeR; rw [h1, h2, hna]; rfl
        have hlen : b.length + (restT a b b.length).length ≤ 5000 := by omega
        rw [hT]
        generalize restT a b b.length = R at *
        generalize mergeU a b = U at *
        have hfin' : ∀ ys : List Ch, ys.Perm (b ++ R) → (ys.Pairwise fun x y => ¬ cfCh y x < 0) → mergeV (if U.length > 10000 then ([], (0, 0), 6) else (U, (0, 0), 0)) = mergeV (ys, (0, 0), 0) := fun ys hp hs => by
          rw [← hfin ys hp hs, if_neg (by have := hp.length_eq; simp at this; omega)]
        simp -dsimp [h7, hr1, h25, h26, h27, s24, hw, hlen, hlt, hb', chL]
        intro ys hp hs
        rw [hfin' ys hp (by simpa using hs)]
        simp -dsimp [chPair, pairV, mergeV, tripV, h5, s5, Try.results23]
    · simp -dsimp [chL, ha', hb', h1, h2, Try.results23, mergeR, mergeV, tripV]
  · simp -dsimp [chL, ha', h1, Try.results23, mergeR, mergeV, tripV]
end Go.Proofs.Ytfoadgepblojpaa
