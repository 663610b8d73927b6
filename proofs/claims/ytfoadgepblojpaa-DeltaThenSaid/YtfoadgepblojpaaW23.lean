/-
  The walks of the laws without the reference: DeltaReturns, DeltaThen, DeltaMerges.
-/
import Derived.Test.YtfoadgepblojpaaP5
namespace Go.Proofs.Ytfoadgepblojpaa
open Go.AM Go.Proofs Go.Sort

theorem chV_nul : chV (.u (.one (.d (.sl 4 [])))) = some [] := rfl
theorem clV_nul : clV (.u (.one (.d (.sl 3 [])))) = some [] := rfl
attribute [simp] chV_nul clV_nul
set_option maxRecDepth 8000 in
theorem returns_spec (a b : List Cl) : PFn Try.prog 6 [.one (.d (clL a)), .one (.d (clL b))] (· = .bool true) := by
  refine pfn_L tb13_ok mixed _ Try.func6 rfl (by kernel_rfl) (by simp [Try.ntmps6]) (by kernel_rfl) fun cx hn => ?_
  by_cases hf : fewB a b [] [] = true
  · obtain ⟨h1, h2, h3, h4⟩ := fewB_le hf
    have q1 : a.length ≤ 1000 := by omega
    have q2 : b.length ≤ 1000 := by omega
    have q3 : a.length ≤ 100000 := by omega
    have q4 : b.length ≤ 100000 := by omega
    by_cases ra : rightCl a = true
    · by_cases rb : rightCl b = true
      · obtain ⟨e1, e2, e3, e4, e5, e6, e7, e8, e9⟩ := returns_plain ra rb (by omega)
        have hl := ofL_length a b
        have hi := invL_length (ofL a b)
        have q5 : (ofL a b).length ≤ 1000 := by omega
        have q6 : (ofL a b).length ≤ 100000 := by omega
        have q7 : (invL (ofL a b)).length ≤ 1000 := by omega
        have q8 : IntKind.i64.wrap ((a.length : Int) + (b.length : Int)) = (a.length : Int) + (b.length : Int) := IntWalk.i64_in _ (by omega)
        have q9 : ((ofL a b).length : Int) ≤ (a.length : Int) + (b.length : Int) := by omega
        simp -dsimp [clL, hf, ra, rb, e1, e2, e3, e4, e5, e6, e7, e8, e9, q1, q2, q3, q4, q5, q6, q7, q8, q9, Try.results6]
      · simp -dsimp [clL, hf, ra, rb, q3, q4, Try.results6]
    · simp -dsimp [clL, hf, ra, q3, Try.results6]
  · simp -dsimp [clL, hf, Try.results6]

set_option maxRecDepth 8000 in
theorem merges_spec (a b : List Ch) : PFn Try.prog 8 [.one (.d (chL a)), .one (.d (chL b))] (· = .bool true) := by
  refine pfn_L tb13_ok mixed _ Try.func8 rfl (by kernel_rfl) (by simp [Try.ntmps8]) (by kernel_rfl) fun cx hn => ?_
  by_cases hf : fewB [] [] a b = true
  · obtain ⟨h1, h2, h3, h4⟩ := fewB_le hf
    have q1 : a.length ≤ 1000 := by omega
    have q2 : b.length ≤ 1000 := by omega
    have q3 : a.length ≤ 100000 := by omega
    have hml := mrgL_length a b
    have q5 : (mrgL a b).length ≤ 100000 := by omega
    have q6 : (thnL a b).length ≤ 100000 := by have := thnL_length a b; omega
    have q8 : IntKind.i64.wrap ((a.length : Int) + (b.length : Int)) = (a.length : Int) + (b.length : Int) := IntWalk.i64_in _ (by omega)
    have m1 : mrgL b a = mrgL a b := by unfold mrgL; rw [merge_comm]
    have m2 : mrgX b a = mrgX a b := by unfold mrgX; rw [merge_comm]
    have m3 : mrgY b a = mrgY a b := by unfold mrgY; rw [merge_comm]
    have m4 : mrgE b a = mrgE a b := by unfold mrgE; rw [merge_comm]
    have hs : rightCh a = true → mrgL a a = a ∧ mrgX a a = 0 ∧ mrgY a a = 0 ∧ mrgE a a = 0 := fun h => by
      unfold mrgL mrgX mrgY mrgE; rw [merge_self h]; exact ⟨rfl, rfl, rfl, rfl⟩
    by_cases he : mrgE a b = 0
    · have hlen : ((mrgL a b).length : Int) = (a.length : Int) + (b.length : Int) ∨ ((mrgL a b).length : Int) < (a.length : Int) + (b.length : Int) := by omega
      rcases hlen with hlen | hlen
      · obtain ⟨t1, t2, t3, t4⟩ := merge_then he (by omega) (by omega)
        by_cases ra : rightCh a = true
        · obtain ⟨s1, s2, s3, s4⟩ := hs ra
          simp -dsimp [chL, hf, ra, q1, q2, q3, q5, q8, m1, m2, m3, m4, he, hlen, t1, t2, t3, t4, s1, s2, s3, s4, Try.results8]
        · simp -dsimp [chL, hf, ra, q1, q2, q3, q5, q8, m1, m2, m3, m4, he, hlen, t1, t2, t3, t4, Try.results8]
      · have hne : ¬ ((mrgL a b).length : Int) = (a.length : Int) + (b.length : Int) := by omega
        by_cases ra : rightCh a = true
        · obtain ⟨s1, s2, s3, s4⟩ := hs ra
          simp -dsimp [chL, hf, ra, q1, q2, q3, q5, q8, m1, m2, m3, m4, he, hlen, hne, s1, s2, s3, s4, Try.results8]
        · simp -dsimp [chL, hf, ra, q1, q2, q3, q5, q8, m1, m2, m3, m4, he, hlen, hne, Try.results8]
    · have hz := merge_err he
      by_cases ra : rightCh a = true
      · obtain ⟨s1, s2, s3, s4⟩ := hs ra
        simp -dsimp [chL, hf, ra, q1, q2, q3, m1, m2, m3, m4, he, hz, s1, s2, s3, s4, Try.results8]
      · simp -dsimp [chL, hf, ra, q1, q2, q3, m1, m2, m3, m4, he, hz, Try.results8]
  · simp -dsimp [chL, hf, Try.results8]

set_option maxRecDepth 8000 in
theorem then3_spec (l0 l1 l2 : List Cl) (x y : List Ch) : PFn Try.prog 7 [.agg [.d (clL l0), .d (clL l1), .d (clL l2)], .one (.d (chL x)), .one (.d (chL y))] (· = .bool true) := by
  refine pfn_L tb13_ok mixed _ Try.func7 rfl (by kernel_rfl) (by simp [Try.ntmps7]) (by kernel_rfl) fun cx hn => ?_
  by_cases hf : fewB l0 l1 x y = true
  · obtain ⟨h1, h2, h3, h4⟩ := fewB_le hf
    have q1 : l0.length ≤ 1000 := by omega
    have q2 : l1.length ≤ 1000 := by omega
    have q3 : l0.length ≤ 100000 := by omega
    have q4 : l1.length ≤ 100000 := by omega
    have q5 : x.length ≤ 1000 := by omega
    have q6 : y.length ≤ 1000 := by omega
    by_cases h5 : 200 < (l2.length : Int)
    · simp -dsimp [chL, clL, ti44, hf, h5, Try.results7]
    · have q7 : l2.length ≤ 1000 := by omega
      have q8 : l2.length ≤ 100000 := by omega
      by_cases r0 : rightCl l0 = true
      · by_cases r1 : rightCl l1 = true
        · by_cases r2 : rightCl l2 = true
          · obtain ⟨t1, t2⟩ := then_of r0 r1 r2 (by omega)
            have z1 : ofE l0 l1 = 0 := by unfold ofE; rw [r0, r1]; rfl
            have z2 : ofE l1 l2 = 0 := by unfold ofE; rw [r1, r2]; rfl
            have z3 : ofE l0 l2 = 0 := by unfold ofE; rw [r0, r2]; rfl
            have a1 := ofL_length l0 l1
            have a2 := ofL_length l1 l2
            have a3 := ofL_length l0 l2
            have a4 := appL_length l0 x
            have a5 := thnL_length x y
            have a6 := appL_length l0 (thnL x y)
            have w1 : (ofL l0 l1).length ≤ 1000 := by omega
            have w2 : (ofL l1 l2).length ≤ 1000 := by omega
            have w3 : (ofL l0 l2).length ≤ 100000 := by omega
            have w4 : (appL l0 x).length ≤ 1000 := by omega
            have w5 : (thnL x y).length ≤ 1000 := by omega
            have w6 : (appL l0 (thnL x y)).length ≤ 100000 := by omega
            by_cases e1 : appE l0 x = 0
            · by_cases e2 : appE (appL l0 x) y = 0
              · obtain ⟨v1, v2, v3⟩ := then_apply (by omega) e1 e2
                have w7 : (appL (appL l0 x) y).length ≤ 100000 := by rw [← v3]; exact w6
                simp -dsimp [chL, clL, ti44, hf, h5, r0, r1, r2, t1, t2, z1, z2, z3, e1, e2, v1, v2, v3, q1, q2, q3, q4, q5, q6, q7, q8, w1, w2, w3, w4, w5, w7, Try.results7]
              · simp -dsimp [chL, clL, ti44, hf, h5, r0, r1, r2, t1, t2, z1, z2, z3, e1, e2, q1, q2, q3, q4, q5, q6, q7, q8, w1, w2, w3, w4, w5, w6, Try.results7]
            · have e1' : (appE l0 x != 0) = true := by simpa using e1
              simp -dsimp [chL, clL, ti44, hf, h5, r0, r1, r2, t1, t2, z1, z2, z3, e1', q1, q2, q3, q4, q5, q6, q7, q8, w1, w2, w3, w4, w5, w6, Try.results7]
          · simp -dsimp [chL, clL, ti44, hf, h5, r0, r1, r2, q3, q4, q8, Try.results7]
        · simp -dsimp [chL, clL, ti44, hf, h5, r0, r1, q3, q4, Try.results7]
      · simp -dsimp [chL, clL, ti44, hf, h5, r0, q3, Try.results7]
  · simp -dsimp [chL, clL, ti44, hf, Try.results7]
end Go.Proofs.Ytfoadgepblojpaa
