/-
  More walks over slices of data.
-/
import Derived.Test.YtfoadgepblojpaaW3
namespace Go.Proofs.Ytfoadgepblojpaa
open Go.AM Go.Proofs

set_option maxRecDepth 8000 in
theorem right53_spec (cs : List Ch) (hl : cs.length ≤ maxLen) : PFn Try.prog 14 [.one (.d (chL cs))] (· = .bool (rightCh cs)) := by
  refine pfn_L tb4_ok mixed _ Try.func14 rfl (by kernel_rfl) (by simp [Try.ntmps14]) (by kernel_rfl) fun cx hn => ?_
  simp -dsimp [chL, Try.results14]
  refine ⟨fun h => by simp [rightCh]; omega, fun h5 => ?_⟩
  refine loop_up tb4_ok mixed cs.length (fun i ρ σ => ρ 0 = .one (.d (chL cs)) ∧ ρ 3 = .int i ∧ chk Ch.ok Ch.lt none cs = chk Ch.ok Ch.lt (prevAt cs i) (cs.drop i)) (by rw [hn]; kernel_rfl) (by simp [prevAt, chL]) ?_
  rintro i ρ σ hi ⟨h0, h3, hp⟩
  by_cases hlt : i < cs.length
  · have hc : cs[i]? = some cs[i] := List.getElem?_eq_getElem hlt
    rw [chk_step hlt] at hp
    by_cases hi0 : i = 0
    · subst hi0
      simp -dsimp [h0, h3, chL, hlt, Ch.row, Try.results14]
      have hw : IntKind.i64.wrap 1 = 1 := by decide
      simp only [prevAt, Ch.ok, rightCh, Nat.zero_add, List.drop_one] at *
      grind
    · have hc' : cs[i - 1]? = some cs[i - 1] := List.getElem?_eq_getElem (by omega)
      simp -dsimp [h0, h3, chL, hlt, hc', Ch.row, Try.results14, wrap_up hlt hl, wrap_down hlt hl hi0]
      have hpv : prevAt cs i = some cs[i - 1] := by unfold prevAt; rw [if_neg hi0, hc']
      simp only [hpv, Ch.ok, Ch.lt, ltP, rightCh, cmpP] at *
      grind
  · rw [chk_end hlt] at hp
    simp -dsimp [h0, h3, chL, hlt, Try.results14]
    simp [rightCh, hp]
    omega

set_option maxRecDepth 8000 in
theorem rightD_spec (cs : List Ch) (hl : cs.length ≤ maxLen) : PFn Try.prog 13 [.one (.d (chL cs))] (· = .bool (rightCh cs)) := by
  refine pfn_L tb4_ok mixed _ Try.func13 rfl (by kernel_rfl) (by simp [Try.ntmps13]) (by kernel_rfl) fun cx hn => ?_
  simp -dsimp [chL, Try.results13]
  refine ⟨fun h => by simp [rightCh]; omega, fun h5 => ?_⟩
  refine loop_up tb4_ok mixed cs.length (fun i ρ σ => ρ 0 = .one (.d (chL cs)) ∧ ρ 8 = .one (.d (chL cs)) ∧ ρ 9 = .int cs.length ∧ ρ 10 = .int i ∧ chk Ch.ok Ch.lt none cs = chk Ch.ok Ch.lt (prevAt cs i) (cs.drop i)) (by rw [hn]; kernel_rfl) (by simp [prevAt, chL]) ?_
  rintro i ρ σ hi ⟨h0, h8, h9, h10, hp⟩
  by_cases hlt : i < cs.length
  · have hc : cs[i]? = some cs[i] := List.getElem?_eq_getElem hlt
    rw [chk_step hlt] at hp
    by_cases hi0 : i = 0
    · subst hi0
      simp -dsimp [h0, h8, h9, h10, chL, hlt, Ch.row, Try.results13]
      have hw : IntKind.i64.wrap 1 = 1 := by decide
      simp only [prevAt, Ch.ok, rightCh, Nat.zero_add, List.drop_one] at *
      grind
    · have hc' : cs[i - 1]? = some cs[i - 1] := List.getElem?_eq_getElem (by omega)
      simp -dsimp [h0, h8, h9, h10, chL, hlt, hc', Ch.row, Try.results13, wrap_up hlt hl, wrap_down hlt hl hi0]
      have hpv : prevAt cs i = some cs[i - 1] := by unfold prevAt; rw [if_neg hi0, hc']
      simp only [hpv, Ch.ok, Ch.lt, ltP, rightCh, cmpP] at *
      grind
  · rw [chk_end hlt] at hp
    simp -dsimp [h8, h9, h10, chL, hlt, Try.results13]
    simp [rightCh, hp]
    omega
end Go.Proofs.Ytfoadgepblojpaa
