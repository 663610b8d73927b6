/-
  find, Same, Compare.
-/
import Derived.Test.YtfoadgepblojpaaW3
namespace Go.Proofs.Ytfoadgepblojpaa
open Go.AM Go.Proofs

def findP (i : Nat) (cs : List Ch) (x y : Int) : Int := match cs with
  | [] => -1
  | c :: cs => if c.x = x ∧ c.y = y then i else findP (i + 1) cs x y
theorem find_spec (cs : List Ch) (x y : Int) (hl : cs.length ≤ maxLen) : PFn Try.prog 39 [.one (.d (chL cs)), .agg [.d (.int .i64 x), .d (.int .i64 y)]] (· = .int (findP 0 cs x y)) := by
  refine pfn_L tb4_ok mixed _ Try.func39 rfl (by kernel_rfl) (by simp [Try.ntmps39]) (by kernel_rfl) fun cx hn => ?_
  simp -dsimp
  refine loop_up tb4_ok mixed cs.length (fun i ρ σ => ρ 0 = .one (.d (chL cs)) ∧ ρ 3 = .one (.box 3 0) ∧ ρ 5 = .int i ∧ σ 3 = some (.box [.d (.int .i64 x), .d (.int .i64 y)]) ∧ findP 0 cs x y = findP i (cs.drop i) x y) (by rw [hn]; kernel_rfl) (by simp) ?_
  rintro i ρ σ hi ⟨h0, h3, h5, s3, hp⟩
  by_cases hlt : i < cs.length
  · have hc : cs[i]? = some cs[i] := List.getElem?_eq_getElem hlt
    simp -dsimp [h0, h3, h5, s3, chL, hlt, Ch.row, Try.results39, wrap_up hlt hl]
    rw [List.drop_eq_getElem_cons hlt, findP] at hp
    grind
  · simp -dsimp [h0, h5, chL, hlt, Try.results39]
    rw [hp, List.drop_of_length_le (by omega)]
    rfl

theorem same53_spec (xs ys : List Ch) (hl : xs.length ≤ maxLen) : PFn Try.prog 15 [.one (.d (chL xs)), .one (.d (chL ys))] (· = .bool (decide (xs = ys))) := by
  refine pfn_L tb4_ok mixed _ Try.func15 rfl (by kernel_rfl) (by simp [Try.ntmps15]) (by kernel_rfl) fun cx hn => ?_
  simp -dsimp [chL, Try.results15]
  refine ⟨fun h => ?_, fun h => ?_⟩
  · rintro rfl; exact h rfl
  have hlen : ys.length = xs.length := by omega
  refine loop_up tb4_ok mixed xs.length (fun i ρ σ => ρ 0 = .one (.d (chL xs)) ∧ ρ 1 = .one (.d (chL ys)) ∧ ρ 5 = .int i ∧ (xs = ys ↔ xs.drop i = ys.drop i)) (by rw [hn]; kernel_rfl) (by simp [chL]) ?_
  rintro i ρ σ hi ⟨h0, h1, h5, hp⟩
  by_cases hlt : i < xs.length
  · have hc : xs[i]? = some xs[i] := List.getElem?_eq_getElem hlt
    have hb : ys[i]? = some ys[i] := List.getElem?_eq_getElem (by omega)
    simp -dsimp [h0, h1, h5, chL, hb, hlt, Ch.row, Try.results15, wrap_up hlt hl]
    rw [List.drop_eq_getElem_cons hlt, List.drop_eq_getElem_cons (by omega : i < ys.length), List.cons.injEq] at hp
    have he : xs[i] = ys[i] ↔ xs[i].x = ys[i].x ∧ xs[i].y = ys[i].y ∧ xs[i].f = ys[i].f ∧ xs[i].t = ys[i].t := by
      cases xs[i]; cases ys[i]; simp
    rw [he] at hp
    grind
  · simp -dsimp [h0, h5, chL, hlt, Try.results15]
    rw [hp, List.drop_of_length_le (by omega), List.drop_of_length_le (by omega)]
end Go.Proofs.Ytfoadgepblojpaa
