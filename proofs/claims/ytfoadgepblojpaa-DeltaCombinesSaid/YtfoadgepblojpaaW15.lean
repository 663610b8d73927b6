/-
  The walk of pattern.From.
-/
import Derived.Test.YtfoadgepblojpaaW12
import Derived.Test.YtfoadgepblojpaaP2
namespace Go.Proofs.Ytfoadgepblojpaa
open Go.AM Go.Proofs Go.Sort

def posO (l : List Cl) (i : Nat) : List Cl := (l.take i).filter fun c => decide (0 < c.s)
theorem posO_length (l : List Cl) (i : Nat) : (posO l i).length ≤ l.length := Nat.le_trans (List.length_filter_le _ _) (by simp; omega)

theorem from_spec (l : List Cl) (hl : l.length ≤ 10000) : PFn Try.prog 38 [.one (.d (clL l))] (fun v => v.wk (clPair (fromR l))) := by
  have hl' : l.length ≤ 100000 := by omega
  have hla := big hl'
  refine pfn_L tb9_ok mixed _ Try.func38 rfl (by kernel_rfl) (by simp [Try.ntmps38]) (by kernel_rfl) fun cx hn => ?_
  simp -dsimp [clL]
  refine loop_up tb9_ok mixed l.length (fun i ρ σ => ρ 3 = .int 0 ∧ ρ 8 = .one (.d (clL l)) ∧ ρ 9 = .int l.length ∧ ρ 10 = .int i ∧ scanE l = scanE (l.drop i) ∧ acc ρ σ 4 35 3 47 ((posO l i).map Cl.row)) (by rw [hn]; kernel_rfl) (by simp [clL, acc, posO]) ?_
  rintro i ρ σ hi ⟨h3, h8, h9, h10, hp, hac⟩
  by_cases hlt : i < l.length
  · have hc : l[i]? = some l[i] := List.getElem?_eq_getElem hlt
    rw [List.drop_eq_getElem_cons hlt, scanE] at hp
    have hlen := posO_length l i
    have hb : ∀ e : Int, e ≠ 0 → scanE l = e → V.wk (.tup [.one (.d .nil), .one (.d (.int .i64 e))]) (clPair (fromR l)) := fun e he h => by simp [clPair, fromR, pairV, h, he]
    have hA : 0 < l[i].s → (posO l (i + 1)).map Cl.row = (posO l i).map Cl.row ++ [[.int .i64 l[i].x, .int .i64 l[i].y, .int .i64 l[i].s]] := fun h => by
      unfold posO; rw [take_up hlt, List.filter_append, List.map_append]; simp [h, Cl.row]
    have hB : ¬ 0 < l[i].s → posO l (i + 1) = posO l i := fun h => by
      unfold posO; rw [take_up hlt, List.filter_append]; simp; omega
    have hpl : l[i].placed = decide (-1048576 ≤ l[i].x ∧ l[i].x ≤ 1048576 ∧ -1048576 ≤ l[i].y ∧ l[i].y ≤ 1048576) := rfl
    rw [hpl] at hp
    have h5 : ¬ (-1048576 ≤ l[i].x ∧ l[i].x ≤ 1048576 ∧ -1048576 ≤ l[i].y ∧ l[i].y ≤ 1048576) → scanE l = 5 := fun h => by rw [hp, if_neg (by simpa using h)]
    have h10' : (-1048576 ≤ l[i].x ∧ l[i].x ≤ 1048576 ∧ -1048576 ≤ l[i].y ∧ l[i].y ≤ 1048576) → (l[i].s < 0 ∨ 8 ≤ l[i].s) → scanE l = 10 := fun h h' => by rw [hp, if_pos (by simpa using h), if_pos h']
    have hgo : (-1048576 ≤ l[i].x ∧ l[i].x ≤ 1048576 ∧ -1048576 ≤ l[i].y ∧ l[i].y ≤ 1048576) → ¬ (l[i].s < 0 ∨ 8 ≤ l[i].s) → scanE l = scanE (l.drop (i + 1)) := fun h h' => by rw [hp, if_pos (by simpa using h), if_neg h']
    generalize posO l (i + 1) = out' at *
    generalize posO l i = out at *
    rcases hac with ⟨h4, hr⟩ | ⟨h4, s35⟩
    · simp -dsimp [h3, h4, h8, h9, h10, acc, clL, hlt, Cl.row, Try.results38, wrap_up hlt hla]
      refine ⟨fun h => hb 5 (by decide) (h5 (by omega)), fun p1 p2 p3 p4 => ⟨fun q1 => ⟨fun q2 => hb 10 (by decide) (h10' ⟨p1, p2, p3, p4⟩ (.inr q2)), fun q2 => ?_⟩, fun q1 => hb 10 (by decide) (h10' ⟨p1, p2, p3, p4⟩ (.inl q1))⟩⟩
      have hs := hgo ⟨p1, p2, p3, p4⟩ (by omega)
      refine ⟨fun q3 => ⟨hs, ?_⟩, fun q3 => ⟨hs, ?_⟩⟩
      · rw [hA q3, hr]; rfl
      · rw [hB (by omega)]; simpa using hr
    · simp -dsimp [h3, h4, h8, h9, h10, s35, acc, clL, hlt, Cl.row, Try.results38, wrap_up hlt hla]
      refine ⟨fun h => hb 5 (by decide) (h5 (by omega)), fun p1 p2 p3 p4 => ⟨fun q1 => ⟨fun q2 => hb 10 (by decide) (h10' ⟨p1, p2, p3, p4⟩ (.inr q2)), fun q2 => ?_⟩, fun q1 => hb 10 (by decide) (h10' ⟨p1, p2, p3, p4⟩ (.inl q1))⟩⟩
      have hs := hgo ⟨p1, p2, p3, p4⟩ (by omega)
      refine ⟨fun q3 => ⟨by omega, hs, ?_⟩, fun q3 => ⟨hs, ?_⟩⟩
      · rw [hA q3]
      · rw [hB (by omega)]
  · have hil : i = l.length := by omega
    subst hil
    rw [List.drop_of_length_le (Nat.le_refl _)] at hp
    have hfin := fun (ys : List Cl) (hq : ys.Perm (posO l l.length)) hs => from_final (l := l) (ys := ys) hp (by have hq : ys.Perm (posO l l.length) := hq; unfold posO at hq; rw [List.take_length] at hq; exact hq) hs
    have hlen := posO_length l l.length
    generalize posO l l.length = out at *
    have hlen' : out.length ≤ 100000 := by omega
    rcases hac with ⟨h4, hr⟩ | ⟨h4, s35⟩
    · rw [List.map_eq_nil_iff] at hr
      have hfin := hfin [] (by rw [hr]) List.Pairwise.nil
      have hw2 : IntKind.i64.wrap 1 = 1 := by decide
      simp -dsimp [h4, h8, h9, h10]
      refine loop_up tb9_ok mixed 0 (fun i ρ σ => ρ 3 = .int 0 ∧ ρ 4 = .one (.d .nil) ∧ ρ 7 = .int 1) (by rw [hn]; kernel_rfl) (by simp [h3, h4]) ?_
      rintro i ρ σ hi ⟨h3, h4, h7⟩
      rw [hfin]
      simp -dsimp [h4, h7, Try.results38, adj, clPair, pairV]
    · simp -dsimp [h4, h8, h9, h10, s35, hlen']
      intro ys hpm hso
      have hfin := hfin ys hpm (by simpa using hso)
      have hyl : ys.length ≤ 100000 := by rw [hpm.length_eq]; exact hlen'
      have hyb := big hyl
      rw [hfin]
      refine loop_up tb9_ok mixed ys.length (fun i ρ σ => ρ 3 = .int 0 ∧ ρ 4 = .one (.own 35) ∧ ρ 7 = .int ((i : Int) + 1) ∧ σ 35 = some (.row 3 47 (ys.map Cl.row)) ∧ adj ys = adj (ys.drop i)) (by rw [hn]; kernel_rfl) (by simp [h3, h4]) ?_
      rintro i ρ σ hi ⟨h3, h4, h7, s35, hq⟩
      by_cases hlt : i + 1 < ys.length
      · have hc : ys[i]? = some ys[i] := List.getElem?_eq_getElem (by omega)
        have hd : ys[i + 1]? = some ys[i + 1] := List.getElem?_eq_getElem hlt
        have hlt0 : i < ys.length := by omega
        have hI : (i : Int) + 1 < (ys.length : Int) := by omega
        have hw := wrap_nat (Nat.le_of_lt hlt0) hyb
        have hw1 : IntKind.i64.wrap ((i : Int) + 1 + 1) = (i : Int) + 1 + 1 := by
          rw [IntWalk.i64_in _ (by unfold maxLen at hyb; omega)]
        have ht : ((i : Int) + 1).toNat = i + 1 := by omega
        have h01 : (0 : Int) ≤ (i : Int) + 1 := by omega
        rw [adj_drop hlt] at hq
        simp -dsimp [h3, h4, h7, s35, hI, hw, hw1, ht, h01, hlt, hlt0, Cl.row, Try.results38]
        refine ⟨fun q1 q2 => ?_, fun q1 => ?_⟩
        · rw [hq, decide_eq_true ⟨q1, q2⟩]; simp [clPair, pairV]
        · rw [hq, decide_eq_false fun h => q1 h.1 h.2]; rfl
      · rw [adj_last hlt] at hq
        have hI : ¬ ((i : Int) + 1 < (ys.length : Int)) := by omega
        simp -dsimp [h4, h7, s35, hI, hq, Try.results38]
        refine ⟨fun h => ?_, fun h => ?_⟩
        · rw [if_pos (by omega)]; simp [clPair, pairV]
        · rw [if_neg (by omega)]; simp [clPair, pairV]
end Go.Proofs.Ytfoadgepblojpaa
