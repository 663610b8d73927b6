/-
  The walks of the reference: From, Apply.
-/
import Derived.Test.YtfoadgepblojpaaW7
namespace Go.Proofs.Ytfoadgepblojpaa
open Go.AM Go.Proofs

def Cl.placed (c : Cl) : Bool := decide (-1048576 ≤ c.x ∧ c.x ≤ 1048576 ∧ -1048576 ≤ c.y ∧ c.y ≤ 1048576)
def scanE : List Cl → Int
  | [] => 0
  | c :: cs => if c.placed then (if c.s < 0 ∨ 8 ≤ c.s then 10 else scanE cs) else 5
def stepF (out : List Cl) (c : Cl) : List Cl := if c.s = 0 then out else insCl out c
def incr : List Cl → Bool
  | a :: b :: l => before a b && incr (b :: l)
  | _ => true
def fromR (l : List Cl) : List Cl × Int :=
  if scanE l = 0 then
    (if incr (l.foldl stepF []) then (if (l.foldl stepF []).length > 5000 then ([], 6) else (l.foldl stepF [], 0)) else ([], 8))
  else ([], scanE l)
def clPair (r : List Cl × Int) : V := pairV (.sl 3 (r.1.map Cl.row)) r.2
def chPair (r : List Ch × Int) : V := pairV (.sl 4 (r.1.map Ch.row)) r.2
theorem stepF_length (out : List Cl) (c : Cl) : (stepF out c).length ≤ out.length + 1 := by
  unfold stepF
  split
  · omega
  · rw [insCl_length]; omega
theorem wrap_nat {i n : Nat} (h : i ≤ n) (hn : n ≤ maxLen) : IntKind.i64.wrap (i : Int) = (i : Int) := by
  rw [IntWalk.i64_in _ (by unfold maxLen at hn; omega)]
theorem incr_drop {p : List Cl} {j : Nat} (h : j + 1 < p.length) : incr (p.drop j) = (before p[j] p[j + 1] && incr (p.drop (j + 1))) := by
  rw [List.drop_eq_getElem_cons (by omega : j < p.length), List.drop_eq_getElem_cons h, incr]
theorem incr_last {p : List Cl} {j : Nat} (h : ¬ j + 1 < p.length) : incr (p.drop j) = true := by
  rcases Nat.lt_or_ge j p.length with h1 | h1
  · rw [List.drop_eq_getElem_cons h1, List.drop_of_length_le (by omega)]; rfl
  · rw [List.drop_of_length_le h1]; rfl

theorem from05_spec (l : List Cl) (hl : l.length ≤ 10000) : PFn Try.prog 40 [.one (.d (clL l))] (fun v => v.wk (clPair (fromR l))) := by
  have hl' : l.length ≤ 100000 := by omega
  have hla := big hl'
  refine pfn_L tb6_ok mixed _ Try.func40 rfl (by kernel_rfl) (by simp [Try.ntmps40]) (by kernel_rfl) fun cx hn => ?_
  simp -dsimp [clL]
  refine loop_up tb6_ok mixed l.length (fun i ρ σ => ρ 0 = .one (.d (clL l)) ∧ ρ 3 = .int 0 ∧ ρ 4 = .one (.d .nil) ∧ ρ 5 = .int i ∧ scanE l = scanE (l.drop i)) (by rw [hn]; kernel_rfl) (by simp [clL]) ?_
  rintro i ρ σ hi ⟨h0, h3, h4, h5, hp⟩
  by_cases hlt : i < l.length
  · have hc : l[i]? = some l[i] := List.getElem?_eq_getElem hlt
    rw [List.drop_eq_getElem_cons hlt, scanE] at hp
    simp -dsimp [h0, h3, h4, h5, clL, hlt, Cl.row, Try.results40, wrap_up hlt hla]
    have hb : ∀ e : Int, e ≠ 0 → scanE l = e → V.wk (.tup [.one (.d .nil), .one (.d (.int .i64 e))]) (clPair (fromR l)) := fun e he h => by simp [clPair, fromR, pairV, h, he]
    refine ⟨fun h => hb 5 (by decide) ?_, fun p1 p2 p3 p4 => ?_⟩
    · rw [hp, if_neg]; simp [Cl.placed]; omega
    · rw [if_pos (by simp [Cl.placed]; omega)] at hp
      refine ⟨fun q1 => ⟨fun q2 => hb 10 (by decide) ?_, fun q2 => ?_⟩, fun q1 => hb 10 (by decide) ?_⟩
      · rw [hp, if_pos (by omega)]
      · rw [hp, if_neg (by omega)]
      · rw [hp, if_pos (by omega)]
  · rw [List.drop_of_length_le (by omega)] at hp
    simp -dsimp [h0, h5, clL, hlt]
    clear hlt hi h5 
    refine loop_up tb6_ok mixed l.length (fun i ρ σ => ρ 0 = .one (.d (clL l)) ∧ ρ 3 = .int 0 ∧ ρ 6 = .int i ∧ clV (ρ 4) = some ((l.take i).foldl stepF [])) (by rw [hn]; kernel_rfl) (by simp [clL, h0, h3, h4]) ?_
    rintro i ρ σ hi ⟨h0, h3, h6, h4⟩
    have hlen : ((l.take i).foldl stepF []).length ≤ 100000 := by have := foldl_length stepF stepF_length (l.take i) []; simp at this; omega
    by_cases hlt : i < l.length
    · have hc : l[i]? = some l[i] := List.getElem?_eq_getElem hlt
      simp -dsimp [h0, h3, h4, h6, clL, hlt, hlen, Cl.row, wrap_up hlt hla]
      rw [foldl_up _ _ hlt]
      refine ⟨fun h => ?_, fun h => ?_⟩ <;> simp [stepF, h]
    · have hia : l.take i = l := List.take_of_length_le (by omega)
      rw [hia] at h4 hlen
      simp -dsimp [h0, h6, clL, hlt]
      generalize hP : l.foldl stepF [] = p at *
      clear hlt hi h6 hia
      have hlp := big hlen
      have h4' := clV_cases h4
      refine loop_up tb6_ok mixed p.length (fun i ρ σ => ρ 3 = .int 0 ∧ ρ 7 = .int ((i : Int) + 1) ∧ clV (ρ 4) = some p ∧ incr p = incr (p.drop i)) (by rw [hn]; kernel_rfl) (by simp [h3, h4]) ?_
      rintro i ρ σ hi ⟨h3, h7, h4, hq⟩
      have hs : scanE l = 0 := hp
      by_cases hlt : i + 1 < p.length
      · have hc : p[i]? = some p[i] := List.getElem?_eq_getElem (by omega)
        have hd : p[i + 1]? = some p[i + 1] := List.getElem?_eq_getElem hlt
        have hI : (i : Int) + 1 < (p.length : Int) := by omega
        have hw := wrap_nat (Nat.le_of_lt (Nat.lt_of_succ_lt hlt)) hlp
        have hw1 : IntKind.i64.wrap ((i : Int) + 1 + 1) = (i : Int) + 1 + 1 := by
          rw [IntWalk.i64_in _ (by unfold maxLen at hlp; omega)]
        have ht : ((i : Int) + 1).toNat = i + 1 := by omega
        have h01 : (0 : Int) ≤ (i : Int) + 1 := by omega
        rw [incr_drop hlt] at hq
        have hbd : before p[i] p[i + 1] = decide (p[i].y < p[i + 1].y ∨ p[i].y = p[i + 1].y ∧ p[i].x < p[i + 1].x) := rfl
        rcases clV_cases h4 with ⟨_, hr⟩ | ⟨_, hr⟩ | h4'
        · rw [hr] at hlt; simp at hlt
        · rw [hr] at hlt; simp at hlt
        simp -dsimp [h3, h4', h7, hc, hd, hI, hw, hw1, ht, h01, Cl.row, Try.results40]
        rw [hbd] at hq
        refine ⟨fun q1 q2 => ?_, fun q1 => ⟨by omega, ?_⟩⟩
        · have : decide (p[i].y < p[i + 1].y ∨ p[i].y = p[i + 1].y ∧ p[i].x < p[i + 1].x) = false := by simp; omega
          rw [this] at hq
          simp [clPair, fromR, pairV, hs, hP, hq]
        · have : decide (p[i].y < p[i + 1].y ∨ p[i].y = p[i + 1].y ∧ p[i].x < p[i + 1].x) = true := by simp; omega
          rw [this] at hq
          simpa using hq
      · rw [incr_last hlt] at hq
        have hI : ¬ ((i : Int) + 1 < (p.length : Int)) := by omega
        have hfin : fromR l = if p.length > 5000 then ([], 6) else (p, 0) := by unfold fromR; rw [if_pos hs, hP, if_pos hq]
        rcases clV_cases h4 with ⟨h4, hr⟩ | ⟨h4, hr⟩ | h4
        · have hI0 : ¬ ((i : Int) + 1 < 0) := by omega
          simp -dsimp [h4, h7, hI0, Try.results40, clPair, pairV, hfin, hr]
        · have hI0 : ¬ ((i : Int) + 1 < 0) := by omega
          simp -dsimp [h4, h7, hI0, Try.results40, clPair, pairV, hfin, hr]
        · simp -dsimp [h4, h7, hI, Try.results40]
          refine ⟨fun q => ?_, fun q => ?_⟩
          · rw [hfin, if_pos (by omega)]; simp [clPair, pairV]
          · rw [hfin, if_neg (by omega)]; simp [clPair, pairV]
end Go.Proofs.Ytfoadgepblojpaa
