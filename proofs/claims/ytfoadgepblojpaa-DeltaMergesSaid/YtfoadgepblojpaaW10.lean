/-
  The walks of the reference: Then, Merge.
-/
import Derived.Test.YtfoadgepblojpaaW9
namespace Go.Proofs.Ytfoadgepblojpaa
open Go.AM Go.Proofs

def lk (cs : List Ch) (x y : Int) : Option Ch := cs.find? fun c => decide (c.x = x ∧ c.y = y)
theorem findP_cases : ∀ (cs : List Ch) (i : Nat) (x y : Int), (findP i cs x y = -1 ∧ lk cs x y = none) ∨ ∃ k c, findP i cs x y = ((i + k : Nat) : Int) ∧ cs[k]? = some c ∧ lk cs x y = some c
  | [], i, x, y => .inl ⟨rfl, rfl⟩
  | c :: cs, i, x, y => by
    unfold findP lk
    by_cases h : c.x = x ∧ c.y = y
    · rw [if_pos h]
      exact .inr ⟨0, c, by simp, rfl, by simp [h]⟩
    · rw [if_neg h]
      rcases findP_cases cs (i + 1) x y with ⟨h1, h2⟩ | ⟨k, d, h1, h2, h3⟩
      · exact .inl ⟨h1, by unfold lk at h2; rw [List.find?_cons_of_neg (by simpa using h)]; exact h2⟩
      · exact .inr ⟨k + 1, d, by rw [h1]; omega, by simpa using h2, by unfold lk at h3; rw [List.find?_cons_of_neg (by simpa using h)]; exact h3⟩
theorem findP_neg (cs : List Ch) (x y : Int) : findP 0 cs x y < 0 ↔ lk cs x y = none := by
  rcases findP_cases cs 0 x y with ⟨h1, h2⟩ | ⟨k, c, h1, h2, h3⟩
  · simp [h1, h2]
  · rw [h1, h3]; simp
def okT (b : List Ch) (c : Ch) : Bool := match lk b c.x c.y with
  | some d => decide (c.t = d.f)
  | none => true
def stepT (b : List Ch) (out : List Ch) (c : Ch) : List Ch := match lk b c.x c.y with
  | some d => if c.f = d.t then out else insCh out ⟨c.x, c.y, c.f, d.t⟩
  | none => if c.f = c.t then out else insCh out c
def stepU (a : List Ch) (out : List Ch) (c : Ch) : List Ch := if findP 0 a c.x c.y < 0 then insCh out c else out
def thenU (a b : List Ch) : List Ch := b.foldl (stepU a) (a.foldl (stepT b) [])
def thenR (a b : List Ch) : List Ch × Int :=
  if rightCh a && rightCh b then (if a.all (okT b) then (if (thenU a b).length > 10000 then ([], 6) else (thenU a b, 0)) else ([], 17)) else ([], 2)
theorem stepT_length (b : List Ch) (out : List Ch) (c : Ch) : (stepT b out c).length ≤ out.length + 1 := by
  unfold stepT
  split <;> split <;> simp [insCh_length]
theorem stepU_length (a : List Ch) (out : List Ch) (c : Ch) : (stepU a out c).length ≤ out.length + 1 := by
  unfold stepU
  split <;> simp [insCh_length]

theorem then53_spec (a b : List Ch) (ha : a.length ≤ 1000) (hb : b.length ≤ 1000) : PFn Try.prog 22 [.one (.d (chL a)), .one (.d (chL b))] (fun v => v.wk (chPair (thenR a b))) := by
  have ha' : a.length ≤ 100000 := by omega
  have hb' : b.length ≤ 100000 := by omega
  have haa := big ha'
  have hba := big hb'
  refine pfn_L tb7_ok mixed _ Try.func22 rfl (by kernel_rfl) (by simp [Try.ntmps22]) (by kernel_rfl) fun cx hn => ?_
  simp -dsimp [chL, ha', hb', Try.results22]
  refine ⟨fun h1 => ⟨fun h2 => by simp [thenR, h1, h2, chPair, pairV], fun h2 => ?_⟩, fun h1 => by simp [thenR, h1, chPair, pairV]⟩
  refine loop_up tb7_ok mixed a.length (fun i ρ σ => ρ 0 = .one (.d (chL a)) ∧ ρ 1 = .one (.d (chL b)) ∧ ρ 5 = .int 0 ∧ ρ 7 = .int i ∧ chV (ρ 6) = some ((a.take i).foldl (stepT b) []) ∧ a.all (okT b) = (a.drop i).all (okT b)) (by rw [hn]; kernel_rfl) (by simp [chL]) ?_
  rintro i ρ σ hi ⟨h0, h1', h5, h7, h6, hq⟩
  have hlen : ((a.take i).foldl (stepT b) []).length ≤ 1000 := by have := foldl_length (stepT b) (stepT_length b) (a.take i) []; simp at this; omega
  have hlen' : ((a.take i).foldl (stepT b) []).length ≤ 100000 := by omega
  have hw6 : ∀ d, V.wipe d (ρ 6) = ρ 6 := fun d => by
    rcases chV_cases h6 with ⟨h, _⟩ | ⟨h, _⟩ | h <;> rw [h] <;> rfl
  by_cases hlt : i < a.length
  · have hc : a[i]? = some a[i] := List.getElem?_eq_getElem hlt
    rw [List.drop_eq_getElem_cons hlt, List.all_cons] at hq
    rcases findP_cases b 0 a[i].x a[i].y with ⟨hf, hk⟩ | ⟨k, c, hf, hbk, hk⟩
    · simp -dsimp [h0, h1', h5, h6, h7, hw6, hf, chL, hlt, hb', hlen', Ch.row, wrap_up hlt haa]
      have ho : okT b a[i] = true := by unfold okT; rw [hk]
      rw [foldl_up _ _ hlt, hq, ho]
      refine ⟨fun h => ⟨?_, rfl⟩, fun h => ⟨?_, rfl⟩⟩ <;> simp [stepT, hk, h]
    · simp -dsimp [h0, h1', h5, h6, h7, hw6, hf, hbk, chL, hlt, hb', hlen', Ch.row, Try.results22, wrap_up hlt haa]
      have ho : okT b a[i] = decide (a[i].t = c.f) := by unfold okT; rw [hk]
      rw [foldl_up _ _ hlt, hq, ho]
      refine ⟨fun h => ?_, fun h => ⟨fun h' => ⟨?_, by rw [decide_eq_true h]; rfl⟩, fun h' => ⟨?_, by rw [decide_eq_true h]; rfl⟩⟩⟩
      · have : a.all (okT b) = false := by rw [hq, ho, decide_eq_false h]; rfl
        simp [thenR, h1, h2, this, chPair, pairV]
      · simp [stepT, hk, h']
      · simp [stepT, hk, h']
  · have hia : a.take i = a := List.take_of_length_le (by omega)
    rw [hia] at h6 hlen
    rw [List.drop_of_length_le (by omega)] at hq
    have hall : a.all (okT b) = true := hq
    simp -dsimp [h0, h1', h7, chL, hlt]
    clear hlt hi h7 hlen'
    refine loop_up tb7_ok mixed b.length (fun i ρ σ => ρ 0 = .one (.d (chL a)) ∧ ρ 1 = .one (.d (chL b)) ∧ ρ 5 = .int 0 ∧ ρ 10 = .int i ∧ chV (ρ 6) = some ((b.take i).foldl (stepU a) (a.foldl (stepT b) []))) (by rw [hn]; kernel_rfl) (by simp [chL, h0, h1', h5, h6]) ?_
    rintro i ρ σ hi ⟨h0, h1', h5, h10, h6⟩
    have hlen' : ((b.take i).foldl (stepU a) (a.foldl (stepT b) [])).length ≤ 100000 := by have := foldl_length (stepU a) (stepU_length a) (b.take i) (a.foldl (stepT b) []); simp at this; omega
    by_cases hlt : i < b.length
    · have hc : b[i]? = some b[i] := List.getElem?_eq_getElem hlt
      simp -dsimp [h0, h1', h5, h6, h10, chL, hlt, ha', hlen', Ch.row, wrap_up hlt hba]
      rw [foldl_up _ _ hlt]
      refine ⟨fun h => ?_, fun h => ?_⟩
      · unfold stepU; rw [if_pos h]
      · unfold stepU; rw [if_neg (by omega)]
    · have hib : b.take i = b := List.take_of_length_le (by omega)
      rw [hib] at h6
      have h6' : chV (ρ 6) = some (thenU a b) := h6
      have hfin : thenR a b = if (thenU a b).length > 10000 then ([], 6) else (thenU a b, 0) := by unfold thenR; rw [h1, h2, hall]; rfl
      rw [hfin]
      generalize thenU a b = out at *
      rcases chV_cases h6' with ⟨h6, hr⟩ | ⟨h6, hr⟩ | h6
      · simp -dsimp [h0, h1', h6, h10, chL, hlt, Try.results22, chPair, pairV, hr]
      · simp -dsimp [h0, h1', h6, h10, chL, hlt, Try.results22, chPair, pairV, hr]
      · simp -dsimp [h0, h1', h6, h10, chL, hlt, Try.results22, chPair, pairV]
        refine ⟨fun h => ?_, fun h => ?_⟩
        · rw [if_pos (by omega)]; simp
        · rw [if_neg (by omega)]; simp

def badM (b : List Ch) (c : Ch) : Bool := match lk b c.x c.y with
  | some d => decide (c ≠ d)
  | none => false
def mergeU (a b : List Ch) : List Ch := b.foldl (stepU a) a
def tripV (l : List Ch) (x y e : Int) : V := .tup [.one (.d (.sl 4 (l.map Ch.row))), .agg [.d (.int .i64 x), .d (.int .i64 y)], .one (.d (.int .i64 e))]
def mergeR (a b : List Ch) : List Ch × (Int × Int) × Int :=
  if rightCh a && rightCh b then (match a.find? (badM b) with
    | some c => ([], (c.x, c.y), 17)
    | none => if (mergeU a b).length > 10000 then ([], (0, 0), 6) else (mergeU a b, (0, 0), 0)) else ([], (0, 0), 2)
def mergeV (r : List Ch × (Int × Int) × Int) : V := tripV r.1 r.2.1.1 r.2.1.2 r.2.2
theorem merge53_spec (a b : List Ch) (ha : a.length ≤ 1000) (hb : b.length ≤ 1000) : PFn Try.prog 24 [.one (.d (chL a)), .one (.d (chL b))] (fun v => v.wk (mergeV (mergeR a b))) := by
  have ha' : a.length ≤ 100000 := by omega
  have hb' : b.length ≤ 100000 := by omega
  have haa := big ha'
  have hba := big hb'
  refine pfn_L tb7_ok mixed _ Try.func24 rfl (by kernel_rfl) (by simp [Try.ntmps24]) (by kernel_rfl) fun cx hn => ?_
  simp -dsimp [chL, ha', hb', Try.results24]
  refine ⟨fun h1 => ⟨fun h2 => by simp [mergeR, h1, h2, mergeV, tripV], fun h2 => ?_⟩, fun h1 => by simp [mergeR, h1, mergeV, tripV]⟩
  refine loop_up tb7_ok mixed a.length (fun i ρ σ => ρ 0 = .one (.d (chL a)) ∧ ρ 1 = .one (.d (chL b)) ∧ ρ 5 = .one (.box 5 0) ∧ σ 5 = some (.box [.d (.int .i64 0), .d (.int .i64 0)]) ∧ ρ 6 = .int 0 ∧ ρ 8 = .int i ∧ acc ρ σ 7 57 4 49 ((a.take i).map Ch.row) ∧ a.find? (badM b) = (a.drop i).find? (badM b))
    (by rw [hn]; kernel_rfl) (by simp [chL, acc]) ?_
  rintro i ρ σ hi ⟨h0, h1', h5, s5, h6, h8, hac, hq⟩
  by_cases hlt : i < a.length
  · have hc : a[i]? = some a[i] := List.getElem?_eq_getElem hlt
    have ht := take_map_up Ch.row hlt
    rw [List.drop_eq_getElem_cons hlt] at hq
    have hm : min i a.length = i := by omega
    rcases findP_cases b 0 a[i].x a[i].y with ⟨hf, hk⟩ | ⟨k, c, hf, hbk, hk⟩
    · have hgo : a.find? (badM b) = (a.drop (i + 1)).find? (badM b) := by
        rw [hq, List.find?_cons_of_neg (by simp [badM, hk])]
      rcases hac with ⟨h7, hr⟩ | ⟨h7, s7⟩
      · rw [List.map_take] at hr
        simp -dsimp [h0, h1', h5, s5, h6, h7, h8, hf, acc, chL, hlt, hb', Ch.row, ht, hr, Try.results24, wrap_up hlt haa]
        exact hgo
      · simp -dsimp [h0, h1', h5, s5, h6, h7, s7, h8, hf, acc, chL, hlt, hb', Ch.row, ht, hm, Try.results24, wrap_up hlt haa]
        exact ⟨by omega, hgo⟩
    · have he : a[i] = c ↔ a[i].x = c.x ∧ a[i].y = c.y ∧ a[i].f = c.f ∧ a[i].t = c.t := by
        cases a[i]; cases c; simp
      have hgo : a[i] = c → a.find? (badM b) = (a.drop (i + 1)).find? (badM b) := fun h => by
        have hb0 : badM b a[i] = false := by unfold badM; rw [hk]; simp [h]
        rw [hq, List.find?_cons_of_neg (by simp [hb0])]
      have hbad : ¬ a[i] = c → V.wk (.tup [.one (.d .nil), .agg [.d (.int .i64 a[i].x), .d (.int .i64 a[i].y)], .one (.d (.int .i64 17))]) (mergeV (mergeR a b)) := fun h => by
        have : a.find? (badM b) = some a[i] := by rw [hq, List.find?_cons_of_pos (by simp [badM, hk, h])]
        simp [mergeR, h1, h2, this, mergeV, tripV]
      rw [he] at hgo hbad
      rcases hac with ⟨h7, hr⟩ | ⟨h7, s7⟩
      · rw [List.map_take] at hr
        simp -dsimp [h0, h1', h5, s5, h6, h7, h8, hf, hbk, acc, chL, hlt, hb', Ch.row, ht, hr, Try.results24, wrap_up hlt haa]
        exact ⟨fun h => hbad (by omega), fun q1 q2 q3 q4 => hgo ⟨q1, q2, q3, q4⟩⟩
      · simp -dsimp [h0, h1', h5, s5, h6, h7, s7, h8, hf, hbk, acc, chL, hlt, hb', Ch.row, ht, hm, Try.results24, wrap_up hlt haa]
        exact ⟨fun h => hbad (by omega), fun q1 q2 q3 q4 => ⟨by omega, hgo ⟨q1, q2, q3, q4⟩⟩⟩
  · have hia : a.take i = a := List.take_of_length_le (by omega)
    rw [hia] at hac
    rw [List.drop_of_length_le (by omega)] at hq
    have hnone : a.find? (badM b) = none := hq
    have hlt' := hlt
    clear hlt hi hq hia
    rcases hac with ⟨h7, hr⟩ | ⟨h7, s7⟩
    simp -dsimp [h0, h1', h8, chL, hlt']
    refine loop_up tb7_ok mixed b.length (fun i ρ σ => ρ 0 = .one (.d (chL a)) ∧ ρ 1 = .one (.d (chL b)) ∧ ρ 5 = .one (.box 5 0) ∧ σ 5 = some (.box [.d (.int .i64 0), .d (.int .i64 0)]) ∧ ρ 6 = .int 0 ∧ ρ 10 = .int i ∧
      (chV (ρ 7) = some ((b.take i).foldl (stepU a) a) ∨ (ρ 7 = .one (.own 57) ∧ σ 57 = some (.row 4 49 (((b.take i).foldl (stepU a) a).map Ch.row))))) (by rw [hn]; kernel_rfl) (by simp at hr; simp [chL, h0, h1', h5, s5, h6, h7, hr]) ?_
    rotate_left
    simp -dsimp [h0, h1', h8, chL, hlt']
    refine loop_up tb7_ok mixed b.length (fun i ρ σ => ρ 0 = .one (.d (chL a)) ∧ ρ 1 = .one (.d (chL b)) ∧ ρ 5 = .one (.box 5 0) ∧ σ 5 = some (.box [.d (.int .i64 0), .d (.int .i64 0)]) ∧ ρ 6 = .int 0 ∧ ρ 10 = .int i ∧
      (chV (ρ 7) = some ((b.take i).foldl (stepU a) a) ∨ (ρ 7 = .one (.own 57) ∧ σ 57 = some (.row 4 49 (((b.take i).foldl (stepU a) a).map Ch.row))))) (by rw [hn]; kernel_rfl) (by simp [chL, h0, h1', h5, s5, h6, h7, s7]) ?_
    all_goals
      clear h0 h1' h5 s5 h6 h8 h7
      rintro i ρ σ hi ⟨h0, h1', h5, s5, h6, h10, hac⟩
      have hlen' : ((b.take i).foldl (stepU a) a).length ≤ 100000 := by have := foldl_length (stepU a) (stepU_length a) (b.take i) a; simp at this; omega
      by_cases hlt : i < b.length
      · have hc : b[i]? = some b[i] := List.getElem?_eq_getElem hlt
        have hU : findP 0 a b[i].x b[i].y < 0 → (b.take (i + 1)).foldl (stepU a) a = insCh ((b.take i).foldl (stepU a) a) b[i] := fun h => by rw [foldl_up _ _ hlt]; unfold stepU; rw [if_pos h]
        have hV : 0 ≤ findP 0 a b[i].x b[i].y → (b.take (i + 1)).foldl (stepU a) a = (b.take i).foldl (stepU a) a := fun h => by rw [foldl_up _ _ hlt]; unfold stepU; rw [if_neg (by omega)]
        generalize (b.take (i + 1)).foldl (stepU a) a = out' at *
        generalize (b.take i).foldl (stepU a) a = out at *
        rcases hac with h7 | ⟨h7, s7⟩
        · simp -dsimp [h0, h1', h5, s5, h6, h7, h10, chL, hlt, ha', hlen', Ch.row, wrap_up hlt hba]
          exact ⟨fun h => (hU h).symm, fun h => .inl (hV h).symm⟩
        · simp -dsimp [h0, h1', h5, s5, h6, h7, s7, h10, chL, hlt, ha', hlen', Ch.row, Try.results24, wrap_up hlt hba]
          refine ⟨fun h => (hU h).symm, fun h => ?_⟩
          rw [hV h]
      · have hib : b.take i = b := List.take_of_length_le (by omega)
        rw [hib] at hac hlen'
        have hfin : mergeR a b = if (mergeU a b).length > 10000 then ([], (0, 0), 6) else (mergeU a b, (0, 0), 0) := by unfold mergeR; rw [h1, h2, hnone]; rfl
        rw [hfin]
        unfold mergeU
        generalize b.foldl (stepU a) a = out at *
        rcases hac with h7 | ⟨h7, s7⟩
        · rcases chV_cases h7 with ⟨h7, hr⟩ | ⟨h7, hr⟩ | h7
          · simp -dsimp [h0, h1', h5, s5, h7, h10, chL, hlt, Try.results24, mergeV, tripV, hr]
          · simp -dsimp [h0, h1', h5, s5, h7, h10, chL, hlt, Try.results24, mergeV, tripV, hr]
          · simp -dsimp [h0, h1', h5, s5, h7, h10, chL, hlt, Try.results24, mergeV, tripV]
            refine ⟨fun h => ?_, fun h => ?_⟩
            · rw [if_pos (by omega)]; simp
            · rw [if_neg (by omega)]; simp
        · simp -dsimp [h0, h1', h5, s5, h7, s7, h10, chL, hlt, Try.results24, mergeV, tripV]
          refine ⟨fun h => ?_, fun h => ?_⟩
          · rw [if_pos (by omega)]; simp
          · rw [if_neg (by omega)]; simp
end Go.Proofs.Ytfoadgepblojpaa
