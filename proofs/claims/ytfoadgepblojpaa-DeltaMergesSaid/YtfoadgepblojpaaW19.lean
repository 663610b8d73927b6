/-
  The walk of delta.Then.
-/
import Derived.Test.YtfoadgepblojpaaW18
namespace Go.Proofs.Ytfoadgepblojpaa
open Go.AM Go.Proofs Go.Sort

theorem changesM_ents {a : List Ch} (h : PDh a) : changesM a = ents kd vd a := mset_fold kd vd a (h.imp fun {_c _d} hcd => kd_ne.2 hcd)
theorem kd_find (a : List Ch) (x y : Int) : (a.find? fun c => decide (kd c = .ints [x, y])) = lk a x y := by
  unfold lk
  congr 1
  funext c
  simp [kd]
theorem placedCh {l : List Ch} (h : rightCh l = true) : allPlacedCh l = true := List.all_eq_true.2 fun c hc => by
  have := ((rightCh_iff l).1 h).2.1 c hc
  simp only [Ch.ok, Bool.and_eq_true] at this
  exact this.1
theorem restT_up {a b : List Ch} {i : Nat} (hi : i < b.length) (ha : PDh a) : mdel (ents kd vd (restT a b i)) (.ints [b[i].x, b[i].y]) = ents kd vd (restT a b (i + 1)) := by
  rw [mdel_ents kd vd _ _ ((restT_PDh ha i).imp fun {c d} h => kd_ne.2 h)]
  unfold restT
  rw [List.take_succ_eq_append_getElem hi, List.map_append, List.map_cons, List.map_nil, rest_add]
  rfl
theorem restT_skip {a b : List Ch} {i : Nat} (hi : i < b.length) (_ha : PDh a) (h : lk a b[i].x b[i].y = none) : restT a b (i + 1) = restT a b i := by
  unfold restT
  rw [List.take_succ_eq_append_getElem hi, List.map_append, List.map_cons, List.map_nil, rest_add, List.filter_eq_self]
  intro c hc
  have := lk_none.1 h c ((mem_rest kd).1 hc).1
  rw [Bool.not_eq_true', decide_eq_false_iff_not]
  exact fun h' => this ((kd_eq c _ _).1 h')
theorem restT_get {a b : List Ch} {i : Nat} (hi : i < b.length) (hb : PDh b) : mget (ents kd vd (restT a b i)) (.ints [b[i].x, b[i].y]) = (lk a b[i].x b[i].y).map vd := by
  rw [mget_ents]
  unfold restT
  rw [rest_find, kd_find]
  intro h
  obtain ⟨d, hd, hk⟩ := List.mem_map.1 h
  obtain ⟨j, hj, rfl⟩ := List.getElem_of_mem hd
  rw [List.getElem_take] at hk
  have hj' : j < i := by simp at hj; omega
  have := List.pairwise_iff_getElem.1 hb j i (by omega) hi hj'
  exact this (by simpa [kd] using hk)
theorem outT_up {a b : List Ch} {i : Nat} (hi : i < b.length) : outT a b (i + 1) = outT a b i ++ (gE a b[i]).toList := by
  unfold outT
  rw [List.take_succ_eq_append_getElem hi, List.filterMap_append]
  cases h : gE a b[i] <;> simp [h]
def okB (a : List Ch) (c : Ch) : Bool := match lk a c.x c.y with
  | some x => decide (x.t = c.f)
  | none => true
theorem okB_all {a b : List Ch} (ha : PDh a) (_hb : PDh b) : b.all (okB a) = true ↔ ∀ c ∈ a, ∀ d ∈ b, c.x = d.x → c.y = d.y → c.t = d.f := by
  rw [List.all_eq_true]
  refine ⟨fun h c hc d hd h1 h2 => ?_, fun h d hd => ?_⟩
  · have := h d hd
    unfold okB at this
    rw [← h1, ← h2, lk_mem ha hc] at this
    simpa using this
  · unfold okB
    cases hl : lk a d.x d.y with
    | none => rfl
    | some c => obtain ⟨h1, h2, h3⟩ := lk_pos hl; simpa using h c h1 d hd h2 h3
theorem okB_okT {a b : List Ch} (ha : PDh a) (hb : PDh b) : b.all (okB a) = a.all (okT b) := by
  rw [Bool.eq_iff_iff, okB_all ha hb, okT_all ha hb]

theorem then_spec (a b : List Ch) (ha : a.length ≤ 1000) (hb : b.length ≤ 1000) : PFn Try.prog 21 [.one (.d (chL a)), .one (.d (chL b))] (fun v => v.wk (chPair (thenR a b))) := by
  have ha' : a.length ≤ 100000 := by omega
  have hb' : b.length ≤ 100000 := by omega
  have hba := big hb'
  refine pfn_L tb11_ok mixed _ Try.func21 rfl (by kernel_rfl) (by simp [Try.ntmps21]) (by kernel_rfl) fun cx hn => ?_
  by_cases h1 : rightCh a = true
  · by_cases h2 : rightCh b = true
    · obtain ⟨_, oka, sa⟩ := (rightCh_iff a).1 h1
      obtain ⟨_, okb, sb⟩ := (rightCh_iff b).1 h2
      have pa := srt_pos sa
      have pb := srt_pos sb
      have hpl := placedCh h1
      have hM : changesM a = ents kd vd (restT a b 0) := by rw [changesM_ents pa]; unfold restT; rw [List.take_zero, List.map_nil, rest_nil]
      simp -dsimp [chL, ha', hb', h1, h2, hpl, Try.results21]
      refine loop_up tb11_ok mixed b.length (fun i ρ σ => ρ 5 = .int 0 ∧ ρ 6 = .one (.map 21) ∧ ρ 22 = .one (.d (chL b)) ∧ ρ 23 = .int b.length ∧ ρ 24 = .int i ∧ σ 21 = some (.map (.ints 2) (ents kd vd (restT a b i))) ∧ acc ρ σ 7 55 4 49 ((outT a b i).map Ch.row) ∧ b.all (okB a) = (b.drop i).all (okB a))
        (by rw [hn]; kernel_rfl) (by simp [chL, acc, hM, outT]) ?_
      rintro i ρ σ hi ⟨h5, h6, h22, h23, h24, s21, hac, hq⟩
      have hw := fun d => es_wipe (ents_free kd vd vd_free (restT a b i)) d
      have hoL := outT_length a b i
      have hrL := restT_length a b i
      by_cases hlt : i < b.length
      · have hc : b[i]? = some b[i] := List.getElem?_eq_getElem hlt
        have hok := okb b[i] (List.getElem_mem hlt)
        have hne : b[i].f ≠ b[i].t := right_ne h2 _ (List.getElem_mem hlt)
        simp only [Ch.ok, Bool.and_eq_true, decide_eq_true_eq] at hok
        have hf1 := wf_i64 hok.1.1 hok.1.2.1
        have hf2 := wf_i64 hok.1.2.2.1 hok.1.2.2.2
        have hget := restT_get (a := a) hlt pb
        have hdel := restT_up hlt pa
        have hskip := restT_skip hlt pa
        have hup := outT_up (a := a) hlt
        rw [List.drop_eq_getElem_cons hlt, List.all_cons] at hq
        have hbad : okB a b[i] = false → V.wk (.tup [.one (.d .nil), .one (.d (.int .i64 17))]) (chPair (thenR a b)) := fun h => by
          have : a.all (okT b) = false := by rw [← okB_okT pa pb, hq, h]; rfl
          simp [thenR, h1, h2, this, chPair, pairV]
        have hgo : okB a b[i] = true → b.all (okB a) = (b.drop (i + 1)).all (okB a) := fun h => by rw [hq, h]; rfl
        generalize hO : outT a b i = O at *
        generalize hR : restT a b i = R at *
        cases hlk : lk a b[i].x b[i].y with
        | none =>
          have hE : gE a b[i] = some b[i] := by unfold gE; rw [hlk]; simp [hne]
          rw [hE] at hup
          have hgo := hgo (by unfold okB; rw [hlk])
          rw [hlk] at hget
          rcases hac with ⟨h7, hr⟩ | ⟨h7, s55⟩
          · rw [List.map_eq_nil_iff] at hr
            simp -dsimp [h5, h6, h7, h22, h23, h24, s21, hw, hf1, hf2, hget, hlt, hskip hlk, hup, hne, hr, acc, chL, Ch.row, Try.results21, wrap_up hlt hba]
            exact hgo
          · simp -dsimp [h5, h6, h7, s55, h22, h23, h24, s21, hw, hf1, hf2, hget, hlt, hskip hlk, hup, hne, acc, chL, Ch.row, Try.results21, wrap_up hlt hba]
            exact ⟨by omega, hgo⟩
        | some x =>
          rw [hlk] at hget
          have hoB : okB a b[i] = decide (x.t = b[i].f) := by unfold okB; rw [hlk]
          rw [hoB] at hbad hgo
          have hE : gE a b[i] = if x.f = b[i].t then none else some ⟨b[i].x, b[i].y, x.f, b[i].t⟩ := by unfold gE; rw [hlk]
          rw [hE] at hup
          have hw' := fun d => es_wipe (ents_free kd vd vd_free (restT a b (i + 1))) d
          by_cases hs : x.f = b[i].t
          · rw [if_pos hs] at hup
            rcases hac with ⟨h7, hr⟩ | ⟨h7, s55⟩
            · rw [List.map_eq_nil_iff] at hr
              simp -dsimp [h5, h6, h7, h22, h23, h24, s21, hw, hw', hf1, hf2, hget, hdel, hlt, hup, hs, hr, vd, acc, chL, Ch.row, Try.results21, wrap_up hlt hba]
              exact ⟨fun h => hbad (by simpa using h), fun h => hgo (by simpa using h)⟩
            · simp -dsimp [h5, h6, h7, s55, h22, h23, h24, s21, hw, hw', hf1, hf2, hget, hdel, hlt, hup, hs, vd, acc, chL, Ch.row, Try.results21, wrap_up hlt hba]
              exact ⟨fun h => hbad (by simpa using h), fun h => hgo (by simpa using h)⟩
          · rw [if_neg hs] at hup
            rcases hac with ⟨h7, hr⟩ | ⟨h7, s55⟩
            · rw [List.map_eq_nil_iff] at hr
              simp -dsimp [h5, h6, h7, h22, h23, h24, s21, hw, hw', hf1, hf2, hget, hdel, hlt, hup, hs, hr, vd, acc, chL, Ch.row, Try.results21, wrap_up hlt hba]
              exact ⟨fun h => hbad (by simpa using h), fun h => hgo (by simpa using h)⟩
            · simp -dsimp [h5, h6, h7, s55, h22, h23, h24, s21, hw, hw', hf1, hf2, hget, hdel, hlt, hup, hs, vd, acc, chL, Ch.row, Try.results21, wrap_up hlt hba]
              exact ⟨fun h => hbad (by simpa using h), fun h => ⟨by omega, hgo (by simpa using h)⟩⟩
      · have hib : i = b.length := by omega
        subst hib
        rw [List.drop_of_length_le (Nat.le_refl _)] at hq
        have hall : a.all (okT b) = true := by rw [← okB_okT pa pb, hq]; rfl
        have hfin := fun (ys : List Ch) hp hs => then_final h1 h2 (ys := ys) hp hs
        have hT : thenR a b = if (thenU a b).length > 10000 then ([], 6) else (thenU a b, 0) := by unfold thenR; rw [h1, h2, hall]; rfl
        have hlen : (outT a b b.length).length + (restT a b b.length).length ≤ 5000 := by omega
        rw [hT]
        generalize outT a b b.length = O at *
        generalize restT a b b.length = R at *
        generalize thenU a b = U at *
        have hfin' : ∀ ys : List Ch, ys.Perm (O ++ R) → (ys.Pairwise fun x y => ¬ cfCh y x < 0) → chPair (if U.length > 10000 then ([], 6) else (U, 0)) = chPair (ys, 0) := fun ys hp hs => by
          rw [← hfin ys hp hs, if_neg (by have := hp.length_eq; simp at this; omega)]
        rcases hac with ⟨h7, hr⟩ | ⟨h7, s55⟩
        · rw [List.map_eq_nil_iff] at hr
          subst hr
          have hlen' : R.length ≤ 5000 := by omega
          simp -dsimp [h6, h7, h22, h23, h24, s21, hlen', hlt, chL]
          intro ys hp hs
          rw [hfin' ys hp (by simpa using hs)]
          simp -dsimp [chPair, pairV, Try.results21]
        · simp -dsimp [h6, h7, s55, h22, h23, h24, s21, hlen, hlt, chL]
          intro ys hp hs
          rw [hfin' ys hp (by simpa using hs)]
          simp -dsimp [chPair, pairV, Try.results21]
    · simp -dsimp [chL, ha', hb', h1, h2, Try.results21, thenR, chPair, pairV]
  · simp -dsimp [chL, ha', h1, Try.results21, thenR, chPair, pairV]
end Go.Proofs.Ytfoadgepblojpaa
