/-
  The walk of delta.Of.
-/
import Derived.Test.YtfoadgepblojpaaW12
namespace Go.Proofs.Ytfoadgepblojpaa
open Go.AM Go.Proofs Go.Sort

def kc (c : Cl) : Key := .ints [c.x, c.y]
def vc (c : Cl) : U := .one (.d (.int .i64 c.s))
theorem kc_eq (c : Cl) (x y : Int) : kc c = .ints [x, y] ↔ c.x = x ∧ c.y = y := by simp [kc]
theorem kc_ne {c d : Cl} : kc c ≠ kc d ↔ ¬ (c.x = d.x ∧ c.y = d.y) := by simp [kc]
theorem cellsM_ents {a : List Cl} (h : a.Pairwise fun c d => ¬ (c.x = d.x ∧ c.y = d.y)) : cellsM a = ents kc vc a :=
  mset_fold kc vc a (h.imp fun {_c _d} hcd => kc_ne.2 hcd)
theorem find_getP : ∀ (a : List Cl) (x y : Int), ((a.find? fun c => decide (kc c = .ints [x, y])) = none ∧ getP a x y = 0) ∨ ∃ c, (a.find? fun c => decide (kc c = .ints [x, y])) = some c ∧ c.s = getP a x y
  | [], x, y => .inl ⟨rfl, rfl⟩
  | c :: a, x, y => by
    unfold getP
    by_cases h : c.x = x ∧ c.y = y
    · rw [if_pos h, List.find?_cons_of_pos (by simpa using (kc_eq c x y).2 h)]
      exact .inr ⟨c, rfl, rfl⟩
    · rw [if_neg h, List.find?_cons_of_neg (by simpa using fun h' => h ((kc_eq c x y).1 h'))]
      exact find_getP a x y
def gP (a : List Cl) (c : Cl) : Option Ch := if getP a c.x c.y = c.s then none else some ⟨c.x, c.y, getP a c.x c.y, c.s⟩
def gR (c : Cl) : Ch := ⟨c.x, c.y, c.s, 0⟩
def restO (a b : List Cl) (i : Nat) : List Cl := rest kc a ((b.take i).map kc)
def outO (a b : List Cl) (i : Nat) : List Ch := (b.take i).filterMap (gP a)
theorem outO_length (a b : List Cl) (i : Nat) : (outO a b i).length ≤ b.length := by
  unfold outO
  exact Nat.le_trans (List.length_filterMap_le _ _) (by simp; omega)
theorem restO_length (a b : List Cl) (i : Nat) : (restO a b i).length ≤ a.length := List.length_filter_le _ _

/-- What the program collects, in whatever order the map is gone through: sorted, it is what the reference makes. -/
theorem of_final {a b : List Cl} (ha : rightCl a = true) (hb : rightCl b = true) {l : List Cl} (hl : l.Perm (restO a b b.length)) {ys : List Ch} (hp : ys.Perm (outO a b b.length ++ l.map gR)) (hs : ys.Pairwise fun x y => ¬ cfCh y x < 0) : ys = ofR a b := by
  obtain ⟨_, oka, sa⟩ := (rightCl_iff a).1 ha
  obtain ⟨_, okb, sb⟩ := (rightCl_iff b).1 hb
  have pa := srtC_pos sa
  have pb := srtC_pos sb
  have hpos : (outO a b b.length ++ l.map gR).Pairwise fun c d => ¬ (c.x = d.x ∧ c.y = d.y) := by
    rw [List.pairwise_append]
    have hg : ∀ c d, gP a c = some d → d.x = c.x ∧ d.y = c.y := fun c d h => by
      unfold gP at h; split at h
      · cases h
      · cases h; exact ⟨rfl, rfl⟩
    refine ⟨?_, ?_, ?_⟩
    · unfold outO
      rw [List.take_length, List.pairwise_filterMap]
      exact pb.imp fun {c d} h e he e' he' => by rw [(hg c e he).1, (hg c e he).2, (hg d e' he').1, (hg d e' he').2]; exact h
    · rw [List.pairwise_map]
      refine (List.Perm.pairwise_iff (R := fun c d : Cl => ¬ (c.x = d.x ∧ c.y = d.y)) (fun {c d} h h' => h ⟨h'.1.symm, h'.2.symm⟩) hl).2 ?_
      exact rest_pair kc pa _
    · intro c hc d hd
      obtain ⟨c', hc', h1⟩ := List.mem_filterMap.1 hc
      obtain ⟨d', hd', rfl⟩ := List.mem_map.1 hd
      have h2 := (mem_rest kc).1 (hl.mem_iff.1 hd')
      obtain ⟨h3, h4⟩ := hg c' c h1
      intro h5
      refine h2.2 (List.mem_map.2 ⟨c', hc', ?_⟩)
      have h6 : c'.x = d'.x ∧ c'.y = d'.y := ⟨by rw [← h3]; exact h5.1, by rw [← h4]; exact h5.2⟩
      simp [kc, h6]
  have hsr : srt ys := by
    have hys : ys.Pairwise fun c d => ¬ (c.x = d.x ∧ c.y = d.y) := (List.Perm.pairwise_iff (R := fun c d : Ch => ¬ (c.x = d.x ∧ c.y = d.y)) (fun {c d} h h' => h ⟨h'.1.symm, h'.2.symm⟩) hp).2 hpos
    refine (hs.and hys).imp fun {c d} h => ?_
    rw [lt_iff]
    have := h.1
    simp only [cfCh, cmpP] at this
    have := h.2
    grind
  refine srt_ext hsr (ofR_srt ha hb) fun d => ?_
  rw [hp.mem_iff, ofR_mem ha hb, List.mem_append]
  constructor
  · rintro (h | h)
    · obtain ⟨c, hc, h1⟩ := List.mem_filterMap.1 h
      rw [List.take_length] at hc
      unfold gP at h1
      split at h1
      · cases h1
      · rename_i hne
        cases h1
        exact ⟨rfl, (getP_mem pb c hc).symm, hne⟩
    · obtain ⟨c, hc, rfl⟩ := List.mem_map.1 h
      obtain ⟨h1, h2⟩ := (mem_rest kc).1 (hl.mem_iff.1 hc)
      rw [List.take_length] at h2
      have hs := oka c h1
      simp only [Cl.ok, Bool.and_eq_true, decide_eq_true_eq] at hs
      refine ⟨(getP_mem pa c h1).symm, (getP_none fun e he h3 => h2 (List.mem_map.2 ⟨e, he, ?_⟩)).symm, by simp only [gR]; omega⟩
      have h3 : e.x = c.x ∧ e.y = c.y := h3
      simp [kc, h3]
  · rintro ⟨h1, h2, h3⟩
    by_cases h0 : d.t = 0
    · right
      have ha0 : getP a d.x d.y ≠ 0 := by omega
      obtain ⟨c, hc, hx, hy, hs⟩ := getP_some ha0
      refine List.mem_map.2 ⟨c, hl.mem_iff.2 ((mem_rest kc).2 ⟨hc, fun h => ?_⟩), ?_⟩
      · rw [List.take_length] at h
        obtain ⟨e, he, hk⟩ := List.mem_map.1 h
        have hk' : e.x = c.x ∧ e.y = c.y := by simpa [kc] using hk
        have := getP_mem pb e he
        have hs' := okb e he
        simp only [Cl.ok, Bool.and_eq_true, decide_eq_true_eq] at hs'
        rw [hk'.1, hk'.2, hx, hy] at this
        omega
      · simp only [gR, hx, hy, hs, ← h1, ← h0]
    · left
      have hb0 : getP b d.x d.y ≠ 0 := by omega
      obtain ⟨c, hc, hx, hy, hs⟩ := getP_some hb0
      refine List.mem_filterMap.2 ⟨c, by rw [List.take_length]; exact hc, ?_⟩
      unfold gP
      rw [hx, hy, hs, if_neg (by omega), ← h1, ← h2]

theorem of_spec (a b : List Cl) (ha : a.length ≤ 1000) (hb : b.length ≤ 1000) : PFn Try.prog 11 [.one (.d (clL a)), .one (.d (clL b))] (fun v => v.wk (ofV a b)) := by
  have ha' : a.length ≤ 100000 := by omega
  have hb' : b.length ≤ 100000 := by omega
  have hba := big hb'
  refine pfn_L tb9_ok mixed _ Try.func11 rfl (by kernel_rfl) (by simp [Try.ntmps11]) (by kernel_rfl) fun cx hn => ?_
  have hpl : rightCl a = true → allPlaced a = true := fun h => by
    obtain ⟨_, ok, _⟩ := (rightCl_iff a).1 h
    exact List.all_eq_true.2 fun c hc => by
      have := ok c hc
      simp only [Cl.ok, Bool.and_eq_true] at this
      exact this.1
  by_cases h1 : rightCl a = true
  · have hpl := hpl h1
    by_cases h2 : rightCl b = true
    · obtain ⟨_, oka, sa⟩ := (rightCl_iff a).1 h1
      obtain ⟨_, okb, sb⟩ := (rightCl_iff b).1 h2
      have pa := srtC_pos sa
      have pb := srtC_pos sb
      have hM : cellsM a = ents kc vc (restO a b 0) := by rw [cellsM_ents pa]; unfold restO; rw [List.take_zero, List.map_nil, rest_nil]
      simp -dsimp [clL, ha', hb', h1, h2, hpl, Try.results11]
      refine loop_up tb9_ok mixed b.length (fun i ρ σ => ρ 5 = .int 0 ∧ ρ 7 = .one (.map 23) ∧ ρ 24 = .one (.d (clL b)) ∧ ρ 25 = .int b.length ∧ ρ 26 = .int i ∧ σ 23 = some (.map (.ints 2) (ents kc vc (restO a b i))) ∧ acc ρ σ 6 52 4 49 ((outO a b i).map Ch.row))
        (by rw [hn]; kernel_rfl) (by simp [clL, acc, hM, outO]) ?_
      rintro i ρ σ hi ⟨h5, h7, h24, h25, h26, s23, hac⟩
      have hw := fun d => es_wipe (ents_free kc vc (fun _ => rfl) (restO a b i)) d
      by_cases hlt : i < b.length
      · have hc : b[i]? = some b[i] := List.getElem?_eq_getElem hlt
        have hok := okb b[i] (List.getElem_mem hlt)
        simp only [Cl.ok, Bool.and_eq_true, decide_eq_true_eq] at hok
        have hf1 := wf_i64 hok.1.1 hok.1.2.1
        have hf2 := wf_i64 hok.1.2.2.1 hok.1.2.2.2
        have hdel : mdel (ents kc vc (restO a b i)) (.ints [b[i].x, b[i].y]) = ents kc vc (restO a b (i + 1)) := by
          unfold restO
          rw [mdel_ents kc vc _ _ (rest_pair kc (pa.imp fun {c d} h => kc_ne.2 h) _), take_up hlt, List.map_append, List.map_cons, List.map_nil, rest_add]
          rfl
        have hnk : (Key.ints [b[i].x, b[i].y]) ∉ (b.take i).map kc := by
          intro h
          obtain ⟨e, he, hk⟩ := List.mem_map.1 h
          have hk' : e.x = b[i].x ∧ e.y = b[i].y := by simpa [kc] using hk
          obtain ⟨j, hj, rfl⟩ := List.getElem_of_mem he
          rw [List.getElem_take] at hk'
          have hj' : j < i := by simp at hj; omega
          exact (List.pairwise_iff_getElem.1 pb j i (by omega) hlt hj') hk'
        have hget : mget (ents kc vc (restO a b i)) (.ints [b[i].x, b[i].y]) = (a.find? fun c => decide (kc c = .ints [b[i].x, b[i].y])).map vc := by
          rw [mget_ents]; unfold restO; rw [rest_find kc _ _ _ hnk]
        have hlen := outO_length a b i
        have hA : ¬ getP a b[i].x b[i].y = b[i].s → (outO a b (i + 1)).map Ch.row = (outO a b i).map Ch.row ++ [[.int .i64 b[i].x, .int .i64 b[i].y, .int .i64 (getP a b[i].x b[i].y), .int .i64 b[i].s]] := fun h => by
          unfold outO
          rw [take_up hlt, List.filterMap_append, List.map_append]
          simp [gP, h, Ch.row]
        have hB : getP a b[i].x b[i].y = b[i].s → outO a b (i + 1) = outO a b i := fun h => by
          unfold outO
          rw [take_up hlt, List.filterMap_append]
          simp [gP, h]
        have hs : ∃ o, (a.find? fun c => decide (kc c = .ints [b[i].x, b[i].y])).map vc = o ∧ (o = none ∧ getP a b[i].x b[i].y = 0 ∨ o = some (.one (.d (.int .i64 (getP a b[i].x b[i].y))))) := by
          rcases find_getP a b[i].x b[i].y with ⟨h3, h4⟩ | ⟨c, h3, h4⟩
          · exact ⟨none, by rw [h3]; rfl, .inl ⟨rfl, h4⟩⟩
          · exact ⟨_, rfl, .inr (by rw [h3, ← h4]; rfl)⟩
        obtain ⟨o, hgo, ho⟩ := hs
        rw [hgo] at hget
        generalize outO a b (i + 1) = out' at *
        generalize outO a b i = out at *
        rcases hac with ⟨h6, hr⟩ | ⟨h6, s52⟩
        · rcases ho with ⟨rfl, h0⟩ | rfl
          · rw [h0] at hA hB
            simp -dsimp [h5, h6, h7, h24, h25, h26, s23, hw, hf1, hf2, hget, hdel, hlt, acc, clL, Cl.row, wrap_up hlt hba]
            refine ⟨fun h => ?_, fun h => ?_⟩
            · rw [hA h, hr]; rfl
            · rw [hB h]; simpa using hr
          · simp -dsimp [h5, h6, h7, h24, h25, h26, s23, hw, hf1, hf2, hget, hdel, hlt, acc, clL, Cl.row, wrap_up hlt hba]
            refine ⟨fun h => ?_, fun h => ?_⟩
            · rw [hA h, hr]; rfl
            · rw [hB h]; simpa using hr
        · rcases ho with ⟨rfl, h0⟩ | rfl
          · rw [h0] at hA hB
            simp -dsimp [h5, h6, h7, h24, h25, h26, s23, s52, hw, hf1, hf2, hget, hdel, hlt, acc, clL, Cl.row, wrap_up hlt hba]
            refine ⟨fun h => ⟨by omega, ?_⟩, fun h => ?_⟩
            · rw [hA h]
            · rw [hB h]
          · simp -dsimp [h5, h6, h7, h24, h25, h26, s23, s52, hw, hf1, hf2, hget, hdel, hlt, acc, clL, Cl.row, wrap_up hlt hba]
            refine ⟨fun h => ⟨by omega, ?_⟩, fun h => ?_⟩
            · rw [hA h]
            · rw [hB h]
      · have hib : i = b.length := by omega
        subst hib
        have hfin := fun l hl ys hp hs => of_final h1 h2 (l := l) hl (ys := ys) hp hs
        have hofV : ofV a b = pairV (chL (ofR a b)) 0 := by simp [ofV, h1, h2]
        have hlenO := outO_length a b b.length
        have hlenR := restO_length a b b.length
        rw [hofV]
        generalize outO a b b.length = out at *
        generalize restO a b b.length = rs at *
        generalize ofR a b = res at *
        have hi' := hlt
        clear hlt
        rcases hac with ⟨h6, hr⟩ | ⟨h6, s52⟩
        simp -dsimp [h7, h24, h25, h26, s23, hw]
        refine loop_L tb9_ok mixed (fun n ρ σ => ∃ done left last, n = left.length ∧ (done ++ left).Perm rs ∧ ρ 5 = .int 0 ∧ ρ 57 = .one (.iter 57) ∧ σ 57 = some (.iter 23 (ents kc vc left) last) ∧ acc2 ρ σ 6 52 71 4 49 ((out ++ done.map gR).map Ch.row)) rs.length (by rw [hn]; kernel_rfl)
          (by refine ⟨[], rs, none, rfl, List.Perm.refl _, ?_⟩; simp [acc2, h5, h6]; simpa using hr) ?_
        rotate_left
        simp -dsimp [h7, h24, h25, h26, s23, hw]
        refine loop_L tb9_ok mixed (fun n ρ σ => ∃ done left last, n = left.length ∧ (done ++ left).Perm rs ∧ ρ 5 = .int 0 ∧ ρ 57 = .one (.iter 57) ∧ σ 57 = some (.iter 23 (ents kc vc left) last) ∧ acc2 ρ σ 6 52 71 4 49 ((out ++ done.map gR).map Ch.row)) rs.length (by rw [hn]; kernel_rfl)
          (by refine ⟨[], rs, none, rfl, List.Perm.refl _, ?_⟩; simp [acc2, h5, h6, s52]) ?_
        all_goals
          clear h5 h6 h7 h24 h25 h26 s23
          rintro n ρ σ ⟨done, left, last, rfl, hperm, h5, h57, s57, hac⟩
          have hdl : done.length + left.length ≤ 1000 := by have := hperm.length_eq; simp at this; omega
          have hlen0 : (out ++ done.map gR).length ≤ 100000 := by simp; omega
          obtain ⟨ou, hou⟩ : ∃ ou, ou = out ++ done.map gR := ⟨_, rfl⟩
          rw [← hou] at hac hlen0
          rcases hac with ⟨h6, hr⟩ | ⟨h6, s6⟩ | ⟨h6, s6⟩
          · simp -dsimp [h6, h57, s57, Try.results11]
            refine ⟨fun h => ?_, fun i k u hx => ?_⟩
            · rw [ents_nil] at h
              subst h
              rw [List.append_nil] at hperm
              rw [List.map_eq_nil_iff] at hr
              have := hfin done hperm [] (by rw [← hou, hr]) List.Pairwise.nil
              simp [pairV, chL, ← this]
            · obtain ⟨c, hc, he⟩ := ents_get kc vc hx
              cases he
              have hpe := perm_erase hc
              have hle : left.length = (left.eraseIdx i).length + 1 := by have := hpe.length_eq; simpa using this.symm
              have hw := fun d => es_wipe (ents_free kc vc (fun _ => rfl) (left.eraseIdx i)) d
              simp -dsimp [h5, h6, h57, hw, ents_eraseIdx, kc, vc]
              refine ⟨(left.eraseIdx i).length, by omega, done ++ [c], left.eraseIdx i, rfl, ?_, ?_⟩
              · rw [List.append_assoc]
                exact (hpe.append_left done).trans hperm
              · rw [List.map_eq_nil_iff] at hr
                have : List.map Ch.row out ++ List.map (Ch.row ∘ gR) (done ++ [c]) = ou.map Ch.row ++ [(gR c).row] := by rw [hou]; simp
                rw [this, hr]
                simp [acc2, gR, Ch.row]
          · simp -dsimp [h6, h57, s57, s6, hlen0, Try.results11]
            refine ⟨fun h => ?_, fun i k u hx => ?_⟩
            · rw [ents_nil] at h
              subst h
              rw [List.append_nil] at hperm
              intro ys hp hs
              have := hfin done hperm ys (by rw [← hou]; exact hp) (by simpa using hs)
              simp -dsimp [pairV, chL, this]
            · obtain ⟨c, hc, he⟩ := ents_get kc vc hx
              cases he
              have hpe := perm_erase hc
              have hle : left.length = (left.eraseIdx i).length + 1 := by have := hpe.length_eq; simpa using this.symm
              have hw := fun d => es_wipe (ents_free kc vc (fun _ => rfl) (left.eraseIdx i)) d
              simp -dsimp [h5, h6, h57, s6, hw, ents_eraseIdx, kc, vc]
              refine ⟨by omega, (left.eraseIdx i).length, by omega, done ++ [c], left.eraseIdx i, rfl, ?_, ?_⟩
              · rw [List.append_assoc]
                exact (hpe.append_left done).trans hperm
              · have : List.map Ch.row out ++ List.map (Ch.row ∘ gR) (done ++ [c]) = ou.map Ch.row ++ [(gR c).row] := by rw [hou]; simp
                rw [this]
                simp [acc2, gR, Ch.row]
          · simp -dsimp [h6, h57, s57, s6, hlen0, Try.results11]
            refine ⟨fun h => ?_, fun i k u hx => ?_⟩
            · rw [ents_nil] at h
              subst h
              rw [List.append_nil] at hperm
              intro ys hp hs
              have := hfin done hperm ys (by rw [← hou]; exact hp) (by simpa using hs)
              simp -dsimp [pairV, chL, this]
            · obtain ⟨c, hc, he⟩ := ents_get kc vc hx
              cases he
              have hpe := perm_erase hc
              have hle : left.length = (left.eraseIdx i).length + 1 := by have := hpe.length_eq; simpa using this.symm
              have hw := fun d => es_wipe (ents_free kc vc (fun _ => rfl) (left.eraseIdx i)) d
              simp -dsimp [h5, h6, h57, s6, hw, ents_eraseIdx, kc, vc]
              refine ⟨by omega, (left.eraseIdx i).length, by omega, done ++ [c], left.eraseIdx i, rfl, ?_, ?_⟩
              · rw [List.append_assoc]
                exact (hpe.append_left done).trans hperm
              · have : List.map Ch.row out ++ List.map (Ch.row ∘ gR) (done ++ [c]) = ou.map Ch.row ++ [(gR c).row] := by rw [hou]; simp
                rw [this]
                simp [acc2, gR, Ch.row]
    · simp -dsimp [clL, ha', hb', h1, h2, Try.results11, ofV, pairV, chL]
  · simp -dsimp [clL, ha', h1, Try.results11, ofV, pairV, chL]
end Go.Proofs.Ytfoadgepblojpaa
