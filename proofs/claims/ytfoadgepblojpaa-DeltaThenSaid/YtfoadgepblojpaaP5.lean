/-
  Plain: what the laws without the reference say of the functions of lists.
-/
import Derived.Test.YtfoadgepblojpaaW22
namespace Go.Proofs.Ytfoadgepblojpaa
open Go.AM Go.Proofs Go.Sort

theorem right_PD {l : List Cl} (h : rightCl l = true) : PD l := srtC_pos ((rightCl_iff l).1 h).2.2
theorem right_okL {l : List Cl} (h : rightCl l = true) : okL l := ((rightCl_iff l).1 h).2.1
theorem right_okCh {l : List Ch} (h : rightCh l = true) : ∀ c ∈ l, c.ok = true := ((rightCh_iff l).1 h).2.1
theorem cl_ext {l l' : List Cl} (h : rightCl l = true) (h' : rightCl l' = true) (hg : ∀ x y, getP l x y = getP l' x y) : l = l' :=
  srtC_ext ((rightCl_iff l).1 h).2.2 ((rightCl_iff l').1 h').2.2 fun c => by
    rw [mem_getP (right_PD h) (right_okL h), mem_getP (right_PD h') (right_okL h'), hg]
theorem getP_perm {l l' : List Cl} (h : PD l) (h' : PD l') (hm : ∀ c, c ∈ l ↔ c ∈ l') (x y : Int) : getP l x y = getP l' x y := by
  by_cases hc : ∃ c ∈ l, c.x = x ∧ c.y = y
  · obtain ⟨c, hc, rfl, rfl⟩ := hc
    rw [getP_mem h c hc, getP_mem h' c ((hm c).1 hc)]
  · rw [getP_none fun c hc' hp => hc ⟨c, hc', hp⟩, getP_none fun c hc' hp => hc ⟨c, (hm c).2 hc', hp⟩]
theorem fromR_ok {l : List Cl} (hp : PD l) (ho : okL l) (hl : l.length ≤ 5000) : ∃ r, fromR l = (r, 0) ∧ rightCl r = true ∧ ∀ x y, getP r x y = getP l x y := by
  have h0 : scanE l = 0 := scan_zero fun c hc => by
    have := ho c hc
    simp only [Cl.ok, Bool.and_eq_true, decide_eq_true_eq] at this
    exact ⟨by simpa [Cl.placed] using this.1, by omega, this.2.2⟩
  have hnz : l.filter (fun c => !decide (c.s = 0)) = l := by
    rw [List.filter_eq_self]
    intro c hc
    have := ho c hc
    simp only [Cl.ok, Bool.and_eq_true, decide_eq_true_eq] at this
    simp
    omega
  obtain ⟨s1, p1⟩ := foldF l [] List.Pairwise.nil
  rw [List.append_nil, hnz] at p1
  have hp1 : PD (l.foldl stepF []) := (PD_perm p1).2 hp
  have hi := (incr_iff s1).2 hp1
  have hlen := p1.length_eq
  refine ⟨l.foldl stepF [], ?_, (rightCl_iff _).2 ⟨by omega, fun c hc => ho c (p1.mem_iff.1 hc), wk_strict s1 hp1⟩, getP_perm hp1 hp fun c => p1.mem_iff⟩
  unfold fromR
  rw [if_pos h0, if_pos hi, if_neg (by omega)]
def after (p : List Cl) (l : List Ch) (x y : Int) : Int := match lk l x y with
  | some c => c.t
  | none => getP p x y
theorem stL_length (p : List Cl) (l : List Ch) : (stL p l l.length).length ≤ p.length + l.length := by
  have := foldl_length stepL stepL_length (l.take l.length) p
  unfold stL
  simp at this ⊢
  omega
theorem app_ok {p : List Cl} {l : List Ch} (hp : rightCl p = true) (hl : rightCh l = true) (hf : fits p l = true) (hn : p.length + l.length ≤ 5000) :
    appE p l = 0 ∧ rightCl (appL p l) = true ∧ ∀ x y, getP (appL p l) x y = after p l x y := by
  have hfin := apply_final hp hl (out := stL p l l.length) (List.Perm.refl _)
  obtain ⟨r, h1, h2, h3⟩ := fromR_ok (l := stL p l l.length) (foldL_PD _ (right_PD hp)) (foldL_ok _ (fun c hc => right_okCh hl c (List.take_sublist _ _ |>.subset hc)) (right_okL hp)) (by have := stL_length p l; omega)
  have happ : applyR p l = (r, 0) := by unfold applyR; rw [hp, hl, hf, ← h1, hfin]; rfl
  unfold appE appL
  rw [happ]
  refine ⟨rfl, h2, fun x y => ?_⟩
  rw [h3]
  unfold stL
  rw [List.take_length, getP_foldL _ _ _ _ (right_srt hl)]
  rfl
theorem app_zero {p : List Cl} {l : List Ch} (h : appE p l = 0) : rightCl p = true ∧ rightCh l = true ∧ fits p l = true := by
  unfold appE applyR at h
  split at h
  · rename_i h1
    rw [Bool.and_eq_true] at h1
    split at h
    · rename_i h2; exact ⟨h1.1, h1.2, h2⟩
    · cases h
  · cases h
theorem getP_range {a : List Cl} (h : okL a) (x y : Int) : 0 ≤ getP a x y ∧ getP a x y < 8 := by
  by_cases h0 : getP a x y = 0
  · omega
  · obtain ⟨c, hc, _, _, hs⟩ := getP_some h0
    have := h c hc
    simp only [Cl.ok, Bool.and_eq_true, decide_eq_true_eq] at this
    omega
theorem getP_placed {a : List Cl} (h : okL a) {x y : Int} (h0 : getP a x y ≠ 0) : -1048576 ≤ x ∧ x ≤ 1048576 ∧ -1048576 ≤ y ∧ y ≤ 1048576 := by
  obtain ⟨c, hc, hx, hy, _⟩ := getP_some h0
  have := h c hc
  simp only [Cl.ok, Bool.and_eq_true, decide_eq_true_eq] at this
  omega
theorem ofL_eq {a b : List Cl} (ha : rightCl a = true) (hb : rightCl b = true) : ofL a b = ofR a b := by unfold ofL; rw [ha, hb]; rfl
theorem of_right {a b : List Cl} (ha : rightCl a = true) (hb : rightCl b = true) (hn : a.length + b.length ≤ 5000) : rightCh (ofL a b) = true := by
  refine (rightCh_iff _).2 ⟨by have := ofL_length a b; omega, fun c hc => ?_, ?_⟩
  · rw [ofL_eq ha hb, ofR_mem ha hb] at hc
    obtain ⟨h1, h2, h3⟩ := hc
    have q1 := getP_range (right_okL ha) c.x c.y
    have q2 := getP_range (right_okL hb) c.x c.y
    have q3 : -1048576 ≤ c.x ∧ c.x ≤ 1048576 ∧ -1048576 ≤ c.y ∧ c.y ≤ 1048576 := by
      by_cases h0 : getP a c.x c.y = 0
      · exact getP_placed (right_okL hb) (x := c.x) (y := c.y) (by omega)
      · exact getP_placed (right_okL ha) h0
    simp only [Ch.ok, Bool.and_eq_true, decide_eq_true_eq]
    omega
  · rw [ofL_eq ha hb]; exact ofR_srt ha hb
theorem lk_mem_iff {l : List Ch} (h : PDh l) {x y : Int} {d : Ch} : lk l x y = some d ↔ d ∈ l ∧ d.x = x ∧ d.y = y :=
  ⟨fun hd => lk_pos hd, fun ⟨h1, h2, h3⟩ => by subst h2 h3; exact lk_mem h h1⟩
theorem lk_of {a b : List Cl} (ha : rightCl a = true) (hb : rightCl b = true) (hn : a.length + b.length ≤ 5000) (x y : Int) :
    lk (ofL a b) x y = if getP a x y = getP b x y then none else some ⟨x, y, getP a x y, getP b x y⟩ := by
  have hp := right_PDh (of_right ha hb hn)
  have hmem : ∀ d, d ∈ ofL a b ↔ d.f = getP a d.x d.y ∧ d.t = getP b d.x d.y ∧ d.f ≠ d.t := fun d => by rw [ofL_eq ha hb]; exact ofR_mem ha hb d
  by_cases h : getP a x y = getP b x y
  · rw [if_pos h, lk_none]
    rintro c hc ⟨rfl, rfl⟩
    obtain ⟨h1, h2, h3⟩ := (hmem c).1 hc
    omega
  · rw [if_neg h, lk_mem_iff hp, hmem]
    exact ⟨⟨rfl, rfl, h⟩, rfl, rfl⟩
theorem fits_iff {p : List Cl} {l : List Ch} : fits p l = true ↔ ∀ c ∈ l, getP p c.x c.y = c.f := by
  unfold fits; rw [List.all_eq_true]; simp

/-! ### DeltaReturns -/
theorem inv_inv (l : List Ch) : (l.map Ch.inv).map Ch.inv = l := by
  rw [List.map_map]
  exact (List.map_congr_left fun c _ => rfl).trans (List.map_id l)
theorem inv_right {l : List Ch} (h : rightCh l = true) : rightCh (l.map Ch.inv) = true := by
  obtain ⟨h1, h2, h3⟩ := (rightCh_iff l).1 h
  refine (rightCh_iff _).2 ⟨by simpa using h1, fun c hc => ?_, ?_⟩
  · obtain ⟨d, hd, rfl⟩ := List.mem_map.1 hc
    have := h2 d hd
    simp only [Ch.ok, Bool.and_eq_true, decide_eq_true_eq] at this
    show (decide (-1048576 ≤ d.x ∧ d.x ≤ 1048576 ∧ -1048576 ≤ d.y ∧ d.y ≤ 1048576) && decide (0 ≤ d.t ∧ d.t < 8 ∧ 0 ≤ d.f ∧ d.f < 8 ∧ d.t ≠ d.f)) = true
    rw [Bool.and_eq_true, decide_eq_true_eq, decide_eq_true_eq]
    exact ⟨this.1, this.2.2.2.1, this.2.2.2.2.1, this.2.1, this.2.2.1, fun h => this.2.2.2.2.2 h.symm⟩
  · unfold srt
    rw [List.pairwise_map]
    exact h3.imp fun {a b} hab => by rw [lt_iff] at hab ⊢; exact hab
theorem invL_right {l : List Ch} (h : rightCh l = true) : invL l = l.map Ch.inv := by unfold invL; rw [if_pos h]
theorem returns_plain {a b : List Cl} (ha : rightCl a = true) (hb : rightCl b = true) (hn : a.length + b.length ≤ 2000) :
    ofE a b = 0 ∧ ofE a a = 0 ∧ ofL a a = [] ∧ rightCh (ofL a b) = true ∧ appE a (ofL a b) = 0 ∧ appL a (ofL a b) = b ∧ appE b (invL (ofL a b)) = 0 ∧ appL b (invL (ofL a b)) = a ∧ invL (invL (ofL a b)) = ofL a b := by
  have hR := of_right ha hb (by omega)
  have hL := ofL_length a b
  have hmem : ∀ d, d ∈ ofL a b ↔ d.f = getP a d.x d.y ∧ d.t = getP b d.x d.y ∧ d.f ≠ d.t := fun d => by rw [ofL_eq ha hb]; exact ofR_mem ha hb d
  have hinv := invL_right hR
  have hIR := inv_right hR
  obtain ⟨e1, e2, e3⟩ := app_ok ha hR (fits_iff.2 fun c hc => ((hmem c).1 hc).1.symm) (by omega)
  have hlen : ((ofL a b).map Ch.inv).length = (ofL a b).length := List.length_map _
  obtain ⟨f1, f2, f3⟩ := app_ok hb hIR (fits_iff.2 fun c hc => by
    obtain ⟨d, hd, rfl⟩ := List.mem_map.1 hc
    exact ((hmem d).1 hd).2.1.symm) (by omega)
  rw [hinv]
  refine ⟨by unfold ofE; rw [ha, hb]; rfl, by unfold ofE; rw [ha]; rfl, ?_, hR, e1, cl_ext e2 hb fun x y => ?_, f1, cl_ext f2 ha fun x y => ?_, by rw [invL_right hIR, inv_inv]⟩
  · rw [List.eq_nil_iff_forall_not_mem]
    intro d hd
    rw [ofL_eq ha ha, ofR_mem ha ha] at hd
    omega
  · rw [e3, after, lk_of ha hb (by omega)]
    by_cases h : getP a x y = getP b x y
    · rw [if_pos h]; exact h
    · rw [if_neg h]
  · rw [f3, after]
    have hlk : lk ((ofL a b).map Ch.inv) x y = (lk (ofL a b) x y).map Ch.inv := by
      cases h : lk (ofL a b) x y with
      | none =>
        rw [lk_none] at h
        exact lk_none.2 fun c hc hp => by
          obtain ⟨d, hd, rfl⟩ := List.mem_map.1 hc
          exact h d hd hp
      | some d =>
        obtain ⟨h1, h2, h3⟩ := lk_pos h
        exact (lk_mem_iff (right_PDh hIR)).2 ⟨List.mem_map.2 ⟨d, h1, rfl⟩, h2, h3⟩
    rw [hlk, lk_of ha hb (by omega)]
    by_cases h : getP a x y = getP b x y
    · rw [if_pos h]; exact h.symm
    · rw [if_neg h]; rfl

/-! ### DeltaThen -/
theorem lk_then {a b : List Ch} (ha : rightCh a = true) (hb : rightCh b = true) (x y : Int) : lk (thenU a b) x y = thenAt a b x y := by
  have hp : PDh (thenU a b) := srt_pos (thenU_srt ha hb)
  cases h : thenAt a b x y with
  | none =>
    rw [lk_none]
    rintro c hc ⟨rfl, rfl⟩
    rw [thenU_mem ha hb, h] at hc
    cases hc
  | some d =>
    obtain ⟨h1, h2⟩ := thenAt_pos h
    rw [lk_mem_iff hp, thenU_mem ha hb, h1, h2]
    exact ⟨h, rfl, rfl⟩
theorem thnL_eq {a b : List Ch} (ha : rightCh a = true) (hb : rightCh b = true) (ho : a.all (okT b) = true) (hn : a.length + b.length ≤ 5000) : thnL a b = thenU a b ∧ thnE a b = 0 := by
  have hl : (thenU a b).length ≤ a.length + b.length := by
    rw [thenU_eq]
    have h := foldl_insG_length (gU a) b (a.foldl (insG (gW b)) [])
    have h' := foldl_insG_length (gW b) a []
    simp at h'
    omega
  unfold thnL thnE thenR
  rw [ha, hb, ho]
  simp only [Bool.and_self, if_true]
  rw [if_neg (by omega)]
  exact ⟨rfl, rfl⟩
theorem ch_ext {l l' : List Ch} (h : srt l) (h' : srt l') (hg : ∀ x y, lk l x y = lk l' x y) : l = l' :=
  srt_ext h h' fun c => by rw [mem_lk (srt_pos h), mem_lk (srt_pos h'), hg]
theorem then_of {a b c : List Cl} (ha : rightCl a = true) (hb : rightCl b = true) (hc : rightCl c = true) (hn : a.length + b.length + c.length ≤ 2000) :
    thnE (ofL a b) (ofL b c) = 0 ∧ thnL (ofL a b) (ofL b c) = ofL a c := by
  have r1 := of_right ha hb (by omega)
  have r2 := of_right hb hc (by omega)
  have r3 := of_right ha hc (by omega)
  have l1 := ofL_length a b
  have l2 := ofL_length b c
  have ho : (ofL a b).all (okT (ofL b c)) = true := (okT_all (right_PDh r1) (right_PDh r2)).2 fun d hd e he hx hy => by
    rw [ofL_eq ha hb, ofR_mem ha hb] at hd
    rw [ofL_eq hb hc, ofR_mem hb hc] at he
    rw [hd.2.1, he.1, hx, hy]
  obtain ⟨h1, h2⟩ := thnL_eq r1 r2 ho (by omega)
  refine ⟨h2, ?_⟩
  rw [h1]
  refine ch_ext (thenU_srt r1 r2) (right_srt r3) fun x y => ?_
  rw [lk_then r1 r2, thenAt, lk_of ha hb (by omega), lk_of hb hc (by omega), lk_of ha hc (by omega)]
  by_cases q1 : getP a x y = getP b x y
  · rw [if_pos q1, q1]
  · rw [if_neg q1]
    by_cases q2 : getP b x y = getP c x y
    · rw [if_pos q2]
      simp only
      rw [← q2, if_neg q1]
    · rw [if_neg q2]
theorem thenAt_ok {a b : List Ch} (ha : rightCh a = true) (hb : rightCh b = true) : ∀ d ∈ thenU a b, d.ok = true := by
  intro d hd
  rw [thenU_mem ha hb] at hd
  unfold thenAt at hd
  have ok1 : ∀ c ∈ a, _ := right_okCh ha
  have ok2 : ∀ c ∈ b, _ := right_okCh hb
  split at hd
  · rename_i c e hc he
    split at hd
    · cases hd
    · rename_i hne
      have h1 := ok1 c (lk_pos hc).1
      have h2 := ok2 e (lk_pos he).1
      obtain ⟨_, hx, hy⟩ := lk_pos hc
      have hdd : d = ⟨d.x, d.y, c.f, e.t⟩ := (Option.some.inj hd).symm
      have hf : d.f = c.f := by rw [hdd]
      have ht : d.t = e.t := by rw [hdd]
      simp only [Ch.ok, Bool.and_eq_true, decide_eq_true_eq] at h1 h2 ⊢
      omega
  · rename_i c hc he; cases hd; exact ok1 _ (lk_pos hc).1
  · exact ok2 _ (lk_pos hd).1
theorem then_apply {p : List Cl} {x y : List Ch} (hn : p.length + x.length + y.length ≤ 2000) (h1 : appE p x = 0) (h2 : appE (appL p x) y = 0) :
    thnE x y = 0 ∧ appE p (thnL x y) = 0 ∧ appL p (thnL x y) = appL (appL p x) y := by
  obtain ⟨rp, rx, fx⟩ := app_zero h1
  obtain ⟨rq, ry, fy⟩ := app_zero h2
  obtain ⟨_, _, g1⟩ := app_ok rp rx fx (by omega)
  have lp := appL_length p x
  obtain ⟨_, r2, g2⟩ := app_ok rq ry fy (by omega)
  rw [fits_iff] at fx fy
  have ho : x.all (okT y) = true := (okT_all (right_PDh rx) (right_PDh ry)).2 fun c hc d hd hx hy => by
    have := fy d hd
    rw [g1, after, ← hx, ← hy, lk_mem (right_PDh rx) hc] at this
    exact this
  obtain ⟨e1, e2⟩ := thnL_eq rx ry ho (by omega)
  have lz : (thenU x y).length ≤ x.length + y.length := by have := thnL_length x y; rw [e1] at this; exact this
  have rz : rightCh (thenU x y) = true := (rightCh_iff _).2 ⟨by omega, thenAt_ok rx ry, thenU_srt rx ry⟩
  have fz : fits p (thenU x y) = true := fits_iff.2 fun d hd => by
    rw [thenU_mem rx ry] at hd
    unfold thenAt at hd
    split at hd
    · rename_i c e hc he
      split at hd
      · cases hd
      · have hdd : d = ⟨d.x, d.y, c.f, e.t⟩ := (Option.some.inj hd).symm
        obtain ⟨h3, h4, h5⟩ := lk_pos hc
        have := fx c h3
        rw [h4, h5] at this
        rw [this]
        exact (congrArg Ch.f hdd).symm
    · rename_i c hc he
      cases hd
      exact fx _ (lk_pos hc).1
    · rename_i hc
      have := fy d (lk_pos hd).1
      rw [g1, after, hc] at this
      exact this
  obtain ⟨e3, e4, e5⟩ := app_ok rp rz fz (by omega)
  rw [e1]
  refine ⟨e2, e3, cl_ext e4 r2 fun u v => ?_⟩
  rw [e5, g2, after, after, lk_then rx ry, thenAt]
  cases hx : lk x u v with
  | none =>
    cases hy : lk y u v with
    | none =>
      simp only
      rw [g1, after, hx]
    | some d => rfl
  | some c =>
    cases hy : lk y u v with
    | none =>
      simp only
      rw [g1, after, hx]
    | some d =>
      simp only
      by_cases hcd : c.f = d.t
      · rw [if_pos hcd]
        obtain ⟨h3, h4, h5⟩ := lk_pos hx
        have := fx c h3
        rw [h4, h5] at this
        simp only
        omega
      · rw [if_neg hcd]

/-! ### DeltaMerges -/
theorem merge_comm (a b : List Ch) : mergeR a b = mergeR b a := by
  unfold mergeR
  by_cases ha : rightCh a = true
  · by_cases hb : rightCh b = true
    · rw [ha, hb]
      simp only [Bool.and_self, if_true]
      have hf := bad_first (right_srt ha) (right_srt hb)
      cases h1 : a.find? (badM b) with
      | some c =>
        rw [h1] at hf
        cases h2 : b.find? (badM a) with
        | none => rw [h2] at hf; cases hf
        | some d =>
          rw [h2] at hf
          have : c.x = d.x ∧ c.y = d.y := by simpa [posOf] using hf
          simp only
          rw [this.1, this.2]
      | none =>
        rw [h1] at hf
        cases h2 : b.find? (badM a) with
        | some d => rw [h2] at hf; cases hf
        | none =>
          have hu : mergeU a b = mergeU b a := by
            refine srt_ext (mergeU_srt (right_srt ha) (right_srt hb)) (mergeU_srt (right_srt hb) (right_srt ha)) fun c => ?_
            rw [mergeU_mem (right_PDh hb) (right_PDh ha), mergeU_mem (right_PDh ha) (right_PDh hb)]
            unfold mergeAt
            cases q1 : lk a c.x c.y with
            | none => cases q2 : lk b c.x c.y <;> simp
            | some d =>
              cases q2 : lk b c.x c.y with
              | none => simp
              | some e =>
                obtain ⟨h3, h4, h5⟩ := lk_pos q2
                have := bad_none.1 h2 e h3 d (by rw [h4, h5]; exact q1)
                rw [this]
          simp only
          rw [hu]
    · have hb : rightCh b = false := by simpa using hb
      simp [ha, hb]
  · have ha : rightCh a = false := by simpa using ha
    simp [ha]
theorem foldl_gU_nil (a : List Ch) : ∀ (b : List Ch) (z : List Ch), (∀ c ∈ b, lk a c.x c.y ≠ none) → b.foldl (insG (gU a)) z = z
  | [], _, _ => rfl
  | c :: b, z, h => by
    rw [List.foldl_cons]
    have : insG (gU a) z c = z := by unfold insG; rw [gU_eq, if_neg (h c (by simp))]
    rw [this]
    exact foldl_gU_nil a b z fun d hd => h d (List.mem_cons_of_mem _ hd)
theorem merge_self {a : List Ch} (ha : rightCh a = true) : mergeR a a = (a, (0, 0), 0) := by
  have hb : a.find? (badM a) = none := bad_none.2 fun d hd c hc => by rw [lk_mem (right_PDh ha) hd] at hc; cases hc; rfl
  have hu : mergeU a a = a := by
    rw [mergeU_eq]
    exact foldl_gU_nil a a a fun c hc => by rw [lk_mem (right_PDh ha) hc]; simp
  unfold mergeR
  rw [ha, hb, hu]
  simp only [Bool.and_self, if_true]
  rw [if_neg (by have := ((rightCh_iff a).1 ha).1; omega)]
theorem merge_err {a b : List Ch} (h : mrgE a b ≠ 0) : mrgL a b = [] := by
  unfold mrgE at h
  unfold mrgL
  unfold mergeR at h ⊢
  split
  · rename_i h1
    rw [if_pos h1] at h
    split
    · rfl
    · rename_i h2
      rw [h2] at h
      split
      · rfl
      · rename_i h3
        simp only [if_neg h3] at h
        exact absurd rfl h
  · rfl
theorem foldl_gU_length (a : List Ch) : ∀ (b : List Ch) (z : List Ch), (b.foldl (insG (gU a)) z).length = z.length + (b.filter fun c => decide (lk a c.x c.y = none)).length
  | [], z => by simp
  | c :: b, z => by
    rw [List.foldl_cons, foldl_gU_length a b]
    unfold insG
    rw [gU_eq]
    by_cases h : lk a c.x c.y = none
    · rw [if_pos h, List.filter_cons_of_pos (by simpa using h), List.length_cons]
      simp only [insCh_length]
      omega
    · rw [if_neg h, List.filter_cons_of_neg (by simpa using h)]
theorem merge_ok {a b : List Ch} (h : mrgE a b = 0) : rightCh a = true ∧ rightCh b = true ∧ mergeR a b = (mergeU a b, (0, 0), 0) := by
  unfold mrgE at h
  unfold mergeR at h ⊢
  split
  · rename_i h1
    rw [if_pos h1] at h
    rw [Bool.and_eq_true] at h1
    refine ⟨h1.1, h1.2, ?_⟩
    split
    · rename_i c h2; rw [h2] at h; cases h
    · rename_i h2
      rw [h2] at h
      split
      · rename_i h3
        simp only [if_pos h3] at h
        cases h
      · rfl
  · rename_i h1
    rw [if_neg h1] at h
    cases h
theorem merge_then {a b : List Ch} (h : mrgE a b = 0) (hl : (mrgL a b).length = a.length + b.length) (hn : a.length + b.length ≤ 5000) :
    thnE a b = 0 ∧ thnL a b = mrgL a b ∧ mrgX a b = 0 ∧ mrgY a b = 0 := by
  obtain ⟨ra, rb, hm⟩ := merge_ok h
  have hL : mrgL a b = mergeU a b := by unfold mrgL; rw [hm]
  rw [hL] at hl ⊢
  have hno : ∀ c ∈ b, lk a c.x c.y = none := by
    rw [mergeU_eq, foldl_gU_length] at hl
    have hfl : (b.filter fun c => decide (lk a c.x c.y = none)).length = b.length := by omega
    rw [List.length_filter_eq_length_iff] at hfl
    exact fun c hc => by simpa using hfl c hc
  have ho : a.all (okT b) = true := (okT_all (right_PDh ra) (right_PDh rb)).2 fun c hc d hd hx hy => absurd ⟨hx, hy⟩ (lk_none.1 (hno d hd) c hc)
  obtain ⟨h1, h2⟩ := thnL_eq ra rb ho hn
  refine ⟨h2, ?_, by unfold mrgX; rw [hm], by unfold mrgY; rw [hm]⟩
  rw [h1]
  refine srt_ext (thenU_srt ra rb) (mergeU_srt (right_srt ra) (right_srt rb)) fun d => ?_
  rw [thenU_mem ra rb, mergeU_mem (right_PDh rb) (right_PDh ra)]
  unfold thenAt mergeAt
  cases q1 : lk a d.x d.y with
  | none => cases q2 : lk b d.x d.y <;> simp
  | some c =>
    cases q2 : lk b d.x d.y with
    | none => simp
    | some e =>
      obtain ⟨h3, h4, h5⟩ := lk_pos q2
      have := hno e h3
      rw [h4, h5, q1] at this
      cases this
end Go.Proofs.Ytfoadgepblojpaa
