/-
  A region that draws its order, with a store in the midst: what may come behind the store reads the same behind it.
-/
import Derived.Test.YtdjclgfbggfpaaaGreatDoorAmM
namespace Go.AM
open Go.RowKit

theorem aStore_iff {tb : Tb} {ρ : Env} {σ : Sto} {t : TypeId} {x y : V} {K : Env → Sto → Prop} (h : aStore tb ρ σ t x y K) : ∃ σ', (∀ (ρ' : Env) (K' : Env → Sto → Prop), K' ρ' σ' → aStore tb ρ' σ t x y K') ∧ K ρ σ' := by
  unfold aStore at h
  split at h
  · rename_i ti s off xs h1 h3
    split at h
    · rename_i cs hs
      obtain ⟨a1, a2, a3, hk⟩ := h
      refine ⟨_, fun ρ' K' hk' => ?_, hk⟩
      unfold aStore
      simp only [h1, h3, hs]
      exact ⟨a1, a2, a3, hk'⟩
    · exact h.elim
  · rename_i ti s i sz off xs h1 h3
    split at h
    · rename_i sz' e rows ys hs hd
      split at h
      · rename_i r hr
        obtain ⟨a1, a2, a3, hk⟩ := h
        refine ⟨_, fun ρ' K' hk' => ?_, hk⟩
        unfold aStore
        simp only [h1, h3, hs, hd, hr]
        exact ⟨a1, a2, a3, hk'⟩
      · exact h.elim
    · exact h.elim
  · exact h.elim

/-- Carried out once more, the operation yields what it has yielded. -/
def qchk (tb : Tb) (all : List Oper) (σ : Sto) (ρ : Env) (j : Nat) : Prop := match all[j]? with
  | some o => match o.dst with
    | some d => qev tb ρ σ o.op = some (ρ d)
    | none => False
  | none => False
def qchks (tb : Tb) (all : List Oper) (σ : Sto) (ρ : Env) : List Nat → Prop
  | [] => True
  | j :: us => qchk tb all σ ρ j ∧ qchks tb all σ ρ us
def midStep (P : Program) (cx : Cx) (tb : Tb) (all rest : List Oper) (us : List Nat) (o : Option Oper) (ρ : Env) (σ : Sto) (K : Env → Sto → Prop) : Prop := match o with
  | some o => match o.op with
    | .store t a b => aStore tb ρ σ t (oev ρ a) (oev ρ b) fun ρ σ => qchks tb all σ ρ us ∧ aops P cx tb all rest ρ σ K
    | _ => False
  | none => False
/-- What is looked at once: us holds all that need not come ahead of the store x, and what us looks at is not written again. -/
def midB (ops : Array Oper) (x : Nat) (us : List Nat) : Bool :=
  decide (x + 1 < ops.size) && chainB ops (x + 1) &&
  (match ops[x]? with | some o => o.dst.isNone && o.guard.isNone | none => false) &&
  ((List.range x).all fun j => us.contains j || (clos ops ops.size (preds ops x)).contains j) &&
  us.all fun j => decide (j < x) && match ops[j]? with
    | some o => o.guard.isNone && (isGoCall o.op).isNone && match o.dst with
      | some d => !(o.looksAt ops).contains d && ((ops.toList.take x).drop (j + 1)).all fun o' => match o'.dst with
        | some d' => d' != d && !(o.looksAt ops).contains d'
        | none => true
      | none => false
    | none => false

section
variable {P : Program} {tb : Tb} {cx : Cx} {ρ ρ' : Env} {σ σ' : Sto} {ops : Array Oper} {K : Env → Prop} {x : Nat} {us : List Nat} {va vb : V}

/-- What each yields: us on both sides of the store; the store itself has nothing to yield. -/
def YM (P : Program) (tb : Tb) (ops : Array Oper) (σ σ' : Sto) (va vb : V) (x : Nat) (us : List Nat) (i : Nat) (o : Oper) (ρ : Env) (v : V) : Prop :=
  (i ≠ x ∧ YA P tb ops σ o ρ v ∧ (us.contains i = true → gst ops.toList o.guard ρ = some true ∧ qval P tb σ' o ρ v)) ∨
  (i = x ∧ v = .tup [] ∧ ∃ t a b, o.op = .store t a b ∧ oev ρ a = va ∧ oev ρ b = vb)

theorem gst_put {o : Oper} {y : Option Nat} {v : V} (h : ∀ d, y = some d → d ∉ o.looksAt ops) : gst ops.toList o.guard (putE ρ y v) = gst ops.toList o.guard ρ := by
  unfold gst
  split
  · rfl
  · rename_i j want hgd
    split
    · rename_i s hs
      rw [putE_other fun hx => h s hx ?_]
      exact List.mem_append_right _ (by rw [hgd]; simp only; simpa [gslot] using hs)
    · rfl
theorem oev_puts {o : Oper} {y : Option Nat} {v : V} (h : ∀ d, y = some d → d ∉ o.looksAt ops) : ∀ z ∈ o.op.operands, oev (putE ρ y v) z = oev ρ z := fun z hz => oev_put fun t ht hx => h t hx (by
  subst ht
  exact List.mem_append_left _ (List.mem_filterMap.2 ⟨.tmp t, by simpa using hz, rfl⟩))
theorem qval_put {o : Oper} {y : Option Nat} {v u : V} (h : ∀ d, y = some d → d ∉ o.looksAt ops) : qval P tb σ o (putE ρ y v) u ↔ qval P tb σ o ρ u := by
  have hop := oev_puts (ρ := ρ) (v := v) h
  unfold qval
  split
  · rename_i c hc
    rw [callArgs_congr fun y hy => hop y (by rw [(isGoCall_eq hc).1]; exact hy)]
  · rw [qev_congr hop]
theorem looks_YM : Looks (YM P tb ops σ σ' va vb x us) ops := by
  intro i o ρ y v u h
  unfold YM
  rw [YA_put h, gst_put h, qval_put (σ := σ') h]
  have hop := oev_puts (ρ := ρ) (v := v) h
  refine or_congr Iff.rfl (and_congr Iff.rfl (and_congr Iff.rfl ?_))
  refine exists_congr fun t => exists_congr fun a => exists_congr fun b => and_congr_right fun he => ?_
  rw [hop a (by simp [he, Op.operands]), hop b (by simp [he, Op.operands])]

theorem yrun_keep {Y : Nat → Oper → Env → V → Prop} : ∀ (l : List Oper) (k : Nat) (ρ : Env), yrun Y k l ρ K → yrun Y k l ρ fun ρ1 => K ρ1 ∧ ∀ t, (∀ o ∈ l, o.dst ≠ some t) → ρ1 t = ρ t
  | [], _, _, h => ⟨h, fun _ _ => rfl⟩
  | o :: l, k, ρ, ⟨v, hy, h⟩ => by
    refine ⟨v, hy, ?_⟩
    have key : ∀ (l : List Oper) (k : Nat) (ρ' : Env) (K K' : Env → Prop), (∀ ρ1, K ρ1 → K' ρ1) → yrun Y k l ρ' K → yrun Y k l ρ' K' := by
      intro l
      induction l with
      | nil => intro k ρ' K K' hk h; exact hk _ h
      | cons o l ih => intro k ρ' K K' hk ⟨v, hy, h⟩; exact ⟨v, hy, ih _ _ _ _ hk h⟩
    refine key l (k + 1) _ _ _ (fun ρ1 hk => ⟨hk.1, fun t ht => ?_⟩) (yrun_keep l (k + 1) _ h)
    rw [hk.2 t fun o ho => ht o (List.mem_cons_of_mem _ ho), putE_other (ht o (by simp))]

theorem qchks_mem {all : List Oper} : ∀ {us : List Nat}, qchks tb all σ ρ us → ∀ j ∈ us, qchk tb all σ ρ j
  | [], _, _, hj => by cases hj
  | i :: us, h, j, hj => by
    rcases List.mem_cons.1 hj with rfl | hj
    · exact h.1
    · exact qchks_mem h.2 j hj

theorem midB_us (hB : midB ops x us = true) {j : Nat} (hj : us.contains j = true) : j < x ∧ ∃ o d, ops[j]? = some o ∧ o.guard = none ∧ isGoCall o.op = none ∧ o.dst = some d ∧ d ∉ o.looksAt ops ∧
    ∀ o' ∈ (ops.toList.take x).drop (j + 1), o'.dst ≠ some d ∧ ∀ t, o'.dst = some t → t ∉ o.looksAt ops := by
  simp only [midB, Bool.and_eq_true] at hB
  have := List.all_eq_true.1 hB.2 j (by simpa using hj)
  simp only [Bool.and_eq_true, decide_eq_true_eq] at this
  obtain ⟨h1, h2⟩ := this
  refine ⟨h1, ?_⟩
  split at h2
  · rename_i o ho
    simp only [Bool.and_eq_true, Option.isNone_iff_eq_none] at h2
    obtain ⟨⟨h3, h4⟩, h5⟩ := h2
    split at h5
    · rename_i d hd
      simp only [Bool.and_eq_true] at h5
      refine ⟨o, d, ho, h3, h4, hd, by simpa using h5.1, fun o' ho' => ?_⟩
      have h6 := List.all_eq_true.1 h5.2 o' ho'
      split at h6
      · rename_i d' hd'
        simp only [Bool.and_eq_true] at h6
        refine ⟨fun e => ?_, fun t ht => ?_⟩
        · rw [hd'] at e; cases e; simp at h6
        · rw [hd'] at ht; cases ht; simpa using h6.2
      · rename_i hd'
        exact ⟨by rw [hd']; simp, fun t ht => by rw [hd'] at ht; cases ht⟩
    · cases h5
  · cases h2

/-- The run ahead of the store, with what is known behind it. -/
theorem yrun_mid (hB : midB ops x us = true) {K' : Env → Prop} : ∀ (l : List Oper) (k : Nat) (ρ : Env), k + l.length = x → (∀ j, j < l.length → l[j]? = ops[k + j]?) → yrun (YO P tb ops σ) k l ρ (fun ρ1 => qchks tb ops.toList σ' ρ1 us ∧ K' ρ1) →
    yrun (YM P tb ops σ σ' va vb x us) k l ρ K'
  | [], _, _, _, _, h => h.2
  | o :: l, k, ρ, hk, hl, h => by
    simp only [List.length_cons] at hk
    obtain ⟨v, hy, h2⟩ := h
    have h0 : ops[k]? = some o := by simpa using (hl 0 (by simp)).symm
    refine ⟨v, .inl ⟨by omega, hy, fun hu => ?_⟩, yrun_mid hB l (k + 1) _ (by omega) (fun j hj => by have := hl (j + 1) (by simp; omega); simpa [Nat.add_assoc, Nat.add_comm 1 j] using this) h2⟩
    obtain ⟨_, o', d, ho', hg, hc, hd, hnd, hw⟩ := midB_us hB hu
    rw [h0] at ho'
    cases ho'
    have hdrop : (ops.toList.take x).drop (k + 1) = l := by
      apply List.ext_getElem?
      intro j
      rw [List.getElem?_drop, List.getElem?_take]
      by_cases hj : j < l.length
      · rw [if_pos (by omega)]
        have := hl (j + 1) (by simp; omega)
        simp only [List.getElem?_cons_succ] at this
        rw [this]
        simp [Nat.add_assoc, Nat.add_comm 1 j]
      · rw [if_neg (by omega), List.getElem?_eq_none (by omega)]
    rw [hdrop] at hw
    refine ⟨by rw [hg]; rfl, ?_⟩
    have h3 := yrun_keep l (k + 1) _ h2
    have fin : ∀ (l : List Oper) (k : Nat) (ρ' : Env) (R : Env → Prop), yrun (YO P tb ops σ) k l ρ' R → ∃ ρ1, R ρ1 := by
      intro l
      induction l with
      | nil => intro k ρ' R h; exact ⟨_, h⟩
      | cons o l ih => intro k ρ' R ⟨_, _, h⟩; exact ih _ _ _ h
    obtain ⟨ρ1, ⟨hq, _⟩, hkeep⟩ := fin _ _ _ _ h3
    have hq := qchks_mem hq k (by simpa using hu)
    unfold qchk at hq
    have h0' : ops.toList[k]? = some o := by simpa using h0
    rw [h0'] at hq
    simp only [hd] at hq
    have hv : ρ1 d = v := by
      rw [hkeep d fun o' ho' => (hw o' ho').1, hd]
      exact upd_same _ _ _
    have hop : ∀ z ∈ o.op.operands, oev ρ1 z = oev ρ z := by
      intro z hz
      cases z with
      | tmp t =>
        have ht : t ∈ o.looksAt ops := List.mem_append_left _ (List.mem_filterMap.2 ⟨.tmp t, by simpa using hz, rfl⟩)
        show ρ1 t = ρ t
        rw [hkeep t fun o' ho' e => (hw o' ho').2 t e ht, putE_other fun e => ?_]
        rw [hd] at e
        cases e
        exact hnd ht
      | _ => rfl
    unfold qval
    rw [hc]
    simp only
    rw [← qev_congr hop, hq, hv]

theorem wpAny_mid (ht : TbOk P tb) (hd : dstOk cx.n ops.toList = true) (hB : midB ops x us = true) {t : TypeId} {oa ob : Operand} {o0 : Oper} (hx : ops[x]? = some o0) (hop0 : o0.op = .store t oa ob)
    (hAS : ∀ (ρ' : Env) (K' : Env → Sto → Prop), K' ρ' σ' → aStore tb ρ' σ t va vb K') {T : Nat → Env → Prop} {Q : Exit → Act → World → Prop}
    (hT : ∀ fuel listed φ ρ a w i, Closed ops listed → (∀ j, x + 1 ≤ j → j < ops.size → listed.getD j true = false) → i ∈ Region.ready .any ops listed → ¬ i < x + 1 → Sim cx φ ρ (if listed.getD x true = true then σ' else σ) a w → T fuel ρ → wpOp P ops Q i (wpAny P .any ops Q fuel (listed.setIfInBounds i true)) a w) :
    ∀ (fuel : Nat) (listed : Array Bool) (φ : Nat → Value) (ρ : Env) (a : Act) (w : World), Closed ops listed → (∀ j, x + 1 ≤ j → j < ops.size → listed.getD j true = false) → Sim cx φ ρ (if listed.getD x true = true then σ' else σ) a w → wpE (YM P tb ops σ σ' va vb x us) ops (x + 1) T (fun _ => False) fuel listed ρ → wpAny P .any ops Q fuel listed a w
  | 0, listed, φ, ρ, a, w, _, _, hs, h => h.2.elim
  | fuel + 1, listed, φ, ρ, a, w, hcl, hU, hs, h => by
    refine ⟨fun h0 => (h.1 h0).elim, fun i hi => ?_⟩
    have h1 := h.2 i hi
    split at h1
    · rename_i hin
      obtain ⟨hiun, o, ho, _⟩ := mem_ready.1 hi
      have hdo := dstOk_get hd (show ops.toList[i]? = some o by simpa using ho)
      have hU' : ∀ j, x + 1 ≤ j → j < ops.size → (listed.setIfInBounds i true).getD j true = false := fun j h1 h2 => by
        rw [getD_set_ne true (by omega)]; exact hU j h1 h2
      unfold QOpE at h1
      unfold wpOp
      simp only [ho] at h1 ⊢
      obtain ⟨v, hy, hk⟩ := h1
      rcases hy with ⟨hne, hya, hus⟩ | ⟨hix, rfl, t', a', b', hop, ha, hb⟩
      · have hst : (if (listed.setIfInBounds i true).getD x true = true then σ' else σ) = (if listed.getD x true = true then σ' else σ) := by rw [getD_set_ne true hne]
        have hyl : YA P tb ops (if listed.getD x true = true then σ' else σ) o ρ v := by
          by_cases hl : listed.getD x true = true
          · rw [if_pos hl]
            have hux : us.contains i = true := by
              by_cases hc : us.contains i = true
              · exact hc
              · exfalso
                have hB' := hB
                simp only [midB, Bool.and_eq_true] at hB'
                have h2 := List.all_eq_true.1 hB'.1.2 i (List.mem_range.2 (by omega))
                simp only [Bool.or_eq_true] at h2
                have h3 := h2.resolve_left hc
                have hxl : listed.getD x false = true := by
                  rcases Nat.lt_or_ge x listed.size with h' | h'
                  · simp [h'] at hl ⊢; exact hl
                  · exfalso
                    have hn : x + 1 < ops.size := by simpa using hB'.1.1.1.1
                    have h4 := hU (x + 1) (Nat.le_refl _) hn
                    rw [Array.getD_eq_getD_getElem?, Array.getElem?_eq_none (by omega)] at h4
                    cases h4
                have h4 := getD_both (clos_listed hcl ops.size (preds ops x) (fun k hk => by
                  unfold preds at hk
                  rw [hx] at hk
                  obtain ⟨e, he, hek⟩ := List.mem_filterMap.1 hk
                  split at hek
                  · rename_i hb
                    cases hek
                    exact hcl x o0 hx hxl e (by simpa using he) hb
                  · cases hek) i (by simpa using h3))
                rw [hiun] at h4
                cases h4
            obtain ⟨hg, hq⟩ := hus hux
            exact .inl ⟨hg, hq⟩
          · rw [if_neg hl]; exact hya
        rcases hyl with ⟨hg, hv⟩ | ⟨hg, rfl⟩
        · rw [if_pos (gst_sound hs.slots hg)]
          refine .inl (Step.of_quiet (K := fun ρ2 σ2 => ρ2 = putE ρ o.dst v ∧ σ2 = (if listed.getD x true = true then σ' else σ)) (quiet_of_qval ht hv) (fun x hx => (hdo x hx).1) (fun v' hv' => by subst hv'; exact ⟨rfl, rfl⟩) φ a w hs _ _ fun φ' ρ2 σ2 a' w' hs' hk' => ?_)
          rw [hk'.1, hk'.2, ← hst] at hs'
          exact wpAny_mid ht hd hB hx hop0 hAS hT fuel _ φ' _ a' w' (closed_set hcl hi) hU' hs' hk
        · rw [if_neg (by rw [gst_sound hs.slots hg]; simp)]
          have hs2 := hs.put (v := .tup []) (u := undef) (fun x hx => (hdo x hx).1) vsim_undef
          rw [← hst] at hs2
          exact wpAny_mid ht hd hB hx hop0 hAS hT fuel _ φ _ _ w (closed_set hcl hi) hU' hs2 hk
      · have hxi := hix.symm
        subst hxi
        have hB' := hB
        simp only [midB, Bool.and_eq_true, ho] at hB'
        obtain ⟨hdn, hgn⟩ : o.dst = none ∧ o.guard = none := by simpa using hB'.1.1.2
        rw [ho] at hx
        cases hx
        rw [hop0] at hop
        cases hop
        have hg : Region.wanted o0 (yielded ops a.tmps) = true := by simp [Region.wanted, hgn]
        rw [if_pos hg]
        have hl : ¬ listed.getD x true = true := by rw [hiun]; simp
        rw [if_neg hl] at hs
        have hlset : (listed.setIfInBounds x true).getD x true = true := by
          rcases Nat.lt_or_ge x listed.size with h' | h'
          · simp [h']
          · simp [Array.getElem?_eq_none h'] at hiun
        refine .inl (store_sound (K := fun ρ2 σ2 => ρ2 = ρ ∧ σ2 = σ') ht hop0 hdn (by
          unfold aeff
          simp only [hop0, hdn]
          rw [ha, hb]
          exact hAS ρ _ ⟨rfl, rfl⟩) φ a w hs _ _ fun φ' ρ2 σ2 a' w' hs' hk' => ?_)
        rw [hk'.1, hk'.2] at hs'
        rw [hdn] at hk
        exact wpAny_mid ht hd hB ho hop0 hAS hT fuel _ φ' _ a' w' (closed_set hcl hi) hU' (by rw [if_pos hlset]; exact hs') hk
    · rename_i hin
      exact hT fuel listed φ ρ a w i hcl hU hi hin hs h1

/-- A region that draws its order, with a store in the midst. -/
theorem draw_mid (ht : TbOk P tb) (hd : dstOk cx.n ops.toList = true) (hm : P.follows .mixedOrders = true) (hB : Region.lexB .any ops = true) (hM : midB ops x us = true) {id : Nat} {K' : Env → Sto → Prop} {Q : Exit → Act → World → Prop} (hQ : ∀ φ ρ σ a w, Sim cx φ ρ σ a w → K' ρ σ → Q .normal a w)
    {φ : Nat → Value} {a : Act} {w : World} (hs : Sim cx φ ρ σ a w)
    (h : qops P tb ops.toList σ (ops.toList.take x) ρ fun ρ => midStep P cx tb ops.toList (ops.toList.drop (x + 1)) us ops.toList[x]? ρ σ K') : (Code.region id ops true).wp P Q a w := by
  simp only [Region.lexB, Bool.and_eq_true] at hB
  have hM' := hM
  simp only [midB, Bool.and_eq_true, decide_eq_true_eq] at hM'
  have hn : x + 1 < ops.size := hM'.1.1.1.1
  have hC : chainB ops (x + 1) = true := hM'.1.1.1.2
  have htl : (ops.toList.take x).length = x := by simp; omega
  have hrun := yrun_of_qops (K := fun ρ => midStep P cx tb ops.toList (ops.toList.drop (x + 1)) us ops.toList[x]? ρ σ K') ht (ops.toList.take x) 0 ρ h
  have fin : ∀ (l : List Oper) (k : Nat) (ρ' : Env) (R : Env → Prop), yrun (YO P tb ops σ) k l ρ' R → ∃ ρ1, R ρ1 ∧ yrun (YO P tb ops σ) k l ρ' fun ρ2 => ρ2 = ρ1 := by
    intro l
    induction l with
    | nil => intro k ρ' R h; exact ⟨_, h, rfl⟩
    | cons o l ih =>
      intro k ρ' R ⟨v, hy, h⟩
      obtain ⟨ρ1, h1, h2⟩ := ih _ _ _ h
      exact ⟨ρ1, h1, v, hy, h2⟩
  obtain ⟨ρ1, hmid, hrun⟩ := fin _ _ _ _ hrun
  unfold midStep at hmid
  split at hmid
  · rename_i o0 ho0
    have ho0' : ops[x]? = some o0 := by simpa using ho0
    split at hmid
    · rename_i t oa ob hop0
      obtain ⟨σ', hAS, hqs, hrest⟩ := aStore_iff hmid
      have hrunM : yrun (YM P tb ops σ σ' (oev ρ1 oa) (oev ρ1 ob) x us) 0 (ops.toList.take x) ρ fun ρ2 => ρ2 = ρ1 := by
        refine yrun_mid hM _ 0 ρ (by simp; omega) (fun j hj => ?_) ?_
        · rw [List.getElem?_take, if_pos (by omega)]; simp
        · have key : ∀ (l : List Oper) (k : Nat) (ρ' : Env) (K K' : Env → Prop), (∀ ρ1, K ρ1 → K' ρ1) → yrun (YO P tb ops σ) k l ρ' K → yrun (YO P tb ops σ) k l ρ' K' := by
            intro l
            induction l with
            | nil => intro k ρ' K K' hk h; exact hk _ h
            | cons o l ih => intro k ρ' K K' hk ⟨v, hy, h⟩; exact ⟨v, hy, ih _ _ _ _ hk h⟩
          exact key _ _ _ _ _ (fun ρ2 he => by subst he; exact ⟨hqs, rfl⟩) hrun
      have hdn : o0.dst = none := by
        have := hM'.1.1.2
        rw [ho0'] at this
        simp at this
        exact this.1
      -- the store joins the run
      have app : ∀ (l : List Oper) (k : Nat) (ρ' : Env), k + l.length = x → yrun (YM P tb ops σ σ' (oev ρ1 oa) (oev ρ1 ob) x us) k l ρ' (fun ρ2 => ρ2 = ρ1) → yrun (YM P tb ops σ σ' (oev ρ1 oa) (oev ρ1 ob) x us) k (l ++ [o0]) ρ' (fun ρ2 => ρ2 = ρ1) := by
        intro l
        induction l with
        | nil =>
          intro k ρ' hk h
          have h : ρ' = ρ1 := h
          subst h
          exact ⟨.tup [], .inr ⟨by simpa using hk, rfl, t, oa, ob, hop0, rfl, rfl⟩, by rw [hdn]; rfl⟩
        | cons o l ih => intro k ρ' hk ⟨v, hy, h⟩; exact ⟨v, hy, ih _ _ (by simp at hk; omega) h⟩
      have hrunS := app _ 0 ρ (by simp; omega) hrunM
      have htake : ops.toList.take x ++ [o0] = ops.toList.take (x + 1) := by
        rw [List.take_add_one, ho0]; rfl
      rw [htake] at hrunS
      have htl1 : (ops.toList.take (x + 1)).length = x + 1 := by simp; omega
      have hdl : (ops.toList.drop (x + 1)).length = ops.size - (x + 1) := by simp
      obtain ⟨m, hm1⟩ : ∃ m, ops.size - (x + 1) = m + 1 := ⟨ops.size - (x + 1) - 1, by omega⟩
      have key := wpE_lex (looks_YM (P := P) (tb := tb) (σ := σ) (σ' := σ') (va := oev ρ1 oa) (vb := oev ρ1 ob) (x := x) (us := us)) (ops := ops) (nT := x + 1)
        (T := fun f ρ => f = m ∧ ρ = ρ1) (Kd := fun _ => False) (K := fun ρ => ρ = ρ1) (m := m + 1)
        (fun i hi listed hcl hri j hj => by
          rcases Nat.lt_or_ge j (x + 1) with h1 | h1
          · exact h1
          · have := getD_both (chain_all hC hcl (by omega) hj i (by omega))
            rw [(mem_ready.1 hri).1] at this
            cases this)
        (fun listed ρ hl hlex hk => by
          simp only [Region.lexFrom, Bool.and_eq_true] at hlex
          refine ⟨fun h0 => ?_, fun i hi => ?_⟩
          · have : x + 1 ∈ Region.ready .any ops listed := by simpa using hlex.1.1
            rw [h0] at this
            cases this
          · rw [if_neg]
            · exact ⟨rfl, hk⟩
            · intro hlt
              obtain ⟨h1, o, ho, _⟩ := mem_ready.1 hi
              rw [hl i hlt (Array.getElem?_eq_some_iff.1 ho).1] at h1
              cases h1)
        (ops.toList.take (x + 1)) 0 (Array.replicate ops.size false) ρ (by simp) closed_none (fun i hi => by omega) (by omega) (fun j hj => by
          rw [List.getElem?_take, if_pos (by omega)]
          simp) (by rw [htl1, ← hm1, show x + 1 + (ops.size - (x + 1)) = ops.size from by omega]; exact hB.2) hrunS
      refine wp_region_any hm ?_
      have hsd : Sim cx φ ρ σ a { w with drawn := w.drawn + 1 } := hs.below ⟨⟨rfl, rfl, rfl, Nat.le_refl _, fun _ _ => rfl⟩, Nat.le_succ _⟩
      have hx0 : ¬ (Array.replicate ops.size false).getD x true = true := by
        have : x < ops.size := by omega
        simp [this]
      have := wpAny_mid (Q := Q) ht hd hM ho0' hop0 hAS (T := fun f ρ => f = m ∧ ρ = ρ1) (fun fuel listed φ ρ a w i hcl hU hi hin hs' hT' => by
        obtain ⟨rfl, rfl⟩ := hT'
        obtain ⟨_, o, ho, _⟩ := mem_ready.1 hi
        have his : i < ops.size := (Array.getElem?_eq_some_iff.1 ho).1
        have hin' : i = x + 1 := by
          rcases Nat.lt_or_ge (x + 1) i with h1 | h1
          · have h2 := getD_both (chain_all hC hcl hin hi (x + 1) h1)
            rw [hU (x + 1) (Nat.le_refl _) hn] at h2
            cases h2
          · omega
        subst hin'
        rw [if_pos (getD_both (chain_all hC hcl hin hi x (by omega)))] at hs'
        have hc := wpAny_chain (Q := Q) ht hd hC hQ (ops.toList.drop (x + 1)) (x + 1) listed φ ρ σ' a w (Nat.le_refl _) (by rw [hdl]; omega) (fun j => by simp) hcl (chain_all hC hcl hin hi) hU hs' hrest
        rw [hdl, hm1] at hc
        exact hc.2 (x + 1) hi)
        ((ops.toList.take (x + 1)).length + (m + 1)) (Array.replicate ops.size false) φ ρ a _ closed_none (fun j h1 h2 => by simp [h2]) (by rw [if_neg hx0]; exact hsd) key
      rw [htl1, ← hm1, show x + 1 + (ops.size - (x + 1)) = ops.size from by omega] at this
      exact this
    · exact hmid.elim
  · exact hmid.elim
end
end Go.AM
