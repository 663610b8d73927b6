/-
  A region that draws its order, with effects in the midst: the law.
-/
import Derived.Test.YtdjclgfbggfpaaaGreatDoorAmFl
namespace Go.AM
open Go.RowKit
def dsts (l : List Oper) : List Nat := l.filterMap (·.dst)
def qopsF (P : Program) (tb : Tb) (all : List Oper) (ds : List Nat) (σ : Sto) : List Oper → Env → (Env → Prop) → Prop
 | [], ρ, K => K ρ
 | o :: l, ρ, K => dw all o.guard ρ (fun ρ => qstep P tb o ρ σ fun v => qopsF P tb all ds σ l (putE ρ o.dst (v.wipes ds)) K) (fun ρ => qopsF P tb all ds σ l (putE ρ o.dst (.tup [])) K)
def rchkd (ds : List Nat) (ρx : Env) (d : Option Nat) (v : V) : Prop := match d with
 | some d => v.wipes ds = ρx d
 | none => False
def rchk (P : Program) (tb : Tb) (all : List Oper) (ds : List Nat) (ρx : Env) (σ : Sto) : List Oper → Prop → Prop
 | [], K => K
 | o :: us, K => dw all o.guard ρx (fun _ => qstep P tb o ρx σ fun v => rchkd ds ρx o.dst v ∧ rchk P tb all ds ρx σ us K) (fun _ => rchk P tb all ds ρx σ us K)
def midsP (P : Program) (tb : Tb) (all : List Oper) (ds : List Nat) (ρx : Env) : List (Oper × List Oper) → Env → Sto → (Env → Sto → Prop) → Prop
 | [], ρ, σ, K => K ρ σ
 | (o, us) :: l, ρ, σ, K => dw all o.guard ρ (fun ρ => aeff tb ρ σ o fun ρ σ => rchk P tb all ds ρx σ us (midsP P tb all ds ρx l ρ σ K)) (fun ρ => rchk P tb all ds ρx σ us (midsP P tb all ds ρx l (putE ρ o.dst (.tup [])) σ K))
def effS (tb : Tb) (all : List Oper) (o : Oper) (ρ : Env) (σ : Sto) (v : V) (σ' : Sto) : Prop := (gst all o.guard ρ = some true ∧ EffTo tb o ρ σ v σ') ∨ (gst all o.guard ρ = some false ∧ v = .tup [] ∧ σ' = σ)
def indep : Op → Bool
 | .move _ => true
 | .assign _ => true
 | .extract _ _ => true
 | .binOp _ _ _ _ _ => true
 | .unOp _ _ _ => true
 | .pick _ _ _ => true
 | .convert _ _ _ => true
 | _ => false
def lateB (ops : Array Oper) (x y i : Nat) : Bool := match ops[i]? with
 | some o => indep o.op || (List.range (y - x)).all fun j => (clos ops ops.size (fF ops i)).contains (x + j)
 | none => false
def uops (l : List Oper) (us : List Nat) : List Oper := us.filterMap (l[·]?)
def mids (l : List Oper) (x y : Nat) (uss : List (List Nat)) : List (Oper × List Oper) := ((l.take y).drop x).zip (uss.map (uops l))
def usB (ops : Array Oper) (x : Nat) (us : List Nat) : Bool := us.all fun j => decide (j < x) && match ops[j]? with
  | some o => match o.dst with
   | some d => !(o.looksAt ops).contains d && ((ops.toList.take x).drop (j + 1)).all fun o' => match o'.dst with
    | some d' => d' != d && !(o.looksAt ops).contains d'
    | none => true
   | none => false
  | none => false
def effB (ops : Array Oper) (x y : Nat) (uss : List (List Nat)) (j : Nat) : Bool := match ops[x + j]?, uss[j]? with
 | some o, some us => effOp o.op && ((List.range x).all fun i => us.contains i || (clos ops ops.size (fF ops (x + j))).contains i) &&
   ((List.range j).all fun i => (clos ops ops.size (fF ops (x + j))).contains (x + i)) && usB ops x us &&
   ((List.range (y - x)).all fun i => i == j || match o.dst, (ops[x + i]?).bind (·.dst) with
    | some d, some d' => d != d'
    | _, _ => true)
 | _, _ => false
def midsB (ops : Array Oper) (x y nT : Nat) (uss : List (List Nat)) : Bool :=
 decide (x ≤ y) && decide (y ≤ nT) && decide (nT < ops.size) && chainB ops nT && decide (uss.length = y - x) && (List.range (y - x)).all (effB ops x y uss) && (List.range nT).all fun i => decide (i < y) || lateB ops x y i
section
variable {P : Program} {tb : Tb} {cx : Cx} {ρ ρ' : Env} {σ σ' : Sto} {ops : Array Oper} {K : Env → Prop} {x y nT : Nat} {uss : List (List Nat)} {ds : List Nat} {o : Oper}
theorem YA_of_guard (ht : TbOk P tb) {k : V → Prop} {k' : Prop} {all : List Oper} (h : dw all o.guard ρ (fun ρ1 => ρ1 = ρ → qstep P tb o ρ1 σ k) (fun ρ1 => ρ1 = ρ → k')) :
  (gst all o.guard ρ = some true ∧ ∃ v, qval P tb σ o ρ v ∧ k v) ∨ (gst all o.guard ρ = some false ∧ k') := by
 unfold dw at h
 unfold gst
 split at h
 ·rename_i hg
  obtain ⟨v, hv, hk⟩ := fC ht (h rfl)
  exact .inl ⟨by rw [hg], v, hv, hk⟩
 ·rename_i j want hg
  rw [hg]
  split at h
  ·rename_i s hs
   split at h
   ·rename_i b hb
    simp only [hs, hb]
    by_cases hbw : b = want
    ·have h1 := h.1 hbw
     rw [← hbw, ← hb, dH] at h1
     obtain ⟨v, hv, hk⟩ := fC ht (h1 rfl)
     exact .inl ⟨by rw [hbw]; simp, v, hv, hk⟩
    ·have hbn : b = !want := by cases b <;> cases want <;> simp_all
     have h1 := h.2 hbn
     rw [← hbn, ← hb, dH] at h1
     exact .inr ⟨by rw [hbn]; simp, h1 rfl⟩
   ·rename_i hb
    simp only [hs, hb]
    exact .inr ⟨trivial, h rfl⟩
   ·exact h.elim
  ·exact h.elim
theorem aguard_gst {all : List Oper} {g : Option (Nat × Bool)} {r s : Env → Prop} (h : dw all g ρ r s) : (gst all g ρ = some true ∧ r ρ) ∨ (gst all g ρ = some false ∧ s ρ) := by
 unfold dw at h
 unfold gst
 split at h
 ·exact .inl ⟨rfl, h⟩
 ·rename_i j want
  simp only
  split at h
  ·rename_i sl hs
   split at h
   ·rename_i b hb
    simp only [hs, hb]
    by_cases hbw : b = want
    ·have h1 := h.1 hbw
     rw [← hbw, ← hb, dH] at h1
     exact .inl ⟨by rw [hbw]; simp, h1⟩
    ·have hbn : b = !want := by cases b <;> cases want <;> simp_all
     have h1 := h.2 hbn
     rw [← hbn, ← hb, dH] at h1
     exact .inr ⟨by rw [hbn]; simp, h1⟩
   ·rename_i hb
    simp only [hs, hb]
    exact .inr ⟨trivial, h⟩
   ·exact h.elim
  ·exact h.elim
theorem aguard_mono {all : List Oper} {g : Option (Nat × Bool)} {r r' s s' : Env → Prop} (hr : ∀ ρ, r ρ → r' ρ) (hs : ∀ ρ, s ρ → s' ρ) (h : dw all g ρ r s) : dw all g ρ r' s' := by
 unfold dw at h ⊢
 split
 ·exact hr _ (by simpa using h)
 ·rename_i j want
  simp only at h
  split
  ·rename_i sl hsl
   rw [hsl] at h
   simp only at h
   split
   ·rename_i b hb
    rw [hb] at h
    exact ⟨fun e => hr _ (h.1 e), fun e => hs _ (h.2 e)⟩
   ·rename_i hb
    rw [hb] at h
    exact hs _ h
   ·rename_i h1 h2
    split at h
    ·rename_i b hb; exact (h1 b hb).elim
    ·rename_i hb; exact (h2 hb).elim
    ·exact h
  ·rename_i hsl
   rw [hsl] at h
   exact h
theorem wipes_tup : ∀ ds : List Nat, V.wipes ds (.tup []) = .tup []
 | [] => rfl
 | _ :: ds => wipes_tup ds
def YQ (P : Program) (tb : Tb) (ops : Array Oper) (ds : List Nat) (σ : Sto) (o : Oper) (ρ : Env) (v : V) : Prop := ∃ v0, YA P tb ops σ o ρ v0 ∧ v = v0.wipes ds
theorem fP (ht : TbOk P tb) : ∀ (l : List Oper) (k : Nat) (ρ : Env), qopsF P tb ops.toList ds σ l ρ K → gf (fun _ => YQ P tb ops ds σ) k l ρ K
 | [], _, _, h => by simpa [qopsF, gf] using h
 | o :: l, k, ρ, h => by
  rw [qopsF] at h
  rcases YA_of_guard (k := fun v => qopsF P tb ops.toList ds σ l (putE ρ o.dst (v.wipes ds)) K) (k' := qopsF P tb ops.toList ds σ l (putE ρ o.dst (.tup [])) K) ht
   (aguard_mono (fun ρ1 h1 e => by subst e; exact h1) (fun ρ1 h1 e => by subst e; exact h1) h) with ⟨hg, v, hv, hk⟩ | ⟨hg, hk⟩
  ·exact ⟨_, ⟨v, .inl ⟨hg, hv⟩, rfl⟩, fP ht l (k + 1) _ hk⟩
  ·exact ⟨_, ⟨.tup [], .inr ⟨hg, rfl⟩, (wipes_tup ds).symm⟩, fP ht l (k + 1) _ hk⟩
theorem yrun_fin {Y : Nat → Oper → Env → V → Prop} : ∀ (l : List Oper) (k : Nat) (ρ' : Env) (R : Env → Prop), gf Y k l ρ' R → ∃ ρ1, R ρ1 ∧ gf Y k l ρ' fun ρ2 => ρ2 = ρ1
 | [], _, _, _, h => ⟨_, h, rfl⟩
 | _ :: l, k, _, R, ⟨v, hy, h⟩ => let ⟨ρ1, h1, h2⟩ := yrun_fin l (k + 1) _ R h; ⟨ρ1, h1, v, hy, h2⟩
theorem yrun_append {Y : Nat → Oper → Env → V → Prop} : ∀ (l : List Oper) (k : Nat) (ρ' : Env) (l2 : List Oper) (R : Env → Prop), gf Y k l ρ' (fun ρ => gf Y (k + l.length) l2 ρ R) → gf Y k (l ++ l2) ρ' R
 | [], k, _, _, _, h => h
 | o :: l, k, ρ', l2, R, ⟨v, hy, h⟩ => ⟨v, hy, yrun_append l (k + 1) _ l2 R (by rw [List.length_cons, Nat.add_comm l.length 1, ← Nat.add_assoc] at h; exact h)⟩
def Clean (ds : List Nat) (ρ : Env) : Prop := ∀ d ∈ ds, ∀ t, (ρ t).wipe d = ρ t
theorem Clean.put {d : Option Nat} {v : V} (h : Clean ds ρ) (hv : ∀ e ∈ ds, v.wipe e = v) : Clean ds (putE ρ d v) := by
 intro e he t
 cases d with
 | none => exact h e he t
 | some d =>
  by_cases htd : t = d
  ·subst htd; show V.wipe e (upd ρ t v t) = upd ρ t v t; rw [upd_same]; exact hv e he
  ·show V.wipe e (upd ρ d v t) = upd ρ d v t; rw [upd_other _ _ htd]; exact h e he t
theorem yrun_clean {ρ1 : Env} : ∀ (l : List Oper) (k : Nat) (ρ : Env), Clean ds ρ → gf (fun _ => YQ P tb ops ds σ) k l ρ (fun ρ2 => ρ2 = ρ1) → Clean ds ρ1
 | [], _, _, hc, h => by
  have h : _ = ρ1 := h
  subst h
  exact hc
 | _ :: l, k, ρ, hc, ⟨v, ⟨v0, _, hv⟩, h⟩ => yrun_clean l (k + 1) _ (hc.put fun e he => by rw [hv]; exact fT _ he) h
theorem rchk_all (ht : TbOk P tb) {all : List Oper} {ρx : Env} {X : Prop} : ∀ (us : List Oper), rchk P tb all ds ρx σ us X → (∀ u ∈ us, gst all u.guard ρx = some false ∨ ∃ d v0, u.dst = some d ∧ qval P tb σ u ρx v0 ∧ v0.wipes ds = ρx d) ∧ X
 | [], h => ⟨fun _ hu => by simp at hu, h⟩
 | o :: us, h => by
  rcases aguard_gst h with ⟨hg, h⟩ | ⟨hg, h⟩
  ·obtain ⟨v, hv, hd, hk⟩ := fC ht h
   obtain ⟨h1, h2⟩ := rchk_all ht us hk
   refine ⟨fun u hu => ?_, h2⟩
   rcases List.mem_cons.1 hu with rfl | hu
   ·unfold rchkd at hd
    split at hd
    ·rename_i d hdst
     exact .inr ⟨d, v, hdst, hv, hd⟩
    ·exact hd.elim
   ·exact h1 u hu
  ·obtain ⟨h1, h2⟩ := rchk_all ht us h
   refine ⟨fun u hu => ?_, h2⟩
   rcases List.mem_cons.1 hu with rfl | hu
   ·exact .inl hg
   ·exact h1 u hu
theorem wipeD_clean {d : Option Nat} (h : ∀ e, d = some e → ∀ t, (ρ t).wipe e = ρ t) : wipeD d ρ = ρ := by
 cases d with
 | none => rfl
 | some d => funext t; exact h d rfl t
theorem mids_run (ht : TbOk P tb) {all : List Oper} {ρx : Env} {K : Env → Sto → Prop} : ∀ (l : List (Oper × List Oper)) (ρ : Env) (σ : Sto), (∀ p ∈ l, effOp p.1.op = true) → (∀ p ∈ l, ∀ d, p.1.dst = some d → ∀ t, (ρ t).wipe d = ρ t) →
  l.Pairwise (fun p q => ∀ d, q.1.dst = some d → p.1.dst ≠ some d) → midsP P tb all ds ρx l ρ σ K →
  ∃ (S : Nat → Sto) (W : Nat → V) (R : Nat → Env), S 0 = σ ∧ R 0 = ρ ∧ (∀ j p, l[j]? = some p → effS tb all p.1 (R j) (S j) (W j) (S (j + 1)) ∧ (∀ e, p.1.dst ≠ some e → (W j).wipe e = W j) ∧ R (j + 1) = putE (R j) p.1.dst (W j) ∧
   ∀ u ∈ p.2, gst all u.guard ρx = some false ∨ ∃ d v0, u.dst = some d ∧ qval P tb (S (j + 1)) u ρx v0 ∧ v0.wipes ds = ρx d) ∧ K (R l.length) (S l.length)
 | [], ρ, σ, _, _, _, h => ⟨fun _ => σ, fun _ => .tup [], fun _ => ρ, rfl, rfl, fun j p hp => by simp at hp, h⟩
 | (o, us) :: l, ρ, σ, he, hc, hp, h => by
  rw [midsP] at h
  have hw : wipeD o.dst ρ = ρ := wipeD_clean fun e hoe => hc (o, us) (by simp) e hoe
  obtain ⟨v, σ', hto, hhan, hk⟩ : ∃ v σ', effS tb all o ρ σ v σ' ∧ (∀ e, o.dst ≠ some e → v.wipe e = v) ∧ rchk P tb all ds ρx σ' us (midsP P tb all ds ρx l (putE ρ o.dst v) σ' K) := by
   rcases aguard_gst h with ⟨hg, h⟩ | ⟨hg, h⟩
   ·obtain ⟨v, σ', hto, hk⟩ := eff_to (he (o, us) (by simp)) h
    rw [hw] at hk
    exact ⟨v, σ', .inl ⟨hg, hto⟩, hto.han, hk⟩
   ·exact ⟨.tup [], σ, .inr ⟨hg, rfl, rfl⟩, fun _ _ => rfl, h⟩
  obtain ⟨h1, h2⟩ := rchk_all ht us hk
  have hpc := List.pairwise_cons.1 hp
  obtain ⟨S, W, R, hS, hR, hall, hK⟩ := mids_run ht l (putE ρ o.dst v) σ' (fun p hp => he p (by simp [hp])) (fun p hpl d hd t => by
   cases hod : o.dst with
   | none => exact hc p (by simp [hpl]) d hd t
   | some e =>
    have hne : o.dst ≠ some d := hpc.1 p hpl d hd
    by_cases hte : t = e
    ·subst hte; show V.wipe d (upd ρ t v t) = upd ρ t v t; rw [upd_same]; exact hhan d hne
    ·show V.wipe d (upd ρ e v t) = upd ρ e v t; rw [upd_other _ _ hte]; exact hc p (by simp [hpl]) d hd t) hpc.2 h2
  refine ⟨fun k => match k with | 0 => σ | k + 1 => S k, fun k => match k with | 0 => v | k + 1 => W k, fun k => match k with | 0 => ρ | k + 1 => R k, rfl, rfl, fun j p hj => ?_, hK⟩
  cases j with
  | zero =>
   simp only [List.getElem?_cons_zero, Option.some.injEq] at hj
   subst hj
   exact ⟨by simp only [hS]; exact hto, hhan, by simp only [hR], by simp only [hS]; exact h1⟩
  | succ j => exact hall j p (by simpa using hj)
def YG (P : Program) (tb : Tb) (ops : Array Oper) (ds : List Nat) (x y nT : Nat) (uss : List (List Nat)) (S : Nat → Sto) (W : Nat → V) (R : Nat → Env) (i : Nat) (o : Oper) (ρ : Env) (v : V) : Prop :=
 (i < x ∧ ∀ k, k ≤ y - x → (∀ j, k = j + 1 → ∀ us, uss[j]? = some us → us.contains i = true) → ∃ v0, YA P tb ops (S k) o ρ v0 ∧ v = v0.wipes ds) ∨
 (∃ j, i = x + j ∧ i < y ∧ v = W j ∧ gst ops.toList o.guard ρ = gst ops.toList o.guard (R j) ∧ ∀ z ∈ o.op.operands, oev ρ z = oev (R j) z) ∨
 (y ≤ i ∧ i < nT ∧ ∃ v0, YA P tb ops (S (y - x)) o ρ v0 ∧ v = v0.wipes ds)
variable {S : Nat → Sto} {W : Nat → V} {R : Nat → Env}
theorem looks_YG : Looks (YG P tb ops ds x y nT uss S W R) ops := by
 intro i o ρ z v u h
 unfold YG
 have hop := oev_puts (ρ := ρ) (v := v) h
 refine or_congr (and_congr_right fun _ => forall_congr' fun k => forall_congr' fun _ => forall_congr' fun _ => exists_congr fun v0 => and_congr_left fun _ => YA_put h) (or_congr ?_ ?_)
 ·rw [gst_put h]
  refine exists_congr fun j => and_congr_right fun _ => and_congr_right fun _ => and_congr_right fun _ => and_congr_right fun _ => ⟨fun hz z hzz => by rw [← hop z hzz]; exact hz z hzz, fun hz z hzz => by rw [hop z hzz]; exact hz z hzz⟩
 ·exact and_congr_right fun _ => and_congr_right fun _ => exists_congr fun v0 => and_congr_left fun _ => YA_put h
theorem YA_indep {v : V} (hi : indep o.op = true) (h : YA P tb ops σ o ρ v) : YA P tb ops σ' o ρ v := by
 have h1 : dj o.op = none := by cases ho : o.op <;> rw [ho] at hi <;> first | rfl | cases hi
 have h2 : qev tb ρ σ o.op = qev tb ρ σ' o.op := by cases ho : o.op <;> rw [ho] at hi <;> first | rfl | cases hi
 rcases h with ⟨hg, hv⟩ | h
 ·refine .inl ⟨hg, ?_⟩
  unfold qval at hv ⊢
  rw [h1] at hv ⊢
  simp only at hv ⊢
  rw [← h2]
  exact hv
 ·exact .inr h
theorem fj (hB : midsB ops x y nT uss = true) {j : Nat} (hj : j < y - x) : effB ops x y uss j = true := by
 simp only [midsB, Bool.and_eq_true] at hB
 exact List.all_eq_true.1 hB.1.2 j (List.mem_range.2 hj)
theorem midsB_late (hB : midsB ops x y nT uss = true) {i : Nat} (hy : y ≤ i) (hi : i < nT) {o : Oper} (ho : ops[i]? = some o) : indep o.op = true ∨ ∀ j, j < y - x → x + j ∈ clos ops ops.size (fF ops i) := by
 simp only [midsB, Bool.and_eq_true] at hB
 have := List.all_eq_true.1 hB.2 i (List.mem_range.2 hi)
 simp only [Bool.or_eq_true, decide_eq_true_eq] at this
 have := this.resolve_left (by omega)
 unfold lateB at this
 rw [ho] at this
 simp only [Bool.or_eq_true] at this
 exact this.imp id fun h j hj => by simpa using List.all_eq_true.1 h j (List.mem_range.2 hj)
theorem fX {j : Nat} (h : effB ops x y uss j = true) : ∃ o us, ops[x + j]? = some o ∧ uss[j]? = some us ∧ effOp o.op = true ∧
  (∀ i, i < x → us.contains i = true ∨ i ∈ clos ops ops.size (fF ops (x + j))) ∧ (∀ i, i < j → x + i ∈ clos ops ops.size (fF ops (x + j))) ∧ usB ops x us = true ∧
  ∀ i, i < y - x → i ≠ j → ∀ d, o.dst = some d → ∀ o', ops[x + i]? = some o' → o'.dst ≠ some d := by
 unfold effB at h
 split at h
 ·rename_i o us ho hus
  simp only [Bool.and_eq_true] at h
  obtain ⟨⟨⟨⟨h1, h3⟩, h4⟩, h5⟩, h6⟩ := h
  refine ⟨o, us, ho, hus, h1, fun i hi => ?_, fun i hi => ?_, h5, fun i hi hne d hd o' ho' he => ?_⟩
  ·have := List.all_eq_true.1 h3 i (List.mem_range.2 hi)
   simp only [Bool.or_eq_true] at this
   exact this.imp id fun h => by simpa using h
  ·simpa using List.all_eq_true.1 h4 i (List.mem_range.2 hi)
  ·have := List.all_eq_true.1 h6 i (List.mem_range.2 hi)
   simp [hne, hd, ho', he] at this
 ·cases h
theorem pred_listed {listed : Array Bool} (hcl : Closed ops listed) {i : Nat} {oi : Oper} (ho : ops[i]? = some oi) (hl : listed.getD i false = true) {j : Nat} (hj : j ∈ clos ops ops.size (fF ops i)) : listed.getD j false = true :=
 gO hcl ops.size (fF ops i) (fun k hk => by
  unfold fF at hk
  rw [ho] at hk
  obtain ⟨e, he, hek⟩ := List.mem_filterMap.1 hk
  split at hek
  ·rename_i hb
   cases hek
   exact hcl i oi ho hl e (by simpa using he) hb
  ·cases hek) j hj
theorem pred_ready {listed : Array Bool} (hcl : Closed ops listed) {i : Nat} (hr : i ∈ Region.ready .any ops listed) {j : Nat} (hj : j ∈ clos ops ops.size (fF ops i)) : listed.getD j false = true := by
 obtain ⟨_, oi, ho, hall⟩ := mem_ready.1 hr
 exact gO hcl ops.size (fF ops i) (fun k hk => by
  unfold fF at hk
  rw [ho] at hk
  obtain ⟨e, he, hek⟩ := List.mem_filterMap.1 hk
  split at hek
  ·rename_i hb
   cases hek
   exact hall e (by simpa using he) hb
  ·cases hek) j hj
theorem Sim.wipesPut {φ : Nat → Value} {a : Act} {w : World} {d : Option Nat} {v : V} (ds : List Nat) (h : Sim cx φ (putE ρ d v) σ a w) : Sim cx φ (putE ρ d (v.wipes ds)) σ a w := by
 cases d with
 | none => exact h
 | some d =>
  refine ⟨h.core, fun t => ?_, h.defers, h.room⟩
  have := h.slots t
  by_cases htd : t = d
  ·subst htd
   simp only [putE, upd_same] at this ⊢
   exact vsim_wipes ds _ _ this
  ·simp only [putE, upd_other _ _ htd] at this ⊢
   exact this
theorem gJ (ht : TbOk P tb) (hd : eP cx.n ops.toList = true) (hB : midsB ops x y nT uss = true) (hds : ∀ j o d, x + j < y → ops[x + j]? = some o → o.dst = some d → d ∈ ds)
  (hE : ∀ j o, x + j < y → ops[x + j]? = some o → effS tb ops.toList o (R j) (S j) (W j) (S (j + 1)) ∧ ∀ e, o.dst ≠ some e → (W j).wipe e = W j) {T : Nat → Env → Prop} {Q : Exit → Act → World → Prop}
  (hT : ∀ fuel listed φ ρ a w i, Closed ops listed → (∀ j, nT ≤ j → j < ops.size → listed.getD j true = false) → i ∈ Region.ready .any ops listed → ¬ i < nT → Sim cx φ ρ (S (y - x)) a w → T fuel ρ → wpOp P ops Q i (wpAny P .any ops Q fuel (listed.setIfInBounds i true)) a w) :
  ∀ (fuel : Nat) (listed : Array Bool) (φ : Nat → Value) (ρ : Env) (a : Act) (w : World) (k : Nat), k ≤ y - x → (∀ j, j < k → listed.getD (x + j) false = true) → (∀ j, k ≤ j → x + j < y → listed.getD (x + j) true = false) → Closed ops listed →
   (∀ j, nT ≤ j → j < ops.size → listed.getD j true = false) → (∀ j o d, k ≤ j → x + j < y → ops[x + j]? = some o → o.dst = some d → ∀ t, (ρ t).wipe d = ρ t) → Sim cx φ ρ (S k) a w →
   wpE (YG P tb ops ds x y nT uss S W R) ops nT T (fun _ => False) fuel listed ρ → wpAny P .any ops Q fuel listed a w
 | 0, listed, φ, ρ, a, w, k, _, _, _, _, _, _, hs, h => h.2.elim
 | fuel + 1, listed, φ, ρ, a, w, k, hk, hL, hN, hcl, hU, hC, hs, h => by
  have hB' := hB
  simp only [midsB, Bool.and_eq_true, decide_eq_true_eq] at hB'
  obtain ⟨⟨⟨⟨⟨⟨hxy, hyn⟩, hnsz⟩, hch⟩, hul⟩, _⟩, _⟩ := hB'
  refine ⟨fun h0 => (h.1 h0).elim, fun i hi => ?_⟩
  have h1 := h.2 i hi
  split at h1
  ·rename_i hin
   obtain ⟨hiun, o, ho, _⟩ := mem_ready.1 hi
   have hdo := dstOk_get hd (show ops.toList[i]? = some o by simpa using ho)
   have hU' : ∀ j, nT ≤ j → j < ops.size → (listed.setIfInBounds i true).getD j true = false := fun j h1 h2 => by
    rw [getD_set_ne true (by omega)]; exact hU j h1 h2
   have hisz : i < listed.size := by
    rcases Nat.lt_or_ge i listed.size with h' | h'
    ·exact h'
    ·simp [Array.getElem?_eq_none h'] at hiun
   unfold QOpE at h1
   unfold wpOp
   simp only [ho] at h1 ⊢
   obtain ⟨v, hy, hkk⟩ := h1
   have hy2 : (∃ v0, (i < x ∨ y ≤ i) ∧ YA P tb ops (S k) o ρ v0 ∧ v = v0.wipes ds) ∨ (∃ j, i = x + j ∧ i < y ∧ v = W j ∧ gst ops.toList o.guard ρ = gst ops.toList o.guard (R j) ∧ ∀ z ∈ o.op.operands, oev ρ z = oev (R j) z) := by
    rcases hy with ⟨hix, hall⟩ | h | ⟨hyi, _, v0, hya, hv⟩
    ·obtain ⟨v0, hya, hv⟩ := hall k hk fun j hkj us hus => by
      have hj : j < y - x := by omega
      obtain ⟨o', us', ho', hus', _, h3, _⟩ := fX (fj hB hj)
      rw [hus] at hus'
      cases hus'
      rcases h3 i hix with h3 | h3
      ·exact h3
      ·have := getD_both (pred_listed hcl ho' (hL j (by omega)) h3)
       rw [hiun] at this
       cases this
     exact .inl ⟨v0, .inl hix, hya, hv⟩
    ·exact .inr h
    ·refine .inl ⟨v0, .inr hyi, ?_, hv⟩
     rcases midsB_late hB hyi hin ho with hind | hall
     ·exact YA_indep hind hya
     ·have : k = y - x := by
       rcases Nat.lt_or_ge k (y - x) with hlt | hge
       ·have := getD_both (pred_ready hcl hi (hall k hlt))
        rw [hN k (Nat.le_refl _) (by omega)] at this
        cases this
       ·omega
      rw [this]
      exact hya
   rcases hy2 with ⟨v0, hpos, hya, rfl⟩ | ⟨j, hij, hiy, rfl, hgag, hag⟩
   ·-- a quiet operation
    have hL' : ∀ j, j < k → (listed.setIfInBounds i true).getD (x + j) false = true := fun j hj => by rw [getD_set_ne false (by omega)]; exact hL j hj
    have hN' : ∀ j, k ≤ j → x + j < y → (listed.setIfInBounds i true).getD (x + j) true = false := fun j h1 h2 => by rw [getD_set_ne true (by omega)]; exact hN j h1 h2
    have hC' : ∀ j o' d, k ≤ j → x + j < y → ops[x + j]? = some o' → o'.dst = some d → ∀ t, (putE ρ o.dst (v0.wipes ds) t).wipe d = putE ρ o.dst (v0.wipes ds) t := fun j o' d h1 h2 h3 h4 => by
     have hcd : Clean [d] ρ := fun e he t => by
      simp only [List.mem_singleton] at he
      subst he
      exact hC j o' e h1 h2 h3 h4 t
     exact (hcd.put (d := o.dst) (v := v0.wipes ds) fun e he => by
      simp only [List.mem_singleton] at he
      subst he
      exact fT _ (hds j o' e h2 h3 h4)) d (by simp)
    rcases hya with ⟨hg, hv⟩ | ⟨hg, rfl⟩
    ·rw [if_pos (gst_sound hs.slots hg)]
     refine .inl (Step.of_quiet (K := fun ρ2 σ2 => ρ2 = putE ρ o.dst v0 ∧ σ2 = S k) (quiet_of_qval ht hv) (fun x hx => (hdo x hx).1) (fun v' hv' => by subst hv'; exact ⟨rfl, rfl⟩) φ a w hs _ _ fun φ' ρ2 σ2 a' w' hs' hk' => ?_)
     rw [hk'.1, hk'.2] at hs'
     exact gJ ht hd hB hds hE hT fuel _ φ' _ a' w' k hk hL' hN' (closed_set hcl hi) hU' hC' (hs'.wipesPut ds) hkk
    ·rw [if_neg (by rw [gst_sound hs.slots hg]; simp)]
     rw [wipes_tup] at hkk hC'
     exact gJ ht hd hB hds hE hT fuel _ φ _ _ w k hk hL' hN' (closed_set hcl hi) hU' hC' (hs.put (fun x hx => (hdo x hx).1) gu) hkk
   ·-- an effect
    subst hij
    have hjn : j < y - x := by omega
    obtain ⟨o', us, ho', hus, heff, _, hchain, _, hdist⟩ := fX (fj hB hjn)
    rw [ho] at ho'
    cases ho'
    have hjk : j = k := by
     rcases Nat.lt_trichotomy j k with hlt | he | hgt
     ·have := getD_both (hL j hlt)
      rw [hiun] at this
      cases this
     ·exact he
     ·have := getD_both (pred_ready hcl hi (hchain k hgt))
      rw [hN k (Nat.le_refl _) (by omega)] at this
      cases this
    subst hjk
    have hw : wipeD o.dst ρ = ρ := wipeD_clean fun e hoe => hC j o e (Nat.le_refl _) (by omega) ho hoe
    obtain ⟨hto, hhan⟩ := hE j o (by omega) ho
    have hL' : ∀ j', j' < j + 1 → (listed.setIfInBounds (x + j) true).getD (x + j') false = true := fun j' hj' => by
     by_cases hjj : j' = j
     ·subst hjj; simp [hisz]
     ·rw [getD_set_ne false (by omega)]; exact hL j' (by omega)
    have hN' : ∀ j', j + 1 ≤ j' → x + j' < y → (listed.setIfInBounds (x + j) true).getD (x + j') true = false := fun j' h1 h2 => by
     rw [getD_set_ne true (by omega)]; exact hN j' (by omega) h2
    have hC' : ∀ j' o' d, j + 1 ≤ j' → x + j' < y → ops[x + j']? = some o' → o'.dst = some d → ∀ t, (putE ρ o.dst (W j) t).wipe d = putE ρ o.dst (W j) t := fun j' o' d h1 h2 h3 h4 t => by
     have hcd : Clean [d] ρ := fun e he t => by
      simp only [List.mem_singleton] at he
      subst he
      exact hC j' o' e (by omega) h2 h3 h4 t
     exact (hcd.put (d := o.dst) (v := W j) fun e he => by
      simp only [List.mem_singleton] at he
      subst he
      exact hhan e fun hoe => hdist j' (by omega) (by omega) e hoe o' h3 h4) d (by simp) t
    rcases hto with ⟨hg, hto⟩ | ⟨hg, hWj, hSj⟩
    ·rw [if_pos (gst_sound hs.slots (hgag.trans hg))]
     refine .inl (astep_sound (K := fun ρ2 σ2 => ρ2 = putE ρ o.dst (W j) ∧ σ2 = S (j + 1)) ht hdo (astep_of_eff heff (hto.run ρ _ hag ⟨by rw [hw], rfl⟩)) φ a w hs _ _ fun φ' ρ2 σ2 a' w' hs' hk' => ?_)
     rw [hk'.1, hk'.2] at hs'
     exact gJ ht hd hB hds hE hT fuel _ φ' _ a' w' (j + 1) (by omega) hL' hN' (closed_set hcl hi) hU' hC' hs' hkk
    ·rw [if_neg (by rw [gst_sound hs.slots (hgag.trans hg)]; simp)]
     rw [hWj] at hkk hC'
     exact gJ ht hd hB hds hE hT fuel _ φ _ _ w (j + 1) (by omega) hL' hN' (closed_set hcl hi) hU' hC' (by rw [hSj]; exact hs.put (fun x hx => (hdo x hx).1) gu) hkk
  ·rename_i hin
   have hkn : k = y - x := by
    rcases Nat.lt_or_ge k (y - x) with hlt | hge
    ·have := getD_both (fg hch hcl hin hi (x + k) (by omega))
     rw [hN k (Nat.le_refl _) (by omega)] at this
     cases this
    ·omega
   subst hkn
   exact hT fuel listed φ ρ a w i hcl hU hi hin hs h1
theorem qval_congr {v : V} (h : ∀ z ∈ o.op.operands, oev ρ z = oev ρ' z) (hv : qval P tb σ o ρ v) : qval P tb σ o ρ' v := by
 unfold qval at hv ⊢
 split
 ·rename_i c hc
  rw [hc] at hv
  simp only at hv
  rw [← callArgs_congr fun y hy => h y (by rw [(gK hc).1]; exact hy)]
  exact hv
 ·rename_i hc
  rw [hc] at hv
  simp only at hv
  rw [← qev_congr h]
  exact hv
theorem usB_get {us : List Nat} (hB : usB ops x us = true) {j : Nat} (hj : us.contains j = true) : j < x ∧ ∃ o d, ops[j]? = some o ∧ o.dst = some d ∧ d ∉ o.looksAt ops ∧
  ∀ o' ∈ (ops.toList.take x).drop (j + 1), o'.dst ≠ some d ∧ ∀ t, o'.dst = some t → t ∉ o.looksAt ops := by
 have := List.all_eq_true.1 hB j (by simpa using hj)
 simp only [Bool.and_eq_true, decide_eq_true_eq] at this
 obtain ⟨h1, h2⟩ := this
 refine ⟨h1, ?_⟩
 split at h2
 ·rename_i o ho
  have h5 := h2
  split at h5
  ·rename_i d hd
   simp only [Bool.and_eq_true] at h5
   refine ⟨o, d, ho, hd, by simpa using h5.1, fun o' ho' => ?_⟩
   have h6 := List.all_eq_true.1 h5.2 o' ho'
   split at h6
   ·rename_i d' hd'
    simp only [Bool.and_eq_true] at h6
    refine ⟨fun e => ?_, fun t ht => ?_⟩
    ·rw [hd'] at e; cases e; simp at h6
    ·rw [hd'] at ht; cases ht; simpa using h6.2
   ·rename_i hd'
    exact ⟨by rw [hd']; simp, fun t ht => by rw [hd'] at ht; cases ht⟩
  ·cases h5
 ·cases h2
theorem yrun_pre {ρx : Env} (hul : uss.length = y - x) (hus : ∀ (j : Nat) (us : List Nat), uss[j]? = some us → usB ops x us = true) (hS : S 0 = σ)
  (hre : ∀ (j : Nat) (us : List Nat), uss[j]? = some us → ∀ i, us.contains i = true → ∀ o, ops[i]? = some o → gst ops.toList o.guard ρx = some false ∨ ∃ d v0, o.dst = some d ∧ qval P tb (S (j + 1)) o ρx v0 ∧ v0.wipes ds = ρx d) :
  ∀ (l : List Oper) (k : Nat) (ρ : Env), k + l.length = x → (∀ j, j < l.length → l[j]? = ops[k + j]?) → gf (fun _ => YQ P tb ops ds σ) k l ρ (fun ρ2 => ρ2 = ρx) → gf (YG P tb ops ds x y nT uss S W R) k l ρ (fun ρ2 => ρ2 = ρx)
 | [], _, _, _, _, h => h
 | o :: l, k, ρ, hk, hl, h => by
  simp only [List.length_cons] at hk
  obtain ⟨v, ⟨v0, hya, hv⟩, h2⟩ := h
  have h0 : ops[k]? = some o := by simpa using (hl 0 (by simp)).symm
  refine ⟨v, .inl ⟨by omega, fun kk hkk hj => ?_⟩, yrun_pre hul hus hS hre l (k + 1) _ (by omega) (fun j hj => by have := hl (j + 1) (by simp; omega); simpa [Nat.add_assoc, Nat.add_comm 1 j] using this) h2⟩
  cases kk with
  | zero => exact ⟨v0, by rw [hS]; exact hya, hv⟩
  | succ j =>
   obtain ⟨us, hu⟩ : ∃ us, uss[j]? = some us := ⟨uss[j]'(by omega), by simp⟩
   have hc := hj j rfl us hu
   obtain ⟨_, o', d, ho', hd, hnd, hw⟩ := usB_get (hus j us hu) hc
   rw [h0] at ho'
   cases ho'
   have hdrop : (ops.toList.take x).drop (k + 1) = l := by
    apply List.ext_getElem?
    intro j
    rw [List.getElem?_drop, List.getElem?_take]
    by_cases hj : j < l.length
    ·rw [if_pos (by omega)]
     have := hl (j + 1) (by simp; omega)
     simp only [List.getElem?_cons_succ] at this
     rw [this]
     simp [Nat.add_assoc, Nat.add_comm 1 j]
    ·rw [if_neg (by omega), List.getElem?_eq_none (by omega)]
   rw [hdrop] at hw
   obtain ⟨ρ1, ⟨h3, hkeep⟩, _⟩ := yrun_fin _ _ _ _ (yrun_keep l (k + 1) _ h2)
   have h3 : ρ1 = ρx := h3
   subst h3
   have hkp : ∀ t ∈ o.looksAt ops, ρ1 t = ρ t := fun t ht => by
    rw [hkeep t fun o' ho' e => (hw o' ho').2 t e ht, gz fun e => ?_]
    rw [hd] at e
    cases e
    exact hnd ht
   have hgg : gst ops.toList o.guard ρ1 = gst ops.toList o.guard ρ := by
    unfold gst
    split
    ·rfl
    ·rename_i j want hgd
     split
     ·rename_i s hs
      rw [hkp s (List.mem_append_right _ (by rw [hgd]; simp only; simpa [gslot] using hs))]
     ·rfl
   rcases hya with ⟨hg, _⟩ | ⟨hg, hv0⟩
   case inr => exact ⟨v0, .inr ⟨hg, hv0⟩, hv⟩
   have hre' := hre j us hu k hc o h0
   rw [hgg, hg] at hre'
   obtain ⟨d', v0', hd', hq, hv0'⟩ := hre'.resolve_left (by simp)
   rw [hd] at hd'
   cases hd'
   have hρd : ρ1 d = v := by
    rw [hkeep d fun o' ho' => (hw o' ho').1, hd]
    exact upd_same _ _ _
   refine ⟨v0', .inl ⟨hg, qval_congr (fun z hz => ?_) hq⟩, by rw [hv0', hρd]⟩
   cases z with
   | tmp t => exact hkp t (List.mem_append_left _ (List.mem_filterMap.2 ⟨.tmp t, by simpa using hz, rfl⟩))
   | _ => rfl
theorem yrun_effs (hR : ∀ j o, x + j < y → ops[x + j]? = some o → R (j + 1) = putE (R j) o.dst (W j)) : ∀ (l : List Oper) (j : Nat), x + j + l.length = y → (∀ i, i < l.length → l[i]? = ops[x + j + i]?) →
  gf (YG P tb ops ds x y nT uss S W R) (x + j) l (R j) (fun ρ2 => ρ2 = R (y - x))
 | [], j, hj, _ => by
  have : j = y - x := by simp at hj; omega
  subst this
  exact rfl
 | o :: l, j, hj, hl => by
  simp only [List.length_cons] at hj
  have h0 : ops[x + j]? = some o := by simpa using (hl 0 (by simp)).symm
  refine ⟨W j, .inr (.inl ⟨j, rfl, by omega, rfl, rfl, fun _ _ => rfl⟩), ?_⟩
  rw [← hR j o (by omega) h0]
  exact yrun_effs hR l (j + 1) (by omega) fun i hi => by
   have := hl (i + 1) (by simp; omega)
   rw [List.getElem?_cons_succ] at this
   rw [this]
   congr 1
   omega
theorem mids_get {j : Nat} {o : Oper} {us : List Nat} (hj : x + j < y) (ho : ops[x + j]? = some o) (hu : uss[j]? = some us) : (mids ops.toList x y uss)[j]? = some (o, uops ops.toList us) := by
 unfold mids
 rw [List.getElem?_zip_eq_some]
 refine ⟨?_, by simp [hu]⟩
 rw [List.getElem?_drop, List.getElem?_take, if_pos hj]
 simpa using ho
theorem yrun_late : ∀ (l : List Oper) (k : Nat) (ρ : Env), y ≤ k → k + l.length = nT → gf (fun _ => YQ P tb ops ds (S (y - x))) k l ρ K → gf (YG P tb ops ds x y nT uss S W R) k l ρ K
 | [], _, _, _, _, h => h
 | _ :: l, k, _, hy, hk, ⟨v, hv, h⟩ => ⟨v, .inr (.inr ⟨hy, by simp at hk; omega, hv⟩), yrun_late l (k + 1) _ (by omega) (by simp at hk; omega) h⟩
theorem draw_mids (ht : TbOk P tb) (hd : eP cx.n ops.toList = true) (hm : P.follows .mixedOrders = true) (hB : Region.lexB .any ops = true) (hM : midsB ops x y nT uss = true) {id : Nat} {K' : Env → Sto → Prop} {Q : Exit → Act → World → Prop} (hQ : ∀ φ ρ σ a w, Sim cx φ ρ σ a w → K' ρ σ → Q .normal a w)
  {φ : Nat → Value} {a : Act} {w : World} (hs : Sim cx φ ρ σ a w) (hds : ds = dsts ((ops.toList.take y).drop x))
  (h : qopsF P tb ops.toList ds σ (ops.toList.take x) (wipesE ds ρ) fun ρx => midsP P tb ops.toList ds ρx (mids ops.toList x y uss) ρx σ fun ρ σ => qopsF P tb ops.toList ds σ ((ops.toList.take nT).drop y) ρ fun ρ => aops P cx tb ops.toList (ops.toList.drop nT) ρ σ K') : (Code.region id ops true).wp P Q a w := by
 simp only [Region.lexB, Bool.and_eq_true] at hB
 have hM' := hM
 simp only [midsB, Bool.and_eq_true, decide_eq_true_eq] at hM'
 obtain ⟨⟨⟨⟨⟨⟨hxy, hyn⟩, hn⟩, hC⟩, hul⟩, _⟩, _⟩ := hM'
 obtain ⟨ρx, hmid, hrun⟩ := yrun_fin _ _ _ _ (fP ht (ops.toList.take x) 0 _ h)
 have hcl : Clean ds ρx := yrun_clean _ 0 _ (fun d hdd t => fT _ hdd) hrun
 have hdsm : ∀ j o d, x + j < y → ops[x + j]? = some o → o.dst = some d → d ∈ ds := fun j o d hj ho hod => by
  rw [hds]
  refine List.mem_filterMap.2 ⟨o, List.mem_of_getElem? (i := j) ?_, hod⟩
  rw [List.getElem?_drop, List.getElem?_take, if_pos hj]
  simpa using ho
 have hlen : (mids ops.toList x y uss).length = y - x := by
  unfold mids
  simp only [List.length_zip, List.length_drop, List.length_take, List.length_map, Array.length_toList]
  omega
 have hget : ∀ j p, (mids ops.toList x y uss)[j]? = some p → ∃ o us, j < y - x ∧ ops[x + j]? = some o ∧ uss[j]? = some us ∧ p = (o, uops ops.toList us) := fun j p hp => by
  have hj : j < y - x := by rw [← hlen]; exact (List.getElem?_eq_some_iff.1 hp).1
  obtain ⟨o, us, ho, hu, _⟩ := fX (fj hM hj)
  rw [mids_get (by omega) ho hu] at hp
  cases hp
  exact ⟨o, us, hj, ho, hu, rfl⟩
 obtain ⟨S, W, R, hS, hR, hall, hK⟩ := mids_run ht (mids ops.toList x y uss) ρx σ (fun p hp => by
   obtain ⟨j, hj⟩ := List.getElem?_of_mem hp
   obtain ⟨o, us, hjn, ho, hu, rfl⟩ := hget j p hj
   obtain ⟨o', us', ho', _, he, _⟩ := fX (fj hM hjn)
   rw [ho] at ho'
   cases ho'
   exact he) (fun p hp d hpd t => by
   obtain ⟨j, hj⟩ := List.getElem?_of_mem hp
   obtain ⟨o, us, hjn, ho, hu, rfl⟩ := hget j p hj
   exact hcl d (hdsm j o d (by omega) ho hpd) t) (List.pairwise_iff_getElem.2 fun i j hi hj hij d hjd => by
   obtain ⟨o, us, hin, ho, hu, hpi⟩ := hget i _ (List.getElem?_eq_getElem hi)
   obtain ⟨o2, us2, hjn, ho2, hu2, hpj⟩ := hget j _ (List.getElem?_eq_getElem hj)
   rw [hpi]
   rw [hpj] at hjd
   obtain ⟨o', us', ho', _, _, _, _, _, hdist⟩ := fX (fj hM hjn)
   rw [ho2] at ho'
   cases ho'
   exact hdist i hin (by omega) d hjd o ho) hmid
 rw [hlen] at hK
 obtain ⟨ρz, hKz, hlate⟩ := yrun_fin _ _ _ _ (fP ht ((ops.toList.take nT).drop y) y _ hK)
 have hE : ∀ j o, x + j < y → ops[x + j]? = some o → (effS tb ops.toList o (R j) (S j) (W j) (S (j + 1)) ∧ ∀ e, o.dst ≠ some e → (W j).wipe e = W j) ∧ R (j + 1) = putE (R j) o.dst (W j) := fun j o hj ho => by
  obtain ⟨o', us, ho', hu, _⟩ := fX (fj hM (show j < y - x by omega))
  have := hall j _ (mids_get hj ho hu)
  exact ⟨⟨this.1, this.2.1⟩, this.2.2.1⟩
 have hpre := yrun_pre (P := P) (tb := tb) (nT := nT) (W := W) (R := R) hul (fun j us hu => by
   have hj : j < y - x := by rw [← hul]; exact (List.getElem?_eq_some_iff.1 hu).1
   obtain ⟨o', us', ho', hu', _, _, _, h5, _⟩ := fX (fj hM hj)
   rw [hu] at hu'
   cases hu'
   exact h5) hS (fun j us hu i hc o ho => by
   have hj : j < y - x := by rw [← hul]; exact (List.getElem?_eq_some_iff.1 hu).1
   obtain ⟨o', us', ho', hu', _⟩ := fX (fj hM hj)
   exact (hall j _ (mids_get (by omega) ho' hu)).2.2.2 o (List.mem_filterMap.2 ⟨i, by simpa using hc, by simpa using ho⟩)) (ops.toList.take x) 0 _ (by simp; omega) (fun j hj => by
   rw [List.getElem?_take, if_pos (by simp at hj; omega)]
   simp) hrun
 have heffs := yrun_effs (P := P) (tb := tb) (nT := nT) (ds := ds) (uss := uss) (S := S) (fun j o hj ho => (hE j o hj ho).2) ((ops.toList.take y).drop x) 0 (by simp; omega) (fun i hi => by
  rw [List.getElem?_drop, List.getElem?_take, if_pos (by simp at hi; omega)]
  simp)
 rw [hR] at heffs
 have htk : ops.toList.take x ++ (ops.toList.take y).drop x = ops.toList.take y := by
  have h1 := List.take_append_drop x (ops.toList.take y)
  rw [List.take_take, Nat.min_eq_left hxy] at h1
  exact h1
 have htk2 : ops.toList.take y ++ (ops.toList.take nT).drop y = ops.toList.take nT := by
  have h1 := List.take_append_drop y (ops.toList.take nT)
  rw [List.take_take, Nat.min_eq_left hyn] at h1
  exact h1
 have hlx : (ops.toList.take x).length = x := by simp; omega
 have hly : (ops.toList.take y).length = y := by simp; omega
 have hrunS : gf (YG P tb ops ds x y nT uss S W R) 0 (ops.toList.take nT) (wipesE ds ρ) fun ρ2 => ρ2 = ρz := by
  have key : ∀ (l : List Oper) (k : Nat) (ρ' : Env) (K K' : Env → Prop), (∀ ρ1, K ρ1 → K' ρ1) → gf (YG P tb ops ds x y nT uss S W R) k l ρ' K → gf (YG P tb ops ds x y nT uss S W R) k l ρ' K' := by
   intro l
   induction l with
   | nil => intro k ρ' K K' hk h; exact hk _ h
   | cons o l ih => intro k ρ' K K' hk ⟨v, hy, h⟩; exact ⟨v, hy, ih _ _ _ _ hk h⟩
  rw [← htk2]
  refine yrun_append _ 0 _ _ _ ?_
  rw [hly, Nat.zero_add, ← htk]
  refine yrun_append _ 0 _ _ _ ?_
  rw [hlx, Nat.zero_add]
  refine key _ _ _ _ _ (fun ρ1 he => ?_) hpre
  subst he
  refine key _ _ _ _ _ (fun ρ2 he2 => ?_) heffs
  subst he2
  exact yrun_late _ y _ (Nat.le_refl _) (by simp; omega) hlate
 have htl : (ops.toList.take nT).length = nT := by simp; omega
 have hdl : (ops.toList.drop nT).length = ops.size - nT := by simp
 obtain ⟨m, hm1⟩ : ∃ m, ops.size - nT = m + 1 := ⟨ops.size - nT - 1, by omega⟩
 have key := wpE_lex (looks_YG (P := P) (tb := tb) (ds := ds) (x := x) (y := y) (nT := nT) (uss := uss) (S := S) (W := W) (R := R)) (ops := ops) (nT := nT)
  (T := fun f ρ => f = m ∧ ρ = ρz) (Kd := fun _ => False) (K := fun ρ => ρ = ρz) (m := m + 1)
  (fun i hi listed hcl hri j hj => by
   rcases Nat.lt_or_ge j nT with h1 | h1
   ·exact h1
   ·have := getD_both (fg hC hcl (by omega) hj i (by omega))
    rw [(mem_ready.1 hri).1] at this
    cases this)
  (fun listed ρ hl hlex hk => by
   simp only [Region.lexFrom, Bool.and_eq_true] at hlex
   refine ⟨fun h0 => ?_, fun i hi => ?_⟩
   ·have : nT ∈ Region.ready .any ops listed := by simpa using hlex.1.1
    rw [h0] at this
    cases this
   ·rw [if_neg]
    ·exact ⟨rfl, hk⟩
    ·intro hlt
     obtain ⟨h1, o, ho, _⟩ := mem_ready.1 hi
     rw [hl i hlt (Array.getElem?_eq_some_iff.1 ho).1] at h1
     cases h1)
  (ops.toList.take nT) 0 (Array.replicate ops.size false) (wipesE ds ρ) (by simp) fk (fun i hi => by omega) (by omega) (fun j hj => by
   rw [List.getElem?_take, if_pos (by omega)]
   simp) (by rw [htl, ← hm1, show nT + (ops.size - nT) = ops.size from by omega]; exact hB.2) hrunS
 refine wp_region_any hm ?_
 have hsd : Sim cx φ (wipesE ds ρ) σ a { w with drawn := w.drawn + 1 } := (hs.wipes ds).below ⟨⟨rfl, rfl, rfl, Nat.le_refl _, fun _ _ => rfl⟩, Nat.le_succ _⟩
 have := gJ (Q := Q) (S := S) (W := W) (R := R) ht hd hM hdsm (fun j o hj ho => (hE j o hj ho).1) (T := fun f ρ => f = m ∧ ρ = ρz) (fun fuel listed φ ρ a w i hcl hU hi hin hs' hT' => by
  obtain ⟨rfl, rfl⟩ := hT'
  obtain ⟨_, o, ho, _⟩ := mem_ready.1 hi
  have his : i < ops.size := (Array.getElem?_eq_some_iff.1 ho).1
  have hin' : i = nT := by
   rcases Nat.lt_or_ge nT i with h1 | h1
   ·have h2 := getD_both (fg hC hcl hin hi nT h1)
    rw [hU nT (Nat.le_refl _) hn] at h2
    cases h2
   ·omega
  subst hin'
  have hc := wpAny_chain (Q := Q) ht hd hC hQ (ops.toList.drop i) i listed φ _ _ a w (Nat.le_refl _) (by rw [hdl]; omega) (fun j => by simp) hcl (fg hC hcl hin hi) hU hs' hKz
  rw [hdl, hm1] at hc
  exact hc.2 i hi)
  ((ops.toList.take nT).length + (m + 1)) (Array.replicate ops.size false) φ _ a _ 0 (by omega) (fun j hj => by omega) (fun j _ hj => by
   have : x + j < ops.size := by omega
   simp [this]) fk (fun j h1 h2 => by simp [h2]) (fun j o d _ hj ho hod t => fT _ (hdsm j o d hj ho hod)) (by rw [hS]; exact hsd) key
 rw [htl, ← hm1, show nT + (ops.size - nT) = ops.size from by omega] at this
 exact this
end
end Go.AM
