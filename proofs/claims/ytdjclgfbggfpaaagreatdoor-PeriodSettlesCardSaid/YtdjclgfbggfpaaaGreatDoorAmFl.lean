/-
  A region that draws its order, with effects in the midst: effects in a fixed order among themselves, quiet operations wherever they fall.
-/
import Derived.Test.YtdjclgfbggfpaaaGreatDoorAmX
namespace Go.AM
open Go.RowKit
theorem C.wipe_eq (d : Nat) (c : C) : c.wipe d = bif c.ment d then .top else c := by
 cases c with
 | box t o => simp [C.wipe, C.ment, Bool.cond_eq_ite]
 | own t => simp [C.wipe, C.ment, Bool.cond_eq_ite]
 | elt t i z o => simp [C.wipe, C.ment, Bool.cond_eq_ite]
 | map t => simp [C.wipe, C.ment, Bool.cond_eq_ite]
 | iter t => simp [C.wipe, C.ment, Bool.cond_eq_ite]
 | fn f caps => cases h : C.ments d caps <;> simp [C.wipe, C.ment, h]
 | _ => simp [C.wipe, C.ment]
theorem C.ment_top (d : Nat) : C.ment d .top = false := by simp [C.ment]
theorem C.wipe_comm (d e : Nat) (c : C) : (c.wipe d).wipe e = (c.wipe e).wipe d := by
 simp only [C.wipe_eq]
 cases h1 : c.ment d <;> cases h2 : c.ment e <;> simp [h1, h2, C.ment_top]
theorem C.wipe_idem (d : Nat) (c : C) : (c.wipe d).wipe d = c.wipe d := by
 simp only [C.wipe_eq]
 cases h1 : c.ment d <;> simp [h1, C.ment_top]
theorem U.wipe_comm (d e : Nat) (u : U) : (u.wipe d).wipe e = (u.wipe e).wipe d := by
 cases u with
 | one c => simp only [U.wipe, C.wipe_comm d e]
 | agg cs => simp only [U.wipe, List.map_map]; congr 1; exact List.map_congr_left fun c _ => C.wipe_comm d e c
theorem U.wipe_idem (d : Nat) (u : U) : (u.wipe d).wipe d = u.wipe d := by
 cases u with
 | one c => simp only [U.wipe, C.wipe_idem]
 | agg cs => simp only [U.wipe, List.map_map]; congr 1; exact List.map_congr_left fun c _ => C.wipe_idem d c
theorem V.wipe_comm (d e : Nat) (v : V) : (v.wipe d).wipe e = (v.wipe e).wipe d := by
 cases v with
 | u u => simp only [V.wipe, U.wipe_comm d e]
 | tup us => simp only [V.wipe, List.map_map]; congr 1; exact List.map_congr_left fun c _ => U.wipe_comm d e c
theorem V.wipe_idem (d : Nat) (v : V) : (v.wipe d).wipe d = v.wipe d := by
 cases v with
 | u u => simp only [V.wipe, U.wipe_idem]
 | tup us => simp only [V.wipe, List.map_map]; congr 1; exact List.map_congr_left fun c _ => U.wipe_idem d c
def V.wipes : List Nat → V → V
 | [], v => v
 | d :: ds, v => V.wipes ds (v.wipe d)
theorem wipes_nil (v : V) : V.wipes [] v = v := rfl
theorem gI (d : Nat) (ds : List Nat) (v : V) : V.wipes (d :: ds) v = V.wipes ds (v.wipe d) := rfl
theorem wipes_wipe : ∀ (ds : List Nat) (d : Nat) (v : V), (V.wipes ds v).wipe d = V.wipes ds (v.wipe d)
 | [], _, _ => rfl
 | e :: ds, d, v => by rw [gI, gI, wipes_wipe ds d, V.wipe_comm]
theorem fT : ∀ {ds : List Nat} {d : Nat} (v : V), d ∈ ds → (V.wipes ds v).wipe d = V.wipes ds v
 | e :: ds, d, v, h => by
  rw [wipes_wipe, gI, gI]
  rcases List.mem_cons.1 h with rfl | h
  ·rw [V.wipe_idem]
  ·rw [V.wipe_comm, ← wipes_wipe, fT _ h]
def wipesE (ds : List Nat) (ρ : Env) : Env := fun t => (ρ t).wipes ds
theorem wipesE_apply (ds : List Nat) (ρ : Env) (t : Nat) : wipesE ds ρ t = (ρ t).wipes ds := rfl
theorem vsim_wipes {φ : Nat → Value} {w : World} {F : Nat → Prop} : ∀ (ds : List Nat) (v : V) (u : Value), vsim φ w F v u → vsim φ w F (V.wipes ds v) u
 | [], _, _, h => h
 | _ :: ds, v, u, h => vsim_wipes ds _ u (vsim_wipe (fun _ _ => rfl) v u h)
theorem Sim.wipes {cx : Cx} {φ : Nat → Value} {ρ : Env} {σ : Sto} {a : Act} {w : World} (h : Sim cx φ ρ σ a w) (ds : List Nat) : Sim cx φ (wipesE ds ρ) σ a w :=
 ⟨h.core, fun t => vsim_wipes ds _ _ (h.slots t), h.defers, h.room⟩
def effOp : Op → Bool
 | .alloc _ => true
 | .box _ _ => true
 | .store _ _ _ => true
 | .makeSlice _ _ _ => true
 | .makeMap _ _ => true
 | .mapUpdate _ _ _ _ => true
 | .call c => match c.callee with
  | .builtin .append => true
  | _ => false
 | _ => false
def wipeD (d : Option Nat) (ρ : Env) : Env := match d with
 | some d => wipeE d ρ
 | none => ρ
structure EffTo (tb : Tb) (o : Oper) (ρ : Env) (σ : Sto) (v : V) (σ' : Sto) : Prop where
 run : ∀ (ρ' : Env) (K' : Env → Sto → Prop), (∀ z ∈ o.op.operands, oev ρ' z = oev ρ z) → K' (putE (wipeD o.dst ρ') o.dst v) σ' → aeff tb ρ' σ o K'
 han : ∀ e, o.dst ≠ some e → v.wipe e = v
section
variable {P : Program} {tb : Tb} {cx : Cx} {ρ ρ' : Env} {σ σ' : Sto} {o : Oper} {K : Env → Sto → Prop}
theorem newBox_to {d : Nat} {cs : Option (List C)} (h : aNewBox ρ σ d cs K) : ∃ σ', (∀ (ρ' : Env) (K' : Env → Sto → Prop), K' (upd (wipeE d ρ') d (.u (.one (.box d 0)))) σ' → aNewBox ρ' σ d cs K') ∧ K (upd (wipeE d ρ) d (.u (.one (.box d 0)))) σ' := by
 unfold aNewBox at h
 split at h
 ·exact ⟨_, fun ρ' K' hk => ⟨h.1, hk⟩, h.2⟩
 ·exact h.elim
theorem append_to {d : Nat} {t : TypeId} {x y : V} (h : aAppend tb ρ σ d t x y K) : ∃ σ', (∀ (ρ' : Env) (K' : Env → Sto → Prop), K' (upd (wipeE d ρ') d (.u (.one (.own d)))) σ' → aAppend tb ρ' σ d t x y K') ∧ K (upd (wipeE d ρ) d (.u (.one (.own d)))) σ' := by
 unfold aAppend at h
 split at h
 ·rename_i ti h1
  split at h
  ·rename_i e h2
   split at h
   ·rename_i te h3
    split at h
    ·rename_i so rows news h4 h5
     refine ⟨_, fun ρ' K' hk => ?_, h.2.2.2⟩
     unfold aAppend
     simp only [h1, h2, h3, h4, h5]
     exact ⟨h.1, h.2.1, h.2.2.1, hk⟩
    ·exact h.elim
   ·exact h.elim
  ·exact h.elim
 ·exact h.elim
theorem makeSlice_to {d : Nat} {t : TypeId} {x c : V} (h : aMakeSlice tb ρ σ d t x c K) : ∃ σ', (∀ (ρ' : Env) (K' : Env → Sto → Prop), K' (upd (wipeE d ρ') d (.u (.one (.own d)))) σ' → aMakeSlice tb ρ' σ d t x c K') ∧ K (upd (wipeE d ρ) d (.u (.one (.own d)))) σ' := by
 unfold aMakeSlice at h
 split at h
 ·rename_i ti h1
  split at h
  ·rename_i e h2
   split at h
   ·rename_i te h3
    split at h
    ·rename_i n m zr h4
     refine ⟨_, fun ρ' K' hk => ?_, h.2⟩
     unfold aMakeSlice
     simp only [h1, h2, h3, h4]
     exact ⟨h.1, hk⟩
    ·exact h.elim
   ·exact h.elim
  ·exact h.elim
 ·exact h.elim
theorem makeMap_to {d : Nat} {t : TypeId} {r : Option V} (h : aMakeMap tb ρ σ d t r K) : ∃ σ', (∀ (ρ' : Env) (K' : Env → Sto → Prop), K' (upd (wipeE d ρ') d (.u (.one (.map d)))) σ' → aMakeMap tb ρ' σ d t r K') ∧ K (upd (wipeE d ρ) d (.u (.one (.map d)))) σ' := by
 unfold aMakeMap at h
 split at h
 ·rename_i ti h1
  split at h
  ·rename_i kt e h2
   split at h
   ·rename_i kk h3
    refine ⟨_, fun ρ' K' hk => ?_, h.2⟩
    unfold aMakeMap
    simp only [h1, h2, h3]
    exact ⟨h.1, hk⟩
   ·exact h.elim
  ·exact h.elim
 ·exact h.elim
theorem mapSet_to {t : TypeId} {m k x : V} (h : aMapSet tb ρ σ t m k x K) : ∃ σ', (∀ (ρ' : Env) (K' : Env → Sto → Prop), K' ρ' σ' → aMapSet tb ρ' σ t m k x K') ∧ K ρ σ' := by
 unfold aMapSet at h
 split at h
 ·rename_i ti s key u h1 h2 h3
  split at h
  ·rename_i kt e kk es h4 h5
   refine ⟨_, fun ρ' K' hk => ?_, h.2.2⟩
   unfold aMapSet
   simp only [h1, h2, h3, h4, h5]
   exact ⟨h.1, h.2.1, hk⟩
  ·exact h.elim
 ·exact h.elim
theorem han_box {d : Nat} : ∀ e, some d ≠ some e → V.wipe e (.u (.one (.box d 0))) = .u (.one (.box d 0)) := fun e he => by
 simp only [V.wipe, U.wipe, C.wipe]; rw [if_neg fun h => he (by rw [h])]
theorem han_own {d : Nat} : ∀ e, some d ≠ some e → V.wipe e (.u (.one (.own d))) = .u (.one (.own d)) := fun e he => by
 simp only [V.wipe, U.wipe, C.wipe]; rw [if_neg fun h => he (by rw [h])]
theorem han_map {d : Nat} : ∀ e, some d ≠ some e → V.wipe e (.u (.one (.map d))) = .u (.one (.map d)) := fun e he => by
 simp only [V.wipe, U.wipe, C.wipe]; rw [if_neg fun h => he (by rw [h])]
theorem eff_to (he : effOp o.op = true) (h : aeff tb ρ σ o K) : ∃ v σ', EffTo tb o ρ σ v σ' ∧ K (putE (wipeD o.dst ρ) o.dst v) σ' := by
 unfold aeff at h
 split at h
 ·rename_i t d hop hdst
  split at h
  ·rename_i ti hty
   obtain ⟨σ', h1, h2⟩ := newBox_to h
   refine ⟨.u (.one (.box d 0)), σ', ⟨fun ρ' K' _ hk => ?_, by rw [hdst]; exact han_box⟩, by rw [hdst]; exact h2⟩
   rw [hdst] at hk
   unfold aeff
   simp only [hop, hdst, hty]
   exact h1 _ _ hk
  ·exact h.elim
 ·rename_i t x d hop hdst
  obtain ⟨σ', h1, h2⟩ := newBox_to h
  refine ⟨.u (.one (.box d 0)), σ', ⟨fun ρ' K' hz hk => ?_, by rw [hdst]; exact han_box⟩, by rw [hdst]; exact h2⟩
  rw [hdst] at hk
  unfold aeff
  simp only [hop, hdst]
  rw [hz x (by simp [hop, Op.operands])]
  exact h1 _ _ hk
 ·rename_i t x y hop hdst
  obtain ⟨σ', h1, h2⟩ := aStore_iff h
  refine ⟨.tup [], σ', ⟨fun ρ' K' hz hk => ?_, fun _ _ => rfl⟩, by rw [hdst]; exact h2⟩
  rw [hdst] at hk
  unfold aeff
  simp only [hop, hdst]
  rw [hz x (by simp [hop, Op.operands]), hz y (by simp [hop, Op.operands])]
  exact h1 _ _ hk
 ·rename_i c hop
  obtain ⟨callee, args, ats⟩ := c
  split at h
  ·rename_i x y t t' d hc ha hts hdst
   obtain ⟨htt, h⟩ := h
   obtain ⟨σ', h1, h2⟩ := append_to h
   refine ⟨.u (.one (.own d)), σ', ⟨fun ρ' K' hz hk => ?_, by rw [hdst]; exact han_own⟩, by rw [hdst]; exact h2⟩
   rw [hdst] at hk
   have hx : x ∈ o.op.operands := by rw [hop]; simp only at ha; simp [Op.operands, Call.operands]; exact .inr (by rw [← Array.mem_toList_iff, ha]; simp)
   have hy : y ∈ o.op.operands := by rw [hop]; simp only at ha; simp [Op.operands, Call.operands]; exact .inr (by rw [← Array.mem_toList_iff, ha]; simp)
   unfold aeff
   simp only at hc ha hts
   simp only [hop, hdst, hc, ha, hts]
   rw [hz x hx, hz y hy]
   exact ⟨htt, h1 _ _ hk⟩
  ·rename_i hc _ _
   rw [hop] at he
   simp only [effOp] at he
   simp only at hc
   rw [hc] at he
   cases he
  ·exact h.elim
 ·rename_i t m k x hop hdst
  obtain ⟨σ', h1, h2⟩ := mapSet_to h
  refine ⟨.tup [], σ', ⟨fun ρ' K' hz hk => ?_, fun _ _ => rfl⟩, by rw [hdst]; exact h2⟩
  rw [hdst] at hk
  unfold aeff
  simp only [hop, hdst]
  rw [hz m (by simp [hop, Op.operands]), hz k (by simp [hop, Op.operands]), hz x (by simp [hop, Op.operands])]
  exact h1 _ _ hk
 ·rename_i t x c d hop hdst
  obtain ⟨σ', h1, h2⟩ := makeSlice_to h
  refine ⟨.u (.one (.own d)), σ', ⟨fun ρ' K' hz hk => ?_, by rw [hdst]; exact han_own⟩, by rw [hdst]; exact h2⟩
  rw [hdst] at hk
  unfold aeff
  simp only [hop, hdst]
  rw [hz x (by simp [hop, Op.operands]), hz c (by simp [hop, Op.operands])]
  exact h1 _ _ hk
 ·rename_i t r d hop hdst
  obtain ⟨σ', h1, h2⟩ := makeMap_to h
  refine ⟨.u (.one (.map d)), σ', ⟨fun ρ' K' hz hk => ?_, by rw [hdst]; exact han_map⟩, by rw [hdst]; exact h2⟩
  rw [hdst] at hk
  have hr : r.map (oev ρ') = r.map (oev ρ) := by
   cases r with
   | none => rfl
   | some r => simp only [Option.map_some]; rw [hz r (by simp [hop, Op.operands])]
  unfold aeff
  simp only [hop, hdst]
  rw [hr]
  exact h1 _ _ hk
 all_goals first | exact h.elim | (exfalso; simp_all [effOp]; done)
theorem astep_of_eff (he : effOp o.op = true) (h : aeff tb ρ σ o K) : astep P cx tb o ρ σ K := by
 have h1 : dj o.op = none := by
  unfold dj
  split
  ·rename_i c hc
   rw [hc] at he
   simp only [effOp] at he
   split
   ·rename_i x hx; rw [hx] at he; cases he
   ·rfl
  ·rfl
 have h2 : qev tb ρ σ o.op = none := by
  cases ho : o.op <;> rw [ho] at he <;> first | rfl | cases he | skip
  rename_i c
  simp only [effOp] at he
  split at he
  ·rename_i hc
   simp only [qev]
   split
   ·rename_i h _ _; rw [hc] at h; cases h
   ·rename_i h _; rw [hc] at h; cases h
   ·rename_i h _; rw [hc] at h; cases h
   ·rfl
  ·cases he
 unfold astep
 rw [h1, h2]
 exact h
end
end Go.AM
