/- A region that draws its order, with effects in the midst: effects in a fixed order among themselves, quiet operations wherever they fall. -/
import Derived.Test.YtldhnnkpmhnpcaaGreatDoorAmX
namespace Go.AM
open Go.RowKit
theorem C.wipe_eq (d : Nat) (c : C) : c.wipe d = bif c.ment d then .top else c := by
 cases c with
 | box t o => simp [C.wipe, C.ment, Bool.cond_eq_ite]
 | own t => simp [C.wipe, C.ment, Bool.cond_eq_ite]
 | elt t i z o => simp [C.wipe, C.ment, Bool.cond_eq_ite]
 | map t => simp [C.wipe, C.ment, Bool.cond_eq_ite]
 | iter t => simp [C.wipe, C.ment, Bool.cond_eq_ite]
 | fn f caps => cases h : C.ments d caps <;> simp [C.wipe, C.ment, h]
 | _ => simp [C.wipe, C.ment]
theorem C.ment_top (d : Nat) : C.ment d .top = false := by simp [C.ment]
theorem C.wipe_comm (d e : Nat) (c : C) : (c.wipe d).wipe e = (c.wipe e).wipe d := by
 simp only [C.wipe_eq]
 cases h1 : c.ment d <;> cases h2 : c.ment e <;> simp [h1, h2, C.ment_top]
theorem C.wipe_idem (d : Nat) (c : C) : (c.wipe d).wipe d = c.wipe d := by
 simp only [C.wipe_eq]
 cases h1 : c.ment d <;> simp [h1, C.ment_top]
theorem U.wipe_comm (d e : Nat) (u : U) : (u.wipe d).wipe e = (u.wipe e).wipe d := by
 cases u with
 | one c => simp only [U.wipe, C.wipe_comm d e]
 | agg cs => simp only [U.wipe, List.map_map]; congr 1; exact List.map_congr_left fun c _ => C.wipe_comm d e c
theorem U.wipe_idem (d : Nat) (u : U) : (u.wipe d).wipe d = u.wipe d := by
 cases u with
 | one c => simp only [U.wipe, C.wipe_idem]
 | agg cs => simp only [U.wipe, List.map_map]; congr 1; exact List.map_congr_left fun c _ => C.wipe_idem d c
theorem V.wipe_comm (d e : Nat) (v : V) : (v.wipe d).wipe e = (v.wipe e).wipe d := by
 cases v with
 | u u => simp only [V.wipe, U.wipe_comm d e]
 | tup us => simp only [V.wipe, List.map_map]; congr 1; exact List.map_congr_left fun c _ => U.wipe_comm d e c
theorem V.wipe_idem (d : Nat) (v : V) : (v.wipe d).wipe d = v.wipe d := by
 cases v with
 | u u => simp only [V.wipe, U.wipe_idem]
 | tup us => simp only [V.wipe, List.map_map]; congr 1; exact List.map_congr_left fun c _ => U.wipe_idem d c
def V.wipes : List Nat → V → V
 | [], v => v
 | d :: ds, v => V.wipes ds (v.wipe d)
theorem wipes_nil (v : V) : V.wipes [] v = v := rfl
theorem dz (d : Nat) (ds : List Nat) (v : V) : V.wipes (d :: ds) v = V.wipes ds (v.wipe d) := rfl
theorem e9 : ∀ (ds : List Nat) (d : Nat) (v : V), (V.wipes ds v).wipe d = V.wipes ds (v.wipe d)
 | [], _, _ => rfl
 | e :: ds, d, v => by rw [dz, dz, e9 ds d, V.wipe_comm]
theorem bN : ∀ {ds : List Nat} {d : Nat} (v : V), d ∈ ds → (V.wipes ds v).wipe d = V.wipes ds v
 | e :: ds, d, v, h => by
  rw [e9, dz, dz]
  rcases List.mem_cons.1 h with rfl | h
  ·rw [V.wipe_idem]
  ·rw [V.wipe_comm, ← e9, bN _ h]
def bB (ds : List Nat) (ρ : Env) : Env := fun t => (ρ t).wipes ds
theorem wipesE_apply (ds : List Nat) (ρ : Env) (t : Nat) : bB ds ρ t = (ρ t).wipes ds := rfl
theorem vsim_wipes {φ : Nat → Value} {w : World} {F : Nat → Prop} : ∀ (ds : List Nat) (v : V) (u : Value), vsim φ w F v u → vsim φ w F (V.wipes ds v) u
 | [], _, _, h => h
 | _ :: ds, v, u, h => vsim_wipes ds _ u (vsim_wipe (fun _ _ => rfl) v u h)
theorem Sim.wipes {cx : Cx} {φ : Nat → Value} {ρ : Env} {σ : Sto} {a : Act} {w : World} (h : Sim cx φ ρ σ a w) (ds : List Nat) : Sim cx φ (bB ds ρ) σ a w :=
 ⟨h.core, fun t => vsim_wipes ds _ _ (h.slots t), h.defers, h.room⟩
def clean (e : Nat) (σ : Sto) : Prop := ∀ t o, σ t = some o → o.wipe e = some o
theorem C.ment_of {e : Nat} {c : C} (h : c.wipe e = c) : c.ment e = false := by
 rw [C.wipe_eq] at h
 cases hm : c.ment e
 ·rfl
 ·rw [hm] at h
  simp only [cond_true] at h
  rw [← h, C.ment_top] at hm
  cases hm
theorem dM {e : Nat} : ∀ {cs : List C}, cs.map (C.wipe e) = cs → ∀ c ∈ cs, c.wipe e = c
 | [], _, _, h => by simp at h
 | c :: cs, h, d, hd => by
  simp only [List.map_cons, List.cons.injEq] at h
  rcases List.mem_cons.1 hd with rfl | hd
  ·exact h.1
  ·exact dM h.2 d hd
theorem ments_of {e : Nat} : ∀ {cs : List C}, C.ments e cs = false → ∀ c ∈ cs, c.ment e = false
 | [], _, _, h => by simp at h
 | c :: cs, h, d, hd => by
  simp only [C.ments, Bool.or_eq_false_iff] at h
  rcases List.mem_cons.1 hd with rfl | hd
  ·exact h.1
  ·exact ments_of h.2 d hd
theorem memOf_frame {e : Nat} {σ : Sto} {x : Option Ob} {c : C} (h : c.ment e = false) : memOf (upd σ e x) c = memOf σ c := by
 cases c with
 | box t o => simp only [C.ment, beq_eq_false_iff_ne, ne_eq] at h; simp only [memOf, upd_other _ _ h]
 | elt t i z o => simp only [C.ment, beq_eq_false_iff_ne, ne_eq] at h; simp only [memOf, upd_other _ _ h]
 | _ => rfl
theorem vment {e : Nat} {c : C} (h : V.wipe e (.u (.one c)) = .u (.one c)) : c.ment e = false := by
 simp only [V.wipe, U.wipe, V.u.injEq, U.one.injEq] at h
 exact C.ment_of h
theorem qload_frame {tb : Tb} {e : Nat} {σ : Sto} {x : Option Ob} {t : TypeId} {v : V} (h : v.wipe e = v) : qload tb (upd σ e x) t v = qload tb σ t v := by
 unfold qload
 split
 ·rename_i ti c h1
  rw [memOf_frame (vment h)]
 ·rfl
theorem qindex_frame {tb : Tb} {e : Nat} {σ : Sto} {x : Option Ob} {t : TypeId} {v i : V} (h : v.wipe e = v) : qindex tb (upd σ e x) t v i = qindex tb σ t v i := by
 unfold qindex
 split
 ·rename_i ti c k n h1
  have hm := vment h
  split
  ·split
   ·rfl
   ·simp only [C.ment, beq_eq_false_iff_ne, ne_eq] at hm
    rw [upd_other _ _ hm]
   ·rfl
  ·rfl
  ·rfl
 ·rfl
theorem qlen_frame {e : Nat} {σ : Sto} {x : Option Ob} {v : V} (h : v.wipe e = v) : qlen (upd σ e x) v = qlen σ v := by
 cases v with
 | u y =>
  cases y with
  | one c =>
   have hm := vment h
   cases c with
   | own s =>
    simp only [C.ment, beq_eq_false_iff_ne, ne_eq] at hm
    simp only [qlen, upd_other _ _ hm]
   | map s =>
    simp only [C.ment, beq_eq_false_iff_ne, ne_eq] at hm
    simp only [qlen, upd_other _ _ hm]
   | d l => cases l <;> rfl
   | _ => rfl
  | agg cs => rfl
 | tup us => rfl
theorem qlookup_frame {tb : Tb} {e : Nat} {σ : Sto} {x : Option Ob} {t : TypeId} {m k : V} {ok : Bool} (h : m.wipe e = m) : qlookup tb (upd σ e x) t m k ok = qlookup tb σ t m k ok := by
 unfold qlookup
 split
 ·rename_i ti s key h1 h2
  have hm := vment h
  simp only [C.ment, beq_eq_false_iff_ne, ne_eq] at hm
  simp only [upd_other _ _ hm]
 ·rfl
theorem rowsV_frame {e : Nat} {σ : Sto} {x : Option Ob} {v : V} (h : v.wipe e = v) : rowsV (upd σ e x) v = rowsV σ v := by
 cases v with
 | u y =>
  cases y with
  | one c =>
   have hm := vment h
   cases c with
   | own s =>
    simp only [C.ment, beq_eq_false_iff_ne, ne_eq] at hm
    simp only [rowsV, upd_other _ _ hm]
   | d l => cases l <;> rfl
   | _ => rfl
  | agg cs => rfl
 | tup us => rfl
theorem qcnv_frame {tb : Tb} {e : Nat} {σ : Sto} {x : Option Ob} {src dst : TypeId} {v : V} (h : v.wipe e = v) : qcnv tb (upd σ e x) src dst v = qcnv tb σ src dst v := by
 unfold qcnv
 split
 ·rfl
 ·unfold qstr
  simp only [rowsV_frame h]
theorem qev_frame {tb : Tb} {e : Nat} {σ : Sto} {x : Option Ob} {ρ : Env} {op : Op} (h : ∀ z ∈ op.operands, (oev ρ z).wipe e = oev ρ z) : qev tb ρ (upd σ e x) op = qev tb ρ σ op := by
 cases op <;> simp only [qev]
 case load t z => exact qload_frame (h z (by simp [Op.operands]))
 case indexAddr t z i => exact qindex_frame (h z (by simp [Op.operands]))
 case lookup t m k ok => exact qlookup_frame (h m (by simp [Op.operands]))
 case makeFunc fn first caps => cases fn <;> rfl
 case convert src dst z => exact qcnv_frame (h z (by simp [Op.operands]))
 case call c =>
  split
  ·rename_i z t hc ha hts
   unfold qlenB
   split
   ·rw [qlen_frame (h z (by simp [Op.operands, Call.operands]; exact .inr (by rw [← Array.mem_toList_iff, ha]; simp)))]
   ·rfl
  all_goals rfl
theorem brw_frame {e : Nat} {σ : Sto} {x : Option Ob} (hσ : clean e σ) : ∀ (n : Nat) (c : C), c.ment e = false → C.brw (upd σ e x) n c = C.brw σ n c
 | 0, _, _ => rfl
 | n + 1, c, h => by
  cases c with
  | own s =>
   simp only [C.ment, beq_eq_false_iff_ne, ne_eq] at h
   simp only [C.brw, upd_other _ _ h]
  | box s o =>
   simp only [C.ment, beq_eq_false_iff_ne, ne_eq] at h
   simp only [C.brw, upd_other _ _ h]
   cases hs : σ s with
   | none => rfl
   | some ob =>
    cases ob with
    | box cs =>
     have hc := hσ s _ hs
     simp only [Ob.wipe, Option.some.injEq, Ob.box.injEq] at hc
     have : cs.map (C.brw (upd σ e x) n) = cs.map (C.brw σ n) := List.map_congr_left fun c hcm => brw_frame hσ n c (C.ment_of (dM hc c hcm))
     simp only [this]
    | _ => rfl
  | fn f caps =>
   simp only [C.ment] at h
   simp only [C.brw]
   rw [List.map_congr_left fun c hcm => brw_frame hσ n c (ments_of h c hcm)]
  | _ => rfl
theorem ubrw_frame {e : Nat} {σ : Sto} {x : Option Ob} (hσ : clean e σ) (u : U) (h : u.wipe e = u) : U.brw (upd σ e x) u = U.brw σ u := by
 cases u with
 | one c => simp only [U.wipe, U.one.injEq] at h; simp only [U.brw, brw_frame hσ 4 c (C.ment_of h)]
 | agg cs =>
  simp only [U.wipe, U.agg.injEq] at h
  simp only [U.brw]
  rw [List.map_congr_left fun c hc => brw_frame hσ 4 c (C.ment_of (dM h c hc))]
theorem vbrw_frame {e : Nat} {σ : Sto} {x : Option Ob} (hσ : clean e σ) (v : V) (h : v.wipe e = v) : V.brw (upd σ e x) v = V.brw σ v := by
 cases v with
 | u u => simp only [V.wipe, V.u.injEq] at h; simp only [V.brw, ubrw_frame hσ u h]
 | tup us =>
  simp only [V.wipe, V.tup.injEq] at h
  simp only [V.brw]
  congr 1
  refine List.map_congr_left fun u hu => ubrw_frame hσ u ?_
  have : ∀ {us : List U}, us.map (U.wipe e) = us → ∀ u ∈ us, u.wipe e = u := by
   intro us
   induction us with
   | nil => intro _ u hu; simp at hu
   | cons y us ih =>
    intro h u hu
    simp only [List.map_cons, List.cons.injEq] at h
    rcases List.mem_cons.1 hu with rfl | hu
    ·exact h.1
    ·exact ih h.2 u hu
  exact this h u hu
theorem callArgs_wipe {e : Nat} {ρ : Env} {c : Call} {f : FuncId} {args : List V} (h : ∀ z ∈ c.operands, (oev ρ z).wipe e = oev ρ z) (ha : aS ρ c = some (f, args)) : ∀ v ∈ args, v.wipe e = v := by
 unfold aS at ha
 split at ha
 ·rename_i y hy
  split at ha
  ·rename_i f' caps hv
   simp only [Option.some.injEq, Prod.mk.injEq] at ha
   obtain ⟨rfl, rfl⟩ := ha
   intro v hvm
   rcases List.mem_append.1 hvm with hvm | hvm
   ·obtain ⟨z, hz, rfl⟩ := List.mem_map.1 hvm
    exact h z (by simp only [Call.operands]; exact Array.mem_append.2 (.inr (by simpa using hz)))
   ·obtain ⟨c', hc', rfl⟩ := List.mem_map.1 hvm
    have := h y (by simp [Call.operands, hy])
    rw [hv] at this
    have := vment this
    simp only [C.ment] at this
    simp only [V.wipe, U.wipe, C.wipe_eq, ments_of this c' hc', cond_false]
  ·cases ha
 ·cases ha
theorem qval_frame {P : Program} {tb : Tb} {e : Nat} {σ : Sto} {x : Option Ob} {ρ : Env} {o : Oper} {v : V} (hσ : clean e σ) (h : ∀ z ∈ o.op.operands, (oev ρ z).wipe e = oev ρ z) (hv : ej P tb σ o ρ v) : ej P tb (upd σ e x) o ρ v := by
 unfold ej at hv ⊢
 split
 ·rename_i c hc
  rw [hc] at hv
  simp only at hv
  obtain ⟨f, args, ha, hq⟩ := hv
  refine ⟨f, args, ha, ?_⟩
  unfold QCall at hq ⊢
  have hw := callArgs_wipe (e := e) (fun z hz => h z (by rw [(bP hc).1]; exact hz)) ha
  rwa [List.map_congr_left fun v hv => vbrw_frame (x := x) hσ v (hw v hv)]
 ·rename_i hc
  rw [hc] at hv
  simp only at hv
  rw [qev_frame h]
  exact hv
def effOp : Op → Bool
 | .alloc _ => true
 | .box _ _ => true
 | .store _ _ _ => true
 | .makeSlice _ _ _ => true
 | .makeMap _ _ => true
 | .mapUpdate _ _ _ _ => true
 | .call c => match c.callee with
  | .builtin .append => true
  | _ => false
 | _ => false
def wipeD (d : Option Nat) (ρ : Env) : Env := match d with
 | some d => wipeE d ρ
 | none => ρ
structure EffTo (tb : Tb) (o : Oper) (ρ : Env) (σ : Sto) (v : V) (σ' : Sto) : Prop where
 run : ∀ (ρ' : Env) (K' : Env → Sto → Prop), (∀ z ∈ o.op.operands, oev ρ' z = oev ρ z) → K' (putE (wipeD o.dst ρ') o.dst v) σ' → aeff tb ρ' σ o K'
 han : ∀ e, o.dst ≠ some e → v.wipe e = v
abbrev Flt := Option (Nat × Ob)
def CallTo (P : Program) (cx : Cx) (fl : Flt) (f : FuncId) (args : List V) (d : Option Nat) (ns : List Nat) (σ : Sto) (v : V) (σ' : Sto) : Prop :=
 (∀ (ρ' : Env) (K' : Env → Sto → Prop), K' (putE (bB ns ρ') d v) σ' → CallK P cx f args ρ' σ d K') ∧
 ∀ e cs, fl = some (e, .box cs) → (∀ (ρ' : Env) (K' : Env → Sto → Prop), K' (putE (bB ns ρ') d v) (upd σ' e (some (.box cs))) → CallK P cx f args ρ' (upd σ e (some (.box cs))) d K') ∧ (clean e σ → clean e σ')
def CallE (P : Program) (cx : Cx) (tb : Tb) (fl : Flt) (f : FuncId) (args : List V) (d : Option Nat) (ns later : List Nat) (σ : Sto) (k : V → Sto → Prop) : Prop :=
 tb.call f args = none ∧ (∀ ρ' σ', tb.eff f args d ρ' σ' = none) ∧ ∃ v σ', CallTo P cx fl f args d ns σ v σ' ∧ (∀ e ∈ later, v.wipe e = v) ∧ k v σ'
section
variable {P : Program} {tb : Tb} {cx : Cx} {ρ ρ' : Env} {σ σ' : Sto} {o : Oper} {K : Env → Sto → Prop}
theorem newBox_to {d : Nat} {cs : Option (List C)} (h : aNewBox ρ σ d cs K) : ∃ σ', (∀ (ρ' : Env) (K' : Env → Sto → Prop), K' (upd (wipeE d ρ') d (.u (.one (.box d 0)))) σ' → aNewBox ρ' σ d cs K') ∧ K (upd (wipeE d ρ) d (.u (.one (.box d 0)))) σ' := by
 unfold aNewBox at h
 split at h
 ·exact ⟨_, fun ρ' K' hk => ⟨h.1, hk⟩, h.2⟩
 ·exact h.elim
theorem alloc_to {d : Nat} {ti : TI} (h : aAllocBox ti ρ σ d K) : ∃ σ', (∀ (ρ' : Env) (K' : Env → Sto → Prop), K' (upd (wipeE d ρ') d (.u (.one (.box d 0)))) σ' → aAllocBox ti ρ' σ d K') ∧ K (upd (wipeE d ρ) d (.u (.one (.box d 0)))) σ' :=
 ⟨_, fun _ _ hk => ⟨h.1, hk⟩, h.2⟩
theorem append_to {d : Nat} {t : TypeId} {x y : V} (h : aAppend tb ρ σ d t x y K) : ∃ σ', (∀ (ρ' : Env) (K' : Env → Sto → Prop), K' (upd (wipeE d ρ') d (.u (.one (.own d)))) σ' → aAppend tb ρ' σ d t x y K') ∧ K (upd (wipeE d ρ) d (.u (.one (.own d)))) σ' := by
 unfold aAppend at h
 split at h
 ·rename_i ti h1
  split at h
  ·rename_i e h2
   split at h
   ·rename_i te h3
    split at h
    ·rename_i so rows news h4 h5
     refine ⟨_, fun ρ' K' hk => ?_, h.2.2.2⟩
     unfold aAppend
     simp only [h1, h2, h3, h4, h5]
     exact ⟨h.1, h.2.1, h.2.2.1, hk⟩
    ·exact h.elim
   ·exact h.elim
  ·exact h.elim
 ·exact h.elim
theorem appendS_to {d : Nat} {t t' : TypeId} {x y : V} (h : aAppendS tb ρ σ d t t' x y K) : ∃ σ', (∀ (ρ' : Env) (K' : Env → Sto → Prop), K' (upd (wipeE d ρ') d (.u (.one (.own d)))) σ' → aAppendS tb ρ' σ d t t' x y K') ∧ K (upd (wipeE d ρ) d (.u (.one (.own d)))) σ' := by
 unfold aAppendS at h
 split at h
 ·rename_i ti ts h1 h1'
  split at h
  ·rename_i e h2 h2'
   split at h
   ·rename_i te h3
    split at h
    ·rename_i so rows l h4 h5
     refine ⟨_, fun ρ' K' hk => ?_, h.2.2⟩
     unfold aAppendS
     simp only [h1, h1', h2, h2', h3, h4, h5]
     exact ⟨h.1, h.2.1, hk⟩
    ·exact h.elim
   ·exact h.elim
  ·exact h.elim
 ·exact h.elim
theorem makeSlice_to {d : Nat} {t : TypeId} {x c : V} (h : aMakeSlice tb ρ σ d t x c K) : ∃ σ', (∀ (ρ' : Env) (K' : Env → Sto → Prop), K' (upd (wipeE d ρ') d (.u (.one (.own d)))) σ' → aMakeSlice tb ρ' σ d t x c K') ∧ K (upd (wipeE d ρ) d (.u (.one (.own d)))) σ' := by
 unfold aMakeSlice at h
 split at h
 ·rename_i ti h1
  split at h
  ·rename_i e h2
   split at h
   ·rename_i te h3
    split at h
    ·rename_i n m zr h4
     refine ⟨_, fun ρ' K' hk => ?_, h.2⟩
     unfold aMakeSlice
     simp only [h1, h2, h3, h4]
     exact ⟨h.1, hk⟩
    ·exact h.elim
   ·exact h.elim
  ·exact h.elim
 ·exact h.elim
theorem makeMap_to {d : Nat} {t : TypeId} {r : Option V} (h : aMakeMap tb ρ σ d t r K) : ∃ σ', (∀ (ρ' : Env) (K' : Env → Sto → Prop), K' (upd (wipeE d ρ') d (.u (.one (.map d)))) σ' → aMakeMap tb ρ' σ d t r K') ∧ K (upd (wipeE d ρ) d (.u (.one (.map d)))) σ' := by
 unfold aMakeMap at h
 split at h
 ·rename_i ti h1
  split at h
  ·rename_i kt e h2
   split at h
   ·rename_i kk h3
    refine ⟨_, fun ρ' K' hk => ?_, h.2⟩
    unfold aMakeMap
    simp only [h1, h2, h3]
    exact ⟨h.1, hk⟩
   ·exact h.elim
  ·exact h.elim
 ·exact h.elim
theorem mapSet_to {t : TypeId} {m k x : V} (h : aMapSet tb ρ σ t m k x K) : ∃ σ', (∀ (ρ' : Env) (K' : Env → Sto → Prop), K' ρ' σ' → aMapSet tb ρ' σ t m k x K') ∧ K ρ σ' := by
 unfold aMapSet at h
 split at h
 ·rename_i ti s key u h1 h2 h3
  split at h
  ·rename_i kt e kk es h4 h5
   refine ⟨_, fun ρ' K' hk => ?_, h.2.2⟩
   unfold aMapSet
   simp only [h1, h2, h3, h4, h5]
   exact ⟨h.1, h.2.1, hk⟩
  ·exact h.elim
 ·exact h.elim
theorem han_box {d : Nat} : ∀ e, some d ≠ some e → V.wipe e (.u (.one (.box d 0))) = .u (.one (.box d 0)) := fun e he => by
 simp only [V.wipe, U.wipe, C.wipe]; rw [if_neg fun h => he (by rw [h])]
theorem han_own {d : Nat} : ∀ e, some d ≠ some e → V.wipe e (.u (.one (.own d))) = .u (.one (.own d)) := fun e he => by
 simp only [V.wipe, U.wipe, C.wipe]; rw [if_neg fun h => he (by rw [h])]
theorem han_map {d : Nat} : ∀ e, some d ≠ some e → V.wipe e (.u (.one (.map d))) = .u (.one (.map d)) := fun e he => by
 simp only [V.wipe, U.wipe, C.wipe]; rw [if_neg fun h => he (by rw [h])]
theorem eff_to (he : effOp o.op = true) (h : aeff tb ρ σ o K) : ∃ v σ', EffTo tb o ρ σ v σ' ∧ K (putE (wipeD o.dst ρ) o.dst v) σ' := by
 unfold aeff at h
 split at h
 ·rename_i t d hop hdst
  split at h
  ·rename_i ti hty
   obtain ⟨σ', h1, h2⟩ := alloc_to h
   refine ⟨.u (.one (.box d 0)), σ', ⟨fun ρ' K' _ hk => ?_, by rw [hdst]; exact han_box⟩, by rw [hdst]; exact h2⟩
   rw [hdst] at hk
   unfold aeff
   simp only [hop, hdst, hty]
   exact h1 _ _ hk
  ·exact h.elim
 ·rename_i t x d hop hdst
  obtain ⟨σ', h1, h2⟩ := newBox_to h
  refine ⟨.u (.one (.box d 0)), σ', ⟨fun ρ' K' hz hk => ?_, by rw [hdst]; exact han_box⟩, by rw [hdst]; exact h2⟩
  rw [hdst] at hk
  unfold aeff
  simp only [hop, hdst]
  rw [hz x (by simp [hop, Op.operands])]
  exact h1 _ _ hk
 ·rename_i t x y hop hdst
  obtain ⟨σ', h1, h2⟩ := aStore_iff h
  refine ⟨.tup [], σ', ⟨fun ρ' K' hz hk => ?_, fun _ _ => rfl⟩, by rw [hdst]; exact h2⟩
  rw [hdst] at hk
  unfold aeff
  simp only [hop, hdst]
  rw [hz x (by simp [hop, Op.operands]), hz y (by simp [hop, Op.operands])]
  exact h1 _ _ hk
 ·rename_i c hop
  obtain ⟨callee, args, ats⟩ := c
  split at h
  ·rename_i x y t t' d hc ha hts hdst
   have hx : x ∈ o.op.operands := by rw [hop]; simp only at ha; simp [Op.operands, Call.operands]; exact .inr (by rw [← Array.mem_toList_iff, ha]; simp)
   have hy : y ∈ o.op.operands := by rw [hop]; simp only at ha; simp [Op.operands, Call.operands]; exact .inr (by rw [← Array.mem_toList_iff, ha]; simp)
   by_cases htt : t = t'
   case neg =>
    rw [if_neg htt] at h
    obtain ⟨σ', h1, h2⟩ := appendS_to h
    refine ⟨.u (.one (.own d)), σ', ⟨fun ρ' K' hz hk => ?_, by rw [hdst]; exact han_own⟩, by rw [hdst]; exact h2⟩
    rw [hdst] at hk
    unfold aeff
    simp only at hc ha hts
    simp only [hop, hdst, hc, ha, hts]
    rw [if_neg htt, hz x hx, hz y hy]
    exact h1 _ _ hk
   rw [if_pos htt] at h
   obtain ⟨σ', h1, h2⟩ := append_to h
   refine ⟨.u (.one (.own d)), σ', ⟨fun ρ' K' hz hk => ?_, by rw [hdst]; exact han_own⟩, by rw [hdst]; exact h2⟩
   rw [hdst] at hk
   unfold aeff
   simp only at hc ha hts
   simp only [hop, hdst, hc, ha, hts]
   rw [if_pos htt, hz x hx, hz y hy]
   exact h1 _ _ hk
  ·rename_i hc _ _
   rw [hop] at he
   simp only [effOp] at he
   simp only at hc
   rw [hc] at he
   cases he
  ·exact h.elim
 ·rename_i t m k x hop hdst
  obtain ⟨σ', h1, h2⟩ := mapSet_to h
  refine ⟨.tup [], σ', ⟨fun ρ' K' hz hk => ?_, fun _ _ => rfl⟩, by rw [hdst]; exact h2⟩
  rw [hdst] at hk
  unfold aeff
  simp only [hop, hdst]
  rw [hz m (by simp [hop, Op.operands]), hz k (by simp [hop, Op.operands]), hz x (by simp [hop, Op.operands])]
  exact h1 _ _ hk
 ·rename_i t x c d hop hdst
  obtain ⟨σ', h1, h2⟩ := makeSlice_to h
  refine ⟨.u (.one (.own d)), σ', ⟨fun ρ' K' hz hk => ?_, by rw [hdst]; exact han_own⟩, by rw [hdst]; exact h2⟩
  rw [hdst] at hk
  unfold aeff
  simp only [hop, hdst]
  rw [hz x (by simp [hop, Op.operands]), hz c (by simp [hop, Op.operands])]
  exact h1 _ _ hk
 ·rename_i t r d hop hdst
  obtain ⟨σ', h1, h2⟩ := makeMap_to h
  refine ⟨.u (.one (.map d)), σ', ⟨fun ρ' K' hz hk => ?_, by rw [hdst]; exact han_map⟩, by rw [hdst]; exact h2⟩
  rw [hdst] at hk
  have hr : r.map (oev ρ') = r.map (oev ρ) := by
   cases r with
   | none => rfl
   | some r => simp only [Option.map_some]; rw [hz r (by simp [hop, Op.operands])]
  unfold aeff
  simp only [hop, hdst]
  rw [hr]
  exact h1 _ _ hk
 all_goals first | exact h.elim | (exfalso; simp_all [effOp]; done)
theorem ed (he : effOp o.op = true) (h : aeff tb ρ σ o K) : cP P cx tb o ρ σ K := by
 have h1 : aU o.op = none := by
  unfold aU
  split
  ·rename_i c hc
   rw [hc] at he
   simp only [effOp] at he
   split
   ·rename_i x hx; rw [hx] at he; cases he
   ·rfl
  ·rfl
 have h2 : qev tb ρ σ o.op = none := by
  cases ho : o.op <;> rw [ho] at he <;> first | rfl | cases he | skip
  rename_i c
  simp only [effOp] at he
  split at he
  ·rename_i hc
   simp only [qev]
   split
   ·rename_i h _ _; rw [hc] at h; cases h
   ·rename_i h _; rw [hc] at h; cases h
   ·rename_i h _; rw [hc] at h; cases h
   ·rfl
  ·cases he
 unfold cP
 rw [h1, h2]
 exact h
end
end Go.AM
