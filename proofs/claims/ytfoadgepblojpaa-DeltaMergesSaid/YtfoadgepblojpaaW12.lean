/-
  The table with the effects of the sort, of Clone and of the maps; the walk of delta.Of.
-/
import Derived.Test.YtfoadgepblojpaaW11
import Derived.Test.YtfoadgepblojpaaAmQ
import Derived.Test.YtfoadgepblojpaaP1
namespace Go.Proofs.Ytfoadgepblojpaa
open Go.AM Go.Proofs Go.Sort

def c28 (us : List V) : Option V := match us with
  | [.u (.one (.d .nil)), .u (.one (.fn 29 []))] => some (.tup [])
  | _ => none
def c52 (us : List V) : Option V := match us with
  | [.u (.one (.d .nil)), .u (.one (.fn 48 []))] => some (.tup [])
  | _ => none
def ct9 (f : FuncId) (us : List V) : Option V := match f with
  | 28 => c28 us
  | 52 => c52 us
  | _ => ct8 f us
theorem ct9_ok : ∀ f us v, ct9 f us = some v → PureCall Try.prog f us v := by
  intro f us v h
  unfold ct9 at h
  split at h
  · unfold c28 at h
    split at h
    · cases h; exact sortCh_nil.pure
    · cases h
  · unfold c52 at h
    split at h
    · cases h; exact sortCl_nil.pure
    · cases h
  · exact ct8_ok f us v h
def allPlaced (cs : List Cl) : Bool := cs.all Cl.placed
def Ch.placed (c : Ch) : Bool := decide (-1048576 ≤ c.x ∧ c.x ≤ 1048576 ∧ -1048576 ≤ c.y ∧ c.y ≤ 1048576)
def allPlacedCh (cs : List Ch) : Bool := cs.all Ch.placed
def newT (d : Nat) (ρ : Env) (σ : Sto) (o : Ob) : (Env → Sto → Prop) → Prop := fun K => K (upd (wipeE d ρ) d (.u (.one (obC d o)))) (upd (wipeS d σ) d (some o))
def e27 (us : List V) (d : Option Nat) (ρ : Env) (σ : Sto) : Option ((Env → Sto → Prop) → Prop) := match us, d with
  | [v], some d => match clV v with
    | some cs => if cs.length ≤ 100000 ∧ allPlaced cs = true then some (newT d ρ σ (.map (.ints 2) (cellsM cs))) else none
    | none => none
  | _, _ => none
def e42 (us : List V) (d : Option Nat) (ρ : Env) (σ : Sto) : Option ((Env → Sto → Prop) → Prop) := match us, d with
  | [v], some d => match chV v with
    | some cs => if cs.length ≤ 100000 ∧ allPlacedCh cs = true then some (newT d ρ σ (.map (.ints 2) (changesM cs))) else none
    | none => none
  | _, _ => none
def e36 (us : List V) (d : Option Nat) (ρ : Env) (σ : Sto) : Option ((Env → Sto → Prop) → Prop) := match us, d with
  | [v], some d => match chV v with
    | some cs => if cs.length ≤ 100000 then some (newT d ρ σ (.row 4 49 (cs.map Ch.row))) else none
    | none => none
  | _, _ => none
def e28 (us : List V) (d : Option Nat) (ρ : Env) (σ : Sto) : Option ((Env → Sto → Prop) → Prop) := match us with
  | [.u (.one (.own s)), .u (.one (.fn 29 []))] => match σ s with
    | some (.row 4 49 rows) => match decs dCh rows with
      | some xs => if xs.length ≤ 100000 then some fun K => ∀ ys : List Ch, ys.Perm xs → ys.Pairwise (fun x y => ¬ cfCh y x < 0) → K (putE ρ d (.tup [])) (upd σ s (some (.row 4 49 (ys.map Ch.row)))) else none
      | none => none
    | _ => none
  | _ => none
def e52 (us : List V) (d : Option Nat) (ρ : Env) (σ : Sto) : Option ((Env → Sto → Prop) → Prop) := match us with
  | [.u (.one (.own s)), .u (.one (.fn 48 []))] => match σ s with
    | some (.row 3 47 rows) => match decs dCl rows with
      | some xs => if xs.length ≤ 100000 then some fun K => ∀ ys : List Cl, ys.Perm xs → ys.Pairwise (fun x y => ¬ cfCl y x < 0) → K (putE ρ d (.tup [])) (upd σ s (some (.row 3 47 (ys.map Cl.row)))) else none
      | none => none
    | _ => none
  | _ => none
def eff9 (f : FuncId) (us : List V) (d : Option Nat) (ρ : Env) (σ : Sto) : Option ((Env → Sto → Prop) → Prop) := match f with
  | 27 => e27 us d ρ σ
  | 42 => e42 us d ρ σ
  | 36 => e36 us d ρ σ
  | 28 => e28 us d ρ σ
  | 52 => e52 us d ρ σ
  | _ => effF ct9 f us d ρ σ

theorem newArg {P : Program} {f : FuncId} {v v' : V} {R : Ob → Prop} (h : NewFn P f [v'] R) (hw : v.wk v') : NewFn P f [v] R := by
  refine ⟨h.1, fun φ w F hF vals hl hv => h.2 φ w F hF vals hl fun i x u hx hu => ?_⟩
  match i, hx with
  | 0, hx => cases hx; exact vsim_wk hw (hv 0 v u rfl hu)
  | i + 1, hx => simp at hx
theorem newT_ok {P : Program} {cx : Cx} {f : FuncId} {us : List V} {o : Ob} {d : Nat} {ρ : Env} {σ : Sto} {K : Env → Sto → Prop} (h : NewFn P f us (· = o)) (hd : ∀ x, some d = some x → x < cx.n ∧ x < inBase) (hK : newT d ρ σ o K) : CallK P cx f us ρ σ (some d) K :=
  callK_new h (hd d rfl).1 (hd d rfl).2 fun o' ho => by subst ho; exact hK
theorem renOwn (s : Nat) (g : FuncId) : [V.one (.own s), V.one (.fn g [])] = [V.one (.own inBase), V.one (.fn g [])].map (V.ren (nameF [s])) := by
  simp [V.ren, U.ren, C.ren, C.rens, nameF]
theorem eff9_ok (cx : Cx) (f : FuncId) (us : List V) (d : Option Nat) (ρ : Env) (σ : Sto) (T : (Env → Sto → Prop) → Prop) (K : Env → Sto → Prop) (hd : ∀ x, d = some x → x < cx.n ∧ x < inBase) (h : eff9 f us d ρ σ = some T) (hT : T K) : CallK Try.prog cx f us ρ σ d K := by
  unfold eff9 at h
  split at h
  · unfold e27 at h
    split at h
    · split at h
      · rename_i cs hc
        split at h
        · rename_i hl
          cases h
          exact newT_ok (newArg (cells_new cs hl.1 fun c hc => List.all_eq_true.1 hl.2 c hc) (clV_wk hc)) hd hT
        · cases h
      · cases h
    · cases h
  · unfold e42 at h
    split at h
    · split at h
      · rename_i cs hc
        split at h
        · rename_i hl
          cases h
          exact newT_ok (newArg (changes_new cs hl.1 fun c hc => by have := List.all_eq_true.1 hl.2 c hc; simpa [Ch.placed] using this) (chV_wk hc)) hd hT
        · cases h
      · cases h
    · cases h
  · unfold e36 at h
    split at h
    · split at h
      · rename_i cs hc
        split at h
        · rename_i hl
          cases h
          exact newT_ok (newArg (clone_new cs hl) (chV_wk hc)) hd hT
        · cases h
      · cases h
    · cases h
  · unfold e28 at h
    split at h
    · rename_i s
      split at h
      · rename_i rows hs
        split at h
        · rename_i xs hx
          split at h
          · rename_i hl
            cases h
            rw [decs_eq dCh_eq hx] at hs
            exact callK_mut (sortCh_mut xs hl) hs rfl ⟨_, _, _, rfl⟩ (fun v o' h => ⟨_, _, _, h.2.choose_spec.1⟩) (renOwn _ _) (fun x hx => (hd x hx).1) fun v o' h => by
              obtain ⟨rfl, ys, rfl, hp, hs⟩ := h
              exact hT ys hp hs
          · cases h
        · cases h
      · cases h
    · cases h
  · unfold e52 at h
    split at h
    · rename_i s
      split at h
      · rename_i rows hs
        split at h
        · rename_i xs hx
          split at h
          · rename_i hl
            cases h
            rw [decs_eq dCl_eq hx] at hs
            exact callK_mut (sortCl_mut xs hl) hs rfl ⟨_, _, _, rfl⟩ (fun v o' h => ⟨_, _, _, h.2.choose_spec.1⟩) (renOwn _ _) (fun x hx => (hd x hx).1) fun v o' h => by
              obtain ⟨rfl, ys, rfl, hp, hs⟩ := h
              exact hT ys hp hs
          · cases h
        · cases h
      · cases h
    · cases h
  · exact effF_ok ct9_ok cx f us d ρ σ T K hd h hT
def tb9 : Tb := { tb with call := ct9, eff := eff9 }
theorem tb9_ok : TbOk Try.prog tb9 := { tb_ok with call := ct9_ok, eff := fun cx f us d ρ σ T K hd h hT => eff9_ok cx f us d ρ σ T K hd h hT }
theorem tb9_ty : tb9.ty = ty := rfl
theorem tb9_eqn : tb9.eqn = eqn := rfl
theorem tb9_key : tb9.key = key := rfl
theorem tb9_mid : tb9.mid = fun _ => none := rfl
theorem tb9_call : tb9.call = ct9 := rfl
theorem tb9_eff : tb9.eff = eff9 := rfl
theorem newT_eq (d : Nat) (ρ : Env) (σ : Sto) (o : Ob) (K : Env → Sto → Prop) : newT d ρ σ o K = K (upd (wipeE d ρ) d (.u (.one (obC d o)))) (upd (wipeS d σ) d (some o)) := by unfold newT; exact rfl
theorem obC_map (d : Nat) (kk : KK) (es : List (Key × U)) : obC d (.map kk es) = .map d := rfl
theorem obC_row (d sz e : Nat) (rows : List (List L)) : obC d (.row sz e rows) = .own d := rfl
theorem decs_cl (cs : List Cl) : decs dCl (cs.map Cl.row) = some cs := decs_map dCl_row cs
theorem decs_ch (cs : List Ch) : decs dCh (cs.map Ch.row) = some cs := decs_map dCh_row cs
attribute [simp] tb9_mid tb9_ty tb9_eqn tb9_key tb9_call tb9_eff ct9 eff9 e27 e42 e36 e28 e52 c28 c52 newT_eq obC_map obC_row decs_cl decs_ch
end Go.Proofs.Ytfoadgepblojpaa
