/-
  The table with the effect of collected; the walk of delta.Then.
-/
import Derived.Test.YtfoadgepblojpaaW17
namespace Go.Proofs.Ytfoadgepblojpaa
open Go.AM Go.Proofs Go.Sort

theorem consW {P : Program} {f : FuncId} {us : List V} {ins : List Ob} {R R' : V → Prop} (h : ConsFn P f us ins R) (hR : ∀ v, R v → ∃ v' : V, v.wk v' ∧ v'.free = true ∧ R' v') : ConsFn P f us ins R' :=
  ⟨h.1, fun φ w F hF hi vals hl hv => (h.2 φ w F hF hi vals hl hv).mono fun e w' ⟨u, v, he, hc, hr, hf, hs⟩ => by
    obtain ⟨v', h1, h2, h3⟩ := hR v hr
    exact ⟨u, v', he, hc, h3, h2, vsim_wk h1 hs⟩⟩
def CollE (xs : List Ch) (v : V) : Prop := ∃ ys : List Ch, ys.Perm xs ∧ (ys.Pairwise fun x y => ¬ cfCh y x < 0) ∧ v = chPair (ys, 0)
theorem Coll.exact {xs : List Ch} {v : V} (h : Coll xs v) : ∃ v' : V, v.wk v' ∧ v'.free = true ∧ CollE xs v' := by
  obtain ⟨ys, h1, h2, h3⟩ := h
  exact ⟨_, h3, rfl, ys, h1, h2, rfl⟩
def dE : Key × U → Option Ch
  | (.ints [x, y], .agg [.d (.int .i64 x'), .d (.int .i64 y'), .d (.int .i64 f), .d (.int .i64 t)]) => if x = x' ∧ y = y' then some ⟨x', y', f, t⟩ else none
  | _ => none
theorem dE_eq {e : Key × U} {c : Ch} (h : dE e = some c) : e = (kd c, vd c) := by
  unfold dE at h
  split at h
  · split at h
    · rename_i h'; cases h; obtain ⟨rfl, rfl⟩ := h'; rfl
    · cases h
  · cases h
theorem dE_row (c : Ch) : dE (kd c, vd c) = some c := if_pos ⟨rfl, rfl⟩
def decE : List (Key × U) → Option (List Ch)
  | [] => some []
  | e :: es => match dE e, decE es with
    | some c, some cs => some (c :: cs)
    | _, _ => none
theorem decE_eq : ∀ {es : List (Key × U)} {ls : List Ch}, decE es = some ls → es = ents kd vd ls
  | [], ls, h => by cases h; rfl
  | e :: es, ls, h => by
    unfold decE at h
    split at h
    · rename_i c cs h1 h2
      cases h
      rw [dE_eq h1, decE_eq h2]
      rfl
    · cases h
theorem decE_ents (ls : List Ch) : decE (ents kd vd ls) = some ls := by
  induction ls with
  | nil => rfl
  | cons c ls ih =>
    show decE ((kd c, vd c) :: ents kd vd ls) = _
    unfold decE
    rw [dE_row, ih]
def e43 (us : List V) (d : Option Nat) (ρ : Env) (σ : Sto) : Option ((Env → Sto → Prop) → Prop) := match us with
  | [.u (.one (.own s)), .u (.one (.map m))] => match σ s, σ m with
    | some (.row 4 49 rows), some (.map (.ints 2) es) => match decs dCh rows, decE es with
      | some xs, some ls => if xs.length + ls.length ≤ 5000 then some fun K => ∀ ys : List Ch, ys.Perm (xs ++ ls) → (ys.Pairwise fun x y => ¬ cfCh y x < 0) → K (putE ρ d (chPair (ys, 0))) (dropN [s, m] σ) else none
      | _, _ => none
    | _, _ => none
  | [.u (.one (.d .nil)), .u (.one (.map m))] => match σ m with
    | some (.map (.ints 2) es) => match decE es with
      | some ls => if ls.length ≤ 5000 then some fun K => ∀ ys : List Ch, ys.Perm ls → (ys.Pairwise fun x y => ¬ cfCh y x < 0) → K (putE ρ d (chPair (ys, 0))) (dropN [m] σ) else none
      | none => none
    | _ => none
  | _ => none
def eff11 (f : FuncId) (us : List V) (d : Option Nat) (ρ : Env) (σ : Sto) : Option ((Env → Sto → Prop) → Prop) := match f with
  | 43 => e43 us d ρ σ
  | _ => eff9 f us d ρ σ
theorem eff11_ok (cx : Cx) (f : FuncId) (us : List V) (d : Option Nat) (ρ : Env) (σ : Sto) (T : (Env → Sto → Prop) → Prop) (K : Env → Sto → Prop) (hd : ∀ x, d = some x → x < cx.n ∧ x < inBase) (h : eff11 f us d ρ σ = some T) (hT : T K) : CallK Try.prog cx f us ρ σ d K := by
  unfold eff11 at h
  split at h
  · unfold e43 at h
    split at h
    · rename_i s m
      split at h
      · rename_i rows es hs hm
        split at h
        · rename_i xs ls hx hl
          split at h
          · rename_i hlen
            cases h
            rw [decs_eq dCh_eq hx] at hs
            rw [decE_eq hl] at hm
            have hne : s ≠ m := fun h => by rw [h, hm] at hs; cases hs
            refine callK_cons (names := [s, m]) (consW (coll_own xs ls hlen) fun v h => h.exact) ⟨rfl, by simp [hne], ?_, ?_⟩ (by simp [V.ren, U.ren, C.ren, nameF]) (fun x hx => (hd x hx).1) ?_
            · intro i t o h1 h2
              match i with
              | 0 => cases h1; cases h2; exact hs
              | 1 => cases h1; cases h2; exact hm
              | i + 2 => simp at h1
            · intro o ho
              rcases List.mem_cons.1 ho with rfl | ho
              · rfl
              · rw [List.mem_singleton] at ho; subst ho; exact ents_free kd vd vd_free ls
            · rintro v ⟨ys, h1, h2, rfl⟩
              exact hT ys h1 h2
          · cases h
        · cases h
      · cases h
    · rename_i m
      split at h
      · rename_i es hm
        split at h
        · rename_i ls hl
          split at h
          · rename_i hlen
            cases h
            rw [decE_eq hl] at hm
            refine callK_cons (names := [m]) (consW (coll_nil ls hlen) fun v h => h.exact) ⟨rfl, by simp, ?_, ?_⟩ (by simp [V.ren, U.ren, C.ren, nameF]) (fun x hx => (hd x hx).1) ?_
            · intro i t o h1 h2
              match i with
              | 0 => cases h1; cases h2; exact hm
              | i + 1 => simp at h1
            · intro o ho
              rw [List.mem_singleton] at ho; subst ho; exact ents_free kd vd vd_free ls
            · rintro v ⟨ys, h1, h2, rfl⟩
              exact hT ys h1 h2
          · cases h
        · cases h
      · cases h
    · cases h
  · exact eff9_ok cx f us d ρ σ T K hd h hT
def tb11 : Tb := { tb with call := ct9, eff := eff11 }
theorem tb11_ok : TbOk Try.prog tb11 := { tb_ok with call := ct9_ok, eff := fun cx f us d ρ σ T K hd h hT => eff11_ok cx f us d ρ σ T K hd h hT }
theorem tb11_ty : tb11.ty = ty := rfl
theorem tb11_eqn : tb11.eqn = eqn := rfl
theorem tb11_key : tb11.key = key := rfl
theorem tb11_mid : tb11.mid = fun _ => none := rfl
theorem tb11_call : tb11.call = ct9 := rfl
theorem tb11_eff : tb11.eff = eff11 := rfl
def noIt (names : List Nat) (o : Option Ob) : Option Ob := match o with
  | some (.iter m l la) => if names.contains m then none else some (.iter m l la)
  | o => o
theorem dropN_at (names : List Nat) (σ : Sto) (t : Nat) : dropN names σ t = if names.contains t then none else noIt names (σ t) := rfl
theorem noIt_box (names : List Nat) (v : List C) : noIt names (some (.box v)) = some (.box v) := rfl
attribute [simp] tb11_mid tb11_ty tb11_eqn tb11_key tb11_call tb11_eff eff11 e43 decE_ents dropN_at noIt_box
end Go.Proofs.Ytfoadgepblojpaa
