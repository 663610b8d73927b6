/-
  The table with From; the walk of Apply of the reference.
-/
import Derived.Test.YtfoadgepblojpaaW8
namespace Go.Proofs.Ytfoadgepblojpaa
open Go.AM Go.Proofs

theorem clV_own (s : Nat) : clV (.u (.one (.own s))) = none := rfl
theorem chV_own (s : Nat) : chV (.u (.one (.own s))) = none := rfl
attribute [simp] clV_own chV_own
def c40 (us : List V) : Option V := match us with
  | [v] => match clV v with
    | some l => if l.length ≤ 10000 then some (clPair (fromR l)) else none
    | none => none
  | _ => none
def ct7 (f : FuncId) (us : List V) : Option V := match f with
  | 40 => c40 us
  | _ => ct6 f us
theorem ct7_ok : ∀ f us v, ct7 f us = some v → PureCall Try.prog f us v := by
  intro f us v h
  unfold ct7 at h
  split at h
  · unfold c40 at h
    split at h
    · split at h
      · rename_i l hc
        split at h
        · rename_i hl; cases h; exact (from05_spec l hl).pureW.wk (wk1 (clV_wk hc))
        · cases h
      · cases h
    · cases h
  · exact ct6_ok f us v h
def tb7 : Tb := { tb with call := ct7, eff := effF ct7 }
theorem tb7_ok : TbOk Try.prog tb7 := { tb_ok with call := ct7_ok, eff := fun cx f us d ρ σ T K hd h hT => effF_ok ct7_ok cx f us d ρ σ T K hd h hT }
theorem tb7_ty : tb7.ty = ty := rfl
theorem tb7_eqn : tb7.eqn = eqn := rfl
theorem tb7_key : tb7.key = key := rfl
theorem tb7_mid : tb7.mid = fun _ => none := rfl
theorem tb7_call : tb7.call = ct7 := rfl
theorem tb7_eff : tb7.eff = effF ct7 := rfl
attribute [simp] tb7_mid tb7_ty tb7_eqn tb7_key tb7_call tb7_eff ct7 c40

def Ch.cl (c : Ch) : Cl := ⟨c.x, c.y, c.t⟩
def applyC (p : List Cl) (l : List Ch) : List Cl := l.map Ch.cl ++ p.filter fun c => decide (findP 0 l c.x c.y < 0)
def fits (p : List Cl) (l : List Ch) : Bool := l.all fun c => decide (getP p c.x c.y = c.f)
def applyR (p : List Cl) (l : List Ch) : List Cl × Int :=
  if rightCl p && rightCh l then (if fits p l then fromR (applyC p l) else ([], 17)) else ([], 2)
def applyTo (p : List Cl) (l : List Ch) (i : Nat) : List Cl := l.map Ch.cl ++ (p.take i).filter fun c => decide (findP 0 l c.x c.y < 0)
/-- A list that grows in slot t: nil, or one of the rows s, s'. -/
def acc2 (ρ : Env) (σ : Sto) (t s s' sz e : Nat) (rows : List (List L)) : Prop := (ρ t = .one (.d .nil) ∧ rows = []) ∨ (ρ t = .one (.own s) ∧ σ s = some (.row sz e rows)) ∨ (ρ t = .one (.own s') ∧ σ s' = some (.row sz e rows))

theorem apply53_spec (p : List Cl) (l : List Ch) (hp : p.length ≤ 1000) (hl : l.length ≤ 1000) : PFn Try.prog 19 [.one (.d (clL p)), .one (.d (chL l))] (fun v => v.wk (clPair (applyR p l))) := by
  have hp' : p.length ≤ 100000 := by omega
  have hl' : l.length ≤ 100000 := by omega
  have hpa := big hp'
  have hla := big hl'
  refine pfn_L tb7_ok mixed _ Try.func19 rfl (by kernel_rfl) (by simp [Try.ntmps19]) (by kernel_rfl) fun cx hn => ?_
  simp -dsimp [clL, chL, hp', hl', Try.results19]
  refine ⟨fun h1 => ⟨fun h2 => by simp [applyR, h1, h2, clPair, pairV], fun h2 => ?_⟩, fun h1 => by simp [applyR, h1, clPair, pairV]⟩
  refine loop_up tb7_ok mixed l.length (fun i ρ σ => ρ 0 = .one (.d (clL p)) ∧ ρ 1 = .one (.d (chL l)) ∧ ρ 5 = .int 0 ∧ ρ 7 = .int i ∧ acc ρ σ 6 59 3 47 (((l.take i).map Ch.cl).map Cl.row) ∧ fits p l = fits p (l.drop i)) (by rw [hn]; kernel_rfl) (by simp [clL, chL, acc]) ?_
  rintro i ρ σ hi ⟨h0, h1', h5, h7, ha, hq⟩
  by_cases hlt : i < l.length
  · have hc : l[i]? = some l[i] := List.getElem?_eq_getElem hlt
    have ht := take_map_up (Cl.row ∘ Ch.cl) hlt
    have hm : min i l.length = i := by omega
    rw [List.drop_eq_getElem_cons hlt] at hq
    simp only [fits, List.all_cons] at hq
    have hbad : ¬getP p l[i].x l[i].y = l[i].f → V.wk (.tup [.one (.d .nil), .one (.d (.int .i64 17))]) (clPair (applyR p l)) := fun h => by
      have : fits p l = false := by unfold fits; rw [hq, decide_eq_false h]; rfl
      simp [applyR, h1, h2, this, clPair, pairV]
    rcases ha with ⟨h6, hr⟩ | ⟨h6, s59⟩
    · rw [List.map_map, List.map_take] at hr
      simp -dsimp [h0, h1', h5, h6, h7, acc, clL, chL, hlt, hp', Ch.row, Cl.row, Ch.cl, ht, hr, Try.results19, wrap_up hlt hla]
      refine ⟨hbad, fun h => ?_⟩
      unfold fits; rw [hq, decide_eq_true h]; rfl
    · simp -dsimp [h0, h1', h5, h6, h7, s59, acc, clL, chL, hlt, hp', Ch.row, Cl.row, Ch.cl, ht, hm, Try.results19, wrap_up hlt hla]
      refine ⟨hbad, fun h => ⟨by omega, ?_⟩⟩
      unfold fits; rw [hq, decide_eq_true h]; rfl
  · have hia : l.take i = l := List.take_of_length_le (by omega)
    rw [hia] at ha
    rw [List.drop_of_length_le (by omega)] at hq
    have hfit : fits p l = true := hq
    have hlt' := hlt
    clear hlt hi
    rcases ha with ⟨h6, hr⟩ | ⟨h6, s59⟩
    simp -dsimp [h0, h1', h7, clL, chL, hlt']
    refine loop_up tb7_ok mixed p.length (fun i ρ σ => ρ 0 = .one (.d (clL p)) ∧ ρ 1 = .one (.d (chL l)) ∧ ρ 5 = .int 0 ∧ ρ 8 = .int i ∧ acc2 ρ σ 6 59 86 3 47 ((applyTo p l i).map Cl.row)) (by rw [hn]; kernel_rfl) (by simp [acc2, h0, h1', h5, h6, clL, chL, applyTo]; simpa using hr) ?_
    rotate_left
    simp -dsimp [h0, h1', h7, clL, chL, hlt']
    refine loop_up tb7_ok mixed p.length (fun i ρ σ => ρ 0 = .one (.d (clL p)) ∧ ρ 1 = .one (.d (chL l)) ∧ ρ 5 = .int 0 ∧ ρ 8 = .int i ∧ acc2 ρ σ 6 59 86 3 47 ((applyTo p l i).map Cl.row)) (by rw [hn]; kernel_rfl) (by simp [acc2, h0, h1', h5, h6, s59, clL, chL, applyTo]) ?_
    all_goals
      clear h0 h1' h5 h7 h6
      rintro i ρ σ hi ⟨h0, h1', h5, h8, ha⟩
      have hol : (applyTo p l i).length ≤ 10000 := by
        have := List.length_filter_le (fun c : Cl => decide (findP 0 l c.x c.y < 0)) (p.take i)
        simp [applyTo] at this ⊢; omega
      by_cases hlt : i < p.length
      · have hc : p[i]? = some p[i] := List.getElem?_eq_getElem hlt
        have hA : findP 0 l p[i].x p[i].y < 0 → applyTo p l (i + 1) = applyTo p l i ++ [p[i]] := fun h => by
          unfold applyTo; rw [take_up hlt, List.filter_append]; simp [h]
        have hB : 0 ≤ findP 0 l p[i].x p[i].y → applyTo p l (i + 1) = applyTo p l i := fun h => by
          unfold applyTo; rw [take_up hlt, List.filter_append]; simp; omega
        generalize applyTo p l i = out at *
        generalize applyTo p l (i + 1) = out' at *
        rcases ha with ⟨h6, hr⟩ | ⟨h6, s6⟩ | ⟨h6, s6⟩
        · simp -dsimp [h0, h1', h5, h6, h8, acc2, clL, chL, hlt, hl', Cl.row, wrap_up hlt hpa]
          refine ⟨fun h => ?_, fun h => ?_⟩
          · rw [hA h, List.map_append, hr]; rfl
          · rw [hB h]; simpa using hr
        · simp -dsimp [h0, h1', h5, h6, s6, h8, acc2, clL, chL, hlt, hl', Cl.row, wrap_up hlt hpa]
          refine ⟨fun h => ⟨by omega, ?_⟩, fun h => ?_⟩
          · rw [hA h, List.map_append]; rfl
          · rw [hB h]
        · simp -dsimp [h0, h1', h5, h6, s6, h8, acc2, clL, chL, hlt, hl', Cl.row, wrap_up hlt hpa]
          refine ⟨fun h => ⟨by omega, ?_⟩, fun h => ?_⟩
          · rw [hA h, List.map_append]; rfl
          · rw [hB h]
      · have hia : applyTo p l i = applyC p l := by unfold applyTo applyC; rw [List.take_of_length_le (by omega)]
        have hfin : applyR p l = fromR (applyC p l) := by unfold applyR; rw [h1, h2, hfit]; rfl
        rw [hia] at ha hol
        rw [hfin]
        generalize applyC p l = out at *
        rcases ha with ⟨h6, hr⟩ | ⟨h6, s6⟩ | ⟨h6, s6⟩
        · simp at hr
          subst hr
          simp -dsimp [h0, h1', h6, h8, clL, chL, hlt, Try.results19, clPair, pairV]
        · simp -dsimp [h0, h1', h6, s6, h8, clL, chL, hlt, hol, Try.results19, clPair, pairV]
        · simp -dsimp [h0, h1', h6, s6, h8, clL, chL, hlt, hol, Try.results19, clPair, pairV]
end Go.Proofs.Ytfoadgepblojpaa
