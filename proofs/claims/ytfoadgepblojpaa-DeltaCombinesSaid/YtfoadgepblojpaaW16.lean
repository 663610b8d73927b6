/-
  The walk of delta.Apply.
-/
import Derived.Test.YtfoadgepblojpaaW13
import Derived.Test.YtfoadgepblojpaaW15
import Derived.Test.YtfoadgepblojpaaP3
namespace Go.Proofs.Ytfoadgepblojpaa
open Go.AM Go.Proofs Go.Sort

def c38 (us : List V) : Option V := match us with
  | [v] => match clV v with
    | some l => if l.length ≤ 10000 then some (clPair (fromR l)) else none
    | none => none
  | _ => none
def ct10 (f : FuncId) (us : List V) : Option V := match f with
  | 38 => c38 us
  | _ => ct9 f us
theorem ct10_ok : ∀ f us v, ct10 f us = some v → PureCall Try.prog f us v := by
  intro f us v h
  unfold ct10 at h
  split at h
  · unfold c38 at h
    split at h
    · split at h
      · rename_i l hc
        split at h
        · rename_i hl; cases h; exact (from_spec l hl).pureW.wk (wk1 (clV_wk hc))
        · cases h
      · cases h
    · cases h
  · exact ct9_ok f us v h
def eff10 (f : FuncId) (us : List V) (d : Option Nat) (ρ : Env) (σ : Sto) : Option ((Env → Sto → Prop) → Prop) := match f with
  | 38 => effF ct10 38 us d ρ σ
  | _ => eff9 f us d ρ σ
theorem eff10_ok (cx : Cx) (f : FuncId) (us : List V) (d : Option Nat) (ρ : Env) (σ : Sto) (T : (Env → Sto → Prop) → Prop) (K : Env → Sto → Prop) (hd : ∀ x, d = some x → x < cx.n ∧ x < inBase) (h : eff10 f us d ρ σ = some T) (hT : T K) : CallK Try.prog cx f us ρ σ d K := by
  unfold eff10 at h
  split at h
  · exact effF_ok ct10_ok cx 38 us d ρ σ T K hd h hT
  · exact eff9_ok cx f us d ρ σ T K hd h hT
def tb10 : Tb := { tb with call := ct10, eff := eff10 }
theorem tb10_ok : TbOk Try.prog tb10 := { tb_ok with call := ct10_ok, eff := fun cx f us d ρ σ T K hd h hT => eff10_ok cx f us d ρ σ T K hd h hT }
theorem tb10_ty : tb10.ty = ty := rfl
theorem tb10_eqn : tb10.eqn = eqn := rfl
theorem tb10_key : tb10.key = key := rfl
theorem tb10_mid : tb10.mid = fun _ => none := rfl
theorem tb10_call : tb10.call = ct10 := rfl
theorem tb10_eff : tb10.eff = eff10 := rfl
attribute [simp] tb10_mid tb10_ty tb10_eqn tb10_key tb10_call tb10_eff ct10 eff10 c38

theorem setL_length (x y s : Int) : ∀ cs : List Cl, (setL cs x y s).length ≤ cs.length + 1
  | [] => by simp [setL]
  | d :: ds => by
    unfold setL
    split
    · simp
    · simp; exact setL_length x y s ds
theorem stepL_length (cs : List Cl) (c : Ch) : (stepL cs c).length ≤ cs.length + 1 := by
  unfold stepL
  split
  · exact Nat.le_trans (List.length_filter_le _ _) (setL_length _ _ _ cs)
  · exact setL_length _ _ _ cs
theorem apply_spec (p : List Cl) (l : List Ch) (hp : p.length ≤ 1000) (hl : l.length ≤ 1000) : PFn Try.prog 18 [.one (.d (clL p)), .one (.d (chL l))] (fun v => v.wk (clPair (applyR p l))) := by
  have hp' : p.length ≤ 100000 := by omega
  have hl' : l.length ≤ 100000 := by omega
  have hla := big hl'
  refine pfn_L tb10_ok mixed _ Try.func18 rfl (by kernel_rfl) (by simp [Try.ntmps18]) (by kernel_rfl) fun cx hn => ?_
  by_cases h1 : rightCl p = true
  · by_cases h2 : rightCh l = true
    · obtain ⟨_, okp, sp⟩ := (rightCl_iff p).1 h1
      obtain ⟨_, okl, sl⟩ := (rightCh_iff l).1 h2
      have pp := srtC_pos sp
      have pl := srt_pos sl
      have hpl : allPlaced p = true := List.all_eq_true.2 fun c hc => by
        have := okp c hc
        simp only [Cl.ok, Bool.and_eq_true] at this
        exact this.1
      have hM : cellsM p = ents kc vc (stL p l 0) := by rw [cellsM_ents pp]; rfl
      simp -dsimp [clL, chL, hp', hl', h1, h2, hpl, Try.results18]
      refine loop_up tb10_ok mixed l.length (fun i ρ σ => ρ 5 = .int 0 ∧ ρ 6 = .one (.map 21) ∧ ρ 22 = .one (.d (chL l)) ∧ ρ 23 = .int l.length ∧ ρ 24 = .int i ∧ σ 21 = some (.map (.ints 2) (ents kc vc (stL p l i))) ∧ fits p l = fits p (l.drop i))
        (by rw [hn]; kernel_rfl) (by simp [chL, hM]) ?_
      rintro i ρ σ hi ⟨h5, h6, h22, h23, h24, s21, hq⟩
      have hw := fun d => es_wipe (ents_free kc vc (fun _ => rfl) (stL p l i)) d
      by_cases hlt : i < l.length
      · have hc : l[i]? = some l[i] := List.getElem?_eq_getElem hlt
        have hok := okl l[i] (List.getElem_mem hlt)
        simp only [Ch.ok, Bool.and_eq_true, decide_eq_true_eq] at hok
        have hf1 := wf_i64 hok.1.1 hok.1.2.1
        have hf2 := wf_i64 hok.1.2.2.1 hok.1.2.2.2
        have hPD : PD (stL p l i) := foldL_PD _ pp
        have hset := mset_setL l[i].x l[i].y l[i].t (stL p l i)
        have hdel : mdel (ents kc vc (setL (stL p l i) l[i].x l[i].y l[i].t)) (.ints [l[i].x, l[i].y]) = ents kc vc (delL (setL (stL p l i) l[i].x l[i].y l[i].t) l[i].x l[i].y) := by
          rw [mdel_ents kc vc _ _ ((setL_PD _ _ _ hPD).imp fun {c d} h => kc_ne.2 h)]; rfl
        have hup : stL p l (i + 1) = stepL (stL p l i) l[i] := by unfold stL; rw [foldl_up _ _ hlt]
        have hgp : getP (stL p l i) l[i].x l[i].y = getP p l[i].x l[i].y := by
          unfold stL
          rw [getP_foldL _ _ _ _ (sl.sublist (List.take_sublist _ _))]
          have : lk (l.take i) l[i].x l[i].y = none := by
            unfold lk
            rw [List.find?_eq_none]
            intro d hd
            obtain ⟨j, hj, rfl⟩ := List.getElem_of_mem hd
            rw [List.getElem_take]
            have hj' : j < i := by simp at hj; omega
            have := List.pairwise_iff_getElem.1 pl j i (by omega) hlt hj'
            simpa using this
          rw [this]
        have hget : mget (ents kc vc (stL p l i)) (.ints [l[i].x, l[i].y]) = ((stL p l i).find? fun c => decide (kc c = .ints [l[i].x, l[i].y])).map vc := mget_ents kc vc _ _
        have hs : ∃ o, ((stL p l i).find? fun c => decide (kc c = .ints [l[i].x, l[i].y])).map vc = o ∧ (o = none ∧ getP p l[i].x l[i].y = 0 ∨ o = some (.one (.d (.int .i64 (getP p l[i].x l[i].y))))) := by
          rcases find_getP (stL p l i) l[i].x l[i].y with ⟨h3, h4⟩ | ⟨c, h3, h4⟩
          · exact ⟨none, by rw [h3]; rfl, .inl ⟨rfl, by rw [← hgp]; exact h4⟩⟩
          · exact ⟨_, rfl, .inr (by rw [h3, ← hgp, ← h4]; rfl)⟩
        obtain ⟨o, hgo, ho⟩ := hs
        rw [hgo] at hget
        rw [List.drop_eq_getElem_cons hlt] at hq
        simp only [fits, List.all_cons] at hq
        have hbad : ¬ getP p l[i].x l[i].y = l[i].f → V.wk (.tup [.one (.d .nil), .one (.d (.int .i64 17))]) (clPair (applyR p l)) := fun h => by
          have : fits p l = false := by unfold fits; rw [hq, decide_eq_false h]; rfl
          simp [applyR, h1, h2, this, clPair, pairV]
        have hfit : getP p l[i].x l[i].y = l[i].f → fits p l = fits p (l.drop (i + 1)) := fun h => by unfold fits; rw [hq, decide_eq_true h]; rfl
        rcases ho with ⟨rfl, h0⟩ | rfl
        · rw [h0] at hbad hfit
          simp -dsimp [h5, h6, h22, h23, h24, s21, hw, hf1, hf2, hget, hset, hdel, hlt, hup, stepL, chL, Ch.row, Try.results18, wrap_up hlt hla]
          exact ⟨hbad, fun h => ⟨fun h3 => ⟨by rw [if_pos h3], hfit h⟩, fun h3 => ⟨by rw [if_neg h3], hfit h⟩⟩⟩
        · simp -dsimp [h5, h6, h22, h23, h24, s21, hw, hf1, hf2, hget, hset, hdel, hlt, hup, stepL, chL, Ch.row, Try.results18, wrap_up hlt hla]
          exact ⟨hbad, fun h => ⟨fun h3 => ⟨by rw [if_pos h3], hfit h⟩, fun h3 => ⟨by rw [if_neg h3], hfit h⟩⟩⟩
      · have hil : i = l.length := by omega
        subst hil
        rw [List.drop_of_length_le (Nat.le_refl _)] at hq
        have hfit : fits p l = true := hq
        have hfin := fun (out : List Cl) ho => apply_final h1 h2 (out := out) ho
        have happ : applyR p l = fromR (applyC p l) := by unfold applyR; rw [h1, h2, hfit]; rfl
        have hlenS : (stL p l l.length).length ≤ 2000 := by
          have := foldl_length stepL stepL_length (l.take l.length) p
          unfold stL
          simp at this ⊢
          omega
        rw [happ]
        generalize stL p l l.length = rs at *
        generalize applyC p l = ac at *
        have hlt' := hlt
        clear hlt
        simp -dsimp [h6, h22, h23, h24, s21, hw]
        refine loop_L tb10_ok mixed (fun n ρ σ => ∃ done left last, n = left.length ∧ (done ++ left).Perm rs ∧ ρ 5 = .int 0 ∧ ρ 48 = .one (.iter 48) ∧ σ 48 = some (.iter 21 (ents kc vc left) last) ∧ acc ρ σ 9 62 3 47 (done.map Cl.row)) rs.length (by rw [hn]; kernel_rfl)
          (by refine ⟨[], rs, none, rfl, List.Perm.refl _, ?_⟩; simp [acc, h5]) ?_
        clear h5 h6 h22 h23 h24 s21
        rintro n ρ σ ⟨done, left, last, rfl, hperm, h5, h48, s48, hac⟩
        have hdl : done.length + left.length ≤ 2000 := by have := hperm.length_eq; simp at this; omega
        have hdl' : done.length ≤ 10000 := by omega
        have nxt : ∀ (i : Nat) (k : Key) (u : U), (ents kc vc left)[i]? = some (k, u) → ∃ c, k = kc c ∧ u = vc c ∧ (done ++ [c] ++ left.eraseIdx i).Perm rs ∧ (left.eraseIdx i).length < left.length := by
          intro i k u hx
          obtain ⟨c, hc, he⟩ := ents_get kc vc hx
          cases he
          have hpe := perm_erase hc
          refine ⟨c, rfl, rfl, ?_, by have := hpe.length_eq; simp at this; omega⟩
          rw [List.append_assoc]
          exact (hpe.append_left done).trans hperm
        rcases hac with ⟨h9, hr⟩ | ⟨h9, s62⟩
        · simp -dsimp [h9, h48, s48]
          refine ⟨fun h => ?_, fun i k u hx => ?_⟩
          · rw [ents_nil] at h
            subst h
            rw [List.append_nil] at hperm
            rw [List.map_eq_nil_iff] at hr
            rw [← hfin done hperm, hr]
            simp [clPair, pairV]
          · obtain ⟨c, rfl, rfl, h3, h4⟩ := nxt i k u hx
            rw [List.map_eq_nil_iff] at hr
            have hw := fun d => es_wipe (ents_free kc vc (fun _ => rfl) (left.eraseIdx i)) d
            simp -dsimp [h5, h9, h48, hw, ents_eraseIdx, kc, vc]
            refine ⟨(left.eraseIdx i).length, by omega, done ++ [c], left.eraseIdx i, rfl, h3, ?_⟩
            rw [hr]
            simp [acc, Cl.row]
        · simp -dsimp [h9, h48, s48, s62, hdl']
          refine ⟨fun h => ?_, fun i k u hx => ?_⟩
          · rw [ents_nil] at h
            subst h
            rw [List.append_nil] at hperm
            rw [← hfin done hperm]
            simp [clPair, pairV]
          · obtain ⟨c, rfl, rfl, h3, h4⟩ := nxt i k u hx
            have hw := fun d => es_wipe (ents_free kc vc (fun _ => rfl) (left.eraseIdx i)) d
            simp -dsimp [h5, h9, h48, s62, hw, ents_eraseIdx, kc, vc]
            refine ⟨by omega, (left.eraseIdx i).length, by omega, done ++ [c], left.eraseIdx i, rfl, h3, ?_⟩
            simp [acc, Cl.row]
    · simp -dsimp [clL, chL, hp', hl', h1, h2, Try.results18, applyR, clPair, pairV]
  · simp -dsimp [clL, chL, hp', h1, Try.results18, applyR, clPair, pairV]
end Go.Proofs.Ytfoadgepblojpaa
