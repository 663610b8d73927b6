/- States told by lists of slots and objects; the rules by which code is gone through, a region at a time; loops. -/
import Derived.Test.YtldhnnkpmhnpcaaGreatDoorAmP
namespace Go.AM
open Go.RowKit
def ar : List (Nat × V) → Env → Prop
 | [], _ => True
 | x :: l, ρ => ρ x.1 = x.2 ∧ ar l ρ
def ap : List (Nat × Ob) → Sto → Prop
 | [], _ => True
 | x :: l, σ => σ x.1 = some x.2 ∧ ap l σ
def Fits (L : List (Nat × V)) (M : List (Nat × Ob)) (ρ : Env) (σ : Sto) : Prop := ar L ρ ∧ ap M σ
def eswk : List (Key × U) → List (Key × U) → Prop
 | [], ys => ys = []
 | x :: xs, y :: ys => x.1 = y.1 ∧ x.2.wk y.2 ∧ eswk xs ys
 | _, _ => False
def Ob.wk : Ob → Ob → Prop
 | .box cs, .box ds => C.wks cs ds
 | .row sz e rows, .row sz' e' rows' => sz = sz' ∧ e = e' ∧ aJ rows rows'
 | .map kk es, .map kk' es' => kk = kk' ∧ eswk es es'
 | .iter m l la, o => o = .iter m l la
 | _, _ => False
def obWk : Option Ob → Option Ob → Prop
 | some o, some o' => o.wk o'
 | _, none => True
 | _, _ => False
def FitEW : List (Nat × V) → Env → Prop
 | [], _ => True
 | x :: l, ρ => (ρ x.1).wk x.2 ∧ FitEW l ρ
def FitSW : List (Nat × Ob) → Sto → Prop
 | [], _ => True
 | x :: l, σ => obWk (σ x.1) (some x.2) ∧ FitSW l σ
def aK (L : List (Nat × V)) (M : List (Nat × Ob)) (ρ : Env) (σ : Sto) : Prop := FitEW L ρ ∧ FitSW M σ
theorem eswk_refl : ∀ es : List (Key × U), eswk es es
 | [] => by simp [eswk]
 | x :: es => by simp only [eswk, true_and]; exact ⟨U.wk_refl _, eswk_refl es⟩
theorem Ob.wk_refl (o : Ob) : o.wk o := by
 cases o with
 | box cs => exact C.wks_refl cs
 | row sz e rows => exact ⟨rfl, rfl, d5 rows⟩
 | map kk es => exact ⟨rfl, eswk_refl es⟩
 | iter m l la => rfl
theorem eswk_keys : ∀ {es es' : List (Key × U)}, eswk es es' → es.map (·.1) = es'.map (·.1)
 | [], ys, h => by simp only [eswk] at h; subst h; rfl
 | x :: xs, [], h => by simp [eswk] at h
 | x :: xs, y :: ys, h => by simp only [eswk] at h; simp [h.1, eswk_keys h.2.2]
section
variable {φ : Nat → Value} {w : World} {F : Nat → Prop}
theorem esims_wk : ∀ {es es' : List (Key × U)} {l : List MapEntry}, eswk es es' → esims φ w F es l → esims φ w F es' l
 | [], ys, l, h, hs => by simp only [eswk] at h; subst h; exact hs
 | x :: xs, [], l, h, hs => by simp [eswk] at h
 | x :: xs, y :: ys, l, h, hs => by
  simp only [eswk] at h
  obtain ⟨e, r, rfl, hk, hv, hs⟩ := hs
  exact ⟨e, r, rfl, by rw [← h.1]; exact hk, usim_wk h.2.1 hv, esims_wk h.2.2 hs⟩
theorem rowWk_csims : ∀ {xs ys : List L} {vs : List Value}, bm xs ys → csims φ w F (xs.map C.d) vs → csims φ w F (ys.map C.d) vs
 | [], ys, vs, h, hs => by simp only [bm] at h; subst h; exact hs
 | x :: xs, [], vs, h, hs => by simp [bm] at h
 | x :: xs, y :: ys, vs, h, hs => by
  simp only [bm] at h
  simp only [List.map_cons, csims] at hs ⊢
  obtain ⟨v, r, rfl, hc, hs⟩ := hs
  exact ⟨v, r, rfl, by simp only [csim] at hc ⊢; exact rep_wk h.1 hc, rowWk_csims h.2 hs⟩
theorem osim_wk {s : Nat} {o o' : Ob} (h : o.wk o') (ho : osim φ w F s o) : osim φ w F s o' := by
 unfold Ob.wk at h
 split at h
 ·obtain ⟨b, arr, t, h1, h2, h3, h4⟩ := ho
  exact ⟨b, arr, t, h1, h2, csims_wk h h3, h4⟩
 ·rename_i sz e rows sz' e' rows'
  obtain ⟨rfl, rfl, h⟩ := h
  obtain ⟨h1, h2⟩ := ho
  refine ⟨rowsWk_mem h h1, ?_⟩
  have hl := dT h
  rcases h2 with ⟨rfl, h2⟩ | ⟨b, cap, cur, h0, hp, hle, hm, hh, hsz, hc⟩
  ·exact .inl ⟨by simpa [aJ] using h, h2⟩
  ·rw [hl] at hp hle hc
   exact .inr ⟨b, cap, cur, h0, hp, hle, hm, hh, hsz, rowWk_csims (rowsWk_flat h) hc⟩
 ·obtain ⟨rfl, h⟩ := h
  obtain ⟨b, ents, clk, h1, h2, h3, h4, h5, h6, h7⟩ := ho
  refine ⟨b, ents, clk, h1, h2, esims_wk h h3, h4, h5, ?_, by rw [← eswk_keys h]; exact h7⟩
  intro x hx
  have : x.1 ∈ (_ : List (Key × U)).map (·.1) := List.mem_map_of_mem (f := (·.1)) hx
  rw [← eswk_keys h] at this
  obtain ⟨y, hy, he⟩ := List.mem_map.1 this
  rw [← he]; exact h6 y hy
 ·subst h; exact ho
 ·exact h.elim
end
section
variable {P : Program} {cx : Cx} {tb : Tb} {ρ ρ' : Env} {σ σ' : Sto} {Q Q' : Exit → Env → Sto → Prop} {c x y : Code} {L : List (Nat × V)} {M : List (Nat × Ob)}
theorem Wk.weak (hρ : ∀ t, (ρ t).wk (ρ' t)) (hσ : ∀ s, obWk (σ s) (σ' s)) (hd : ∀ s o, σ s = some o → ∃ o', σ' s = some o') : Wk cx ρ σ ρ' σ' := by
 intro φ a w hs
 have back : ∀ s o', σ' s = some o' → ∃ o, σ s = some o ∧ o.wk o' := fun s o' h => by
  have := hσ s
  rw [h] at this
  cases hh : σ s with
  | none => rw [hh] at this; exact this.elim
  | some o => rw [hh] at this; exact ⟨o, rfl, this⟩
 have hown : ∀ b, owned φ σ' b ↔ owned φ σ b := fun b => ⟨fun ⟨s, o', h, hb⟩ => let ⟨o, ho, _⟩ := back s o' h; ⟨s, o, ho, hb⟩, fun ⟨s, o, h, hb⟩ => let ⟨o', ho⟩ := hd s o h; ⟨s, o', ho, hb⟩⟩
 have hfr : cx.fr φ σ' = cx.fr φ σ := by
  funext b
  simp only [Cx.fr, hown]
 refine ⟨φ, ⟨?_, fun t => ?_, hs.defers, hs.room⟩⟩
 ·have h := hs.core
  refine ⟨h.os, h.tape, h.output, h.drawn, h.size, h.block, fun s o' ho' => ?_, fun s o' b ho' hb => ?_, fun s s' o o' b ho ho' hb hb' => ?_, h.inp, fun s m l la ho' => ?_⟩
  ·obtain ⟨o, ho, hw⟩ := back s o' ho'
   rw [hfr]
   exact osim_wk hw (h.objs s o ho)
  ·obtain ⟨o, ho, _⟩ := back s o' ho'
   exact h.own s o b ho hb
  ·obtain ⟨o1, ho1, _⟩ := back s o ho
   obtain ⟨o2, ho2, _⟩ := back s' o' ho'
   exact h.disj s s' o1 o2 b ho1 ho2 hb hb'
  ·obtain ⟨o, ho, hw⟩ := back s _ ho'
   cases o with
   | iter m' l' la' =>
    simp only [Ob.wk] at hw
    cases hw
    obtain ⟨kk, es, hm⟩ := h.itm s m l la ho
    obtain ⟨o', ho2⟩ := hd m _ hm
    obtain ⟨o3, ho3, hw3⟩ := back m o' ho2
    rw [hm] at ho3
    cases ho3
    cases o' with
    | map kk' es' => exact ⟨kk', es', ho2⟩
    | _ => simp [Ob.wk] at hw3
   | _ => simp [Ob.wk] at hw
 ·rw [hfr]
  exact vsim_wk (hρ t) (hs.slots t)
def ovE : List (Nat × V) → Env → Env
 | [], ρ => ρ
 | x :: l, ρ => upd (ovE l ρ) x.1 x.2
def ovS : List (Nat × Ob) → Sto → Sto
 | [], σ => σ
 | x :: l, σ => upd (ovS l σ) x.1 (some x.2)
theorem ovE_wk : ∀ {L : List (Nat × V)}, FitEW L ρ → ∀ t, (ρ t).wk (ovE L ρ t)
 | [], _, t => V.wk_refl _
 | x :: l, h, t => by
  simp only [ovE, upd_apply]
  split
  ·rename_i ht; subst ht; exact h.1
  ·exact ovE_wk h.2 t
theorem obWk_refl (o : Option Ob) : obWk o o := by cases o <;> simp [obWk, Ob.wk_refl]
theorem ovS_wk : ∀ {M : List (Nat × Ob)}, FitSW M σ → ∀ s, obWk (σ s) (ovS M σ s)
 | [], _, s => obWk_refl _
 | x :: l, h, s => by
  simp only [ovS, upd_apply]
  split
  ·rename_i ht; subst ht; exact h.1
  ·exact ovS_wk h.2 s
theorem ovS_dom : ∀ {M : List (Nat × Ob)} (s : Nat) (o : Ob), σ s = some o → ∃ o', ovS M σ s = some o'
 | [], s, o, h => ⟨o, h⟩
 | x :: l, s, o, h => by
  simp only [ovS, upd_apply]
  split
  ·exact ⟨_, rfl⟩
  ·exact ovS_dom s o h
theorem ovE_fit : ∀ {L : List (Nat × V)} {ρ : Env}, (L.map (·.1)).Nodup → ar L (ovE L ρ) := by
 have key : ∀ {L : List (Nat × V)} {ρ : Env} {t : Nat} {v : V}, t ∉ L.map (·.1) → ar L ρ → ar L (upd ρ t v) := by
  intro L
  induction L with
  | nil => intro ρ t v _ _; trivial
  | cons x l ih =>
   intro ρ t v hn h
   simp only [List.map_cons, List.mem_cons, not_or] at hn
   exact ⟨by rw [upd_other _ _ (fun e => hn.1 e.symm)]; exact h.1, ih hn.2 h.2⟩
 intro L
 induction L with
 | nil => intro ρ _; trivial
 | cons x l ih =>
  intro ρ hn
  simp only [List.map_cons, List.nodup_cons] at hn
  exact ⟨upd_same _ _ _, key hn.1 (ih hn.2)⟩
theorem ovS_fit : ∀ {L : List (Nat × Ob)} {ρ : Sto}, (L.map (·.1)).Nodup → ap L (ovS L ρ) := by
 have key : ∀ {L : List (Nat × Ob)} {ρ : Sto} {t : Nat} {v : Option Ob}, t ∉ L.map (·.1) → ap L ρ → ap L (upd ρ t v) := by
  intro L
  induction L with
  | nil => intro ρ t v _ _; trivial
  | cons x l ih =>
   intro ρ t v hn h
   simp only [List.map_cons, List.mem_cons, not_or] at hn
   exact ⟨by rw [upd_other _ _ (fun e => hn.1 e.symm)]; exact h.1, ih hn.2 h.2⟩
 intro L
 induction L with
 | nil => intro ρ _; trivial
 | cons x l ih =>
  intro ρ hn
  simp only [List.map_cons, List.nodup_cons] at hn
  exact ⟨upd_same _ _ _, key hn.1 (ih hn.2)⟩
def bj (l : List Nat) : Bool := match l with
 | [] => true
 | x :: l => !l.contains x && bj l
theorem di : ∀ {l : List Nat}, bj l = true → l.Nodup
 | [], _ => List.nodup_nil
 | x :: l, h => by
  simp only [bj, Bool.and_eq_true, Bool.not_eq_true', List.contains_eq_mem, decide_eq_false_iff_not] at h
  exact List.nodup_cons.2 ⟨h.1, di h.2⟩
theorem fits_wk (hn : bj (L.map (·.1)) = true) (hm : bj (M.map (·.1)) = true) (h : aK L M ρ σ) : EE cx (Fits L M) ρ σ :=
 ⟨ovE L ρ, ovS M σ, Wk.weak (ovE_wk h.1) (ovS_wk h.2) (fun s o hs => ovS_dom s o hs), ovE_fit (di hn), ovS_fit (di hm)⟩
theorem ae (h : Swp P cx x ρ σ (thenQ (fun ρ σ => Swp P cx y ρ σ Q) Q)) : Swp P cx (.seq x y) ρ σ Q := swp_seq fun _ hK => h.mono fun e ρ σ hq => by
 cases e with
 | normal => exact hK ρ σ hq
 | _ => exact hq
theorem sw_reg (ht : TbOk P tb) {id : Nat} {l : List Oper} (hd : bJ cx.n l = true) (h : bY P cx tb l l ρ σ (Q .normal) .mk) : Swp P cx (.region id l.toArray false) ρ σ Q := swp_region ht hd h
theorem sw_regs (ht : TbOk P tb) {id : Nat} {l : List Oper} (hd : bJ cx.n l = true) (h : bY P cx tb l l ρ σ (fun ρ σ => Swp P cx y ρ σ Q) .mk) : Swp P cx (.seq (.region id l.toArray false) y) ρ σ Q := ae (sw_reg ht hd h)
theorem a8 {o : Operand} {b : Bool} (hc : oev ρ o = .u (.one (.d (.bool b)))) (hb : b = true) (h : Swp P cx x ρ σ Q) : Swp P cx (.cond o x y) ρ σ Q := swp_cond hc (fun _ => h) (fun hf => absurd (hb.symm.trans hf) (by decide))
theorem a7 {o : Operand} {b : Bool} (hc : oev ρ o = .u (.one (.d (.bool b)))) (hb : b = false) (h : Swp P cx y ρ σ Q) : Swp P cx (.cond o x y) ρ σ Q := swp_cond hc (fun hf => absurd (hb.symm.trans hf) (by decide)) (fun _ => h)
theorem ai {id : Nat} (h : Swp P cx c ρ σ (blockQ id Q)) : Swp P cx (.block id c) ρ σ Q := swp_block h
theorem sw_gen (L : List (Nat × V)) (M : List (Nat × Ob)) (hn : bj (L.map (·.1)) = true) (hm : bj (M.map (·.1)) = true) (h : aK L M ρ σ) (hk : ∀ ρ σ, Fits L M ρ σ → Swp P cx c ρ σ Q) : Swp P cx c ρ σ Q :=
 let ⟨_, _, hw, hf⟩ := fits_wk (cx := cx) hn hm h
 Swp.pre hw (hk _ _ hf)
def Rd {S T : Type} (E : S → Env → Sto → Prop) (F : T → Exit → Env → Sto → Prop) (r : Lp S T) (e : Exit) (ρ : Env) (σ : Sto) : Prop := match r with
 | .next s => e = .normal ∧ E s ρ σ
 | .out t => e ≠ .normal ∧ F t e ρ σ
theorem loop_model {S T : Type} (L : S → List (Nat × V)) (M : S → List (Nat × Ob)) (F : T → Exit → Env → Sto → Prop) (step : S → Option (Lp S T)) {c : Code} (hn : ∀ s, bj ((L s).map (·.1)) = true) (hm : ∀ s, bj ((M s).map (·.1)) = true)
  (hstep : ∀ s r, step s = some r → ∀ ρ σ, Fits (L s) (M s) ρ σ → Swp P cx c ρ σ (Rd (fun s => EE cx (aK (L s) (M s))) F r)) {n : Nat} {s : S} {t : T} (h : ah step n s = some t) {ρ : Env} {σ : Sto} (hE : Fits (L s) (M s) ρ σ) :
  Swp P cx (.loop c) ρ σ (F t) := by
 refine swp_loop (fun n ρ σ => EE cx (fun ρ σ => ∃ s, ah step n s = some t ∧ aK (L s) (M s) ρ σ) ρ σ) n (EE.here ⟨s, h, ?_⟩) ?_
 ·exact ⟨(fun {L} => by induction L with
   | nil => intro _; trivial
   | cons x l ih => intro h; exact ⟨by rw [h.1]; exact V.wk_refl _, ih h.2⟩ : ∀ {L : List (Nat × V)}, ar L ρ → FitEW L ρ) hE.1,
   (fun {L} => by induction L with
   | nil => intro _; trivial
   | cons x l ih => intro h; exact ⟨by rw [h.1]; exact obWk_refl _, ih h.2⟩ : ∀ {L : List (Nat × Ob)}, ap L σ → FitSW L σ) hE.2⟩
 rintro n ρ σ ⟨ρ', σ', hw, s, hl, hE⟩
 refine Swp.pre hw (sw_gen (L s) (M s) (hn s) (hm s) hE fun ρ σ hE => ?_)
 cases n with
 | zero => cases hl
 | succ n =>
  unfold ah at hl
  cases hr : step s with
  | none => rw [hr] at hl; cases hl
  | some r =>
   rw [hr] at hl
   refine (hstep s r hr ρ σ hE).mono fun e ρ σ hq => ?_
   cases r with
   | next s' =>
    obtain ⟨rfl, ρ2, σ2, hw2, hE2⟩ := hq
    exact ⟨n, Nat.lt_succ_self n, ρ2, σ2, hw2, s', hl, hE2⟩
   | out t' =>
    cases hl
    obtain ⟨hne, hq⟩ := hq
    cases e with
    | normal => exact absurd rfl hne
    | _ => exact hq
theorem pfn_S (ht : TbOk P tb) {f : FuncId} {fn : Func} {us : List V} {R : V → Prop} (c : Code) (hf : P.funcs[f]? = some fn) (hb : fn.body = some c) (hname : (fn.name == "runtime.NumGoroutine") = false)
  (hn : us.length ≤ fn.ntmps)
  (h : ∀ cx : Cx, cx.n = fn.ntmps → Swp P cx c (env0 us) sto0 (fun e ρ σ => (e = .normal ∨ e = .ret) ∧ ∃ v, cC tb ρ σ fn.results.toList = some v ∧ (v.frz σ).free = true ∧ R (v.frz σ))) : PFn P f us R :=
 pfn_intro ht hf hb hname hn h
end
theorem a6 {K : Env → Sto → Prop} {Q : Exit → Env → Sto → Prop} {ρ : Env} {σ : Sto} (h : K ρ σ) : thenQ K Q .normal ρ σ := h
end Go.AM
