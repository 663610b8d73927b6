/- Ranges over maps whose bodies collect: the order of the entries does not tell but in the order of what is collected. -/
import Derived.Test.YtogdjcdmbodmiaaGreatDoorAmSo
namespace Go.AM
open Go.RowKit Go.Shelf Go.Proofs Go.Lib Go.Sort
def iOb {κ ν : Type} (m : Nat) (kf : κ → Key) (vf : ν → U) (left : List (κ × ν)) (la : Option (κ × ν)) : Ob := .iter m (left.map fun e => (kf e.1, vf e.2)) (la.map fun e => (kf e.1, vf e.2))
def isE {ε : Type} (l : List ε) : Prop := l = []
def atI {ε : Type} (l : List ε) (i : Nat) (y : ε) : Prop := l[i]? = some y
section
variable {κ ν : Type} {kf : κ → Key} {vf : ν → U} {left : List (κ × ν)} {la : Option (κ × ν)}
theorem iOb_wipe [h : DataF vf] (d m : Nat) : Ob.wipe d (iOb m kf vf left la) = if m = d then none else some (iOb m kf vf left la) := by
 unfold iOb
 rw [owipe_iter]
 simp only [List.map_map, Function.comp_def, h.wipe]
 cases la <;> simp [h.wipe]
theorem iOb_ren [h : DataF vf] (f : Nat → Nat) (m : Nat) : Ob.ren f (iOb m kf vf left la) = iOb (f m) kf vf left la := by
 unfold iOb
 simp only [Ob.ren, List.map_map, Function.comp_def, h.ren, Option.map_map]
theorem C_wk_iter (s : Nat) (c : C) : C.wk (.iter s) c = (.iter s = c) := by cases c <;> rfl
theorem iOb_wk (m : Nat) : Ob.wk (iOb m kf vf left la) (iOb m kf vf left la) ↔ True := iff_of_true (Ob.wk_refl _) trivial
end
def rgO (ρ : Env) (σ : Sto) (d s : Nat) (ob : Option Ob) : Option (Prop × Env × Sto) := match ob with
 | some (.map _ es) => some (s ≠ d, upd (wipeE d ρ) d (.u (.one (.iter d))), upd (wipeS d σ) d (some (.iter s (es.map fun x => (x.1, x.2.wipe d)) none)))
 | _ => none
def rgD (ρ : Env) (σ : Sto) (d s : Nat) (de : TypeDesc) (ob : Option Ob) : Option (Prop × Env × Sto) := match de with
 | .map _ _ => rgO ρ σ d s ob
 | _ => none
def rgT (ρ : Env) (σ : Sto) (d s : Nat) (ti : Option TI) (ob : Option Ob) : Option (Prop × Env × Sto) := match ti with
 | some ti => rgD ρ σ d s ti.desc ob
 | none => none
theorem erase_map {α β : Type} (f : α → β) : ∀ (l : List α) (i : Nat), (l.map f).eraseIdx i = (l.eraseIdx i).map f
 | [], _ => rfl
 | x :: l, 0 => rfl
 | x :: l, i + 1 => by simp only [List.map_cons, List.eraseIdx_cons_succ, erase_map f l i]
section
variable {tb : Tb} {ρ : Env} {σ : Sto} {κ ν : Type} {kk : KK} {kf : κ → Key} {vf : ν → U} {m : List (κ × ν)} {left : List (κ × ν)} {la : Option (κ × ν)}
theorem rRange_map (d : Nat) (t : TypeId) (s : Nat) : dz tb ρ σ d t (.u (.one (.map s))) = rgT ρ σ d s (tb.ty t) (σ s) := by
 unfold dz rgT
 rcases tb.ty t with _ | ti
 ·rfl
 ·unfold rgD rgO
  dsimp only
  cases ti.desc <;> try rfl
  rcases σ s with _ | o
  ·rfl
  ·cases o <;> rfl
theorem rgT_some (d s : Nat) (ti : TI) (ob : Option Ob) : rgT ρ σ d s (some ti) ob = rgD ρ σ d s ti.desc ob := rfl
theorem rgD_map (d s : Nat) (kt e : TypeId) (ob : Option Ob) : rgD ρ σ d s (.map kt e) ob = rgO ρ σ d s ob := rfl
theorem rgO_mOb [h : DataF vf] (d s : Nat) : rgO ρ σ d s (some (mOb kk kf vf m)) = some (s ≠ d, upd (wipeE d ρ) d (.u (.one (.iter d))), upd (wipeS d σ) d (some (iOb s kf vf m none))) := by
 unfold rgO mOb iOb
 simp only [List.map_map, Function.comp_def, h.wipe, Option.map_none]
def reO (ρ : Env) (σ : Sto) (d : Nat) (ob : Option Ob) : Option (Prop × Env × Sto) := match ob with
 | some (.iter _ _ (some x)) => some (True, upd ρ d (.tup [x.1.u, x.2]), σ)
 | _ => none
theorem rEntry_iter (d s : Nat) : dJ ρ σ d (.u (.one (.iter s))) = reO ρ σ d (σ s) := rfl
theorem reO_iOb (d s : Nat) (y : κ × ν) : reO ρ σ d (some (iOb s kf vf left (some y))) = some (True, upd ρ d (.tup [(kf y.1).u, vf y.2]), σ) := rfl
def rnO (s : Nat) (ob : Option Ob) : Option (Nat × Nat × List (Key × U)) := match ob with
 | some (.iter m left _) => some (s, m, left)
 | _ => none
theorem rNext_iter (s : Nat) : fw σ (.u (.one (.iter s))) = rnO s (σ s) := rfl
def eL (kf : κ → Key) (vf : ν → U) (l : List (κ × ν)) : List (Key × U) := l.map fun e => (kf e.1, vf e.2)
theorem rnO_iOb (s m : Nat) : rnO s (some (iOb m kf vf left la)) = some (s, m, eL kf vf left) := rfl
theorem stpN_iOb {K : Env → Sto → Prop} {s m d : Nat} {k} : stpN (some (s, m, eL kf vf left)) ρ σ d K k = ((isE left → K (upd ρ d (.tup [.one (.d (.bool false))])) σ) ∧
  ∀ i y, atI left i y → K (upd ρ d (.tup [.one (.d (.bool true)), (kf y.1).u, vf y.2])) (upd σ s (some (iOb m kf vf (left.eraseIdx i) (some y))))) := by
 rw [bX]
 unfold eL isE atI iOb
 apply propext
 constructor
 ·rintro ⟨h1, h2⟩
  refine ⟨fun h => h1 (by rw [h]; rfl), fun i y hy => ?_⟩
  have := h2 i (kf y.1, vf y.2) (by rw [List.getElem?_map, hy]; rfl)
  have he : (left.map fun e => (kf e.1, vf e.2)).eraseIdx i = (left.eraseIdx i).map fun e => (kf e.1, vf e.2) := erase_map _ _ _
  rw [he] at this
  exact this
 ·rintro ⟨h1, h2⟩
  refine ⟨fun h => h1 (List.map_eq_nil_iff.1 h), fun i x hx => ?_⟩
  rw [List.getElem?_map] at hx
  cases hy : left[i]? with
  | none => rw [hy] at hx; cases hx
  | some y =>
   rw [hy] at hx
   cases hx
   have he : (left.map fun e => (kf e.1, vf e.2)).eraseIdx i = (left.eraseIdx i).map fun e => (kf e.1, vf e.2) := erase_map _ _ _
   rw [he]
   exact h2 i y hy
end
def colL {ε α : Type} (W : Nat) (ok : List α → Bool) (g : ε → List α) (es : List ε) (out : List α) : Option (List α) := if (out.length + (es.flatMap g).length) * W ≤ 140737488355328 ∧ ok (out ++ es.flatMap g) = true then some (out ++ es.flatMap g) else none
theorem colL_some {ε α : Type} {W : Nat} {ok : List α → Bool} {g : ε → List α} {es : List ε} {out tt : List α} (h : colL W ok g es out = some tt) : (out.length + (es.flatMap g).length) * W ≤ 140737488355328 ∧ ok tt = true ∧ tt = out ++ es.flatMap g := by
 unfold colL at h
 split at h
 ·rename_i hh; cases h; exact ⟨hh.1, hh.2, rfl⟩
 ·cases h
theorem i8 {ε : Type} : ∀ {l : List ε} {i : Nat} {y : ε}, l[i]? = some y → (y :: l.eraseIdx i).Perm l
 | [], i, y, h => by simp at h
 | x :: l, 0, y, h => by simp at h; subst h; exact List.Perm.refl _
 | x :: l, i + 1, y, h => by
  simp only [List.getElem?_cons_succ] at h
  simp only [List.eraseIdx_cons_succ]
  exact (List.Perm.swap x y _).trans ((i8 h).cons x)
theorem fitE_w : ∀ {L : List (Nat × V)} {ρ : Env}, ap L ρ → FitEW L ρ
 | [], _, _ => trivial
 | x :: l, _, h => ⟨by rw [h.1]; exact V.wk_refl _, fitE_w h.2⟩
theorem fitS_w : ∀ {M : List (Nat × Ob)} {σ : Sto}, ar M σ → FitSW M σ
 | [], _, _ => trivial
 | x :: l, _, h => ⟨by rw [h.1]; exact obWk_refl _, fitS_w h.2⟩
def RdC {ε α : Type} (cx : Cx) (L : List (Nat × V)) (M : List ε → Option ε → List α → List (Nat × Ob)) (F : List α → Exit → Env → Sto → Prop) (b : ε → List α → Option (List α)) (left : List ε) (o : List α) (e : Exit) (ρ : Env) (σ : Sto) : Prop :=
 (e = .normal ∧ ∃ i y o', atI left i y ∧ b y o = some o' ∧ EE cx (b4 L (M (left.eraseIdx i) (some y) o')) ρ σ) ∨ (e ≠ .normal ∧ isE left ∧ F o e ρ σ)
section
variable {ε α : Type} {cx : Cx} {L : List (Nat × V)} {M : List ε → Option ε → List α → List (Nat × Ob)} {F : List α → Exit → Env → Sto → Prop} {b : ε → List α → Option (List α)} {left : List ε} {o o' : List α} {ρ : Env} {σ : Sto}
theorem rdc_next {i : Nat} {y : ε} (hy : atI left i y) (hb : b y o = some o') (h : EE cx (b4 L (M (left.eraseIdx i) (some y) o')) ρ σ) : RdC cx L M F b left o .normal ρ σ := .inl ⟨rfl, i, y, o', hy, hb, h⟩
theorem rdc_out {e : Exit} (hl : isE left) (he : e ≠ .normal) (h : F o e ρ σ) : RdC cx L M F b left o e ρ σ := .inr ⟨he, hl, h⟩
end
theorem loop_colL {P : Program} {cx : Cx} {ε α : Type} {W : Nat} {ok : List α → Bool} {g : ε → List α} {es : List ε} {out tt : List α} (hh : colL W ok g es out = some tt)
  (L : List (Nat × V)) (M : List ε → Option ε → List α → List (Nat × Ob)) (F : List α → Exit → Env → Sto → Prop) {c : Code} (hn : cK (L.map (·.1)) = true) (hm : ∀ a b o, cK ((M a b o).map (·.1)) = true)
  (b : ε → List α → Option (List α)) (hb : ∀ y o, (o.length + (g y).length) * W ≤ 140737488355328 → b y o = some (o ++ g y))
  (hstep : ∀ left la o, (∀ i y, atI left i y → ∃ o', b y o = some o') → ∀ ρ σ, Fits L (M left la o) ρ σ → Swp P cx c ρ σ (RdC cx L M F b left o))
  {ρ : Env} {σ : Sto} (hE : Fits L (M es none out) ρ σ) : Swp P cx (.loop c) ρ σ (fun e ρ σ => ∃ o, o.Perm tt ∧ F o e ρ σ) := by
 obtain ⟨hW, _, rfl⟩ := colL_some hh
 refine swp_loop (fun n ρ σ => EE cx (fun ρ σ => ∃ left la done, n = left.length ∧ (done ++ left).Perm es ∧ b4 L (M left la (out ++ done.flatMap g)) ρ σ) ρ σ) es.length
  (EE.here ⟨es, none, [], rfl, List.Perm.refl _, by rw [List.flatMap_nil, List.append_nil]; exact ⟨fitE_w hE.1, fitS_w hE.2⟩⟩) ?_
 rintro n ρ σ ⟨ρ', σ', hw, left, la, done, rfl, hp, hE⟩
 have hbd : ∀ i y, atI left i y → b y (out ++ done.flatMap g) = some ((out ++ done.flatMap g) ++ g y) := fun i y hy => by
  refine hb y _ ?_
  have h1 : (done ++ y :: left.eraseIdx i).Perm es := ((i8 hy).append_left done).trans hp
  have h2 := (h1.flatMap_right g).length_eq
  simp only [List.flatMap_append, List.flatMap_cons, List.length_append] at h2
  refine Nat.le_trans (Nat.mul_le_mul_right W ?_) hW
  rw [List.length_append]
  omega
 refine Swp.pre hw (sw_gen L (M left la _) hn (hm _ _ _) hE fun ρ σ hE => ?_)
 refine (hstep left la _ (fun i y hy => ⟨_, hbd i y hy⟩) ρ σ hE).mono fun e ρ σ hq => ?_
 rcases hq with ⟨rfl, i, y, o', hy, ho, ρ2, σ2, hw2, hE2⟩ | ⟨hne, hl, hF⟩
 ·have h1 : (done ++ y :: left.eraseIdx i).Perm es := ((i8 hy).append_left done).trans hp
  have h3 := (i8 hy).length_eq
  simp only [List.length_cons] at h3
  rw [hbd i y hy] at ho
  cases ho
  refine ⟨(left.eraseIdx i).length, by omega, ρ2, σ2, hw2, left.eraseIdx i, some y, done ++ [y], rfl, ?_, ?_⟩
  ·rw [List.append_assoc]; exact h1
  ·rw [List.flatMap_append, List.flatMap_singleton, ← List.append_assoc]; exact hE2
 ·unfold isE at hl
  subst hl
  rw [List.append_nil] at hp
  have : (out ++ done.flatMap g).Perm (out ++ es.flatMap g) := (hp.flatMap_right g).append_left out
  cases e with
  | normal => exact absurd rfl hne
  | _ => exact ⟨_, this, hF⟩
theorem appL_one {α : Type} {W : Nat} {l m : List α} (hw : 0 < W) (h : (l.length + m.length) * W ≤ 140737488355328) : eF W l m = some (l ++ m) := if_pos ⟨hw, h⟩
theorem insS_srt {α : Type} {cf : α → α → Int} (hO : SWO (ltOf cf)) (x : α) : ∀ {l : List α}, l.Pairwise (fun x y => ¬ cf y x < 0) → (insS cf x l).Pairwise fun x y => ¬ cf y x < 0
 | [], _ => by simp [insS]
 | y :: l, h => by
  unfold insS
  rw [List.pairwise_cons] at h
  split
  ·rename_i hxy
   refine List.Pairwise.cons (fun z hz hzx => ?_) (List.Pairwise.cons h.1 h.2)
   rcases List.mem_cons.1 hz with rfl | hz
   ·have := hO.trans x z x (by simpa [ltOf] using hxy) (by simpa [ltOf] using hzx)
    rw [hO.irrefl] at this; cases this
   ·have := hO.trans z x y (by simpa [ltOf] using hzx) (by simpa [ltOf] using hxy)
    exact h.1 z hz (by simpa [ltOf] using this)
  ·rename_i hxy
   refine List.Pairwise.cons (fun z hz => ?_) (insS_srt hO x h.2)
   rcases List.mem_cons.1 ((insS_perm x l).subset hz) with rfl | hz
   ·exact hxy
   ·exact h.1 z hz
theorem isort_srt {α : Type} {cf : α → α → Int} (hO : SWO (ltOf cf)) : ∀ l : List α, (ed cf l).Pairwise fun x y => ¬ cf y x < 0
 | [] => List.Pairwise.nil
 | x :: l => insS_srt hO x (isort_srt hO l)
theorem sortM_perm {α : Type} {cf : α → α → Int} (hO : SWO (ltOf cf)) {l m : List α} (hp : l.Perm m) : gM cf l = gM cf m := by
 have key : ∀ {l m : List α}, l.Perm m → eB cf (ed cf m) = true → ed cf l = ed cf m := fun {l m} hp hs => by
  refine strict_uniq hO (strict_pair hO hs) ?_ ((dp l).trans (hp.trans (dp m).symm))
  exact isort_srt hO l
 unfold gM
 cases hs : eB cf (ed cf m) with
 | true => rw [key hp hs, hs, hp.length_eq]
 | false =>
  cases hs2 : eB cf (ed cf l) with
  | true => rw [key hp.symm hs2, hs2] at hs; cases hs
  | false => rfl
attribute [simp] rRange_map rgT_some rgD_map rgO_mOb rEntry_iter reO_iOb rNext_iter rnO_iOb iOb_wipe iOb_wk iOb_ren C_wk_iter
attribute [simp high] stpN_iOb
attribute [-simp] bX dz dJ fw
end Go.AM
