/-
  The machine: operations one by one, with calls.
  The machine: regions that draw their order.
  The machine: regions that draw their order, the run and the law.
  The machine: code and calls.
  The machine: the law of regions that draw their order.
  The machine: the law of regions that draw their order, continued.
  The machine: what it says of code and of calls holds of the program.
-/
import Derived.Test.YtdjclgfbggfpaaaGreatDoorMxx1
import Derived.LoopN
import Derived.Test.YtdjclgfbggfpaaaGreatDoorAmN
namespace Go.MX
open Go.RowKit
open Go.AM (Blw Key KK TI TabFact Tab TabOk Tb TbOk)
section
variable {tb : Tb} {h : Hf} {n0 n1 : Nat} {v : MV} {us : Ups}
def IdsOk (h : Hf) (n0 n1 : Nat) (us : Ups) : Prop := n0 ≤ n1 ∧ ∀ p ∈ us, (∃ o, h p.1 = some o) ∨ (n0 ≤ p.1 ∧ p.1 < n1)
theorem ids_none' : IdsOk h n0 (n0 + 1) [] := ⟨Nat.le_succ _, fun _ hp => by cases hp⟩
theorem ids_old {i : Nat} {o : Option MO} {o' : MO} (hi : h i = some o') : IdsOk h n0 n0 [(i, o)] := ⟨Nat.le_refl _, fun p hp => by simp at hp; subst hp; exact .inl ⟨_, hi⟩⟩
theorem ids_old' {i : Nat} {o : Option MO} {o' : MO} (hi : h i = some o') : IdsOk h n0 (n0 + 1) [(i, o)] := ⟨Nat.le_succ _, fun p hp => by simp at hp; subst hp; exact .inl ⟨_, hi⟩⟩
theorem ids_new {o : Option MO} : IdsOk h n0 (n0 + 1) [(n0, o)] := ⟨Nat.le_succ _, fun p hp => by simp at hp; subst hp; exact .inr ⟨Nat.le_refl _, Nat.lt_succ_self _⟩⟩
theorem ids_two {i : Nat} {o p : Option MO} {o' : MO} (hi : h i = some o') : IdsOk h n0 (n0 + 1) [(i, o), (n0, p)] := ⟨Nat.le_succ _, fun q hq => by
 simp at hq
 rcases hq with rfl | rfl
 ·exact .inl ⟨_, hi⟩
 ·exact .inr ⟨Nat.le_refl _, Nat.lt_succ_self _⟩⟩
theorem mgrow_ids {sz m : Nat} {e : TypeId} {ys : List MV} {x : MV} (hv : mgrow h n0 sz e m ys x = some (v, us)) : IdsOk h n0 (n0 + 1) us := by
 unfold mgrow at hv
 repeat' split at hv
 all_goals first
  | (cases hv; done)
  | (cases hv; exact ids_none')
  | (cases hv; exact ids_new)
  | (cases hv; exact ids_old' (by assumption))
  | (cases hv; exact ids_two (by assumption))
theorem mappend_ids {t tx : TypeId} {x y : MV} (hv : mappend tb h n0 t tx x y = some (v, us, n1)) : IdsOk h n0 n1 us := by
 unfold mappend at hv
 repeat' split at hv
 all_goals first
  | (cases hv; done)
  | (cases hv; exact mgrow_ids (by assumption))
theorem mmakeSlice_ids {t : TypeId} {x y : MV} (hv : mmakeSlice tb n0 t x y = some (v, us, n1)) : IdsOk h n0 n1 us := by
 unfold mmakeSlice at hv
 repeat' split at hv
 all_goals first
  | (cases hv; done)
  | (cases hv; exact ids_new)
theorem mbuildSlice_ids {t : TypeId} {k : Nat} {ps : List (Nat × MV)} (hv : mbuildSlice tb n0 t k ps = some (v, us, n1)) : IdsOk h n0 n1 us := by
 unfold mbuildSlice at hv
 repeat' split at hv
 all_goals first
  | (cases hv; done)
  | (cases hv; exact ids_new)
theorem mbytes_ids {src dst : TypeId} {x : MV} (hv : mbytes tb n0 src dst x = some (v, us, n1)) : IdsOk h n0 n1 us := by
 unfold mbytes at hv
 repeat' split at hv
 all_goals first | (cases hv; done) | (cases hv; exact ids_new)
theorem mstore_ids {t : TypeId} {x y : MV} (hv : mstore tb h t x y = some (v, us)) : IdsOk h n0 n0 us := by
 unfold mstore at hv
 repeat' split at hv
 all_goals first
  | (cases hv; done)
  | (cases hv; exact ids_old (by assumption))
theorem mmapSet_ids {t : TypeId} {m k x : MV} (hv : mmapSet tb h t m k x = some (v, us)) : IdsOk h n0 n0 us := by
 unfold mmapSet at hv
 repeat' split at hv
 all_goals first
  | (cases hv; done)
  | (cases hv; exact ids_old (by assumption))
theorem mdelete_ids {t : TypeId} {m k : MV} (hv : mdelete tb h t m k = some (v, us)) : IdsOk h n0 n0 us := by
 unfold mdelete at hv
 repeat' split at hv
 all_goals first
  | (cases hv; done)
  | (cases hv; exact ids_old (by assumption))
theorem mentry_ids {t : TypeId} {m k : MV} (hv : mentry tb h t m k = some (v, us)) : IdsOk h n0 n0 us := by
 unfold mentry at hv
 repeat' split at hv
 all_goals first
  | (cases hv; done)
  | (cases hv; exact ids_old (by assumption))
theorem mentryStore_ids {m k x : MV} (hv : mentryStore h m k x = some (v, us)) : IdsOk h n0 n0 us := by
 unfold mentryStore at hv
 repeat' split at hv
 all_goals first
  | (cases hv; done)
  | (cases hv; exact ids_old (by assumption))
theorem eev_ids {x : Operand → MV} {op : Op} (hv : eev tb h n0 x op = some (v, us, n1)) : IdsOk h n0 n1 us := by
 unfold eev at hv
 split at hv
 ·repeat' split at hv
  all_goals first | (cases hv; done) | (cases hv; exact ids_new)
 ·repeat' split at hv
  all_goals first | (cases hv; done) | (cases hv; exact ids_new)
 ·exact mbuildSlice_ids hv
 ·exact mmakeSlice_ids hv
 ·repeat' split at hv
  all_goals first | (cases hv; done) | (cases hv; exact ids_new)
 ·exact mbytes_ids hv
 ·obtain ⟨h1, rfl⟩ := noNew_eq hv; exact mstore_ids h1
 ·obtain ⟨h1, rfl⟩ := noNew_eq hv; exact mmapSet_ids h1
 ·obtain ⟨h1, rfl⟩ := noNew_eq hv; exact mmapSet_ids h1
 ·obtain ⟨h1, rfl⟩ := noNew_eq hv; exact mentry_ids h1
 ·obtain ⟨h1, rfl⟩ := noNew_eq hv; exact mentryStore_ids h1
 ·split at hv
  ·exact mappend_ids hv
  ·obtain ⟨h1, rfl⟩ := noNew_eq hv; exact mdelete_ids h1
  ·cases hv
 ·cases hv
end
theorem app_le {h g : Hf} : ∀ {us : Ups}, Hf.le h g → Hf.le (app h us) (app g us)
 | [], hl => hl
 | (i, o) :: us, hl => by
  refine app_le (us := us) (h := upd h i o) (g := upd g i o) fun j x hj => ?_
  by_cases hji : j = i
  ·subst hji; rw [upd_same] at hj ⊢; exact hj
  ·rw [upd_other _ _ hji] at hj ⊢; exact hl j x hj
theorem app_other {h : Hf} : ∀ {us : Ups} {j : Nat}, (∀ p ∈ us, p.1 ≠ j) → app h us j = h j
 | [], _, _ => rfl
 | (i, o) :: us, j, hj => by
  rw [app, app_other fun p hp => hj p (by simp [hp]), upd_other _ _ (Ne.symm (hj (i, o) (by simp)))]
structure Grow (w0 : World) (φ : Pl) (g h : Hf) (n0 n1 : Nat) (h' : Hf) (φ' : Pl) (g' : Hf) (w' : World) : Prop where
 core : Core w0 φ' g' w'
 le : Pl.le φ φ'
 dom : ∀ i, φ i = none → φ' i ≠ none → n0 ≤ i ∧ i < n1
 sub : Hf.le h' g'
 keep : ∀ i o, g i = some o → h i = none → g' i = some o
def Fresh (φ : Pl) (n0 n1 : Nat) : Prop := ∀ i, n0 ≤ i → i < n1 → φ i = none
def DomOk (h : Hf) (n0 n1 : Nat) (h' : Hf) : Prop := n0 ≤ n1 ∧ ∀ i, h' i ≠ none → h i ≠ none ∨ (n0 ≤ i ∧ i < n1)
theorem Core.some_of {w0 w : World} {φ : Pl} {g : Hf} (hc : Core w0 φ g w) {i : Nat} {o : MO} (hi : g i = some o) : φ i ≠ none := by
 obtain ⟨b, base, sp, h1, _⟩ := hc.objs i o hi
 rw [h1]
 simp
theorem DomOk.refl (h : Hf) (n : Nat) : DomOk h n n h := ⟨Nat.le_refl _, fun _ hi => .inl hi⟩
theorem DomOk.trans {h h' h'' : Hf} {n0 n1 n2 : Nat} (a : DomOk h n0 n1 h') (b : DomOk h' n1 n2 h'') : DomOk h n0 n2 h'' :=
 ⟨Nat.le_trans a.1 b.1, fun i hi => by
  rcases b.2 i hi with h1 | h1
  ·rcases a.2 i h1 with h2 | h2
   ·exact .inl h2
   ·exact .inr ⟨h2.1, Nat.lt_of_lt_of_le h2.2 b.1⟩
  ·exact .inr ⟨Nat.le_trans a.1 h1.1, h1.2⟩⟩
theorem Grow.refl {w0 w : World} {φ : Pl} {g h : Hf} {n : Nat} (hc : Core w0 φ g w) (hl : Hf.le h g) : Grow w0 φ g h n n h φ g w := ⟨hc, Pl.le_refl _, fun _ h1 h2 => absurd h1 h2, hl, fun _ _ h1 _ => h1⟩
theorem Fresh.left {φ : Pl} {n0 n1 n2 : Nat} (hf : Fresh φ n0 n2) (h : n1 ≤ n2) : Fresh φ n0 n1 := fun i h1 h2 => hf i h1 (Nat.lt_of_lt_of_le h2 h)
theorem Grow.fresh {w0 w' : World} {φ φ' : Pl} {g h h' g' : Hf} {n0 n1 n2 : Nat} (a : Grow w0 φ g h n0 n1 h' φ' g' w') (hf : Fresh φ n0 n2) (h01 : n0 ≤ n1) : Fresh φ' n1 n2 := fun i h1 h2 => by
 cases hp : φ' i with
 | none => rfl
 | some x =>
  have h3 := hf i (Nat.le_trans h01 h1) h2
  have := a.dom i h3 (by rw [hp]; simp)
  omega
theorem Grow.trans {w0 w w' w'' : World} {φ φ' φ'' : Pl} {g g' g'' h h' h'' : Hf} {n0 n1 n2 : Nat} (hc : Core w0 φ g w) (hf : Fresh φ n0 n2) (d1 : DomOk h n0 n1 h') (d2 : n1 ≤ n2) (a : Grow w0 φ g h n0 n1 h' φ' g' w') (b : Grow w0 φ' g' h' n1 n2 h'' φ'' g'' w'') : Grow w0 φ g h n0 n2 h'' φ'' g'' w'' where
 core := b.core
 le := Pl.le_trans a.le b.le
 dom := fun i h1 h2 => by
  cases hp : φ' i with
  | none => have := b.dom i hp h2; exact ⟨Nat.le_trans d1.1 this.1, this.2⟩
  | some x => have := a.dom i h1 (by rw [hp]; simp); exact ⟨this.1, Nat.lt_of_lt_of_le this.2 d2⟩
 sub := b.sub
 keep := fun i o h1 h2 => b.keep i o (a.keep i o h1 h2) (by
  cases hh : h' i with
  | none => rfl
  | some x =>
   rcases d1.2 i (by rw [hh]; simp) with h3 | h3
   ·exact absurd h2 h3
   ·exact absurd (hf i h3.1 (by omega)) (hc.some_of h1))
def OpT (P : Program) (o : Oper) (x : Operand → MV) (h : Hf) (n0 : Nat) (v : MV) (h' : Hf) (n1 : Nat) : Prop :=
 DomOk h n0 n1 h' ∧ ∀ (w0 : World) (φ : Pl) (g : Hf) (a : Act) (w : World) (next : Act → World → Prop) (Q : Exit → Act → World → Prop), Core w0 φ g w → Hf.le h g → Fresh φ n0 n1 → (∀ y ∈ o.op.operands, vr φ (x y) (a.eval y)) →
  (∀ φ' g' w' u, Grow w0 φ g h n0 n1 h' φ' g' w' → vr φ' v u → next (a.put o.dst u) w') → o.wp P a w next Q
section
variable {P : Program} {tb : Tb} {o : Oper} {x : Operand → MV} {h : Hf} {n0 n1 : Nat} {v : MV}
theorem OpT.quiet (ht : TbOk P tb) (hv : qev tb h x o.op = some v) : OpT P o x h n0 v h n0 := by
 refine ⟨DomOk.refl _ _, fun w0 φ g a w next Q hc hl hf hop hn => ?_⟩
 obtain ⟨u, h1, h2⟩ := qev_sound ht hc hl hv hop
 unfold Oper.wp
 rw [h1]
 exact hn φ g w u (Grow.refl hc hl) h2
theorem OpT.eff (ht : TbOk P tb) {us : Ups} (hv : eev tb h n0 x o.op = some (v, us, n1)) : OpT P o x h n0 v (app h us) n1 := by
 have hid := eev_ids hv
 refine ⟨⟨hid.1, fun i hi => ?_⟩, fun w0 φ g a w next Q hc hl hf hop hn => ?_⟩
 ·by_cases hin : ∃ p ∈ us, p.1 = i
  ·obtain ⟨p, hp, rfl⟩ := hin
   rcases hid.2 p hp with ⟨o, ho⟩ | h1
   ·exact .inl (by rw [ho]; simp)
   ·exact .inr h1
  ·rw [app_other fun p hp e => hin ⟨p, hp, e⟩] at hi
   exact .inl hi
 ·obtain ⟨φ', w', r, u, h1, h2, h3, h4, h5, h6⟩ := eev_sound ht hc hl hf hv hop
  have hg : Grow w0 φ g h n0 n1 (app h us) φ' (app g us) w' := ⟨h6, h4, h5, app_le hl, fun i o hi hn => by
   rw [app_other fun p hp e => ?_]
   ·exact hi
   ·subst e
    rcases hid.2 p hp with ⟨o', ho'⟩ | h7
    ·rw [hn] at ho'; cases ho'
    ·exact absurd (hf p.1 h7.1 h7.2) (hc.some_of hi)⟩
  unfold Oper.wp
  rw [h1]
  rcases h2 with rfl | ⟨rfl, rfl⟩
  ·exact hn φ' _ w' u hg h3
  ·exact hn φ' _ w' undef hg h3
end
def CallT (P : Program) (f : FuncId) (args : List MV) (h : Hf) (n0 : Nat) (v : MV) (h' : Hf) (n1 : Nat) : Prop :=
 (∃ fn, P.funcs[f]? = some fn ∧ (fn.name == "runtime.NumGoroutine") = false ∧ fn.body.isNone = false) ∧ DomOk h n0 n1 h' ∧
 ∀ (w0 : World) (φ : Pl) (g : Hf) (w : World), Core w0 φ g w → Hf.le h g → Fresh φ n0 n1 → ∀ vals : List Value, vrs φ args vals →
  Calls P f vals.toArray w fun e w' => ∃ φ' g' u, e = .returned u ∧ Grow w0 φ g h n0 n1 h' φ' g' w' ∧ vr φ' v u
abbrev CallF := FuncId → List MV → Tr MO → Nat → Option (MV × Tr MO × Nat)
def CallFOk (P : Program) (cf : CallF) : Prop := ∀ f args H n0 v H' n1, cf f args H n0 = some (v, H', n1) → CallT P f args H.get n0 v H'.get n1
def goCall (x : Operand → MV) (c : Call) : Option (FuncId × List MV) := match c.callee with
 | .value f => match x f with
  | .fn g xs ys => some (g, xs ++ (c.args.toList.map x ++ ys))
  | _ => none
 | _ => none
def isGo : Op → Option Call
 | .call c => match c.callee with
  | .value _ => some c
  | _ => none
 | _ => none
def happ (H : Tr MO) : Ups → Tr MO
 | [] => H
 | (i, o) :: r => happ (H.set i o) r
def astep (tb : Tb) (cf : CallF) (x : Operand → MV) (H : Tr MO) (n : Nat) (op : Op) : Option (MV × Tr MO × Nat) := match isGo op with
 | some c => match goCall x c with
  | some (g, args) => cf g args H n
  | none => none
 | none => match qev tb H.get x op with
  | some v => some (v, H, n)
  | none => match eev tb H.get n x op with
   | some (v, us, n') => some (v, happ H us, n')
   | none => none
theorem set_upd (H : Tr MO) (i : Nat) (o : Option MO) : (H.set i o).get = upd H.get i o := by
 funext j
 rw [Tr.get_set]
 rfl
theorem happ_app : ∀ (us : Ups) (H : Tr MO), (happ H us).get = app H.get us
 | [], _ => rfl
 | (i, o) :: us, H => by rw [happ, happ_app us, set_upd]; rfl
section
variable {P : Program} {tb : Tb} {o : Oper} {x : Operand → MV} {h : Hf} {n0 n1 : Nat} {v : MV}
theorem isGo_eq {op : Op} {c : Call} (h : isGo op = some c) : op = .call c := by
 unfold isGo at h
 split at h
 ·split at h
  ·cases h; rfl
  ·cases h
 ·cases h
theorem run_callFunc {w : World} {f : FuncId} {args : Array Value} (h : ∃ fn, P.funcs[f]? = some fn ∧ (fn.name == "runtime.NumGoroutine") = false ∧ fn.body.isNone = false) : (callFunc f args).run P w = .ok (.enter f args) w := by
 obtain ⟨fn, h1, h2, h3⟩ := h
 simp only [callFunc, Sem.run_bind, program, Sem.run, Result.andThen_ok, h1, h2, h3, Bool.false_eq_true, if_false, Sem.run_pure]
theorem OpT.call {c : Call} {f : FuncId} {args : List MV} {h' : Hf} (hop : o.op = .call c) (hg : goCall x c = some (f, args)) (hc : CallT P f args h n0 v h' n1) : OpT P o x h n0 v h' n1 := by
 obtain ⟨hfn, hd, hcall⟩ := hc
 refine ⟨hd, fun w0 φ g a w next Q hco hl hf hops hn => ?_⟩
 unfold goCall at hg
 split at hg
 ·rename_i y hy
  split at hg
  ·rename_i g' xs ys hx
   cases hg
   have h1 := hops y (by simp [hop, Op.operands, Call.operands, hy])
   rw [hx] at h1
   simp only [vr] at h1
   obtain ⟨p, q, he, h2, h3⟩ := h1
   have hargs : vrs φ (c.args.toList.map x) (c.args.map a.eval).toList := by
    rw [Array.toList_map]
    exact vrs_map fun z hz => hops z (by simp only [hop, Op.operands, Call.operands]; exact Array.mem_append.2 (.inr (by simpa using hz)))
   have hall := vrs_append h2 (vrs_append hargs h3)
   have hrun : (execOp a.eval o).run P w = .ok (.enter f (p.toList ++ ((c.args.map a.eval).toList ++ q.toList)).toArray) w := by
    have : (p.toList ++ ((c.args.map a.eval).toList ++ q.toList)).toArray = p ++ c.args.map a.eval ++ q := by apply Array.ext'; simp
    rw [this]
    simp only [execOp, hop, resolve, hy, Deferred.ofValue, he, Sem.run_bind, Sem.run_pure, Result.andThen_ok, invoke]
    exact run_callFunc hfn
   unfold Oper.wp
   rw [hrun]
   refine Calls.mono (hcall w0 φ g w hco hl hf _ hall) fun e w' he => ?_
   obtain ⟨φ', g'', u, rfl, hgr, hu⟩ := he
   exact hn φ' g'' w' u hgr hu
  ·cases hg
 ·cases hg
theorem astep_sound (ht : TbOk P tb) {cf : CallF} (hcf : CallFOk P cf) {H H' : Tr MO} (hv : astep tb cf x H n0 o.op = some (v, H', n1)) : OpT P o x H.get n0 v H'.get n1 := by
 unfold astep at hv
 split at hv
 ·rename_i c hc
  split at hv
  ·rename_i g args hg
   exact OpT.call (isGo_eq hc) hg (hcf _ _ _ _ _ _ _ hv)
  ·cases hv
 ·split at hv
  ·rename_i v' hq
   cases hv
   exact OpT.quiet ht hq
  ·split at hv
   ·rename_i v' us n' he
    cases hv
    rw [happ_app]
    exact OpT.eff ht he
   ·cases hv
end
def ev (ρ : Tr MV) : Env := fun t => match ρ.get t with
 | some v => v
 | none => .tup []
def putT (nt : Nat) (ρ : Tr MV) : Option Nat → MV → Option (Tr MV)
 | none, _ => some ρ
 | some d, v => match Nat.blt d nt with
  | true => some (ρ.set d (some v))
  | false => none
def putE (ρ : Env) (d : Option Nat) (v : MV) : Env := match d with
 | some d => upd ρ d v
 | none => ρ
theorem putT_ev {nt : Nat} {ρ ρ' : Tr MV} {d : Option Nat} {v : MV} (h : putT nt ρ d v = some ρ') : ev ρ' = putE (ev ρ) d v ∧ ∀ x, d = some x → x < nt := by
 cases d with
 | none => cases h; exact ⟨rfl, fun _ h => by cases h⟩
 | some d =>
  simp only [putT] at h
  split at h
  ·rename_i hb
   cases h
   refine ⟨?_, fun x hx => by cases hx; exact blt_lt hb⟩
   funext t
   simp only [ev, putE, upd, Tr.get_set]
   by_cases htd : t = d
   ·simp [htd]
   ·simp [htd]
  ·cases h
def gst (all : List Oper) (ρ : Env) : Option (Nat × Bool) → Option Bool
 | none => some true
 | some (j, want) => match (all[j]?).bind (·.dst) with
  | some s => match ρ s with
   | .bool b => some (b == want)
   | .tup [] => some false
   | _ => none
  | none => none
theorem gst_sound {φ : Pl} {ops : Array Oper} {ρ : Env} {o : Oper} {tmps : Array Value} {b : Bool} (h : gst ops.toList ρ o.guard = some b) (hs : ∀ t ∈ o.looksAt ops, vr φ (ρ t) (tmps.getD t undef)) : Region.wanted o (yielded ops tmps) = b := by
 unfold gst at h
 unfold Region.wanted
 split at h
 ·rename_i hg
  cases h
  rw [hg]
 ·rename_i j want hg
  rw [hg]
  simp only
  split at h
  ·rename_i s hsl
   have hsl' : (ops[j]?).bind (·.dst) = some s := by simpa using hsl
   have hv := hs s (by simp [Oper.looksAt, hg, hsl'])
   unfold yielded
   rw [hsl', Option.bind_some]
   have hget : tmps[s]? = some (tmps.getD s undef) ∨ tmps.getD s undef = undef ∧ tmps[s]? = none := by
    by_cases hlt : s < tmps.size
    ·left; simp [hlt]
    ·right; simp [hlt]
   split at h
   ·rename_i b' hb
    rw [hb] at hv
    simp only [vr] at hv
    rcases hget with h1 | ⟨h1, _⟩
    ·rw [h1, hv]
     simp only
     cases h
     cases b' <;> cases want <;> rfl
    ·rw [h1] at hv; cases hv
   ·rename_i hb
    cases h
    rw [hb] at hv
    simp only [vr, vrs] at hv
    obtain ⟨arr, hv, harr⟩ := hv
    rcases hget with h1 | ⟨_, h1⟩
    ·rw [h1, hv]; rfl
    ·rw [h1]; rfl
   ·cases h
  ·cases h
theorem slots_put {φ : Pl} {ρ : Env} {a : Act} {d : Option Nat} {v : MV} {u : Value} (hs : ∀ t, vr φ (ρ t) (a.tmps.getD t undef)) (hv : vr φ v u) (hd : ∀ x, d = some x → x < a.tmps.size) : ∀ t, vr φ (putE ρ d v t) ((a.put d u).tmps.getD t undef) := by
 intro t
 cases d with
 | none => exact hs t
 | some d =>
  have hlt := hd d rfl
  simp only [putE]
  by_cases htd : t = d
  ·subst htd
   rw [upd_same]
   simpa [Act.put, hlt] using hv
  ·rw [upd_other _ _ htd]
   simpa [Act.put, Array.getElem?_setIfInBounds_ne (Ne.symm htd)] using hs t
theorem size_put (a : Act) (d : Option Nat) (u : Value) : (a.put d u).tmps.size = a.tmps.size := by cases d <;> simp [Act.put]
theorem defers_put (a : Act) (d : Option Nat) (u : Value) : (a.put d u).defers = a.defers := by cases d <;> rfl
structure St where
 ρ : Tr MV
 H : Tr MO
 n : Nat
def ostep (tb : Tb) (cf : CallF) (nt : Nat) (all : List Oper) (o : Oper) (s : St) : Option St := match gst all (ev s.ρ) o.guard with
 | some true => match astep tb cf (oev (ev s.ρ)) s.H s.n o.op with
  | some (v, H', n') => match putT nt s.ρ o.dst v with
   | some ρ' => some ⟨ρ', H', n'⟩
   | none => none
  | none => none
 | some false => match putT nt s.ρ o.dst (.tup []) with
  | some ρ' => some ⟨ρ', s.H, s.n⟩
  | none => none
 | none => none
def mops (tb : Tb) (cf : CallF) (nt : Nat) (all : List Oper) : List Oper → St → Option St
 | [], s => some s
 | o :: l, s => match ostep tb cf nt all o s with
  | some s' => mops tb cf nt all l s'
  | none => none
structure Sim (nt : Nat) (φ : Pl) (ρ : Env) (a : Act) : Prop where
 slots : ∀ t, vr φ (ρ t) (a.tmps.getD t undef)
 defers : a.defers = []
 room : nt ≤ a.tmps.size
theorem Sim.le {nt : Nat} {φ ψ : Pl} {ρ : Env} {a : Act} (h : Pl.le φ ψ) (s : Sim nt φ ρ a) : Sim nt ψ ρ a := ⟨fun t => vr_le h _ _ (s.slots t), s.defers, s.room⟩
theorem Sim.put {nt : Nat} {φ : Pl} {ρ : Env} {a : Act} {d : Option Nat} {v : MV} {u : Value} (s : Sim nt φ ρ a) (hv : vr φ v u) (hd : ∀ x, d = some x → x < nt) : Sim nt φ (putE ρ d v) (a.put d u) :=
 ⟨slots_put s.slots hv fun x hx => Nat.lt_of_lt_of_le (hd x hx) s.room, by rw [defers_put]; exact s.defers, by rw [size_put]; exact s.room⟩
section
variable {P : Program} {tb : Tb} {cf : CallF} {nt : Nat}
theorem ostep_sound (ht : TbOk P tb) (hcf : CallFOk P cf) {ops : Array Oper} {i : Nat} {o : Oper} {s s' : St} (hi : ops[i]? = some o) (hv : ostep tb cf nt ops.toList o s = some s') :
  DomOk s.H.get s.n s'.n s'.H.get ∧ ∀ (w0 : World) (φ : Pl) (g : Hf) (a : Act) (w : World) (K : Act → World → Prop) (Q : Exit → Act → World → Prop), Core w0 φ g w → Hf.le s.H.get g → Fresh φ s.n s'.n → Sim nt φ (ev s.ρ) a →
   (∀ φ' g' a' w', Grow w0 φ g s.H.get s.n s'.n s'.H.get φ' g' w' → Sim nt φ' (ev s'.ρ) a' → K a' w') → wpOp P ops Q i K a w := by
 unfold ostep at hv
 split at hv
 ·rename_i hg
  split at hv
  ·rename_i v H' n' hst
   split at hv
   ·rename_i ρ' hp
    cases hv
    obtain ⟨h1, h2⟩ := putT_ev hp
    obtain ⟨hd, hop⟩ := astep_sound ht hcf hst
    refine ⟨hd, fun w0 φ g a w K Q hc hl hf hs hk => ?_⟩
    unfold wpOp
    simp only [hi]
    rw [gst_sound hg fun t _ => hs.slots t, if_pos rfl]
    exact .inl (hop w0 φ g a w K Q hc hl hf (fun y _ => vr_oev hs.slots y) fun φ' g' w' u hgr hu => hk φ' g' _ w' hgr (by rw [h1]; exact (hs.le hgr.le).put hu h2))
   ·cases hv
  ·cases hv
 ·rename_i hg
  split at hv
  ·rename_i ρ' hp
   cases hv
   obtain ⟨h1, h2⟩ := putT_ev hp
   refine ⟨DomOk.refl _ _, fun w0 φ g a w K Q hc hl hf hs hk => ?_⟩
   unfold wpOp
   simp only [hi]
   rw [gst_sound hg fun t _ => hs.slots t, if_neg (by simp)]
   exact hk φ g _ w (Grow.refl hc hl) (by rw [h1]; exact hs.put (by simp [vr, undef, vrs]) h2)
  ·cases hv
 ·cases hv
theorem mops_sound (ht : TbOk P tb) (hcf : CallFOk P cf) {ops : Array Oper} : ∀ (l : List Oper) (i : Nat) (s s' : St), (∀ j, l[j]? = ops[i + j]?) → mops tb cf nt ops.toList l s = some s' →
  DomOk s.H.get s.n s'.n s'.H.get ∧ ∀ (w0 : World) (φ : Pl) (g : Hf) (a : Act) (w : World) (Q : Exit → Act → World → Prop), Core w0 φ g w → Hf.le s.H.get g → Fresh φ s.n s'.n → Sim nt φ (ev s.ρ) a →
   (∀ φ' g' a' w', Grow w0 φ g s.H.get s.n s'.n s'.H.get φ' g' w' → Sim nt φ' (ev s'.ρ) a' → Q .normal a' w') → wpOps P ops Q (List.range' i l.length) a w
 | [], i, s, s', _, hv => by
  cases hv
  exact ⟨DomOk.refl _ _, fun w0 φ g a w Q hc hl hf hs hk => hk φ g a w (Grow.refl hc hl) hs⟩
 | o :: l, i, s, s', hl, hv => by
  simp only [mops] at hv
  split at hv
  ·rename_i s1 h1
   have hi : ops[i]? = some o := by simpa using (hl 0).symm
   obtain ⟨d1, k1⟩ := ostep_sound ht hcf hi h1
   obtain ⟨d2, k2⟩ := mops_sound ht hcf l (i + 1) s1 s' (fun j => by have := hl (j + 1); simpa [Nat.add_assoc, Nat.add_comm 1 j] using this) hv
   refine ⟨d1.trans d2, fun w0 φ g a w Q hc hlh hf hs hk => ?_⟩
   rw [List.length_cons, List.range'_succ, wpOps_cons]
   refine k1 w0 φ g a w _ Q hc hlh (hf.left d2.1) hs fun φ' g' a' w' hgr hs' => ?_
   refine k2 w0 φ' g' a' w' Q hgr.core hgr.sub (hgr.fresh hf d1.1) hs' fun φ2 g2 a2 w2 hgr2 hs2 => ?_
   exact hk φ2 g2 a2 w2 (Grow.trans hc hf d1 d2.1 hgr hgr2) hs2
  ·cases hv
end
end Go.MX
namespace Go.MX
open Go.RowKit
open Go.AM (Blw Key KK TI TabFact Tab TabOk Tb TbOk)
def isEff : Op → Bool
 | .store _ _ _ => true
 | .mapUpdate _ _ _ _ => true
 | .insert _ _ _ _ => true
 | .mapEntry _ _ _ => true
 | .entryStore _ _ _ _ => true
 | .call c => match c.callee with
  | .builtin .append => true
  | .builtin .delete => true
  | .builtin _ => false
  | _ => true
 | _ => false
def isAl : Op → Bool
 | .alloc _ => true
 | .box _ _ => true
 | .buildSlice _ _ _ => true
 | .makeSlice _ _ _ => true
 | .makeMap _ _ => true
 | _ => false
def Closed (ops : Array Oper) (listed : Array Bool) : Prop := ∀ (j : Nat) (o : Oper), ops[j]? = some o → listed.getD j false = true → ∀ e ∈ o.after, Region.binds .any e = true → listed.getD e.on false = true
theorem closed_set {ops : Array Oper} {listed : Array Bool} {i : Nat} (h : Closed ops listed) (hr : i ∈ Region.ready .any ops listed) : Closed ops (listed.setIfInBounds i true) := by
 intro j o ho hl e he hb
 by_cases hij : i = j
 ·subst hij
  obtain ⟨_, o', ho', hall⟩ := mem_ready.1 hr
  rw [ho] at ho'
  cases ho'
  exact getD_set_true (hall e he hb)
 ·rw [getD_set_ne false hij] at hl
  exact getD_set_true (h j o ho hl e he hb)
def predL (o : Oper) : List Nat := o.after.toList.filterMap fun e => match Region.binds .any e with
 | true => some e.on
 | false => none
def getM (T : Tr Nat) (i : Nat) : Nat := match T.get i with
 | some m => m
 | none => 0
def orMask (T : Tr Nat) : List Nat → Nat → Nat
 | [], s => s
 | j :: l, s => orMask T l (s ||| (2 ^ j ||| getM T j))
def masks : List Oper → Nat → Tr Nat → Tr Nat
 | [], _, T => T
 | o :: l, i, T => masks l (i + 1) (T.set i (some (orMask T (predL o) 0)))
def M (T : Tr Nat) (i j : Nat) : Bool := (getM T i).testBit j
theorem mem_predL {o : Oper} {j : Nat} : j ∈ predL o ↔ ∃ e ∈ o.after, Region.binds .any e = true ∧ e.on = j := by
 unfold predL
 rw [List.mem_filterMap]
 constructor
 ·rintro ⟨e, he, h⟩
  split at h
  ·rename_i hb
   cases h
   exact ⟨e, by simpa using he, hb, rfl⟩
  ·cases h
 ·rintro ⟨e, he, hb, rfl⟩
  exact ⟨e, by simpa using he, by rw [hb]⟩
theorem orMask_bit {T : Tr Nat} {b : Nat} : ∀ (l : List Nat) (s : Nat), (orMask T l s).testBit b = true → s.testBit b = true ∨ ∃ j ∈ l, j = b ∨ M T j b = true
 | [], s, h => .inl h
 | j :: l, s, h => by
  rcases orMask_bit l _ h with h1 | ⟨k, hk, h2⟩
  ·simp only [Nat.testBit_or, Bool.or_eq_true, Nat.testBit_two_pow, decide_eq_true_eq] at h1
   rcases h1 with h1 | h1 | h1
   ·exact .inl h1
   ·exact .inr ⟨j, by simp, .inl h1⟩
   ·exact .inr ⟨j, by simp, .inr h1⟩
  ·exact .inr ⟨k, by simp [hk], h2⟩
theorem masks_get : ∀ (l : List Oper) (i : Nat) (T : Tr Nat) (j : Nat), j < i → (masks l i T).get j = T.get j
 | [], _, _, _, _ => rfl
 | o :: l, i, T, j, h => by
  rw [masks, masks_get l (i + 1) _ j (by omega), Tr.get_set_ne _ _ (by omega)]
theorem masks_bit : ∀ (l : List Oper) (i : Nat) (T : Tr Nat), (∀ j, i ≤ j → T.get j = none) → ∀ (k : Nat) (o : Oper) (b : Nat), l[k]? = some o → M (masks l i T) (i + k) b = true → ∃ j ∈ predL o, j = b ∨ (j < i + k ∧ M (masks l i T) j b = true)
 | [], _, _, _, k, o, b, hk, _ => by simp at hk
 | o :: l, i, T, hT, 0, o', b, hk, hb => by
  simp only [List.getElem?_cons_zero, Option.some.injEq] at hk
  subst hk
  have hg : getM (masks (o :: l) i T) (i + 0) = orMask T (predL o) 0 := by
   unfold getM
   rw [masks, masks_get l (i + 1) _ _ (by omega), Nat.add_zero, Tr.get_set_same]
  unfold M at hb
  rw [hg] at hb
  rcases orMask_bit _ _ hb with h1 | ⟨j, hj, h2⟩
  ·simp at h1
  ·refine ⟨j, hj, h2.imp id fun h3 => ?_⟩
   have hji : j < i := by
    rcases Nat.lt_or_ge j i with h | h
    ·exact h
    ·exfalso
     unfold M getM at h3
     rw [hT j h] at h3
     simp at h3
   refine ⟨by omega, ?_⟩
   unfold M getM at h3 ⊢
   rw [masks, masks_get l (i + 1) _ _ (by omega), Tr.get_set_ne _ _ (by omega)]
   exact h3
 | o :: l, i, T, hT, k + 1, o', b, hk, hb => by
  simp only [List.getElem?_cons_succ] at hk
  have := masks_bit l (i + 1) (T.set i (some (orMask T (predL o) 0))) (fun j hj => by rw [Tr.get_set_ne _ _ (by omega)]; exact hT j (by omega)) k o' b hk (by rw [masks] at hb; rw [show i + 1 + k = i + (k + 1) from by omega]; exact hb)
  rw [show i + 1 + k = i + (k + 1) from by omega] at this
  exact this
section
variable {ops : Array Oper} {T : Tr Nat}
theorem mask_listed (hT : T = masks ops.toList 0 .nil) {listed : Array Bool} (hcl : Closed ops listed) : ∀ (i : Nat) (o : Oper), ops[i]? = some o → (∀ j ∈ predL o, listed.getD j false = true) → ∀ b, M T i b = true → listed.getD b false = true := by
 intro i
 induction i using Nat.strongRecOn with
 | _ i ih =>
  intro o ho hp b hb
  have h0 := masks_bit ops.toList 0 .nil (fun _ _ => rfl) i o b (by simpa using ho) (by rw [Nat.zero_add, ← hT]; exact hb)
  rw [Nat.zero_add, ← hT] at h0
  obtain ⟨j, hj, h1⟩ := h0
  rcases h1 with rfl | ⟨hji, h1⟩
  ·exact hp j hj
  ·have hlj := hp j hj
   cases hoj : ops[j]? with
   | none =>
    have : i < ops.size := (Array.getElem?_eq_some_iff.1 ho).1
    have : ops.size ≤ j := by simpa using hoj
    omega
   | some oj =>
    refine ih j hji oj hoj (fun k hk => ?_) b h1
    obtain ⟨e, he, hbe, rfl⟩ := mem_predL.1 hk
    exact hcl j oj hoj hlj e he hbe
theorem pred_listed {listed : Array Bool} (hcl : Closed ops listed) {i : Nat} {o : Oper} (ho : ops[i]? = some o) (hl : listed.getD i false = true) : ∀ j ∈ predL o, listed.getD j false = true := fun j hj => by
 obtain ⟨e, he, hbe, rfl⟩ := mem_predL.1 hj
 exact hcl i o ho hl e he hbe
theorem pred_ready {listed : Array Bool} {i : Nat} {o : Oper} (ho : ops[i]? = some o) (hr : i ∈ Region.ready .any ops listed) : ∀ j ∈ predL o, listed.getD j false = true := fun j hj => by
 obtain ⟨_, o', ho', hall⟩ := mem_ready.1 hr
 rw [ho] at ho'
 cases ho'
 obtain ⟨e, he, hbe, rfl⟩ := mem_predL.1 hj
 exact hall e he hbe
end
structure OI where
 lk : Nat
 ds : Nat
 eff : Bool
 al : Bool
def tmpBits : List Operand → Nat → Nat
 | [], s => s
 | .tmp t :: l, s => tmpBits l (s ||| 2 ^ t)
 | _ :: l, s => tmpBits l s
def gdBits (all : List Oper) : Option (Nat × Bool) → Nat
 | none => 0
 | some (j, _) => match (all[j]?).bind (·.dst) with
  | some t => 2 ^ t
  | none => 0
def dsBits : Option Nat → Nat
 | none => 0
 | some d => 2 ^ d
def oi (all : List Oper) (o : Oper) : OI := ⟨tmpBits o.op.operands.toList (gdBits all o.guard), dsBits o.dst, isEff o.op, isAl o.op⟩
def needB (a b : OI) : Bool := bif Nat.beq (a.ds &&& (b.lk ||| b.ds)) 0 then bif Nat.beq (b.ds &&& a.lk) 0 then b.eff && (a.eff || a.al) else true else true
def rowOk (T : Tr Nat) (i : Nat) (a : OI) : List OI → Nat → Bool
 | [], _ => true
 | b :: l, j => bif needB a b then bif M T j i then rowOk T i a l (j + 1) else false else rowOk T i a l (j + 1)
def pairsOk (T : Tr Nat) : List OI → Nat → Bool
 | [], _ => true
 | a :: l, i => bif rowOk T i a l (i + 1) then pairsOk T l (i + 1) else false
def predsOk : List Oper → Nat → Bool
 | [], _ => true
 | o :: l, i => bif (predL o).all (fun j => Nat.blt j i) then predsOk l (i + 1) else false
def sck (all : List Oper) (T : Tr Nat) : Bool := predsOk all 0 && pairsOk T (all.map (oi all)) 0
theorem tmpBits_mem : ∀ (l : List Operand) (s t : Nat), (.tmp t ∈ l ∨ s.testBit t = true) → (tmpBits l s).testBit t = true
 | [], s, t, h => by
  rcases h with h | h
  ·cases h
  ·exact h
 | x :: l, s, t, h => by
  cases x with
  | tmp u =>
   refine tmpBits_mem l _ t ?_
   rcases h with h | h
   ·rcases List.mem_cons.1 h with h | h
    ·cases h; right; simp [Nat.testBit_or]
    ·exact .inl h
   ·right; simp [Nat.testBit_or, h]
  | _ =>
   refine tmpBits_mem l _ t ?_
   rcases h with h | h
   ·rcases List.mem_cons.1 h with h | h
    ·cases h
    ·exact .inl h
   ·exact .inr h
theorem oi_looks {ops : Array Oper} {o : Oper} {t : Nat} (h : t ∈ o.looksAt ops) : (oi ops.toList o).lk.testBit t = true := by
 refine tmpBits_mem _ _ t ?_
 unfold Oper.looksAt at h
 rcases List.mem_append.1 h with h | h
 ·left
  obtain ⟨x, hx, hxt⟩ := List.mem_filterMap.1 h
  cases x with
  | tmp u => simp at hxt; subst hxt; exact hx
  | _ => cases hxt
 ·right
  split at h
  ·rename_i g w hg
   rw [hg]
   simp only [gdBits]
   have h' : (ops[g]?).bind (·.dst) = some t := by simpa using h
   have : (ops.toList[g]?).bind (·.dst) = some t := by simpa using h'
   rw [this]
   simp
  ·cases h
theorem and_zero {a b t : Nat} (h : a &&& b = 0) (ha : a.testBit t = true) (hb : b.testBit t = true) : False := by
 have : (a &&& b).testBit t = true := by simp [Nat.testBit_and, ha, hb]
 rw [h] at this
 simp at this
theorem rowOk_get {T : Tr Nat} {i : Nat} {a : OI} : ∀ (l : List OI) (j k : Nat) (b : OI), rowOk T i a l j = true → l[k]? = some b → needB a b = true → M T (j + k) i = true
 | [], _, k, _, _, h, _ => by simp at h
 | c :: l, j, k, b, h, hk, hn => by
  simp only [rowOk] at h
  cases k with
  | zero =>
   simp at hk
   subst hk
   rw [hn] at h
   simp only [cond_true] at h
   cases hm : M T j i with
   | true => rfl
   | false => rw [hm] at h; cases h
  | succ k =>
   have h' : rowOk T i a l (j + 1) = true := by
    cases hn' : needB a c with
    | true =>
     rw [hn'] at h
     simp only [cond_true] at h
     cases hm : M T j i with
     | true => rw [hm] at h; exact h
     | false => rw [hm] at h; cases h
    | false => rw [hn'] at h; exact h
   have := rowOk_get l (j + 1) k b h' (by simpa using hk) hn
   rwa [show j + 1 + k = j + (k + 1) from by omega] at this
theorem pairsOk_get {T : Tr Nat} : ∀ (l : List OI) (i0 i j : Nat) (a b : OI), pairsOk T l i0 = true → l[i]? = some a → l[j]? = some b → i < j → needB a b = true → M T (i0 + j) (i0 + i) = true
 | [], _, i, _, _, _, _, h, _, _, _ => by simp at h
 | c :: l, i0, i, j, a, b, h, hi, hj, hij, hn => by
  simp only [pairsOk] at h
  cases hr : rowOk T i0 c l (i0 + 1) with
  | false => rw [hr] at h; cases h
  | true =>
   rw [hr] at h
   simp only [cond_true] at h
   cases j with
   | zero => omega
   | succ j =>
    cases i with
    | zero =>
     simp at hi
     subst hi
     have := rowOk_get l (i0 + 1) j b hr (by simpa using hj) hn
     rwa [show i0 + 1 + j = i0 + (j + 1) from by omega] at this
    | succ i =>
     have := pairsOk_get l (i0 + 1) i j a b h (by simpa using hi) (by simpa using hj) (by omega) hn
     rwa [show i0 + 1 + j = i0 + (j + 1) from by omega, show i0 + 1 + i = i0 + (i + 1) from by omega] at this
theorem predsOk_get : ∀ (l : List Oper) (i0 k : Nat) (o : Oper), predsOk l i0 = true → l[k]? = some o → ∀ j ∈ predL o, j < i0 + k
 | [], _, k, _, _, h => by simp at h
 | c :: l, i0, k, o, h, hk => by
  simp only [predsOk] at h
  cases ha : (predL c).all (fun j => Nat.blt j i0) with
  | false => rw [ha] at h; cases h
  | true =>
   rw [ha] at h
   simp only [cond_true] at h
   cases k with
   | zero =>
    simp at hk
    subst hk
    intro j hj
    have := List.all_eq_true.1 ha j hj
    exact blt_lt this
   | succ k =>
    intro j hj
    have := predsOk_get l (i0 + 1) k o h (by simpa using hk) j hj
    omega
section
variable {ops : Array Oper} {T : Tr Nat}
theorem need_pair (hs : sck ops.toList T = true) {i j : Nat} {a b : Oper} (hi : ops[i]? = some a) (hj : ops[j]? = some b) (hij : i < j) (hn : needB (oi ops.toList a) (oi ops.toList b) = true) : M T j i = true := by
 simp only [sck, Bool.and_eq_true] at hs
 have := pairsOk_get _ 0 i j _ _ hs.2 (by rw [List.getElem?_map]; simp [hi]) (by rw [List.getElem?_map]; simp [hj]) hij hn
 simpa using this
theorem need_eff (hs : sck ops.toList T = true) {i j : Nat} {a b : Oper} (hi : ops[i]? = some a) (hj : ops[j]? = some b) (hij : i < j) (hb : isEff b.op = true) (ha : isEff a.op = true ∨ isAl a.op = true) : M T j i = true := by
 refine need_pair hs hi hj hij ?_
 unfold needB
 have h1 : (oi ops.toList b).eff = true := hb
 have h2 : ((oi ops.toList a).eff || (oi ops.toList a).al) = true := by
  rcases ha with ha | ha
  ·have : (oi ops.toList a).eff = true := ha
   simp [this]
  ·have : (oi ops.toList a).al = true := ha
   simp [this]
 rw [h1, h2]
 cases Nat.beq ((oi ops.toList a).ds &&& ((oi ops.toList b).lk ||| (oi ops.toList b).ds)) 0 <;> cases Nat.beq ((oi ops.toList b).ds &&& (oi ops.toList a).lk) 0 <;> rfl
theorem need_tmp (hs : sck ops.toList T = true) {i j t : Nat} {a b : Oper} (hi : ops[i]? = some a) (hj : ops[j]? = some b) (hij : i < j)
  (h : (a.dst = some t ∧ (t ∈ b.looksAt ops ∨ b.dst = some t)) ∨ (b.dst = some t ∧ t ∈ a.looksAt ops)) : M T j i = true := by
 refine need_pair hs hi hj hij ?_
 have ds : ∀ o : Oper, o.dst = some t → (oi ops.toList o).ds.testBit t = true := fun o ho => by
  show (dsBits o.dst).testBit t = true
  rw [ho]
  simp [dsBits]
 unfold needB
 rw [nbeq, nbeq]
 by_cases h1 : (oi ops.toList a).ds &&& ((oi ops.toList b).lk ||| (oi ops.toList b).ds) = 0
 ·rw [decide_eq_true h1]
  by_cases h2 : (oi ops.toList b).ds &&& (oi ops.toList a).lk = 0
  ·exfalso
   rcases h with ⟨ha, hb⟩ | ⟨hb, ha⟩
   ·refine and_zero h1 (ds a ha) ?_
    rw [Nat.testBit_or, Bool.or_eq_true]
    rcases hb with hb | hb
    ·exact .inl (oi_looks hb)
    ·exact .inr (ds b hb)
   ·exact and_zero h2 (ds b hb) (oi_looks ha)
  ·rw [decide_eq_false h2]; rfl
 ·rw [decide_eq_false h1]; rfl
end
end Go.MX
namespace Go.MX
open Go.RowKit
open Go.AM (Blw Key KK TI TabFact Tab TabOk Tb TbOk)
structure DS where
 s : St
 ks : List (Nat × Tr MO)
 al : List (Nat × Nat × MO)
 rs : List (Nat × Op × Tr MV × MV)
def noH : Hf := fun _ => none
def dstep (tb : Tb) (cf : CallF) (nt : Nat) (all : List Oper) (i : Nat) (o : Oper) (d : DS) : Option DS := match gst all (ev d.s.ρ) o.guard with
 | none => none
 | some false => match putT nt d.s.ρ o.dst (.tup []) with
  | some ρ' => some ⟨⟨ρ', d.s.H, d.s.n⟩, (match isEff o.op with | true => (i + 1, d.s.H) :: d.ks | false => d.ks), d.al, d.rs⟩
  | none => none
 | some true => match isEff o.op with
  | true => match astep tb cf (oev (ev d.s.ρ)) d.s.H d.s.n o.op with
   | some (v, H', n') => match putT nt d.s.ρ o.dst v with
    | some ρ' => some ⟨⟨ρ', H', n'⟩, (i + 1, H') :: d.ks, d.al, d.rs⟩
    | none => none
   | none => none
  | false => match isAl o.op with
   | true => match eev tb noH d.s.n (oev (ev d.s.ρ)) o.op with
    | some (v, [(id, some ob)], n') => match Nat.beq id d.s.n, Nat.beq n' (d.s.n + 1), putT nt d.s.ρ o.dst v with
     | true, true, some ρ' => some ⟨⟨ρ', d.s.H.set d.s.n (some ob), d.s.n + 1⟩, d.ks, (i, d.s.n, ob) :: d.al, d.rs⟩
     | _, _, _ => none
    | _ => none
   | false => match isGo o.op, qev tb noH (oev (ev d.s.ρ)) o.op with
    | none, some v => match putT nt d.s.ρ o.dst v with
     | some ρ' => some ⟨⟨ρ', d.s.H, d.s.n⟩, d.ks, d.al, d.rs⟩
     | none => none
    | none, none => match qev tb d.s.H.get (oev (ev d.s.ρ)) o.op with
     | some v => match putT nt d.s.ρ o.dst v with
      | some ρ' => some ⟨⟨ρ', d.s.H, d.s.n⟩, d.ks, d.al, (i, o.op, d.s.ρ, v) :: d.rs⟩
      | none => none
     | none => none
    | _, _ => none
def drun (tb : Tb) (cf : CallF) (nt : Nat) (all : List Oper) : List Oper → Nat → DS → Option DS
 | [], _, d => some d
 | o :: l, i, d => match dstep tb cf nt all i o d with
  | some d' => drun tb cf nt all l (i + 1) d'
  | none => none
def addAl (T : Tr Nat) (i ce : Nat) : List (Nat × Nat × MO) → Tr MO → Tr MO
 | [], K => K
 | (a, id, ob) :: l, K => addAl T i ce l (bif M T i a && Nat.ble ce a then K.set id (some ob) else K)
def mayB (T : Tr Nat) (i ce : Nat) : List (Nat × Tr MO) → Bool
 | [] => true
 | (c, _) :: l => bif Nat.beq c 0 then mayB T i ce l else bif (bif M T i (c - 1) then Nat.ble c ce else true) then bif (bif M T (c - 1) i then Nat.blt ce c else true) then mayB T i ce l else false else false
def rechk (tb : Tb) (T : Tr Nat) (all : List (Nat × Tr MO)) (al : List (Nat × Nat × MO)) (i : Nat) (op : Op) (ρ : Tr MV) (v : MV) : List (Nat × Tr MO) → Bool
 | [] => true
 | (ce, K) :: l => bif mayB T i ce all then match qev tb (addAl T i ce al K).get (oev (ev ρ)) op with
   | some v' => bif v'.same v then rechk tb T all al i op ρ v l else false
   | none => false
  else rechk tb T all al i op ρ v l
def rechks (tb : Tb) (T : Tr Nat) (ks : List (Nat × Tr MO)) (al : List (Nat × Nat × MO)) : List (Nat × Op × Tr MV × MV) → Bool
 | [] => true
 | (i, op, ρ, v) :: l => bif rechk tb T ks al i op ρ v ks then rechks tb T ks al l else false
def mdraw (tb : Tb) (cf : CallF) (nt : Nat) (all : List Oper) (s : St) : Option St := match sck all (masks all 0 .nil), drun tb cf nt all all 0 ⟨s, [(0, s.H)], [], []⟩ with
 | true, some d => match rechks tb (masks all 0 .nil) d.ks d.al d.rs with
  | true => some d.s
  | false => none
 | _, _ => none
end Go.MX
namespace Go.MX
open Go.RowKit
open Go.AM (Blw Key KK TI TabFact Tab TabOk Tb TbOk)
def itr (f : St → Option (Exit × St)) : Nat → St → Option (Exit × St)
 | 0, _ => none
 | k + 1, s => match f s with
  | some (.normal, s') => itr f k s'
  | r => r
structure FI where
 code : Code
 nt : Nat
 res : List ResultVar
def args0 : List MV → Nat → Tr MV → Tr MV
 | [], _, ρ => ρ
 | v :: l, i, ρ => args0 l (i + 1) (ρ.set i (some v))
def res1 (tb : Tb) (ρ : Env) (h : Hf) : ResultVar → Option MV
 | .tmp t => some (ρ t)
 | .cell a t => mload tb h t (ρ a)
def resL (tb : Tb) (ρ : Env) (h : Hf) : List ResultVar → Option (List MV)
 | [] => some []
 | r :: l => match res1 tb ρ h r, resL tb ρ h l with
  | some v, some vs => some (v :: vs)
  | _, _ => none
def resV (tb : Tb) (ρ : Env) (h : Hf) (l : List ResultVar) : Option MV := match resL tb ρ h l with
 | some [v] => some v
 | some vs => some (.tup vs)
 | none => none
abbrev ExF := FuncId → List MV → Option MV
end Go.MX
namespace Go.MX
open Go.RowKit
open Go.AM (Blw Key KK TI TabFact Tab TabOk Tb TbOk)
section
variable {tb : Tb} {cf : CallF} {nt : Nat} {all : List Oper}
theorem dstep_cases {i : Nat} {o : Oper} {d d' : DS} (h : dstep tb cf nt all i o d = some d') : ∃ v, putT nt d.s.ρ o.dst v = some d'.s.ρ ∧
  ((gst all (ev d.s.ρ) o.guard = some false ∧ v = .tup [] ∧ d'.s.H = d.s.H ∧ d'.s.n = d.s.n ∧ d'.al = d.al ∧ d'.rs = d.rs ∧ d'.ks = (match isEff o.op with | true => (i + 1, d.s.H) :: d.ks | false => d.ks)) ∨
   (gst all (ev d.s.ρ) o.guard = some true ∧ isEff o.op = true ∧ astep tb cf (oev (ev d.s.ρ)) d.s.H d.s.n o.op = some (v, d'.s.H, d'.s.n) ∧ d'.al = d.al ∧ d'.rs = d.rs ∧ d'.ks = (i + 1, d'.s.H) :: d.ks) ∨
   (gst all (ev d.s.ρ) o.guard = some true ∧ isEff o.op = false ∧ isAl o.op = true ∧ ∃ ob, eev tb noH d.s.n (oev (ev d.s.ρ)) o.op = some (v, [(d.s.n, some ob)], d.s.n + 1) ∧ d'.s.H = d.s.H.set d.s.n (some ob) ∧ d'.s.n = d.s.n + 1 ∧ d'.al = (i, d.s.n, ob) :: d.al ∧ d'.rs = d.rs ∧ d'.ks = d.ks) ∨
   (gst all (ev d.s.ρ) o.guard = some true ∧ isEff o.op = false ∧ isAl o.op = false ∧ qev tb noH (oev (ev d.s.ρ)) o.op = some v ∧ d'.s.H = d.s.H ∧ d'.s.n = d.s.n ∧ d'.al = d.al ∧ d'.rs = d.rs ∧ d'.ks = d.ks) ∨
   (gst all (ev d.s.ρ) o.guard = some true ∧ isEff o.op = false ∧ isAl o.op = false ∧ d'.s.H = d.s.H ∧ d'.s.n = d.s.n ∧ d'.al = d.al ∧ d'.rs = (i, o.op, d.s.ρ, v) :: d.rs ∧ d'.ks = d.ks)) := by
 unfold dstep at h
 split at h
 ·cases h
 ·rename_i hg
  split at h
  ·rename_i ρ' hp
   cases h
   exact ⟨_, hp, .inl ⟨hg, rfl, rfl, rfl, rfl, rfl, rfl⟩⟩
  ·cases h
 ·rename_i hg
  split at h
  ·rename_i he
   split at h
   ·rename_i v H' n' ha
    split at h
    ·rename_i ρ' hp
     cases h
     exact ⟨_, hp, .inr (.inl ⟨hg, he, ha, rfl, rfl, rfl⟩)⟩
    ·cases h
   ·cases h
  ·rename_i he
   split at h
   ·rename_i hal
    split at h
    ·rename_i v id ob n' hev
     split at h
     ·rename_i ρ' h1 h2 hp
      cases h
      have h1 := Nat.eq_of_beq_eq_true h1
      have h2 := Nat.eq_of_beq_eq_true h2
      subst h1 h2
      exact ⟨_, hp, .inr (.inr (.inl ⟨hg, he, hal, ob, hev, rfl, rfl, rfl, rfl, rfl⟩))⟩
     ·cases h
    ·cases h
   ·rename_i hal
    split at h
    ·rename_i v hq hgo
     split at h
     ·rename_i ρ' hp
      cases h
      exact ⟨_, hp, .inr (.inr (.inr (.inl ⟨hg, he, hal, by assumption, rfl, rfl, rfl, rfl, rfl⟩)))⟩
     ·cases h
    ·split at h
     ·rename_i v hq
      split at h
      ·rename_i ρ' hp
       cases h
       exact ⟨_, hp, .inr (.inr (.inr (.inr ⟨hg, he, hal, rfl, rfl, rfl, rfl, rfl⟩)))⟩
      ·cases h
     ·cases h
    ·cases h
theorem drun_states : ∀ (l : List Oper) (i : Nat) (d d' : DS), drun tb cf nt all l i d = some d' → ∃ D : Nat → DS, D 0 = d ∧ D l.length = d' ∧ ∀ j o, l[j]? = some o → dstep tb cf nt all (i + j) o (D j) = some (D (j + 1))
 | [], i, d, d', h => by
  cases h
  exact ⟨fun _ => d, rfl, rfl, fun j o hj => by simp at hj⟩
 | o :: l, i, d, d', h => by
  simp only [drun] at h
  split at h
  ·rename_i d1 h1
   obtain ⟨D, hD0, hD1, hD⟩ := drun_states l (i + 1) d1 d' h
   refine ⟨fun k => match k with | 0 => d | k + 1 => D k, rfl, hD1, fun j o' hj => ?_⟩
   cases j with
   | zero =>
    simp only [List.getElem?_cons_zero, Option.some.injEq] at hj
    subst hj
    simpa [hD0] using h1
   | succ j =>
    have := hD j o' (by simpa using hj)
    rwa [show i + 1 + j = i + (j + 1) from by omega] at this
  ·cases h
end
structure Lw (P : Program) (tb : Tb) (cf : CallF) (nt : Nat) (ops : Array Oper) (T : Tr Nat) (D : Nat → DS) : Prop where
 ht : TbOk P tb
 hcf : CallFOk P cf
 hT : T = masks ops.toList 0 .nil
 sck : sck ops.toList T = true
 step : ∀ j o, ops[j]? = some o → dstep tb cf nt ops.toList j o (D j) = some (D (j + 1))
 al0 : (D 0).al = []
 ks0 : (D 0).ks = [(0, (D 0).s.H)]
 rck : ∀ i op ρ v, (i, op, ρ, v) ∈ (D ops.size).rs → ∀ ce K, (ce, K) ∈ (D ops.size).ks → mayB T i ce (D ops.size).ks = true → qev tb (addAl T i ce (D ops.size).al K).get (oev (ev ρ)) op = some v
section
variable {P : Program} {tb : Tb} {cf : CallF} {nt : Nat} {ops : Array Oper} {T : Tr Nat} {D : Nat → DS}
abbrev hp (D : Nat → DS) (i : Nat) : Hf := (D i).s.H.get
abbrev nx (D : Nat → DS) (i : Nat) : Nat := (D i).s.n
abbrev En (D : Nat → DS) (i : Nat) : Env := ev (D i).s.ρ
def isE (ops : Array Oper) (j : Nat) : Prop := ∃ o, ops[j]? = some o ∧ isEff o.op = true
theorem Lw.env (L : Lw P tb cf nt ops T D) {i : Nat} {o : Oper} (ho : ops[i]? = some o) : ∃ v, En D (i + 1) = putE (En D i) o.dst v ∧ ∀ x, o.dst = some x → x < nt := by
 obtain ⟨v, h1, _⟩ := dstep_cases (L.step i o ho)
 exact ⟨v, putT_ev h1⟩
theorem Lw.quietH (L : Lw P tb cf nt ops T D) {i : Nat} {o : Oper} (ho : ops[i]? = some o) (he : isEff o.op = false) :
  (hp D (i + 1) = hp D i ∧ nx D (i + 1) = nx D i ∧ (D (i + 1)).al = (D i).al) ∨ ∃ ob, hp D (i + 1) = upd (hp D i) (nx D i) (some ob) ∧ nx D (i + 1) = nx D i + 1 ∧ (D (i + 1)).al = (i, nx D i, ob) :: (D i).al ∧ isAl o.op = true := by
 obtain ⟨v, _, h⟩ := dstep_cases (L.step i o ho)
 rcases h with ⟨_, _, h3, h4, h5, _⟩ | ⟨_, h2, _⟩ | ⟨_, _, hal, ob, _, h4, h5, h6, _⟩ | ⟨_, _, _, _, h3, h4, h5, _⟩ | ⟨_, _, _, h3, h4, h5, _⟩
 ·exact .inl ⟨by rw [hp, h3], h4, h5⟩
 ·rw [h2] at he; cases he
 ·exact .inr ⟨ob, by rw [hp, h4, set_upd], h5, h6, hal⟩
 ·exact .inl ⟨by rw [hp, h3], h4, h5⟩
 ·exact .inl ⟨by rw [hp, h3], h4, h5⟩
theorem Lw.dom (L : Lw P tb cf nt ops T D) {i : Nat} {o : Oper} (ho : ops[i]? = some o) : DomOk (hp D i) (nx D i) (nx D (i + 1)) (hp D (i + 1)) := by
 obtain ⟨v, _, h⟩ := dstep_cases (L.step i o ho)
 rcases h with ⟨_, _, h3, h4, _⟩ | ⟨_, _, h3, _⟩ | ⟨_, _, _, ob, _, h4, h5, _⟩ | ⟨_, _, _, _, h3, h4, _⟩ | ⟨_, _, _, h3, h4, _⟩
 ·simp only [hp, nx, h3, h4]; exact DomOk.refl _ _
 ·exact (astep_sound (o := o) L.ht L.hcf h3).1
 ·refine ⟨by simp only [nx, h5]; omega, fun j hj => ?_⟩
  simp only [hp, h4, set_upd] at hj
  by_cases hjn : j = (D i).s.n
  ·exact .inr (by simp only [nx, h5]; omega)
  ·rw [upd_other _ _ hjn] at hj; exact .inl hj
 ·simp only [hp, nx, h3, h4]; exact DomOk.refl _ _
 ·simp only [hp, nx, h3, h4]; exact DomOk.refl _ _
theorem Lw.doms (L : Lw P tb cf nt ops T D) {i : Nat} : ∀ k, i + k ≤ ops.size → DomOk (hp D i) (nx D i) (nx D (i + k)) (hp D (i + k))
 | 0, _ => DomOk.refl _ _
 | k + 1, h => by
  have ho : ∃ o, ops[i + k]? = some o := ⟨ops[i + k]'(by omega), by simp⟩
  obtain ⟨o, ho⟩ := ho
  exact (L.doms k (by omega)).trans (L.dom ho)
theorem Lw.nx_le (L : Lw P tb cf nt ops T D) {i j : Nat} (h : i ≤ j) (hj : j ≤ ops.size) : nx D i ≤ nx D j := by
 have := (L.doms (i := i) (j - i) (by omega)).1
 rwa [show i + (j - i) = j from by omega] at this
theorem Lw.al_mono (L : Lw P tb cf nt ops T D) {i : Nat} : ∀ k, i + k ≤ ops.size → ∀ x ∈ (D i).al, x ∈ (D (i + k)).al
 | 0, _, _, hx => hx
 | k + 1, h, x, hx => by
  have ih := L.al_mono k (by omega) x hx
  obtain ⟨v, _, h⟩ := dstep_cases (L.step (i + k) (ops[i + k]'(by omega)) (by simp))
  rcases h with ⟨_, _, _, _, h5, _⟩ | ⟨_, _, _, h5, _⟩ | ⟨_, _, _, ob, _, _, _, h5, _⟩ | ⟨_, _, _, _, _, _, h5, _⟩ | ⟨_, _, _, _, _, h5, _⟩ <;> (show x ∈ (D (i + k + 1)).al; rw [h5])
  ·exact ih
  ·exact ih
  ·exact List.mem_cons_of_mem _ ih
  ·exact ih
  ·exact ih
theorem Lw.rs_mono (L : Lw P tb cf nt ops T D) {i : Nat} : ∀ k, i + k ≤ ops.size → ∀ x ∈ (D i).rs, x ∈ (D (i + k)).rs
 | 0, _, _, hx => hx
 | k + 1, h, x, hx => by
  have ih := L.rs_mono k (by omega) x hx
  obtain ⟨v, _, h⟩ := dstep_cases (L.step (i + k) (ops[i + k]'(by omega)) (by simp))
  rcases h with ⟨_, _, _, _, _, h5, _⟩ | ⟨_, _, _, _, h5, _⟩ | ⟨_, _, _, ob, _, _, _, _, h5, _⟩ | ⟨_, _, _, _, _, _, _, h5, _⟩ | ⟨_, _, _, _, _, _, h5, _⟩ <;> (show x ∈ (D (i + k + 1)).rs; rw [h5])
  ·exact ih
  ·exact ih
  ·exact ih
  ·exact ih
  ·exact List.mem_cons_of_mem _ ih
theorem Lw.ks_mono (L : Lw P tb cf nt ops T D) {i : Nat} : ∀ k, i + k ≤ ops.size → ∀ x ∈ (D i).ks, x ∈ (D (i + k)).ks
 | 0, _, _, hx => hx
 | k + 1, h, x, hx => by
  have ih := L.ks_mono k (by omega) x hx
  obtain ⟨v, _, h⟩ := dstep_cases (L.step (i + k) (ops[i + k]'(by omega)) (by simp))
  rcases h with ⟨_, _, _, _, _, _, h5⟩ | ⟨_, _, _, _, _, h5⟩ | ⟨_, _, _, ob, _, _, _, _, _, h5⟩ | ⟨_, _, _, _, _, _, _, _, h5⟩ | ⟨_, _, _, _, _, _, _, h5⟩ <;> (show x ∈ (D (i + k + 1)).ks; rw [h5])
  ·split
   ·exact List.mem_cons_of_mem _ ih
   ·exact ih
  ·exact List.mem_cons_of_mem _ ih
  ·exact ih
  ·exact ih
  ·exact ih
theorem Lw.al_spec (L : Lw P tb cf nt ops T D) : ∀ k, k ≤ ops.size → ∀ a id ob, (a, id, ob) ∈ (D k).al → a < k ∧ id = nx D a ∧ nx D (a + 1) = nx D a + 1 ∧ hp D (a + 1) = upd (hp D a) (nx D a) (some ob) ∧ ∃ o, ops[a]? = some o ∧ isEff o.op = false ∧ isAl o.op = true
 | 0, _, a, id, ob, h => by rw [L.al0] at h; cases h
 | k + 1, hk, a, id, ob, h => by
  have ih := L.al_spec k (by omega) a id ob
  have up : (a, id, ob) ∈ (D k).al → a < k + 1 ∧ id = nx D a ∧ nx D (a + 1) = nx D a + 1 ∧ hp D (a + 1) = upd (hp D a) (nx D a) (some ob) ∧ ∃ o, ops[a]? = some o ∧ isEff o.op = false ∧ isAl o.op = true := fun hm => by
   obtain ⟨h1, h2⟩ := ih hm
   exact ⟨by omega, h2⟩
  obtain ⟨v, _, hc⟩ := dstep_cases (L.step k (ops[k]'(by omega)) (by simp))
  rcases hc with ⟨_, _, _, _, h5, _⟩ | ⟨_, _, _, h5, _⟩ | ⟨_, he, hal, ob', _, h4, h6, h5, _⟩ | ⟨_, _, _, _, _, _, h5, _⟩ | ⟨_, _, _, _, _, h5, _⟩ <;> rw [h5] at h
  ·exact up h
  ·exact up h
  ·rcases List.mem_cons.1 h with h | h
   ·cases h
    exact ⟨Nat.lt_succ_self _, rfl, h6, by rw [hp, h4, set_upd], _, by simp, he, hal⟩
   ·exact up h
  ·exact up h
  ·exact up h
theorem Lw.ks_spec (L : Lw P tb cf nt ops T D) : ∀ k, k ≤ ops.size → ∀ c K, (c, K) ∈ (D k).ks → c ≤ k ∧ K = (D c).s.H ∧ (c = 0 ∨ isE ops (c - 1))
 | 0, _, c, K, h => by rw [L.ks0] at h; simp at h; obtain ⟨rfl, rfl⟩ := h; exact ⟨Nat.le_refl _, rfl, .inl rfl⟩
 | k + 1, hk, c, K, h => by
  have ih := L.ks_spec k (by omega) c K
  have up : (c, K) ∈ (D k).ks → c ≤ k + 1 ∧ K = (D c).s.H ∧ (c = 0 ∨ isE ops (c - 1)) := fun hm => by
   obtain ⟨h1, h2⟩ := ih hm
   exact ⟨by omega, h2⟩
  obtain ⟨v, _, hc⟩ := dstep_cases (L.step k (ops[k]'(by omega)) (by simp))
  rcases hc with ⟨_, _, h3, _, _, _, h5⟩ | ⟨_, he, _, _, _, h5⟩ | ⟨_, _, _, ob, _, _, _, _, _, h5⟩ | ⟨_, _, _, _, _, _, _, _, h5⟩ | ⟨_, _, _, _, _, _, _, h5⟩ <;> rw [h5] at h
  ·split at h
   ·rename_i he
    rcases List.mem_cons.1 h with h | h
    ·cases h
     exact ⟨Nat.le_refl _, h3.symm, .inr ⟨_, by simp, he⟩⟩
    ·exact up h
   ·exact up h
  ·rcases List.mem_cons.1 h with h | h
   ·cases h
    exact ⟨Nat.le_refl _, rfl, .inr ⟨_, by simp, he⟩⟩
   ·exact up h
  ·exact up h
  ·exact up h
  ·exact up h
theorem Lw.ks_eff (L : Lw P tb cf nt ops T D) {i : Nat} {o : Oper} (ho : ops[i]? = some o) (he : isEff o.op = true) : (i + 1, (D (i + 1)).s.H) ∈ (D ops.size).ks := by
 have hi : i < ops.size := (Array.getElem?_eq_some_iff.1 ho).1
 have : (i + 1, (D (i + 1)).s.H) ∈ (D (i + 1)).ks := by
  obtain ⟨v, _, hc⟩ := dstep_cases (L.step i o ho)
  rcases hc with ⟨_, _, h3, _, _, _, h5⟩ | ⟨_, _, _, _, _, h5⟩ | ⟨_, h2, _⟩ | ⟨_, h2, _⟩ | ⟨_, h2, _⟩
  ·rw [h5, he, h3]; simp
  ·rw [h5]; simp
  ·rw [he] at h2; cases h2
  ·rw [he] at h2; cases h2
  ·rw [he] at h2; cases h2
 have := L.ks_mono (i := i + 1) (ops.size - (i + 1)) (by omega) _ this
 rwa [show i + 1 + (ops.size - (i + 1)) = ops.size from by omega] at this
theorem Lw.ks_zero (L : Lw P tb cf nt ops T D) : (0, (D 0).s.H) ∈ (D ops.size).ks := by
 have := L.ks_mono (i := 0) ops.size (by omega) (0, (D 0).s.H) (by rw [L.ks0]; simp)
 rwa [Nat.zero_add] at this
end
end Go.MX
namespace Go.MX
open Go.RowKit
open Go.AM (Blw Key KK TI TabFact Tab TabOk Tb TbOk)
section
variable {P : Program} {tb : Tb} {cf : CallF} {nt : Nat} {ops : Array Oper} {T : Tr Nat} {D : Nat → DS}
theorem getD_both {listed : Array Bool} {i : Nat} (h : listed.getD i false = true) : listed.getD i true = true := by
 by_cases hi : i < listed.size
 ·simp [hi] at h ⊢; exact h
 ·simp [hi]
def lastV (D : Nat → DS) (ops : Array Oper) (listed : Array Bool) (t : Nat) : Nat → MV
 | 0 => En D 0 t
 | j + 1 => if listed.getD j false = true ∧ (ops[j]?).bind (·.dst) = some t then En D (j + 1) t else lastV D ops listed t j
theorem lastV_skip {listed : Array Bool} {t m : Nat} : ∀ k, (∀ j, m ≤ j → j < m + k → (ops[j]?).bind (·.dst) = some t → listed.getD j false = false) → lastV D ops listed t (m + k) = lastV D ops listed t m
 | 0, _ => rfl
 | k + 1, h => by
  rw [show m + (k + 1) = (m + k) + 1 from rfl, lastV, if_neg, lastV_skip k fun j h1 h2 => h j h1 (by omega)]
  rintro ⟨h1, h2⟩
  rw [h (m + k) (by omega) (by omega) h2] at h1
  cases h1
theorem lastV_full (L : Lw P tb cf nt ops T D) {listed : Array Bool} {t : Nat} : ∀ k, k ≤ ops.size → (∀ j, j < k → (ops[j]?).bind (·.dst) = some t → listed.getD j false = true) → lastV D ops listed t k = En D k t
 | 0, _, _ => rfl
 | k + 1, hk, h => by
  rw [lastV]
  by_cases hd : (ops[k]?).bind (·.dst) = some t
  ·rw [if_pos ⟨h k (by omega) hd, hd⟩]
  ·rw [if_neg fun h => hd h.2, lastV_full L k (by omega) fun j hj => h j (by omega)]
   have ho : ops[k]? = some (ops[k]'(by omega)) := by simp
   obtain ⟨v, h1, _⟩ := L.env ho
   rw [h1]
   rw [ho, Option.bind_some] at hd
   cases hdd : (ops[k]'(by omega)).dst with
   | none => rfl
   | some d =>
    rw [hdd] at hd
    simp only [putE]
    rw [upd_other _ _ (fun e => hd (by rw [e]))]
theorem lastV_congr {l1 l2 : Array Bool} {t : Nat} : ∀ k, (∀ j, j < k → (ops[j]?).bind (·.dst) = some t → l1.getD j false = l2.getD j false) → lastV D ops l1 t k = lastV D ops l2 t k
 | 0, _ => rfl
 | k + 1, h => by
  rw [lastV, lastV, lastV_congr k fun j hj => h j (by omega)]
  by_cases hd : (ops[k]?).bind (·.dst) = some t
  ·rw [h k (by omega) hd]
  ·rw [if_neg fun h => hd h.2, if_neg fun h => hd h.2]
theorem dst_get {i : Nat} {t : Nat} (h : (ops[i]?).bind (·.dst) = some t) : ∃ o, ops[i]? = some o ∧ o.dst = some t := by
 cases ho : ops[i]? with
 | none => rw [ho] at h; cases h
 | some o => rw [ho] at h; exact ⟨o, rfl, h⟩
theorem lastV_ready (L : Lw P tb cf nt ops T D) {listed : Array Bool} (hcl : Closed ops listed) {i : Nat} {o : Oper} (ho : ops[i]? = some o) (hr : i ∈ Region.ready .any ops listed) {t : Nat} (ht : t ∈ o.looksAt ops) : lastV D ops listed t ops.size = En D i t := by
 have hi : i < ops.size := (Array.getElem?_eq_some_iff.1 ho).1
 have hun : listed.getD i false = false := by
  have := (mem_ready.1 hr).1
  cases h : listed.getD i false with
  | false => rfl
  | true => rw [getD_both h] at this; cases this
 have h1 := lastV_skip (D := D) (listed := listed) (t := t) (m := i) (ops := ops) (ops.size - i) fun j hj _ hd => by
  obtain ⟨oj, hoj, hdj⟩ := dst_get hd
  rcases Nat.lt_or_ge i j with hij | hij
  ·cases hlj : listed.getD j false with
   | false => rfl
   | true =>
    have := mask_listed L.hT hcl j oj hoj (pred_listed hcl hoj hlj) i (need_tmp L.sck ho hoj hij (.inr ⟨hdj, ht⟩))
    rw [hun] at this
    cases this
  ·rw [show j = i from by omega]; exact hun
 rw [show i + (ops.size - i) = ops.size from by omega] at h1
 rw [h1]
 refine lastV_full L i (by omega) fun j hj hd => ?_
 obtain ⟨oj, hoj, hdj⟩ := dst_get hd
 exact mask_listed L.hT hcl i o ho (pred_ready ho hr) j (need_tmp L.sck hoj ho hj (.inl ⟨hdj, .inl ht⟩))
theorem lastV_put (L : Lw P tb cf nt ops T D) {listed : Array Bool} (hcl : Closed ops listed) {i : Nat} {o : Oper} (ho : ops[i]? = some o) (hr : i ∈ Region.ready .any ops listed) (hsz : listed.size = ops.size) {v : MV} (hv : En D (i + 1) = putE (En D i) o.dst v) :
  (fun t => lastV D ops (listed.setIfInBounds i true) t ops.size) = putE (fun t => lastV D ops listed t ops.size) o.dst v := by
 have hi : i < ops.size := (Array.getElem?_eq_some_iff.1 ho).1
 have hun : listed.getD i false = false := by
  have := (mem_ready.1 hr).1
  cases h : listed.getD i false with
  | false => rfl
  | true => rw [getD_both h] at this; cases this
 have hset : (listed.setIfInBounds i true).getD i false = true := by simp [hsz, hi]
 funext t
 by_cases hd : o.dst = some t
 ·rw [hd]
  simp only [putE, upd_same]
  have h1 := lastV_skip (D := D) (listed := listed.setIfInBounds i true) (t := t) (m := i + 1) (ops := ops) (ops.size - (i + 1)) fun j hj _ hdj => by
   obtain ⟨oj, hoj, hdj⟩ := dst_get hdj
   rw [getD_set_ne false (by omega)]
   cases hlj : listed.getD j false with
   | false => rfl
   | true =>
    have := mask_listed L.hT hcl j oj hoj (pred_listed hcl hoj hlj) i (need_tmp L.sck ho hoj (by omega) (.inl ⟨hd, .inr hdj⟩))
    rw [hun] at this
    cases this
  rw [show i + 1 + (ops.size - (i + 1)) = ops.size from by omega] at h1
  rw [h1, lastV, if_pos ⟨hset, by rw [ho]; exact hd⟩, hv, hd]
  simp only [putE, upd_same]
 ·have h1 : putE (fun t => lastV D ops listed t ops.size) o.dst v t = lastV D ops listed t ops.size := by
   cases hdd : o.dst with
   | none => rfl
   | some d => simp only [putE]; rw [upd_other _ _ fun e => hd (by rw [hdd, e])]
  rw [h1]
  refine lastV_congr _ fun j _ hdj => ?_
  obtain ⟨oj, hoj, hdj⟩ := dst_get hdj
  refine getD_set_ne false fun e => ?_
  subst e
  rw [ho] at hoj
  cases hoj
  exact hd hdj
theorem mayB_of {i ce : Nat} : ∀ (ks : List (Nat × Tr MO)), (∀ c K, (c, K) ∈ ks → c ≠ 0 → (M T i (c - 1) = true → c ≤ ce) ∧ (M T (c - 1) i = true → ce < c)) → mayB T i ce ks = true
 | [], _ => rfl
 | (c, K) :: l, h => by
  have ih := mayB_of l fun c K hm => h c K (by simp [hm])
  simp only [mayB]
  by_cases hc : c = 0
  ·subst hc; simpa using ih
  ·obtain ⟨h1, h2⟩ := h c K (by simp) hc
   have e0 : Nat.beq c 0 = false := by rw [nbeq]; simpa using hc
   rw [e0]
   simp only [cond_false]
   have e1 : (bif M T i (c - 1) then Nat.ble c ce else true) = true := by
    cases hm : M T i (c - 1) with
    | true => simpa using Nat.ble_eq_true_of_le (h1 hm)
    | false => rfl
   have e2 : (bif M T (c - 1) i then Nat.blt ce c else true) = true := by
    cases hm : M T (c - 1) i with
    | true => simpa [Nat.blt] using Nat.ble_eq_true_of_le (h2 hm)
    | false => rfl
   rw [e1, e2]
   exact ih
theorem rechk_get {all : List (Nat × Tr MO)} {al : List (Nat × Nat × MO)} {i : Nat} {op : Op} {ρ : Tr MV} {v : MV} : ∀ (ks : List (Nat × Tr MO)), rechk tb T all al i op ρ v ks = true → ∀ ce K, (ce, K) ∈ ks → mayB T i ce all = true → qev tb (addAl T i ce al K).get (oev (ev ρ)) op = some v
 | [], _, _, _, h, _ => by cases h
 | (c, K') :: l, h, ce, K, hm, hb => by
  simp only [rechk] at h
  rcases List.mem_cons.1 hm with hm | hm
  ·cases hm
   rw [hb] at h
   simp only [cond_true] at h
   split at h
   ·rename_i v' hq
    cases hs : v'.same v with
    | true => rw [hq, same_eq _ _ hs]
    | false => rw [hs] at h; cases h
   ·cases h
  ·refine rechk_get l ?_ ce K hm hb
   cases hc : mayB T i c all with
   | true =>
    rw [hc] at h
    simp only [cond_true] at h
    split at h
    ·rename_i v' hq
     cases hs : v'.same v with
     | true => rw [hs] at h; exact h
     | false => rw [hs] at h; cases h
    ·cases h
   | false => rw [hc] at h; exact h
theorem rechks_get {ks : List (Nat × Tr MO)} {al : List (Nat × Nat × MO)} : ∀ (rs : List (Nat × Op × Tr MV × MV)), rechks tb T ks al rs = true → ∀ i op ρ v, (i, op, ρ, v) ∈ rs → rechk tb T ks al i op ρ v ks = true
 | [], _, _, _, _, _, h => by cases h
 | (i', op', ρ', v') :: l, h, i, op, ρ, v, hm => by
  simp only [rechks] at h
  cases hr : rechk tb T ks al i' op' ρ' v' ks with
  | false => rw [hr] at h; cases h
  | true =>
   rw [hr] at h
   rcases List.mem_cons.1 hm with hm | hm
   ·cases hm; exact hr
   ·exact rechks_get l h i op ρ v hm
theorem addAl_get {i ce : Nat} : ∀ (al : List (Nat × Nat × MO)) (K : Tr MO) (id : Nat) (ob : MO), (addAl T i ce al K).get id = some ob → K.get id = some ob ∨ ∃ a, (a, id, ob) ∈ al ∧ M T i a = true ∧ ce ≤ a
 | [], K, id, ob, h => .inl h
 | (a, id', ob') :: l, K, id, ob, h => by
  rcases addAl_get l _ id ob h with h1 | ⟨b, h1, h2, h3⟩
  ·cases hc : (M T i a && Nat.ble ce a) with
   | false => rw [hc] at h1; exact .inl h1
   | true =>
    rw [hc] at h1
    simp only [cond_true, Tr.get_set] at h1
    simp only [Bool.and_eq_true] at hc
    by_cases hid : id = id'
    ·rw [if_pos hid] at h1
     cases h1
     subst hid
     exact .inr ⟨a, by simp, hc.1, Nat.le_of_ble_eq_true hc.2⟩
    ·rw [if_neg hid] at h1
     exact .inl h1
  ·exact .inr ⟨b, by simp [h1], h2, h3⟩
theorem Lw.between (L : Lw P tb cf nt ops T D) {ce : Nat} : ∀ k, ce + k ≤ ops.size → (∀ j, ce ≤ j → j < ce + k → ¬ isE ops j) → ∀ id ob, hp D (ce + k) id = some ob → hp D ce id = some ob ∨ ∃ a, ce ≤ a ∧ a < ce + k ∧ (a, id, ob) ∈ (D ops.size).al
 | 0, _, _, id, ob, h => .inl h
 | k + 1, hk, he, id, ob, h => by
  have ih := L.between k (by omega) (fun j h1 h2 => he j h1 (by omega)) id ob
  have ho : ops[ce + k]? = some (ops[ce + k]'(by omega)) := by simp
  have hne : isEff (ops[ce + k]'(by omega)).op = false := by
   cases hc : isEff (ops[ce + k]'(by omega)).op with
   | false => rfl
   | true => exact absurd ⟨_, ho, hc⟩ (he (ce + k) (by omega) (by omega))
  have widen : (hp D ce id = some ob ∨ ∃ a, ce ≤ a ∧ a < ce + k ∧ (a, id, ob) ∈ (D ops.size).al) → hp D ce id = some ob ∨ ∃ a, ce ≤ a ∧ a < ce + (k + 1) ∧ (a, id, ob) ∈ (D ops.size).al := fun h => h.imp (fun h => h) fun ⟨a, h1, h2, h3⟩ => ⟨a, h1, by omega, h3⟩
  rcases L.quietH ho hne with ⟨h1, _⟩ | ⟨ob', h1, _, h3, _⟩
  ·exact widen (ih (by rw [← h1]; exact h))
  ·rw [show ce + (k + 1) = ce + k + 1 from rfl, h1] at h
   by_cases hid : id = nx D (ce + k)
   ·subst hid
    rw [upd_same] at h
    cases h
    refine .inr ⟨ce + k, by omega, by omega, ?_⟩
    have := L.al_mono (i := ce + k + 1) (ops.size - (ce + k + 1)) (by omega) (ce + k, nx D (ce + k), ob) (by rw [h3]; simp)
    rwa [show ce + k + 1 + (ops.size - (ce + k + 1)) = ops.size from by omega] at this
   ·rw [upd_other _ _ hid] at h
    exact widen (ih h)
structure Inv (D : Nat → DS) (nt : Nat) (ops : Array Oper) (w0 : World) (φ0 : Pl) (g0 : Hf) (listed : Array Bool) (φ : Pl) (g : Hf) (ce : Nat) (a : Act) (w : World) : Prop where
 core : Core w0 φ g w
 le : Pl.le φ0 φ
 dom : ∀ id, φ0 id = none → φ id ≠ none → ∃ j, j < ops.size ∧ listed.getD j false = true ∧ nx D j ≤ id ∧ id < nx D (j + 1)
 ceN : ce ≤ ops.size
 ceE : ce = 0 ∨ isE ops (ce - 1)
 cut : ∀ j, isE ops j → (listed.getD j false = true ↔ j < ce)
 sub : Hf.le (hp D ce) g
 als : ∀ b id ob, (b, id, ob) ∈ (D ops.size).al → listed.getD b false = true → ce ≤ b → g id = some ob
 keep : ∀ id o, g0 id = some o → hp D 0 id = none → g id = some o
 sim : Sim nt φ (fun t => lastV D ops listed t ops.size) a
theorem grow_same {w0 w' : World} {φ φ' : Pl} {g g' h : Hf} {n0 n1 : Nat} (hl : Hf.le h g) (a : Grow w0 φ g h n0 n1 h φ' g' w') : Hf.le g g' := fun id o hid => by
 cases hh : h id with
 | none => exact a.keep id o hid hh
 | some o' =>
  have := hl id o' hh
  rw [hid] at this
  cases this
  exact a.sub id o hh
variable {w0 : World} {φ0 : Pl} {g0 : Hf}
theorem draw_step (L : Lw P tb cf nt ops T D) (hg0 : Hf.le (hp D 0) g0) (hf0 : Fresh φ0 (nx D 0) (nx D ops.size)) {ws : World} (hc0 : Core w0 φ0 g0 ws) {listed : Array Bool} (hcl : Closed ops listed) (hsz : listed.size = ops.size) {i : Nat} (hr : i ∈ Region.ready .any ops listed)
  {φ : Pl} {g : Hf} {ce : Nat} {a : Act} {w : World} (I : Inv D nt ops w0 φ0 g0 listed φ g ce a w) {K : Act → World → Prop} {Q : Exit → Act → World → Prop}
  (hK : ∀ φ' g' ce' a' w', Inv D nt ops w0 φ0 g0 (listed.setIfInBounds i true) φ' g' ce' a' w' → K a' w') : wpOp P ops Q i K a w := by
 obtain ⟨hun0, o, ho, _⟩ := mem_ready.1 hr
 have hi : i < ops.size := (Array.getElem?_eq_some_iff.1 ho).1
 have hun : listed.getD i false = false := by
  cases h : listed.getD i false with
  | false => rfl
  | true => rw [getD_both h] at hun0; cases hun0
 have hset : (listed.setIfInBounds i true).getD i false = true := by simp [hsz, hi]
 have hother : ∀ j, j ≠ i → (listed.setIfInBounds i true).getD j false = listed.getD j false := fun j hj => getD_set_ne false (Ne.symm hj)
 have hmask := mask_listed L.hT hcl i o ho (pred_ready ho hr)
 have hback : ∀ j oj, ops[j]? = some oj → M T j i = true → listed.getD j false = false := fun j oj hoj hm => by
  cases hlj : listed.getD j false with
  | false => rfl
  | true =>
   have := mask_listed L.hT hcl j oj hoj (pred_listed hcl hoj hlj) i hm
   rw [hun] at this
   cases this
 have hfr : Fresh φ (nx D i) (nx D (i + 1)) := fun id h1 h2 => by
  cases hp : φ id with
  | none => rfl
  | some x =>
   have hn : φ0 id = none := hf0 id (Nat.le_trans (L.nx_le (Nat.zero_le i) (by omega)) h1) (Nat.lt_of_lt_of_le h2 (L.nx_le (by omega) (Nat.le_refl _)))
   obtain ⟨j, hj, hlj, h3, h4⟩ := I.dom id hn (by rw [hp]; simp)
   have hji : j ≠ i := fun e => by rw [e, hun] at hlj; cases hlj
   rcases Nat.lt_or_ge j i with h5 | h5
   ·have := L.nx_le (i := j + 1) (j := i) (by omega) (by omega)
    omega
   ·have := L.nx_le (i := i + 1) (j := j) (by omega) (by omega)
    omega
 have hlooks : ∀ t ∈ o.looksAt ops, vr φ (En D i t) (a.tmps.getD t undef) := fun t ht => by
  have := I.sim.slots t
  rwa [lastV_ready L hcl ho hr ht] at this
 have hops : ∀ y ∈ o.op.operands, vr φ (oev (En D i) y) (a.eval y) := fun y hy => by
  cases y with
  | tmp t => exact hlooks t (List.mem_append_left _ (List.mem_filterMap.2 ⟨.tmp t, by simpa using hy, rfl⟩))
  | const v => exact vr_ofV v
  | global g => simp [oev, vr]
  | func f => simp only [oev, vr]; exact ⟨#[], #[], rfl, by simp [vrs], by simp [vrs]⟩
 have later : ∀ b id ob, (b, id, ob) ∈ (D ops.size).al → i < b → hp D i id = none := fun b id ob hm hib => by
  obtain ⟨h1, h2, h3, _⟩ := L.al_spec ops.size (Nat.le_refl _) b id ob hm
  cases hh : hp D i id with
  | none => rfl
  | some x =>
   have hd := L.doms (i := 0) i (by omega)
   rw [Nat.zero_add] at hd
   have hnxb := L.nx_le (i := i) (j := b) (by omega) (by omega)
   rcases hd.2 id (by rw [hh]; simp) with h4 | h4
   ·exfalso
    obtain ⟨y, hy⟩ := Option.ne_none_iff_exists'.1 h4
    refine hc0.some_of (hg0 id y hy) (hf0 id ?_ ?_)
    ·rw [h2]; exact L.nx_le (Nat.zero_le _) (by omega)
    ·have := L.nx_le (i := b + 1) (j := ops.size) (by omega) (Nat.le_refl _)
     omega
   ·omega
 have older : ∀ id o', g0 id = some o' → hp D 0 id = none → hp D i id = none := fun id o' h1 h2 => by
  cases hh : hp D i id with
  | none => rfl
  | some x =>
   have hd := L.doms (i := 0) i (by omega)
   rw [Nat.zero_add] at hd
   rcases hd.2 id (by rw [hh]; simp) with h4 | h4
   ·exact absurd h2 h4
   ·exact absurd (hf0 id h4.1 (Nat.lt_of_lt_of_le h4.2 (L.nx_le (by omega) (Nat.le_refl _)))) (hc0.some_of h1)
 have domN : ∀ {φ' : Pl} {g' h h' : Hf} {w' : World}, Grow w0 φ g h (nx D i) (nx D (i + 1)) h' φ' g' w' → ∀ id, φ0 id = none → φ' id ≠ none → ∃ j, j < ops.size ∧ (listed.setIfInBounds i true).getD j false = true ∧ nx D j ≤ id ∧ id < nx D (j + 1) := fun hgr id h1 h2 => by
  cases hp : φ id with
  | none => have := hgr.dom id hp h2; exact ⟨i, hi, hset, this⟩
  | some x =>
   obtain ⟨j, hj, hlj, h3⟩ := I.dom id h1 (by rw [hp]; simp)
   exact ⟨j, hj, getD_set_true hlj, h3⟩
 obtain ⟨v, hput, hcase⟩ := dstep_cases (L.step i o ho)
 obtain ⟨henv, hdn⟩ := putT_ev hput
 have hslots : ∀ {φ' : Pl} {u : Value}, Pl.le φ φ' → vr φ' v u → Sim nt φ' (fun t => lastV D ops (listed.setIfInBounds i true) t ops.size) (a.put o.dst u) := fun hle hu => by
  rw [lastV_put L hcl ho hr hsz henv]
  exact (I.sim.le hle).put hu hdn
 have cutSame : isEff o.op = false → ∀ j, isE ops j → ((listed.setIfInBounds i true).getD j false = true ↔ j < ce) := fun he j hj => by
  have : j ≠ i := fun e => by
   subst e
   obtain ⟨o', ho', he'⟩ := hj
   rw [ho] at ho'
   cases ho'
   rw [he] at he'
   cases he'
  rw [hother j this]
  exact I.cut j hj
 have quiet : ∀ {φ' : Pl} {g' : Hf} {w' : World} {u : Value} {h h' : Hf}, isEff o.op = false → Grow w0 φ g h (nx D i) (nx D (i + 1)) h' φ' g' w' → Hf.le g g' → (∀ id ob, (i, id, ob) ∈ (D ops.size).al → g' id = some ob) → vr φ' v u → K (a.put o.dst u) w' := fun he hgr hgg hal hu =>
  hK _ _ ce _ _ ⟨hgr.core, Pl.le_trans I.le hgr.le, domN hgr, I.ceN, I.ceE, cutSame he, Hf.le_trans I.sub hgg, fun b id ob hm hlb hcb => by
   by_cases hb : b = i
   ·subst hb; exact hal id ob hm
   ·rw [hother b hb] at hlb
    exact hgg id ob (I.als b id ob hm hlb hcb), fun id o' h1 h2 => hgg id o' (I.keep id o' h1 h2), hslots hgr.le hu⟩
 have noAl : isAl o.op = false ∨ nx D (i + 1) = nx D i → ∀ id ob, (i, id, ob) ∈ (D ops.size).al → False := fun hna id ob hm => by
  obtain ⟨_, _, h3, _, o', ho', _, hal⟩ := L.al_spec ops.size (Nat.le_refl _) i id ob hm
  rw [ho] at ho'
  cases ho'
  rcases hna with h | h
  ·rw [h] at hal; cases hal
  ·omega
 have effHeap : isEff o.op = true → ce ≤ i ∧ Hf.le (hp D i) g := fun he => by
  have hce : ce ≤ i := by
   rcases I.ceE with h | h
   ·omega
   ·rcases Nat.lt_or_ge i ce with h1 | h1
    ·have := (I.cut i ⟨o, ho, he⟩).2 h1
     rw [hun] at this
     cases this
    ·exact h1
  refine ⟨hce, fun id ob hid => ?_⟩
  have hb := L.between (ce := ce) (i - ce) (by omega) (fun j h1 h2 hj => by
   have hj' := hj
   obtain ⟨oj, hoj, hej⟩ := hj
   have := hmask j (need_eff L.sck hoj ho (by omega) he (.inl hej))
   have := (I.cut j hj').1 this
   omega) id ob (by rw [show ce + (i - ce) = i from by omega]; exact hid)
  rcases hb with hb | ⟨b, h1, h2, h3⟩
  ·exact I.sub id ob hb
  ·obtain ⟨_, _, _, _, ob', hob', _, hal'⟩ := L.al_spec ops.size (Nat.le_refl _) b id ob h3
   exact I.als b id ob h3 (hmask b (need_eff L.sck hob' ho (by omega) he (.inr hal'))) h1
 have effect : ∀ {φ' : Pl} {g' : Hf} {w' : World} {u : Value}, isEff o.op = true → Grow w0 φ g (hp D i) (nx D i) (nx D (i + 1)) (hp D (i + 1)) φ' g' w' → vr φ' v u → K (a.put o.dst u) w' := fun he hgr hu => by
  obtain ⟨hce, _⟩ := effHeap he
  refine hK _ _ (i + 1) _ _ ⟨hgr.core, Pl.le_trans I.le hgr.le, domN hgr, by omega, .inr ⟨o, by simpa using ho, he⟩, fun j hj => ?_, hgr.sub, fun b id ob hm hlb hcb => ?_, fun id o' h1 h2 => hgr.keep id o' (I.keep id o' h1 h2) (older id o' h1 h2), hslots hgr.le hu⟩
  ·by_cases hji : j = i
   ·subst hji; simp [hset]
   ·rw [hother j hji]
    obtain ⟨oj, hoj, hej⟩ := hj
    constructor
    ·intro hlj
     rcases Nat.lt_or_ge i j with h1 | h1
     ·rw [hback j oj hoj (need_eff L.sck ho hoj h1 hej (.inl he))] at hlj
      cases hlj
     ·omega
    ·intro hlt
     exact hmask j (need_eff L.sck hoj ho (by omega) he (.inl hej))
  ·rw [hother b (by omega)] at hlb
   exact hgr.keep id ob (I.als b id ob hm hlb (by omega)) (later b id ob hm (by omega))
 unfold wpOp
 simp only [ho]
 rcases hcase with ⟨hg, hv, hH, hn, hal, _⟩ | ⟨hg, he, hst, _⟩ | ⟨hg, he, hal, ob, hev, hH, hn, _⟩ | ⟨hg, he, hal, hq, hH, hn, _⟩ | ⟨hg, he, hal, hH, hn, _, hrs, _⟩
 ·-- skipped
  rw [gst_sound hg hlooks, if_neg (by simp)]
  have hnx : nx D (i + 1) = nx D i := hn
  have hu : vr φ v undef := by rw [hv]; simp [vr, undef, vrs]
  cases he : isEff o.op with
  | false =>
   refine quiet (h := noH) (h' := noH) (g' := g) (φ' := φ) he ?_ (Hf.le_refl _) (fun id ob hm => (noAl (.inr hnx) id ob hm).elim) hu
   rw [hnx]
   exact Grow.refl I.core fun _ _ h => by cases h
  | true =>
   refine effect (g' := g) (φ' := φ) he ?_ hu
   have : hp D (i + 1) = hp D i := by rw [hp, hH]
   rw [this, hnx]
   exact Grow.refl I.core (effHeap he).2
 ·-- an effect
  rw [gst_sound hg hlooks, if_pos rfl]
  exact .inl ((astep_sound L.ht L.hcf hst).2 w0 φ g a w K Q I.core (effHeap he).2 hfr hops fun φ' g' w' u hgr hu => effect he hgr hu)
 ·-- an object is made
  rw [gst_sound hg hlooks, if_pos rfl]
  have hnx : nx D (i + 1) = nx D i + 1 := hn
  have key := (OpT.eff (o := o) (P := P) L.ht hev).2 w0 φ g a w K Q I.core (fun _ _ h => by cases h) (by rw [← hnx]; exact hfr) hops
  refine .inl (key fun φ' g' w' u hgr hu => ?_)
  rw [← hnx] at hgr
  refine quiet he hgr (fun id o' h1 => hgr.keep id o' h1 rfl) (fun id ob' hm => ?_) hu
  obtain ⟨_, h2, _, h4, _⟩ := L.al_spec ops.size (Nat.le_refl _) i id ob' hm
  have h5 : hp D (i + 1) (nx D i) = some ob := by rw [hp, hH, set_upd, upd_same]
  rw [h4, upd_same] at h5
  cases h5
  rw [h2]
  exact hgr.sub _ _ (by simp [app, upd_same])
 ·-- quiet, whatever the heap
  rw [gst_sound hg hlooks, if_pos rfl]
  have hnx : nx D (i + 1) = nx D i := hn
  have key := (OpT.quiet (o := o) (P := P) (h := noH) (n0 := nx D i) L.ht hq).2 w0 φ g a w K Q I.core (fun _ _ h => by cases h) (fun _ h1 h2 => by omega) hops
  refine .inl (key fun φ' g' w' u hgr hu => ?_)
  refine quiet (h := noH) (h' := noH) he (by rw [hnx]; exact hgr) (grow_same (fun _ _ h => by cases h) hgr) (fun id ob hm => (noAl (.inl hal) id ob hm).elim) hu
 ·-- quiet, it reads
  rw [gst_sound hg hlooks, if_pos rfl]
  have hnx : nx D (i + 1) = nx D i := hn
  have hmem : (i, o.op, (D i).s.ρ, v) ∈ (D ops.size).rs := by
   have := L.rs_mono (i := i + 1) (ops.size - (i + 1)) (by omega) (i, o.op, (D i).s.ρ, v) (by rw [hrs]; simp)
   rwa [show i + 1 + (ops.size - (i + 1)) = ops.size from by omega] at this
  have hcm : (ce, (D ce).s.H) ∈ (D ops.size).ks := by
   rcases I.ceE with h | h
   ·subst h; exact L.ks_zero
   ·rcases Nat.eq_zero_or_pos ce with h0 | h0
    ·subst h0; exact L.ks_zero
    ·obtain ⟨oe, hoe, hee⟩ := h
     have := L.ks_eff hoe hee
     rwa [show ce - 1 + 1 = ce from by omega] at this
  have hmay : mayB T i ce (D ops.size).ks = true := mayB_of _ fun c Kc hm hc0 => by
   obtain ⟨hcN, _, hcE⟩ := L.ks_spec ops.size (Nat.le_refl _) c Kc hm
   have hE := hcE.resolve_left hc0
   constructor
   ·intro hmm
    have := (I.cut (c - 1) hE).1 (hmask (c - 1) hmm)
    omega
   ·intro hmm
    have hE' := hE
    obtain ⟨oe, hoe, _⟩ := hE
    have h1 := hback (c - 1) oe hoe hmm
    rcases Nat.lt_or_ge ce c with h2 | h2
    ·exact h2
    ·have := (I.cut (c - 1) hE').2 (by omega)
     rw [h1] at this
     cases this
  have hq := L.rck i o.op _ v hmem ce _ hcm hmay
  have hle : Hf.le (addAl T i ce (D ops.size).al (D ce).s.H).get g := fun id ob hid => by
   rcases addAl_get _ _ id ob hid with h1 | ⟨b, h1, h2, h3⟩
   ·exact I.sub id ob h1
   ·exact I.als b id ob h1 (hmask b h2) h3
  have key := (OpT.quiet (o := o) (P := P) (n0 := nx D i) L.ht hq).2 w0 φ g a w K Q I.core hle (fun _ h1 h2 => by omega) hops
  refine .inl (key fun φ' g' w' u hgr hu => ?_)
  exact quiet he (by rw [hnx]; exact hgr) (grow_same hle hgr) (fun id ob hm => (noAl (.inl hal) id ob hm).elim) hu
theorem filter_lt {n i : Nat} {p p' : Nat → Bool} (hi : i < n) (h1 : p i = true) (h2 : p' i = false) (h3 : ∀ j, j ≠ i → p' j = p j) : ((List.range n).filter p').length < ((List.range n).filter p).length := by
 have : (List.range n).filter p' = ((List.range n).filter p).filter (fun j => decide (j ≠ i)) := by
  rw [List.filter_filter]
  apply List.filter_congr
  intro j _
  by_cases hj : j = i
  ·subst hj; simp [h2]
  ·simp [hj, h3 j hj]
 rw [this, List.length_filter_lt_length_iff_exists]
 exact ⟨i, List.mem_filter.2 ⟨List.mem_range.2 hi, h1⟩, by simp⟩
theorem draw_all (L : Lw P tb cf nt ops T D) (hg0 : Hf.le (hp D 0) g0) (hf0 : Fresh φ0 (nx D 0) (nx D ops.size)) {ws : World} (hc0 : Core w0 φ0 g0 ws) {Q : Exit → Act → World → Prop}
  (hQ : ∀ φ' g' a' w', Grow w0 φ0 g0 (hp D 0) (nx D 0) (nx D ops.size) (hp D ops.size) φ' g' w' → Sim nt φ' (En D ops.size) a' → Q .normal a' w') :
  ∀ (fuel : Nat) (listed : Array Bool) (φ : Pl) (g : Hf) (ce : Nat) (a : Act) (w : World), Closed ops listed → listed.size = ops.size → ((List.range ops.size).filter fun j => !listed.getD j false).length ≤ fuel → Inv D nt ops w0 φ0 g0 listed φ g ce a w → wpAny P .any ops Q fuel listed a w := by
 have fin : ∀ (listed : Array Bool) (φ : Pl) (g : Hf) (ce : Nat) (a : Act) (w : World), (∀ j, j < ops.size → listed.getD j false = true) → Inv D nt ops w0 φ0 g0 listed φ g ce a w → Q .normal a w := fun listed φ g ce a w hall I => by
  refine hQ φ g a w ⟨I.core, I.le, fun id h1 h2 => ?_, fun id ob hid => ?_, I.keep⟩ ?_
  ·obtain ⟨j, hj, _, h3, h4⟩ := I.dom id h1 h2
   have := L.nx_le (i := 0) (j := j) (by omega) (by omega)
   have := L.nx_le (i := j + 1) (j := ops.size) (by omega) (Nat.le_refl _)
   omega
  ·have hb := L.between (ce := ce) (ops.size - ce) (by have := I.ceN; omega) (fun j h1 h2 hj => by
    have hj' := hj
    obtain ⟨oj, hoj, _⟩ := hj
    have := (I.cut j hj').1 (hall j (Array.getElem?_eq_some_iff.1 hoj).1)
    omega) id ob (by rw [show ce + (ops.size - ce) = ops.size from by have := I.ceN; omega]; exact hid)
   rcases hb with hb | ⟨b, h1, h2, h3⟩
   ·exact I.sub id ob hb
   ·obtain ⟨hbN, _⟩ := L.al_spec ops.size (Nat.le_refl _) b id ob h3
    exact I.als b id ob h3 (hall b hbN) h1
  ·have : (fun t => lastV D ops listed t ops.size) = En D ops.size := by
    funext t
    exact lastV_full L ops.size (Nat.le_refl _) fun j hj _ => hall j hj
   rw [← this]
   exact I.sim
 have none_left : ∀ (listed : Array Bool), listed.size = ops.size → Region.ready .any ops listed = [] → ∀ j, j < ops.size → listed.getD j false = true := fun listed hsz hr j => by
  induction j using Nat.strongRecOn with
  | _ j ih =>
   intro hj
   cases hl : listed.getD j false with
   | true => rfl
   | false =>
    exfalso
    have hoj : ops[j]? = some ops[j] := by simp
    have hpo : predsOk ops.toList 0 = true := by
     have := L.sck
     simp only [Go.MX.sck, Bool.and_eq_true] at this
     exact this.1
    have : j ∈ Region.ready .any ops listed := by
     rw [mem_ready]
     refine ⟨?_, _, hoj, fun e he hb => ?_⟩
     ·have hjs : j < listed.size := by omega
      simp [hjs] at hl ⊢
      exact hl
     ·have := predsOk_get ops.toList 0 j ops[j] hpo (by simp) e.on (mem_predL.2 ⟨e, he, hb, rfl⟩)
      exact ih e.on (by omega) (by omega)
    rw [hr] at this
    cases this
 intro fuel
 induction fuel with
 | zero =>
  intro listed φ g ce a w hcl hsz hf I
  have hall : ∀ j, j < ops.size → listed.getD j false = true := fun j hj => by
   cases hl : listed.getD j false with
   | true => rfl
   | false =>
    have : j ∈ (List.range ops.size).filter fun j => !listed.getD j false := List.mem_filter.2 ⟨List.mem_range.2 hj, by simp only [hl]; rfl⟩
    have := List.length_pos_of_mem this
    omega
  refine ⟨?_, fin listed φ g ce a w hall I⟩
  cases hr : Region.ready .any ops listed with
  | nil => rfl
  | cons i r =>
   have hi : i ∈ Region.ready .any ops listed := by rw [hr]; simp
   obtain ⟨h1, o, ho, _⟩ := mem_ready.1 hi
   have := getD_both (hall i (Array.getElem?_eq_some_iff.1 ho).1)
   rw [h1] at this
   cases this
 | succ fuel ih =>
  intro listed φ g ce a w hcl hsz hf I
  refine ⟨fun hr => fin listed φ g ce a w (none_left listed hsz hr) I, fun i hi => ?_⟩
  obtain ⟨h1, o, ho, _⟩ := mem_ready.1 hi
  have hiN : i < ops.size := (Array.getElem?_eq_some_iff.1 ho).1
  have hun : listed.getD i false = false := by
   cases h : listed.getD i false with
   | false => rfl
   | true => rw [getD_both h] at h1; cases h1
  refine draw_step L hg0 hf0 hc0 hcl hsz hi I fun φ' g' ce' a' w' I' => ?_
  refine ih _ φ' g' ce' a' w' (closed_set hcl hi) (by simp [hsz]) ?_ I'
  have := filter_lt (n := ops.size) (i := i) (p := fun j => !listed.getD j false) (p' := fun j => !(listed.setIfInBounds i true).getD j false) hiN (by simp only [hun]; rfl) (by
   have : (listed.setIfInBounds i true).getD i false = true := by simp [hsz, hiN]
   simp only [this]
   rfl) (fun j hj => by simp only [getD_set_ne false (Ne.symm hj)])
  omega
theorem mdraw_core (ht : TbOk P tb) (hcf : CallFOk P cf) (hm : P.follows .mixedOrders = true) {id : Nat} {s : St} {d : DS} (hs : sck ops.toList (masks ops.toList 0 .nil) = true) (hd : drun tb cf nt ops.toList ops.toList 0 ⟨s, [(0, s.H)], [], []⟩ = some d)
  (hrk : ∀ i op ρ v, (i, op, ρ, v) ∈ d.rs → ∀ ce K, (ce, K) ∈ d.ks → mayB (masks ops.toList 0 .nil) i ce d.ks = true → qev tb (addAl (masks ops.toList 0 .nil) i ce d.al K).get (oev (ev ρ)) op = some v) :
  DomOk s.H.get s.n d.s.n d.s.H.get ∧ ∀ (w0 : World) (φ : Pl) (g : Hf) (a : Act) (w : World) (Q : Exit → Act → World → Prop), Core w0 φ g w → Hf.le s.H.get g → Fresh φ s.n d.s.n → Sim nt φ (ev s.ρ) a →
   (∀ φ' g' a' w', Grow w0 φ g s.H.get s.n d.s.n d.s.H.get φ' g' w' → Sim nt φ' (ev d.s.ρ) a' → Q .normal a' w') → (Code.region id ops true).wp P Q a w := by
 obtain ⟨D, hD0, hD1, hD⟩ := drun_states _ _ _ _ hd
 have hlen : ops.toList.length = ops.size := by simp
 rw [hlen] at hD1
 have L : Lw P tb cf nt ops (masks ops.toList 0 .nil) D := ⟨ht, hcf, rfl, hs, fun j o ho => by
  have := hD j o (by simpa using ho)
  rwa [Nat.zero_add] at this, by rw [hD0], by rw [hD0], by rw [hD1]; exact hrk⟩
 have e0 : (D 0).s = s := by rw [hD0]
 have e1 : (D ops.size).s = d.s := by rw [hD1]
 refine ⟨by have := L.doms (i := 0) ops.size (by omega); simp only [hp, nx, Nat.zero_add, e0, e1] at this; exact this, fun w0 φ g a w Q hc hl hf hsim hk => ?_⟩
 refine wp_region_any hm ?_
 refine draw_all L (g0 := g) (φ0 := φ) (w0 := w0) (by simpa only [hp, e0] using hl) (by simpa only [nx, e0, e1] using hf) hc (fun φ' g' a' w' hgr hs' => hk φ' g' a' w' (by simpa only [hp, nx, e0, e1] using hgr) (by simpa only [En, e1] using hs')) ops.size _ φ g 0 a _ (fun j o _ hj => by
  by_cases hjs : j < ops.size <;> simp [hjs] at hj) (by simp) (by
  have := List.length_filter_le (fun j => !(Array.replicate ops.size false).getD j false) (List.range ops.size)
  simpa using this) ?_
 refine ⟨hc.grow ⟨⟨rfl, rfl, rfl, Nat.le_refl _, fun _ _ => rfl⟩, Nat.le_succ _⟩, Pl.le_refl _, fun id h1 h2 => absurd h1 h2, Nat.zero_le _, .inl rfl, fun j hj => ?_, by simpa only [hp, e0] using hl, fun b id ob _ hb _ => ?_, fun id o h1 _ => h1, ?_⟩
 ·constructor
  ·intro hl
   by_cases hjs : j < ops.size <;> simp [hjs] at hl
  ·intro h; omega
 ·by_cases hbs : b < ops.size <;> simp [hbs] at hb
 ·have : (fun t => lastV D ops (Array.replicate ops.size false) t ops.size) = ev s.ρ := by
   funext t
   have := lastV_skip (D := D) (ops := ops) (listed := Array.replicate ops.size false) (t := t) (m := 0) ops.size fun j _ _ _ => by
    by_cases hjs : j < ops.size <;> simp [hjs]
   rw [Nat.zero_add] at this
   rw [this, lastV, En, e0]
  rw [this]
  exact hsim
theorem mdraw_sound (ht : TbOk P tb) (hcf : CallFOk P cf) (hm : P.follows .mixedOrders = true) {id : Nat} {s s' : St} (h : mdraw tb cf nt ops.toList s = some s') :
  DomOk s.H.get s.n s'.n s'.H.get ∧ ∀ (w0 : World) (φ : Pl) (g : Hf) (a : Act) (w : World) (Q : Exit → Act → World → Prop), Core w0 φ g w → Hf.le s.H.get g → Fresh φ s.n s'.n → Sim nt φ (ev s.ρ) a →
   (∀ φ' g' a' w', Grow w0 φ g s.H.get s.n s'.n s'.H.get φ' g' w' → Sim nt φ' (ev s'.ρ) a' → Q .normal a' w') → (Code.region id ops true).wp P Q a w := by
 unfold mdraw at h
 split at h
 ·rename_i d hs hd
  split at h
  ·rename_i hrk
   cases h
   exact mdraw_core ht hcf hm hs hd fun i op ρ v hmm ce K hck hmay => rechk_get _ (rechks_get _ hrk i op ρ v hmm) ce K hck hmay
  ·cases h
 ·cases h
end
end Go.MX
namespace Go.MX
open Go.RowKit
open Go.AM (Blw Key KK TI TabFact Tab TabOk Tb TbOk)
def CodeT (P : Program) (nt : Nat) (c : Code) (s : St) (e : Exit) (s' : St) : Prop :=
 DomOk s.H.get s.n s'.n s'.H.get ∧ ∀ (w0 : World) (φ : Pl) (g : Hf) (a : Act) (w : World), Core w0 φ g w → Hf.le s.H.get g → Fresh φ s.n s'.n → Sim nt φ (ev s.ρ) a →
  c.wp P (fun e' a' w' => e' = e ∧ ∃ φ' g', Grow w0 φ g s.H.get s.n s'.n s'.H.get φ' g' w' ∧ Sim nt φ' (ev s'.ρ) a') a w
section
variable {P : Program} {tb : Tb} {cf : CallF} {nt lf : Nat}
theorem CodeT.of_norm {c : Code} {s s' : St} (hd : DomOk s.H.get s.n s'.n s'.H.get) (h : ∀ (w0 : World) (φ : Pl) (g : Hf) (a : Act) (w : World) (Q : Exit → Act → World → Prop), Core w0 φ g w → Hf.le s.H.get g → Fresh φ s.n s'.n → Sim nt φ (ev s.ρ) a →
   (∀ φ' g' a' w', Grow w0 φ g s.H.get s.n s'.n s'.H.get φ' g' w' → Sim nt φ' (ev s'.ρ) a' → Q .normal a' w') → c.wp P Q a w) : CodeT P nt c s .normal s' :=
 ⟨hd, fun w0 φ g a w hc hl hf hs => h w0 φ g a w _ hc hl hf hs fun φ' g' _ _ hgr hs' => ⟨rfl, φ', g', hgr, hs'⟩⟩
theorem CodeT.leave {c : Code} {s : St} {e : Exit} (h : ∀ (Q : Exit → Act → World → Prop) (a : Act) (w : World), Q e a w → c.wp P Q a w) : CodeT P nt c s e s :=
 ⟨DomOk.refl _ _, fun _ φ g a w hc hl _ hs => h _ a w ⟨rfl, φ, g, Grow.refl hc hl, hs⟩⟩
theorem CodeT.bind {c c' : Code} {s s1 s2 : St} {e : Exit} (h1 : CodeT P nt c s .normal s1) (h2 : CodeT P nt c' s1 e s2) (w0 : World) (φ : Pl) (g : Hf) (a : Act) (w : World) (hc : Core w0 φ g w) (hl : Hf.le s.H.get g) (hf : Fresh φ s.n s2.n) (hs : Sim nt φ (ev s.ρ) a)
  {K : Act → World → Prop} {R : Exit → Act → World → Prop} (hK : ∀ a' w', (c'.wp P (fun e' a' w' => e' = e ∧ ∃ φ' g', Grow w0 φ g s.H.get s.n s2.n s2.H.get φ' g' w' ∧ Sim nt φ' (ev s2.ρ) a') a' w') → K a' w') : c.wp P (Exit.then K R) a w := by
 refine wp_mono (h1.2 w0 φ g a w hc hl (hf.left h2.1.1) hs) fun e' a' w' ⟨he, φ', g', hgr, hs'⟩ => ?_
 subst he
 refine hK a' w' (wp_mono (h2.2 w0 φ' g' a' w' hgr.core hgr.sub (hgr.fresh hf h1.1.1) hs') fun e2 a2 w2 ⟨he2, φ2, g2, hgr2, hs2⟩ => ⟨he2, φ2, g2, ?_, hs2⟩)
 exact Grow.trans hc hf h1.1 h2.1.1 hgr hgr2
theorem itr_sound {c : Code} {f : St → Option (Exit × St)} (hf : ∀ s e s', f s = some (e, s') → CodeT P nt c s e s') : ∀ (k : Nat) (s s' : St) (e : Exit), itr f k s = some (e, s') →
  DomOk s.H.get s.n s'.n s'.H.get ∧ ∀ (w0 : World) (φ : Pl) (g : Hf) (a : Act) (w : World), Core w0 φ g w → Hf.le s.H.get g → Fresh φ s.n s'.n → Sim nt φ (ev s.ρ) a →
   Code.rounds P c (fun e' a' w' => e' = e ∧ ∃ φ' g', Grow w0 φ g s.H.get s.n s'.n s'.H.get φ' g' w' ∧ Sim nt φ' (ev s'.ρ) a') k a w
 | 0, _, _, _, h => by cases h
 | k + 1, s, s', e, h => by
  simp only [itr] at h
  split at h
  ·rename_i s1 h1
   have c1 := hf _ _ _ h1
   obtain ⟨d2, k2⟩ := itr_sound hf k s1 s' e h
   refine ⟨c1.1.trans d2, fun w0 φ g a w hc hl hfr hs => ?_⟩
   rw [rounds_succ]
   refine wp_mono (c1.2 w0 φ g a w hc hl (hfr.left d2.1) hs) fun e' a' w' ⟨he, φ', g', hgr, hs'⟩ => ?_
   subst he
   have := k2 w0 φ' g' a' w' hgr.core hgr.sub (hgr.fresh hfr c1.1.1) hs'
   have mono : ∀ (k : Nat) (a : Act) (w : World) (Q Q' : Exit → Act → World → Prop), (∀ e a w, Q e a w → Q' e a w) → Code.rounds P c Q k a w → Code.rounds P c Q' k a w := by
    intro k
    induction k with
    | zero => intro a w Q Q' _ h; exact h.elim
    | succ k ih =>
     intro a w Q Q' hq h
     rw [rounds_succ] at h ⊢
     refine wp_mono h fun e a w he => ?_
     cases e <;> first | exact ih _ _ _ _ hq he | exact hq _ _ _ he
   exact mono k a' w' _ _ (fun e2 a2 w2 ⟨he2, φ2, g2, hgr2, hs2⟩ => ⟨he2, φ2, g2, Grow.trans hc hfr c1.1 d2.1 hgr hgr2, hs2⟩) this
  ·rename_i hne
   have c1 := hf _ _ _ h
   refine ⟨c1.1, fun w0 φ g a w hc hl hfr hs => ?_⟩
   rw [rounds_succ]
   refine wp_mono (c1.2 w0 φ g a w hc hl hfr hs) fun e' a' w' ⟨he, hrest⟩ => ?_
   subst he
   cases e' with
   | normal => exact absurd h (hne s')
   | _ => exact ⟨rfl, hrest⟩
theorem args0_get : ∀ (l : List MV) (i : Nat) (ρ : Tr MV) (t : Nat), (args0 l i ρ).get t = if i ≤ t ∧ t < i + l.length then l[t - i]? else ρ.get t
 | [], i, ρ, t => by
  rw [args0, if_neg]
  simp only [List.length_nil]
  omega
 | v :: l, i, ρ, t => by
  rw [args0, args0_get l (i + 1), Tr.get_set]
  by_cases h1 : t = i
  ·subst h1
   rw [if_neg (by omega), if_pos rfl, if_pos (by simp)]
   simp
  ·rw [if_neg h1]
   by_cases h2 : i + 1 ≤ t ∧ t < i + 1 + l.length
   ·rw [if_pos h2, if_pos (by simp; omega)]
    rw [show t - i = (t - (i + 1)) + 1 from by omega, List.getElem?_cons_succ]
   ·rw [if_neg h2, if_neg (by simp; omega)]
theorem resL_sound (ht : TbOk P tb) {w0 : World} {φ : Pl} {g h : Hf} {w : World} {ρ : Env} {tmps : Array Value} (hc : Core w0 φ g w) (hl : Hf.le h g) (hs : ∀ t, vr φ (ρ t) (tmps.getD t undef)) : ∀ {rs : List ResultVar} {vs : List MV}, resL tb ρ h rs = some vs →
  ∃ us, (rs.mapM (Go.AM.readRes tmps)).run P w = .ok us w ∧ vrs φ vs us
 | [], vs, he => by cases he; exact ⟨[], by simp, by simp [vrs]⟩
 | r :: rs, vs, he => by
  simp only [resL] at he
  split at he
  ·rename_i v vs' h1 h2
   cases he
   obtain ⟨us, h3, h4⟩ := resL_sound ht hc hl hs h2
   have key : ∃ u, (Go.AM.readRes tmps r).run P w = .ok u w ∧ vr φ v u := by
    cases r with
    | tmp t => cases h1; exact ⟨_, rfl, hs t⟩
    | cell a t =>
     obtain ⟨u, h5, h6⟩ := mload_sound ht hc hl (show mload tb h t (ρ a) = some v from h1) (hs a)
     refine ⟨u, ?_, h6⟩
     have hp : ∃ ad, tmps.getD a undef = .pointer (some ad) := by
      have h7 := hs a
      have h1' : mload tb h t (ρ a) = some v := h1
      unfold mload at h1'
      split at h1'
      ·cases h1'
      ·split at h1'
       ·rename_i i o hx
        rw [hx] at h7
        simp only [vr] at h7
        obtain ⟨b, base, sp, _, h8⟩ := h7
        exact ⟨_, h8⟩
       ·cases h1'
     obtain ⟨ad, he⟩ := hp
     rw [he] at h5
     simpa [Go.AM.readRes, he, asAddr, Instr.loadAt, Instr.sureAddr] using h5
   obtain ⟨u, h5, h6⟩ := key
   refine ⟨u :: us, ?_, by simp only [vrs]; exact ⟨u, us, rfl, h6, h4⟩⟩
   simp only [List.mapM_cons, Sem.run_bind, h5, h3, Result.andThen_ok, Sem.run_pure]
  ·cases he
theorem resV_sound (ht : TbOk P tb) {w0 : World} {φ : Pl} {g h : Hf} {w : World} {ρ : Env} {tmps : Array Value} (hc : Core w0 φ g w) (hl : Hf.le h g) (hs : ∀ t, vr φ (ρ t) (tmps.getD t undef)) {fn : Func} {v : MV} (he : resV tb ρ h fn.results.toList = some v) :
  ∃ u, (results fn tmps).run P w = .ok u w ∧ vr φ v u := by
 unfold resV at he
 have key : ∀ vs, resL tb ρ h fn.results.toList = some vs → ∃ us : List Value, (results fn tmps).run P w = .ok (if h : us.toArray.size = 1 then us.toArray[0] else .tuple us.toArray) w ∧ vrs φ vs us := by
  intro vs hv
  obtain ⟨us, h1, h2⟩ := resL_sound ht hc hl hs hv
  refine ⟨us, ?_, h2⟩
  rw [Go.AM.results_eq]
  simp only [Sem.run_bind, Go.AM.run_mapM_array, h1, Result.andThen_ok, Sem.run_pure]
 split at he
 ·rename_i v' hv
  cases he
  obtain ⟨us, h1, h2⟩ := key [v] hv
  simp only [vrs] at h2
  obtain ⟨u, r, rfl, hu, rfl⟩ := h2
  exact ⟨u, by simpa using h1, hu⟩
 ·rename_i vs hne hv
  cases he
  obtain ⟨us, h1, h2⟩ := key vs hv
  have hl' : us.length ≠ 1 := fun e => by
   have := vrs_length h2
   match vs, this, hne with
   | [x], _, hne => exact hne x rfl
   | [], h, _ => simp at h; omega
   | _ :: _ :: _, h, _ => simp at h; omega
  exact ⟨.tuple us.toArray, by simpa [hl'] using h1, by simp only [vr]; exact ⟨_, rfl, by simpa using h2⟩⟩
 ·cases he
def FnsOk (P : Program) (fns : FuncId → Option FI) : Prop := ∀ f fi, fns f = some fi → ∃ fn, P.funcs[f]? = some fn ∧ fn.body = some fi.code ∧ fn.ntmps = fi.nt ∧ fn.results.toList = fi.res ∧ (fn.name == "runtime.NumGoroutine") = false
def ExOk (P : Program) (ex : ExF) : Prop := ∀ f args v, ex f args = some v → (∃ fn, P.funcs[f]? = some fn ∧ (fn.name == "runtime.NumGoroutine") = false ∧ fn.body.isNone = false) ∧
 ∀ (φ : Pl) (w : World), Go.AM.Fr w (fun _ => True) → ∀ vals : List Value, vrs φ args vals → Calls P f vals.toArray w fun e w' => ∃ u, e = .returned u ∧ Blw w.heap.size w w' ∧ vr φ v u
theorem ex_call {ex : ExF} (he : ExOk P ex) {f : FuncId} {args : List MV} {v : MV} {h : Hf} {n : Nat} (hv : ex f args = some v) : CallT P f args h n v h n := by
 obtain ⟨h1, h2⟩ := he f args v hv
 refine ⟨h1, DomOk.refl h n, fun w0 φ g w hc hl hf vals hvals => (h2 φ w hc.fr vals hvals).mono fun e w' ⟨u, he, hb, hu⟩ => ⟨φ, g, u, he, ?_, hu⟩⟩
 exact Grow.refl (hc.grow hb) hl
theorem call_of_code (ht : TbOk P tb) {fi : FI} {fn : Func} {f : FuncId} {args : List MV} {H : Tr MO} {n0 : Nat} {v : MV} {s : St} {e : Exit} (h1 : P.funcs[f]? = some fn) (h2 : fn.body = some fi.code) (h3 : fn.ntmps = fi.nt) (h4 : fn.results.toList = fi.res) (h5 : (fn.name == "runtime.NumGoroutine") = false)
  (hlen : args.length ≤ fi.nt) (hcode : CodeT P fi.nt fi.code ⟨args0 args 0 .nil, H, n0⟩ e s) (he : e = .normal ∨ e = .ret) (hres : resV tb (ev s.ρ) s.H.get fi.res = some v) : CallT P f args H.get n0 v s.H.get s.n := by
 obtain ⟨hd, hc⟩ := hcode
 refine ⟨⟨fn, h1, h5, by rw [h2]; rfl⟩, hd, fun w0 φ g w hco hl hf vals hvals => ?_⟩
 have hvl := vrs_length hvals
 have hsim : Sim fi.nt φ (ev (args0 args 0 .nil)) { tmps := vals.toArray ++ Array.replicate (fn.ntmps - vals.toArray.size) undef, defers := [] } := by
  refine ⟨fun t => ?_, rfl, by rw [h3]; simp; omega⟩
  unfold ev
  rw [args0_get]
  by_cases ht : t < args.length
  ·rw [if_pos ⟨Nat.zero_le _, by omega⟩, Nat.sub_zero]
   obtain ⟨u, hu, hvu⟩ := vrs_get hvals (List.getElem?_eq_getElem ht)
   rw [List.getElem?_eq_getElem ht]
   have he : (vals.toArray ++ Array.replicate (fn.ntmps - vals.toArray.size) undef).getD t undef = u := by
    rw [Array.getD_eq_getD_getElem?, Array.getElem?_append_left (by simp; omega)]
    simp [hu]
   simp only [he]
   exact hvu
  ·rw [if_neg (by omega), Tr.get_nil]
   have he : (vals.toArray ++ Array.replicate (fn.ntmps - vals.toArray.size) undef).getD t undef = undef := by
    rw [Array.getD_eq_getD_getElem?, Array.getElem?_append_right (by simp; omega)]
    by_cases h7 : t - vals.toArray.size < fn.ntmps - vals.toArray.size
    ·rw [Array.getElem?_replicate, if_pos h7]; rfl
    ·rw [Array.getElem?_replicate, if_neg h7]; rfl
   simp only [he]
   simp [vr, undef, vrs]
 refine calls_of_wp h1 h2 (wp_mono (hc w0 φ g _ w hco hl hf hsim) fun e' a' w' ⟨he', φ', g', hgr, hs'⟩ => ?_)
 subst he'
 obtain ⟨u, hru, hvu⟩ := resV_sound ht hgr.core hgr.sub hs'.slots (by rw [h4]; exact hres)
 rcases he with rfl | rfl
 ·exact ⟨hs'.defers, u, hru, φ', g', u, rfl, hgr, hvu⟩
 ·exact ⟨hs'.defers, u, hru, φ', g', u, rfl, hgr, hvu⟩
end
end Go.MX
