/-
  The operations with an effect.
-/
import Derived.Test.YtfoadgepblojpaaAmH
namespace Go.AM
open Go.RowKit

def noTop (cs : List C) : Bool := cs.all fun c => match c with | .top => false | _ => true
def putE (ρ : Env) (d : Option Nat) (v : V) : Env := match d with
  | some d => upd ρ d v
  | none => ρ
def fstRow (σ : Sto) (sz : Nat) (e : TypeId) : V → Option (Option Nat × List (List L))
  | .u (.one (.d .nil)) => some (none, [])
  | .u (.one (.d .emp)) => some (none, [])
  | .u (.one (.own s)) => match σ s with
    | some (.row sz' e' rows) => if sz' = sz ∧ e' = e then some (some s, rows) else none
    | _ => none
  | _ => none
def sndRow (σ : Sto) (sz : Nat) : V → Option (List (List L))
  | .u (.one (.d .nil)) => some []
  | .u (.one (.d .emp)) => some []
  | .u (.one (.d (.sl sz' rows))) => if sz' = sz then some rows else none
  | .u (.one (.own s)) => match σ s with
    | some (.row sz' _ rows) => if sz' = sz then some rows else none
    | _ => none
  | _ => none
def mset : List (Key × U) → Key → U → List (Key × U)
  | [], k, u => [(k, u)]
  | x :: es, k, u => if x.1 = k then (k, u) :: es else x :: mset es k u
def mdel : List (Key × U) → Key → List (Key × U)
  | [], _ => []
  | x :: es, k => if x.1 = k then es else x :: mdel es k
def vu : V → Option U
  | .u u => some u
  | _ => none
def qint : V → Option Int
  | .u (.one (.d (.int _ n))) => some n
  | _ => none

def aStore (tb : Tb) (ρ : Env) (σ : Sto) (t : TypeId) (x y : V) (K : Env → Sto → Prop) : Prop := match tb.ty t, x, vcells y with
  | some ti, .u (.one (.box s off)), some xs => match σ s with
    | some (.box cs) => xs.length = ti.size ∧ off + ti.size ≤ cs.length ∧ noTop xs = true ∧ K ρ (upd σ s (some (.box (cs.take off ++ xs ++ cs.drop (off + ti.size)))))
    | _ => False
  | some ti, .u (.one (.elt s i sz off)), some xs => match σ s, cdatas xs with
    | some (.row sz' e rows), some ys => match rows[i]? with
      | some r => sz = sz' ∧ ys.length = ti.size ∧ off + ti.size ≤ r.length ∧ K ρ (upd σ s (some (.row sz' e (rows.set i (r.take off ++ ys ++ r.drop (off + ti.size))))))
      | none => False
    | _, _ => False
  | _, _, _ => False
def aAppend (tb : Tb) (ρ : Env) (σ : Sto) (d : Nat) (t : TypeId) (x y : V) (K : Env → Sto → Prop) : Prop := match tb.ty t with
  | some ti => match ti.desc with
    | .slice e => match tb.ty e with
      | some te => match fstRow σ te.size e x, sndRow σ te.size y with
        | some (so, rows), some news => 0 < te.size ∧ 0 < te.bytes ∧ (rows.length + news.length) * te.bytes ≤ 140737488355328 ∧
            K (upd (wipeE d ρ) d (.u (.one (.own d)))) (upd (wipeS d (drop so σ)) d (some (.row te.size e (rows ++ news))))
        | _, _ => False
      | none => False
    | _ => False
  | none => False
def aNewBox (ρ : Env) (σ : Sto) (d : Nat) (cs : Option (List C)) (K : Env → Sto → Prop) : Prop := match cs with
  | some cs => noTop cs = true ∧ K (upd (wipeE d ρ) d (.u (.one (.box d 0)))) (upd (wipeS d σ) d (some (.box (cs.map (C.wipe d)))))
  | none => False
def aMapSet (tb : Tb) (ρ : Env) (σ : Sto) (t : TypeId) (m k x : V) (K : Env → Sto → Prop) : Prop := match tb.ty t, m, vkey k, vu x with
  | some ti, .u (.one (.map s)), some key, some u => match ti.desc, σ s with
    | .map kt _, some (.map kk es) => tb.key kt = some kk ∧ key.fits kk = true ∧ K ρ (upd (dropIt s σ) s (some (.map kk (mset es key u))))
    | _, _ => False
  | _, _, _, _ => False
def aDelete (tb : Tb) (ρ : Env) (σ : Sto) (d : Option Nat) (t : TypeId) (m k : V) (K : Env → Sto → Prop) : Prop := match tb.ty t, m, vkey k with
  | some ti, .u (.one (.map s)), some key => match ti.desc, σ s with
    | .map kt _, some (.map kk es) => tb.key kt = some kk ∧ key.fits kk = true ∧ K (putE ρ d (.tup [])) (upd (dropIt s σ) s (some (.map kk (mdel es key))))
    | _, _ => False
  | _, _, _ => False
def aMakeMap (tb : Tb) (ρ : Env) (σ : Sto) (d : Nat) (t : TypeId) (r : Option V) (K : Env → Sto → Prop) : Prop := match tb.ty t with
  | some ti => match ti.desc with
    | .map kt _ => match tb.key kt with
      | some kk => (match r with | none => True | some v => (qint v).isSome = true) ∧ K (upd (wipeE d ρ) d (.u (.one (.map d)))) (upd (wipeS d σ) d (some (.map kk [])))
      | none => False
    | _ => False
  | none => False
def aRange (tb : Tb) (ρ : Env) (σ : Sto) (d : Nat) (t : TypeId) (x : V) (K : Env → Sto → Prop) : Prop := match tb.ty t, x with
  | some ti, .u (.one (.map s)) => match ti.desc, σ s with
    | .map _ _, some (.map _ es) => s ≠ d ∧ K (upd (wipeE d ρ) d (.u (.one (.iter d)))) (upd (wipeS d σ) d (some (.iter s (es.map fun x => (x.1, x.2.wipe d)) none)))
    | _, _ => False
  | _, _ => False
def aNext (ρ : Env) (σ : Sto) (d : Nat) (x : V) (K : Env → Sto → Prop) : Prop := match x with
  | .u (.one (.iter s)) => match σ s with
    | some (.iter m left _) => (left = [] → K (upd ρ d (.tup [.one (.d (.bool false))])) σ) ∧
        ∀ i x, left[i]? = some x → K (upd ρ d (.tup [.one (.d (.bool true)), x.1.u, x.2])) (upd σ s (some (.iter m (left.eraseIdx i) (some x))))
    | _ => False
  | _ => False
def aEntry (ρ : Env) (σ : Sto) (d : Nat) (x : V) (K : Env → Sto → Prop) : Prop := match x with
  | .u (.one (.iter s)) => match σ s with
    | some (.iter _ _ (some x)) => K (upd ρ d (.tup [x.1.u, x.2])) σ
    | _ => False
  | _ => False

/-- Is a slice nil of which only the length (none) is known? -/
def aEqNil (tb : Tb) (ρ : Env) (σ : Sto) (d : Nat) (op : BinOp) (t : TypeId) (x y : V) (K : Env → Sto → Prop) : Prop := match tb.ty t, x, y with
  | some ti, .u (.one (.d (.sl _ []))), .u (.one (.d .nil)) => match ti.desc, op with
    | .slice _, .eql => K (upd ρ d (.u (.one (.d (.bool true))))) σ ∧ K (upd ρ d (.u (.one (.d (.bool false))))) σ
    | _, _ => False
  | _, _, _ => False

/-- An operation with an effect. -/
def aeff (tb : Tb) (ρ : Env) (σ : Sto) (o : Oper) (K : Env → Sto → Prop) : Prop :=
  match o.op, o.dst with
  | .alloc t, some d => match tb.ty t with
    | some ti => aNewBox ρ σ d (vcells (.u ti.zu)) K
    | none => False
  | .box _ x, some d => aNewBox ρ σ d (vcells (oev ρ x)) K
  | .store t x y, none => aStore tb ρ σ t (oev ρ x) (oev ρ y) K
  | .call c, d => match c.callee, c.args.toList, c.argTypes.toList, d with
    | .builtin .append, [x, y], [t, t'], some d => t = t' ∧ aAppend tb ρ σ d t (oev ρ x) (oev ρ y) K
    | .builtin .delete, [m, k], [t, _], d => aDelete tb ρ σ d t (oev ρ m) (oev ρ k) K
    | _, _, _, _ => False
  | .mapUpdate t m k x, none => aMapSet tb ρ σ t (oev ρ m) (oev ρ k) (oev ρ x) K
  | .makeMap t r, some d => aMakeMap tb ρ σ d t (r.map (oev ρ)) K
  | .range t x, some d => aRange tb ρ σ d t (oev ρ x) K
  | .next x false, some d => aNext ρ σ d (oev ρ x) K
  | .entry x, some d => aEntry ρ σ d (oev ρ x) K
  | .binOp op t x y _, some d => aEqNil tb ρ σ d op t (oev ρ x) (oev ρ y) K
  | _, _ => False

/-- The operation, run from whatever state is as the abstract one says, leads on to a state of K. -/
def Step (P : Program) (cx : Cx) (o : Oper) (ρ : Env) (σ : Sto) (K : Env → Sto → Prop) : Prop :=
  ∀ (φ : Nat → Value) (a : Act) (w : World), Sim cx φ ρ σ a w → ∀ (next : Act → World → Prop) (Q : Exit → Act → World → Prop),
    (∀ φ' ρ' σ' a' w', Sim cx φ' ρ' σ' a' w' → K ρ' σ' → next a' w') → o.wp P a w next Q

section
variable {P : Program} {tb : Tb} {cx : Cx} {ρ : Env} {σ : Sto} {o : Oper} {K : Env → Sto → Prop}

theorem Sim.put {φ : Nat → Value} {a : Act} {w : World} (h : Sim cx φ ρ σ a w) {d : Option Nat} (hd : ∀ x, d = some x → x < cx.n) {v : V} {u : Value} (hv : vsim φ w (cx.fr φ σ) v u) :
    Sim cx φ (putE ρ d v) σ (a.put d u) w := by
  cases d with
  | none => exact h
  | some d =>
    refine ⟨h.core, slots_put h.slots hv (Nat.lt_of_lt_of_le (hd d rfl) h.room), h.defers, ?_⟩
    simpa [Act.put] using h.room

/-- A quiet operation, as a step. -/
theorem Step.of_quiet {S : V → Prop} (h : Quiet P cx o ρ σ S) (hd : ∀ x, o.dst = some x → x < cx.n) (hk : ∀ v, S v → K (putE ρ o.dst v) σ) : Step P cx o ρ σ K := by
  intro φ a w hs next Q hn
  have hq := h φ a w hs.core (fun x _ => vsim_oev hs.slots x)
  unfold Oper.wp
  generalize (execOp a.eval o).run P w = r at hq
  cases r with
  | ok n w' =>
    cases n with
    | value u =>
      obtain ⟨hb, v, hv, hvs⟩ := hq
      exact hn φ _ σ _ w' ((hs.below hb).put hd hvs) (hk v hv)
    | enter f args =>
      obtain ⟨hb, hc⟩ := hq
      refine hc.mono fun e w'' he => ?_
      obtain ⟨u, v, rfl, hb', hv, hvs⟩ := he
      exact hn φ _ σ _ w'' (((hs.below hb).below hb').put hd hvs) (hk v hv)
    | _ => exact hq.elim
  | halt x w' => exact hq.elim

theorem Step.of_run {a : Act} {w w' : World} {u : Value} (hr : (execOp a.eval o).run P w = .ok (.value u) w') {φ' : Nat → Value} {ρ' : Env} {σ' : Sto} (hs : Sim cx φ' ρ' σ' (a.put o.dst u) w') (hk : K ρ' σ')
    {next : Act → World → Prop} {Q : Exit → Act → World → Prop} (hn : ∀ φ' ρ' σ' a' w', Sim cx φ' ρ' σ' a' w' → K ρ' σ' → next a' w') : o.wp P a w next Q := by
  unfold Oper.wp
  rw [hr]
  exact hn _ _ _ _ _ hs hk

theorem csims_oneCells {φ : Nat → Value} {w : World} {F : Nat → Prop} : ∀ {cs : List C} {vs : List Value}, noTop cs = true → csims φ w F cs vs → ∀ u ∈ vs, u.oneCell' = true
  | [], vs, _, h => by simp only [csims] at h; subst h; simp
  | c :: cs, vs, hn, h => by
    simp only [csims] at h
    obtain ⟨v, r, rfl, hc, h⟩ := h
    simp only [noTop, List.all_cons, Bool.and_eq_true] at hn
    intro u hu
    rcases List.mem_cons.1 hu with rfl | hu
    · exact csim_oneCell (fun e => by subst e; simp at hn) hc
    · exact csims_oneCells hn.2 h u hu

/-- The state behind a new object under the name d. -/
theorem Sim.new {φ : Nat → Value} {a : Act} {w w' : World} {d : Nat} {hv : Value} {c : C} {ρ' : Env} {σ' : Sto} (hs : Sim cx φ ρ σ a w) (hd : d < cx.n)
    (h : Core cx (upd φ d hv) σ' w' ∧ Keep (cx.fr φ σ) (cx.fr (upd φ d hv) σ') w w' ∧ ∀ v u, vsim φ w (cx.fr φ σ) v u → vsim (upd φ d hv) w' (cx.fr (upd φ d hv) σ') (v.wipe d) u)
    (hρ : ρ' = upd (wipeE d ρ) d (.u (.one c))) (hc : csim (upd φ d hv) w' (cx.fr (upd φ d hv) σ') c hv) : Sim cx (upd φ d hv) ρ' σ' (a.put (some d) hv) w' := by
  subst hρ
  obtain ⟨h1, _, h3⟩ := h
  refine ⟨h1, slots_put (fun t => h3 _ _ (hs.slots t)) hc (Nat.lt_of_lt_of_le hd hs.room), hs.defers, ?_⟩
  simpa [Act.put] using hs.room

theorem drop_none (σ : Sto) : drop none σ = σ := by funext t; simp [drop]

theorem newBox_step {φ : Nat → Value} {a : Act} {w : World} {d : Nat} {t : TypeId} {cs : List C} {arr : Array Value} (hs : Sim cx φ ρ σ a w) (hd : d < cx.n) (hd' : d < inBase) (hc : csims φ w (cx.fr φ σ) cs arr.toList) (hn : noTop cs = true) :
    Sim cx (upd φ d (.pointer (some ⟨w.heap.size, 0, none⟩))) (upd (wipeE d ρ) d (.u (.one (.box d 0)))) (upd (wipeS d σ) d (some (.box (cs.map (C.wipe d))))) (a.put (some d) (.pointer (some ⟨w.heap.size, 0, none⟩))) (w.alloc (.cells arr t)) := by
  have hb : Blw w.heap.size w (w.alloc (.cells arr t)) := (Blw.refl _ _).alloc (Nat.le_refl _) _
  have key := hs.core.replace (so := none) (d := d) (hv := .pointer (some ⟨w.heap.size, 0, none⟩)) (ob := .box (cs.map (C.wipe d))) (w' := w.alloc (.cells arr t)) hd' (fun _ _ h => by cases h) hb.os hb.tape hb.output hb.drawn hb.size
    (fun b hl _ => hb.block b hl) (fun b hbk => by simp only [hblk, Option.some.injEq] at hbk; subst hbk; exact ⟨.inl (Nat.le_refl _), by simp⟩) (fun _ _ _ h => by cases h)
    (fun hk => ⟨w.heap.size, arr, t, upd_same _ _ _, heap_alloc_new w _, csims_wipe (fun t ht => upd_other _ _ ht) _ _ (csims_keep hk _ _ hc), csims_oneCells hn hc⟩)
  rw [drop_none] at key
  exact Sim.new hs hd key rfl (by simp only [csim]; exact ⟨w.heap.size, upd_same _ _ _, rfl⟩)

theorem alloc_sound (ht : TbOk P tb) {d : Nat} {t : TypeId} (hop : o.op = .alloc t) (hdst : o.dst = some d) (hd : d < cx.n) (hd' : d < inBase) (h : aeff tb ρ σ o K) : Step P cx o ρ σ K := by
  intro φ a w hs next Q hn
  unfold aeff at h
  simp only [hop, hdst] at h
  split at h
  · rename_i ti hty
    have T := ht.ty t ti hty
    unfold aNewBox at h
    split at h
    · rename_i cs hcs
      have hc := vcells_sound (φ := φ) (w := w) (F := cx.fr φ σ) hcs (T.zero _ _ _)
      refine Step.of_run (u := .pointer (some ⟨w.heap.size, 0, none⟩)) (w' := w.alloc (.cells ti.zv.cells t)) ?_ (by rw [hdst]; exact newBox_step hs hd hd' hc h.1) h.2 hn
      simp [execOp, hop, Instr.alloc, T.run_zero, newVar, run_newRow]
    · exact h.elim
  · exact h.elim

theorem box_sound {d : Nat} {t : TypeId} {x : Operand} (hop : o.op = .box t x) (hdst : o.dst = some d) (hd : d < cx.n) (hd' : d < inBase) (h : aeff tb ρ σ o K) : Step P cx o ρ σ K := by
  intro φ a w hs next Q hn
  unfold aeff at h
  simp only [hop, hdst] at h
  unfold aNewBox at h
  split at h
  · rename_i cs hcs
    have hc := vcells_sound (φ := φ) (w := w) (F := cx.fr φ σ) hcs (vsim_oev hs.slots x)
    refine Step.of_run (u := .pointer (some ⟨w.heap.size, 0, none⟩)) (w' := w.alloc (.cells (a.eval x).cells t)) ?_ (by rw [hdst]; exact newBox_step hs hd hd' hc h.1) h.2 hn
    simp [execOp, hop, Instr.box, newVar, run_newRow]
  · exact h.elim

/-! ### a store -/
theorem run_storeVar {P : Program} {w : World} {t : TypeId} {ti : TI} (T : TabFact P t ti) {b off : Nat} {cur : Array Value} {e : TypeId} (hh : w.heap[b]? = some (.cells cur e (0, 0))) {v : Value} (hsz : v.cells.size = ti.size)
    (hroom : off + ti.size ≤ cur.size) (h1 : ∀ u ∈ v.cells.toList, u.oneCell' = true) :
    (Instr.storeAt t (.pointer (some ⟨b, off, none⟩)) v).run P w = .ok () (w.setRow b (cur.toList.take off ++ v.cells.toList ++ cur.toList.drop (off + ti.size)).toArray) := by
  have hst := run_storeCells_at P b off e v.cells.toList 0 cur w hh (by simp; omega) h1
  simp only [Nat.add_zero] at hst
  unfold Instr.storeAt storeVar
  simp only [Instr.sureAddr, Sem.run_bind, Sem.run_pure, Result.andThen_ok, T.run_size, hsz, ne_eq, not_true_eq_false, if_false]
  rw [hst]
  simp [hsz]

theorem store_sound (ht : TbOk P tb) {t : TypeId} {x y : Operand} (hop : o.op = .store t x y) (hdst : o.dst = none) (h : aeff tb ρ σ o K) : Step P cx o ρ σ K := by
  intro φ a w hs next Q hn
  unfold aeff at h
  simp only [hop, hdst] at h
  unfold aStore at h
  have hx := vsim_oev hs.slots x
  have hy := vsim_oev hs.slots y
  have go : ∀ (b off : Nat) (cur : Array Value) (e : TypeId) (ti : TI) (s : Nat) (ob ob' : Ob), tb.ty t = some ti → a.eval x = .pointer (some ⟨b, off, none⟩) → w.heap[b]? = some (.cells cur e (0, 0)) → (a.eval y).cells.size = ti.size → off + ti.size ≤ cur.size →
      (∀ u ∈ (a.eval y).cells.toList, u.oneCell' = true) → σ s = some ob → (∀ kk es, ob ≠ .map kk es) → (∀ m l la, ob' ≠ .iter m l la) → hblk (φ s) = some b →
      (Keep (cx.fr φ σ) (cx.fr φ (upd σ s (some ob'))) w (w.setRow b (cur.toList.take off ++ (a.eval y).cells.toList ++ cur.toList.drop (off + ti.size)).toArray) →
        osim φ (w.setRow b (cur.toList.take off ++ (a.eval y).cells.toList ++ cur.toList.drop (off + ti.size)).toArray) (cx.fr φ (upd σ s (some ob'))) s ob') →
      K ρ (upd σ s (some ob')) → o.wp P a w next Q := by
    intro b off cur e ti s ob ob' hty hxe hh hsz hroom h1 hs' hnm hni hbk hob hk
    have T := ht.ty t ti hty
    have hrun := run_storeVar T hh hsz hroom h1
    have key := hs.core.mutate (s := s) (ob' := ob') (w' := w.setRow b (cur.toList.take off ++ (a.eval y).cells.toList ++ cur.toList.drop (off + ti.size)).toArray) hs' (σ1 := σ) (fun _ _ _ h => h)
      (fun t m l la _ h e => by
        subst e
        obtain ⟨kk, es, hm⟩ := hs.core.itm t m l la h
        rw [hs'] at hm
        exact hnm kk es (by injection hm)) (fun _ _ _ h _ => h) (fun m l la h => absurd h (hni m l la)) rfl rfl rfl (Nat.le_refl _) (by simp)
      (fun b' _ hne => setRow_other w b b' _ (fun e => hne (by rw [hbk, e]))) hob
    have hs2 : Sim cx φ ρ (upd σ s (some ob')) (a.put o.dst undef) (w.setRow b (cur.toList.take off ++ (a.eval y).cells.toList ++ cur.toList.drop (off + ti.size)).toArray) := by
      rw [hdst]
      exact ⟨key.1, fun t => vsim_keep key.2 _ _ (hs.slots t), hs.defers, hs.room⟩
    unfold Oper.wp
    have he : (execOp a.eval o).run P w = .ok .skip (w.setRow b (cur.toList.take off ++ (a.eval y).cells.toList ++ cur.toList.drop (off + ti.size)).toArray) := by
      simp [execOp, hop, hxe, hrun]
    rw [he]
    exact hn _ _ _ _ _ hs2 hk
  split at h
  · rename_i ti s off xs hty hxv hyv
    split at h
    · rename_i cs hs'
      obtain ⟨h1, h2, h3, h4⟩ := h
      rw [hxv] at hx
      obtain ⟨b, arr, t', hp, hh, hc, hone⟩ := hs.core.objs s _ hs'
      obtain ⟨b', hb', hxe⟩ := hx
      rw [hp] at hb'
      simp only [Value.pointer.injEq, Option.some.injEq, Addr.mk.injEq] at hb'
      obtain ⟨rfl, _, _⟩ := hb'
      have hcy := vcells_sound hyv hy
      have hl1 := csims_length hcy
      have hl2 := csims_length hc
      simp only [Array.length_toList] at hl1 hl2
      have h1c := csims_oneCells h3 hcy
      refine go b off arr t' ti s _ (.box (cs.take off ++ xs ++ cs.drop (off + ti.size))) hty hxe hh (by omega) (by omega) h1c hs' (fun _ _ h => by cases h) (fun _ _ _ h => by cases h) (by rw [hp]; rfl) (fun hk => ?_) h4
      refine ⟨b, _, t', hp, setRow_heap w b arr _ t' (0, 0) hh, ?_, ?_⟩
      · simp only
        exact csims_append (csims_append (csims_take off (csims_keep hk _ _ hc)) (csims_keep hk _ _ hcy)) (csims_drop _ (csims_keep hk _ _ hc))
      · intro u hu
        simp only [List.mem_append] at hu
        rcases hu with (hu | hu) | hu
        · exact hone u (List.mem_of_mem_take hu)
        · exact h1c u hu
        · exact hone u (List.mem_of_mem_drop hu)
    · exact h.elim
  · rename_i ti s i sz off xs hty hxv hyv
    split at h
    · rename_i sz' e rows ys hs' hys
      split at h
      · rename_i r hr
        obtain ⟨rfl, h1, h2, h4⟩ := h
        rw [hxv] at hx
        obtain ⟨b', n', c', hb', hxe⟩ := hx
        obtain ⟨hrl, ho⟩ := hs.core.objs s _ hs'
        rcases ho with ⟨h0, _⟩ | ⟨b, cap, cur, h0, hp, hl, hm', hh, hcs, hc⟩
        · subst h0; simp at hr
        · rw [hp] at hb'
          simp at hb'
          obtain ⟨rfl, _, _⟩ := hb'
          have hcy := vcells_sound hyv hy
          rw [cdatas_eq hys] at hcy
          have hl1 := csims_length hcy
          simp only [List.length_map, Array.length_toList] at hl1
          have hil : i < rows.length := (List.getElem?_eq_some_iff.1 hr).1
          have hri := hrl r (List.mem_of_getElem? hr)
          have hle : i * sz + sz ≤ rows.length * sz := by
            have := Nat.mul_le_mul_right sz (show i + 1 ≤ rows.length from hil)
            rwa [Nat.add_mul, Nat.one_mul] at this
          have hle2 : rows.length * sz ≤ cap * sz := Nat.mul_le_mul_right sz hl
          have h1c := csims_one hcy
          have hnew : (r.take off ++ ys ++ r.drop (off + ti.size)).length = sz := by simp; omega
          refine go b (i * sz + off) cur e ti s _ (.row sz e (rows.set i (r.take off ++ ys ++ r.drop (off + ti.size)))) hty hxe hh (by omega) (by omega) h1c hs' (fun _ _ h => by cases h) (fun _ _ _ h => by cases h) (by rw [hp]; simp only [hblk]; rw [if_neg (by omega)]) (fun hk => ?_) h4
          refine ⟨fun q hq => ?_, .inr ⟨b, cap, _, h0, by rw [List.length_set]; exact hp, by rw [List.length_set]; exact hl, hm', setRow_heap w b cur _ e (0, 0) hh, ?_, ?_⟩⟩
          · rcases List.mem_or_eq_of_mem_set hq with hq | rfl
            · exact hrl q hq
            · exact hnew
          · simp; omega
          · rw [List.length_set, flatten_set hrl hil]
            have hfl := flatten_length hrl
            have hck := csims_keep hk _ _ hc
            have hcy' := csims_keep hk _ _ hcy
            have e1 : rows.flatten.take (i * sz) ++ (r.take off ++ ys ++ r.drop (off + ti.size)) ++ rows.flatten.drop (i * sz + sz) =
                rows.flatten.take (i * sz + off) ++ ys ++ rows.flatten.drop (i * sz + off + ti.size) := by
              have hrow := flatten_row hrl hr
              have d1 : rows.flatten.take (i * sz + off) = rows.flatten.take (i * sz) ++ r.take off := by
                rw [List.take_add, ← hrow, List.take_take, Nat.min_eq_left (by omega)]
              have d2 : rows.flatten.drop (i * sz + off + ti.size) = r.drop (off + ti.size) ++ rows.flatten.drop (i * sz + sz) := by
                rw [Nat.add_assoc, ← List.drop_drop]
                conv => lhs; rw [← List.take_append_drop sz (rows.flatten.drop (i * sz)), hrow, List.drop_append_of_le_length (by omega), List.drop_drop]
              rw [d1, d2]
              simp
            rw [e1]
            have e2 : (cur.toList.take (i * sz + off) ++ (a.eval y).cells.toList ++ cur.toList.drop (i * sz + off + ti.size)).take (rows.length * sz) =
                (cur.toList.take (rows.length * sz)).take (i * sz + off) ++ (a.eval y).cells.toList ++ (cur.toList.take (rows.length * sz)).drop (i * sz + off + ti.size) := by
              rw [List.take_append, List.take_append, List.take_take, List.take_take, List.drop_take]
              have q1 : (cur.toList.take (i * sz + off)).length = i * sz + off := by simp; omega
              have q2 : (cur.toList.take (i * sz + off) ++ (a.eval y).cells.toList).length = i * sz + off + ti.size := by rw [List.length_append, q1, Array.length_toList]; omega
              rw [q1, q2, Nat.min_eq_right (by omega), Nat.min_eq_left (by omega), List.take_of_length_le (l := (a.eval y).cells.toList) (by rw [Array.length_toList]; omega)]
            simp only
            rw [e2, List.map_append, List.map_append, List.map_take, List.map_drop]
            exact csims_append (csims_append (csims_take _ hck) hcy') (csims_drop _ hck)
      · exact h.elim
    · exact h.elim
  · exact h.elim
theorem equalIn_none' {w : World} (d : Nat) {t e : TypeId} (h : P.underlying t = some (.slice e)) (n c : Nat) : (Op.equalIn (d + 1) t (.slice none n c) (.slice none 0 0)).run P w = .ok true w := by
  simp [Op.equalIn, run_underlying h]
theorem eqNil_sound (ht : TbOk P tb) {d : Nat} {op : BinOp} {t yt : TypeId} {x y : Operand} (hop : o.op = .binOp op t x y yt) (hdst : o.dst = some d) (hd : d < cx.n) (h : aEqNil tb ρ σ d op t (oev ρ x) (oev ρ y) K) : Step P cx o ρ σ K := by
  intro φ a w hs next Q hn
  unfold aEqNil at h
  split at h
  · rename_i ti sz hty hx hy
    have T := ht.ty t ti hty
    split at h
    · rename_i e hde
      have hxs := vsim_oev hs.slots x
      have hys := vsim_oev hs.slots y
      rw [hx] at hxs
      rw [hy] at hys
      simp only [vsim, usim, csim, rep] at hxs hys
      obtain ⟨ao, n, c, hu, hn0, _⟩ := hxs
      have hg : ∀ u : Value, (eqGuard .eql t x y (.slice ao n c) u).run P w = .ok () w := fun u => by simp [eqGuard]
      have hput : ∀ b : Bool, Sim cx φ (upd ρ d (.u (.one (.d (.bool b))))) σ (a.put (some d) (.bool b)) w := fun b =>
        ⟨hs.core, slots_put hs.slots (by simp [vsim, usim, csim, rep]) (Nat.lt_of_lt_of_le hd hs.room), hs.defers, by simpa [Act.put] using hs.room⟩
      cases ao with
      | none =>
        have he : (Op.equal t (.slice none n c) (.slice none 0 0)).run P w = .ok true w := by
          unfold Op.equal Op.maxDepth
          exact equalIn_none' 9999 (T.und.trans (by rw [hde])) n c
        refine Step.of_run (u := .bool true) (w' := w) ?_ (by rw [hdst]; exact hput true) h.1 hn
        simp only [execOp, hop, hu, hys, Sem.run_bind, hg, Result.andThen_ok, binOp, he]
        rfl
      | some ad =>
        have he : (Op.equal t (.slice (some ad) n c) (.slice none 0 0)).run P w = .ok false w := by
          unfold Op.equal Op.maxDepth
          exact equalIn_some 9999 (T.und.trans (by rw [hde])) ad n c
        refine Step.of_run (u := .bool false) (w' := w) ?_ (by rw [hdst]; exact hput false) h.2 hn
        simp only [execOp, hop, hu, hys, Sem.run_bind, hg, Result.andThen_ok, binOp, he]
        rfl
    · exact h.elim
  · exact h.elim
end
end Go.AM
