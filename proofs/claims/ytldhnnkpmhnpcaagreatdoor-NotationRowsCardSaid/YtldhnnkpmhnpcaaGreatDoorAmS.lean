/- What `simp` needs to evaluate code: the evaluation's functions, each locked so that `simp` does not go into what comes later before its time. -/
import Derived.Test.YtldhnnkpmhnpcaaGreatDoorAmT
namespace Go.AM
open Go.RowKit
inductive Lk.{u} {α : Sort u} (a : α) : Type where
 | mk
def stp (r : Option (Prop × Env × Sto)) (K : Env → Sto → Prop) : Prop := match r with
 | some (p, ρ, σ) => p ∧ K ρ σ
 | none => False
def rNewBox (ρ : Env) (σ : Sto) (d : Nat) (cs : Option (List C)) : Option (Prop × Env × Sto) := match cs with
 | some cs => some (noTop cs = true, upd (wipeE d ρ) d (.u (.one (.box d 0))), upd (wipeS d σ) d (some (.box (cs.map (C.wipe d)))))
 | none => none
def rAlloc (tb : Tb) (ρ : Env) (σ : Sto) (d : Nat) (t : TypeId) : Option (Prop × Env × Sto) := match tb.ty t with
 | some ti => some (okZero ti = true, upd (wipeE d ρ) d (.u (.one (.box d 0))), upd (wipeS d σ) d (some (.box ((acells ti.zu).map (C.wipe d)))))
 | none => none
def rStore (tb : Tb) (ρ : Env) (σ : Sto) (t : TypeId) (x y : V) : Option (Prop × Env × Sto) := match tb.ty t, x, vcells y with
 | some ti, .u (.one (.box s off)), some xs => match σ s with
  | some (.box cs) => some ((xs.length = ti.size ∧ off + ti.size ≤ cs.length ∧ noTop xs = true), ρ, upd σ s (some (.box (cs.take off ++ xs ++ cs.drop (off + ti.size)))))
  | _ => none
 | some ti, .u (.one (.elt s i sz off)), some xs => match σ s, cdatas xs with
  | some (.row sz' e rows), some ys => match rows[i]? with
   | some r => some ((sz = sz' ∧ ys.length = ti.size ∧ off + ti.size ≤ r.length), ρ, upd σ s (some (.row sz' e (rows.set i (r.take off ++ ys ++ r.drop (off + ti.size))))))
   | none => none
  | _, _ => none
 | _, _, _ => none
def rAppend (tb : Tb) (ρ : Env) (σ : Sto) (d : Nat) (t : TypeId) (x y : V) : Option (Prop × Env × Sto) := match tb.ty t with
 | some ti => match ti.desc with
  | .slice e => match tb.ty e with
   | some te => match fstRow σ te.size e x, sndRow σ te.size y with
    | some (so, rows), some news => some ((0 < te.size ∧ 0 < te.bytes ∧ (rows.length + news.length) * te.bytes ≤ 140737488355328),
      upd (wipeE d ρ) d (.u (.one (.own d))), upd (wipeS d (drop so σ)) d (some (.row te.size e (rows ++ news))))
    | _, _ => none
   | none => none
  | _ => none
 | none => none
def rAppendS (tb : Tb) (ρ : Env) (σ : Sto) (d : Nat) (t t' : TypeId) (x y : V) : Option (Prop × Env × Sto) := match tb.ty t, tb.ty t' with
 | some ti, some ts => match ti.desc, ts.desc with
  | .slice e, .string => match tb.ty e with
   | some te => match fstRow σ te.size e x, strRow te.size y with
    | some (so, rows), some l => some ((0 < te.bytes ∧ (rows.length + l.length) * te.bytes ≤ 140737488355328),
      upd (wipeE d ρ) d (.u (.one (.own d))), upd (wipeS d (drop so σ)) d (some (.row te.size e (rows ++ l.map byteL))))
    | _, _ => none
   | none => none
  | _, _ => none
 | _, _ => none
def bv (tb : Tb) (ρ : Env) (σ : Sto) (t : TypeId) (m k x : V) : Option (Prop × Env × Sto) := match tb.ty t, m, vkey k, vu x with
 | some ti, .u (.one (.map s)), some key, some u => match ti.desc, σ s with
  | .map kt _, some (.map kk es) => some ((tb.key kt = some kk ∧ key.fits kk = true), ρ, upd (dropIt s σ) s (some (.map kk (mset es key u))))
  | _, _ => none
 | _, _, _, _ => none
def cb (tb : Tb) (ρ : Env) (σ : Sto) (d : Option Nat) (t : TypeId) (m k : V) : Option (Prop × Env × Sto) := match tb.ty t, m, vkey k with
 | some ti, .u (.one (.map s)), some key => match ti.desc, σ s with
  | .map kt _, some (.map kk es) => some ((tb.key kt = some kk ∧ key.fits kk = true), putE ρ d (.tup []), upd (dropIt s σ) s (some (.map kk (mdel es key))))
  | _, _ => none
 | _, _, _ => none
def rMakeMap (tb : Tb) (ρ : Env) (σ : Sto) (d : Nat) (t : TypeId) (r : Option V) : Option (Prop × Env × Sto) := match tb.ty t with
 | some ti => match ti.desc with
  | .map kt _ => match tb.key kt with
   | some kk => some ((match r with | none => True | some v => (qint v).isSome = true), upd (wipeE d ρ) d (.u (.one (.map d))), upd (wipeS d σ) d (some (.map kk [])))
   | none => none
  | _ => none
 | none => none
def ek (tb : Tb) (ρ : Env) (σ : Sto) (d : Nat) (t : TypeId) (x c : V) : Option (Prop × Env × Sto) := match tb.ty t with
 | some ti => match ti.desc with
  | .slice e => match tb.ty e with
   | some te => match x, c, (vcells (.u te.zu)).bind cdatas with
    | .u (.one (.d (.int .i64 n))), .u (.one (.d (.int .i64 m))), some zr => some ((0 ≤ n ∧ n ≤ m ∧ 0 < te.size ∧ 0 < te.bytes ∧ m * te.bytes ≤ 140737488355328),
      upd (wipeE d ρ) d (.u (.one (.own d))), upd (wipeS d σ) d (some (.row te.size e (List.replicate n.toNat zr))))
    | _, _, _ => none
   | none => none
  | _ => none
 | none => none
def rRange (tb : Tb) (ρ : Env) (σ : Sto) (d : Nat) (t : TypeId) (x : V) : Option (Prop × Env × Sto) := match tb.ty t, x with
 | some ti, .u (.one (.map s)) => match ti.desc, σ s with
  | .map _ _, some (.map _ es) => some (s ≠ d, upd (wipeE d ρ) d (.u (.one (.iter d))), upd (wipeS d σ) d (some (.iter s (es.map fun x => (x.1, x.2.wipe d)) none)))
  | _, _ => none
 | _, _ => none
def rEntry (ρ : Env) (σ : Sto) (d : Nat) (x : V) : Option (Prop × Env × Sto) := match x with
 | .u (.one (.iter s)) => match σ s with
  | some (.iter _ _ (some x)) => some (True, upd ρ d (.tup [x.1.u, x.2]), σ)
  | _ => none
 | _ => none
def rNext (σ : Sto) (x : V) : Option (Nat × Nat × List (Key × U)) := match x with
 | .u (.one (.iter s)) => match σ s with
  | some (.iter m left _) => some (s, m, left)
  | _ => none
 | _ => none
def rEqNil (tb : Tb) (t : TypeId) (x y : V) : Bool := match tb.ty t, x, y with
 | some ti, .u (.one (.d (.sl _ []))), .u (.one (.d .nil)) => match ti.desc with
  | .slice _ => true
  | _ => false
 | _, _, _ => false
section
variable {tb : Tb} {ρ ρ' : Env} {σ σ' : Sto} {K : Env → Sto → Prop}
theorem aNewBox_eq {d : Nat} {cs : Option (List C)} : aNewBox ρ σ d cs K = stp (rNewBox ρ σ d cs) K := by
 unfold aNewBox rNewBox
 cases cs <;> simp [stp]
theorem aeff_alloc {d : Nat} {t ty : TypeId} {pos : String} {af g} : aeff tb ρ σ { dst := some d, op := .alloc t, type := ty, pos := pos, after := af, guard := g } K = stp (rAlloc tb ρ σ d t) K := by
 unfold aeff rAlloc
 dsimp only
 rcases tb.ty t with _ | ti <;> rfl
theorem aeff_box {d : Nat} {t ty : TypeId} {x : Operand} {pos : String} {af g} : aeff tb ρ σ { dst := some d, op := .box t x, type := ty, pos := pos, after := af, guard := g } K = stp (rNewBox ρ σ d (vcells (oev ρ x))) K := by
 unfold aeff
 dsimp only
 rw [aNewBox_eq]
theorem aeff_store {t ty : TypeId} {x y : Operand} {pos : String} {af g} : aeff tb ρ σ { dst := none, op := .store t x y, type := ty, pos := pos, after := af, guard := g } K = stp (rStore tb ρ σ t (oev ρ x) (oev ρ y)) K := by
 unfold aeff
 dsimp only
 unfold aStore rStore
 rcases tb.ty t with _ | ti
 ·rfl
 rcases oev ρ x with (c | cs) | us <;> rcases vcells (oev ρ y) with _ | xs <;> try rfl
 ·cases c <;> rfl
 ·cases c with
  | box s off =>
   dsimp only
   rcases σ s with _ | ob
   ·rfl
   cases ob <;> simp [stp, and_assoc]
  | elt s i sz off =>
   dsimp only
   rcases σ s with _ | ob
   ·rfl
   cases ob with
   | row z e rows =>
    rcases cdatas xs with _ | ys
    ·rfl
    dsimp only
    rcases rows[i]? with _ | r
    ·rfl
    simp [stp, and_assoc]
   | _ => rfl
  | _ => rfl
theorem aeff_append {d : Nat} {t ty : TypeId} {x y : Operand} {pos : String} {af g} : aeff tb ρ σ { dst := some d, op := .call { callee := .builtin .append, args := #[x, y], argTypes := #[t, t] }, type := ty, pos := pos, after := af, guard := g } K = stp (rAppend tb ρ σ d t (oev ρ x) (oev ρ y)) K := by
 unfold aeff
 dsimp only
 rw [if_pos rfl]
 unfold aAppend rAppend
 rcases tb.ty t with _ | ti
 ·rfl
 dsimp only
 cases ti.desc with
 | slice e =>
  dsimp only
  rcases tb.ty e with _ | te
  ·rfl
  dsimp only
  rcases fstRow σ te.size e (oev ρ x) with _ | ⟨so, rows⟩
  ·rfl
  rcases sndRow σ te.size (oev ρ y) with _ | news
  ·rfl
  simp [stp, and_assoc]
 | _ => rfl
theorem aeff_mapUpdate {t ty : TypeId} {m k x : Operand} {pos : String} {af g} : aeff tb ρ σ { dst := none, op := .mapUpdate t m k x, type := ty, pos := pos, after := af, guard := g } K = stp (bv tb ρ σ t (oev ρ m) (oev ρ k) (oev ρ x)) K := by
 unfold aeff
 dsimp only
 unfold aMapSet bv
 rcases tb.ty t with _ | ti
 ·rfl
 rcases oev ρ m with (c | cs) | us <;> rcases vkey (oev ρ k) with _ | key <;> rcases vu (oev ρ x) with _ | u <;> try rfl
 ·cases c <;> rfl
 ·cases c <;> rfl
 ·cases c <;> rfl
 ·cases c with
  | map s =>
   dsimp only
   cases ti.desc with
   | map kt e =>
    rcases σ s with _ | ob
    ·rfl
    cases ob <;> simp [stp, and_assoc]
   | _ => rfl
  | _ => rfl
theorem aeff_makeMap {d : Nat} {t ty : TypeId} {r : Option Operand} {pos : String} {af g} : aeff tb ρ σ { dst := some d, op := .makeMap t r, type := ty, pos := pos, after := af, guard := g } K = stp (rMakeMap tb ρ σ d t (r.map (oev ρ))) K := by
 unfold aeff
 dsimp only
 unfold aMakeMap rMakeMap
 rcases tb.ty t with _ | ti
 ·rfl
 dsimp only
 cases ti.desc with
 | map kt e =>
  dsimp only
  rcases tb.key kt with _ | kk <;> rfl
 | _ => rfl
theorem aeff_makeSlice {d : Nat} {t ty : TypeId} {x c : Operand} {pos : String} {af g} : aeff tb ρ σ { dst := some d, op := .makeSlice t x c, type := ty, pos := pos, after := af, guard := g } K = stp (ek tb ρ σ d t (oev ρ x) (oev ρ c)) K := by
 unfold aeff
 dsimp only
 unfold aMakeSlice ek
 rcases tb.ty t with _ | ti
 ·rfl
 dsimp only
 cases ti.desc with
 | slice e =>
  dsimp only
  rcases tb.ty e with _ | te
  ·rfl
  dsimp only
  split <;> simp_all [stp]
 | _ => rfl
end
section
variable {P : Program} {cx : Cx} {tb : Tb} {all l : List Oper} {ρ : Env} {σ : Sto} {K : Env → Sto → Prop} {o : Oper} {Q : Exit → Env → Sto → Prop} {c : Code} {run skip : Env → Prop} {d : Option Nat} {op : Op}
 {ty : TypeId} {pos : String} {af : Array Edge} {g : Option (Nat × Bool)}
def agL (all : List Oper) (g : Option (Nat × Bool)) (ρ : Env) (run skip : Env → Prop) (_ : Lk (all, ρ, run, skip)) : Prop := bA all g ρ run skip
def agd (s : Option Nat) (want : Bool) (ρ : Env) (run skip : Env → Prop) (_ : Lk (ρ, run, skip)) : Prop := match s with
 | some s => match ρ s with
  | .u (.one (.d (.bool b))) => (b = want → run (upd ρ s (.u (.one (.d (.bool want)))))) ∧ (b = !want → skip (upd ρ s (.u (.one (.d (.bool !want))))))
  | .tup [] => skip ρ
  | _ => False
 | none => False
def agv (v : V) (s : Nat) (want : Bool) (ρ : Env) (run skip : Env → Prop) (_ : Lk (ρ, run, skip)) : Prop := match v with
 | .u (.one (.d (.bool b))) => (b = want → run (upd ρ s (.u (.one (.d (.bool want)))))) ∧ (b = !want → skip (upd ρ s (.u (.one (.d (.bool !want))))))
 | .tup [] => skip ρ
 | _ => False
def agb (b : Bool) (s : Nat) (want : Bool) (ρ : Env) (run skip : Env → Prop) (_ : Lk (ρ, run, skip)) : Prop := (b = want → run (upd ρ s (.u (.one (.d (.bool want)))))) ∧ (b = !want → skip (upd ρ s (.u (.one (.d (.bool !want))))))
theorem agL_none {k} : agL all none ρ run skip k = run ρ := by unfold agL bA; exact rfl
theorem agL_some {j : Nat} {want : Bool} {k} : agL all (some (j, want)) ρ run skip k = agd (gslot all j) want ρ run skip .mk := by unfold agL bA agd; exact rfl
theorem agd_some {s : Nat} {want : Bool} {k} : agd (some s) want ρ run skip k = agv (ρ s) s want ρ run skip .mk := by unfold agd agv; exact rfl
theorem agv_b {b : Bool} {s : Nat} {want : Bool} {k} : agv (.u (.one (.d (.bool b)))) s want ρ run skip k = agb b s want ρ run skip .mk := by unfold agv agb; exact rfl
theorem agv_0 {s : Nat} {want : Bool} {k} : agv (.tup []) s want ρ run skip k = skip ρ := by unfold agv; exact rfl
theorem agb_t {b : Bool} {s : Nat} {k} : agb b s true ρ run skip k = ((b = true → run (upd ρ s (.u (.one (.d (.bool true)))))) ∧ (b = false → skip (upd ρ s (.u (.one (.d (.bool false))))))) := by unfold agb; exact rfl
theorem agb_f {b : Bool} {s : Nat} {k} : agb b s false ρ run skip k = ((b = false → run (upd ρ s (.u (.one (.d (.bool false)))))) ∧ (b = true → skip (upd ρ s (.u (.one (.d (.bool true))))))) := by unfold agb; exact rfl
theorem agv_tt {v : V} {s : Nat} {k} (hv : v = .u (.one (.d (.bool true)))) (h : ρ s = .u (.one (.d (.bool true)))) : agv v s true ρ run skip k = run ρ := by subst hv; rw [agv_b, agb_t, ← h, bK]; simp
theorem agv_ff {v : V} {s : Nat} {k} (hv : v = .u (.one (.d (.bool false)))) (h : ρ s = .u (.one (.d (.bool false)))) : agv v s false ρ run skip k = run ρ := by subst hv; rw [agv_b, agb_f, ← h, bK]; simp
theorem agv_tf {v : V} {s : Nat} {k} (hv : v = .u (.one (.d (.bool true)))) (h : ρ s = .u (.one (.d (.bool true)))) : agv v s false ρ run skip k = skip ρ := by subst hv; rw [agv_b, agb_f, ← h, bK]; simp
theorem agv_ft {v : V} {s : Nat} {k} (hv : v = .u (.one (.d (.bool false)))) (h : ρ s = .u (.one (.d (.bool false)))) : agv v s true ρ run skip k = skip ρ := by subst hv; rw [agv_b, agb_t, ← h, bK]; simp
theorem gslot_zero : gslot ({ dst := d, op := op, type := ty, pos := pos, after := af, guard := g } :: l) 0 = d := rfl
theorem gslot_succ {n : Nat} : gslot (o :: l) (n + 1) = gslot l n := by simp [gslot]
def bY (P : Program) (cx : Cx) (tb : Tb) (all l : List Oper) (ρ : Env) (σ : Sto) (K : Env → Sto → Prop) (_ : Lk (all, l, K)) : Prop := aops P cx tb all l ρ σ K
def astL (P : Program) (cx : Cx) (tb : Tb) (op : Op) (d : Option Nat) (ρ : Env) (σ : Sto) (K : Env → Sto → Prop) (_ : Lk (ρ, σ, K)) : Prop := match aU op with
 | some c => match aS ρ c with
  | some (f, args) => match tb.call f args with
   | some v => K (putE ρ d v) σ
   | none => match tb.eff f args d ρ σ with
    | some T => T K
    | none => CallK P cx f args ρ σ d K
  | none => False
 | none => match qev tb ρ σ op with
  | some v => K (putE ρ d v) σ
  | none => aeff tb ρ σ { dst := d, op := op, type := 0, pos := "", after := #[], guard := none } K
def ast1 (P : Program) (cx : Cx) (tb : Tb) (gc : Option Call) (op : Op) (d : Option Nat) (ρ : Env) (σ : Sto) (K : Env → Sto → Prop) (_ : Lk (op, ρ, σ, K)) : Prop := match gc with
 | some c => match aS ρ c with
  | some (f, args) => match tb.call f args with
   | some v => K (putE ρ d v) σ
   | none => match tb.eff f args d ρ σ with
    | some T => T K
    | none => CallK P cx f args ρ σ d K
  | none => False
 | none => match qev tb ρ σ op with
  | some v => K (putE ρ d v) σ
  | none => aeff tb ρ σ { dst := d, op := op, type := 0, pos := "", after := #[], guard := none } K
def ast2 (tb : Tb) (v : Option V) (op : Op) (d : Option Nat) (ρ : Env) (σ : Sto) (K : Env → Sto → Prop) (_ : Lk (op, ρ, σ, K)) : Prop := match v with
 | some v => K (putE ρ d v) σ
 | none => aeff tb ρ σ { dst := d, op := op, type := 0, pos := "", after := #[], guard := none } K
def astc (P : Program) (cx : Cx) (tb : Tb) (fa : Option (FuncId × List V)) (d : Option Nat) (ρ : Env) (σ : Sto) (K : Env → Sto → Prop) (_ : Lk (ρ, σ, K)) : Prop := match fa with
 | some (f, args) => match tb.call f args with
   | some v => K (putE ρ d v) σ
   | none => match tb.eff f args d ρ σ with
    | some T => T K
    | none => CallK P cx f args ρ σ d K
 | none => False
def ast3 (P : Program) (cx : Cx) (tb : Tb) (r : Option V) (f : FuncId) (args : List V) (d : Option Nat) (ρ : Env) (σ : Sto) (K : Env → Sto → Prop) (_ : Lk (ρ, σ, K)) : Prop := match r with
 | some v => K (putE ρ d v) σ
 | none => match tb.eff f args d ρ σ with
  | some T => T K
  | none => CallK P cx f args ρ σ d K
def ast4 (P : Program) (cx : Cx) (r : Option ((Env → Sto → Prop) → Prop)) (f : FuncId) (args : List V) (d : Option Nat) (ρ : Env) (σ : Sto) (K : Env → Sto → Prop) (_ : Lk (ρ, σ, K)) : Prop := match r with
 | some T => T K
 | none => CallK P cx f args ρ σ d K
def CallL (P : Program) (cx : Cx) (f : FuncId) (args : List V) (d : Option Nat) (ρ : Env) (σ : Sto) (K : Env → Sto → Prop) (_ : Lk (ρ, σ, K)) : Prop := CallK P cx f args ρ σ d K
def ev (tb : Tb) (op : Op) (d : Option Nat) (ρ : Env) (σ : Sto) (K : Env → Sto → Prop) (_ : Lk (op, ρ, σ, K)) : Prop := aeff tb ρ σ { dst := d, op := op, type := 0, pos := "", after := #[], guard := none } K
def stpL (r : Option (Prop × Env × Sto)) (K : Env → Sto → Prop) (_ : Lk K) : Prop := stp r K
theorem aopsL_nil {k} : bY P cx tb all [] ρ σ K k = K ρ σ := by unfold bY; rw [aops]
theorem astep_L : cP P cx tb { dst := d, op := op, type := ty, pos := pos, after := af, guard := g } ρ σ K = astL P cx tb op d ρ σ K .mk := by unfold cP astL; exact rfl
theorem aopsL_cons {k} : bY P cx tb all ({ dst := d, op := op, type := ty, pos := pos, after := af, guard := g } :: l) ρ σ K k =
  agL all g ρ (fun ρ => astL P cx tb op d ρ σ (fun ρ σ => bY P cx tb all l ρ σ K .mk) .mk) (fun ρ => bY P cx tb all l (putE ρ d (.tup [])) σ K .mk) .mk := by
 unfold bY agL
 rw [aops]
 simp only [astep_L]
theorem astL_eq {k} : astL P cx tb op d ρ σ K k = ast1 P cx tb (aU op) op d ρ σ K .mk := by unfold astL ast1; exact rfl
theorem ast1_none {k} : ast1 P cx tb none op d ρ σ K k = ast2 tb (qev tb ρ σ op) op d ρ σ K .mk := by unfold ast1 ast2; exact rfl
theorem ast1_some {c : Call} {k} : ast1 P cx tb (some c) op d ρ σ K k = astc P cx tb (aS ρ c) d ρ σ K .mk := by unfold ast1 astc; exact rfl
theorem ast2_some {v : V} {k} : ast2 tb (some v) op d ρ σ K k = K (putE ρ d v) σ := by unfold ast2; exact rfl
theorem ast2_none {k} : ast2 tb none op d ρ σ K k = ev tb op d ρ σ K .mk := by unfold ast2 ev; exact rfl
theorem astc_some {f : FuncId} {args : List V} {k} : astc P cx tb (some (f, args)) d ρ σ K k = ast3 P cx tb (tb.call f args) f args d ρ σ K .mk := by unfold astc ast3; exact rfl
theorem ast3_none {f : FuncId} {args : List V} {k} : ast3 P cx tb none f args d ρ σ K k = ast4 P cx (tb.eff f args d ρ σ) f args d ρ σ K .mk := by unfold ast3 ast4; exact rfl
theorem ast4_none {f : FuncId} {args : List V} {k} : ast4 P cx none f args d ρ σ K k = CallL P cx f args d ρ σ K .mk := by unfold ast4 CallL; exact rfl
theorem stpL_some {p : Prop} {k} : stpL (some (p, ρ, σ)) K k = (p ∧ K ρ σ) := by unfold stpL stp; exact rfl
theorem aefL_alloc {d : Nat} {t : TypeId} {k} : ev tb (.alloc t) (some d) ρ σ K k = stpL (rAlloc tb ρ σ d t) K .mk := by unfold ev stpL; rw [aeff_alloc]
theorem aefL_box {d : Nat} {t : TypeId} {x : Operand} {k} : ev tb (.box t x) (some d) ρ σ K k = stpL (rNewBox ρ σ d (vcells (oev ρ x))) K .mk := by unfold ev stpL; rw [aeff_box]
theorem aefL_store {t : TypeId} {x y : Operand} {k} : ev tb (.store t x y) none ρ σ K k = stpL (rStore tb ρ σ t (oev ρ x) (oev ρ y)) K .mk := by unfold ev stpL; rw [aeff_store]
theorem aefL_append {d : Nat} {t : TypeId} {x y : Operand} {k} : ev tb (.call { callee := .builtin .append, args := #[x, y], argTypes := #[t, t] }) (some d) ρ σ K k = stpL (rAppend tb ρ σ d t (oev ρ x) (oev ρ y)) K .mk := by unfold ev stpL; rw [aeff_append]
theorem aefL_mapUpdate {t : TypeId} {m x y : Operand} {k} : ev tb (.mapUpdate t m x y) none ρ σ K k = stpL (bv tb ρ σ t (oev ρ m) (oev ρ x) (oev ρ y)) K .mk := by unfold ev stpL; rw [aeff_mapUpdate]
theorem aefL_makeMap {d : Nat} {t : TypeId} {r : Option Operand} {k} : ev tb (.makeMap t r) (some d) ρ σ K k = stpL (rMakeMap tb ρ σ d t (r.map (oev ρ))) K .mk := by unfold ev stpL; rw [aeff_makeMap]
theorem aefL_makeSlice {d : Nat} {t : TypeId} {x c : Operand} {k} : ev tb (.makeSlice t x c) (some d) ρ σ K k = stpL (ek tb ρ σ d t (oev ρ x) (oev ρ c)) K .mk := by unfold ev stpL; rw [aeff_makeSlice]
end
section
variable {P : Program} {cx : Cx} {tb : Tb} {all l : List Oper} {ρ : Env} {σ : Sto} {K : Env → Sto → Prop} {o : Oper} {Q : Exit → Env → Sto → Prop} {c : Code} {d : Option Nat} {op : Op}
 {ty : TypeId} {pos : String} {af : Array Edge} {g : Option (Nat × Bool)} {k : V → Prop} {J : Env → Prop}
def qopsL (P : Program) (tb : Tb) (all : List Oper) (σ : Sto) (l : List Oper) (ρ : Env) (J : Env → Prop) (_ : Lk (all, l, σ, J)) : Prop := qops P tb all σ l ρ J
def qstL (P : Program) (tb : Tb) (op : Op) (ρ : Env) (σ : Sto) (k : V → Prop) (_ : Lk (ρ, σ, k)) : Prop := match aU op with
 | some c => match aS ρ c with
  | some (f, args) => match tb.call f args with
   | some v => k v
   | none => qcall P σ f args k
  | none => False
 | none => match qev tb ρ σ op with
  | some v => k v
  | none => False
def qst1 (P : Program) (tb : Tb) (gc : Option Call) (op : Op) (ρ : Env) (σ : Sto) (k : V → Prop) (_ : Lk (op, ρ, σ, k)) : Prop := match gc with
 | some c => match aS ρ c with
  | some (f, args) => match tb.call f args with
   | some v => k v
   | none => qcall P σ f args k
  | none => False
 | none => match qev tb ρ σ op with
  | some v => k v
  | none => False
def qst2 (v : Option V) (k : V → Prop) (_ : Lk k) : Prop := match v with
 | some v => k v
 | none => False
def qstc (P : Program) (tb : Tb) (fa : Option (FuncId × List V)) (σ : Sto) (k : V → Prop) (_ : Lk (σ, k)) : Prop := match fa with
 | some (f, args) => match tb.call f args with
   | some v => k v
   | none => qcall P σ f args k
 | none => False
def qst3 (P : Program) (r : Option V) (f : FuncId) (args : List V) (σ : Sto) (k : V → Prop) (_ : Lk (σ, k)) : Prop := match r with
 | some v => k v
 | none => qcall P σ f args k
def qcallL (P : Program) (f : FuncId) (args : List V) (σ : Sto) (k : V → Prop) (_ : Lk (σ, k)) : Prop := qcall P σ f args k
theorem qopsL_nil {j} : qopsL P tb all σ [] ρ J j = J ρ := by unfold qopsL; rw [qops]
theorem qstep_L : qstep P tb { dst := d, op := op, type := ty, pos := pos, after := af, guard := g } ρ σ k = qstL P tb op ρ σ k .mk := by unfold qstep qstL; exact rfl
theorem qopsL_cons {j} : qopsL P tb all σ ({ dst := d, op := op, type := ty, pos := pos, after := af, guard := g } :: l) ρ J j =
  agL all g ρ (fun ρ => qstL P tb op ρ σ (fun v => qopsL P tb all σ l (putE ρ d v) J .mk) .mk) (fun ρ => qopsL P tb all σ l (putE ρ d (.tup [])) J .mk) .mk := by
 unfold qopsL agL
 rw [qops]
 simp only [qstep_L]
theorem qstL_eq {j} : qstL P tb op ρ σ k j = qst1 P tb (aU op) op ρ σ k .mk := by unfold qstL qst1; exact rfl
theorem qst1_none {j} : qst1 P tb none op ρ σ k j = qst2 (qev tb ρ σ op) k .mk := by unfold qst1 qst2; exact rfl
theorem qst1_some {c : Call} {j} : qst1 P tb (some c) op ρ σ k j = qstc P tb (aS ρ c) σ k .mk := by unfold qst1 qstc; exact rfl
theorem qst2_some {v : V} {j} : qst2 (some v) k j = k v := by unfold qst2; exact rfl
theorem qstc_some {f : FuncId} {args : List V} {j} : qstc P tb (some (f, args)) σ k j = qst3 P (tb.call f args) f args σ k .mk := by unfold qstc qst3; exact rfl
theorem qst3_none {f : FuncId} {args : List V} {j} : qst3 P none f args σ k j = qcallL P f args σ k .mk := by unfold qst3 qcallL; exact rfl
theorem isAss_move (x : Operand) : aI (.move x) = false := rfl
theorem isAss_pick (c a b : Operand) : aI (.pick c a b) = false := rfl
theorem isAss_alloc (elem : TypeId) : aI (.alloc elem) = false := rfl
theorem isAss_box (elem : TypeId) (v : Operand) : aI (.box elem v) = false := rfl
theorem isAss_build (t : TypeId) (parts : Array (Nat × Operand)) : aI (.build t parts) = false := rfl
theorem isAss_buildSlice (t : TypeId) (len : Nat) (parts : Array (Nat × Operand)) : aI (.buildSlice t len parts) = false := rfl
theorem isAss_load (t : TypeId) (addr : Operand) : aI (.load t addr) = false := rfl
theorem isAss_store (t : TypeId) (addr val : Operand) : aI (.store t addr val) = false := rfl
theorem isAss_nilCheck (x : Operand) : aI (.nilCheck x) = false := rfl
theorem isAss_binOp (op : BinOp) (xType : TypeId) (x y : Operand) (yType : TypeId) : aI (.binOp op xType x y yType) = false := rfl
theorem isAss_unOp (op : UnOp) (xType : TypeId) (x : Operand) : aI (.unOp op xType x) = false := rfl
theorem isAss_convert (src dst : TypeId) (x : Operand) : aI (.convert src dst x) = false := rfl
theorem isAss_makeFunc (fn : Fn) (first captured : Array Operand) : aI (.makeFunc fn first captured) = false := rfl
theorem isAss_makeMap (t : TypeId) (reserve : Option Operand) : aI (.makeMap t reserve) = false := rfl
theorem isAss_makeSlice (t : TypeId) (len cap : Operand) : aI (.makeSlice t len cap) = false := rfl
theorem isAss_slice (xType : TypeId) (x : Operand) (low high max : Option Operand) : aI (.slice xType x low high max) = false := rfl
theorem isAss_fieldAddr (xType : TypeId) (x : Operand) (field : Nat) : aI (.fieldAddr xType x field) = false := rfl
theorem isAss_field (xType : TypeId) (x : Operand) (field : Nat) : aI (.field xType x field) = false := rfl
theorem isAss_indexAddr (xType : TypeId) (x index : Operand) : aI (.indexAddr xType x index) = false := rfl
theorem isAss_index (xType : TypeId) (x index : Operand) : aI (.index xType x index) = false := rfl
theorem isAss_lookup (xType : TypeId) (x index : Operand) (commaOk : Bool) : aI (.lookup xType x index commaOk) = false := rfl
theorem isAss_mapUpdate (mapType : TypeId) (map key value : Operand) : aI (.mapUpdate mapType map key value) = false := rfl
theorem isAss_range (xType : TypeId) (x : Operand) : aI (.range xType x) = false := rfl
theorem isAss_next (iter : Operand) (isString : Bool) : aI (.next iter isString) = false := rfl
theorem isAss_entry (iter : Operand) : aI (.entry iter) = false := rfl
theorem isAss_extract (tuple : Operand) (index : Nat) : aI (.extract tuple index) = false := rfl
theorem isAss_call (c : Call) : aI (.call c) = false := rfl
theorem isAss_assign (x : Operand) : aI (.assign x) = true := rfl
theorem putE_some {d : Nat} {v : V} : putE ρ (some d) v = upd ρ d v := by unfold putE; rfl
theorem wipeE_apply (d : Nat) (ρ : Env) (t : Nat) : wipeE d ρ t = (ρ t).wipe d := rfl
theorem wipeS_apply (d : Nat) (σ : Sto) (t : Nat) : wipeS d σ t = (σ t).bind (Ob.wipe d) := rfl
theorem drop_apply (s : Option Nat) (σ : Sto) (t : Nat) : drop s σ t = if s = some t then none else σ t := rfl
theorem vwipe_u (d : Nat) (x : U) : V.wipe d (.u x) = .u (x.wipe d) := rfl
theorem vwipe_tup (d : Nat) (us : List U) : V.wipe d (.tup us) = .tup (us.map (U.wipe d)) := rfl
theorem uwipe_one (d : Nat) (c : C) : U.wipe d (.one c) = .one (c.wipe d) := rfl
theorem uwipe_agg (d : Nat) (cs : List C) : U.wipe d (.agg cs) = .agg (cs.map (C.wipe d)) := rfl
theorem cwipe_top (d : Nat) : C.wipe d .top = .top := rfl
theorem cwipe_d (d : Nat) (x : L) : C.wipe d (.d x) = .d x := rfl
theorem cwipe_ref (d : Nat) (xs : List L) (o : Nat) : C.wipe d (.ref xs o) = .ref xs o := rfl
theorem cwipe_nilmap (d : Nat) : C.wipe d .nilmap = .nilmap := rfl
theorem cwipe_box (d t o : Nat) : C.wipe d (.box t o) = if t = d then .top else .box t o := rfl
theorem cwipe_own (d t : Nat) : C.wipe d (.own t) = if t = d then .top else .own t := rfl
theorem cwipe_elt (d t i z o : Nat) : C.wipe d (.elt t i z o) = if t = d then .top else .elt t i z o := rfl
theorem cwipe_map (d t : Nat) : C.wipe d (.map t) = if t = d then .top else .map t := rfl
theorem cwipe_iter (d t : Nat) : C.wipe d (.iter t) = if t = d then .top else .iter t := rfl
theorem cwipe_fn (d : Nat) (f : FuncId) (caps : List C) : C.wipe d (.fn f caps) = if C.ments d caps then .top else .fn f caps := rfl
end
attribute [simp] gslot_zero gslot_succ
attribute [simp] agL_none agL_some agd_some agv_0 aopsL_nil aopsL_cons astL_eq ast1_none ast1_some ast2_some ast2_none astc_some ast3_none ast4_none stpL_some aefL_alloc aefL_box aefL_store aefL_append aefL_mapUpdate aefL_makeMap aefL_makeSlice qopsL_nil qopsL_cons qstL_eq qst1_none qst1_some qst2_some qstc_some qst3_none isAss_assign isAss_move isAss_pick isAss_alloc isAss_box isAss_build isAss_buildSlice isAss_load isAss_store isAss_nilCheck isAss_binOp isAss_unOp isAss_convert isAss_makeFunc isAss_makeMap isAss_makeSlice isAss_slice isAss_fieldAddr isAss_field isAss_indexAddr isAss_index isAss_lookup isAss_mapUpdate isAss_range isAss_next isAss_entry isAss_extract isAss_call
attribute [simp] agv_b
attribute [simp] agv_tt agv_ff agv_tf agv_ft
attribute [simp] aU aS qev oev constV constC upd_apply putE_some wipeE_apply wipeS_apply drop_apply vwipe_u vwipe_tup uwipe_one uwipe_agg cwipe_top cwipe_d cwipe_ref cwipe_nilmap cwipe_box cwipe_own cwipe_elt cwipe_map cwipe_iter cwipe_fn C.ments C.ment Ob.wipe rEqNil rNewBox rAlloc acells okZero allOne Value.oneCell' rStore rAppend rAppendS strRow bv cb rMakeMap ek rRange rEntry rNext vcells noTop memOf qload qfield qbin qbuild qbuildSlice qextract qlenB qlookup qpick pickV isShift fillC cdata cdatas fillRows mget mset mdel vkey vu qint qidx qbound cdatasC lenFits fstRow sndRow cints TI.agg env0 sto0 V.frz U.frz C.frz V.free U.free U.frees C.free C.frees cC resUs resU Key.fits Key.val Key.u
end Go.AM
