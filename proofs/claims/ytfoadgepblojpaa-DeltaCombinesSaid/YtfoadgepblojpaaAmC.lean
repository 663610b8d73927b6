/-
  The evaluation of the operations that only read or compute ('quiet' ones), and that the model's operations do the same.
-/
import Derived.Test.YtfoadgepblojpaaAmB
import Derived.Maps.Own
import Derived.DeepKeys5
namespace Go.AM
open Go.RowKit

def constC : Value → C
  | .int k n => .d (.int k n)
  | .bool b => .d (.bool b)
  | .string s => .d (.str s)
  | .slice none 0 0 => .d .nil
  | .map none => .nilmap
  | _ => .top
def constV : Value → V
  | .agg arr => .agg (arr.toList.map constC)
  | v => .one (constC v)
def oev (ρ : Env) : Operand → V
  | .tmp t => ρ t
  | .const v => constV v
  | .func f => .one (.fn f [])
  | .global _ => .top

section
variable {φ : Nat → Value} {w : World} {F : Nat → Prop}
theorem csim_const (v : Value) : csim φ w F (constC v) v := by
  unfold constC
  split <;> simp [csim, rep]
theorem csims_const : ∀ l : List Value, csims φ w F (l.map constC) l
  | [] => by simp [csims]
  | v :: l => by simp only [List.map_cons, csims]; exact ⟨v, l, rfl, csim_const v, csims_const l⟩
theorem vsim_const (v : Value) : vsim φ w F (constV v) v := by
  unfold constV
  split
  · exact ⟨_, rfl, csims_const _⟩
  · exact csim_const _
theorem vsim_oev {ρ : Env} {a : Act} (h : ∀ t, vsim φ w F (ρ t) (a.tmps.getD t undef)) (x : Operand) : vsim φ w F (oev ρ x) (a.eval x) := by
  cases x with
  | tmp t => exact h t
  | const v => exact vsim_const v
  | global g => simp [oev, vsim, usim, csim]
  | func f => simp [oev, Act.eval, vsim, usim, csim, csims]
end

def intOp (op : BinOp) (k : IntKind) (a b : Int) : Option L :=
  match op with
  | .add => some (.int k (k.wrap (a + b)))
  | .sub => some (.int k (k.wrap (a - b)))
  | .mul => some (.int k (k.wrap (a * b)))
  | .quo => if b = 0 then none else some (.int k (k.wrap (a.tdiv b)))
  | .rem => if b = 0 then none else some (.int k (a.tmod b))
  | .and => some (.int k (k.wrap ((BitVec.ofInt k.bits a &&& BitVec.ofInt k.bits b).toNat)))
  | .or => some (.int k (k.wrap ((BitVec.ofInt k.bits a ||| BitVec.ofInt k.bits b).toNat)))
  | .xor => some (.int k (k.wrap ((BitVec.ofInt k.bits a ^^^ BitVec.ofInt k.bits b).toNat)))
  | .andNot => some (.int k (k.wrap ((BitVec.ofInt k.bits a &&& ~~~BitVec.ofInt k.bits b).toNat)))
  | .eql => some (.bool (a == b))
  | .neq => some (.bool (a != b))
  | .lss => some (.bool (decide (a < b)))
  | .leq => some (.bool (decide (a ≤ b)))
  | .gtr => some (.bool (decide (a > b)))
  | .geq => some (.bool (decide (a ≥ b)))
  | .shl | .shr => none
def shiftOp (op : BinOp) (k : IntKind) (a b : Int) : Option L :=
  match op with
  | .shl => if b < 0 then none else some (.int k (k.wrap (a * 2 ^ min b.toNat k.bits)))
  | .shr => if b < 0 then none else some (.int k (a.fdiv (2 ^ min b.toNat k.bits)))
  | _ => none
def isShift : BinOp → Bool
  | .shl | .shr => true
  | _ => false
def strOp (op : BinOp) (x y : ByteArray) : Option L :=
  match op with
  | .add => if ((x.size + y.size : Nat) : Int) > IntKind.i64.max then none else some (.str (x ++ y))
  | .eql => some (.bool (x.toList == y.toList))
  | .neq => some (.bool !(x.toList == y.toList))
  | .lss => some (.bool (Op.bytesLess x.toList y.toList))
  | .leq => some (.bool (Op.bytesLess x.toList y.toList || x.toList == y.toList))
  | .gtr => some (.bool !(Op.bytesLess x.toList y.toList || x.toList == y.toList))
  | .geq => some (.bool !(Op.bytesLess x.toList y.toList))
  | _ => none
/-- Two structs of integers, field by field. -/
def eqInts : List C → List C → Option Bool
  | [], [] => some true
  | .d (.int k a) :: xs, .d (.int k' b) :: ys => if k = k' then (eqInts xs ys).map fun t => a == b && t else none
  | _, _ => none
/-- A struct type whose fields are n integers, one after the other. -/
def intFields (P : Program) (t : TypeId) (n : Nat) : Prop :=
  ∃ fs, P.underlying t = some (.struct fs) ∧ P.stoodInHeld t = false ∧ P.eqGuardType P.depth t = false ∧ fs.size = n ∧
    ∀ (i : Nat) (f : Field), fs.toList[i]? = some f → f.name ≠ "_" ∧ f.offset = i ∧ ∃ k, P.underlying f.type = some (.int k)
def negB (op : BinOp) (b : Bool) : Option L := match op with
  | .eql => some (.bool b) | .neq => some (.bool !b) | _ => none

/-- A call: from here on K, whatever it returns. -/
def CallK (P : Program) (cx : Cx) (f : FuncId) (args : List V) (ρ : Env) (σ : Sto) (d : Option Nat) (K : Env → Sto → Prop) : Prop :=
  (∃ fn, P.funcs[f]? = some fn ∧ (fn.name == "runtime.NumGoroutine") = false ∧ fn.body.isNone = false) ∧
  ∀ (φ : Nat → Value) (a : Act) (w : World), Sim cx φ ρ σ a w → ∀ vals : List Value, vals.length = args.length → (∀ (i : Nat) (x : V) (u : Value), args[i]? = some x → vals[i]? = some u → vsim φ w (cx.fr φ σ) x u) →
    ∀ (next : Act → World → Prop), (∀ φ' ρ' σ' a' w', Sim cx φ' ρ' σ' a' w' → K ρ' σ' → next a' w') → Calls P f vals.toArray w fun e w' => ∃ v, e = .returned v ∧ next (a.put d v) w'

/-- A call whose result is v, and which only makes memory. -/
def PureCall (P : Program) (f : FuncId) (args : List V) (v : V) : Prop :=
  (∃ fn, P.funcs[f]? = some fn ∧ (fn.name == "runtime.NumGoroutine") = false ∧ fn.body.isNone = false) ∧
  ∀ (φ : Nat → Value) (w : World) (F : Nat → Prop), (∀ b, w.heap.size ≤ b → F b) → ∀ vals : List Value, vals.length = args.length → (∀ (i : Nat) (x : V) (u : Value), args[i]? = some x → vals[i]? = some u → vsim φ w F x u) →
    Calls P f vals.toArray w fun e w' => ∃ u, e = .returned u ∧ Blw w.heap.size w w' ∧ vsim φ w' F v u

structure Tb where
  ty : Tab
  eqn : TypeId → Option Nat
  key : TypeId → Option KK
  call : FuncId → List V → Option V := fun _ _ => none
  eff : FuncId → List V → Option Nat → Env → Sto → Option ((Env → Sto → Prop) → Prop) := fun _ _ _ _ _ => none
  mid : Nat → Option (Nat × List Nat) := fun _ => none

structure TbOk (P : Program) (tb : Tb) : Prop where
  ty : TabOk P tb.ty
  eqn : ∀ t n, tb.eqn t = some n → intFields P t n
  key : ∀ t kk, tb.key t = some kk → Maps.Keyed P t ∧ ∀ k : Key, k.fits kk = true → ∃ l, keyOf P t k.val = some l
  call : ∀ f us v, tb.call f us = some v → PureCall P f us v
  eff : ∀ (cx : Cx) (f : FuncId) (us : List V) (d : Option Nat) (ρ : Env) (σ : Sto) (T : (Env → Sto → Prop) → Prop) (K : Env → Sto → Prop), (∀ x, d = some x → x < cx.n ∧ x < inBase) → tb.eff f us d ρ σ = some T → T K → CallK P cx f us ρ σ d K

def qbin (tb : Tb) (op : BinOp) (t : TypeId) : V → V → Option V
  | .u (.one (.d (.int k a))), .u (.one (.d (.int k' b))) =>
    if isShift op then (shiftOp op k a b).map fun x => .u (.one (.d x)) else if k = k' then (intOp op k a b).map fun x => .u (.one (.d x)) else none
  | .u (.one (.d (.bool a))), .u (.one (.d (.bool b))) => match tb.ty t with
    | some ti => match ti.desc with
      | .bool => (negB op (a == b)).map fun x => .u (.one (.d x))
      | _ => none
    | none => none
  | .u (.one (.d (.str a))), .u (.one (.d (.str b))) => (strOp op a b).map fun x => .u (.one (.d x))
  | .u (.agg xs), .u (.agg ys) => match tb.eqn t with
    | some n => if xs.length = n ∧ ys.length = n then (eqInts xs ys).bind fun b => (negB op b).map fun x => .u (.one (.d x)) else none
    | none => none
  | .u (.one (.d x)), .u (.one (.d .nil)) => match tb.ty t with
    | some ti => match ti.desc, x with
      | .slice _, .nil => (negB op true).map fun x => .u (.one (.d x))
      | .slice _, .sl _ (_ :: _) => (negB op false).map fun x => .u (.one (.d x))
      | _, _ => none
    | none => none
  | _, _ => none

def pickV (c : Bool) (x y : V) : V := match x, y with
  | .u (.one (.d (.bool a))), .u (.one (.d (.bool b))) => .u (.one (.d (.bool (bif c then a else b))))
  | x, y => bif c then x else y

def vcells : V → Option (List C)
  | .u (.one .top) => none
  | .u (.one c) => some [c]
  | .u (.agg cs) => some cs
  | .tup _ => none

def fillC (offs : List (Nat × Nat)) : List C → List (Nat × V) → Option (List C)
  | cs, [] => some cs
  | cs, (i, v) :: r => match offs[i]?, vcells v with
    | some (off, sz), some xs => if xs.length = sz ∧ off + sz ≤ cs.length then fillC offs (cs.take off ++ xs ++ cs.drop (off + sz)) r else none
    | _, _ => none

def cdata : C → Option L
  | .d x => some x
  | _ => none
def cdatas : List C → Option (List L)
  | [] => some []
  | c :: cs => match cdata c, cdatas cs with
    | some x, some xs => some (x :: xs)
    | _, _ => none
def fillRows (sz : Nat) : List (List L) → List (Nat × V) → Option (List (List L))
  | rs, [] => some rs
  | rs, (i, v) :: r => match vcells v with
    | some xs => match cdatas xs with
      | some ys => if ys.length = sz ∧ i < rs.length then fillRows sz (rs.set i ys) r else none
      | none => none
    | none => none

def mget : List (Key × U) → Key → Option U
  | [], _ => none
  | x :: es, k => if x.1 = k then some x.2 else mget es k

/-- The key that a value is. -/
def cints : List C → Option (List Int)
  | [] => some []
  | .d (.int .i64 n) :: cs => (cints cs).map (n :: ·)
  | _ => none
def vkey : V → Option Key
  | .u (.one (.d (.int k n))) => some (.int k n)
  | .u (.one (.d (.str s))) => some (.str s.data.toList)
  | .u (.agg cs) => (cints cs).map .ints
  | _ => none

def dataRows : L → Option (Nat × List (List L))
  | .sl sz rows => some (sz, rows)
  | _ => none

def qlen (σ : Sto) : V → Option Int
  | .u (.one (.d .nil)) => some 0
  | .u (.one (.d .emp)) => some 0
  | .u (.one (.d (.sl _ rows))) => some rows.length
  | .u (.one (.d (.str s))) => some s.size
  | .u (.one (.own s)) => match σ s with
    | some (.row _ _ rows) => some rows.length
    | _ => none
  | .u (.one (.map s)) => match σ s with
    | some (.map _ es) => some es.length
    | _ => none
  | _ => none

def qidx : V → Option Int
  | .u (.one (.d (.int _ n))) => some n
  | _ => none
def qbound (d : Nat) : Option V → Option Int
  | none => some d
  | some v => qidx v

def cdatasC : List V → Option (List C)
  | [] => some []
  | .u (.one c) :: r => (cdatasC r).map (c :: ·)
  | _ => none
def lenFits : TypeDesc → V → Bool
  | .slice _, .u (.one (.d .nil)) | .slice _, .u (.one (.d .emp)) | .slice _, .u (.one (.d (.sl _ _))) | .slice _, .u (.one (.own _)) => true
  | .string, .u (.one (.d (.str _))) => true
  | .map _ _, .u (.one (.map _)) => true
  | _, _ => false

def qload (tb : Tb) (σ : Sto) (t : TypeId) (x : V) : Option V := match tb.ty t, x with
  | some ti, .u (.one c) => match memOf σ c with
    | some (cs, off) =>
      if ti.agg then (if off + ti.size ≤ cs.length then some (.u (.agg ((cs.drop off).take ti.size))) else none)
      else match cs[off]? with
        | some c => some (.u (.one c))
        | none => none
    | none => none
  | _, _ => none
def qfield (tb : Tb) (t : TypeId) (x : V) (k : Nat) : Option V := match tb.ty t, x with
  | some ti, .u (.one c) => match ti.desc, ti.offs[k]? with
    | .struct _, some (off, sz) => if sz = 0 then none else match c with
      | .ref xs o => some (.u (.one (.ref xs (o + off))))
      | .box s o => some (.u (.one (.box s (o + off))))
      | .elt s i z o => some (.u (.one (.elt s i z (o + off))))
      | _ => none
    | _, _ => none
  | _, _ => none
def qindex (tb : Tb) (σ : Sto) (t : TypeId) (x i : V) : Option V := match tb.ty t, x, i with
  | some ti, .u (.one c), .u (.one (.d (.int _ n))) => match ti.desc with
    | .slice e => match tb.ty e, c with
      | some te, .d (.sl sz rows) => if 0 ≤ n ∧ sz = te.size then match rows[n.toNat]? with
          | some r => some (.u (.one (.ref r 0)))
          | none => none
        else none
      | some te, .own s => match σ s with
        | some (.row sz _ rows) => if 0 ≤ n ∧ n.toNat < rows.length ∧ sz = te.size then some (.u (.one (.elt s n.toNat sz 0))) else none
        | _ => none
      | _, _ => none
    | .array m e => match tb.ty e, c with
      | some te, .box s o => if 0 ≤ n ∧ n < (m : Int) then some (.u (.one (.box s (o + n.toNat * te.size)))) else none
      | _, _ => none
    | _ => none
  | _, _, _ => none
def qslice (tb : Tb) (t : TypeId) (x : V) (lo hi mx : Option V) : Option V := match mx, tb.ty t, x with
  | none, some ti, .u (.one (.d (.sl sz rows))) => match ti.desc, qbound 0 lo, qbound rows.length hi with
    | .slice e, some l, some h => match tb.ty e with
      | some te => if sz = te.size ∧ 0 ≤ l ∧ l ≤ h ∧ h ≤ rows.length then some (.u (.one (.d (.sl sz ((rows.take h.toNat).drop l.toNat))))) else none
      | none => none
    | _, _, _ => none
  | _, _, _ => none
def qun (op : UnOp) (x : V) : Option V := match op, x with
  | .not, .u (.one (.d (.bool b))) => some (.u (.one (.d (.bool !b))))
  | .neg, .u (.one (.d (.int k n))) => some (.u (.one (.d (.int k (k.wrap (0 - n))))))
  | _, _ => none
def qconv (tb : Tb) (src dst : TypeId) (x : V) : Option V := match tb.ty src, tb.ty dst, x with
  | some _, some td, .u (.one (.d (.int _ n))) => match td.desc with
    | .int k => some (.u (.one (.d (.int k (k.wrap n)))))
    | _ => none
  | _, _, _ => none
def qbuild (tb : Tb) (t : TypeId) (parts : List (Nat × V)) : Option V := match tb.ty t with
  | some ti => match ti.desc, ti.zu with
    | .struct _, .agg cs => (fillC ti.offs cs parts).map fun cs => .u (.agg cs)
    | _, _ => none
  | none => none
def qbuildSlice (tb : Tb) (t : TypeId) (n : Nat) (parts : List (Nat × V)) : Option V := match tb.ty t with
  | some ti => match ti.desc with
    | .slice e => match tb.ty e with
      | some te => if n = 0 ∧ parts = [] then some (.u (.one (.d .emp))) else if te.size = 0 ∨ n * te.size > 2 ^ 24 then none else match vcells (.u te.zu) with
        | some zs => match cdatas zs with
          | some zr => (fillRows te.size (List.replicate n zr) parts).map fun rs => .u (.one (.d (.sl te.size rs)))
          | none => none
        | none => none
      | none => none
    | _ => none
  | none => none
def qextract (x : V) (i : Nat) : Option V := match x with
  | .tup us => match us[i]? with
    | some u => some (.u u)
    | none => none
  | _ => none
def qlenB (tb : Tb) (σ : Sto) (t : TypeId) (x : V) : Option V := match tb.ty t with
  | some ti => if lenFits ti.desc x then (qlen σ x).map fun n => .u (.one (.d (.int .i64 n))) else none
  | none => none
def qmax (x y : V) : Option V := match x, y with
  | .u (.one (.d (.int k a))), .u (.one (.d (.int _ b))) => some (.u (.one (.d (.int k (if b > a then b else a)))))
  | _, _ => none
def qmin (x y : V) : Option V := match x, y with
  | .u (.one (.d (.int k a))), .u (.one (.d (.int _ b))) => some (.u (.one (.d (.int k (if b < a then b else a)))))
  | _, _ => none
def qlookup (tb : Tb) (σ : Sto) (t : TypeId) (m k : V) (ok : Bool) : Option V := match tb.ty t, m, vkey k with
  | some ti, .u (.one (.map s)), some key => match ti.desc, σ s with
    | .map kt e, some (.map kk es) => match tb.ty e with
      | some te => if tb.key kt = some kk ∧ key.fits kk = true then
          (match mget es key with
          | some u => if ok then some (.tup [u, .one (.d (.bool true))]) else some (.u u)
          | none => if ok then some (.tup [te.zu, .one (.d (.bool false))]) else some (.u te.zu))
        else none
      | none => none
    | _, _ => none
  | _, _, _ => none
def qpick (c a b : V) : Option V := match c with
  | .u (.one (.d (.bool t))) => some (pickV t a b)
  | _ => none

/-- What a quiet operation yields. -/
def qev (tb : Tb) (ρ : Env) (σ : Sto) (op : Op) : Option V :=
  match op with
  | .move x | .assign x => some (oev ρ x)
  | .pick c a b => qpick (oev ρ c) (oev ρ a) (oev ρ b)
  | .load t x => qload tb σ t (oev ρ x)
  | .fieldAddr t x k => qfield tb t (oev ρ x) k
  | .indexAddr t x i => qindex tb σ t (oev ρ x) (oev ρ i)
  | .slice t x lo hi mx => qslice tb t (oev ρ x) (lo.map (oev ρ)) (hi.map (oev ρ)) (mx.map (oev ρ))
  | .binOp op t x y _ => qbin tb op t (oev ρ x) (oev ρ y)
  | .unOp op _ x => qun op (oev ρ x)
  | .convert src dst x => qconv tb src dst (oev ρ x)
  | .build t parts => qbuild tb t (parts.toList.map fun p => (p.1, oev ρ p.2))
  | .buildSlice t n parts => qbuildSlice tb t n (parts.toList.map fun p => (p.1, oev ρ p.2))
  | .extract x i => qextract (oev ρ x) i
  | .makeFunc (.func f) first caps => if first.toList = [] then (cdatasC (caps.toList.map (oev ρ))).map fun cs => .u (.one (.fn f cs)) else none
  | .lookup t m k ok => qlookup tb σ t (oev ρ m) (oev ρ k) ok
  | .call c => match c.callee, c.args.toList, c.argTypes.toList with
    | .builtin .len, [x], [t] => qlenB tb σ t (oev ρ x)
    | .builtin .max, [x, y], _ => qmax (oev ρ x) (oev ρ y)
    | .builtin .min, [x, y], _ => qmin (oev ρ x) (oev ρ y)
    | _, _, _ => none
  | _ => none
end Go.AM
