/-
  The machine once more, quicker: operations and code are first turned into functions (whose closed parts the kernel keeps), then run.
  The quicker machine: code and calls.
  The machine: tables of functions.
  The machine: a call with plain arguments that gives data, read back.
-/
import Derived.Test.YtdjclgfbggfpaaaGreatDoorMxx2
import Derived.Lib.IndexMore
import Derived.Shelf.Strings.Cut
namespace Go.MX
open Go.RowKit
open Go.AM (Blw Key KK TI TabFact Tab TabOk Tb TbOk)
structure C1 (α : Type) where
 f : α
def gT {α : Type} : Nat → Nat → C1 (Tr α → Option α)
 | 0, n => ⟨fun t => t.get n⟩
 | k + 1, n => match Nat.beq n 0 with
  | true => ⟨fun t => match t with | .nil => none | .nd _ v _ => v⟩
  | false => match Nat.beq (n % 2) 1 with
   | true => ⟨fun t => match t with | .nil => none | .nd l _ _ => (gT k (n / 2)).f l⟩
   | false => ⟨fun t => match t with | .nil => none | .nd _ _ r => (gT k (n / 2 - 1)).f r⟩
theorem gT_eq {α : Type} : ∀ (k n : Nat) (t : Tr α), (gT k n).f t = t.get n
 | 0, n, t => rfl
 | k + 1, n, t => by
  unfold gT
  cases h0 : Nat.beq n 0 with
  | true => cases t <;> simp [Tr.get, h0]
  | false =>
   cases h1 : Nat.beq (n % 2) 1 with
   | true => cases t <;> simp [Tr.get, h0, h1, gT_eq k]
   | false => cases t <;> simp [Tr.get, h0, h1, gT_eq k]
def sT {α : Type} : Nat → Nat → C1 (Tr α → Option α → Tr α)
 | 0, n => ⟨fun t v => t.set n v⟩
 | k + 1, n => match Nat.beq n 0 with
  | true => ⟨fun t v => match t with | .nil => .nd .nil v .nil | .nd l _ r => .nd l v r⟩
  | false => match Nat.beq (n % 2) 1 with
   | true => ⟨fun t v => match t with | .nil => .nd ((sT k (n / 2)).f .nil v) none .nil | .nd l x r => .nd ((sT k (n / 2)).f l v) x r⟩
   | false => ⟨fun t v => match t with | .nil => .nd .nil none ((sT k (n / 2 - 1)).f .nil v) | .nd l x r => .nd l x ((sT k (n / 2 - 1)).f r v)⟩
theorem setF_any {α : Type} : ∀ (f g : Nat) (t : Tr α) (n : Nat) (v : Option α), n ≤ f → n ≤ g → Tr.setF f t n v = Tr.setF g t n v
 | 0, 0, t, n, v, _, _ => rfl
 | 0, g + 1, t, n, v, h, _ => by
  have : n = 0 := by omega
  subst this
  cases t <;> simp [Tr.setF, Tr.root]
 | f + 1, 0, t, n, v, _, h => by
  have : n = 0 := by omega
  subst this
  cases t <;> simp [Tr.setF, Tr.root]
 | f + 1, g + 1, t, n, v, h1, h2 => by
  cases h0 : Nat.beq n 0 with
  | true => cases t <;> simp [Tr.setF, h0]
  | false =>
   have hn : n ≠ 0 := fun e => by rw [e] at h0; cases h0
   cases t <;> simp only [Tr.setF, h0, cond_false]
   ·rw [setF_any f g .nil (n / 2) v (by omega) (by omega), setF_any f g .nil (n / 2 - 1) v (by omega) (by omega)]
   ·rw [setF_any f g _ (n / 2) v (by omega) (by omega), setF_any f g _ (n / 2 - 1) v (by omega) (by omega)]
theorem sT_eq {α : Type} : ∀ (k n : Nat) (t : Tr α) (v : Option α), (sT k n).f t v = t.set n v
 | 0, n, t, v => rfl
 | k + 1, n, t, v => by
  unfold sT
  cases h0 : Nat.beq n 0 with
  | true =>
   have : n = 0 := Nat.eq_of_beq_eq_true h0
   subst this
   cases t <;> simp [Tr.set, Tr.setF, Tr.root]
  | false =>
   have hn : n ≠ 0 := fun e => by rw [e] at h0; cases h0
   obtain ⟨m, rfl⟩ : ∃ m, n = m + 1 := ⟨n - 1, by omega⟩
   cases h1 : Nat.beq ((m + 1) % 2) 1 with
   | true =>
    cases t <;> simp only [Tr.set, Tr.setF, h0, h1, cond_true, cond_false, sT_eq k]
    ·rw [setF_any ((m + 1) / 2) m .nil ((m + 1) / 2) v (by omega) (by omega)]
    ·rw [setF_any ((m + 1) / 2) m _ ((m + 1) / 2) v (by omega) (by omega)]
   | false =>
    cases t <;> simp only [Tr.set, Tr.setF, h0, h1, cond_false, sT_eq k]
    ·rw [setF_any ((m + 1) / 2 - 1) m .nil ((m + 1) / 2 - 1) v (by omega) (by omega)]
    ·rw [setF_any ((m + 1) / 2 - 1) m _ ((m + 1) / 2 - 1) v (by omega) (by omega)]
def nthM {α : Type} : List α → Nat → Option α
 | [], _ => none
 | x :: l, n => match n with
  | 0 => some x
  | n + 1 => nthM l n
theorem nthM_eq {α : Type} : ∀ (l : List α) (n : Nat), nthM l n = l[n]?
 | [], n => by simp [nthM]
 | x :: l, 0 => rfl
 | x :: l, n + 1 => by simp [nthM, nthM_eq l n]
def oc : Operand → C1 (Tr MV → MV)
 | .tmp t => ⟨fun ρ => match (gT 12 t).f ρ with | some v => v | none => .tup []⟩
 | .const v => ⟨fun _ => ofV v⟩
 | .global _ => ⟨fun _ => .top⟩
 | .func f => ⟨fun _ => .fn f [] []⟩
theorem oc_eq (ρ : Tr MV) (x : Operand) : (oc x).f ρ = oev (ev ρ) x := by
 cases x with
 | tmp t => simp only [oc, gT_eq, oev, ev]; cases ρ.get t <;> rfl
 | _ => rfl
def ocs : List Operand → C1 (Tr MV → List MV)
 | [] => ⟨fun _ => []⟩
 | x :: l => ⟨fun ρ => (oc x).f ρ :: (ocs l).f ρ⟩
theorem ocs_eq (ρ : Tr MV) : ∀ l, (ocs l).f ρ = l.map (oev (ev ρ))
 | [] => rfl
 | x :: l => by simp only [ocs, oc_eq, ocs_eq ρ l, List.map_cons]
def ocp : List (Nat × Operand) → C1 (Tr MV → List (Nat × MV))
 | [] => ⟨fun _ => []⟩
 | x :: l => ⟨fun ρ => (x.1, (oc x.2).f ρ) :: (ocp l).f ρ⟩
theorem ocp_eq (ρ : Tr MV) : ∀ l, (ocp l).f ρ = l.map fun p => (p.1, oev (ev ρ) p.2)
 | [] => rfl
 | x :: l => by simp only [ocp, oc_eq, ocp_eq ρ l, List.map_cons]
def kix : IntKind → Nat
 | .i8 => 0 | .i16 => 1 | .i32 => 2 | .i64 => 3 | .u8 => 4 | .u16 => 5 | .u32 => 6 | .u64 => 7
def keq (k k' : IntKind) : Bool := Nat.beq (kix k) (kix k')
theorem keq_eq (k k' : IntKind) : keq k k' = decide (k = k') := by cases k <;> cases k' <;> rfl
def ltI : Int → Int → Bool
 | .ofNat m, .ofNat n => Nat.blt m n
 | .negSucc _, .ofNat _ => true
 | .ofNat _, .negSucc _ => false
 | .negSucc m, .negSucc n => Nat.blt n m
theorem blt_eq (m n : Nat) : Nat.blt m n = decide (m < n) := by
 rw [Bool.eq_iff_iff, decide_eq_true_eq]
 exact ⟨fun h => Nat.le_of_ble_eq_true h, fun h => Nat.ble_eq_true_of_le h⟩
theorem ltI_eq (a b : Int) : ltI a b = decide (a < b) := by
 cases a <;> cases b <;> simp only [ltI, blt_eq] <;> (rw [Bool.eq_iff_iff]; simp; try omega)
def eqI : Int → Int → Bool
 | .ofNat m, .ofNat n => Nat.beq m n
 | .negSucc m, .negSucc n => Nat.beq m n
 | _, _ => false
theorem eqI_eq (a b : Int) : eqI a b = decide (a = b) := by
 cases a <;> cases b <;> simp only [eqI, nbeq] <;> (rw [Bool.eq_iff_iff]; simp; try omega)
def wrapF (k : IntKind) (n : Int) : Int := match k, n with
 | .i64, .ofNat m => match Nat.blt m 9223372036854775808 with
  | true => .ofNat m
  | false => IntKind.wrap .i64 (.ofNat m)
 | .i64, .negSucc m => match Nat.blt m 9223372036854775808 with
  | true => .negSucc m
  | false => IntKind.wrap .i64 (.negSucc m)
 | k, n => k.wrap n
theorem wrapF_eq (k : IntKind) (n : Int) : wrapF k n = k.wrap n := by
 unfold wrapF
 split
 ·split
  ·rename_i m h
   rw [blt_eq, decide_eq_true_eq] at h
   exact (IntWalk.i64_in _ ⟨by simp only [Int.ofNat_eq_natCast]; omega, by simp only [Int.ofNat_eq_natCast]; omega⟩).symm
  ·rfl
 ·split
  ·rename_i m h
   rw [blt_eq, decide_eq_true_eq] at h
   exact (IntWalk.i64_in _ ⟨by omega, by omega⟩).symm
  ·rfl
 ·rfl
section
variable (tb : Tb)
def binC (op : BinOp) (t : TypeId) : C1 (MV → MV → Option MV) := match op with
 | .add => ⟨fun x y => match x, y with
  | .int k a, .int k' b => (match keq k k' with | true => some (.int k (wrapF k (a + b))) | false => none)
  | x, y => mbin tb .add t x y⟩
 | .sub => ⟨fun x y => match x, y with
  | .int k a, .int k' b => (match keq k k' with | true => some (.int k (wrapF k (a - b))) | false => none)
  | x, y => mbin tb .sub t x y⟩
 | .mul => ⟨fun x y => match x, y with
  | .int k a, .int k' b => (match keq k k' with | true => some (.int k (wrapF k (a * b))) | false => none)
  | x, y => mbin tb .mul t x y⟩
 | .lss => ⟨fun x y => match x, y with
  | .int k a, .int k' b => (match keq k k' with | true => some (.bool (ltI a b)) | false => none)
  | x, y => mbin tb .lss t x y⟩
 | .leq => ⟨fun x y => match x, y with
  | .int k a, .int k' b => (match keq k k' with | true => some (.bool (!(ltI b a))) | false => none)
  | x, y => mbin tb .leq t x y⟩
 | .gtr => ⟨fun x y => match x, y with
  | .int k a, .int k' b => (match keq k k' with | true => some (.bool (ltI b a)) | false => none)
  | x, y => mbin tb .gtr t x y⟩
 | .geq => ⟨fun x y => match x, y with
  | .int k a, .int k' b => (match keq k k' with | true => some (.bool (!(ltI a b))) | false => none)
  | x, y => mbin tb .geq t x y⟩
 | .eql => ⟨fun x y => match x, y with
  | .int k a, .int k' b => (match keq k k' with | true => some (.bool (eqI a b)) | false => none)
  | x, y => mbin tb .eql t x y⟩
 | .neq => ⟨fun x y => match x, y with
  | .int k a, .int k' b => (match keq k k' with | true => some (.bool (!(eqI a b))) | false => none)
  | x, y => mbin tb .neq t x y⟩
 | op => ⟨fun x y => mbin tb op t x y⟩
theorem binC_eq (op : BinOp) (t : TypeId) (x y : MV) : (binC tb op t).f x y = mbin tb op t x y := by
 cases op <;> try rfl
 all_goals
  unfold binC
  dsimp only
  split
  ·rename_i k a k' b
   have nlt' : ∀ a b : Int, (!(decide (b < a))) = decide (a ≤ b) := fun a b => by rw [Bool.eq_iff_iff]; simp
   simp only [keq_eq, wrapF_eq, ltI_eq, eqI_eq, nlt', mbin, isShift, mbinI]
   cases decide (k = k') <;> rfl
  ·rfl
def loadC (t : TypeId) : C1 (Tr MO → MV → Option MV) := match tb.ty t with
 | none => ⟨fun _ _ => none⟩
 | some ti => match ti.agg with
  | true => ⟨fun H x => match x with
   | .ptr i o => (match H.get i with
    | some (.cells _ _ cs _) => (match Nat.beq ((cs.drop o).take ti.size).length ti.size with
     | true => some (.agg ((cs.drop o).take ti.size))
     | false => none)
    | _ => none)
   | _ => none⟩
  | false => ⟨fun H x => match x with
   | .ptr i o => (match H.get i with
    | some (.cells _ _ cs _) => nthM cs o
    | some (.ro _ cs) => nthM cs o
    | _ => none)
   | _ => none⟩
theorem loadC_eq (t : TypeId) (H : Tr MO) (x : MV) : (loadC tb t).f H x = mload tb H.get t x := by
 unfold loadC mload
 rcases tb.ty t with _ | ti
 ·rfl
 dsimp only
 cases x with
 | ptr i o =>
  rcases hg : H.get i with _ | ob
  ·cases ha : ti.agg <;> simp [hg]
  ·cases ob with
   | cells sz e cs op =>
    cases ha : ti.agg
    ·simp [hg, nthM_eq]
    ·simp only [hg]
     generalize Nat.beq ((cs.drop o).take ti.size).length ti.size = bb
     cases bb <;> rfl
   | _ => cases ha : ti.agg <;> simp [hg, nthM_eq]
 | _ => cases ti.agg <;> rfl
def fieldC (t : TypeId) (k : Nat) : C1 (MV → Option MV) := match tb.ty t with
 | none => ⟨fun _ => none⟩
 | some ti => match ti.desc, ti.offs[k]? with
  | .struct _, some (off, sz) => match Nat.beq sz 0 with
   | true => ⟨fun _ => none⟩
   | false => ⟨fun x => match x with
    | .ptr i o => some (.ptr i (o + off))
    | _ => none⟩
  | _, _ => ⟨fun _ => none⟩
theorem fieldC_eq (t : TypeId) (k : Nat) (x : MV) : (fieldC tb t k).f x = mfield tb t x k := by
 unfold fieldC mfield
 rcases tb.ty t with _ | ti
 ·rfl
 dsimp only
 generalize ti.desc = dd
 generalize ti.offs[k]? = oo
 rcases oo with _ | ⟨off, sz⟩ <;> cases dd <;> (try rfl)
 dsimp only
 cases Nat.beq sz 0 <;> rfl
def idxC (t : TypeId) : C1 (MV → MV → Option MV) := match tb.ty t with
 | none => ⟨fun _ _ => none⟩
 | some ti => match ti.desc with
  | .slice e => match tb.ty e with
   | none => ⟨fun _ _ => none⟩
   | some te => ⟨fun x i => match x, i with
    | .sl j o m _ _, .int _ k => (match natOf k with
     | some n => (match Nat.blt n m with
      | true => some (.ptr j (o + n * te.size))
      | false => none)
     | none => none)
    | _, _ => none⟩
  | _ => ⟨fun x i => mindexAddr tb t x i⟩
theorem idxC_eq (t : TypeId) (x i : MV) : (idxC tb t).f x i = mindexAddr tb t x i := by
 unfold idxC
 cases ht : tb.ty t with
 | none => simp only [mindexAddr, ht]
 | some ti =>
  dsimp only
  split
  ·rename_i e hd
   cases he : tb.ty e with
   | none =>
    simp only [mindexAddr, ht]
    cases i with
    | int kk k =>
     dsimp only
     cases hn : natOf k <;> cases x <;> simp [he, hd]
    | _ => rfl
   | some te =>
    simp only [mindexAddr, ht]
    cases i with
    | int kk k =>
     dsimp only
     cases x with
     | sl j o m c op =>
      dsimp only
      cases hn : natOf k with
      | none => simp
      | some n => cases hb : Nat.blt n m <;> simp [he, hb, hd]
     | _ => cases hn : natOf k <;> simp [hd]
    | _ => cases x <;> rfl
  ·rfl
def cq (op : Op) : C1 (Tr MV → Tr MO → Option MV) := match op with
 | .move a => ⟨fun ρ _ => some ((oc a).f ρ)⟩
 | .assign a => ⟨fun ρ _ => some ((oc a).f ρ)⟩
 | .pick c a b => ⟨fun ρ _ => mpick ((oc c).f ρ) ((oc a).f ρ) ((oc b).f ρ)⟩
 | .load t a => ⟨fun ρ H => (loadC tb t).f H ((oc a).f ρ)⟩
 | .fieldAddr t a k => ⟨fun ρ _ => (fieldC tb t k).f ((oc a).f ρ)⟩
 | .indexAddr t a i => ⟨fun ρ _ => (idxC tb t).f ((oc a).f ρ) ((oc i).f ρ)⟩
 | .binOp op t a b _ => ⟨fun ρ _ => (binC tb op t).f ((oc a).f ρ) ((oc b).f ρ)⟩
 | .unOp op _ a => ⟨fun ρ _ => mun op ((oc a).f ρ)⟩
 | .field t a k => ⟨fun ρ _ => mfieldV tb t ((oc a).f ρ) k⟩
 | .index t a i => ⟨fun ρ _ => mindexV tb t ((oc a).f ρ) ((oc i).f ρ)⟩
 | .convert src dst a => ⟨fun ρ H => mconv tb H.get src dst ((oc a).f ρ)⟩
 | .build t parts => ⟨fun ρ _ => mbuild tb t ((ocp parts.toList).f ρ)⟩
 | .extract a i => ⟨fun ρ _ => match (oc a).f ρ with | .tup us => nthM us i | _ => none⟩
 | .lookup t m k ok => ⟨fun ρ H => mlookup tb H.get t ((oc m).f ρ) ((oc k).f ρ) ok⟩
 | op => ⟨fun ρ H => qev tb H.get (oev (ev ρ)) op⟩
theorem cq_eq (op : Op) (ρ : Tr MV) (H : Tr MO) : (cq tb op).f ρ H = qev tb H.get (oev (ev ρ)) op := by
 cases op <;> try rfl
 case extract a i =>
  simp only [cq, qev, oc_eq, mextract, nthM_eq]
  cases oev (ev ρ) a <;> rfl
 all_goals simp only [cq, qev, oc_eq, loadC_eq, fieldC_eq, idxC_eq, binC_eq, ocp_eq]
end
section
variable (tb : Tb)
def fin3 (H : Tr MO) : Option (MV × Ups × Nat) → Option (MV × Tr MO × Nat)
 | some (v, us, n) => some (v, happ H us, n)
 | none => none
def allocC (t : TypeId) : C1 (Tr MO → Nat → Option (MV × Tr MO × Nat)) := match tb.ty t with
 | none => ⟨fun _ _ => none⟩
 | some ti => match ones (mcells (ofV ti.zv)) with
  | true => ⟨fun H n => some (.ptr n 0, H.set n (some (.cells ti.size t (mcells (ofV ti.zv)) false)), n + 1)⟩
  | false => ⟨fun _ _ => none⟩
theorem allocC_eq (t : TypeId) (x : Operand → MV) (H : Tr MO) (n : Nat) : (allocC tb t).f H n = fin3 H (eev tb H.get n x (.alloc t)) := by
 simp only [allocC, eev]
 rcases tb.ty t with _ | ti
 ·rfl
 dsimp only
 cases ones (mcells (ofV ti.zv)) <;> rfl
def storeC (t : TypeId) : C1 (Tr MO → Nat → MV → MV → Option (MV × Tr MO × Nat)) := match tb.ty t with
 | none => ⟨fun _ _ _ _ => none⟩
 | some ti => ⟨fun H n x y => match x with
  | .ptr i o => (match H.get i with
   | some (.cells sz e cs op) => (match Nat.beq (mcells y).length ti.size, Nat.ble (o + ti.size) cs.length, ones (mcells y) with
    | true, true, true => some (.tup [], H.set i (some (.cells sz e (splice cs o (mcells y)) op)), n)
    | _, _, _ => none)
   | _ => none)
  | _ => none⟩
theorem storeC_eq (t : TypeId) (H : Tr MO) (n : Nat) (x y : MV) : (storeC tb t).f H n x y = fin3 H (noNew n (mstore tb H.get t x y)) := by
 unfold storeC mstore
 rcases tb.ty t with _ | ti
 ·rfl
 dsimp only
 cases x with
 | ptr i o =>
  dsimp only
  rcases H.get i with _ | ob
  ·rfl
  ·cases ob with
   | cells sz e cs op =>
    dsimp only
    generalize Nat.beq (mcells y).length ti.size = b1
    generalize Nat.ble (o + ti.size) cs.length = b2
    generalize ones (mcells y) = b3
    cases b1 <;> cases b2 <;> cases b3 <;> rfl
   | _ => rfl
 | _ => rfl
def ce (op : Op) : C1 (Tr MV → Tr MO → Nat → Option (MV × Tr MO × Nat)) := match op with
 | .alloc t => ⟨fun _ H n => (allocC tb t).f H n⟩
 | .store t a b => ⟨fun ρ H n => (storeC tb t).f H n ((oc a).f ρ) ((oc b).f ρ)⟩
 | .buildSlice t n parts => ⟨fun ρ H m => fin3 H (mbuildSlice tb m t n ((ocp parts.toList).f ρ))⟩
 | .mapUpdate t m k u => ⟨fun ρ H n => fin3 H (noNew n (mmapSet tb H.get t ((oc m).f ρ) ((oc k).f ρ) ((oc u).f ρ)))⟩
 | op => ⟨fun ρ H n => fin3 H (eev tb H.get n (oev (ev ρ)) op)⟩
theorem ce_eq (op : Op) (ρ : Tr MV) (H : Tr MO) (n : Nat) : (ce tb op).f ρ H n = fin3 H (eev tb H.get n (oev (ev ρ)) op) := by
 cases op <;> try rfl
 ·exact allocC_eq tb _ _ H n
 ·simp only [ce, ocp_eq, eev]
 ·simp only [ce, storeC_eq, oc_eq, eev]
 ·simp only [ce, oc_eq, eev]
def effOp : Op → Bool
 | .alloc _ | .box _ _ | .buildSlice _ _ _ | .makeSlice _ _ _ | .makeMap _ _ | .store _ _ _ | .mapUpdate _ _ _ _ | .insert _ _ _ _ | .mapEntry _ _ _ | .entryStore _ _ _ _ => true
 | .call { callee := .builtin .append, args := _, argTypes := _ } | .call { callee := .builtin .delete, args := _, argTypes := _ } => true
 | _ => false
theorem eff_quiet {op : Op} (h : effOp op = true) (hf : Hf) (x : Operand → MV) : qev tb hf x op = none := by
 unfold effOp at h
 split at h <;> first | rfl | (cases h; done) | (simp only [qev])
def convOp : Op → Bool
 | .convert _ _ _ => true
 | .call _ => true
 | _ => false
theorem quiet_eff {op : Op} (h : effOp op = false) (h' : convOp op = false) (hf : Hf) (n : Nat) (x : Operand → MV) : eev tb hf n x op = none := by
 cases op <;> first | rfl | (cases h; done) | (cases h'; done)
def callC (c : Call) : C1 (CallF → Tr MV → Tr MO → Nat → Option (MV × Tr MO × Nat)) := match c.callee with
 | .value g => ⟨fun cf ρ H n => match (oc g).f ρ with
  | .fn f xs ys => cf f (xs ++ ((ocs c.args.toList).f ρ ++ ys)) H n
  | _ => none⟩
 | _ => ⟨fun _ _ _ _ => none⟩
inductive Bd where
 | q (g : C1 (Tr MV → Tr MO → Option MV))
 | e (g : C1 (Tr MV → Tr MO → Nat → Option (MV × Tr MO × Nat)))
 | b (g : C1 (Tr MV → Tr MO → Option MV)) (e : C1 (Tr MV → Tr MO → Nat → Option (MV × Tr MO × Nat)))
 | c (g : C1 (CallF → Tr MV → Tr MO → Nat → Option (MV × Tr MO × Nat)))
def bd (op : Op) : Bd := match isGo op with
 | some c => .c (callC c)
 | none => match effOp op with
  | true => .e (ce tb op)
  | false => match convOp op with
   | true => .b (cq tb op) (ce tb op)
   | false => .q (cq tb op)
def bdRun (cf : CallF) (ρ : Tr MV) (H : Tr MO) (n : Nat) : Bd → Option (MV × Tr MO × Nat)
 | .q g => match g.f ρ H with
  | some v => some (v, H, n)
  | none => none
 | .e g => g.f ρ H n
 | .b g e => match g.f ρ H with
  | some v => some (v, H, n)
  | none => e.f ρ H n
 | .c g => g.f cf ρ H n
theorem bd_eq (cf : CallF) (ρ : Tr MV) (H : Tr MO) (n : Nat) (op : Op) : bdRun cf ρ H n (bd tb op) = astep tb cf (oev (ev ρ)) H n op := by
 unfold bd astep
 cases hg : isGo op with
 | some c =>
  simp only [bdRun, callC, goCall]
  split
  ·rename_i g hcal
   simp only [hcal, oc_eq, ocs_eq]
   cases oev (ev ρ) g <;> rfl
  ·rename_i hcal
   split
   ·rename_i g args hgc
    exact absurd hgc (by
     split
     ·rename_i f hf; exact absurd hf (hcal f)
     ·simp)
   ·rfl
 | none =>
  cases he : effOp op with
  | true => simp only [bdRun, ce_eq, eff_quiet tb he, fin3]; rfl
  | false =>
   cases hc : convOp op with
   | true =>
    simp only [bdRun, cq_eq, ce_eq, fin3]
    rfl
   | false =>
    simp only [bdRun, cq_eq, quiet_eff tb he hc]
    cases qev tb H.get (oev (ev ρ)) op <;> rfl
end
section
variable (tb : Tb) (nt : Nat)
def putC : Option Nat → C1 (Tr MV → MV → Option (Tr MV))
 | none => ⟨fun ρ _ => some ρ⟩
 | some d => match Nat.blt d nt with
  | true => ⟨fun ρ v => some ((sT 12 d).f ρ (some v))⟩
  | false => ⟨fun _ _ => none⟩
theorem putC_eq (d : Option Nat) (ρ : Tr MV) (v : MV) : (putC nt d).f ρ v = putT nt ρ d v := by
 cases d with
 | none => rfl
 | some d =>
  unfold putC putT
  simp only [sT_eq]
  generalize Nat.blt d nt = b
  cases b <;> rfl
def stepF (all : List Oper) (o : Oper) (cf : CallF) : St → Option St
 | ⟨ρ, H, n⟩ => match o.guard with
  | none => match bdRun cf ρ H n (bd tb o.op) with
   | some (v, H', n') => match (putC nt o.dst).f ρ v with
    | some ρ' => some ⟨ρ', H', n'⟩
    | none => none
   | none => none
  | some g => match gst all (ev ρ) (some g) with
   | some true => match bdRun cf ρ H n (bd tb o.op) with
    | some (v, H', n') => match (putC nt o.dst).f ρ v with
     | some ρ' => some ⟨ρ', H', n'⟩
     | none => none
    | none => none
   | some false => match (putC nt o.dst).f ρ (.tup []) with
    | some ρ' => some ⟨ρ', H, n⟩
    | none => none
   | none => none
theorem stepF_eq (all : List Oper) (o : Oper) (cf : CallF) (s : St) : stepF tb nt all o cf s = ostep tb cf nt all o s := by
 unfold stepF ostep
 obtain ⟨ρ, H, n⟩ := s
 dsimp only
 cases hg : o.guard with
 | none =>
  simp only [gst, bd_eq, putC_eq]
  rcases astep tb cf (oev (ev ρ)) H n o.op with _ | ⟨v, H', n'⟩ <;> rfl
 | some g =>
  simp only [bd_eq, putC_eq]
  rcases gst all (ev ρ) (some g) with _ | _ | _ <;> rfl
def opsC (all : List Oper) : List Oper → C1 (CallF → St → Option St)
 | [] => ⟨fun _ s => some s⟩
 | o :: l => ⟨fun cf s => match stepF tb nt all o cf s with
  | some s' => (opsC all l).f cf s'
  | none => none⟩
theorem opsC_eq (all : List Oper) (cf : CallF) : ∀ (l : List Oper) (s : St), (opsC tb nt all l).f cf s = mops tb cf nt all l s
 | [], _ => rfl
 | o :: l, s => by
  simp only [opsC, stepF_eq, mops]
  cases ostep tb cf nt all o s with
  | none => rfl
  | some s' => exact opsC_eq all cf l s'
end
end Go.MX
namespace Go.MX
open Go.RowKit
open Go.AM (Blw Key KK TI TabFact Tab TabOk Tb TbOk)
theorem mload_le {tb : Tb} {h g : Hf} (hl : Hf.le h g) {t : TypeId} {x v : MV} : mload tb h t x = some v → mload tb g t x = some v := by
 unfold mload
 rcases tb.ty t with _ | ti
 ·exact id
 cases x with
 | ptr i o =>
  dsimp only
  cases hi : h i with
  | none => intro hv; cases hv
  | some ob => rw [hl i ob hi]; exact id
 | _ => exact id
theorem mconv_le {tb : Tb} {h g : Hf} (hl : Hf.le h g) {src dst : TypeId} {x v : MV} : mconv tb h src dst x = some v → mconv tb g src dst x = some v := by
 unfold mconv
 rcases tb.ty src with _ | ts <;> rcases tb.ty dst with _ | td <;> cases x <;> try exact id
 rename_i i o n c op
 dsimp only
 cases ts.desc <;> try exact id
 cases td.desc <;> try exact id
 rename_i e
 dsimp only
 rcases tb.ty e with _ | te
 ·exact id
 dsimp only
 cases te.desc <;> try exact id
 rename_i k
 cases k <;> try exact id
 cases hi : h i with
 | none => intro hv; cases hv
 | some ob => rw [hl i ob hi]; exact id
theorem mlen_le {tb : Tb} {h g : Hf} (hl : Hf.le h g) {t : TypeId} {x v : MV} : mlen tb h t x = some v → mlen tb g t x = some v := by
 unfold mlen
 rcases tb.ty t with _ | ti
 ·exact id
 dsimp only
 cases ti.desc <;> cases x <;> try exact id
 rename_i i
 dsimp only
 cases hi : h i with
 | none => intro hv; cases hv
 | some ob => rw [hl i ob hi]; exact id
theorem mlookup_le {tb : Tb} {h g : Hf} (hl : Hf.le h g) {t : TypeId} {m k v : MV} {ok : Bool} : mlookup tb h t m k ok = some v → mlookup tb g t m k ok = some v := by
 unfold mlookup
 rcases tb.ty t with _ | ti
 ·exact id
 rcases mkey k with _ | key
 ·exact id
 dsimp only
 cases ti.desc <;> try exact id
 rename_i kt e
 dsimp only
 rcases tb.ty e with _ | te
 ·exact id
 cases m <;> try exact id
 rename_i i
 dsimp only
 cases hi : h i with
 | none => intro hv; cases hv
 | some ob => rw [hl i ob hi]; exact id
theorem qev_le {tb : Tb} {h g : Hf} (hl : Hf.le h g) {x : Operand → MV} {op : Op} {v : MV} (hv : qev tb h x op = some v) : qev tb g x op = some v := by
 cases op with
 | load t a => exact mload_le hl hv
 | convert src dst a => exact mconv_le hl hv
 | lookup t m k ok => exact mlookup_le hl hv
 | call c =>
  obtain ⟨callee, args, ts⟩ := c
  cases callee with
  | builtin b =>
   obtain ⟨args⟩ := args
   obtain ⟨ts⟩ := ts
   revert hv
   simp only [qev]
   split
   ·exact mlen_le hl
   all_goals exact id
  | _ => exact hv
 | makeFunc f a b => cases f <;> exact hv
 | _ => exact hv
def quietO (o : Oper) : Bool := match isEff o.op, isAl o.op, isGo o.op with
 | false, false, none => true
 | _, _, _ => false
def quietL : List Oper → Bool
 | [] => true
 | o :: l => bif quietO o then quietL l else false
def qstep (tb : Tb) (nt : Nat) (all : List Oper) (o : Oper) (s : St) : Option St := match gst all (ev s.ρ) o.guard with
 | some true => match qev tb s.H.get (oev (ev s.ρ)) o.op with
  | some v => match putT nt s.ρ o.dst v with
   | some ρ' => some ⟨ρ', s.H, s.n⟩
   | none => none
  | none => none
 | some false => match putT nt s.ρ o.dst (.tup []) with
  | some ρ' => some ⟨ρ', s.H, s.n⟩
  | none => none
 | none => none
def qsteps (tb : Tb) (nt : Nat) (all : List Oper) : List Oper → St → Option St
 | [], s => some s
 | o :: l, s => match qstep tb nt all o s with
  | some s' => qsteps tb nt all l s'
  | none => none
def qstepF (tb : Tb) (nt : Nat) (all : List Oper) (o : Oper) : St → Option St
 | ⟨ρ, H, n⟩ => match o.guard with
  | none => match (cq tb o.op).f ρ H with
   | some v => match (putC nt o.dst).f ρ v with
    | some ρ' => some ⟨ρ', H, n⟩
    | none => none
   | none => none
  | some g => match gst all (ev ρ) (some g) with
   | some true => match (cq tb o.op).f ρ H with
    | some v => match (putC nt o.dst).f ρ v with
     | some ρ' => some ⟨ρ', H, n⟩
     | none => none
    | none => none
   | some false => match (putC nt o.dst).f ρ (.tup []) with
    | some ρ' => some ⟨ρ', H, n⟩
    | none => none
   | none => none
def qopsC (tb : Tb) (nt : Nat) (all : List Oper) : List Oper → C1 (St → Option St)
 | [] => ⟨fun s => some s⟩
 | o :: l => ⟨fun s => match qstepF tb nt all o s with
  | some s' => (qopsC tb nt all l).f s'
  | none => none⟩
section
variable {P : Program} {tb : Tb} {cf : CallF} {nt lf : Nat}
theorem qstepF_eq (all : List Oper) (o : Oper) (s : St) : qstepF tb nt all o s = qstep tb nt all o s := by
 unfold qstepF qstep
 obtain ⟨ρ, H, n⟩ := s
 dsimp only
 cases hg : o.guard with
 | none =>
  simp only [gst, cq_eq, putC_eq]
 | some g =>
  simp only [cq_eq, putC_eq]
theorem qopsC_eq (all : List Oper) : ∀ (l : List Oper) (s : St), (qopsC tb nt all l).f s = qsteps tb nt all l s
 | [], _ => rfl
 | o :: l, s => by
  simp only [qopsC, qstepF_eq, qsteps]
  cases qstep tb nt all o s with
  | none => rfl
  | some s' => exact qopsC_eq all l s'
theorem dstep_quiet {all : List Oper} {o : Oper} {i : Nat} {d : DS} {s1 : St} (he : isEff o.op = false) (ha : isAl o.op = false) (hg : isGo o.op = none) (hs : qstep tb nt all o d.s = some s1) :
  ∃ d1, dstep tb cf nt all i o d = some d1 ∧ d1.s = s1 ∧ d1.ks = d.ks ∧ d1.al = d.al ∧ s1.H = d.s.H ∧ ∀ i' op ρ v, (i', op, ρ, v) ∈ d1.rs → (i', op, ρ, v) ∈ d.rs ∨ qev tb d.s.H.get (oev (ev ρ)) op = some v := by
 unfold qstep at hs
 unfold dstep
 cases hgs : gst all (ev d.s.ρ) o.guard with
 | none => rw [hgs] at hs; cases hs
 | some b =>
  rw [hgs] at hs
  cases b with
  | false =>
   dsimp only at hs ⊢
   cases hp : putT nt d.s.ρ o.dst (.tup []) with
   | none => rw [hp] at hs; cases hs
   | some ρ' =>
    rw [hp] at hs
    cases hs
    exact ⟨_, rfl, rfl, by simp only [he], rfl, rfl, fun _ _ _ _ h => .inl h⟩
  | true =>
   dsimp only at hs ⊢
   cases hqe : qev tb d.s.H.get (oev (ev d.s.ρ)) o.op with
   | none => rw [hqe] at hs; cases hs
   | some v =>
    rw [hqe] at hs
    dsimp only at hs
    cases hp : putT nt d.s.ρ o.dst v with
    | none => rw [hp] at hs; cases hs
    | some ρ' =>
     rw [hp] at hs
     cases hs
     rw [he, ha, hg]
     dsimp only
     cases hqn : qev tb noH (oev (ev d.s.ρ)) o.op with
     | some v0 =>
      have := qev_le (h := noH) (g := d.s.H.get) (fun _ _ h => by cases h) hqn
      rw [hqe] at this
      cases this
      dsimp only
      rw [hp]
      exact ⟨_, rfl, rfl, rfl, rfl, rfl, fun _ _ _ _ h => .inl h⟩
     | none =>
      dsimp only
      rw [hp]
      refine ⟨_, rfl, rfl, rfl, rfl, rfl, fun i' op ρ v' h => ?_⟩
      rcases List.mem_cons.1 h with h | h
      ·cases h; exact .inr hqe
      ·exact .inl h
theorem drun_quiet {all : List Oper} : ∀ (l : List Oper) (i : Nat) (d : DS) (s' : St), quietL l = true → qsteps tb nt all l d.s = some s' →
  ∃ d', drun tb cf nt all l i d = some d' ∧ d'.s = s' ∧ d'.ks = d.ks ∧ d'.al = d.al ∧ s'.H = d.s.H ∧ ∀ i' op ρ v, (i', op, ρ, v) ∈ d'.rs → (i', op, ρ, v) ∈ d.rs ∨ qev tb d.s.H.get (oev (ev ρ)) op = some v
 | [], i, d, s', _, h => by
  cases h
  exact ⟨d, rfl, rfl, rfl, rfl, rfl, fun _ _ _ _ h => .inl h⟩
 | o :: l, i, d, s', hq, h => by
  simp only [quietL] at hq
  cases hqo : quietO o with
  | false => rw [hqo] at hq; cases hq
  | true =>
   rw [hqo, cond_true] at hq
   unfold quietO at hqo
   split at hqo
   ·rename_i he ha hg
    simp only [qsteps] at h
    cases hs : qstep tb nt all o d.s with
    | none => rw [hs] at h; cases h
    | some s1 =>
     rw [hs] at h
     obtain ⟨d1, h1, h2, h3, h4, h5, h6⟩ := dstep_quiet (cf := cf) (i := i) he ha hg hs
     subst h2
     obtain ⟨d2, g1, g2, g3, g4, g5, g6⟩ := drun_quiet l (i + 1) d1 s' hq h
     refine ⟨d2, by simp only [drun, h1, g1], g2, g3.trans h3, g4.trans h4, g5.trans h5, fun i' op ρ v hm => ?_⟩
     rcases g6 i' op ρ v hm with hm | hm
     ·exact h6 i' op ρ v hm
     ·exact .inr (by rw [← h5]; exact hm)
   ·cases hqo
theorem qdraw_sound (ht : TbOk P tb) (hcf : CallFOk P cf) (hm : P.follows .mixedOrders = true) {ops : Array Oper} {id : Nat} {s s' : St} (hq : quietL ops.toList = true) (hs : sck ops.toList (masks ops.toList 0 .nil) = true) (h : qsteps tb nt ops.toList ops.toList s = some s') :
  DomOk s.H.get s.n s'.n s'.H.get ∧ ∀ (w0 : World) (φ : Pl) (g : Hf) (a : Act) (w : World) (Q : Exit → Act → World → Prop), Core w0 φ g w → Hf.le s.H.get g → Fresh φ s.n s'.n → Sim nt φ (ev s.ρ) a →
   (∀ φ' g' a' w', Grow w0 φ g s.H.get s.n s'.n s'.H.get φ' g' w' → Sim nt φ' (ev s'.ρ) a' → Q .normal a' w') → (Code.region id ops true).wp P Q a w := by
 obtain ⟨d, h1, h2, h3, h4, h5, h6⟩ := drun_quiet (cf := cf) ops.toList 0 ⟨s, [(0, s.H)], [], []⟩ s' hq h
 subst h2
 refine mdraw_core ht hcf hm hs h1 fun i op ρ v hmm ce K hck hmay => ?_
 rw [h3] at hck
 simp only [List.mem_singleton, Prod.mk.injEq] at hck
 obtain ⟨rfl, rfl⟩ := hck
 rw [h4]
 simp only [addAl]
 rcases h6 i op ρ v hmm with h | h
 ·cases h
 ·exact h
def drawC (tb : Tb) (nt : Nat) (ops : List Oper) : Option (C1 (St → Option St)) := match quietL ops, sck ops (masks ops 0 .nil) with
 | true, true => some (qopsC tb nt ops ops)
 | _, _ => none
def fcode (tb : Tb) (nt lf : Nat) : Code → C1 (CallF → St → Option (Exit × St))
 | .skip => ⟨fun _ s => some (.normal, s)⟩
 | .exit id => ⟨fun _ s => some (.exit id, s)⟩
 | .ret => ⟨fun _ s => some (.ret, s)⟩
 | .seq a b => ⟨fun cf s => match (fcode tb nt lf a).f cf s with
  | some (.normal, s') => (fcode tb nt lf b).f cf s'
  | r => r⟩
 | .cond c a b => ⟨fun cf s => match (oc c).f s.ρ with
  | .bool true => (fcode tb nt lf a).f cf s
  | .bool false => (fcode tb nt lf b).f cf s
  | _ => none⟩
 | .block id c => ⟨fun cf s => match (fcode tb nt lf c).f cf s with
  | some (.exit i, s') => match Nat.beq i id with
   | true => some (.normal, s')
   | false => some (.exit i, s')
  | r => r⟩
 | .region _ ops false => ⟨fun cf s => match (opsC tb nt ops.toList ops.toList).f cf s with
  | some s' => some (.normal, s')
  | none => none⟩
 | .region _ ops true => match drawC tb nt ops.toList with
  | some g => ⟨fun _ s => match g.f s with
   | some s' => some (.normal, s')
   | none => none⟩
  | none => ⟨fun cf s => match mdraw tb cf nt ops.toList s with
   | some s' => some (.normal, s')
   | none => none⟩
 | .loop c => ⟨fun cf s => itr ((fcode tb nt lf c).f cf) lf s⟩
 | _ => ⟨fun _ _ => none⟩
theorem fcode_sound (ht : TbOk P tb) (hcf : CallFOk P cf) (hm : P.follows .mixedOrders = true) : ∀ (c : Code) (s s' : St) (e : Exit), (fcode tb nt lf c).f cf s = some (e, s') → CodeT P nt c s e s'
 | .skip, s, s', e, h => by cases h; exact CodeT.leave fun Q a w hq => wp_skip hq
 | .exit id, s, s', e, h => by cases h; exact CodeT.leave fun Q a w hq => wp_exit hq
 | .ret, s, s', e, h => by cases h; exact CodeT.leave fun Q a w hq => wp_ret hq
 | .seq a b, s, s', e, h => by
  simp only [fcode] at h
  split at h
  ·rename_i s1 h1
   have c1 := fcode_sound ht hcf hm a _ _ _ h1
   have c2 := fcode_sound ht hcf hm b _ _ _ h
   exact ⟨c1.1.trans c2.1, fun w0 φ g ac w hc hl hf hs => wp_seq (c1.bind c2 w0 φ g ac w hc hl hf hs fun _ _ h => h)⟩
  ·rename_i hne
   have c1 := fcode_sound ht hcf hm a _ _ _ h
   refine ⟨c1.1, fun w0 φ g ac w hc hl hf hs => wp_seq (wp_mono (c1.2 w0 φ g ac w hc hl hf hs) fun e' a' w' ⟨he, hr⟩ => ?_)⟩
   subst he
   cases e' with
   | normal => exact absurd h (hne s')
   | _ => exact ⟨rfl, hr⟩
 | .cond c a b, s, s', e, h => by
  simp only [fcode, oc_eq] at h
  split at h
  ·rename_i hb
   have c1 := fcode_sound ht hcf hm a _ _ _ h
   refine ⟨c1.1, fun w0 φ g ac w hc hl hf hs => ?_⟩
   have hv := vr_oev hs.slots c
   rw [hb] at hv
   simp only [vr] at hv
   exact wp_cond hv (c1.2 w0 φ g ac w hc hl hf hs)
  ·rename_i hb
   have c1 := fcode_sound ht hcf hm b _ _ _ h
   refine ⟨c1.1, fun w0 φ g ac w hc hl hf hs => ?_⟩
   have hv := vr_oev hs.slots c
   rw [hb] at hv
   simp only [vr] at hv
   exact wp_cond hv (c1.2 w0 φ g ac w hc hl hf hs)
  ·cases h
 | .block id c, s, s', e, h => by
  simp only [fcode] at h
  split at h
  ·rename_i i s1 h1
   have c1 := fcode_sound ht hcf hm c _ _ _ h1
   split at h
   ·rename_i hb
    cases h
    have hb := Nat.eq_of_beq_eq_true hb
    subst hb
    refine ⟨c1.1, fun w0 φ g ac w hc hl hf hs => wp_block (wp_mono (c1.2 w0 φ g ac w hc hl hf hs) fun e' a' w' ⟨he, hr⟩ => ?_)⟩
    subst he
    simp only [Exit.inBlock, if_true]
    exact ⟨trivial, hr⟩
   ·rename_i hb
    cases h
    have hb : i ≠ id := fun e => by rw [nbeq] at hb; simp [e] at hb
    refine ⟨c1.1, fun w0 φ g ac w hc hl hf hs => wp_block (wp_mono (c1.2 w0 φ g ac w hc hl hf hs) fun e' a' w' ⟨he, hr⟩ => ?_)⟩
    subst he
    simp only [Exit.inBlock, if_neg hb]
    exact ⟨trivial, hr⟩
  ·rename_i hne
   have c1 := fcode_sound ht hcf hm c _ _ _ h
   refine ⟨c1.1, fun w0 φ g ac w hc hl hf hs => wp_block (wp_mono (c1.2 w0 φ g ac w hc hl hf hs) fun e' a' w' ⟨he, hr⟩ => ?_)⟩
   subst he
   cases e' with
   | exit i => exact absurd h (hne i s')
   | _ => exact ⟨rfl, hr⟩
 | .region id ops false, s, s', e, h => by
  simp only [fcode, opsC_eq] at h
  split at h
  ·rename_i s1 h1
   cases h
   obtain ⟨hd, hk⟩ := mops_sound ht hcf (ops := ops) ops.toList 0 s s' (fun j => by simp) h1
   refine CodeT.of_norm hd fun w0 φ g a w Q hc hl hf hs hq => wp_region ?_
   have := hk w0 φ g a w Q hc hl hf hs hq
   rw [List.range_eq_range']
   simpa using this
  ·cases h
 | .region id ops true, s, s', e, h => by
  simp only [fcode] at h
  split at h
  ·rename_i g hg
   unfold drawC at hg
   split at hg
   ·rename_i hq hs
    cases hg
    simp only [qopsC_eq] at h
    split at h
    ·rename_i s1 h1
     cases h
     obtain ⟨hd, hk⟩ := qdraw_sound (id := id) ht hcf hm hq hs h1
     exact CodeT.of_norm hd hk
    ·cases h
   ·cases hg
  ·simp only at h
   split at h
   ·rename_i s1 h1
    cases h
    obtain ⟨hd, hk⟩ := mdraw_sound (id := id) ht hcf hm h1
    exact CodeT.of_norm hd hk
   ·cases h
 | .loop c, s, s', e, h => by
  simp only [fcode] at h
  obtain ⟨hd, hk⟩ := itr_sound (fun s e s' h => fcode_sound ht hcf hm c s s' e h) lf s s' e h
  exact ⟨hd, fun w0 φ g a w hc hl hf hs => wp_loop_rounds lf (hk w0 φ g a w hc hl hf hs)⟩
 | .rangeFunc _ _ _ _, _, _, _, h => by simp [fcode] at h
 | .scope _, _, _, _, h => by simp [fcode] at h
 | .label _, _, _, _, h => by simp [fcode] at h
 | .goto _, _, _, _, h => by simp [fcode] at h
 | .refuse _, _, _, _, h => by simp [fcode] at h
def fcall (tb : Tb) (fns : FuncId → Option FI) (ex : ExF) (lf : Nat) : Nat → CallF
 | 0 => fun _ _ _ _ => none
 | k + 1 => fun f args H n => match fns f with
  | none => match ex f args with
   | some v => some (v, H, n)
   | none => none
  | some fi => match Nat.ble args.length fi.nt, (fcode tb fi.nt lf fi.code).f (fcall tb fns ex lf k) ⟨args0 args 0 .nil, H, n⟩ with
   | true, some (.normal, s) => match resV tb (ev s.ρ) s.H.get fi.res with
    | some v => some (v, s.H, s.n)
    | none => none
   | true, some (.ret, s) => match resV tb (ev s.ρ) s.H.get fi.res with
    | some v => some (v, s.H, s.n)
    | none => none
   | _, _ => none
theorem fcall_sound (ht : TbOk P tb) (hm : P.follows .mixedOrders = true) {fns : FuncId → Option FI} {ex : ExF} (hfn : FnsOk P fns) (hex : ExOk P ex) : ∀ k, CallFOk P (fcall tb fns ex lf k)
 | 0 => fun _ _ _ _ _ _ _ h => by cases h
 | k + 1 => by
  have ih := fcall_sound ht hm hfn hex k
  intro f args H n0 v H' n1 h
  simp only [fcall] at h
  split at h
  ·split at h
   ·rename_i v' hv'
    cases h
    exact ex_call hex hv'
   ·cases h
  ·rename_i fi hfi
   obtain ⟨fn, h1, h2, h3, h4, h5⟩ := hfn f fi hfi
   have key : ∀ (e : Exit) (s : St), e = .normal ∨ e = .ret → Nat.ble args.length fi.nt = true → (fcode tb fi.nt lf fi.code).f (fcall tb fns ex lf k) ⟨args0 args 0 .nil, H, n0⟩ = some (e, s) → resV tb (ev s.ρ) s.H.get fi.res = some v → H' = s.H → n1 = s.n →
     CallT P f args H.get n0 v H'.get n1 := by
    intro e s he hlen hcode hres hH hn
    subst hH hn
    have hlen := Nat.le_of_ble_eq_true hlen
    exact call_of_code ht h1 h2 h3 h4 h5 hlen (fcode_sound ht ih hm fi.code _ _ _ hcode) he hres
   split at h
   ·rename_i s hlen hcode
    split at h
    ·rename_i v' hres
     cases h
     exact key .normal s (.inl rfl) hlen hcode hres rfl rfl
    ·cases h
   ·rename_i s hlen hcode
    split at h
    ·rename_i v' hres
     cases h
     exact key .ret s (.inr rfl) hlen hcode hres rfl rfl
    ·cases h
   ·cases h
end
end Go.MX
namespace Go.MX
open Go.RowKit
open Go.AM (Blw Key KK TI TabFact Tab TabOk Tb TbOk)
def fiOf (fn : Func) : Option FI := match fn.body with
 | some c => some ⟨c, fn.ntmps, fn.results.toList⟩
 | none => none
def nodeF (m f : Nat) (a b : Option FI) : Option FI := bif Nat.blt f m then a else b
def pickF (m f : Nat) (a : Option FI) : Option FI := bif Nat.beq f m then a else none
def FnOk1 (P : Program) (f : FuncId) (x : Option FI) : Prop := ∀ fi, x = some fi → ∃ fn, P.funcs[f]? = some fn ∧ fn.body = some fi.code ∧ fn.ntmps = fi.nt ∧ fn.results.toList = fi.res ∧ (fn.name == "runtime.NumGoroutine") = false
theorem ok_node {P : Program} {m f : Nat} {a b : Option FI} (ha : FnOk1 P f a) (hb : FnOk1 P f b) : FnOk1 P f (nodeF m f a b) := by
 unfold nodeF
 cases Nat.blt f m
 ·exact hb
 ·exact ha
theorem ok_pick {P : Program} {m f : Nat} {fn : Func} (h : P.funcs[m]? = some fn) (hn : (fn.name == "runtime.NumGoroutine") = false) : FnOk1 P f (pickF m f (fiOf fn)) := by
 unfold pickF
 cases hb : Nat.beq f m with
 | false => intro fi h; cases h
 | true =>
  have := Nat.eq_of_beq_eq_true hb
  subst this
  intro fi hfi
  simp only [cond_true, fiOf] at hfi
  split at hfi
  ·rename_i c hc
   cases hfi
   exact ⟨fn, h, hc, rfl, rfl, hn⟩
  ·cases hfi
def exCut (m : Nat) : ExF := fun f args => match Nat.beq f m, args with
 | true, [.str s, .str sep] => match Nat.ble s.length 1000 with
  | true => some (.tup [.str (Go.Lib.cut s sep).1, .str (Go.Lib.cut s sep).2.1, .bool (Go.Lib.cut s sep).2.2])
  | false => none
 | _, _ => none
end Go.MX
namespace Go.MX
open Go.RowKit
open Go.AM (Blw Key KK TI TabFact Tab TabOk Tb TbOk)
mutual
def rdL (h : Hf) : Nat → MV → Option Go.AM.L
 | 0, _ => none
 | k + 1, v => match v with
  | .int q n => some (.int q n)
  | .bool b => some (.bool b)
  | .str s => some (.str ⟨s.toArray⟩)
  | .nils => some .nil
  | .sl i o n _ _ => match h i with
   | some (.cells sz _ cs _) => match rdRows h k sz n (cs.drop o) with
    | some rows => some (.sl sz rows)
    | none => none
   | _ => none
  | _ => none
def rdRow (h : Hf) : Nat → List MV → Option (List Go.AM.L)
 | 0, _ => none
 | k + 1, l => match l with
  | [] => some []
  | v :: l => match rdL h k v, rdRow h k l with
   | some x, some xs => some (x :: xs)
   | _, _ => none
def rdRows (h : Hf) : Nat → Nat → Nat → List MV → Option (List (List Go.AM.L))
 | 0, _, _, _ => none
 | k + 1, sz, n, l => match n with
  | 0 => some []
  | n + 1 => match Nat.beq (l.take sz).length sz, rdRow h k (l.take sz), rdRows h k sz n (l.drop sz) with
   | true, some r, some rs => some (r :: rs)
   | _, _, _ => none
end
def rdU (h : Hf) (k : Nat) : MV → Option Go.AM.U
 | .agg cs => match rdRow h k cs with
  | some xs => some (.agg (xs.map Go.AM.C.d))
  | none => none
 | v => match rdL h k v with
  | some x => some (.one (.d x))
  | none => none
def rdUs (h : Hf) (k : Nat) : List MV → Option (List Go.AM.U)
 | [] => some []
 | v :: l => match rdU h k v, rdUs h k l with
  | some x, some xs => some (x :: xs)
  | _, _ => none
def rdV (h : Hf) (k : Nat) : MV → Option Go.AM.V
 | .tup us => match rdUs h k us with
  | some xs => some (.tup xs)
  | none => none
 | v => match rdU h k v with
  | some x => some (.u x)
  | none => none
section
variable {w0 w : World} {φ : Pl} {g h : Hf} {F : Nat → Prop}
mutual
theorem rdL_sound (hc : Core w0 φ g w) (hl : Hf.le h g) (hF : ∀ b, w0.heap.size ≤ b → F b) : ∀ (k : Nat) (v : MV) (x : Go.AM.L) (u : Value), rdL h k v = some x → vr φ v u → Go.AM.rep w F x u
 | 0, v, x, u, hx, _ => by simp [rdL] at hx
 | k + 1, v, x, u, hx, hv => by
  cases v with
  | int q n => simp only [rdL, Option.some.injEq] at hx; subst hx; simpa [vr, Go.AM.rep] using hv
  | bool b => simp only [rdL, Option.some.injEq] at hx; subst hx; simpa [vr, Go.AM.rep] using hv
  | str s => simp only [rdL, Option.some.injEq] at hx; subst hx; simpa [vr, Go.AM.rep] using hv
  | nils => simp only [rdL, Option.some.injEq] at hx; subst hx; simpa [vr, Go.AM.rep] using hv
  | sl i o n c op =>
   simp only [rdL] at hx
   split at hx
   ·rename_i sz e cs op' hi
    split at hx
    ·rename_i rows hr
     cases hx
     simp only [vr] at hv
     obtain ⟨b, base, sp, a, hp, rfl, hnc, hmax, ha⟩ := hv
     have ho := hc.obj hl hi hp
     have hown := hc.own i _ b base sp (hl _ _ hi) hp
     have hlt := ors_lt ho
     obtain ⟨us, h1, h2⟩ := mem_cells ho
     have key := rdRows_sound hc hl hF k sz n (cs.drop o) rows b (base + o) hr (us.drop o) (vrs_drop o h1) (fun j u hj => by
      rw [List.getElem?_drop] at hj
      rw [Nat.add_assoc]
      exact h2 _ u hj)
     simp only [Go.AM.rep]
     refine ⟨_, n, _, rfl, key.1.symm, by omega, hmax, ?_⟩
     rcases Nat.eq_zero_or_pos n with hn | hn
     ·subst hn; exact .inl (List.eq_nil_of_length_eq_zero key.1)
     ·exact .inr ⟨b, base + o, by rw [ha (by omega)], hF b hown, hlt, key.2⟩
    ·cases hx
   ·cases hx
  | _ => simp [rdL] at hx
theorem rdRow_sound (hc : Core w0 φ g w) (hl : Hf.le h g) (hF : ∀ b, w0.heap.size ≤ b → F b) : ∀ (k : Nat) (l : List MV) (xs : List Go.AM.L), rdRow h k l = some xs →
  xs.length = l.length ∧ ∀ (j : Nat) (v : MV) (u : Value), l[j]? = some v → vr φ v u → ∃ x, xs[j]? = some x ∧ Go.AM.rep w F x u
 | 0, l, xs, hx => by simp [rdRow] at hx
 | k + 1, l, xs, hx => by
  cases l with
  | nil => simp only [rdRow, Option.some.injEq] at hx; subst hx; exact ⟨rfl, fun j v u h => by simp at h⟩
  | cons v l =>
   simp only [rdRow] at hx
   split at hx
   ·rename_i x xs' h1 h2
    cases hx
    obtain ⟨h3, h4⟩ := rdRow_sound hc hl hF k l xs' h2
    refine ⟨by simp [h3], fun j v' u hj hv => ?_⟩
    cases j with
    | zero => simp at hj; subst hj; exact ⟨x, rfl, rdL_sound hc hl hF k v x u h1 hv⟩
    | succ j => simp at hj; simpa using h4 j v' u hj hv
   ·cases hx
theorem rdRows_sound (hc : Core w0 φ g w) (hl : Hf.le h g) (hF : ∀ b, w0.heap.size ≤ b → F b) : ∀ (k sz n : Nat) (l : List MV) (rows : List (List Go.AM.L)) (b o : Nat), rdRows h k sz n l = some rows →
  ∀ us : List Value, vrs φ l us → (∀ (j : Nat) (u : Value), us[j]? = some u → w.cell? ⟨b, o + j, none⟩ = some u) → rows.length = n ∧ Go.AM.repRows w F sz rows b o
 | 0, sz, n, l, rows, b, o, hx, _, _, _ => by simp [rdRows] at hx
 | k + 1, sz, n, l, rows, b, o, hx, us, hus, hcell => by
  cases n with
  | zero => simp only [rdRows, Option.some.injEq] at hx; subst hx; exact ⟨rfl, by simp [Go.AM.repRows]⟩
  | succ n =>
   simp only [rdRows] at hx
   split at hx
   ·rename_i r rs h1 h2 h3
    cases hx
    have h1 := Nat.eq_of_beq_eq_true h1
    obtain ⟨h4, h5⟩ := rdRow_sound hc hl hF k (l.take sz) r h2
    have hlen := vrs_length hus
    obtain ⟨h6, h7⟩ := rdRows_sound hc hl hF k sz n (l.drop sz) rs b (o + sz) h3 (us.drop sz) (vrs_drop sz hus) (fun j u hj => by
     rw [List.getElem?_drop] at hj
     rw [Nat.add_assoc]
     exact hcell _ u hj)
    refine ⟨by simp [h6], ?_⟩
    simp only [Go.AM.repRows]
    refine ⟨⟨h4.trans h1, ?_⟩, h7⟩
    have row : ∀ (xs : List Go.AM.L) (d : Nat), (∀ (j : Nat), j < xs.length → ∃ u x, us[d + j]? = some u ∧ xs[j]? = some x ∧ Go.AM.rep w F x u) → Go.AM.repRow w F xs b (o + d) := by
     intro xs
     induction xs with
     | nil => intro d _; simp [Go.AM.repRow]
     | cons x xs ih =>
      intro d hd
      simp only [Go.AM.repRow]
      obtain ⟨u, x', hu, hx', hr⟩ := hd 0 (by simp)
      simp at hx'
      subst hx'
      refine ⟨⟨u, hcell d u (by simpa using hu), hr⟩, ?_⟩
      rw [Nat.add_assoc]
      exact ih (d + 1) fun j hj => by
       obtain ⟨u, x', hu, hx', hr⟩ := hd (j + 1) (by simpa using hj)
       exact ⟨u, x', by rw [show d + 1 + j = d + (j + 1) from by omega]; exact hu, by simpa using hx', hr⟩
    have := row r 0 fun j hj => by
     have hjt : j < (l.take sz).length := by omega
     have hjl : j < l.length := by rw [List.length_take] at hjt; omega
     obtain ⟨u, hu, hv⟩ := vrs_get hus (List.getElem?_eq_getElem hjl)
     obtain ⟨x, hx, hr⟩ := h5 j l[j] u (by rw [List.getElem?_take, if_pos (by rw [List.length_take] at hjt; omega)]; exact List.getElem?_eq_getElem hjl) hv
     exact ⟨u, x, by rw [Nat.zero_add]; exact hu, hx, hr⟩
    exact this
   ·cases hx
end
theorem rdU_sound (hc : Core w0 φ g w) (hl : Hf.le h g) (hF : ∀ b, w0.heap.size ≤ b → F b) {ψ : Nat → Value} {k : Nat} {v : MV} {x : Go.AM.U} {u : Value} (hx : rdU h k v = some x) (hv : vr φ v u) : Go.AM.usim ψ w F x u := by
 unfold rdU at hx
 split at hx
 ·rename_i cs
  split at hx
  ·rename_i xs hr
   cases hx
   simp only [vr] at hv
   obtain ⟨arr, rfl, hcs⟩ := hv
   obtain ⟨h1, h2⟩ := rdRow_sound hc hl hF k cs xs hr
   refine ⟨arr, rfl, Go.AM.csims_of_get (by rw [List.length_map, h1, vrs_length hcs]) fun i c v hi hvi => ?_⟩
   rw [List.getElem?_map] at hi
   cases hxi : xs[i]? with
   | none => rw [hxi] at hi; cases hi
   | some x =>
    rw [hxi] at hi
    cases hi
    have hlt : i < cs.length := by rw [← h1]; exact (List.getElem?_eq_some_iff.1 hxi).1
    obtain ⟨u, hu, hvu⟩ := vrs_get hcs (List.getElem?_eq_getElem hlt)
    rw [hvi] at hu
    cases hu
    obtain ⟨x', hx', hrep⟩ := h2 i cs[i] v (List.getElem?_eq_getElem hlt) hvu
    rw [hxi] at hx'
    cases hx'
    exact hrep
  ·cases hx
 ·split at hx
  ·rename_i y hr
   cases hx
   exact rdL_sound hc hl hF k v y u hr hv
  ·cases hx
theorem rdUs_sound (hc : Core w0 φ g w) (hl : Hf.le h g) (hF : ∀ b, w0.heap.size ≤ b → F b) {ψ : Nat → Value} {k : Nat} : ∀ {vs : List MV} {xs : List Go.AM.U} {us : List Value}, rdUs h k vs = some xs → vrs φ vs us → Go.AM.usims ψ w F xs us
 | [], xs, us, hx, hv => by
  simp only [rdUs, Option.some.injEq] at hx
  subst hx
  exact hv
 | v :: vs, xs, us, hx, hv => by
  simp only [rdUs] at hx
  split at hx
  ·rename_i x xs' h1 h2
   cases hx
   simp only [vrs] at hv
   obtain ⟨u, r, rfl, hu, hr⟩ := hv
   exact ⟨u, r, rfl, rdU_sound hc hl hF h1 hu, rdUs_sound hc hl hF h2 hr⟩
  ·cases hx
theorem rdV_sound (hc : Core w0 φ g w) (hl : Hf.le h g) (hF : ∀ b, w0.heap.size ≤ b → F b) {ψ : Nat → Value} {k : Nat} {v : MV} {x : Go.AM.V} {u : Value} (hx : rdV h k v = some x) (hv : vr φ v u) : Go.AM.vsim ψ w F x u := by
 unfold rdV at hx
 split at hx
 ·rename_i us
  split at hx
  ·rename_i xs hr
   cases hx
   simp only [vr] at hv
   obtain ⟨arr, rfl, hcs⟩ := hv
   exact ⟨arr, rfl, rdUs_sound hc hl hF hr hcs⟩
  ·cases hx
 ·split at hx
  ·rename_i y hr
   cases hx
   exact rdU_sound hc hl hF hr hv
  ·cases hx
end
mutual
def eqD : Go.AM.L → Go.AM.L → Bool
 | .int k n, .int k' n' => bif keq k k' then eqI n n' else false
 | .bool true, .bool true => true
 | .bool false, .bool false => true
 | .str s, .str t => eqL s.data.toList t.data.toList
 | .nil, .nil => true
 | .emp, .emp => true
 | .sl a r, .sl b q => bif Nat.beq a b then eqDs r q else false
 | _, _ => false
def eqDr : List Go.AM.L → List Go.AM.L → Bool
 | [], [] => true
 | x :: l, y :: m => bif eqD x y then eqDr l m else false
 | _, _ => false
def eqDs : List (List Go.AM.L) → List (List Go.AM.L) → Bool
 | [], [] => true
 | x :: l, y :: m => bif eqDr x y then eqDs l m else false
 | _, _ => false
end
theorem bifT {a b : Bool} (h : (bif a then b else false) = true) : a = true ∧ b = true := by cases a <;> simp_all
theorem eqLb : ∀ {s t : List UInt8}, eqL s t = true → s = t
 | [], [], _ => rfl
 | a :: l, b :: m, h => by
  unfold eqL at h
  split at h
  ·rename_i hb
   have hb := Nat.eq_of_beq_eq_true hb
   rw [UInt8.toNat_inj.1 hb, eqLb h]
  ·cases h
 | [], _ :: _, h => by cases h
 | _ :: _, [], h => by cases h
mutual
theorem eqD_eq : ∀ (x y : Go.AM.L), eqD x y = true → x = y
 | .int k n, y, h => by
  cases y with
  | int k' n' =>
   simp only [eqD] at h
   obtain ⟨h1, h2⟩ := bifT h
   rw [keq_eq, decide_eq_true_eq] at h1
   rw [eqI_eq, decide_eq_true_eq] at h2
   rw [h1, h2]
  | _ => simp [eqD] at h
 | .bool a, y, h => by
  cases y with
  | bool b => cases a <;> cases b <;> simp_all [eqD]
  | _ => cases a <;> simp [eqD] at h
 | .str s, y, h => by
  cases y with
  | str t =>
   simp only [eqD] at h
   have := eqLb h
   obtain ⟨⟨s⟩⟩ := s
   obtain ⟨⟨t⟩⟩ := t
   simp only at this
   rw [this]
  | _ => simp [eqD] at h
 | .nil, y, h => by cases y <;> simp_all [eqD]
 | .emp, y, h => by cases y <;> simp_all [eqD]
 | .sl a r, y, h => by
  cases y with
  | sl b q =>
   simp only [eqD] at h
   obtain ⟨h1, h2⟩ := bifT h
   rw [Nat.eq_of_beq_eq_true h1, eqDs_eq r q h2]
  | _ => simp [eqD] at h
theorem eqDr_eq : ∀ (x y : List Go.AM.L), eqDr x y = true → x = y
 | [], y, h => by cases y <;> simp_all [eqDr]
 | x :: l, y, h => by
  cases y with
  | nil => simp [eqDr] at h
  | cons y m =>
   simp only [eqDr] at h
   obtain ⟨h1, h2⟩ := bifT h
   rw [eqD_eq x y h1, eqDr_eq l m h2]
theorem eqDs_eq : ∀ (x y : List (List Go.AM.L)), eqDs x y = true → x = y
 | [], y, h => by cases y <;> simp_all [eqDs]
 | x :: l, y, h => by
  cases y with
  | nil => simp [eqDs] at h
  | cons y m =>
   simp only [eqDs] at h
   obtain ⟨h1, h2⟩ := bifT h
   rw [eqDr_eq x y h1, eqDs_eq l m h2]
end
def eqC : Go.AM.C → Go.AM.C → Bool
 | .d x, .d y => eqD x y
 | _, _ => false
def eqCl : List Go.AM.C → List Go.AM.C → Bool
 | [], [] => true
 | x :: l, y :: m => bif eqC x y then eqCl l m else false
 | _, _ => false
def eqU : Go.AM.U → Go.AM.U → Bool
 | .one x, .one y => eqC x y
 | .agg l, .agg m => eqCl l m
 | _, _ => false
def eqUl : List Go.AM.U → List Go.AM.U → Bool
 | [], [] => true
 | x :: l, y :: m => bif eqU x y then eqUl l m else false
 | _, _ => false
def eqV : Go.AM.V → Go.AM.V → Bool
 | .u x, .u y => eqU x y
 | .tup l, .tup m => eqUl l m
 | _, _ => false
theorem eqC_eq (x y : Go.AM.C) (h : eqC x y = true) : x = y := by
 unfold eqC at h
 split at h
 ·rw [eqD_eq _ _ h]
 ·cases h
theorem eqCl_eq : ∀ (x y : List Go.AM.C), eqCl x y = true → x = y
 | [], y, h => by cases y <;> simp_all [eqCl]
 | x :: l, y, h => by
  cases y with
  | nil => simp [eqCl] at h
  | cons y m =>
   simp only [eqCl] at h
   obtain ⟨h1, h2⟩ := bifT h
   rw [eqC_eq x y h1, eqCl_eq l m h2]
theorem eqU_eq (x y : Go.AM.U) (h : eqU x y = true) : x = y := by
 unfold eqU at h
 split at h
 ·rw [eqC_eq _ _ h]
 ·rw [eqCl_eq _ _ h]
 ·cases h
theorem eqUl_eq : ∀ (x y : List Go.AM.U), eqUl x y = true → x = y
 | [], y, h => by cases y <;> simp_all [eqUl]
 | x :: l, y, h => by
  cases y with
  | nil => simp [eqUl] at h
  | cons y m =>
   simp only [eqUl] at h
   obtain ⟨h1, h2⟩ := bifT h
   rw [eqU_eq x y h1, eqUl_eq l m h2]
theorem eqV_eq (x y : Go.AM.V) (h : eqV x y = true) : x = y := by
 unfold eqV at h
 split at h
 ·rw [eqU_eq _ _ h]
 ·rw [eqUl_eq _ _ h]
 ·cases h
def plainA : List Go.AM.V → Option (List MV)
 | [] => some []
 | .u (.one (.d (.int k n))) :: l => match plainA l with | some r => some (.int k n :: r) | none => none
 | .u (.one (.d (.bool b))) :: l => match plainA l with | some r => some (.bool b :: r) | none => none
 | .u (.one (.d (.str s))) :: l => match plainA l with | some r => some (.str s.data.toList :: r) | none => none
 | _ => none
theorem plainA_vrs {φ : Pl} {ψ : Nat → Value} {w : World} {F : Nat → Prop} : ∀ {us : List Go.AM.V} {ms : List MV} {vals : List Value}, plainA us = some ms → vals.length = us.length →
  (∀ (i : Nat) (x : Go.AM.V) (u : Value), us[i]? = some x → vals[i]? = some u → Go.AM.vsim ψ w F x u) → vrs φ ms vals
 | [], ms, vals, h, hl, _ => by
  simp only [plainA, Option.some.injEq] at h
  subst h
  have : vals = [] := List.eq_nil_of_length_eq_zero (by simpa using hl)
  subst this
  simp [vrs]
 | x :: us, ms, [], h, hl, _ => by simp at hl
 | x :: us, ms, v :: vals, h, hl, hv => by
  have h0 := hv 0 x v rfl rfl
  have hr : ∀ ms', plainA us = some ms' → vrs φ ms' vals := fun ms' h' => plainA_vrs h' (by simpa using hl) fun i x u hx hu => hv (i + 1) x u (by simpa using hx) (by simpa using hu)
  unfold plainA at h
  split at h
  ·rename_i heq; cases heq
  all_goals first | (cases h; done) | skip
  all_goals
   rename_i heq
   cases heq
   split at h
   ·rename_i r hr'
    cases h
    simp only [vrs]
    refine ⟨v, vals, rfl, ?_, hr _ hr'⟩
    simp only [Go.AM.vsim, Go.AM.usim, Go.AM.csim, Go.AM.rep] at h0
    subst h0
    simp [vr]
   ·cases h
section
variable {P : Program} {tb : Tb} {lf : Nat}
theorem data_call (ht : TbOk P tb) (hm : P.follows .mixedOrders = true) {fns : FuncId → Option FI} {ex : ExF} (hfn : FnsOk P fns) (hex : ExOk P ex) {k f n q : Nat} {us : List Go.AM.V} {ms : List MV} {v : MV} {x : Go.AM.V} {H : Tr MO} (hus : plainA us = some ms)
  (h : fcall tb fns ex lf k f ms .nil 0 = some (v, H, n)) (hx : rdV H.get q v = some x) : Go.AM.PureCall P f us x := by
 obtain ⟨h1, _, h2⟩ := fcall_sound ht hm hfn hex k f ms .nil 0 _ _ _ h
 refine ⟨h1, fun φ w F hF vals hl hv => ?_⟩
 refine (h2 w (fun _ => none) (fun _ => none) w ⟨Blw.refl _ _, fun _ _ h => (by cases h), fun _ _ _ _ _ h => (by cases h), fun _ _ _ _ _ _ _ _ _ h => (by cases h), hF.gw.mono fun _ _ => trivial⟩ (fun _ _ h => (by simp [Tr.get] at h)) (fun _ _ _ => rfl) vals (plainA_vrs hus hl hv)).mono fun e w' he => ?_
 obtain ⟨φ', g', u, rfl, hgr, hu⟩ := he
 exact ⟨u, rfl, hgr.core.below, rdV_sound hgr.core hgr.sub hF.new hx hu⟩
def fchk (tb : Tb) (fns : FuncId → Option FI) (ex : ExF) (lf k f q : Nat) (ms : List MV) (x : Go.AM.V) : Bool := match fcall tb fns ex lf k f ms .nil 0 with
 | some (v, H, _) => (match rdV H.get q v with | some y => eqV y x | none => false)
 | none => false
theorem fdata_of (ht : TbOk P tb) (hm : P.follows .mixedOrders = true) {fns : FuncId → Option FI} {ex : ExF} (hfn : FnsOk P fns) (hex : ExOk P ex) {k f q : Nat} {us : List Go.AM.V} {ms : List MV} {x : Go.AM.V} (hus : plainA us = some ms)
  (h : fchk tb fns ex lf k f q ms x = true) : Go.AM.PureCall P f us x := by
 unfold fchk at h
 split at h
 ·rename_i v H n he
  split at h
  ·rename_i y hy
   have := eqV_eq y x h
   subst this
   exact data_call ht hm hfn hex hus he hy
  ·cases h
 ·cases h
theorem exCut_ok {ρ : Go.Shelf.Ren} (L : Go.Proofs.Lays.n145 P ρ) (hg : Go.AM.gany (ρ.g 1) = true) (hfn : ∃ fn, P.funcs[ρ.f 145]? = some fn ∧ (fn.name == "runtime.NumGoroutine") = false ∧ fn.body.isNone = false) : ExOk P (exCut (ρ.f 145)) := by
 intro f args v hv
 unfold exCut at hv
 split at hv
 ·rename_i s sep hb
  split at hv
  ·rename_i hlen
   cases hv
   have hb := Nat.eq_of_beq_eq_true hb
   have hlen := Nat.le_of_ble_eq_true hlen
   subst hb
   refine ⟨hfn, fun φ w hF vals hvals => ?_⟩
   obtain ⟨m, hm⟩ := (hF.gw.any _ hg).2
   simp only [vrs, vr] at hvals
   obtain ⟨_, _, rfl, rfl, _, _, rfl, rfl, rfl⟩ := hvals
   have hs : (⟨s.toArray⟩ : ByteArray).size < 4294967281 := by simp [ByteArray.size]; omega
   refine (Go.Proofs.Any.strings_Cut L ⟨s.toArray⟩ ⟨sep.toArray⟩ m w hs hm).mono fun e w' ⟨he, n, hw⟩ => ⟨_, he, ?_, ?_⟩
   ·subst hw
    exact ⟨⟨rfl, rfl, rfl, Nat.le_refl _, fun _ _ => rfl⟩, Nat.le_add_right _ _⟩
   ·simp [vr, vrs]
  ·cases hv
 ·cases hv
end
end Go.MX
