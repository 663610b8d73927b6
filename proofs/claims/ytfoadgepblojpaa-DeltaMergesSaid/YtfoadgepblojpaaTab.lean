/-
  The table of the types of this seat, made by program (gen_tab.py), and that it holds.
-/
import Derived.Test.YtfoadgepblojpaaRows
import Derived.Test.YtfoadgepblojpaaAmO
namespace Go.Proofs.Ytfoadgepblojpaa
open Go.AM Go.Proofs

def ti2 : TI := { size := 1, bytes := 8, zu := .one (.d (.int .i64 0)), zv := .int .i64 0, desc := .int .i64, offs := [] }
theorem tf2 : TabFact Try.prog 2 ti2 := ⟨by kernel_rfl, by kernel_rfl, (fun φ w F => by simp [ti2, usim, csim, rep]), rfl, (fun fs h => by cases h), (fun fs h => by cases h)⟩
def ti3 : TI := { size := 1, bytes := 8, zu := .one (.d (.int .i64 0)), zv := .int .i64 0, desc := .int .i64, offs := [] }
theorem tf3 : TabFact Try.prog 3 ti3 := ⟨by kernel_rfl, by kernel_rfl, (fun φ w F => by simp [ti3, usim, csim, rep]), rfl, (fun fs h => by cases h), (fun fs h => by cases h)⟩
def ti4 : TI := { size := 1, bytes := 1, zu := .one (.d (.bool false)), zv := .bool false, desc := .bool, offs := [] }
theorem tf4 : TabFact Try.prog 4 ti4 := ⟨by kernel_rfl, by kernel_rfl, (fun φ w F => by simp [ti4, usim, csim, rep]), rfl, (fun fs h => by cases h), (fun fs h => by cases h)⟩
def ti5 : TI := { size := 1, bytes := 1, zu := .one (.d (.int .u8 0)), zv := .int .u8 0, desc := .int .u8, offs := [] }
theorem tf5 : TabFact Try.prog 5 ti5 := ⟨by kernel_rfl, by kernel_rfl, (fun φ w F => by simp [ti5, usim, csim, rep]), rfl, (fun fs h => by cases h), (fun fs h => by cases h)⟩
def ti9 : TI := { size := 1, bytes := 16, zu := .one (.d (.str ⟨#[]⟩)), zv := .string ⟨#[]⟩, desc := .string, offs := [] }
theorem tf9 : TabFact Try.prog 9 ti9 := ⟨by kernel_rfl, by kernel_rfl, (fun φ w F => by simp [ti9, usim, csim, rep]), rfl, (fun fs h => by cases h), (fun fs h => by cases h)⟩
def ti12 : TI := { size := 1, bytes := 8, zu := .one (.d (.int .u64 0)), zv := .int .u64 0, desc := .int .u64, offs := [] }
theorem tf12 : TabFact Try.prog 12 ti12 := ⟨by kernel_rfl, by kernel_rfl, (fun φ w F => by simp [ti12, usim, csim, rep]), rfl, (fun fs h => by cases h), (fun fs h => by cases h)⟩
def ti21 : TI := { size := 1, bytes := 4, zu := .one (.d (.int .i32 0)), zv := .int .i32 0, desc := .int .i32, offs := [] }
theorem tf21 : TabFact Try.prog 21 ti21 := ⟨by kernel_rfl, by kernel_rfl, (fun φ w F => by simp [ti21, usim, csim, rep]), rfl, (fun fs h => by cases h), (fun fs h => by cases h)⟩
def ti22 : TI := { size := 1, bytes := 24, zu := .one (.d .nil), zv := .slice none 0 0, desc := .slice 49, offs := [] }
theorem tf22 : TabFact Try.prog 22 ti22 := ⟨by kernel_rfl, by kernel_rfl, (fun φ w F => by simp [ti22, usim, csim, rep]), rfl, (fun fs h => by cases h), (fun fs h => by cases h)⟩
def ti23 : TI := { size := 1, bytes := 24, zu := .one (.d .nil), zv := .slice none 0 0, desc := .slice 47, offs := [] }
theorem tf23 : TabFact Try.prog 23 ti23 := ⟨by kernel_rfl, by kernel_rfl, (fun φ w F => by simp [ti23, usim, csim, rep]), rfl, (fun fs h => by cases h), (fun fs h => by cases h)⟩
def ti24 : TI := { size := 1, bytes := 24, zu := .one (.d .nil), zv := .slice none 0 0, desc := .slice 47, offs := [] }
theorem tf24 : TabFact Try.prog 24 ti24 := ⟨by kernel_rfl, by kernel_rfl, (fun φ w F => by simp [ti24, usim, csim, rep]), rfl, (fun fs h => by cases h), (fun fs h => by cases h)⟩
def ti27 : TI := { size := 1, bytes := 8, zu := .one (.d (.int .i64 0)), zv := .int .i64 0, desc := .int .i64, offs := [] }
theorem tf27 : TabFact Try.prog 27 ti27 := ⟨by kernel_rfl, by kernel_rfl, (fun φ w F => by simp [ti27, usim, csim, rep]), rfl, (fun fs h => by cases h), (fun fs h => by cases h)⟩
def ti39 : TI := { size := 2, bytes := 16, zu := .agg [.d (.int .i64 0), .d (.int .i64 0)], zv := .agg #[.int .i64 0, .int .i64 0], desc := .struct #[⟨"X", 3, 0, false, "", "", 0⟩, ⟨"Y", 3, 1, false, "", "", 8⟩], offs := [(0, 1), (1, 1)] }
theorem tf39 : TabFact Try.prog 39 ti39 := ⟨by kernel_rfl, by kernel_rfl, (fun φ w F => ⟨_, rfl, by simp only [csims]; exact ⟨_, _, rfl, (by simp [csim, rep]), _, _, rfl, (by simp [csim, rep]), rfl⟩⟩), rfl, (fun fs h => by cases h; kernel_rfl), (fun fs h => by cases h; kernel_rfl)⟩
def ti40 : TI := { size := 2, bytes := 16, zu := .agg [.d (.int .i64 0), .d (.int .i64 0)], zv := .agg #[.int .i64 0, .int .i64 0], desc := .struct #[⟨"X", 3, 0, false, "", "", 0⟩, ⟨"Y", 3, 1, false, "", "", 8⟩], offs := [(0, 1), (1, 1)] }
theorem tf40 : TabFact Try.prog 40 ti40 := ⟨by kernel_rfl, by kernel_rfl, (fun φ w F => ⟨_, rfl, by simp only [csims]; exact ⟨_, _, rfl, (by simp [csim, rep]), _, _, rfl, (by simp [csim, rep]), rfl⟩⟩), rfl, (fun fs h => by cases h; kernel_rfl), (fun fs h => by cases h; kernel_rfl)⟩
def ti44 : TI := { size := 3, bytes := 72, zu := .agg [.d .nil, .d .nil, .d .nil], zv := .agg #[.slice none 0 0, .slice none 0 0, .slice none 0 0], desc := .array 3 24, offs := [] }
theorem tf44 : TabFact Try.prog 44 ti44 := ⟨by kernel_rfl, by kernel_rfl, (fun φ w F => ⟨_, rfl, by simp only [csims]; exact ⟨_, _, rfl, (by simp [csim, rep]), _, _, rfl, (by simp [csim, rep]), _, _, rfl, (by simp [csim, rep]), rfl⟩⟩), rfl, (fun fs h => by cases h), (fun fs h => by cases h)⟩
def ti46 : TI := { size := 3, bytes := 24, zu := .agg [.d (.int .i64 0), .d (.int .i64 0), .d (.int .i64 0)], zv := .agg #[.int .i64 0, .int .i64 0, .int .i64 0], desc := .struct #[⟨"X", 3, 0, false, "", "", 0⟩, ⟨"Y", 3, 1, false, "", "", 8⟩, ⟨"S", 3, 2, false, "", "", 16⟩], offs := [(0, 1), (1, 1), (2, 1)] }
theorem tf46 : TabFact Try.prog 46 ti46 := ⟨by kernel_rfl, by kernel_rfl, (fun φ w F => ⟨_, rfl, by simp only [csims]; exact ⟨_, _, rfl, (by simp [csim, rep]), _, _, rfl, (by simp [csim, rep]), _, _, rfl, (by simp [csim, rep]), rfl⟩⟩), rfl, (fun fs h => by cases h; kernel_rfl), (fun fs h => by cases h; kernel_rfl)⟩
def ti47 : TI := { size := 3, bytes := 24, zu := .agg [.d (.int .i64 0), .d (.int .i64 0), .d (.int .i64 0)], zv := .agg #[.int .i64 0, .int .i64 0, .int .i64 0], desc := .struct #[⟨"X", 3, 0, false, "", "", 0⟩, ⟨"Y", 3, 1, false, "", "", 8⟩, ⟨"S", 3, 2, false, "", "", 16⟩], offs := [(0, 1), (1, 1), (2, 1)] }
theorem tf47 : TabFact Try.prog 47 ti47 := ⟨by kernel_rfl, by kernel_rfl, (fun φ w F => ⟨_, rfl, by simp only [csims]; exact ⟨_, _, rfl, (by simp [csim, rep]), _, _, rfl, (by simp [csim, rep]), _, _, rfl, (by simp [csim, rep]), rfl⟩⟩), rfl, (fun fs h => by cases h; kernel_rfl), (fun fs h => by cases h; kernel_rfl)⟩
def ti48 : TI := { size := 4, bytes := 32, zu := .agg [.d (.int .i64 0), .d (.int .i64 0), .d (.int .i64 0), .d (.int .i64 0)], zv := .agg #[.int .i64 0, .int .i64 0, .int .i64 0, .int .i64 0], desc := .struct #[⟨"X", 3, 0, false, "", "", 0⟩, ⟨"Y", 3, 1, false, "", "", 8⟩, ⟨"From", 3, 2, false, "", "", 16⟩, ⟨"To", 3, 3, false, "", "", 24⟩], offs := [(0, 1), (1, 1), (2, 1), (3, 1)] }
theorem tf48 : TabFact Try.prog 48 ti48 := ⟨by kernel_rfl, by kernel_rfl, (fun φ w F => ⟨_, rfl, by simp only [csims]; exact ⟨_, _, rfl, (by simp [csim, rep]), _, _, rfl, (by simp [csim, rep]), _, _, rfl, (by simp [csim, rep]), _, _, rfl, (by simp [csim, rep]), rfl⟩⟩), rfl, (fun fs h => by cases h; kernel_rfl), (fun fs h => by cases h; kernel_rfl)⟩
def ti49 : TI := { size := 4, bytes := 32, zu := .agg [.d (.int .i64 0), .d (.int .i64 0), .d (.int .i64 0), .d (.int .i64 0)], zv := .agg #[.int .i64 0, .int .i64 0, .int .i64 0, .int .i64 0], desc := .struct #[⟨"X", 3, 0, false, "", "", 0⟩, ⟨"Y", 3, 1, false, "", "", 8⟩, ⟨"From", 3, 2, false, "", "", 16⟩, ⟨"To", 3, 3, false, "", "", 24⟩], offs := [(0, 1), (1, 1), (2, 1), (3, 1)] }
theorem tf49 : TabFact Try.prog 49 ti49 := ⟨by kernel_rfl, by kernel_rfl, (fun φ w F => ⟨_, rfl, by simp only [csims]; exact ⟨_, _, rfl, (by simp [csim, rep]), _, _, rfl, (by simp [csim, rep]), _, _, rfl, (by simp [csim, rep]), _, _, rfl, (by simp [csim, rep]), rfl⟩⟩), rfl, (fun fs h => by cases h; kernel_rfl), (fun fs h => by cases h; kernel_rfl)⟩
def ti50 : TI := { size := 1, bytes := 8, zu := .one (.nilmap), zv := .map none, desc := .map 40 3, offs := [] }
theorem tf50 : TabFact Try.prog 50 ti50 := ⟨by kernel_rfl, by kernel_rfl, (fun φ w F => by simp [ti50, usim, csim]), rfl, (fun fs h => by cases h), (fun fs h => by cases h)⟩
def ti63 : TI := { size := 1, bytes := 8, zu := .one (.nilmap), zv := .map none, desc := .map 40 49, offs := [] }
theorem tf63 : TabFact Try.prog 63 ti63 := ⟨by kernel_rfl, by kernel_rfl, (fun φ w F => by simp [ti63, usim, csim]), rfl, (fun fs h => by cases h), (fun fs h => by cases h)⟩
def ti73 : TI := { size := 1, bytes := 8, zu := .one (.d (.int .u64 0)), zv := .int .u64 0, desc := .int .u64, offs := [] }
theorem tf73 : TabFact Try.prog 73 ti73 := ⟨by kernel_rfl, by kernel_rfl, (fun φ w F => by simp [ti73, usim, csim, rep]), rfl, (fun fs h => by cases h), (fun fs h => by cases h)⟩
def ti78 : TI := { size := 1, bytes := 8, zu := .one (.d (.int .i64 0)), zv := .int .i64 0, desc := .int .i64, offs := [] }
theorem tf78 : TabFact Try.prog 78 ti78 := ⟨by kernel_rfl, by kernel_rfl, (fun φ w F => by simp [ti78, usim, csim, rep]), rfl, (fun fs h => by cases h), (fun fs h => by cases h)⟩
def ti86 : TI := { size := 1, bytes := 4, zu := .one (.d (.int .u32 0)), zv := .int .u32 0, desc := .int .u32, offs := [] }
theorem tf86 : TabFact Try.prog 86 ti86 := ⟨by kernel_rfl, by kernel_rfl, (fun φ w F => by simp [ti86, usim, csim, rep]), rfl, (fun fs h => by cases h), (fun fs h => by cases h)⟩
def ti88 : TI := { size := 1, bytes := 8, zu := .one (.d (.int .u64 0)), zv := .int .u64 0, desc := .int .u64, offs := [] }
theorem tf88 : TabFact Try.prog 88 ti88 := ⟨by kernel_rfl, by kernel_rfl, (fun φ w F => by simp [ti88, usim, csim, rep]), rfl, (fun fs h => by cases h), (fun fs h => by cases h)⟩
def ti91 : TI := { size := 1, bytes := 8, zu := .one (.d (.int .u64 0)), zv := .int .u64 0, desc := .int .u64, offs := [] }
theorem tf91 : TabFact Try.prog 91 ti91 := ⟨by kernel_rfl, by kernel_rfl, (fun φ w F => by simp [ti91, usim, csim, rep]), rfl, (fun fs h => by cases h), (fun fs h => by cases h)⟩
def ti97 : TI := { size := 1, bytes := 24, zu := .one (.d .nil), zv := .slice none 0 0, desc := .slice 3, offs := [] }
theorem tf97 : TabFact Try.prog 97 ti97 := ⟨by kernel_rfl, by kernel_rfl, (fun φ w F => by simp [ti97, usim, csim, rep]), rfl, (fun fs h => by cases h), (fun fs h => by cases h)⟩
def ty : Tab := fun t => match t with
  | 2 => some ti2
  | 3 => some ti3
  | 4 => some ti4
  | 5 => some ti5
  | 9 => some ti9
  | 12 => some ti12
  | 21 => some ti21
  | 22 => some ti22
  | 23 => some ti23
  | 24 => some ti24
  | 27 => some ti27
  | 39 => some ti39
  | 40 => some ti40
  | 44 => some ti44
  | 46 => some ti46
  | 47 => some ti47
  | 48 => some ti48
  | 49 => some ti49
  | 50 => some ti50
  | 63 => some ti63
  | 73 => some ti73
  | 78 => some ti78
  | 86 => some ti86
  | 88 => some ti88
  | 91 => some ti91
  | 97 => some ti97
  | _ => none
theorem ty_ok : TabOk Try.prog ty := by
  intro t ti h
  unfold ty at h
  split at h
  · cases h; exact tf2
  · cases h; exact tf3
  · cases h; exact tf4
  · cases h; exact tf5
  · cases h; exact tf9
  · cases h; exact tf12
  · cases h; exact tf21
  · cases h; exact tf22
  · cases h; exact tf23
  · cases h; exact tf24
  · cases h; exact tf27
  · cases h; exact tf39
  · cases h; exact tf40
  · cases h; exact tf44
  · cases h; exact tf46
  · cases h; exact tf47
  · cases h; exact tf48
  · cases h; exact tf49
  · cases h; exact tf50
  · cases h; exact tf63
  · cases h; exact tf73
  · cases h; exact tf78
  · cases h; exact tf86
  · cases h; exact tf88
  · cases h; exact tf91
  · cases h; exact tf97
  · cases h
def eqn : TypeId → Option Nat := fun t => match t with
  | 39 => some 2
  | 40 => some 2
  | 46 => some 3
  | 47 => some 3
  | 48 => some 4
  | 49 => some 4
  | _ => none
theorem ef39 : intFields Try.prog 39 2 := by
  refine ⟨#[⟨"X", 3, 0, false, "", "", 0⟩, ⟨"Y", 3, 1, false, "", "", 8⟩], by kernel_rfl, by kernel_rfl, by kernel_rfl, rfl, fun i f h => ?_⟩
  match i, h with
  | 0, h => cases h; exact ⟨by decide, rfl, .i64, by kernel_rfl⟩
  | 1, h => cases h; exact ⟨by decide, rfl, .i64, by kernel_rfl⟩
  | i + 2, h => simp at h
theorem ef40 : intFields Try.prog 40 2 := by
  refine ⟨#[⟨"X", 3, 0, false, "", "", 0⟩, ⟨"Y", 3, 1, false, "", "", 8⟩], by kernel_rfl, by kernel_rfl, by kernel_rfl, rfl, fun i f h => ?_⟩
  match i, h with
  | 0, h => cases h; exact ⟨by decide, rfl, .i64, by kernel_rfl⟩
  | 1, h => cases h; exact ⟨by decide, rfl, .i64, by kernel_rfl⟩
  | i + 2, h => simp at h
theorem ef46 : intFields Try.prog 46 3 := by
  refine ⟨#[⟨"X", 3, 0, false, "", "", 0⟩, ⟨"Y", 3, 1, false, "", "", 8⟩, ⟨"S", 3, 2, false, "", "", 16⟩], by kernel_rfl, by kernel_rfl, by kernel_rfl, rfl, fun i f h => ?_⟩
  match i, h with
  | 0, h => cases h; exact ⟨by decide, rfl, .i64, by kernel_rfl⟩
  | 1, h => cases h; exact ⟨by decide, rfl, .i64, by kernel_rfl⟩
  | 2, h => cases h; exact ⟨by decide, rfl, .i64, by kernel_rfl⟩
  | i + 3, h => simp at h
theorem ef47 : intFields Try.prog 47 3 := by
  refine ⟨#[⟨"X", 3, 0, false, "", "", 0⟩, ⟨"Y", 3, 1, false, "", "", 8⟩, ⟨"S", 3, 2, false, "", "", 16⟩], by kernel_rfl, by kernel_rfl, by kernel_rfl, rfl, fun i f h => ?_⟩
  match i, h with
  | 0, h => cases h; exact ⟨by decide, rfl, .i64, by kernel_rfl⟩
  | 1, h => cases h; exact ⟨by decide, rfl, .i64, by kernel_rfl⟩
  | 2, h => cases h; exact ⟨by decide, rfl, .i64, by kernel_rfl⟩
  | i + 3, h => simp at h
theorem ef48 : intFields Try.prog 48 4 := by
  refine ⟨#[⟨"X", 3, 0, false, "", "", 0⟩, ⟨"Y", 3, 1, false, "", "", 8⟩, ⟨"From", 3, 2, false, "", "", 16⟩, ⟨"To", 3, 3, false, "", "", 24⟩], by kernel_rfl, by kernel_rfl, by kernel_rfl, rfl, fun i f h => ?_⟩
  match i, h with
  | 0, h => cases h; exact ⟨by decide, rfl, .i64, by kernel_rfl⟩
  | 1, h => cases h; exact ⟨by decide, rfl, .i64, by kernel_rfl⟩
  | 2, h => cases h; exact ⟨by decide, rfl, .i64, by kernel_rfl⟩
  | 3, h => cases h; exact ⟨by decide, rfl, .i64, by kernel_rfl⟩
  | i + 4, h => simp at h
theorem ef49 : intFields Try.prog 49 4 := by
  refine ⟨#[⟨"X", 3, 0, false, "", "", 0⟩, ⟨"Y", 3, 1, false, "", "", 8⟩, ⟨"From", 3, 2, false, "", "", 16⟩, ⟨"To", 3, 3, false, "", "", 24⟩], by kernel_rfl, by kernel_rfl, by kernel_rfl, rfl, fun i f h => ?_⟩
  match i, h with
  | 0, h => cases h; exact ⟨by decide, rfl, .i64, by kernel_rfl⟩
  | 1, h => cases h; exact ⟨by decide, rfl, .i64, by kernel_rfl⟩
  | 2, h => cases h; exact ⟨by decide, rfl, .i64, by kernel_rfl⟩
  | 3, h => cases h; exact ⟨by decide, rfl, .i64, by kernel_rfl⟩
  | i + 4, h => simp at h
theorem eqn_ok : ∀ t n, eqn t = some n → intFields Try.prog t n := by
  intro t n h
  unfold eqn at h
  split at h
  · cases h; exact ef39
  · cases h; exact ef40
  · cases h; exact ef46
  · cases h; exact ef47
  · cases h; exact ef48
  · cases h; exact ef49
  · cases h
def key : TypeId → Option KK := fun t => match t with
  | 40 => some (.ints 2)
  | _ => none
theorem kf40 : Maps.Keyed Try.prog 40 ∧ ∀ k : Key, k.fits (.ints 2) = true → ∃ l, keyOf Try.prog 40 k.val = some l :=
  key_ints (fs := #[⟨"X", 3, 0, false, "", "", 0⟩, ⟨"Y", 3, 1, false, "", "", 8⟩]) (by kernel_rfl) (by kernel_rfl) (by kernel_rfl) (by kernel_rfl) (by kernel_rfl) (by kernel_rfl) (by
    intro i f h
    match i, h with
    | 0, h => cases h; exact ⟨by decide, rfl, by kernel_rfl, by kernel_rfl⟩
    | 1, h => cases h; exact ⟨by decide, rfl, by kernel_rfl, by kernel_rfl⟩
    | i + 2, h => simp at h)
theorem key_ok : ∀ t kk, key t = some kk → Maps.Keyed Try.prog t ∧ ∀ k : Key, k.fits kk = true → ∃ l, keyOf Try.prog t k.val = some l := by
  intro t kk h
  unfold key at h
  split at h
  · cases h; exact kf40
  · cases h
def tb : Tb := { ty := ty, eqn := eqn, key := key }
theorem tb_ok : TbOk Try.prog tb := ⟨ty_ok, eqn_ok, key_ok, (fun _ _ _ h => by cases h), (fun _ _ _ _ _ _ _ _ _ h => by cases h)⟩
theorem mixed : Try.prog.follows .mixedOrders = true := by kernel_rfl
end Go.Proofs.Ytfoadgepblojpaa
