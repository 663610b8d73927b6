/-
  The table of the types of this seat, made by program (gen_tab.py), and that it holds.
-/
import Derived.Test.YtgfhhbjnjccomaaGreatDoorRows
import Derived.Test.YtgfhhbjnjccomaaGreatDoorAmO
namespace Go.Proofs.YtgfhhbjnjccomaaGreatDoor
open Go.AM Go.Proofs

def ti2 : TI := { size := 1, bytes := 8, zu := .one (.d (.int .i64 0)), zv := .int .i64 0, desc := .int .i64, offs := [] }
theorem tf2 : TabFact Tryz.prog 2 ti2 := ⟨by kernel_rfl, by kernel_rfl, (fun φ w F => csim_const (φ := φ) (w := w) (F := F) (.int .i64 0)), rfl, (fun fs h => by cases h), (fun fs h => by cases h)⟩
def ti3 : TI := { size := 1, bytes := 8, zu := .one (.d (.int .i64 0)), zv := .int .i64 0, desc := .int .i64, offs := [] }
theorem tf3 : TabFact Tryz.prog 3 ti3 := ⟨by kernel_rfl, by kernel_rfl, (fun φ w F => csim_const (φ := φ) (w := w) (F := F) (.int .i64 0)), rfl, (fun fs h => by cases h), (fun fs h => by cases h)⟩
def ti4 : TI := { size := 1, bytes := 1, zu := .one (.d (.bool false)), zv := .bool false, desc := .bool, offs := [] }
theorem tf4 : TabFact Tryz.prog 4 ti4 := ⟨by kernel_rfl, by kernel_rfl, (fun φ w F => csim_const (φ := φ) (w := w) (F := F) (.bool false)), rfl, (fun fs h => by cases h), (fun fs h => by cases h)⟩
def ti5 : TI := { size := 1, bytes := 1, zu := .one (.d (.int .u8 0)), zv := .int .u8 0, desc := .int .u8, offs := [] }
theorem tf5 : TabFact Tryz.prog 5 ti5 := ⟨by kernel_rfl, by kernel_rfl, (fun φ w F => csim_const (φ := φ) (w := w) (F := F) (.int .u8 0)), rfl, (fun fs h => by cases h), (fun fs h => by cases h)⟩
def ti9 : TI := { size := 1, bytes := 16, zu := .one (.d (.str ⟨#[]⟩)), zv := .string ⟨#[]⟩, desc := .string, offs := [] }
theorem tf9 : TabFact Tryz.prog 9 ti9 := ⟨by kernel_rfl, by kernel_rfl, (fun φ w F => csim_const (φ := φ) (w := w) (F := F) (.string ⟨#[]⟩)), rfl, (fun fs h => by cases h), (fun fs h => by cases h)⟩
def ti22 : TI := { size := 1, bytes := 24, zu := .one (.d .nil), zv := .slice none 0 0, desc := .slice 61, offs := [] }
theorem tf22 : TabFact Tryz.prog 22 ti22 := ⟨by kernel_rfl, by kernel_rfl, (fun φ w F => csim_const (φ := φ) (w := w) (F := F) (.slice none 0 0)), rfl, (fun fs h => by cases h), (fun fs h => by cases h)⟩
def ti23 : TI := { size := 1, bytes := 24, zu := .one (.d .nil), zv := .slice none 0 0, desc := .slice 65, offs := [] }
theorem tf23 : TabFact Tryz.prog 23 ti23 := ⟨by kernel_rfl, by kernel_rfl, (fun φ w F => csim_const (φ := φ) (w := w) (F := F) (.slice none 0 0)), rfl, (fun fs h => by cases h), (fun fs h => by cases h)⟩
def ti25 : TI := { size := 3, bytes := 56, zu := .agg [.d (.int .i64 0), .d .nil, .d .nil], zv := .agg #[.int .i64 0, .slice none 0 0, .slice none 0 0], desc := .struct #[⟨"States", 3, 0, false, "", "", 0⟩, ⟨"Hood", 22, 1, false, "", "", 8⟩, ⟨"Nodes", 23, 2, false, "", "", 32⟩], offs := [(0, 1), (1, 1), (2, 1)] }
theorem tf25 : TabFact Tryz.prog 25 ti25 := ⟨by kernel_rfl, by kernel_rfl, (fun φ w F => ⟨#[.int .i64 0, .slice none 0 0, .slice none 0 0], rfl, csims_const (φ := φ) (w := w) (F := F) [.int .i64 0, .slice none 0 0, .slice none 0 0]⟩), rfl, (fun fs h => by cases h; kernel_rfl), (fun fs h => by cases h; kernel_rfl)⟩
def ti26 : TI := { size := 1, bytes := 24, zu := .one (.d .nil), zv := .slice none 0 0, desc := .slice 3, offs := [] }
theorem tf26 : TabFact Tryz.prog 26 ti26 := ⟨by kernel_rfl, by kernel_rfl, (fun φ w F => csim_const (φ := φ) (w := w) (F := F) (.slice none 0 0)), rfl, (fun fs h => by cases h), (fun fs h => by cases h)⟩
def ti28 : TI := { size := 6, bytes := 64, zu := .agg [.d (.int .i64 0), .d (.int .i64 0), .d (.int .i64 0), .d (.int .i64 0), .d (.int .i64 0), .d .nil], zv := .agg #[.int .i64 0, .int .i64 0, .int .i64 0, .int .i64 0, .int .i64 0, .slice none 0 0], desc := .struct #[⟨"W", 3, 0, false, "", "", 0⟩, ⟨"H", 3, 1, false, "", "", 8⟩, ⟨"Gens", 3, 2, false, "", "", 16⟩, ⟨"DX", 3, 3, false, "", "", 24⟩, ⟨"DY", 3, 4, false, "", "", 32⟩, ⟨"Syms", 26, 5, false, "", "", 40⟩], offs := [(0, 1), (1, 1), (2, 1), (3, 1), (4, 1), (5, 1)] }
theorem tf28 : TabFact Tryz.prog 28 ti28 := ⟨by kernel_rfl, by kernel_rfl, (fun φ w F => ⟨#[.int .i64 0, .int .i64 0, .int .i64 0, .int .i64 0, .int .i64 0, .slice none 0 0], rfl, csims_const (φ := φ) (w := w) (F := F) [.int .i64 0, .int .i64 0, .int .i64 0, .int .i64 0, .int .i64 0, .slice none 0 0]⟩), rfl, (fun fs h => by cases h; kernel_rfl), (fun fs h => by cases h; kernel_rfl)⟩
def ti31 : TI := { size := 1, bytes := 24, zu := .one (.d .nil), zv := .slice none 0 0, desc := .slice 26, offs := [] }
theorem tf31 : TabFact Tryz.prog 31 ti31 := ⟨by kernel_rfl, by kernel_rfl, (fun φ w F => csim_const (φ := φ) (w := w) (F := F) (.slice none 0 0)), rfl, (fun fs h => by cases h), (fun fs h => by cases h)⟩
def ti33 : TI := { size := 2, bytes := 32, zu := .agg [.d (.int .i64 0), .d .nil], zv := .agg #[.int .i64 0, .slice none 0 0], desc := .struct #[⟨"Vars", 3, 0, false, "", "", 0⟩, ⟨"Clauses", 31, 1, false, "", "", 8⟩], offs := [(0, 1), (1, 1)] }
theorem tf33 : TabFact Tryz.prog 33 ti33 := ⟨by kernel_rfl, by kernel_rfl, (fun φ w F => ⟨#[.int .i64 0, .slice none 0 0], rfl, csims_const (φ := φ) (w := w) (F := F) [.int .i64 0, .slice none 0 0]⟩), rfl, (fun fs h => by cases h; kernel_rfl), (fun fs h => by cases h; kernel_rfl)⟩
def ti34 : TI := { size := 1, bytes := 8, zu := .one (.d (.int .i64 0)), zv := .int .i64 0, desc := .int .i64, offs := [] }
theorem tf34 : TabFact Tryz.prog 34 ti34 := ⟨by kernel_rfl, by kernel_rfl, (fun φ w F => csim_const (φ := φ) (w := w) (F := F) (.int .i64 0)), rfl, (fun fs h => by cases h), (fun fs h => by cases h)⟩
def ti39 : TI := { size := 4, bytes := 48, zu := .agg [.d (.int .i64 0), .d (.int .i64 0), .d (.int .i64 0), .d .nil], zv := .agg #[.int .i64 0, .int .i64 0, .int .i64 0, .slice none 0 0], desc := .struct #[⟨"W", 3, 0, false, "", "", 0⟩, ⟨"H", 3, 1, false, "", "", 8⟩, ⟨"Edge", 3, 2, false, "", "", 16⟩, ⟨"Cells", 26, 3, false, "", "", 24⟩], offs := [(0, 1), (1, 1), (2, 1), (3, 1)] }
theorem tf39 : TabFact Tryz.prog 39 ti39 := ⟨by kernel_rfl, by kernel_rfl, (fun φ w F => ⟨#[.int .i64 0, .int .i64 0, .int .i64 0, .slice none 0 0], rfl, csims_const (φ := φ) (w := w) (F := F) [.int .i64 0, .int .i64 0, .int .i64 0, .slice none 0 0]⟩), rfl, (fun fs h => by cases h; kernel_rfl), (fun fs h => by cases h; kernel_rfl)⟩
def ti42 : TI := { size := 1, bytes := 24, zu := .one (.d .nil), zv := .slice none 0 0, desc := .slice 4, offs := [] }
theorem tf42 : TabFact Tryz.prog 42 ti42 := ⟨by kernel_rfl, by kernel_rfl, (fun φ w F => csim_const (φ := φ) (w := w) (F := F) (.slice none 0 0)), rfl, (fun fs h => by cases h), (fun fs h => by cases h)⟩
def ti43 : TI := { size := 1, bytes := 24, zu := .one (.d .nil), zv := .slice none 0 0, desc := .slice 68, offs := [] }
theorem tf43 : TabFact Tryz.prog 43 ti43 := ⟨by kernel_rfl, by kernel_rfl, (fun φ w F => csim_const (φ := φ) (w := w) (F := F) (.slice none 0 0)), rfl, (fun fs h => by cases h), (fun fs h => by cases h)⟩
def ti44 : TI := { size := 1, bytes := 24, zu := .one (.d .nil), zv := .slice none 0 0, desc := .slice 68, offs := [] }
theorem tf44 : TabFact Tryz.prog 44 ti44 := ⟨by kernel_rfl, by kernel_rfl, (fun φ w F => csim_const (φ := φ) (w := w) (F := F) (.slice none 0 0)), rfl, (fun fs h => by cases h), (fun fs h => by cases h)⟩
def ti56 : TI := { size := 16, bytes := 16, zu := .agg [.d (.int .u8 0), .d (.int .u8 0), .d (.int .u8 0), .d (.int .u8 0), .d (.int .u8 0), .d (.int .u8 0), .d (.int .u8 0), .d (.int .u8 0), .d (.int .u8 0), .d (.int .u8 0), .d (.int .u8 0), .d (.int .u8 0), .d (.int .u8 0), .d (.int .u8 0), .d (.int .u8 0), .d (.int .u8 0)], zv := .agg #[.int .u8 0, .int .u8 0, .int .u8 0, .int .u8 0, .int .u8 0, .int .u8 0, .int .u8 0, .int .u8 0, .int .u8 0, .int .u8 0, .int .u8 0, .int .u8 0, .int .u8 0, .int .u8 0, .int .u8 0, .int .u8 0], desc := .array 16 5, offs := [] }
theorem tf56 : TabFact Tryz.prog 56 ti56 := ⟨by kernel_rfl, by kernel_rfl, (fun φ w F => ⟨#[.int .u8 0, .int .u8 0, .int .u8 0, .int .u8 0, .int .u8 0, .int .u8 0, .int .u8 0, .int .u8 0, .int .u8 0, .int .u8 0, .int .u8 0, .int .u8 0, .int .u8 0, .int .u8 0, .int .u8 0, .int .u8 0], rfl, csims_const (φ := φ) (w := w) (F := F) [.int .u8 0, .int .u8 0, .int .u8 0, .int .u8 0, .int .u8 0, .int .u8 0, .int .u8 0, .int .u8 0, .int .u8 0, .int .u8 0, .int .u8 0, .int .u8 0, .int .u8 0, .int .u8 0, .int .u8 0, .int .u8 0]⟩), rfl, (fun fs h => by cases h), (fun fs h => by cases h)⟩
def ti57 : TI := { size := 1, bytes := 8, zu := .one (.top), zv := .nilFunc, desc := .func #[3] #[3] false, offs := [] }
theorem tf57 : TabFact Tryz.prog 57 ti57 := ⟨by kernel_rfl, by kernel_rfl, (fun φ w F => csim_const (φ := φ) (w := w) (F := F) (.nilFunc)), rfl, (fun fs h => by cases h), (fun fs h => by cases h)⟩
def ti59 : TI := { size := 1, bytes := 8, zu := .one (.d (.int .u64 0)), zv := .int .u64 0, desc := .int .u64, offs := [] }
theorem tf59 : TabFact Tryz.prog 59 ti59 := ⟨by kernel_rfl, by kernel_rfl, (fun φ w F => csim_const (φ := φ) (w := w) (F := F) (.int .u64 0)), rfl, (fun fs h => by cases h), (fun fs h => by cases h)⟩
def ti61 : TI := { size := 2, bytes := 16, zu := .agg [.d (.int .i64 0), .d (.int .i64 0)], zv := .agg #[.int .i64 0, .int .i64 0], desc := .struct #[⟨"X", 3, 0, false, "", "", 0⟩, ⟨"Y", 3, 1, false, "", "", 8⟩], offs := [(0, 1), (1, 1)] }
theorem tf61 : TabFact Tryz.prog 61 ti61 := ⟨by kernel_rfl, by kernel_rfl, (fun φ w F => ⟨#[.int .i64 0, .int .i64 0], rfl, csims_const (φ := φ) (w := w) (F := F) [.int .i64 0, .int .i64 0]⟩), rfl, (fun fs h => by cases h; kernel_rfl), (fun fs h => by cases h; kernel_rfl)⟩
def ti65 : TI := { size := 2, bytes := 32, zu := .agg [.d (.int .i64 0), .d .nil], zv := .agg #[.int .i64 0, .slice none 0 0], desc := .struct #[⟨"Level", 3, 0, false, "", "", 0⟩, ⟨"Next", 26, 1, false, "", "", 8⟩], offs := [(0, 1), (1, 1)] }
theorem tf65 : TabFact Tryz.prog 65 ti65 := ⟨by kernel_rfl, by kernel_rfl, (fun φ w F => ⟨#[.int .i64 0, .slice none 0 0], rfl, csims_const (φ := φ) (w := w) (F := F) [.int .i64 0, .slice none 0 0]⟩), rfl, (fun fs h => by cases h; kernel_rfl), (fun fs h => by cases h; kernel_rfl)⟩
def ti68 : TI := { size := 3, bytes := 24, zu := .agg [.d (.int .i64 0), .d (.int .i64 0), .d (.int .i64 0)], zv := .agg #[.int .i64 0, .int .i64 0, .int .i64 0], desc := .struct #[⟨"X", 3, 0, false, "", "", 0⟩, ⟨"Y", 3, 1, false, "", "", 8⟩, ⟨"S", 3, 2, false, "", "", 16⟩], offs := [(0, 1), (1, 1), (2, 1)] }
theorem tf68 : TabFact Tryz.prog 68 ti68 := ⟨by kernel_rfl, by kernel_rfl, (fun φ w F => ⟨#[.int .i64 0, .int .i64 0, .int .i64 0], rfl, csims_const (φ := φ) (w := w) (F := F) [.int .i64 0, .int .i64 0, .int .i64 0]⟩), rfl, (fun fs h => by cases h; kernel_rfl), (fun fs h => by cases h; kernel_rfl)⟩
def ti70 : TI := { size := 1, bytes := 8, zu := .one (.top), zv := .pointer none, desc := .pointer 80, offs := [] }
theorem tf70 : TabFact Tryz.prog 70 ti70 := ⟨by kernel_rfl, by kernel_rfl, (fun φ w F => csim_const (φ := φ) (w := w) (F := F) (.pointer none)), rfl, (fun fs h => by cases h), (fun fs h => by cases h)⟩
def ti73 : TI := { size := 4, bytes := 32, zu := .agg [.d (.int .i64 0), .d (.int .i64 0), .d (.int .i64 0), .d (.int .i64 0)], zv := .agg #[.int .i64 0, .int .i64 0, .int .i64 0, .int .i64 0], desc := .struct #[⟨"X", 3, 0, false, "", "", 0⟩, ⟨"Y", 3, 1, false, "", "", 8⟩, ⟨"W", 3, 2, false, "", "", 16⟩, ⟨"H", 3, 3, false, "", "", 24⟩], offs := [(0, 1), (1, 1), (2, 1), (3, 1)] }
theorem tf73 : TabFact Tryz.prog 73 ti73 := ⟨by kernel_rfl, by kernel_rfl, (fun φ w F => ⟨#[.int .i64 0, .int .i64 0, .int .i64 0, .int .i64 0], rfl, csims_const (φ := φ) (w := w) (F := F) [.int .i64 0, .int .i64 0, .int .i64 0, .int .i64 0]⟩), rfl, (fun fs h => by cases h; kernel_rfl), (fun fs h => by cases h; kernel_rfl)⟩
def ti74 : TI := { size := 1, bytes := 24, zu := .one (.d .nil), zv := .slice none 0 0, desc := .slice 82, offs := [] }
theorem tf74 : TabFact Tryz.prog 74 ti74 := ⟨by kernel_rfl, by kernel_rfl, (fun φ w F => csim_const (φ := φ) (w := w) (F := F) (.slice none 0 0)), rfl, (fun fs h => by cases h), (fun fs h => by cases h)⟩
def ti76 : TI := { size := 5, bytes := 56, zu := .agg [.d (.int .i64 0), .d (.int .i64 0), .d (.int .i64 0), .d (.int .i64 0), .d .nil], zv := .agg #[.int .i64 0, .int .i64 0, .int .i64 0, .int .i64 0, .slice none 0 0], desc := .struct #[⟨"box", 73, 0, false, "", "cellular/unroll", 0⟩, ⟨"values", 74, 4, false, "", "cellular/unroll", 32⟩], offs := [(0, 4), (4, 1)] }
theorem tf76 : TabFact Tryz.prog 76 ti76 := ⟨by kernel_rfl, by kernel_rfl, (fun φ w F => ⟨#[.int .i64 0, .int .i64 0, .int .i64 0, .int .i64 0, .slice none 0 0], rfl, csims_const (φ := φ) (w := w) (F := F) [.int .i64 0, .int .i64 0, .int .i64 0, .int .i64 0, .slice none 0 0]⟩), rfl, (fun fs h => by cases h; kernel_rfl), (fun fs h => by cases h; kernel_rfl)⟩
def ti78 : TI := { size := 1, bytes := 8, zu := .one (.nilmap), zv := .map none, desc := .map 9 25, offs := [] }
theorem tf78 : TabFact Tryz.prog 78 ti78 := ⟨by kernel_rfl, by kernel_rfl, (fun φ w F => csim_const (φ := φ) (w := w) (F := F) (.map none)), rfl, (fun fs h => by cases h), (fun fs h => by cases h)⟩
def ti80 : TI := { size := 7, bytes := 104, zu := .agg [.d (.int .i64 0), .d .nil, .d (.int .i64 0), .d .nil, .d .nil, .d (.int .i64 0), .nilmap], zv := .agg #[.int .i64 0, .slice none 0 0, .int .i64 0, .slice none 0 0, .slice none 0 0, .int .i64 0, .map none], desc := .struct #[⟨"Formula", 33, 0, true, "", "", 0⟩, ⟨"rule", 25, 2, false, "", "cellular/unroll", 32⟩, ⟨"bits", 3, 5, false, "", "cellular/unroll", 88⟩, ⟨"trees", 78, 6, false, "", "cellular/unroll", 96⟩], offs := [(0, 2), (2, 3), (5, 1), (6, 1)] }
theorem tf80 : TabFact Tryz.prog 80 ti80 := ⟨by kernel_rfl, by kernel_rfl, (fun φ w F => ⟨#[.int .i64 0, .slice none 0 0, .int .i64 0, .slice none 0 0, .slice none 0 0, .int .i64 0, .map none], rfl, csims_const (φ := φ) (w := w) (F := F) [.int .i64 0, .slice none 0 0, .int .i64 0, .slice none 0 0, .slice none 0 0, .int .i64 0, .map none]⟩), rfl, (fun fs h => by cases h; kernel_rfl), (fun fs h => by cases h; kernel_rfl)⟩
def ti82 : TI := { size := 2, bytes := 32, zu := .agg [.d (.int .i64 0), .d .nil], zv := .agg #[.int .i64 0, .slice none 0 0], desc := .struct #[⟨"constant", 3, 0, false, "", "cellular/unroll", 0⟩, ⟨"vars", 26, 1, false, "", "cellular/unroll", 8⟩], offs := [(0, 1), (1, 1)] }
theorem tf82 : TabFact Tryz.prog 82 ti82 := ⟨by kernel_rfl, by kernel_rfl, (fun φ w F => ⟨#[.int .i64 0, .slice none 0 0], rfl, csims_const (φ := φ) (w := w) (F := F) [.int .i64 0, .slice none 0 0]⟩), rfl, (fun fs h => by cases h; kernel_rfl), (fun fs h => by cases h; kernel_rfl)⟩
def ti90 : TI := { size := 1, bytes := 24, zu := .one (.d .nil), zv := .slice none 0 0, desc := .slice 95, offs := [] }
theorem tf90 : TabFact Tryz.prog 90 ti90 := ⟨by kernel_rfl, by kernel_rfl, (fun φ w F => csim_const (φ := φ) (w := w) (F := F) (.slice none 0 0)), rfl, (fun fs h => by cases h), (fun fs h => by cases h)⟩
def ti95 : TI := { size := 2, bytes := 32, zu := .agg [.d (.int .i64 0), .d .nil], zv := .agg #[.int .i64 0, .slice none 0 0], desc := .struct #[⟨"State", 3, 0, false, "", "", 0⟩, ⟨"Vars", 26, 1, false, "", "", 8⟩], offs := [(0, 1), (1, 1)] }
theorem tf95 : TabFact Tryz.prog 95 ti95 := ⟨by kernel_rfl, by kernel_rfl, (fun φ w F => ⟨#[.int .i64 0, .slice none 0 0], rfl, csims_const (φ := φ) (w := w) (F := F) [.int .i64 0, .slice none 0 0]⟩), rfl, (fun fs h => by cases h; kernel_rfl), (fun fs h => by cases h; kernel_rfl)⟩
def ti97 : TI := { size := 5, bytes := 56, zu := .agg [.d (.int .i64 0), .d (.int .i64 0), .d (.int .i64 0), .d (.int .i64 0), .d .nil], zv := .agg #[.int .i64 0, .int .i64 0, .int .i64 0, .int .i64 0, .slice none 0 0], desc := .struct #[⟨"box", 73, 0, false, "", "cellular/cellularref45", 0⟩, ⟨"of", 90, 4, false, "", "cellular/cellularref45", 32⟩], offs := [(0, 4), (4, 1)] }
theorem tf97 : TabFact Tryz.prog 97 ti97 := ⟨by kernel_rfl, by kernel_rfl, (fun φ w F => ⟨#[.int .i64 0, .int .i64 0, .int .i64 0, .int .i64 0, .slice none 0 0], rfl, csims_const (φ := φ) (w := w) (F := F) [.int .i64 0, .int .i64 0, .int .i64 0, .int .i64 0, .slice none 0 0]⟩), rfl, (fun fs h => by cases h; kernel_rfl), (fun fs h => by cases h; kernel_rfl)⟩
def ti105 : TI := { size := 1, bytes := 8, zu := .one (.top), zv := .nilFunc, desc := .func #[3] #[4] false, offs := [] }
theorem tf105 : TabFact Tryz.prog 105 ti105 := ⟨by kernel_rfl, by kernel_rfl, (fun φ w F => csim_const (φ := φ) (w := w) (F := F) (.nilFunc)), rfl, (fun fs h => by cases h), (fun fs h => by cases h)⟩
def ti117 : TI := { size := 1, bytes := 8, zu := .one (.top), zv := .nilFunc, desc := .func #[68] #[4] false, offs := [] }
theorem tf117 : TabFact Tryz.prog 117 ti117 := ⟨by kernel_rfl, by kernel_rfl, (fun φ w F => csim_const (φ := φ) (w := w) (F := F) (.nilFunc)), rfl, (fun fs h => by cases h), (fun fs h => by cases h)⟩
def ti144 : TI := { size := 1, bytes := 8, zu := .one (.top), zv := .nilFunc, desc := .func #[68, 68] #[3] false, offs := [] }
theorem tf144 : TabFact Tryz.prog 144 ti144 := ⟨by kernel_rfl, by kernel_rfl, (fun φ w F => csim_const (φ := φ) (w := w) (F := F) (.nilFunc)), rfl, (fun fs h => by cases h), (fun fs h => by cases h)⟩
def ti148 : TI := { size := 1, bytes := 24, zu := .one (.d .nil), zv := .slice none 0 0, desc := .slice 44, offs := [] }
theorem tf148 : TabFact Tryz.prog 148 ti148 := ⟨by kernel_rfl, by kernel_rfl, (fun φ w F => csim_const (φ := φ) (w := w) (F := F) (.slice none 0 0)), rfl, (fun fs h => by cases h), (fun fs h => by cases h)⟩
def ti155 : TI := { size := 1, bytes := 8, zu := .one (.top), zv := .nilFunc, desc := .func #[3, 26] #[26] false, offs := [] }
theorem tf155 : TabFact Tryz.prog 155 ti155 := ⟨by kernel_rfl, by kernel_rfl, (fun φ w F => csim_const (φ := φ) (w := w) (F := F) (.nilFunc)), rfl, (fun fs h => by cases h), (fun fs h => by cases h)⟩
def ti158 : TI := { size := 4, bytes := 32, zu := .agg [.d (.int .i64 0), .d (.int .i64 0), .d (.int .i64 0), .d (.int .i64 0)], zv := .agg #[.int .i64 0, .int .i64 0, .int .i64 0, .int .i64 0], desc := .array 4 3, offs := [] }
theorem tf158 : TabFact Tryz.prog 158 ti158 := ⟨by kernel_rfl, by kernel_rfl, (fun φ w F => ⟨#[.int .i64 0, .int .i64 0, .int .i64 0, .int .i64 0], rfl, csims_const (φ := φ) (w := w) (F := F) [.int .i64 0, .int .i64 0, .int .i64 0, .int .i64 0]⟩), rfl, (fun fs h => by cases h), (fun fs h => by cases h)⟩
def ti159 : TI := { size := 32, bytes := 256, zu := .agg [.d (.int .i64 0), .d (.int .i64 0), .d (.int .i64 0), .d (.int .i64 0), .d (.int .i64 0), .d (.int .i64 0), .d (.int .i64 0), .d (.int .i64 0), .d (.int .i64 0), .d (.int .i64 0), .d (.int .i64 0), .d (.int .i64 0), .d (.int .i64 0), .d (.int .i64 0), .d (.int .i64 0), .d (.int .i64 0), .d (.int .i64 0), .d (.int .i64 0), .d (.int .i64 0), .d (.int .i64 0), .d (.int .i64 0), .d (.int .i64 0), .d (.int .i64 0), .d (.int .i64 0), .d (.int .i64 0), .d (.int .i64 0), .d (.int .i64 0), .d (.int .i64 0), .d (.int .i64 0), .d (.int .i64 0), .d (.int .i64 0), .d (.int .i64 0)], zv := .agg #[.int .i64 0, .int .i64 0, .int .i64 0, .int .i64 0, .int .i64 0, .int .i64 0, .int .i64 0, .int .i64 0, .int .i64 0, .int .i64 0, .int .i64 0, .int .i64 0, .int .i64 0, .int .i64 0, .int .i64 0, .int .i64 0, .int .i64 0, .int .i64 0, .int .i64 0, .int .i64 0, .int .i64 0, .int .i64 0, .int .i64 0, .int .i64 0, .int .i64 0, .int .i64 0, .int .i64 0, .int .i64 0, .int .i64 0, .int .i64 0, .int .i64 0, .int .i64 0], desc := .array 8 158, offs := [] }
theorem tf159 : TabFact Tryz.prog 159 ti159 := ⟨by kernel_rfl, by kernel_rfl, (fun φ w F => ⟨#[.int .i64 0, .int .i64 0, .int .i64 0, .int .i64 0, .int .i64 0, .int .i64 0, .int .i64 0, .int .i64 0, .int .i64 0, .int .i64 0, .int .i64 0, .int .i64 0, .int .i64 0, .int .i64 0, .int .i64 0, .int .i64 0, .int .i64 0, .int .i64 0, .int .i64 0, .int .i64 0, .int .i64 0, .int .i64 0, .int .i64 0, .int .i64 0, .int .i64 0, .int .i64 0, .int .i64 0, .int .i64 0, .int .i64 0, .int .i64 0, .int .i64 0, .int .i64 0], rfl, csims_const (φ := φ) (w := w) (F := F) [.int .i64 0, .int .i64 0, .int .i64 0, .int .i64 0, .int .i64 0, .int .i64 0, .int .i64 0, .int .i64 0, .int .i64 0, .int .i64 0, .int .i64 0, .int .i64 0, .int .i64 0, .int .i64 0, .int .i64 0, .int .i64 0, .int .i64 0, .int .i64 0, .int .i64 0, .int .i64 0, .int .i64 0, .int .i64 0, .int .i64 0, .int .i64 0, .int .i64 0, .int .i64 0, .int .i64 0, .int .i64 0, .int .i64 0, .int .i64 0, .int .i64 0, .int .i64 0]⟩), rfl, (fun fs h => by cases h), (fun fs h => by cases h)⟩
def ti160 : TI := { size := 1, bytes := 24, zu := .one (.d .nil), zv := .slice none 0 0, desc := .slice 5, offs := [] }
theorem tf160 : TabFact Tryz.prog 160 ti160 := ⟨by kernel_rfl, by kernel_rfl, (fun φ w F => csim_const (φ := φ) (w := w) (F := F) (.slice none 0 0)), rfl, (fun fs h => by cases h), (fun fs h => by cases h)⟩
def ti170 : TI := { size := 1, bytes := 8, zu := .one (.nilmap), zv := .map none, desc := .map 61 3, offs := [] }
theorem tf170 : TabFact Tryz.prog 170 ti170 := ⟨by kernel_rfl, by kernel_rfl, (fun φ w F => csim_const (φ := φ) (w := w) (F := F) (.map none)), rfl, (fun fs h => by cases h), (fun fs h => by cases h)⟩
def ti172 : TI := { size := 1, bytes := 8, zu := .one (.nilmap), zv := .map none, desc := .map 61 4, offs := [] }
theorem tf172 : TabFact Tryz.prog 172 ti172 := ⟨by kernel_rfl, by kernel_rfl, (fun φ w F => csim_const (φ := φ) (w := w) (F := F) (.map none)), rfl, (fun fs h => by cases h), (fun fs h => by cases h)⟩
def ti174 : TI := { size := 8, bytes := 8, zu := .agg [.d (.bool false), .d (.bool false), .d (.bool false), .d (.bool false), .d (.bool false), .d (.bool false), .d (.bool false), .d (.bool false)], zv := .agg #[.bool false, .bool false, .bool false, .bool false, .bool false, .bool false, .bool false, .bool false], desc := .array 8 4, offs := [] }
theorem tf174 : TabFact Tryz.prog 174 ti174 := ⟨by kernel_rfl, by kernel_rfl, (fun φ w F => ⟨#[.bool false, .bool false, .bool false, .bool false, .bool false, .bool false, .bool false, .bool false], rfl, csims_const (φ := φ) (w := w) (F := F) [.bool false, .bool false, .bool false, .bool false, .bool false, .bool false, .bool false, .bool false]⟩), rfl, (fun fs h => by cases h), (fun fs h => by cases h)⟩
def ti175 : TI := { size := 1, bytes := 8, zu := .one (.nilmap), zv := .map none, desc := .map 9 3, offs := [] }
theorem tf175 : TabFact Tryz.prog 175 ti175 := ⟨by kernel_rfl, by kernel_rfl, (fun φ w F => csim_const (φ := φ) (w := w) (F := F) (.map none)), rfl, (fun fs h => by cases h), (fun fs h => by cases h)⟩
def ti177 : TI := { size := 2, bytes := 32, zu := .agg [.d .nil, .nilmap], zv := .agg #[.slice none 0 0, .map none], desc := .struct #[⟨"nodes", 23, 0, false, "", "cellular/reduce", 0⟩, ⟨"known", 175, 1, false, "", "cellular/reduce", 24⟩], offs := [(0, 1), (1, 1)] }
theorem tf177 : TabFact Tryz.prog 177 ti177 := ⟨by kernel_rfl, by kernel_rfl, (fun φ w F => ⟨#[.slice none 0 0, .map none], rfl, csims_const (φ := φ) (w := w) (F := F) [.slice none 0 0, .map none]⟩), rfl, (fun fs h => by cases h; kernel_rfl), (fun fs h => by cases h; kernel_rfl)⟩
def ti184 : TI := { size := 7, bytes := 88, zu := .agg [.d (.bool false), .d (.int .i64 0), .d (.int .i64 0), .d (.int .i64 0), .d (.int .i64 0), .d .nil, .d .nil], zv := .agg #[.bool false, .int .i64 0, .int .i64 0, .int .i64 0, .int .i64 0, .slice none 0 0, .slice none 0 0], desc := .struct #[⟨"flat", 4, 0, false, "", "cellular/cellularref20", 0⟩, ⟨"box", 73, 1, false, "", "cellular/cellularref20", 8⟩, ⟨"cells", 26, 5, false, "", "cellular/cellularref20", 40⟩, ⟨"list", 44, 6, false, "", "cellular/cellularref20", 64⟩], offs := [(0, 1), (1, 4), (5, 1), (6, 1)] }
theorem tf184 : TabFact Tryz.prog 184 ti184 := ⟨by kernel_rfl, by kernel_rfl, (fun φ w F => ⟨#[.bool false, .int .i64 0, .int .i64 0, .int .i64 0, .int .i64 0, .slice none 0 0, .slice none 0 0], rfl, csims_const (φ := φ) (w := w) (F := F) [.bool false, .int .i64 0, .int .i64 0, .int .i64 0, .int .i64 0, .slice none 0 0, .slice none 0 0]⟩), rfl, (fun fs h => by cases h; kernel_rfl), (fun fs h => by cases h; kernel_rfl)⟩
def ti189 : TI := { size := 1, bytes := 8, zu := .one (.top), zv := .pointer none, desc := .pointer 177, offs := [] }
theorem tf189 : TabFact Tryz.prog 189 ti189 := ⟨by kernel_rfl, by kernel_rfl, (fun φ w F => csim_const (φ := φ) (w := w) (F := F) (.pointer none)), rfl, (fun fs h => by cases h), (fun fs h => by cases h)⟩
def ti208 : TI := { size := 1, bytes := 8, zu := .one (.d (.int .u64 0)), zv := .int .u64 0, desc := .int .u64, offs := [] }
theorem tf208 : TabFact Tryz.prog 208 ti208 := ⟨by kernel_rfl, by kernel_rfl, (fun φ w F => csim_const (φ := φ) (w := w) (F := F) (.int .u64 0)), rfl, (fun fs h => by cases h), (fun fs h => by cases h)⟩
def ti225 : TI := { size := 20, bytes := 160, zu := .agg [.d (.int .u64 0), .d (.int .u64 0), .d (.int .u64 0), .d (.int .u64 0), .d (.int .u64 0), .d (.int .u64 0), .d (.int .u64 0), .d (.int .u64 0), .d (.int .u64 0), .d (.int .u64 0), .d (.int .u64 0), .d (.int .u64 0), .d (.int .u64 0), .d (.int .u64 0), .d (.int .u64 0), .d (.int .u64 0), .d (.int .u64 0), .d (.int .u64 0), .d (.int .u64 0), .d (.int .u64 0)], zv := .agg #[.int .u64 0, .int .u64 0, .int .u64 0, .int .u64 0, .int .u64 0, .int .u64 0, .int .u64 0, .int .u64 0, .int .u64 0, .int .u64 0, .int .u64 0, .int .u64 0, .int .u64 0, .int .u64 0, .int .u64 0, .int .u64 0, .int .u64 0, .int .u64 0, .int .u64 0, .int .u64 0], desc := .array 20 208, offs := [] }
theorem tf225 : TabFact Tryz.prog 225 ti225 := ⟨by kernel_rfl, by kernel_rfl, (fun φ w F => ⟨#[.int .u64 0, .int .u64 0, .int .u64 0, .int .u64 0, .int .u64 0, .int .u64 0, .int .u64 0, .int .u64 0, .int .u64 0, .int .u64 0, .int .u64 0, .int .u64 0, .int .u64 0, .int .u64 0, .int .u64 0, .int .u64 0, .int .u64 0, .int .u64 0, .int .u64 0, .int .u64 0], rfl, csims_const (φ := φ) (w := w) (F := F) [.int .u64 0, .int .u64 0, .int .u64 0, .int .u64 0, .int .u64 0, .int .u64 0, .int .u64 0, .int .u64 0, .int .u64 0, .int .u64 0, .int .u64 0, .int .u64 0, .int .u64 0, .int .u64 0, .int .u64 0, .int .u64 0, .int .u64 0, .int .u64 0, .int .u64 0, .int .u64 0]⟩), rfl, (fun fs h => by cases h), (fun fs h => by cases h)⟩
def ti227 : TI := { size := 32, bytes := 32, zu := .agg [.d (.int .u8 0), .d (.int .u8 0), .d (.int .u8 0), .d (.int .u8 0), .d (.int .u8 0), .d (.int .u8 0), .d (.int .u8 0), .d (.int .u8 0), .d (.int .u8 0), .d (.int .u8 0), .d (.int .u8 0), .d (.int .u8 0), .d (.int .u8 0), .d (.int .u8 0), .d (.int .u8 0), .d (.int .u8 0), .d (.int .u8 0), .d (.int .u8 0), .d (.int .u8 0), .d (.int .u8 0), .d (.int .u8 0), .d (.int .u8 0), .d (.int .u8 0), .d (.int .u8 0), .d (.int .u8 0), .d (.int .u8 0), .d (.int .u8 0), .d (.int .u8 0), .d (.int .u8 0), .d (.int .u8 0), .d (.int .u8 0), .d (.int .u8 0)], zv := .agg #[.int .u8 0, .int .u8 0, .int .u8 0, .int .u8 0, .int .u8 0, .int .u8 0, .int .u8 0, .int .u8 0, .int .u8 0, .int .u8 0, .int .u8 0, .int .u8 0, .int .u8 0, .int .u8 0, .int .u8 0, .int .u8 0, .int .u8 0, .int .u8 0, .int .u8 0, .int .u8 0, .int .u8 0, .int .u8 0, .int .u8 0, .int .u8 0, .int .u8 0, .int .u8 0, .int .u8 0, .int .u8 0, .int .u8 0, .int .u8 0, .int .u8 0, .int .u8 0], desc := .array 32 5, offs := [] }
theorem tf227 : TabFact Tryz.prog 227 ti227 := ⟨by kernel_rfl, by kernel_rfl, (fun φ w F => ⟨#[.int .u8 0, .int .u8 0, .int .u8 0, .int .u8 0, .int .u8 0, .int .u8 0, .int .u8 0, .int .u8 0, .int .u8 0, .int .u8 0, .int .u8 0, .int .u8 0, .int .u8 0, .int .u8 0, .int .u8 0, .int .u8 0, .int .u8 0, .int .u8 0, .int .u8 0, .int .u8 0, .int .u8 0, .int .u8 0, .int .u8 0, .int .u8 0, .int .u8 0, .int .u8 0, .int .u8 0, .int .u8 0, .int .u8 0, .int .u8 0, .int .u8 0, .int .u8 0], rfl, csims_const (φ := φ) (w := w) (F := F) [.int .u8 0, .int .u8 0, .int .u8 0, .int .u8 0, .int .u8 0, .int .u8 0, .int .u8 0, .int .u8 0, .int .u8 0, .int .u8 0, .int .u8 0, .int .u8 0, .int .u8 0, .int .u8 0, .int .u8 0, .int .u8 0, .int .u8 0, .int .u8 0, .int .u8 0, .int .u8 0, .int .u8 0, .int .u8 0, .int .u8 0, .int .u8 0, .int .u8 0, .int .u8 0, .int .u8 0, .int .u8 0, .int .u8 0, .int .u8 0, .int .u8 0, .int .u8 0]⟩), rfl, (fun fs h => by cases h), (fun fs h => by cases h)⟩
def ty : Tab := fun t => match t with
  | 2 => some ti2
  | 3 => some ti3
  | 4 => some ti4
  | 5 => some ti5
  | 9 => some ti9
  | 22 => some ti22
  | 23 => some ti23
  | 25 => some ti25
  | 26 => some ti26
  | 28 => some ti28
  | 31 => some ti31
  | 33 => some ti33
  | 34 => some ti34
  | 39 => some ti39
  | 42 => some ti42
  | 43 => some ti43
  | 44 => some ti44
  | 56 => some ti56
  | 57 => some ti57
  | 59 => some ti59
  | 61 => some ti61
  | 65 => some ti65
  | 68 => some ti68
  | 70 => some ti70
  | 73 => some ti73
  | 74 => some ti74
  | 76 => some ti76
  | 78 => some ti78
  | 80 => some ti80
  | 82 => some ti82
  | 90 => some ti90
  | 95 => some ti95
  | 97 => some ti97
  | 105 => some ti105
  | 117 => some ti117
  | 144 => some ti144
  | 148 => some ti148
  | 155 => some ti155
  | 158 => some ti158
  | 159 => some ti159
  | 160 => some ti160
  | 170 => some ti170
  | 172 => some ti172
  | 174 => some ti174
  | 175 => some ti175
  | 177 => some ti177
  | 184 => some ti184
  | 189 => some ti189
  | 208 => some ti208
  | 225 => some ti225
  | 227 => some ti227
  | _ => none
theorem ty_ok : TabOk Tryz.prog ty := by
  intro t ti h
  unfold ty at h
  split at h
  · cases h; exact tf2
  · cases h; exact tf3
  · cases h; exact tf4
  · cases h; exact tf5
  · cases h; exact tf9
  · cases h; exact tf22
  · cases h; exact tf23
  · cases h; exact tf25
  · cases h; exact tf26
  · cases h; exact tf28
  · cases h; exact tf31
  · cases h; exact tf33
  · cases h; exact tf34
  · cases h; exact tf39
  · cases h; exact tf42
  · cases h; exact tf43
  · cases h; exact tf44
  · cases h; exact tf56
  · cases h; exact tf57
  · cases h; exact tf59
  · cases h; exact tf61
  · cases h; exact tf65
  · cases h; exact tf68
  · cases h; exact tf70
  · cases h; exact tf73
  · cases h; exact tf74
  · cases h; exact tf76
  · cases h; exact tf78
  · cases h; exact tf80
  · cases h; exact tf82
  · cases h; exact tf90
  · cases h; exact tf95
  · cases h; exact tf97
  · cases h; exact tf105
  · cases h; exact tf117
  · cases h; exact tf144
  · cases h; exact tf148
  · cases h; exact tf155
  · cases h; exact tf158
  · cases h; exact tf159
  · cases h; exact tf160
  · cases h; exact tf170
  · cases h; exact tf172
  · cases h; exact tf174
  · cases h; exact tf175
  · cases h; exact tf177
  · cases h; exact tf184
  · cases h; exact tf189
  · cases h; exact tf208
  · cases h; exact tf225
  · cases h; exact tf227
  · cases h
def eqn : TypeId → Option Nat := fun t => match t with
  | 61 => some 2
  | 68 => some 3
  | 73 => some 4
  | _ => none
theorem ef61 : intFields Tryz.prog 61 2 := by
  refine ⟨#[⟨"X", 3, 0, false, "", "", 0⟩, ⟨"Y", 3, 1, false, "", "", 8⟩], by kernel_rfl, by kernel_rfl, by kernel_rfl, rfl, fun i f h => ?_⟩
  match i, h with
  | 0, h => cases h; exact ⟨by decide, rfl, .i64, by kernel_rfl⟩
  | 1, h => cases h; exact ⟨by decide, rfl, .i64, by kernel_rfl⟩
  | i + 2, h => simp at h
theorem ef68 : intFields Tryz.prog 68 3 := by
  refine ⟨#[⟨"X", 3, 0, false, "", "", 0⟩, ⟨"Y", 3, 1, false, "", "", 8⟩, ⟨"S", 3, 2, false, "", "", 16⟩], by kernel_rfl, by kernel_rfl, by kernel_rfl, rfl, fun i f h => ?_⟩
  match i, h with
  | 0, h => cases h; exact ⟨by decide, rfl, .i64, by kernel_rfl⟩
  | 1, h => cases h; exact ⟨by decide, rfl, .i64, by kernel_rfl⟩
  | 2, h => cases h; exact ⟨by decide, rfl, .i64, by kernel_rfl⟩
  | i + 3, h => simp at h
theorem ef73 : intFields Tryz.prog 73 4 := by
  refine ⟨#[⟨"X", 3, 0, false, "", "", 0⟩, ⟨"Y", 3, 1, false, "", "", 8⟩, ⟨"W", 3, 2, false, "", "", 16⟩, ⟨"H", 3, 3, false, "", "", 24⟩], by kernel_rfl, by kernel_rfl, by kernel_rfl, rfl, fun i f h => ?_⟩
  match i, h with
  | 0, h => cases h; exact ⟨by decide, rfl, .i64, by kernel_rfl⟩
  | 1, h => cases h; exact ⟨by decide, rfl, .i64, by kernel_rfl⟩
  | 2, h => cases h; exact ⟨by decide, rfl, .i64, by kernel_rfl⟩
  | 3, h => cases h; exact ⟨by decide, rfl, .i64, by kernel_rfl⟩
  | i + 4, h => simp at h
theorem eqn_ok : ∀ t n, eqn t = some n → intFields Tryz.prog t n := by
  intro t n h
  unfold eqn at h
  split at h
  · cases h; exact ef61
  · cases h; exact ef68
  · cases h; exact ef73
  · cases h
def key : TypeId → Option KK := fun t => match t with
  | 9 => some .str
  | 61 => some (.ints 2)
  | _ => none
theorem kf9 : Maps.Keyed Tryz.prog 9 ∧ ∀ k : Key, k.fits .str = true → ∃ l, keyOf Tryz.prog 9 k.val = some l := key_str (by kernel_rfl)
theorem kf61 : Maps.Keyed Tryz.prog 61 ∧ ∀ k : Key, k.fits (.ints 2) = true → ∃ l, keyOf Tryz.prog 61 k.val = some l :=
  key_ints (fs := #[⟨"X", 3, 0, false, "", "", 0⟩, ⟨"Y", 3, 1, false, "", "", 8⟩]) (by kernel_rfl) (by kernel_rfl) (by kernel_rfl) (by kernel_rfl) (by kernel_rfl) (by kernel_rfl) (by
    intro i f h
    match i, h with
    | 0, h => cases h; exact ⟨by decide, rfl, by kernel_rfl, by kernel_rfl⟩
    | 1, h => cases h; exact ⟨by decide, rfl, by kernel_rfl, by kernel_rfl⟩
    | i + 2, h => simp at h)
theorem key_ok : ∀ t kk, key t = some kk → Maps.Keyed Tryz.prog t ∧ ∀ k : Key, k.fits kk = true → ∃ l, keyOf Tryz.prog t k.val = some l := by
  intro t kk h
  unfold key at h
  split at h
  · cases h; exact kf9
  · cases h; exact kf61
  · cases h
def tb : Tb := { ty := ty, eqn := eqn, key := key }
theorem tb_ok : TbOk Tryz.prog tb := ⟨ty_ok, eqn_ok, key_ok, (fun _ _ _ h => by cases h), (fun _ _ _ _ _ _ _ _ _ h => by cases h)⟩
theorem mixed : Tryz.prog.follows .mixedOrders = true := by kernel_rfl
end Go.Proofs.YtgfhhbjnjccomaaGreatDoor
