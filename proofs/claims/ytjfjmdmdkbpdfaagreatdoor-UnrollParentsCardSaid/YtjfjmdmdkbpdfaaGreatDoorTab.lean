/- The table of the types of this seat, made by program (gen_tab.py), and that it holds. -/
import Derived.Test.YtjfjmdmdkbpdfaaGreatDoorRows
import Derived.Test.YtjfjmdmdkbpdfaaGreatDoorAmO
namespace Go.Proofs.YtjfjmdmdkbpdfaaGreatDoor
open Go.AM Go.Proofs
def ti2 : TI := { size := 1, bytes := 8, zu := .one (.d (.int .i64 0)), zv := .int .i64 0, desc := .int .i64, offs := [] }
theorem tf2 : TabFact Tryz.prog 2 ti2 := ⟨by kernel_rfl, by kernel_rfl, (fun φ w F => csim_const (φ := φ) (w := w) (F := F) (.int .i64 0)), rfl, nofun, nofun⟩
def ti3 : TI := { size := 1, bytes := 8, zu := .one (.d (.int .i64 0)), zv := .int .i64 0, desc := .int .i64, offs := [] }
theorem tf3 : TabFact Tryz.prog 3 ti3 := ⟨by kernel_rfl, by kernel_rfl, (fun φ w F => csim_const (φ := φ) (w := w) (F := F) (.int .i64 0)), rfl, nofun, nofun⟩
def ti4 : TI := { size := 1, bytes := 1, zu := .one (.d (.bool false)), zv := .bool false, desc := .bool, offs := [] }
theorem tf4 : TabFact Tryz.prog 4 ti4 := ⟨by kernel_rfl, by kernel_rfl, (fun φ w F => csim_const (φ := φ) (w := w) (F := F) (.bool false)), rfl, nofun, nofun⟩
def ti5 : TI := { size := 1, bytes := 1, zu := .one (.d (.int .u8 0)), zv := .int .u8 0, desc := .int .u8, offs := [] }
theorem tf5 : TabFact Tryz.prog 5 ti5 := ⟨by kernel_rfl, by kernel_rfl, (fun φ w F => csim_const (φ := φ) (w := w) (F := F) (.int .u8 0)), rfl, nofun, nofun⟩
def ti9 : TI := { size := 1, bytes := 16, zu := .one (.d (.str ⟨#[]⟩)), zv := .string ⟨#[]⟩, desc := .string, offs := [] }
theorem tf9 : TabFact Tryz.prog 9 ti9 := ⟨by kernel_rfl, by kernel_rfl, (fun φ w F => csim_const (φ := φ) (w := w) (F := F) (.string ⟨#[]⟩)), rfl, nofun, nofun⟩
def ti22 : TI := { size := 1, bytes := 24, zu := .one (.d .nil), zv := .slice none 0 0, desc := .slice 56, offs := [] }
theorem tf22 : TabFact Tryz.prog 22 ti22 := ⟨by kernel_rfl, by kernel_rfl, (fun φ w F => csim_const (φ := φ) (w := w) (F := F) (.slice none 0 0)), rfl, nofun, nofun⟩
def ti23 : TI := { size := 1, bytes := 24, zu := .one (.d .nil), zv := .slice none 0 0, desc := .slice 60, offs := [] }
theorem tf23 : TabFact Tryz.prog 23 ti23 := ⟨by kernel_rfl, by kernel_rfl, (fun φ w F => csim_const (φ := φ) (w := w) (F := F) (.slice none 0 0)), rfl, nofun, nofun⟩
def ti25 : TI := { size := 3, bytes := 56, zu := .agg [.d (.int .i64 0), .d .nil, .d .nil], zv := .agg #[.int .i64 0, .slice none 0 0, .slice none 0 0], desc := .struct #[⟨"States", 3, 0, false, "", "", 0⟩, ⟨"Hood", 22, 1, false, "", "", 8⟩, ⟨"Nodes", 23, 2, false, "", "", 32⟩], offs := [(0, 1), (1, 1), (2, 1)] }
theorem tf25 : TabFact Tryz.prog 25 ti25 := ⟨by kernel_rfl, by kernel_rfl, (fun φ w F => ⟨#[.int .i64 0, .slice none 0 0, .slice none 0 0], rfl, csims_const (φ := φ) (w := w) (F := F) [.int .i64 0, .slice none 0 0, .slice none 0 0]⟩), rfl, (fun fs h => by cases h; kernel_rfl), (fun fs h => by cases h; kernel_rfl)⟩
def ti26 : TI := { size := 1, bytes := 24, zu := .one (.d .nil), zv := .slice none 0 0, desc := .slice 3, offs := [] }
theorem tf26 : TabFact Tryz.prog 26 ti26 := ⟨by kernel_rfl, by kernel_rfl, (fun φ w F => csim_const (φ := φ) (w := w) (F := F) (.slice none 0 0)), rfl, nofun, nofun⟩
def ti28 : TI := { size := 6, bytes := 64, zu := .agg [.d (.int .i64 0), .d (.int .i64 0), .d (.int .i64 0), .d (.int .i64 0), .d (.int .i64 0), .d .nil], zv := .agg #[.int .i64 0, .int .i64 0, .int .i64 0, .int .i64 0, .int .i64 0, .slice none 0 0], desc := .struct #[⟨"W", 3, 0, false, "", "", 0⟩, ⟨"H", 3, 1, false, "", "", 8⟩, ⟨"Gens", 3, 2, false, "", "", 16⟩, ⟨"DX", 3, 3, false, "", "", 24⟩, ⟨"DY", 3, 4, false, "", "", 32⟩, ⟨"Syms", 26, 5, false, "", "", 40⟩], offs := [(0, 1), (1, 1), (2, 1), (3, 1), (4, 1), (5, 1)] }
theorem tf28 : TabFact Tryz.prog 28 ti28 := ⟨by kernel_rfl, by kernel_rfl, (fun φ w F => ⟨#[.int .i64 0, .int .i64 0, .int .i64 0, .int .i64 0, .int .i64 0, .slice none 0 0], rfl, csims_const (φ := φ) (w := w) (F := F) [.int .i64 0, .int .i64 0, .int .i64 0, .int .i64 0, .int .i64 0, .slice none 0 0]⟩), rfl, (fun fs h => by cases h; kernel_rfl), (fun fs h => by cases h; kernel_rfl)⟩
def ti31 : TI := { size := 1, bytes := 24, zu := .one (.d .nil), zv := .slice none 0 0, desc := .slice 26, offs := [] }
theorem tf31 : TabFact Tryz.prog 31 ti31 := ⟨by kernel_rfl, by kernel_rfl, (fun φ w F => csim_const (φ := φ) (w := w) (F := F) (.slice none 0 0)), rfl, nofun, nofun⟩
def ti33 : TI := { size := 2, bytes := 32, zu := .agg [.d (.int .i64 0), .d .nil], zv := .agg #[.int .i64 0, .slice none 0 0], desc := .struct #[⟨"Vars", 3, 0, false, "", "", 0⟩, ⟨"Clauses", 31, 1, false, "", "", 8⟩], offs := [(0, 1), (1, 1)] }
theorem tf33 : TabFact Tryz.prog 33 ti33 := ⟨by kernel_rfl, by kernel_rfl, (fun φ w F => ⟨#[.int .i64 0, .slice none 0 0], rfl, csims_const (φ := φ) (w := w) (F := F) [.int .i64 0, .slice none 0 0]⟩), rfl, (fun fs h => by cases h; kernel_rfl), (fun fs h => by cases h; kernel_rfl)⟩
def ti34 : TI := { size := 1, bytes := 8, zu := .one (.d (.int .i64 0)), zv := .int .i64 0, desc := .int .i64, offs := [] }
theorem tf34 : TabFact Tryz.prog 34 ti34 := ⟨by kernel_rfl, by kernel_rfl, (fun φ w F => csim_const (φ := φ) (w := w) (F := F) (.int .i64 0)), rfl, nofun, nofun⟩
def ti39 : TI := { size := 4, bytes := 48, zu := .agg [.d (.int .i64 0), .d (.int .i64 0), .d (.int .i64 0), .d .nil], zv := .agg #[.int .i64 0, .int .i64 0, .int .i64 0, .slice none 0 0], desc := .struct #[⟨"W", 3, 0, false, "", "", 0⟩, ⟨"H", 3, 1, false, "", "", 8⟩, ⟨"Edge", 3, 2, false, "", "", 16⟩, ⟨"Cells", 26, 3, false, "", "", 24⟩], offs := [(0, 1), (1, 1), (2, 1), (3, 1)] }
theorem tf39 : TabFact Tryz.prog 39 ti39 := ⟨by kernel_rfl, by kernel_rfl, (fun φ w F => ⟨#[.int .i64 0, .int .i64 0, .int .i64 0, .slice none 0 0], rfl, csims_const (φ := φ) (w := w) (F := F) [.int .i64 0, .int .i64 0, .int .i64 0, .slice none 0 0]⟩), rfl, (fun fs h => by cases h; kernel_rfl), (fun fs h => by cases h; kernel_rfl)⟩
def ti42 : TI := { size := 1, bytes := 24, zu := .one (.d .nil), zv := .slice none 0 0, desc := .slice 63, offs := [] }
theorem tf42 : TabFact Tryz.prog 42 ti42 := ⟨by kernel_rfl, by kernel_rfl, (fun φ w F => csim_const (φ := φ) (w := w) (F := F) (.slice none 0 0)), rfl, nofun, nofun⟩
def ti43 : TI := { size := 1, bytes := 24, zu := .one (.d .nil), zv := .slice none 0 0, desc := .slice 63, offs := [] }
theorem tf43 : TabFact Tryz.prog 43 ti43 := ⟨by kernel_rfl, by kernel_rfl, (fun φ w F => csim_const (φ := φ) (w := w) (F := F) (.slice none 0 0)), rfl, nofun, nofun⟩
def ti44 : TI := { size := 1, bytes := 24, zu := .one (.d .nil), zv := .slice none 0 0, desc := .slice 4, offs := [] }
theorem tf44 : TabFact Tryz.prog 44 ti44 := ⟨by kernel_rfl, by kernel_rfl, (fun φ w F => csim_const (φ := φ) (w := w) (F := F) (.slice none 0 0)), rfl, nofun, nofun⟩
def ti51 : TI := { size := 16, bytes := 16, zu := .agg [.d (.int .u8 0), .d (.int .u8 0), .d (.int .u8 0), .d (.int .u8 0), .d (.int .u8 0), .d (.int .u8 0), .d (.int .u8 0), .d (.int .u8 0), .d (.int .u8 0), .d (.int .u8 0), .d (.int .u8 0), .d (.int .u8 0), .d (.int .u8 0), .d (.int .u8 0), .d (.int .u8 0), .d (.int .u8 0)], zv := .agg #[.int .u8 0, .int .u8 0, .int .u8 0, .int .u8 0, .int .u8 0, .int .u8 0, .int .u8 0, .int .u8 0, .int .u8 0, .int .u8 0, .int .u8 0, .int .u8 0, .int .u8 0, .int .u8 0, .int .u8 0, .int .u8 0], desc := .array 16 5, offs := [] }
theorem tf51 : TabFact Tryz.prog 51 ti51 := ⟨by kernel_rfl, by kernel_rfl, (fun φ w F => ⟨#[.int .u8 0, .int .u8 0, .int .u8 0, .int .u8 0, .int .u8 0, .int .u8 0, .int .u8 0, .int .u8 0, .int .u8 0, .int .u8 0, .int .u8 0, .int .u8 0, .int .u8 0, .int .u8 0, .int .u8 0, .int .u8 0], rfl, csims_const (φ := φ) (w := w) (F := F) [.int .u8 0, .int .u8 0, .int .u8 0, .int .u8 0, .int .u8 0, .int .u8 0, .int .u8 0, .int .u8 0, .int .u8 0, .int .u8 0, .int .u8 0, .int .u8 0, .int .u8 0, .int .u8 0, .int .u8 0, .int .u8 0]⟩), rfl, nofun, nofun⟩
def ti52 : TI := { size := 1, bytes := 8, zu := .one (.top), zv := .nilFunc, desc := .func #[3] #[3] false, offs := [] }
theorem tf52 : TabFact Tryz.prog 52 ti52 := ⟨by kernel_rfl, by kernel_rfl, (fun φ w F => csim_const (φ := φ) (w := w) (F := F) (.nilFunc)), rfl, nofun, nofun⟩
def ti54 : TI := { size := 1, bytes := 8, zu := .one (.d (.int .u64 0)), zv := .int .u64 0, desc := .int .u64, offs := [] }
theorem tf54 : TabFact Tryz.prog 54 ti54 := ⟨by kernel_rfl, by kernel_rfl, (fun φ w F => csim_const (φ := φ) (w := w) (F := F) (.int .u64 0)), rfl, nofun, nofun⟩
def ti56 : TI := { size := 2, bytes := 16, zu := .agg [.d (.int .i64 0), .d (.int .i64 0)], zv := .agg #[.int .i64 0, .int .i64 0], desc := .struct #[⟨"X", 3, 0, false, "", "", 0⟩, ⟨"Y", 3, 1, false, "", "", 8⟩], offs := [(0, 1), (1, 1)] }
theorem tf56 : TabFact Tryz.prog 56 ti56 := ⟨by kernel_rfl, by kernel_rfl, (fun φ w F => ⟨#[.int .i64 0, .int .i64 0], rfl, csims_const (φ := φ) (w := w) (F := F) [.int .i64 0, .int .i64 0]⟩), rfl, (fun fs h => by cases h; kernel_rfl), (fun fs h => by cases h; kernel_rfl)⟩
def ti60 : TI := { size := 2, bytes := 32, zu := .agg [.d (.int .i64 0), .d .nil], zv := .agg #[.int .i64 0, .slice none 0 0], desc := .struct #[⟨"Level", 3, 0, false, "", "", 0⟩, ⟨"Next", 26, 1, false, "", "", 8⟩], offs := [(0, 1), (1, 1)] }
theorem tf60 : TabFact Tryz.prog 60 ti60 := ⟨by kernel_rfl, by kernel_rfl, (fun φ w F => ⟨#[.int .i64 0, .slice none 0 0], rfl, csims_const (φ := φ) (w := w) (F := F) [.int .i64 0, .slice none 0 0]⟩), rfl, (fun fs h => by cases h; kernel_rfl), (fun fs h => by cases h; kernel_rfl)⟩
def ti63 : TI := { size := 3, bytes := 24, zu := .agg [.d (.int .i64 0), .d (.int .i64 0), .d (.int .i64 0)], zv := .agg #[.int .i64 0, .int .i64 0, .int .i64 0], desc := .struct #[⟨"X", 3, 0, false, "", "", 0⟩, ⟨"Y", 3, 1, false, "", "", 8⟩, ⟨"S", 3, 2, false, "", "", 16⟩], offs := [(0, 1), (1, 1), (2, 1)] }
theorem tf63 : TabFact Tryz.prog 63 ti63 := ⟨by kernel_rfl, by kernel_rfl, (fun φ w F => ⟨#[.int .i64 0, .int .i64 0, .int .i64 0], rfl, csims_const (φ := φ) (w := w) (F := F) [.int .i64 0, .int .i64 0, .int .i64 0]⟩), rfl, (fun fs h => by cases h; kernel_rfl), (fun fs h => by cases h; kernel_rfl)⟩
def ti68 : TI := { size := 1, bytes := 8, zu := .one (.top), zv := .pointer none, desc := .pointer 78, offs := [] }
theorem tf68 : TabFact Tryz.prog 68 ti68 := ⟨by kernel_rfl, by kernel_rfl, (fun φ w F => csim_const (φ := φ) (w := w) (F := F) (.pointer none)), rfl, nofun, nofun⟩
def ti71 : TI := { size := 4, bytes := 32, zu := .agg [.d (.int .i64 0), .d (.int .i64 0), .d (.int .i64 0), .d (.int .i64 0)], zv := .agg #[.int .i64 0, .int .i64 0, .int .i64 0, .int .i64 0], desc := .struct #[⟨"X", 3, 0, false, "", "", 0⟩, ⟨"Y", 3, 1, false, "", "", 8⟩, ⟨"W", 3, 2, false, "", "", 16⟩, ⟨"H", 3, 3, false, "", "", 24⟩], offs := [(0, 1), (1, 1), (2, 1), (3, 1)] }
theorem tf71 : TabFact Tryz.prog 71 ti71 := ⟨by kernel_rfl, by kernel_rfl, (fun φ w F => ⟨#[.int .i64 0, .int .i64 0, .int .i64 0, .int .i64 0], rfl, csims_const (φ := φ) (w := w) (F := F) [.int .i64 0, .int .i64 0, .int .i64 0, .int .i64 0]⟩), rfl, (fun fs h => by cases h; kernel_rfl), (fun fs h => by cases h; kernel_rfl)⟩
def ti72 : TI := { size := 1, bytes := 24, zu := .one (.d .nil), zv := .slice none 0 0, desc := .slice 80, offs := [] }
theorem tf72 : TabFact Tryz.prog 72 ti72 := ⟨by kernel_rfl, by kernel_rfl, (fun φ w F => csim_const (φ := φ) (w := w) (F := F) (.slice none 0 0)), rfl, nofun, nofun⟩
def ti74 : TI := { size := 5, bytes := 56, zu := .agg [.d (.int .i64 0), .d (.int .i64 0), .d (.int .i64 0), .d (.int .i64 0), .d .nil], zv := .agg #[.int .i64 0, .int .i64 0, .int .i64 0, .int .i64 0, .slice none 0 0], desc := .struct #[⟨"box", 71, 0, false, "", "cellular/unroll", 0⟩, ⟨"values", 72, 4, false, "", "cellular/unroll", 32⟩], offs := [(0, 4), (4, 1)] }
theorem tf74 : TabFact Tryz.prog 74 ti74 := ⟨by kernel_rfl, by kernel_rfl, (fun φ w F => ⟨#[.int .i64 0, .int .i64 0, .int .i64 0, .int .i64 0, .slice none 0 0], rfl, csims_const (φ := φ) (w := w) (F := F) [.int .i64 0, .int .i64 0, .int .i64 0, .int .i64 0, .slice none 0 0]⟩), rfl, (fun fs h => by cases h; kernel_rfl), (fun fs h => by cases h; kernel_rfl)⟩
def ti76 : TI := { size := 1, bytes := 8, zu := .one (.nilmap), zv := .map none, desc := .map 9 25, offs := [] }
theorem tf76 : TabFact Tryz.prog 76 ti76 := ⟨by kernel_rfl, by kernel_rfl, (fun φ w F => csim_const (φ := φ) (w := w) (F := F) (.map none)), rfl, nofun, nofun⟩
def ti78 : TI := { size := 7, bytes := 104, zu := .agg [.d (.int .i64 0), .d .nil, .d (.int .i64 0), .d .nil, .d .nil, .d (.int .i64 0), .nilmap], zv := .agg #[.int .i64 0, .slice none 0 0, .int .i64 0, .slice none 0 0, .slice none 0 0, .int .i64 0, .map none], desc := .struct #[⟨"Formula", 33, 0, true, "", "", 0⟩, ⟨"rule", 25, 2, false, "", "cellular/unroll", 32⟩, ⟨"bits", 3, 5, false, "", "cellular/unroll", 88⟩, ⟨"trees", 76, 6, false, "", "cellular/unroll", 96⟩], offs := [(0, 2), (2, 3), (5, 1), (6, 1)] }
theorem tf78 : TabFact Tryz.prog 78 ti78 := ⟨by kernel_rfl, by kernel_rfl, (fun φ w F => ⟨#[.int .i64 0, .slice none 0 0, .int .i64 0, .slice none 0 0, .slice none 0 0, .int .i64 0, .map none], rfl, csims_const (φ := φ) (w := w) (F := F) [.int .i64 0, .slice none 0 0, .int .i64 0, .slice none 0 0, .slice none 0 0, .int .i64 0, .map none]⟩), rfl, (fun fs h => by cases h; kernel_rfl), (fun fs h => by cases h; kernel_rfl)⟩
def ti80 : TI := { size := 2, bytes := 32, zu := .agg [.d (.int .i64 0), .d .nil], zv := .agg #[.int .i64 0, .slice none 0 0], desc := .struct #[⟨"constant", 3, 0, false, "", "cellular/unroll", 0⟩, ⟨"vars", 26, 1, false, "", "cellular/unroll", 8⟩], offs := [(0, 1), (1, 1)] }
theorem tf80 : TabFact Tryz.prog 80 ti80 := ⟨by kernel_rfl, by kernel_rfl, (fun φ w F => ⟨#[.int .i64 0, .slice none 0 0], rfl, csims_const (φ := φ) (w := w) (F := F) [.int .i64 0, .slice none 0 0]⟩), rfl, (fun fs h => by cases h; kernel_rfl), (fun fs h => by cases h; kernel_rfl)⟩
def ti88 : TI := { size := 1, bytes := 24, zu := .one (.d .nil), zv := .slice none 0 0, desc := .slice 93, offs := [] }
theorem tf88 : TabFact Tryz.prog 88 ti88 := ⟨by kernel_rfl, by kernel_rfl, (fun φ w F => csim_const (φ := φ) (w := w) (F := F) (.slice none 0 0)), rfl, nofun, nofun⟩
def ti93 : TI := { size := 2, bytes := 32, zu := .agg [.d (.int .i64 0), .d .nil], zv := .agg #[.int .i64 0, .slice none 0 0], desc := .struct #[⟨"State", 3, 0, false, "", "", 0⟩, ⟨"Vars", 26, 1, false, "", "", 8⟩], offs := [(0, 1), (1, 1)] }
theorem tf93 : TabFact Tryz.prog 93 ti93 := ⟨by kernel_rfl, by kernel_rfl, (fun φ w F => ⟨#[.int .i64 0, .slice none 0 0], rfl, csims_const (φ := φ) (w := w) (F := F) [.int .i64 0, .slice none 0 0]⟩), rfl, (fun fs h => by cases h; kernel_rfl), (fun fs h => by cases h; kernel_rfl)⟩
def ti95 : TI := { size := 5, bytes := 56, zu := .agg [.d (.int .i64 0), .d (.int .i64 0), .d (.int .i64 0), .d (.int .i64 0), .d .nil], zv := .agg #[.int .i64 0, .int .i64 0, .int .i64 0, .int .i64 0, .slice none 0 0], desc := .struct #[⟨"box", 71, 0, false, "", "cellular/cellularref45", 0⟩, ⟨"of", 88, 4, false, "", "cellular/cellularref45", 32⟩], offs := [(0, 4), (4, 1)] }
theorem tf95 : TabFact Tryz.prog 95 ti95 := ⟨by kernel_rfl, by kernel_rfl, (fun φ w F => ⟨#[.int .i64 0, .int .i64 0, .int .i64 0, .int .i64 0, .slice none 0 0], rfl, csims_const (φ := φ) (w := w) (F := F) [.int .i64 0, .int .i64 0, .int .i64 0, .int .i64 0, .slice none 0 0]⟩), rfl, (fun fs h => by cases h; kernel_rfl), (fun fs h => by cases h; kernel_rfl)⟩
def ti103 : TI := { size := 1, bytes := 8, zu := .one (.top), zv := .nilFunc, desc := .func #[3] #[4] false, offs := [] }
theorem tf103 : TabFact Tryz.prog 103 ti103 := ⟨by kernel_rfl, by kernel_rfl, (fun φ w F => csim_const (φ := φ) (w := w) (F := F) (.nilFunc)), rfl, nofun, nofun⟩
def ti113 : TI := { size := 1, bytes := 8, zu := .one (.top), zv := .nilFunc, desc := .func #[63] #[4] false, offs := [] }
theorem tf113 : TabFact Tryz.prog 113 ti113 := ⟨by kernel_rfl, by kernel_rfl, (fun φ w F => csim_const (φ := φ) (w := w) (F := F) (.nilFunc)), rfl, nofun, nofun⟩
def ti142 : TI := { size := 1, bytes := 8, zu := .one (.top), zv := .nilFunc, desc := .func #[63, 63] #[3] false, offs := [] }
theorem tf142 : TabFact Tryz.prog 142 ti142 := ⟨by kernel_rfl, by kernel_rfl, (fun φ w F => csim_const (φ := φ) (w := w) (F := F) (.nilFunc)), rfl, nofun, nofun⟩
def ti145 : TI := { size := 1, bytes := 24, zu := .one (.d .nil), zv := .slice none 0 0, desc := .slice 43, offs := [] }
theorem tf145 : TabFact Tryz.prog 145 ti145 := ⟨by kernel_rfl, by kernel_rfl, (fun φ w F => csim_const (φ := φ) (w := w) (F := F) (.slice none 0 0)), rfl, nofun, nofun⟩
def ti152 : TI := { size := 1, bytes := 8, zu := .one (.top), zv := .nilFunc, desc := .func #[3, 26] #[26] false, offs := [] }
theorem tf152 : TabFact Tryz.prog 152 ti152 := ⟨by kernel_rfl, by kernel_rfl, (fun φ w F => csim_const (φ := φ) (w := w) (F := F) (.nilFunc)), rfl, nofun, nofun⟩
def ti155 : TI := { size := 4, bytes := 32, zu := .agg [.d (.int .i64 0), .d (.int .i64 0), .d (.int .i64 0), .d (.int .i64 0)], zv := .agg #[.int .i64 0, .int .i64 0, .int .i64 0, .int .i64 0], desc := .array 4 3, offs := [] }
theorem tf155 : TabFact Tryz.prog 155 ti155 := ⟨by kernel_rfl, by kernel_rfl, (fun φ w F => ⟨#[.int .i64 0, .int .i64 0, .int .i64 0, .int .i64 0], rfl, csims_const (φ := φ) (w := w) (F := F) [.int .i64 0, .int .i64 0, .int .i64 0, .int .i64 0]⟩), rfl, nofun, nofun⟩
def ti156 : TI := { size := 32, bytes := 256, zu := .agg [.d (.int .i64 0), .d (.int .i64 0), .d (.int .i64 0), .d (.int .i64 0), .d (.int .i64 0), .d (.int .i64 0), .d (.int .i64 0), .d (.int .i64 0), .d (.int .i64 0), .d (.int .i64 0), .d (.int .i64 0), .d (.int .i64 0), .d (.int .i64 0), .d (.int .i64 0), .d (.int .i64 0), .d (.int .i64 0), .d (.int .i64 0), .d (.int .i64 0), .d (.int .i64 0), .d (.int .i64 0), .d (.int .i64 0), .d (.int .i64 0), .d (.int .i64 0), .d (.int .i64 0), .d (.int .i64 0), .d (.int .i64 0), .d (.int .i64 0), .d (.int .i64 0), .d (.int .i64 0), .d (.int .i64 0), .d (.int .i64 0), .d (.int .i64 0)], zv := .agg #[.int .i64 0, .int .i64 0, .int .i64 0, .int .i64 0, .int .i64 0, .int .i64 0, .int .i64 0, .int .i64 0, .int .i64 0, .int .i64 0, .int .i64 0, .int .i64 0, .int .i64 0, .int .i64 0, .int .i64 0, .int .i64 0, .int .i64 0, .int .i64 0, .int .i64 0, .int .i64 0, .int .i64 0, .int .i64 0, .int .i64 0, .int .i64 0, .int .i64 0, .int .i64 0, .int .i64 0, .int .i64 0, .int .i64 0, .int .i64 0, .int .i64 0, .int .i64 0], desc := .array 8 155, offs := [] }
theorem tf156 : TabFact Tryz.prog 156 ti156 := ⟨by kernel_rfl, by kernel_rfl, (fun φ w F => ⟨#[.int .i64 0, .int .i64 0, .int .i64 0, .int .i64 0, .int .i64 0, .int .i64 0, .int .i64 0, .int .i64 0, .int .i64 0, .int .i64 0, .int .i64 0, .int .i64 0, .int .i64 0, .int .i64 0, .int .i64 0, .int .i64 0, .int .i64 0, .int .i64 0, .int .i64 0, .int .i64 0, .int .i64 0, .int .i64 0, .int .i64 0, .int .i64 0, .int .i64 0, .int .i64 0, .int .i64 0, .int .i64 0, .int .i64 0, .int .i64 0, .int .i64 0, .int .i64 0], rfl, csims_const (φ := φ) (w := w) (F := F) [.int .i64 0, .int .i64 0, .int .i64 0, .int .i64 0, .int .i64 0, .int .i64 0, .int .i64 0, .int .i64 0, .int .i64 0, .int .i64 0, .int .i64 0, .int .i64 0, .int .i64 0, .int .i64 0, .int .i64 0, .int .i64 0, .int .i64 0, .int .i64 0, .int .i64 0, .int .i64 0, .int .i64 0, .int .i64 0, .int .i64 0, .int .i64 0, .int .i64 0, .int .i64 0, .int .i64 0, .int .i64 0, .int .i64 0, .int .i64 0, .int .i64 0, .int .i64 0]⟩), rfl, nofun, nofun⟩
def ti157 : TI := { size := 1, bytes := 24, zu := .one (.d .nil), zv := .slice none 0 0, desc := .slice 5, offs := [] }
theorem tf157 : TabFact Tryz.prog 157 ti157 := ⟨by kernel_rfl, by kernel_rfl, (fun φ w F => csim_const (φ := φ) (w := w) (F := F) (.slice none 0 0)), rfl, nofun, nofun⟩
def ti168 : TI := { size := 1, bytes := 8, zu := .one (.nilmap), zv := .map none, desc := .map 56 3, offs := [] }
theorem tf168 : TabFact Tryz.prog 168 ti168 := ⟨by kernel_rfl, by kernel_rfl, (fun φ w F => csim_const (φ := φ) (w := w) (F := F) (.map none)), rfl, nofun, nofun⟩
def ti170 : TI := { size := 1, bytes := 8, zu := .one (.nilmap), zv := .map none, desc := .map 56 4, offs := [] }
theorem tf170 : TabFact Tryz.prog 170 ti170 := ⟨by kernel_rfl, by kernel_rfl, (fun φ w F => csim_const (φ := φ) (w := w) (F := F) (.map none)), rfl, nofun, nofun⟩
def ti172 : TI := { size := 8, bytes := 8, zu := .agg [.d (.bool false), .d (.bool false), .d (.bool false), .d (.bool false), .d (.bool false), .d (.bool false), .d (.bool false), .d (.bool false)], zv := .agg #[.bool false, .bool false, .bool false, .bool false, .bool false, .bool false, .bool false, .bool false], desc := .array 8 4, offs := [] }
theorem tf172 : TabFact Tryz.prog 172 ti172 := ⟨by kernel_rfl, by kernel_rfl, (fun φ w F => ⟨#[.bool false, .bool false, .bool false, .bool false, .bool false, .bool false, .bool false, .bool false], rfl, csims_const (φ := φ) (w := w) (F := F) [.bool false, .bool false, .bool false, .bool false, .bool false, .bool false, .bool false, .bool false]⟩), rfl, nofun, nofun⟩
def ti173 : TI := { size := 1, bytes := 8, zu := .one (.nilmap), zv := .map none, desc := .map 9 3, offs := [] }
theorem tf173 : TabFact Tryz.prog 173 ti173 := ⟨by kernel_rfl, by kernel_rfl, (fun φ w F => csim_const (φ := φ) (w := w) (F := F) (.map none)), rfl, nofun, nofun⟩
def ti175 : TI := { size := 2, bytes := 32, zu := .agg [.d .nil, .nilmap], zv := .agg #[.slice none 0 0, .map none], desc := .struct #[⟨"nodes", 23, 0, false, "", "cellular/reduce", 0⟩, ⟨"known", 173, 1, false, "", "cellular/reduce", 24⟩], offs := [(0, 1), (1, 1)] }
theorem tf175 : TabFact Tryz.prog 175 ti175 := ⟨by kernel_rfl, by kernel_rfl, (fun φ w F => ⟨#[.slice none 0 0, .map none], rfl, csims_const (φ := φ) (w := w) (F := F) [.slice none 0 0, .map none]⟩), rfl, (fun fs h => by cases h; kernel_rfl), (fun fs h => by cases h; kernel_rfl)⟩
def ti182 : TI := { size := 7, bytes := 88, zu := .agg [.d (.bool false), .d (.int .i64 0), .d (.int .i64 0), .d (.int .i64 0), .d (.int .i64 0), .d .nil, .d .nil], zv := .agg #[.bool false, .int .i64 0, .int .i64 0, .int .i64 0, .int .i64 0, .slice none 0 0, .slice none 0 0], desc := .struct #[⟨"flat", 4, 0, false, "", "cellular/cellularref20", 0⟩, ⟨"box", 71, 1, false, "", "cellular/cellularref20", 8⟩, ⟨"cells", 26, 5, false, "", "cellular/cellularref20", 40⟩, ⟨"list", 43, 6, false, "", "cellular/cellularref20", 64⟩], offs := [(0, 1), (1, 4), (5, 1), (6, 1)] }
theorem tf182 : TabFact Tryz.prog 182 ti182 := ⟨by kernel_rfl, by kernel_rfl, (fun φ w F => ⟨#[.bool false, .int .i64 0, .int .i64 0, .int .i64 0, .int .i64 0, .slice none 0 0, .slice none 0 0], rfl, csims_const (φ := φ) (w := w) (F := F) [.bool false, .int .i64 0, .int .i64 0, .int .i64 0, .int .i64 0, .slice none 0 0, .slice none 0 0]⟩), rfl, (fun fs h => by cases h; kernel_rfl), (fun fs h => by cases h; kernel_rfl)⟩
def ti187 : TI := { size := 1, bytes := 8, zu := .one (.top), zv := .pointer none, desc := .pointer 175, offs := [] }
theorem tf187 : TabFact Tryz.prog 187 ti187 := ⟨by kernel_rfl, by kernel_rfl, (fun φ w F => csim_const (φ := φ) (w := w) (F := F) (.pointer none)), rfl, nofun, nofun⟩
def ti206 : TI := { size := 1, bytes := 8, zu := .one (.d (.int .u64 0)), zv := .int .u64 0, desc := .int .u64, offs := [] }
theorem tf206 : TabFact Tryz.prog 206 ti206 := ⟨by kernel_rfl, by kernel_rfl, (fun φ w F => csim_const (φ := φ) (w := w) (F := F) (.int .u64 0)), rfl, nofun, nofun⟩
def ti215 : TI := { size := 24, bytes := 24, zu := .agg [.d (.int .u8 0), .d (.int .u8 0), .d (.int .u8 0), .d (.int .u8 0), .d (.int .u8 0), .d (.int .u8 0), .d (.int .u8 0), .d (.int .u8 0), .d (.int .u8 0), .d (.int .u8 0), .d (.int .u8 0), .d (.int .u8 0), .d (.int .u8 0), .d (.int .u8 0), .d (.int .u8 0), .d (.int .u8 0), .d (.int .u8 0), .d (.int .u8 0), .d (.int .u8 0), .d (.int .u8 0), .d (.int .u8 0), .d (.int .u8 0), .d (.int .u8 0), .d (.int .u8 0)], zv := .agg #[.int .u8 0, .int .u8 0, .int .u8 0, .int .u8 0, .int .u8 0, .int .u8 0, .int .u8 0, .int .u8 0, .int .u8 0, .int .u8 0, .int .u8 0, .int .u8 0, .int .u8 0, .int .u8 0, .int .u8 0, .int .u8 0, .int .u8 0, .int .u8 0, .int .u8 0, .int .u8 0, .int .u8 0, .int .u8 0, .int .u8 0, .int .u8 0], desc := .array 24 5, offs := [] }
theorem tf215 : TabFact Tryz.prog 215 ti215 := ⟨by kernel_rfl, by kernel_rfl, (fun φ w F => ⟨#[.int .u8 0, .int .u8 0, .int .u8 0, .int .u8 0, .int .u8 0, .int .u8 0, .int .u8 0, .int .u8 0, .int .u8 0, .int .u8 0, .int .u8 0, .int .u8 0, .int .u8 0, .int .u8 0, .int .u8 0, .int .u8 0, .int .u8 0, .int .u8 0, .int .u8 0, .int .u8 0, .int .u8 0, .int .u8 0, .int .u8 0, .int .u8 0], rfl, csims_const (φ := φ) (w := w) (F := F) [.int .u8 0, .int .u8 0, .int .u8 0, .int .u8 0, .int .u8 0, .int .u8 0, .int .u8 0, .int .u8 0, .int .u8 0, .int .u8 0, .int .u8 0, .int .u8 0, .int .u8 0, .int .u8 0, .int .u8 0, .int .u8 0, .int .u8 0, .int .u8 0, .int .u8 0, .int .u8 0, .int .u8 0, .int .u8 0, .int .u8 0, .int .u8 0]⟩), rfl, nofun, nofun⟩
def ti223 : TI := { size := 20, bytes := 160, zu := .agg [.d (.int .u64 0), .d (.int .u64 0), .d (.int .u64 0), .d (.int .u64 0), .d (.int .u64 0), .d (.int .u64 0), .d (.int .u64 0), .d (.int .u64 0), .d (.int .u64 0), .d (.int .u64 0), .d (.int .u64 0), .d (.int .u64 0), .d (.int .u64 0), .d (.int .u64 0), .d (.int .u64 0), .d (.int .u64 0), .d (.int .u64 0), .d (.int .u64 0), .d (.int .u64 0), .d (.int .u64 0)], zv := .agg #[.int .u64 0, .int .u64 0, .int .u64 0, .int .u64 0, .int .u64 0, .int .u64 0, .int .u64 0, .int .u64 0, .int .u64 0, .int .u64 0, .int .u64 0, .int .u64 0, .int .u64 0, .int .u64 0, .int .u64 0, .int .u64 0, .int .u64 0, .int .u64 0, .int .u64 0, .int .u64 0], desc := .array 20 206, offs := [] }
theorem tf223 : TabFact Tryz.prog 223 ti223 := ⟨by kernel_rfl, by kernel_rfl, (fun φ w F => ⟨#[.int .u64 0, .int .u64 0, .int .u64 0, .int .u64 0, .int .u64 0, .int .u64 0, .int .u64 0, .int .u64 0, .int .u64 0, .int .u64 0, .int .u64 0, .int .u64 0, .int .u64 0, .int .u64 0, .int .u64 0, .int .u64 0, .int .u64 0, .int .u64 0, .int .u64 0, .int .u64 0], rfl, csims_const (φ := φ) (w := w) (F := F) [.int .u64 0, .int .u64 0, .int .u64 0, .int .u64 0, .int .u64 0, .int .u64 0, .int .u64 0, .int .u64 0, .int .u64 0, .int .u64 0, .int .u64 0, .int .u64 0, .int .u64 0, .int .u64 0, .int .u64 0, .int .u64 0, .int .u64 0, .int .u64 0, .int .u64 0, .int .u64 0]⟩), rfl, nofun, nofun⟩
def ti225 : TI := { size := 32, bytes := 32, zu := .agg [.d (.int .u8 0), .d (.int .u8 0), .d (.int .u8 0), .d (.int .u8 0), .d (.int .u8 0), .d (.int .u8 0), .d (.int .u8 0), .d (.int .u8 0), .d (.int .u8 0), .d (.int .u8 0), .d (.int .u8 0), .d (.int .u8 0), .d (.int .u8 0), .d (.int .u8 0), .d (.int .u8 0), .d (.int .u8 0), .d (.int .u8 0), .d (.int .u8 0), .d (.int .u8 0), .d (.int .u8 0), .d (.int .u8 0), .d (.int .u8 0), .d (.int .u8 0), .d (.int .u8 0), .d (.int .u8 0), .d (.int .u8 0), .d (.int .u8 0), .d (.int .u8 0), .d (.int .u8 0), .d (.int .u8 0), .d (.int .u8 0), .d (.int .u8 0)], zv := .agg #[.int .u8 0, .int .u8 0, .int .u8 0, .int .u8 0, .int .u8 0, .int .u8 0, .int .u8 0, .int .u8 0, .int .u8 0, .int .u8 0, .int .u8 0, .int .u8 0, .int .u8 0, .int .u8 0, .int .u8 0, .int .u8 0, .int .u8 0, .int .u8 0, .int .u8 0, .int .u8 0, .int .u8 0, .int .u8 0, .int .u8 0, .int .u8 0, .int .u8 0, .int .u8 0, .int .u8 0, .int .u8 0, .int .u8 0, .int .u8 0, .int .u8 0, .int .u8 0], desc := .array 32 5, offs := [] }
theorem tf225 : TabFact Tryz.prog 225 ti225 := ⟨by kernel_rfl, by kernel_rfl, (fun φ w F => ⟨#[.int .u8 0, .int .u8 0, .int .u8 0, .int .u8 0, .int .u8 0, .int .u8 0, .int .u8 0, .int .u8 0, .int .u8 0, .int .u8 0, .int .u8 0, .int .u8 0, .int .u8 0, .int .u8 0, .int .u8 0, .int .u8 0, .int .u8 0, .int .u8 0, .int .u8 0, .int .u8 0, .int .u8 0, .int .u8 0, .int .u8 0, .int .u8 0, .int .u8 0, .int .u8 0, .int .u8 0, .int .u8 0, .int .u8 0, .int .u8 0, .int .u8 0, .int .u8 0], rfl, csims_const (φ := φ) (w := w) (F := F) [.int .u8 0, .int .u8 0, .int .u8 0, .int .u8 0, .int .u8 0, .int .u8 0, .int .u8 0, .int .u8 0, .int .u8 0, .int .u8 0, .int .u8 0, .int .u8 0, .int .u8 0, .int .u8 0, .int .u8 0, .int .u8 0, .int .u8 0, .int .u8 0, .int .u8 0, .int .u8 0, .int .u8 0, .int .u8 0, .int .u8 0, .int .u8 0, .int .u8 0, .int .u8 0, .int .u8 0, .int .u8 0, .int .u8 0, .int .u8 0, .int .u8 0, .int .u8 0]⟩), rfl, nofun, nofun⟩
def ty : Tab := fun t => match t with
 | 2 => some ti2
 | 3 => some ti3
 | 4 => some ti4
 | 5 => some ti5
 | 9 => some ti9
 | 22 => some ti22
 | 23 => some ti23
 | 25 => some ti25
 | 26 => some ti26
 | 28 => some ti28
 | 31 => some ti31
 | 33 => some ti33
 | 34 => some ti34
 | 39 => some ti39
 | 42 => some ti42
 | 43 => some ti43
 | 44 => some ti44
 | 51 => some ti51
 | 52 => some ti52
 | 54 => some ti54
 | 56 => some ti56
 | 60 => some ti60
 | 63 => some ti63
 | 68 => some ti68
 | 71 => some ti71
 | 72 => some ti72
 | 74 => some ti74
 | 76 => some ti76
 | 78 => some ti78
 | 80 => some ti80
 | 88 => some ti88
 | 93 => some ti93
 | 95 => some ti95
 | 103 => some ti103
 | 113 => some ti113
 | 142 => some ti142
 | 145 => some ti145
 | 152 => some ti152
 | 155 => some ti155
 | 156 => some ti156
 | 157 => some ti157
 | 168 => some ti168
 | 170 => some ti170
 | 172 => some ti172
 | 173 => some ti173
 | 175 => some ti175
 | 182 => some ti182
 | 187 => some ti187
 | 206 => some ti206
 | 215 => some ti215
 | 223 => some ti223
 | 225 => some ti225
 | _ => none
theorem ty_ok : TabOk Tryz.prog ty := by
 intro t ti h
 unfold ty at h
 split at h
 ·cases h; exact tf2
 ·cases h; exact tf3
 ·cases h; exact tf4
 ·cases h; exact tf5
 ·cases h; exact tf9
 ·cases h; exact tf22
 ·cases h; exact tf23
 ·cases h; exact tf25
 ·cases h; exact tf26
 ·cases h; exact tf28
 ·cases h; exact tf31
 ·cases h; exact tf33
 ·cases h; exact tf34
 ·cases h; exact tf39
 ·cases h; exact tf42
 ·cases h; exact tf43
 ·cases h; exact tf44
 ·cases h; exact tf51
 ·cases h; exact tf52
 ·cases h; exact tf54
 ·cases h; exact tf56
 ·cases h; exact tf60
 ·cases h; exact tf63
 ·cases h; exact tf68
 ·cases h; exact tf71
 ·cases h; exact tf72
 ·cases h; exact tf74
 ·cases h; exact tf76
 ·cases h; exact tf78
 ·cases h; exact tf80
 ·cases h; exact tf88
 ·cases h; exact tf93
 ·cases h; exact tf95
 ·cases h; exact tf103
 ·cases h; exact tf113
 ·cases h; exact tf142
 ·cases h; exact tf145
 ·cases h; exact tf152
 ·cases h; exact tf155
 ·cases h; exact tf156
 ·cases h; exact tf157
 ·cases h; exact tf168
 ·cases h; exact tf170
 ·cases h; exact tf172
 ·cases h; exact tf173
 ·cases h; exact tf175
 ·cases h; exact tf182
 ·cases h; exact tf187
 ·cases h; exact tf206
 ·cases h; exact tf215
 ·cases h; exact tf223
 ·cases h; exact tf225
 ·cases h
def eqn : TypeId -> Option Nat := fun t => match t with
 | 56 => some 2
 | 63 => some 3
 | 71 => some 4
 | _ => none
theorem ef56 : intFields Tryz.prog 56 2 := by
 refine ⟨#[⟨"X", 3, 0, false, "", "", 0⟩, ⟨"Y", 3, 1, false, "", "", 8⟩], by kernel_rfl, by kernel_rfl, by kernel_rfl, rfl, fun i f h => ?_⟩
 match i, h with
 | 0, h => cases h; exact ⟨by decide, rfl, .i64, by kernel_rfl⟩
 | 1, h => cases h; exact ⟨by decide, rfl, .i64, by kernel_rfl⟩
 | i + 2, h => simp at h
theorem ef63 : intFields Tryz.prog 63 3 := by
 refine ⟨#[⟨"X", 3, 0, false, "", "", 0⟩, ⟨"Y", 3, 1, false, "", "", 8⟩, ⟨"S", 3, 2, false, "", "", 16⟩], by kernel_rfl, by kernel_rfl, by kernel_rfl, rfl, fun i f h => ?_⟩
 match i, h with
 | 0, h => cases h; exact ⟨by decide, rfl, .i64, by kernel_rfl⟩
 | 1, h => cases h; exact ⟨by decide, rfl, .i64, by kernel_rfl⟩
 | 2, h => cases h; exact ⟨by decide, rfl, .i64, by kernel_rfl⟩
 | i + 3, h => simp at h
theorem ef71 : intFields Tryz.prog 71 4 := by
 refine ⟨#[⟨"X", 3, 0, false, "", "", 0⟩, ⟨"Y", 3, 1, false, "", "", 8⟩, ⟨"W", 3, 2, false, "", "", 16⟩, ⟨"H", 3, 3, false, "", "", 24⟩], by kernel_rfl, by kernel_rfl, by kernel_rfl, rfl, fun i f h => ?_⟩
 match i, h with
 | 0, h => cases h; exact ⟨by decide, rfl, .i64, by kernel_rfl⟩
 | 1, h => cases h; exact ⟨by decide, rfl, .i64, by kernel_rfl⟩
 | 2, h => cases h; exact ⟨by decide, rfl, .i64, by kernel_rfl⟩
 | 3, h => cases h; exact ⟨by decide, rfl, .i64, by kernel_rfl⟩
 | i + 4, h => simp at h
theorem eqn_ok : ∀ t n, eqn t = some n -> intFields Tryz.prog t n := by
 intro t n h
 unfold eqn at h
 split at h
 ·cases h; exact ef56
 ·cases h; exact ef63
 ·cases h; exact ef71
 ·cases h
def key : TypeId -> Option KK := fun t => match t with
 | 9 => some .str
 | 56 => some (.ints 2)
 | _ => none
theorem kf9 : Maps.Keyed Tryz.prog 9 /\ ∀ k : Key, k.fits .str = true -> ∃ l, keyOf Tryz.prog 9 k.val = some l := key_str (by kernel_rfl)
theorem kf56 : Maps.Keyed Tryz.prog 56 /\ ∀ k : Key, k.fits (.ints 2) = true -> ∃ l, keyOf Tryz.prog 56 k.val = some l :=
 key_ints (fs := #[⟨"X", 3, 0, false, "", "", 0⟩, ⟨"Y", 3, 1, false, "", "", 8⟩]) (by kernel_rfl) (by kernel_rfl) (by kernel_rfl) (by kernel_rfl) (by kernel_rfl) (by kernel_rfl) (by
  intro i f h
  match i, h with
  | 0, h => cases h; exact ⟨by decide, rfl, by kernel_rfl, by kernel_rfl⟩
  | 1, h => cases h; exact ⟨by decide, rfl, by kernel_rfl, by kernel_rfl⟩
  | i + 2, h => simp at h)
theorem key_ok : ∀ t kk, key t = some kk -> Maps.Keyed Tryz.prog t /\ ∀ k : Key, k.fits kk = true -> ∃ l, keyOf Tryz.prog t k.val = some l := by
 intro t kk h
 unfold key at h
 split at h
 ·cases h; exact kf9
 ·cases h; exact kf56
 ·cases h
def tb : Tb := { ty := ty, eqn := eqn, key := key }
theorem bm : TbOk Tryz.prog tb := ⟨ty_ok, eqn_ok, key_ok, (fun _ _ _ h => by cases h), (fun _ _ _ _ _ _ _ _ _ h => by cases h)⟩
theorem mixed : Tryz.prog.follows .mixedOrders = true := by kernel_rfl
end Go.Proofs.YtjfjmdmdkbpdfaaGreatDoor
