/- The table of the types of this seat, made by program (gen_tab.py), and that it holds. -/
import Derived.Test.YtfpjnmhdbgbmmaaGreatDoorRows
import Derived.Test.YtfpjnmhdbgbmmaaGreatDoorAmO
namespace Go.Proofs.YtfpjnmhdbgbmmaaGreatDoor
open Go.AM Go.Proofs
def ti2 : TI := { size := 1, bytes := 8, zu := .one (.d (.int .i64 0)), zv := .int .i64 0, desc := .int .i64, offs := [] }
theorem tf2 : TabFact Tryz.prog 2 ti2 := ⟨by kernel_rfl, by kernel_rfl, (fun φ w F => csim_const (φ := φ) (w := w) (F := F) (.int .i64 0)), rfl, nofun, nofun⟩
def ti3 : TI := { size := 1, bytes := 8, zu := .one (.d (.int .i64 0)), zv := .int .i64 0, desc := .int .i64, offs := [] }
theorem tf3 : TabFact Tryz.prog 3 ti3 := ⟨by kernel_rfl, by kernel_rfl, (fun φ w F => csim_const (φ := φ) (w := w) (F := F) (.int .i64 0)), rfl, nofun, nofun⟩
def ti4 : TI := { size := 1, bytes := 1, zu := .one (.d (.bool false)), zv := .bool false, desc := .bool, offs := [] }
theorem tf4 : TabFact Tryz.prog 4 ti4 := ⟨by kernel_rfl, by kernel_rfl, (fun φ w F => csim_const (φ := φ) (w := w) (F := F) (.bool false)), rfl, nofun, nofun⟩
def ti5 : TI := { size := 1, bytes := 1, zu := .one (.d (.int .u8 0)), zv := .int .u8 0, desc := .int .u8, offs := [] }
theorem tf5 : TabFact Tryz.prog 5 ti5 := ⟨by kernel_rfl, by kernel_rfl, (fun φ w F => csim_const (φ := φ) (w := w) (F := F) (.int .u8 0)), rfl, nofun, nofun⟩
def ti9 : TI := { size := 1, bytes := 16, zu := .one (.d (.str ⟨#[]⟩)), zv := .string ⟨#[]⟩, desc := .string, offs := [] }
theorem tf9 : TabFact Tryz.prog 9 ti9 := ⟨by kernel_rfl, by kernel_rfl, (fun φ w F => csim_const (φ := φ) (w := w) (F := F) (.string ⟨#[]⟩)), rfl, nofun, nofun⟩
def ti22 : TI := { size := 1, bytes := 24, zu := .one (.d .nil), zv := .slice none 0 0, desc := .slice 71, offs := [] }
theorem tf22 : TabFact Tryz.prog 22 ti22 := ⟨by kernel_rfl, by kernel_rfl, (fun φ w F => csim_const (φ := φ) (w := w) (F := F) (.slice none 0 0)), rfl, nofun, nofun⟩
def ti23 : TI := { size := 1, bytes := 24, zu := .one (.d .nil), zv := .slice none 0 0, desc := .slice 75, offs := [] }
theorem tf23 : TabFact Tryz.prog 23 ti23 := ⟨by kernel_rfl, by kernel_rfl, (fun φ w F => csim_const (φ := φ) (w := w) (F := F) (.slice none 0 0)), rfl, nofun, nofun⟩
def ti25 : TI := { size := 3, bytes := 56, zu := .agg [.d (.int .i64 0), .d .nil, .d .nil], zv := .agg #[.int .i64 0, .slice none 0 0, .slice none 0 0], desc := .struct #[⟨"States", 3, 0, false, "", "", 0⟩, ⟨"Hood", 22, 1, false, "", "", 8⟩, ⟨"Nodes", 23, 2, false, "", "", 32⟩], offs := [(0, 1), (1, 1), (2, 1)] }
theorem tf25 : TabFact Tryz.prog 25 ti25 := ⟨by kernel_rfl, by kernel_rfl, (fun φ w F => ⟨#[.int .i64 0, .slice none 0 0, .slice none 0 0], rfl, csims_const (φ := φ) (w := w) (F := F) [.int .i64 0, .slice none 0 0, .slice none 0 0]⟩), rfl, (fun fs h => by cases h; kernel_rfl), (fun fs h => by cases h; kernel_rfl)⟩
def ti26 : TI := { size := 1, bytes := 24, zu := .one (.d .nil), zv := .slice none 0 0, desc := .slice 57, offs := [] }
theorem tf26 : TabFact Tryz.prog 26 ti26 := ⟨by kernel_rfl, by kernel_rfl, (fun φ w F => csim_const (φ := φ) (w := w) (F := F) (.slice none 0 0)), rfl, nofun, nofun⟩
def ti27 : TI := { size := 1, bytes := 24, zu := .one (.d .nil), zv := .slice none 0 0, desc := .slice 57, offs := [] }
theorem tf27 : TabFact Tryz.prog 27 ti27 := ⟨by kernel_rfl, by kernel_rfl, (fun φ w F => csim_const (φ := φ) (w := w) (F := F) (.slice none 0 0)), rfl, nofun, nofun⟩
def ti29 : TI := { size := 3, bytes := 24, zu := .agg [.d (.int .i64 0), .d (.int .i64 0), .d (.int .i64 0)], zv := .agg #[.int .i64 0, .int .i64 0, .int .i64 0], desc := .struct #[⟨"Period", 3, 0, false, "", "", 0⟩, ⟨"DX", 3, 1, false, "", "", 8⟩, ⟨"DY", 3, 2, false, "", "", 16⟩], offs := [(0, 1), (1, 1), (2, 1)] }
theorem tf29 : TabFact Tryz.prog 29 ti29 := ⟨by kernel_rfl, by kernel_rfl, (fun φ w F => ⟨#[.int .i64 0, .int .i64 0, .int .i64 0], rfl, csims_const (φ := φ) (w := w) (F := F) [.int .i64 0, .int .i64 0, .int .i64 0]⟩), rfl, (fun fs h => by cases h; kernel_rfl), (fun fs h => by cases h; kernel_rfl)⟩
def ti31 : TI := { size := 4, bytes := 48, zu := .agg [.d .nil, .d (.int .i64 0), .d (.int .i64 0), .d (.int .i64 0)], zv := .agg #[.slice none 0 0, .int .i64 0, .int .i64 0, .int .i64 0], desc := .struct #[⟨"Cells", 27, 0, false, "", "", 0⟩, ⟨"Motion", 29, 1, false, "", "", 24⟩], offs := [(0, 1), (1, 3)] }
theorem tf31 : TabFact Tryz.prog 31 ti31 := ⟨by kernel_rfl, by kernel_rfl, (fun φ w F => ⟨#[.slice none 0 0, .int .i64 0, .int .i64 0, .int .i64 0], rfl, csims_const (φ := φ) (w := w) (F := F) [.slice none 0 0, .int .i64 0, .int .i64 0, .int .i64 0]⟩), rfl, (fun fs h => by cases h; kernel_rfl), (fun fs h => by cases h; kernel_rfl)⟩
def ti33 : TI := { size := 1, bytes := 24, zu := .one (.d .nil), zv := .slice none 0 0, desc := .slice 31, offs := [] }
theorem tf33 : TabFact Tryz.prog 33 ti33 := ⟨by kernel_rfl, by kernel_rfl, (fun φ w F => csim_const (φ := φ) (w := w) (F := F) (.slice none 0 0)), rfl, nofun, nofun⟩
def ti35 : TI := { size := 1, bytes := 8, zu := .one (.d (.int .i64 0)), zv := .int .i64 0, desc := .int .i64, offs := [] }
theorem tf35 : TabFact Tryz.prog 35 ti35 := ⟨by kernel_rfl, by kernel_rfl, (fun φ w F => csim_const (φ := φ) (w := w) (F := F) (.int .i64 0)), rfl, nofun, nofun⟩
def ti42 : TI := { size := 5, bytes := 40, zu := .agg [.d (.int .i64 0), .d (.int .i64 0), .d (.int .i64 0), .d (.int .i64 0), .d (.int .i64 0)], zv := .agg #[.int .i64 0, .int .i64 0, .int .i64 0, .int .i64 0, .int .i64 0], desc := .struct #[⟨"Ship", 3, 0, false, "", "", 0⟩, ⟨"Phase", 3, 1, false, "", "", 8⟩, ⟨"Sym", 3, 2, false, "", "", 16⟩, ⟨"X", 3, 3, false, "", "", 24⟩, ⟨"Y", 3, 4, false, "", "", 32⟩], offs := [(0, 1), (1, 1), (2, 1), (3, 1), (4, 1)] }
theorem tf42 : TabFact Tryz.prog 42 ti42 := ⟨by kernel_rfl, by kernel_rfl, (fun φ w F => ⟨#[.int .i64 0, .int .i64 0, .int .i64 0, .int .i64 0, .int .i64 0], rfl, csims_const (φ := φ) (w := w) (F := F) [.int .i64 0, .int .i64 0, .int .i64 0, .int .i64 0, .int .i64 0]⟩), rfl, (fun fs h => by cases h; kernel_rfl), (fun fs h => by cases h; kernel_rfl)⟩
def ti44 : TI := { size := 1, bytes := 24, zu := .one (.d .nil), zv := .slice none 0 0, desc := .slice 42, offs := [] }
theorem tf44 : TabFact Tryz.prog 44 ti44 := ⟨by kernel_rfl, by kernel_rfl, (fun φ w F => csim_const (φ := φ) (w := w) (F := F) (.slice none 0 0)), rfl, nofun, nofun⟩
def ti57 : TI := { size := 3, bytes := 24, zu := .agg [.d (.int .i64 0), .d (.int .i64 0), .d (.int .i64 0)], zv := .agg #[.int .i64 0, .int .i64 0, .int .i64 0], desc := .struct #[⟨"X", 3, 0, false, "", "", 0⟩, ⟨"Y", 3, 1, false, "", "", 8⟩, ⟨"S", 3, 2, false, "", "", 16⟩], offs := [(0, 1), (1, 1), (2, 1)] }
theorem tf57 : TabFact Tryz.prog 57 ti57 := ⟨by kernel_rfl, by kernel_rfl, (fun φ w F => ⟨#[.int .i64 0, .int .i64 0, .int .i64 0], rfl, csims_const (φ := φ) (w := w) (F := F) [.int .i64 0, .int .i64 0, .int .i64 0]⟩), rfl, (fun fs h => by cases h; kernel_rfl), (fun fs h => by cases h; kernel_rfl)⟩
def ti62 : TI := { size := 4, bytes := 32, zu := .agg [.d (.int .i64 0), .d (.int .i64 0), .d (.int .i64 0), .d (.int .i64 0)], zv := .agg #[.int .i64 0, .int .i64 0, .int .i64 0, .int .i64 0], desc := .struct #[⟨"X", 3, 0, false, "", "", 0⟩, ⟨"Y", 3, 1, false, "", "", 8⟩, ⟨"W", 3, 2, false, "", "", 16⟩, ⟨"H", 3, 3, false, "", "", 24⟩], offs := [(0, 1), (1, 1), (2, 1), (3, 1)] }
theorem tf62 : TabFact Tryz.prog 62 ti62 := ⟨by kernel_rfl, by kernel_rfl, (fun φ w F => ⟨#[.int .i64 0, .int .i64 0, .int .i64 0, .int .i64 0], rfl, csims_const (φ := φ) (w := w) (F := F) [.int .i64 0, .int .i64 0, .int .i64 0, .int .i64 0]⟩), rfl, (fun fs h => by cases h; kernel_rfl), (fun fs h => by cases h; kernel_rfl)⟩
def ti68 : TI := { size := 1, bytes := 8, zu := .one (.top), zv := .nilFunc, desc := .func #[3, 3] #[4] false, offs := [] }
theorem tf68 : TabFact Tryz.prog 68 ti68 := ⟨by kernel_rfl, by kernel_rfl, (fun φ w F => csim_const (φ := φ) (w := w) (F := F) (.nilFunc)), rfl, nofun, nofun⟩
def ti71 : TI := { size := 2, bytes := 16, zu := .agg [.d (.int .i64 0), .d (.int .i64 0)], zv := .agg #[.int .i64 0, .int .i64 0], desc := .struct #[⟨"X", 3, 0, false, "", "", 0⟩, ⟨"Y", 3, 1, false, "", "", 8⟩], offs := [(0, 1), (1, 1)] }
theorem tf71 : TabFact Tryz.prog 71 ti71 := ⟨by kernel_rfl, by kernel_rfl, (fun φ w F => ⟨#[.int .i64 0, .int .i64 0], rfl, csims_const (φ := φ) (w := w) (F := F) [.int .i64 0, .int .i64 0]⟩), rfl, (fun fs h => by cases h; kernel_rfl), (fun fs h => by cases h; kernel_rfl)⟩
def ti73 : TI := { size := 1, bytes := 24, zu := .one (.d .nil), zv := .slice none 0 0, desc := .slice 3, offs := [] }
theorem tf73 : TabFact Tryz.prog 73 ti73 := ⟨by kernel_rfl, by kernel_rfl, (fun φ w F => csim_const (φ := φ) (w := w) (F := F) (.slice none 0 0)), rfl, nofun, nofun⟩
def ti75 : TI := { size := 2, bytes := 32, zu := .agg [.d (.int .i64 0), .d .nil], zv := .agg #[.int .i64 0, .slice none 0 0], desc := .struct #[⟨"Level", 3, 0, false, "", "", 0⟩, ⟨"Next", 73, 1, false, "", "", 8⟩], offs := [(0, 1), (1, 1)] }
theorem tf75 : TabFact Tryz.prog 75 ti75 := ⟨by kernel_rfl, by kernel_rfl, (fun φ w F => ⟨#[.int .i64 0, .slice none 0 0], rfl, csims_const (φ := φ) (w := w) (F := F) [.int .i64 0, .slice none 0 0]⟩), rfl, (fun fs h => by cases h; kernel_rfl), (fun fs h => by cases h; kernel_rfl)⟩
def ti79 : TI := { size := 4, bytes := 80, zu := .agg [.d .nil, .d (.int .i64 0), .d .nil, .d .nil], zv := .agg #[.slice none 0 0, .int .i64 0, .slice none 0 0, .slice none 0 0], desc := .struct #[⟨"Hood", 22, 0, false, "", "", 0⟩, ⟨"States", 3, 1, false, "", "", 24⟩, ⟨"Birth", 73, 2, false, "", "", 32⟩, ⟨"Survive", 73, 3, false, "", "", 56⟩], offs := [(0, 1), (1, 1), (2, 1), (3, 1)] }
theorem tf79 : TabFact Tryz.prog 79 ti79 := ⟨by kernel_rfl, by kernel_rfl, (fun φ w F => ⟨#[.slice none 0 0, .int .i64 0, .slice none 0 0, .slice none 0 0], rfl, csims_const (φ := φ) (w := w) (F := F) [.slice none 0 0, .int .i64 0, .slice none 0 0, .slice none 0 0]⟩), rfl, (fun fs h => by cases h; kernel_rfl), (fun fs h => by cases h; kernel_rfl)⟩
def ti86 : TI := { size := 1, bytes := 24, zu := .one (.d .nil), zv := .slice none 0 0, desc := .slice 73, offs := [] }
theorem tf86 : TabFact Tryz.prog 86 ti86 := ⟨by kernel_rfl, by kernel_rfl, (fun φ w F => csim_const (φ := φ) (w := w) (F := F) (.slice none 0 0)), rfl, nofun, nofun⟩
def ti87 : TI := { size := 1, bytes := 24, zu := .one (.d .nil), zv := .slice none 0 0, desc := .slice 208, offs := [] }
theorem tf87 : TabFact Tryz.prog 87 ti87 := ⟨by kernel_rfl, by kernel_rfl, (fun φ w F => csim_const (φ := φ) (w := w) (F := F) (.slice none 0 0)), rfl, nofun, nofun⟩
def ti89 : TI := { size := 5, bytes := 88, zu := .agg [.d (.int .i64 0), .d (.int .i64 0), .d .nil, .d .nil, .d .nil], zv := .agg #[.int .i64 0, .int .i64 0, .slice none 0 0, .slice none 0 0, .slice none 0 0], desc := .struct #[⟨"States", 3, 0, false, "", "", 0⟩, ⟨"Sym", 3, 1, false, "", "", 8⟩, ⟨"Hood", 22, 2, false, "", "", 16⟩, ⟨"Vars", 86, 3, false, "", "", 40⟩, ⟨"Rows", 87, 4, false, "", "", 64⟩], offs := [(0, 1), (1, 1), (2, 1), (3, 1), (4, 1)] }
theorem tf89 : TabFact Tryz.prog 89 ti89 := ⟨by kernel_rfl, by kernel_rfl, (fun φ w F => ⟨#[.int .i64 0, .int .i64 0, .slice none 0 0, .slice none 0 0, .slice none 0 0], rfl, csims_const (φ := φ) (w := w) (F := F) [.int .i64 0, .int .i64 0, .slice none 0 0, .slice none 0 0, .slice none 0 0]⟩), rfl, (fun fs h => by cases h; kernel_rfl), (fun fs h => by cases h; kernel_rfl)⟩
def ti108 : TI := { size := 4, bytes := 32, zu := .agg [.d (.int .i64 0), .d (.int .i64 0), .d (.int .i64 0), .d (.int .i64 0)], zv := .agg #[.int .i64 0, .int .i64 0, .int .i64 0, .int .i64 0], desc := .array 4 3, offs := [] }
theorem tf108 : TabFact Tryz.prog 108 ti108 := ⟨by kernel_rfl, by kernel_rfl, (fun φ w F => ⟨#[.int .i64 0, .int .i64 0, .int .i64 0, .int .i64 0], rfl, csims_const (φ := φ) (w := w) (F := F) [.int .i64 0, .int .i64 0, .int .i64 0, .int .i64 0]⟩), rfl, nofun, nofun⟩
def ti109 : TI := { size := 32, bytes := 256, zu := .agg [.d (.int .i64 0), .d (.int .i64 0), .d (.int .i64 0), .d (.int .i64 0), .d (.int .i64 0), .d (.int .i64 0), .d (.int .i64 0), .d (.int .i64 0), .d (.int .i64 0), .d (.int .i64 0), .d (.int .i64 0), .d (.int .i64 0), .d (.int .i64 0), .d (.int .i64 0), .d (.int .i64 0), .d (.int .i64 0), .d (.int .i64 0), .d (.int .i64 0), .d (.int .i64 0), .d (.int .i64 0), .d (.int .i64 0), .d (.int .i64 0), .d (.int .i64 0), .d (.int .i64 0), .d (.int .i64 0), .d (.int .i64 0), .d (.int .i64 0), .d (.int .i64 0), .d (.int .i64 0), .d (.int .i64 0), .d (.int .i64 0), .d (.int .i64 0)], zv := .agg #[.int .i64 0, .int .i64 0, .int .i64 0, .int .i64 0, .int .i64 0, .int .i64 0, .int .i64 0, .int .i64 0, .int .i64 0, .int .i64 0, .int .i64 0, .int .i64 0, .int .i64 0, .int .i64 0, .int .i64 0, .int .i64 0, .int .i64 0, .int .i64 0, .int .i64 0, .int .i64 0, .int .i64 0, .int .i64 0, .int .i64 0, .int .i64 0, .int .i64 0, .int .i64 0, .int .i64 0, .int .i64 0, .int .i64 0, .int .i64 0, .int .i64 0, .int .i64 0], desc := .array 8 108, offs := [] }
theorem tf109 : TabFact Tryz.prog 109 ti109 := ⟨by kernel_rfl, by kernel_rfl, (fun φ w F => ⟨#[.int .i64 0, .int .i64 0, .int .i64 0, .int .i64 0, .int .i64 0, .int .i64 0, .int .i64 0, .int .i64 0, .int .i64 0, .int .i64 0, .int .i64 0, .int .i64 0, .int .i64 0, .int .i64 0, .int .i64 0, .int .i64 0, .int .i64 0, .int .i64 0, .int .i64 0, .int .i64 0, .int .i64 0, .int .i64 0, .int .i64 0, .int .i64 0, .int .i64 0, .int .i64 0, .int .i64 0, .int .i64 0, .int .i64 0, .int .i64 0, .int .i64 0, .int .i64 0], rfl, csims_const (φ := φ) (w := w) (F := F) [.int .i64 0, .int .i64 0, .int .i64 0, .int .i64 0, .int .i64 0, .int .i64 0, .int .i64 0, .int .i64 0, .int .i64 0, .int .i64 0, .int .i64 0, .int .i64 0, .int .i64 0, .int .i64 0, .int .i64 0, .int .i64 0, .int .i64 0, .int .i64 0, .int .i64 0, .int .i64 0, .int .i64 0, .int .i64 0, .int .i64 0, .int .i64 0, .int .i64 0, .int .i64 0, .int .i64 0, .int .i64 0, .int .i64 0, .int .i64 0, .int .i64 0, .int .i64 0]⟩), rfl, nofun, nofun⟩
def ti110 : TI := { size := 1, bytes := 8, zu := .one (.top), zv := .nilFunc, desc := .func #[3] #[3] false, offs := [] }
theorem tf110 : TabFact Tryz.prog 110 ti110 := ⟨by kernel_rfl, by kernel_rfl, (fun φ w F => csim_const (φ := φ) (w := w) (F := F) (.nilFunc)), rfl, nofun, nofun⟩
def ti130 : TI := { size := 2, bytes := 16, zu := .agg [.d (.int .i64 0), .d (.int .i64 0)], zv := .agg #[.int .i64 0, .int .i64 0], desc := .struct #[⟨"ones", 3, 0, false, "", "cellular/totaltree", 0⟩, ⟨"centre", 3, 1, false, "", "cellular/totaltree", 8⟩], offs := [(0, 1), (1, 1)] }
theorem tf130 : TabFact Tryz.prog 130 ti130 := ⟨by kernel_rfl, by kernel_rfl, (fun φ w F => ⟨#[.int .i64 0, .int .i64 0], rfl, csims_const (φ := φ) (w := w) (F := F) [.int .i64 0, .int .i64 0]⟩), rfl, (fun fs h => by cases h; kernel_rfl), (fun fs h => by cases h; kernel_rfl)⟩
def ti131 : TI := { size := 1, bytes := 8, zu := .one (.top), zv := .nilFunc, desc := .func #[130, 3, 3] #[130] false, offs := [] }
theorem tf131 : TabFact Tryz.prog 131 ti131 := ⟨by kernel_rfl, by kernel_rfl, (fun φ w F => csim_const (φ := φ) (w := w) (F := F) (.nilFunc)), rfl, nofun, nofun⟩
def ti133 : TI := { size := 1, bytes := 8, zu := .one (.top), zv := .nilFunc, desc := .func #[130] #[3] false, offs := [] }
theorem tf133 : TabFact Tryz.prog 133 ti133 := ⟨by kernel_rfl, by kernel_rfl, (fun φ w F => csim_const (φ := φ) (w := w) (F := F) (.nilFunc)), rfl, nofun, nofun⟩
def ti146 : TI := { size := 1, bytes := 8, zu := .one (.nilmap), zv := .map none, desc := .map 9 3, offs := [] }
theorem tf146 : TabFact Tryz.prog 146 ti146 := ⟨by kernel_rfl, by kernel_rfl, (fun φ w F => csim_const (φ := φ) (w := w) (F := F) (.map none)), rfl, nofun, nofun⟩
def ti158 : TI := { size := 1, bytes := 8, zu := .one (.top), zv := .nilFunc, desc := .func #[57, 57] #[3] false, offs := [] }
theorem tf158 : TabFact Tryz.prog 158 ti158 := ⟨by kernel_rfl, by kernel_rfl, (fun φ w F => csim_const (φ := φ) (w := w) (F := F) (.nilFunc)), rfl, nofun, nofun⟩
def ti168 : TI := { size := 1, bytes := 8, zu := .one (.nilmap), zv := .map none, desc := .map 71 3, offs := [] }
theorem tf168 : TabFact Tryz.prog 168 ti168 := ⟨by kernel_rfl, by kernel_rfl, (fun φ w F => csim_const (φ := φ) (w := w) (F := F) (.map none)), rfl, nofun, nofun⟩
def ti170 : TI := { size := 1, bytes := 8, zu := .one (.nilmap), zv := .map none, desc := .map 71 4, offs := [] }
theorem tf170 : TabFact Tryz.prog 170 ti170 := ⟨by kernel_rfl, by kernel_rfl, (fun φ w F => csim_const (φ := φ) (w := w) (F := F) (.map none)), rfl, nofun, nofun⟩
def ti174 : TI := { size := 1, bytes := 24, zu := .one (.d .nil), zv := .slice none 0 0, desc := .slice 27, offs := [] }
theorem tf174 : TabFact Tryz.prog 174 ti174 := ⟨by kernel_rfl, by kernel_rfl, (fun φ w F => csim_const (φ := φ) (w := w) (F := F) (.slice none 0 0)), rfl, nofun, nofun⟩
def ti182 : TI := { size := 1, bytes := 24, zu := .one (.d .nil), zv := .slice none 0 0, desc := .slice 5, offs := [] }
theorem tf182 : TabFact Tryz.prog 182 ti182 := ⟨by kernel_rfl, by kernel_rfl, (fun φ w F => csim_const (φ := φ) (w := w) (F := F) (.slice none 0 0)), rfl, nofun, nofun⟩
def ti188 : TI := { size := 1, bytes := 8, zu := .one (.nilmap), zv := .map none, desc := .map 191 3, offs := [] }
theorem tf188 : TabFact Tryz.prog 188 ti188 := ⟨by kernel_rfl, by kernel_rfl, (fun φ w F => csim_const (φ := φ) (w := w) (F := F) (.map none)), rfl, nofun, nofun⟩
def ti189 : TI := { size := 1, bytes := 8, zu := .one (.top), zv := .nilFunc, desc := .func #[191] #[3] false, offs := [] }
theorem tf189 : TabFact Tryz.prog 189 ti189 := ⟨by kernel_rfl, by kernel_rfl, (fun φ w F => csim_const (φ := φ) (w := w) (F := F) (.nilFunc)), rfl, nofun, nofun⟩
def ti191 : TI := { size := 3, bytes := 24, zu := .agg [.d (.int .i64 0), .d (.int .i64 0), .d (.int .i64 0)], zv := .agg #[.int .i64 0, .int .i64 0, .int .i64 0], desc := .struct #[⟨"at", 3, 0, false, "", "cellular/totaltree", 0⟩, ⟨"s", 130, 1, false, "", "cellular/totaltree", 8⟩], offs := [(0, 1), (1, 2)] }
theorem tf191 : TabFact Tryz.prog 191 ti191 := ⟨by kernel_rfl, by kernel_rfl, (fun φ w F => ⟨#[.int .i64 0, .int .i64 0, .int .i64 0], rfl, csims_const (φ := φ) (w := w) (F := F) [.int .i64 0, .int .i64 0, .int .i64 0]⟩), rfl, (fun fs h => by cases h; kernel_rfl), (fun fs h => by cases h; kernel_rfl)⟩
def ti208 : TI := { size := 2, bytes := 32, zu := .agg [.d .nil, .d (.int .i64 0)], zv := .agg #[.slice none 0 0, .int .i64 0], desc := .struct #[⟨"Ins", 73, 0, false, "", "", 0⟩, ⟨"Out", 3, 1, false, "", "", 24⟩], offs := [(0, 1), (1, 1)] }
theorem tf208 : TabFact Tryz.prog 208 ti208 := ⟨by kernel_rfl, by kernel_rfl, (fun φ w F => ⟨#[.slice none 0 0, .int .i64 0], rfl, csims_const (φ := φ) (w := w) (F := F) [.slice none 0 0, .int .i64 0]⟩), rfl, (fun fs h => by cases h; kernel_rfl), (fun fs h => by cases h; kernel_rfl)⟩
def ti217 : TI := { size := 1, bytes := 8, zu := .one (.d (.int .u64 0)), zv := .int .u64 0, desc := .int .u64, offs := [] }
theorem tf217 : TabFact Tryz.prog 217 ti217 := ⟨by kernel_rfl, by kernel_rfl, (fun φ w F => csim_const (φ := φ) (w := w) (F := F) (.int .u64 0)), rfl, nofun, nofun⟩
def ti220 : TI := { size := 1, bytes := 8, zu := .one (.top), zv := .nilFunc, desc := .func #[3, 73] #[73] false, offs := [] }
theorem tf220 : TabFact Tryz.prog 220 ti220 := ⟨by kernel_rfl, by kernel_rfl, (fun φ w F => csim_const (φ := φ) (w := w) (F := F) (.nilFunc)), rfl, nofun, nofun⟩
def ti222 : TI := { size := 2, bytes := 32, zu := .agg [.d .nil, .nilmap], zv := .agg #[.slice none 0 0, .map none], desc := .struct #[⟨"nodes", 23, 0, false, "", "cellular/reduce", 0⟩, ⟨"known", 146, 1, false, "", "cellular/reduce", 24⟩], offs := [(0, 1), (1, 1)] }
theorem tf222 : TabFact Tryz.prog 222 ti222 := ⟨by kernel_rfl, by kernel_rfl, (fun φ w F => ⟨#[.slice none 0 0, .map none], rfl, csims_const (φ := φ) (w := w) (F := F) [.slice none 0 0, .map none]⟩), rfl, (fun fs h => by cases h; kernel_rfl), (fun fs h => by cases h; kernel_rfl)⟩
def ti227 : TI := { size := 1, bytes := 8, zu := .one (.top), zv := .nilFunc, desc := .func #[75, 75] #[4] false, offs := [] }
theorem tf227 : TabFact Tryz.prog 227 ti227 := ⟨by kernel_rfl, by kernel_rfl, (fun φ w F => csim_const (φ := φ) (w := w) (F := F) (.nilFunc)), rfl, nofun, nofun⟩
def ti230 : TI := { size := 7, bytes := 88, zu := .agg [.d (.bool false), .d (.int .i64 0), .d (.int .i64 0), .d (.int .i64 0), .d (.int .i64 0), .d .nil, .d .nil], zv := .agg #[.bool false, .int .i64 0, .int .i64 0, .int .i64 0, .int .i64 0, .slice none 0 0, .slice none 0 0], desc := .struct #[⟨"flat", 4, 0, false, "", "cellular/cellularref20", 0⟩, ⟨"box", 62, 1, false, "", "cellular/cellularref20", 8⟩, ⟨"cells", 73, 5, false, "", "cellular/cellularref20", 40⟩, ⟨"list", 27, 6, false, "", "cellular/cellularref20", 64⟩], offs := [(0, 1), (1, 4), (5, 1), (6, 1)] }
theorem tf230 : TabFact Tryz.prog 230 ti230 := ⟨by kernel_rfl, by kernel_rfl, (fun φ w F => ⟨#[.bool false, .int .i64 0, .int .i64 0, .int .i64 0, .int .i64 0, .slice none 0 0, .slice none 0 0], rfl, csims_const (φ := φ) (w := w) (F := F) [.bool false, .int .i64 0, .int .i64 0, .int .i64 0, .int .i64 0, .slice none 0 0, .slice none 0 0]⟩), rfl, (fun fs h => by cases h; kernel_rfl), (fun fs h => by cases h; kernel_rfl)⟩
def ti264 : TI := { size := 1, bytes := 8, zu := .one (.d (.int .u64 0)), zv := .int .u64 0, desc := .int .u64, offs := [] }
theorem tf264 : TabFact Tryz.prog 264 ti264 := ⟨by kernel_rfl, by kernel_rfl, (fun φ w F => csim_const (φ := φ) (w := w) (F := F) (.int .u64 0)), rfl, nofun, nofun⟩
def ti266 : TI := { size := 1, bytes := 8, zu := .one (.top), zv := .pointer none, desc := .pointer 222, offs := [] }
theorem tf266 : TabFact Tryz.prog 266 ti266 := ⟨by kernel_rfl, by kernel_rfl, (fun φ w F => csim_const (φ := φ) (w := w) (F := F) (.pointer none)), rfl, nofun, nofun⟩
def ti306 : TI := { size := 24, bytes := 24, zu := .agg [.d (.int .u8 0), .d (.int .u8 0), .d (.int .u8 0), .d (.int .u8 0), .d (.int .u8 0), .d (.int .u8 0), .d (.int .u8 0), .d (.int .u8 0), .d (.int .u8 0), .d (.int .u8 0), .d (.int .u8 0), .d (.int .u8 0), .d (.int .u8 0), .d (.int .u8 0), .d (.int .u8 0), .d (.int .u8 0), .d (.int .u8 0), .d (.int .u8 0), .d (.int .u8 0), .d (.int .u8 0), .d (.int .u8 0), .d (.int .u8 0), .d (.int .u8 0), .d (.int .u8 0)], zv := .agg #[.int .u8 0, .int .u8 0, .int .u8 0, .int .u8 0, .int .u8 0, .int .u8 0, .int .u8 0, .int .u8 0, .int .u8 0, .int .u8 0, .int .u8 0, .int .u8 0, .int .u8 0, .int .u8 0, .int .u8 0, .int .u8 0, .int .u8 0, .int .u8 0, .int .u8 0, .int .u8 0, .int .u8 0, .int .u8 0, .int .u8 0, .int .u8 0], desc := .array 24 5, offs := [] }
theorem tf306 : TabFact Tryz.prog 306 ti306 := ⟨by kernel_rfl, by kernel_rfl, (fun φ w F => ⟨#[.int .u8 0, .int .u8 0, .int .u8 0, .int .u8 0, .int .u8 0, .int .u8 0, .int .u8 0, .int .u8 0, .int .u8 0, .int .u8 0, .int .u8 0, .int .u8 0, .int .u8 0, .int .u8 0, .int .u8 0, .int .u8 0, .int .u8 0, .int .u8 0, .int .u8 0, .int .u8 0, .int .u8 0, .int .u8 0, .int .u8 0, .int .u8 0], rfl, csims_const (φ := φ) (w := w) (F := F) [.int .u8 0, .int .u8 0, .int .u8 0, .int .u8 0, .int .u8 0, .int .u8 0, .int .u8 0, .int .u8 0, .int .u8 0, .int .u8 0, .int .u8 0, .int .u8 0, .int .u8 0, .int .u8 0, .int .u8 0, .int .u8 0, .int .u8 0, .int .u8 0, .int .u8 0, .int .u8 0, .int .u8 0, .int .u8 0, .int .u8 0, .int .u8 0]⟩), rfl, nofun, nofun⟩
def ty : Tab := fun t => match t with
 | 2 => some ti2
 | 3 => some ti3
 | 4 => some ti4
 | 5 => some ti5
 | 9 => some ti9
 | 22 => some ti22
 | 23 => some ti23
 | 25 => some ti25
 | 26 => some ti26
 | 27 => some ti27
 | 29 => some ti29
 | 31 => some ti31
 | 33 => some ti33
 | 35 => some ti35
 | 42 => some ti42
 | 44 => some ti44
 | 57 => some ti57
 | 62 => some ti62
 | 68 => some ti68
 | 71 => some ti71
 | 73 => some ti73
 | 75 => some ti75
 | 79 => some ti79
 | 86 => some ti86
 | 87 => some ti87
 | 89 => some ti89
 | 108 => some ti108
 | 109 => some ti109
 | 110 => some ti110
 | 130 => some ti130
 | 131 => some ti131
 | 133 => some ti133
 | 146 => some ti146
 | 158 => some ti158
 | 168 => some ti168
 | 170 => some ti170
 | 174 => some ti174
 | 182 => some ti182
 | 188 => some ti188
 | 189 => some ti189
 | 191 => some ti191
 | 208 => some ti208
 | 217 => some ti217
 | 220 => some ti220
 | 222 => some ti222
 | 227 => some ti227
 | 230 => some ti230
 | 264 => some ti264
 | 266 => some ti266
 | 306 => some ti306
 | _ => none
theorem ty_ok : TabOk Tryz.prog ty := by
 intro t ti h
 unfold ty at h
 split at h
 ·cases h; exact tf2
 ·cases h; exact tf3
 ·cases h; exact tf4
 ·cases h; exact tf5
 ·cases h; exact tf9
 ·cases h; exact tf22
 ·cases h; exact tf23
 ·cases h; exact tf25
 ·cases h; exact tf26
 ·cases h; exact tf27
 ·cases h; exact tf29
 ·cases h; exact tf31
 ·cases h; exact tf33
 ·cases h; exact tf35
 ·cases h; exact tf42
 ·cases h; exact tf44
 ·cases h; exact tf57
 ·cases h; exact tf62
 ·cases h; exact tf68
 ·cases h; exact tf71
 ·cases h; exact tf73
 ·cases h; exact tf75
 ·cases h; exact tf79
 ·cases h; exact tf86
 ·cases h; exact tf87
 ·cases h; exact tf89
 ·cases h; exact tf108
 ·cases h; exact tf109
 ·cases h; exact tf110
 ·cases h; exact tf130
 ·cases h; exact tf131
 ·cases h; exact tf133
 ·cases h; exact tf146
 ·cases h; exact tf158
 ·cases h; exact tf168
 ·cases h; exact tf170
 ·cases h; exact tf174
 ·cases h; exact tf182
 ·cases h; exact tf188
 ·cases h; exact tf189
 ·cases h; exact tf191
 ·cases h; exact tf208
 ·cases h; exact tf217
 ·cases h; exact tf220
 ·cases h; exact tf222
 ·cases h; exact tf227
 ·cases h; exact tf230
 ·cases h; exact tf264
 ·cases h; exact tf266
 ·cases h; exact tf306
 ·cases h
def eqn : TypeId → Option Nat := fun t => match t with
 | 29 => some 3
 | 42 => some 5
 | 57 => some 3
 | 62 => some 4
 | 71 => some 2
 | 130 => some 2
 | _ => none
theorem ef29 : intFields Tryz.prog 29 3 := by
 refine ⟨#[⟨"Period", 3, 0, false, "", "", 0⟩, ⟨"DX", 3, 1, false, "", "", 8⟩, ⟨"DY", 3, 2, false, "", "", 16⟩], by kernel_rfl, by kernel_rfl, by kernel_rfl, rfl, fun i f h => ?_⟩
 match i, h with
 | 0, h => cases h; exact ⟨by decide, rfl, .i64, by kernel_rfl⟩
 | 1, h => cases h; exact ⟨by decide, rfl, .i64, by kernel_rfl⟩
 | 2, h => cases h; exact ⟨by decide, rfl, .i64, by kernel_rfl⟩
 | i + 3, h => simp at h
theorem ef42 : intFields Tryz.prog 42 5 := by
 refine ⟨#[⟨"Ship", 3, 0, false, "", "", 0⟩, ⟨"Phase", 3, 1, false, "", "", 8⟩, ⟨"Sym", 3, 2, false, "", "", 16⟩, ⟨"X", 3, 3, false, "", "", 24⟩, ⟨"Y", 3, 4, false, "", "", 32⟩], by kernel_rfl, by kernel_rfl, by kernel_rfl, rfl, fun i f h => ?_⟩
 match i, h with
 | 0, h => cases h; exact ⟨by decide, rfl, .i64, by kernel_rfl⟩
 | 1, h => cases h; exact ⟨by decide, rfl, .i64, by kernel_rfl⟩
 | 2, h => cases h; exact ⟨by decide, rfl, .i64, by kernel_rfl⟩
 | 3, h => cases h; exact ⟨by decide, rfl, .i64, by kernel_rfl⟩
 | 4, h => cases h; exact ⟨by decide, rfl, .i64, by kernel_rfl⟩
 | i + 5, h => simp at h
theorem ef57 : intFields Tryz.prog 57 3 := by
 refine ⟨#[⟨"X", 3, 0, false, "", "", 0⟩, ⟨"Y", 3, 1, false, "", "", 8⟩, ⟨"S", 3, 2, false, "", "", 16⟩], by kernel_rfl, by kernel_rfl, by kernel_rfl, rfl, fun i f h => ?_⟩
 match i, h with
 | 0, h => cases h; exact ⟨by decide, rfl, .i64, by kernel_rfl⟩
 | 1, h => cases h; exact ⟨by decide, rfl, .i64, by kernel_rfl⟩
 | 2, h => cases h; exact ⟨by decide, rfl, .i64, by kernel_rfl⟩
 | i + 3, h => simp at h
theorem ef62 : intFields Tryz.prog 62 4 := by
 refine ⟨#[⟨"X", 3, 0, false, "", "", 0⟩, ⟨"Y", 3, 1, false, "", "", 8⟩, ⟨"W", 3, 2, false, "", "", 16⟩, ⟨"H", 3, 3, false, "", "", 24⟩], by kernel_rfl, by kernel_rfl, by kernel_rfl, rfl, fun i f h => ?_⟩
 match i, h with
 | 0, h => cases h; exact ⟨by decide, rfl, .i64, by kernel_rfl⟩
 | 1, h => cases h; exact ⟨by decide, rfl, .i64, by kernel_rfl⟩
 | 2, h => cases h; exact ⟨by decide, rfl, .i64, by kernel_rfl⟩
 | 3, h => cases h; exact ⟨by decide, rfl, .i64, by kernel_rfl⟩
 | i + 4, h => simp at h
theorem ef71 : intFields Tryz.prog 71 2 := by
 refine ⟨#[⟨"X", 3, 0, false, "", "", 0⟩, ⟨"Y", 3, 1, false, "", "", 8⟩], by kernel_rfl, by kernel_rfl, by kernel_rfl, rfl, fun i f h => ?_⟩
 match i, h with
 | 0, h => cases h; exact ⟨by decide, rfl, .i64, by kernel_rfl⟩
 | 1, h => cases h; exact ⟨by decide, rfl, .i64, by kernel_rfl⟩
 | i + 2, h => simp at h
theorem ef130 : intFields Tryz.prog 130 2 := by
 refine ⟨#[⟨"ones", 3, 0, false, "", "cellular/totaltree", 0⟩, ⟨"centre", 3, 1, false, "", "cellular/totaltree", 8⟩], by kernel_rfl, by kernel_rfl, by kernel_rfl, rfl, fun i f h => ?_⟩
 match i, h with
 | 0, h => cases h; exact ⟨by decide, rfl, .i64, by kernel_rfl⟩
 | 1, h => cases h; exact ⟨by decide, rfl, .i64, by kernel_rfl⟩
 | i + 2, h => simp at h
theorem eqn_ok : ∀ t n, eqn t = some n → intFields Tryz.prog t n := by
 intro t n h
 unfold eqn at h
 split at h
 ·cases h; exact ef29
 ·cases h; exact ef42
 ·cases h; exact ef57
 ·cases h; exact ef62
 ·cases h; exact ef71
 ·cases h; exact ef130
 ·cases h
def key : TypeId → Option KK := fun t => match t with
 | 9 => some .str
 | 71 => some (.ints 2)
 | 191 => some (.ints 3)
 | _ => none
theorem kf9 : Maps.Keyed Tryz.prog 9 ∧ ∀ k : Key, k.fits .str = true → ∃ l, keyOf Tryz.prog 9 k.val = some l := key_str (by kernel_rfl)
theorem kf71 : Maps.Keyed Tryz.prog 71 ∧ ∀ k : Key, k.fits (.ints 2) = true → ∃ l, keyOf Tryz.prog 71 k.val = some l :=
 key_ints (fs := #[⟨"X", 3, 0, false, "", "", 0⟩, ⟨"Y", 3, 1, false, "", "", 8⟩]) (by kernel_rfl) (by kernel_rfl) (by kernel_rfl) (by kernel_rfl) (by kernel_rfl) (by kernel_rfl) (by
  intro i f h
  match i, h with
  | 0, h => cases h; exact ⟨by decide, rfl, by kernel_rfl, by kernel_rfl⟩
  | 1, h => cases h; exact ⟨by decide, rfl, by kernel_rfl, by kernel_rfl⟩
  | i + 2, h => simp at h)
theorem kf191 : Maps.Keyed Tryz.prog 191 ∧ ∀ k : Key, k.fits (.ints 3) = true → ∃ l, keyOf Tryz.prog 191 k.val = some l := key_nest (d := 3) (fs := #[⟨"at", 3, 0, false, "", "cellular/totaltree", 0⟩, ⟨"s", 130, 1, false, "", "cellular/totaltree", 8⟩]) (by kernel_rfl) (by kernel_rfl) (by kernel_rfl) (by kernel_rfl) (by kernel_rfl) (by kernel_rfl) (.inr ⟨#[⟨"at", 3, 0, false, "", "cellular/totaltree", 0⟩, ⟨"s", 130, 1, false, "", "cellular/totaltree", 8⟩], by kernel_rfl, by kernel_rfl, fun i f h => match i, h with | 0, h => by cases h; exact ⟨by decide, 1, (.inl ⟨by kernel_rfl, rfl⟩), by kernel_rfl, by decide⟩ | 1, h => by cases h; exact ⟨by decide, 2, (.inr ⟨#[⟨"ones", 3, 0, false, "", "cellular/totaltree", 0⟩, ⟨"centre", 3, 1, false, "", "cellular/totaltree", 8⟩], by kernel_rfl, by kernel_rfl, fun i f h => match i, h with | 0, h => by cases h; exact ⟨by decide, 1, (.inl ⟨by kernel_rfl, rfl⟩), by kernel_rfl, by decide⟩ | 1, h => by cases h; exact ⟨by decide, 1, (.inl ⟨by kernel_rfl, rfl⟩), by kernel_rfl, by decide⟩ | i + 2, h => by simp at h⟩), by kernel_rfl, by decide⟩ | i + 2, h => by simp at h⟩) (by kernel_rfl)
theorem key_ok : ∀ t kk, key t = some kk → Maps.Keyed Tryz.prog t ∧ ∀ k : Key, k.fits kk = true → ∃ l, keyOf Tryz.prog t k.val = some l := by
 intro t kk h
 unfold key at h
 split at h
 ·cases h; exact kf9
 ·cases h; exact kf71
 ·cases h; exact kf191
 ·cases h
def tb : Tb := { ty := ty, eqn := eqn, key := key }
theorem aL : TbOk Tryz.prog tb := ⟨ty_ok, eqn_ok, key_ok, (fun _ _ _ h => by cases h), (fun _ _ _ _ _ _ _ _ _ h => by cases h)⟩
theorem mixed : Tryz.prog.follows .mixedOrders = true := by kernel_rfl
end Go.Proofs.YtfpjnmhdbgbmmaaGreatDoor
