/-
  The table of the types of this seat, made by program (gen_tab.py), and that it holds.
-/
import Derived.Test.YtdjclgfbggfpaaaGreatDoorRows
import Derived.Test.YtdjclgfbggfpaaaGreatDoorAmO
namespace Go.Proofs.YtdjclgfbggfpaaaGreatDoor
open Go.AM Go.Proofs
def ti2 : TI := { size := 1, bytes := 8, zu := .one (.d (.int .i64 0)), zv := .int .i64 0, desc := .int .i64, offs := [] }
theorem tf2 : TabFact Tryz.prog 2 ti2 := ⟨by kernel_rfl, by kernel_rfl, (fun φ w F => csim_const (φ := φ) (w := w) (F := F) (.int .i64 0)), rfl, nofun, nofun⟩
def ti3 : TI := { size := 1, bytes := 8, zu := .one (.d (.int .i64 0)), zv := .int .i64 0, desc := .int .i64, offs := [] }
theorem tf3 : TabFact Tryz.prog 3 ti3 := ⟨by kernel_rfl, by kernel_rfl, (fun φ w F => csim_const (φ := φ) (w := w) (F := F) (.int .i64 0)), rfl, nofun, nofun⟩
def ti4 : TI := { size := 1, bytes := 1, zu := .one (.d (.bool false)), zv := .bool false, desc := .bool, offs := [] }
theorem tf4 : TabFact Tryz.prog 4 ti4 := ⟨by kernel_rfl, by kernel_rfl, (fun φ w F => csim_const (φ := φ) (w := w) (F := F) (.bool false)), rfl, nofun, nofun⟩
def ti5 : TI := { size := 1, bytes := 1, zu := .one (.d (.int .u8 0)), zv := .int .u8 0, desc := .int .u8, offs := [] }
theorem tf5 : TabFact Tryz.prog 5 ti5 := ⟨by kernel_rfl, by kernel_rfl, (fun φ w F => csim_const (φ := φ) (w := w) (F := F) (.int .u8 0)), rfl, nofun, nofun⟩
def ti9 : TI := { size := 1, bytes := 16, zu := .one (.d (.str ⟨#[]⟩)), zv := .string ⟨#[]⟩, desc := .string, offs := [] }
theorem tf9 : TabFact Tryz.prog 9 ti9 := ⟨by kernel_rfl, by kernel_rfl, (fun φ w F => csim_const (φ := φ) (w := w) (F := F) (.string ⟨#[]⟩)), rfl, nofun, nofun⟩
def ti21 : TI := { size := 1, bytes := 4, zu := .one (.d (.int .i32 0)), zv := .int .i32 0, desc := .int .i32, offs := [] }
theorem tf21 : TabFact Tryz.prog 21 ti21 := ⟨by kernel_rfl, by kernel_rfl, (fun φ w F => csim_const (φ := φ) (w := w) (F := F) (.int .i32 0)), rfl, nofun, nofun⟩
def ti22 : TI := { size := 1, bytes := 24, zu := .one (.d .nil), zv := .slice none 0 0, desc := .slice 72, offs := [] }
theorem tf22 : TabFact Tryz.prog 22 ti22 := ⟨by kernel_rfl, by kernel_rfl, (fun φ w F => csim_const (φ := φ) (w := w) (F := F) (.slice none 0 0)), rfl, nofun, nofun⟩
def ti23 : TI := { size := 1, bytes := 24, zu := .one (.d .nil), zv := .slice none 0 0, desc := .slice 77, offs := [] }
theorem tf23 : TabFact Tryz.prog 23 ti23 := ⟨by kernel_rfl, by kernel_rfl, (fun φ w F => csim_const (φ := φ) (w := w) (F := F) (.slice none 0 0)), rfl, nofun, nofun⟩
def ti25 : TI := { size := 3, bytes := 56, zu := .agg [.d (.int .i64 0), .d .nil, .d .nil], zv := .agg #[.int .i64 0, .slice none 0 0, .slice none 0 0], desc := .struct #[⟨"States", 3, 0, false, "", "", 0⟩, ⟨"Hood", 22, 1, false, "", "", 8⟩, ⟨"Nodes", 23, 2, false, "", "", 32⟩], offs := [(0, 1), (1, 1), (2, 1)] }
theorem tf25 : TabFact Tryz.prog 25 ti25 := ⟨by kernel_rfl, by kernel_rfl, (fun φ w F => ⟨#[.int .i64 0, .slice none 0 0, .slice none 0 0], rfl, csims_const (φ := φ) (w := w) (F := F) [.int .i64 0, .slice none 0 0, .slice none 0 0]⟩), rfl, (fun fs h => by cases h; kernel_rfl), (fun fs h => by cases h; kernel_rfl)⟩
def ti26 : TI := { size := 1, bytes := 24, zu := .one (.d .nil), zv := .slice none 0 0, desc := .slice 51, offs := [] }
theorem tf26 : TabFact Tryz.prog 26 ti26 := ⟨by kernel_rfl, by kernel_rfl, (fun φ w F => csim_const (φ := φ) (w := w) (F := F) (.slice none 0 0)), rfl, nofun, nofun⟩
def ti27 : TI := { size := 1, bytes := 24, zu := .one (.d .nil), zv := .slice none 0 0, desc := .slice 51, offs := [] }
theorem tf27 : TabFact Tryz.prog 27 ti27 := ⟨by kernel_rfl, by kernel_rfl, (fun φ w F => csim_const (φ := φ) (w := w) (F := F) (.slice none 0 0)), rfl, nofun, nofun⟩
def ti31 : TI := { size := 3, bytes := 24, zu := .agg [.d (.int .i64 0), .d (.int .i64 0), .d (.int .i64 0)], zv := .agg #[.int .i64 0, .int .i64 0, .int .i64 0], desc := .struct #[⟨"Period", 3, 0, false, "", "", 0⟩, ⟨"DX", 3, 1, false, "", "", 8⟩, ⟨"DY", 3, 2, false, "", "", 16⟩], offs := [(0, 1), (1, 1), (2, 1)] }
theorem tf31 : TabFact Tryz.prog 31 ti31 := ⟨by kernel_rfl, by kernel_rfl, (fun φ w F => ⟨#[.int .i64 0, .int .i64 0, .int .i64 0], rfl, csims_const (φ := φ) (w := w) (F := F) [.int .i64 0, .int .i64 0, .int .i64 0]⟩), rfl, (fun fs h => by cases h; kernel_rfl), (fun fs h => by cases h; kernel_rfl)⟩
def ti32 : TI := { size := 1, bytes := 8, zu := .one (.d (.int .i64 0)), zv := .int .i64 0, desc := .int .i64, offs := [] }
theorem tf32 : TabFact Tryz.prog 32 ti32 := ⟨by kernel_rfl, by kernel_rfl, (fun φ w F => csim_const (φ := φ) (w := w) (F := F) (.int .i64 0)), rfl, nofun, nofun⟩
def ti43 : TI := { size := 2, bytes := 16, zu := .agg [.d (.int .i64 0), .d (.int .i64 0)], zv := .agg #[.int .i64 0, .int .i64 0], desc := .array 2 3, offs := [] }
theorem tf43 : TabFact Tryz.prog 43 ti43 := ⟨by kernel_rfl, by kernel_rfl, (fun φ w F => ⟨#[.int .i64 0, .int .i64 0], rfl, csims_const (φ := φ) (w := w) (F := F) [.int .i64 0, .int .i64 0]⟩), rfl, nofun, nofun⟩
def ti51 : TI := { size := 3, bytes := 24, zu := .agg [.d (.int .i64 0), .d (.int .i64 0), .d (.int .i64 0)], zv := .agg #[.int .i64 0, .int .i64 0, .int .i64 0], desc := .struct #[⟨"X", 3, 0, false, "", "", 0⟩, ⟨"Y", 3, 1, false, "", "", 8⟩, ⟨"S", 3, 2, false, "", "", 16⟩], offs := [(0, 1), (1, 1), (2, 1)] }
theorem tf51 : TabFact Tryz.prog 51 ti51 := ⟨by kernel_rfl, by kernel_rfl, (fun φ w F => ⟨#[.int .i64 0, .int .i64 0, .int .i64 0], rfl, csims_const (φ := φ) (w := w) (F := F) [.int .i64 0, .int .i64 0, .int .i64 0]⟩), rfl, (fun fs h => by cases h; kernel_rfl), (fun fs h => by cases h; kernel_rfl)⟩
def ti54 : TI := { size := 1, bytes := 1, zu := .one (.d (.int .i8 0)), zv := .int .i8 0, desc := .int .i8, offs := [] }
theorem tf54 : TabFact Tryz.prog 54 ti54 := ⟨by kernel_rfl, by kernel_rfl, (fun φ w F => csim_const (φ := φ) (w := w) (F := F) (.int .i8 0)), rfl, nofun, nofun⟩
def ti55 : TI := { size := 2, bytes := 2, zu := .agg [.d (.int .i8 0), .d (.int .i8 0)], zv := .agg #[.int .i8 0, .int .i8 0], desc := .array 2 54, offs := [] }
theorem tf55 : TabFact Tryz.prog 55 ti55 := ⟨by kernel_rfl, by kernel_rfl, (fun φ w F => ⟨#[.int .i8 0, .int .i8 0], rfl, csims_const (φ := φ) (w := w) (F := F) [.int .i8 0, .int .i8 0]⟩), rfl, nofun, nofun⟩
def ti61 : TI := { size := 1, bytes := 8, zu := .one (.top), zv := .nilFunc, desc := .func #[3] #[4] false, offs := [] }
theorem tf61 : TabFact Tryz.prog 61 ti61 := ⟨by kernel_rfl, by kernel_rfl, (fun φ w F => csim_const (φ := φ) (w := w) (F := F) (.nilFunc)), rfl, nofun, nofun⟩
def ti65 : TI := { size := 1, bytes := 24, zu := .one (.d .nil), zv := .slice none 0 0, desc := .slice 27, offs := [] }
theorem tf65 : TabFact Tryz.prog 65 ti65 := ⟨by kernel_rfl, by kernel_rfl, (fun φ w F => csim_const (φ := φ) (w := w) (F := F) (.slice none 0 0)), rfl, nofun, nofun⟩
def ti70 : TI := { size := 1, bytes := 8, zu := .one (.top), zv := .nilFunc, desc := .func #[72] #[4] false, offs := [] }
theorem tf70 : TabFact Tryz.prog 70 ti70 := ⟨by kernel_rfl, by kernel_rfl, (fun φ w F => csim_const (φ := φ) (w := w) (F := F) (.nilFunc)), rfl, nofun, nofun⟩
def ti72 : TI := { size := 2, bytes := 16, zu := .agg [.d (.int .i64 0), .d (.int .i64 0)], zv := .agg #[.int .i64 0, .int .i64 0], desc := .struct #[⟨"X", 3, 0, false, "", "", 0⟩, ⟨"Y", 3, 1, false, "", "", 8⟩], offs := [(0, 1), (1, 1)] }
theorem tf72 : TabFact Tryz.prog 72 ti72 := ⟨by kernel_rfl, by kernel_rfl, (fun φ w F => ⟨#[.int .i64 0, .int .i64 0], rfl, csims_const (φ := φ) (w := w) (F := F) [.int .i64 0, .int .i64 0]⟩), rfl, (fun fs h => by cases h; kernel_rfl), (fun fs h => by cases h; kernel_rfl)⟩
def ti75 : TI := { size := 1, bytes := 24, zu := .one (.d .nil), zv := .slice none 0 0, desc := .slice 3, offs := [] }
theorem tf75 : TabFact Tryz.prog 75 ti75 := ⟨by kernel_rfl, by kernel_rfl, (fun φ w F => csim_const (φ := φ) (w := w) (F := F) (.slice none 0 0)), rfl, nofun, nofun⟩
def ti77 : TI := { size := 2, bytes := 32, zu := .agg [.d (.int .i64 0), .d .nil], zv := .agg #[.int .i64 0, .slice none 0 0], desc := .struct #[⟨"Level", 3, 0, false, "", "", 0⟩, ⟨"Next", 75, 1, false, "", "", 8⟩], offs := [(0, 1), (1, 1)] }
theorem tf77 : TabFact Tryz.prog 77 ti77 := ⟨by kernel_rfl, by kernel_rfl, (fun φ w F => ⟨#[.int .i64 0, .slice none 0 0], rfl, csims_const (φ := φ) (w := w) (F := F) [.int .i64 0, .slice none 0 0]⟩), rfl, (fun fs h => by cases h; kernel_rfl), (fun fs h => by cases h; kernel_rfl)⟩
def ti81 : TI := { size := 4, bytes := 80, zu := .agg [.d .nil, .d (.int .i64 0), .d .nil, .d .nil], zv := .agg #[.slice none 0 0, .int .i64 0, .slice none 0 0, .slice none 0 0], desc := .struct #[⟨"Hood", 22, 0, false, "", "", 0⟩, ⟨"States", 3, 1, false, "", "", 24⟩, ⟨"Birth", 75, 2, false, "", "", 32⟩, ⟨"Survive", 75, 3, false, "", "", 56⟩], offs := [(0, 1), (1, 1), (2, 1), (3, 1)] }
theorem tf81 : TabFact Tryz.prog 81 ti81 := ⟨by kernel_rfl, by kernel_rfl, (fun φ w F => ⟨#[.slice none 0 0, .int .i64 0, .slice none 0 0, .slice none 0 0], rfl, csims_const (φ := φ) (w := w) (F := F) [.slice none 0 0, .int .i64 0, .slice none 0 0, .slice none 0 0]⟩), rfl, (fun fs h => by cases h; kernel_rfl), (fun fs h => by cases h; kernel_rfl)⟩
def ti88 : TI := { size := 1, bytes := 24, zu := .one (.d .nil), zv := .slice none 0 0, desc := .slice 75, offs := [] }
theorem tf88 : TabFact Tryz.prog 88 ti88 := ⟨by kernel_rfl, by kernel_rfl, (fun φ w F => csim_const (φ := φ) (w := w) (F := F) (.slice none 0 0)), rfl, nofun, nofun⟩
def ti89 : TI := { size := 1, bytes := 24, zu := .one (.d .nil), zv := .slice none 0 0, desc := .slice 196, offs := [] }
theorem tf89 : TabFact Tryz.prog 89 ti89 := ⟨by kernel_rfl, by kernel_rfl, (fun φ w F => csim_const (φ := φ) (w := w) (F := F) (.slice none 0 0)), rfl, nofun, nofun⟩
def ti91 : TI := { size := 5, bytes := 88, zu := .agg [.d (.int .i64 0), .d (.int .i64 0), .d .nil, .d .nil, .d .nil], zv := .agg #[.int .i64 0, .int .i64 0, .slice none 0 0, .slice none 0 0, .slice none 0 0], desc := .struct #[⟨"States", 3, 0, false, "", "", 0⟩, ⟨"Sym", 3, 1, false, "", "", 8⟩, ⟨"Hood", 22, 2, false, "", "", 16⟩, ⟨"Vars", 88, 3, false, "", "", 40⟩, ⟨"Rows", 89, 4, false, "", "", 64⟩], offs := [(0, 1), (1, 1), (2, 1), (3, 1), (4, 1)] }
theorem tf91 : TabFact Tryz.prog 91 ti91 := ⟨by kernel_rfl, by kernel_rfl, (fun φ w F => ⟨#[.int .i64 0, .int .i64 0, .slice none 0 0, .slice none 0 0, .slice none 0 0], rfl, csims_const (φ := φ) (w := w) (F := F) [.int .i64 0, .int .i64 0, .slice none 0 0, .slice none 0 0, .slice none 0 0]⟩), rfl, (fun fs h => by cases h; kernel_rfl), (fun fs h => by cases h; kernel_rfl)⟩
def ti96 : TI := { size := 4, bytes := 32, zu := .agg [.d (.int .i64 0), .d (.int .i64 0), .d (.int .i64 0), .d (.int .i64 0)], zv := .agg #[.int .i64 0, .int .i64 0, .int .i64 0, .int .i64 0], desc := .struct #[⟨"X", 3, 0, false, "", "", 0⟩, ⟨"Y", 3, 1, false, "", "", 8⟩, ⟨"W", 3, 2, false, "", "", 16⟩, ⟨"H", 3, 3, false, "", "", 24⟩], offs := [(0, 1), (1, 1), (2, 1), (3, 1)] }
theorem tf96 : TabFact Tryz.prog 96 ti96 := ⟨by kernel_rfl, by kernel_rfl, (fun φ w F => ⟨#[.int .i64 0, .int .i64 0, .int .i64 0, .int .i64 0], rfl, csims_const (φ := φ) (w := w) (F := F) [.int .i64 0, .int .i64 0, .int .i64 0, .int .i64 0]⟩), rfl, (fun fs h => by cases h; kernel_rfl), (fun fs h => by cases h; kernel_rfl)⟩
def ti98 : TI := { size := 7, bytes := 88, zu := .agg [.d (.bool false), .d (.int .i64 0), .d (.int .i64 0), .d (.int .i64 0), .d (.int .i64 0), .d .nil, .d .nil], zv := .agg #[.bool false, .int .i64 0, .int .i64 0, .int .i64 0, .int .i64 0, .slice none 0 0, .slice none 0 0], desc := .struct #[⟨"flat", 4, 0, false, "", "cellular/cellularref20", 0⟩, ⟨"box", 96, 1, false, "", "cellular/cellularref20", 8⟩, ⟨"cells", 75, 5, false, "", "cellular/cellularref20", 40⟩, ⟨"list", 27, 6, false, "", "cellular/cellularref20", 64⟩], offs := [(0, 1), (1, 4), (5, 1), (6, 1)] }
theorem tf98 : TabFact Tryz.prog 98 ti98 := ⟨by kernel_rfl, by kernel_rfl, (fun φ w F => ⟨#[.bool false, .int .i64 0, .int .i64 0, .int .i64 0, .int .i64 0, .slice none 0 0, .slice none 0 0], rfl, csims_const (φ := φ) (w := w) (F := F) [.bool false, .int .i64 0, .int .i64 0, .int .i64 0, .int .i64 0, .slice none 0 0, .slice none 0 0]⟩), rfl, (fun fs h => by cases h; kernel_rfl), (fun fs h => by cases h; kernel_rfl)⟩
def ti102 : TI := { size := 1, bytes := 8, zu := .one (.top), zv := .nilFunc, desc := .func #[3, 3] #[4] false, offs := [] }
theorem tf102 : TabFact Tryz.prog 102 ti102 := ⟨by kernel_rfl, by kernel_rfl, (fun φ w F => csim_const (φ := φ) (w := w) (F := F) (.nilFunc)), rfl, nofun, nofun⟩
def ti106 : TI := { size := 1, bytes := 8, zu := .one (.nilmap), zv := .map none, desc := .map 72 3, offs := [] }
theorem tf106 : TabFact Tryz.prog 106 ti106 := ⟨by kernel_rfl, by kernel_rfl, (fun φ w F => csim_const (φ := φ) (w := w) (F := F) (.map none)), rfl, nofun, nofun⟩
def ti108 : TI := { size := 1, bytes := 8, zu := .one (.nilmap), zv := .map none, desc := .map 72 4, offs := [] }
theorem tf108 : TabFact Tryz.prog 108 ti108 := ⟨by kernel_rfl, by kernel_rfl, (fun φ w F => csim_const (φ := φ) (w := w) (F := F) (.map none)), rfl, nofun, nofun⟩
def ti110 : TI := { size := 1, bytes := 8, zu := .one (.top), zv := .nilFunc, desc := .func #[51, 51] #[3] false, offs := [] }
theorem tf110 : TabFact Tryz.prog 110 ti110 := ⟨by kernel_rfl, by kernel_rfl, (fun φ w F => csim_const (φ := φ) (w := w) (F := F) (.nilFunc)), rfl, nofun, nofun⟩
def ti121 : TI := { size := 1, bytes := 24, zu := .one (.d .nil), zv := .slice none 0 0, desc := .slice 9, offs := [] }
theorem tf121 : TabFact Tryz.prog 121 ti121 := ⟨by kernel_rfl, by kernel_rfl, (fun φ w F => csim_const (φ := φ) (w := w) (F := F) (.slice none 0 0)), rfl, nofun, nofun⟩
def ti130 : TI := { size := 2, bytes := 16, zu := .agg [.d (.int .i64 0), .d (.int .i64 0)], zv := .agg #[.int .i64 0, .int .i64 0], desc := .struct #[⟨"ones", 3, 0, false, "", "cellular/totaltree", 0⟩, ⟨"centre", 3, 1, false, "", "cellular/totaltree", 8⟩], offs := [(0, 1), (1, 1)] }
theorem tf130 : TabFact Tryz.prog 130 ti130 := ⟨by kernel_rfl, by kernel_rfl, (fun φ w F => ⟨#[.int .i64 0, .int .i64 0], rfl, csims_const (φ := φ) (w := w) (F := F) [.int .i64 0, .int .i64 0]⟩), rfl, (fun fs h => by cases h; kernel_rfl), (fun fs h => by cases h; kernel_rfl)⟩
def ti131 : TI := { size := 1, bytes := 8, zu := .one (.top), zv := .nilFunc, desc := .func #[130, 3, 3] #[130] false, offs := [] }
theorem tf131 : TabFact Tryz.prog 131 ti131 := ⟨by kernel_rfl, by kernel_rfl, (fun φ w F => csim_const (φ := φ) (w := w) (F := F) (.nilFunc)), rfl, nofun, nofun⟩
def ti133 : TI := { size := 1, bytes := 8, zu := .one (.top), zv := .nilFunc, desc := .func #[130] #[3] false, offs := [] }
theorem tf133 : TabFact Tryz.prog 133 ti133 := ⟨by kernel_rfl, by kernel_rfl, (fun φ w F => csim_const (φ := φ) (w := w) (F := F) (.nilFunc)), rfl, nofun, nofun⟩
def ti140 : TI := { size := 8, bytes := 64, zu := .agg [.d (.int .i64 0), .d (.int .i64 0), .d (.int .i64 0), .d (.int .i64 0), .d (.int .i64 0), .d (.int .i64 0), .d (.int .i64 0), .d (.int .i64 0)], zv := .agg #[.int .i64 0, .int .i64 0, .int .i64 0, .int .i64 0, .int .i64 0, .int .i64 0, .int .i64 0, .int .i64 0], desc := .array 8 3, offs := [] }
theorem tf140 : TabFact Tryz.prog 140 ti140 := ⟨by kernel_rfl, by kernel_rfl, (fun φ w F => ⟨#[.int .i64 0, .int .i64 0, .int .i64 0, .int .i64 0, .int .i64 0, .int .i64 0, .int .i64 0, .int .i64 0], rfl, csims_const (φ := φ) (w := w) (F := F) [.int .i64 0, .int .i64 0, .int .i64 0, .int .i64 0, .int .i64 0, .int .i64 0, .int .i64 0, .int .i64 0]⟩), rfl, nofun, nofun⟩
def ti144 : TI := { size := 1, bytes := 8, zu := .one (.top), zv := .nilFunc, desc := .func #[3, 3, 3] #[3] false, offs := [] }
theorem tf144 : TabFact Tryz.prog 144 ti144 := ⟨by kernel_rfl, by kernel_rfl, (fun φ w F => csim_const (φ := φ) (w := w) (F := F) (.nilFunc)), rfl, nofun, nofun⟩
def ti145 : TI := { size := 1, bytes := 8, zu := .one (.top), zv := .nilFunc, desc := .func #[3] #[3] false, offs := [] }
theorem tf145 : TabFact Tryz.prog 145 ti145 := ⟨by kernel_rfl, by kernel_rfl, (fun φ w F => csim_const (φ := φ) (w := w) (F := F) (.nilFunc)), rfl, nofun, nofun⟩
def ti146 : TI := { size := 1, bytes := 8, zu := .one (.top), zv := .pointer none, desc := .pointer 149, offs := [] }
theorem tf146 : TabFact Tryz.prog 146 ti146 := ⟨by kernel_rfl, by kernel_rfl, (fun φ w F => csim_const (φ := φ) (w := w) (F := F) (.pointer none)), rfl, nofun, nofun⟩
def ti147 : TI := { size := 1, bytes := 8, zu := .one (.nilmap), zv := .map none, desc := .map 9 3, offs := [] }
theorem tf147 : TabFact Tryz.prog 147 ti147 := ⟨by kernel_rfl, by kernel_rfl, (fun φ w F => csim_const (φ := φ) (w := w) (F := F) (.map none)), rfl, nofun, nofun⟩
def ti149 : TI := { size := 7, bytes := 104, zu := .agg [.d (.int .i64 0), .d (.int .i64 0), .d .nil, .d .nil, .d .nil, .nilmap, .d (.int .i64 0)], zv := .agg #[.int .i64 0, .int .i64 0, .slice none 0 0, .slice none 0 0, .slice none 0 0, .map none, .int .i64 0], desc := .struct #[⟨"t", 91, 0, false, "", "cellular/ruletable", 0⟩, ⟨"names", 147, 5, false, "", "cellular/ruletable", 88⟩, ⟨"head", 3, 6, false, "", "cellular/ruletable", 96⟩], offs := [(0, 5), (5, 1), (6, 1)] }
theorem tf149 : TabFact Tryz.prog 149 ti149 := ⟨by kernel_rfl, by kernel_rfl, (fun φ w F => ⟨#[.int .i64 0, .int .i64 0, .slice none 0 0, .slice none 0 0, .slice none 0 0, .map none, .int .i64 0], rfl, csims_const (φ := φ) (w := w) (F := F) [.int .i64 0, .int .i64 0, .slice none 0 0, .slice none 0 0, .slice none 0 0, .map none, .int .i64 0]⟩), rfl, (fun fs h => by cases h; kernel_rfl), (fun fs h => by cases h; kernel_rfl)⟩
def ti151 : TI := { size := 1, bytes := 8, zu := .one (.top), zv := .nilFunc, desc := .func #[187] #[] false, offs := [] }
theorem tf151 : TabFact Tryz.prog 151 ti151 := ⟨by kernel_rfl, by kernel_rfl, (fun φ w F => csim_const (φ := φ) (w := w) (F := F) (.nilFunc)), rfl, nofun, nofun⟩
def ti158 : TI := { size := 1, bytes := 8, zu := .one (.top), zv := .nilFunc, desc := .func #[75] #[3] false, offs := [] }
theorem tf158 : TabFact Tryz.prog 158 ti158 := ⟨by kernel_rfl, by kernel_rfl, (fun φ w F => csim_const (φ := φ) (w := w) (F := F) (.nilFunc)), rfl, nofun, nofun⟩
def ti169 : TI := { size := 1, bytes := 24, zu := .one (.d .nil), zv := .slice none 0 0, desc := .slice 5, offs := [] }
theorem tf169 : TabFact Tryz.prog 169 ti169 := ⟨by kernel_rfl, by kernel_rfl, (fun φ w F => csim_const (φ := φ) (w := w) (F := F) (.slice none 0 0)), rfl, nofun, nofun⟩
def ti176 : TI := { size := 1, bytes := 8, zu := .one (.nilmap), zv := .map none, desc := .map 179 3, offs := [] }
theorem tf176 : TabFact Tryz.prog 176 ti176 := ⟨by kernel_rfl, by kernel_rfl, (fun φ w F => csim_const (φ := φ) (w := w) (F := F) (.map none)), rfl, nofun, nofun⟩
def ti177 : TI := { size := 1, bytes := 8, zu := .one (.top), zv := .nilFunc, desc := .func #[179] #[3] false, offs := [] }
theorem tf177 : TabFact Tryz.prog 177 ti177 := ⟨by kernel_rfl, by kernel_rfl, (fun φ w F => csim_const (φ := φ) (w := w) (F := F) (.nilFunc)), rfl, nofun, nofun⟩
def ti179 : TI := { size := 3, bytes := 24, zu := .agg [.d (.int .i64 0), .d (.int .i64 0), .d (.int .i64 0)], zv := .agg #[.int .i64 0, .int .i64 0, .int .i64 0], desc := .struct #[⟨"at", 3, 0, false, "", "cellular/totaltree", 0⟩, ⟨"s", 130, 1, false, "", "cellular/totaltree", 8⟩], offs := [(0, 1), (1, 2)] }
theorem tf179 : TabFact Tryz.prog 179 ti179 := ⟨by kernel_rfl, by kernel_rfl, (fun φ w F => ⟨#[.int .i64 0, .int .i64 0, .int .i64 0], rfl, csims_const (φ := φ) (w := w) (F := F) [.int .i64 0, .int .i64 0, .int .i64 0]⟩), rfl, (fun fs h => by cases h; kernel_rfl), (fun fs h => by cases h; kernel_rfl)⟩
def ti183 : TI := { size := 1, bytes := 8, zu := .one (.nilmap), zv := .map none, desc := .map 186 3, offs := [] }
theorem tf183 : TabFact Tryz.prog 183 ti183 := ⟨by kernel_rfl, by kernel_rfl, (fun φ w F => csim_const (φ := φ) (w := w) (F := F) (.map none)), rfl, nofun, nofun⟩
def ti184 : TI := { size := 1, bytes := 8, zu := .one (.top), zv := .nilFunc, desc := .func #[186] #[3] false, offs := [] }
theorem tf184 : TabFact Tryz.prog 184 ti184 := ⟨by kernel_rfl, by kernel_rfl, (fun φ w F => csim_const (φ := φ) (w := w) (F := F) (.nilFunc)), rfl, nofun, nofun⟩
def ti186 : TI := { size := 2, bytes := 16, zu := .agg [.d (.int .i64 0), .d (.int .i64 0)], zv := .agg #[.int .i64 0, .int .i64 0], desc := .struct #[⟨"at", 3, 0, false, "", "cellular/totaltree", 0⟩, ⟨"s", 3, 1, false, "", "cellular/totaltree", 8⟩], offs := [(0, 1), (1, 1)] }
theorem tf186 : TabFact Tryz.prog 186 ti186 := ⟨by kernel_rfl, by kernel_rfl, (fun φ w F => ⟨#[.int .i64 0, .int .i64 0], rfl, csims_const (φ := φ) (w := w) (F := F) [.int .i64 0, .int .i64 0]⟩), rfl, (fun fs h => by cases h; kernel_rfl), (fun fs h => by cases h; kernel_rfl)⟩
def ti187 : TI := { size := 1, bytes := 8, zu := .one (.top), zv := .nilFunc, desc := .func #[3, 121] #[4] false, offs := [] }
theorem tf187 : TabFact Tryz.prog 187 ti187 := ⟨by kernel_rfl, by kernel_rfl, (fun φ w F => csim_const (φ := φ) (w := w) (F := F) (.nilFunc)), rfl, nofun, nofun⟩
def ti189 : TI := { size := 1, bytes := 8, zu := .one (.top), zv := .nilFunc, desc := .func #[21] #[4] false, offs := [] }
theorem tf189 : TabFact Tryz.prog 189 ti189 := ⟨by kernel_rfl, by kernel_rfl, (fun φ w F => csim_const (φ := φ) (w := w) (F := F) (.nilFunc)), rfl, nofun, nofun⟩
def ti193 : TI := { size := 4, bytes := 64, zu := .agg [.d (.str ⟨#[]⟩), .d (.str ⟨#[]⟩), .d (.str ⟨#[]⟩), .d (.str ⟨#[]⟩)], zv := .agg #[.string ⟨#[]⟩, .string ⟨#[]⟩, .string ⟨#[]⟩, .string ⟨#[]⟩], desc := .array 4 9, offs := [] }
theorem tf193 : TabFact Tryz.prog 193 ti193 := ⟨by kernel_rfl, by kernel_rfl, (fun φ w F => ⟨#[.string ⟨#[]⟩, .string ⟨#[]⟩, .string ⟨#[]⟩, .string ⟨#[]⟩], rfl, csims_const (φ := φ) (w := w) (F := F) [.string ⟨#[]⟩, .string ⟨#[]⟩, .string ⟨#[]⟩, .string ⟨#[]⟩]⟩), rfl, nofun, nofun⟩
def ti196 : TI := { size := 2, bytes := 32, zu := .agg [.d .nil, .d (.int .i64 0)], zv := .agg #[.slice none 0 0, .int .i64 0], desc := .struct #[⟨"Ins", 75, 0, false, "", "", 0⟩, ⟨"Out", 3, 1, false, "", "", 24⟩], offs := [(0, 1), (1, 1)] }
theorem tf196 : TabFact Tryz.prog 196 ti196 := ⟨by kernel_rfl, by kernel_rfl, (fun φ w F => ⟨#[.slice none 0 0, .int .i64 0], rfl, csims_const (φ := φ) (w := w) (F := F) [.slice none 0 0, .int .i64 0]⟩), rfl, (fun fs h => by cases h; kernel_rfl), (fun fs h => by cases h; kernel_rfl)⟩
def ti197 : TI := { size := 1, bytes := 8, zu := .one (.top), zv := .pointer none, desc := .pointer 199, offs := [] }
theorem tf197 : TabFact Tryz.prog 197 ti197 := ⟨by kernel_rfl, by kernel_rfl, (fun φ w F => csim_const (φ := φ) (w := w) (F := F) (.pointer none)), rfl, nofun, nofun⟩
def ti199 : TI := { size := 6, bytes := 96, zu := .agg [.d (.int .i64 0), .d .nil, .d .nil, .nilmap, .d .nil, .top], zv := .agg #[.int .i64 0, .slice none 0 0, .slice none 0 0, .map none, .slice none 0 0, .nilFunc], desc := .struct #[⟨"tree", 25, 0, false, "", "cellular/tabletree", 0⟩, ⟨"known", 147, 3, false, "", "cellular/tabletree", 56⟩, ⟨"in", 75, 4, false, "", "cellular/tabletree", 64⟩, ⟨"value", 158, 5, false, "", "cellular/tabletree", 88⟩], offs := [(0, 3), (3, 1), (4, 1), (5, 1)] }
theorem tf199 : TabFact Tryz.prog 199 ti199 := ⟨by kernel_rfl, by kernel_rfl, (fun φ w F => ⟨#[.int .i64 0, .slice none 0 0, .slice none 0 0, .map none, .slice none 0 0, .nilFunc], rfl, csims_const (φ := φ) (w := w) (F := F) [.int .i64 0, .slice none 0 0, .slice none 0 0, .map none, .slice none 0 0, .nilFunc]⟩), rfl, (fun fs h => by cases h; kernel_rfl), (fun fs h => by cases h; kernel_rfl)⟩
def ti207 : TI := { size := 1, bytes := 8, zu := .one (.d (.int .u64 0)), zv := .int .u64 0, desc := .int .u64, offs := [] }
theorem tf207 : TabFact Tryz.prog 207 ti207 := ⟨by kernel_rfl, by kernel_rfl, (fun φ w F => csim_const (φ := φ) (w := w) (F := F) (.int .u64 0)), rfl, nofun, nofun⟩
def ti223 : TI := { size := 1, bytes := 8, zu := .one (.top), zv := .pointer none, desc := .pointer 219, offs := [] }
theorem tf223 : TabFact Tryz.prog 223 ti223 := ⟨by kernel_rfl, by kernel_rfl, (fun φ w F => csim_const (φ := φ) (w := w) (F := F) (.pointer none)), rfl, nofun, nofun⟩
def ti224 : TI := { size := 1, bytes := 24, zu := .one (.d .nil), zv := .slice none 0 0, desc := .slice 226, offs := [] }
theorem tf224 : TabFact Tryz.prog 224 ti224 := ⟨by kernel_rfl, by kernel_rfl, (fun φ w F => csim_const (φ := φ) (w := w) (F := F) (.slice none 0 0)), rfl, nofun, nofun⟩
def ti226 : TI := { size := 2, bytes := 16, zu := .agg [.d (.int .i64 0), .d (.int .i64 0)], zv := .agg #[.int .i64 0, .int .i64 0], desc := .struct #[⟨"start", 3, 0, false, "", "strings", 0⟩, ⟨"end", 3, 1, false, "", "strings", 8⟩], offs := [(0, 1), (1, 1)] }
theorem tf226 : TabFact Tryz.prog 226 ti226 := ⟨by kernel_rfl, by kernel_rfl, (fun φ w F => ⟨#[.int .i64 0, .int .i64 0], rfl, csims_const (φ := φ) (w := w) (F := F) [.int .i64 0, .int .i64 0]⟩), rfl, (fun fs h => by cases h; kernel_rfl), (fun fs h => by cases h; kernel_rfl)⟩
def ti241 : TI := { size := 1, bytes := 8, zu := .one (.d (.int .u64 0)), zv := .int .u64 0, desc := .int .u64, offs := [] }
theorem tf241 : TabFact Tryz.prog 241 ti241 := ⟨by kernel_rfl, by kernel_rfl, (fun φ w F => csim_const (φ := φ) (w := w) (F := F) (.int .u64 0)), rfl, nofun, nofun⟩
def ti259 : TI := { size := 1, bytes := 8, zu := .one (.top), zv := .pointer none, desc := .pointer 289, offs := [] }
theorem tf259 : TabFact Tryz.prog 259 ti259 := ⟨by kernel_rfl, by kernel_rfl, (fun φ w F => csim_const (φ := φ) (w := w) (F := F) (.pointer none)), rfl, nofun, nofun⟩
def ti263 : TI := { size := 1, bytes := 24, zu := .one (.d .nil), zv := .slice none 0 0, desc := .slice 4, offs := [] }
theorem tf263 : TabFact Tryz.prog 263 ti263 := ⟨by kernel_rfl, by kernel_rfl, (fun φ w F => csim_const (φ := φ) (w := w) (F := F) (.slice none 0 0)), rfl, nofun, nofun⟩
def ti264 : TI := { size := 1, bytes := 8, zu := .one (.top), zv := .nilFunc, desc := .func #[3] #[] false, offs := [] }
theorem tf264 : TabFact Tryz.prog 264 ti264 := ⟨by kernel_rfl, by kernel_rfl, (fun φ w F => csim_const (φ := φ) (w := w) (F := F) (.nilFunc)), rfl, nofun, nofun⟩
def ti277 : TI := { size := 1, bytes := 8, zu := .one (.top), zv := .pointer none, desc := .pointer 279, offs := [] }
theorem tf277 : TabFact Tryz.prog 277 ti277 := ⟨by kernel_rfl, by kernel_rfl, (fun φ w F => csim_const (φ := φ) (w := w) (F := F) (.pointer none)), rfl, nofun, nofun⟩
def ti279 : TI := { size := 1, bytes := 16, zu := .agg [.d (.str ⟨#[]⟩)], zv := .agg #[.string ⟨#[]⟩], desc := .struct #[⟨"s", 9, 0, false, "", "errors", 0⟩], offs := [(0, 1)] }
theorem tf279 : TabFact Tryz.prog 279 ti279 := ⟨by kernel_rfl, by kernel_rfl, (fun φ w F => ⟨#[.string ⟨#[]⟩], rfl, csims_const (φ := φ) (w := w) (F := F) [.string ⟨#[]⟩]⟩), rfl, (fun fs h => by cases h; kernel_rfl), (fun fs h => by cases h; kernel_rfl)⟩
def ti286 : TI := { size := 4, bytes := 32, zu := .agg [.d (.int .i64 0), .d (.int .i64 0), .d (.int .i64 0), .d (.int .i64 0)], zv := .agg #[.int .i64 0, .int .i64 0, .int .i64 0, .int .i64 0], desc := .array 4 3, offs := [] }
theorem tf286 : TabFact Tryz.prog 286 ti286 := ⟨by kernel_rfl, by kernel_rfl, (fun φ w F => ⟨#[.int .i64 0, .int .i64 0, .int .i64 0, .int .i64 0], rfl, csims_const (φ := φ) (w := w) (F := F) [.int .i64 0, .int .i64 0, .int .i64 0, .int .i64 0]⟩), rfl, nofun, nofun⟩
def ti295 : TI := { size := 2, bytes := 2, zu := .agg [.d (.int .u8 0), .d (.int .u8 0)], zv := .agg #[.int .u8 0, .int .u8 0], desc := .struct #[⟨"lo", 5, 0, false, "", "unicode/utf8", 0⟩, ⟨"hi", 5, 1, false, "", "unicode/utf8", 1⟩], offs := [(0, 1), (1, 1)] }
theorem tf295 : TabFact Tryz.prog 295 ti295 := ⟨by kernel_rfl, by kernel_rfl, (fun φ w F => ⟨#[.int .u8 0, .int .u8 0], rfl, csims_const (φ := φ) (w := w) (F := F) [.int .u8 0, .int .u8 0]⟩), rfl, (fun fs h => by cases h; kernel_rfl), (fun fs h => by cases h; kernel_rfl)⟩
def ti299 : TI := { size := 20, bytes := 160, zu := .agg [.d (.int .u64 0), .d (.int .u64 0), .d (.int .u64 0), .d (.int .u64 0), .d (.int .u64 0), .d (.int .u64 0), .d (.int .u64 0), .d (.int .u64 0), .d (.int .u64 0), .d (.int .u64 0), .d (.int .u64 0), .d (.int .u64 0), .d (.int .u64 0), .d (.int .u64 0), .d (.int .u64 0), .d (.int .u64 0), .d (.int .u64 0), .d (.int .u64 0), .d (.int .u64 0), .d (.int .u64 0)], zv := .agg #[.int .u64 0, .int .u64 0, .int .u64 0, .int .u64 0, .int .u64 0, .int .u64 0, .int .u64 0, .int .u64 0, .int .u64 0, .int .u64 0, .int .u64 0, .int .u64 0, .int .u64 0, .int .u64 0, .int .u64 0, .int .u64 0, .int .u64 0, .int .u64 0, .int .u64 0, .int .u64 0], desc := .array 20 241, offs := [] }
theorem tf299 : TabFact Tryz.prog 299 ti299 := ⟨by kernel_rfl, by kernel_rfl, (fun φ w F => ⟨#[.int .u64 0, .int .u64 0, .int .u64 0, .int .u64 0, .int .u64 0, .int .u64 0, .int .u64 0, .int .u64 0, .int .u64 0, .int .u64 0, .int .u64 0, .int .u64 0, .int .u64 0, .int .u64 0, .int .u64 0, .int .u64 0, .int .u64 0, .int .u64 0, .int .u64 0, .int .u64 0], rfl, csims_const (φ := φ) (w := w) (F := F) [.int .u64 0, .int .u64 0, .int .u64 0, .int .u64 0, .int .u64 0, .int .u64 0, .int .u64 0, .int .u64 0, .int .u64 0, .int .u64 0, .int .u64 0, .int .u64 0, .int .u64 0, .int .u64 0, .int .u64 0, .int .u64 0, .int .u64 0, .int .u64 0, .int .u64 0, .int .u64 0]⟩), rfl, nofun, nofun⟩
def ty : Tab := fun t => match t with
 | 2 => some ti2
 | 3 => some ti3
 | 4 => some ti4
 | 5 => some ti5
 | 9 => some ti9
 | 21 => some ti21
 | 22 => some ti22
 | 23 => some ti23
 | 25 => some ti25
 | 26 => some ti26
 | 27 => some ti27
 | 31 => some ti31
 | 32 => some ti32
 | 43 => some ti43
 | 51 => some ti51
 | 54 => some ti54
 | 55 => some ti55
 | 61 => some ti61
 | 65 => some ti65
 | 70 => some ti70
 | 72 => some ti72
 | 75 => some ti75
 | 77 => some ti77
 | 81 => some ti81
 | 88 => some ti88
 | 89 => some ti89
 | 91 => some ti91
 | 96 => some ti96
 | 98 => some ti98
 | 102 => some ti102
 | 106 => some ti106
 | 108 => some ti108
 | 110 => some ti110
 | 121 => some ti121
 | 130 => some ti130
 | 131 => some ti131
 | 133 => some ti133
 | 140 => some ti140
 | 144 => some ti144
 | 145 => some ti145
 | 146 => some ti146
 | 147 => some ti147
 | 149 => some ti149
 | 151 => some ti151
 | 158 => some ti158
 | 169 => some ti169
 | 176 => some ti176
 | 177 => some ti177
 | 179 => some ti179
 | 183 => some ti183
 | 184 => some ti184
 | 186 => some ti186
 | 187 => some ti187
 | 189 => some ti189
 | 193 => some ti193
 | 196 => some ti196
 | 197 => some ti197
 | 199 => some ti199
 | 207 => some ti207
 | 223 => some ti223
 | 224 => some ti224
 | 226 => some ti226
 | 241 => some ti241
 | 259 => some ti259
 | 263 => some ti263
 | 264 => some ti264
 | 277 => some ti277
 | 279 => some ti279
 | 286 => some ti286
 | 295 => some ti295
 | 299 => some ti299
 | _ => none
theorem ty_ok : TabOk Tryz.prog ty := by
 intro t ti h
 unfold ty at h
 split at h
 ·cases h; exact tf2
 ·cases h; exact tf3
 ·cases h; exact tf4
 ·cases h; exact tf5
 ·cases h; exact tf9
 ·cases h; exact tf21
 ·cases h; exact tf22
 ·cases h; exact tf23
 ·cases h; exact tf25
 ·cases h; exact tf26
 ·cases h; exact tf27
 ·cases h; exact tf31
 ·cases h; exact tf32
 ·cases h; exact tf43
 ·cases h; exact tf51
 ·cases h; exact tf54
 ·cases h; exact tf55
 ·cases h; exact tf61
 ·cases h; exact tf65
 ·cases h; exact tf70
 ·cases h; exact tf72
 ·cases h; exact tf75
 ·cases h; exact tf77
 ·cases h; exact tf81
 ·cases h; exact tf88
 ·cases h; exact tf89
 ·cases h; exact tf91
 ·cases h; exact tf96
 ·cases h; exact tf98
 ·cases h; exact tf102
 ·cases h; exact tf106
 ·cases h; exact tf108
 ·cases h; exact tf110
 ·cases h; exact tf121
 ·cases h; exact tf130
 ·cases h; exact tf131
 ·cases h; exact tf133
 ·cases h; exact tf140
 ·cases h; exact tf144
 ·cases h; exact tf145
 ·cases h; exact tf146
 ·cases h; exact tf147
 ·cases h; exact tf149
 ·cases h; exact tf151
 ·cases h; exact tf158
 ·cases h; exact tf169
 ·cases h; exact tf176
 ·cases h; exact tf177
 ·cases h; exact tf179
 ·cases h; exact tf183
 ·cases h; exact tf184
 ·cases h; exact tf186
 ·cases h; exact tf187
 ·cases h; exact tf189
 ·cases h; exact tf193
 ·cases h; exact tf196
 ·cases h; exact tf197
 ·cases h; exact tf199
 ·cases h; exact tf207
 ·cases h; exact tf223
 ·cases h; exact tf224
 ·cases h; exact tf226
 ·cases h; exact tf241
 ·cases h; exact tf259
 ·cases h; exact tf263
 ·cases h; exact tf264
 ·cases h; exact tf277
 ·cases h; exact tf279
 ·cases h; exact tf286
 ·cases h; exact tf295
 ·cases h; exact tf299
 ·cases h
def eqn : TypeId → Option Nat := fun t => match t with
 | 31 => some 3
 | 51 => some 3
 | 72 => some 2
 | 96 => some 4
 | 130 => some 2
 | 186 => some 2
 | 226 => some 2
 | 295 => some 2
 | _ => none
theorem ef31 : intFields Tryz.prog 31 3 := by
 refine ⟨#[⟨"Period", 3, 0, false, "", "", 0⟩, ⟨"DX", 3, 1, false, "", "", 8⟩, ⟨"DY", 3, 2, false, "", "", 16⟩], by kernel_rfl, by kernel_rfl, by kernel_rfl, rfl, fun i f h => ?_⟩
 match i, h with
 | 0, h => cases h; exact ⟨by decide, rfl, .i64, by kernel_rfl⟩
 | 1, h => cases h; exact ⟨by decide, rfl, .i64, by kernel_rfl⟩
 | 2, h => cases h; exact ⟨by decide, rfl, .i64, by kernel_rfl⟩
 | i + 3, h => simp at h
theorem ef51 : intFields Tryz.prog 51 3 := by
 refine ⟨#[⟨"X", 3, 0, false, "", "", 0⟩, ⟨"Y", 3, 1, false, "", "", 8⟩, ⟨"S", 3, 2, false, "", "", 16⟩], by kernel_rfl, by kernel_rfl, by kernel_rfl, rfl, fun i f h => ?_⟩
 match i, h with
 | 0, h => cases h; exact ⟨by decide, rfl, .i64, by kernel_rfl⟩
 | 1, h => cases h; exact ⟨by decide, rfl, .i64, by kernel_rfl⟩
 | 2, h => cases h; exact ⟨by decide, rfl, .i64, by kernel_rfl⟩
 | i + 3, h => simp at h
theorem ef72 : intFields Tryz.prog 72 2 := by
 refine ⟨#[⟨"X", 3, 0, false, "", "", 0⟩, ⟨"Y", 3, 1, false, "", "", 8⟩], by kernel_rfl, by kernel_rfl, by kernel_rfl, rfl, fun i f h => ?_⟩
 match i, h with
 | 0, h => cases h; exact ⟨by decide, rfl, .i64, by kernel_rfl⟩
 | 1, h => cases h; exact ⟨by decide, rfl, .i64, by kernel_rfl⟩
 | i + 2, h => simp at h
theorem ef96 : intFields Tryz.prog 96 4 := by
 refine ⟨#[⟨"X", 3, 0, false, "", "", 0⟩, ⟨"Y", 3, 1, false, "", "", 8⟩, ⟨"W", 3, 2, false, "", "", 16⟩, ⟨"H", 3, 3, false, "", "", 24⟩], by kernel_rfl, by kernel_rfl, by kernel_rfl, rfl, fun i f h => ?_⟩
 match i, h with
 | 0, h => cases h; exact ⟨by decide, rfl, .i64, by kernel_rfl⟩
 | 1, h => cases h; exact ⟨by decide, rfl, .i64, by kernel_rfl⟩
 | 2, h => cases h; exact ⟨by decide, rfl, .i64, by kernel_rfl⟩
 | 3, h => cases h; exact ⟨by decide, rfl, .i64, by kernel_rfl⟩
 | i + 4, h => simp at h
theorem ef130 : intFields Tryz.prog 130 2 := by
 refine ⟨#[⟨"ones", 3, 0, false, "", "cellular/totaltree", 0⟩, ⟨"centre", 3, 1, false, "", "cellular/totaltree", 8⟩], by kernel_rfl, by kernel_rfl, by kernel_rfl, rfl, fun i f h => ?_⟩
 match i, h with
 | 0, h => cases h; exact ⟨by decide, rfl, .i64, by kernel_rfl⟩
 | 1, h => cases h; exact ⟨by decide, rfl, .i64, by kernel_rfl⟩
 | i + 2, h => simp at h
theorem ef186 : intFields Tryz.prog 186 2 := by
 refine ⟨#[⟨"at", 3, 0, false, "", "cellular/totaltree", 0⟩, ⟨"s", 3, 1, false, "", "cellular/totaltree", 8⟩], by kernel_rfl, by kernel_rfl, by kernel_rfl, rfl, fun i f h => ?_⟩
 match i, h with
 | 0, h => cases h; exact ⟨by decide, rfl, .i64, by kernel_rfl⟩
 | 1, h => cases h; exact ⟨by decide, rfl, .i64, by kernel_rfl⟩
 | i + 2, h => simp at h
theorem ef226 : intFields Tryz.prog 226 2 := by
 refine ⟨#[⟨"start", 3, 0, false, "", "strings", 0⟩, ⟨"end", 3, 1, false, "", "strings", 8⟩], by kernel_rfl, by kernel_rfl, by kernel_rfl, rfl, fun i f h => ?_⟩
 match i, h with
 | 0, h => cases h; exact ⟨by decide, rfl, .i64, by kernel_rfl⟩
 | 1, h => cases h; exact ⟨by decide, rfl, .i64, by kernel_rfl⟩
 | i + 2, h => simp at h
theorem ef295 : intFields Tryz.prog 295 2 := by
 refine ⟨#[⟨"lo", 5, 0, false, "", "unicode/utf8", 0⟩, ⟨"hi", 5, 1, false, "", "unicode/utf8", 1⟩], by kernel_rfl, by kernel_rfl, by kernel_rfl, rfl, fun i f h => ?_⟩
 match i, h with
 | 0, h => cases h; exact ⟨by decide, rfl, .u8, by kernel_rfl⟩
 | 1, h => cases h; exact ⟨by decide, rfl, .u8, by kernel_rfl⟩
 | i + 2, h => simp at h
theorem eqn_ok : ∀ t n, eqn t = some n → intFields Tryz.prog t n := by
 intro t n h
 unfold eqn at h
 split at h
 ·cases h; exact ef31
 ·cases h; exact ef51
 ·cases h; exact ef72
 ·cases h; exact ef96
 ·cases h; exact ef130
 ·cases h; exact ef186
 ·cases h; exact ef226
 ·cases h; exact ef295
 ·cases h
def key : TypeId → Option KK := fun t => match t with
 | 9 => some .str
 | 72 => some (.ints 2)
 | 179 => some (.ints 3)
 | 186 => some (.ints 2)
 | _ => none
theorem kf9 : Maps.Keyed Tryz.prog 9 ∧ ∀ k : Key, k.fits .str = true → ∃ l, keyOf Tryz.prog 9 k.val = some l := key_str (by kernel_rfl)
theorem kf72 : Maps.Keyed Tryz.prog 72 ∧ ∀ k : Key, k.fits (.ints 2) = true → ∃ l, keyOf Tryz.prog 72 k.val = some l :=
 key_ints (fs := #[⟨"X", 3, 0, false, "", "", 0⟩, ⟨"Y", 3, 1, false, "", "", 8⟩]) (by kernel_rfl) (by kernel_rfl) (by kernel_rfl) (by kernel_rfl) (by kernel_rfl) (by kernel_rfl) (by
  intro i f h
  match i, h with
  | 0, h => cases h; exact ⟨by decide, rfl, by kernel_rfl, by kernel_rfl⟩
  | 1, h => cases h; exact ⟨by decide, rfl, by kernel_rfl, by kernel_rfl⟩
  | i + 2, h => simp at h)
theorem kf179 : Maps.Keyed Tryz.prog 179 ∧ ∀ k : Key, k.fits (.ints 3) = true → ∃ l, keyOf Tryz.prog 179 k.val = some l := key_nest (d := 3) (fs := #[⟨"at", 3, 0, false, "", "cellular/totaltree", 0⟩, ⟨"s", 130, 1, false, "", "cellular/totaltree", 8⟩]) (by kernel_rfl) (by kernel_rfl) (by kernel_rfl) (by kernel_rfl) (by kernel_rfl) (by kernel_rfl) (.inr ⟨#[⟨"at", 3, 0, false, "", "cellular/totaltree", 0⟩, ⟨"s", 130, 1, false, "", "cellular/totaltree", 8⟩], by kernel_rfl, by kernel_rfl, fun i f h => match i, h with | 0, h => by cases h; exact ⟨by decide, 1, (.inl ⟨by kernel_rfl, rfl⟩), by kernel_rfl, by decide⟩ | 1, h => by cases h; exact ⟨by decide, 2, (.inr ⟨#[⟨"ones", 3, 0, false, "", "cellular/totaltree", 0⟩, ⟨"centre", 3, 1, false, "", "cellular/totaltree", 8⟩], by kernel_rfl, by kernel_rfl, fun i f h => match i, h with | 0, h => by cases h; exact ⟨by decide, 1, (.inl ⟨by kernel_rfl, rfl⟩), by kernel_rfl, by decide⟩ | 1, h => by cases h; exact ⟨by decide, 1, (.inl ⟨by kernel_rfl, rfl⟩), by kernel_rfl, by decide⟩ | i + 2, h => by simp at h⟩), by kernel_rfl, by decide⟩ | i + 2, h => by simp at h⟩) (by kernel_rfl)
theorem kf186 : Maps.Keyed Tryz.prog 186 ∧ ∀ k : Key, k.fits (.ints 2) = true → ∃ l, keyOf Tryz.prog 186 k.val = some l :=
 key_ints (fs := #[⟨"at", 3, 0, false, "", "cellular/totaltree", 0⟩, ⟨"s", 3, 1, false, "", "cellular/totaltree", 8⟩]) (by kernel_rfl) (by kernel_rfl) (by kernel_rfl) (by kernel_rfl) (by kernel_rfl) (by kernel_rfl) (by
  intro i f h
  match i, h with
  | 0, h => cases h; exact ⟨by decide, rfl, by kernel_rfl, by kernel_rfl⟩
  | 1, h => cases h; exact ⟨by decide, rfl, by kernel_rfl, by kernel_rfl⟩
  | i + 2, h => simp at h)
theorem key_ok : ∀ t kk, key t = some kk → Maps.Keyed Tryz.prog t ∧ ∀ k : Key, k.fits kk = true → ∃ l, keyOf Tryz.prog t k.val = some l := by
 intro t kk h
 unfold key at h
 split at h
 ·cases h; exact kf9
 ·cases h; exact kf72
 ·cases h; exact kf179
 ·cases h; exact kf186
 ·cases h
def tb : Tb := { ty := ty, eqn := eqn, key := key }
theorem bj : TbOk Tryz.prog tb := ⟨ty_ok, eqn_ok, key_ok, (fun _ _ _ h => by cases h), (fun _ _ _ _ _ _ _ _ _ h => by cases h)⟩
theorem mixed : Tryz.prog.follows .mixedOrders = true := by kernel_rfl
end Go.Proofs.YtdjclgfbggfpaaaGreatDoor
