/- The table of the types of this seat, made by program (gen_tab.py), and that it holds. -/
import Derived.Test.YtldhnnkpmhnpcaaGreatDoorRows
import Derived.Test.YtldhnnkpmhnpcaaGreatDoorAmO
namespace Go.Proofs.YtldhnnkpmhnpcaaGreatDoor
open Go.AM Go.Proofs
def ti2 : TI := { size := 1, bytes := 8, zu := .one (.d (.int .i64 0)), zv := .int .i64 0, desc := .int .i64, offs := [] }
theorem tf2 : TabFact Tryz.prog 2 ti2 := ⟨by kernel_rfl, by kernel_rfl, (fun φ w F => csim_const (φ := φ) (w := w) (F := F) (.int .i64 0)), rfl, nofun, nofun⟩
def ti3 : TI := { size := 1, bytes := 8, zu := .one (.d (.int .i64 0)), zv := .int .i64 0, desc := .int .i64, offs := [] }
theorem tf3 : TabFact Tryz.prog 3 ti3 := ⟨by kernel_rfl, by kernel_rfl, (fun φ w F => csim_const (φ := φ) (w := w) (F := F) (.int .i64 0)), rfl, nofun, nofun⟩
def ti4 : TI := { size := 1, bytes := 1, zu := .one (.d (.bool false)), zv := .bool false, desc := .bool, offs := [] }
theorem tf4 : TabFact Tryz.prog 4 ti4 := ⟨by kernel_rfl, by kernel_rfl, (fun φ w F => csim_const (φ := φ) (w := w) (F := F) (.bool false)), rfl, nofun, nofun⟩
def ti5 : TI := { size := 1, bytes := 1, zu := .one (.d (.int .u8 0)), zv := .int .u8 0, desc := .int .u8, offs := [] }
theorem tf5 : TabFact Tryz.prog 5 ti5 := ⟨by kernel_rfl, by kernel_rfl, (fun φ w F => csim_const (φ := φ) (w := w) (F := F) (.int .u8 0)), rfl, nofun, nofun⟩
def ti9 : TI := { size := 1, bytes := 16, zu := .one (.d (.str ⟨#[]⟩)), zv := .string ⟨#[]⟩, desc := .string, offs := [] }
theorem tf9 : TabFact Tryz.prog 9 ti9 := ⟨by kernel_rfl, by kernel_rfl, (fun φ w F => csim_const (φ := φ) (w := w) (F := F) (.string ⟨#[]⟩)), rfl, nofun, nofun⟩
def ti21 : TI := { size := 1, bytes := 4, zu := .one (.d (.int .i32 0)), zv := .int .i32 0, desc := .int .i32, offs := [] }
theorem tf21 : TabFact Tryz.prog 21 ti21 := ⟨by kernel_rfl, by kernel_rfl, (fun φ w F => csim_const (φ := φ) (w := w) (F := F) (.int .i32 0)), rfl, nofun, nofun⟩
def ti22 : TI := { size := 1, bytes := 24, zu := .one (.d .nil), zv := .slice none 0 0, desc := .slice 77, offs := [] }
theorem tf22 : TabFact Tryz.prog 22 ti22 := ⟨by kernel_rfl, by kernel_rfl, (fun φ w F => csim_const (φ := φ) (w := w) (F := F) (.slice none 0 0)), rfl, nofun, nofun⟩
def ti23 : TI := { size := 1, bytes := 24, zu := .one (.d .nil), zv := .slice none 0 0, desc := .slice 46, offs := [] }
theorem tf23 : TabFact Tryz.prog 23 ti23 := ⟨by kernel_rfl, by kernel_rfl, (fun φ w F => csim_const (φ := φ) (w := w) (F := F) (.slice none 0 0)), rfl, nofun, nofun⟩
def ti25 : TI := { size := 3, bytes := 56, zu := .agg [.d (.int .i64 0), .d .nil, .d .nil], zv := .agg #[.int .i64 0, .slice none 0 0, .slice none 0 0], desc := .struct #[⟨"States", 3, 0, false, "", "", 0⟩, ⟨"Hood", 22, 1, false, "", "", 8⟩, ⟨"Nodes", 23, 2, false, "", "", 32⟩], offs := [(0, 1), (1, 1), (2, 1)] }
theorem tf25 : TabFact Tryz.prog 25 ti25 := ⟨by kernel_rfl, by kernel_rfl, (fun φ w F => ⟨#[.int .i64 0, .slice none 0 0, .slice none 0 0], rfl, csims_const (φ := φ) (w := w) (F := F) [.int .i64 0, .slice none 0 0, .slice none 0 0]⟩), rfl, (fun fs h => by cases h; kernel_rfl), (fun fs h => by cases h; kernel_rfl)⟩
def ti29 : TI := { size := 1, bytes := 24, zu := .one (.d .nil), zv := .slice none 0 0, desc := .slice 3, offs := [] }
theorem tf29 : TabFact Tryz.prog 29 ti29 := ⟨by kernel_rfl, by kernel_rfl, (fun φ w F => csim_const (φ := φ) (w := w) (F := F) (.slice none 0 0)), rfl, nofun, nofun⟩
def ti31 : TI := { size := 1, bytes := 8, zu := .one (.d (.int .i64 0)), zv := .int .i64 0, desc := .int .i64, offs := [] }
theorem tf31 : TabFact Tryz.prog 31 ti31 := ⟨by kernel_rfl, by kernel_rfl, (fun φ w F => csim_const (φ := φ) (w := w) (F := F) (.int .i64 0)), rfl, nofun, nofun⟩
def ti37 : TI := { size := 8, bytes := 64, zu := .agg [.d (.int .i64 0), .d (.int .i64 0), .d (.int .i64 0), .d (.int .i64 0), .d (.int .i64 0), .d (.int .i64 0), .d (.int .i64 0), .d (.int .i64 0)], zv := .agg #[.int .i64 0, .int .i64 0, .int .i64 0, .int .i64 0, .int .i64 0, .int .i64 0, .int .i64 0, .int .i64 0], desc := .array 8 3, offs := [] }
theorem tf37 : TabFact Tryz.prog 37 ti37 := ⟨by kernel_rfl, by kernel_rfl, (fun φ w F => ⟨#[.int .i64 0, .int .i64 0, .int .i64 0, .int .i64 0, .int .i64 0, .int .i64 0, .int .i64 0, .int .i64 0], rfl, csims_const (φ := φ) (w := w) (F := F) [.int .i64 0, .int .i64 0, .int .i64 0, .int .i64 0, .int .i64 0, .int .i64 0, .int .i64 0, .int .i64 0]⟩), rfl, nofun, nofun⟩
def ti46 : TI := { size := 2, bytes := 32, zu := .agg [.d (.int .i64 0), .d .nil], zv := .agg #[.int .i64 0, .slice none 0 0], desc := .struct #[⟨"Level", 3, 0, false, "", "", 0⟩, ⟨"Next", 29, 1, false, "", "", 8⟩], offs := [(0, 1), (1, 1)] }
theorem tf46 : TabFact Tryz.prog 46 ti46 := ⟨by kernel_rfl, by kernel_rfl, (fun φ w F => ⟨#[.int .i64 0, .slice none 0 0], rfl, csims_const (φ := φ) (w := w) (F := F) [.int .i64 0, .slice none 0 0]⟩), rfl, (fun fs h => by cases h; kernel_rfl), (fun fs h => by cases h; kernel_rfl)⟩
def ti52 : TI := { size := 4, bytes := 80, zu := .agg [.d .nil, .d (.int .i64 0), .d .nil, .d .nil], zv := .agg #[.slice none 0 0, .int .i64 0, .slice none 0 0, .slice none 0 0], desc := .struct #[⟨"Hood", 22, 0, false, "", "", 0⟩, ⟨"States", 3, 1, false, "", "", 24⟩, ⟨"Birth", 29, 2, false, "", "", 32⟩, ⟨"Survive", 29, 3, false, "", "", 56⟩], offs := [(0, 1), (1, 1), (2, 1), (3, 1)] }
theorem tf52 : TabFact Tryz.prog 52 ti52 := ⟨by kernel_rfl, by kernel_rfl, (fun φ w F => ⟨#[.slice none 0 0, .int .i64 0, .slice none 0 0, .slice none 0 0], rfl, csims_const (φ := φ) (w := w) (F := F) [.slice none 0 0, .int .i64 0, .slice none 0 0, .slice none 0 0]⟩), rfl, (fun fs h => by cases h; kernel_rfl), (fun fs h => by cases h; kernel_rfl)⟩
def ti59 : TI := { size := 1, bytes := 24, zu := .one (.d .nil), zv := .slice none 0 0, desc := .slice 29, offs := [] }
theorem tf59 : TabFact Tryz.prog 59 ti59 := ⟨by kernel_rfl, by kernel_rfl, (fun φ w F => csim_const (φ := φ) (w := w) (F := F) (.slice none 0 0)), rfl, nofun, nofun⟩
def ti60 : TI := { size := 1, bytes := 24, zu := .one (.d .nil), zv := .slice none 0 0, desc := .slice 159, offs := [] }
theorem tf60 : TabFact Tryz.prog 60 ti60 := ⟨by kernel_rfl, by kernel_rfl, (fun φ w F => csim_const (φ := φ) (w := w) (F := F) (.slice none 0 0)), rfl, nofun, nofun⟩
def ti62 : TI := { size := 5, bytes := 88, zu := .agg [.d (.int .i64 0), .d (.int .i64 0), .d .nil, .d .nil, .d .nil], zv := .agg #[.int .i64 0, .int .i64 0, .slice none 0 0, .slice none 0 0, .slice none 0 0], desc := .struct #[⟨"States", 3, 0, false, "", "", 0⟩, ⟨"Sym", 3, 1, false, "", "", 8⟩, ⟨"Hood", 22, 2, false, "", "", 16⟩, ⟨"Vars", 59, 3, false, "", "", 40⟩, ⟨"Rows", 60, 4, false, "", "", 64⟩], offs := [(0, 1), (1, 1), (2, 1), (3, 1), (4, 1)] }
theorem tf62 : TabFact Tryz.prog 62 ti62 := ⟨by kernel_rfl, by kernel_rfl, (fun φ w F => ⟨#[.int .i64 0, .int .i64 0, .slice none 0 0, .slice none 0 0, .slice none 0 0], rfl, csims_const (φ := φ) (w := w) (F := F) [.int .i64 0, .int .i64 0, .slice none 0 0, .slice none 0 0, .slice none 0 0]⟩), rfl, (fun fs h => by cases h; kernel_rfl), (fun fs h => by cases h; kernel_rfl)⟩
def ti66 : TI := { size := 1, bytes := 24, zu := .one (.d .nil), zv := .slice none 0 0, desc := .slice 5, offs := [] }
theorem tf66 : TabFact Tryz.prog 66 ti66 := ⟨by kernel_rfl, by kernel_rfl, (fun φ w F => csim_const (φ := φ) (w := w) (F := F) (.slice none 0 0)), rfl, nofun, nofun⟩
def ti70 : TI := { size := 1, bytes := 8, zu := .one (.top), zv := .nilFunc, desc := .func #[3] #[4] false, offs := [] }
theorem tf70 : TabFact Tryz.prog 70 ti70 := ⟨by kernel_rfl, by kernel_rfl, (fun φ w F => csim_const (φ := φ) (w := w) (F := F) (.nilFunc)), rfl, nofun, nofun⟩
def ti73 : TI := { size := 8, bytes := 8, zu := .agg [.d (.bool false), .d (.bool false), .d (.bool false), .d (.bool false), .d (.bool false), .d (.bool false), .d (.bool false), .d (.bool false)], zv := .agg #[.bool false, .bool false, .bool false, .bool false, .bool false, .bool false, .bool false, .bool false], desc := .array 8 4, offs := [] }
theorem tf73 : TabFact Tryz.prog 73 ti73 := ⟨by kernel_rfl, by kernel_rfl, (fun φ w F => ⟨#[.bool false, .bool false, .bool false, .bool false, .bool false, .bool false, .bool false, .bool false], rfl, csims_const (φ := φ) (w := w) (F := F) [.bool false, .bool false, .bool false, .bool false, .bool false, .bool false, .bool false, .bool false]⟩), rfl, nofun, nofun⟩
def ti77 : TI := { size := 2, bytes := 16, zu := .agg [.d (.int .i64 0), .d (.int .i64 0)], zv := .agg #[.int .i64 0, .int .i64 0], desc := .struct #[⟨"X", 3, 0, false, "", "", 0⟩, ⟨"Y", 3, 1, false, "", "", 8⟩], offs := [(0, 1), (1, 1)] }
theorem tf77 : TabFact Tryz.prog 77 ti77 := ⟨by kernel_rfl, by kernel_rfl, (fun φ w F => ⟨#[.int .i64 0, .int .i64 0], rfl, csims_const (φ := φ) (w := w) (F := F) [.int .i64 0, .int .i64 0]⟩), rfl, (fun fs h => by cases h; kernel_rfl), (fun fs h => by cases h; kernel_rfl)⟩
def ti87 : TI := { size := 1, bytes := 24, zu := .one (.d .nil), zv := .slice none 0 0, desc := .slice 25, offs := [] }
theorem tf87 : TabFact Tryz.prog 87 ti87 := ⟨by kernel_rfl, by kernel_rfl, (fun φ w F => csim_const (φ := φ) (w := w) (F := F) (.slice none 0 0)), rfl, nofun, nofun⟩
def ti100 : TI := { size := 1, bytes := 24, zu := .one (.d .nil), zv := .slice none 0 0, desc := .slice 9, offs := [] }
theorem tf100 : TabFact Tryz.prog 100 ti100 := ⟨by kernel_rfl, by kernel_rfl, (fun φ w F => csim_const (φ := φ) (w := w) (F := F) (.slice none 0 0)), rfl, nofun, nofun⟩
def ti104 : TI := { size := 1, bytes := 16, zu := .one (.d .ni), zv := .nilIface, desc := .interface #[("Error", 154)], offs := [] }
theorem tf104 : TabFact Tryz.prog 104 ti104 := ⟨by kernel_rfl, by kernel_rfl, (fun φ w F => csim_const (φ := φ) (w := w) (F := F) (.nilIface)), rfl, nofun, nofun⟩
def ti109 : TI := { size := 2, bytes := 16, zu := .agg [.d (.int .i64 0), .d (.int .i64 0)], zv := .agg #[.int .i64 0, .int .i64 0], desc := .struct #[⟨"ones", 3, 0, false, "", "cellular/totaltree", 0⟩, ⟨"centre", 3, 1, false, "", "cellular/totaltree", 8⟩], offs := [(0, 1), (1, 1)] }
theorem tf109 : TabFact Tryz.prog 109 ti109 := ⟨by kernel_rfl, by kernel_rfl, (fun φ w F => ⟨#[.int .i64 0, .int .i64 0], rfl, csims_const (φ := φ) (w := w) (F := F) [.int .i64 0, .int .i64 0]⟩), rfl, (fun fs h => by cases h; kernel_rfl), (fun fs h => by cases h; kernel_rfl)⟩
def ti110 : TI := { size := 1, bytes := 8, zu := .one (.top), zv := .nilFunc, desc := .func #[109, 3, 3] #[109] false, offs := [] }
theorem tf110 : TabFact Tryz.prog 110 ti110 := ⟨by kernel_rfl, by kernel_rfl, (fun φ w F => csim_const (φ := φ) (w := w) (F := F) (.nilFunc)), rfl, nofun, nofun⟩
def ti112 : TI := { size := 1, bytes := 8, zu := .one (.top), zv := .nilFunc, desc := .func #[109] #[3] false, offs := [] }
theorem tf112 : TabFact Tryz.prog 112 ti112 := ⟨by kernel_rfl, by kernel_rfl, (fun φ w F => csim_const (φ := φ) (w := w) (F := F) (.nilFunc)), rfl, nofun, nofun⟩
def ti119 : TI := { size := 1, bytes := 8, zu := .one (.top), zv := .nilFunc, desc := .func #[3, 3, 3] #[3] false, offs := [] }
theorem tf119 : TabFact Tryz.prog 119 ti119 := ⟨by kernel_rfl, by kernel_rfl, (fun φ w F => csim_const (φ := φ) (w := w) (F := F) (.nilFunc)), rfl, nofun, nofun⟩
def ti120 : TI := { size := 1, bytes := 8, zu := .one (.top), zv := .nilFunc, desc := .func #[3] #[3] false, offs := [] }
theorem tf120 : TabFact Tryz.prog 120 ti120 := ⟨by kernel_rfl, by kernel_rfl, (fun φ w F => csim_const (φ := φ) (w := w) (F := F) (.nilFunc)), rfl, nofun, nofun⟩
def ti121 : TI := { size := 1, bytes := 8, zu := .one (.top), zv := .pointer none, desc := .pointer 124, offs := [] }
theorem tf121 : TabFact Tryz.prog 121 ti121 := ⟨by kernel_rfl, by kernel_rfl, (fun φ w F => csim_const (φ := φ) (w := w) (F := F) (.pointer none)), rfl, nofun, nofun⟩
def ti122 : TI := { size := 1, bytes := 8, zu := .one (.nilmap), zv := .map none, desc := .map 9 3, offs := [] }
theorem tf122 : TabFact Tryz.prog 122 ti122 := ⟨by kernel_rfl, by kernel_rfl, (fun φ w F => csim_const (φ := φ) (w := w) (F := F) (.map none)), rfl, nofun, nofun⟩
def ti124 : TI := { size := 7, bytes := 104, zu := .agg [.d (.int .i64 0), .d (.int .i64 0), .d .nil, .d .nil, .d .nil, .nilmap, .d (.int .i64 0)], zv := .agg #[.int .i64 0, .int .i64 0, .slice none 0 0, .slice none 0 0, .slice none 0 0, .map none, .int .i64 0], desc := .struct #[⟨"t", 62, 0, false, "", "cellular/ruletable", 0⟩, ⟨"names", 122, 5, false, "", "cellular/ruletable", 88⟩, ⟨"head", 3, 6, false, "", "cellular/ruletable", 96⟩], offs := [(0, 5), (5, 1), (6, 1)] }
theorem tf124 : TabFact Tryz.prog 124 ti124 := ⟨by kernel_rfl, by kernel_rfl, (fun φ w F => ⟨#[.int .i64 0, .int .i64 0, .slice none 0 0, .slice none 0 0, .slice none 0 0, .map none, .int .i64 0], rfl, csims_const (φ := φ) (w := w) (F := F) [.int .i64 0, .int .i64 0, .slice none 0 0, .slice none 0 0, .slice none 0 0, .map none, .int .i64 0]⟩), rfl, (fun fs h => by cases h; kernel_rfl), (fun fs h => by cases h; kernel_rfl)⟩
def ti126 : TI := { size := 1, bytes := 8, zu := .one (.top), zv := .nilFunc, desc := .func #[181] #[] false, offs := [] }
theorem tf126 : TabFact Tryz.prog 126 ti126 := ⟨by kernel_rfl, by kernel_rfl, (fun φ w F => csim_const (φ := φ) (w := w) (F := F) (.nilFunc)), rfl, nofun, nofun⟩
def ti132 : TI := { size := 1, bytes := 8, zu := .one (.top), zv := .nilFunc, desc := .func #[29] #[3] false, offs := [] }
theorem tf132 : TabFact Tryz.prog 132 ti132 := ⟨by kernel_rfl, by kernel_rfl, (fun φ w F => csim_const (φ := φ) (w := w) (F := F) (.nilFunc)), rfl, nofun, nofun⟩
def ti136 : TI := { size := 1, bytes := 24, zu := .one (.d .nil), zv := .slice none 0 0, desc := .slice 137, offs := [] }
theorem tf136 : TabFact Tryz.prog 136 ti136 := ⟨by kernel_rfl, by kernel_rfl, (fun φ w F => csim_const (φ := φ) (w := w) (F := F) (.slice none 0 0)), rfl, nofun, nofun⟩
def ti137 : TI := { size := 4, bytes := 32, zu := .agg [.d (.int .i64 0), .d (.int .i64 0), .d (.int .i64 0), .d (.int .i64 0)], zv := .agg #[.int .i64 0, .int .i64 0, .int .i64 0, .int .i64 0], desc := .array 4 3, offs := [] }
theorem tf137 : TabFact Tryz.prog 137 ti137 := ⟨by kernel_rfl, by kernel_rfl, (fun φ w F => ⟨#[.int .i64 0, .int .i64 0, .int .i64 0, .int .i64 0], rfl, csims_const (φ := φ) (w := w) (F := F) [.int .i64 0, .int .i64 0, .int .i64 0, .int .i64 0]⟩), rfl, nofun, nofun⟩
def ti138 : TI := { size := 32, bytes := 256, zu := .agg [.d (.int .i64 0), .d (.int .i64 0), .d (.int .i64 0), .d (.int .i64 0), .d (.int .i64 0), .d (.int .i64 0), .d (.int .i64 0), .d (.int .i64 0), .d (.int .i64 0), .d (.int .i64 0), .d (.int .i64 0), .d (.int .i64 0), .d (.int .i64 0), .d (.int .i64 0), .d (.int .i64 0), .d (.int .i64 0), .d (.int .i64 0), .d (.int .i64 0), .d (.int .i64 0), .d (.int .i64 0), .d (.int .i64 0), .d (.int .i64 0), .d (.int .i64 0), .d (.int .i64 0), .d (.int .i64 0), .d (.int .i64 0), .d (.int .i64 0), .d (.int .i64 0), .d (.int .i64 0), .d (.int .i64 0), .d (.int .i64 0), .d (.int .i64 0)], zv := .agg #[.int .i64 0, .int .i64 0, .int .i64 0, .int .i64 0, .int .i64 0, .int .i64 0, .int .i64 0, .int .i64 0, .int .i64 0, .int .i64 0, .int .i64 0, .int .i64 0, .int .i64 0, .int .i64 0, .int .i64 0, .int .i64 0, .int .i64 0, .int .i64 0, .int .i64 0, .int .i64 0, .int .i64 0, .int .i64 0, .int .i64 0, .int .i64 0, .int .i64 0, .int .i64 0, .int .i64 0, .int .i64 0, .int .i64 0, .int .i64 0, .int .i64 0, .int .i64 0], desc := .array 8 137, offs := [] }
theorem tf138 : TabFact Tryz.prog 138 ti138 := ⟨by kernel_rfl, by kernel_rfl, (fun φ w F => ⟨#[.int .i64 0, .int .i64 0, .int .i64 0, .int .i64 0, .int .i64 0, .int .i64 0, .int .i64 0, .int .i64 0, .int .i64 0, .int .i64 0, .int .i64 0, .int .i64 0, .int .i64 0, .int .i64 0, .int .i64 0, .int .i64 0, .int .i64 0, .int .i64 0, .int .i64 0, .int .i64 0, .int .i64 0, .int .i64 0, .int .i64 0, .int .i64 0, .int .i64 0, .int .i64 0, .int .i64 0, .int .i64 0, .int .i64 0, .int .i64 0, .int .i64 0, .int .i64 0], rfl, csims_const (φ := φ) (w := w) (F := F) [.int .i64 0, .int .i64 0, .int .i64 0, .int .i64 0, .int .i64 0, .int .i64 0, .int .i64 0, .int .i64 0, .int .i64 0, .int .i64 0, .int .i64 0, .int .i64 0, .int .i64 0, .int .i64 0, .int .i64 0, .int .i64 0, .int .i64 0, .int .i64 0, .int .i64 0, .int .i64 0, .int .i64 0, .int .i64 0, .int .i64 0, .int .i64 0, .int .i64 0, .int .i64 0, .int .i64 0, .int .i64 0, .int .i64 0, .int .i64 0, .int .i64 0, .int .i64 0]⟩), rfl, nofun, nofun⟩
def ti140 : TI := { size := 1, bytes := 8, zu := .one (.top), zv := .nilFunc, desc := .func #[3, 29] #[29] false, offs := [] }
theorem tf140 : TabFact Tryz.prog 140 ti140 := ⟨by kernel_rfl, by kernel_rfl, (fun φ w F => csim_const (φ := φ) (w := w) (F := F) (.nilFunc)), rfl, nofun, nofun⟩
def ti143 : TI := { size := 2, bytes := 32, zu := .agg [.d .nil, .nilmap], zv := .agg #[.slice none 0 0, .map none], desc := .struct #[⟨"nodes", 23, 0, false, "", "cellular/reduce", 0⟩, ⟨"known", 122, 1, false, "", "cellular/reduce", 24⟩], offs := [(0, 1), (1, 1)] }
theorem tf143 : TabFact Tryz.prog 143 ti143 := ⟨by kernel_rfl, by kernel_rfl, (fun φ w F => ⟨#[.slice none 0 0, .map none], rfl, csims_const (φ := φ) (w := w) (F := F) [.slice none 0 0, .map none]⟩), rfl, (fun fs h => by cases h; kernel_rfl), (fun fs h => by cases h; kernel_rfl)⟩
def ti147 : TI := { size := 1, bytes := 8, zu := .one (.top), zv := .nilFunc, desc := .func #[46, 46] #[4] false, offs := [] }
theorem tf147 : TabFact Tryz.prog 147 ti147 := ⟨by kernel_rfl, by kernel_rfl, (fun φ w F => csim_const (φ := φ) (w := w) (F := F) (.nilFunc)), rfl, nofun, nofun⟩
def ti148 : TI := { size := 1, bytes := 8, zu := .one (.top), zv := .pointer none, desc := .pointer 150, offs := [] }
theorem tf148 : TabFact Tryz.prog 148 ti148 := ⟨by kernel_rfl, by kernel_rfl, (fun φ w F => csim_const (φ := φ) (w := w) (F := F) (.pointer none)), rfl, nofun, nofun⟩
def ti150 : TI := { size := 2, bytes := 32, zu := .agg [.top, .d .nil], zv := .agg #[.pointer none, .slice none 0 0], desc := .struct #[⟨"addr", 148, 0, false, "", "strings", 0⟩, ⟨"buf", 66, 1, false, "", "strings", 8⟩], offs := [(0, 1), (1, 1)] }
theorem tf150 : TabFact Tryz.prog 150 ti150 := ⟨by kernel_rfl, by kernel_rfl, (fun φ w F => ⟨#[.pointer none, .slice none 0 0], rfl, csims_const (φ := φ) (w := w) (F := F) [.pointer none, .slice none 0 0]⟩), rfl, (fun fs h => by cases h; kernel_rfl), (fun fs h => by cases h; kernel_rfl)⟩
def ti157 : TI := { size := 4, bytes := 64, zu := .agg [.d (.str ⟨#[]⟩), .d (.str ⟨#[]⟩), .d (.str ⟨#[]⟩), .d (.str ⟨#[]⟩)], zv := .agg #[.string ⟨#[]⟩, .string ⟨#[]⟩, .string ⟨#[]⟩, .string ⟨#[]⟩], desc := .array 4 9, offs := [] }
theorem tf157 : TabFact Tryz.prog 157 ti157 := ⟨by kernel_rfl, by kernel_rfl, (fun φ w F => ⟨#[.string ⟨#[]⟩, .string ⟨#[]⟩, .string ⟨#[]⟩, .string ⟨#[]⟩], rfl, csims_const (φ := φ) (w := w) (F := F) [.string ⟨#[]⟩, .string ⟨#[]⟩, .string ⟨#[]⟩, .string ⟨#[]⟩]⟩), rfl, nofun, nofun⟩
def ti159 : TI := { size := 2, bytes := 32, zu := .agg [.d .nil, .d (.int .i64 0)], zv := .agg #[.slice none 0 0, .int .i64 0], desc := .struct #[⟨"Ins", 29, 0, false, "", "", 0⟩, ⟨"Out", 3, 1, false, "", "", 24⟩], offs := [(0, 1), (1, 1)] }
theorem tf159 : TabFact Tryz.prog 159 ti159 := ⟨by kernel_rfl, by kernel_rfl, (fun φ w F => ⟨#[.slice none 0 0, .int .i64 0], rfl, csims_const (φ := φ) (w := w) (F := F) [.slice none 0 0, .int .i64 0]⟩), rfl, (fun fs h => by cases h; kernel_rfl), (fun fs h => by cases h; kernel_rfl)⟩
def ti165 : TI := { size := 1, bytes := 8, zu := .one (.top), zv := .nilFunc, desc := .func #[3, 3] #[4] false, offs := [] }
theorem tf165 : TabFact Tryz.prog 165 ti165 := ⟨by kernel_rfl, by kernel_rfl, (fun φ w F => csim_const (φ := φ) (w := w) (F := F) (.nilFunc)), rfl, nofun, nofun⟩
def ti170 : TI := { size := 1, bytes := 8, zu := .one (.nilmap), zv := .map none, desc := .map 173 3, offs := [] }
theorem tf170 : TabFact Tryz.prog 170 ti170 := ⟨by kernel_rfl, by kernel_rfl, (fun φ w F => csim_const (φ := φ) (w := w) (F := F) (.map none)), rfl, nofun, nofun⟩
def ti171 : TI := { size := 1, bytes := 8, zu := .one (.top), zv := .nilFunc, desc := .func #[173] #[3] false, offs := [] }
theorem tf171 : TabFact Tryz.prog 171 ti171 := ⟨by kernel_rfl, by kernel_rfl, (fun φ w F => csim_const (φ := φ) (w := w) (F := F) (.nilFunc)), rfl, nofun, nofun⟩
def ti173 : TI := { size := 3, bytes := 24, zu := .agg [.d (.int .i64 0), .d (.int .i64 0), .d (.int .i64 0)], zv := .agg #[.int .i64 0, .int .i64 0, .int .i64 0], desc := .struct #[⟨"at", 3, 0, false, "", "cellular/totaltree", 0⟩, ⟨"s", 109, 1, false, "", "cellular/totaltree", 8⟩], offs := [(0, 1), (1, 2)] }
theorem tf173 : TabFact Tryz.prog 173 ti173 := ⟨by kernel_rfl, by kernel_rfl, (fun φ w F => ⟨#[.int .i64 0, .int .i64 0, .int .i64 0], rfl, csims_const (φ := φ) (w := w) (F := F) [.int .i64 0, .int .i64 0, .int .i64 0]⟩), rfl, (fun fs h => by cases h; kernel_rfl), (fun fs h => by cases h; kernel_rfl)⟩
def ti177 : TI := { size := 1, bytes := 8, zu := .one (.nilmap), zv := .map none, desc := .map 180 3, offs := [] }
theorem tf177 : TabFact Tryz.prog 177 ti177 := ⟨by kernel_rfl, by kernel_rfl, (fun φ w F => csim_const (φ := φ) (w := w) (F := F) (.map none)), rfl, nofun, nofun⟩
def ti178 : TI := { size := 1, bytes := 8, zu := .one (.top), zv := .nilFunc, desc := .func #[180] #[3] false, offs := [] }
theorem tf178 : TabFact Tryz.prog 178 ti178 := ⟨by kernel_rfl, by kernel_rfl, (fun φ w F => csim_const (φ := φ) (w := w) (F := F) (.nilFunc)), rfl, nofun, nofun⟩
def ti180 : TI := { size := 2, bytes := 16, zu := .agg [.d (.int .i64 0), .d (.int .i64 0)], zv := .agg #[.int .i64 0, .int .i64 0], desc := .struct #[⟨"at", 3, 0, false, "", "cellular/totaltree", 0⟩, ⟨"s", 3, 1, false, "", "cellular/totaltree", 8⟩], offs := [(0, 1), (1, 1)] }
theorem tf180 : TabFact Tryz.prog 180 ti180 := ⟨by kernel_rfl, by kernel_rfl, (fun φ w F => ⟨#[.int .i64 0, .int .i64 0], rfl, csims_const (φ := φ) (w := w) (F := F) [.int .i64 0, .int .i64 0]⟩), rfl, (fun fs h => by cases h; kernel_rfl), (fun fs h => by cases h; kernel_rfl)⟩
def ti181 : TI := { size := 1, bytes := 8, zu := .one (.top), zv := .nilFunc, desc := .func #[3, 100] #[4] false, offs := [] }
theorem tf181 : TabFact Tryz.prog 181 ti181 := ⟨by kernel_rfl, by kernel_rfl, (fun φ w F => csim_const (φ := φ) (w := w) (F := F) (.nilFunc)), rfl, nofun, nofun⟩
def ti183 : TI := { size := 1, bytes := 8, zu := .one (.top), zv := .nilFunc, desc := .func #[21] #[4] false, offs := [] }
theorem tf183 : TabFact Tryz.prog 183 ti183 := ⟨by kernel_rfl, by kernel_rfl, (fun φ w F => csim_const (φ := φ) (w := w) (F := F) (.nilFunc)), rfl, nofun, nofun⟩
def ti187 : TI := { size := 1, bytes := 8, zu := .one (.top), zv := .pointer none, desc := .pointer 189, offs := [] }
theorem tf187 : TabFact Tryz.prog 187 ti187 := ⟨by kernel_rfl, by kernel_rfl, (fun φ w F => csim_const (φ := φ) (w := w) (F := F) (.pointer none)), rfl, nofun, nofun⟩
def ti189 : TI := { size := 6, bytes := 96, zu := .agg [.d (.int .i64 0), .d .nil, .d .nil, .nilmap, .d .nil, .top], zv := .agg #[.int .i64 0, .slice none 0 0, .slice none 0 0, .map none, .slice none 0 0, .nilFunc], desc := .struct #[⟨"tree", 25, 0, false, "", "cellular/tabletree", 0⟩, ⟨"known", 122, 3, false, "", "cellular/tabletree", 56⟩, ⟨"in", 29, 4, false, "", "cellular/tabletree", 64⟩, ⟨"value", 132, 5, false, "", "cellular/tabletree", 88⟩], offs := [(0, 3), (3, 1), (4, 1), (5, 1)] }
theorem tf189 : TabFact Tryz.prog 189 ti189 := ⟨by kernel_rfl, by kernel_rfl, (fun φ w F => ⟨#[.int .i64 0, .slice none 0 0, .slice none 0 0, .map none, .slice none 0 0, .nilFunc], rfl, csims_const (φ := φ) (w := w) (F := F) [.int .i64 0, .slice none 0 0, .slice none 0 0, .map none, .slice none 0 0, .nilFunc]⟩), rfl, (fun fs h => by cases h; kernel_rfl), (fun fs h => by cases h; kernel_rfl)⟩
def ti193 : TI := { size := 1, bytes := 8, zu := .one (.top), zv := .pointer none, desc := .pointer 143, offs := [] }
theorem tf193 : TabFact Tryz.prog 193 ti193 := ⟨by kernel_rfl, by kernel_rfl, (fun φ w F => csim_const (φ := φ) (w := w) (F := F) (.pointer none)), rfl, nofun, nofun⟩
def ti194 : TI := { size := 1, bytes := 8, zu := .one (.top), zv := .pointer none, desc := .pointer 5, offs := [] }
theorem tf194 : TabFact Tryz.prog 194 ti194 := ⟨by kernel_rfl, by kernel_rfl, (fun φ w F => csim_const (φ := φ) (w := w) (F := F) (.pointer none)), rfl, nofun, nofun⟩
def ti208 : TI := { size := 1, bytes := 8, zu := .one (.top), zv := .pointer none, desc := .pointer 204, offs := [] }
theorem tf208 : TabFact Tryz.prog 208 ti208 := ⟨by kernel_rfl, by kernel_rfl, (fun φ w F => csim_const (φ := φ) (w := w) (F := F) (.pointer none)), rfl, nofun, nofun⟩
def ti209 : TI := { size := 1, bytes := 24, zu := .one (.d .nil), zv := .slice none 0 0, desc := .slice 211, offs := [] }
theorem tf209 : TabFact Tryz.prog 209 ti209 := ⟨by kernel_rfl, by kernel_rfl, (fun φ w F => csim_const (φ := φ) (w := w) (F := F) (.slice none 0 0)), rfl, nofun, nofun⟩
def ti211 : TI := { size := 2, bytes := 16, zu := .agg [.d (.int .i64 0), .d (.int .i64 0)], zv := .agg #[.int .i64 0, .int .i64 0], desc := .struct #[⟨"start", 3, 0, false, "", "strings", 0⟩, ⟨"end", 3, 1, false, "", "strings", 8⟩], offs := [(0, 1), (1, 1)] }
theorem tf211 : TabFact Tryz.prog 211 ti211 := ⟨by kernel_rfl, by kernel_rfl, (fun φ w F => ⟨#[.int .i64 0, .int .i64 0], rfl, csims_const (φ := φ) (w := w) (F := F) [.int .i64 0, .int .i64 0]⟩), rfl, (fun fs h => by cases h; kernel_rfl), (fun fs h => by cases h; kernel_rfl)⟩
def ti221 : TI := { size := 1, bytes := 8, zu := .one (.d (.int .u64 0)), zv := .int .u64 0, desc := .int .u64, offs := [] }
theorem tf221 : TabFact Tryz.prog 221 ti221 := ⟨by kernel_rfl, by kernel_rfl, (fun φ w F => csim_const (φ := φ) (w := w) (F := F) (.int .u64 0)), rfl, nofun, nofun⟩
def ti232 : TI := { size := 1, bytes := 8, zu := .one (.top), zv := .nilFunc, desc := .func #[77] #[4] false, offs := [] }
theorem tf232 : TabFact Tryz.prog 232 ti232 := ⟨by kernel_rfl, by kernel_rfl, (fun φ w F => csim_const (φ := φ) (w := w) (F := F) (.nilFunc)), rfl, nofun, nofun⟩
def ti233 : TI := { size := 1, bytes := 8, zu := .one (.top), zv := .pointer none, desc := .pointer 255, offs := [] }
theorem tf233 : TabFact Tryz.prog 233 ti233 := ⟨by kernel_rfl, by kernel_rfl, (fun φ w F => csim_const (φ := φ) (w := w) (F := F) (.pointer none)), rfl, nofun, nofun⟩
def ti237 : TI := { size := 1, bytes := 24, zu := .one (.d .nil), zv := .slice none 0 0, desc := .slice 4, offs := [] }
theorem tf237 : TabFact Tryz.prog 237 ti237 := ⟨by kernel_rfl, by kernel_rfl, (fun φ w F => csim_const (φ := φ) (w := w) (F := F) (.slice none 0 0)), rfl, nofun, nofun⟩
def ti238 : TI := { size := 1, bytes := 8, zu := .one (.top), zv := .nilFunc, desc := .func #[3] #[] false, offs := [] }
theorem tf238 : TabFact Tryz.prog 238 ti238 := ⟨by kernel_rfl, by kernel_rfl, (fun φ w F => csim_const (φ := φ) (w := w) (F := F) (.nilFunc)), rfl, nofun, nofun⟩
def ti240 : TI := { size := 24, bytes := 24, zu := .agg [.d (.int .u8 0), .d (.int .u8 0), .d (.int .u8 0), .d (.int .u8 0), .d (.int .u8 0), .d (.int .u8 0), .d (.int .u8 0), .d (.int .u8 0), .d (.int .u8 0), .d (.int .u8 0), .d (.int .u8 0), .d (.int .u8 0), .d (.int .u8 0), .d (.int .u8 0), .d (.int .u8 0), .d (.int .u8 0), .d (.int .u8 0), .d (.int .u8 0), .d (.int .u8 0), .d (.int .u8 0), .d (.int .u8 0), .d (.int .u8 0), .d (.int .u8 0), .d (.int .u8 0)], zv := .agg #[.int .u8 0, .int .u8 0, .int .u8 0, .int .u8 0, .int .u8 0, .int .u8 0, .int .u8 0, .int .u8 0, .int .u8 0, .int .u8 0, .int .u8 0, .int .u8 0, .int .u8 0, .int .u8 0, .int .u8 0, .int .u8 0, .int .u8 0, .int .u8 0, .int .u8 0, .int .u8 0, .int .u8 0, .int .u8 0, .int .u8 0, .int .u8 0], desc := .array 24 5, offs := [] }
theorem tf240 : TabFact Tryz.prog 240 ti240 := ⟨by kernel_rfl, by kernel_rfl, (fun φ w F => ⟨#[.int .u8 0, .int .u8 0, .int .u8 0, .int .u8 0, .int .u8 0, .int .u8 0, .int .u8 0, .int .u8 0, .int .u8 0, .int .u8 0, .int .u8 0, .int .u8 0, .int .u8 0, .int .u8 0, .int .u8 0, .int .u8 0, .int .u8 0, .int .u8 0, .int .u8 0, .int .u8 0, .int .u8 0, .int .u8 0, .int .u8 0, .int .u8 0], rfl, csims_const (φ := φ) (w := w) (F := F) [.int .u8 0, .int .u8 0, .int .u8 0, .int .u8 0, .int .u8 0, .int .u8 0, .int .u8 0, .int .u8 0, .int .u8 0, .int .u8 0, .int .u8 0, .int .u8 0, .int .u8 0, .int .u8 0, .int .u8 0, .int .u8 0, .int .u8 0, .int .u8 0, .int .u8 0, .int .u8 0, .int .u8 0, .int .u8 0, .int .u8 0, .int .u8 0]⟩), rfl, nofun, nofun⟩
def ti249 : TI := { size := 1, bytes := 8, zu := .one (.top), zv := .pointer none, desc := .pointer 251, offs := [] }
theorem tf249 : TabFact Tryz.prog 249 ti249 := ⟨by kernel_rfl, by kernel_rfl, (fun φ w F => csim_const (φ := φ) (w := w) (F := F) (.pointer none)), rfl, nofun, nofun⟩
def ti251 : TI := { size := 1, bytes := 16, zu := .agg [.d (.str ⟨#[]⟩)], zv := .agg #[.string ⟨#[]⟩], desc := .struct #[⟨"s", 9, 0, false, "", "errors", 0⟩], offs := [(0, 1)] }
theorem tf251 : TabFact Tryz.prog 251 ti251 := ⟨by kernel_rfl, by kernel_rfl, (fun φ w F => ⟨#[.string ⟨#[]⟩], rfl, csims_const (φ := φ) (w := w) (F := F) [.string ⟨#[]⟩]⟩), rfl, (fun fs h => by cases h; kernel_rfl), (fun fs h => by cases h; kernel_rfl)⟩
def ti257 : TI := { size := 20, bytes := 160, zu := .agg [.d (.int .u64 0), .d (.int .u64 0), .d (.int .u64 0), .d (.int .u64 0), .d (.int .u64 0), .d (.int .u64 0), .d (.int .u64 0), .d (.int .u64 0), .d (.int .u64 0), .d (.int .u64 0), .d (.int .u64 0), .d (.int .u64 0), .d (.int .u64 0), .d (.int .u64 0), .d (.int .u64 0), .d (.int .u64 0), .d (.int .u64 0), .d (.int .u64 0), .d (.int .u64 0), .d (.int .u64 0)], zv := .agg #[.int .u64 0, .int .u64 0, .int .u64 0, .int .u64 0, .int .u64 0, .int .u64 0, .int .u64 0, .int .u64 0, .int .u64 0, .int .u64 0, .int .u64 0, .int .u64 0, .int .u64 0, .int .u64 0, .int .u64 0, .int .u64 0, .int .u64 0, .int .u64 0, .int .u64 0, .int .u64 0], desc := .array 20 221, offs := [] }
theorem tf257 : TabFact Tryz.prog 257 ti257 := ⟨by kernel_rfl, by kernel_rfl, (fun φ w F => ⟨#[.int .u64 0, .int .u64 0, .int .u64 0, .int .u64 0, .int .u64 0, .int .u64 0, .int .u64 0, .int .u64 0, .int .u64 0, .int .u64 0, .int .u64 0, .int .u64 0, .int .u64 0, .int .u64 0, .int .u64 0, .int .u64 0, .int .u64 0, .int .u64 0, .int .u64 0, .int .u64 0], rfl, csims_const (φ := φ) (w := w) (F := F) [.int .u64 0, .int .u64 0, .int .u64 0, .int .u64 0, .int .u64 0, .int .u64 0, .int .u64 0, .int .u64 0, .int .u64 0, .int .u64 0, .int .u64 0, .int .u64 0, .int .u64 0, .int .u64 0, .int .u64 0, .int .u64 0, .int .u64 0, .int .u64 0, .int .u64 0, .int .u64 0]⟩), rfl, nofun, nofun⟩
def ti262 : TI := { size := 2, bytes := 2, zu := .agg [.d (.int .u8 0), .d (.int .u8 0)], zv := .agg #[.int .u8 0, .int .u8 0], desc := .struct #[⟨"lo", 5, 0, false, "", "unicode/utf8", 0⟩, ⟨"hi", 5, 1, false, "", "unicode/utf8", 1⟩], offs := [(0, 1), (1, 1)] }
theorem tf262 : TabFact Tryz.prog 262 ti262 := ⟨by kernel_rfl, by kernel_rfl, (fun φ w F => ⟨#[.int .u8 0, .int .u8 0], rfl, csims_const (φ := φ) (w := w) (F := F) [.int .u8 0, .int .u8 0]⟩), rfl, (fun fs h => by cases h; kernel_rfl), (fun fs h => by cases h; kernel_rfl)⟩
def ti263 : TI := { size := 32, bytes := 32, zu := .agg [.d (.int .u8 0), .d (.int .u8 0), .d (.int .u8 0), .d (.int .u8 0), .d (.int .u8 0), .d (.int .u8 0), .d (.int .u8 0), .d (.int .u8 0), .d (.int .u8 0), .d (.int .u8 0), .d (.int .u8 0), .d (.int .u8 0), .d (.int .u8 0), .d (.int .u8 0), .d (.int .u8 0), .d (.int .u8 0), .d (.int .u8 0), .d (.int .u8 0), .d (.int .u8 0), .d (.int .u8 0), .d (.int .u8 0), .d (.int .u8 0), .d (.int .u8 0), .d (.int .u8 0), .d (.int .u8 0), .d (.int .u8 0), .d (.int .u8 0), .d (.int .u8 0), .d (.int .u8 0), .d (.int .u8 0), .d (.int .u8 0), .d (.int .u8 0)], zv := .agg #[.int .u8 0, .int .u8 0, .int .u8 0, .int .u8 0, .int .u8 0, .int .u8 0, .int .u8 0, .int .u8 0, .int .u8 0, .int .u8 0, .int .u8 0, .int .u8 0, .int .u8 0, .int .u8 0, .int .u8 0, .int .u8 0, .int .u8 0, .int .u8 0, .int .u8 0, .int .u8 0, .int .u8 0, .int .u8 0, .int .u8 0, .int .u8 0, .int .u8 0, .int .u8 0, .int .u8 0, .int .u8 0, .int .u8 0, .int .u8 0, .int .u8 0, .int .u8 0], desc := .array 16 262, offs := [] }
theorem tf263 : TabFact Tryz.prog 263 ti263 := ⟨by kernel_rfl, by kernel_rfl, (fun φ w F => ⟨#[.int .u8 0, .int .u8 0, .int .u8 0, .int .u8 0, .int .u8 0, .int .u8 0, .int .u8 0, .int .u8 0, .int .u8 0, .int .u8 0, .int .u8 0, .int .u8 0, .int .u8 0, .int .u8 0, .int .u8 0, .int .u8 0, .int .u8 0, .int .u8 0, .int .u8 0, .int .u8 0, .int .u8 0, .int .u8 0, .int .u8 0, .int .u8 0, .int .u8 0, .int .u8 0, .int .u8 0, .int .u8 0, .int .u8 0, .int .u8 0, .int .u8 0, .int .u8 0], rfl, csims_const (φ := φ) (w := w) (F := F) [.int .u8 0, .int .u8 0, .int .u8 0, .int .u8 0, .int .u8 0, .int .u8 0, .int .u8 0, .int .u8 0, .int .u8 0, .int .u8 0, .int .u8 0, .int .u8 0, .int .u8 0, .int .u8 0, .int .u8 0, .int .u8 0, .int .u8 0, .int .u8 0, .int .u8 0, .int .u8 0, .int .u8 0, .int .u8 0, .int .u8 0, .int .u8 0, .int .u8 0, .int .u8 0, .int .u8 0, .int .u8 0, .int .u8 0, .int .u8 0, .int .u8 0, .int .u8 0]⟩), rfl, nofun, nofun⟩
def ti265 : TI := { size := 32, bytes := 32, zu := .agg [.d (.int .u8 0), .d (.int .u8 0), .d (.int .u8 0), .d (.int .u8 0), .d (.int .u8 0), .d (.int .u8 0), .d (.int .u8 0), .d (.int .u8 0), .d (.int .u8 0), .d (.int .u8 0), .d (.int .u8 0), .d (.int .u8 0), .d (.int .u8 0), .d (.int .u8 0), .d (.int .u8 0), .d (.int .u8 0), .d (.int .u8 0), .d (.int .u8 0), .d (.int .u8 0), .d (.int .u8 0), .d (.int .u8 0), .d (.int .u8 0), .d (.int .u8 0), .d (.int .u8 0), .d (.int .u8 0), .d (.int .u8 0), .d (.int .u8 0), .d (.int .u8 0), .d (.int .u8 0), .d (.int .u8 0), .d (.int .u8 0), .d (.int .u8 0)], zv := .agg #[.int .u8 0, .int .u8 0, .int .u8 0, .int .u8 0, .int .u8 0, .int .u8 0, .int .u8 0, .int .u8 0, .int .u8 0, .int .u8 0, .int .u8 0, .int .u8 0, .int .u8 0, .int .u8 0, .int .u8 0, .int .u8 0, .int .u8 0, .int .u8 0, .int .u8 0, .int .u8 0, .int .u8 0, .int .u8 0, .int .u8 0, .int .u8 0, .int .u8 0, .int .u8 0, .int .u8 0, .int .u8 0, .int .u8 0, .int .u8 0, .int .u8 0, .int .u8 0], desc := .array 32 5, offs := [] }
theorem tf265 : TabFact Tryz.prog 265 ti265 := ⟨by kernel_rfl, by kernel_rfl, (fun φ w F => ⟨#[.int .u8 0, .int .u8 0, .int .u8 0, .int .u8 0, .int .u8 0, .int .u8 0, .int .u8 0, .int .u8 0, .int .u8 0, .int .u8 0, .int .u8 0, .int .u8 0, .int .u8 0, .int .u8 0, .int .u8 0, .int .u8 0, .int .u8 0, .int .u8 0, .int .u8 0, .int .u8 0, .int .u8 0, .int .u8 0, .int .u8 0, .int .u8 0, .int .u8 0, .int .u8 0, .int .u8 0, .int .u8 0, .int .u8 0, .int .u8 0, .int .u8 0, .int .u8 0], rfl, csims_const (φ := φ) (w := w) (F := F) [.int .u8 0, .int .u8 0, .int .u8 0, .int .u8 0, .int .u8 0, .int .u8 0, .int .u8 0, .int .u8 0, .int .u8 0, .int .u8 0, .int .u8 0, .int .u8 0, .int .u8 0, .int .u8 0, .int .u8 0, .int .u8 0, .int .u8 0, .int .u8 0, .int .u8 0, .int .u8 0, .int .u8 0, .int .u8 0, .int .u8 0, .int .u8 0, .int .u8 0, .int .u8 0, .int .u8 0, .int .u8 0, .int .u8 0, .int .u8 0, .int .u8 0, .int .u8 0]⟩), rfl, nofun, nofun⟩
def ty : Tab := fun t => match t with
 | 2 => some ti2
 | 3 => some ti3
 | 4 => some ti4
 | 5 => some ti5
 | 9 => some ti9
 | 21 => some ti21
 | 22 => some ti22
 | 23 => some ti23
 | 25 => some ti25
 | 29 => some ti29
 | 31 => some ti31
 | 37 => some ti37
 | 46 => some ti46
 | 52 => some ti52
 | 59 => some ti59
 | 60 => some ti60
 | 62 => some ti62
 | 66 => some ti66
 | 70 => some ti70
 | 73 => some ti73
 | 77 => some ti77
 | 87 => some ti87
 | 100 => some ti100
 | 104 => some ti104
 | 109 => some ti109
 | 110 => some ti110
 | 112 => some ti112
 | 119 => some ti119
 | 120 => some ti120
 | 121 => some ti121
 | 122 => some ti122
 | 124 => some ti124
 | 126 => some ti126
 | 132 => some ti132
 | 136 => some ti136
 | 137 => some ti137
 | 138 => some ti138
 | 140 => some ti140
 | 143 => some ti143
 | 147 => some ti147
 | 148 => some ti148
 | 150 => some ti150
 | 157 => some ti157
 | 159 => some ti159
 | 165 => some ti165
 | 170 => some ti170
 | 171 => some ti171
 | 173 => some ti173
 | 177 => some ti177
 | 178 => some ti178
 | 180 => some ti180
 | 181 => some ti181
 | 183 => some ti183
 | 187 => some ti187
 | 189 => some ti189
 | 193 => some ti193
 | 194 => some ti194
 | 208 => some ti208
 | 209 => some ti209
 | 211 => some ti211
 | 221 => some ti221
 | 232 => some ti232
 | 233 => some ti233
 | 237 => some ti237
 | 238 => some ti238
 | 240 => some ti240
 | 249 => some ti249
 | 251 => some ti251
 | 257 => some ti257
 | 262 => some ti262
 | 263 => some ti263
 | 265 => some ti265
 | _ => none
theorem ty_ok : TabOk Tryz.prog ty := by
 intro t ti h
 unfold ty at h
 split at h
 ·cases h; exact tf2
 ·cases h; exact tf3
 ·cases h; exact tf4
 ·cases h; exact tf5
 ·cases h; exact tf9
 ·cases h; exact tf21
 ·cases h; exact tf22
 ·cases h; exact tf23
 ·cases h; exact tf25
 ·cases h; exact tf29
 ·cases h; exact tf31
 ·cases h; exact tf37
 ·cases h; exact tf46
 ·cases h; exact tf52
 ·cases h; exact tf59
 ·cases h; exact tf60
 ·cases h; exact tf62
 ·cases h; exact tf66
 ·cases h; exact tf70
 ·cases h; exact tf73
 ·cases h; exact tf77
 ·cases h; exact tf87
 ·cases h; exact tf100
 ·cases h; exact tf104
 ·cases h; exact tf109
 ·cases h; exact tf110
 ·cases h; exact tf112
 ·cases h; exact tf119
 ·cases h; exact tf120
 ·cases h; exact tf121
 ·cases h; exact tf122
 ·cases h; exact tf124
 ·cases h; exact tf126
 ·cases h; exact tf132
 ·cases h; exact tf136
 ·cases h; exact tf137
 ·cases h; exact tf138
 ·cases h; exact tf140
 ·cases h; exact tf143
 ·cases h; exact tf147
 ·cases h; exact tf148
 ·cases h; exact tf150
 ·cases h; exact tf157
 ·cases h; exact tf159
 ·cases h; exact tf165
 ·cases h; exact tf170
 ·cases h; exact tf171
 ·cases h; exact tf173
 ·cases h; exact tf177
 ·cases h; exact tf178
 ·cases h; exact tf180
 ·cases h; exact tf181
 ·cases h; exact tf183
 ·cases h; exact tf187
 ·cases h; exact tf189
 ·cases h; exact tf193
 ·cases h; exact tf194
 ·cases h; exact tf208
 ·cases h; exact tf209
 ·cases h; exact tf211
 ·cases h; exact tf221
 ·cases h; exact tf232
 ·cases h; exact tf233
 ·cases h; exact tf237
 ·cases h; exact tf238
 ·cases h; exact tf240
 ·cases h; exact tf249
 ·cases h; exact tf251
 ·cases h; exact tf257
 ·cases h; exact tf262
 ·cases h; exact tf263
 ·cases h; exact tf265
 ·cases h
def eqn : TypeId → Option Nat := fun t => match t with
 | 77 => some 2
 | 109 => some 2
 | 180 => some 2
 | 211 => some 2
 | 262 => some 2
 | _ => none
theorem ef77 : intFields Tryz.prog 77 2 := by
 refine ⟨#[⟨"X", 3, 0, false, "", "", 0⟩, ⟨"Y", 3, 1, false, "", "", 8⟩], by kernel_rfl, by kernel_rfl, by kernel_rfl, rfl, fun i f h => ?_⟩
 match i, h with
 | 0, h => cases h; exact ⟨by decide, rfl, .i64, by kernel_rfl⟩
 | 1, h => cases h; exact ⟨by decide, rfl, .i64, by kernel_rfl⟩
 | i + 2, h => simp at h
theorem ef109 : intFields Tryz.prog 109 2 := by
 refine ⟨#[⟨"ones", 3, 0, false, "", "cellular/totaltree", 0⟩, ⟨"centre", 3, 1, false, "", "cellular/totaltree", 8⟩], by kernel_rfl, by kernel_rfl, by kernel_rfl, rfl, fun i f h => ?_⟩
 match i, h with
 | 0, h => cases h; exact ⟨by decide, rfl, .i64, by kernel_rfl⟩
 | 1, h => cases h; exact ⟨by decide, rfl, .i64, by kernel_rfl⟩
 | i + 2, h => simp at h
theorem ef180 : intFields Tryz.prog 180 2 := by
 refine ⟨#[⟨"at", 3, 0, false, "", "cellular/totaltree", 0⟩, ⟨"s", 3, 1, false, "", "cellular/totaltree", 8⟩], by kernel_rfl, by kernel_rfl, by kernel_rfl, rfl, fun i f h => ?_⟩
 match i, h with
 | 0, h => cases h; exact ⟨by decide, rfl, .i64, by kernel_rfl⟩
 | 1, h => cases h; exact ⟨by decide, rfl, .i64, by kernel_rfl⟩
 | i + 2, h => simp at h
theorem ef211 : intFields Tryz.prog 211 2 := by
 refine ⟨#[⟨"start", 3, 0, false, "", "strings", 0⟩, ⟨"end", 3, 1, false, "", "strings", 8⟩], by kernel_rfl, by kernel_rfl, by kernel_rfl, rfl, fun i f h => ?_⟩
 match i, h with
 | 0, h => cases h; exact ⟨by decide, rfl, .i64, by kernel_rfl⟩
 | 1, h => cases h; exact ⟨by decide, rfl, .i64, by kernel_rfl⟩
 | i + 2, h => simp at h
theorem ef262 : intFields Tryz.prog 262 2 := by
 refine ⟨#[⟨"lo", 5, 0, false, "", "unicode/utf8", 0⟩, ⟨"hi", 5, 1, false, "", "unicode/utf8", 1⟩], by kernel_rfl, by kernel_rfl, by kernel_rfl, rfl, fun i f h => ?_⟩
 match i, h with
 | 0, h => cases h; exact ⟨by decide, rfl, .u8, by kernel_rfl⟩
 | 1, h => cases h; exact ⟨by decide, rfl, .u8, by kernel_rfl⟩
 | i + 2, h => simp at h
theorem eqn_ok : ∀ t n, eqn t = some n → intFields Tryz.prog t n := by
 intro t n h
 unfold eqn at h
 split at h
 ·cases h; exact ef77
 ·cases h; exact ef109
 ·cases h; exact ef180
 ·cases h; exact ef211
 ·cases h; exact ef262
 ·cases h
def key : TypeId → Option KK := fun t => match t with
 | 9 => some .str
 | 173 => some (.ints 3)
 | 180 => some (.ints 2)
 | _ => none
theorem kf9 : Maps.Keyed Tryz.prog 9 ∧ ∀ k : Key, k.fits .str = true → ∃ l, keyOf Tryz.prog 9 k.val = some l := key_str (by kernel_rfl)
theorem kf173 : Maps.Keyed Tryz.prog 173 ∧ ∀ k : Key, k.fits (.ints 3) = true → ∃ l, keyOf Tryz.prog 173 k.val = some l := key_nest (d := 3) (fs := #[⟨"at", 3, 0, false, "", "cellular/totaltree", 0⟩, ⟨"s", 109, 1, false, "", "cellular/totaltree", 8⟩]) (by kernel_rfl) (by kernel_rfl) (by kernel_rfl) (by kernel_rfl) (by kernel_rfl) (by kernel_rfl) (.inr ⟨#[⟨"at", 3, 0, false, "", "cellular/totaltree", 0⟩, ⟨"s", 109, 1, false, "", "cellular/totaltree", 8⟩], by kernel_rfl, by kernel_rfl, fun i f h => match i, h with | 0, h => by cases h; exact ⟨by decide, 1, (.inl ⟨by kernel_rfl, rfl⟩), by kernel_rfl, by decide⟩ | 1, h => by cases h; exact ⟨by decide, 2, (.inr ⟨#[⟨"ones", 3, 0, false, "", "cellular/totaltree", 0⟩, ⟨"centre", 3, 1, false, "", "cellular/totaltree", 8⟩], by kernel_rfl, by kernel_rfl, fun i f h => match i, h with | 0, h => by cases h; exact ⟨by decide, 1, (.inl ⟨by kernel_rfl, rfl⟩), by kernel_rfl, by decide⟩ | 1, h => by cases h; exact ⟨by decide, 1, (.inl ⟨by kernel_rfl, rfl⟩), by kernel_rfl, by decide⟩ | i + 2, h => by simp at h⟩), by kernel_rfl, by decide⟩ | i + 2, h => by simp at h⟩) (by kernel_rfl)
theorem kf180 : Maps.Keyed Tryz.prog 180 ∧ ∀ k : Key, k.fits (.ints 2) = true → ∃ l, keyOf Tryz.prog 180 k.val = some l :=
 key_ints (fs := #[⟨"at", 3, 0, false, "", "cellular/totaltree", 0⟩, ⟨"s", 3, 1, false, "", "cellular/totaltree", 8⟩]) (by kernel_rfl) (by kernel_rfl) (by kernel_rfl) (by kernel_rfl) (by kernel_rfl) (by kernel_rfl) (by
  intro i f h
  match i, h with
  | 0, h => cases h; exact ⟨by decide, rfl, by kernel_rfl, by kernel_rfl⟩
  | 1, h => cases h; exact ⟨by decide, rfl, by kernel_rfl, by kernel_rfl⟩
  | i + 2, h => simp at h)
theorem key_ok : ∀ t kk, key t = some kk → Maps.Keyed Tryz.prog t ∧ ∀ k : Key, k.fits kk = true → ∃ l, keyOf Tryz.prog t k.val = some l := by
 intro t kk h
 unfold key at h
 split at h
 ·cases h; exact kf9
 ·cases h; exact kf173
 ·cases h; exact kf180
 ·cases h
def tb : Tb := { ty := ty, eqn := eqn, key := key }
theorem aM : TbOk Tryz.prog tb := ⟨ty_ok, eqn_ok, key_ok, (fun _ _ _ h => by cases h), (fun _ _ _ _ _ _ _ _ _ h => by cases h)⟩
theorem mixed : Tryz.prog.follows .mixedOrders = true := by kernel_rfl
end Go.Proofs.YtldhnnkpmhnpcaaGreatDoor
