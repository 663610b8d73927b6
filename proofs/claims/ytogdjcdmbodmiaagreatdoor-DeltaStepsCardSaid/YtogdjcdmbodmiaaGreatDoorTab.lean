/- The table of the types of this seat, made by program (gen_tab.py), and that it holds. -/
import Derived.Test.YtogdjcdmbodmiaaGreatDoorRows
import Derived.Test.YtogdjcdmbodmiaaGreatDoorAmO
namespace Go.Proofs.YtogdjcdmbodmiaaGreatDoor
open Go.AM Go.Proofs
def ti2 : TI := { size := 1, bytes := 8, zu := .one (.d (.int .i64 0)), zv := .int .i64 0, desc := .int .i64, offs := [] }
theorem tf2 : TabFact Tryz.prog 2 ti2 := ⟨by kernel_rfl, by kernel_rfl, (fun φ w F => csim_const (φ := φ) (w := w) (F := F) (.int .i64 0)), rfl, nofun, nofun⟩
def ti3 : TI := { size := 1, bytes := 8, zu := .one (.d (.int .i64 0)), zv := .int .i64 0, desc := .int .i64, offs := [] }
theorem tf3 : TabFact Tryz.prog 3 ti3 := ⟨by kernel_rfl, by kernel_rfl, (fun φ w F => csim_const (φ := φ) (w := w) (F := F) (.int .i64 0)), rfl, nofun, nofun⟩
def ti4 : TI := { size := 1, bytes := 1, zu := .one (.d (.bool false)), zv := .bool false, desc := .bool, offs := [] }
theorem tf4 : TabFact Tryz.prog 4 ti4 := ⟨by kernel_rfl, by kernel_rfl, (fun φ w F => csim_const (φ := φ) (w := w) (F := F) (.bool false)), rfl, nofun, nofun⟩
def ti5 : TI := { size := 1, bytes := 1, zu := .one (.d (.int .u8 0)), zv := .int .u8 0, desc := .int .u8, offs := [] }
theorem tf5 : TabFact Tryz.prog 5 ti5 := ⟨by kernel_rfl, by kernel_rfl, (fun φ w F => csim_const (φ := φ) (w := w) (F := F) (.int .u8 0)), rfl, nofun, nofun⟩
def ti9 : TI := { size := 1, bytes := 16, zu := .one (.d (.str ⟨#[]⟩)), zv := .string ⟨#[]⟩, desc := .string, offs := [] }
theorem tf9 : TabFact Tryz.prog 9 ti9 := ⟨by kernel_rfl, by kernel_rfl, (fun φ w F => csim_const (φ := φ) (w := w) (F := F) (.string ⟨#[]⟩)), rfl, nofun, nofun⟩
def ti22 : TI := { size := 1, bytes := 24, zu := .one (.d .nil), zv := .slice none 0 0, desc := .slice 71, offs := [] }
theorem tf22 : TabFact Tryz.prog 22 ti22 := ⟨by kernel_rfl, by kernel_rfl, (fun φ w F => csim_const (φ := φ) (w := w) (F := F) (.slice none 0 0)), rfl, nofun, nofun⟩
def ti23 : TI := { size := 1, bytes := 24, zu := .one (.d .nil), zv := .slice none 0 0, desc := .slice 71, offs := [] }
theorem tf23 : TabFact Tryz.prog 23 ti23 := ⟨by kernel_rfl, by kernel_rfl, (fun φ w F => csim_const (φ := φ) (w := w) (F := F) (.slice none 0 0)), rfl, nofun, nofun⟩
def ti24 : TI := { size := 1, bytes := 24, zu := .one (.d .nil), zv := .slice none 0 0, desc := .slice 5, offs := [] }
theorem tf24 : TabFact Tryz.prog 24 ti24 := ⟨by kernel_rfl, by kernel_rfl, (fun φ w F => csim_const (φ := φ) (w := w) (F := F) (.slice none 0 0)), rfl, nofun, nofun⟩
def ti25 : TI := { size := 1, bytes := 24, zu := .one (.d .nil), zv := .slice none 0 0, desc := .slice 76, offs := [] }
theorem tf25 : TabFact Tryz.prog 25 ti25 := ⟨by kernel_rfl, by kernel_rfl, (fun φ w F => csim_const (φ := φ) (w := w) (F := F) (.slice none 0 0)), rfl, nofun, nofun⟩
def ti26 : TI := { size := 1, bytes := 24, zu := .one (.d .nil), zv := .slice none 0 0, desc := .slice 163, offs := [] }
theorem tf26 : TabFact Tryz.prog 26 ti26 := ⟨by kernel_rfl, by kernel_rfl, (fun φ w F => csim_const (φ := φ) (w := w) (F := F) (.slice none 0 0)), rfl, nofun, nofun⟩
def ti28 : TI := { size := 3, bytes := 56, zu := .agg [.d (.int .i64 0), .d .nil, .d .nil], zv := .agg #[.int .i64 0, .slice none 0 0, .slice none 0 0], desc := .struct #[⟨"States", 3, 0, false, "", "", 0⟩, ⟨"Hood", 25, 1, false, "", "", 8⟩, ⟨"Nodes", 26, 2, false, "", "", 32⟩], offs := [(0, 1), (1, 1), (2, 1)] }
theorem tf28 : TabFact Tryz.prog 28 ti28 := ⟨by kernel_rfl, by kernel_rfl, (fun φ w F => ⟨#[.int .i64 0, .slice none 0 0, .slice none 0 0], rfl, csims_const (φ := φ) (w := w) (F := F) [.int .i64 0, .slice none 0 0, .slice none 0 0]⟩), rfl, (fun fs h => by cases h; kernel_rfl), (fun fs h => by cases h; kernel_rfl)⟩
def ti29 : TI := { size := 1, bytes := 8, zu := .one (.d (.int .i64 0)), zv := .int .i64 0, desc := .int .i64, offs := [] }
theorem tf29 : TabFact Tryz.prog 29 ti29 := ⟨by kernel_rfl, by kernel_rfl, (fun φ w F => csim_const (φ := φ) (w := w) (F := F) (.int .i64 0)), rfl, nofun, nofun⟩
def ti35 : TI := { size := 1, bytes := 24, zu := .one (.d .nil), zv := .slice none 0 0, desc := .slice 74, offs := [] }
theorem tf35 : TabFact Tryz.prog 35 ti35 := ⟨by kernel_rfl, by kernel_rfl, (fun φ w F => csim_const (φ := φ) (w := w) (F := F) (.slice none 0 0)), rfl, nofun, nofun⟩
def ti44 : TI := { size := 8, bytes := 64, zu := .agg [.d (.int .i64 0), .d (.int .i64 0), .d (.int .i64 0), .d (.int .i64 0), .d (.int .i64 0), .d (.int .i64 0), .d (.int .i64 0), .d (.int .i64 0)], zv := .agg #[.int .i64 0, .int .i64 0, .int .i64 0, .int .i64 0, .int .i64 0, .int .i64 0, .int .i64 0, .int .i64 0], desc := .array 8 3, offs := [] }
theorem tf44 : TabFact Tryz.prog 44 ti44 := ⟨by kernel_rfl, by kernel_rfl, (fun φ w F => ⟨#[.int .i64 0, .int .i64 0, .int .i64 0, .int .i64 0, .int .i64 0, .int .i64 0, .int .i64 0, .int .i64 0], rfl, csims_const (φ := φ) (w := w) (F := F) [.int .i64 0, .int .i64 0, .int .i64 0, .int .i64 0, .int .i64 0, .int .i64 0, .int .i64 0, .int .i64 0]⟩), rfl, nofun, nofun⟩
def ti48 : TI := { size := 1, bytes := 24, zu := .one (.d .nil), zv := .slice none 0 0, desc := .slice 3, offs := [] }
theorem tf48 : TabFact Tryz.prog 48 ti48 := ⟨by kernel_rfl, by kernel_rfl, (fun φ w F => csim_const (φ := φ) (w := w) (F := F) (.slice none 0 0)), rfl, nofun, nofun⟩
def ti55 : TI := { size := 4, bytes := 80, zu := .agg [.d .nil, .d (.int .i64 0), .d .nil, .d .nil], zv := .agg #[.slice none 0 0, .int .i64 0, .slice none 0 0, .slice none 0 0], desc := .struct #[⟨"Hood", 25, 0, false, "", "", 0⟩, ⟨"States", 3, 1, false, "", "", 24⟩, ⟨"Birth", 48, 2, false, "", "", 32⟩, ⟨"Survive", 48, 3, false, "", "", 56⟩], offs := [(0, 1), (1, 1), (2, 1), (3, 1)] }
theorem tf55 : TabFact Tryz.prog 55 ti55 := ⟨by kernel_rfl, by kernel_rfl, (fun φ w F => ⟨#[.slice none 0 0, .int .i64 0, .slice none 0 0, .slice none 0 0], rfl, csims_const (φ := φ) (w := w) (F := F) [.slice none 0 0, .int .i64 0, .slice none 0 0, .slice none 0 0]⟩), rfl, (fun fs h => by cases h; kernel_rfl), (fun fs h => by cases h; kernel_rfl)⟩
def ti62 : TI := { size := 1, bytes := 24, zu := .one (.d .nil), zv := .slice none 0 0, desc := .slice 48, offs := [] }
theorem tf62 : TabFact Tryz.prog 62 ti62 := ⟨by kernel_rfl, by kernel_rfl, (fun φ w F => csim_const (φ := φ) (w := w) (F := F) (.slice none 0 0)), rfl, nofun, nofun⟩
def ti63 : TI := { size := 1, bytes := 24, zu := .one (.d .nil), zv := .slice none 0 0, desc := .slice 200, offs := [] }
theorem tf63 : TabFact Tryz.prog 63 ti63 := ⟨by kernel_rfl, by kernel_rfl, (fun φ w F => csim_const (φ := φ) (w := w) (F := F) (.slice none 0 0)), rfl, nofun, nofun⟩
def ti65 : TI := { size := 5, bytes := 88, zu := .agg [.d (.int .i64 0), .d (.int .i64 0), .d .nil, .d .nil, .d .nil], zv := .agg #[.int .i64 0, .int .i64 0, .slice none 0 0, .slice none 0 0, .slice none 0 0], desc := .struct #[⟨"States", 3, 0, false, "", "", 0⟩, ⟨"Sym", 3, 1, false, "", "", 8⟩, ⟨"Hood", 25, 2, false, "", "", 16⟩, ⟨"Vars", 62, 3, false, "", "", 40⟩, ⟨"Rows", 63, 4, false, "", "", 64⟩], offs := [(0, 1), (1, 1), (2, 1), (3, 1), (4, 1)] }
theorem tf65 : TabFact Tryz.prog 65 ti65 := ⟨by kernel_rfl, by kernel_rfl, (fun φ w F => ⟨#[.int .i64 0, .int .i64 0, .slice none 0 0, .slice none 0 0, .slice none 0 0], rfl, csims_const (φ := φ) (w := w) (F := F) [.int .i64 0, .int .i64 0, .slice none 0 0, .slice none 0 0, .slice none 0 0]⟩), rfl, (fun fs h => by cases h; kernel_rfl), (fun fs h => by cases h; kernel_rfl)⟩
def ti71 : TI := { size := 3, bytes := 24, zu := .agg [.d (.int .i64 0), .d (.int .i64 0), .d (.int .i64 0)], zv := .agg #[.int .i64 0, .int .i64 0, .int .i64 0], desc := .struct #[⟨"X", 3, 0, false, "", "", 0⟩, ⟨"Y", 3, 1, false, "", "", 8⟩, ⟨"S", 3, 2, false, "", "", 16⟩], offs := [(0, 1), (1, 1), (2, 1)] }
theorem tf71 : TabFact Tryz.prog 71 ti71 := ⟨by kernel_rfl, by kernel_rfl, (fun φ w F => ⟨#[.int .i64 0, .int .i64 0, .int .i64 0], rfl, csims_const (φ := φ) (w := w) (F := F) [.int .i64 0, .int .i64 0, .int .i64 0]⟩), rfl, (fun fs h => by cases h; kernel_rfl), (fun fs h => by cases h; kernel_rfl)⟩
def ti74 : TI := { size := 4, bytes := 32, zu := .agg [.d (.int .i64 0), .d (.int .i64 0), .d (.int .i64 0), .d (.int .i64 0)], zv := .agg #[.int .i64 0, .int .i64 0, .int .i64 0, .int .i64 0], desc := .struct #[⟨"X", 3, 0, false, "", "", 0⟩, ⟨"Y", 3, 1, false, "", "", 8⟩, ⟨"From", 3, 2, false, "", "", 16⟩, ⟨"To", 3, 3, false, "", "", 24⟩], offs := [(0, 1), (1, 1), (2, 1), (3, 1)] }
theorem tf74 : TabFact Tryz.prog 74 ti74 := ⟨by kernel_rfl, by kernel_rfl, (fun φ w F => ⟨#[.int .i64 0, .int .i64 0, .int .i64 0, .int .i64 0], rfl, csims_const (φ := φ) (w := w) (F := F) [.int .i64 0, .int .i64 0, .int .i64 0, .int .i64 0]⟩), rfl, (fun fs h => by cases h; kernel_rfl), (fun fs h => by cases h; kernel_rfl)⟩
def ti76 : TI := { size := 2, bytes := 16, zu := .agg [.d (.int .i64 0), .d (.int .i64 0)], zv := .agg #[.int .i64 0, .int .i64 0], desc := .struct #[⟨"X", 3, 0, false, "", "", 0⟩, ⟨"Y", 3, 1, false, "", "", 8⟩], offs := [(0, 1), (1, 1)] }
theorem tf76 : TabFact Tryz.prog 76 ti76 := ⟨by kernel_rfl, by kernel_rfl, (fun φ w F => ⟨#[.int .i64 0, .int .i64 0], rfl, csims_const (φ := φ) (w := w) (F := F) [.int .i64 0, .int .i64 0]⟩), rfl, (fun fs h => by cases h; kernel_rfl), (fun fs h => by cases h; kernel_rfl)⟩
def ti83 : TI := { size := 1, bytes := 8, zu := .one (.nilmap), zv := .map none, desc := .map 76 3, offs := [] }
theorem tf83 : TabFact Tryz.prog 83 ti83 := ⟨by kernel_rfl, by kernel_rfl, (fun φ w F => csim_const (φ := φ) (w := w) (F := F) (.map none)), rfl, nofun, nofun⟩
def ti86 : TI := { size := 1, bytes := 8, zu := .one (.top), zv := .nilFunc, desc := .func #[74, 74] #[3] false, offs := [] }
theorem tf86 : TabFact Tryz.prog 86 ti86 := ⟨by kernel_rfl, by kernel_rfl, (fun φ w F => csim_const (φ := φ) (w := w) (F := F) (.nilFunc)), rfl, nofun, nofun⟩
def ti90 : TI := { size := 1, bytes := 8, zu := .one (.d (.int .u64 0)), zv := .int .u64 0, desc := .int .u64, offs := [] }
theorem tf90 : TabFact Tryz.prog 90 ti90 := ⟨by kernel_rfl, by kernel_rfl, (fun φ w F => csim_const (φ := φ) (w := w) (F := F) (.int .u64 0)), rfl, nofun, nofun⟩
def ti110 : TI := { size := 1, bytes := 24, zu := .one (.d .nil), zv := .slice none 0 0, desc := .slice 9, offs := [] }
theorem tf110 : TabFact Tryz.prog 110 ti110 := ⟨by kernel_rfl, by kernel_rfl, (fun φ w F => csim_const (φ := φ) (w := w) (F := F) (.slice none 0 0)), rfl, nofun, nofun⟩
def ti114 : TI := { size := 1, bytes := 16, zu := .one (.d .ni), zv := .nilIface, desc := .interface #[("Error", 235)], offs := [] }
theorem tf114 : TabFact Tryz.prog 114 ti114 := ⟨by kernel_rfl, by kernel_rfl, (fun φ w F => csim_const (φ := φ) (w := w) (F := F) (.nilIface)), rfl, nofun, nofun⟩
def ti119 : TI := { size := 2, bytes := 16, zu := .agg [.d (.int .i64 0), .d (.int .i64 0)], zv := .agg #[.int .i64 0, .int .i64 0], desc := .struct #[⟨"ones", 3, 0, false, "", "cellular/totaltree", 0⟩, ⟨"centre", 3, 1, false, "", "cellular/totaltree", 8⟩], offs := [(0, 1), (1, 1)] }
theorem tf119 : TabFact Tryz.prog 119 ti119 := ⟨by kernel_rfl, by kernel_rfl, (fun φ w F => ⟨#[.int .i64 0, .int .i64 0], rfl, csims_const (φ := φ) (w := w) (F := F) [.int .i64 0, .int .i64 0]⟩), rfl, (fun fs h => by cases h; kernel_rfl), (fun fs h => by cases h; kernel_rfl)⟩
def ti120 : TI := { size := 1, bytes := 8, zu := .one (.top), zv := .nilFunc, desc := .func #[119, 3, 3] #[119] false, offs := [] }
theorem tf120 : TabFact Tryz.prog 120 ti120 := ⟨by kernel_rfl, by kernel_rfl, (fun φ w F => csim_const (φ := φ) (w := w) (F := F) (.nilFunc)), rfl, nofun, nofun⟩
def ti122 : TI := { size := 1, bytes := 8, zu := .one (.top), zv := .nilFunc, desc := .func #[119] #[3] false, offs := [] }
theorem tf122 : TabFact Tryz.prog 122 ti122 := ⟨by kernel_rfl, by kernel_rfl, (fun φ w F => csim_const (φ := φ) (w := w) (F := F) (.nilFunc)), rfl, nofun, nofun⟩
def ti130 : TI := { size := 1, bytes := 8, zu := .one (.top), zv := .nilFunc, desc := .func #[3, 3, 3] #[3] false, offs := [] }
theorem tf130 : TabFact Tryz.prog 130 ti130 := ⟨by kernel_rfl, by kernel_rfl, (fun φ w F => csim_const (φ := φ) (w := w) (F := F) (.nilFunc)), rfl, nofun, nofun⟩
def ti131 : TI := { size := 1, bytes := 8, zu := .one (.top), zv := .nilFunc, desc := .func #[3] #[3] false, offs := [] }
theorem tf131 : TabFact Tryz.prog 131 ti131 := ⟨by kernel_rfl, by kernel_rfl, (fun φ w F => csim_const (φ := φ) (w := w) (F := F) (.nilFunc)), rfl, nofun, nofun⟩
def ti133 : TI := { size := 1, bytes := 8, zu := .one (.nilmap), zv := .map none, desc := .map 9 3, offs := [] }
theorem tf133 : TabFact Tryz.prog 133 ti133 := ⟨by kernel_rfl, by kernel_rfl, (fun φ w F => csim_const (φ := φ) (w := w) (F := F) (.map none)), rfl, nofun, nofun⟩
def ti145 : TI := { size := 1, bytes := 8, zu := .one (.nilmap), zv := .map none, desc := .map 76 3, offs := [] }
theorem tf145 : TabFact Tryz.prog 145 ti145 := ⟨by kernel_rfl, by kernel_rfl, (fun φ w F => csim_const (φ := φ) (w := w) (F := F) (.map none)), rfl, nofun, nofun⟩
def ti147 : TI := { size := 1, bytes := 8, zu := .one (.nilmap), zv := .map none, desc := .map 76 4, offs := [] }
theorem tf147 : TabFact Tryz.prog 147 ti147 := ⟨by kernel_rfl, by kernel_rfl, (fun φ w F => csim_const (φ := φ) (w := w) (F := F) (.map none)), rfl, nofun, nofun⟩
def ti150 : TI := { size := 1, bytes := 8, zu := .one (.nilmap), zv := .map none, desc := .map 76 74, offs := [] }
theorem tf150 : TabFact Tryz.prog 150 ti150 := ⟨by kernel_rfl, by kernel_rfl, (fun φ w F => csim_const (φ := φ) (w := w) (F := F) (.map none)), rfl, nofun, nofun⟩
def ti155 : TI := { size := 1, bytes := 8, zu := .one (.top), zv := .nilFunc, desc := .func #[71, 71] #[3] false, offs := [] }
theorem tf155 : TabFact Tryz.prog 155 ti155 := ⟨by kernel_rfl, by kernel_rfl, (fun φ w F => csim_const (φ := φ) (w := w) (F := F) (.nilFunc)), rfl, nofun, nofun⟩
def ti163 : TI := { size := 2, bytes := 32, zu := .agg [.d (.int .i64 0), .d .nil], zv := .agg #[.int .i64 0, .slice none 0 0], desc := .struct #[⟨"Level", 3, 0, false, "", "", 0⟩, ⟨"Next", 48, 1, false, "", "", 8⟩], offs := [(0, 1), (1, 1)] }
theorem tf163 : TabFact Tryz.prog 163 ti163 := ⟨by kernel_rfl, by kernel_rfl, (fun φ w F => ⟨#[.int .i64 0, .slice none 0 0], rfl, csims_const (φ := φ) (w := w) (F := F) [.int .i64 0, .slice none 0 0]⟩), rfl, (fun fs h => by cases h; kernel_rfl), (fun fs h => by cases h; kernel_rfl)⟩
def ti174 : TI := { size := 1, bytes := 8, zu := .one (.top), zv := .nilFunc, desc := .func #[3, 3] #[4] false, offs := [] }
theorem tf174 : TabFact Tryz.prog 174 ti174 := ⟨by kernel_rfl, by kernel_rfl, (fun φ w F => csim_const (φ := φ) (w := w) (F := F) (.nilFunc)), rfl, nofun, nofun⟩
def ti180 : TI := { size := 1, bytes := 8, zu := .one (.nilmap), zv := .map none, desc := .map 183 3, offs := [] }
theorem tf180 : TabFact Tryz.prog 180 ti180 := ⟨by kernel_rfl, by kernel_rfl, (fun φ w F => csim_const (φ := φ) (w := w) (F := F) (.map none)), rfl, nofun, nofun⟩
def ti181 : TI := { size := 1, bytes := 8, zu := .one (.top), zv := .nilFunc, desc := .func #[183] #[3] false, offs := [] }
theorem tf181 : TabFact Tryz.prog 181 ti181 := ⟨by kernel_rfl, by kernel_rfl, (fun φ w F => csim_const (φ := φ) (w := w) (F := F) (.nilFunc)), rfl, nofun, nofun⟩
def ti183 : TI := { size := 3, bytes := 24, zu := .agg [.d (.int .i64 0), .d (.int .i64 0), .d (.int .i64 0)], zv := .agg #[.int .i64 0, .int .i64 0, .int .i64 0], desc := .struct #[⟨"at", 3, 0, false, "", "cellular/totaltree", 0⟩, ⟨"s", 119, 1, false, "", "cellular/totaltree", 8⟩], offs := [(0, 1), (1, 2)] }
theorem tf183 : TabFact Tryz.prog 183 ti183 := ⟨by kernel_rfl, by kernel_rfl, (fun φ w F => ⟨#[.int .i64 0, .int .i64 0, .int .i64 0], rfl, csims_const (φ := φ) (w := w) (F := F) [.int .i64 0, .int .i64 0, .int .i64 0]⟩), rfl, (fun fs h => by cases h; kernel_rfl), (fun fs h => by cases h; kernel_rfl)⟩
def ti187 : TI := { size := 1, bytes := 8, zu := .one (.nilmap), zv := .map none, desc := .map 190 3, offs := [] }
theorem tf187 : TabFact Tryz.prog 187 ti187 := ⟨by kernel_rfl, by kernel_rfl, (fun φ w F => csim_const (φ := φ) (w := w) (F := F) (.map none)), rfl, nofun, nofun⟩
def ti188 : TI := { size := 1, bytes := 8, zu := .one (.top), zv := .nilFunc, desc := .func #[190] #[3] false, offs := [] }
theorem tf188 : TabFact Tryz.prog 188 ti188 := ⟨by kernel_rfl, by kernel_rfl, (fun φ w F => csim_const (φ := φ) (w := w) (F := F) (.nilFunc)), rfl, nofun, nofun⟩
def ti190 : TI := { size := 2, bytes := 16, zu := .agg [.d (.int .i64 0), .d (.int .i64 0)], zv := .agg #[.int .i64 0, .int .i64 0], desc := .struct #[⟨"at", 3, 0, false, "", "cellular/totaltree", 0⟩, ⟨"s", 3, 1, false, "", "cellular/totaltree", 8⟩], offs := [(0, 1), (1, 1)] }
theorem tf190 : TabFact Tryz.prog 190 ti190 := ⟨by kernel_rfl, by kernel_rfl, (fun φ w F => ⟨#[.int .i64 0, .int .i64 0], rfl, csims_const (φ := φ) (w := w) (F := F) [.int .i64 0, .int .i64 0]⟩), rfl, (fun fs h => by cases h; kernel_rfl), (fun fs h => by cases h; kernel_rfl)⟩
def ti200 : TI := { size := 2, bytes := 32, zu := .agg [.d .nil, .d (.int .i64 0)], zv := .agg #[.slice none 0 0, .int .i64 0], desc := .struct #[⟨"Ins", 48, 0, false, "", "", 0⟩, ⟨"Out", 3, 1, false, "", "", 24⟩], offs := [(0, 1), (1, 1)] }
theorem tf200 : TabFact Tryz.prog 200 ti200 := ⟨by kernel_rfl, by kernel_rfl, (fun φ w F => ⟨#[.slice none 0 0, .int .i64 0], rfl, csims_const (φ := φ) (w := w) (F := F) [.slice none 0 0, .int .i64 0]⟩), rfl, (fun fs h => by cases h; kernel_rfl), (fun fs h => by cases h; kernel_rfl)⟩
def ti217 : TI := { size := 1, bytes := 8, zu := .one (.d (.int .u64 0)), zv := .int .u64 0, desc := .int .u64, offs := [] }
theorem tf217 : TabFact Tryz.prog 217 ti217 := ⟨by kernel_rfl, by kernel_rfl, (fun φ w F => csim_const (φ := φ) (w := w) (F := F) (.int .u64 0)), rfl, nofun, nofun⟩
def ti250 : TI := { size := 1, bytes := 8, zu := .one (.top), zv := .pointer none, desc := .pointer 246, offs := [] }
theorem tf250 : TabFact Tryz.prog 250 ti250 := ⟨by kernel_rfl, by kernel_rfl, (fun φ w F => csim_const (φ := φ) (w := w) (F := F) (.pointer none)), rfl, nofun, nofun⟩
def ti305 : TI := { size := 24, bytes := 24, zu := .agg [.d (.int .u8 0), .d (.int .u8 0), .d (.int .u8 0), .d (.int .u8 0), .d (.int .u8 0), .d (.int .u8 0), .d (.int .u8 0), .d (.int .u8 0), .d (.int .u8 0), .d (.int .u8 0), .d (.int .u8 0), .d (.int .u8 0), .d (.int .u8 0), .d (.int .u8 0), .d (.int .u8 0), .d (.int .u8 0), .d (.int .u8 0), .d (.int .u8 0), .d (.int .u8 0), .d (.int .u8 0), .d (.int .u8 0), .d (.int .u8 0), .d (.int .u8 0), .d (.int .u8 0)], zv := .agg #[.int .u8 0, .int .u8 0, .int .u8 0, .int .u8 0, .int .u8 0, .int .u8 0, .int .u8 0, .int .u8 0, .int .u8 0, .int .u8 0, .int .u8 0, .int .u8 0, .int .u8 0, .int .u8 0, .int .u8 0, .int .u8 0, .int .u8 0, .int .u8 0, .int .u8 0, .int .u8 0, .int .u8 0, .int .u8 0, .int .u8 0, .int .u8 0], desc := .array 24 5, offs := [] }
theorem tf305 : TabFact Tryz.prog 305 ti305 := ⟨by kernel_rfl, by kernel_rfl, (fun φ w F => ⟨#[.int .u8 0, .int .u8 0, .int .u8 0, .int .u8 0, .int .u8 0, .int .u8 0, .int .u8 0, .int .u8 0, .int .u8 0, .int .u8 0, .int .u8 0, .int .u8 0, .int .u8 0, .int .u8 0, .int .u8 0, .int .u8 0, .int .u8 0, .int .u8 0, .int .u8 0, .int .u8 0, .int .u8 0, .int .u8 0, .int .u8 0, .int .u8 0], rfl, csims_const (φ := φ) (w := w) (F := F) [.int .u8 0, .int .u8 0, .int .u8 0, .int .u8 0, .int .u8 0, .int .u8 0, .int .u8 0, .int .u8 0, .int .u8 0, .int .u8 0, .int .u8 0, .int .u8 0, .int .u8 0, .int .u8 0, .int .u8 0, .int .u8 0, .int .u8 0, .int .u8 0, .int .u8 0, .int .u8 0, .int .u8 0, .int .u8 0, .int .u8 0, .int .u8 0]⟩), rfl, nofun, nofun⟩
def ty : Tab := fun t => match t with
 | 2 => some ti2
 | 3 => some ti3
 | 4 => some ti4
 | 5 => some ti5
 | 9 => some ti9
 | 22 => some ti22
 | 23 => some ti23
 | 24 => some ti24
 | 25 => some ti25
 | 26 => some ti26
 | 28 => some ti28
 | 29 => some ti29
 | 35 => some ti35
 | 44 => some ti44
 | 48 => some ti48
 | 55 => some ti55
 | 62 => some ti62
 | 63 => some ti63
 | 65 => some ti65
 | 71 => some ti71
 | 74 => some ti74
 | 76 => some ti76
 | 83 => some ti83
 | 86 => some ti86
 | 90 => some ti90
 | 110 => some ti110
 | 114 => some ti114
 | 119 => some ti119
 | 120 => some ti120
 | 122 => some ti122
 | 130 => some ti130
 | 131 => some ti131
 | 133 => some ti133
 | 145 => some ti145
 | 147 => some ti147
 | 150 => some ti150
 | 155 => some ti155
 | 163 => some ti163
 | 174 => some ti174
 | 180 => some ti180
 | 181 => some ti181
 | 183 => some ti183
 | 187 => some ti187
 | 188 => some ti188
 | 190 => some ti190
 | 200 => some ti200
 | 217 => some ti217
 | 250 => some ti250
 | 305 => some ti305
 | _ => none
theorem ty_ok : TabOk Tryz.prog ty := by
 intro t ti h
 unfold ty at h
 split at h
 ·cases h; exact tf2
 ·cases h; exact tf3
 ·cases h; exact tf4
 ·cases h; exact tf5
 ·cases h; exact tf9
 ·cases h; exact tf22
 ·cases h; exact tf23
 ·cases h; exact tf24
 ·cases h; exact tf25
 ·cases h; exact tf26
 ·cases h; exact tf28
 ·cases h; exact tf29
 ·cases h; exact tf35
 ·cases h; exact tf44
 ·cases h; exact tf48
 ·cases h; exact tf55
 ·cases h; exact tf62
 ·cases h; exact tf63
 ·cases h; exact tf65
 ·cases h; exact tf71
 ·cases h; exact tf74
 ·cases h; exact tf76
 ·cases h; exact tf83
 ·cases h; exact tf86
 ·cases h; exact tf90
 ·cases h; exact tf110
 ·cases h; exact tf114
 ·cases h; exact tf119
 ·cases h; exact tf120
 ·cases h; exact tf122
 ·cases h; exact tf130
 ·cases h; exact tf131
 ·cases h; exact tf133
 ·cases h; exact tf145
 ·cases h; exact tf147
 ·cases h; exact tf150
 ·cases h; exact tf155
 ·cases h; exact tf163
 ·cases h; exact tf174
 ·cases h; exact tf180
 ·cases h; exact tf181
 ·cases h; exact tf183
 ·cases h; exact tf187
 ·cases h; exact tf188
 ·cases h; exact tf190
 ·cases h; exact tf200
 ·cases h; exact tf217
 ·cases h; exact tf250
 ·cases h; exact tf305
 ·cases h
def eqn : TypeId → Option Nat := fun t => match t with
 | 71 => some 3
 | 74 => some 4
 | 76 => some 2
 | 119 => some 2
 | 190 => some 2
 | _ => none
theorem ef71 : intFields Tryz.prog 71 3 := by
 refine ⟨#[⟨"X", 3, 0, false, "", "", 0⟩, ⟨"Y", 3, 1, false, "", "", 8⟩, ⟨"S", 3, 2, false, "", "", 16⟩], by kernel_rfl, by kernel_rfl, by kernel_rfl, rfl, fun i f h => ?_⟩
 match i, h with
 | 0, h => cases h; exact ⟨by decide, rfl, .i64, by kernel_rfl⟩
 | 1, h => cases h; exact ⟨by decide, rfl, .i64, by kernel_rfl⟩
 | 2, h => cases h; exact ⟨by decide, rfl, .i64, by kernel_rfl⟩
 | i + 3, h => simp at h
theorem ef74 : intFields Tryz.prog 74 4 := by
 refine ⟨#[⟨"X", 3, 0, false, "", "", 0⟩, ⟨"Y", 3, 1, false, "", "", 8⟩, ⟨"From", 3, 2, false, "", "", 16⟩, ⟨"To", 3, 3, false, "", "", 24⟩], by kernel_rfl, by kernel_rfl, by kernel_rfl, rfl, fun i f h => ?_⟩
 match i, h with
 | 0, h => cases h; exact ⟨by decide, rfl, .i64, by kernel_rfl⟩
 | 1, h => cases h; exact ⟨by decide, rfl, .i64, by kernel_rfl⟩
 | 2, h => cases h; exact ⟨by decide, rfl, .i64, by kernel_rfl⟩
 | 3, h => cases h; exact ⟨by decide, rfl, .i64, by kernel_rfl⟩
 | i + 4, h => simp at h
theorem ef76 : intFields Tryz.prog 76 2 := by
 refine ⟨#[⟨"X", 3, 0, false, "", "", 0⟩, ⟨"Y", 3, 1, false, "", "", 8⟩], by kernel_rfl, by kernel_rfl, by kernel_rfl, rfl, fun i f h => ?_⟩
 match i, h with
 | 0, h => cases h; exact ⟨by decide, rfl, .i64, by kernel_rfl⟩
 | 1, h => cases h; exact ⟨by decide, rfl, .i64, by kernel_rfl⟩
 | i + 2, h => simp at h
theorem ef119 : intFields Tryz.prog 119 2 := by
 refine ⟨#[⟨"ones", 3, 0, false, "", "cellular/totaltree", 0⟩, ⟨"centre", 3, 1, false, "", "cellular/totaltree", 8⟩], by kernel_rfl, by kernel_rfl, by kernel_rfl, rfl, fun i f h => ?_⟩
 match i, h with
 | 0, h => cases h; exact ⟨by decide, rfl, .i64, by kernel_rfl⟩
 | 1, h => cases h; exact ⟨by decide, rfl, .i64, by kernel_rfl⟩
 | i + 2, h => simp at h
theorem ef190 : intFields Tryz.prog 190 2 := by
 refine ⟨#[⟨"at", 3, 0, false, "", "cellular/totaltree", 0⟩, ⟨"s", 3, 1, false, "", "cellular/totaltree", 8⟩], by kernel_rfl, by kernel_rfl, by kernel_rfl, rfl, fun i f h => ?_⟩
 match i, h with
 | 0, h => cases h; exact ⟨by decide, rfl, .i64, by kernel_rfl⟩
 | 1, h => cases h; exact ⟨by decide, rfl, .i64, by kernel_rfl⟩
 | i + 2, h => simp at h
theorem eqn_ok : ∀ t n, eqn t = some n → intFields Tryz.prog t n := by
 intro t n h
 unfold eqn at h
 split at h
 ·cases h; exact ef71
 ·cases h; exact ef74
 ·cases h; exact ef76
 ·cases h; exact ef119
 ·cases h; exact ef190
 ·cases h
def key : TypeId → Option KK := fun t => match t with
 | 9 => some .str
 | 76 => some (.ints 2)
 | 183 => some (.ints 3)
 | 190 => some (.ints 2)
 | _ => none
theorem kf9 : Maps.Keyed Tryz.prog 9 ∧ ∀ k : Key, k.fits .str = true → ∃ l, keyOf Tryz.prog 9 k.val = some l := key_str (by kernel_rfl)
theorem kf76 : Maps.Keyed Tryz.prog 76 ∧ ∀ k : Key, k.fits (.ints 2) = true → ∃ l, keyOf Tryz.prog 76 k.val = some l :=
 key_ints (fs := #[⟨"X", 3, 0, false, "", "", 0⟩, ⟨"Y", 3, 1, false, "", "", 8⟩]) (by kernel_rfl) (by kernel_rfl) (by kernel_rfl) (by kernel_rfl) (by kernel_rfl) (by kernel_rfl) (by
  intro i f h
  match i, h with
  | 0, h => cases h; exact ⟨by decide, rfl, by kernel_rfl, by kernel_rfl⟩
  | 1, h => cases h; exact ⟨by decide, rfl, by kernel_rfl, by kernel_rfl⟩
  | i + 2, h => simp at h)
theorem kf183 : Maps.Keyed Tryz.prog 183 ∧ ∀ k : Key, k.fits (.ints 3) = true → ∃ l, keyOf Tryz.prog 183 k.val = some l := key_nest (d := 3) (fs := #[⟨"at", 3, 0, false, "", "cellular/totaltree", 0⟩, ⟨"s", 119, 1, false, "", "cellular/totaltree", 8⟩]) (by kernel_rfl) (by kernel_rfl) (by kernel_rfl) (by kernel_rfl) (by kernel_rfl) (by kernel_rfl) (.inr ⟨#[⟨"at", 3, 0, false, "", "cellular/totaltree", 0⟩, ⟨"s", 119, 1, false, "", "cellular/totaltree", 8⟩], by kernel_rfl, by kernel_rfl, fun i f h => match i, h with | 0, h => by cases h; exact ⟨by decide, 1, (.inl ⟨by kernel_rfl, rfl⟩), by kernel_rfl, by decide⟩ | 1, h => by cases h; exact ⟨by decide, 2, (.inr ⟨#[⟨"ones", 3, 0, false, "", "cellular/totaltree", 0⟩, ⟨"centre", 3, 1, false, "", "cellular/totaltree", 8⟩], by kernel_rfl, by kernel_rfl, fun i f h => match i, h with | 0, h => by cases h; exact ⟨by decide, 1, (.inl ⟨by kernel_rfl, rfl⟩), by kernel_rfl, by decide⟩ | 1, h => by cases h; exact ⟨by decide, 1, (.inl ⟨by kernel_rfl, rfl⟩), by kernel_rfl, by decide⟩ | i + 2, h => by simp at h⟩), by kernel_rfl, by decide⟩ | i + 2, h => by simp at h⟩) (by kernel_rfl)
theorem kf190 : Maps.Keyed Tryz.prog 190 ∧ ∀ k : Key, k.fits (.ints 2) = true → ∃ l, keyOf Tryz.prog 190 k.val = some l :=
 key_ints (fs := #[⟨"at", 3, 0, false, "", "cellular/totaltree", 0⟩, ⟨"s", 3, 1, false, "", "cellular/totaltree", 8⟩]) (by kernel_rfl) (by kernel_rfl) (by kernel_rfl) (by kernel_rfl) (by kernel_rfl) (by kernel_rfl) (by
  intro i f h
  match i, h with
  | 0, h => cases h; exact ⟨by decide, rfl, by kernel_rfl, by kernel_rfl⟩
  | 1, h => cases h; exact ⟨by decide, rfl, by kernel_rfl, by kernel_rfl⟩
  | i + 2, h => simp at h)
theorem key_ok : ∀ t kk, key t = some kk → Maps.Keyed Tryz.prog t ∧ ∀ k : Key, k.fits kk = true → ∃ l, keyOf Tryz.prog t k.val = some l := by
 intro t kk h
 unfold key at h
 split at h
 ·cases h; exact kf9
 ·cases h; exact kf76
 ·cases h; exact kf183
 ·cases h; exact kf190
 ·cases h
def tb : Tb := { ty := ty, eqn := eqn, key := key }
theorem aW : TbOk Tryz.prog tb := ⟨ty_ok, eqn_ok, key_ok, (fun _ _ _ h => by cases h), (fun _ _ _ _ _ _ _ _ _ h => by cases h)⟩
theorem mixed : Tryz.prog.follows .mixedOrders = true := by kernel_rfl
end Go.Proofs.YtogdjcdmbodmiaaGreatDoor
