/- The table of the types of this seat, made by program (gen_tab.py), and that it holds. -/
import Derived.Test.YtffohfmfehjbmaaGreatDoorRows
import Derived.Test.YtffohfmfehjbmaaGreatDoorAmO
namespace Go.Proofs.YtffohfmfehjbmaaGreatDoor
open Go.AM Go.Proofs
def ti2:TI:={ size:=1,bytes:=8,zu:=.one (.d (.int .i64 0)),zv:=.int .i64 0,desc:=.int .i64,offs:=[] }
theorem tf2:TabFact Tryz.prog 2 ti2:=⟨by kernel_rfl,by kernel_rfl,(fun φ w F=>csim_const (φ:=φ) (w:=w) (F:=F) (.int .i64 0)),rfl,nofun,nofun⟩
def ti3:TI:={ size:=1,bytes:=8,zu:=.one (.d (.int .i64 0)),zv:=.int .i64 0,desc:=.int .i64,offs:=[] }
theorem tf3:TabFact Tryz.prog 3 ti3:=⟨by kernel_rfl,by kernel_rfl,(fun φ w F=>csim_const (φ:=φ) (w:=w) (F:=F) (.int .i64 0)),rfl,nofun,nofun⟩
def ti4:TI:={ size:=1,bytes:=1,zu:=.one (.d (.bool false)),zv:=.bool false,desc:=.bool,offs:=[] }
theorem tf4:TabFact Tryz.prog 4 ti4:=⟨by kernel_rfl,by kernel_rfl,(fun φ w F=>csim_const (φ:=φ) (w:=w) (F:=F) (.bool false)),rfl,nofun,nofun⟩
def ti5:TI:={ size:=1,bytes:=1,zu:=.one (.d (.int .u8 0)),zv:=.int .u8 0,desc:=.int .u8,offs:=[] }
theorem tf5:TabFact Tryz.prog 5 ti5:=⟨by kernel_rfl,by kernel_rfl,(fun φ w F=>csim_const (φ:=φ) (w:=w) (F:=F) (.int .u8 0)),rfl,nofun,nofun⟩
def ti9:TI:={ size:=1,bytes:=16,zu:=.one (.d (.str ⟨#[]⟩)),zv:=.string ⟨#[]⟩,desc:=.string,offs:=[] }
theorem tf9:TabFact Tryz.prog 9 ti9:=⟨by kernel_rfl,by kernel_rfl,(fun φ w F=>csim_const (φ:=φ) (w:=w) (F:=F) (.string ⟨#[]⟩)),rfl,nofun,nofun⟩
def ti21:TI:={ size:=1,bytes:=4,zu:=.one (.d (.int .i32 0)),zv:=.int .i32 0,desc:=.int .i32,offs:=[] }
theorem tf21:TabFact Tryz.prog 21 ti21:=⟨by kernel_rfl,by kernel_rfl,(fun φ w F=>csim_const (φ:=φ) (w:=w) (F:=F) (.int .i32 0)),rfl,nofun,nofun⟩
def ti22:TI:={ size:=1,bytes:=24,zu:=.one (.d .nil),zv:=.slice none 0 0,desc:=.slice 65,offs:=[] }
theorem tf22:TabFact Tryz.prog 22 ti22:=⟨by kernel_rfl,by kernel_rfl,(fun φ w F=>csim_const (φ:=φ) (w:=w) (F:=F) (.slice none 0 0)),rfl,nofun,nofun⟩
def ti23:TI:={ size:=1,bytes:=24,zu:=.one (.d .nil),zv:=.slice none 0 0,desc:=.slice 80,offs:=[] }
theorem tf23:TabFact Tryz.prog 23 ti23:=⟨by kernel_rfl,by kernel_rfl,(fun φ w F=>csim_const (φ:=φ) (w:=w) (F:=F) (.slice none 0 0)),rfl,nofun,nofun⟩
def ti25:TI:={ size:=3,bytes:=56,zu:=.agg [.d (.int .i64 0),.d .nil,.d .nil],zv:=.agg #[.int .i64 0,.slice none 0 0,.slice none 0 0],desc:=.struct #[⟨"States",3,0,false, "", "",0⟩,⟨"Hood",22,1,false, "", "",8⟩,⟨"Nodes",23,2,false, "", "",32⟩],offs:=[(0,1),(1,1),(2,1)] }
theorem tf25:TabFact Tryz.prog 25 ti25:=⟨by kernel_rfl,by kernel_rfl,(fun φ w F=>⟨#[.int .i64 0,.slice none 0 0,.slice none 0 0],rfl,csims_const (φ:=φ) (w:=w) (F:=F) [.int .i64 0,.slice none 0 0,.slice none 0 0]⟩),rfl,(fun fs h=>by cases h; kernel_rfl),(fun fs h=>by cases h; kernel_rfl)⟩
def ti26:TI:={ size:=1,bytes:=24,zu:=.one (.d .nil),zv:=.slice none 0 0,desc:=.slice 48,offs:=[] }
theorem tf26:TabFact Tryz.prog 26 ti26:=⟨by kernel_rfl,by kernel_rfl,(fun φ w F=>csim_const (φ:=φ) (w:=w) (F:=F) (.slice none 0 0)),rfl,nofun,nofun⟩
def ti28:TI:={ size:=5,bytes:=40,zu:=.agg [.d (.int .i64 0),.d (.int .i64 0),.d (.int .i64 0),.d (.int .i64 0),.d (.int .i64 0)],zv:=.agg #[.int .i64 0,.int .i64 0,.int .i64 0,.int .i64 0,.int .i64 0],desc:=.struct #[⟨"Ship",3,0,false, "", "",0⟩,⟨"Phase",3,1,false, "", "",8⟩,⟨"Sym",3,2,false, "", "",16⟩,⟨"X",3,3,false, "", "",24⟩,⟨"Y",3,4,false, "", "",32⟩],offs:=[(0,1),(1,1),(2,1),(3,1),(4,1)] }
theorem tf28:TabFact Tryz.prog 28 ti28:=⟨by kernel_rfl,by kernel_rfl,(fun φ w F=>⟨#[.int .i64 0,.int .i64 0,.int .i64 0,.int .i64 0,.int .i64 0],rfl,csims_const (φ:=φ) (w:=w) (F:=F) [.int .i64 0,.int .i64 0,.int .i64 0,.int .i64 0,.int .i64 0]⟩),rfl,(fun fs h=>by cases h; kernel_rfl),(fun fs h=>by cases h; kernel_rfl)⟩
def ti30:TI:={ size:=7,bytes:=72,zu:=.agg [.d .nil,.d (.int .i64 0),.d (.int .i64 0),.d (.int .i64 0),.d (.int .i64 0),.d (.int .i64 0),.d (.int .i64 0)],zv:=.agg #[.slice none 0 0,.int .i64 0,.int .i64 0,.int .i64 0,.int .i64 0,.int .i64 0,.int .i64 0],desc:=.struct #[⟨"Ships",26,0,false, "", "",0⟩,⟨"Shot",28,1,false, "", "",24⟩,⟨"N",3,6,false, "", "",64⟩],offs:=[(0,1),(1,5),(6,1)] }
theorem tf30:TabFact Tryz.prog 30 ti30:=⟨by kernel_rfl,by kernel_rfl,(fun φ w F=>⟨#[.slice none 0 0,.int .i64 0,.int .i64 0,.int .i64 0,.int .i64 0,.int .i64 0,.int .i64 0],rfl,csims_const (φ:=φ) (w:=w) (F:=F) [.slice none 0 0,.int .i64 0,.int .i64 0,.int .i64 0,.int .i64 0,.int .i64 0,.int .i64 0]⟩),rfl,(fun fs h=>by cases h; kernel_rfl),(fun fs h=>by cases h; kernel_rfl)⟩
def ti33:TI:={ size:=1,bytes:=8,zu:=.one (.d (.int .i64 0)),zv:=.int .i64 0,desc:=.int .i64,offs:=[] }
theorem tf33:TabFact Tryz.prog 33 ti33:=⟨by kernel_rfl,by kernel_rfl,(fun φ w F=>csim_const (φ:=φ) (w:=w) (F:=F) (.int .i64 0)),rfl,nofun,nofun⟩
def ti37:TI:={ size:=1,bytes:=24,zu:=.one (.d .nil),zv:=.slice none 0 0,desc:=.slice 61,offs:=[] }
theorem tf37:TabFact Tryz.prog 37 ti37:=⟨by kernel_rfl,by kernel_rfl,(fun φ w F=>csim_const (φ:=φ) (w:=w) (F:=F) (.slice none 0 0)),rfl,nofun,nofun⟩
def ti38:TI:={ size:=1,bytes:=24,zu:=.one (.d .nil),zv:=.slice none 0 0,desc:=.slice 61,offs:=[] }
theorem tf38:TabFact Tryz.prog 38 ti38:=⟨by kernel_rfl,by kernel_rfl,(fun φ w F=>csim_const (φ:=φ) (w:=w) (F:=F) (.slice none 0 0)),rfl,nofun,nofun⟩
def ti44:TI:={ size:=2,bytes:=2,zu:=.agg [.d (.int .u8 0),.d (.int .u8 0)],zv:=.agg #[.int .u8 0,.int .u8 0],desc:=.array 2 5,offs:=[] }
theorem tf44:TabFact Tryz.prog 44 ti44:=⟨by kernel_rfl,by kernel_rfl,(fun φ w F=>⟨#[.int .u8 0,.int .u8 0],rfl,csims_const (φ:=φ) (w:=w) (F:=F) [.int .u8 0,.int .u8 0]⟩),rfl,nofun,nofun⟩
def ti46:TI:={ size:=3,bytes:=24,zu:=.agg [.d (.int .i64 0),.d (.int .i64 0),.d (.int .i64 0)],zv:=.agg #[.int .i64 0,.int .i64 0,.int .i64 0],desc:=.struct #[⟨"Period",3,0,false, "", "",0⟩,⟨"DX",3,1,false, "", "",8⟩,⟨"DY",3,2,false, "", "",16⟩],offs:=[(0,1),(1,1),(2,1)] }
theorem tf46:TabFact Tryz.prog 46 ti46:=⟨by kernel_rfl,by kernel_rfl,(fun φ w F=>⟨#[.int .i64 0,.int .i64 0,.int .i64 0],rfl,csims_const (φ:=φ) (w:=w) (F:=F) [.int .i64 0,.int .i64 0,.int .i64 0]⟩),rfl,(fun fs h=>by cases h; kernel_rfl),(fun fs h=>by cases h; kernel_rfl)⟩
def ti48:TI:={ size:=4,bytes:=48,zu:=.agg [.d .nil,.d (.int .i64 0),.d (.int .i64 0),.d (.int .i64 0)],zv:=.agg #[.slice none 0 0,.int .i64 0,.int .i64 0,.int .i64 0],desc:=.struct #[⟨"Cells",38,0,false, "", "",0⟩,⟨"Motion",46,1,false, "", "",24⟩],offs:=[(0,1),(1,3)] }
theorem tf48:TabFact Tryz.prog 48 ti48:=⟨by kernel_rfl,by kernel_rfl,(fun φ w F=>⟨#[.slice none 0 0,.int .i64 0,.int .i64 0,.int .i64 0],rfl,csims_const (φ:=φ) (w:=w) (F:=F) [.slice none 0 0,.int .i64 0,.int .i64 0,.int .i64 0]⟩),rfl,(fun fs h=>by cases h; kernel_rfl),(fun fs h=>by cases h; kernel_rfl)⟩
def ti49:TI:={ size:=1,bytes:=24,zu:=.one (.d .nil),zv:=.slice none 0 0,desc:=.slice 28,offs:=[] }
theorem tf49:TabFact Tryz.prog 49 ti49:=⟨by kernel_rfl,by kernel_rfl,(fun φ w F=>csim_const (φ:=φ) (w:=w) (F:=F) (.slice none 0 0)),rfl,nofun,nofun⟩
def ti61:TI:={ size:=3,bytes:=24,zu:=.agg [.d (.int .i64 0),.d (.int .i64 0),.d (.int .i64 0)],zv:=.agg #[.int .i64 0,.int .i64 0,.int .i64 0],desc:=.struct #[⟨"X",3,0,false, "", "",0⟩,⟨"Y",3,1,false, "", "",8⟩,⟨"S",3,2,false, "", "",16⟩],offs:=[(0,1),(1,1),(2,1)] }
theorem tf61:TabFact Tryz.prog 61 ti61:=⟨by kernel_rfl,by kernel_rfl,(fun φ w F=>⟨#[.int .i64 0,.int .i64 0,.int .i64 0],rfl,csims_const (φ:=φ) (w:=w) (F:=F) [.int .i64 0,.int .i64 0,.int .i64 0]⟩),rfl,(fun fs h=>by cases h; kernel_rfl),(fun fs h=>by cases h; kernel_rfl)⟩
def ti65:TI:={ size:=2,bytes:=16,zu:=.agg [.d (.int .i64 0),.d (.int .i64 0)],zv:=.agg #[.int .i64 0,.int .i64 0],desc:=.struct #[⟨"X",3,0,false, "", "",0⟩,⟨"Y",3,1,false, "", "",8⟩],offs:=[(0,1),(1,1)] }
theorem tf65:TabFact Tryz.prog 65 ti65:=⟨by kernel_rfl,by kernel_rfl,(fun φ w F=>⟨#[.int .i64 0,.int .i64 0],rfl,csims_const (φ:=φ) (w:=w) (F:=F) [.int .i64 0,.int .i64 0]⟩),rfl,(fun fs h=>by cases h; kernel_rfl),(fun fs h=>by cases h; kernel_rfl)⟩
def ti76:TI:={ size:=1,bytes:=8,zu:=.one (.top),zv:=.nilFunc,desc:=.func #[3,3] #[4] false,offs:=[] }
theorem tf76:TabFact Tryz.prog 76 ti76:=⟨by kernel_rfl,by kernel_rfl,(fun φ w F=>csim_const (φ:=φ) (w:=w) (F:=F) (.nilFunc)),rfl,nofun,nofun⟩
def ti78:TI:={ size:=1,bytes:=24,zu:=.one (.d .nil),zv:=.slice none 0 0,desc:=.slice 3,offs:=[] }
theorem tf78:TabFact Tryz.prog 78 ti78:=⟨by kernel_rfl,by kernel_rfl,(fun φ w F=>csim_const (φ:=φ) (w:=w) (F:=F) (.slice none 0 0)),rfl,nofun,nofun⟩
def ti80:TI:={ size:=2,bytes:=32,zu:=.agg [.d (.int .i64 0),.d .nil],zv:=.agg #[.int .i64 0,.slice none 0 0],desc:=.struct #[⟨"Level",3,0,false, "", "",0⟩,⟨"Next",78,1,false, "", "",8⟩],offs:=[(0,1),(1,1)] }
theorem tf80:TabFact Tryz.prog 80 ti80:=⟨by kernel_rfl,by kernel_rfl,(fun φ w F=>⟨#[.int .i64 0,.slice none 0 0],rfl,csims_const (φ:=φ) (w:=w) (F:=F) [.int .i64 0,.slice none 0 0]⟩),rfl,(fun fs h=>by cases h; kernel_rfl),(fun fs h=>by cases h; kernel_rfl)⟩
def ti84:TI:={ size:=4,bytes:=80,zu:=.agg [.d .nil,.d (.int .i64 0),.d .nil,.d .nil],zv:=.agg #[.slice none 0 0,.int .i64 0,.slice none 0 0,.slice none 0 0],desc:=.struct #[⟨"Hood",22,0,false, "", "",0⟩,⟨"States",3,1,false, "", "",24⟩,⟨"Birth",78,2,false, "", "",32⟩,⟨"Survive",78,3,false, "", "",56⟩],offs:=[(0,1),(1,1),(2,1),(3,1)] }
theorem tf84:TabFact Tryz.prog 84 ti84:=⟨by kernel_rfl,by kernel_rfl,(fun φ w F=>⟨#[.slice none 0 0,.int .i64 0,.slice none 0 0,.slice none 0 0],rfl,csims_const (φ:=φ) (w:=w) (F:=F) [.slice none 0 0,.int .i64 0,.slice none 0 0,.slice none 0 0]⟩),rfl,(fun fs h=>by cases h; kernel_rfl),(fun fs h=>by cases h; kernel_rfl)⟩
def ti91:TI:={ size:=1,bytes:=24,zu:=.one (.d .nil),zv:=.slice none 0 0,desc:=.slice 78,offs:=[] }
theorem tf91:TabFact Tryz.prog 91 ti91:=⟨by kernel_rfl,by kernel_rfl,(fun φ w F=>csim_const (φ:=φ) (w:=w) (F:=F) (.slice none 0 0)),rfl,nofun,nofun⟩
def ti92:TI:={ size:=1,bytes:=24,zu:=.one (.d .nil),zv:=.slice none 0 0,desc:=.slice 228,offs:=[] }
theorem tf92:TabFact Tryz.prog 92 ti92:=⟨by kernel_rfl,by kernel_rfl,(fun φ w F=>csim_const (φ:=φ) (w:=w) (F:=F) (.slice none 0 0)),rfl,nofun,nofun⟩
def ti94:TI:={ size:=5,bytes:=88,zu:=.agg [.d (.int .i64 0),.d (.int .i64 0),.d .nil,.d .nil,.d .nil],zv:=.agg #[.int .i64 0,.int .i64 0,.slice none 0 0,.slice none 0 0,.slice none 0 0],desc:=.struct #[⟨"States",3,0,false, "", "",0⟩,⟨"Sym",3,1,false, "", "",8⟩,⟨"Hood",22,2,false, "", "",16⟩,⟨"Vars",91,3,false, "", "",40⟩,⟨"Rows",92,4,false, "", "",64⟩],offs:=[(0,1),(1,1),(2,1),(3,1),(4,1)] }
theorem tf94:TabFact Tryz.prog 94 ti94:=⟨by kernel_rfl,by kernel_rfl,(fun φ w F=>⟨#[.int .i64 0,.int .i64 0,.slice none 0 0,.slice none 0 0,.slice none 0 0],rfl,csims_const (φ:=φ) (w:=w) (F:=F) [.int .i64 0,.int .i64 0,.slice none 0 0,.slice none 0 0,.slice none 0 0]⟩),rfl,(fun fs h=>by cases h; kernel_rfl),(fun fs h=>by cases h; kernel_rfl)⟩
def ti99:TI:={ size:=4,bytes:=32,zu:=.agg [.d (.int .i64 0),.d (.int .i64 0),.d (.int .i64 0),.d (.int .i64 0)],zv:=.agg #[.int .i64 0,.int .i64 0,.int .i64 0,.int .i64 0],desc:=.struct #[⟨"X",3,0,false, "", "",0⟩,⟨"Y",3,1,false, "", "",8⟩,⟨"W",3,2,false, "", "",16⟩,⟨"H",3,3,false, "", "",24⟩],offs:=[(0,1),(1,1),(2,1),(3,1)] }
theorem tf99:TabFact Tryz.prog 99 ti99:=⟨by kernel_rfl,by kernel_rfl,(fun φ w F=>⟨#[.int .i64 0,.int .i64 0,.int .i64 0,.int .i64 0],rfl,csims_const (φ:=φ) (w:=w) (F:=F) [.int .i64 0,.int .i64 0,.int .i64 0,.int .i64 0]⟩),rfl,(fun fs h=>by cases h; kernel_rfl),(fun fs h=>by cases h; kernel_rfl)⟩
def ti110:TI:={ size:=1,bytes:=8,zu:=.one (.top),zv:=.nilFunc,desc:=.func #[3] #[4] false,offs:=[] }
theorem tf110:TabFact Tryz.prog 110 ti110:=⟨by kernel_rfl,by kernel_rfl,(fun φ w F=>csim_const (φ:=φ) (w:=w) (F:=F) (.nilFunc)),rfl,nofun,nofun⟩
def ti113:TI:={ size:=1,bytes:=24,zu:=.one (.d .nil),zv:=.slice none 0 0,desc:=.slice 25,offs:=[] }
theorem tf113:TabFact Tryz.prog 113 ti113:=⟨by kernel_rfl,by kernel_rfl,(fun φ w F=>csim_const (φ:=φ) (w:=w) (F:=F) (.slice none 0 0)),rfl,nofun,nofun⟩
def ti121:TI:={ size:=1,bytes:=8,zu:=.one (.top),zv:=.nilFunc,desc:=.func #[61,61] #[3] false,offs:=[] }
theorem tf121:TabFact Tryz.prog 121 ti121:=⟨by kernel_rfl,by kernel_rfl,(fun φ w F=>csim_const (φ:=φ) (w:=w) (F:=F) (.nilFunc)),rfl,nofun,nofun⟩
def ti122:TI:={ size:=1,bytes:=8,zu:=.one (.top),zv:=.nilFunc,desc:=.func #[65] #[4] false,offs:=[] }
theorem tf122:TabFact Tryz.prog 122 ti122:=⟨by kernel_rfl,by kernel_rfl,(fun φ w F=>csim_const (φ:=φ) (w:=w) (F:=F) (.nilFunc)),rfl,nofun,nofun⟩
def ti126:TI:={ size:=1,bytes:=8,zu:=.one (.nilmap),zv:=.map none,desc:=.map 65 3,offs:=[] }
theorem tf126:TabFact Tryz.prog 126 ti126:=⟨by kernel_rfl,by kernel_rfl,(fun φ w F=>csim_const (φ:=φ) (w:=w) (F:=F) (.map none)),rfl,nofun,nofun⟩
def ti128:TI:={ size:=1,bytes:=8,zu:=.one (.nilmap),zv:=.map none,desc:=.map 65 4,offs:=[] }
theorem tf128:TabFact Tryz.prog 128 ti128:=⟨by kernel_rfl,by kernel_rfl,(fun φ w F=>csim_const (φ:=φ) (w:=w) (F:=F) (.map none)),rfl,nofun,nofun⟩
def ti132:TI:={ size:=4,bytes:=32,zu:=.agg [.d (.int .i64 0),.d (.int .i64 0),.d (.int .i64 0),.d (.int .i64 0)],zv:=.agg #[.int .i64 0,.int .i64 0,.int .i64 0,.int .i64 0],desc:=.array 4 3,offs:=[] }
theorem tf132:TabFact Tryz.prog 132 ti132:=⟨by kernel_rfl,by kernel_rfl,(fun φ w F=>⟨#[.int .i64 0,.int .i64 0,.int .i64 0,.int .i64 0],rfl,csims_const (φ:=φ) (w:=w) (F:=F) [.int .i64 0,.int .i64 0,.int .i64 0,.int .i64 0]⟩),rfl,nofun,nofun⟩
def ti133:TI:={ size:=32,bytes:=256,zu:=.agg [.d (.int .i64 0),.d (.int .i64 0),.d (.int .i64 0),.d (.int .i64 0),.d (.int .i64 0),.d (.int .i64 0),.d (.int .i64 0),.d (.int .i64 0),.d (.int .i64 0),.d (.int .i64 0),.d (.int .i64 0),.d (.int .i64 0),.d (.int .i64 0),.d (.int .i64 0),.d (.int .i64 0),.d (.int .i64 0),.d (.int .i64 0),.d (.int .i64 0),.d (.int .i64 0),.d (.int .i64 0),.d (.int .i64 0),.d (.int .i64 0),.d (.int .i64 0),.d (.int .i64 0),.d (.int .i64 0),.d (.int .i64 0),.d (.int .i64 0),.d (.int .i64 0),.d (.int .i64 0),.d (.int .i64 0),.d (.int .i64 0),.d (.int .i64 0)],zv:=.agg #[.int .i64 0,.int .i64 0,.int .i64 0,.int .i64 0,.int .i64 0,.int .i64 0,.int .i64 0,.int .i64 0,.int .i64 0,.int .i64 0,.int .i64 0,.int .i64 0,.int .i64 0,.int .i64 0,.int .i64 0,.int .i64 0,.int .i64 0,.int .i64 0,.int .i64 0,.int .i64 0,.int .i64 0,.int .i64 0,.int .i64 0,.int .i64 0,.int .i64 0,.int .i64 0,.int .i64 0,.int .i64 0,.int .i64 0,.int .i64 0,.int .i64 0,.int .i64 0],desc:=.array 8 132,offs:=[] }
theorem tf133:TabFact Tryz.prog 133 ti133:=⟨by kernel_rfl,by kernel_rfl,(fun φ w F=>⟨#[.int .i64 0,.int .i64 0,.int .i64 0,.int .i64 0,.int .i64 0,.int .i64 0,.int .i64 0,.int .i64 0,.int .i64 0,.int .i64 0,.int .i64 0,.int .i64 0,.int .i64 0,.int .i64 0,.int .i64 0,.int .i64 0,.int .i64 0,.int .i64 0,.int .i64 0,.int .i64 0,.int .i64 0,.int .i64 0,.int .i64 0,.int .i64 0,.int .i64 0,.int .i64 0,.int .i64 0,.int .i64 0,.int .i64 0,.int .i64 0,.int .i64 0,.int .i64 0],rfl,csims_const (φ:=φ) (w:=w) (F:=F) [.int .i64 0,.int .i64 0,.int .i64 0,.int .i64 0,.int .i64 0,.int .i64 0,.int .i64 0,.int .i64 0,.int .i64 0,.int .i64 0,.int .i64 0,.int .i64 0,.int .i64 0,.int .i64 0,.int .i64 0,.int .i64 0,.int .i64 0,.int .i64 0,.int .i64 0,.int .i64 0,.int .i64 0,.int .i64 0,.int .i64 0,.int .i64 0,.int .i64 0,.int .i64 0,.int .i64 0,.int .i64 0,.int .i64 0,.int .i64 0,.int .i64 0,.int .i64 0]⟩),rfl,nofun,nofun⟩
def ti144:TI:={ size:=1,bytes:=24,zu:=.one (.d .nil),zv:=.slice none 0 0,desc:=.slice 9,offs:=[] }
theorem tf144:TabFact Tryz.prog 144 ti144:=⟨by kernel_rfl,by kernel_rfl,(fun φ w F=>csim_const (φ:=φ) (w:=w) (F:=F) (.slice none 0 0)),rfl,nofun,nofun⟩
def ti148:TI:={ size:=1,bytes:=16,zu:=.one (.d .ni),zv:=.nilIface,desc:=.interface #[("Error",340)],offs:=[] }
theorem tf148:TabFact Tryz.prog 148 ti148:=⟨by kernel_rfl,by kernel_rfl,(fun φ w F=>csim_const (φ:=φ) (w:=w) (F:=F) (.nilIface)),rfl,nofun,nofun⟩
def ti153:TI:={ size:=2,bytes:=16,zu:=.agg [.d (.int .i64 0),.d (.int .i64 0)],zv:=.agg #[.int .i64 0,.int .i64 0],desc:=.struct #[⟨"ones",3,0,false, "", "cellular/totaltree",0⟩,⟨"centre",3,1,false, "", "cellular/totaltree",8⟩],offs:=[(0,1),(1,1)] }
theorem tf153:TabFact Tryz.prog 153 ti153:=⟨by kernel_rfl,by kernel_rfl,(fun φ w F=>⟨#[.int .i64 0,.int .i64 0],rfl,csims_const (φ:=φ) (w:=w) (F:=F) [.int .i64 0,.int .i64 0]⟩),rfl,(fun fs h=>by cases h; kernel_rfl),(fun fs h=>by cases h; kernel_rfl)⟩
def ti154:TI:={ size:=1,bytes:=8,zu:=.one (.top),zv:=.nilFunc,desc:=.func #[153,3,3] #[153] false,offs:=[] }
theorem tf154:TabFact Tryz.prog 154 ti154:=⟨by kernel_rfl,by kernel_rfl,(fun φ w F=>csim_const (φ:=φ) (w:=w) (F:=F) (.nilFunc)),rfl,nofun,nofun⟩
def ti156:TI:={ size:=1,bytes:=8,zu:=.one (.top),zv:=.nilFunc,desc:=.func #[153] #[3] false,offs:=[] }
theorem tf156:TabFact Tryz.prog 156 ti156:=⟨by kernel_rfl,by kernel_rfl,(fun φ w F=>csim_const (φ:=φ) (w:=w) (F:=F) (.nilFunc)),rfl,nofun,nofun⟩
def ti162:TI:={ size:=8,bytes:=64,zu:=.agg [.d (.int .i64 0),.d (.int .i64 0),.d (.int .i64 0),.d (.int .i64 0),.d (.int .i64 0),.d (.int .i64 0),.d (.int .i64 0),.d (.int .i64 0)],zv:=.agg #[.int .i64 0,.int .i64 0,.int .i64 0,.int .i64 0,.int .i64 0,.int .i64 0,.int .i64 0,.int .i64 0],desc:=.array 8 3,offs:=[] }
theorem tf162:TabFact Tryz.prog 162 ti162:=⟨by kernel_rfl,by kernel_rfl,(fun φ w F=>⟨#[.int .i64 0,.int .i64 0,.int .i64 0,.int .i64 0,.int .i64 0,.int .i64 0,.int .i64 0,.int .i64 0],rfl,csims_const (φ:=φ) (w:=w) (F:=F) [.int .i64 0,.int .i64 0,.int .i64 0,.int .i64 0,.int .i64 0,.int .i64 0,.int .i64 0,.int .i64 0]⟩),rfl,nofun,nofun⟩
def ti166:TI:={ size:=1,bytes:=8,zu:=.one (.top),zv:=.nilFunc,desc:=.func #[3,3,3] #[3] false,offs:=[] }
theorem tf166:TabFact Tryz.prog 166 ti166:=⟨by kernel_rfl,by kernel_rfl,(fun φ w F=>csim_const (φ:=φ) (w:=w) (F:=F) (.nilFunc)),rfl,nofun,nofun⟩
def ti167:TI:={ size:=1,bytes:=8,zu:=.one (.top),zv:=.nilFunc,desc:=.func #[3] #[3] false,offs:=[] }
theorem tf167:TabFact Tryz.prog 167 ti167:=⟨by kernel_rfl,by kernel_rfl,(fun φ w F=>csim_const (φ:=φ) (w:=w) (F:=F) (.nilFunc)),rfl,nofun,nofun⟩
def ti168:TI:={ size:=1,bytes:=8,zu:=.one (.top),zv:=.pointer none,desc:=.pointer 171,offs:=[] }
theorem tf168:TabFact Tryz.prog 168 ti168:=⟨by kernel_rfl,by kernel_rfl,(fun φ w F=>csim_const (φ:=φ) (w:=w) (F:=F) (.pointer none)),rfl,nofun,nofun⟩
def ti169:TI:={ size:=1,bytes:=8,zu:=.one (.nilmap),zv:=.map none,desc:=.map 9 3,offs:=[] }
theorem tf169:TabFact Tryz.prog 169 ti169:=⟨by kernel_rfl,by kernel_rfl,(fun φ w F=>csim_const (φ:=φ) (w:=w) (F:=F) (.map none)),rfl,nofun,nofun⟩
def ti171:TI:={ size:=7,bytes:=104,zu:=.agg [.d (.int .i64 0),.d (.int .i64 0),.d .nil,.d .nil,.d .nil,.nilmap,.d (.int .i64 0)],zv:=.agg #[.int .i64 0,.int .i64 0,.slice none 0 0,.slice none 0 0,.slice none 0 0,.map none,.int .i64 0],desc:=.struct #[⟨"t",94,0,false, "", "cellular/ruletable",0⟩,⟨"names",169,5,false, "", "cellular/ruletable",88⟩,⟨"head",3,6,false, "", "cellular/ruletable",96⟩],offs:=[(0,5),(5,1),(6,1)] }
theorem tf171:TabFact Tryz.prog 171 ti171:=⟨by kernel_rfl,by kernel_rfl,(fun φ w F=>⟨#[.int .i64 0,.int .i64 0,.slice none 0 0,.slice none 0 0,.slice none 0 0,.map none,.int .i64 0],rfl,csims_const (φ:=φ) (w:=w) (F:=F) [.int .i64 0,.int .i64 0,.slice none 0 0,.slice none 0 0,.slice none 0 0,.map none,.int .i64 0]⟩),rfl,(fun fs h=>by cases h; kernel_rfl),(fun fs h=>by cases h; kernel_rfl)⟩
def ti173:TI:={ size:=1,bytes:=8,zu:=.one (.top),zv:=.nilFunc,desc:=.func #[219] #[] false,offs:=[] }
theorem tf173:TabFact Tryz.prog 173 ti173:=⟨by kernel_rfl,by kernel_rfl,(fun φ w F=>csim_const (φ:=φ) (w:=w) (F:=F) (.nilFunc)),rfl,nofun,nofun⟩
def ti180:TI:={ size:=1,bytes:=8,zu:=.one (.top),zv:=.nilFunc,desc:=.func #[78] #[3] false,offs:=[] }
theorem tf180:TabFact Tryz.prog 180 ti180:=⟨by kernel_rfl,by kernel_rfl,(fun φ w F=>csim_const (φ:=φ) (w:=w) (F:=F) (.nilFunc)),rfl,nofun,nofun⟩
def ti185:TI:={ size:=1,bytes:=8,zu:=.one (.top),zv:=.nilFunc,desc:=.func #[3,78] #[78] false,offs:=[] }
theorem tf185:TabFact Tryz.prog 185 ti185:=⟨by kernel_rfl,by kernel_rfl,(fun φ w F=>csim_const (φ:=φ) (w:=w) (F:=F) (.nilFunc)),rfl,nofun,nofun⟩
def ti188:TI:={ size:=2,bytes:=32,zu:=.agg [.d .nil,.nilmap],zv:=.agg #[.slice none 0 0,.map none],desc:=.struct #[⟨"nodes",23,0,false, "", "cellular/reduce",0⟩,⟨"known",169,1,false, "", "cellular/reduce",24⟩],offs:=[(0,1),(1,1)] }
theorem tf188:TabFact Tryz.prog 188 ti188:=⟨by kernel_rfl,by kernel_rfl,(fun φ w F=>⟨#[.slice none 0 0,.map none],rfl,csims_const (φ:=φ) (w:=w) (F:=F) [.slice none 0 0,.map none]⟩),rfl,(fun fs h=>by cases h; kernel_rfl),(fun fs h=>by cases h; kernel_rfl)⟩
def ti193:TI:={ size:=1,bytes:=8,zu:=.one (.top),zv:=.nilFunc,desc:=.func #[80,80] #[4] false,offs:=[] }
theorem tf193:TabFact Tryz.prog 193 ti193:=⟨by kernel_rfl,by kernel_rfl,(fun φ w F=>csim_const (φ:=φ) (w:=w) (F:=F) (.nilFunc)),rfl,nofun,nofun⟩
def ti199:TI:={ size:=1,bytes:=8,zu:=.one (.d (.int .u64 0)),zv:=.int .u64 0,desc:=.int .u64,offs:=[] }
theorem tf199:TabFact Tryz.prog 199 ti199:=⟨by kernel_rfl,by kernel_rfl,(fun φ w F=>csim_const (φ:=φ) (w:=w) (F:=F) (.int .u64 0)),rfl,nofun,nofun⟩
def ti202:TI:={ size:=1,bytes:=24,zu:=.one (.d .nil),zv:=.slice none 0 0,desc:=.slice 5,offs:=[] }
theorem tf202:TabFact Tryz.prog 202 ti202:=⟨by kernel_rfl,by kernel_rfl,(fun φ w F=>csim_const (φ:=φ) (w:=w) (F:=F) (.slice none 0 0)),rfl,nofun,nofun⟩
def ti208:TI:={ size:=1,bytes:=8,zu:=.one (.nilmap),zv:=.map none,desc:=.map 211 3,offs:=[] }
theorem tf208:TabFact Tryz.prog 208 ti208:=⟨by kernel_rfl,by kernel_rfl,(fun φ w F=>csim_const (φ:=φ) (w:=w) (F:=F) (.map none)),rfl,nofun,nofun⟩
def ti209:TI:={ size:=1,bytes:=8,zu:=.one (.top),zv:=.nilFunc,desc:=.func #[211] #[3] false,offs:=[] }
theorem tf209:TabFact Tryz.prog 209 ti209:=⟨by kernel_rfl,by kernel_rfl,(fun φ w F=>csim_const (φ:=φ) (w:=w) (F:=F) (.nilFunc)),rfl,nofun,nofun⟩
def ti211:TI:={ size:=3,bytes:=24,zu:=.agg [.d (.int .i64 0),.d (.int .i64 0),.d (.int .i64 0)],zv:=.agg #[.int .i64 0,.int .i64 0,.int .i64 0],desc:=.struct #[⟨"at",3,0,false, "", "cellular/totaltree",0⟩,⟨"s",153,1,false, "", "cellular/totaltree",8⟩],offs:=[(0,1),(1,2)] }
theorem tf211:TabFact Tryz.prog 211 ti211:=⟨by kernel_rfl,by kernel_rfl,(fun φ w F=>⟨#[.int .i64 0,.int .i64 0,.int .i64 0],rfl,csims_const (φ:=φ) (w:=w) (F:=F) [.int .i64 0,.int .i64 0,.int .i64 0]⟩),rfl,(fun fs h=>by cases h; kernel_rfl),(fun fs h=>by cases h; kernel_rfl)⟩
def ti215:TI:={ size:=1,bytes:=8,zu:=.one (.nilmap),zv:=.map none,desc:=.map 218 3,offs:=[] }
theorem tf215:TabFact Tryz.prog 215 ti215:=⟨by kernel_rfl,by kernel_rfl,(fun φ w F=>csim_const (φ:=φ) (w:=w) (F:=F) (.map none)),rfl,nofun,nofun⟩
def ti216:TI:={ size:=1,bytes:=8,zu:=.one (.top),zv:=.nilFunc,desc:=.func #[218] #[3] false,offs:=[] }
theorem tf216:TabFact Tryz.prog 216 ti216:=⟨by kernel_rfl,by kernel_rfl,(fun φ w F=>csim_const (φ:=φ) (w:=w) (F:=F) (.nilFunc)),rfl,nofun,nofun⟩
def ti218:TI:={ size:=2,bytes:=16,zu:=.agg [.d (.int .i64 0),.d (.int .i64 0)],zv:=.agg #[.int .i64 0,.int .i64 0],desc:=.struct #[⟨"at",3,0,false, "", "cellular/totaltree",0⟩,⟨"s",3,1,false, "", "cellular/totaltree",8⟩],offs:=[(0,1),(1,1)] }
theorem tf218:TabFact Tryz.prog 218 ti218:=⟨by kernel_rfl,by kernel_rfl,(fun φ w F=>⟨#[.int .i64 0,.int .i64 0],rfl,csims_const (φ:=φ) (w:=w) (F:=F) [.int .i64 0,.int .i64 0]⟩),rfl,(fun fs h=>by cases h; kernel_rfl),(fun fs h=>by cases h; kernel_rfl)⟩
def ti219:TI:={ size:=1,bytes:=8,zu:=.one (.top),zv:=.nilFunc,desc:=.func #[3,144] #[4] false,offs:=[] }
theorem tf219:TabFact Tryz.prog 219 ti219:=⟨by kernel_rfl,by kernel_rfl,(fun φ w F=>csim_const (φ:=φ) (w:=w) (F:=F) (.nilFunc)),rfl,nofun,nofun⟩
def ti221:TI:={ size:=1,bytes:=8,zu:=.one (.top),zv:=.nilFunc,desc:=.func #[21] #[4] false,offs:=[] }
theorem tf221:TabFact Tryz.prog 221 ti221:=⟨by kernel_rfl,by kernel_rfl,(fun φ w F=>csim_const (φ:=φ) (w:=w) (F:=F) (.nilFunc)),rfl,nofun,nofun⟩
def ti225:TI:={ size:=4,bytes:=64,zu:=.agg [.d (.str ⟨#[]⟩),.d (.str ⟨#[]⟩),.d (.str ⟨#[]⟩),.d (.str ⟨#[]⟩)],zv:=.agg #[.string ⟨#[]⟩,.string ⟨#[]⟩,.string ⟨#[]⟩,.string ⟨#[]⟩],desc:=.array 4 9,offs:=[] }
theorem tf225:TabFact Tryz.prog 225 ti225:=⟨by kernel_rfl,by kernel_rfl,(fun φ w F=>⟨#[.string ⟨#[]⟩,.string ⟨#[]⟩,.string ⟨#[]⟩,.string ⟨#[]⟩],rfl,csims_const (φ:=φ) (w:=w) (F:=F) [.string ⟨#[]⟩,.string ⟨#[]⟩,.string ⟨#[]⟩,.string ⟨#[]⟩]⟩),rfl,nofun,nofun⟩
def ti228:TI:={ size:=2,bytes:=32,zu:=.agg [.d .nil,.d (.int .i64 0)],zv:=.agg #[.slice none 0 0,.int .i64 0],desc:=.struct #[⟨"Ins",78,0,false, "", "",0⟩,⟨"Out",3,1,false, "", "",24⟩],offs:=[(0,1),(1,1)] }
theorem tf228:TabFact Tryz.prog 228 ti228:=⟨by kernel_rfl,by kernel_rfl,(fun φ w F=>⟨#[.slice none 0 0,.int .i64 0],rfl,csims_const (φ:=φ) (w:=w) (F:=F) [.slice none 0 0,.int .i64 0]⟩),rfl,(fun fs h=>by cases h; kernel_rfl),(fun fs h=>by cases h; kernel_rfl)⟩
def ti229:TI:={ size:=1,bytes:=8,zu:=.one (.top),zv:=.pointer none,desc:=.pointer 231,offs:=[] }
theorem tf229:TabFact Tryz.prog 229 ti229:=⟨by kernel_rfl,by kernel_rfl,(fun φ w F=>csim_const (φ:=φ) (w:=w) (F:=F) (.pointer none)),rfl,nofun,nofun⟩
def ti231:TI:={ size:=6,bytes:=96,zu:=.agg [.d (.int .i64 0),.d .nil,.d .nil,.nilmap,.d .nil,.top],zv:=.agg #[.int .i64 0,.slice none 0 0,.slice none 0 0,.map none,.slice none 0 0,.nilFunc],desc:=.struct #[⟨"tree",25,0,false, "", "cellular/tabletree",0⟩,⟨"known",169,3,false, "", "cellular/tabletree",56⟩,⟨"in",78,4,false, "", "cellular/tabletree",64⟩,⟨"value",180,5,false, "", "cellular/tabletree",88⟩],offs:=[(0,3),(3,1),(4,1),(5,1)] }
theorem tf231:TabFact Tryz.prog 231 ti231:=⟨by kernel_rfl,by kernel_rfl,(fun φ w F=>⟨#[.int .i64 0,.slice none 0 0,.slice none 0 0,.map none,.slice none 0 0,.nilFunc],rfl,csims_const (φ:=φ) (w:=w) (F:=F) [.int .i64 0,.slice none 0 0,.slice none 0 0,.map none,.slice none 0 0,.nilFunc]⟩),rfl,(fun fs h=>by cases h; kernel_rfl),(fun fs h=>by cases h; kernel_rfl)⟩
def ti238:TI:={ size:=1,bytes:=8,zu:=.one (.top),zv:=.pointer none,desc:=.pointer 188,offs:=[] }
theorem tf238:TabFact Tryz.prog 238 ti238:=⟨by kernel_rfl,by kernel_rfl,(fun φ w F=>csim_const (φ:=φ) (w:=w) (F:=F) (.pointer none)),rfl,nofun,nofun⟩
def ti242:TI:={ size:=1,bytes:=24,zu:=.one (.d .nil),zv:=.slice none 0 0,desc:=.slice 38,offs:=[] }
theorem tf242:TabFact Tryz.prog 242 ti242:=⟨by kernel_rfl,by kernel_rfl,(fun φ w F=>csim_const (φ:=φ) (w:=w) (F:=F) (.slice none 0 0)),rfl,nofun,nofun⟩
def ti255:TI:={ size:=1,bytes:=8,zu:=.one (.d (.int .u64 0)),zv:=.int .u64 0,desc:=.int .u64,offs:=[] }
theorem tf255:TabFact Tryz.prog 255 ti255:=⟨by kernel_rfl,by kernel_rfl,(fun φ w F=>csim_const (φ:=φ) (w:=w) (F:=F) (.int .u64 0)),rfl,nofun,nofun⟩
def ti269:TI:={ size:=1,bytes:=8,zu:=.one (.top),zv:=.pointer none,desc:=.pointer 265,offs:=[] }
theorem tf269:TabFact Tryz.prog 269 ti269:=⟨by kernel_rfl,by kernel_rfl,(fun φ w F=>csim_const (φ:=φ) (w:=w) (F:=F) (.pointer none)),rfl,nofun,nofun⟩
def ti270:TI:={ size:=1,bytes:=24,zu:=.one (.d .nil),zv:=.slice none 0 0,desc:=.slice 272,offs:=[] }
theorem tf270:TabFact Tryz.prog 270 ti270:=⟨by kernel_rfl,by kernel_rfl,(fun φ w F=>csim_const (φ:=φ) (w:=w) (F:=F) (.slice none 0 0)),rfl,nofun,nofun⟩
def ti272:TI:={ size:=2,bytes:=16,zu:=.agg [.d (.int .i64 0),.d (.int .i64 0)],zv:=.agg #[.int .i64 0,.int .i64 0],desc:=.struct #[⟨"start",3,0,false, "", "strings",0⟩,⟨"end",3,1,false, "", "strings",8⟩],offs:=[(0,1),(1,1)] }
theorem tf272:TabFact Tryz.prog 272 ti272:=⟨by kernel_rfl,by kernel_rfl,(fun φ w F=>⟨#[.int .i64 0,.int .i64 0],rfl,csims_const (φ:=φ) (w:=w) (F:=F) [.int .i64 0,.int .i64 0]⟩),rfl,(fun fs h=>by cases h; kernel_rfl),(fun fs h=>by cases h; kernel_rfl)⟩
def ti300:TI:={ size:=1,bytes:=8,zu:=.one (.top),zv:=.pointer none,desc:=.pointer 327,offs:=[] }
theorem tf300:TabFact Tryz.prog 300 ti300:=⟨by kernel_rfl,by kernel_rfl,(fun φ w F=>csim_const (φ:=φ) (w:=w) (F:=F) (.pointer none)),rfl,nofun,nofun⟩
def ti304:TI:={ size:=1,bytes:=24,zu:=.one (.d .nil),zv:=.slice none 0 0,desc:=.slice 4,offs:=[] }
theorem tf304:TabFact Tryz.prog 304 ti304:=⟨by kernel_rfl,by kernel_rfl,(fun φ w F=>csim_const (φ:=φ) (w:=w) (F:=F) (.slice none 0 0)),rfl,nofun,nofun⟩
def ti305:TI:={ size:=1,bytes:=8,zu:=.one (.top),zv:=.nilFunc,desc:=.func #[3] #[] false,offs:=[] }
theorem tf305:TabFact Tryz.prog 305 ti305:=⟨by kernel_rfl,by kernel_rfl,(fun φ w F=>csim_const (φ:=φ) (w:=w) (F:=F) (.nilFunc)),rfl,nofun,nofun⟩
def ti308:TI:={ size:=7,bytes:=88,zu:=.agg [.d (.bool false),.d (.int .i64 0),.d (.int .i64 0),.d (.int .i64 0),.d (.int .i64 0),.d .nil,.d .nil],zv:=.agg #[.bool false,.int .i64 0,.int .i64 0,.int .i64 0,.int .i64 0,.slice none 0 0,.slice none 0 0],desc:=.struct #[⟨"flat",4,0,false, "", "cellular/cellularref20",0⟩,⟨"box",99,1,false, "", "cellular/cellularref20",8⟩,⟨"cells",78,5,false, "", "cellular/cellularref20",40⟩,⟨"list",38,6,false, "", "cellular/cellularref20",64⟩],offs:=[(0,1),(1,4),(5,1),(6,1)] }
theorem tf308:TabFact Tryz.prog 308 ti308:=⟨by kernel_rfl,by kernel_rfl,(fun φ w F=>⟨#[.bool false,.int .i64 0,.int .i64 0,.int .i64 0,.int .i64 0,.slice none 0 0,.slice none 0 0],rfl,csims_const (φ:=φ) (w:=w) (F:=F) [.bool false,.int .i64 0,.int .i64 0,.int .i64 0,.int .i64 0,.slice none 0 0,.slice none 0 0]⟩),rfl,(fun fs h=>by cases h; kernel_rfl),(fun fs h=>by cases h; kernel_rfl)⟩
def ti317:TI:={ size:=1,bytes:=8,zu:=.one (.top),zv:=.pointer none,desc:=.pointer 319,offs:=[] }
theorem tf317:TabFact Tryz.prog 317 ti317:=⟨by kernel_rfl,by kernel_rfl,(fun φ w F=>csim_const (φ:=φ) (w:=w) (F:=F) (.pointer none)),rfl,nofun,nofun⟩
def ti319:TI:={ size:=1,bytes:=16,zu:=.agg [.d (.str ⟨#[]⟩)],zv:=.agg #[.string ⟨#[]⟩],desc:=.struct #[⟨"s",9,0,false, "", "errors",0⟩],offs:=[(0,1)] }
theorem tf319:TabFact Tryz.prog 319 ti319:=⟨by kernel_rfl,by kernel_rfl,(fun φ w F=>⟨#[.string ⟨#[]⟩],rfl,csims_const (φ:=φ) (w:=w) (F:=F) [.string ⟨#[]⟩]⟩),rfl,(fun fs h=>by cases h; kernel_rfl),(fun fs h=>by cases h; kernel_rfl)⟩
def ti320:TI:={ size:=24,bytes:=24,zu:=.agg [.d (.int .u8 0),.d (.int .u8 0),.d (.int .u8 0),.d (.int .u8 0),.d (.int .u8 0),.d (.int .u8 0),.d (.int .u8 0),.d (.int .u8 0),.d (.int .u8 0),.d (.int .u8 0),.d (.int .u8 0),.d (.int .u8 0),.d (.int .u8 0),.d (.int .u8 0),.d (.int .u8 0),.d (.int .u8 0),.d (.int .u8 0),.d (.int .u8 0),.d (.int .u8 0),.d (.int .u8 0),.d (.int .u8 0),.d (.int .u8 0),.d (.int .u8 0),.d (.int .u8 0)],zv:=.agg #[.int .u8 0,.int .u8 0,.int .u8 0,.int .u8 0,.int .u8 0,.int .u8 0,.int .u8 0,.int .u8 0,.int .u8 0,.int .u8 0,.int .u8 0,.int .u8 0,.int .u8 0,.int .u8 0,.int .u8 0,.int .u8 0,.int .u8 0,.int .u8 0,.int .u8 0,.int .u8 0,.int .u8 0,.int .u8 0,.int .u8 0,.int .u8 0],desc:=.array 24 5,offs:=[] }
theorem tf320:TabFact Tryz.prog 320 ti320:=⟨by kernel_rfl,by kernel_rfl,(fun φ w F=>⟨#[.int .u8 0,.int .u8 0,.int .u8 0,.int .u8 0,.int .u8 0,.int .u8 0,.int .u8 0,.int .u8 0,.int .u8 0,.int .u8 0,.int .u8 0,.int .u8 0,.int .u8 0,.int .u8 0,.int .u8 0,.int .u8 0,.int .u8 0,.int .u8 0,.int .u8 0,.int .u8 0,.int .u8 0,.int .u8 0,.int .u8 0,.int .u8 0],rfl,csims_const (φ:=φ) (w:=w) (F:=F) [.int .u8 0,.int .u8 0,.int .u8 0,.int .u8 0,.int .u8 0,.int .u8 0,.int .u8 0,.int .u8 0,.int .u8 0,.int .u8 0,.int .u8 0,.int .u8 0,.int .u8 0,.int .u8 0,.int .u8 0,.int .u8 0,.int .u8 0,.int .u8 0,.int .u8 0,.int .u8 0,.int .u8 0,.int .u8 0,.int .u8 0,.int .u8 0]⟩),rfl,nofun,nofun⟩
def ti331:TI:={ size:=2,bytes:=2,zu:=.agg [.d (.int .u8 0),.d (.int .u8 0)],zv:=.agg #[.int .u8 0,.int .u8 0],desc:=.struct #[⟨"lo",5,0,false, "", "unicode/utf8",0⟩,⟨"hi",5,1,false, "", "unicode/utf8",1⟩],offs:=[(0,1),(1,1)] }
theorem tf331:TabFact Tryz.prog 331 ti331:=⟨by kernel_rfl,by kernel_rfl,(fun φ w F=>⟨#[.int .u8 0,.int .u8 0],rfl,csims_const (φ:=φ) (w:=w) (F:=F) [.int .u8 0,.int .u8 0]⟩),rfl,(fun fs h=>by cases h; kernel_rfl),(fun fs h=>by cases h; kernel_rfl)⟩
def ti332:TI:={ size:=32,bytes:=32,zu:=.agg [.d (.int .u8 0),.d (.int .u8 0),.d (.int .u8 0),.d (.int .u8 0),.d (.int .u8 0),.d (.int .u8 0),.d (.int .u8 0),.d (.int .u8 0),.d (.int .u8 0),.d (.int .u8 0),.d (.int .u8 0),.d (.int .u8 0),.d (.int .u8 0),.d (.int .u8 0),.d (.int .u8 0),.d (.int .u8 0),.d (.int .u8 0),.d (.int .u8 0),.d (.int .u8 0),.d (.int .u8 0),.d (.int .u8 0),.d (.int .u8 0),.d (.int .u8 0),.d (.int .u8 0),.d (.int .u8 0),.d (.int .u8 0),.d (.int .u8 0),.d (.int .u8 0),.d (.int .u8 0),.d (.int .u8 0),.d (.int .u8 0),.d (.int .u8 0)],zv:=.agg #[.int .u8 0,.int .u8 0,.int .u8 0,.int .u8 0,.int .u8 0,.int .u8 0,.int .u8 0,.int .u8 0,.int .u8 0,.int .u8 0,.int .u8 0,.int .u8 0,.int .u8 0,.int .u8 0,.int .u8 0,.int .u8 0,.int .u8 0,.int .u8 0,.int .u8 0,.int .u8 0,.int .u8 0,.int .u8 0,.int .u8 0,.int .u8 0,.int .u8 0,.int .u8 0,.int .u8 0,.int .u8 0,.int .u8 0,.int .u8 0,.int .u8 0,.int .u8 0],desc:=.array 16 331,offs:=[] }
theorem tf332:TabFact Tryz.prog 332 ti332:=⟨by kernel_rfl,by kernel_rfl,(fun φ w F=>⟨#[.int .u8 0,.int .u8 0,.int .u8 0,.int .u8 0,.int .u8 0,.int .u8 0,.int .u8 0,.int .u8 0,.int .u8 0,.int .u8 0,.int .u8 0,.int .u8 0,.int .u8 0,.int .u8 0,.int .u8 0,.int .u8 0,.int .u8 0,.int .u8 0,.int .u8 0,.int .u8 0,.int .u8 0,.int .u8 0,.int .u8 0,.int .u8 0,.int .u8 0,.int .u8 0,.int .u8 0,.int .u8 0,.int .u8 0,.int .u8 0,.int .u8 0,.int .u8 0],rfl,csims_const (φ:=φ) (w:=w) (F:=F) [.int .u8 0,.int .u8 0,.int .u8 0,.int .u8 0,.int .u8 0,.int .u8 0,.int .u8 0,.int .u8 0,.int .u8 0,.int .u8 0,.int .u8 0,.int .u8 0,.int .u8 0,.int .u8 0,.int .u8 0,.int .u8 0,.int .u8 0,.int .u8 0,.int .u8 0,.int .u8 0,.int .u8 0,.int .u8 0,.int .u8 0,.int .u8 0,.int .u8 0,.int .u8 0,.int .u8 0,.int .u8 0,.int .u8 0,.int .u8 0,.int .u8 0,.int .u8 0]⟩),rfl,nofun,nofun⟩
def ti335:TI:={ size:=20,bytes:=160,zu:=.agg [.d (.int .u64 0),.d (.int .u64 0),.d (.int .u64 0),.d (.int .u64 0),.d (.int .u64 0),.d (.int .u64 0),.d (.int .u64 0),.d (.int .u64 0),.d (.int .u64 0),.d (.int .u64 0),.d (.int .u64 0),.d (.int .u64 0),.d (.int .u64 0),.d (.int .u64 0),.d (.int .u64 0),.d (.int .u64 0),.d (.int .u64 0),.d (.int .u64 0),.d (.int .u64 0),.d (.int .u64 0)],zv:=.agg #[.int .u64 0,.int .u64 0,.int .u64 0,.int .u64 0,.int .u64 0,.int .u64 0,.int .u64 0,.int .u64 0,.int .u64 0,.int .u64 0,.int .u64 0,.int .u64 0,.int .u64 0,.int .u64 0,.int .u64 0,.int .u64 0,.int .u64 0,.int .u64 0,.int .u64 0,.int .u64 0],desc:=.array 20 255,offs:=[] }
theorem tf335:TabFact Tryz.prog 335 ti335:=⟨by kernel_rfl,by kernel_rfl,(fun φ w F=>⟨#[.int .u64 0,.int .u64 0,.int .u64 0,.int .u64 0,.int .u64 0,.int .u64 0,.int .u64 0,.int .u64 0,.int .u64 0,.int .u64 0,.int .u64 0,.int .u64 0,.int .u64 0,.int .u64 0,.int .u64 0,.int .u64 0,.int .u64 0,.int .u64 0,.int .u64 0,.int .u64 0],rfl,csims_const (φ:=φ) (w:=w) (F:=F) [.int .u64 0,.int .u64 0,.int .u64 0,.int .u64 0,.int .u64 0,.int .u64 0,.int .u64 0,.int .u64 0,.int .u64 0,.int .u64 0,.int .u64 0,.int .u64 0,.int .u64 0,.int .u64 0,.int .u64 0,.int .u64 0,.int .u64 0,.int .u64 0,.int .u64 0,.int .u64 0]⟩),rfl,nofun,nofun⟩
def ti338:TI:={ size:=32,bytes:=32,zu:=.agg [.d (.int .u8 0),.d (.int .u8 0),.d (.int .u8 0),.d (.int .u8 0),.d (.int .u8 0),.d (.int .u8 0),.d (.int .u8 0),.d (.int .u8 0),.d (.int .u8 0),.d (.int .u8 0),.d (.int .u8 0),.d (.int .u8 0),.d (.int .u8 0),.d (.int .u8 0),.d (.int .u8 0),.d (.int .u8 0),.d (.int .u8 0),.d (.int .u8 0),.d (.int .u8 0),.d (.int .u8 0),.d (.int .u8 0),.d (.int .u8 0),.d (.int .u8 0),.d (.int .u8 0),.d (.int .u8 0),.d (.int .u8 0),.d (.int .u8 0),.d (.int .u8 0),.d (.int .u8 0),.d (.int .u8 0),.d (.int .u8 0),.d (.int .u8 0)],zv:=.agg #[.int .u8 0,.int .u8 0,.int .u8 0,.int .u8 0,.int .u8 0,.int .u8 0,.int .u8 0,.int .u8 0,.int .u8 0,.int .u8 0,.int .u8 0,.int .u8 0,.int .u8 0,.int .u8 0,.int .u8 0,.int .u8 0,.int .u8 0,.int .u8 0,.int .u8 0,.int .u8 0,.int .u8 0,.int .u8 0,.int .u8 0,.int .u8 0,.int .u8 0,.int .u8 0,.int .u8 0,.int .u8 0,.int .u8 0,.int .u8 0,.int .u8 0,.int .u8 0],desc:=.array 32 5,offs:=[] }
theorem tf338:TabFact Tryz.prog 338 ti338:=⟨by kernel_rfl,by kernel_rfl,(fun φ w F=>⟨#[.int .u8 0,.int .u8 0,.int .u8 0,.int .u8 0,.int .u8 0,.int .u8 0,.int .u8 0,.int .u8 0,.int .u8 0,.int .u8 0,.int .u8 0,.int .u8 0,.int .u8 0,.int .u8 0,.int .u8 0,.int .u8 0,.int .u8 0,.int .u8 0,.int .u8 0,.int .u8 0,.int .u8 0,.int .u8 0,.int .u8 0,.int .u8 0,.int .u8 0,.int .u8 0,.int .u8 0,.int .u8 0,.int .u8 0,.int .u8 0,.int .u8 0,.int .u8 0],rfl,csims_const (φ:=φ) (w:=w) (F:=F) [.int .u8 0,.int .u8 0,.int .u8 0,.int .u8 0,.int .u8 0,.int .u8 0,.int .u8 0,.int .u8 0,.int .u8 0,.int .u8 0,.int .u8 0,.int .u8 0,.int .u8 0,.int .u8 0,.int .u8 0,.int .u8 0,.int .u8 0,.int .u8 0,.int .u8 0,.int .u8 0,.int .u8 0,.int .u8 0,.int .u8 0,.int .u8 0,.int .u8 0,.int .u8 0,.int .u8 0,.int .u8 0,.int .u8 0,.int .u8 0,.int .u8 0,.int .u8 0]⟩),rfl,nofun,nofun⟩
def ty:Tab:=fun t=>match t with
 | 2=>some ti2
 | 3=>some ti3
 | 4=>some ti4
 | 5=>some ti5
 | 9=>some ti9
 | 21=>some ti21
 | 22=>some ti22
 | 23=>some ti23
 | 25=>some ti25
 | 26=>some ti26
 | 28=>some ti28
 | 30=>some ti30
 | 33=>some ti33
 | 37=>some ti37
 | 38=>some ti38
 | 44=>some ti44
 | 46=>some ti46
 | 48=>some ti48
 | 49=>some ti49
 | 61=>some ti61
 | 65=>some ti65
 | 76=>some ti76
 | 78=>some ti78
 | 80=>some ti80
 | 84=>some ti84
 | 91=>some ti91
 | 92=>some ti92
 | 94=>some ti94
 | 99=>some ti99
 | 110=>some ti110
 | 113=>some ti113
 | 121=>some ti121
 | 122=>some ti122
 | 126=>some ti126
 | 128=>some ti128
 | 132=>some ti132
 | 133=>some ti133
 | 144=>some ti144
 | 148=>some ti148
 | 153=>some ti153
 | 154=>some ti154
 | 156=>some ti156
 | 162=>some ti162
 | 166=>some ti166
 | 167=>some ti167
 | 168=>some ti168
 | 169=>some ti169
 | 171=>some ti171
 | 173=>some ti173
 | 180=>some ti180
 | 185=>some ti185
 | 188=>some ti188
 | 193=>some ti193
 | 199=>some ti199
 | 202=>some ti202
 | 208=>some ti208
 | 209=>some ti209
 | 211=>some ti211
 | 215=>some ti215
 | 216=>some ti216
 | 218=>some ti218
 | 219=>some ti219
 | 221=>some ti221
 | 225=>some ti225
 | 228=>some ti228
 | 229=>some ti229
 | 231=>some ti231
 | 238=>some ti238
 | 242=>some ti242
 | 255=>some ti255
 | 269=>some ti269
 | 270=>some ti270
 | 272=>some ti272
 | 300=>some ti300
 | 304=>some ti304
 | 305=>some ti305
 | 308=>some ti308
 | 317=>some ti317
 | 319=>some ti319
 | 320=>some ti320
 | 331=>some ti331
 | 332=>some ti332
 | 335=>some ti335
 | 338=>some ti338
 | _=>none
theorem ty_ok:TabOk Tryz.prog ty:=by
 intro t ti h
 unfold ty at h
 split at h
 ·cases h; exact tf2
 ·cases h; exact tf3
 ·cases h; exact tf4
 ·cases h; exact tf5
 ·cases h; exact tf9
 ·cases h; exact tf21
 ·cases h; exact tf22
 ·cases h; exact tf23
 ·cases h; exact tf25
 ·cases h; exact tf26
 ·cases h; exact tf28
 ·cases h; exact tf30
 ·cases h; exact tf33
 ·cases h; exact tf37
 ·cases h; exact tf38
 ·cases h; exact tf44
 ·cases h; exact tf46
 ·cases h; exact tf48
 ·cases h; exact tf49
 ·cases h; exact tf61
 ·cases h; exact tf65
 ·cases h; exact tf76
 ·cases h; exact tf78
 ·cases h; exact tf80
 ·cases h; exact tf84
 ·cases h; exact tf91
 ·cases h; exact tf92
 ·cases h; exact tf94
 ·cases h; exact tf99
 ·cases h; exact tf110
 ·cases h; exact tf113
 ·cases h; exact tf121
 ·cases h; exact tf122
 ·cases h; exact tf126
 ·cases h; exact tf128
 ·cases h; exact tf132
 ·cases h; exact tf133
 ·cases h; exact tf144
 ·cases h; exact tf148
 ·cases h; exact tf153
 ·cases h; exact tf154
 ·cases h; exact tf156
 ·cases h; exact tf162
 ·cases h; exact tf166
 ·cases h; exact tf167
 ·cases h; exact tf168
 ·cases h; exact tf169
 ·cases h; exact tf171
 ·cases h; exact tf173
 ·cases h; exact tf180
 ·cases h; exact tf185
 ·cases h; exact tf188
 ·cases h; exact tf193
 ·cases h; exact tf199
 ·cases h; exact tf202
 ·cases h; exact tf208
 ·cases h; exact tf209
 ·cases h; exact tf211
 ·cases h; exact tf215
 ·cases h; exact tf216
 ·cases h; exact tf218
 ·cases h; exact tf219
 ·cases h; exact tf221
 ·cases h; exact tf225
 ·cases h; exact tf228
 ·cases h; exact tf229
 ·cases h; exact tf231
 ·cases h; exact tf238
 ·cases h; exact tf242
 ·cases h; exact tf255
 ·cases h; exact tf269
 ·cases h; exact tf270
 ·cases h; exact tf272
 ·cases h; exact tf300
 ·cases h; exact tf304
 ·cases h; exact tf305
 ·cases h; exact tf308
 ·cases h; exact tf317
 ·cases h; exact tf319
 ·cases h; exact tf320
 ·cases h; exact tf331
 ·cases h; exact tf332
 ·cases h; exact tf335
 ·cases h; exact tf338
 ·cases h
def eqn:TypeId->Option Nat:=fun t=>match t with
 | 28=>some 5
 | 46=>some 3
 | 61=>some 3
 | 65=>some 2
 | 99=>some 4
 | 153=>some 2
 | 218=>some 2
 | 272=>some 2
 | 331=>some 2
 | 44=>some 2
 | 132=>some 4
 | 162=>some 8
 | _=>none
theorem ef28:intFields Tryz.prog 28 5:=by
 refine .inl ⟨#[⟨"Ship",3,0,false, "", "",0⟩,⟨"Phase",3,1,false, "", "",8⟩,⟨"Sym",3,2,false, "", "",16⟩,⟨"X",3,3,false, "", "",24⟩,⟨"Y",3,4,false, "", "",32⟩],by kernel_rfl,by kernel_rfl,by kernel_rfl,rfl,fun i f h=>?_⟩
 match i,h with
 | 0,h=>cases h; exact⟨by decide,rfl,.i64,by kernel_rfl⟩
 | 1,h=>cases h; exact⟨by decide,rfl,.i64,by kernel_rfl⟩
 | 2,h=>cases h; exact⟨by decide,rfl,.i64,by kernel_rfl⟩
 | 3,h=>cases h; exact⟨by decide,rfl,.i64,by kernel_rfl⟩
 | 4,h=>cases h; exact⟨by decide,rfl,.i64,by kernel_rfl⟩
 | i+5,h=>simp at h
theorem ef46:intFields Tryz.prog 46 3:=by
 refine .inl ⟨#[⟨"Period",3,0,false, "", "",0⟩,⟨"DX",3,1,false, "", "",8⟩,⟨"DY",3,2,false, "", "",16⟩],by kernel_rfl,by kernel_rfl,by kernel_rfl,rfl,fun i f h=>?_⟩
 match i,h with
 | 0,h=>cases h; exact⟨by decide,rfl,.i64,by kernel_rfl⟩
 | 1,h=>cases h; exact⟨by decide,rfl,.i64,by kernel_rfl⟩
 | 2,h=>cases h; exact⟨by decide,rfl,.i64,by kernel_rfl⟩
 | i+3,h=>simp at h
theorem ef61:intFields Tryz.prog 61 3:=by
 refine .inl ⟨#[⟨"X",3,0,false, "", "",0⟩,⟨"Y",3,1,false, "", "",8⟩,⟨"S",3,2,false, "", "",16⟩],by kernel_rfl,by kernel_rfl,by kernel_rfl,rfl,fun i f h=>?_⟩
 match i,h with
 | 0,h=>cases h; exact⟨by decide,rfl,.i64,by kernel_rfl⟩
 | 1,h=>cases h; exact⟨by decide,rfl,.i64,by kernel_rfl⟩
 | 2,h=>cases h; exact⟨by decide,rfl,.i64,by kernel_rfl⟩
 | i+3,h=>simp at h
theorem ef65:intFields Tryz.prog 65 2:=by
 refine .inl ⟨#[⟨"X",3,0,false, "", "",0⟩,⟨"Y",3,1,false, "", "",8⟩],by kernel_rfl,by kernel_rfl,by kernel_rfl,rfl,fun i f h=>?_⟩
 match i,h with
 | 0,h=>cases h; exact⟨by decide,rfl,.i64,by kernel_rfl⟩
 | 1,h=>cases h; exact⟨by decide,rfl,.i64,by kernel_rfl⟩
 | i+2,h=>simp at h
theorem ef99:intFields Tryz.prog 99 4:=by
 refine .inl ⟨#[⟨"X",3,0,false, "", "",0⟩,⟨"Y",3,1,false, "", "",8⟩,⟨"W",3,2,false, "", "",16⟩,⟨"H",3,3,false, "", "",24⟩],by kernel_rfl,by kernel_rfl,by kernel_rfl,rfl,fun i f h=>?_⟩
 match i,h with
 | 0,h=>cases h; exact⟨by decide,rfl,.i64,by kernel_rfl⟩
 | 1,h=>cases h; exact⟨by decide,rfl,.i64,by kernel_rfl⟩
 | 2,h=>cases h; exact⟨by decide,rfl,.i64,by kernel_rfl⟩
 | 3,h=>cases h; exact⟨by decide,rfl,.i64,by kernel_rfl⟩
 | i+4,h=>simp at h
theorem ef153:intFields Tryz.prog 153 2:=by
 refine .inl ⟨#[⟨"ones",3,0,false, "", "cellular/totaltree",0⟩,⟨"centre",3,1,false, "", "cellular/totaltree",8⟩],by kernel_rfl,by kernel_rfl,by kernel_rfl,rfl,fun i f h=>?_⟩
 match i,h with
 | 0,h=>cases h; exact⟨by decide,rfl,.i64,by kernel_rfl⟩
 | 1,h=>cases h; exact⟨by decide,rfl,.i64,by kernel_rfl⟩
 | i+2,h=>simp at h
theorem ef218:intFields Tryz.prog 218 2:=by
 refine .inl ⟨#[⟨"at",3,0,false, "", "cellular/totaltree",0⟩,⟨"s",3,1,false, "", "cellular/totaltree",8⟩],by kernel_rfl,by kernel_rfl,by kernel_rfl,rfl,fun i f h=>?_⟩
 match i,h with
 | 0,h=>cases h; exact⟨by decide,rfl,.i64,by kernel_rfl⟩
 | 1,h=>cases h; exact⟨by decide,rfl,.i64,by kernel_rfl⟩
 | i+2,h=>simp at h
theorem ef272:intFields Tryz.prog 272 2:=by
 refine .inl ⟨#[⟨"start",3,0,false, "", "strings",0⟩,⟨"end",3,1,false, "", "strings",8⟩],by kernel_rfl,by kernel_rfl,by kernel_rfl,rfl,fun i f h=>?_⟩
 match i,h with
 | 0,h=>cases h; exact⟨by decide,rfl,.i64,by kernel_rfl⟩
 | 1,h=>cases h; exact⟨by decide,rfl,.i64,by kernel_rfl⟩
 | i+2,h=>simp at h
theorem ef331:intFields Tryz.prog 331 2:=by
 refine .inl ⟨#[⟨"lo",5,0,false, "", "unicode/utf8",0⟩,⟨"hi",5,1,false, "", "unicode/utf8",1⟩],by kernel_rfl,by kernel_rfl,by kernel_rfl,rfl,fun i f h=>?_⟩
 match i,h with
 | 0,h=>cases h; exact⟨by decide,rfl,.u8,by kernel_rfl⟩
 | 1,h=>cases h; exact⟨by decide,rfl,.u8,by kernel_rfl⟩
 | i+2,h=>simp at h
theorem ef44:intFields Tryz.prog 44 2:=by
 obtain⟨i,hi⟩:=Option.isSome_iff_exists.1 (show (Tryz.prog.info? 5).isSome=true by kernel_rfl)
 exact .inr ⟨5,i,.u8,by kernel_rfl,hi,by kernel_rfl,by kernel_rfl,by kernel_rfl⟩
theorem ef132:intFields Tryz.prog 132 4:=by
 obtain⟨i,hi⟩:=Option.isSome_iff_exists.1 (show (Tryz.prog.info? 3).isSome=true by kernel_rfl)
 exact .inr ⟨3,i,.i64,by kernel_rfl,hi,by kernel_rfl,by kernel_rfl,by kernel_rfl⟩
theorem ef162:intFields Tryz.prog 162 8:=by
 obtain⟨i,hi⟩:=Option.isSome_iff_exists.1 (show (Tryz.prog.info? 3).isSome=true by kernel_rfl)
 exact .inr ⟨3,i,.i64,by kernel_rfl,hi,by kernel_rfl,by kernel_rfl,by kernel_rfl⟩
theorem eqn_ok:∀ t n,eqn t=some n->intFields Tryz.prog t n:=by
 intro t n h
 unfold eqn at h
 split at h
 ·cases h; exact ef28
 ·cases h; exact ef46
 ·cases h; exact ef61
 ·cases h; exact ef65
 ·cases h; exact ef99
 ·cases h; exact ef153
 ·cases h; exact ef218
 ·cases h; exact ef272
 ·cases h; exact ef331
 ·cases h; exact ef44
 ·cases h; exact ef132
 ·cases h; exact ef162
 ·cases h
def key:TypeId->Option KK:=fun t=>match t with
 | 9=>some .str
 | 65=>some (.ints 2)
 | 211=>some (.ints 3)
 | 218=>some (.ints 2)
 | _=>none
theorem kf9:Maps.Keyed Tryz.prog 9/\∀ k:Key,k.fits .str=true->∃ l,keyOf Tryz.prog 9 k.val=some l:=key_str (by kernel_rfl)
theorem kf65:Maps.Keyed Tryz.prog 65/\∀ k:Key,k.fits (.ints 2)=true->∃ l,keyOf Tryz.prog 65 k.val=some l :=
 key_ints (fs:=#[⟨"X",3,0,false, "", "",0⟩,⟨"Y",3,1,false, "", "",8⟩]) (by kernel_rfl) (by kernel_rfl) (by kernel_rfl) (by kernel_rfl) (by kernel_rfl) (by kernel_rfl) (by
  intro i f h
  match i,h with
  | 0,h=>cases h; exact⟨by decide,rfl,by kernel_rfl,by kernel_rfl⟩
  | 1,h=>cases h; exact⟨by decide,rfl,by kernel_rfl,by kernel_rfl⟩
  | i+2,h=>simp at h)
theorem kf211:Maps.Keyed Tryz.prog 211/\∀ k:Key,k.fits (.ints 3)=true->∃ l,keyOf Tryz.prog 211 k.val=some l:=key_nest (d:=3) (fs:=#[⟨"at",3,0,false, "", "cellular/totaltree",0⟩,⟨"s",153,1,false, "", "cellular/totaltree",8⟩]) (by kernel_rfl) (by kernel_rfl) (by kernel_rfl) (by kernel_rfl) (by kernel_rfl) (by kernel_rfl) (.inr ⟨#[⟨"at",3,0,false, "", "cellular/totaltree",0⟩,⟨"s",153,1,false, "", "cellular/totaltree",8⟩],by kernel_rfl,by kernel_rfl,fun i f h=>match i,h with | 0,h=>by cases h; exact⟨by decide,1,(.inl ⟨by kernel_rfl,rfl⟩),by kernel_rfl,by decide⟩ | 1,h=>by cases h; exact⟨by decide,2,(.inr ⟨#[⟨"ones",3,0,false, "", "cellular/totaltree",0⟩,⟨"centre",3,1,false, "", "cellular/totaltree",8⟩],by kernel_rfl,by kernel_rfl,fun i f h=>match i,h with | 0,h=>by cases h; exact⟨by decide,1,(.inl ⟨by kernel_rfl,rfl⟩),by kernel_rfl,by decide⟩ | 1,h=>by cases h; exact⟨by decide,1,(.inl ⟨by kernel_rfl,rfl⟩),by kernel_rfl,by decide⟩ | i+2,h=>by simp at h⟩),by kernel_rfl,by decide⟩ | i+2,h=>by simp at h⟩) (by kernel_rfl)
theorem kf218:Maps.Keyed Tryz.prog 218/\∀ k:Key,k.fits (.ints 2)=true->∃ l,keyOf Tryz.prog 218 k.val=some l :=
 key_ints (fs:=#[⟨"at",3,0,false, "", "cellular/totaltree",0⟩,⟨"s",3,1,false, "", "cellular/totaltree",8⟩]) (by kernel_rfl) (by kernel_rfl) (by kernel_rfl) (by kernel_rfl) (by kernel_rfl) (by kernel_rfl) (by
  intro i f h
  match i,h with
  | 0,h=>cases h; exact⟨by decide,rfl,by kernel_rfl,by kernel_rfl⟩
  | 1,h=>cases h; exact⟨by decide,rfl,by kernel_rfl,by kernel_rfl⟩
  | i+2,h=>simp at h)
theorem key_ok:∀ t kk,key t=some kk->Maps.Keyed Tryz.prog t/\∀ k:Key,k.fits kk=true->∃ l,keyOf Tryz.prog t k.val=some l:=by
 intro t kk h
 unfold key at h
 split at h
 ·cases h; exact kf9
 ·cases h; exact kf65
 ·cases h; exact kf211
 ·cases h; exact kf218
 ·cases h
def tb:Tb:={ ty:=ty,eqn:=eqn,key:=key }
theorem aP:TbOk Tryz.prog tb:=⟨ty_ok,eqn_ok,key_ok,(fun _ _ _ h=>by cases h),(fun _ _ _ _ _ _ _ _ _ h=>by cases h)⟩
theorem mixed:Tryz.prog.follows .mixedOrders=true:=by kernel_rfl
end Go.Proofs.YtffohfmfehjbmaaGreatDoor
