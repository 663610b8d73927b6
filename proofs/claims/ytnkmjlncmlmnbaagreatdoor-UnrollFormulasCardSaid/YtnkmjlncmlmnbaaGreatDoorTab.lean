/- The table of the types of this seat, made by program (gen_tab.py), and that it holds. -/
import Derived.Test.YtnkmjlncmlmnbaaGreatDoorRows
import Derived.Test.YtnkmjlncmlmnbaaGreatDoorAmO
namespace Go.Proofs.YtnkmjlncmlmnbaaGreatDoor
open Go.AM Go.Proofs
def ti2:TI:={ size:=1,bytes:=8,zu:=.one (.d (.int .i64 0)),zv:=.int .i64 0,desc:=.int .i64,offs:=[] }
theorem tf2:TabFact Tryz.prog 2 ti2:=⟨by kernel_rfl,by kernel_rfl,(fun φ w F=>csim_const (φ:=φ) (w:=w) (F:=F) (.int .i64 0)),rfl,nofun,nofun⟩
def ti3:TI:={ size:=1,bytes:=8,zu:=.one (.d (.int .i64 0)),zv:=.int .i64 0,desc:=.int .i64,offs:=[] }
theorem tf3:TabFact Tryz.prog 3 ti3:=⟨by kernel_rfl,by kernel_rfl,(fun φ w F=>csim_const (φ:=φ) (w:=w) (F:=F) (.int .i64 0)),rfl,nofun,nofun⟩
def ti4:TI:={ size:=1,bytes:=1,zu:=.one (.d (.bool false)),zv:=.bool false,desc:=.bool,offs:=[] }
theorem tf4:TabFact Tryz.prog 4 ti4:=⟨by kernel_rfl,by kernel_rfl,(fun φ w F=>csim_const (φ:=φ) (w:=w) (F:=F) (.bool false)),rfl,nofun,nofun⟩
def ti5:TI:={ size:=1,bytes:=1,zu:=.one (.d (.int .u8 0)),zv:=.int .u8 0,desc:=.int .u8,offs:=[] }
theorem tf5:TabFact Tryz.prog 5 ti5:=⟨by kernel_rfl,by kernel_rfl,(fun φ w F=>csim_const (φ:=φ) (w:=w) (F:=F) (.int .u8 0)),rfl,nofun,nofun⟩
def ti9:TI:={ size:=1,bytes:=16,zu:=.one (.d (.str ⟨#[]⟩)),zv:=.string ⟨#[]⟩,desc:=.string,offs:=[] }
theorem tf9:TabFact Tryz.prog 9 ti9:=⟨by kernel_rfl,by kernel_rfl,(fun φ w F=>csim_const (φ:=φ) (w:=w) (F:=F) (.string ⟨#[]⟩)),rfl,nofun,nofun⟩
def ti22:TI:={ size:=1,bytes:=24,zu:=.one (.d .nil),zv:=.slice none 0 0,desc:=.slice 70,offs:=[] }
theorem tf22:TabFact Tryz.prog 22 ti22:=⟨by kernel_rfl,by kernel_rfl,(fun φ w F=>csim_const (φ:=φ) (w:=w) (F:=F) (.slice none 0 0)),rfl,nofun,nofun⟩
def ti23:TI:={ size:=1,bytes:=24,zu:=.one (.d .nil),zv:=.slice none 0 0,desc:=.slice 39,offs:=[] }
theorem tf23:TabFact Tryz.prog 23 ti23:=⟨by kernel_rfl,by kernel_rfl,(fun φ w F=>csim_const (φ:=φ) (w:=w) (F:=F) (.slice none 0 0)),rfl,nofun,nofun⟩
def ti25:TI:={ size:=3,bytes:=56,zu:=.agg [.d (.int .i64 0),.d .nil,.d .nil],zv:=.agg #[.int .i64 0,.slice none 0 0,.slice none 0 0],desc:=.struct #[⟨"States",3,0,false, "", "",0⟩,⟨"Hood",22,1,false, "", "",8⟩,⟨"Nodes",23,2,false, "", "",32⟩],offs:=[(0,1),(1,1),(2,1)] }
theorem tf25:TabFact Tryz.prog 25 ti25:=⟨by kernel_rfl,by kernel_rfl,(fun φ w F=>⟨#[.int .i64 0,.slice none 0 0,.slice none 0 0],rfl,csims_const (φ:=φ) (w:=w) (F:=F) [.int .i64 0,.slice none 0 0,.slice none 0 0]⟩),rfl,(fun fs h=>by cases h; kernel_rfl),(fun fs h=>by cases h; kernel_rfl)⟩
def ti26:TI:={ size:=1,bytes:=24,zu:=.one (.d .nil),zv:=.slice none 0 0,desc:=.slice 3,offs:=[] }
theorem tf26:TabFact Tryz.prog 26 ti26:=⟨by kernel_rfl,by kernel_rfl,(fun φ w F=>csim_const (φ:=φ) (w:=w) (F:=F) (.slice none 0 0)),rfl,nofun,nofun⟩
def ti28:TI:={ size:=6,bytes:=64,zu:=.agg [.d (.int .i64 0),.d (.int .i64 0),.d (.int .i64 0),.d (.int .i64 0),.d (.int .i64 0),.d .nil],zv:=.agg #[.int .i64 0,.int .i64 0,.int .i64 0,.int .i64 0,.int .i64 0,.slice none 0 0],desc:=.struct #[⟨"W",3,0,false, "", "",0⟩,⟨"H",3,1,false, "", "",8⟩,⟨"Gens",3,2,false, "", "",16⟩,⟨"DX",3,3,false, "", "",24⟩,⟨"DY",3,4,false, "", "",32⟩,⟨"Syms",26,5,false, "", "",40⟩],offs:=[(0,1),(1,1),(2,1),(3,1),(4,1),(5,1)] }
theorem tf28:TabFact Tryz.prog 28 ti28:=⟨by kernel_rfl,by kernel_rfl,(fun φ w F=>⟨#[.int .i64 0,.int .i64 0,.int .i64 0,.int .i64 0,.int .i64 0,.slice none 0 0],rfl,csims_const (φ:=φ) (w:=w) (F:=F) [.int .i64 0,.int .i64 0,.int .i64 0,.int .i64 0,.int .i64 0,.slice none 0 0]⟩),rfl,(fun fs h=>by cases h; kernel_rfl),(fun fs h=>by cases h; kernel_rfl)⟩
def ti31:TI:={ size:=1,bytes:=24,zu:=.one (.d .nil),zv:=.slice none 0 0,desc:=.slice 26,offs:=[] }
theorem tf31:TabFact Tryz.prog 31 ti31:=⟨by kernel_rfl,by kernel_rfl,(fun φ w F=>csim_const (φ:=φ) (w:=w) (F:=F) (.slice none 0 0)),rfl,nofun,nofun⟩
def ti33:TI:={ size:=2,bytes:=32,zu:=.agg [.d (.int .i64 0),.d .nil],zv:=.agg #[.int .i64 0,.slice none 0 0],desc:=.struct #[⟨"Vars",3,0,false, "", "",0⟩,⟨"Clauses",31,1,false, "", "",8⟩],offs:=[(0,1),(1,1)] }
theorem tf33:TabFact Tryz.prog 33 ti33:=⟨by kernel_rfl,by kernel_rfl,(fun φ w F=>⟨#[.int .i64 0,.slice none 0 0],rfl,csims_const (φ:=φ) (w:=w) (F:=F) [.int .i64 0,.slice none 0 0]⟩),rfl,(fun fs h=>by cases h; kernel_rfl),(fun fs h=>by cases h; kernel_rfl)⟩
def ti34:TI:={ size:=1,bytes:=8,zu:=.one (.d (.int .i64 0)),zv:=.int .i64 0,desc:=.int .i64,offs:=[] }
theorem tf34:TabFact Tryz.prog 34 ti34:=⟨by kernel_rfl,by kernel_rfl,(fun φ w F=>csim_const (φ:=φ) (w:=w) (F:=F) (.int .i64 0)),rfl,nofun,nofun⟩
def ti39:TI:={ size:=2,bytes:=32,zu:=.agg [.d (.int .i64 0),.d .nil],zv:=.agg #[.int .i64 0,.slice none 0 0],desc:=.struct #[⟨"Level",3,0,false, "", "",0⟩,⟨"Next",26,1,false, "", "",8⟩],offs:=[(0,1),(1,1)] }
theorem tf39:TabFact Tryz.prog 39 ti39:=⟨by kernel_rfl,by kernel_rfl,(fun φ w F=>⟨#[.int .i64 0,.slice none 0 0],rfl,csims_const (φ:=φ) (w:=w) (F:=F) [.int .i64 0,.slice none 0 0]⟩),rfl,(fun fs h=>by cases h; kernel_rfl),(fun fs h=>by cases h; kernel_rfl)⟩
def ti43:TI:={ size:=4,bytes:=48,zu:=.agg [.d (.int .i64 0),.d (.int .i64 0),.d (.int .i64 0),.d .nil],zv:=.agg #[.int .i64 0,.int .i64 0,.int .i64 0,.slice none 0 0],desc:=.struct #[⟨"W",3,0,false, "", "",0⟩,⟨"H",3,1,false, "", "",8⟩,⟨"Edge",3,2,false, "", "",16⟩,⟨"Cells",26,3,false, "", "",24⟩],offs:=[(0,1),(1,1),(2,1),(3,1)] }
theorem tf43:TabFact Tryz.prog 43 ti43:=⟨by kernel_rfl,by kernel_rfl,(fun φ w F=>⟨#[.int .i64 0,.int .i64 0,.int .i64 0,.slice none 0 0],rfl,csims_const (φ:=φ) (w:=w) (F:=F) [.int .i64 0,.int .i64 0,.int .i64 0,.slice none 0 0]⟩),rfl,(fun fs h=>by cases h; kernel_rfl),(fun fs h=>by cases h; kernel_rfl)⟩
def ti44:TI:={ size:=1,bytes:=24,zu:=.one (.d .nil),zv:=.slice none 0 0,desc:=.slice 4,offs:=[] }
theorem tf44:TabFact Tryz.prog 44 ti44:=⟨by kernel_rfl,by kernel_rfl,(fun φ w F=>csim_const (φ:=φ) (w:=w) (F:=F) (.slice none 0 0)),rfl,nofun,nofun⟩
def ti48:TI:={ size:=3,bytes:=24,zu:=.agg [.d (.int .i64 0),.d (.int .i64 0),.d (.int .i64 0)],zv:=.agg #[.int .i64 0,.int .i64 0,.int .i64 0],desc:=.struct #[⟨"X",3,0,false, "", "",0⟩,⟨"Y",3,1,false, "", "",8⟩,⟨"S",3,2,false, "", "",16⟩],offs:=[(0,1),(1,1),(2,1)] }
theorem tf48:TabFact Tryz.prog 48 ti48:=⟨by kernel_rfl,by kernel_rfl,(fun φ w F=>⟨#[.int .i64 0,.int .i64 0,.int .i64 0],rfl,csims_const (φ:=φ) (w:=w) (F:=F) [.int .i64 0,.int .i64 0,.int .i64 0]⟩),rfl,(fun fs h=>by cases h; kernel_rfl),(fun fs h=>by cases h; kernel_rfl)⟩
def ti49:TI:={ size:=1,bytes:=24,zu:=.one (.d .nil),zv:=.slice none 0 0,desc:=.slice 48,offs:=[] }
theorem tf49:TabFact Tryz.prog 49 ti49:=⟨by kernel_rfl,by kernel_rfl,(fun φ w F=>csim_const (φ:=φ) (w:=w) (F:=F) (.slice none 0 0)),rfl,nofun,nofun⟩
def ti50:TI:={ size:=1,bytes:=24,zu:=.one (.d .nil),zv:=.slice none 0 0,desc:=.slice 48,offs:=[] }
theorem tf50:TabFact Tryz.prog 50 ti50:=⟨by kernel_rfl,by kernel_rfl,(fun φ w F=>csim_const (φ:=φ) (w:=w) (F:=F) (.slice none 0 0)),rfl,nofun,nofun⟩
def ti55:TI:={ size:=1,bytes:=8,zu:=.one (.top),zv:=.pointer none,desc:=.pointer 66,offs:=[] }
theorem tf55:TabFact Tryz.prog 55 ti55:=⟨by kernel_rfl,by kernel_rfl,(fun φ w F=>csim_const (φ:=φ) (w:=w) (F:=F) (.pointer none)),rfl,nofun,nofun⟩
def ti59:TI:={ size:=4,bytes:=32,zu:=.agg [.d (.int .i64 0),.d (.int .i64 0),.d (.int .i64 0),.d (.int .i64 0)],zv:=.agg #[.int .i64 0,.int .i64 0,.int .i64 0,.int .i64 0],desc:=.struct #[⟨"X",3,0,false, "", "",0⟩,⟨"Y",3,1,false, "", "",8⟩,⟨"W",3,2,false, "", "",16⟩,⟨"H",3,3,false, "", "",24⟩],offs:=[(0,1),(1,1),(2,1),(3,1)] }
theorem tf59:TabFact Tryz.prog 59 ti59:=⟨by kernel_rfl,by kernel_rfl,(fun φ w F=>⟨#[.int .i64 0,.int .i64 0,.int .i64 0,.int .i64 0],rfl,csims_const (φ:=φ) (w:=w) (F:=F) [.int .i64 0,.int .i64 0,.int .i64 0,.int .i64 0]⟩),rfl,(fun fs h=>by cases h; kernel_rfl),(fun fs h=>by cases h; kernel_rfl)⟩
def ti60:TI:={ size:=1,bytes:=24,zu:=.one (.d .nil),zv:=.slice none 0 0,desc:=.slice 68,offs:=[] }
theorem tf60:TabFact Tryz.prog 60 ti60:=⟨by kernel_rfl,by kernel_rfl,(fun φ w F=>csim_const (φ:=φ) (w:=w) (F:=F) (.slice none 0 0)),rfl,nofun,nofun⟩
def ti62:TI:={ size:=5,bytes:=56,zu:=.agg [.d (.int .i64 0),.d (.int .i64 0),.d (.int .i64 0),.d (.int .i64 0),.d .nil],zv:=.agg #[.int .i64 0,.int .i64 0,.int .i64 0,.int .i64 0,.slice none 0 0],desc:=.struct #[⟨"box",59,0,false, "", "cellular/unroll",0⟩,⟨"values",60,4,false, "", "cellular/unroll",32⟩],offs:=[(0,4),(4,1)] }
theorem tf62:TabFact Tryz.prog 62 ti62:=⟨by kernel_rfl,by kernel_rfl,(fun φ w F=>⟨#[.int .i64 0,.int .i64 0,.int .i64 0,.int .i64 0,.slice none 0 0],rfl,csims_const (φ:=φ) (w:=w) (F:=F) [.int .i64 0,.int .i64 0,.int .i64 0,.int .i64 0,.slice none 0 0]⟩),rfl,(fun fs h=>by cases h; kernel_rfl),(fun fs h=>by cases h; kernel_rfl)⟩
def ti64:TI:={ size:=1,bytes:=8,zu:=.one (.nilmap),zv:=.map none,desc:=.map 9 25,offs:=[] }
theorem tf64:TabFact Tryz.prog 64 ti64:=⟨by kernel_rfl,by kernel_rfl,(fun φ w F=>csim_const (φ:=φ) (w:=w) (F:=F) (.map none)),rfl,nofun,nofun⟩
def ti66:TI:={ size:=7,bytes:=104,zu:=.agg [.d (.int .i64 0),.d .nil,.d (.int .i64 0),.d .nil,.d .nil,.d (.int .i64 0),.nilmap],zv:=.agg #[.int .i64 0,.slice none 0 0,.int .i64 0,.slice none 0 0,.slice none 0 0,.int .i64 0,.map none],desc:=.struct #[⟨"Formula",33,0,true, "", "",0⟩,⟨"rule",25,2,false, "", "cellular/unroll",32⟩,⟨"bits",3,5,false, "", "cellular/unroll",88⟩,⟨"trees",64,6,false, "", "cellular/unroll",96⟩],offs:=[(0,2),(2,3),(5,1),(6,1)] }
theorem tf66:TabFact Tryz.prog 66 ti66:=⟨by kernel_rfl,by kernel_rfl,(fun φ w F=>⟨#[.int .i64 0,.slice none 0 0,.int .i64 0,.slice none 0 0,.slice none 0 0,.int .i64 0,.map none],rfl,csims_const (φ:=φ) (w:=w) (F:=F) [.int .i64 0,.slice none 0 0,.int .i64 0,.slice none 0 0,.slice none 0 0,.int .i64 0,.map none]⟩),rfl,(fun fs h=>by cases h; kernel_rfl),(fun fs h=>by cases h; kernel_rfl)⟩
def ti68:TI:={ size:=2,bytes:=32,zu:=.agg [.d (.int .i64 0),.d .nil],zv:=.agg #[.int .i64 0,.slice none 0 0],desc:=.struct #[⟨"constant",3,0,false, "", "cellular/unroll",0⟩,⟨"vars",26,1,false, "", "cellular/unroll",8⟩],offs:=[(0,1),(1,1)] }
theorem tf68:TabFact Tryz.prog 68 ti68:=⟨by kernel_rfl,by kernel_rfl,(fun φ w F=>⟨#[.int .i64 0,.slice none 0 0],rfl,csims_const (φ:=φ) (w:=w) (F:=F) [.int .i64 0,.slice none 0 0]⟩),rfl,(fun fs h=>by cases h; kernel_rfl),(fun fs h=>by cases h; kernel_rfl)⟩
def ti70:TI:={ size:=2,bytes:=16,zu:=.agg [.d (.int .i64 0),.d (.int .i64 0)],zv:=.agg #[.int .i64 0,.int .i64 0],desc:=.struct #[⟨"X",3,0,false, "", "",0⟩,⟨"Y",3,1,false, "", "",8⟩],offs:=[(0,1),(1,1)] }
theorem tf70:TabFact Tryz.prog 70 ti70:=⟨by kernel_rfl,by kernel_rfl,(fun φ w F=>⟨#[.int .i64 0,.int .i64 0],rfl,csims_const (φ:=φ) (w:=w) (F:=F) [.int .i64 0,.int .i64 0]⟩),rfl,(fun fs h=>by cases h; kernel_rfl),(fun fs h=>by cases h; kernel_rfl)⟩
def ti78:TI:={ size:=1,bytes:=24,zu:=.one (.d .nil),zv:=.slice none 0 0,desc:=.slice 83,offs:=[] }
theorem tf78:TabFact Tryz.prog 78 ti78:=⟨by kernel_rfl,by kernel_rfl,(fun φ w F=>csim_const (φ:=φ) (w:=w) (F:=F) (.slice none 0 0)),rfl,nofun,nofun⟩
def ti83:TI:={ size:=2,bytes:=32,zu:=.agg [.d (.int .i64 0),.d .nil],zv:=.agg #[.int .i64 0,.slice none 0 0],desc:=.struct #[⟨"State",3,0,false, "", "",0⟩,⟨"Vars",26,1,false, "", "",8⟩],offs:=[(0,1),(1,1)] }
theorem tf83:TabFact Tryz.prog 83 ti83:=⟨by kernel_rfl,by kernel_rfl,(fun φ w F=>⟨#[.int .i64 0,.slice none 0 0],rfl,csims_const (φ:=φ) (w:=w) (F:=F) [.int .i64 0,.slice none 0 0]⟩),rfl,(fun fs h=>by cases h; kernel_rfl),(fun fs h=>by cases h; kernel_rfl)⟩
def ti85:TI:={ size:=5,bytes:=56,zu:=.agg [.d (.int .i64 0),.d (.int .i64 0),.d (.int .i64 0),.d (.int .i64 0),.d .nil],zv:=.agg #[.int .i64 0,.int .i64 0,.int .i64 0,.int .i64 0,.slice none 0 0],desc:=.struct #[⟨"box",59,0,false, "", "cellular/cellularref45",0⟩,⟨"of",78,4,false, "", "cellular/cellularref45",32⟩],offs:=[(0,4),(4,1)] }
theorem tf85:TabFact Tryz.prog 85 ti85:=⟨by kernel_rfl,by kernel_rfl,(fun φ w F=>⟨#[.int .i64 0,.int .i64 0,.int .i64 0,.int .i64 0,.slice none 0 0],rfl,csims_const (φ:=φ) (w:=w) (F:=F) [.int .i64 0,.int .i64 0,.int .i64 0,.int .i64 0,.slice none 0 0]⟩),rfl,(fun fs h=>by cases h; kernel_rfl),(fun fs h=>by cases h; kernel_rfl)⟩
def ti93:TI:={ size:=1,bytes:=8,zu:=.one (.top),zv:=.nilFunc,desc:=.func #[3] #[4] false,offs:=[] }
theorem tf93:TabFact Tryz.prog 93 ti93:=⟨by kernel_rfl,by kernel_rfl,(fun φ w F=>csim_const (φ:=φ) (w:=w) (F:=F) (.nilFunc)),rfl,nofun,nofun⟩
def ti97:TI:={ size:=1,bytes:=8,zu:=.one (.top),zv:=.nilFunc,desc:=.func #[48] #[4] false,offs:=[] }
theorem tf97:TabFact Tryz.prog 97 ti97:=⟨by kernel_rfl,by kernel_rfl,(fun φ w F=>csim_const (φ:=φ) (w:=w) (F:=F) (.nilFunc)),rfl,nofun,nofun⟩
def ti99:TI:={ size:=1,bytes:=8,zu:=.one (.top),zv:=.nilFunc,desc:=.func #[3] #[3] false,offs:=[] }
theorem tf99:TabFact Tryz.prog 99 ti99:=⟨by kernel_rfl,by kernel_rfl,(fun φ w F=>csim_const (φ:=φ) (w:=w) (F:=F) (.nilFunc)),rfl,nofun,nofun⟩
def ti113:TI:={ size:=1,bytes:=8,zu:=.one (.d (.int .u64 0)),zv:=.int .u64 0,desc:=.int .u64,offs:=[] }
theorem tf113:TabFact Tryz.prog 113 ti113:=⟨by kernel_rfl,by kernel_rfl,(fun φ w F=>csim_const (φ:=φ) (w:=w) (F:=F) (.int .u64 0)),rfl,nofun,nofun⟩
def ti126:TI:={ size:=1,bytes:=8,zu:=.one (.top),zv:=.nilFunc,desc:=.func #[48,48] #[3] false,offs:=[] }
theorem tf126:TabFact Tryz.prog 126 ti126:=⟨by kernel_rfl,by kernel_rfl,(fun φ w F=>csim_const (φ:=φ) (w:=w) (F:=F) (.nilFunc)),rfl,nofun,nofun⟩
def ti133:TI:={ size:=1,bytes:=8,zu:=.one (.top),zv:=.nilFunc,desc:=.func #[3,26] #[26] false,offs:=[] }
theorem tf133:TabFact Tryz.prog 133 ti133:=⟨by kernel_rfl,by kernel_rfl,(fun φ w F=>csim_const (φ:=φ) (w:=w) (F:=F) (.nilFunc)),rfl,nofun,nofun⟩
def ti136:TI:={ size:=4,bytes:=32,zu:=.agg [.d (.int .i64 0),.d (.int .i64 0),.d (.int .i64 0),.d (.int .i64 0)],zv:=.agg #[.int .i64 0,.int .i64 0,.int .i64 0,.int .i64 0],desc:=.array 4 3,offs:=[] }
theorem tf136:TabFact Tryz.prog 136 ti136:=⟨by kernel_rfl,by kernel_rfl,(fun φ w F=>⟨#[.int .i64 0,.int .i64 0,.int .i64 0,.int .i64 0],rfl,csims_const (φ:=φ) (w:=w) (F:=F) [.int .i64 0,.int .i64 0,.int .i64 0,.int .i64 0]⟩),rfl,nofun,nofun⟩
def ti137:TI:={ size:=32,bytes:=256,zu:=.agg [.d (.int .i64 0),.d (.int .i64 0),.d (.int .i64 0),.d (.int .i64 0),.d (.int .i64 0),.d (.int .i64 0),.d (.int .i64 0),.d (.int .i64 0),.d (.int .i64 0),.d (.int .i64 0),.d (.int .i64 0),.d (.int .i64 0),.d (.int .i64 0),.d (.int .i64 0),.d (.int .i64 0),.d (.int .i64 0),.d (.int .i64 0),.d (.int .i64 0),.d (.int .i64 0),.d (.int .i64 0),.d (.int .i64 0),.d (.int .i64 0),.d (.int .i64 0),.d (.int .i64 0),.d (.int .i64 0),.d (.int .i64 0),.d (.int .i64 0),.d (.int .i64 0),.d (.int .i64 0),.d (.int .i64 0),.d (.int .i64 0),.d (.int .i64 0)],zv:=.agg #[.int .i64 0,.int .i64 0,.int .i64 0,.int .i64 0,.int .i64 0,.int .i64 0,.int .i64 0,.int .i64 0,.int .i64 0,.int .i64 0,.int .i64 0,.int .i64 0,.int .i64 0,.int .i64 0,.int .i64 0,.int .i64 0,.int .i64 0,.int .i64 0,.int .i64 0,.int .i64 0,.int .i64 0,.int .i64 0,.int .i64 0,.int .i64 0,.int .i64 0,.int .i64 0,.int .i64 0,.int .i64 0,.int .i64 0,.int .i64 0,.int .i64 0,.int .i64 0],desc:=.array 8 136,offs:=[] }
theorem tf137:TabFact Tryz.prog 137 ti137:=⟨by kernel_rfl,by kernel_rfl,(fun φ w F=>⟨#[.int .i64 0,.int .i64 0,.int .i64 0,.int .i64 0,.int .i64 0,.int .i64 0,.int .i64 0,.int .i64 0,.int .i64 0,.int .i64 0,.int .i64 0,.int .i64 0,.int .i64 0,.int .i64 0,.int .i64 0,.int .i64 0,.int .i64 0,.int .i64 0,.int .i64 0,.int .i64 0,.int .i64 0,.int .i64 0,.int .i64 0,.int .i64 0,.int .i64 0,.int .i64 0,.int .i64 0,.int .i64 0,.int .i64 0,.int .i64 0,.int .i64 0,.int .i64 0],rfl,csims_const (φ:=φ) (w:=w) (F:=F) [.int .i64 0,.int .i64 0,.int .i64 0,.int .i64 0,.int .i64 0,.int .i64 0,.int .i64 0,.int .i64 0,.int .i64 0,.int .i64 0,.int .i64 0,.int .i64 0,.int .i64 0,.int .i64 0,.int .i64 0,.int .i64 0,.int .i64 0,.int .i64 0,.int .i64 0,.int .i64 0,.int .i64 0,.int .i64 0,.int .i64 0,.int .i64 0,.int .i64 0,.int .i64 0,.int .i64 0,.int .i64 0,.int .i64 0,.int .i64 0,.int .i64 0,.int .i64 0]⟩),rfl,nofun,nofun⟩
def ti138:TI:={ size:=1,bytes:=24,zu:=.one (.d .nil),zv:=.slice none 0 0,desc:=.slice 5,offs:=[] }
theorem tf138:TabFact Tryz.prog 138 ti138:=⟨by kernel_rfl,by kernel_rfl,(fun φ w F=>csim_const (φ:=φ) (w:=w) (F:=F) (.slice none 0 0)),rfl,nofun,nofun⟩
def ti147:TI:={ size:=1,bytes:=8,zu:=.one (.nilmap),zv:=.map none,desc:=.map 70 3,offs:=[] }
theorem tf147:TabFact Tryz.prog 147 ti147:=⟨by kernel_rfl,by kernel_rfl,(fun φ w F=>csim_const (φ:=φ) (w:=w) (F:=F) (.map none)),rfl,nofun,nofun⟩
def ti149:TI:={ size:=1,bytes:=8,zu:=.one (.nilmap),zv:=.map none,desc:=.map 70 4,offs:=[] }
theorem tf149:TabFact Tryz.prog 149 ti149:=⟨by kernel_rfl,by kernel_rfl,(fun φ w F=>csim_const (φ:=φ) (w:=w) (F:=F) (.map none)),rfl,nofun,nofun⟩
def ti152:TI:={ size:=8,bytes:=8,zu:=.agg [.d (.bool false),.d (.bool false),.d (.bool false),.d (.bool false),.d (.bool false),.d (.bool false),.d (.bool false),.d (.bool false)],zv:=.agg #[.bool false,.bool false,.bool false,.bool false,.bool false,.bool false,.bool false,.bool false],desc:=.array 8 4,offs:=[] }
theorem tf152:TabFact Tryz.prog 152 ti152:=⟨by kernel_rfl,by kernel_rfl,(fun φ w F=>⟨#[.bool false,.bool false,.bool false,.bool false,.bool false,.bool false,.bool false,.bool false],rfl,csims_const (φ:=φ) (w:=w) (F:=F) [.bool false,.bool false,.bool false,.bool false,.bool false,.bool false,.bool false,.bool false]⟩),rfl,nofun,nofun⟩
def ti153:TI:={ size:=1,bytes:=8,zu:=.one (.nilmap),zv:=.map none,desc:=.map 9 3,offs:=[] }
theorem tf153:TabFact Tryz.prog 153 ti153:=⟨by kernel_rfl,by kernel_rfl,(fun φ w F=>csim_const (φ:=φ) (w:=w) (F:=F) (.map none)),rfl,nofun,nofun⟩
def ti155:TI:={ size:=2,bytes:=32,zu:=.agg [.d .nil,.nilmap],zv:=.agg #[.slice none 0 0,.map none],desc:=.struct #[⟨"nodes",23,0,false, "", "cellular/reduce",0⟩,⟨"known",153,1,false, "", "cellular/reduce",24⟩],offs:=[(0,1),(1,1)] }
theorem tf155:TabFact Tryz.prog 155 ti155:=⟨by kernel_rfl,by kernel_rfl,(fun φ w F=>⟨#[.slice none 0 0,.map none],rfl,csims_const (φ:=φ) (w:=w) (F:=F) [.slice none 0 0,.map none]⟩),rfl,(fun fs h=>by cases h; kernel_rfl),(fun fs h=>by cases h; kernel_rfl)⟩
def ti165:TI:={ size:=1,bytes:=8,zu:=.one (.top),zv:=.pointer none,desc:=.pointer 155,offs:=[] }
theorem tf165:TabFact Tryz.prog 165 ti165:=⟨by kernel_rfl,by kernel_rfl,(fun φ w F=>csim_const (φ:=φ) (w:=w) (F:=F) (.pointer none)),rfl,nofun,nofun⟩
def ti181:TI:={ size:=1,bytes:=8,zu:=.one (.d (.int .u64 0)),zv:=.int .u64 0,desc:=.int .u64,offs:=[] }
theorem tf181:TabFact Tryz.prog 181 ti181:=⟨by kernel_rfl,by kernel_rfl,(fun φ w F=>csim_const (φ:=φ) (w:=w) (F:=F) (.int .u64 0)),rfl,nofun,nofun⟩
def ti190:TI:={ size:=24,bytes:=24,zu:=.agg [.d (.int .u8 0),.d (.int .u8 0),.d (.int .u8 0),.d (.int .u8 0),.d (.int .u8 0),.d (.int .u8 0),.d (.int .u8 0),.d (.int .u8 0),.d (.int .u8 0),.d (.int .u8 0),.d (.int .u8 0),.d (.int .u8 0),.d (.int .u8 0),.d (.int .u8 0),.d (.int .u8 0),.d (.int .u8 0),.d (.int .u8 0),.d (.int .u8 0),.d (.int .u8 0),.d (.int .u8 0),.d (.int .u8 0),.d (.int .u8 0),.d (.int .u8 0),.d (.int .u8 0)],zv:=.agg #[.int .u8 0,.int .u8 0,.int .u8 0,.int .u8 0,.int .u8 0,.int .u8 0,.int .u8 0,.int .u8 0,.int .u8 0,.int .u8 0,.int .u8 0,.int .u8 0,.int .u8 0,.int .u8 0,.int .u8 0,.int .u8 0,.int .u8 0,.int .u8 0,.int .u8 0,.int .u8 0,.int .u8 0,.int .u8 0,.int .u8 0,.int .u8 0],desc:=.array 24 5,offs:=[] }
theorem tf190:TabFact Tryz.prog 190 ti190:=⟨by kernel_rfl,by kernel_rfl,(fun φ w F=>⟨#[.int .u8 0,.int .u8 0,.int .u8 0,.int .u8 0,.int .u8 0,.int .u8 0,.int .u8 0,.int .u8 0,.int .u8 0,.int .u8 0,.int .u8 0,.int .u8 0,.int .u8 0,.int .u8 0,.int .u8 0,.int .u8 0,.int .u8 0,.int .u8 0,.int .u8 0,.int .u8 0,.int .u8 0,.int .u8 0,.int .u8 0,.int .u8 0],rfl,csims_const (φ:=φ) (w:=w) (F:=F) [.int .u8 0,.int .u8 0,.int .u8 0,.int .u8 0,.int .u8 0,.int .u8 0,.int .u8 0,.int .u8 0,.int .u8 0,.int .u8 0,.int .u8 0,.int .u8 0,.int .u8 0,.int .u8 0,.int .u8 0,.int .u8 0,.int .u8 0,.int .u8 0,.int .u8 0,.int .u8 0,.int .u8 0,.int .u8 0,.int .u8 0,.int .u8 0]⟩),rfl,nofun,nofun⟩
def ti198:TI:={ size:=20,bytes:=160,zu:=.agg [.d (.int .u64 0),.d (.int .u64 0),.d (.int .u64 0),.d (.int .u64 0),.d (.int .u64 0),.d (.int .u64 0),.d (.int .u64 0),.d (.int .u64 0),.d (.int .u64 0),.d (.int .u64 0),.d (.int .u64 0),.d (.int .u64 0),.d (.int .u64 0),.d (.int .u64 0),.d (.int .u64 0),.d (.int .u64 0),.d (.int .u64 0),.d (.int .u64 0),.d (.int .u64 0),.d (.int .u64 0)],zv:=.agg #[.int .u64 0,.int .u64 0,.int .u64 0,.int .u64 0,.int .u64 0,.int .u64 0,.int .u64 0,.int .u64 0,.int .u64 0,.int .u64 0,.int .u64 0,.int .u64 0,.int .u64 0,.int .u64 0,.int .u64 0,.int .u64 0,.int .u64 0,.int .u64 0,.int .u64 0,.int .u64 0],desc:=.array 20 181,offs:=[] }
theorem tf198:TabFact Tryz.prog 198 ti198:=⟨by kernel_rfl,by kernel_rfl,(fun φ w F=>⟨#[.int .u64 0,.int .u64 0,.int .u64 0,.int .u64 0,.int .u64 0,.int .u64 0,.int .u64 0,.int .u64 0,.int .u64 0,.int .u64 0,.int .u64 0,.int .u64 0,.int .u64 0,.int .u64 0,.int .u64 0,.int .u64 0,.int .u64 0,.int .u64 0,.int .u64 0,.int .u64 0],rfl,csims_const (φ:=φ) (w:=w) (F:=F) [.int .u64 0,.int .u64 0,.int .u64 0,.int .u64 0,.int .u64 0,.int .u64 0,.int .u64 0,.int .u64 0,.int .u64 0,.int .u64 0,.int .u64 0,.int .u64 0,.int .u64 0,.int .u64 0,.int .u64 0,.int .u64 0,.int .u64 0,.int .u64 0,.int .u64 0,.int .u64 0]⟩),rfl,nofun,nofun⟩
def ti200:TI:={ size:=32,bytes:=32,zu:=.agg [.d (.int .u8 0),.d (.int .u8 0),.d (.int .u8 0),.d (.int .u8 0),.d (.int .u8 0),.d (.int .u8 0),.d (.int .u8 0),.d (.int .u8 0),.d (.int .u8 0),.d (.int .u8 0),.d (.int .u8 0),.d (.int .u8 0),.d (.int .u8 0),.d (.int .u8 0),.d (.int .u8 0),.d (.int .u8 0),.d (.int .u8 0),.d (.int .u8 0),.d (.int .u8 0),.d (.int .u8 0),.d (.int .u8 0),.d (.int .u8 0),.d (.int .u8 0),.d (.int .u8 0),.d (.int .u8 0),.d (.int .u8 0),.d (.int .u8 0),.d (.int .u8 0),.d (.int .u8 0),.d (.int .u8 0),.d (.int .u8 0),.d (.int .u8 0)],zv:=.agg #[.int .u8 0,.int .u8 0,.int .u8 0,.int .u8 0,.int .u8 0,.int .u8 0,.int .u8 0,.int .u8 0,.int .u8 0,.int .u8 0,.int .u8 0,.int .u8 0,.int .u8 0,.int .u8 0,.int .u8 0,.int .u8 0,.int .u8 0,.int .u8 0,.int .u8 0,.int .u8 0,.int .u8 0,.int .u8 0,.int .u8 0,.int .u8 0,.int .u8 0,.int .u8 0,.int .u8 0,.int .u8 0,.int .u8 0,.int .u8 0,.int .u8 0,.int .u8 0],desc:=.array 32 5,offs:=[] }
theorem tf200:TabFact Tryz.prog 200 ti200:=⟨by kernel_rfl,by kernel_rfl,(fun φ w F=>⟨#[.int .u8 0,.int .u8 0,.int .u8 0,.int .u8 0,.int .u8 0,.int .u8 0,.int .u8 0,.int .u8 0,.int .u8 0,.int .u8 0,.int .u8 0,.int .u8 0,.int .u8 0,.int .u8 0,.int .u8 0,.int .u8 0,.int .u8 0,.int .u8 0,.int .u8 0,.int .u8 0,.int .u8 0,.int .u8 0,.int .u8 0,.int .u8 0,.int .u8 0,.int .u8 0,.int .u8 0,.int .u8 0,.int .u8 0,.int .u8 0,.int .u8 0,.int .u8 0],rfl,csims_const (φ:=φ) (w:=w) (F:=F) [.int .u8 0,.int .u8 0,.int .u8 0,.int .u8 0,.int .u8 0,.int .u8 0,.int .u8 0,.int .u8 0,.int .u8 0,.int .u8 0,.int .u8 0,.int .u8 0,.int .u8 0,.int .u8 0,.int .u8 0,.int .u8 0,.int .u8 0,.int .u8 0,.int .u8 0,.int .u8 0,.int .u8 0,.int .u8 0,.int .u8 0,.int .u8 0,.int .u8 0,.int .u8 0,.int .u8 0,.int .u8 0,.int .u8 0,.int .u8 0,.int .u8 0,.int .u8 0]⟩),rfl,nofun,nofun⟩
def ty:Tab:=fun t=>match t with
 | 2=>some ti2
 | 3=>some ti3
 | 4=>some ti4
 | 5=>some ti5
 | 9=>some ti9
 | 22=>some ti22
 | 23=>some ti23
 | 25=>some ti25
 | 26=>some ti26
 | 28=>some ti28
 | 31=>some ti31
 | 33=>some ti33
 | 34=>some ti34
 | 39=>some ti39
 | 43=>some ti43
 | 44=>some ti44
 | 48=>some ti48
 | 49=>some ti49
 | 50=>some ti50
 | 55=>some ti55
 | 59=>some ti59
 | 60=>some ti60
 | 62=>some ti62
 | 64=>some ti64
 | 66=>some ti66
 | 68=>some ti68
 | 70=>some ti70
 | 78=>some ti78
 | 83=>some ti83
 | 85=>some ti85
 | 93=>some ti93
 | 97=>some ti97
 | 99=>some ti99
 | 113=>some ti113
 | 126=>some ti126
 | 133=>some ti133
 | 136=>some ti136
 | 137=>some ti137
 | 138=>some ti138
 | 147=>some ti147
 | 149=>some ti149
 | 152=>some ti152
 | 153=>some ti153
 | 155=>some ti155
 | 165=>some ti165
 | 181=>some ti181
 | 190=>some ti190
 | 198=>some ti198
 | 200=>some ti200
 | _=>none
theorem ty_ok:TabOk Tryz.prog ty:=by
 intro t ti h
 unfold ty at h
 split at h
 ·cases h; exact tf2
 ·cases h; exact tf3
 ·cases h; exact tf4
 ·cases h; exact tf5
 ·cases h; exact tf9
 ·cases h; exact tf22
 ·cases h; exact tf23
 ·cases h; exact tf25
 ·cases h; exact tf26
 ·cases h; exact tf28
 ·cases h; exact tf31
 ·cases h; exact tf33
 ·cases h; exact tf34
 ·cases h; exact tf39
 ·cases h; exact tf43
 ·cases h; exact tf44
 ·cases h; exact tf48
 ·cases h; exact tf49
 ·cases h; exact tf50
 ·cases h; exact tf55
 ·cases h; exact tf59
 ·cases h; exact tf60
 ·cases h; exact tf62
 ·cases h; exact tf64
 ·cases h; exact tf66
 ·cases h; exact tf68
 ·cases h; exact tf70
 ·cases h; exact tf78
 ·cases h; exact tf83
 ·cases h; exact tf85
 ·cases h; exact tf93
 ·cases h; exact tf97
 ·cases h; exact tf99
 ·cases h; exact tf113
 ·cases h; exact tf126
 ·cases h; exact tf133
 ·cases h; exact tf136
 ·cases h; exact tf137
 ·cases h; exact tf138
 ·cases h; exact tf147
 ·cases h; exact tf149
 ·cases h; exact tf152
 ·cases h; exact tf153
 ·cases h; exact tf155
 ·cases h; exact tf165
 ·cases h; exact tf181
 ·cases h; exact tf190
 ·cases h; exact tf198
 ·cases h; exact tf200
 ·cases h
def eqn:TypeId->Option Nat:=fun t=>match t with
 | 48=>some 3
 | 59=>some 4
 | 70=>some 2
 | 136=>some 4
 | _=>none
theorem ef48:intFields Tryz.prog 48 3:=by
 refine .inl ⟨#[⟨"X",3,0,false, "", "",0⟩,⟨"Y",3,1,false, "", "",8⟩,⟨"S",3,2,false, "", "",16⟩],by kernel_rfl,by kernel_rfl,by kernel_rfl,rfl,fun i f h=>?_⟩
 match i,h with
 | 0,h=>cases h; exact⟨by decide,rfl,.i64,by kernel_rfl⟩
 | 1,h=>cases h; exact⟨by decide,rfl,.i64,by kernel_rfl⟩
 | 2,h=>cases h; exact⟨by decide,rfl,.i64,by kernel_rfl⟩
 | i+3,h=>simp at h
theorem ef59:intFields Tryz.prog 59 4:=by
 refine .inl ⟨#[⟨"X",3,0,false, "", "",0⟩,⟨"Y",3,1,false, "", "",8⟩,⟨"W",3,2,false, "", "",16⟩,⟨"H",3,3,false, "", "",24⟩],by kernel_rfl,by kernel_rfl,by kernel_rfl,rfl,fun i f h=>?_⟩
 match i,h with
 | 0,h=>cases h; exact⟨by decide,rfl,.i64,by kernel_rfl⟩
 | 1,h=>cases h; exact⟨by decide,rfl,.i64,by kernel_rfl⟩
 | 2,h=>cases h; exact⟨by decide,rfl,.i64,by kernel_rfl⟩
 | 3,h=>cases h; exact⟨by decide,rfl,.i64,by kernel_rfl⟩
 | i+4,h=>simp at h
theorem ef70:intFields Tryz.prog 70 2:=by
 refine .inl ⟨#[⟨"X",3,0,false, "", "",0⟩,⟨"Y",3,1,false, "", "",8⟩],by kernel_rfl,by kernel_rfl,by kernel_rfl,rfl,fun i f h=>?_⟩
 match i,h with
 | 0,h=>cases h; exact⟨by decide,rfl,.i64,by kernel_rfl⟩
 | 1,h=>cases h; exact⟨by decide,rfl,.i64,by kernel_rfl⟩
 | i+2,h=>simp at h
theorem ef136:intFields Tryz.prog 136 4:=by
 obtain⟨i,hi⟩:=Option.isSome_iff_exists.1 (show (Tryz.prog.info? 3).isSome=true by kernel_rfl)
 exact .inr ⟨3,i,.i64,by kernel_rfl,hi,by kernel_rfl,by kernel_rfl,by kernel_rfl⟩
theorem eqn_ok:∀ t n,eqn t=some n->intFields Tryz.prog t n:=by
 intro t n h
 unfold eqn at h
 split at h
 ·cases h; exact ef48
 ·cases h; exact ef59
 ·cases h; exact ef70
 ·cases h; exact ef136
 ·cases h
def key:TypeId->Option KK:=fun t=>match t with
 | 9=>some .str
 | 70=>some (.ints 2)
 | _=>none
theorem kf9:Maps.Keyed Tryz.prog 9/\∀ k:Key,k.fits .str=true->∃ l,keyOf Tryz.prog 9 k.val=some l:=key_str (by kernel_rfl)
theorem kf70:Maps.Keyed Tryz.prog 70/\∀ k:Key,k.fits (.ints 2)=true->∃ l,keyOf Tryz.prog 70 k.val=some l :=
 key_ints (fs:=#[⟨"X",3,0,false, "", "",0⟩,⟨"Y",3,1,false, "", "",8⟩]) (by kernel_rfl) (by kernel_rfl) (by kernel_rfl) (by kernel_rfl) (by kernel_rfl) (by kernel_rfl) (by
  intro i f h
  match i,h with
  | 0,h=>cases h; exact⟨by decide,rfl,by kernel_rfl,by kernel_rfl⟩
  | 1,h=>cases h; exact⟨by decide,rfl,by kernel_rfl,by kernel_rfl⟩
  | i+2,h=>simp at h)
theorem key_ok:∀ t kk,key t=some kk->Maps.Keyed Tryz.prog t/\∀ k:Key,k.fits kk=true->∃ l,keyOf Tryz.prog t k.val=some l:=by
 intro t kk h
 unfold key at h
 split at h
 ·cases h; exact kf9
 ·cases h; exact kf70
 ·cases h
def tb:Tb:={ ty:=ty,eqn:=eqn,key:=key }
theorem bq:TbOk Tryz.prog tb:=⟨ty_ok,eqn_ok,key_ok,(fun _ _ _ h=>by cases h),(fun _ _ _ _ _ _ _ _ _ h=>by cases h)⟩
theorem mixed:Tryz.prog.follows .mixedOrders=true:=by kernel_rfl
end Go.Proofs.YtnkmjlncmlmnbaaGreatDoor
