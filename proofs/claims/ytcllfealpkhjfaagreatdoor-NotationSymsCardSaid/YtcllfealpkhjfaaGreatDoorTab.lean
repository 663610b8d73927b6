/- The table of the types of this seat, made by program (gen_tab.py), and that it holds. -/
import Derived.Test.YtcllfealpkhjfaaGreatDoorRows
import Derived.Test.YtcllfealpkhjfaaGreatDoorAmO
namespace Go.Proofs.YtcllfealpkhjfaaGreatDoor
open Go.AM Go.Proofs
def ti2:TI:={ size:=1,bytes:=8,zu:=.one (.d (.int .i64 0)),zv:=.int .i64 0,desc:=.int .i64,offs:=[] }
theorem tf2:TabFact Tryz.prog 2 ti2:=⟨by kernel_rfl,by kernel_rfl,(fun φ w F=>csim_const (φ:=φ) (w:=w) (F:=F) (.int .i64 0)),rfl,nofun,nofun⟩
def ti3:TI:={ size:=1,bytes:=8,zu:=.one (.d (.int .i64 0)),zv:=.int .i64 0,desc:=.int .i64,offs:=[] }
theorem tf3:TabFact Tryz.prog 3 ti3:=⟨by kernel_rfl,by kernel_rfl,(fun φ w F=>csim_const (φ:=φ) (w:=w) (F:=F) (.int .i64 0)),rfl,nofun,nofun⟩
def ti4:TI:={ size:=1,bytes:=1,zu:=.one (.d (.bool false)),zv:=.bool false,desc:=.bool,offs:=[] }
theorem tf4:TabFact Tryz.prog 4 ti4:=⟨by kernel_rfl,by kernel_rfl,(fun φ w F=>csim_const (φ:=φ) (w:=w) (F:=F) (.bool false)),rfl,nofun,nofun⟩
def ti5:TI:={ size:=1,bytes:=1,zu:=.one (.d (.int .u8 0)),zv:=.int .u8 0,desc:=.int .u8,offs:=[] }
theorem tf5:TabFact Tryz.prog 5 ti5:=⟨by kernel_rfl,by kernel_rfl,(fun φ w F=>csim_const (φ:=φ) (w:=w) (F:=F) (.int .u8 0)),rfl,nofun,nofun⟩
def ti9:TI:={ size:=1,bytes:=16,zu:=.one (.d (.str ⟨#[]⟩)),zv:=.string ⟨#[]⟩,desc:=.string,offs:=[] }
theorem tf9:TabFact Tryz.prog 9 ti9:=⟨by kernel_rfl,by kernel_rfl,(fun φ w F=>csim_const (φ:=φ) (w:=w) (F:=F) (.string ⟨#[]⟩)),rfl,nofun,nofun⟩
def ti21:TI:={ size:=1,bytes:=4,zu:=.one (.d (.int .i32 0)),zv:=.int .i32 0,desc:=.int .i32,offs:=[] }
theorem tf21:TabFact Tryz.prog 21 ti21:=⟨by kernel_rfl,by kernel_rfl,(fun φ w F=>csim_const (φ:=φ) (w:=w) (F:=F) (.int .i32 0)),rfl,nofun,nofun⟩
def ti22:TI:={ size:=1,bytes:=24,zu:=.one (.d .nil),zv:=.slice none 0 0,desc:=.slice 67,offs:=[] }
theorem tf22:TabFact Tryz.prog 22 ti22:=⟨by kernel_rfl,by kernel_rfl,(fun φ w F=>csim_const (φ:=φ) (w:=w) (F:=F) (.slice none 0 0)),rfl,nofun,nofun⟩
def ti23:TI:={ size:=1,bytes:=24,zu:=.one (.d .nil),zv:=.slice none 0 0,desc:=.slice 32,offs:=[] }
theorem tf23:TabFact Tryz.prog 23 ti23:=⟨by kernel_rfl,by kernel_rfl,(fun φ w F=>csim_const (φ:=φ) (w:=w) (F:=F) (.slice none 0 0)),rfl,nofun,nofun⟩
def ti25:TI:={ size:=3,bytes:=56,zu:=.agg [.d (.int .i64 0),.d .nil,.d .nil],zv:=.agg #[.int .i64 0,.slice none 0 0,.slice none 0 0],desc:=.struct #[⟨"States",3,0,false, "", "",0⟩,⟨"Hood",22,1,false, "", "",8⟩,⟨"Nodes",23,2,false, "", "",32⟩],offs:=[(0,1),(1,1),(2,1)] }
theorem tf25:TabFact Tryz.prog 25 ti25:=⟨by kernel_rfl,by kernel_rfl,(fun φ w F=>⟨#[.int .i64 0,.slice none 0 0,.slice none 0 0],rfl,csims_const (φ:=φ) (w:=w) (F:=F) [.int .i64 0,.slice none 0 0,.slice none 0 0]⟩),rfl,(fun fs h=>by cases h; kernel_rfl),(fun fs h=>by cases h; kernel_rfl)⟩
def ti29:TI:={ size:=1,bytes:=24,zu:=.one (.d .nil),zv:=.slice none 0 0,desc:=.slice 3,offs:=[] }
theorem tf29:TabFact Tryz.prog 29 ti29:=⟨by kernel_rfl,by kernel_rfl,(fun φ w F=>csim_const (φ:=φ) (w:=w) (F:=F) (.slice none 0 0)),rfl,nofun,nofun⟩
def ti32:TI:={ size:=2,bytes:=32,zu:=.agg [.d (.int .i64 0),.d .nil],zv:=.agg #[.int .i64 0,.slice none 0 0],desc:=.struct #[⟨"Level",3,0,false, "", "",0⟩,⟨"Next",29,1,false, "", "",8⟩],offs:=[(0,1),(1,1)] }
theorem tf32:TabFact Tryz.prog 32 ti32:=⟨by kernel_rfl,by kernel_rfl,(fun φ w F=>⟨#[.int .i64 0,.slice none 0 0],rfl,csims_const (φ:=φ) (w:=w) (F:=F) [.int .i64 0,.slice none 0 0]⟩),rfl,(fun fs h=>by cases h; kernel_rfl),(fun fs h=>by cases h; kernel_rfl)⟩
def ti33:TI:={ size:=1,bytes:=8,zu:=.one (.d (.int .i64 0)),zv:=.int .i64 0,desc:=.int .i64,offs:=[] }
theorem tf33:TabFact Tryz.prog 33 ti33:=⟨by kernel_rfl,by kernel_rfl,(fun φ w F=>csim_const (φ:=φ) (w:=w) (F:=F) (.int .i64 0)),rfl,nofun,nofun⟩
def ti45:TI:={ size:=4,bytes:=80,zu:=.agg [.d .nil,.d (.int .i64 0),.d .nil,.d .nil],zv:=.agg #[.slice none 0 0,.int .i64 0,.slice none 0 0,.slice none 0 0],desc:=.struct #[⟨"Hood",22,0,false, "", "",0⟩,⟨"States",3,1,false, "", "",24⟩,⟨"Birth",29,2,false, "", "",32⟩,⟨"Survive",29,3,false, "", "",56⟩],offs:=[(0,1),(1,1),(2,1),(3,1)] }
theorem tf45:TabFact Tryz.prog 45 ti45:=⟨by kernel_rfl,by kernel_rfl,(fun φ w F=>⟨#[.slice none 0 0,.int .i64 0,.slice none 0 0,.slice none 0 0],rfl,csims_const (φ:=φ) (w:=w) (F:=F) [.slice none 0 0,.int .i64 0,.slice none 0 0,.slice none 0 0]⟩),rfl,(fun fs h=>by cases h; kernel_rfl),(fun fs h=>by cases h; kernel_rfl)⟩
def ti52:TI:={ size:=1,bytes:=24,zu:=.one (.d .nil),zv:=.slice none 0 0,desc:=.slice 29,offs:=[] }
theorem tf52:TabFact Tryz.prog 52 ti52:=⟨by kernel_rfl,by kernel_rfl,(fun φ w F=>csim_const (φ:=φ) (w:=w) (F:=F) (.slice none 0 0)),rfl,nofun,nofun⟩
def ti53:TI:={ size:=1,bytes:=24,zu:=.one (.d .nil),zv:=.slice none 0 0,desc:=.slice 137,offs:=[] }
theorem tf53:TabFact Tryz.prog 53 ti53:=⟨by kernel_rfl,by kernel_rfl,(fun φ w F=>csim_const (φ:=φ) (w:=w) (F:=F) (.slice none 0 0)),rfl,nofun,nofun⟩
def ti55:TI:={ size:=5,bytes:=88,zu:=.agg [.d (.int .i64 0),.d (.int .i64 0),.d .nil,.d .nil,.d .nil],zv:=.agg #[.int .i64 0,.int .i64 0,.slice none 0 0,.slice none 0 0,.slice none 0 0],desc:=.struct #[⟨"States",3,0,false, "", "",0⟩,⟨"Sym",3,1,false, "", "",8⟩,⟨"Hood",22,2,false, "", "",16⟩,⟨"Vars",52,3,false, "", "",40⟩,⟨"Rows",53,4,false, "", "",64⟩],offs:=[(0,1),(1,1),(2,1),(3,1),(4,1)] }
theorem tf55:TabFact Tryz.prog 55 ti55:=⟨by kernel_rfl,by kernel_rfl,(fun φ w F=>⟨#[.int .i64 0,.int .i64 0,.slice none 0 0,.slice none 0 0,.slice none 0 0],rfl,csims_const (φ:=φ) (w:=w) (F:=F) [.int .i64 0,.int .i64 0,.slice none 0 0,.slice none 0 0,.slice none 0 0]⟩),rfl,(fun fs h=>by cases h; kernel_rfl),(fun fs h=>by cases h; kernel_rfl)⟩
def ti62:TI:={ size:=1,bytes:=8,zu:=.one (.top),zv:=.nilFunc,desc:=.func #[3] #[4] false,offs:=[] }
theorem tf62:TabFact Tryz.prog 62 ti62:=⟨by kernel_rfl,by kernel_rfl,(fun φ w F=>csim_const (φ:=φ) (w:=w) (F:=F) (.nilFunc)),rfl,nofun,nofun⟩
def ti67:TI:={ size:=2,bytes:=16,zu:=.agg [.d (.int .i64 0),.d (.int .i64 0)],zv:=.agg #[.int .i64 0,.int .i64 0],desc:=.struct #[⟨"X",3,0,false, "", "",0⟩,⟨"Y",3,1,false, "", "",8⟩],offs:=[(0,1),(1,1)] }
theorem tf67:TabFact Tryz.prog 67 ti67:=⟨by kernel_rfl,by kernel_rfl,(fun φ w F=>⟨#[.int .i64 0,.int .i64 0],rfl,csims_const (φ:=φ) (w:=w) (F:=F) [.int .i64 0,.int .i64 0]⟩),rfl,(fun fs h=>by cases h; kernel_rfl),(fun fs h=>by cases h; kernel_rfl)⟩
def ti75:TI:={ size:=1,bytes:=24,zu:=.one (.d .nil),zv:=.slice none 0 0,desc:=.slice 25,offs:=[] }
theorem tf75:TabFact Tryz.prog 75 ti75:=⟨by kernel_rfl,by kernel_rfl,(fun φ w F=>csim_const (φ:=φ) (w:=w) (F:=F) (.slice none 0 0)),rfl,nofun,nofun⟩
def ti88:TI:={ size:=1,bytes:=24,zu:=.one (.d .nil),zv:=.slice none 0 0,desc:=.slice 9,offs:=[] }
theorem tf88:TabFact Tryz.prog 88 ti88:=⟨by kernel_rfl,by kernel_rfl,(fun φ w F=>csim_const (φ:=φ) (w:=w) (F:=F) (.slice none 0 0)),rfl,nofun,nofun⟩
def ti92:TI:={ size:=1,bytes:=16,zu:=.one (.d .ni),zv:=.nilIface,desc:=.interface #[("Error",131)],offs:=[] }
theorem tf92:TabFact Tryz.prog 92 ti92:=⟨by kernel_rfl,by kernel_rfl,(fun φ w F=>csim_const (φ:=φ) (w:=w) (F:=F) (.nilIface)),rfl,nofun,nofun⟩
def ti97:TI:={ size:=2,bytes:=16,zu:=.agg [.d (.int .i64 0),.d (.int .i64 0)],zv:=.agg #[.int .i64 0,.int .i64 0],desc:=.struct #[⟨"ones",3,0,false, "", "cellular/totaltree",0⟩,⟨"centre",3,1,false, "", "cellular/totaltree",8⟩],offs:=[(0,1),(1,1)] }
theorem tf97:TabFact Tryz.prog 97 ti97:=⟨by kernel_rfl,by kernel_rfl,(fun φ w F=>⟨#[.int .i64 0,.int .i64 0],rfl,csims_const (φ:=φ) (w:=w) (F:=F) [.int .i64 0,.int .i64 0]⟩),rfl,(fun fs h=>by cases h; kernel_rfl),(fun fs h=>by cases h; kernel_rfl)⟩
def ti98:TI:={ size:=1,bytes:=8,zu:=.one (.top),zv:=.nilFunc,desc:=.func #[97,3,3] #[97] false,offs:=[] }
theorem tf98:TabFact Tryz.prog 98 ti98:=⟨by kernel_rfl,by kernel_rfl,(fun φ w F=>csim_const (φ:=φ) (w:=w) (F:=F) (.nilFunc)),rfl,nofun,nofun⟩
def ti100:TI:={ size:=1,bytes:=8,zu:=.one (.top),zv:=.nilFunc,desc:=.func #[97] #[3] false,offs:=[] }
theorem tf100:TabFact Tryz.prog 100 ti100:=⟨by kernel_rfl,by kernel_rfl,(fun φ w F=>csim_const (φ:=φ) (w:=w) (F:=F) (.nilFunc)),rfl,nofun,nofun⟩
def ti106:TI:={ size:=8,bytes:=64,zu:=.agg [.d (.int .i64 0),.d (.int .i64 0),.d (.int .i64 0),.d (.int .i64 0),.d (.int .i64 0),.d (.int .i64 0),.d (.int .i64 0),.d (.int .i64 0)],zv:=.agg #[.int .i64 0,.int .i64 0,.int .i64 0,.int .i64 0,.int .i64 0,.int .i64 0,.int .i64 0,.int .i64 0],desc:=.array 8 3,offs:=[] }
theorem tf106:TabFact Tryz.prog 106 ti106:=⟨by kernel_rfl,by kernel_rfl,(fun φ w F=>⟨#[.int .i64 0,.int .i64 0,.int .i64 0,.int .i64 0,.int .i64 0,.int .i64 0,.int .i64 0,.int .i64 0],rfl,csims_const (φ:=φ) (w:=w) (F:=F) [.int .i64 0,.int .i64 0,.int .i64 0,.int .i64 0,.int .i64 0,.int .i64 0,.int .i64 0,.int .i64 0]⟩),rfl,nofun,nofun⟩
def ti110:TI:={ size:=1,bytes:=8,zu:=.one (.top),zv:=.nilFunc,desc:=.func #[3,3,3] #[3] false,offs:=[] }
theorem tf110:TabFact Tryz.prog 110 ti110:=⟨by kernel_rfl,by kernel_rfl,(fun φ w F=>csim_const (φ:=φ) (w:=w) (F:=F) (.nilFunc)),rfl,nofun,nofun⟩
def ti111:TI:={ size:=1,bytes:=8,zu:=.one (.top),zv:=.nilFunc,desc:=.func #[3] #[3] false,offs:=[] }
theorem tf111:TabFact Tryz.prog 111 ti111:=⟨by kernel_rfl,by kernel_rfl,(fun φ w F=>csim_const (φ:=φ) (w:=w) (F:=F) (.nilFunc)),rfl,nofun,nofun⟩
def ti112:TI:={ size:=1,bytes:=8,zu:=.one (.top),zv:=.pointer none,desc:=.pointer 115,offs:=[] }
theorem tf112:TabFact Tryz.prog 112 ti112:=⟨by kernel_rfl,by kernel_rfl,(fun φ w F=>csim_const (φ:=φ) (w:=w) (F:=F) (.pointer none)),rfl,nofun,nofun⟩
def ti113:TI:={ size:=1,bytes:=8,zu:=.one (.nilmap),zv:=.map none,desc:=.map 9 3,offs:=[] }
theorem tf113:TabFact Tryz.prog 113 ti113:=⟨by kernel_rfl,by kernel_rfl,(fun φ w F=>csim_const (φ:=φ) (w:=w) (F:=F) (.map none)),rfl,nofun,nofun⟩
def ti115:TI:={ size:=7,bytes:=104,zu:=.agg [.d (.int .i64 0),.d (.int .i64 0),.d .nil,.d .nil,.d .nil,.nilmap,.d (.int .i64 0)],zv:=.agg #[.int .i64 0,.int .i64 0,.slice none 0 0,.slice none 0 0,.slice none 0 0,.map none,.int .i64 0],desc:=.struct #[⟨"t",55,0,false, "", "cellular/ruletable",0⟩,⟨"names",113,5,false, "", "cellular/ruletable",88⟩,⟨"head",3,6,false, "", "cellular/ruletable",96⟩],offs:=[(0,5),(5,1),(6,1)] }
theorem tf115:TabFact Tryz.prog 115 ti115:=⟨by kernel_rfl,by kernel_rfl,(fun φ w F=>⟨#[.int .i64 0,.int .i64 0,.slice none 0 0,.slice none 0 0,.slice none 0 0,.map none,.int .i64 0],rfl,csims_const (φ:=φ) (w:=w) (F:=F) [.int .i64 0,.int .i64 0,.slice none 0 0,.slice none 0 0,.slice none 0 0,.map none,.int .i64 0]⟩),rfl,(fun fs h=>by cases h; kernel_rfl),(fun fs h=>by cases h; kernel_rfl)⟩
def ti117:TI:={ size:=1,bytes:=8,zu:=.one (.top),zv:=.nilFunc,desc:=.func #[173] #[] false,offs:=[] }
theorem tf117:TabFact Tryz.prog 117 ti117:=⟨by kernel_rfl,by kernel_rfl,(fun φ w F=>csim_const (φ:=φ) (w:=w) (F:=F) (.nilFunc)),rfl,nofun,nofun⟩
def ti123:TI:={ size:=1,bytes:=8,zu:=.one (.top),zv:=.nilFunc,desc:=.func #[29] #[3] false,offs:=[] }
theorem tf123:TabFact Tryz.prog 123 ti123:=⟨by kernel_rfl,by kernel_rfl,(fun φ w F=>csim_const (φ:=φ) (w:=w) (F:=F) (.nilFunc)),rfl,nofun,nofun⟩
def ti124:TI:={ size:=1,bytes:=8,zu:=.one (.top),zv:=.pointer none,desc:=.pointer 127,offs:=[] }
theorem tf124:TabFact Tryz.prog 124 ti124:=⟨by kernel_rfl,by kernel_rfl,(fun φ w F=>csim_const (φ:=φ) (w:=w) (F:=F) (.pointer none)),rfl,nofun,nofun⟩
def ti125:TI:={ size:=1,bytes:=24,zu:=.one (.d .nil),zv:=.slice none 0 0,desc:=.slice 5,offs:=[] }
theorem tf125:TabFact Tryz.prog 125 ti125:=⟨by kernel_rfl,by kernel_rfl,(fun φ w F=>csim_const (φ:=φ) (w:=w) (F:=F) (.slice none 0 0)),rfl,nofun,nofun⟩
def ti127:TI:={ size:=2,bytes:=32,zu:=.agg [.top,.d .nil],zv:=.agg #[.pointer none,.slice none 0 0],desc:=.struct #[⟨"addr",124,0,false, "", "strings",0⟩,⟨"buf",125,1,false, "", "strings",8⟩],offs:=[(0,1),(1,1)] }
theorem tf127:TabFact Tryz.prog 127 ti127:=⟨by kernel_rfl,by kernel_rfl,(fun φ w F=>⟨#[.pointer none,.slice none 0 0],rfl,csims_const (φ:=φ) (w:=w) (F:=F) [.pointer none,.slice none 0 0]⟩),rfl,(fun fs h=>by cases h; kernel_rfl),(fun fs h=>by cases h; kernel_rfl)⟩
def ti135:TI:={ size:=4,bytes:=64,zu:=.agg [.d (.str ⟨#[]⟩),.d (.str ⟨#[]⟩),.d (.str ⟨#[]⟩),.d (.str ⟨#[]⟩)],zv:=.agg #[.string ⟨#[]⟩,.string ⟨#[]⟩,.string ⟨#[]⟩,.string ⟨#[]⟩],desc:=.array 4 9,offs:=[] }
theorem tf135:TabFact Tryz.prog 135 ti135:=⟨by kernel_rfl,by kernel_rfl,(fun φ w F=>⟨#[.string ⟨#[]⟩,.string ⟨#[]⟩,.string ⟨#[]⟩,.string ⟨#[]⟩],rfl,csims_const (φ:=φ) (w:=w) (F:=F) [.string ⟨#[]⟩,.string ⟨#[]⟩,.string ⟨#[]⟩,.string ⟨#[]⟩]⟩),rfl,nofun,nofun⟩
def ti137:TI:={ size:=2,bytes:=32,zu:=.agg [.d .nil,.d (.int .i64 0)],zv:=.agg #[.slice none 0 0,.int .i64 0],desc:=.struct #[⟨"Ins",29,0,false, "", "",0⟩,⟨"Out",3,1,false, "", "",24⟩],offs:=[(0,1),(1,1)] }
theorem tf137:TabFact Tryz.prog 137 ti137:=⟨by kernel_rfl,by kernel_rfl,(fun φ w F=>⟨#[.slice none 0 0,.int .i64 0],rfl,csims_const (φ:=φ) (w:=w) (F:=F) [.slice none 0 0,.int .i64 0]⟩),rfl,(fun fs h=>by cases h; kernel_rfl),(fun fs h=>by cases h; kernel_rfl)⟩
def ti141:TI:={ size:=1,bytes:=8,zu:=.one (.top),zv:=.nilFunc,desc:=.func #[3,29] #[29] false,offs:=[] }
theorem tf141:TabFact Tryz.prog 141 ti141:=⟨by kernel_rfl,by kernel_rfl,(fun φ w F=>csim_const (φ:=φ) (w:=w) (F:=F) (.nilFunc)),rfl,nofun,nofun⟩
def ti142:TI:={ size:=4,bytes:=32,zu:=.agg [.d (.int .i64 0),.d (.int .i64 0),.d (.int .i64 0),.d (.int .i64 0)],zv:=.agg #[.int .i64 0,.int .i64 0,.int .i64 0,.int .i64 0],desc:=.array 4 3,offs:=[] }
theorem tf142:TabFact Tryz.prog 142 ti142:=⟨by kernel_rfl,by kernel_rfl,(fun φ w F=>⟨#[.int .i64 0,.int .i64 0,.int .i64 0,.int .i64 0],rfl,csims_const (φ:=φ) (w:=w) (F:=F) [.int .i64 0,.int .i64 0,.int .i64 0,.int .i64 0]⟩),rfl,nofun,nofun⟩
def ti143:TI:={ size:=32,bytes:=256,zu:=.agg [.d (.int .i64 0),.d (.int .i64 0),.d (.int .i64 0),.d (.int .i64 0),.d (.int .i64 0),.d (.int .i64 0),.d (.int .i64 0),.d (.int .i64 0),.d (.int .i64 0),.d (.int .i64 0),.d (.int .i64 0),.d (.int .i64 0),.d (.int .i64 0),.d (.int .i64 0),.d (.int .i64 0),.d (.int .i64 0),.d (.int .i64 0),.d (.int .i64 0),.d (.int .i64 0),.d (.int .i64 0),.d (.int .i64 0),.d (.int .i64 0),.d (.int .i64 0),.d (.int .i64 0),.d (.int .i64 0),.d (.int .i64 0),.d (.int .i64 0),.d (.int .i64 0),.d (.int .i64 0),.d (.int .i64 0),.d (.int .i64 0),.d (.int .i64 0)],zv:=.agg #[.int .i64 0,.int .i64 0,.int .i64 0,.int .i64 0,.int .i64 0,.int .i64 0,.int .i64 0,.int .i64 0,.int .i64 0,.int .i64 0,.int .i64 0,.int .i64 0,.int .i64 0,.int .i64 0,.int .i64 0,.int .i64 0,.int .i64 0,.int .i64 0,.int .i64 0,.int .i64 0,.int .i64 0,.int .i64 0,.int .i64 0,.int .i64 0,.int .i64 0,.int .i64 0,.int .i64 0,.int .i64 0,.int .i64 0,.int .i64 0,.int .i64 0,.int .i64 0],desc:=.array 8 142,offs:=[] }
theorem tf143:TabFact Tryz.prog 143 ti143:=⟨by kernel_rfl,by kernel_rfl,(fun φ w F=>⟨#[.int .i64 0,.int .i64 0,.int .i64 0,.int .i64 0,.int .i64 0,.int .i64 0,.int .i64 0,.int .i64 0,.int .i64 0,.int .i64 0,.int .i64 0,.int .i64 0,.int .i64 0,.int .i64 0,.int .i64 0,.int .i64 0,.int .i64 0,.int .i64 0,.int .i64 0,.int .i64 0,.int .i64 0,.int .i64 0,.int .i64 0,.int .i64 0,.int .i64 0,.int .i64 0,.int .i64 0,.int .i64 0,.int .i64 0,.int .i64 0,.int .i64 0,.int .i64 0],rfl,csims_const (φ:=φ) (w:=w) (F:=F) [.int .i64 0,.int .i64 0,.int .i64 0,.int .i64 0,.int .i64 0,.int .i64 0,.int .i64 0,.int .i64 0,.int .i64 0,.int .i64 0,.int .i64 0,.int .i64 0,.int .i64 0,.int .i64 0,.int .i64 0,.int .i64 0,.int .i64 0,.int .i64 0,.int .i64 0,.int .i64 0,.int .i64 0,.int .i64 0,.int .i64 0,.int .i64 0,.int .i64 0,.int .i64 0,.int .i64 0,.int .i64 0,.int .i64 0,.int .i64 0,.int .i64 0,.int .i64 0]⟩),rfl,nofun,nofun⟩
def ti147:TI:={ size:=2,bytes:=32,zu:=.agg [.d .nil,.nilmap],zv:=.agg #[.slice none 0 0,.map none],desc:=.struct #[⟨"nodes",23,0,false, "", "cellular/reduce",0⟩,⟨"known",113,1,false, "", "cellular/reduce",24⟩],offs:=[(0,1),(1,1)] }
theorem tf147:TabFact Tryz.prog 147 ti147:=⟨by kernel_rfl,by kernel_rfl,(fun φ w F=>⟨#[.slice none 0 0,.map none],rfl,csims_const (φ:=φ) (w:=w) (F:=F) [.slice none 0 0,.map none]⟩),rfl,(fun fs h=>by cases h; kernel_rfl),(fun fs h=>by cases h; kernel_rfl)⟩
def ti151:TI:={ size:=1,bytes:=8,zu:=.one (.top),zv:=.nilFunc,desc:=.func #[32,32] #[4] false,offs:=[] }
theorem tf151:TabFact Tryz.prog 151 ti151:=⟨by kernel_rfl,by kernel_rfl,(fun φ w F=>csim_const (φ:=φ) (w:=w) (F:=F) (.nilFunc)),rfl,nofun,nofun⟩
def ti157:TI:={ size:=1,bytes:=8,zu:=.one (.top),zv:=.nilFunc,desc:=.func #[3,3] #[4] false,offs:=[] }
theorem tf157:TabFact Tryz.prog 157 ti157:=⟨by kernel_rfl,by kernel_rfl,(fun φ w F=>csim_const (φ:=φ) (w:=w) (F:=F) (.nilFunc)),rfl,nofun,nofun⟩
def ti162:TI:={ size:=1,bytes:=8,zu:=.one (.nilmap),zv:=.map none,desc:=.map 165 3,offs:=[] }
theorem tf162:TabFact Tryz.prog 162 ti162:=⟨by kernel_rfl,by kernel_rfl,(fun φ w F=>csim_const (φ:=φ) (w:=w) (F:=F) (.map none)),rfl,nofun,nofun⟩
def ti163:TI:={ size:=1,bytes:=8,zu:=.one (.top),zv:=.nilFunc,desc:=.func #[165] #[3] false,offs:=[] }
theorem tf163:TabFact Tryz.prog 163 ti163:=⟨by kernel_rfl,by kernel_rfl,(fun φ w F=>csim_const (φ:=φ) (w:=w) (F:=F) (.nilFunc)),rfl,nofun,nofun⟩
def ti165:TI:={ size:=3,bytes:=24,zu:=.agg [.d (.int .i64 0),.d (.int .i64 0),.d (.int .i64 0)],zv:=.agg #[.int .i64 0,.int .i64 0,.int .i64 0],desc:=.struct #[⟨"at",3,0,false, "", "cellular/totaltree",0⟩,⟨"s",97,1,false, "", "cellular/totaltree",8⟩],offs:=[(0,1),(1,2)] }
theorem tf165:TabFact Tryz.prog 165 ti165:=⟨by kernel_rfl,by kernel_rfl,(fun φ w F=>⟨#[.int .i64 0,.int .i64 0,.int .i64 0],rfl,csims_const (φ:=φ) (w:=w) (F:=F) [.int .i64 0,.int .i64 0,.int .i64 0]⟩),rfl,(fun fs h=>by cases h; kernel_rfl),(fun fs h=>by cases h; kernel_rfl)⟩
def ti169:TI:={ size:=1,bytes:=8,zu:=.one (.nilmap),zv:=.map none,desc:=.map 172 3,offs:=[] }
theorem tf169:TabFact Tryz.prog 169 ti169:=⟨by kernel_rfl,by kernel_rfl,(fun φ w F=>csim_const (φ:=φ) (w:=w) (F:=F) (.map none)),rfl,nofun,nofun⟩
def ti170:TI:={ size:=1,bytes:=8,zu:=.one (.top),zv:=.nilFunc,desc:=.func #[172] #[3] false,offs:=[] }
theorem tf170:TabFact Tryz.prog 170 ti170:=⟨by kernel_rfl,by kernel_rfl,(fun φ w F=>csim_const (φ:=φ) (w:=w) (F:=F) (.nilFunc)),rfl,nofun,nofun⟩
def ti172:TI:={ size:=2,bytes:=16,zu:=.agg [.d (.int .i64 0),.d (.int .i64 0)],zv:=.agg #[.int .i64 0,.int .i64 0],desc:=.struct #[⟨"at",3,0,false, "", "cellular/totaltree",0⟩,⟨"s",3,1,false, "", "cellular/totaltree",8⟩],offs:=[(0,1),(1,1)] }
theorem tf172:TabFact Tryz.prog 172 ti172:=⟨by kernel_rfl,by kernel_rfl,(fun φ w F=>⟨#[.int .i64 0,.int .i64 0],rfl,csims_const (φ:=φ) (w:=w) (F:=F) [.int .i64 0,.int .i64 0]⟩),rfl,(fun fs h=>by cases h; kernel_rfl),(fun fs h=>by cases h; kernel_rfl)⟩
def ti173:TI:={ size:=1,bytes:=8,zu:=.one (.top),zv:=.nilFunc,desc:=.func #[3,88] #[4] false,offs:=[] }
theorem tf173:TabFact Tryz.prog 173 ti173:=⟨by kernel_rfl,by kernel_rfl,(fun φ w F=>csim_const (φ:=φ) (w:=w) (F:=F) (.nilFunc)),rfl,nofun,nofun⟩
def ti175:TI:={ size:=1,bytes:=8,zu:=.one (.top),zv:=.nilFunc,desc:=.func #[21] #[4] false,offs:=[] }
theorem tf175:TabFact Tryz.prog 175 ti175:=⟨by kernel_rfl,by kernel_rfl,(fun φ w F=>csim_const (φ:=φ) (w:=w) (F:=F) (.nilFunc)),rfl,nofun,nofun⟩
def ti179:TI:={ size:=1,bytes:=8,zu:=.one (.top),zv:=.pointer none,desc:=.pointer 181,offs:=[] }
theorem tf179:TabFact Tryz.prog 179 ti179:=⟨by kernel_rfl,by kernel_rfl,(fun φ w F=>csim_const (φ:=φ) (w:=w) (F:=F) (.pointer none)),rfl,nofun,nofun⟩
def ti181:TI:={ size:=6,bytes:=96,zu:=.agg [.d (.int .i64 0),.d .nil,.d .nil,.nilmap,.d .nil,.top],zv:=.agg #[.int .i64 0,.slice none 0 0,.slice none 0 0,.map none,.slice none 0 0,.nilFunc],desc:=.struct #[⟨"tree",25,0,false, "", "cellular/tabletree",0⟩,⟨"known",113,3,false, "", "cellular/tabletree",56⟩,⟨"in",29,4,false, "", "cellular/tabletree",64⟩,⟨"value",123,5,false, "", "cellular/tabletree",88⟩],offs:=[(0,3),(3,1),(4,1),(5,1)] }
theorem tf181:TabFact Tryz.prog 181 ti181:=⟨by kernel_rfl,by kernel_rfl,(fun φ w F=>⟨#[.int .i64 0,.slice none 0 0,.slice none 0 0,.map none,.slice none 0 0,.nilFunc],rfl,csims_const (φ:=φ) (w:=w) (F:=F) [.int .i64 0,.slice none 0 0,.slice none 0 0,.map none,.slice none 0 0,.nilFunc]⟩),rfl,(fun fs h=>by cases h; kernel_rfl),(fun fs h=>by cases h; kernel_rfl)⟩
def ti185:TI:={ size:=1,bytes:=8,zu:=.one (.top),zv:=.pointer none,desc:=.pointer 5,offs:=[] }
theorem tf185:TabFact Tryz.prog 185 ti185:=⟨by kernel_rfl,by kernel_rfl,(fun φ w F=>csim_const (φ:=φ) (w:=w) (F:=F) (.pointer none)),rfl,nofun,nofun⟩
def ti187:TI:={ size:=1,bytes:=8,zu:=.one (.top),zv:=.pointer none,desc:=.pointer 147,offs:=[] }
theorem tf187:TabFact Tryz.prog 187 ti187:=⟨by kernel_rfl,by kernel_rfl,(fun φ w F=>csim_const (φ:=φ) (w:=w) (F:=F) (.pointer none)),rfl,nofun,nofun⟩
def ti201:TI:={ size:=1,bytes:=8,zu:=.one (.top),zv:=.pointer none,desc:=.pointer 197,offs:=[] }
theorem tf201:TabFact Tryz.prog 201 ti201:=⟨by kernel_rfl,by kernel_rfl,(fun φ w F=>csim_const (φ:=φ) (w:=w) (F:=F) (.pointer none)),rfl,nofun,nofun⟩
def ti202:TI:={ size:=1,bytes:=24,zu:=.one (.d .nil),zv:=.slice none 0 0,desc:=.slice 204,offs:=[] }
theorem tf202:TabFact Tryz.prog 202 ti202:=⟨by kernel_rfl,by kernel_rfl,(fun φ w F=>csim_const (φ:=φ) (w:=w) (F:=F) (.slice none 0 0)),rfl,nofun,nofun⟩
def ti204:TI:={ size:=2,bytes:=16,zu:=.agg [.d (.int .i64 0),.d (.int .i64 0)],zv:=.agg #[.int .i64 0,.int .i64 0],desc:=.struct #[⟨"start",3,0,false, "", "strings",0⟩,⟨"end",3,1,false, "", "strings",8⟩],offs:=[(0,1),(1,1)] }
theorem tf204:TabFact Tryz.prog 204 ti204:=⟨by kernel_rfl,by kernel_rfl,(fun φ w F=>⟨#[.int .i64 0,.int .i64 0],rfl,csims_const (φ:=φ) (w:=w) (F:=F) [.int .i64 0,.int .i64 0]⟩),rfl,(fun fs h=>by cases h; kernel_rfl),(fun fs h=>by cases h; kernel_rfl)⟩
def ti215:TI:={ size:=1,bytes:=8,zu:=.one (.d (.int .u64 0)),zv:=.int .u64 0,desc:=.int .u64,offs:=[] }
theorem tf215:TabFact Tryz.prog 215 ti215:=⟨by kernel_rfl,by kernel_rfl,(fun φ w F=>csim_const (φ:=φ) (w:=w) (F:=F) (.int .u64 0)),rfl,nofun,nofun⟩
def ti227:TI:={ size:=1,bytes:=8,zu:=.one (.top),zv:=.nilFunc,desc:=.func #[67] #[4] false,offs:=[] }
theorem tf227:TabFact Tryz.prog 227 ti227:=⟨by kernel_rfl,by kernel_rfl,(fun φ w F=>csim_const (φ:=φ) (w:=w) (F:=F) (.nilFunc)),rfl,nofun,nofun⟩
def ti228:TI:={ size:=1,bytes:=8,zu:=.one (.top),zv:=.pointer none,desc:=.pointer 250,offs:=[] }
theorem tf228:TabFact Tryz.prog 228 ti228:=⟨by kernel_rfl,by kernel_rfl,(fun φ w F=>csim_const (φ:=φ) (w:=w) (F:=F) (.pointer none)),rfl,nofun,nofun⟩
def ti232:TI:={ size:=1,bytes:=24,zu:=.one (.d .nil),zv:=.slice none 0 0,desc:=.slice 4,offs:=[] }
theorem tf232:TabFact Tryz.prog 232 ti232:=⟨by kernel_rfl,by kernel_rfl,(fun φ w F=>csim_const (φ:=φ) (w:=w) (F:=F) (.slice none 0 0)),rfl,nofun,nofun⟩
def ti233:TI:={ size:=1,bytes:=8,zu:=.one (.top),zv:=.nilFunc,desc:=.func #[3] #[] false,offs:=[] }
theorem tf233:TabFact Tryz.prog 233 ti233:=⟨by kernel_rfl,by kernel_rfl,(fun φ w F=>csim_const (φ:=φ) (w:=w) (F:=F) (.nilFunc)),rfl,nofun,nofun⟩
def ti235:TI:={ size:=24,bytes:=24,zu:=.agg [.d (.int .u8 0),.d (.int .u8 0),.d (.int .u8 0),.d (.int .u8 0),.d (.int .u8 0),.d (.int .u8 0),.d (.int .u8 0),.d (.int .u8 0),.d (.int .u8 0),.d (.int .u8 0),.d (.int .u8 0),.d (.int .u8 0),.d (.int .u8 0),.d (.int .u8 0),.d (.int .u8 0),.d (.int .u8 0),.d (.int .u8 0),.d (.int .u8 0),.d (.int .u8 0),.d (.int .u8 0),.d (.int .u8 0),.d (.int .u8 0),.d (.int .u8 0),.d (.int .u8 0)],zv:=.agg #[.int .u8 0,.int .u8 0,.int .u8 0,.int .u8 0,.int .u8 0,.int .u8 0,.int .u8 0,.int .u8 0,.int .u8 0,.int .u8 0,.int .u8 0,.int .u8 0,.int .u8 0,.int .u8 0,.int .u8 0,.int .u8 0,.int .u8 0,.int .u8 0,.int .u8 0,.int .u8 0,.int .u8 0,.int .u8 0,.int .u8 0,.int .u8 0],desc:=.array 24 5,offs:=[] }
theorem tf235:TabFact Tryz.prog 235 ti235:=⟨by kernel_rfl,by kernel_rfl,(fun φ w F=>⟨#[.int .u8 0,.int .u8 0,.int .u8 0,.int .u8 0,.int .u8 0,.int .u8 0,.int .u8 0,.int .u8 0,.int .u8 0,.int .u8 0,.int .u8 0,.int .u8 0,.int .u8 0,.int .u8 0,.int .u8 0,.int .u8 0,.int .u8 0,.int .u8 0,.int .u8 0,.int .u8 0,.int .u8 0,.int .u8 0,.int .u8 0,.int .u8 0],rfl,csims_const (φ:=φ) (w:=w) (F:=F) [.int .u8 0,.int .u8 0,.int .u8 0,.int .u8 0,.int .u8 0,.int .u8 0,.int .u8 0,.int .u8 0,.int .u8 0,.int .u8 0,.int .u8 0,.int .u8 0,.int .u8 0,.int .u8 0,.int .u8 0,.int .u8 0,.int .u8 0,.int .u8 0,.int .u8 0,.int .u8 0,.int .u8 0,.int .u8 0,.int .u8 0,.int .u8 0]⟩),rfl,nofun,nofun⟩
def ti244:TI:={ size:=1,bytes:=8,zu:=.one (.top),zv:=.pointer none,desc:=.pointer 246,offs:=[] }
theorem tf244:TabFact Tryz.prog 244 ti244:=⟨by kernel_rfl,by kernel_rfl,(fun φ w F=>csim_const (φ:=φ) (w:=w) (F:=F) (.pointer none)),rfl,nofun,nofun⟩
def ti246:TI:={ size:=1,bytes:=16,zu:=.agg [.d (.str ⟨#[]⟩)],zv:=.agg #[.string ⟨#[]⟩],desc:=.struct #[⟨"s",9,0,false, "", "errors",0⟩],offs:=[(0,1)] }
theorem tf246:TabFact Tryz.prog 246 ti246:=⟨by kernel_rfl,by kernel_rfl,(fun φ w F=>⟨#[.string ⟨#[]⟩],rfl,csims_const (φ:=φ) (w:=w) (F:=F) [.string ⟨#[]⟩]⟩),rfl,(fun fs h=>by cases h; kernel_rfl),(fun fs h=>by cases h; kernel_rfl)⟩
def ti252:TI:={ size:=20,bytes:=160,zu:=.agg [.d (.int .u64 0),.d (.int .u64 0),.d (.int .u64 0),.d (.int .u64 0),.d (.int .u64 0),.d (.int .u64 0),.d (.int .u64 0),.d (.int .u64 0),.d (.int .u64 0),.d (.int .u64 0),.d (.int .u64 0),.d (.int .u64 0),.d (.int .u64 0),.d (.int .u64 0),.d (.int .u64 0),.d (.int .u64 0),.d (.int .u64 0),.d (.int .u64 0),.d (.int .u64 0),.d (.int .u64 0)],zv:=.agg #[.int .u64 0,.int .u64 0,.int .u64 0,.int .u64 0,.int .u64 0,.int .u64 0,.int .u64 0,.int .u64 0,.int .u64 0,.int .u64 0,.int .u64 0,.int .u64 0,.int .u64 0,.int .u64 0,.int .u64 0,.int .u64 0,.int .u64 0,.int .u64 0,.int .u64 0,.int .u64 0],desc:=.array 20 215,offs:=[] }
theorem tf252:TabFact Tryz.prog 252 ti252:=⟨by kernel_rfl,by kernel_rfl,(fun φ w F=>⟨#[.int .u64 0,.int .u64 0,.int .u64 0,.int .u64 0,.int .u64 0,.int .u64 0,.int .u64 0,.int .u64 0,.int .u64 0,.int .u64 0,.int .u64 0,.int .u64 0,.int .u64 0,.int .u64 0,.int .u64 0,.int .u64 0,.int .u64 0,.int .u64 0,.int .u64 0,.int .u64 0],rfl,csims_const (φ:=φ) (w:=w) (F:=F) [.int .u64 0,.int .u64 0,.int .u64 0,.int .u64 0,.int .u64 0,.int .u64 0,.int .u64 0,.int .u64 0,.int .u64 0,.int .u64 0,.int .u64 0,.int .u64 0,.int .u64 0,.int .u64 0,.int .u64 0,.int .u64 0,.int .u64 0,.int .u64 0,.int .u64 0,.int .u64 0]⟩),rfl,nofun,nofun⟩
def ti257:TI:={ size:=2,bytes:=2,zu:=.agg [.d (.int .u8 0),.d (.int .u8 0)],zv:=.agg #[.int .u8 0,.int .u8 0],desc:=.struct #[⟨"lo",5,0,false, "", "unicode/utf8",0⟩,⟨"hi",5,1,false, "", "unicode/utf8",1⟩],offs:=[(0,1),(1,1)] }
theorem tf257:TabFact Tryz.prog 257 ti257:=⟨by kernel_rfl,by kernel_rfl,(fun φ w F=>⟨#[.int .u8 0,.int .u8 0],rfl,csims_const (φ:=φ) (w:=w) (F:=F) [.int .u8 0,.int .u8 0]⟩),rfl,(fun fs h=>by cases h; kernel_rfl),(fun fs h=>by cases h; kernel_rfl)⟩
def ti258:TI:={ size:=32,bytes:=32,zu:=.agg [.d (.int .u8 0),.d (.int .u8 0),.d (.int .u8 0),.d (.int .u8 0),.d (.int .u8 0),.d (.int .u8 0),.d (.int .u8 0),.d (.int .u8 0),.d (.int .u8 0),.d (.int .u8 0),.d (.int .u8 0),.d (.int .u8 0),.d (.int .u8 0),.d (.int .u8 0),.d (.int .u8 0),.d (.int .u8 0),.d (.int .u8 0),.d (.int .u8 0),.d (.int .u8 0),.d (.int .u8 0),.d (.int .u8 0),.d (.int .u8 0),.d (.int .u8 0),.d (.int .u8 0),.d (.int .u8 0),.d (.int .u8 0),.d (.int .u8 0),.d (.int .u8 0),.d (.int .u8 0),.d (.int .u8 0),.d (.int .u8 0),.d (.int .u8 0)],zv:=.agg #[.int .u8 0,.int .u8 0,.int .u8 0,.int .u8 0,.int .u8 0,.int .u8 0,.int .u8 0,.int .u8 0,.int .u8 0,.int .u8 0,.int .u8 0,.int .u8 0,.int .u8 0,.int .u8 0,.int .u8 0,.int .u8 0,.int .u8 0,.int .u8 0,.int .u8 0,.int .u8 0,.int .u8 0,.int .u8 0,.int .u8 0,.int .u8 0,.int .u8 0,.int .u8 0,.int .u8 0,.int .u8 0,.int .u8 0,.int .u8 0,.int .u8 0,.int .u8 0],desc:=.array 16 257,offs:=[] }
theorem tf258:TabFact Tryz.prog 258 ti258:=⟨by kernel_rfl,by kernel_rfl,(fun φ w F=>⟨#[.int .u8 0,.int .u8 0,.int .u8 0,.int .u8 0,.int .u8 0,.int .u8 0,.int .u8 0,.int .u8 0,.int .u8 0,.int .u8 0,.int .u8 0,.int .u8 0,.int .u8 0,.int .u8 0,.int .u8 0,.int .u8 0,.int .u8 0,.int .u8 0,.int .u8 0,.int .u8 0,.int .u8 0,.int .u8 0,.int .u8 0,.int .u8 0,.int .u8 0,.int .u8 0,.int .u8 0,.int .u8 0,.int .u8 0,.int .u8 0,.int .u8 0,.int .u8 0],rfl,csims_const (φ:=φ) (w:=w) (F:=F) [.int .u8 0,.int .u8 0,.int .u8 0,.int .u8 0,.int .u8 0,.int .u8 0,.int .u8 0,.int .u8 0,.int .u8 0,.int .u8 0,.int .u8 0,.int .u8 0,.int .u8 0,.int .u8 0,.int .u8 0,.int .u8 0,.int .u8 0,.int .u8 0,.int .u8 0,.int .u8 0,.int .u8 0,.int .u8 0,.int .u8 0,.int .u8 0,.int .u8 0,.int .u8 0,.int .u8 0,.int .u8 0,.int .u8 0,.int .u8 0,.int .u8 0,.int .u8 0]⟩),rfl,nofun,nofun⟩
def ti260:TI:={ size:=32,bytes:=32,zu:=.agg [.d (.int .u8 0),.d (.int .u8 0),.d (.int .u8 0),.d (.int .u8 0),.d (.int .u8 0),.d (.int .u8 0),.d (.int .u8 0),.d (.int .u8 0),.d (.int .u8 0),.d (.int .u8 0),.d (.int .u8 0),.d (.int .u8 0),.d (.int .u8 0),.d (.int .u8 0),.d (.int .u8 0),.d (.int .u8 0),.d (.int .u8 0),.d (.int .u8 0),.d (.int .u8 0),.d (.int .u8 0),.d (.int .u8 0),.d (.int .u8 0),.d (.int .u8 0),.d (.int .u8 0),.d (.int .u8 0),.d (.int .u8 0),.d (.int .u8 0),.d (.int .u8 0),.d (.int .u8 0),.d (.int .u8 0),.d (.int .u8 0),.d (.int .u8 0)],zv:=.agg #[.int .u8 0,.int .u8 0,.int .u8 0,.int .u8 0,.int .u8 0,.int .u8 0,.int .u8 0,.int .u8 0,.int .u8 0,.int .u8 0,.int .u8 0,.int .u8 0,.int .u8 0,.int .u8 0,.int .u8 0,.int .u8 0,.int .u8 0,.int .u8 0,.int .u8 0,.int .u8 0,.int .u8 0,.int .u8 0,.int .u8 0,.int .u8 0,.int .u8 0,.int .u8 0,.int .u8 0,.int .u8 0,.int .u8 0,.int .u8 0,.int .u8 0,.int .u8 0],desc:=.array 32 5,offs:=[] }
theorem tf260:TabFact Tryz.prog 260 ti260:=⟨by kernel_rfl,by kernel_rfl,(fun φ w F=>⟨#[.int .u8 0,.int .u8 0,.int .u8 0,.int .u8 0,.int .u8 0,.int .u8 0,.int .u8 0,.int .u8 0,.int .u8 0,.int .u8 0,.int .u8 0,.int .u8 0,.int .u8 0,.int .u8 0,.int .u8 0,.int .u8 0,.int .u8 0,.int .u8 0,.int .u8 0,.int .u8 0,.int .u8 0,.int .u8 0,.int .u8 0,.int .u8 0,.int .u8 0,.int .u8 0,.int .u8 0,.int .u8 0,.int .u8 0,.int .u8 0,.int .u8 0,.int .u8 0],rfl,csims_const (φ:=φ) (w:=w) (F:=F) [.int .u8 0,.int .u8 0,.int .u8 0,.int .u8 0,.int .u8 0,.int .u8 0,.int .u8 0,.int .u8 0,.int .u8 0,.int .u8 0,.int .u8 0,.int .u8 0,.int .u8 0,.int .u8 0,.int .u8 0,.int .u8 0,.int .u8 0,.int .u8 0,.int .u8 0,.int .u8 0,.int .u8 0,.int .u8 0,.int .u8 0,.int .u8 0,.int .u8 0,.int .u8 0,.int .u8 0,.int .u8 0,.int .u8 0,.int .u8 0,.int .u8 0,.int .u8 0]⟩),rfl,nofun,nofun⟩
def ty:Tab:=fun t=>match t with
 | 2=>some ti2
 | 3=>some ti3
 | 4=>some ti4
 | 5=>some ti5
 | 9=>some ti9
 | 21=>some ti21
 | 22=>some ti22
 | 23=>some ti23
 | 25=>some ti25
 | 29=>some ti29
 | 32=>some ti32
 | 33=>some ti33
 | 45=>some ti45
 | 52=>some ti52
 | 53=>some ti53
 | 55=>some ti55
 | 62=>some ti62
 | 67=>some ti67
 | 75=>some ti75
 | 88=>some ti88
 | 92=>some ti92
 | 97=>some ti97
 | 98=>some ti98
 | 100=>some ti100
 | 106=>some ti106
 | 110=>some ti110
 | 111=>some ti111
 | 112=>some ti112
 | 113=>some ti113
 | 115=>some ti115
 | 117=>some ti117
 | 123=>some ti123
 | 124=>some ti124
 | 125=>some ti125
 | 127=>some ti127
 | 135=>some ti135
 | 137=>some ti137
 | 141=>some ti141
 | 142=>some ti142
 | 143=>some ti143
 | 147=>some ti147
 | 151=>some ti151
 | 157=>some ti157
 | 162=>some ti162
 | 163=>some ti163
 | 165=>some ti165
 | 169=>some ti169
 | 170=>some ti170
 | 172=>some ti172
 | 173=>some ti173
 | 175=>some ti175
 | 179=>some ti179
 | 181=>some ti181
 | 185=>some ti185
 | 187=>some ti187
 | 201=>some ti201
 | 202=>some ti202
 | 204=>some ti204
 | 215=>some ti215
 | 227=>some ti227
 | 228=>some ti228
 | 232=>some ti232
 | 233=>some ti233
 | 235=>some ti235
 | 244=>some ti244
 | 246=>some ti246
 | 252=>some ti252
 | 257=>some ti257
 | 258=>some ti258
 | 260=>some ti260
 | _=>none
theorem ty_ok:TabOk Tryz.prog ty:=by
 intro t ti h
 unfold ty at h
 split at h
 ·cases h; exact tf2
 ·cases h; exact tf3
 ·cases h; exact tf4
 ·cases h; exact tf5
 ·cases h; exact tf9
 ·cases h; exact tf21
 ·cases h; exact tf22
 ·cases h; exact tf23
 ·cases h; exact tf25
 ·cases h; exact tf29
 ·cases h; exact tf32
 ·cases h; exact tf33
 ·cases h; exact tf45
 ·cases h; exact tf52
 ·cases h; exact tf53
 ·cases h; exact tf55
 ·cases h; exact tf62
 ·cases h; exact tf67
 ·cases h; exact tf75
 ·cases h; exact tf88
 ·cases h; exact tf92
 ·cases h; exact tf97
 ·cases h; exact tf98
 ·cases h; exact tf100
 ·cases h; exact tf106
 ·cases h; exact tf110
 ·cases h; exact tf111
 ·cases h; exact tf112
 ·cases h; exact tf113
 ·cases h; exact tf115
 ·cases h; exact tf117
 ·cases h; exact tf123
 ·cases h; exact tf124
 ·cases h; exact tf125
 ·cases h; exact tf127
 ·cases h; exact tf135
 ·cases h; exact tf137
 ·cases h; exact tf141
 ·cases h; exact tf142
 ·cases h; exact tf143
 ·cases h; exact tf147
 ·cases h; exact tf151
 ·cases h; exact tf157
 ·cases h; exact tf162
 ·cases h; exact tf163
 ·cases h; exact tf165
 ·cases h; exact tf169
 ·cases h; exact tf170
 ·cases h; exact tf172
 ·cases h; exact tf173
 ·cases h; exact tf175
 ·cases h; exact tf179
 ·cases h; exact tf181
 ·cases h; exact tf185
 ·cases h; exact tf187
 ·cases h; exact tf201
 ·cases h; exact tf202
 ·cases h; exact tf204
 ·cases h; exact tf215
 ·cases h; exact tf227
 ·cases h; exact tf228
 ·cases h; exact tf232
 ·cases h; exact tf233
 ·cases h; exact tf235
 ·cases h; exact tf244
 ·cases h; exact tf246
 ·cases h; exact tf252
 ·cases h; exact tf257
 ·cases h; exact tf258
 ·cases h; exact tf260
 ·cases h
def eqn:TypeId->Option Nat:=fun t=>match t with
 | 67=>some 2
 | 97=>some 2
 | 172=>some 2
 | 204=>some 2
 | 257=>some 2
 | 106=>some 8
 | 142=>some 4
 | _=>none
theorem ef67:intFields Tryz.prog 67 2:=by
 refine .inl ⟨#[⟨"X",3,0,false, "", "",0⟩,⟨"Y",3,1,false, "", "",8⟩],by kernel_rfl,by kernel_rfl,by kernel_rfl,rfl,fun i f h=>?_⟩
 match i,h with
 | 0,h=>cases h; exact⟨by decide,rfl,.i64,by kernel_rfl⟩
 | 1,h=>cases h; exact⟨by decide,rfl,.i64,by kernel_rfl⟩
 | i+2,h=>simp at h
theorem ef97:intFields Tryz.prog 97 2:=by
 refine .inl ⟨#[⟨"ones",3,0,false, "", "cellular/totaltree",0⟩,⟨"centre",3,1,false, "", "cellular/totaltree",8⟩],by kernel_rfl,by kernel_rfl,by kernel_rfl,rfl,fun i f h=>?_⟩
 match i,h with
 | 0,h=>cases h; exact⟨by decide,rfl,.i64,by kernel_rfl⟩
 | 1,h=>cases h; exact⟨by decide,rfl,.i64,by kernel_rfl⟩
 | i+2,h=>simp at h
theorem ef172:intFields Tryz.prog 172 2:=by
 refine .inl ⟨#[⟨"at",3,0,false, "", "cellular/totaltree",0⟩,⟨"s",3,1,false, "", "cellular/totaltree",8⟩],by kernel_rfl,by kernel_rfl,by kernel_rfl,rfl,fun i f h=>?_⟩
 match i,h with
 | 0,h=>cases h; exact⟨by decide,rfl,.i64,by kernel_rfl⟩
 | 1,h=>cases h; exact⟨by decide,rfl,.i64,by kernel_rfl⟩
 | i+2,h=>simp at h
theorem ef204:intFields Tryz.prog 204 2:=by
 refine .inl ⟨#[⟨"start",3,0,false, "", "strings",0⟩,⟨"end",3,1,false, "", "strings",8⟩],by kernel_rfl,by kernel_rfl,by kernel_rfl,rfl,fun i f h=>?_⟩
 match i,h with
 | 0,h=>cases h; exact⟨by decide,rfl,.i64,by kernel_rfl⟩
 | 1,h=>cases h; exact⟨by decide,rfl,.i64,by kernel_rfl⟩
 | i+2,h=>simp at h
theorem ef257:intFields Tryz.prog 257 2:=by
 refine .inl ⟨#[⟨"lo",5,0,false, "", "unicode/utf8",0⟩,⟨"hi",5,1,false, "", "unicode/utf8",1⟩],by kernel_rfl,by kernel_rfl,by kernel_rfl,rfl,fun i f h=>?_⟩
 match i,h with
 | 0,h=>cases h; exact⟨by decide,rfl,.u8,by kernel_rfl⟩
 | 1,h=>cases h; exact⟨by decide,rfl,.u8,by kernel_rfl⟩
 | i+2,h=>simp at h
theorem ef106:intFields Tryz.prog 106 8:=by
 obtain⟨i,hi⟩:=Option.isSome_iff_exists.1 (show (Tryz.prog.info? 3).isSome=true by kernel_rfl)
 exact .inr ⟨3,i,.i64,by kernel_rfl,hi,by kernel_rfl,by kernel_rfl,by kernel_rfl⟩
theorem ef142:intFields Tryz.prog 142 4:=by
 obtain⟨i,hi⟩:=Option.isSome_iff_exists.1 (show (Tryz.prog.info? 3).isSome=true by kernel_rfl)
 exact .inr ⟨3,i,.i64,by kernel_rfl,hi,by kernel_rfl,by kernel_rfl,by kernel_rfl⟩
theorem eqn_ok:∀ t n,eqn t=some n->intFields Tryz.prog t n:=by
 intro t n h
 unfold eqn at h
 split at h
 ·cases h; exact ef67
 ·cases h; exact ef97
 ·cases h; exact ef172
 ·cases h; exact ef204
 ·cases h; exact ef257
 ·cases h; exact ef106
 ·cases h; exact ef142
 ·cases h
def key:TypeId->Option KK:=fun t=>match t with
 | 9=>some .str
 | 165=>some (.ints 3)
 | 172=>some (.ints 2)
 | _=>none
theorem kf9:Maps.Keyed Tryz.prog 9/\∀ k:Key,k.fits .str=true->∃ l,keyOf Tryz.prog 9 k.val=some l:=key_str (by kernel_rfl)
theorem kf165:Maps.Keyed Tryz.prog 165/\∀ k:Key,k.fits (.ints 3)=true->∃ l,keyOf Tryz.prog 165 k.val=some l:=key_nest (d:=3) (fs:=#[⟨"at",3,0,false, "", "cellular/totaltree",0⟩,⟨"s",97,1,false, "", "cellular/totaltree",8⟩]) (by kernel_rfl) (by kernel_rfl) (by kernel_rfl) (by kernel_rfl) (by kernel_rfl) (by kernel_rfl) (.inr ⟨#[⟨"at",3,0,false, "", "cellular/totaltree",0⟩,⟨"s",97,1,false, "", "cellular/totaltree",8⟩],by kernel_rfl,by kernel_rfl,fun i f h=>match i,h with | 0,h=>by cases h; exact⟨by decide,1,(.inl ⟨by kernel_rfl,rfl⟩),by kernel_rfl,by decide⟩ | 1,h=>by cases h; exact⟨by decide,2,(.inr ⟨#[⟨"ones",3,0,false, "", "cellular/totaltree",0⟩,⟨"centre",3,1,false, "", "cellular/totaltree",8⟩],by kernel_rfl,by kernel_rfl,fun i f h=>match i,h with | 0,h=>by cases h; exact⟨by decide,1,(.inl ⟨by kernel_rfl,rfl⟩),by kernel_rfl,by decide⟩ | 1,h=>by cases h; exact⟨by decide,1,(.inl ⟨by kernel_rfl,rfl⟩),by kernel_rfl,by decide⟩ | i+2,h=>by simp at h⟩),by kernel_rfl,by decide⟩ | i+2,h=>by simp at h⟩) (by kernel_rfl)
theorem kf172:Maps.Keyed Tryz.prog 172/\∀ k:Key,k.fits (.ints 2)=true->∃ l,keyOf Tryz.prog 172 k.val=some l :=
 key_ints (fs:=#[⟨"at",3,0,false, "", "cellular/totaltree",0⟩,⟨"s",3,1,false, "", "cellular/totaltree",8⟩]) (by kernel_rfl) (by kernel_rfl) (by kernel_rfl) (by kernel_rfl) (by kernel_rfl) (by kernel_rfl) (by
  intro i f h
  match i,h with
  | 0,h=>cases h; exact⟨by decide,rfl,by kernel_rfl,by kernel_rfl⟩
  | 1,h=>cases h; exact⟨by decide,rfl,by kernel_rfl,by kernel_rfl⟩
  | i+2,h=>simp at h)
theorem key_ok:∀ t kk,key t=some kk->Maps.Keyed Tryz.prog t/\∀ k:Key,k.fits kk=true->∃ l,keyOf Tryz.prog t k.val=some l:=by
 intro t kk h
 unfold key at h
 split at h
 ·cases h; exact kf9
 ·cases h; exact kf165
 ·cases h; exact kf172
 ·cases h
def tb:Tb:={ ty:=ty,eqn:=eqn,key:=key }
theorem bj:TbOk Tryz.prog tb:=⟨ty_ok,eqn_ok,key_ok,(fun _ _ _ h=>by cases h),(fun _ _ _ _ _ _ _ _ _ h=>by cases h)⟩
theorem mixed:Tryz.prog.follows .mixedOrders=true:=by kernel_rfl
end Go.Proofs.YtcllfealpkhjfaaGreatDoor
