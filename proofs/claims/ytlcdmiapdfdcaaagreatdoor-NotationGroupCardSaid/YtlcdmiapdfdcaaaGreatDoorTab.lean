/- The table of the types of this seat, made by program (gen_tab.py), and that it holds. -/
import Derived.Test.YtlcdmiapdfdcaaaGreatDoorRows
import Derived.Test.YtlcdmiapdfdcaaaGreatDoorAmO
namespace Go.Proofs.YtlcdmiapdfdcaaaGreatDoor
open Go.AM Go.Proofs
def ti2:TI:={ size:=1,bytes:=8,zu:=.one (.d (.int .i64 0)),zv:=.int .i64 0,desc:=.int .i64,offs:=[] }
theorem tf2:TabFact Tryz.prog 2 ti2:=⟨by kernel_rfl,by kernel_rfl,(fun Z w F=>csim_const (Z:=Z) (w:=w) (F:=F) (.int .i64 0)),rfl,nofun,nofun⟩
def ti3:TI:={ size:=1,bytes:=8,zu:=.one (.d (.int .i64 0)),zv:=.int .i64 0,desc:=.int .i64,offs:=[] }
theorem tf3:TabFact Tryz.prog 3 ti3:=⟨by kernel_rfl,by kernel_rfl,(fun Z w F=>csim_const (Z:=Z) (w:=w) (F:=F) (.int .i64 0)),rfl,nofun,nofun⟩
def ti4:TI:={ size:=1,bytes:=1,zu:=.one (.d (.bool false)),zv:=.bool false,desc:=.bool,offs:=[] }
theorem tf4:TabFact Tryz.prog 4 ti4:=⟨by kernel_rfl,by kernel_rfl,(fun Z w F=>csim_const (Z:=Z) (w:=w) (F:=F) (.bool false)),rfl,nofun,nofun⟩
def ti5:TI:={ size:=1,bytes:=1,zu:=.one (.d (.int .u8 0)),zv:=.int .u8 0,desc:=.int .u8,offs:=[] }
theorem tf5:TabFact Tryz.prog 5 ti5:=⟨by kernel_rfl,by kernel_rfl,(fun Z w F=>csim_const (Z:=Z) (w:=w) (F:=F) (.int .u8 0)),rfl,nofun,nofun⟩
def ti9:TI:={ size:=1,bytes:=16,zu:=.one (.d (.str ⟨#[]⟩)),zv:=.string ⟨#[]⟩,desc:=.string,offs:=[] }
theorem tf9:TabFact Tryz.prog 9 ti9:=⟨by kernel_rfl,by kernel_rfl,(fun Z w F=>csim_const (Z:=Z) (w:=w) (F:=F) (.string ⟨#[]⟩)),rfl,nofun,nofun⟩
def ti21:TI:={ size:=1,bytes:=4,zu:=.one (.d (.int .i32 0)),zv:=.int .i32 0,desc:=.int .i32,offs:=[] }
theorem tf21:TabFact Tryz.prog 21 ti21:=⟨by kernel_rfl,by kernel_rfl,(fun Z w F=>csim_const (Z:=Z) (w:=w) (F:=F) (.int .i32 0)),rfl,nofun,nofun⟩
def ti22:TI:={ size:=1,bytes:=24,zu:=.one (.d .nil),zv:=.slice none 0 0,desc:=.slice 49,offs:=[] }
theorem tf22:TabFact Tryz.prog 22 ti22:=⟨by kernel_rfl,by kernel_rfl,(fun Z w F=>csim_const (Z:=Z) (w:=w) (F:=F) (.slice none 0 0)),rfl,nofun,nofun⟩
def ti23:TI:={ size:=1,bytes:=24,zu:=.one (.d .nil),zv:=.slice none 0 0,desc:=.slice 37,offs:=[] }
theorem tf23:TabFact Tryz.prog 23 ti23:=⟨by kernel_rfl,by kernel_rfl,(fun Z w F=>csim_const (Z:=Z) (w:=w) (F:=F) (.slice none 0 0)),rfl,nofun,nofun⟩
def ti25:TI:={ size:=3,bytes:=56,zu:=.agg [.d (.int .i64 0),.d .nil,.d .nil],zv:=.agg #[.int .i64 0,.slice none 0 0,.slice none 0 0],desc:=.struct #[⟨"States",3,0,false, "", "",0⟩,⟨"Hood",22,1,false, "", "",8⟩,⟨"Nodes",23,2,false, "", "",32⟩],offs:=[(0,1),(1,1),(2,1)] }
theorem tf25:TabFact Tryz.prog 25 ti25:=⟨by kernel_rfl,by kernel_rfl,(fun Z w F=>⟨#[.int .i64 0,.slice none 0 0,.slice none 0 0],rfl,csims_const (Z:=Z) (w:=w) (F:=F) [.int .i64 0,.slice none 0 0,.slice none 0 0]⟩),rfl,(fun fs h=>by cases h; kernel_rfl),(fun fs h=>by cases h; kernel_rfl)⟩
def ti29:TI:={ size:=1,bytes:=24,zu:=.one (.d .nil),zv:=.slice none 0 0,desc:=.slice 3,offs:=[] }
theorem tf29:TabFact Tryz.prog 29 ti29:=⟨by kernel_rfl,by kernel_rfl,(fun Z w F=>csim_const (Z:=Z) (w:=w) (F:=F) (.slice none 0 0)),rfl,nofun,nofun⟩
def ti32:TI:={ size:=1,bytes:=8,zu:=.one (.d (.int .i64 0)),zv:=.int .i64 0,desc:=.int .i64,offs:=[] }
theorem tf32:TabFact Tryz.prog 32 ti32:=⟨by kernel_rfl,by kernel_rfl,(fun Z w F=>csim_const (Z:=Z) (w:=w) (F:=F) (.int .i64 0)),rfl,nofun,nofun⟩
def ti37:TI:={ size:=2,bytes:=32,zu:=.agg [.d (.int .i64 0),.d .nil],zv:=.agg #[.int .i64 0,.slice none 0 0],desc:=.struct #[⟨"Level",3,0,false, "", "",0⟩,⟨"Next",29,1,false, "", "",8⟩],offs:=[(0,1),(1,1)] }
theorem tf37:TabFact Tryz.prog 37 ti37:=⟨by kernel_rfl,by kernel_rfl,(fun Z w F=>⟨#[.int .i64 0,.slice none 0 0],rfl,csims_const (Z:=Z) (w:=w) (F:=F) [.int .i64 0,.slice none 0 0]⟩),rfl,(fun fs h=>by cases h; kernel_rfl),(fun fs h=>by cases h; kernel_rfl)⟩
def ti45:TI:={ size:=8,bytes:=8,zu:=.agg [.d (.bool false),.d (.bool false),.d (.bool false),.d (.bool false),.d (.bool false),.d (.bool false),.d (.bool false),.d (.bool false)],zv:=.agg #[.bool false,.bool false,.bool false,.bool false,.bool false,.bool false,.bool false,.bool false],desc:=.array 8 4,offs:=[] }
theorem tf45:TabFact Tryz.prog 45 ti45:=⟨by kernel_rfl,by kernel_rfl,(fun Z w F=>⟨#[.bool false,.bool false,.bool false,.bool false,.bool false,.bool false,.bool false,.bool false],rfl,csims_const (Z:=Z) (w:=w) (F:=F) [.bool false,.bool false,.bool false,.bool false,.bool false,.bool false,.bool false,.bool false]⟩),rfl,nofun,nofun⟩
def ti49:TI:={ size:=2,bytes:=16,zu:=.agg [.d (.int .i64 0),.d (.int .i64 0)],zv:=.agg #[.int .i64 0,.int .i64 0],desc:=.struct #[⟨"X",3,0,false, "", "",0⟩,⟨"Y",3,1,false, "", "",8⟩],offs:=[(0,1),(1,1)] }
theorem tf49:TabFact Tryz.prog 49 ti49:=⟨by kernel_rfl,by kernel_rfl,(fun Z w F=>⟨#[.int .i64 0,.int .i64 0],rfl,csims_const (Z:=Z) (w:=w) (F:=F) [.int .i64 0,.int .i64 0]⟩),rfl,(fun fs h=>by cases h; kernel_rfl),(fun fs h=>by cases h; kernel_rfl)⟩
def ti57:TI:={ size:=4,bytes:=80,zu:=.agg [.d .nil,.d (.int .i64 0),.d .nil,.d .nil],zv:=.agg #[.slice none 0 0,.int .i64 0,.slice none 0 0,.slice none 0 0],desc:=.struct #[⟨"Hood",22,0,false, "", "",0⟩,⟨"States",3,1,false, "", "",24⟩,⟨"Birth",29,2,false, "", "",32⟩,⟨"Survive",29,3,false, "", "",56⟩],offs:=[(0,1),(1,1),(2,1),(3,1)] }
theorem tf57:TabFact Tryz.prog 57 ti57:=⟨by kernel_rfl,by kernel_rfl,(fun Z w F=>⟨#[.slice none 0 0,.int .i64 0,.slice none 0 0,.slice none 0 0],rfl,csims_const (Z:=Z) (w:=w) (F:=F) [.slice none 0 0,.int .i64 0,.slice none 0 0,.slice none 0 0]⟩),rfl,(fun fs h=>by cases h; kernel_rfl),(fun fs h=>by cases h; kernel_rfl)⟩
def ti64:TI:={ size:=1,bytes:=24,zu:=.one (.d .nil),zv:=.slice none 0 0,desc:=.slice 29,offs:=[] }
theorem tf64:TabFact Tryz.prog 64 ti64:=⟨by kernel_rfl,by kernel_rfl,(fun Z w F=>csim_const (Z:=Z) (w:=w) (F:=F) (.slice none 0 0)),rfl,nofun,nofun⟩
def ti65:TI:={ size:=1,bytes:=24,zu:=.one (.d .nil),zv:=.slice none 0 0,desc:=.slice 154,offs:=[] }
theorem tf65:TabFact Tryz.prog 65 ti65:=⟨by kernel_rfl,by kernel_rfl,(fun Z w F=>csim_const (Z:=Z) (w:=w) (F:=F) (.slice none 0 0)),rfl,nofun,nofun⟩
def ti67:TI:={ size:=5,bytes:=88,zu:=.agg [.d (.int .i64 0),.d (.int .i64 0),.d .nil,.d .nil,.d .nil],zv:=.agg #[.int .i64 0,.int .i64 0,.slice none 0 0,.slice none 0 0,.slice none 0 0],desc:=.struct #[⟨"States",3,0,false, "", "",0⟩,⟨"Sym",3,1,false, "", "",8⟩,⟨"Hood",22,2,false, "", "",16⟩,⟨"Vars",64,3,false, "", "",40⟩,⟨"Rows",65,4,false, "", "",64⟩],offs:=[(0,1),(1,1),(2,1),(3,1),(4,1)] }
theorem tf67:TabFact Tryz.prog 67 ti67:=⟨by kernel_rfl,by kernel_rfl,(fun Z w F=>⟨#[.int .i64 0,.int .i64 0,.slice none 0 0,.slice none 0 0,.slice none 0 0],rfl,csims_const (Z:=Z) (w:=w) (F:=F) [.int .i64 0,.int .i64 0,.slice none 0 0,.slice none 0 0,.slice none 0 0]⟩),rfl,(fun fs h=>by cases h; kernel_rfl),(fun fs h=>by cases h; kernel_rfl)⟩
def ti74:TI:={ size:=1,bytes:=8,zu:=.one (.top),zv:=.nilFunc,desc:=.func #[3] #[4] false,offs:=[] }
theorem tf74:TabFact Tryz.prog 74 ti74:=⟨by kernel_rfl,by kernel_rfl,(fun Z w F=>csim_const (Z:=Z) (w:=w) (F:=F) (.nilFunc)),rfl,nofun,nofun⟩
def ti78:TI:={ size:=1,bytes:=24,zu:=.one (.d .nil),zv:=.slice none 0 0,desc:=.slice 25,offs:=[] }
theorem tf78:TabFact Tryz.prog 78 ti78:=⟨by kernel_rfl,by kernel_rfl,(fun Z w F=>csim_const (Z:=Z) (w:=w) (F:=F) (.slice none 0 0)),rfl,nofun,nofun⟩
def ti84:TI:={ size:=1,bytes:=24,zu:=.one (.d .nil),zv:=.slice none 0 0,desc:=.slice 85,offs:=[] }
theorem tf84:TabFact Tryz.prog 84 ti84:=⟨by kernel_rfl,by kernel_rfl,(fun Z w F=>csim_const (Z:=Z) (w:=w) (F:=F) (.slice none 0 0)),rfl,nofun,nofun⟩
def ti85:TI:={ size:=4,bytes:=32,zu:=.agg [.d (.int .i64 0),.d (.int .i64 0),.d (.int .i64 0),.d (.int .i64 0)],zv:=.agg #[.int .i64 0,.int .i64 0,.int .i64 0,.int .i64 0],desc:=.array 4 3,offs:=[] }
theorem tf85:TabFact Tryz.prog 85 ti85:=⟨by kernel_rfl,by kernel_rfl,(fun Z w F=>⟨#[.int .i64 0,.int .i64 0,.int .i64 0,.int .i64 0],rfl,csims_const (Z:=Z) (w:=w) (F:=F) [.int .i64 0,.int .i64 0,.int .i64 0,.int .i64 0]⟩),rfl,nofun,nofun⟩
def ti86:TI:={ size:=32,bytes:=256,zu:=.agg [.d (.int .i64 0),.d (.int .i64 0),.d (.int .i64 0),.d (.int .i64 0),.d (.int .i64 0),.d (.int .i64 0),.d (.int .i64 0),.d (.int .i64 0),.d (.int .i64 0),.d (.int .i64 0),.d (.int .i64 0),.d (.int .i64 0),.d (.int .i64 0),.d (.int .i64 0),.d (.int .i64 0),.d (.int .i64 0),.d (.int .i64 0),.d (.int .i64 0),.d (.int .i64 0),.d (.int .i64 0),.d (.int .i64 0),.d (.int .i64 0),.d (.int .i64 0),.d (.int .i64 0),.d (.int .i64 0),.d (.int .i64 0),.d (.int .i64 0),.d (.int .i64 0),.d (.int .i64 0),.d (.int .i64 0),.d (.int .i64 0),.d (.int .i64 0)],zv:=.agg #[.int .i64 0,.int .i64 0,.int .i64 0,.int .i64 0,.int .i64 0,.int .i64 0,.int .i64 0,.int .i64 0,.int .i64 0,.int .i64 0,.int .i64 0,.int .i64 0,.int .i64 0,.int .i64 0,.int .i64 0,.int .i64 0,.int .i64 0,.int .i64 0,.int .i64 0,.int .i64 0,.int .i64 0,.int .i64 0,.int .i64 0,.int .i64 0,.int .i64 0,.int .i64 0,.int .i64 0,.int .i64 0,.int .i64 0,.int .i64 0,.int .i64 0,.int .i64 0],desc:=.array 8 85,offs:=[] }
theorem tf86:TabFact Tryz.prog 86 ti86:=⟨by kernel_rfl,by kernel_rfl,(fun Z w F=>⟨#[.int .i64 0,.int .i64 0,.int .i64 0,.int .i64 0,.int .i64 0,.int .i64 0,.int .i64 0,.int .i64 0,.int .i64 0,.int .i64 0,.int .i64 0,.int .i64 0,.int .i64 0,.int .i64 0,.int .i64 0,.int .i64 0,.int .i64 0,.int .i64 0,.int .i64 0,.int .i64 0,.int .i64 0,.int .i64 0,.int .i64 0,.int .i64 0,.int .i64 0,.int .i64 0,.int .i64 0,.int .i64 0,.int .i64 0,.int .i64 0,.int .i64 0,.int .i64 0],rfl,csims_const (Z:=Z) (w:=w) (F:=F) [.int .i64 0,.int .i64 0,.int .i64 0,.int .i64 0,.int .i64 0,.int .i64 0,.int .i64 0,.int .i64 0,.int .i64 0,.int .i64 0,.int .i64 0,.int .i64 0,.int .i64 0,.int .i64 0,.int .i64 0,.int .i64 0,.int .i64 0,.int .i64 0,.int .i64 0,.int .i64 0,.int .i64 0,.int .i64 0,.int .i64 0,.int .i64 0,.int .i64 0,.int .i64 0,.int .i64 0,.int .i64 0,.int .i64 0,.int .i64 0,.int .i64 0,.int .i64 0]⟩),rfl,nofun,nofun⟩
def ti88:TI:={ size:=1,bytes:=8,zu:=.one (.top),zv:=.nilFunc,desc:=.func #[3,29] #[29] false,offs:=[] }
theorem tf88:TabFact Tryz.prog 88 ti88:=⟨by kernel_rfl,by kernel_rfl,(fun Z w F=>csim_const (Z:=Z) (w:=w) (F:=F) (.nilFunc)),rfl,nofun,nofun⟩
def ti90:TI:={ size:=1,bytes:=8,zu:=.one (.nilmap),zv:=.map none,desc:=.map 9 3,offs:=[] }
theorem tf90:TabFact Tryz.prog 90 ti90:=⟨by kernel_rfl,by kernel_rfl,(fun Z w F=>csim_const (Z:=Z) (w:=w) (F:=F) (.map none)),rfl,nofun,nofun⟩
def ti92:TI:={ size:=2,bytes:=32,zu:=.agg [.d .nil,.nilmap],zv:=.agg #[.slice none 0 0,.map none],desc:=.struct #[⟨"nodes",23,0,false, "", "cellular/reduce",0⟩,⟨"known",90,1,false, "", "cellular/reduce",24⟩],offs:=[(0,1),(1,1)] }
theorem tf92:TabFact Tryz.prog 92 ti92:=⟨by kernel_rfl,by kernel_rfl,(fun Z w F=>⟨#[.slice none 0 0,.map none],rfl,csims_const (Z:=Z) (w:=w) (F:=F) [.slice none 0 0,.map none]⟩),rfl,(fun fs h=>by cases h; kernel_rfl),(fun fs h=>by cases h; kernel_rfl)⟩
def ti96:TI:={ size:=1,bytes:=8,zu:=.one (.top),zv:=.nilFunc,desc:=.func #[37,37] #[4] false,offs:=[] }
theorem tf96:TabFact Tryz.prog 96 ti96:=⟨by kernel_rfl,by kernel_rfl,(fun Z w F=>csim_const (Z:=Z) (w:=w) (F:=F) (.nilFunc)),rfl,nofun,nofun⟩
def ti106:TI:={ size:=1,bytes:=24,zu:=.one (.d .nil),zv:=.slice none 0 0,desc:=.slice 9,offs:=[] }
theorem tf106:TabFact Tryz.prog 106 ti106:=⟨by kernel_rfl,by kernel_rfl,(fun Z w F=>csim_const (Z:=Z) (w:=w) (F:=F) (.slice none 0 0)),rfl,nofun,nofun⟩
def ti110:TI:={ size:=1,bytes:=16,zu:=.one (.d .ni),zv:=.nilIface,desc:=.interface #[("Error",148)],offs:=[] }
theorem tf110:TabFact Tryz.prog 110 ti110:=⟨by kernel_rfl,by kernel_rfl,(fun Z w F=>csim_const (Z:=Z) (w:=w) (F:=F) (.nilIface)),rfl,nofun,nofun⟩
def ti115:TI:={ size:=2,bytes:=16,zu:=.agg [.d (.int .i64 0),.d (.int .i64 0)],zv:=.agg #[.int .i64 0,.int .i64 0],desc:=.struct #[⟨"ones",3,0,false, "", "cellular/totaltree",0⟩,⟨"centre",3,1,false, "", "cellular/totaltree",8⟩],offs:=[(0,1),(1,1)] }
theorem tf115:TabFact Tryz.prog 115 ti115:=⟨by kernel_rfl,by kernel_rfl,(fun Z w F=>⟨#[.int .i64 0,.int .i64 0],rfl,csims_const (Z:=Z) (w:=w) (F:=F) [.int .i64 0,.int .i64 0]⟩),rfl,(fun fs h=>by cases h; kernel_rfl),(fun fs h=>by cases h; kernel_rfl)⟩
def ti116:TI:={ size:=1,bytes:=8,zu:=.one (.top),zv:=.nilFunc,desc:=.func #[115,3,3] #[115] false,offs:=[] }
theorem tf116:TabFact Tryz.prog 116 ti116:=⟨by kernel_rfl,by kernel_rfl,(fun Z w F=>csim_const (Z:=Z) (w:=w) (F:=F) (.nilFunc)),rfl,nofun,nofun⟩
def ti118:TI:={ size:=1,bytes:=8,zu:=.one (.top),zv:=.nilFunc,desc:=.func #[115] #[3] false,offs:=[] }
theorem tf118:TabFact Tryz.prog 118 ti118:=⟨by kernel_rfl,by kernel_rfl,(fun Z w F=>csim_const (Z:=Z) (w:=w) (F:=F) (.nilFunc)),rfl,nofun,nofun⟩
def ti124:TI:={ size:=8,bytes:=64,zu:=.agg [.d (.int .i64 0),.d (.int .i64 0),.d (.int .i64 0),.d (.int .i64 0),.d (.int .i64 0),.d (.int .i64 0),.d (.int .i64 0),.d (.int .i64 0)],zv:=.agg #[.int .i64 0,.int .i64 0,.int .i64 0,.int .i64 0,.int .i64 0,.int .i64 0,.int .i64 0,.int .i64 0],desc:=.array 8 3,offs:=[] }
theorem tf124:TabFact Tryz.prog 124 ti124:=⟨by kernel_rfl,by kernel_rfl,(fun Z w F=>⟨#[.int .i64 0,.int .i64 0,.int .i64 0,.int .i64 0,.int .i64 0,.int .i64 0,.int .i64 0,.int .i64 0],rfl,csims_const (Z:=Z) (w:=w) (F:=F) [.int .i64 0,.int .i64 0,.int .i64 0,.int .i64 0,.int .i64 0,.int .i64 0,.int .i64 0,.int .i64 0]⟩),rfl,nofun,nofun⟩
def ti128:TI:={ size:=1,bytes:=8,zu:=.one (.top),zv:=.nilFunc,desc:=.func #[3,3,3] #[3] false,offs:=[] }
theorem tf128:TabFact Tryz.prog 128 ti128:=⟨by kernel_rfl,by kernel_rfl,(fun Z w F=>csim_const (Z:=Z) (w:=w) (F:=F) (.nilFunc)),rfl,nofun,nofun⟩
def ti129:TI:={ size:=1,bytes:=8,zu:=.one (.top),zv:=.nilFunc,desc:=.func #[3] #[3] false,offs:=[] }
theorem tf129:TabFact Tryz.prog 129 ti129:=⟨by kernel_rfl,by kernel_rfl,(fun Z w F=>csim_const (Z:=Z) (w:=w) (F:=F) (.nilFunc)),rfl,nofun,nofun⟩
def ti130:TI:={ size:=1,bytes:=8,zu:=.one (.top),zv:=.pointer none,desc:=.pointer 132,offs:=[] }
theorem tf130:TabFact Tryz.prog 130 ti130:=⟨by kernel_rfl,by kernel_rfl,(fun Z w F=>csim_const (Z:=Z) (w:=w) (F:=F) (.pointer none)),rfl,nofun,nofun⟩
def ti132:TI:={ size:=7,bytes:=104,zu:=.agg [.d (.int .i64 0),.d (.int .i64 0),.d .nil,.d .nil,.d .nil,.nilmap,.d (.int .i64 0)],zv:=.agg #[.int .i64 0,.int .i64 0,.slice none 0 0,.slice none 0 0,.slice none 0 0,.map none,.int .i64 0],desc:=.struct #[⟨"t",67,0,false, "", "cellular/ruletable",0⟩,⟨"names",90,5,false, "", "cellular/ruletable",88⟩,⟨"head",3,6,false, "", "cellular/ruletable",96⟩],offs:=[(0,5),(5,1),(6,1)] }
theorem tf132:TabFact Tryz.prog 132 ti132:=⟨by kernel_rfl,by kernel_rfl,(fun Z w F=>⟨#[.int .i64 0,.int .i64 0,.slice none 0 0,.slice none 0 0,.slice none 0 0,.map none,.int .i64 0],rfl,csims_const (Z:=Z) (w:=w) (F:=F) [.int .i64 0,.int .i64 0,.slice none 0 0,.slice none 0 0,.slice none 0 0,.map none,.int .i64 0]⟩),rfl,(fun fs h=>by cases h; kernel_rfl),(fun fs h=>by cases h; kernel_rfl)⟩
def ti134:TI:={ size:=1,bytes:=8,zu:=.one (.top),zv:=.nilFunc,desc:=.func #[178] #[] false,offs:=[] }
theorem tf134:TabFact Tryz.prog 134 ti134:=⟨by kernel_rfl,by kernel_rfl,(fun Z w F=>csim_const (Z:=Z) (w:=w) (F:=F) (.nilFunc)),rfl,nofun,nofun⟩
def ti140:TI:={ size:=1,bytes:=8,zu:=.one (.top),zv:=.nilFunc,desc:=.func #[29] #[3] false,offs:=[] }
theorem tf140:TabFact Tryz.prog 140 ti140:=⟨by kernel_rfl,by kernel_rfl,(fun Z w F=>csim_const (Z:=Z) (w:=w) (F:=F) (.nilFunc)),rfl,nofun,nofun⟩
def ti141:TI:={ size:=1,bytes:=8,zu:=.one (.top),zv:=.pointer none,desc:=.pointer 144,offs:=[] }
theorem tf141:TabFact Tryz.prog 141 ti141:=⟨by kernel_rfl,by kernel_rfl,(fun Z w F=>csim_const (Z:=Z) (w:=w) (F:=F) (.pointer none)),rfl,nofun,nofun⟩
def ti142:TI:={ size:=1,bytes:=24,zu:=.one (.d .nil),zv:=.slice none 0 0,desc:=.slice 5,offs:=[] }
theorem tf142:TabFact Tryz.prog 142 ti142:=⟨by kernel_rfl,by kernel_rfl,(fun Z w F=>csim_const (Z:=Z) (w:=w) (F:=F) (.slice none 0 0)),rfl,nofun,nofun⟩
def ti144:TI:={ size:=2,bytes:=32,zu:=.agg [.top,.d .nil],zv:=.agg #[.pointer none,.slice none 0 0],desc:=.struct #[⟨"addr",141,0,false, "", "strings",0⟩,⟨"buf",142,1,false, "", "strings",8⟩],offs:=[(0,1),(1,1)] }
theorem tf144:TabFact Tryz.prog 144 ti144:=⟨by kernel_rfl,by kernel_rfl,(fun Z w F=>⟨#[.pointer none,.slice none 0 0],rfl,csims_const (Z:=Z) (w:=w) (F:=F) [.pointer none,.slice none 0 0]⟩),rfl,(fun fs h=>by cases h; kernel_rfl),(fun fs h=>by cases h; kernel_rfl)⟩
def ti152:TI:={ size:=4,bytes:=64,zu:=.agg [.d (.str ⟨#[]⟩),.d (.str ⟨#[]⟩),.d (.str ⟨#[]⟩),.d (.str ⟨#[]⟩)],zv:=.agg #[.string ⟨#[]⟩,.string ⟨#[]⟩,.string ⟨#[]⟩,.string ⟨#[]⟩],desc:=.array 4 9,offs:=[] }
theorem tf152:TabFact Tryz.prog 152 ti152:=⟨by kernel_rfl,by kernel_rfl,(fun Z w F=>⟨#[.string ⟨#[]⟩,.string ⟨#[]⟩,.string ⟨#[]⟩,.string ⟨#[]⟩],rfl,csims_const (Z:=Z) (w:=w) (F:=F) [.string ⟨#[]⟩,.string ⟨#[]⟩,.string ⟨#[]⟩,.string ⟨#[]⟩]⟩),rfl,nofun,nofun⟩
def ti154:TI:={ size:=2,bytes:=32,zu:=.agg [.d .nil,.d (.int .i64 0)],zv:=.agg #[.slice none 0 0,.int .i64 0],desc:=.struct #[⟨"Ins",29,0,false, "", "",0⟩,⟨"Out",3,1,false, "", "",24⟩],offs:=[(0,1),(1,1)] }
theorem tf154:TabFact Tryz.prog 154 ti154:=⟨by kernel_rfl,by kernel_rfl,(fun Z w F=>⟨#[.slice none 0 0,.int .i64 0],rfl,csims_const (Z:=Z) (w:=w) (F:=F) [.slice none 0 0,.int .i64 0]⟩),rfl,(fun fs h=>by cases h; kernel_rfl),(fun fs h=>by cases h; kernel_rfl)⟩
def ti160:TI:={ size:=1,bytes:=8,zu:=.one (.top),zv:=.pointer none,desc:=.pointer 92,offs:=[] }
theorem tf160:TabFact Tryz.prog 160 ti160:=⟨by kernel_rfl,by kernel_rfl,(fun Z w F=>csim_const (Z:=Z) (w:=w) (F:=F) (.pointer none)),rfl,nofun,nofun⟩
def ti164:TI:={ size:=1,bytes:=8,zu:=.one (.top),zv:=.nilFunc,desc:=.func #[3,3] #[4] false,offs:=[] }
theorem tf164:TabFact Tryz.prog 164 ti164:=⟨by kernel_rfl,by kernel_rfl,(fun Z w F=>csim_const (Z:=Z) (w:=w) (F:=F) (.nilFunc)),rfl,nofun,nofun⟩
def ti169:TI:={ size:=1,bytes:=8,zu:=.one (.nilmap),zv:=.map none,desc:=.map 172 3,offs:=[] }
theorem tf169:TabFact Tryz.prog 169 ti169:=⟨by kernel_rfl,by kernel_rfl,(fun Z w F=>csim_const (Z:=Z) (w:=w) (F:=F) (.map none)),rfl,nofun,nofun⟩
def ti170:TI:={ size:=1,bytes:=8,zu:=.one (.top),zv:=.nilFunc,desc:=.func #[172] #[3] false,offs:=[] }
theorem tf170:TabFact Tryz.prog 170 ti170:=⟨by kernel_rfl,by kernel_rfl,(fun Z w F=>csim_const (Z:=Z) (w:=w) (F:=F) (.nilFunc)),rfl,nofun,nofun⟩
def ti172:TI:={ size:=3,bytes:=24,zu:=.agg [.d (.int .i64 0),.d (.int .i64 0),.d (.int .i64 0)],zv:=.agg #[.int .i64 0,.int .i64 0,.int .i64 0],desc:=.struct #[⟨"at",3,0,false, "", "cellular/totaltree",0⟩,⟨"s",115,1,false, "", "cellular/totaltree",8⟩],offs:=[(0,1),(1,2)] }
theorem tf172:TabFact Tryz.prog 172 ti172:=⟨by kernel_rfl,by kernel_rfl,(fun Z w F=>⟨#[.int .i64 0,.int .i64 0,.int .i64 0],rfl,csims_const (Z:=Z) (w:=w) (F:=F) [.int .i64 0,.int .i64 0,.int .i64 0]⟩),rfl,(fun fs h=>by cases h; kernel_rfl),(fun fs h=>by cases h; kernel_rfl)⟩
def ti174:TI:={ size:=1,bytes:=8,zu:=.one (.nilmap),zv:=.map none,desc:=.map 177 3,offs:=[] }
theorem tf174:TabFact Tryz.prog 174 ti174:=⟨by kernel_rfl,by kernel_rfl,(fun Z w F=>csim_const (Z:=Z) (w:=w) (F:=F) (.map none)),rfl,nofun,nofun⟩
def ti175:TI:={ size:=1,bytes:=8,zu:=.one (.top),zv:=.nilFunc,desc:=.func #[177] #[3] false,offs:=[] }
theorem tf175:TabFact Tryz.prog 175 ti175:=⟨by kernel_rfl,by kernel_rfl,(fun Z w F=>csim_const (Z:=Z) (w:=w) (F:=F) (.nilFunc)),rfl,nofun,nofun⟩
def ti177:TI:={ size:=2,bytes:=16,zu:=.agg [.d (.int .i64 0),.d (.int .i64 0)],zv:=.agg #[.int .i64 0,.int .i64 0],desc:=.struct #[⟨"at",3,0,false, "", "cellular/totaltree",0⟩,⟨"s",3,1,false, "", "cellular/totaltree",8⟩],offs:=[(0,1),(1,1)] }
theorem tf177:TabFact Tryz.prog 177 ti177:=⟨by kernel_rfl,by kernel_rfl,(fun Z w F=>⟨#[.int .i64 0,.int .i64 0],rfl,csims_const (Z:=Z) (w:=w) (F:=F) [.int .i64 0,.int .i64 0]⟩),rfl,(fun fs h=>by cases h; kernel_rfl),(fun fs h=>by cases h; kernel_rfl)⟩
def ti178:TI:={ size:=1,bytes:=8,zu:=.one (.top),zv:=.nilFunc,desc:=.func #[3,106] #[4] false,offs:=[] }
theorem tf178:TabFact Tryz.prog 178 ti178:=⟨by kernel_rfl,by kernel_rfl,(fun Z w F=>csim_const (Z:=Z) (w:=w) (F:=F) (.nilFunc)),rfl,nofun,nofun⟩
def ti180:TI:={ size:=1,bytes:=8,zu:=.one (.top),zv:=.nilFunc,desc:=.func #[21] #[4] false,offs:=[] }
theorem tf180:TabFact Tryz.prog 180 ti180:=⟨by kernel_rfl,by kernel_rfl,(fun Z w F=>csim_const (Z:=Z) (w:=w) (F:=F) (.nilFunc)),rfl,nofun,nofun⟩
def ti184:TI:={ size:=1,bytes:=8,zu:=.one (.top),zv:=.pointer none,desc:=.pointer 186,offs:=[] }
theorem tf184:TabFact Tryz.prog 184 ti184:=⟨by kernel_rfl,by kernel_rfl,(fun Z w F=>csim_const (Z:=Z) (w:=w) (F:=F) (.pointer none)),rfl,nofun,nofun⟩
def ti186:TI:={ size:=6,bytes:=96,zu:=.agg [.d (.int .i64 0),.d .nil,.d .nil,.nilmap,.d .nil,.top],zv:=.agg #[.int .i64 0,.slice none 0 0,.slice none 0 0,.map none,.slice none 0 0,.nilFunc],desc:=.struct #[⟨"tree",25,0,false, "", "cellular/tabletree",0⟩,⟨"known",90,3,false, "", "cellular/tabletree",56⟩,⟨"in",29,4,false, "", "cellular/tabletree",64⟩,⟨"value",140,5,false, "", "cellular/tabletree",88⟩],offs:=[(0,3),(3,1),(4,1),(5,1)] }
theorem tf186:TabFact Tryz.prog 186 ti186:=⟨by kernel_rfl,by kernel_rfl,(fun Z w F=>⟨#[.int .i64 0,.slice none 0 0,.slice none 0 0,.map none,.slice none 0 0,.nilFunc],rfl,csims_const (Z:=Z) (w:=w) (F:=F) [.int .i64 0,.slice none 0 0,.slice none 0 0,.map none,.slice none 0 0,.nilFunc]⟩),rfl,(fun fs h=>by cases h; kernel_rfl),(fun fs h=>by cases h; kernel_rfl)⟩
def ti190:TI:={ size:=1,bytes:=8,zu:=.one (.top),zv:=.pointer none,desc:=.pointer 5,offs:=[] }
theorem tf190:TabFact Tryz.prog 190 ti190:=⟨by kernel_rfl,by kernel_rfl,(fun Z w F=>csim_const (Z:=Z) (w:=w) (F:=F) (.pointer none)),rfl,nofun,nofun⟩
def ti204:TI:={ size:=1,bytes:=8,zu:=.one (.top),zv:=.pointer none,desc:=.pointer 200,offs:=[] }
theorem tf204:TabFact Tryz.prog 204 ti204:=⟨by kernel_rfl,by kernel_rfl,(fun Z w F=>csim_const (Z:=Z) (w:=w) (F:=F) (.pointer none)),rfl,nofun,nofun⟩
def ti205:TI:={ size:=1,bytes:=24,zu:=.one (.d .nil),zv:=.slice none 0 0,desc:=.slice 207,offs:=[] }
theorem tf205:TabFact Tryz.prog 205 ti205:=⟨by kernel_rfl,by kernel_rfl,(fun Z w F=>csim_const (Z:=Z) (w:=w) (F:=F) (.slice none 0 0)),rfl,nofun,nofun⟩
def ti207:TI:={ size:=2,bytes:=16,zu:=.agg [.d (.int .i64 0),.d (.int .i64 0)],zv:=.agg #[.int .i64 0,.int .i64 0],desc:=.struct #[⟨"start",3,0,false, "", "strings",0⟩,⟨"end",3,1,false, "", "strings",8⟩],offs:=[(0,1),(1,1)] }
theorem tf207:TabFact Tryz.prog 207 ti207:=⟨by kernel_rfl,by kernel_rfl,(fun Z w F=>⟨#[.int .i64 0,.int .i64 0],rfl,csims_const (Z:=Z) (w:=w) (F:=F) [.int .i64 0,.int .i64 0]⟩),rfl,(fun fs h=>by cases h; kernel_rfl),(fun fs h=>by cases h; kernel_rfl)⟩
def ti216:TI:={ size:=1,bytes:=8,zu:=.one (.d (.int .u64 0)),zv:=.int .u64 0,desc:=.int .u64,offs:=[] }
theorem tf216:TabFact Tryz.prog 216 ti216:=⟨by kernel_rfl,by kernel_rfl,(fun Z w F=>csim_const (Z:=Z) (w:=w) (F:=F) (.int .u64 0)),rfl,nofun,nofun⟩
def ti230:TI:={ size:=1,bytes:=8,zu:=.one (.top),zv:=.nilFunc,desc:=.func #[49] #[4] false,offs:=[] }
theorem tf230:TabFact Tryz.prog 230 ti230:=⟨by kernel_rfl,by kernel_rfl,(fun Z w F=>csim_const (Z:=Z) (w:=w) (F:=F) (.nilFunc)),rfl,nofun,nofun⟩
def ti231:TI:={ size:=1,bytes:=8,zu:=.one (.top),zv:=.pointer none,desc:=.pointer 253,offs:=[] }
theorem tf231:TabFact Tryz.prog 231 ti231:=⟨by kernel_rfl,by kernel_rfl,(fun Z w F=>csim_const (Z:=Z) (w:=w) (F:=F) (.pointer none)),rfl,nofun,nofun⟩
def ti235:TI:={ size:=1,bytes:=24,zu:=.one (.d .nil),zv:=.slice none 0 0,desc:=.slice 4,offs:=[] }
theorem tf235:TabFact Tryz.prog 235 ti235:=⟨by kernel_rfl,by kernel_rfl,(fun Z w F=>csim_const (Z:=Z) (w:=w) (F:=F) (.slice none 0 0)),rfl,nofun,nofun⟩
def ti236:TI:={ size:=1,bytes:=8,zu:=.one (.top),zv:=.nilFunc,desc:=.func #[3] #[] false,offs:=[] }
theorem tf236:TabFact Tryz.prog 236 ti236:=⟨by kernel_rfl,by kernel_rfl,(fun Z w F=>csim_const (Z:=Z) (w:=w) (F:=F) (.nilFunc)),rfl,nofun,nofun⟩
def ti238:TI:={ size:=24,bytes:=24,zu:=.agg [.d (.int .u8 0),.d (.int .u8 0),.d (.int .u8 0),.d (.int .u8 0),.d (.int .u8 0),.d (.int .u8 0),.d (.int .u8 0),.d (.int .u8 0),.d (.int .u8 0),.d (.int .u8 0),.d (.int .u8 0),.d (.int .u8 0),.d (.int .u8 0),.d (.int .u8 0),.d (.int .u8 0),.d (.int .u8 0),.d (.int .u8 0),.d (.int .u8 0),.d (.int .u8 0),.d (.int .u8 0),.d (.int .u8 0),.d (.int .u8 0),.d (.int .u8 0),.d (.int .u8 0)],zv:=.agg #[.int .u8 0,.int .u8 0,.int .u8 0,.int .u8 0,.int .u8 0,.int .u8 0,.int .u8 0,.int .u8 0,.int .u8 0,.int .u8 0,.int .u8 0,.int .u8 0,.int .u8 0,.int .u8 0,.int .u8 0,.int .u8 0,.int .u8 0,.int .u8 0,.int .u8 0,.int .u8 0,.int .u8 0,.int .u8 0,.int .u8 0,.int .u8 0],desc:=.array 24 5,offs:=[] }
theorem tf238:TabFact Tryz.prog 238 ti238:=⟨by kernel_rfl,by kernel_rfl,(fun Z w F=>⟨#[.int .u8 0,.int .u8 0,.int .u8 0,.int .u8 0,.int .u8 0,.int .u8 0,.int .u8 0,.int .u8 0,.int .u8 0,.int .u8 0,.int .u8 0,.int .u8 0,.int .u8 0,.int .u8 0,.int .u8 0,.int .u8 0,.int .u8 0,.int .u8 0,.int .u8 0,.int .u8 0,.int .u8 0,.int .u8 0,.int .u8 0,.int .u8 0],rfl,csims_const (Z:=Z) (w:=w) (F:=F) [.int .u8 0,.int .u8 0,.int .u8 0,.int .u8 0,.int .u8 0,.int .u8 0,.int .u8 0,.int .u8 0,.int .u8 0,.int .u8 0,.int .u8 0,.int .u8 0,.int .u8 0,.int .u8 0,.int .u8 0,.int .u8 0,.int .u8 0,.int .u8 0,.int .u8 0,.int .u8 0,.int .u8 0,.int .u8 0,.int .u8 0,.int .u8 0]⟩),rfl,nofun,nofun⟩
def ti247:TI:={ size:=1,bytes:=8,zu:=.one (.top),zv:=.pointer none,desc:=.pointer 249,offs:=[] }
theorem tf247:TabFact Tryz.prog 247 ti247:=⟨by kernel_rfl,by kernel_rfl,(fun Z w F=>csim_const (Z:=Z) (w:=w) (F:=F) (.pointer none)),rfl,nofun,nofun⟩
def ti249:TI:={ size:=1,bytes:=16,zu:=.agg [.d (.str ⟨#[]⟩)],zv:=.agg #[.string ⟨#[]⟩],desc:=.struct #[⟨"s",9,0,false, "", "errors",0⟩],offs:=[(0,1)] }
theorem tf249:TabFact Tryz.prog 249 ti249:=⟨by kernel_rfl,by kernel_rfl,(fun Z w F=>⟨#[.string ⟨#[]⟩],rfl,csims_const (Z:=Z) (w:=w) (F:=F) [.string ⟨#[]⟩]⟩),rfl,(fun fs h=>by cases h; kernel_rfl),(fun fs h=>by cases h; kernel_rfl)⟩
def ti255:TI:={ size:=20,bytes:=160,zu:=.agg [.d (.int .u64 0),.d (.int .u64 0),.d (.int .u64 0),.d (.int .u64 0),.d (.int .u64 0),.d (.int .u64 0),.d (.int .u64 0),.d (.int .u64 0),.d (.int .u64 0),.d (.int .u64 0),.d (.int .u64 0),.d (.int .u64 0),.d (.int .u64 0),.d (.int .u64 0),.d (.int .u64 0),.d (.int .u64 0),.d (.int .u64 0),.d (.int .u64 0),.d (.int .u64 0),.d (.int .u64 0)],zv:=.agg #[.int .u64 0,.int .u64 0,.int .u64 0,.int .u64 0,.int .u64 0,.int .u64 0,.int .u64 0,.int .u64 0,.int .u64 0,.int .u64 0,.int .u64 0,.int .u64 0,.int .u64 0,.int .u64 0,.int .u64 0,.int .u64 0,.int .u64 0,.int .u64 0,.int .u64 0,.int .u64 0],desc:=.array 20 216,offs:=[] }
theorem tf255:TabFact Tryz.prog 255 ti255:=⟨by kernel_rfl,by kernel_rfl,(fun Z w F=>⟨#[.int .u64 0,.int .u64 0,.int .u64 0,.int .u64 0,.int .u64 0,.int .u64 0,.int .u64 0,.int .u64 0,.int .u64 0,.int .u64 0,.int .u64 0,.int .u64 0,.int .u64 0,.int .u64 0,.int .u64 0,.int .u64 0,.int .u64 0,.int .u64 0,.int .u64 0,.int .u64 0],rfl,csims_const (Z:=Z) (w:=w) (F:=F) [.int .u64 0,.int .u64 0,.int .u64 0,.int .u64 0,.int .u64 0,.int .u64 0,.int .u64 0,.int .u64 0,.int .u64 0,.int .u64 0,.int .u64 0,.int .u64 0,.int .u64 0,.int .u64 0,.int .u64 0,.int .u64 0,.int .u64 0,.int .u64 0,.int .u64 0,.int .u64 0]⟩),rfl,nofun,nofun⟩
def ti260:TI:={ size:=2,bytes:=2,zu:=.agg [.d (.int .u8 0),.d (.int .u8 0)],zv:=.agg #[.int .u8 0,.int .u8 0],desc:=.struct #[⟨"lo",5,0,false, "", "unicode/utf8",0⟩,⟨"hi",5,1,false, "", "unicode/utf8",1⟩],offs:=[(0,1),(1,1)] }
theorem tf260:TabFact Tryz.prog 260 ti260:=⟨by kernel_rfl,by kernel_rfl,(fun Z w F=>⟨#[.int .u8 0,.int .u8 0],rfl,csims_const (Z:=Z) (w:=w) (F:=F) [.int .u8 0,.int .u8 0]⟩),rfl,(fun fs h=>by cases h; kernel_rfl),(fun fs h=>by cases h; kernel_rfl)⟩
def ti261:TI:={ size:=32,bytes:=32,zu:=.agg [.d (.int .u8 0),.d (.int .u8 0),.d (.int .u8 0),.d (.int .u8 0),.d (.int .u8 0),.d (.int .u8 0),.d (.int .u8 0),.d (.int .u8 0),.d (.int .u8 0),.d (.int .u8 0),.d (.int .u8 0),.d (.int .u8 0),.d (.int .u8 0),.d (.int .u8 0),.d (.int .u8 0),.d (.int .u8 0),.d (.int .u8 0),.d (.int .u8 0),.d (.int .u8 0),.d (.int .u8 0),.d (.int .u8 0),.d (.int .u8 0),.d (.int .u8 0),.d (.int .u8 0),.d (.int .u8 0),.d (.int .u8 0),.d (.int .u8 0),.d (.int .u8 0),.d (.int .u8 0),.d (.int .u8 0),.d (.int .u8 0),.d (.int .u8 0)],zv:=.agg #[.int .u8 0,.int .u8 0,.int .u8 0,.int .u8 0,.int .u8 0,.int .u8 0,.int .u8 0,.int .u8 0,.int .u8 0,.int .u8 0,.int .u8 0,.int .u8 0,.int .u8 0,.int .u8 0,.int .u8 0,.int .u8 0,.int .u8 0,.int .u8 0,.int .u8 0,.int .u8 0,.int .u8 0,.int .u8 0,.int .u8 0,.int .u8 0,.int .u8 0,.int .u8 0,.int .u8 0,.int .u8 0,.int .u8 0,.int .u8 0,.int .u8 0,.int .u8 0],desc:=.array 16 260,offs:=[] }
theorem tf261:TabFact Tryz.prog 261 ti261:=⟨by kernel_rfl,by kernel_rfl,(fun Z w F=>⟨#[.int .u8 0,.int .u8 0,.int .u8 0,.int .u8 0,.int .u8 0,.int .u8 0,.int .u8 0,.int .u8 0,.int .u8 0,.int .u8 0,.int .u8 0,.int .u8 0,.int .u8 0,.int .u8 0,.int .u8 0,.int .u8 0,.int .u8 0,.int .u8 0,.int .u8 0,.int .u8 0,.int .u8 0,.int .u8 0,.int .u8 0,.int .u8 0,.int .u8 0,.int .u8 0,.int .u8 0,.int .u8 0,.int .u8 0,.int .u8 0,.int .u8 0,.int .u8 0],rfl,csims_const (Z:=Z) (w:=w) (F:=F) [.int .u8 0,.int .u8 0,.int .u8 0,.int .u8 0,.int .u8 0,.int .u8 0,.int .u8 0,.int .u8 0,.int .u8 0,.int .u8 0,.int .u8 0,.int .u8 0,.int .u8 0,.int .u8 0,.int .u8 0,.int .u8 0,.int .u8 0,.int .u8 0,.int .u8 0,.int .u8 0,.int .u8 0,.int .u8 0,.int .u8 0,.int .u8 0,.int .u8 0,.int .u8 0,.int .u8 0,.int .u8 0,.int .u8 0,.int .u8 0,.int .u8 0,.int .u8 0]⟩),rfl,nofun,nofun⟩
def ti263:TI:={ size:=32,bytes:=32,zu:=.agg [.d (.int .u8 0),.d (.int .u8 0),.d (.int .u8 0),.d (.int .u8 0),.d (.int .u8 0),.d (.int .u8 0),.d (.int .u8 0),.d (.int .u8 0),.d (.int .u8 0),.d (.int .u8 0),.d (.int .u8 0),.d (.int .u8 0),.d (.int .u8 0),.d (.int .u8 0),.d (.int .u8 0),.d (.int .u8 0),.d (.int .u8 0),.d (.int .u8 0),.d (.int .u8 0),.d (.int .u8 0),.d (.int .u8 0),.d (.int .u8 0),.d (.int .u8 0),.d (.int .u8 0),.d (.int .u8 0),.d (.int .u8 0),.d (.int .u8 0),.d (.int .u8 0),.d (.int .u8 0),.d (.int .u8 0),.d (.int .u8 0),.d (.int .u8 0)],zv:=.agg #[.int .u8 0,.int .u8 0,.int .u8 0,.int .u8 0,.int .u8 0,.int .u8 0,.int .u8 0,.int .u8 0,.int .u8 0,.int .u8 0,.int .u8 0,.int .u8 0,.int .u8 0,.int .u8 0,.int .u8 0,.int .u8 0,.int .u8 0,.int .u8 0,.int .u8 0,.int .u8 0,.int .u8 0,.int .u8 0,.int .u8 0,.int .u8 0,.int .u8 0,.int .u8 0,.int .u8 0,.int .u8 0,.int .u8 0,.int .u8 0,.int .u8 0,.int .u8 0],desc:=.array 32 5,offs:=[] }
theorem tf263:TabFact Tryz.prog 263 ti263:=⟨by kernel_rfl,by kernel_rfl,(fun Z w F=>⟨#[.int .u8 0,.int .u8 0,.int .u8 0,.int .u8 0,.int .u8 0,.int .u8 0,.int .u8 0,.int .u8 0,.int .u8 0,.int .u8 0,.int .u8 0,.int .u8 0,.int .u8 0,.int .u8 0,.int .u8 0,.int .u8 0,.int .u8 0,.int .u8 0,.int .u8 0,.int .u8 0,.int .u8 0,.int .u8 0,.int .u8 0,.int .u8 0,.int .u8 0,.int .u8 0,.int .u8 0,.int .u8 0,.int .u8 0,.int .u8 0,.int .u8 0,.int .u8 0],rfl,csims_const (Z:=Z) (w:=w) (F:=F) [.int .u8 0,.int .u8 0,.int .u8 0,.int .u8 0,.int .u8 0,.int .u8 0,.int .u8 0,.int .u8 0,.int .u8 0,.int .u8 0,.int .u8 0,.int .u8 0,.int .u8 0,.int .u8 0,.int .u8 0,.int .u8 0,.int .u8 0,.int .u8 0,.int .u8 0,.int .u8 0,.int .u8 0,.int .u8 0,.int .u8 0,.int .u8 0,.int .u8 0,.int .u8 0,.int .u8 0,.int .u8 0,.int .u8 0,.int .u8 0,.int .u8 0,.int .u8 0]⟩),rfl,nofun,nofun⟩
def ty:Tab:=fun t=>match t with
 | 2=>some ti2
 | 3=>some ti3
 | 4=>some ti4
 | 5=>some ti5
 | 9=>some ti9
 | 21=>some ti21
 | 22=>some ti22
 | 23=>some ti23
 | 25=>some ti25
 | 29=>some ti29
 | 32=>some ti32
 | 37=>some ti37
 | 45=>some ti45
 | 49=>some ti49
 | 57=>some ti57
 | 64=>some ti64
 | 65=>some ti65
 | 67=>some ti67
 | 74=>some ti74
 | 78=>some ti78
 | 84=>some ti84
 | 85=>some ti85
 | 86=>some ti86
 | 88=>some ti88
 | 90=>some ti90
 | 92=>some ti92
 | 96=>some ti96
 | 106=>some ti106
 | 110=>some ti110
 | 115=>some ti115
 | 116=>some ti116
 | 118=>some ti118
 | 124=>some ti124
 | 128=>some ti128
 | 129=>some ti129
 | 130=>some ti130
 | 132=>some ti132
 | 134=>some ti134
 | 140=>some ti140
 | 141=>some ti141
 | 142=>some ti142
 | 144=>some ti144
 | 152=>some ti152
 | 154=>some ti154
 | 160=>some ti160
 | 164=>some ti164
 | 169=>some ti169
 | 170=>some ti170
 | 172=>some ti172
 | 174=>some ti174
 | 175=>some ti175
 | 177=>some ti177
 | 178=>some ti178
 | 180=>some ti180
 | 184=>some ti184
 | 186=>some ti186
 | 190=>some ti190
 | 204=>some ti204
 | 205=>some ti205
 | 207=>some ti207
 | 216=>some ti216
 | 230=>some ti230
 | 231=>some ti231
 | 235=>some ti235
 | 236=>some ti236
 | 238=>some ti238
 | 247=>some ti247
 | 249=>some ti249
 | 255=>some ti255
 | 260=>some ti260
 | 261=>some ti261
 | 263=>some ti263
 | _=>none
theorem ty_ok:TabOk Tryz.prog ty:=by
 intro t ti h
 unfold ty at h
 split at h
 ·cases h; exact tf2
 ·cases h; exact tf3
 ·cases h; exact tf4
 ·cases h; exact tf5
 ·cases h; exact tf9
 ·cases h; exact tf21
 ·cases h; exact tf22
 ·cases h; exact tf23
 ·cases h; exact tf25
 ·cases h; exact tf29
 ·cases h; exact tf32
 ·cases h; exact tf37
 ·cases h; exact tf45
 ·cases h; exact tf49
 ·cases h; exact tf57
 ·cases h; exact tf64
 ·cases h; exact tf65
 ·cases h; exact tf67
 ·cases h; exact tf74
 ·cases h; exact tf78
 ·cases h; exact tf84
 ·cases h; exact tf85
 ·cases h; exact tf86
 ·cases h; exact tf88
 ·cases h; exact tf90
 ·cases h; exact tf92
 ·cases h; exact tf96
 ·cases h; exact tf106
 ·cases h; exact tf110
 ·cases h; exact tf115
 ·cases h; exact tf116
 ·cases h; exact tf118
 ·cases h; exact tf124
 ·cases h; exact tf128
 ·cases h; exact tf129
 ·cases h; exact tf130
 ·cases h; exact tf132
 ·cases h; exact tf134
 ·cases h; exact tf140
 ·cases h; exact tf141
 ·cases h; exact tf142
 ·cases h; exact tf144
 ·cases h; exact tf152
 ·cases h; exact tf154
 ·cases h; exact tf160
 ·cases h; exact tf164
 ·cases h; exact tf169
 ·cases h; exact tf170
 ·cases h; exact tf172
 ·cases h; exact tf174
 ·cases h; exact tf175
 ·cases h; exact tf177
 ·cases h; exact tf178
 ·cases h; exact tf180
 ·cases h; exact tf184
 ·cases h; exact tf186
 ·cases h; exact tf190
 ·cases h; exact tf204
 ·cases h; exact tf205
 ·cases h; exact tf207
 ·cases h; exact tf216
 ·cases h; exact tf230
 ·cases h; exact tf231
 ·cases h; exact tf235
 ·cases h; exact tf236
 ·cases h; exact tf238
 ·cases h; exact tf247
 ·cases h; exact tf249
 ·cases h; exact tf255
 ·cases h; exact tf260
 ·cases h; exact tf261
 ·cases h; exact tf263
 ·cases h
def eqn:TypeId->Option Nat:=fun t=>match t with
 | 49=>some 2
 | 115=>some 2
 | 177=>some 2
 | 207=>some 2
 | 260=>some 2
 | 85=>some 4
 | 124=>some 8
 | _=>none
theorem ef49:intFields Tryz.prog 49 2:=by
 refine .inl ⟨#[⟨"X",3,0,false, "", "",0⟩,⟨"Y",3,1,false, "", "",8⟩],by kernel_rfl,by kernel_rfl,by kernel_rfl,rfl,fun i f h=>?_⟩
 match i,h with
 | 0,h=>cases h; exact ⟨by decide,rfl,.i64,by kernel_rfl⟩
 | 1,h=>cases h; exact ⟨by decide,rfl,.i64,by kernel_rfl⟩
 | i + 2,h=>simp at h
theorem ef115:intFields Tryz.prog 115 2:=by
 refine .inl ⟨#[⟨"ones",3,0,false, "", "cellular/totaltree",0⟩,⟨"centre",3,1,false, "", "cellular/totaltree",8⟩],by kernel_rfl,by kernel_rfl,by kernel_rfl,rfl,fun i f h=>?_⟩
 match i,h with
 | 0,h=>cases h; exact ⟨by decide,rfl,.i64,by kernel_rfl⟩
 | 1,h=>cases h; exact ⟨by decide,rfl,.i64,by kernel_rfl⟩
 | i + 2,h=>simp at h
theorem ef177:intFields Tryz.prog 177 2:=by
 refine .inl ⟨#[⟨"at",3,0,false, "", "cellular/totaltree",0⟩,⟨"s",3,1,false, "", "cellular/totaltree",8⟩],by kernel_rfl,by kernel_rfl,by kernel_rfl,rfl,fun i f h=>?_⟩
 match i,h with
 | 0,h=>cases h; exact ⟨by decide,rfl,.i64,by kernel_rfl⟩
 | 1,h=>cases h; exact ⟨by decide,rfl,.i64,by kernel_rfl⟩
 | i + 2,h=>simp at h
theorem ef207:intFields Tryz.prog 207 2:=by
 refine .inl ⟨#[⟨"start",3,0,false, "", "strings",0⟩,⟨"end",3,1,false, "", "strings",8⟩],by kernel_rfl,by kernel_rfl,by kernel_rfl,rfl,fun i f h=>?_⟩
 match i,h with
 | 0,h=>cases h; exact ⟨by decide,rfl,.i64,by kernel_rfl⟩
 | 1,h=>cases h; exact ⟨by decide,rfl,.i64,by kernel_rfl⟩
 | i + 2,h=>simp at h
theorem ef260:intFields Tryz.prog 260 2:=by
 refine .inl ⟨#[⟨"lo",5,0,false, "", "unicode/utf8",0⟩,⟨"hi",5,1,false, "", "unicode/utf8",1⟩],by kernel_rfl,by kernel_rfl,by kernel_rfl,rfl,fun i f h=>?_⟩
 match i,h with
 | 0,h=>cases h; exact ⟨by decide,rfl,.u8,by kernel_rfl⟩
 | 1,h=>cases h; exact ⟨by decide,rfl,.u8,by kernel_rfl⟩
 | i + 2,h=>simp at h
theorem ef85:intFields Tryz.prog 85 4:=by
 obtain ⟨i,hi⟩:=Option.isSome_iff_exists.1 (show (Tryz.prog.info? 3).isSome = true by kernel_rfl)
 exact .inr ⟨3,i,.i64,by kernel_rfl,hi,by kernel_rfl,by kernel_rfl,by kernel_rfl⟩
theorem ef124:intFields Tryz.prog 124 8:=by
 obtain ⟨i,hi⟩:=Option.isSome_iff_exists.1 (show (Tryz.prog.info? 3).isSome = true by kernel_rfl)
 exact .inr ⟨3,i,.i64,by kernel_rfl,hi,by kernel_rfl,by kernel_rfl,by kernel_rfl⟩
theorem eqn_ok:∀ t n,eqn t = some n->intFields Tryz.prog t n:=by
 intro t n h
 unfold eqn at h
 split at h
 ·cases h; exact ef49
 ·cases h; exact ef115
 ·cases h; exact ef177
 ·cases h; exact ef207
 ·cases h; exact ef260
 ·cases h; exact ef85
 ·cases h; exact ef124
 ·cases h
def key:TypeId->Option KK:=fun t=>match t with
 | 9=>some .str
 | 172=>some (.ints 3)
 | 177=>some (.ints 2)
 | _=>none
theorem kf9:Maps.Keyed Tryz.prog 9 /\ ∀ k:Key,k.fits .str = true->∃ l,keyOf Tryz.prog 9 k.val = some l:=key_str (by kernel_rfl)
theorem kf172:Maps.Keyed Tryz.prog 172 /\ ∀ k:Key,k.fits (.ints 3) = true->∃ l,keyOf Tryz.prog 172 k.val = some l:=key_nest (d:=3) (fs:=#[⟨"at",3,0,false, "", "cellular/totaltree",0⟩,⟨"s",115,1,false, "", "cellular/totaltree",8⟩]) (by kernel_rfl) (by kernel_rfl) (by kernel_rfl) (by kernel_rfl) (by kernel_rfl) (by kernel_rfl) (.inr ⟨#[⟨"at",3,0,false, "", "cellular/totaltree",0⟩,⟨"s",115,1,false, "", "cellular/totaltree",8⟩],by kernel_rfl,by kernel_rfl,fun i f h=>match i,h with | 0,h=>by cases h; exact ⟨by decide,1,(.inl ⟨by kernel_rfl,rfl⟩),by kernel_rfl,by decide⟩ | 1,h=>by cases h; exact ⟨by decide,2,(.inr ⟨#[⟨"ones",3,0,false, "", "cellular/totaltree",0⟩,⟨"centre",3,1,false, "", "cellular/totaltree",8⟩],by kernel_rfl,by kernel_rfl,fun i f h=>match i,h with | 0,h=>by cases h; exact ⟨by decide,1,(.inl ⟨by kernel_rfl,rfl⟩),by kernel_rfl,by decide⟩ | 1,h=>by cases h; exact ⟨by decide,1,(.inl ⟨by kernel_rfl,rfl⟩),by kernel_rfl,by decide⟩ | i + 2,h=>by simp at h⟩),by kernel_rfl,by decide⟩ | i + 2,h=>by simp at h⟩) (by kernel_rfl)
theorem kf177:Maps.Keyed Tryz.prog 177 /\ ∀ k:Key,k.fits (.ints 2) = true->∃ l,keyOf Tryz.prog 177 k.val = some l :=
 key_ints (fs:=#[⟨"at",3,0,false, "", "cellular/totaltree",0⟩,⟨"s",3,1,false, "", "cellular/totaltree",8⟩]) (by kernel_rfl) (by kernel_rfl) (by kernel_rfl) (by kernel_rfl) (by kernel_rfl) (by kernel_rfl) (by
  intro i f h
  match i,h with
  | 0,h=>cases h; exact ⟨by decide,rfl,by kernel_rfl,by kernel_rfl⟩
  | 1,h=>cases h; exact ⟨by decide,rfl,by kernel_rfl,by kernel_rfl⟩
  | i + 2,h=>simp at h)
theorem key_ok:∀ t kk,key t = some kk->Maps.Keyed Tryz.prog t /\ ∀ k:Key,k.fits kk = true->∃ l,keyOf Tryz.prog t k.val = some l:=by
 intro t kk h
 unfold key at h
 split at h
 ·cases h; exact kf9
 ·cases h; exact kf172
 ·cases h; exact kf177
 ·cases h
def tb:Tb:={ ty:=ty,eqn:=eqn,key:=key }
theorem bA:TbOk Tryz.prog tb:=⟨ty_ok,eqn_ok,key_ok,(fun _ _ _ h=>by cases h),(fun _ _ _ _ _ _ _ _ _ h=>by cases h)⟩
theorem mixed:Tryz.prog.follows .mixedOrders = true:=by kernel_rfl
end Go.Proofs.YtlcdmiapdfdcaaaGreatDoor
