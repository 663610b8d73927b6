/- The table of the types of this seat, made by program (gen_tab.py), and that it holds. -/
import Derived.Test.YtbgliammfkgfoaaGreatDoorRows
import Derived.Test.YtbgliammfkgfoaaGreatDoorAmO
namespace Go.Proofs.YtbgliammfkgfoaaGreatDoor
open Go.AM Go.Proofs
theorem tz {ti:TI} (h:constV ti.zv=.u ti.zu:=by rfl) (φ:Nat->Value) (w:World) (F:Nat->Prop):bD φ w F ti.zu ti.zv:=by
 have h2:=vsim_const (φ:=φ) (w:=w) (F:=F) ti.zv
 rw[h] at h2
 exact h2
theorem tfx {P:Program} {t:TypeId} {ti:TI} (h1:(P.info? t).map (fun i=>(i.size,i.bytes,i.zero))=some (ti.size,ti.bytes,some ti.zv):=by kernel_rfl) (h2:P.underlying t=some ti.desc:=by kernel_rfl) (h3:∀ φ w F,bD φ w F ti.zu ti.zv:=by exact tz)
  (h4:ti.zv.cells.size=ti.size:=by rfl) (h5:∀ fs,ti.desc=.struct fs->(ti.offs=fs.toList.map fun f=>(f.offset,P.cellsOf f.type)):=by intro fs h; cases h<;>kernel_rfl) (h6:∀ fs,ti.desc=.struct fs->(fs.toList.all fun f=>(P.info? f.type).isSome)=true:=by intro fs h; cases h<;>kernel_rfl):TabFact P t ti:=⟨h1,h2,h3,h4,h5,h6⟩
def okF (P:Program) (i:Nat) (f:Field):Bool:=f.name != "_" && (f.offset == i && match P.underlying f.type with
 | some (.int _)=>true
 | _=>false)
theorem efs {P:Program} {t:TypeId} {n:Nat} (fs:Array Field) (h1:P.underlying t=some (.struct fs):=by kernel_rfl) (h2:P.stoodInHeld t=false:=by kernel_rfl) (h3:P.eqGuardType P.depth t=false:=by kernel_rfl) (h4:fs.size=n:=by rfl) (h5:(fs.toList.zipIdx.all fun x=>okF P x.2 x.1)=true:=by kernel_rfl):nY P t n :=
 .inl ⟨fs,h1,h2,h3,h4,fun i f h=>by
  have h6:=List.all_eq_true.1 h5 (f,i) (List.mem_iff_getElem?.2 ⟨i,by rw[List.getElem?_zipIdx,h]; simp⟩)
  simp only[okF,Bool.and_eq_true,bne_iff_ne,beq_iff_eq] at h6
  obtain⟨a,b,c⟩:=h6
  refine⟨a,b,?_⟩
  split at c
  ·exact⟨_,‹_›⟩
  ·cases c⟩
def ti2:TI:=⟨1,8,.one (.d (.int .i64 0)),.int .i64 0,.int .i64,[]⟩
theorem tf2:TabFact Tryz.prog 2 ti2:=tfx
def ti3:TI:=⟨1,8,.one (.d (.int .i64 0)),.int .i64 0,.int .i64,[]⟩
theorem tf3:TabFact Tryz.prog 3 ti3:=tfx
def ti4:TI:=⟨1,1,.one (.d (.bool false)),.bool false,.bool,[]⟩
theorem tf4:TabFact Tryz.prog 4 ti4:=tfx
def ti5:TI:=⟨1,1,.one (.d (.int .u8 0)),.int .u8 0,.int .u8,[]⟩
theorem tf5:TabFact Tryz.prog 5 ti5:=tfx
def ti9:TI:=⟨1,16,.one (.d (.str ⟨#[]⟩)),.string ⟨#[]⟩,.string,[]⟩
theorem tf9:TabFact Tryz.prog 9 ti9:=tfx
def ti22:TI:=⟨1,24,.one (.d .nil),.slice none 0 0,.slice 52,[]⟩
theorem tf22:TabFact Tryz.prog 22 ti22:=tfx
def ti23:TI:=⟨1,24,.one (.d .nil),.slice none 0 0,.slice 54,[]⟩
theorem tf23:TabFact Tryz.prog 23 ti23:=tfx
def ti25:TI:=⟨3,56,.agg [.d (.int .i64 0),.d .nil,.d .nil],.agg #[.int .i64 0,.slice none 0 0,.slice none 0 0],.struct #[⟨"States",3,0,false, "", "",0⟩,⟨"Hood",22,1,false, "", "",8⟩,⟨"Nodes",23,2,false, "", "",32⟩],[(0,1),(1,1),(2,1)]⟩
theorem tf25:TabFact Tryz.prog 25 ti25:=tfx
def ti26:TI:=⟨1,24,.one (.d .nil),.slice none 0 0,.slice 3,[]⟩
theorem tf26:TabFact Tryz.prog 26 ti26:=tfx
def ti28:TI:=⟨4,48,.agg [.d (.int .i64 0),.d (.int .i64 0),.d (.int .i64 0),.d .nil],.agg #[.int .i64 0,.int .i64 0,.int .i64 0,.slice none 0 0],.struct #[⟨"W",3,0,false, "", "",0⟩,⟨"H",3,1,false, "", "",8⟩,⟨"Edge",3,2,false, "", "",16⟩,⟨"Cells",26,3,false, "", "",24⟩],[(0,1),(1,1),(2,1),(3,1)]⟩
theorem tf28:TabFact Tryz.prog 28 ti28:=tfx
def ti31:TI:=⟨1,24,.one (.d .nil),.slice none 0 0,.slice 28,[]⟩
theorem tf31:TabFact Tryz.prog 31 ti31:=tfx
def ti32:TI:=⟨1,8,.one (.d (.int .i64 0)),.int .i64 0,.int .i64,[]⟩
theorem tf32:TabFact Tryz.prog 32 ti32:=tfx
def ti43:TI:=⟨6,64,.agg [.d (.int .i64 0),.d (.int .i64 0),.d (.int .i64 0),.d (.int .i64 0),.d (.int .i64 0),.d .nil],.agg #[.int .i64 0,.int .i64 0,.int .i64 0,.int .i64 0,.int .i64 0,.slice none 0 0],.struct #[⟨"W",3,0,false, "", "",0⟩,⟨"H",3,1,false, "", "",8⟩,⟨"Gens",3,2,false, "", "",16⟩,⟨"DX",3,3,false, "", "",24⟩,⟨"DY",3,4,false, "", "",32⟩,⟨"Syms",26,5,false, "", "",40⟩],[(0,1),(1,1),(2,1),(3,1),(4,1),(5,1)]⟩
theorem tf43:TabFact Tryz.prog 43 ti43:=tfx
def ti52:TI:=⟨2,16,.agg [.d (.int .i64 0),.d (.int .i64 0)],.agg #[.int .i64 0,.int .i64 0],.struct #[⟨"X",3,0,false, "", "",0⟩,⟨"Y",3,1,false, "", "",8⟩],[(0,1),(1,1)]⟩
theorem tf52:TabFact Tryz.prog 52 ti52:=tfx
def ti54:TI:=⟨2,32,.agg [.d (.int .i64 0),.d .nil],.agg #[.int .i64 0,.slice none 0 0],.struct #[⟨"Level",3,0,false, "", "",0⟩,⟨"Next",26,1,false, "", "",8⟩],[(0,1),(1,1)]⟩
theorem tf54:TabFact Tryz.prog 54 ti54:=tfx
def ti55:TI:=⟨1,24,.one (.d .nil),.slice none 0 0,.slice 26,[]⟩
theorem tf55:TabFact Tryz.prog 55 ti55:=tfx
def ti57:TI:=⟨2,32,.agg [.d (.int .i64 0),.d .nil],.agg #[.int .i64 0,.slice none 0 0],.struct #[⟨"Vars",3,0,false, "", "",0⟩,⟨"Clauses",55,1,false, "", "",8⟩],[(0,1),(1,1)]⟩
theorem tf57:TabFact Tryz.prog 57 ti57:=tfx
def ti60:TI:=⟨1,24,.one (.d .nil),.slice none 0 0,.slice 65,[]⟩
theorem tf60:TabFact Tryz.prog 60 ti60:=tfx
def ti63:TI:=⟨1,8,.one (.top),.nilFunc,.func #[65] #[28] false,[]⟩
theorem tf63:TabFact Tryz.prog 63 ti63:=tfx
def ti65:TI:=⟨1,24,.one (.d .nil),.slice none 0 0,.slice 4,[]⟩
theorem tf65:TabFact Tryz.prog 65 ti65:=tfx
def ti67:TI:=⟨1,8,.one (.top),.nilFunc,.func #[28,28] #[3] false,[]⟩
theorem tf67:TabFact Tryz.prog 67 ti67:=tfx
def ti71:TI:=⟨1,8,.one (.top),.nilFunc,.func #[3] #[3] false,[]⟩
theorem tf71:TabFact Tryz.prog 71 ti71:=tfx
def ti82:TI:=⟨1,8,.one (.top),.nilFunc,.func #[3] #[4] false,[]⟩
theorem tf82:TabFact Tryz.prog 82 ti82:=tfx
def ti84:TI:=⟨4,32,.agg [.d (.int .i64 0),.d (.int .i64 0),.d (.int .i64 0),.d (.int .i64 0)],.agg #[.int .i64 0,.int .i64 0,.int .i64 0,.int .i64 0],.struct #[⟨"X",3,0,false, "", "",0⟩,⟨"Y",3,1,false, "", "",8⟩,⟨"W",3,2,false, "", "",16⟩,⟨"H",3,3,false, "", "",24⟩],[(0,1),(1,1),(2,1),(3,1)]⟩
theorem tf84:TabFact Tryz.prog 84 ti84:=tfx
def ti85:TI:=⟨1,8,.one (.top),.pointer none,.pointer 93,[]⟩
theorem tf85:TabFact Tryz.prog 85 ti85:=tfx
def ti87:TI:=⟨1,24,.one (.d .nil),.slice none 0 0,.slice 97,[]⟩
theorem tf87:TabFact Tryz.prog 87 ti87:=tfx
def ti89:TI:=⟨5,56,.agg [.d (.int .i64 0),.d (.int .i64 0),.d (.int .i64 0),.d (.int .i64 0),.d .nil],.agg #[.int .i64 0,.int .i64 0,.int .i64 0,.int .i64 0,.slice none 0 0],.struct #[⟨"box",84,0,false, "", "cellular/unroll",0⟩,⟨"values",87,4,false, "", "cellular/unroll",32⟩],[(0,4),(4,1)]⟩
theorem tf89:TabFact Tryz.prog 89 ti89:=tfx
def ti91:TI:=⟨1,8,.one (.nilmap),.map none,.map 9 25,[]⟩
theorem tf91:TabFact Tryz.prog 91 ti91:=tfx
def ti93:TI:=⟨7,104,.agg [.d (.int .i64 0),.d .nil,.d (.int .i64 0),.d .nil,.d .nil,.d (.int .i64 0),.nilmap],.agg #[.int .i64 0,.slice none 0 0,.int .i64 0,.slice none 0 0,.slice none 0 0,.int .i64 0,.map none],.struct #[⟨"Formula",57,0,true, "", "",0⟩,⟨"rule",25,2,false, "", "cellular/unroll",32⟩,⟨"bits",3,5,false, "", "cellular/unroll",88⟩,⟨"trees",91,6,false, "", "cellular/unroll",96⟩],[(0,2),(2,3),(5,1),(6,1)]⟩
theorem tf93:TabFact Tryz.prog 93 ti93:=tfx
def ti97:TI:=⟨2,32,.agg [.d (.int .i64 0),.d .nil],.agg #[.int .i64 0,.slice none 0 0],.struct #[⟨"constant",3,0,false, "", "cellular/unroll",0⟩,⟨"vars",26,1,false, "", "cellular/unroll",8⟩],[(0,1),(1,1)]⟩
theorem tf97:TabFact Tryz.prog 97 ti97:=tfx
def ti101:TI:=⟨1,8,.one (.top),.pointer none,.pointer 133,[]⟩
theorem tf101:TabFact Tryz.prog 101 ti101:=tfx
def ti107:TI:=⟨1,8,.one (.d (.int .u64 0)),.int .u64 0,.int .u64,[]⟩
theorem tf107:TabFact Tryz.prog 107 ti107:=tfx
def ti109:TI:=⟨1,24,.one (.d .nil),.slice none 0 0,.slice 114,[]⟩
theorem tf109:TabFact Tryz.prog 109 ti109:=tfx
def ti114:TI:=⟨2,32,.agg [.d (.int .i64 0),.d .nil],.agg #[.int .i64 0,.slice none 0 0],.struct #[⟨"State",3,0,false, "", "",0⟩,⟨"Vars",26,1,false, "", "",8⟩],[(0,1),(1,1)]⟩
theorem tf114:TabFact Tryz.prog 114 ti114:=tfx
def ti129:TI:=⟨1,8,.one (.nilmap),.map none,.map 3 26,[]⟩
theorem tf129:TabFact Tryz.prog 129 ti129:=tfx
def ti130:TI:=⟨1,24,.one (.d .nil),.slice none 0 0,.slice 137,[]⟩
theorem tf130:TabFact Tryz.prog 130 ti130:=tfx
def ti131:TI:=⟨1,24,.one (.d .nil),.slice none 0 0,.slice 142,[]⟩
theorem tf131:TabFact Tryz.prog 131 ti131:=tfx
def ti133:TI:=⟨7,120,.agg [.d .nil,.nilmap,.d .nil,.d .nil,.d (.int .i64 0),.d .nil,.d (.bool false)],.agg #[.slice none 0 0,.map none,.slice none 0 0,.slice none 0 0,.int .i64 0,.slice none 0 0,.bool false],.struct #[⟨"clauses",55,0,false, "", "cellular/solve",0⟩,⟨"watches",129,1,false, "", "cellular/solve",24⟩,⟨"values",130,2,false, "", "cellular/solve",32⟩,⟨"trail",26,3,false, "", "cellular/solve",56⟩,⟨"done",3,4,false, "", "cellular/solve",80⟩,⟨"decisions",131,5,false, "", "cellular/solve",88⟩,⟨"bad",4,6,false, "", "cellular/solve",112⟩],[(0,1),(1,1),(2,1),(3,1),(4,1),(5,1),(6,1)]⟩
theorem tf133:TabFact Tryz.prog 133 ti133:=tfx
def ti137:TI:=⟨1,1,.one (.d (.int .i8 0)),.int .i8 0,.int .i8,[]⟩
theorem tf137:TabFact Tryz.prog 137 ti137:=tfx
def ti142:TI:=⟨3,24,.agg [.d (.int .i64 0),.d (.int .i64 0),.d (.bool false)],.agg #[.int .i64 0,.int .i64 0,.bool false],.struct #[⟨"variable",3,0,false, "", "cellular/solve",0⟩,⟨"trail",3,1,false, "", "cellular/solve",8⟩,⟨"turned",4,2,false, "", "cellular/solve",16⟩],[(0,1),(1,1),(2,1)]⟩
theorem tf142:TabFact Tryz.prog 142 ti142:=tfx
def ti155:TI:=⟨1,8,.one (.d (.int .u64 0)),.int .u64 0,.int .u64,[]⟩
theorem tf155:TabFact Tryz.prog 155 ti155:=tfx
def ti161:TI:=⟨1,8,.one (.top),.nilFunc,.func #[3,26] #[26] false,[]⟩
theorem tf161:TabFact Tryz.prog 161 ti161:=tfx
def ti162:TI:=⟨1,24,.one (.d .nil),.slice none 0 0,.slice 5,[]⟩
theorem tf162:TabFact Tryz.prog 162 ti162:=tfx
def ti178:TI:=⟨1,8,.one (.nilmap),.map none,.map 9 3,[]⟩
theorem tf178:TabFact Tryz.prog 178 ti178:=tfx
def ti180:TI:=⟨2,32,.agg [.d .nil,.nilmap],.agg #[.slice none 0 0,.map none],.struct #[⟨"nodes",23,0,false, "", "cellular/reduce",0⟩,⟨"known",178,1,false, "", "cellular/reduce",24⟩],[(0,1),(1,1)]⟩
theorem tf180:TabFact Tryz.prog 180 ti180:=tfx
def ti193:TI:=⟨1,8,.one (.top),.pointer none,.pointer 180,[]⟩
theorem tf193:TabFact Tryz.prog 193 ti193:=tfx
def ti205:TI:=⟨20,160,.agg [.d (.int .u64 0),.d (.int .u64 0),.d (.int .u64 0),.d (.int .u64 0),.d (.int .u64 0),.d (.int .u64 0),.d (.int .u64 0),.d (.int .u64 0),.d (.int .u64 0),.d (.int .u64 0),.d (.int .u64 0),.d (.int .u64 0),.d (.int .u64 0),.d (.int .u64 0),.d (.int .u64 0),.d (.int .u64 0),.d (.int .u64 0),.d (.int .u64 0),.d (.int .u64 0),.d (.int .u64 0)],.agg #[.int .u64 0,.int .u64 0,.int .u64 0,.int .u64 0,.int .u64 0,.int .u64 0,.int .u64 0,.int .u64 0,.int .u64 0,.int .u64 0,.int .u64 0,.int .u64 0,.int .u64 0,.int .u64 0,.int .u64 0,.int .u64 0,.int .u64 0,.int .u64 0,.int .u64 0,.int .u64 0],.array 20 155,[]⟩
theorem tf205:TabFact Tryz.prog 205 ti205:=tfx
def ti207:TI:=⟨32,32,.agg [.d (.int .u8 0),.d (.int .u8 0),.d (.int .u8 0),.d (.int .u8 0),.d (.int .u8 0),.d (.int .u8 0),.d (.int .u8 0),.d (.int .u8 0),.d (.int .u8 0),.d (.int .u8 0),.d (.int .u8 0),.d (.int .u8 0),.d (.int .u8 0),.d (.int .u8 0),.d (.int .u8 0),.d (.int .u8 0),.d (.int .u8 0),.d (.int .u8 0),.d (.int .u8 0),.d (.int .u8 0),.d (.int .u8 0),.d (.int .u8 0),.d (.int .u8 0),.d (.int .u8 0),.d (.int .u8 0),.d (.int .u8 0),.d (.int .u8 0),.d (.int .u8 0),.d (.int .u8 0),.d (.int .u8 0),.d (.int .u8 0),.d (.int .u8 0)],.agg #[.int .u8 0,.int .u8 0,.int .u8 0,.int .u8 0,.int .u8 0,.int .u8 0,.int .u8 0,.int .u8 0,.int .u8 0,.int .u8 0,.int .u8 0,.int .u8 0,.int .u8 0,.int .u8 0,.int .u8 0,.int .u8 0,.int .u8 0,.int .u8 0,.int .u8 0,.int .u8 0,.int .u8 0,.int .u8 0,.int .u8 0,.int .u8 0,.int .u8 0,.int .u8 0,.int .u8 0,.int .u8 0,.int .u8 0,.int .u8 0,.int .u8 0,.int .u8 0],.array 32 5,[]⟩
theorem tf207:TabFact Tryz.prog 207 ti207:=tfx
def ty:Tab:=fun t=>match t with
 | 2=>some ti2
 | 3=>some ti3
 | 4=>some ti4
 | 5=>some ti5
 | 9=>some ti9
 | 22=>some ti22
 | 23=>some ti23
 | 25=>some ti25
 | 26=>some ti26
 | 28=>some ti28
 | 31=>some ti31
 | 32=>some ti32
 | 43=>some ti43
 | 52=>some ti52
 | 54=>some ti54
 | 55=>some ti55
 | 57=>some ti57
 | 60=>some ti60
 | 63=>some ti63
 | 65=>some ti65
 | 67=>some ti67
 | 71=>some ti71
 | 82=>some ti82
 | 84=>some ti84
 | 85=>some ti85
 | 87=>some ti87
 | 89=>some ti89
 | 91=>some ti91
 | 93=>some ti93
 | 97=>some ti97
 | 101=>some ti101
 | 107=>some ti107
 | 109=>some ti109
 | 114=>some ti114
 | 129=>some ti129
 | 130=>some ti130
 | 131=>some ti131
 | 133=>some ti133
 | 137=>some ti137
 | 142=>some ti142
 | 155=>some ti155
 | 161=>some ti161
 | 162=>some ti162
 | 178=>some ti178
 | 180=>some ti180
 | 193=>some ti193
 | 205=>some ti205
 | 207=>some ti207
 | _=>none
theorem ty_ok:TabOk Tryz.prog ty:=by
 intro t ti h
 unfold ty at h
 split at h
 ·cases h; exact tf2
 ·cases h; exact tf3
 ·cases h; exact tf4
 ·cases h; exact tf5
 ·cases h; exact tf9
 ·cases h; exact tf22
 ·cases h; exact tf23
 ·cases h; exact tf25
 ·cases h; exact tf26
 ·cases h; exact tf28
 ·cases h; exact tf31
 ·cases h; exact tf32
 ·cases h; exact tf43
 ·cases h; exact tf52
 ·cases h; exact tf54
 ·cases h; exact tf55
 ·cases h; exact tf57
 ·cases h; exact tf60
 ·cases h; exact tf63
 ·cases h; exact tf65
 ·cases h; exact tf67
 ·cases h; exact tf71
 ·cases h; exact tf82
 ·cases h; exact tf84
 ·cases h; exact tf85
 ·cases h; exact tf87
 ·cases h; exact tf89
 ·cases h; exact tf91
 ·cases h; exact tf93
 ·cases h; exact tf97
 ·cases h; exact tf101
 ·cases h; exact tf107
 ·cases h; exact tf109
 ·cases h; exact tf114
 ·cases h; exact tf129
 ·cases h; exact tf130
 ·cases h; exact tf131
 ·cases h; exact tf133
 ·cases h; exact tf137
 ·cases h; exact tf142
 ·cases h; exact tf155
 ·cases h; exact tf161
 ·cases h; exact tf162
 ·cases h; exact tf178
 ·cases h; exact tf180
 ·cases h; exact tf193
 ·cases h; exact tf205
 ·cases h; exact tf207
 ·cases h
def eqn:TypeId->Option Nat:=fun t=>match t with
 | 52=>some 2
 | 84=>some 4
 | _=>none
theorem ef52:nY Tryz.prog 52 2:=efs #[⟨"X",3,0,false, "", "",0⟩,⟨"Y",3,1,false, "", "",8⟩]
theorem ef84:nY Tryz.prog 84 4:=efs #[⟨"X",3,0,false, "", "",0⟩,⟨"Y",3,1,false, "", "",8⟩,⟨"W",3,2,false, "", "",16⟩,⟨"H",3,3,false, "", "",24⟩]
theorem eqn_ok:∀ t n,eqn t=some n->nY Tryz.prog t n:=by
 intro t n h
 unfold eqn at h
 split at h
 ·cases h; exact ef52
 ·cases h; exact ef84
 ·cases h
def key:TypeId->Option KK:=fun t=>match t with
 | 3=>some (.int .i64)
 | 9=>some .str
 | _=>none
theorem kf3:Maps.Keyed Tryz.prog 3/\∀ k:Key,k.fits (.int .i64)=true->∃ l,keyOf Tryz.prog 3 k.val=some l:=key_int (by kernel_rfl)
theorem kf9:Maps.Keyed Tryz.prog 9/\∀ k:Key,k.fits .str=true->∃ l,keyOf Tryz.prog 9 k.val=some l:=key_str (by kernel_rfl)
theorem key_ok:∀ t kk,key t=some kk->Maps.Keyed Tryz.prog t/\∀ k:Key,k.fits kk=true->∃ l,keyOf Tryz.prog t k.val=some l:=by
 intro t kk h
 unfold key at h
 split at h
 ·cases h; exact kf3
 ·cases h; exact kf9
 ·cases h
def tb:Tb:={ ty:=ty,eqn:=eqn,key:=key,capd:=true }
theorem bE:TbOk Tryz.prog tb:=⟨ty_ok,eqn_ok,key_ok,(fun _ _ _ h=>by cases h),(fun _ _ _ _ _ _ _ _ _ h=>by cases h)⟩
theorem mixed:Tryz.prog.follows .mixedOrders=true:=by kernel_rfl
end Go.Proofs.YtbgliammfkgfoaaGreatDoor
