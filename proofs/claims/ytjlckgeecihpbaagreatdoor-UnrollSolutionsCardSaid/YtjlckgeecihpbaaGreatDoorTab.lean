/- The table of the types of this seat, made by program (gen_tab.py), and that it holds. -/
import Derived.Test.YtjlckgeecihpbaaGreatDoorRows
import Derived.Test.YtjlckgeecihpbaaGreatDoorAmO
namespace Go.Proofs.YtjlckgeecihpbaaGreatDoor
open Go.AM Go.Proofs
theorem tz {ti:TI} (h:constV ti.zv=.u ti.zu:=by rfl) (φ:Nat->Value) (w:World) (F:Nat->Prop):bR φ w F ti.zu ti.zv:=by
 have h2:=vsim_const (φ:=φ) (w:=w) (F:=F) ti.zv
 rw[h] at h2
 exact h2
theorem tfx {P:Program} {t:TypeId} {ti:TI} (h1:(P.info? t).map (fun i=>(i.size,i.bytes,i.zero))=some (ti.size,ti.bytes,some ti.zv):=by kernel_rfl) (h2:P.underlying t=some ti.desc:=by kernel_rfl) (h3:∀ φ w F,bR φ w F ti.zu ti.zv:=by exact tz)
  (h4:ti.zv.cells.size=ti.size:=by rfl) (h5:∀ fs,ti.desc=.struct fs->(ti.offs=fs.toList.map fun f=>(f.offset,P.cellsOf f.type)):=by intro fs h; cases h<;>kernel_rfl) (h6:∀ fs,ti.desc=.struct fs->(fs.toList.all fun f=>(P.info? f.type).isSome)=true:=by intro fs h; cases h<;>kernel_rfl):TabFact P t ti:=⟨h1,h2,h3,h4,h5,h6⟩
def okF (P:Program) (i:Nat) (f:Field):Bool:=f.name != "_" && (f.offset == i && match P.underlying f.type with
 | some (.int _)=>true
 | _=>false)
theorem efs {P:Program} {t:TypeId} {n:Nat} (fs:Array Field) (h1:P.underlying t=some (.struct fs):=by kernel_rfl) (h2:P.stoodInHeld t=false:=by kernel_rfl) (h3:P.eqGuardType P.depth t=false:=by kernel_rfl) (h4:fs.size=n:=by rfl) (h5:(fs.toList.zipIdx.all fun x=>okF P x.2 x.1)=true:=by kernel_rfl):kY P t n :=
 .inl ⟨fs,h1,h2,h3,h4,fun i f h=>by
  have h6:=List.all_eq_true.1 h5 (f,i) (List.mem_iff_getElem?.2 ⟨i,by rw[List.getElem?_zipIdx,h]; simp⟩)
  simp only[okF,Bool.and_eq_true,bne_iff_ne,beq_iff_eq] at h6
  obtain⟨a,b,c⟩:=h6
  refine⟨a,b,?_⟩
  split at c
  ·exact⟨_,‹_›⟩
  ·cases c⟩
theorem efa {P:Program} {t:TypeId} {n:Nat} (e:TypeId) (k:IntKind) (h1:P.underlying t=some (.array n e):=by kernel_rfl) (h2:(P.info? e).isSome=true:=by kernel_rfl) (h3:P.cellsOf e=1:=by kernel_rfl) (h4:P.underlying e=some (.int k):=by kernel_rfl) (h5:P.eqGuardType P.depth t=false:=by kernel_rfl):kY P t n :=
 let ⟨i,hi⟩:=Option.isSome_iff_exists.1 h2
 .inr ⟨e,i,k,h1,hi,h3,h4,h5⟩
def ti2:TI:=⟨1,8,.one (.d (.int .i64 0)),.int .i64 0,.int .i64,[]⟩
theorem tf2:TabFact Tryz.prog 2 ti2:=tfx
def ti3:TI:=⟨1,8,.one (.d (.int .i64 0)),.int .i64 0,.int .i64,[]⟩
theorem tf3:TabFact Tryz.prog 3 ti3:=tfx
def ti4:TI:=⟨1,1,.one (.d (.bool false)),.bool false,.bool,[]⟩
theorem tf4:TabFact Tryz.prog 4 ti4:=tfx
def ti5:TI:=⟨1,1,.one (.d (.int .u8 0)),.int .u8 0,.int .u8,[]⟩
theorem tf5:TabFact Tryz.prog 5 ti5:=tfx
def ti9:TI:=⟨1,16,.one (.d (.str ⟨#[]⟩)),.string ⟨#[]⟩,.string,[]⟩
theorem tf9:TabFact Tryz.prog 9 ti9:=tfx
def ti22:TI:=⟨1,24,.one (.d .nil),.slice none 0 0,.slice 74,[]⟩
theorem tf22:TabFact Tryz.prog 22 ti22:=tfx
def ti23:TI:=⟨1,24,.one (.d .nil),.slice none 0 0,.slice 47,[]⟩
theorem tf23:TabFact Tryz.prog 23 ti23:=tfx
def ti25:TI:=⟨3,56,.agg [.d (.int .i64 0),.d .nil,.d .nil],.agg #[.int .i64 0,.slice none 0 0,.slice none 0 0],.struct #[⟨"States",3,0,false, "", "",0⟩,⟨"Hood",22,1,false, "", "",8⟩,⟨"Nodes",23,2,false, "", "",32⟩],[(0,1),(1,1),(2,1)]⟩
theorem tf25:TabFact Tryz.prog 25 ti25:=tfx
def ti26:TI:=⟨1,24,.one (.d .nil),.slice none 0 0,.slice 3,[]⟩
theorem tf26:TabFact Tryz.prog 26 ti26:=tfx
def ti28:TI:=⟨6,64,.agg [.d (.int .i64 0),.d (.int .i64 0),.d (.int .i64 0),.d (.int .i64 0),.d (.int .i64 0),.d .nil],.agg #[.int .i64 0,.int .i64 0,.int .i64 0,.int .i64 0,.int .i64 0,.slice none 0 0],.struct #[⟨"W",3,0,false, "", "",0⟩,⟨"H",3,1,false, "", "",8⟩,⟨"Gens",3,2,false, "", "",16⟩,⟨"DX",3,3,false, "", "",24⟩,⟨"DY",3,4,false, "", "",32⟩,⟨"Syms",26,5,false, "", "",40⟩],[(0,1),(1,1),(2,1),(3,1),(4,1),(5,1)]⟩
theorem tf28:TabFact Tryz.prog 28 ti28:=tfx
def ti29:TI:=⟨1,24,.one (.d .nil),.slice none 0 0,.slice 53,[]⟩
theorem tf29:TabFact Tryz.prog 29 ti29:=tfx
def ti30:TI:=⟨1,24,.one (.d .nil),.slice none 0 0,.slice 53,[]⟩
theorem tf30:TabFact Tryz.prog 30 ti30:=tfx
def ti33:TI:=⟨1,24,.one (.d .nil),.slice none 0 0,.slice 26,[]⟩
theorem tf33:TabFact Tryz.prog 33 ti33:=tfx
def ti35:TI:=⟨2,32,.agg [.d (.int .i64 0),.d .nil],.agg #[.int .i64 0,.slice none 0 0],.struct #[⟨"Vars",3,0,false, "", "",0⟩,⟨"Clauses",33,1,false, "", "",8⟩],[(0,1),(1,1)]⟩
theorem tf35:TabFact Tryz.prog 35 ti35:=tfx
def ti36:TI:=⟨1,8,.one (.d (.int .i64 0)),.int .i64 0,.int .i64,[]⟩
theorem tf36:TabFact Tryz.prog 36 ti36:=tfx
def ti39:TI:=⟨1,24,.one (.d .nil),.slice none 0 0,.slice 4,[]⟩
theorem tf39:TabFact Tryz.prog 39 ti39:=tfx
def ti47:TI:=⟨2,32,.agg [.d (.int .i64 0),.d .nil],.agg #[.int .i64 0,.slice none 0 0],.struct #[⟨"Level",3,0,false, "", "",0⟩,⟨"Next",26,1,false, "", "",8⟩],[(0,1),(1,1)]⟩
theorem tf47:TabFact Tryz.prog 47 ti47:=tfx
def ti51:TI:=⟨4,48,.agg [.d (.int .i64 0),.d (.int .i64 0),.d (.int .i64 0),.d .nil],.agg #[.int .i64 0,.int .i64 0,.int .i64 0,.slice none 0 0],.struct #[⟨"W",3,0,false, "", "",0⟩,⟨"H",3,1,false, "", "",8⟩,⟨"Edge",3,2,false, "", "",16⟩,⟨"Cells",26,3,false, "", "",24⟩],[(0,1),(1,1),(2,1),(3,1)]⟩
theorem tf51:TabFact Tryz.prog 51 ti51:=tfx
def ti53:TI:=⟨3,24,.agg [.d (.int .i64 0),.d (.int .i64 0),.d (.int .i64 0)],.agg #[.int .i64 0,.int .i64 0,.int .i64 0],.struct #[⟨"X",3,0,false, "", "",0⟩,⟨"Y",3,1,false, "", "",8⟩,⟨"S",3,2,false, "", "",16⟩],[(0,1),(1,1),(2,1)]⟩
theorem tf53:TabFact Tryz.prog 53 ti53:=tfx
def ti59:TI:=⟨1,8,.one (.top),.pointer none,.pointer 70,[]⟩
theorem tf59:TabFact Tryz.prog 59 ti59:=tfx
def ti63:TI:=⟨4,32,.agg [.d (.int .i64 0),.d (.int .i64 0),.d (.int .i64 0),.d (.int .i64 0)],.agg #[.int .i64 0,.int .i64 0,.int .i64 0,.int .i64 0],.struct #[⟨"X",3,0,false, "", "",0⟩,⟨"Y",3,1,false, "", "",8⟩,⟨"W",3,2,false, "", "",16⟩,⟨"H",3,3,false, "", "",24⟩],[(0,1),(1,1),(2,1),(3,1)]⟩
theorem tf63:TabFact Tryz.prog 63 ti63:=tfx
def ti64:TI:=⟨1,24,.one (.d .nil),.slice none 0 0,.slice 72,[]⟩
theorem tf64:TabFact Tryz.prog 64 ti64:=tfx
def ti66:TI:=⟨5,56,.agg [.d (.int .i64 0),.d (.int .i64 0),.d (.int .i64 0),.d (.int .i64 0),.d .nil],.agg #[.int .i64 0,.int .i64 0,.int .i64 0,.int .i64 0,.slice none 0 0],.struct #[⟨"box",63,0,false, "", "cellular/unroll",0⟩,⟨"values",64,4,false, "", "cellular/unroll",32⟩],[(0,4),(4,1)]⟩
theorem tf66:TabFact Tryz.prog 66 ti66:=tfx
def ti68:TI:=⟨1,8,.one (.nilmap),.map none,.map 9 25,[]⟩
theorem tf68:TabFact Tryz.prog 68 ti68:=tfx
def ti70:TI:=⟨7,104,.agg [.d (.int .i64 0),.d .nil,.d (.int .i64 0),.d .nil,.d .nil,.d (.int .i64 0),.nilmap],.agg #[.int .i64 0,.slice none 0 0,.int .i64 0,.slice none 0 0,.slice none 0 0,.int .i64 0,.map none],.struct #[⟨"Formula",35,0,true, "", "",0⟩,⟨"rule",25,2,false, "", "cellular/unroll",32⟩,⟨"bits",3,5,false, "", "cellular/unroll",88⟩,⟨"trees",68,6,false, "", "cellular/unroll",96⟩],[(0,2),(2,3),(5,1),(6,1)]⟩
theorem tf70:TabFact Tryz.prog 70 ti70:=tfx
def ti72:TI:=⟨2,32,.agg [.d (.int .i64 0),.d .nil],.agg #[.int .i64 0,.slice none 0 0],.struct #[⟨"constant",3,0,false, "", "cellular/unroll",0⟩,⟨"vars",26,1,false, "", "cellular/unroll",8⟩],[(0,1),(1,1)]⟩
theorem tf72:TabFact Tryz.prog 72 ti72:=tfx
def ti74:TI:=⟨2,16,.agg [.d (.int .i64 0),.d (.int .i64 0)],.agg #[.int .i64 0,.int .i64 0],.struct #[⟨"X",3,0,false, "", "",0⟩,⟨"Y",3,1,false, "", "",8⟩],[(0,1),(1,1)]⟩
theorem tf74:TabFact Tryz.prog 74 ti74:=tfx
def ti84:TI:=⟨1,8,.one (.top),.nilFunc,.func #[53] #[4] false,[]⟩
theorem tf84:TabFact Tryz.prog 84 ti84:=tfx
def ti86:TI:=⟨1,8,.one (.top),.nilFunc,.func #[3] #[3] false,[]⟩
theorem tf86:TabFact Tryz.prog 86 ti86:=tfx
def ti95:TI:=⟨1,8,.one (.top),.nilFunc,.func #[3] #[4] false,[]⟩
theorem tf95:TabFact Tryz.prog 95 ti95:=tfx
def ti111:TI:=⟨1,8,.one (.top),.nilFunc,.func #[53,53] #[3] false,[]⟩
theorem tf111:TabFact Tryz.prog 111 ti111:=tfx
def ti114:TI:=⟨1,24,.one (.d .nil),.slice none 0 0,.slice 30,[]⟩
theorem tf114:TabFact Tryz.prog 114 ti114:=tfx
def ti123:TI:=⟨1,8,.one (.top),.nilFunc,.func #[3,26] #[26] false,[]⟩
theorem tf123:TabFact Tryz.prog 123 ti123:=tfx
def ti126:TI:=⟨4,32,.agg [.d (.int .i64 0),.d (.int .i64 0),.d (.int .i64 0),.d (.int .i64 0)],.agg #[.int .i64 0,.int .i64 0,.int .i64 0,.int .i64 0],.array 4 3,[]⟩
theorem tf126:TabFact Tryz.prog 126 ti126:=tfx
def ti127:TI:=⟨32,256,.agg [.d (.int .i64 0),.d (.int .i64 0),.d (.int .i64 0),.d (.int .i64 0),.d (.int .i64 0),.d (.int .i64 0),.d (.int .i64 0),.d (.int .i64 0),.d (.int .i64 0),.d (.int .i64 0),.d (.int .i64 0),.d (.int .i64 0),.d (.int .i64 0),.d (.int .i64 0),.d (.int .i64 0),.d (.int .i64 0),.d (.int .i64 0),.d (.int .i64 0),.d (.int .i64 0),.d (.int .i64 0),.d (.int .i64 0),.d (.int .i64 0),.d (.int .i64 0),.d (.int .i64 0),.d (.int .i64 0),.d (.int .i64 0),.d (.int .i64 0),.d (.int .i64 0),.d (.int .i64 0),.d (.int .i64 0),.d (.int .i64 0),.d (.int .i64 0)],.agg #[.int .i64 0,.int .i64 0,.int .i64 0,.int .i64 0,.int .i64 0,.int .i64 0,.int .i64 0,.int .i64 0,.int .i64 0,.int .i64 0,.int .i64 0,.int .i64 0,.int .i64 0,.int .i64 0,.int .i64 0,.int .i64 0,.int .i64 0,.int .i64 0,.int .i64 0,.int .i64 0,.int .i64 0,.int .i64 0,.int .i64 0,.int .i64 0,.int .i64 0,.int .i64 0,.int .i64 0,.int .i64 0,.int .i64 0,.int .i64 0,.int .i64 0,.int .i64 0],.array 8 126,[]⟩
theorem tf127:TabFact Tryz.prog 127 ti127:=tfx
def ti128:TI:=⟨1,24,.one (.d .nil),.slice none 0 0,.slice 5,[]⟩
theorem tf128:TabFact Tryz.prog 128 ti128:=tfx
def ti139:TI:=⟨1,8,.one (.nilmap),.map none,.map 74 3,[]⟩
theorem tf139:TabFact Tryz.prog 139 ti139:=tfx
def ti141:TI:=⟨1,8,.one (.nilmap),.map none,.map 74 4,[]⟩
theorem tf141:TabFact Tryz.prog 141 ti141:=tfx
def ti143:TI:=⟨8,8,.agg [.d (.bool false),.d (.bool false),.d (.bool false),.d (.bool false),.d (.bool false),.d (.bool false),.d (.bool false),.d (.bool false)],.agg #[.bool false,.bool false,.bool false,.bool false,.bool false,.bool false,.bool false,.bool false],.array 8 4,[]⟩
theorem tf143:TabFact Tryz.prog 143 ti143:=tfx
def ti144:TI:=⟨1,8,.one (.nilmap),.map none,.map 9 3,[]⟩
theorem tf144:TabFact Tryz.prog 144 ti144:=tfx
def ti146:TI:=⟨2,32,.agg [.d .nil,.nilmap],.agg #[.slice none 0 0,.map none],.struct #[⟨"nodes",23,0,false, "", "cellular/reduce",0⟩,⟨"known",144,1,false, "", "cellular/reduce",24⟩],[(0,1),(1,1)]⟩
theorem tf146:TabFact Tryz.prog 146 ti146:=tfx
def ti153:TI:=⟨7,88,.agg [.d (.bool false),.d (.int .i64 0),.d (.int .i64 0),.d (.int .i64 0),.d (.int .i64 0),.d .nil,.d .nil],.agg #[.bool false,.int .i64 0,.int .i64 0,.int .i64 0,.int .i64 0,.slice none 0 0,.slice none 0 0],.struct #[⟨"flat",4,0,false, "", "cellular/cellularref20",0⟩,⟨"box",63,1,false, "", "cellular/cellularref20",8⟩,⟨"cells",26,5,false, "", "cellular/cellularref20",40⟩,⟨"list",30,6,false, "", "cellular/cellularref20",64⟩],[(0,1),(1,4),(5,1),(6,1)]⟩
theorem tf153:TabFact Tryz.prog 153 ti153:=tfx
def ti158:TI:=⟨1,8,.one (.top),.pointer none,.pointer 146,[]⟩
theorem tf158:TabFact Tryz.prog 158 ti158:=tfx
def ti167:TI:=⟨1,8,.one (.d (.int .u64 0)),.int .u64 0,.int .u64,[]⟩
theorem tf167:TabFact Tryz.prog 167 ti167:=tfx
def ti179:TI:=⟨1,8,.one (.d (.int .u64 0)),.int .u64 0,.int .u64,[]⟩
theorem tf179:TabFact Tryz.prog 179 ti179:=tfx
def ti188:TI:=⟨24,24,.agg [.d (.int .u8 0),.d (.int .u8 0),.d (.int .u8 0),.d (.int .u8 0),.d (.int .u8 0),.d (.int .u8 0),.d (.int .u8 0),.d (.int .u8 0),.d (.int .u8 0),.d (.int .u8 0),.d (.int .u8 0),.d (.int .u8 0),.d (.int .u8 0),.d (.int .u8 0),.d (.int .u8 0),.d (.int .u8 0),.d (.int .u8 0),.d (.int .u8 0),.d (.int .u8 0),.d (.int .u8 0),.d (.int .u8 0),.d (.int .u8 0),.d (.int .u8 0),.d (.int .u8 0)],.agg #[.int .u8 0,.int .u8 0,.int .u8 0,.int .u8 0,.int .u8 0,.int .u8 0,.int .u8 0,.int .u8 0,.int .u8 0,.int .u8 0,.int .u8 0,.int .u8 0,.int .u8 0,.int .u8 0,.int .u8 0,.int .u8 0,.int .u8 0,.int .u8 0,.int .u8 0,.int .u8 0,.int .u8 0,.int .u8 0,.int .u8 0,.int .u8 0],.array 24 5,[]⟩
theorem tf188:TabFact Tryz.prog 188 ti188:=tfx
def ti196:TI:=⟨20,160,.agg [.d (.int .u64 0),.d (.int .u64 0),.d (.int .u64 0),.d (.int .u64 0),.d (.int .u64 0),.d (.int .u64 0),.d (.int .u64 0),.d (.int .u64 0),.d (.int .u64 0),.d (.int .u64 0),.d (.int .u64 0),.d (.int .u64 0),.d (.int .u64 0),.d (.int .u64 0),.d (.int .u64 0),.d (.int .u64 0),.d (.int .u64 0),.d (.int .u64 0),.d (.int .u64 0),.d (.int .u64 0)],.agg #[.int .u64 0,.int .u64 0,.int .u64 0,.int .u64 0,.int .u64 0,.int .u64 0,.int .u64 0,.int .u64 0,.int .u64 0,.int .u64 0,.int .u64 0,.int .u64 0,.int .u64 0,.int .u64 0,.int .u64 0,.int .u64 0,.int .u64 0,.int .u64 0,.int .u64 0,.int .u64 0],.array 20 179,[]⟩
theorem tf196:TabFact Tryz.prog 196 ti196:=tfx
def ti198:TI:=⟨32,32,.agg [.d (.int .u8 0),.d (.int .u8 0),.d (.int .u8 0),.d (.int .u8 0),.d (.int .u8 0),.d (.int .u8 0),.d (.int .u8 0),.d (.int .u8 0),.d (.int .u8 0),.d (.int .u8 0),.d (.int .u8 0),.d (.int .u8 0),.d (.int .u8 0),.d (.int .u8 0),.d (.int .u8 0),.d (.int .u8 0),.d (.int .u8 0),.d (.int .u8 0),.d (.int .u8 0),.d (.int .u8 0),.d (.int .u8 0),.d (.int .u8 0),.d (.int .u8 0),.d (.int .u8 0),.d (.int .u8 0),.d (.int .u8 0),.d (.int .u8 0),.d (.int .u8 0),.d (.int .u8 0),.d (.int .u8 0),.d (.int .u8 0),.d (.int .u8 0)],.agg #[.int .u8 0,.int .u8 0,.int .u8 0,.int .u8 0,.int .u8 0,.int .u8 0,.int .u8 0,.int .u8 0,.int .u8 0,.int .u8 0,.int .u8 0,.int .u8 0,.int .u8 0,.int .u8 0,.int .u8 0,.int .u8 0,.int .u8 0,.int .u8 0,.int .u8 0,.int .u8 0,.int .u8 0,.int .u8 0,.int .u8 0,.int .u8 0,.int .u8 0,.int .u8 0,.int .u8 0,.int .u8 0,.int .u8 0,.int .u8 0,.int .u8 0,.int .u8 0],.array 32 5,[]⟩
theorem tf198:TabFact Tryz.prog 198 ti198:=tfx
def ty:Tab:=fun t=>match t with
 | 2=>some ti2
 | 3=>some ti3
 | 4=>some ti4
 | 5=>some ti5
 | 9=>some ti9
 | 22=>some ti22
 | 23=>some ti23
 | 25=>some ti25
 | 26=>some ti26
 | 28=>some ti28
 | 29=>some ti29
 | 30=>some ti30
 | 33=>some ti33
 | 35=>some ti35
 | 36=>some ti36
 | 39=>some ti39
 | 47=>some ti47
 | 51=>some ti51
 | 53=>some ti53
 | 59=>some ti59
 | 63=>some ti63
 | 64=>some ti64
 | 66=>some ti66
 | 68=>some ti68
 | 70=>some ti70
 | 72=>some ti72
 | 74=>some ti74
 | 84=>some ti84
 | 86=>some ti86
 | 95=>some ti95
 | 111=>some ti111
 | 114=>some ti114
 | 123=>some ti123
 | 126=>some ti126
 | 127=>some ti127
 | 128=>some ti128
 | 139=>some ti139
 | 141=>some ti141
 | 143=>some ti143
 | 144=>some ti144
 | 146=>some ti146
 | 153=>some ti153
 | 158=>some ti158
 | 167=>some ti167
 | 179=>some ti179
 | 188=>some ti188
 | 196=>some ti196
 | 198=>some ti198
 | _=>none
theorem ty_ok:TabOk Tryz.prog ty:=by
 intro t ti h
 unfold ty at h
 split at h
 ·cases h; exact tf2
 ·cases h; exact tf3
 ·cases h; exact tf4
 ·cases h; exact tf5
 ·cases h; exact tf9
 ·cases h; exact tf22
 ·cases h; exact tf23
 ·cases h; exact tf25
 ·cases h; exact tf26
 ·cases h; exact tf28
 ·cases h; exact tf29
 ·cases h; exact tf30
 ·cases h; exact tf33
 ·cases h; exact tf35
 ·cases h; exact tf36
 ·cases h; exact tf39
 ·cases h; exact tf47
 ·cases h; exact tf51
 ·cases h; exact tf53
 ·cases h; exact tf59
 ·cases h; exact tf63
 ·cases h; exact tf64
 ·cases h; exact tf66
 ·cases h; exact tf68
 ·cases h; exact tf70
 ·cases h; exact tf72
 ·cases h; exact tf74
 ·cases h; exact tf84
 ·cases h; exact tf86
 ·cases h; exact tf95
 ·cases h; exact tf111
 ·cases h; exact tf114
 ·cases h; exact tf123
 ·cases h; exact tf126
 ·cases h; exact tf127
 ·cases h; exact tf128
 ·cases h; exact tf139
 ·cases h; exact tf141
 ·cases h; exact tf143
 ·cases h; exact tf144
 ·cases h; exact tf146
 ·cases h; exact tf153
 ·cases h; exact tf158
 ·cases h; exact tf167
 ·cases h; exact tf179
 ·cases h; exact tf188
 ·cases h; exact tf196
 ·cases h; exact tf198
 ·cases h
def eqn:TypeId->Option Nat:=fun t=>match t with
 | 53=>some 3
 | 63=>some 4
 | 74=>some 2
 | 126=>some 4
 | _=>none
theorem ef53:kY Tryz.prog 53 3:=efs #[⟨"X",3,0,false, "", "",0⟩,⟨"Y",3,1,false, "", "",8⟩,⟨"S",3,2,false, "", "",16⟩]
theorem ef63:kY Tryz.prog 63 4:=efs #[⟨"X",3,0,false, "", "",0⟩,⟨"Y",3,1,false, "", "",8⟩,⟨"W",3,2,false, "", "",16⟩,⟨"H",3,3,false, "", "",24⟩]
theorem ef74:kY Tryz.prog 74 2:=efs #[⟨"X",3,0,false, "", "",0⟩,⟨"Y",3,1,false, "", "",8⟩]
theorem ef126:kY Tryz.prog 126 4:=efa 3 .i64
theorem eqn_ok:∀ t n,eqn t=some n->kY Tryz.prog t n:=by
 intro t n h
 unfold eqn at h
 split at h
 ·cases h; exact ef53
 ·cases h; exact ef63
 ·cases h; exact ef74
 ·cases h; exact ef126
 ·cases h
def key:TypeId->Option KK:=fun t=>match t with
 | 9=>some .str
 | 74=>some (.ints 2)
 | _=>none
theorem kf9:Maps.Keyed Tryz.prog 9/\∀ k:Key,k.fits .str=true->∃ l,keyOf Tryz.prog 9 k.val=some l:=key_str (by kernel_rfl)
theorem kf74:Maps.Keyed Tryz.prog 74/\∀ k:Key,k.fits (.ints 2)=true->∃ l,keyOf Tryz.prog 74 k.val=some l :=
 key_ints (fs:=#[⟨"X",3,0,false, "", "",0⟩,⟨"Y",3,1,false, "", "",8⟩]) (by kernel_rfl) (by kernel_rfl) (by kernel_rfl) (by kernel_rfl) (by kernel_rfl) (by kernel_rfl) (by
  intro i f h
  match i,h with
  | 0,h=>cases h; exact⟨by decide,rfl,by kernel_rfl,by kernel_rfl⟩
  | 1,h=>cases h; exact⟨by decide,rfl,by kernel_rfl,by kernel_rfl⟩
  | i+2,h=>simp at h)
theorem key_ok:∀ t kk,key t=some kk->Maps.Keyed Tryz.prog t/\∀ k:Key,k.fits kk=true->∃ l,keyOf Tryz.prog t k.val=some l:=by
 intro t kk h
 unfold key at h
 split at h
 ·cases h; exact kf9
 ·cases h; exact kf74
 ·cases h
def tb:Tb:={ ty:=ty,eqn:=eqn,key:=key,capd:=true }
theorem bO:TbOk Tryz.prog tb:=⟨ty_ok,eqn_ok,key_ok,(fun _ _ _ h=>by cases h),(fun _ _ _ _ _ _ _ _ _ h=>by cases h)⟩
theorem mixed:Tryz.prog.follows .mixedOrders=true:=by kernel_rfl
end Go.Proofs.YtjlckgeecihpbaaGreatDoor
