/- The table of the types of this seat, made by program (gen_tab.py), and that it holds. -/
import Derived.Test.YtlifofijgddjkabGreatDoorRows
import Derived.Test.YtlifofijgddjkabGreatDoorAmO
namespace Go.Proofs.YtlifofijgddjkabGreatDoor
open Go.AM Go.Proofs
theorem tz {ti:TI} (h:constV ti.zv=.u ti.zu:=by rfl) (φ:Nat->Value) (w:World) (F:Nat->Prop):usim φ w F ti.zu ti.zv:=by
 have h2:=vsim_const (φ:=φ) (w:=w) (F:=F) ti.zv
 rw[h] at h2
 exact h2
theorem tfx {P:Program} {t:TypeId} {ti:TI} (h1:(P.info? t).map (fun i=>(i.size,i.bytes,i.zero))=some (ti.size,ti.bytes,some ti.zv):=by kernel_rfl) (h2:P.underlying t=some ti.desc:=by kernel_rfl) (h3:∀ φ w F,usim φ w F ti.zu ti.zv:=by exact tz)
  (h4:ti.zv.cells.size=ti.size:=by rfl) (h5:∀ fs,ti.desc=.struct fs->(ti.offs=fs.toList.map fun f=>(f.offset,P.cellsOf f.type)):=by intro fs h; cases h<;>kernel_rfl) (h6:∀ fs,ti.desc=.struct fs->(fs.toList.all fun f=>(P.info? f.type).isSome)=true:=by intro fs h; cases h<;>kernel_rfl):TabFact P t ti:=⟨h1,h2,h3,h4,h5,h6⟩
def okF (P:Program) (i:Nat) (f:Field):Bool:=f.name != "_" && (f.offset == i && match P.underlying f.type with
 | some (.int _)=>true
 | _=>false)
theorem efs {P:Program} {t:TypeId} {n:Nat} (fs:Array Field) (h1:P.underlying t=some (.struct fs):=by kernel_rfl) (h2:P.stoodInHeld t=false:=by kernel_rfl) (h3:P.eqGuardType P.depth t=false:=by kernel_rfl) (h4:fs.size=n:=by rfl) (h5:(fs.toList.zipIdx.all fun x=>okF P x.2 x.1)=true:=by kernel_rfl):intFields P t n :=
 .inl ⟨fs,h1,h2,h3,h4,fun i f h=>by
  have h6:=List.all_eq_true.1 h5 (f,i) (List.mem_iff_getElem?.2 ⟨i,by rw[List.getElem?_zipIdx,h]; simp⟩)
  simp only[okF,Bool.and_eq_true,bne_iff_ne,beq_iff_eq] at h6
  obtain⟨a,b,c⟩:=h6
  refine⟨a,b,?_⟩
  split at c
  ·exact⟨_,‹_›⟩
  ·cases c⟩
theorem efa {P:Program} {t:TypeId} {n:Nat} (e:TypeId) (k:IntKind) (h1:P.underlying t=some (.array n e):=by kernel_rfl) (h2:(P.info? e).isSome=true:=by kernel_rfl) (h3:P.cellsOf e=1:=by kernel_rfl) (h4:P.underlying e=some (.int k):=by kernel_rfl) (h5:P.eqGuardType P.depth t=false:=by kernel_rfl):intFields P t n :=
 let ⟨i,hi⟩:=Option.isSome_iff_exists.1 h2
 .inr ⟨e,i,k,h1,hi,h3,h4,h5⟩
def ti2:TI:=⟨1,8,.one (.d (.int .i64 0)),.int .i64 0,.int .i64,[]⟩
theorem tf2:TabFact Tryz.prog 2 ti2:=tfx
def ti3:TI:=⟨1,8,.one (.d (.int .i64 0)),.int .i64 0,.int .i64,[]⟩
theorem tf3:TabFact Tryz.prog 3 ti3:=tfx
def ti4:TI:=⟨1,1,.one (.d (.bool false)),.bool false,.bool,[]⟩
theorem tf4:TabFact Tryz.prog 4 ti4:=tfx
def ti5:TI:=⟨1,1,.one (.d (.int .u8 0)),.int .u8 0,.int .u8,[]⟩
theorem tf5:TabFact Tryz.prog 5 ti5:=tfx
def ti9:TI:=⟨1,16,.one (.d (.str ⟨#[]⟩)),.string ⟨#[]⟩,.string,[]⟩
theorem tf9:TabFact Tryz.prog 9 ti9:=tfx
def ti21:TI:=⟨1,4,.one (.d (.int .i32 0)),.int .i32 0,.int .i32,[]⟩
theorem tf21:TabFact Tryz.prog 21 ti21:=tfx
def ti22:TI:=⟨1,24,.one (.d .nil),.slice none 0 0,.slice 3,[]⟩
theorem tf22:TabFact Tryz.prog 22 ti22:=tfx
def ti25:TI:=⟨1,24,.one (.d .nil),.slice none 0 0,.slice 42,[]⟩
theorem tf25:TabFact Tryz.prog 25 ti25:=tfx
def ti27:TI:=⟨4,80,.agg [.d .nil,.d (.int .i64 0),.d .nil,.d .nil],.agg #[.slice none 0 0,.int .i64 0,.slice none 0 0,.slice none 0 0],.struct #[⟨"Hood",25,0,false, "", "",0⟩,⟨"States",3,1,false, "", "",24⟩,⟨"Birth",22,2,false, "", "",32⟩,⟨"Survive",22,3,false, "", "",56⟩],[(0,1),(1,1),(2,1),(3,1)]⟩
theorem tf27:TabFact Tryz.prog 27 ti27:=tfx
def ti28:TI:=⟨1,8,.one (.d (.int .i64 0)),.int .i64 0,.int .i64,[]⟩
theorem tf28:TabFact Tryz.prog 28 ti28:=tfx
def ti31:TI:=⟨1,24,.one (.d .nil),.slice none 0 0,.slice 136,[]⟩
theorem tf31:TabFact Tryz.prog 31 ti31:=tfx
def ti33:TI:=⟨3,56,.agg [.d (.int .i64 0),.d .nil,.d .nil],.agg #[.int .i64 0,.slice none 0 0,.slice none 0 0],.struct #[⟨"States",3,0,false, "", "",0⟩,⟨"Hood",25,1,false, "", "",8⟩,⟨"Nodes",31,2,false, "", "",32⟩],[(0,1),(1,1),(2,1)]⟩
theorem tf33:TabFact Tryz.prog 33 ti33:=tfx
def ti42:TI:=⟨2,16,.agg [.d (.int .i64 0),.d (.int .i64 0)],.agg #[.int .i64 0,.int .i64 0],.struct #[⟨"X",3,0,false, "", "",0⟩,⟨"Y",3,1,false, "", "",8⟩],[(0,1),(1,1)]⟩
theorem tf42:TabFact Tryz.prog 42 ti42:=tfx
def ti59:TI:=⟨1,24,.one (.d .nil),.slice none 0 0,.slice 9,[]⟩
theorem tf59:TabFact Tryz.prog 59 ti59:=tfx
def ti63:TI:=⟨1,16,.one (.d (.er false)),.nilIface,.interface #[("Error",145)],[]⟩
theorem tf63:TabFact Tryz.prog 63 ti63:=tfx
def ti69:TI:=⟨1,24,.one (.d .nil),.slice none 0 0,.slice 22,[]⟩
theorem tf69:TabFact Tryz.prog 69 ti69:=tfx
def ti70:TI:=⟨1,24,.one (.d .nil),.slice none 0 0,.slice 151,[]⟩
theorem tf70:TabFact Tryz.prog 70 ti70:=tfx
def ti72:TI:=⟨5,88,.agg [.d (.int .i64 0),.d (.int .i64 0),.d .nil,.d .nil,.d .nil],.agg #[.int .i64 0,.int .i64 0,.slice none 0 0,.slice none 0 0,.slice none 0 0],.struct #[⟨"States",3,0,false, "", "",0⟩,⟨"Sym",3,1,false, "", "",8⟩,⟨"Hood",25,2,false, "", "",16⟩,⟨"Vars",69,3,false, "", "",40⟩,⟨"Rows",70,4,false, "", "",64⟩],[(0,1),(1,1),(2,1),(3,1),(4,1)]⟩
theorem tf72:TabFact Tryz.prog 72 ti72:=tfx
def ti82:TI:=⟨1,8,.one (.top),.nilFunc,.func #[42] #[4] false,[]⟩
theorem tf82:TabFact Tryz.prog 82 ti82:=tfx
def ti85:TI:=⟨1,8,.one (.top),.nilFunc,.func #[3] #[4] false,[]⟩
theorem tf85:TabFact Tryz.prog 85 ti85:=tfx
def ti96:TI:=⟨1,8,.one (.top),.nilFunc,.func #[3,3] #[4] false,[]⟩
theorem tf96:TabFact Tryz.prog 96 ti96:=tfx
def ti97:TI:=⟨1,24,.one (.d .nil),.slice none 0 0,.slice 5,[]⟩
theorem tf97:TabFact Tryz.prog 97 ti97:=tfx
def ti103:TI:=⟨2,16,.agg [.d (.int .i64 0),.d (.int .i64 0)],.agg #[.int .i64 0,.int .i64 0],.struct #[⟨"ones",3,0,false, "", "cellular/totaltree",0⟩,⟨"centre",3,1,false, "", "cellular/totaltree",8⟩],[(0,1),(1,1)]⟩
theorem tf103:TabFact Tryz.prog 103 ti103:=tfx
def ti104:TI:=⟨1,8,.one (.top),.nilFunc,.func #[103,3,3] #[103] false,[]⟩
theorem tf104:TabFact Tryz.prog 104 ti104:=tfx
def ti105:TI:=⟨1,8,.one (.top),.nilFunc,.func #[103] #[3] false,[]⟩
theorem tf105:TabFact Tryz.prog 105 ti105:=tfx
def ti108:TI:=⟨8,64,.agg [.d (.int .i64 0),.d (.int .i64 0),.d (.int .i64 0),.d (.int .i64 0),.d (.int .i64 0),.d (.int .i64 0),.d (.int .i64 0),.d (.int .i64 0)],.agg #[.int .i64 0,.int .i64 0,.int .i64 0,.int .i64 0,.int .i64 0,.int .i64 0,.int .i64 0,.int .i64 0],.array 8 3,[]⟩
theorem tf108:TabFact Tryz.prog 108 ti108:=tfx
def ti112:TI:=⟨1,8,.one (.top),.nilFunc,.func #[3,3,3] #[3] false,[]⟩
theorem tf112:TabFact Tryz.prog 112 ti112:=tfx
def ti113:TI:=⟨1,8,.one (.top),.nilFunc,.func #[3] #[3] false,[]⟩
theorem tf113:TabFact Tryz.prog 113 ti113:=tfx
def ti114:TI:=⟨1,8,.one (.top),.pointer none,.pointer 117,[]⟩
theorem tf114:TabFact Tryz.prog 114 ti114:=tfx
def ti115:TI:=⟨1,8,.one (.nilmap),.map none,.map 9 3,[]⟩
theorem tf115:TabFact Tryz.prog 115 ti115:=tfx
def ti117:TI:=⟨7,104,.agg [.d (.int .i64 0),.d (.int .i64 0),.d .nil,.d .nil,.d .nil,.nilmap,.d (.int .i64 0)],.agg #[.int .i64 0,.int .i64 0,.slice none 0 0,.slice none 0 0,.slice none 0 0,.map none,.int .i64 0],.struct #[⟨"t",72,0,false, "", "cellular/ruletable",0⟩,⟨"names",115,5,false, "", "cellular/ruletable",88⟩,⟨"head",3,6,false, "", "cellular/ruletable",96⟩],[(0,5),(5,1),(6,1)]⟩
theorem tf117:TabFact Tryz.prog 117 ti117:=tfx
def ti119:TI:=⟨1,8,.one (.top),.nilFunc,.func #[169] #[] false,[]⟩
theorem tf119:TabFact Tryz.prog 119 ti119:=tfx
def ti125:TI:=⟨1,8,.one (.top),.nilFunc,.func #[22] #[3] false,[]⟩
theorem tf125:TabFact Tryz.prog 125 ti125:=tfx
def ti133:TI:=⟨4,32,.agg [.d (.int .i64 0),.d (.int .i64 0),.d (.int .i64 0),.d (.int .i64 0)],.agg #[.int .i64 0,.int .i64 0,.int .i64 0,.int .i64 0],.array 4 3,[]⟩
theorem tf133:TabFact Tryz.prog 133 ti133:=tfx
def ti134:TI:=⟨32,256,.agg [.d (.int .i64 0),.d (.int .i64 0),.d (.int .i64 0),.d (.int .i64 0),.d (.int .i64 0),.d (.int .i64 0),.d (.int .i64 0),.d (.int .i64 0),.d (.int .i64 0),.d (.int .i64 0),.d (.int .i64 0),.d (.int .i64 0),.d (.int .i64 0),.d (.int .i64 0),.d (.int .i64 0),.d (.int .i64 0),.d (.int .i64 0),.d (.int .i64 0),.d (.int .i64 0),.d (.int .i64 0),.d (.int .i64 0),.d (.int .i64 0),.d (.int .i64 0),.d (.int .i64 0),.d (.int .i64 0),.d (.int .i64 0),.d (.int .i64 0),.d (.int .i64 0),.d (.int .i64 0),.d (.int .i64 0),.d (.int .i64 0),.d (.int .i64 0)],.agg #[.int .i64 0,.int .i64 0,.int .i64 0,.int .i64 0,.int .i64 0,.int .i64 0,.int .i64 0,.int .i64 0,.int .i64 0,.int .i64 0,.int .i64 0,.int .i64 0,.int .i64 0,.int .i64 0,.int .i64 0,.int .i64 0,.int .i64 0,.int .i64 0,.int .i64 0,.int .i64 0,.int .i64 0,.int .i64 0,.int .i64 0,.int .i64 0,.int .i64 0,.int .i64 0,.int .i64 0,.int .i64 0,.int .i64 0,.int .i64 0,.int .i64 0,.int .i64 0],.array 8 133,[]⟩
theorem tf134:TabFact Tryz.prog 134 ti134:=tfx
def ti136:TI:=⟨2,32,.agg [.d (.int .i64 0),.d .nil],.agg #[.int .i64 0,.slice none 0 0],.struct #[⟨"Level",3,0,false, "", "",0⟩,⟨"Next",22,1,false, "", "",8⟩],[(0,1),(1,1)]⟩
theorem tf136:TabFact Tryz.prog 136 ti136:=tfx
def ti140:TI:=⟨1,8,.one (.top),.pointer none,.pointer 142,[]⟩
theorem tf140:TabFact Tryz.prog 140 ti140:=tfx
def ti142:TI:=⟨2,32,.agg [.top,.d .nil],.agg #[.pointer none,.slice none 0 0],.struct #[⟨"addr",140,0,false, "", "strings",0⟩,⟨"buf",97,1,false, "", "strings",8⟩],[(0,1),(1,1)]⟩
theorem tf142:TabFact Tryz.prog 142 ti142:=tfx
def ti149:TI:=⟨4,64,.agg [.d (.str ⟨#[]⟩),.d (.str ⟨#[]⟩),.d (.str ⟨#[]⟩),.d (.str ⟨#[]⟩)],.agg #[.string ⟨#[]⟩,.string ⟨#[]⟩,.string ⟨#[]⟩,.string ⟨#[]⟩],.array 4 9,[]⟩
theorem tf149:TabFact Tryz.prog 149 ti149:=tfx
def ti151:TI:=⟨2,32,.agg [.d .nil,.d (.int .i64 0)],.agg #[.slice none 0 0,.int .i64 0],.struct #[⟨"Ins",22,0,false, "", "",0⟩,⟨"Out",3,1,false, "", "",24⟩],[(0,1),(1,1)]⟩
theorem tf151:TabFact Tryz.prog 151 ti151:=tfx
def ti159:TI:=⟨1,8,.one (.nilmap),.map none,.map 162 3,[]⟩
theorem tf159:TabFact Tryz.prog 159 ti159:=tfx
def ti160:TI:=⟨1,8,.one (.top),.nilFunc,.func #[162] #[3] false,[]⟩
theorem tf160:TabFact Tryz.prog 160 ti160:=tfx
def ti162:TI:=⟨3,24,.agg [.d (.int .i64 0),.d (.int .i64 0),.d (.int .i64 0)],.agg #[.int .i64 0,.int .i64 0,.int .i64 0],.struct #[⟨"at",3,0,false, "", "cellular/totaltree",0⟩,⟨"s",103,1,false, "", "cellular/totaltree",8⟩],[(0,1),(1,2)]⟩
theorem tf162:TabFact Tryz.prog 162 ti162:=tfx
def ti165:TI:=⟨1,8,.one (.nilmap),.map none,.map 168 3,[]⟩
theorem tf165:TabFact Tryz.prog 165 ti165:=tfx
def ti166:TI:=⟨1,8,.one (.top),.nilFunc,.func #[168] #[3] false,[]⟩
theorem tf166:TabFact Tryz.prog 166 ti166:=tfx
def ti168:TI:=⟨2,16,.agg [.d (.int .i64 0),.d (.int .i64 0)],.agg #[.int .i64 0,.int .i64 0],.struct #[⟨"at",3,0,false, "", "cellular/totaltree",0⟩,⟨"s",3,1,false, "", "cellular/totaltree",8⟩],[(0,1),(1,1)]⟩
theorem tf168:TabFact Tryz.prog 168 ti168:=tfx
def ti169:TI:=⟨1,8,.one (.top),.nilFunc,.func #[3,59] #[4] false,[]⟩
theorem tf169:TabFact Tryz.prog 169 ti169:=tfx
def ti171:TI:=⟨1,8,.one (.top),.nilFunc,.func #[21] #[4] false,[]⟩
theorem tf171:TabFact Tryz.prog 171 ti171:=tfx
def ti175:TI:=⟨1,8,.one (.top),.pointer none,.pointer 177,[]⟩
theorem tf175:TabFact Tryz.prog 175 ti175:=tfx
def ti177:TI:=⟨6,96,.agg [.d (.int .i64 0),.d .nil,.d .nil,.nilmap,.d .nil,.top],.agg #[.int .i64 0,.slice none 0 0,.slice none 0 0,.map none,.slice none 0 0,.nilFunc],.struct #[⟨"tree",33,0,false, "", "cellular/tabletree",0⟩,⟨"known",115,3,false, "", "cellular/tabletree",56⟩,⟨"in",22,4,false, "", "cellular/tabletree",64⟩,⟨"value",125,5,false, "", "cellular/tabletree",88⟩],[(0,3),(3,1),(4,1),(5,1)]⟩
theorem tf177:TabFact Tryz.prog 177 ti177:=tfx
def ti182:TI:=⟨1,8,.one (.top),.nilFunc,.func #[3,22] #[22] false,[]⟩
theorem tf182:TabFact Tryz.prog 182 ti182:=tfx
def ti186:TI:=⟨2,32,.agg [.d .nil,.nilmap],.agg #[.slice none 0 0,.map none],.struct #[⟨"nodes",31,0,false, "", "cellular/reduce",0⟩,⟨"known",115,1,false, "", "cellular/reduce",24⟩],[(0,1),(1,1)]⟩
theorem tf186:TabFact Tryz.prog 186 ti186:=tfx
def ti190:TI:=⟨1,8,.one (.top),.nilFunc,.func #[136,136] #[4] false,[]⟩
theorem tf190:TabFact Tryz.prog 190 ti190:=tfx
def ti197:TI:=⟨1,8,.one (.top),.pointer none,.pointer 193,[]⟩
theorem tf197:TabFact Tryz.prog 197 ti197:=tfx
def ti200:TI:=⟨1,8,.one (.top),.pointer none,.pointer 5,[]⟩
theorem tf200:TabFact Tryz.prog 200 ti200:=tfx
def ti203:TI:=⟨1,8,.one (.d (.int .u64 0)),.int .u64 0,.int .u64,[]⟩
theorem tf203:TabFact Tryz.prog 203 ti203:=tfx
def ti210:TI:=⟨1,24,.one (.d .nil),.slice none 0 0,.slice 212,[]⟩
theorem tf210:TabFact Tryz.prog 210 ti210:=tfx
def ti212:TI:=⟨2,16,.agg [.d (.int .i64 0),.d (.int .i64 0)],.agg #[.int .i64 0,.int .i64 0],.struct #[⟨"start",3,0,false, "", "strings",0⟩,⟨"end",3,1,false, "", "strings",8⟩],[(0,1),(1,1)]⟩
theorem tf212:TabFact Tryz.prog 212 ti212:=tfx
def ti216:TI:=⟨1,8,.one (.top),.pointer none,.pointer 186,[]⟩
theorem tf216:TabFact Tryz.prog 216 ti216:=tfx
def ti226:TI:=⟨1,8,.one (.top),.pointer none,.pointer 228,[]⟩
theorem tf226:TabFact Tryz.prog 226 ti226:=tfx
def ti228:TI:=⟨1,16,.agg [.d (.str ⟨#[]⟩)],.agg #[.string ⟨#[]⟩],.struct #[⟨"s",9,0,false, "", "errors",0⟩],[(0,1)]⟩
theorem tf228:TabFact Tryz.prog 228 ti228:=tfx
def ti230:TI:=⟨1,8,.one (.top),.pointer none,.pointer 248,[]⟩
theorem tf230:TabFact Tryz.prog 230 ti230:=tfx
def ti234:TI:=⟨1,24,.one (.d .nil),.slice none 0 0,.slice 4,[]⟩
theorem tf234:TabFact Tryz.prog 234 ti234:=tfx
def ti235:TI:=⟨1,8,.one (.top),.nilFunc,.func #[3] #[] false,[]⟩
theorem tf235:TabFact Tryz.prog 235 ti235:=tfx
def ti238:TI:=⟨24,24,.agg [.d (.int .u8 0),.d (.int .u8 0),.d (.int .u8 0),.d (.int .u8 0),.d (.int .u8 0),.d (.int .u8 0),.d (.int .u8 0),.d (.int .u8 0),.d (.int .u8 0),.d (.int .u8 0),.d (.int .u8 0),.d (.int .u8 0),.d (.int .u8 0),.d (.int .u8 0),.d (.int .u8 0),.d (.int .u8 0),.d (.int .u8 0),.d (.int .u8 0),.d (.int .u8 0),.d (.int .u8 0),.d (.int .u8 0),.d (.int .u8 0),.d (.int .u8 0),.d (.int .u8 0)],.agg #[.int .u8 0,.int .u8 0,.int .u8 0,.int .u8 0,.int .u8 0,.int .u8 0,.int .u8 0,.int .u8 0,.int .u8 0,.int .u8 0,.int .u8 0,.int .u8 0,.int .u8 0,.int .u8 0,.int .u8 0,.int .u8 0,.int .u8 0,.int .u8 0,.int .u8 0,.int .u8 0,.int .u8 0,.int .u8 0,.int .u8 0,.int .u8 0],.array 24 5,[]⟩
theorem tf238:TabFact Tryz.prog 238 ti238:=tfx
def ti245:TI:=⟨2,2,.agg [.d (.int .u8 0),.d (.int .u8 0)],.agg #[.int .u8 0,.int .u8 0],.struct #[⟨"lo",5,0,false, "", "unicode/utf8",0⟩,⟨"hi",5,1,false, "", "unicode/utf8",1⟩],[(0,1),(1,1)]⟩
theorem tf245:TabFact Tryz.prog 245 ti245:=tfx
def ti246:TI:=⟨32,32,.agg [.d (.int .u8 0),.d (.int .u8 0),.d (.int .u8 0),.d (.int .u8 0),.d (.int .u8 0),.d (.int .u8 0),.d (.int .u8 0),.d (.int .u8 0),.d (.int .u8 0),.d (.int .u8 0),.d (.int .u8 0),.d (.int .u8 0),.d (.int .u8 0),.d (.int .u8 0),.d (.int .u8 0),.d (.int .u8 0),.d (.int .u8 0),.d (.int .u8 0),.d (.int .u8 0),.d (.int .u8 0),.d (.int .u8 0),.d (.int .u8 0),.d (.int .u8 0),.d (.int .u8 0),.d (.int .u8 0),.d (.int .u8 0),.d (.int .u8 0),.d (.int .u8 0),.d (.int .u8 0),.d (.int .u8 0),.d (.int .u8 0),.d (.int .u8 0)],.agg #[.int .u8 0,.int .u8 0,.int .u8 0,.int .u8 0,.int .u8 0,.int .u8 0,.int .u8 0,.int .u8 0,.int .u8 0,.int .u8 0,.int .u8 0,.int .u8 0,.int .u8 0,.int .u8 0,.int .u8 0,.int .u8 0,.int .u8 0,.int .u8 0,.int .u8 0,.int .u8 0,.int .u8 0,.int .u8 0,.int .u8 0,.int .u8 0,.int .u8 0,.int .u8 0,.int .u8 0,.int .u8 0,.int .u8 0,.int .u8 0,.int .u8 0,.int .u8 0],.array 16 245,[]⟩
theorem tf246:TabFact Tryz.prog 246 ti246:=tfx
def ti250:TI:=⟨20,160,.agg [.d (.int .u64 0),.d (.int .u64 0),.d (.int .u64 0),.d (.int .u64 0),.d (.int .u64 0),.d (.int .u64 0),.d (.int .u64 0),.d (.int .u64 0),.d (.int .u64 0),.d (.int .u64 0),.d (.int .u64 0),.d (.int .u64 0),.d (.int .u64 0),.d (.int .u64 0),.d (.int .u64 0),.d (.int .u64 0),.d (.int .u64 0),.d (.int .u64 0),.d (.int .u64 0),.d (.int .u64 0)],.agg #[.int .u64 0,.int .u64 0,.int .u64 0,.int .u64 0,.int .u64 0,.int .u64 0,.int .u64 0,.int .u64 0,.int .u64 0,.int .u64 0,.int .u64 0,.int .u64 0,.int .u64 0,.int .u64 0,.int .u64 0,.int .u64 0,.int .u64 0,.int .u64 0,.int .u64 0,.int .u64 0],.array 20 203,[]⟩
theorem tf250:TabFact Tryz.prog 250 ti250:=tfx
def ti254:TI:=⟨32,32,.agg [.d (.int .u8 0),.d (.int .u8 0),.d (.int .u8 0),.d (.int .u8 0),.d (.int .u8 0),.d (.int .u8 0),.d (.int .u8 0),.d (.int .u8 0),.d (.int .u8 0),.d (.int .u8 0),.d (.int .u8 0),.d (.int .u8 0),.d (.int .u8 0),.d (.int .u8 0),.d (.int .u8 0),.d (.int .u8 0),.d (.int .u8 0),.d (.int .u8 0),.d (.int .u8 0),.d (.int .u8 0),.d (.int .u8 0),.d (.int .u8 0),.d (.int .u8 0),.d (.int .u8 0),.d (.int .u8 0),.d (.int .u8 0),.d (.int .u8 0),.d (.int .u8 0),.d (.int .u8 0),.d (.int .u8 0),.d (.int .u8 0),.d (.int .u8 0)],.agg #[.int .u8 0,.int .u8 0,.int .u8 0,.int .u8 0,.int .u8 0,.int .u8 0,.int .u8 0,.int .u8 0,.int .u8 0,.int .u8 0,.int .u8 0,.int .u8 0,.int .u8 0,.int .u8 0,.int .u8 0,.int .u8 0,.int .u8 0,.int .u8 0,.int .u8 0,.int .u8 0,.int .u8 0,.int .u8 0,.int .u8 0,.int .u8 0,.int .u8 0,.int .u8 0,.int .u8 0,.int .u8 0,.int .u8 0,.int .u8 0,.int .u8 0,.int .u8 0],.array 32 5,[]⟩
theorem tf254:TabFact Tryz.prog 254 ti254:=tfx
def ty:Tab:=fun t=>match t with
 | 2=>some ti2
 | 3=>some ti3
 | 4=>some ti4
 | 5=>some ti5
 | 9=>some ti9
 | 21=>some ti21
 | 22=>some ti22
 | 25=>some ti25
 | 27=>some ti27
 | 28=>some ti28
 | 31=>some ti31
 | 33=>some ti33
 | 42=>some ti42
 | 59=>some ti59
 | 63=>some ti63
 | 69=>some ti69
 | 70=>some ti70
 | 72=>some ti72
 | 82=>some ti82
 | 85=>some ti85
 | 96=>some ti96
 | 97=>some ti97
 | 103=>some ti103
 | 104=>some ti104
 | 105=>some ti105
 | 108=>some ti108
 | 112=>some ti112
 | 113=>some ti113
 | 114=>some ti114
 | 115=>some ti115
 | 117=>some ti117
 | 119=>some ti119
 | 125=>some ti125
 | 133=>some ti133
 | 134=>some ti134
 | 136=>some ti136
 | 140=>some ti140
 | 142=>some ti142
 | 149=>some ti149
 | 151=>some ti151
 | 159=>some ti159
 | 160=>some ti160
 | 162=>some ti162
 | 165=>some ti165
 | 166=>some ti166
 | 168=>some ti168
 | 169=>some ti169
 | 171=>some ti171
 | 175=>some ti175
 | 177=>some ti177
 | 182=>some ti182
 | 186=>some ti186
 | 190=>some ti190
 | 197=>some ti197
 | 200=>some ti200
 | 203=>some ti203
 | 210=>some ti210
 | 212=>some ti212
 | 216=>some ti216
 | 226=>some ti226
 | 228=>some ti228
 | 230=>some ti230
 | 234=>some ti234
 | 235=>some ti235
 | 238=>some ti238
 | 245=>some ti245
 | 246=>some ti246
 | 250=>some ti250
 | 254=>some ti254
 | _=>none
theorem ty_ok:TabOk Tryz.prog ty:=by
 intro t ti h
 unfold ty at h
 split at h
 ·cases h; exact tf2
 ·cases h; exact tf3
 ·cases h; exact tf4
 ·cases h; exact tf5
 ·cases h; exact tf9
 ·cases h; exact tf21
 ·cases h; exact tf22
 ·cases h; exact tf25
 ·cases h; exact tf27
 ·cases h; exact tf28
 ·cases h; exact tf31
 ·cases h; exact tf33
 ·cases h; exact tf42
 ·cases h; exact tf59
 ·cases h; exact tf63
 ·cases h; exact tf69
 ·cases h; exact tf70
 ·cases h; exact tf72
 ·cases h; exact tf82
 ·cases h; exact tf85
 ·cases h; exact tf96
 ·cases h; exact tf97
 ·cases h; exact tf103
 ·cases h; exact tf104
 ·cases h; exact tf105
 ·cases h; exact tf108
 ·cases h; exact tf112
 ·cases h; exact tf113
 ·cases h; exact tf114
 ·cases h; exact tf115
 ·cases h; exact tf117
 ·cases h; exact tf119
 ·cases h; exact tf125
 ·cases h; exact tf133
 ·cases h; exact tf134
 ·cases h; exact tf136
 ·cases h; exact tf140
 ·cases h; exact tf142
 ·cases h; exact tf149
 ·cases h; exact tf151
 ·cases h; exact tf159
 ·cases h; exact tf160
 ·cases h; exact tf162
 ·cases h; exact tf165
 ·cases h; exact tf166
 ·cases h; exact tf168
 ·cases h; exact tf169
 ·cases h; exact tf171
 ·cases h; exact tf175
 ·cases h; exact tf177
 ·cases h; exact tf182
 ·cases h; exact tf186
 ·cases h; exact tf190
 ·cases h; exact tf197
 ·cases h; exact tf200
 ·cases h; exact tf203
 ·cases h; exact tf210
 ·cases h; exact tf212
 ·cases h; exact tf216
 ·cases h; exact tf226
 ·cases h; exact tf228
 ·cases h; exact tf230
 ·cases h; exact tf234
 ·cases h; exact tf235
 ·cases h; exact tf238
 ·cases h; exact tf245
 ·cases h; exact tf246
 ·cases h; exact tf250
 ·cases h; exact tf254
 ·cases h
def eqn:TypeId->Option Nat:=fun t=>match t with
 | 42=>some 2
 | 103=>some 2
 | 168=>some 2
 | 212=>some 2
 | 245=>some 2
 | 108=>some 8
 | 133=>some 4
 | _=>none
theorem ef42:intFields Tryz.prog 42 2:=efs #[⟨"X",3,0,false, "", "",0⟩,⟨"Y",3,1,false, "", "",8⟩]
theorem ef103:intFields Tryz.prog 103 2:=efs #[⟨"ones",3,0,false, "", "cellular/totaltree",0⟩,⟨"centre",3,1,false, "", "cellular/totaltree",8⟩]
theorem ef168:intFields Tryz.prog 168 2:=efs #[⟨"at",3,0,false, "", "cellular/totaltree",0⟩,⟨"s",3,1,false, "", "cellular/totaltree",8⟩]
theorem ef212:intFields Tryz.prog 212 2:=efs #[⟨"start",3,0,false, "", "strings",0⟩,⟨"end",3,1,false, "", "strings",8⟩]
theorem ef245:intFields Tryz.prog 245 2:=efs #[⟨"lo",5,0,false, "", "unicode/utf8",0⟩,⟨"hi",5,1,false, "", "unicode/utf8",1⟩]
theorem ef108:intFields Tryz.prog 108 8:=efa 3 .i64
theorem ef133:intFields Tryz.prog 133 4:=efa 3 .i64
theorem eqn_ok:∀ t n,eqn t=some n->intFields Tryz.prog t n:=by
 intro t n h
 unfold eqn at h
 split at h
 ·cases h; exact ef42
 ·cases h; exact ef103
 ·cases h; exact ef168
 ·cases h; exact ef212
 ·cases h; exact ef245
 ·cases h; exact ef108
 ·cases h; exact ef133
 ·cases h
def key:TypeId->Option KK:=fun t=>match t with
 | 9=>some .str
 | 162=>some (.ints 3)
 | 168=>some (.ints 2)
 | _=>none
theorem kf9:Maps.Keyed Tryz.prog 9/\∀ k:Key,k.fits .str=true->∃ l,keyOf Tryz.prog 9 k.val=some l:=key_str (by kernel_rfl)
theorem kf162:Maps.Keyed Tryz.prog 162/\∀ k:Key,k.fits (.ints 3)=true->∃ l,keyOf Tryz.prog 162 k.val=some l:=key_nest (d:=3) (fs:=#[⟨"at",3,0,false, "", "cellular/totaltree",0⟩,⟨"s",103,1,false, "", "cellular/totaltree",8⟩]) (by kernel_rfl) (by kernel_rfl) (by kernel_rfl) (by kernel_rfl) (by kernel_rfl) (by kernel_rfl) (.inr ⟨#[⟨"at",3,0,false, "", "cellular/totaltree",0⟩,⟨"s",103,1,false, "", "cellular/totaltree",8⟩],by kernel_rfl,by kernel_rfl,fun i f h=>match i,h with | 0,h=>by cases h; exact⟨by decide,1,(.inl ⟨by kernel_rfl,rfl⟩),by kernel_rfl,by decide⟩ | 1,h=>by cases h; exact⟨by decide,2,(.inr ⟨#[⟨"ones",3,0,false, "", "cellular/totaltree",0⟩,⟨"centre",3,1,false, "", "cellular/totaltree",8⟩],by kernel_rfl,by kernel_rfl,fun i f h=>match i,h with | 0,h=>by cases h; exact⟨by decide,1,(.inl ⟨by kernel_rfl,rfl⟩),by kernel_rfl,by decide⟩ | 1,h=>by cases h; exact⟨by decide,1,(.inl ⟨by kernel_rfl,rfl⟩),by kernel_rfl,by decide⟩ | i+2,h=>by simp at h⟩),by kernel_rfl,by decide⟩ | i+2,h=>by simp at h⟩) (by kernel_rfl)
theorem kf168:Maps.Keyed Tryz.prog 168/\∀ k:Key,k.fits (.ints 2)=true->∃ l,keyOf Tryz.prog 168 k.val=some l :=
 key_ints (fs:=#[⟨"at",3,0,false, "", "cellular/totaltree",0⟩,⟨"s",3,1,false, "", "cellular/totaltree",8⟩]) (by kernel_rfl) (by kernel_rfl) (by kernel_rfl) (by kernel_rfl) (by kernel_rfl) (by kernel_rfl) (by
  intro i f h
  match i,h with
  | 0,h=>cases h; exact⟨by decide,rfl,by kernel_rfl,by kernel_rfl⟩
  | 1,h=>cases h; exact⟨by decide,rfl,by kernel_rfl,by kernel_rfl⟩
  | i+2,h=>simp at h)
theorem key_ok:∀ t kk,key t=some kk->Maps.Keyed Tryz.prog t/\∀ k:Key,k.fits kk=true->∃ l,keyOf Tryz.prog t k.val=some l:=by
 intro t kk h
 unfold key at h
 split at h
 ·cases h; exact kf9
 ·cases h; exact kf162
 ·cases h; exact kf168
 ·cases h
def tb:Tb:={ ty:=ty,eqn:=eqn,key:=key }
theorem bh:TbOk Tryz.prog tb:=⟨ty_ok,eqn_ok,key_ok,(fun _ _ _ h=>by cases h),(fun _ _ _ _ _ _ _ _ _ h=>by cases h)⟩
theorem mixed:Tryz.prog.follows .mixedOrders=true:=by kernel_rfl
end Go.Proofs.YtlifofijgddjkabGreatDoor
