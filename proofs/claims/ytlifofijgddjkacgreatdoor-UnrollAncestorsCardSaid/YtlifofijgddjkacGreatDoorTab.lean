/- The table of the types of this seat, made by program (gen_tab.py), and that it holds. -/
import Derived.Test.YtlifofijgddjkacGreatDoorRows
import Derived.Test.YtlifofijgddjkacGreatDoorAmO
namespace Go.Proofs.YtlifofijgddjkacGreatDoor
open Go.AM Go.Proofs
theorem tz {ti:TI} (h:constV ti.zv=.u ti.zu:=by rfl) (φ:Nat->Value) (w:World) (F:Nat->Prop):bS φ w F ti.zu ti.zv:=by
 have h2:=vsim_const (φ:=φ) (w:=w) (F:=F) ti.zv
 rw[h] at h2
 exact h2
theorem tfx {P:Program} {t:TypeId} {ti:TI} (h1:(P.info? t).map (fun i=>(i.size,i.bytes,i.zero))=some (ti.size,ti.bytes,some ti.zv):=by kernel_rfl) (h2:P.underlying t=some ti.desc:=by kernel_rfl) (h3:∀ φ w F,bS φ w F ti.zu ti.zv:=by exact tz)
  (h4:ti.zv.cells.size=ti.size:=by rfl) (h5:∀ fs,ti.desc=.struct fs->(ti.offs=fs.toList.map fun f=>(f.offset,P.cellsOf f.type)):=by intro fs h; cases h<;>kernel_rfl) (h6:∀ fs,ti.desc=.struct fs->(fs.toList.all fun f=>(P.info? f.type).isSome)=true:=by intro fs h; cases h<;>kernel_rfl):TabFact P t ti:=⟨h1,h2,h3,h4,h5,h6⟩
def okF (P:Program) (i:Nat) (f:Field):Bool:=f.name != "_" && (f.offset == i && match P.underlying f.type with
 | some (.int _)=>true
 | _=>false)
theorem efs {P:Program} {t:TypeId} {n:Nat} (fs:Array Field) (h1:P.underlying t=some (.struct fs):=by kernel_rfl) (h2:P.stoodInHeld t=false:=by kernel_rfl) (h3:P.eqGuardType P.depth t=false:=by kernel_rfl) (h4:fs.size=n:=by rfl) (h5:(fs.toList.zipIdx.all fun x=>okF P x.2 x.1)=true:=by kernel_rfl):jd P t n :=
 .inl ⟨fs,h1,h2,h3,h4,fun i f h=>by
  have h6:=List.all_eq_true.1 h5 (f,i) (List.mem_iff_getElem?.2 ⟨i,by rw[List.getElem?_zipIdx,h]; simp⟩)
  simp only[okF,Bool.and_eq_true,bne_iff_ne,beq_iff_eq] at h6
  obtain⟨a,b,c⟩:=h6
  refine⟨a,b,?_⟩
  split at c
  ·exact⟨_,‹_›⟩
  ·cases c⟩
theorem efa {P:Program} {t:TypeId} {n:Nat} (e:TypeId) (k:IntKind) (h1:P.underlying t=some (.array n e):=by kernel_rfl) (h2:(P.info? e).isSome=true:=by kernel_rfl) (h3:P.cellsOf e=1:=by kernel_rfl) (h4:P.underlying e=some (.int k):=by kernel_rfl) (h5:P.eqGuardType P.depth t=false:=by kernel_rfl):jd P t n :=
 let ⟨i,hi⟩:=Option.isSome_iff_exists.1 h2
 .inr ⟨e,i,k,h1,hi,h3,h4,h5⟩
def ti2:TI:=⟨1,8,.one (.d (.int .i64 0)),.int .i64 0,.int .i64,[]⟩
theorem tf2:TabFact Tryz.prog 2 ti2:=tfx
def ti3:TI:=⟨1,8,.one (.d (.int .i64 0)),.int .i64 0,.int .i64,[]⟩
theorem tf3:TabFact Tryz.prog 3 ti3:=tfx
def ti4:TI:=⟨1,1,.one (.d (.bool false)),.bool false,.bool,[]⟩
theorem tf4:TabFact Tryz.prog 4 ti4:=tfx
def ti5:TI:=⟨1,1,.one (.d (.int .u8 0)),.int .u8 0,.int .u8,[]⟩
theorem tf5:TabFact Tryz.prog 5 ti5:=tfx
def ti9:TI:=⟨1,16,.one (.d (.str ⟨#[]⟩)),.string ⟨#[]⟩,.string,[]⟩
theorem tf9:TabFact Tryz.prog 9 ti9:=tfx
def ti22:TI:=⟨1,24,.one (.d .nil),.slice none 0 0,.slice 45,[]⟩
theorem tf22:TabFact Tryz.prog 22 ti22:=tfx
def ti23:TI:=⟨1,24,.one (.d .nil),.slice none 0 0,.slice 50,[]⟩
theorem tf23:TabFact Tryz.prog 23 ti23:=tfx
def ti25:TI:=⟨3,56,.agg [.d (.int .i64 0),.d .nil,.d .nil],.agg #[.int .i64 0,.slice none 0 0,.slice none 0 0],.struct #[⟨"States",3,0,false, "", "",0⟩,⟨"Hood",22,1,false, "", "",8⟩,⟨"Nodes",23,2,false, "", "",32⟩],[(0,1),(1,1),(2,1)]⟩
theorem tf25:TabFact Tryz.prog 25 ti25:=tfx
def ti26:TI:=⟨1,24,.one (.d .nil),.slice none 0 0,.slice 3,[]⟩
theorem tf26:TabFact Tryz.prog 26 ti26:=tfx
def ti28:TI:=⟨4,48,.agg [.d (.int .i64 0),.d (.int .i64 0),.d (.int .i64 0),.d .nil],.agg #[.int .i64 0,.int .i64 0,.int .i64 0,.slice none 0 0],.struct #[⟨"W",3,0,false, "", "",0⟩,⟨"H",3,1,false, "", "",8⟩,⟨"Edge",3,2,false, "", "",16⟩,⟨"Cells",26,3,false, "", "",24⟩],[(0,1),(1,1),(2,1),(3,1)]⟩
theorem tf28:TabFact Tryz.prog 28 ti28:=tfx
def ti29:TI:=⟨16,16,.agg [.d (.int .u8 0),.d (.int .u8 0),.d (.int .u8 0),.d (.int .u8 0),.d (.int .u8 0),.d (.int .u8 0),.d (.int .u8 0),.d (.int .u8 0),.d (.int .u8 0),.d (.int .u8 0),.d (.int .u8 0),.d (.int .u8 0),.d (.int .u8 0),.d (.int .u8 0),.d (.int .u8 0),.d (.int .u8 0)],.agg #[.int .u8 0,.int .u8 0,.int .u8 0,.int .u8 0,.int .u8 0,.int .u8 0,.int .u8 0,.int .u8 0,.int .u8 0,.int .u8 0,.int .u8 0,.int .u8 0,.int .u8 0,.int .u8 0,.int .u8 0,.int .u8 0],.array 16 5,[]⟩
theorem tf29:TabFact Tryz.prog 29 ti29:=tfx
def ti32:TI:=⟨6,64,.agg [.d (.int .i64 0),.d (.int .i64 0),.d (.int .i64 0),.d (.int .i64 0),.d (.int .i64 0),.d .nil],.agg #[.int .i64 0,.int .i64 0,.int .i64 0,.int .i64 0,.int .i64 0,.slice none 0 0],.struct #[⟨"W",3,0,false, "", "",0⟩,⟨"H",3,1,false, "", "",8⟩,⟨"Gens",3,2,false, "", "",16⟩,⟨"DX",3,3,false, "", "",24⟩,⟨"DY",3,4,false, "", "",32⟩,⟨"Syms",26,5,false, "", "",40⟩],[(0,1),(1,1),(2,1),(3,1),(4,1),(5,1)]⟩
theorem tf32:TabFact Tryz.prog 32 ti32:=tfx
def ti34:TI:=⟨1,24,.one (.d .nil),.slice none 0 0,.slice 26,[]⟩
theorem tf34:TabFact Tryz.prog 34 ti34:=tfx
def ti36:TI:=⟨2,32,.agg [.d (.int .i64 0),.d .nil],.agg #[.int .i64 0,.slice none 0 0],.struct #[⟨"Vars",3,0,false, "", "",0⟩,⟨"Clauses",34,1,false, "", "",8⟩],[(0,1),(1,1)]⟩
theorem tf36:TabFact Tryz.prog 36 ti36:=tfx
def ti37:TI:=⟨1,8,.one (.d (.int .i64 0)),.int .i64 0,.int .i64,[]⟩
theorem tf37:TabFact Tryz.prog 37 ti37:=tfx
def ti40:TI:=⟨1,8,.one (.top),.nilFunc,.func #[3] #[3] false,[]⟩
theorem tf40:TabFact Tryz.prog 40 ti40:=tfx
def ti42:TI:=⟨1,24,.one (.d .nil),.slice none 0 0,.slice 4,[]⟩
theorem tf42:TabFact Tryz.prog 42 ti42:=tfx
def ti43:TI:=⟨1,8,.one (.d (.int .u64 0)),.int .u64 0,.int .u64,[]⟩
theorem tf43:TabFact Tryz.prog 43 ti43:=tfx
def ti45:TI:=⟨2,16,.agg [.d (.int .i64 0),.d (.int .i64 0)],.agg #[.int .i64 0,.int .i64 0],.struct #[⟨"X",3,0,false, "", "",0⟩,⟨"Y",3,1,false, "", "",8⟩],[(0,1),(1,1)]⟩
theorem tf45:TabFact Tryz.prog 45 ti45:=tfx
def ti50:TI:=⟨2,32,.agg [.d (.int .i64 0),.d .nil],.agg #[.int .i64 0,.slice none 0 0],.struct #[⟨"Level",3,0,false, "", "",0⟩,⟨"Next",26,1,false, "", "",8⟩],[(0,1),(1,1)]⟩
theorem tf50:TabFact Tryz.prog 50 ti50:=tfx
def ti56:TI:=⟨3,24,.agg [.d (.int .i64 0),.d (.int .i64 0),.d (.int .i64 0)],.agg #[.int .i64 0,.int .i64 0,.int .i64 0],.struct #[⟨"X",3,0,false, "", "",0⟩,⟨"Y",3,1,false, "", "",8⟩,⟨"S",3,2,false, "", "",16⟩],[(0,1),(1,1),(2,1)]⟩
theorem tf56:TabFact Tryz.prog 56 ti56:=tfx
def ti57:TI:=⟨1,24,.one (.d .nil),.slice none 0 0,.slice 56,[]⟩
theorem tf57:TabFact Tryz.prog 57 ti57:=tfx
def ti58:TI:=⟨1,24,.one (.d .nil),.slice none 0 0,.slice 56,[]⟩
theorem tf58:TabFact Tryz.prog 58 ti58:=tfx
def ti66:TI:=⟨1,8,.one (.top),.nilFunc,.func #[3] #[4] false,[]⟩
theorem tf66:TabFact Tryz.prog 66 ti66:=tfx
def ti68:TI:=⟨4,32,.agg [.d (.int .i64 0),.d (.int .i64 0),.d (.int .i64 0),.d (.int .i64 0)],.agg #[.int .i64 0,.int .i64 0,.int .i64 0,.int .i64 0],.struct #[⟨"X",3,0,false, "", "",0⟩,⟨"Y",3,1,false, "", "",8⟩,⟨"W",3,2,false, "", "",16⟩,⟨"H",3,3,false, "", "",24⟩],[(0,1),(1,1),(2,1),(3,1)]⟩
theorem tf68:TabFact Tryz.prog 68 ti68:=tfx
def ti69:TI:=⟨1,8,.one (.top),.pointer none,.pointer 77,[]⟩
theorem tf69:TabFact Tryz.prog 69 ti69:=tfx
def ti71:TI:=⟨1,24,.one (.d .nil),.slice none 0 0,.slice 81,[]⟩
theorem tf71:TabFact Tryz.prog 71 ti71:=tfx
def ti73:TI:=⟨5,56,.agg [.d (.int .i64 0),.d (.int .i64 0),.d (.int .i64 0),.d (.int .i64 0),.d .nil],.agg #[.int .i64 0,.int .i64 0,.int .i64 0,.int .i64 0,.slice none 0 0],.struct #[⟨"box",68,0,false, "", "cellular/unroll",0⟩,⟨"values",71,4,false, "", "cellular/unroll",32⟩],[(0,4),(4,1)]⟩
theorem tf73:TabFact Tryz.prog 73 ti73:=tfx
def ti75:TI:=⟨1,8,.one (.nilmap),.map none,.map 9 25,[]⟩
theorem tf75:TabFact Tryz.prog 75 ti75:=tfx
def ti77:TI:=⟨7,104,.agg [.d (.int .i64 0),.d .nil,.d (.int .i64 0),.d .nil,.d .nil,.d (.int .i64 0),.nilmap],.agg #[.int .i64 0,.slice none 0 0,.int .i64 0,.slice none 0 0,.slice none 0 0,.int .i64 0,.map none],.struct #[⟨"Formula",36,0,true, "", "",0⟩,⟨"rule",25,2,false, "", "cellular/unroll",32⟩,⟨"bits",3,5,false, "", "cellular/unroll",88⟩,⟨"trees",75,6,false, "", "cellular/unroll",96⟩],[(0,2),(2,3),(5,1),(6,1)]⟩
theorem tf77:TabFact Tryz.prog 77 ti77:=tfx
def ti81:TI:=⟨2,32,.agg [.d (.int .i64 0),.d .nil],.agg #[.int .i64 0,.slice none 0 0],.struct #[⟨"constant",3,0,false, "", "cellular/unroll",0⟩,⟨"vars",26,1,false, "", "cellular/unroll",8⟩],[(0,1),(1,1)]⟩
theorem tf81:TabFact Tryz.prog 81 ti81:=tfx
def ti93:TI:=⟨1,8,.one (.top),.nilFunc,.func #[56] #[4] false,[]⟩
theorem tf93:TabFact Tryz.prog 93 ti93:=tfx
def ti112:TI:=⟨1,8,.one (.top),.nilFunc,.func #[56,56] #[3] false,[]⟩
theorem tf112:TabFact Tryz.prog 112 ti112:=tfx
def ti117:TI:=⟨1,8,.one (.top),.nilFunc,.func #[3,26] #[26] false,[]⟩
theorem tf117:TabFact Tryz.prog 117 ti117:=tfx
def ti119:TI:=⟨1,24,.one (.d .nil),.slice none 0 0,.slice 5,[]⟩
theorem tf119:TabFact Tryz.prog 119 ti119:=tfx
def ti128:TI:=⟨4,32,.agg [.d (.int .i64 0),.d (.int .i64 0),.d (.int .i64 0),.d (.int .i64 0)],.agg #[.int .i64 0,.int .i64 0,.int .i64 0,.int .i64 0],.array 4 3,[]⟩
theorem tf128:TabFact Tryz.prog 128 ti128:=tfx
def ti129:TI:=⟨32,256,.agg [.d (.int .i64 0),.d (.int .i64 0),.d (.int .i64 0),.d (.int .i64 0),.d (.int .i64 0),.d (.int .i64 0),.d (.int .i64 0),.d (.int .i64 0),.d (.int .i64 0),.d (.int .i64 0),.d (.int .i64 0),.d (.int .i64 0),.d (.int .i64 0),.d (.int .i64 0),.d (.int .i64 0),.d (.int .i64 0),.d (.int .i64 0),.d (.int .i64 0),.d (.int .i64 0),.d (.int .i64 0),.d (.int .i64 0),.d (.int .i64 0),.d (.int .i64 0),.d (.int .i64 0),.d (.int .i64 0),.d (.int .i64 0),.d (.int .i64 0),.d (.int .i64 0),.d (.int .i64 0),.d (.int .i64 0),.d (.int .i64 0),.d (.int .i64 0)],.agg #[.int .i64 0,.int .i64 0,.int .i64 0,.int .i64 0,.int .i64 0,.int .i64 0,.int .i64 0,.int .i64 0,.int .i64 0,.int .i64 0,.int .i64 0,.int .i64 0,.int .i64 0,.int .i64 0,.int .i64 0,.int .i64 0,.int .i64 0,.int .i64 0,.int .i64 0,.int .i64 0,.int .i64 0,.int .i64 0,.int .i64 0,.int .i64 0,.int .i64 0,.int .i64 0,.int .i64 0,.int .i64 0,.int .i64 0,.int .i64 0,.int .i64 0,.int .i64 0],.array 8 128,[]⟩
theorem tf129:TabFact Tryz.prog 129 ti129:=tfx
def ti131:TI:=⟨1,8,.one (.nilmap),.map none,.map 9 3,[]⟩
theorem tf131:TabFact Tryz.prog 131 ti131:=tfx
def ti133:TI:=⟨2,32,.agg [.d .nil,.nilmap],.agg #[.slice none 0 0,.map none],.struct #[⟨"nodes",23,0,false, "", "cellular/reduce",0⟩,⟨"known",131,1,false, "", "cellular/reduce",24⟩],[(0,1),(1,1)]⟩
theorem tf133:TabFact Tryz.prog 133 ti133:=tfx
def ti138:TI:=⟨1,8,.one (.nilmap),.map none,.map 45 3,[]⟩
theorem tf138:TabFact Tryz.prog 138 ti138:=tfx
def ti140:TI:=⟨1,8,.one (.nilmap),.map none,.map 45 4,[]⟩
theorem tf140:TabFact Tryz.prog 140 ti140:=tfx
def ti143:TI:=⟨8,8,.agg [.d (.bool false),.d (.bool false),.d (.bool false),.d (.bool false),.d (.bool false),.d (.bool false),.d (.bool false),.d (.bool false)],.agg #[.bool false,.bool false,.bool false,.bool false,.bool false,.bool false,.bool false,.bool false],.array 8 4,[]⟩
theorem tf143:TabFact Tryz.prog 143 ti143:=tfx
def ti144:TI:=⟨1,8,.one (.top),.pointer none,.pointer 133,[]⟩
theorem tf144:TabFact Tryz.prog 144 ti144:=tfx
def ti150:TI:=⟨1,8,.one (.d (.int .u64 0)),.int .u64 0,.int .u64,[]⟩
theorem tf150:TabFact Tryz.prog 150 ti150:=tfx
def ti163:TI:=⟨24,24,.agg [.d (.int .u8 0),.d (.int .u8 0),.d (.int .u8 0),.d (.int .u8 0),.d (.int .u8 0),.d (.int .u8 0),.d (.int .u8 0),.d (.int .u8 0),.d (.int .u8 0),.d (.int .u8 0),.d (.int .u8 0),.d (.int .u8 0),.d (.int .u8 0),.d (.int .u8 0),.d (.int .u8 0),.d (.int .u8 0),.d (.int .u8 0),.d (.int .u8 0),.d (.int .u8 0),.d (.int .u8 0),.d (.int .u8 0),.d (.int .u8 0),.d (.int .u8 0),.d (.int .u8 0)],.agg #[.int .u8 0,.int .u8 0,.int .u8 0,.int .u8 0,.int .u8 0,.int .u8 0,.int .u8 0,.int .u8 0,.int .u8 0,.int .u8 0,.int .u8 0,.int .u8 0,.int .u8 0,.int .u8 0,.int .u8 0,.int .u8 0,.int .u8 0,.int .u8 0,.int .u8 0,.int .u8 0,.int .u8 0,.int .u8 0,.int .u8 0,.int .u8 0],.array 24 5,[]⟩
theorem tf163:TabFact Tryz.prog 163 ti163:=tfx
def ti174:TI:=⟨20,160,.agg [.d (.int .u64 0),.d (.int .u64 0),.d (.int .u64 0),.d (.int .u64 0),.d (.int .u64 0),.d (.int .u64 0),.d (.int .u64 0),.d (.int .u64 0),.d (.int .u64 0),.d (.int .u64 0),.d (.int .u64 0),.d (.int .u64 0),.d (.int .u64 0),.d (.int .u64 0),.d (.int .u64 0),.d (.int .u64 0),.d (.int .u64 0),.d (.int .u64 0),.d (.int .u64 0),.d (.int .u64 0)],.agg #[.int .u64 0,.int .u64 0,.int .u64 0,.int .u64 0,.int .u64 0,.int .u64 0,.int .u64 0,.int .u64 0,.int .u64 0,.int .u64 0,.int .u64 0,.int .u64 0,.int .u64 0,.int .u64 0,.int .u64 0,.int .u64 0,.int .u64 0,.int .u64 0,.int .u64 0,.int .u64 0],.array 20 150,[]⟩
theorem tf174:TabFact Tryz.prog 174 ti174:=tfx
def ti179:TI:=⟨32,32,.agg [.d (.int .u8 0),.d (.int .u8 0),.d (.int .u8 0),.d (.int .u8 0),.d (.int .u8 0),.d (.int .u8 0),.d (.int .u8 0),.d (.int .u8 0),.d (.int .u8 0),.d (.int .u8 0),.d (.int .u8 0),.d (.int .u8 0),.d (.int .u8 0),.d (.int .u8 0),.d (.int .u8 0),.d (.int .u8 0),.d (.int .u8 0),.d (.int .u8 0),.d (.int .u8 0),.d (.int .u8 0),.d (.int .u8 0),.d (.int .u8 0),.d (.int .u8 0),.d (.int .u8 0),.d (.int .u8 0),.d (.int .u8 0),.d (.int .u8 0),.d (.int .u8 0),.d (.int .u8 0),.d (.int .u8 0),.d (.int .u8 0),.d (.int .u8 0)],.agg #[.int .u8 0,.int .u8 0,.int .u8 0,.int .u8 0,.int .u8 0,.int .u8 0,.int .u8 0,.int .u8 0,.int .u8 0,.int .u8 0,.int .u8 0,.int .u8 0,.int .u8 0,.int .u8 0,.int .u8 0,.int .u8 0,.int .u8 0,.int .u8 0,.int .u8 0,.int .u8 0,.int .u8 0,.int .u8 0,.int .u8 0,.int .u8 0,.int .u8 0,.int .u8 0,.int .u8 0,.int .u8 0,.int .u8 0,.int .u8 0,.int .u8 0,.int .u8 0],.array 32 5,[]⟩
theorem tf179:TabFact Tryz.prog 179 ti179:=tfx
def ty:Tab:=fun t=>match t with
 | 2=>some ti2
 | 3=>some ti3
 | 4=>some ti4
 | 5=>some ti5
 | 9=>some ti9
 | 22=>some ti22
 | 23=>some ti23
 | 25=>some ti25
 | 26=>some ti26
 | 28=>some ti28
 | 29=>some ti29
 | 32=>some ti32
 | 34=>some ti34
 | 36=>some ti36
 | 37=>some ti37
 | 40=>some ti40
 | 42=>some ti42
 | 43=>some ti43
 | 45=>some ti45
 | 50=>some ti50
 | 56=>some ti56
 | 57=>some ti57
 | 58=>some ti58
 | 66=>some ti66
 | 68=>some ti68
 | 69=>some ti69
 | 71=>some ti71
 | 73=>some ti73
 | 75=>some ti75
 | 77=>some ti77
 | 81=>some ti81
 | 93=>some ti93
 | 112=>some ti112
 | 117=>some ti117
 | 119=>some ti119
 | 128=>some ti128
 | 129=>some ti129
 | 131=>some ti131
 | 133=>some ti133
 | 138=>some ti138
 | 140=>some ti140
 | 143=>some ti143
 | 144=>some ti144
 | 150=>some ti150
 | 163=>some ti163
 | 174=>some ti174
 | 179=>some ti179
 | _=>none
theorem ty_ok:TabOk Tryz.prog ty:=by
 intro t ti h
 unfold ty at h
 split at h
 ·cases h; exact tf2
 ·cases h; exact tf3
 ·cases h; exact tf4
 ·cases h; exact tf5
 ·cases h; exact tf9
 ·cases h; exact tf22
 ·cases h; exact tf23
 ·cases h; exact tf25
 ·cases h; exact tf26
 ·cases h; exact tf28
 ·cases h; exact tf29
 ·cases h; exact tf32
 ·cases h; exact tf34
 ·cases h; exact tf36
 ·cases h; exact tf37
 ·cases h; exact tf40
 ·cases h; exact tf42
 ·cases h; exact tf43
 ·cases h; exact tf45
 ·cases h; exact tf50
 ·cases h; exact tf56
 ·cases h; exact tf57
 ·cases h; exact tf58
 ·cases h; exact tf66
 ·cases h; exact tf68
 ·cases h; exact tf69
 ·cases h; exact tf71
 ·cases h; exact tf73
 ·cases h; exact tf75
 ·cases h; exact tf77
 ·cases h; exact tf81
 ·cases h; exact tf93
 ·cases h; exact tf112
 ·cases h; exact tf117
 ·cases h; exact tf119
 ·cases h; exact tf128
 ·cases h; exact tf129
 ·cases h; exact tf131
 ·cases h; exact tf133
 ·cases h; exact tf138
 ·cases h; exact tf140
 ·cases h; exact tf143
 ·cases h; exact tf144
 ·cases h; exact tf150
 ·cases h; exact tf163
 ·cases h; exact tf174
 ·cases h; exact tf179
 ·cases h
def eqn:TypeId->Option Nat:=fun t=>match t with
 | 45=>some 2
 | 56=>some 3
 | 68=>some 4
 | 29=>some 16
 | 128=>some 4
 | _=>none
theorem ef45:jd Tryz.prog 45 2:=efs #[⟨"X",3,0,false, "", "",0⟩,⟨"Y",3,1,false, "", "",8⟩]
theorem ef56:jd Tryz.prog 56 3:=efs #[⟨"X",3,0,false, "", "",0⟩,⟨"Y",3,1,false, "", "",8⟩,⟨"S",3,2,false, "", "",16⟩]
theorem ef68:jd Tryz.prog 68 4:=efs #[⟨"X",3,0,false, "", "",0⟩,⟨"Y",3,1,false, "", "",8⟩,⟨"W",3,2,false, "", "",16⟩,⟨"H",3,3,false, "", "",24⟩]
theorem ef29:jd Tryz.prog 29 16:=efa 5 .u8
theorem ef128:jd Tryz.prog 128 4:=efa 3 .i64
theorem eqn_ok:∀ t n,eqn t=some n->jd Tryz.prog t n:=by
 intro t n h
 unfold eqn at h
 split at h
 ·cases h; exact ef45
 ·cases h; exact ef56
 ·cases h; exact ef68
 ·cases h; exact ef29
 ·cases h; exact ef128
 ·cases h
def key:TypeId->Option KK:=fun t=>match t with
 | 9=>some .str
 | 45=>some (.ints 2)
 | _=>none
theorem kf9:Maps.Keyed Tryz.prog 9/\∀ k:Key,k.fits .str=true->∃ l,keyOf Tryz.prog 9 k.val=some l:=key_str (by kernel_rfl)
theorem kf45:Maps.Keyed Tryz.prog 45/\∀ k:Key,k.fits (.ints 2)=true->∃ l,keyOf Tryz.prog 45 k.val=some l :=
 key_ints (fs:=#[⟨"X",3,0,false, "", "",0⟩,⟨"Y",3,1,false, "", "",8⟩]) (by kernel_rfl) (by kernel_rfl) (by kernel_rfl) (by kernel_rfl) (by kernel_rfl) (by kernel_rfl) (by
  intro i f h
  match i,h with
  | 0,h=>cases h; exact⟨by decide,rfl,by kernel_rfl,by kernel_rfl⟩
  | 1,h=>cases h; exact⟨by decide,rfl,by kernel_rfl,by kernel_rfl⟩
  | i+2,h=>simp at h)
theorem key_ok:∀ t kk,key t=some kk->Maps.Keyed Tryz.prog t/\∀ k:Key,k.fits kk=true->∃ l,keyOf Tryz.prog t k.val=some l:=by
 intro t kk h
 unfold key at h
 split at h
 ·cases h; exact kf9
 ·cases h; exact kf45
 ·cases h
def tb:Tb:={ ty:=ty,eqn:=eqn,key:=key,capd:=true }
theorem bL:TbOk Tryz.prog tb:=⟨ty_ok,eqn_ok,key_ok,(fun _ _ _ h=>by cases h),(fun _ _ _ _ _ _ _ _ _ h=>by cases h)⟩
theorem mixed:Tryz.prog.follows .mixedOrders=true:=by kernel_rfl
end Go.Proofs.YtlifofijgddjkacGreatDoor
