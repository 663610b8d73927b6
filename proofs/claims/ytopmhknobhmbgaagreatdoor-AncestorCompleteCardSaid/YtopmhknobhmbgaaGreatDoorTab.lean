/- The table of the types of this seat, made by program (gen_tab.py), and that it holds. -/
import Derived.Test.YtopmhknobhmbgaaGreatDoorRows
import Derived.Test.YtopmhknobhmbgaaGreatDoorAmO
namespace Go.Proofs.YtopmhknobhmbgaaGreatDoor
open Go.AM Go.Proofs
theorem tz {ti:TI} (h:constV ti.zv=.u ti.zu:=by rfl) (φ:A8) (w:World) (F:Ae):bV φ w F ti.zu ti.zv:=by have h2:=vsim_const (φ:=φ) (w:=w) (F:=F) ti.zv;rw[h] at h2;exact h2
theorem tfx {P:Program} {t:TypeId} {ti:TI} (h1:(P.info? t).map (λi=>(i.size,i.bytes,i.zero))=some (ti.size,ti.bytes,some ti.zv):=by kernel_rfl) (h2:P.underlying t=some ti.desc:=by kernel_rfl) (h3:∀φ w F,bV φ w F ti.zu ti.zv:=by exact tz) (h4:ti.zv.cells.size=ti.size:=by rfl) (h5:∀fs,ti.desc=.struct fs->(ti.offs=fs.toList.map λf=>(f.offset,P.cellsOf f.type)):=by intro fs h;cases h<;>kernel_rfl) (h6:∀fs,ti.desc=.struct fs->(fs.toList.all λf=>(P.info? f.type).isSome)=true:=by intro fs h;cases h<;>kernel_rfl):TabFact P t ti:=⟨h1,h2,h3,h4,h5,h6⟩
def okF (P:Program) (i:Nat) (f:Field):Bool:=f.name != "_" && (f.offset==i&&match P.underlying f.type with
 |some (.int _)=>true|_=>false)
theorem efs {P:Program} {t:TypeId} {n:Nat} (fs:Array Field) (h1:P.underlying t=some (.struct fs):=by kernel_rfl) (h2:P.stoodInHeld t=false:=by kernel_rfl) (h3:P.eqGuardType P.depth t=false:=by kernel_rfl) (h4:fs.size=n:=by rfl) (h5:(fs.toList.zipIdx.all λx=>okF P x.2 x.1)=true:=by kernel_rfl):rJ P t n :=
 .inl ⟨fs,h1,h2,h3,h4,λi f h=>by
  have h6:=List.all_eq_true.1 h5 (f,i) (List.mem_iff_getElem?.2 ⟨i,by rw[List.getElem?_zipIdx,h];simp⟩);simp only[okF,Bool.and_eq_true,bne_iff_ne,beq_iff_eq] at h6;obtain⟨a,b,c⟩:=h6;refine⟨a,b,?_⟩;split at c;{exact⟨_,‹_›⟩}
  ·cases c⟩
def ti2:TI:=⟨1,8,.one (.d (.int .i64 0)),.int .i64 0,.int .i64,[]⟩
theorem tf2:TabFact Tryz.prog 2 ti2:=tfx
def ti3:TI:=⟨1,8,.one (.d (.int .i64 0)),.int .i64 0,.int .i64,[]⟩
theorem tf3:TabFact Tryz.prog 3 ti3:=tfx
def ti4:TI:=⟨1,1,.one (.d (.bool false)),.bool false,.bool,[]⟩
theorem tf4:TabFact Tryz.prog 4 ti4:=tfx
def ti5:TI:=⟨1,1,.one (.d (.int .u8 0)),.int .u8 0,.int .u8,[]⟩
theorem tf5:TabFact Tryz.prog 5 ti5:=tfx
def ti9:TI:=⟨1,16,.one (.d (.str ⟨#[]⟩)),.string ⟨#[]⟩,.string,[]⟩
theorem tf9:TabFact Tryz.prog 9 ti9:=tfx
def ti22:TI:=⟨1,24,.one (.d .nil),.slice none 0 0,.slice 49,[]⟩
theorem tf22:TabFact Tryz.prog 22 ti22:=tfx
def ti23:TI:=⟨1,24,.one (.d .nil),.slice none 0 0,.slice 51,[]⟩
theorem tf23:TabFact Tryz.prog 23 ti23:=tfx
def ti25:TI:=⟨3,56,.agg [.d (.int .i64 0),.d .nil,.d .nil],.agg #[.int .i64 0,.slice none 0 0,.slice none 0 0],.struct #[⟨"States",3,0,false, "", "",0⟩,⟨"Hood",22,1,false, "", "",8⟩,⟨"Nodes",23,2,false, "", "",32⟩],[(0,1),(1,1),(2,1)]⟩
theorem tf25:TabFact Tryz.prog 25 ti25:=tfx
def ti26:TI:=⟨1,24,.one (.d .nil),.slice none 0 0,.slice 3,[]⟩
theorem tf26:TabFact Tryz.prog 26 ti26:=tfx
def ti28:TI:=⟨4,48,.agg [.d (.int .i64 0),.d (.int .i64 0),.d (.int .i64 0),.d .nil],.agg #[.int .i64 0,.int .i64 0,.int .i64 0,.slice none 0 0],.struct #[⟨"W",3,0,false, "", "",0⟩,⟨"H",3,1,false, "", "",8⟩,⟨"Edge",3,2,false, "", "",16⟩,⟨"Cells",26,3,false, "", "",24⟩],[(0,1),(1,1),(2,1),(3,1)]⟩
theorem tf28:TabFact Tryz.prog 28 ti28:=tfx
def ti31:TI:=⟨1,24,.one (.d .nil),.slice none 0 0,.slice 28,[]⟩
theorem tf31:TabFact Tryz.prog 31 ti31:=tfx
def ti32:TI:=⟨1,8,.one (.d (.int .i64 0)),.int .i64 0,.int .i64,[]⟩
theorem tf32:TabFact Tryz.prog 32 ti32:=tfx
def ti41:TI:=⟨6,64,.agg [.d (.int .i64 0),.d (.int .i64 0),.d (.int .i64 0),.d (.int .i64 0),.d (.int .i64 0),.d .nil],.agg #[.int .i64 0,.int .i64 0,.int .i64 0,.int .i64 0,.int .i64 0,.slice none 0 0],.struct #[⟨"W",3,0,false, "", "",0⟩,⟨"H",3,1,false, "", "",8⟩,⟨"Gens",3,2,false, "", "",16⟩,⟨"DX",3,3,false, "", "",24⟩,⟨"DY",3,4,false, "", "",32⟩,⟨"Syms",26,5,false, "", "",40⟩],[(0,1),(1,1),(2,1),(3,1),(4,1),(5,1)]⟩
theorem tf41:TabFact Tryz.prog 41 ti41:=tfx
def ti49:TI:=⟨2,16,.agg [.d (.int .i64 0),.d (.int .i64 0)],.agg #[.int .i64 0,.int .i64 0],.struct #[⟨"X",3,0,false, "", "",0⟩,⟨"Y",3,1,false, "", "",8⟩],[(0,1),(1,1)]⟩
theorem tf49:TabFact Tryz.prog 49 ti49:=tfx
def ti51:TI:=⟨2,32,.agg [.d (.int .i64 0),.d .nil],.agg #[.int .i64 0,.slice none 0 0],.struct #[⟨"Level",3,0,false, "", "",0⟩,⟨"Next",26,1,false, "", "",8⟩],[(0,1),(1,1)]⟩
theorem tf51:TabFact Tryz.prog 51 ti51:=tfx
def ti52:TI:=⟨1,24,.one (.d .nil),.slice none 0 0,.slice 26,[]⟩
theorem tf52:TabFact Tryz.prog 52 ti52:=tfx
def ti54:TI:=⟨2,32,.agg [.d (.int .i64 0),.d .nil],.agg #[.int .i64 0,.slice none 0 0],.struct #[⟨"Vars",3,0,false, "", "",0⟩,⟨"Clauses",52,1,false, "", "",8⟩],[(0,1),(1,1)]⟩
theorem tf54:TabFact Tryz.prog 54 ti54:=tfx
def ti57:TI:=⟨1,24,.one (.d .nil),.slice none 0 0,.slice 62,[]⟩
theorem tf57:TabFact Tryz.prog 57 ti57:=tfx
def ti60:TI:=⟨1,8,.one (.top),.nilFunc,.func #[62] #[28] false,[]⟩
theorem tf60:TabFact Tryz.prog 60 ti60:=tfx
def ti62:TI:=⟨1,24,.one (.d .nil),.slice none 0 0,.slice 4,[]⟩
theorem tf62:TabFact Tryz.prog 62 ti62:=tfx
def ti64:TI:=⟨1,8,.one (.top),.nilFunc,.func #[28,28] #[3] false,[]⟩
theorem tf64:TabFact Tryz.prog 64 ti64:=tfx
def ti70:TI:=⟨1,8,.one (.top),.nilFunc,.func #[3] #[3] false,[]⟩
theorem tf70:TabFact Tryz.prog 70 ti70:=tfx
def ti77:TI:=⟨1,8,.one (.top),.nilFunc,.func #[3] #[4] false,[]⟩
theorem tf77:TabFact Tryz.prog 77 ti77:=tfx
def ti79:TI:=⟨4,32,.agg [.d (.int .i64 0),.d (.int .i64 0),.d (.int .i64 0),.d (.int .i64 0)],.agg #[.int .i64 0,.int .i64 0,.int .i64 0,.int .i64 0],.struct #[⟨"X",3,0,false, "", "",0⟩,⟨"Y",3,1,false, "", "",8⟩,⟨"W",3,2,false, "", "",16⟩,⟨"H",3,3,false, "", "",24⟩],[(0,1),(1,1),(2,1),(3,1)]⟩
theorem tf79:TabFact Tryz.prog 79 ti79:=tfx
def ti80:TI:=⟨1,8,.one (.top),.pointer none,.pointer 88,[]⟩
theorem tf80:TabFact Tryz.prog 80 ti80:=tfx
def ti82:TI:=⟨1,24,.one (.d .nil),.slice none 0 0,.slice 92,[]⟩
theorem tf82:TabFact Tryz.prog 82 ti82:=tfx
def ti84:TI:=⟨5,56,.agg [.d (.int .i64 0),.d (.int .i64 0),.d (.int .i64 0),.d (.int .i64 0),.d .nil],.agg #[.int .i64 0,.int .i64 0,.int .i64 0,.int .i64 0,.slice none 0 0],.struct #[⟨"box",79,0,false, "", "cellular/unroll",0⟩,⟨"values",82,4,false, "", "cellular/unroll",32⟩],[(0,4),(4,1)]⟩
theorem tf84:TabFact Tryz.prog 84 ti84:=tfx
def ti86:TI:=⟨1,8,.one (.nilmap),.map none,.map 9 25,[]⟩
theorem tf86:TabFact Tryz.prog 86 ti86:=tfx
def ti88:TI:=⟨7,104,.agg [.d (.int .i64 0),.d .nil,.d (.int .i64 0),.d .nil,.d .nil,.d (.int .i64 0),.nilmap],.agg #[.int .i64 0,.slice none 0 0,.int .i64 0,.slice none 0 0,.slice none 0 0,.int .i64 0,.map none],.struct #[⟨"Formula",54,0,true, "", "",0⟩,⟨"rule",25,2,false, "", "cellular/unroll",32⟩,⟨"bits",3,5,false, "", "cellular/unroll",88⟩,⟨"trees",86,6,false, "", "cellular/unroll",96⟩],[(0,2),(2,3),(5,1),(6,1)]⟩
theorem tf88:TabFact Tryz.prog 88 ti88:=tfx
def ti92:TI:=⟨2,32,.agg [.d (.int .i64 0),.d .nil],.agg #[.int .i64 0,.slice none 0 0],.struct #[⟨"constant",3,0,false, "", "cellular/unroll",0⟩,⟨"vars",26,1,false, "", "cellular/unroll",8⟩],[(0,1),(1,1)]⟩
theorem tf92:TabFact Tryz.prog 92 ti92:=tfx
def ti96:TI:=⟨1,8,.one (.top),.pointer none,.pointer 118,[]⟩
theorem tf96:TabFact Tryz.prog 96 ti96:=tfx
def ti102:TI:=⟨1,8,.one (.d (.int .u64 0)),.int .u64 0,.int .u64,[]⟩
theorem tf102:TabFact Tryz.prog 102 ti102:=tfx
def ti114:TI:=⟨1,8,.one (.nilmap),.map none,.map 3 26,[]⟩
theorem tf114:TabFact Tryz.prog 114 ti114:=tfx
def ti115:TI:=⟨1,24,.one (.d .nil),.slice none 0 0,.slice 122,[]⟩
theorem tf115:TabFact Tryz.prog 115 ti115:=tfx
def ti116:TI:=⟨1,24,.one (.d .nil),.slice none 0 0,.slice 127,[]⟩
theorem tf116:TabFact Tryz.prog 116 ti116:=tfx
def ti118:TI:=⟨7,120,.agg [.d .nil,.nilmap,.d .nil,.d .nil,.d (.int .i64 0),.d .nil,.d (.bool false)],.agg #[.slice none 0 0,.map none,.slice none 0 0,.slice none 0 0,.int .i64 0,.slice none 0 0,.bool false],.struct #[⟨"clauses",52,0,false, "", "cellular/solve",0⟩,⟨"watches",114,1,false, "", "cellular/solve",24⟩,⟨"values",115,2,false, "", "cellular/solve",32⟩,⟨"trail",26,3,false, "", "cellular/solve",56⟩,⟨"done",3,4,false, "", "cellular/solve",80⟩,⟨"decisions",116,5,false, "", "cellular/solve",88⟩,⟨"bad",4,6,false, "", "cellular/solve",112⟩],[(0,1),(1,1),(2,1),(3,1),(4,1),(5,1),(6,1)]⟩
theorem tf118:TabFact Tryz.prog 118 ti118:=tfx
def ti122:TI:=⟨1,1,.one (.d (.int .i8 0)),.int .i8 0,.int .i8,[]⟩
theorem tf122:TabFact Tryz.prog 122 ti122:=tfx
def ti127:TI:=⟨3,24,.agg [.d (.int .i64 0),.d (.int .i64 0),.d (.bool false)],.agg #[.int .i64 0,.int .i64 0,.bool false],.struct #[⟨"variable",3,0,false, "", "cellular/solve",0⟩,⟨"trail",3,1,false, "", "cellular/solve",8⟩,⟨"turned",4,2,false, "", "cellular/solve",16⟩],[(0,1),(1,1),(2,1)]⟩
theorem tf127:TabFact Tryz.prog 127 ti127:=tfx
def ti140:TI:=⟨1,8,.one (.d (.int .u64 0)),.int .u64 0,.int .u64,[]⟩
theorem tf140:TabFact Tryz.prog 140 ti140:=tfx
def ti144:TI:=⟨1,8,.one (.top),.nilFunc,.func #[3,26] #[26] false,[]⟩
theorem tf144:TabFact Tryz.prog 144 ti144:=tfx
def ti145:TI:=⟨1,24,.one (.d .nil),.slice none 0 0,.slice 5,[]⟩
theorem tf145:TabFact Tryz.prog 145 ti145:=tfx
def ti159:TI:=⟨1,8,.one (.nilmap),.map none,.map 9 3,[]⟩
theorem tf159:TabFact Tryz.prog 159 ti159:=tfx
def ti161:TI:=⟨2,32,.agg [.d .nil,.nilmap],.agg #[.slice none 0 0,.map none],.struct #[⟨"nodes",23,0,false, "", "cellular/reduce",0⟩,⟨"known",159,1,false, "", "cellular/reduce",24⟩],[(0,1),(1,1)]⟩
theorem tf161:TabFact Tryz.prog 161 ti161:=tfx
def ti174:TI:=⟨1,8,.one (.top),.pointer none,.pointer 161,[]⟩
theorem tf174:TabFact Tryz.prog 174 ti174:=tfx
def ti186:TI:=⟨20,160,.agg [.d (.int .u64 0),.d (.int .u64 0),.d (.int .u64 0),.d (.int .u64 0),.d (.int .u64 0),.d (.int .u64 0),.d (.int .u64 0),.d (.int .u64 0),.d (.int .u64 0),.d (.int .u64 0),.d (.int .u64 0),.d (.int .u64 0),.d (.int .u64 0),.d (.int .u64 0),.d (.int .u64 0),.d (.int .u64 0),.d (.int .u64 0),.d (.int .u64 0),.d (.int .u64 0),.d (.int .u64 0)],.agg #[.int .u64 0,.int .u64 0,.int .u64 0,.int .u64 0,.int .u64 0,.int .u64 0,.int .u64 0,.int .u64 0,.int .u64 0,.int .u64 0,.int .u64 0,.int .u64 0,.int .u64 0,.int .u64 0,.int .u64 0,.int .u64 0,.int .u64 0,.int .u64 0,.int .u64 0,.int .u64 0],.array 20 140,[]⟩
theorem tf186:TabFact Tryz.prog 186 ti186:=tfx
def ti188:TI:=⟨32,32,.agg [.d (.int .u8 0),.d (.int .u8 0),.d (.int .u8 0),.d (.int .u8 0),.d (.int .u8 0),.d (.int .u8 0),.d (.int .u8 0),.d (.int .u8 0),.d (.int .u8 0),.d (.int .u8 0),.d (.int .u8 0),.d (.int .u8 0),.d (.int .u8 0),.d (.int .u8 0),.d (.int .u8 0),.d (.int .u8 0),.d (.int .u8 0),.d (.int .u8 0),.d (.int .u8 0),.d (.int .u8 0),.d (.int .u8 0),.d (.int .u8 0),.d (.int .u8 0),.d (.int .u8 0),.d (.int .u8 0),.d (.int .u8 0),.d (.int .u8 0),.d (.int .u8 0),.d (.int .u8 0),.d (.int .u8 0),.d (.int .u8 0),.d (.int .u8 0)],.agg #[.int .u8 0,.int .u8 0,.int .u8 0,.int .u8 0,.int .u8 0,.int .u8 0,.int .u8 0,.int .u8 0,.int .u8 0,.int .u8 0,.int .u8 0,.int .u8 0,.int .u8 0,.int .u8 0,.int .u8 0,.int .u8 0,.int .u8 0,.int .u8 0,.int .u8 0,.int .u8 0,.int .u8 0,.int .u8 0,.int .u8 0,.int .u8 0,.int .u8 0,.int .u8 0,.int .u8 0,.int .u8 0,.int .u8 0,.int .u8 0,.int .u8 0,.int .u8 0],.array 32 5,[]⟩
theorem tf188:TabFact Tryz.prog 188 ti188:=tfx
def ty:Tab:=λt=>match t with|2=>some ti2|3=>some ti3|4=>some ti4|5=>some ti5|9=>some ti9|22=>some ti22|23=>some ti23|25=>some ti25|26=>some ti26|28=>some ti28|31=>some ti31|32=>some ti32|41=>some ti41|49=>some ti49|51=>some ti51|52=>some ti52|54=>some ti54|57=>some ti57|60=>some ti60|62=>some ti62|64=>some ti64|70=>some ti70|77=>some ti77|79=>some ti79|80=>some ti80|82=>some ti82|84=>some ti84|86=>some ti86|88=>some ti88|92=>some ti92|96=>some ti96|102=>some ti102|114=>some ti114|115=>some ti115|116=>some ti116|118=>some ti118|122=>some ti122|127=>some ti127|140=>some ti140|144=>some ti144|145=>some ti145|159=>some ti159|161=>some ti161|174=>some ti174|186=>some ti186|188=>some ti188|_=>none
theorem ty_ok:TabOk Tryz.prog ty:=by intro t ti h;unfold ty at h;split at h;{cases h;exact tf2};{cases h;exact tf3};{cases h;exact tf4};{cases h;exact tf5};{cases h;exact tf9};{cases h;exact tf22};{cases h;exact tf23};{cases h;exact tf25};{cases h;exact tf26};{cases h;exact tf28};{cases h;exact tf31};{cases h;exact tf32};{cases h;exact tf41};{cases h;exact tf49};{cases h;exact tf51};{cases h;exact tf52};{cases h;exact tf54};{cases h;exact tf57};{cases h;exact tf60};{cases h;exact tf62};{cases h;exact tf64};{cases h;exact tf70};{cases h;exact tf77};{cases h;exact tf79};{cases h;exact tf80};{cases h;exact tf82};{cases h;exact tf84};{cases h;exact tf86};{cases h;exact tf88};{cases h;exact tf92};{cases h;exact tf96};{cases h;exact tf102};{cases h;exact tf114};{cases h;exact tf115};{cases h;exact tf116};{cases h;exact tf118};{cases h;exact tf122};{cases h;exact tf127};{cases h;exact tf140};{cases h;exact tf144};{cases h;exact tf145};{cases h;exact tf159};{cases h;exact tf161};{cases h;exact tf174};{cases h;exact tf186};{cases h;exact tf188};{cases h}
def eqn:TypeId->Ac:=λt=>match t with|49=>some 2|79=>some 4|_=>none
theorem ef49:rJ Tryz.prog 49 2:=efs #[⟨"X",3,0,false, "", "",0⟩,⟨"Y",3,1,false, "", "",8⟩]
theorem ef79:rJ Tryz.prog 79 4:=efs #[⟨"X",3,0,false, "", "",0⟩,⟨"Y",3,1,false, "", "",8⟩,⟨"W",3,2,false, "", "",16⟩,⟨"H",3,3,false, "", "",24⟩]
theorem eqn_ok:∀t n,eqn t=some n->rJ Tryz.prog t n:=by intro t n h;unfold eqn at h;split at h;{cases h;exact ef49};{cases h;exact ef79};{cases h}
def key:TypeId->Option KK:=λt=>match t with|3=>some (.int .i64)|9=>some .str|_=>none
theorem kf3:Maps.Keyed Tryz.prog 3/\∀k:Key,k.fits (.int .i64)=true->∃l,keyOf Tryz.prog 3 k.val=some l:=key_int (by kernel_rfl)
theorem kf9:Maps.Keyed Tryz.prog 9/\∀k:Key,k.fits .str=true->∃l,keyOf Tryz.prog 9 k.val=some l:=key_str (by kernel_rfl)
theorem key_ok:∀t kk,key t=some kk->Maps.Keyed Tryz.prog t/\∀k:Key,k.fits kk=true->∃l,keyOf Tryz.prog t k.val=some l:=by intro t kk h;unfold key at h;split at h;{cases h;exact kf3};{cases h;exact kf9};{cases h}
def tb:Tb:={ ty:=ty,eqn:=eqn,key:=key,capd:=true }
theorem bW:TbOk Tryz.prog tb:=⟨ty_ok,eqn_ok,key_ok,(λ_ _ _ h=>by cases h),(λ_ _ _ _ _ _ _ _ _ h=>by cases h)⟩
theorem mixed:Tryz.prog.follows .mixedOrders=true:=by kernel_rfl
