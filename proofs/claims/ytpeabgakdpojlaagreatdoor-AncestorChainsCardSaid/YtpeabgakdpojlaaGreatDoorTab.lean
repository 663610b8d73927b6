/- Lemmas for the law. -/
import Derived.Test.YtpeabgakdpojlaaGreatDoorRows
import Derived.Test.YtpeabgakdpojlaaGreatDoorAmO
namespace Go.Proofs.YtpeabgakdpojlaaGreatDoor
open Go.AM Go.Proofs
theorem tz {ti:TI} (h:constV ti.zv=.u ti.zu:=by rfl) (E:A7) (w:World) (F:Ad):ct E w F ti.zu ti.zv:=by have h2:=vsim_const (E:=E) (w:=w) (F:=F) ti.zv;rw[h] at h2;exact h2
theorem tfx {P:Program} {t:TypeId} {ti:TI} (h1:(P.info? t).map (λi=>(i.size,i.bytes,i.zero))=some (ti.size,ti.bytes,some ti.zv):=by kernel_rfl) (h2:P.underlying t=some ti.desc:=by kernel_rfl) (h3:∀E w F,ct E w F ti.zu ti.zv:=by exact tz) (h4:ti.zv.cells.size=ti.size:=by rfl) (h5:∀fs,ti.desc=.struct fs->(ti.offs=fs.toList.map λf=>(f.offset,P.cellsOf f.type)):=by intro fs h;cases h<;>kernel_rfl) (h6:∀fs,ti.desc=.struct fs->(fs.toList.all λf=>(P.info? f.type).isSome)=true:=by intro fs h;cases h<;>kernel_rfl):TabFact P t ti:=⟨h1,h2,h3,h4,h5,h6⟩
def okF (P:Program) (i:Nat) (f:Field):Bool:=f.name != "_" && (f.offset==i&&match P.underlying f.type with
 |some (.int _)=>true|_=>false)
theorem efs {P:Program} {t:TypeId} {n:Nat} (fs:Array Field) (h1:P.underlying t=some (.struct fs):=by kernel_rfl) (h2:P.stoodInHeld t=false:=by kernel_rfl) (h3:P.eqGuardType P.depth t=false:=by kernel_rfl) (h4:fs.size=n:=by rfl) (h5:(fs.toList.zipIdx.all λx=>okF P x.2 x.1)=true:=by kernel_rfl):sR P t n :=
 .inl ⟨fs,h1,h2,h3,h4,λi f h=>by
  have h6:=List.all_eq_true.1 h5 (f,i) (List.mem_iff_getElem?.2 ⟨i,by rw[List.getElem?_zipIdx,h];simp⟩);simp only[okF,Bool.and_eq_true,bne_iff_ne,beq_iff_eq] at h6;obtain⟨a,b,c⟩:=h6;refine⟨a,b,?_⟩;split at c;{exact⟨_,‹_›⟩}
  ·cases c⟩
def ti2:TI:=⟨1,8,.one (.d (.int .i64 0)),.int .i64 0,.int .i64,[]⟩
theorem tf2:TabFact Tryz.prog 2 ti2:=tfx
def ti3:TI:=⟨1,8,.one (.d (.int .i64 0)),.int .i64 0,.int .i64,[]⟩
theorem tf3:TabFact Tryz.prog 3 ti3:=tfx
def ti4:TI:=⟨1,1,.one (.d (.bool false)),.bool false,.bool,[]⟩
theorem tf4:TabFact Tryz.prog 4 ti4:=tfx
def ti5:TI:=⟨1,1,.one (.d (.int .u8 0)),.int .u8 0,.int .u8,[]⟩
theorem tf5:TabFact Tryz.prog 5 ti5:=tfx
def ti9:TI:=⟨1,16,.one (.d (.str ⟨#[]⟩)),.string ⟨#[]⟩,.string,[]⟩
theorem tf9:TabFact Tryz.prog 9 ti9:=tfx
def ti22:TI:=⟨1,24,.one (.d .nil),.slice none 0 0,.slice 51,[]⟩
theorem tf22:TabFact Tryz.prog 22 ti22:=tfx
def ti23:TI:=⟨1,24,.one (.d .nil),.slice none 0 0,.slice 53,[]⟩
theorem tf23:TabFact Tryz.prog 23 ti23:=tfx
def ti25:TI:=⟨3,56,.agg [.d (.int .i64 0),.d .nil,.d .nil],.agg #[.int .i64 0,.slice none 0 0,.slice none 0 0],.struct #[⟨"States",3,0,false, "", "",0⟩,⟨"Hood",22,1,false, "", "",8⟩,⟨"Nodes",23,2,false, "", "",32⟩],[(0,1),(1,1),(2,1)]⟩
theorem tf25:TabFact Tryz.prog 25 ti25:=tfx
def ti26:TI:=⟨1,24,.one (.d .nil),.slice none 0 0,.slice 3,[]⟩
theorem tf26:TabFact Tryz.prog 26 ti26:=tfx
def ti28:TI:=⟨4,48,.agg [.d (.int .i64 0),.d (.int .i64 0),.d (.int .i64 0),.d .nil],.agg #[.int .i64 0,.int .i64 0,.int .i64 0,.slice none 0 0],.struct #[⟨"W",3,0,false, "", "",0⟩,⟨"H",3,1,false, "", "",8⟩,⟨"Edge",3,2,false, "", "",16⟩,⟨"Cells",26,3,false, "", "",24⟩],[(0,1),(1,1),(2,1),(3,1)]⟩
theorem tf28:TabFact Tryz.prog 28 ti28:=tfx
def ti31:TI:=⟨1,24,.one (.d .nil),.slice none 0 0,.slice 28,[]⟩
theorem tf31:TabFact Tryz.prog 31 ti31:=tfx
def ti32:TI:=⟨1,8,.one (.d (.int .i64 0)),.int .i64 0,.int .i64,[]⟩
theorem tf32:TabFact Tryz.prog 32 ti32:=tfx
def ti46:TI:=⟨6,64,.agg [.d (.int .i64 0),.d (.int .i64 0),.d (.int .i64 0),.d (.int .i64 0),.d (.int .i64 0),.d .nil],.agg #[.int .i64 0,.int .i64 0,.int .i64 0,.int .i64 0,.int .i64 0,.slice none 0 0],.struct #[⟨"W",3,0,false, "", "",0⟩,⟨"H",3,1,false, "", "",8⟩,⟨"Gens",3,2,false, "", "",16⟩,⟨"DX",3,3,false, "", "",24⟩,⟨"DY",3,4,false, "", "",32⟩,⟨"Syms",26,5,false, "", "",40⟩],[(0,1),(1,1),(2,1),(3,1),(4,1),(5,1)]⟩
theorem tf46:TabFact Tryz.prog 46 ti46:=tfx
def ti51:TI:=⟨2,16,.agg [.d (.int .i64 0),.d (.int .i64 0)],.agg #[.int .i64 0,.int .i64 0],.struct #[⟨"X",3,0,false, "", "",0⟩,⟨"Y",3,1,false, "", "",8⟩],[(0,1),(1,1)]⟩
theorem tf51:TabFact Tryz.prog 51 ti51:=tfx
def ti53:TI:=⟨2,32,.agg [.d (.int .i64 0),.d .nil],.agg #[.int .i64 0,.slice none 0 0],.struct #[⟨"Level",3,0,false, "", "",0⟩,⟨"Next",26,1,false, "", "",8⟩],[(0,1),(1,1)]⟩
theorem tf53:TabFact Tryz.prog 53 ti53:=tfx
def ti54:TI:=⟨1,24,.one (.d .nil),.slice none 0 0,.slice 26,[]⟩
theorem tf54:TabFact Tryz.prog 54 ti54:=tfx
def ti56:TI:=⟨2,32,.agg [.d (.int .i64 0),.d .nil],.agg #[.int .i64 0,.slice none 0 0],.struct #[⟨"Vars",3,0,false, "", "",0⟩,⟨"Clauses",54,1,false, "", "",8⟩],[(0,1),(1,1)]⟩
theorem tf56:TabFact Tryz.prog 56 ti56:=tfx
def ti59:TI:=⟨1,24,.one (.d .nil),.slice none 0 0,.slice 64,[]⟩
theorem tf59:TabFact Tryz.prog 59 ti59:=tfx
def ti62:TI:=⟨1,8,.one (.top),.nilFunc,.func #[64] #[28] false,[]⟩
theorem tf62:TabFact Tryz.prog 62 ti62:=tfx
def ti64:TI:=⟨1,24,.one (.d .nil),.slice none 0 0,.slice 4,[]⟩
theorem tf64:TabFact Tryz.prog 64 ti64:=tfx
def ti66:TI:=⟨1,8,.one (.top),.nilFunc,.func #[28,28] #[3] false,[]⟩
theorem tf66:TabFact Tryz.prog 66 ti66:=tfx
def ti70:TI:=⟨1,8,.one (.top),.nilFunc,.func #[3] #[3] false,[]⟩
theorem tf70:TabFact Tryz.prog 70 ti70:=tfx
def ti80:TI:=⟨1,8,.one (.top),.nilFunc,.func #[3] #[4] false,[]⟩
theorem tf80:TabFact Tryz.prog 80 ti80:=tfx
def ti82:TI:=⟨4,32,.agg [.d (.int .i64 0),.d (.int .i64 0),.d (.int .i64 0),.d (.int .i64 0)],.agg #[.int .i64 0,.int .i64 0,.int .i64 0,.int .i64 0],.struct #[⟨"X",3,0,false, "", "",0⟩,⟨"Y",3,1,false, "", "",8⟩,⟨"W",3,2,false, "", "",16⟩,⟨"H",3,3,false, "", "",24⟩],[(0,1),(1,1),(2,1),(3,1)]⟩
theorem tf82:TabFact Tryz.prog 82 ti82:=tfx
def ti83:TI:=⟨1,8,.one (.top),.pointer none,.pointer 91,[]⟩
theorem tf83:TabFact Tryz.prog 83 ti83:=tfx
def ti85:TI:=⟨1,24,.one (.d .nil),.slice none 0 0,.slice 95,[]⟩
theorem tf85:TabFact Tryz.prog 85 ti85:=tfx
def ti87:TI:=⟨5,56,.agg [.d (.int .i64 0),.d (.int .i64 0),.d (.int .i64 0),.d (.int .i64 0),.d .nil],.agg #[.int .i64 0,.int .i64 0,.int .i64 0,.int .i64 0,.slice none 0 0],.struct #[⟨"box",82,0,false, "", "cellular/unroll",0⟩,⟨"values",85,4,false, "", "cellular/unroll",32⟩],[(0,4),(4,1)]⟩
theorem tf87:TabFact Tryz.prog 87 ti87:=tfx
def ti89:TI:=⟨1,8,.one (.nilmap),.map none,.map 9 25,[]⟩
theorem tf89:TabFact Tryz.prog 89 ti89:=tfx
def ti91:TI:=⟨7,104,.agg [.d (.int .i64 0),.d .nil,.d (.int .i64 0),.d .nil,.d .nil,.d (.int .i64 0),.nilmap],.agg #[.int .i64 0,.slice none 0 0,.int .i64 0,.slice none 0 0,.slice none 0 0,.int .i64 0,.map none],.struct #[⟨"Formula",56,0,true, "", "",0⟩,⟨"rule",25,2,false, "", "cellular/unroll",32⟩,⟨"bits",3,5,false, "", "cellular/unroll",88⟩,⟨"trees",89,6,false, "", "cellular/unroll",96⟩],[(0,2),(2,3),(5,1),(6,1)]⟩
theorem tf91:TabFact Tryz.prog 91 ti91:=tfx
def ti95:TI:=⟨2,32,.agg [.d (.int .i64 0),.d .nil],.agg #[.int .i64 0,.slice none 0 0],.struct #[⟨"constant",3,0,false, "", "cellular/unroll",0⟩,⟨"vars",26,1,false, "", "cellular/unroll",8⟩],[(0,1),(1,1)]⟩
theorem tf95:TabFact Tryz.prog 95 ti95:=tfx
def ti99:TI:=⟨1,8,.one (.top),.pointer none,.pointer 131,[]⟩
theorem tf99:TabFact Tryz.prog 99 ti99:=tfx
def ti105:TI:=⟨1,8,.one (.d (.int .u64 0)),.int .u64 0,.int .u64,[]⟩
theorem tf105:TabFact Tryz.prog 105 ti105:=tfx
def ti107:TI:=⟨1,24,.one (.d .nil),.slice none 0 0,.slice 112,[]⟩
theorem tf107:TabFact Tryz.prog 107 ti107:=tfx
def ti112:TI:=⟨2,32,.agg [.d (.int .i64 0),.d .nil],.agg #[.int .i64 0,.slice none 0 0],.struct #[⟨"State",3,0,false, "", "",0⟩,⟨"Vars",26,1,false, "", "",8⟩],[(0,1),(1,1)]⟩
theorem tf112:TabFact Tryz.prog 112 ti112:=tfx
def ti127:TI:=⟨1,8,.one (.nilmap),.map none,.map 3 26,[]⟩
theorem tf127:TabFact Tryz.prog 127 ti127:=tfx
def ti128:TI:=⟨1,24,.one (.d .nil),.slice none 0 0,.slice 135,[]⟩
theorem tf128:TabFact Tryz.prog 128 ti128:=tfx
def ti129:TI:=⟨1,24,.one (.d .nil),.slice none 0 0,.slice 140,[]⟩
theorem tf129:TabFact Tryz.prog 129 ti129:=tfx
def ti131:TI:=⟨7,120,.agg [.d .nil,.nilmap,.d .nil,.d .nil,.d (.int .i64 0),.d .nil,.d (.bool false)],.agg #[.slice none 0 0,.map none,.slice none 0 0,.slice none 0 0,.int .i64 0,.slice none 0 0,.bool false],.struct #[⟨"clauses",54,0,false, "", "cellular/solve",0⟩,⟨"watches",127,1,false, "", "cellular/solve",24⟩,⟨"values",128,2,false, "", "cellular/solve",32⟩,⟨"trail",26,3,false, "", "cellular/solve",56⟩,⟨"done",3,4,false, "", "cellular/solve",80⟩,⟨"decisions",129,5,false, "", "cellular/solve",88⟩,⟨"bad",4,6,false, "", "cellular/solve",112⟩],[(0,1),(1,1),(2,1),(3,1),(4,1),(5,1),(6,1)]⟩
theorem tf131:TabFact Tryz.prog 131 ti131:=tfx
def ti135:TI:=⟨1,1,.one (.d (.int .i8 0)),.int .i8 0,.int .i8,[]⟩
theorem tf135:TabFact Tryz.prog 135 ti135:=tfx
def ti140:TI:=⟨3,24,.agg [.d (.int .i64 0),.d (.int .i64 0),.d (.bool false)],.agg #[.int .i64 0,.int .i64 0,.bool false],.struct #[⟨"variable",3,0,false, "", "cellular/solve",0⟩,⟨"trail",3,1,false, "", "cellular/solve",8⟩,⟨"turned",4,2,false, "", "cellular/solve",16⟩],[(0,1),(1,1),(2,1)]⟩
theorem tf140:TabFact Tryz.prog 140 ti140:=tfx
def ti153:TI:=⟨1,8,.one (.d (.int .u64 0)),.int .u64 0,.int .u64,[]⟩
theorem tf153:TabFact Tryz.prog 153 ti153:=tfx
def ti160:TI:=⟨1,8,.one (.top),.nilFunc,.func #[3,26] #[26] false,[]⟩
theorem tf160:TabFact Tryz.prog 160 ti160:=tfx
def ti161:TI:=⟨1,24,.one (.d .nil),.slice none 0 0,.slice 5,[]⟩
theorem tf161:TabFact Tryz.prog 161 ti161:=tfx
def ti177:TI:=⟨1,8,.one (.nilmap),.map none,.map 9 3,[]⟩
theorem tf177:TabFact Tryz.prog 177 ti177:=tfx
def ti179:TI:=⟨2,32,.agg [.d .nil,.nilmap],.agg #[.slice none 0 0,.map none],.struct #[⟨"nodes",23,0,false, "", "cellular/reduce",0⟩,⟨"known",177,1,false, "", "cellular/reduce",24⟩],[(0,1),(1,1)]⟩
theorem tf179:TabFact Tryz.prog 179 ti179:=tfx
def ti193:TI:=⟨1,8,.one (.top),.pointer none,.pointer 179,[]⟩
theorem tf193:TabFact Tryz.prog 193 ti193:=tfx
def ti205:TI:=⟨20,160,.agg [.d (.int .u64 0),.d (.int .u64 0),.d (.int .u64 0),.d (.int .u64 0),.d (.int .u64 0),.d (.int .u64 0),.d (.int .u64 0),.d (.int .u64 0),.d (.int .u64 0),.d (.int .u64 0),.d (.int .u64 0),.d (.int .u64 0),.d (.int .u64 0),.d (.int .u64 0),.d (.int .u64 0),.d (.int .u64 0),.d (.int .u64 0),.d (.int .u64 0),.d (.int .u64 0),.d (.int .u64 0)],.agg #[.int .u64 0,.int .u64 0,.int .u64 0,.int .u64 0,.int .u64 0,.int .u64 0,.int .u64 0,.int .u64 0,.int .u64 0,.int .u64 0,.int .u64 0,.int .u64 0,.int .u64 0,.int .u64 0,.int .u64 0,.int .u64 0,.int .u64 0,.int .u64 0,.int .u64 0,.int .u64 0],.array 20 153,[]⟩
theorem tf205:TabFact Tryz.prog 205 ti205:=tfx
def ti207:TI:=⟨32,32,.agg [.d (.int .u8 0),.d (.int .u8 0),.d (.int .u8 0),.d (.int .u8 0),.d (.int .u8 0),.d (.int .u8 0),.d (.int .u8 0),.d (.int .u8 0),.d (.int .u8 0),.d (.int .u8 0),.d (.int .u8 0),.d (.int .u8 0),.d (.int .u8 0),.d (.int .u8 0),.d (.int .u8 0),.d (.int .u8 0),.d (.int .u8 0),.d (.int .u8 0),.d (.int .u8 0),.d (.int .u8 0),.d (.int .u8 0),.d (.int .u8 0),.d (.int .u8 0),.d (.int .u8 0),.d (.int .u8 0),.d (.int .u8 0),.d (.int .u8 0),.d (.int .u8 0),.d (.int .u8 0),.d (.int .u8 0),.d (.int .u8 0),.d (.int .u8 0)],.agg #[.int .u8 0,.int .u8 0,.int .u8 0,.int .u8 0,.int .u8 0,.int .u8 0,.int .u8 0,.int .u8 0,.int .u8 0,.int .u8 0,.int .u8 0,.int .u8 0,.int .u8 0,.int .u8 0,.int .u8 0,.int .u8 0,.int .u8 0,.int .u8 0,.int .u8 0,.int .u8 0,.int .u8 0,.int .u8 0,.int .u8 0,.int .u8 0,.int .u8 0,.int .u8 0,.int .u8 0,.int .u8 0,.int .u8 0,.int .u8 0,.int .u8 0,.int .u8 0],.array 32 5,[]⟩
theorem tf207:TabFact Tryz.prog 207 ti207:=tfx
def ty:Tab:=λt=>match t with|2=>some ti2|3=>some ti3|4=>some ti4|5=>some ti5|9=>some ti9|22=>some ti22|23=>some ti23|25=>some ti25|26=>some ti26|28=>some ti28|31=>some ti31|32=>some ti32|46=>some ti46|51=>some ti51|53=>some ti53|54=>some ti54|56=>some ti56|59=>some ti59|62=>some ti62|64=>some ti64|66=>some ti66|70=>some ti70|80=>some ti80|82=>some ti82|83=>some ti83|85=>some ti85|87=>some ti87|89=>some ti89|91=>some ti91|95=>some ti95|99=>some ti99|105=>some ti105|107=>some ti107|112=>some ti112|127=>some ti127|128=>some ti128|129=>some ti129|131=>some ti131|135=>some ti135|140=>some ti140|153=>some ti153|160=>some ti160|161=>some ti161|177=>some ti177|179=>some ti179|193=>some ti193|205=>some ti205|207=>some ti207|_=>none
theorem ty_ok:TabOk Tryz.prog ty:=by intro t ti h;unfold ty at h;split at h;{cases h;exact tf2};{cases h;exact tf3};{cases h;exact tf4};{cases h;exact tf5};{cases h;exact tf9};{cases h;exact tf22};{cases h;exact tf23};{cases h;exact tf25};{cases h;exact tf26};{cases h;exact tf28};{cases h;exact tf31};{cases h;exact tf32};{cases h;exact tf46};{cases h;exact tf51};{cases h;exact tf53};{cases h;exact tf54};{cases h;exact tf56};{cases h;exact tf59};{cases h;exact tf62};{cases h;exact tf64};{cases h;exact tf66};{cases h;exact tf70};{cases h;exact tf80};{cases h;exact tf82};{cases h;exact tf83};{cases h;exact tf85};{cases h;exact tf87};{cases h;exact tf89};{cases h;exact tf91};{cases h;exact tf95};{cases h;exact tf99};{cases h;exact tf105};{cases h;exact tf107};{cases h;exact tf112};{cases h;exact tf127};{cases h;exact tf128};{cases h;exact tf129};{cases h;exact tf131};{cases h;exact tf135};{cases h;exact tf140};{cases h;exact tf153};{cases h;exact tf160};{cases h;exact tf161};{cases h;exact tf177};{cases h;exact tf179};{cases h;exact tf193};{cases h;exact tf205};{cases h;exact tf207};{cases h}
def eqn:TypeId->Ac:=λt=>match t with|51=>some 2|82=>some 4|_=>none
theorem ef51:sR Tryz.prog 51 2:=efs #[⟨"X",3,0,false, "", "",0⟩,⟨"Y",3,1,false, "", "",8⟩]
theorem ef82:sR Tryz.prog 82 4:=efs #[⟨"X",3,0,false, "", "",0⟩,⟨"Y",3,1,false, "", "",8⟩,⟨"W",3,2,false, "", "",16⟩,⟨"H",3,3,false, "", "",24⟩]
theorem eqn_ok:∀t n,eqn t=some n->sR Tryz.prog t n:=by intro t n h;unfold eqn at h;split at h;{cases h;exact ef51};{cases h;exact ef82};{cases h}
def key:TypeId->Option KK:=λt=>match t with|3=>some (.int .i64)|9=>some .str|_=>none
theorem kf3:Maps.Keyed Tryz.prog 3/\∀k:Key,k.fits (.int .i64)=true->∃l,keyOf Tryz.prog 3 k.val=some l:=key_int (by kernel_rfl)
theorem kf9:Maps.Keyed Tryz.prog 9/\∀k:Key,k.fits .str=true->∃l,keyOf Tryz.prog 9 k.val=some l:=key_str (by kernel_rfl)
theorem key_ok:∀t kk,key t=some kk->Maps.Keyed Tryz.prog t/\∀k:Key,k.fits kk=true->∃l,keyOf Tryz.prog t k.val=some l:=by intro t kk h;unfold key at h;split at h;{cases h;exact kf3};{cases h;exact kf9};{cases h}
def tb:Tb:={ ty:=ty,eqn:=eqn,key:=key,capd:=true }
theorem bU:TbOk Tryz.prog tb:=⟨ty_ok,eqn_ok,key_ok,(λ_ _ _ h=>by cases h),(λ_ _ _ _ _ _ _ _ _ h=>by cases h)⟩
theorem mixed:Tryz.prog.follows .mixedOrders=true:=by kernel_rfl
