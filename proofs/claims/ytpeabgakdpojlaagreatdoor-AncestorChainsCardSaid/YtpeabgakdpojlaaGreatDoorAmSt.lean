/- Lemmas for the law. -/
import Derived.Test.YtpeabgakdpojlaaGreatDoorAmMp
import Derived.Shelf.Strings.Cut
import Derived.Shelf.Strings.Split
import Derived.Shelf.Strings.SlTrimAscii
import Derived.Shelf.Strconv.Atoi
import Derived.Shelf.Strconv.AppendInt10
namespace Go.AM
open Go.Proofs
set_option maxHeartbeats 12800000
variable {P:Program}
theorem blw_drewN {B:Nat} {w w':World} (h:Blw B w w'):∀q,Blw B w (w'.drewN q)|0=>h|q+1=>by have:=blw_drewN h q;exact⟨⟨this.os,this.tape,this.output,this.size,this.block⟩,Nat.le_trans this.drawn (rt (Nat.le_succ _))⟩
end Go.AM
namespace Go.AM
open Go.Proofs Go.Shelf Go.RowKit Go.Sort Go.Lib
set_option maxHeartbeats 12800000
set_option maxRecDepth 100000
variable {P:Program}
structure Grw (u v':Value) (w w':World):Prop where
 os:w'.os=w.os
 tape:w'.tape=w.tape
 output:w'.output=w.output
 drawn:drn w<=drn w'
 size:w.heap.size<=w'.heap.size
 block:∀b,b<w.heap.size->¬ hbl u b->w'.heap[b]?=w.heap[b]?
 own:∀b,hbl v' b->(w.heap.size<=b\/hbl u b)/\b<w'.heap.size
theorem Grw.before {u v':Value} {w w1 w':World} (h:Blw w.heap.size w w1) (g:Grw u v' w1 w'):Grw u v' w w' :=⟨g.os.trans h.os,g.tape.trans h.tape,g.output.trans h.output,Nat.le_trans h.drawn g.drawn,Nat.le_trans h.size g.size,
  λb hb hn=>(g.block b (Nat.lt_of_lt_of_le hb h.size) hn).trans (h.block b hb),
  λb hb=>⟨(g.own b hb).1.imp (λh1=>Nat.le_trans h.size h1) id,(g.own b hb).2⟩⟩
theorem wpList_app {w:World} {e:TypeId} {te:TI} {ops:Array Oper} {rest:A6} {o:Oper} {a:Act} {Q:Exit->Act->World->Prop} (hgd:o.guard=none) (s x:Operand) (t:TypeId) (ho:o.op=.call { callee:=.builtin .append,args:=#[s,x],argTypes:=#[t,t] }) (hT:P.underlying t=some (.slice e)) (TE:TabFact P e te) (hs1:te.size=1) (hb1:te.bytes=1) {u:Value} {n:Nat} {xs:A9} (hs:a.eval s=u) (hu:lQ w e 1 u n xs) (hxl:xs.length=n) {A:Option Addr} {m c:Nat} {ns:A9} (hx:a.eval x=.slice A m c) (hl:ns.length=m) (hA:0<m->∃ad,A=some ad/\∀(j:Nat) (v:Value),ns[j]?=some v->w.cell? (ad.add j)=some v) (h1:∀v∈ns,v.oneCell'=true) (hb:n+m<=140737488355328) (h:∀v' w',Grw u v' w w'->lQ w' e 1 v' (n+m) (xs++ns)->wpList P ops Q rest (a.put o.dst v') w'):wpList P ops Q (o::rest) a w :=
 wpList_plain hgd λ_ hK=>by obtain⟨v',w',hr,r1,r2,r3,r4,r5,r6,r7⟩:=run_app (P:=P) (ty:=o.type) hT TE (by omega) (by omega) (u:=u) (n:=n) (xs:=xs) (by rw[hs1];exact hu) (by rw[hs1];omega) (A:=A) (m:=m) (c:=c) (ns:=ns) (by rw[hs1];omega) hA h1 (by rw[hb1];omega);rw[hs1] at r7;unfold Oper.wp execOp;simp only[ho,resolve,invoke,builtin,Sem.run_bind,Sem.run_pure,Result.andThen_ok,List.map_toArray,List.map_cons,List.map_nil,hs,hx,hr];exact hK _ _ (h v' w' ⟨r1,r2,r3,tk _ _ _ _ hr,r4,r5,r6⟩ r7)
theorem wpList_appS {w:World} {e:TypeId} {te:TI} {ops:Array Oper} {rest:A6} {o:Oper} {a:Act} {Q:Exit->Act->World->Prop} (hgd:o.guard=none) (s x:Operand) (t ts:TypeId) (ho:o.op=.call { callee:=.builtin .append,args:=#[s,x],argTypes:=#[t,ts] }) (hT:P.underlying t=some (.slice e)) (hS:P.underlying ts=some .string) (TE:TabFact P e te) (hs1:te.size=1) (hb1:te.bytes=1) {u:Value} {n:Nat} {xs:A9} (hs:a.eval s=u) (hu:lQ w e 1 u n xs) (hxl:xs.length=n) (y:ByteArray) (hx:a.eval x=.string y) (hb:n+(bsl y).length<=140737488355328) (h:∀v' w',Grw u v' w w'->lQ w' e 1 v' (n+(bsl y).length) (xs++Lib.strCells y)->wpList P ops Q rest (a.put o.dst v') w'):wpList P ops Q (o::rest) a w :=
 wpList_plain hgd λ_ hK=>by obtain⟨v',w',hr,r1,r2,r3,r4,r5,r6,r7⟩:=run_appS (P:=P) (ty:=o.type) hT hS TE hs1 (by omega) (u:=u) (n:=n) (xs:=xs) (by rw[hs1];exact hu) hxl y (by rw[hb1];omega);rw[hs1] at r7;unfold Oper.wp execOp;simp only[ho,resolve,invoke,builtin,Sem.run_bind,Sem.run_pure,Result.andThen_ok,List.map_toArray,List.map_cons,List.map_nil,hs,hx,hr];exact hK _ _ (h v' w' ⟨r1,r2,r3,tk _ _ _ _ hr,r4,r5,r6⟩ r7)
section
variable {Z:Ren} {te:TI}
theorem appU_small (L:LaysM.n288 P Z) (TE:TabFact P (Z.t 5) te) (hs1:te.size=1) (hb1:te.bytes=1) (n u:Nat) (hu:u<100) (sv:Value) (xs:A9) (w:World) (hown:lQ w (Z.t 5) 1 sv n xs) (hxl:xs.length=n) (hlim:n+20<=140737488355328) :
  Calls P (Z.f 288) #[sv,.int .u64 u,.int .i64 10] w λe w'=>∃v',e=.returned v'/\Grw sv v' w w'/\lQ w' (Z.t 5) 1 v' (n+(decDigits u).length) (xs++byteCells (decDigits u)):=by
 have mixed:=L.mixed;have t5:=L.t5;have a5:=L.a5;have z5:=L.z5;have v5:=L.v5;have t37:=L.t37;have u37:=run_underlying L.t37;have a37:=L.a37;have z37:=L.z37;have v37:=L.v37;have t53:=L.t53;have a53:=L.a53;have z53:=L.z53;have v53:=L.v53;have t3:=L.t3;have a3:=L.a3;have z3:=L.z3;have v3:=L.v3;have t4:=L.t4;have a4:=L.a4;have z4:=L.z4;have v4:=L.v4;have t9:=L.t9;have a9:=L.a9;have z9:=L.z9;have v9:=L.v9;have t0:=L.t0;have a0:=L.a0;have z0:=L.z0;have v0:=L.v0;have e283:∀args w,(callFunc (Z.f 283) args).run P w=.ok (.enter (Z.f 283) args) w:=enters_of L.f283 (by kernel_rfl) rfl;have hlen:(bsl ⟨(decDigits u).toArray⟩).length<=20:=by show (decDigits u).toArray.toList.length<=20;rw[decDigits_length];by_cases h10:u<10;{rw[nDigits_small h10];omega};{rw[nDigits_big h10,nDigits_small (show u/10<10 by omega)];omega}
 go_enter L.f288,Body.n288_ntmps Z
 go_wp2_with (first
  |(go_at_fn (Z.f 283);refine(Any.internal_strconv_small { L with } u hu _).mono ?_;rintro e w' ⟨rfl,rfl⟩)|(at_builtin;refine wpList_appS rfl _ _ (Z.t 37) (Z.t 9) rfl L.t37 L.t9 TE hs1 hb1 rfl hown hxl ⟨(decDigits u).toArray⟩ rfl (by omega) ?_))
 intro v' w1 hg hr
 go_wp2
 go_ret
 exact⟨v',rfl,hg,hr⟩
theorem appU_big (L:LaysM.n288 P Z) (TE:TabFact P (Z.t 5) te) (hs1:te.size=1) (hb1:te.bytes=1) (n u:Nat) (hu:100<=u) (hu64:u<18446744073709551616) (sv:Value) (xs:A9) (w:World) (hown:lQ w (Z.t 5) 1 sv n xs) (hxl:xs.length=n) (hlim:n+20<=140737488355328) (htab:Lib.TabIs P w "internal/strconv.uint64pow10" .u64 Lib.pow10Tab) :
  Calls P (Z.f 288) #[sv,.int .u64 u,.int .i64 10] w λe w'=>∃v',e=.returned v'/\Grw sv v' w w'/\lQ w' (Z.t 5) 1 v' (n+(decDigits u).length) (xs++byteCells (decDigits u)):=by
 have mixed:=L.mixed;have t5:=L.t5;have a5:=L.a5;have z5:=L.z5;have v5:=L.v5;have t37:=L.t37;have u37:=run_underlying L.t37;have a37:=L.a37;have z37:=L.z37;have v37:=L.v37;have t53:=L.t53;have a53:=L.a53;have z53:=L.z53;have v53:=L.v53;have t3:=L.t3;have a3:=L.a3;have z3:=L.z3;have v3:=L.v3;have t4:=L.t4;have a4:=L.a4;have z4:=L.z4;have v4:=L.v4;have t9:=L.t9;have a9:=L.a9;have z9:=L.z9;have v9:=L.v9;have t171:=L.t171;have a171:=L.a171;have z171:=L.z171;have v171:=L.v171;have t0:=L.t0;have a0:=L.a0;have z0:=L.z0;have v0:=L.v0;have t173:=L.t173;have a173:=L.a173;have z173:=L.z173;have v173:=L.v173;have e284:∀args w,(callFunc (Z.f 284) args).run P w=.ok (.enter (Z.f 284) args) w:=enters_of L.f284 (by kernel_rfl) rfl;have e285:∀args w,(callFunc (Z.f 285) args).run P w=.ok (.enter (Z.f 285) args) w:=enters_of L.f285 (by kernel_rfl) rfl;have hu1:1<=u:=by omega
 have hnd20:nDigits u<=20:=by have:=numDigits_eq u hu1 hu64;split at this<;>omega
 have hal:P.arrayLen (Z.t 171)=24:=by simp[Program.arrayLen,L.t171]
 have hsl:∀W,(Instr.sliceAt (Z.t 171) (.pointer (some ⟨w.heap.size,0,none⟩)) none (some (.int .i64 (nDigits u:Int))) none).run P W=.ok (.slice (some ⟨w.heap.size,0,none⟩) (nDigits u) 24) W:=λW=>by
  rw[run_sliceAt_array_h W (Z.t 171) ⟨w.heap.size,0,none⟩ (by simp[Program.arrayLen,Program.elem,L.t171]) .i64 (nDigits u:Int) (by omega) (by rw[hal];omega)]
  go_simp
 have hH0:=holds_zero0 w (Z.t 171) (nDigits u) (by omega);have hfmt:=Any.internal_strconv_formatBase10 { L with } w.heap.size 0 24 u (Array.replicate (nDigits u) 0) (w.alloc (.cells zeros24 (Z.t 171))) hH0 (by rw[Array.size_replicate];exact lt_pow_nDigits u) hu64 (by rw[Array.size_replicate];omega);rw[Array.size_replicate] at hfmt;have HH0:=Proofs.hid hH0;have iu:(100:Int)<=(u:Int):=by omega
 clear hH0 hal
 go_enter L.f288,Body.n288_ntmps Z
 go_wp2_with (first
  |(go_at_fn (Z.f 284);refine(Any.internal_strconv_numDigits { L with } u hu1 hu64 _ (tabIs_alloc htab _)).mono ?_;rintro e w' ⟨rfl,rfl⟩))
 go_at_fn (Z.f 285)
 refine hfmt.mono ?_;rintro e w' ⟨rfl,k,v',dk,rfl,hF⟩;have hcells:∀j u',(byteCells (decDigits u))[j]?=some u'->((putRow (λ(b:UInt8)=>Value.int .u8 (b.toNat:Int)) (w.alloc (.cells zeros24 (Z.t 171))) w.heap.size 0 dk).drewN k).cell? ((⟨w.heap.size,0,none⟩:Addr).add j)=some u':=by
  intro j u' hj;have hjl:j<(decDigits u).length:=by have h5:=(List.getElem?_eq_some_iff.1 hj).1;rwa [byteCells_length] at h5
  have e5:(byteCells (decDigits u))[j]?=some (Value.int .u8 ((decDigits u)[j].toNat:Int)):=by simp[byteCells,hjl]
  rw[e5] at hj;cases hj;rw[row_is_numeral hF j hjl,Lib.add_plain,World.cell?_drewN];exact cell?_putRow (λ(b:UInt8)=>Value.int .u8 (b.toNat:Int)) _ w.heap.size 0 _ dk HH0.out (by rw[hF.size,Array.size_replicate]) j (by rw[hF.size];rw[decDigits_length] at hjl;exact hjl)
 obtain⟨os,eo⟩:=fin_at w (.cells zeros24 (Z.t 171)) dk k 0;have hB:Blw w.heap.size w ((putRow (λ(b:UInt8)=>Value.int .u8 (b.toNat:Int)) (w.alloc (.cells zeros24 (Z.t 171))) w.heap.size 0 dk).drewN k):=by rw[eo];exact⟨below_grow _ w (Nat.le_refl _) k os,(blw_drewN (Blw.refl 0 w) k).drawn⟩
 generalize (putRow (λ(b:UInt8)=>Value.int .u8 (b.toNat:Int)) (w.alloc (.cells zeros24 (Z.t 171))) w.heap.size 0 dk).drewN k=W2 at hcells hB⊢;clear eo HH0 hfmt;have hrow:lQ W2 (Z.t 5) 1 sv n xs:=by rcases hown with h|⟨b,cap,cur,h0,h1,h2,h3,h4,h5⟩;{exact .inl h};{exact .inr ⟨b,cap,cur,h0,h1,h2,h3,(hB.block b (Array.getElem?_eq_some_iff.1 h4).1).trans h4,h5⟩}
 go_wp2_with (at_builtin;refine wpList_app rfl _ _ (Z.t 37) rfl L.t37 TE hs1 hb1 rfl hrow hxl (A:=some ⟨w.heap.size,0,none⟩) (m:=nDigits u) (c:=24) (ns:=byteCells (decDigits u)) rfl ?c0 (λ_=>⟨_,rfl,hcells⟩) ?c2 ?c3 ?_)
 case c0=>rw[byteCells_length,decDigits_length]
 case c2=>intro u' hu';simp only[byteCells,List.mem_map] at hu';obtain⟨b,_,rfl⟩:=hu';rfl
 case c3=>omega
 intro v2 w3 hg hr
 go_wp2
 go_ret
 rw[decDigits_length];exact⟨v2,rfl,hg.before hB,hr⟩
def digI (n:Int):A0:=(decDigits n.toNat).map λb=>(b.toNat:Int)
theorem csims_u8 {E:A7} {w:World} {F:Ad}:∀{l:A0} {xs:A9},bB E w F ((l.map (rI .u8)).flatten.map C.d) xs↔xs=l.map (Value.int .u8)|[],xs=>by simp[bB]|n::l,xs=>by have ih:=@csims_u8 E w F l;simp only[List.map_cons,rI,List.flatten_cons,List.cons_append,List.nil_append,bB,bG,rep];simp_all
theorem row_osim {E:A7} {w:World} {F:Ad} {s e:Nat} {l:A0} (h:lQ w e 1 (E s) l.length (l.map (Value.int .u8))):kq E w F s (.row 1 e (l.map (rI .u8))):=by refine⟨λr hr=>by obtain⟨n,_,rfl⟩:=List.mem_map.1 hr;rfl,?_⟩;rcases h with⟨h1,_,a,ha⟩|⟨b,cap,cur,h0,h1,h2,h3,h4,h5,h6⟩;{simp_all};grind[csims_u8]
theorem osim_row {E:A7} {w:World} {F:Ad} {s e:Nat} {l:A0} (h:kq E w F s (.row 1 e (l.map (rI .u8)))):lQ w e 1 (E s) l.length (l.map (Value.int .u8)):=by
 rcases h.2 with⟨h1,a,ha⟩|⟨b,cap,cur,h0,h1,h2,h3,h4,h5,h6⟩
 ·have:l=[]:=by simp_all
  subst this;exact .inl ⟨rfl,rfl,a,ha⟩
 ·rw[List.length_map] at h1 h2 h6;rw[csims_u8] at h6;exact .inr ⟨b,cap,cur,h0,h1,h2,h3,h4,h5,h6⟩
theorem tab_of {w:World} {F:Ad} (h:GW w F) {g:Nat} (hg:gpow g=true) (hn:P.globalNamed "internal/strconv.uint64pow10" = some g):Lib.TabIs P w "internal/strconv.uint64pow10" .u64 Lib.pow10Tab:=by obtain⟨_,t,fz,hc⟩:=h.pow g hg;unfold Lib.TabIs World.var?;rw[hn,Option.bind_some,hc];rfl
theorem digI_cells (u:Nat):byteCells (decDigits u)=(digI u).map (Value.int .u8):=by simp only[byteCells,digI,List.map_map,Int.toNat_natCast];rfl
theorem appU_calls (L:LaysM.n288 P Z) (TE:TabFact P (Z.t 5) te) (hs1:te.size=1) (hb1:te.bytes=1) (hg:gpow (Z.g 17)=true) {u:Nat} (hu64:u<18446744073709551616) {sv:Value} {l:A0} {w:World} {F:Ad} (hw:GW w F) (hown:lQ w (Z.t 5) 1 sv l.length (l.map (Value.int .u8))) (hlim:l.length+20<=140737488355328) :
  Calls P (Z.f 288) #[sv,.int .u64 u,.int .i64 10] w λe w'=>∃v',e=.returned v'/\Grw sv v' w w'/\lQ w' (Z.t 5) 1 v' (l++digI u).length ((l++digI u).map (Value.int .u8)):=by
 have e1:(l++digI u).length=l.length+(decDigits u).length:=by simp[digI]
 rw[e1,List.map_append,<- digI_cells];rcases Nat.lt_or_ge u 100 with h|h;{grind[appU_small]};{exact appU_big L TE hs1 hb1 _ u h hu64 sv _ w hown (List.length_map _) hlim (tab_of hw hg L.m17)}
def appUM (l:A0) (n base:Int):Ay:=bif decide (base=10)&&(decide (0<=n)&&(decide (n<18446744073709551616)&&Nat.ble l.length 4000000000))then some (l++digI n)else none
theorem appUM_some {l r:A0} {n base:Int} (h:appUM l n base=some r):base=10/\0<=n/\n<18446744073709551616/\l.length<=4000000000/\r=l++digI n:=by
 unfold appUM at h;cases hc:(decide (base=10)&&(decide (0<=n)&&(decide (n<18446744073709551616)&&Nat.ble l.length 4000000000)))with
 |false=>grind|true=>simp_all
theorem appU_g (L:LaysM.n288 P Z) {e:Nat} (he:Z.t 5=e) (TE:TabFact P e te) (hs1:te.size=1) (hb1:te.bytes=1) (hg:gpow (Z.g 17)=true) {f:FuncId} (hf:Z.f 288=f) (hfn:∃fn,P.funcs[f]?=some fn/\(fn.name == "runtime.NumGoroutine")=false/\fn.body.isNone=false) {l r:A0} {n base:Int} (h:appUM l n base=some r) :
  GFn P f [.u (.one (.own inBase)),.u (.one (.d (.int .u64 n))),.u (.one (.d (.int .i64 base)))] [.row 1 e (l.map (rI .u8))] (.u (.one (.own (inBase+1)))) [none,some (.row 1 e (r.map (rI .u8)))]:=by
 subst hf he;obtain⟨rfl,h0,h1,h2,rfl⟩:=appUM_some h;obtain⟨u,rfl⟩:∃u:Nat,n=u:=⟨n.toNat,by omega⟩
 have hu:u<18446744073709551616:=by omega
 refine⟨hfn,by simp,rfl,λj o ho=>?_,λE w F hF hin vals hl hv=>?_⟩;{match j,ho with|0,ho=>(cases ho)|1,ho=>(cases ho;rfl)|j+2,ho=>cases ho}
 match vals,hl with
 |[a,b,c],_=>
  have ha:=hv 0 _ _ rfl rfl;have hb:=hv 1 _ _ rfl rfl;have hc:=hv 2 _ _ rfl rfl;simp only[bI,ct,bG,rep] at ha hb hc;obtain⟨rfl,ha1⟩:=ha;subst hb hc;have hrow:=osim_row (hin.objs 0 _ rfl);rw[show hdv (E inBase)=E (inBase+0)from by rcases hrow with⟨_,_,a,h⟩|⟨b,cap,cur,_,h,_⟩<;>(rw[show E inBase=E (inBase+0)from rfl,h];rfl)];refine(appU_calls L TE hs1 hb1 hg hu hF.gw hrow (by omega)).mono λe w' ⟨v',he,g,hr⟩=>⟨v',upd E (inBase+1) v',he,⟨g.os,g.tape,g.output,g.drawn,g.size,λb hb hni=>g.block b hb λhh=>hni ⟨0,_,rfl,hh⟩⟩,λi hi=>?_,λj o ho=>?_,λj o b ho hb=>?_,λi j o o' b ho ho' _ _=>?_,?_⟩
  ·obtain rfl:i=0:=by simp at hi;omega
   rw[bz _ _ (by omega)];exact .refl _
  ·match j,ho with|0,ho=>(cases ho)|1,ho=>grind[row_osim,upd_same]|j+2,ho=>cases ho
  ·match j,ho with|0,ho=>(cases ho)|1,ho=>rw[upd_same] at hb;exact⟨(g.own b hb).1.imp id λhh=>⟨0,_,rfl,hh⟩,(g.own b hb).2⟩|j+2,ho=>cases ho
  ·grind
  ·rcases hr with⟨_,_,a,rfl⟩|⟨b,cap,cur,_,rfl,_⟩<;>exact⟨(by rw[upd_same];rfl),rfl⟩
end
