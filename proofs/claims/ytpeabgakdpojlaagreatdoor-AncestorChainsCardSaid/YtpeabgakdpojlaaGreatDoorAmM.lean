/- Lemmas for the law. -/
import Derived.Test.YtpeabgakdpojlaaGreatDoorAmL
namespace Go.AM
open Go.RowKit
def C.dat:C->Option L|.d x=>some x|.top=>none|.ref xs off=>some (.ref xs off)|.box _ _=>some .any|.own _=>some .any|.elt _ _ _ _=>some .any|.map _=>some .any|.nilmap=>some .any|.iter _=>some .any|.fn _ _=>some .any|.sub _ _ _ _=>some .any|.opq _=>some .any
def cdats:As->Option Ak
 |[]=>some []|c::cs=>match c.dat,cdats cs with
  |some x,some xs=>some (x::xs)|_,_=>none
def C.brw (O:Sto):Nat->C->C
 |0,c=>c|n+1,c=>match c with
  |.own s=>match O s with
   |some (.row sz _ rows)=>.d (.sl sz rows)|_=>.own s
  |.box s off=>match O s with
   |some (.box cs)=>match cdats (cs.map (C.brw O n))with
    |some xs=>.ref xs off|none=>.box s off
   |_=>.box s off
  |.fn f caps=>.fn f (caps.map (C.brw O n))|.sub s sz a m=>match O s with
   |some (.row sz' _ rows)=>if sz=sz'/\m<=rows.length then .d (.sl sz (subRow rows a m))else .sub s sz a m|_=>.sub s sz a m
  |c=>c
def U.brw (O:Sto):U->U|.one c=>.one (c.brw O 4)|.agg cs=>.agg (cs.map (C.brw O 4))
def V.brw (O:Sto):V->V|.u x=>.u (x.brw O)|.tup us=>.tup (us.map (U.brw O))
def C.flat:C->Bool|.top=>true|.d (.int _ _)|.d (.bool _)|.d (.str _)|.d .nil|.d .emp|.d (.er _)=>true|_=>false
def U.flat:U->Bool|.one c=>c.flat|.agg cs=>cs.all C.flat
def V.flat:V->Bool|.u x=>x.flat|.tup us=>us.all U.flat
section
variable {E E':A7} {w w':World} {F F':Ad} {cx:Cx} {O:Sto}
theorem csims_map {g:C->C} (h:∀c v,bG E w F c v->bG E w F' (g c) v):∀{cs:As} {vs:A9},bB E w F cs vs->bB E w F' (cs.map g) vs|[],_,hs=>hs|c::cs,vs,hs=>by simp only[bB] at hs;obtain⟨v,r,rfl,hc,hs⟩:=hs;simp only[List.map_cons,bB];exact⟨v,r,rfl,h c v hc,csims_map h hs⟩
theorem qm:∀{xs:Ak} {b o:Nat},Mem E w F (xs.map C.d) b o->dM w F xs b o|[],_,_,_=>by simp[dM]|x::xs,b,o,⟨us,hc,hm⟩=>by simp only[List.map_cons,bB] at hc;obtain⟨v,r,rfl,hx,hc⟩:=hc;simp only[dM];refine⟨⟨v,by simpa using (hm 0 v rfl).1,by simpa [bG] using hx⟩,qm ⟨r,hc,λj u hj=>?_⟩⟩;have:=hm (j+1) u (by simpa using hj);grind
theorem pG {sz:Nat}:∀{rs:A8} {b o:Nat},(∀r∈rs,r.length=sz)->Mem E w F (rs.flatten.map C.d) b o->cJ w F sz rs b o|[],_,_,_,_=>by simp[cJ]|r::rs,b,o,hl,hm=>by have hr:=hl r (by simp);simp only[cJ];refine⟨⟨hr,qm (E:=E) ?_⟩,pG (λr hr=>hl r (List.mem_cons_of_mem _ hr)) ?_⟩;{have:=hm.sub 0 sz;simp_all};{have:=hm.sub sz (rs.flatten.map C.d).length;grind}
theorem csims_dat:∀{cs:As} {vs:A9} {xs:Ak},cdats cs=some xs->bB E w F cs vs->bB E w F (xs.map C.d) vs
 |[],vs,xs,h,hc=>by
  cases h;exact hc
 |c::cs,vs,xs,h,hc=>by simp only[bB] at hc;obtain⟨v,r,rfl,h1,h2⟩:=hc;unfold cdats at h;split at h;{rename_i x ys hx hy;cases h;simp only[List.map_cons,bB];refine⟨v,r,rfl,?_,csims_dat hy h2⟩;cases c with|d y=>(cases hx;exact h1)|top=>(cases hx)|ref ys off=>(cases hx;simpa only [bG,rep] using h1)|_=>cases hx;simp only[bG,rep];exact nQ (by simp) h1};{cases h}
def brF (cx:Cx) (E:A7) (O:Sto) (b:Nat):Prop:=cx.fr E O b\/owned E O b
theorem nM:Keep (cx.fr E O) (brF cx E O) w w:=⟨Nat.le_refl _,λ_ _ _=>rfl,λ_ h _=>.inl h⟩
theorem csim_brw (hco:Core cx E O w):∀(n:Nat) (c:C) (v:Value),bG E w (cx.fr E O) c v->bG E w (brF cx E O) (c.brw O n) v
 |0,c,v,h=>eB nM _ _ h|n+1,c,v,h=>by
  cases c with
  |own s=>simp only[C.brw];split;{rename_i sz e rows hs;simp only[bG] at h⊢;obtain⟨rfl,_⟩:=h;obtain⟨hl,hr⟩:=hco.objs s _ hs;simp only[rep];rcases hr with⟨rfl,a,ha⟩|⟨b,cap,cur,h0,hp,hle,hm,hh,hsz,hc⟩;{exact⟨a,0,0,(by rw[ha];rfl),rfl,Nat.le_refl _,Nat.zero_le _,.inl rfl⟩};{refine⟨_,_,cap,(by rw[hp];rfl),rfl,hle,hm,.inr ⟨b,0,rfl,.inr ⟨s,_,hs,by rw[hp];simp only[hbl_slice];grind⟩,(Array.getElem?_eq_some_iff.1 hh).1,?_⟩⟩;have hc':=cF (nM (cx:=cx) (E:=E) (O:=O) (w:=w)) _ _ hc;exact pG hl (ib hh hc' (jm hc'))}};{exact eB nM _ _ h}|box s off=>simp only[C.brw];split;{rename_i cs hs;split;{rename_i xs hx;obtain⟨b,arr,t,hp,hh,hc,h1⟩:=hco.objs s _ hs;simp only[bG,hp] at h⊢;obtain⟨b',hb',rfl⟩:=h;simp only[Value.pointer.injEq,Option.some.injEq,Addr.mk.injEq] at hb';obtain⟨rfl,_,_⟩:=hb';have hc':=csims_map (csim_brw hco n) hc;replace hc':=csims_dat hx hc';refine⟨b,0,by simp,.inr ⟨s,_,hs,by rw[hp];simp⟩,(Array.getElem?_eq_some_iff.1 hh).1,?_⟩;exact qm (ib (n:=arr.toList.length) hh (by rw[List.take_length];exact hc') (by grind))};{exact eB nM _ _ h}};{exact eB nM _ _ h}|fn f caps=>
   simp only[C.brw];simp only[bG] at h⊢;obtain⟨arr,rfl,hc⟩:=h;exact⟨arr,rfl,csims_map (csim_brw hco n) hc⟩
  |sub s sz a m=>
   simp only[C.brw];split
   ·rename_i sz' e rows hs;split
    ·rename_i hz;obtain⟨rfl,hm⟩:=hz;simp only[bG] at h⊢;obtain⟨ao,len,cap,hp',ha,hln,rfl⟩:=h;obtain⟨hl,hr⟩:=hco.objs s _ hs;unfold subRow;have hlen:((rows.take m).drop a).length=m-a:=by simp;omega
     simp only[rep];rcases hr with⟨rfl,a0,ha0⟩|⟨b,cap',cur,h0,hp,hle,hmx,hh,hsz,hc⟩;{rw[ha0,hdv_slice] at hp';cases hp';exact⟨_,_,_,rfl,hlen.symm,by omega,by omega,.inl (by simp)⟩};{rw[hp,hdv_slice] at hp';simp only[Value.slice.injEq] at hp';obtain⟨rfl,rfl,rfl⟩:=hp';refine⟨_,_,_,rfl,hlen.symm,by omega,by omega,?_⟩;by_cases hz:m<=a;{exact .inl (List.eq_nil_of_length_eq_zero (by omega))};{have hc':=cF (nM (cx:=cx) (E:=E) (O:=O) (w:=w)) _ _ hc;have hrr:cJ w (brF cx E O) sz rows b 0:=pG hl (ib hh hc' (jm hc'));refine .inr ⟨b,a*sz,by unfold subA;rw[if_neg (by omega)];simp[addr_add],.inr ⟨s,_,hs,by rw[hp];simp only[hbl_slice];exact⟨by omega,trivial⟩⟩,(Array.getElem?_eq_some_iff.1 hh).1,?_⟩;have h9:=qb (rs:=rows.take m) a (pM m hrr);simpa using h9}}
    ·exact eB nM _ _ h
   ·exact eB nM _ _ h
  |_=>exact eB nM _ _ h
theorem usim_brw (hco:Core cx E O w) (x:U) (v:Value) (h:ct E w (cx.fr E O) x v):ct E w (brF cx E O) (x.brw O) v:=by
 cases x with
 |one c=>exact csim_brw hco 4 c v h|agg cs=>obtain⟨arr,rfl,hc⟩:=h;exact⟨arr,rfl,csims_map (csim_brw hco 4) hc⟩
theorem usims_brw (hco:Core cx E O w):∀(us:List U) (vs:A9),iN E w (cx.fr E O) us vs->iN E w (brF cx E O) (us.map (U.brw O)) vs|[],_,h=>h|x::us,vs,h=>by obtain⟨v,r,rfl,hx,h⟩:=h;exact⟨v,r,rfl,usim_brw hco x v hx,usims_brw hco us r h⟩
theorem vsim_brw (hco:Core cx E O w) (x:V) (v:Value) (h:bI E w (cx.fr E O) x v):bI E w (brF cx E O) (x.brw O) v:=by
 cases x with
 |u x=>exact usim_brw hco x v h|tup us=>obtain⟨arr,rfl,hc⟩:=h;exact⟨arr,rfl,usims_brw hco us _ hc⟩
theorem csim_flat {c:C} {v:Value} (hf:c.flat=true) (h:bG E w F c v):bG E' w' F' c v:=by
 cases c with
 |top=>simp[bG]|d x=>(cases x<;>first|exact h|(rename_i b;cases b<;>exact h)|(simp[C.flat] at hf))|_=>simp[C.flat] at hf
theorem csims_flat:∀{cs:As} {vs:A9},cs.all C.flat=true->bB E w F cs vs->bB E' w' F' cs vs|[],_,_,h=>h|c::cs,vs,hf,h=>by simp only[List.all_cons,Bool.and_eq_true] at hf;simp only[bB] at h⊢;obtain⟨v,r,rfl,hc,h⟩:=h;exact⟨v,r,rfl,csim_flat hf.1 hc,csims_flat hf.2 h⟩
theorem usim_flat {x:U} {v:Value} (hf:x.flat=true) (h:ct E w F x v):ct E' w' F' x v:=by
 cases x with
 |one c=>exact csim_flat hf h|agg cs=>obtain⟨arr,rfl,hc⟩:=h;exact⟨arr,rfl,csims_flat hf hc⟩
theorem usims_flat:∀{us:List U} {vs:A9},us.all U.flat=true->iN E w F us vs->iN E' w' F' us vs|[],_,_,h=>h|x::us,vs,hf,h=>by simp only[List.all_cons,Bool.and_eq_true] at hf;obtain⟨v,r,rfl,hx,h⟩:=h;exact⟨v,r,rfl,usim_flat hf.1 hx,usims_flat hf.2 h⟩
theorem vsim_flat {x:V} {v:Value} (hf:x.flat=true) (h:bI E w F x v):bI E' w' F' x v:=by
 cases x with
 |u x=>exact usim_flat hf h|tup us=>obtain⟨arr,rfl,hc⟩:=h;exact⟨arr,rfl,usims_flat hf hc⟩
end
def QCall (P:Program) (O:Sto) (f:FuncId) (args:Ao) (v:V):Prop:=bA P f args v\/(bA P f (args.map (V.brw O)) v/\v.flat=true)
theorem QCall.run {P:Program} {cx:Cx} {O:Sto} {E:A7} {w:World} {f:FuncId} {args:Ao} {v:V} (h:QCall P O f args v) (hco:Core cx E O w) {vals:A9} (hl:vals.length=args.length) (hv:∀(i:Nat) (x:V) (u:Value),args[i]?=some x->vals[i]?=some u->bI E w (cx.fr E O) x u) :
  Calls P f vals.toArray w λe w'=>∃u,e=.returned u/\Blw w.heap.size w w'/\bI E w' (cx.fr E O) v u:=by
 rcases h with h|⟨h,hf⟩;{exact h.2 E w _ hco.frm vals hl hv}
 ·refine(h.2 E w (brF cx E O) ⟨λb hb=>.inl (hco.new b hb),hco.gw.mono λb hb=>.inl hb⟩ vals (by simpa using hl) λi x u hx hu=>?_).mono λ_ _ ⟨u,he,hb,hs⟩=>⟨u,he,hb,vsim_flat hf hs⟩
  grind[vsim_brw]
theorem QCall.fn {P:Program} {O:Sto} {f:FuncId} {args:Ao} {v:V} (h:QCall P O f args v):∃fn,P.funcs[f]?=some fn/\(fn.name == "runtime.NumGoroutine")=false/\fn.body.isNone=false:=by rcases h with h|h;{exact h.1};{exact h.1.1}
def qcall (P:Program) (O:Sto) (f:FuncId) (args:Ao) (k:Az):Prop:=∃v,QCall P O f args v/\k v
def qstep (P:Program) (tb:Tb) (o:Oper) (Z:Env) (O:Sto) (k:Az):Prop :=match ep o.op with
 |some c=>match eE Z c with
  |some (f,args)=>match tb.call f args with
   |some v=>k v|none=>qcall P O f args k
  |none=>False
 |none=>match qev tb Z O o.op with
  |some v=>k v|none=>False
def qops (P:Program) (tb:Tb) (all:A6) (O:Sto):A6->Env->Aq->Prop|[],Z,K=>K Z|o::l,Z,K=>lf all o.guard Z (λZ=>qstep P tb o Z O λv=>qops P tb all O l (cK Z o.dst v) K) (λZ=>qops P tb all O l (cK Z o.dst (.tup [])) K)
def gst (all:A6) (g:Aw) (Z:Env):Option Bool:=match g with
 |none=>some true|some (j,want)=>match gslot all j with
  |some s=>match Z s with
   |.u (.one (.d (.bool b)))=>some (b==want)|.tup []=>some false|_=>none
  |none=>none
def tN (P:Program) (tb:Tb) (O:Sto) (o:Oper) (Z:Env) (v:V):Prop:=match ep o.op with|some c=>∃f args,eE Z c=some (f,args)/\QCall P O f args v|none=>qev tb Z O o.op=some v
def YA (P:Program) (tb:Tb) (ops:Array Oper) (O:Sto) (o:Oper) (Z:Env) (v:V):Prop :=(gst ops.toList o.guard Z=some true/\tN P tb O o Z v)\/(gst ops.toList o.guard Z=some false/\v=.tup [])
def QOpE (Y:Au) (ops:Array Oper) (i:Nat) (K:Aq) (Z:Env):Prop:=match ops[i]? with|none=>K Z|some o=>∃v,Y i o Z v/\K (cK Z o.dst v)
def pX (Y:Au):Nat->A6->Env->Aq->Prop|_,[],Z,K=>K Z|k,o::l,Z,K=>∃v,Y k o Z v/\pX Y (k+1) l (cK Z o.dst v) K
def Looks (Y:Au) (ops:Array Oper):Prop:=∀(i:Nat) (o:Oper) (Z:Env) (x:Ac) (v u:V),(∀d,x=some d->d ∉ o.looksAt ops)->(Y i o (cK Z x v) u↔Y i o Z u)
def wpE (Y:Au) (ops:Array Oper) (nT:Nat) (T:Nat->Env->Prop) (Kd:Aq):Nat->Array Bool->Env->Prop|0,listed,Z=>Region.ready .any ops listed=[]/\Kd Z|f+1,listed,Z=>(Region.ready .any ops listed=[]->Kd Z)/\∀i∈Region.ready .any ops listed,if i<nT then QOpE Y ops i (wpE Y ops nT T Kd f (listed.setIfInBounds i true)) Z else T f Z
section
variable {P:Program} {tb:Tb} {cx:Cx} {Z Z':Env} {O:Sto} {o:Oper} {ops:Array Oper} {K:Aq}
theorem nS (ht:TbOk P tb) {k:Az} (h:qstep P tb o Z O k):∃v,tN P tb O o Z v/\k v:=by unfold qstep at h;unfold tN;split at h;{rename_i c hc;split at h;{rename_i f args ha;split at h;{rename_i v hv;exact⟨v,⟨f,args,ha,.inl (ht.call f args v hv)⟩,h⟩};{obtain⟨v,hv,hk⟩:=h;grind}};{exact h.elim}};grind
theorem YA_of_cons (ht:TbOk P tb) {l:A6} (h:qops P tb ops.toList O (o::l) Z K):∃v,YA P tb ops O o Z v/\qops P tb ops.toList O l (cK Z o.dst v) K:=by
 simp only[qops] at h;unfold lf at h;unfold YA gst;split at h;{simp_all[nS]}
 ·rename_i j want hg;rw[hg];split at h
  ·rename_i s hs;split at h
   ·rename_i b hb;simp only[hs,hb];by_cases hbw:b=want;{grind[ly,nS]}
    ·have hbn:b=!want:=by cases b<;>cases want<;>simp_all
     have h1:=h.2 hbn;rw[<- hbn,<- hb,ly] at h1;simp_all
   ·simp_all
   ·exact h.elim
  ·exact h.elim
theorem nP {c:Call} (h:∀x∈c.operands,oev Z x=oev Z' x):eE Z c=eE Z' c:=by unfold eE;split;{rename_i x hx;rw[h x (by simp[Call.operands,hx])];have:c.args.toList.map (oev Z)=c.args.toList.map (oev Z'):=List.map_congr_left λy hy=>h y (by simp only[Call.operands];simp_all);rw[this]};{rfl}
theorem qev_congr {op:Op} (h:∀x∈op.operands,oev Z x=oev Z' x):qev tb Z O op=qev tb Z' O op:=by
 have parts:∀ps:Array (Nat×Operand),(∀x∈(ps.toList.map (·.2)).toArray,oev Z x=oev Z' x)->(ps.toList.map λp=>(p.1,oev Z p.2))=(ps.toList.map λp=>(p.1,oev Z' p.2)):=λps hp=>
  List.map_congr_left λp hm=>by grind
 cases op<;>simp only[Op.operands] at h<;>simp only[qev]
 case build t ps=>rw[parts ps h]
 case buildSlice t n ps=>rw[parts ps h]
 case makeFunc fn first caps=>
  cases fn<;>try rfl
  grind[List.map_congr_left]
 case call c=>
  obtain⟨callee,args,ts⟩:=c;obtain⟨args⟩:=args;simp only[Call.operands] at h;grind[List.map_congr_left]
 case slice t x lo hi mx=>cases lo<;>cases hi<;>cases mx<;>simp_all
 all_goals (first|rfl|(simp_all;done))
theorem rc {d:Ac} {v:V} {t:Nat} (h:d≠some t):cK Z d v t=Z t:=by
 cases d with
 |none=>rfl|some d=>exact bz _ _ (λe=>h (by rw[e]))
theorem putE_comm {x y:Ac} {u v:V} (h:∀d,x=some d->y≠some d):cK (cK Z x u) y v=cK (cK Z y v) x u:=by
 cases x with
 |none=>rfl|some d=>
  cases y with
  |none=>rfl|some e=>have hne:d≠e:=λhe=>h d rfl (by rw[he]);funext t;simp only[cK,upd];grind
theorem oev_put {d:Ac} {v:V} {x:Operand} (h:∀t,x=.tmp t->d≠some t):oev (cK Z d v) x=oev Z x:=by
 cases x with
 |tmp t=>exact rc (h t rfl)|_=>rfl
theorem YA_put {x:Ac} {v u:V} (h:∀d,x=some d->d ∉ o.looksAt ops):YA P tb ops O o (cK Z x v) u↔YA P tb ops O o Z u:=by
 have hop:∀y∈o.op.operands,oev (cK Z x v) y=oev Z y:=λy hy=>oev_put λt ht hx=>h t hx (by subst ht;exact List.mem_append_left _ (List.mem_filterMap.2 ⟨.tmp t,by simpa using hy,rfl⟩));have hg:gst ops.toList o.guard (cK Z x v)=gst ops.toList o.guard Z:=by unfold gst;split;{rfl};{rename_i j want hgd;split;{rename_i s hs;rw[rc λhx=>h s hx ?_];exact List.mem_append_right _ (by simp_all[gslot])};{rfl}}
 have hq:tN P tb O o (cK Z x v) u↔tN P tb O o Z u:=by unfold tN;split;{rename_i c hc;rw[nP λy hy=>hop y (by rw[(lX hc).1];exact hy)]};{rw[qev_congr hop]}
 unfold YA;rw[hg,hq]
section
variable {Y:Au}
theorem QOpE_mono {i:Nat} {K K':Aq} (h:∀Z,K Z->K' Z) (hh:QOpE Y ops i K Z):QOpE Y ops i K' Z:=by grind[QOpE]
theorem QOpE_put (hL:Looks Y ops) {i j:Nat} {oi oj:Oper} {v:V} (hj:ops[j]?=some oj) (hap:oi.apart ops oj=true) {K:Aq} (hy:Y i oi Z v) (h:QOpE Y ops j K (cK Z oi.dst v)) :
  QOpE Y ops j (λZ'=>Y i oi Z' v/\K (cK Z' oi.dst v)) Z:=by obtain⟨h1,h2,h3⟩:=Oper.apart_spec hap;unfold QOpE at *;simp only[hj] at *;obtain⟨u,hu,hk⟩:=h;exact⟨u,(hL j oj Z _ _ _ h1).1 hu,(hL i oi Z _ _ _ h3).2 hy,by grind[putE_comm]⟩
def Closed (ops:Array Oper) (listed:Array Bool):Prop:=∀(j:Nat) (o:Oper),ops[j]?=some o->listed.getD j false=true->∀e∈o.after,Region.binds .any e=true->listed.getD e.on false=true
theorem gZ {listed:Array Bool} {i:Nat} (h:Closed ops listed) (hr:i∈Region.ready .any ops listed):Closed ops (listed.setIfInBounds i true):=by intro j o ho hl e he hb;by_cases hij:i=j;{subst hij;obtain⟨_,o',ho',hall⟩:=mem_ready.1 hr;rw[ho] at ho';cases ho';exact getD_set_true (hall e he hb)};{rw[getD_set_ne false hij] at hl;exact getD_set_true (h j o ho hl e he hb)}
theorem wpE_first (hL:Looks Y ops) {nT:Nat} {T:Nat->Env->Prop} {Kd:Aq} {i:Nat} {oi:Oper} {v:V} (hi:ops[i]?=some oi) (_hin:i<nT) (htail:∀listed,Closed ops listed->i∈Region.ready .any ops listed->∀j∈Region.ready .any ops listed,j<nT) :∀(fuel:Nat) (listed:Array Bool) (Z:Env),Closed ops listed -> (∀j oj,ops[j]?=some oj->j≠i->listed.getD j true=false->(∀e∈oj.after,Region.binds .any e=true->e.on≠i)->oi.apart ops oj=true) ->
   i∈Region.ready .any ops listed->Y i oi Z v->wpE Y ops nT T Kd fuel (listed.setIfInBounds i true) (cK Z oi.dst v)->wpE Y ops nT T Kd (fuel+1) listed Z:=by
 have fin:∀{K:Aq} {Z:Env},Y i oi Z v->K (cK Z oi.dst v)->QOpE Y ops i K Z:=λhy hk=>by grind[QOpE]
 intro fuel;induction fuel with
 |zero=>
  intro listed Z hcl _ hr hy H;refine⟨λh=>(by simp_all),λj hj=>?_⟩;rw[if_pos (htail listed hcl hr j hj)];by_cases hji:j=i;{simp_all};{have:=ready_mono hj hji;rw[H.1] at this;cases this}
 |succ fuel ih=>
  intro listed Z hcl hfree hr hy H;refine⟨λh=>(by simp_all),λj hj=>?_⟩;have hjn:=htail listed hcl hr j hj;rw[if_pos hjn];by_cases hji:j=i;{simp_all}
  ·have h1:=H.2 j (ready_mono hj hji);rw[if_pos hjn] at h1;obtain⟨hjun,oj,hoj,hall⟩:=mem_ready.1 hj;have hnot:∀e∈oj.after,Region.binds .any e=true->e.on≠i:=λe he hb heq=>by have h1:=hall e he hb;have h0:=(mem_ready.1 hr).1;grind
   have h2:=QOpE_put hL hoj (hfree j oj hoj hji hjun hnot) hy h1;have hfree':∀k ok,ops[k]?=some ok->k≠i->(listed.setIfInBounds j true).getD k true=false -> (∀e∈ok.after,Region.binds .any e=true->e.on≠i)->oi.apart ops ok=true:=λk ok hk hki hun hno=>by refine hfree k ok hk hki ?_ hno;by_cases hjk:j=k;{grind};simp_all
   refine QOpE_mono (λZ' h3=>ih (listed.setIfInBounds j true) Z' (gZ hcl hj) hfree' (ready_mono hr (Ne.symm hji)) h3.1 ?_) h2;grind[Array.setIfInBounds_comm]
theorem wpE_lex (hL:Looks Y ops) {nT:Nat} {T:Nat->Env->Prop} {Kd:Aq} {m:Nat} (htail:∀i,i<nT->∀listed,Closed ops listed->i∈Region.ready .any ops listed->∀j∈Region.ready .any ops listed,j<nT) (hend:∀(listed:Array Bool) (Z:Env),(∀i,i<nT->i<ops.size->listed.getD i true=true)->Region.lexFrom .any ops m nT listed=true->K Z->wpE Y ops nT T Kd m listed Z) :∀(l:A6) (k:Nat) (listed:Array Bool) (Z:Env),listed.size=ops.size->Closed ops listed->(∀i,i<k->i<ops.size->listed.getD i true=true)->k+l.length=nT->(∀j,j<l.length->l[j]?=ops[k+j]?) ->
   Region.lexFrom .any ops (l.length+m) k listed=true->pX Y k l Z K->wpE Y ops nT T Kd (l.length+m) listed Z
 |[],k,listed,Z,_,_,hd,hk,_,hB,h=>by simp only[List.length_nil,Nat.zero_add,Nat.add_zero] at hB hk⊢;subst hk;exact hend listed Z hd hB h|o::l,k,listed,Z,hsz,hcl,hd,hk,hl,hB,h=>by
  have h0:ops[k]?=some o:=by simpa using (hl 0 (by simp)).symm
  have hks:k<ops.size:=(Array.getElem?_eq_some_iff.1 h0).1;simp only[List.length_cons] at hk hB⊢;rw[show l.length+1+m=(l.length+m)+1 from by omega] at hB⊢;simp only[Region.lexFrom,Bool.and_eq_true] at hB;obtain⟨⟨hr,hf⟩,hB'⟩:=hB;have hr':k∈Region.ready .any ops listed:=by simpa using hr
  obtain⟨v,hy,hK⟩:=h;refine wpE_first hL h0 (by omega) (htail k (by omega)) (l.length+m) listed Z hcl (Region.free_spec h0 hf) hr' hy (wpE_lex hL htail hend l (k+1) _ _ (by simpa using hsz) (gZ hcl hr') (λi hi his=>?_) (by omega) (λj hj=>by have:=hl (j+1) (by simp;omega);grind) hB' hK);by_cases hik:k=i;{simp_all};{rw[getD_set_ne true hik];grind}
end
def YO (P:Program) (tb:Tb) (ops:Array Oper) (O:Sto):Au:=λ_=>YA P tb ops O
theorem looks_YO:Looks (YO P tb ops O) ops:=λ_ _ _ _ _ _ h=>YA_put h
theorem tR (ht:TbOk P tb):∀(l:A6) (k:Nat) (Z:Env),qops P tb ops.toList O l Z K->pX (YO P tb ops O) k l Z K|[],_,_,h=>by simpa [qops,pX] using h|o::l,k,Z,h=>let ⟨v,hy,hk⟩:=YA_of_cons ht h;⟨v,hy,tR ht l (k+1) _ hk⟩
theorem mq {E:A7} {a:Act} {w:World} (hs:∀t,bI E w (cx.fr E O) (Z t) (a.tmps.getD t undef)) {b:Bool} (h:gst ops.toList o.guard Z=some b):Region.wanted o (yielded ops a.tmps)=b:=by have:=qa (cx:=cx) (o:=o) (O:=O) (ops:=ops) hs (run:=λ_=>b=true) (skip:=λ_=>b=false) (by unfold gst at h;grind[lf]);grind
theorem quiet_of_qval (ht:TbOk P tb) {v:V} (h:tN P tb O o Z v):Quiet P cx o Z O (·=v):=by unfold tN at h;split at h;{rename_i c hc;obtain⟨f,args,ha,hq⟩:=h;intro E a w hco hop;obtain⟨vals,hrun,hl,hv⟩:=call_run (lX hc).1 ha hop hq.fn;rw[hrun];refine⟨Blw.refl _ _,(hq.run hco hl hv).mono λe w' he=>?_⟩;simp_all};{exact qev_sound ht h}
theorem pS (ht:TbOk P tb) (hd:kl cx.n ops.toList=true) {nT:Nat} {T:Nat->Env->Prop} {Kd:Aq} {Q:Exit->Act->World->Prop} (hQ:∀E Z a w,Sim cx E Z O a w->Kd Z->Q .normal a w) (hT:∀fuel listed E Z a w i,Closed ops listed->(∀j,nT<=j->j<ops.size->listed.getD j true=false)->i∈Region.ready .any ops listed->¬ i<nT->Sim cx E Z O a w->T fuel Z->wpOp P ops Q i (wpAny P .any ops Q fuel (listed.setIfInBounds i true)) a w) :∀(fuel:Nat) (listed:Array Bool) (E:A7) (Z:Env) (a:Act) (w:World),Closed ops listed->(∀j,nT<=j->j<ops.size->listed.getD j true=false)->Sim cx E Z O a w->wpE (YO P tb ops O) ops nT T Kd fuel listed Z->wpAny P .any ops Q fuel listed a w
 |0,listed,E,Z,a,w,_,_,hs,h=>⟨h.1,hQ E Z a w hs h.2⟩|fuel+1,listed,E,Z,a,w,hcl,hU,hs,h=>by
  refine⟨λh0=>hQ E Z a w hs (h.1 h0),λi hi=>?_⟩;have h1:=h.2 i hi;split at h1
  ·rename_i hin;obtain⟨_,o,ho,_⟩:=mem_ready.1 hi;have hdo:=nu hd (show ops.toList[i]?=some o by simpa using ho);have hU':∀j,nT<=j->j<ops.size->(listed.setIfInBounds i true).getD j true=false:=λj h1 h2=>by rw[getD_set_ne true (by omega)];exact hU j h1 h2
   unfold QOpE at h1;unfold wpOp;simp only[ho] at h1⊢;obtain⟨v,hy,hk⟩:=h1;rcases hy with⟨hg,hv⟩|⟨hg,rfl⟩;{rw[if_pos (mq hs.slots hg)];refine .inl (Step.of_quiet (K:=λZ' O'=>Z'=cK Z o.dst v/\O'=O) (quiet_of_qval ht hv) (λx hx=>(hdo x hx).1) (λv' hv'=>by simp_all) E a w hs _ _ λE' Z' O' a' w' hs' hk'=>?_);rw[hk'.1,hk'.2] at hs';exact pS ht hd hQ hT fuel _ E' _ a' w' (gZ hcl hi) hU' hs' hk};{rw[if_neg (by rw[mq hs.slots hg];simp)];exact pS ht hd hQ hT fuel _ E _ _ w (gZ hcl hi) hU' (hs.put (λx hx=>(hdo x hx).1) oh) hk}
  grind
def ku (ops:Array Oper) (i:Nat):A5:=match ops[i]? with|some o=>o.after.toList.filterMap λe=>if Region.binds .any e then some e.on else none|none=>[]
def clos (ops:Array Oper):Nat->A5->A5|0,S=>S|k+1,S=>clos ops k (S++S.flatMap (ku ops)).eraseDups
def chainB (ops:Array Oper) (nT:Nat):Bool:=(List.range ops.size).all λi=>decide (i<nT)||((List.range i).all λj=>(clos ops ops.size (ku ops i)).contains j)&&(ku ops i).all λj=>decide (j<i)
theorem s3 {listed:Array Bool} (h:Closed ops listed):∀(k:Nat) (S:A5),(∀i∈S,listed.getD i false=true)->∀i∈clos ops k S,listed.getD i false=true|0,S,hS,i,hi=>hS i hi|k+1,S,hS,i,hi=>by refine s3 h k _ (λj hj=>?_) i hi;rw[List.mem_eraseDups] at hj;rcases List.mem_append.1 hj with hj|hj;{exact hS j hj};{obtain⟨x,hx,hj⟩:=List.mem_flatMap.1 hj;unfold ku at hj;split at hj;{rename_i o ho;obtain⟨e,he,hej⟩:=List.mem_filterMap.1 hj;split at hej;{rename_i hb;cases hej;exact h x o ho (hS x hx) e (by simpa using he) hb};{cases hej}};{cases hj}}
theorem mt {nT:Nat} (hB:chainB ops nT=true) {listed:Array Bool} (hcl:Closed ops listed) {i:Nat} (hi:¬ i<nT) (hr:i∈Region.ready .any ops listed):∀j,j<i->listed.getD j false=true:=by intro j hj;obtain⟨_,o,ho,hall⟩:=mem_ready.1 hr;have hs:i<ops.size:=(Array.getElem?_eq_some_iff.1 ho).1;have:=List.all_eq_true.1 hB i (List.mem_range.2 hs);simp only[Bool.or_eq_true,Bool.and_eq_true,decide_eq_true_eq] at this;have:=List.all_eq_true.1 (this.resolve_left hi).1 j (List.mem_range.2 hj);grind[s3,ku]
theorem chain_ready {nT:Nat} (hB:chainB ops nT=true) {listed:Array Bool} {i:Nat} (hi:¬ i<nT) {o:Oper} (ho:ops[i]?=some o) (hu:listed.getD i true=false) (hL:∀j,j<i->listed.getD j false=true):i∈Region.ready .any ops listed:=by have hs:i<ops.size:=(Array.getElem?_eq_some_iff.1 ho).1;have:=List.all_eq_true.1 hB i (List.mem_range.2 hs);simp only[Bool.or_eq_true,Bool.and_eq_true,decide_eq_true_eq] at this;have hp:=(this.resolve_left hi).2;refine mem_ready.2 ⟨hu,o,ho,λe he hb=>hL _ ?_⟩;have:=List.all_eq_true.1 hp e.on (by grind[ku]);simpa using this
theorem getD_both {listed:Array Bool} {i:Nat} (h:listed.getD i false=true):listed.getD i true=true:=by grind
theorem mc:Closed ops (Array.replicate ops.size false):=by intro j o ho hl;have hj:j<ops.size:=(Array.getElem?_eq_some_iff.1 ho).1;simp[hj] at hl
theorem draw_quiet (ht:TbOk P tb) (hd:kl cx.n ops.toList=true) (hm:P.follows .mixedOrders=true) (hB:Region.lexB .any ops=true) {id:Nat} {Kd:Aq} {Q:Exit->Act->World->Prop} (hQ:∀E Z a w,Sim cx E Z O a w->Kd Z->Q .normal a w) {E:A7} {a:Act} {w:World} (hs:Sim cx E Z O a w) (h:qops P tb ops.toList O ops.toList Z Kd):(Code.region id ops true).wp P Q a w:=by
 simp only[Region.lexB,Bool.and_eq_true] at hB;have hmem:∀listed:Array Bool,∀j∈Region.ready .any ops listed,j<ops.size:=λlisted j hj=>by obtain⟨_,o,ho,_⟩:=mem_ready.1 hj;grind
 have key:=wpE_lex (looks_YO (P:=P) (tb:=tb) (O:=O)) (ops:=ops) (nT:=ops.size) (T:=λ_ _=>False) (Kd:=Kd) (K:=Kd) (m:=0) (λi _ listed _ _ j hj=>hmem listed j hj) (λlisted Z _ hl hk=>⟨by simpa [Region.lexFrom] using hl,hk⟩) ops.toList 0 (Array.replicate ops.size false) Z (by simp) mc (λi hi=>by omega) (by simp) (λj _=>by simp) (by simpa using hB.2) (tR ht _ _ _ h);refine wp_region_any hm ?_;have hsd:Sim cx E Z O a { w with drawn:=w.drawn+1 }:=hs.below ⟨⟨rfl,rfl,rfl,Nat.le_refl _,λ_ _=>rfl⟩,rt (Nat.le_succ _)⟩;have:=pS ht hd hQ (λfuel listed E Z a w i _ _ hi hin _ _=>absurd (hmem listed i hi) hin) (ops.toList.length+0) (Array.replicate ops.size false) E Z a _ mc (λj h1 h2=>by omega) hsd key;simpa using this
theorem wpAny_chain (ht:TbOk P tb) (hd:kl cx.n ops.toList=true) {nT:Nat} (hC:chainB ops nT=true) {K':A3} {Q:Exit->Act->World->Prop} (hQ:∀E Z O a w,Sim cx E Z O a w->K' Z O->Q .normal a w) :∀(l:A6) (k:Nat) (listed:Array Bool) (E:A7) (Z:Env) (O:Sto) (a:Act) (w:World),nT<=k->k+l.length=ops.size->(∀j,l[j]?=ops[k+j]?)->Closed ops listed->(∀j,j<k->listed.getD j false=true)->(∀j,k<=j->j<ops.size->listed.getD j true=false) ->
   Sim cx E Z O a w->aops P cx tb ops.toList l Z O K'->wpAny P .any ops Q l.length listed a w
 |[],k,listed,E,Z,O,a,w,_,hk,_,_,hL,_,hs,h=>by
  refine⟨?_,hQ E Z O a w hs h⟩;rw[List.eq_nil_iff_forall_not_mem];intro j hj;obtain⟨h1,o,ho,_⟩:=mem_ready.1 hj;grind
 |o::l,k,listed,E,Z,O,a,w,hnk,hk,hl,hcl,hL,hU,hs,h=>by
  simp only[List.length_cons] at hk⊢;have h0:ops[k]?=some o:=by simpa using (hl 0).symm
  have hr':k∈Region.ready .any ops listed:=chain_ready hC (by omega) h0 (hU k (Nat.le_refl _) (by omega)) hL;have hdo:=nu hd (show ops.toList[k]?=some o by simpa using h0);refine⟨λhe=>(by simp_all),λi hi=>?_⟩;obtain⟨hiun,oi,hoi,_⟩:=mem_ready.1 hi;have his:i<ops.size:=(Array.getElem?_eq_some_iff.1 hoi).1;have hik:i=k:=by rcases Nat.lt_trichotomy i k with hlt|he|hgt;{grind};{exact he};{have h1:=getD_both (mt hC hcl (by omega) hi k hgt);grind}
  subst hik;have hsz:i<listed.size:=by grind
  have hL':∀j,j<i+1->(listed.setIfInBounds i true).getD j false=true:=λj hj=>by by_cases hji:i=j;{subst hji;simp[hsz]};{rw[getD_set_ne false hji];grind}
  have hU':∀j,i+1<=j->j<ops.size->(listed.setIfInBounds i true).getD j true=false:=λj h1 h2=>by rw[getD_set_ne true (by omega)];grind
  have ih:=λE Z O a w hs h=>wpAny_chain ht hd hC hQ l (i+1) (listed.setIfInBounds i true) E Z O a w (by omega) (by omega) (λj=>by have:=hl (j+1);grind) (gZ hcl hi) hL' hU' hs h;unfold wpOp;simp only[h0];simp only[aops] at h;rcases qa hs.slots h with⟨hw,h1⟩|⟨hw,h1⟩;{rw[if_pos hw];exact .inl (p9 ht hdo h1 E a w hs _ _ λE' Z' O' a' w' hs2 hk=>ih E' Z' O' a' w' hs2 hk)};{rw[if_neg (by simp[hw])];exact ih E _ _ _ w (hs.put (λx hx=>(hdo x hx).1) oh) h1}
theorem draw_chain (ht:TbOk P tb) (hd:kl cx.n ops.toList=true) (hm:P.follows .mixedOrders=true) (hB:Region.lexB .any ops=true) {nT:Nat} (hn:nT<ops.size) (hC:chainB ops nT=true) {id:Nat} {K':A3} {Q:Exit->Act->World->Prop} (hQ:∀E Z O a w,Sim cx E Z O a w->K' Z O->Q .normal a w) {E:A7} {a:Act} {w:World} (hs:Sim cx E Z O a w) (h:qops P tb ops.toList O (ops.toList.take nT) Z λZ=>aops P cx tb ops.toList (ops.toList.drop nT) Z O K'):(Code.region id ops true).wp P Q a w:=by
 simp only[Region.lexB,Bool.and_eq_true] at hB;have htl:(ops.toList.take nT).length=nT:=by simp;omega
 have hdl:(ops.toList.drop nT).length=ops.size-nT:=by simp
 obtain⟨m,hm1⟩:∃m,ops.size-nT=m+1:=⟨ops.size-nT-1,by omega⟩
 have key:=wpE_lex (looks_YO (P:=P) (tb:=tb) (O:=O)) (ops:=ops) (nT:=nT) (T:=λf Z=>f=m/\aops P cx tb ops.toList (ops.toList.drop nT) Z O K') (Kd:=λ_=>False) (K:=λZ=>aops P cx tb ops.toList (ops.toList.drop nT) Z O K') (m:=m+1) (λi hi listed hcl hri j hj=>by
   rcases Nat.lt_or_ge j nT with h1|h1;{exact h1}
   ·have:=getD_both (mt hC hcl (by omega) hj i (by omega));rw[(mem_ready.1 hri).1] at this;cases this)
  (λlisted Z hl hlex hk=>by
   simp only[Region.lexFrom,Bool.and_eq_true] at hlex;refine⟨λh0=>?_,λi hi=>?_⟩;{simp_all}
   ·rw[if_neg];{grind}
    ·intro hlt;obtain⟨h1,o,ho,_⟩:=mem_ready.1 hi;grind)
  (ops.toList.take nT) 0 (Array.replicate ops.size false) Z (by simp) mc (λi hi=>by omega) (by omega) (λj hj=>by simp_all) (by grind) (tR ht _ _ _ h)
 refine wp_region_any hm ?_;have hsd:Sim cx E Z O a { w with drawn:=w.drawn+1 }:=hs.below ⟨⟨rfl,rfl,rfl,Nat.le_refl _,λ_ _=>rfl⟩,rt (Nat.le_succ _)⟩;have:=pS (Q:=Q) ht hd (λ_ _ _ _ _ h=>h.elim) (λfuel listed E Z a w i hcl hU hi hin hs' hT'=>by
  obtain⟨rfl,hT'⟩:=hT';obtain⟨_,o,ho,_⟩:=mem_ready.1 hi;have his:i<ops.size:=(Array.getElem?_eq_some_iff.1 ho).1;have hin':i=nT:=by rcases Nat.lt_or_ge nT i with h1|h1;{have h2:=getD_both (mt hC hcl hin hi nT h1);simp_all};{omega}
  subst hin';have hc:=wpAny_chain (Q:=Q) ht hd hC hQ (ops.toList.drop i) i listed E Z O a w (Nat.le_refl _) (by rw[hdl];omega) (λj=>by simp) hcl (mt hC hcl hin hi) hU hs' hT';rw[hdl,hm1] at hc;exact hc.2 i hi)
  ((ops.toList.take nT).length+(m+1)) (Array.replicate ops.size false) E Z a _ mc (λj h1 h2=>by simp[h2]) hsd key
 grind
end
