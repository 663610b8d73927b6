/- Lemmas for the law. -/
import Derived.Test.YtpeabgakdpojlaaGreatDoorAmx2
namespace Go.AM
open Go.RowKit
def eE (Z:Env) (c:Call):Option (FuncId×Ao):=match c.callee with
 |.value x=>match oev Z x with
  |.u (.one (.fn f caps))=>some (f,c.args.toList.map (oev Z)++caps.map λc=>.u (.one c))|_=>none
 |_=>none
def ep:Op->Option Call
 |.call c=>match c.callee with
  |.value _=>some c|_=>none
 |_=>none
def aeffP (tb:Tb) (Z:Env) (O:Sto) (o:Oper) (K:A3):Prop:=match preR tb Z O o.op o.dst with|some (p,Z',O')=>p/\K Z' O'|none=>jr tb Z O o K
def p7 (P:Program) (cx:Cx) (tb:Tb) (o:Oper) (Z:Env) (O:Sto) (K:A3):Prop :=match ep o.op with
 |some c=>match eE Z c with
  |some (f,args)=>match tb.call f args with
   |some v=>K (cK Z o.dst v) O|none=>match tb.eff f args o.dst Z O with
    |some T=>T K|none=>oU P cx f args Z O o.dst K
  |none=>False
 |none=>match qev tb Z O o.op with
  |some v=>K (cK Z o.dst v) O|none=>aeffP tb Z O o K
def gslot (all:A6) (j:Nat):Ac:=(all[j]?).bind (·.dst)
def lf (all:A6) (g:Aw) (Z:Env) (run skip:Aq):Prop :=match g with
 |none=>run Z|some (j,want)=>match gslot all j with
  |some s=>match Z s with
   |.u (.one (.d (.bool b)))=>(b=want->run (upd Z s (.u (.one (.d (.bool want))))))/\(b=!want->skip (upd Z s (.u (.one (.d (.bool !want))))))|.tup []=>skip Z|_=>False
  |none=>False
def aops (P:Program) (cx:Cx) (tb:Tb) (all:A6):A6->Env->Sto->A3->Prop|[],Z,O,K=>K Z O|o::l,Z,O,K=>lf all o.guard Z (λZ=>p7 P cx tb o Z O λZ O=>aops P cx tb all l Z O K) (λZ=>aops P cx tb all l (cK Z o.dst (.tup [])) O K)
def kl (n:Nat) (ops:A6):Bool:=ops.all λo=>match o.dst with|some d=>decide (d<n)&&decide (d<inBase)|none=>true
section
variable {P:Program} {tb:Tb} {cx:Cx} {Z:Env} {O:Sto} {o:Oper} {K:A3}
theorem lX {op:Op} {c:Call} (h:ep op=some c):op=.call c/\∃x,c.callee=.value x:=by unfold ep at h;grind
theorem run_callFunc {w:World} {f:FuncId} {args:Array Value} (h:∃fn,P.funcs[f]?=some fn/\(fn.name == "runtime.NumGoroutine")=false/\fn.body.isNone=false):(callFunc f args).run P w=.ok (.enter f args) w:=by obtain⟨fn,h1,h2,h3⟩:=h;simp only[callFunc,Sem.run_bind,program,Sem.run,Result.andThen_ok,h1,h2,h3,Bool.false_eq_true,if_false,Sem.run_pure]
theorem csims_map_one {E:A7} {w:World} {F:Ad}:∀{cs:As} {vs:A9},bB E w F cs vs->(cs.map λc=>V.u (.one c)).length=vs.length/\∀(i:Nat) (x:V) (u:Value),(cs.map λc=>V.u (.one c))[i]?=some x->vs[i]?=some u->bI E w F x u
 |[],vs,h=>by simp_all[bB]|c::cs,vs,h=>by
  simp only[bB] at h;obtain⟨v,r,rfl,hc,h⟩:=h;obtain⟨h1,h2⟩:=csims_map_one h;refine⟨by simpa using h1,λi x u hx hu=>?_⟩;cases i with
  |zero=>simp at hx hu;subst hx hu;exact hc|succ i=>grind
theorem call_run {E:A7} {a:Act} {w:World} {F:Ad} {c:Call} {f:FuncId} {args:Ao} (hop:o.op=.call c) (h:eE Z c=some (f,args)) (hs:∀x∈o.op.operands.toList,bI E w F (oev Z x) (a.eval x)) (hf:∃fn,P.funcs[f]?=some fn/\(fn.name == "runtime.NumGoroutine")=false/\fn.body.isNone=false) :∃vals:A9,(execOp a.eval o).run P w=.ok (.enter f vals.toArray) w/\vals.length=args.length/\∀(i:Nat) (x:V) (u:Value),args[i]?=some x->vals[i]?=some u->bI E w F x u:=by
 unfold eE at h;split at h
 ·rename_i x hx;split at h
  ·rename_i f' caps hv;cases h;have h1:=hs x (by simp[hop,Op.operands,Call.operands,hx]);rw[hv] at h1;obtain⟨arr,he,hc⟩:=h1;obtain⟨hl,hg⟩:=csims_map_one hc;refine⟨(c.args.map a.eval).toList++arr.toList,?_,by simp_all,λi y u hy hu=>?_⟩
   ·have:((c.args.map a.eval).toList++arr.toList).toArray=c.args.map a.eval++arr:=by simp
    rw[this];simp only[execOp,hop,resolve,hx,Deferred.ofValue,he,Sem.run_bind,Sem.run_pure,Result.andThen_ok,invoke,Array.empty_append];exact run_callFunc hf
   ·by_cases hi:i<c.args.size;{rw[List.getElem?_append_left (by simpa using hi)] at hy hu;rw[List.getElem?_map] at hy;simp only[Array.toList_map,List.getElem?_map] at hu;cases hz:c.args.toList[i]? with|none=>simp_all|some z=>rw[hz] at hy hu;cases hy;cases hu;exact hs z (by simp only[hop,Op.operands,Call.operands,Array.toList_append];grind)};grind
  ·cases h
 ·cases h
theorem callK_of_pure {f:FuncId} {us:Ao} {v:V} {d:Ac} (h:bA P f us v) (hd:∀x,d=some x->x<cx.n) (hk:K (cK Z d v) O):oU P cx f us Z O d K:=by refine⟨h.1,λE a w hs vals hl hv next hn=>(h.2 E w _ hs.core.frm vals hl hv).mono λ_ w' ⟨u,he,hb,hvs⟩=>⟨u,he,?_⟩⟩;exact hn E _ O _ w' ((hs.below hb).put hd hvs) hk
theorem p9 (ht:TbOk P tb) (hd:∀d,o.dst=some d->d<cx.n/\d<inBase) (h:p7 P cx tb o Z O K):Step P cx o Z O K:=by
 unfold p7 at h;split at h
 ·rename_i c hc;obtain⟨hop,x,hx⟩:=lX hc;split at h
  ·rename_i f args hargs;have h:oU P cx f args Z O o.dst K:=by split at h;{rename_i v hv;exact callK_of_pure (ht.call f args v hv) (λx hx=>(hd x hx).1) h};{split at h;{rename_i T he;exact ht.eff cx f args o.dst Z O T K hd he h};{exact h}}
   obtain⟨hf,h⟩:=h;intro E a w hs next Q hn
   obtain⟨vals,hrun,hl,hv⟩:=call_run (E:=E) (w:=w) (F:=cx.fr E O) hop hargs (λx _=>dW hs.core.gw hs.slots x) hf;unfold Oper.wp;rw[hrun];refine(h E a w hs vals hl hv next hn).mono λe w' he=>?_;grind
  ·exact h.elim
 ·split at h;{rename_i v hv;exact Step.of_quiet (qev_sound ht hv) (λx hx=>(hd x hx).1) (λv' hv'=>by subst hv';exact h)};{unfold aeffP at h;split at h;{rename_i p Z' O' hpre;exact pre_sound ht hpre h.1 h.2 λd hdd=>(hd d hdd).1};unfold jr at h;split at h;{grind[alloc_sound,jr]};{rename_i t x d hop hdst;exact box_sound (tb:=tb) hop hdst (hd d hdst).1 (hd d hdst).2 (by simp_all[jr])};{grind[store_sound,jr]};{rename_i c hop;obtain⟨callee,args,ats⟩:=c;grind[append_sound]};{grind[mapset_sound]};{grind[makeSlice_sound]};{grind[makeMap_sound]};{simp_all[entry_sound]};{grind[eqNil_sound]};{exact h.elim}}
theorem ly {I:Type} (f:Nat->I) (t:Nat):upd f t (f t)=f:=by grind[upd]
theorem qa {E:A7} {a:Act} {w:World} {ops:Array Oper} (hs:∀t,bI E w (cx.fr E O) (Z t) (a.tmps.getD t undef)) {run skip:Aq} (h:lf ops.toList o.guard Z run skip) :(Region.wanted o (yielded ops a.tmps)=true/\run Z)\/(Region.wanted o (yielded ops a.tmps)=false/\skip Z):=by
 unfold lf at h;split at h;{rename_i hg;exact .inl ⟨by simp[Region.wanted,hg],h⟩}
 ·rename_i j want hg;split at h
  ·rename_i s hsl;have hsl':(ops[j]?).bind (·.dst)=some s:=by simpa [gslot] using hsl
   split at h
   ·rename_i b hb;have h1:=hs s;rw[hb] at h1;simp only[bI,ct,bG,rep] at h1;have h2:a.tmps[s]?=some (.bool b):=by
     rw[Array.getD_eq_getD_getElem?] at h1;cases hx:a.tmps[s]? with
     |none=>rw[hx] at h1;simp[undef] at h1|some x=>simp_all
    have hy:yielded ops a.tmps j=some b:=by simp[yielded,hsl',h2]
    have hw:Region.wanted o (yielded ops a.tmps)=(b==want):=by simp only[Region.wanted,hg,hy];rfl
    by_cases hbw:b=want;{grind[ly]}
    ·right;have hbn:b=!want:=by cases b<;>cases want<;>simp_all
     grind[ly]
   ·rename_i hb;have h1:=hs s;rw[hb] at h1;obtain⟨arr,h1,h0⟩:=h1;have h2:yielded ops a.tmps j=none:=by simp only[yielded,hsl',Option.bind_some];rw[Array.getD_eq_getD_getElem?] at h1;grind
    exact .inr ⟨by simp only[Region.wanted,hg,h2];rfl,h⟩
   ·exact h.elim
  ·exact h.elim
theorem oh {E:A7} {w:World} {F:Ad}:bI E w F (.tup []) undef:=⟨#[],rfl,rfl⟩
theorem vsim_top {E:A7} {w:World} {F:Ad} (u:Value):bI E w F .top u:=by simp[bI,ct,bG]
theorem nu {n:Nat} {ops:A6} (h:kl n ops=true) {k:Nat} {o:Oper} (ho:ops[k]?=some o):∀d,o.dst=some d->d<n/\d<inBase:=by intro d hd;have:=List.all_eq_true.1 h o (List.mem_of_getElem? ho);simp_all
theorem aops_sound (ht:TbOk P tb) {ops:Array Oper} (hd:kl cx.n ops.toList=true) {Q:Exit->Act->World->Prop} (hQ:∀E Z O a w,Sim cx E Z O a w->K Z O->Q .normal a w) :∀(l:A6) (k:Nat) (Z:Env) (O:Sto) (E:A7) (a:Act) (w:World),(∀j,l[j]?=ops[k+j]?)->aops P cx tb ops.toList l Z O K->Sim cx E Z O a w->wpOps P ops Q (List.range' k l.length) a w
 |[],k,Z,O,E,a,w,_,h,hs=>by simp only[List.length_nil,List.range'_zero,wpOps];exact hQ E Z O a w hs h|o::l,k,Z,O,E,a,w,hl,h,hs=>by
  have h0:ops[k]?=some o:=by simpa using (hl 0).symm
  have h0':ops.toList[k]?=some o:=by simpa using h0
  have hdo:=nu hd h0';simp only[List.length_cons,List.range'_succ,wpOps,h0];simp only[aops] at h;have ih:=λZ O E a w=>aops_sound ht hd hQ l (k+1) Z O E a w (λj=>by have:=hl (j+1);grind);rcases qa hs.slots h with⟨hw,h⟩|⟨hw,h⟩;{rw[if_pos hw];exact .inl (p9 ht hdo h E a w hs _ _ λE' Z' O' a' w' hs' hk=>ih Z' O' E' a' w' hk hs')};{rw[if_neg (by simp[hw])];exact ih _ _ E _ _ h (hs.put (λx hx=>(hdo x hx).1) oh)}
end
