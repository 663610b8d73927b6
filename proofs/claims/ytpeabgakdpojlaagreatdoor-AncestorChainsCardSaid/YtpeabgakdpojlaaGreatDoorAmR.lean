/- Lemmas for the law. -/
import Derived.Test.YtpeabgakdpojlaaGreatDoorAmP
namespace Go.AM
open Go.RowKit
def bN:Ap->Env->Prop|[],_=>True|x::l,Z=>Z x.1=x.2/\bN l Z
def bO:Al->Sto->Prop|[],_=>True|x::l,O=>O x.1=some x.2/\bO l O
def Fits (L:Ap) (M:Al) (Z:Env) (O:Sto):Prop:=bN L Z/\bO M O
def eswk:Am->Am->Prop|[],ys=>ys=[]|x::xs,y::ys=>x.1=y.1/\x.2.wk y.2/\eswk xs ys|_,_=>False
def Ob.wk:Ob->Ob->Prop|.box cs,.box ds=>C.wks cs ds|.row sz e rows,.row sz' e' rows'=>sz=sz'/\e=e'/\dK rows rows'|.map kk es,.map kk' es'=>kk=kk'/\eswk es es'|.iter m l la,o=>o=.iter m l la|.nest e ie sz els,o=>o=.nest e ie sz els|_,_=>False
def obWk:Ab->Ab->Prop|some o,some o'=>o.wk o'|_,none=>True|_,_=>False
def FitEW:Ap->Env->Prop|[],_=>True|x::l,Z=>(Z x.1).wk x.2/\FitEW l Z
def FitSW:Al->Sto->Prop|[],_=>True|x::l,O=>obWk (O x.1) (some x.2)/\FitSW l O
def bY (L:Ap) (M:Al) (Z:Env) (O:Sto):Prop:=FitEW L Z/\FitSW M O
theorem eswk_refl:∀es:Am,eswk es es|[]=>by simp[eswk]|x::es=>by simp only[eswk,true_and];exact⟨U.wk_refl _,eswk_refl es⟩
theorem Ob.wk_refl (o:Ob):o.wk o:=by
 cases o with
 |box cs=>exact C.wks_refl cs|row sz e rows=>exact⟨rfl,rfl,oR rows⟩|map kk es=>exact⟨rfl,eswk_refl es⟩|iter m l la=>rfl|nest e ie sz els=>rfl
theorem eswk_keys:∀{es es':Am},eswk es es'->es.map (·.1)=es'.map (·.1)|[],ys,h=>by simp_all[eswk]|x::xs,[],h=>by simp[eswk] at h|x::xs,y::ys,h=>by simp only[eswk] at h;simp[h.1,eswk_keys h.2.2]
section
variable {E:A7} {w:World} {F:Ad}
theorem esims_wk:∀{es es':Am} {l:List MapEntry},eswk es es'->fL E w F es l->fL E w F es' l|[],ys,l,h,hs=>by simp_all[eswk]|x::xs,[],l,h,hs=>by simp[eswk] at h|x::xs,y::ys,l,h,hs=>by simp only[eswk] at h;obtain⟨e,r,rfl,hk,hv,hs⟩:=hs;exact⟨e,r,rfl,by simp_all,usim_wk h.2.1 hv,esims_wk h.2.2 hs⟩
theorem rowWk_csims:∀{xs ys:Ak} {vs:A9},iW xs ys->bB E w F (xs.map C.d) vs->bB E w F (ys.map C.d) vs|[],ys,vs,h,hs=>by simp_all[iW]|x::xs,[],vs,h,hs=>by simp[iW] at h|x::xs,y::ys,vs,h,hs=>by simp only[iW] at h;simp only[List.map_cons,bB] at hs⊢;obtain⟨v,r,rfl,hc,hs⟩:=hs;exact⟨v,r,rfl,by grind[bG,rep_wk],rowWk_csims h.2 hs⟩
theorem osim_wk {s:Nat} {o o':Ob} (h:o.wk o') (ho:kq E w F s o):kq E w F s o':=by unfold Ob.wk at h;split at h;{obtain⟨b,arr,t,h1,h2,h3,h4⟩:=ho;exact⟨b,arr,t,h1,h2,csims_wk h h3,h4⟩};{rename_i sz e rows sz' e' rows';obtain⟨rfl,rfl,h⟩:=h;obtain⟨h1,h2⟩:=ho;refine⟨rowsWk_mem h h1,?_⟩;have hl:=sy h;rcases h2 with⟨rfl,h2⟩|⟨b,cap,cur,h0,hp,hle,hm,hh,hsz,hc⟩;{simp_all};{rw[hl] at hp hle hc;exact .inr ⟨b,cap,cur,h0,hp,hle,hm,hh,hsz,rowWk_csims (rowsWk_flat h) hc⟩}};{obtain⟨rfl,h⟩:=h;obtain⟨b,ents,clk,h1,h2,h3,h4,h5,h6,h7⟩:=ho;refine⟨b,ents,clk,h1,h2,esims_wk h h3,h4,h5,?_,by rw[<- eswk_keys h];exact h7⟩;intro x hx;have:x.1∈(_:Am).map (·.1):=List.mem_map_of_mem (f:=(·.1)) hx;grind[eswk_keys]};{subst h;exact ho};{subst h;exact ho};{exact h.elim}
end
section
variable {P:Program} {cx:Cx} {tb:Tb} {Z Z':Env} {O O':Sto} {Q Q':Aa} {c x y:Code} {L:Ap} {M:Al}
theorem Wk.weak (hρ:∀t,(Z t).wk (Z' t)) (hσ:∀s,obWk (O s) (O' s)) (hd:∀s o,O s=some o->∃o',O' s=some o'):Wk cx Z O Z' O':=by
 intro E a w hs;have back:∀s o',O' s=some o'->∃o,O s=some o/\o.wk o':=λs o' h=>by
  have:=hσ s;rw[h] at this;cases hh:O s with
  |none=>rw[hh] at this;exact this.elim|some o=>rw[hh] at this;exact⟨o,rfl,this⟩
 have hown:∀b,owned E O' b↔owned E O b:=λb=>⟨λ⟨s,o',h,hb⟩=>let ⟨o,ho,_⟩:=back s o' h;⟨s,o,ho,hb⟩,λ⟨s,o,h,hb⟩=>let ⟨o',ho⟩:=hd s o h;⟨s,o',ho,hb⟩⟩
 have hfr:cx.fr E O'=cx.fr E O:=by grind[Cx.fr]
 refine⟨E,⟨?_,λt=>?_,hs.defers,hs.room⟩⟩
 ·have h:=hs.core;refine⟨h.os,h.tape,h.output,h.drawn,h.size,h.block,λs o' ho'=>?_,λs o' b ho' hb=>?_,λs s' o o' b ho ho' hb hb'=>?_,h.inp,λs m l la ho'=>?_⟩;{obtain⟨o,ho,hw⟩:=back s o' ho';rw[hfr];exact osim_wk hw (h.objs s o ho)};{obtain⟨o,ho,_⟩:=back s o' ho';exact h.own s o b ho hb};{obtain⟨o1,ho1,_⟩:=back s o ho;obtain⟨o2,ho2,_⟩:=back s' o' ho';exact h.disj s s' o1 o2 b ho1 ho2 hb hb'}
  ·obtain⟨o,ho,hw⟩:=back s _ ho';cases o with
   |iter m' l' la'=>
    simp only[Ob.wk] at hw;cases hw;obtain⟨kk,es,hm⟩:=h.itm s m l la ho;obtain⟨o',ho2⟩:=hd m _ hm;obtain⟨o3,ho3,hw3⟩:=back m o' ho2;rw[hm] at ho3;cases ho3;cases o' with
    |map kk' es'=>simp_all|_=>simp[Ob.wk] at hw3
   |_=>simp[Ob.wk] at hw
 ·rw[hfr];exact vsim_wk (hρ t) (hs.slots t)
def ovE:Ap->Env->Env|[],Z=>Z|x::l,Z=>upd (ovE l Z) x.1 x.2
def ovS:Al->Sto->Sto|[],O=>O|x::l,O=>upd (ovS l O) x.1 (some x.2)
theorem ovE_wk:∀{L:Ap},FitEW L Z->∀t,(Z t).wk (ovE L Z t)|[],_,t=>V.wk_refl _|x::l,h,t=>by simp only[ovE,upd_apply];split;{rename_i ht;subst ht;exact h.1};{exact ovE_wk h.2 t}
theorem obWk_refl (o:Ab):obWk o o:=by cases o<;>simp[obWk,Ob.wk_refl]
theorem ovS_wk:∀{M:Al},FitSW M O->∀s,obWk (O s) (ovS M O s)|[],_,s=>obWk_refl _|x::l,h,s=>by simp only[ovS,upd_apply];split;{rename_i ht;subst ht;exact h.1};{exact ovS_wk h.2 s}
theorem ovS_dom:∀{M:Al} (s:Nat) (o:Ob),O s=some o->∃o',ovS M O s=some o'|[],s,o,h=>⟨o,h⟩|x::l,s,o,h=>by simp only[ovS,upd_apply];split;{simp};{exact ovS_dom s o h}
theorem ovE_fit:∀{L:Ap} {Z:Env},(L.map (·.1)).Nodup->bN L (ovE L Z):=by
 have key:∀{L:Ap} {Z:Env} {t:Nat} {v:V},t ∉ L.map (·.1)->bN L Z->bN L (upd Z t v):=by
  intro L;induction L with
  |nil=>intro Z t v _ _;trivial|cons x l ih=>intro Z t v hn h;simp only[List.map_cons,List.mem_cons,not_or] at hn;exact⟨by rw[bz _ _ (λe=>hn.1 e.symm)];exact h.1,ih hn.2 h.2⟩
 intro L;induction L with
 |nil=>intro Z _;trivial|cons x l ih=>intro Z hn;simp only[List.map_cons,List.nodup_cons] at hn;exact⟨upd_same _ _ _,key hn.1 (ih hn.2)⟩
theorem ovS_fit:∀{L:Al} {Z:Sto},(L.map (·.1)).Nodup->bO L (ovS L Z):=by
 have key:∀{L:Al} {Z:Sto} {t:Nat} {v:Ab},t ∉ L.map (·.1)->bO L Z->bO L (upd Z t v):=by
  intro L;induction L with
  |nil=>intro Z t v _ _;trivial|cons x l ih=>intro Z t v hn h;simp only[List.map_cons,List.mem_cons,not_or] at hn;exact⟨by rw[bz _ _ (λe=>hn.1 e.symm)];exact h.1,ih hn.2 h.2⟩
 intro L;induction L with
 |nil=>intro Z _;trivial|cons x l ih=>intro Z hn;simp only[List.map_cons,List.nodup_cons] at hn;exact⟨upd_same _ _ _,key hn.1 (ih hn.2)⟩
def dY (l:A5):Bool:=match l with|[]=>true|x::l=>!l.contains x&&dY l
theorem nY:∀{l:A5},dY l=true->l.Nodup|[],_=>List.nodup_nil|x::l,h=>by simp only[dY,Bool.and_eq_true,Bool.not_eq_true',List.contains_eq_mem,decide_eq_false_iff_not] at h;exact List.nodup_cons.2 ⟨h.1,nY h.2⟩
theorem fits_wk (hn:dY (L.map (·.1))=true) (hm:dY (M.map (·.1))=true) (h:bY L M Z O):EE cx (Fits L M) Z O :=⟨ovE L Z,ovS M O,Wk.weak (ovE_wk h.1) (ovS_wk h.2) (λs o hs=>ovS_dom s o hs),ovE_fit (nY hn),ovS_fit (nY hm)⟩
theorem bo (h:Swp P cx x Z O (thenQ (λZ O=>Swp P cx y Z O Q) Q)):Swp P cx (.seq x y) Z O Q:=swp_seq λ_ hK=>h.mono λe Z O hq=>by
 cases e with
 |normal=>exact hK Z O hq|_=>exact hq
theorem sw_reg (ht:TbOk P tb) {id:Nat} {l:A6} (hd:kl cx.n l=true) (h:lP P cx tb l l Z O (Q .normal) .mk):Swp P cx (.region id l.toArray false) Z O Q:=swp_region ht hd h
theorem sw_regs (ht:TbOk P tb) {id:Nat} {l:A6} (hd:kl cx.n l=true) (h:lP P cx tb l l Z O (λZ O=>Swp P cx y Z O Q) .mk):Swp P cx (.seq (.region id l.toArray false) y) Z O Q:=bo (sw_reg ht hd h)
theorem bu {o:Operand} {b:Bool} (hc:oev Z o=.u (.one (.d (.bool b)))) (hb:b=true) (h:Swp P cx x Z O Q):Swp P cx (.cond o x y) Z O Q:=swp_cond hc (λ_=>h) (λhf=>absurd (hb.symm.trans hf) (by decide))
theorem bw {o:Operand} {b:Bool} (hc:oev Z o=.u (.one (.d (.bool b)))) (hb:b=false) (h:Swp P cx y Z O Q):Swp P cx (.cond o x y) Z O Q:=swp_cond hc (λhf=>absurd (hb.symm.trans hf) (by decide)) (λ_=>h)
theorem zK {o:Operand} {b:Bool} (hb:b=false) (h:Swp P cx y Z O Q) (hc:oev Z o=.u (.one (.d (.bool b))):=by simp -dsimp[hf]):Swp P cx (.cond o x y) Z O Q:=bw hc hb h
theorem zZ {o:Operand} {b:Bool} (hb:b=true) (h:Swp P cx x Z O Q) (hc:oev Z o=.u (.one (.d (.bool b))):=by simp -dsimp[hf]):Swp P cx (.cond o x y) Z O Q:=bu hc hb h
theorem zX {o:Operand} {b:Bool} (hb:b=false) (h:Swp P cx y Z O Q) (hc:oev Z o=.u (.one (.d (.bool b))):=by simp -dsimp):Swp P cx (.cond o x y) Z O Q:=bw hc hb h
theorem zW {o:Operand} {b:Bool} (hb:b=true) (h:Swp P cx x Z O Q) (hc:oev Z o=.u (.one (.d (.bool b))):=by simp -dsimp):Swp P cx (.cond o x y) Z O Q:=bu hc hb h
theorem bp {id:Nat} (h:Swp P cx c Z O (sC id Q)):Swp P cx (.block id c) Z O Q:=swp_block h
theorem sw_gen (L:Ap) (M:Al) (hn:dY (L.map (·.1))=true) (hm:dY (M.map (·.1))=true) (h:bY L M Z O) (hk:∀Z O,Fits L M Z O->Swp P cx c Z O Q):Swp P cx c Z O Q :=
 let ⟨_,_,hw,hf⟩:=fits_wk (cx:=cx) hn hm h
 Swp.pre hw (hk _ _ hf)
def Rd {S T:Type} (Ea:S->Env->Sto->Prop) (F:T->Exit->Env->Sto->Prop) (r:Lp S T) (e:Exit) (Z:Env) (O:Sto):Prop:=match r with|.next s=>e=.normal/\Ea s Z O|.out t=>e≠.normal/\F t e Z O
theorem loop_model {S T:Type} (L:S->Ap) (M:S->Al) (F:T->Exit->Env->Sto->Prop) (step:S->Option (Lp S T)) {c:Code} (hn:∀s,dY ((L s).map (·.1))=true) (hm:∀s,dY ((M s).map (·.1))=true) (hstep:∀s r,step s=some r->∀Z O,Fits (L s) (M s) Z O->Swp P cx c Z O (Rd (λs=>EE cx (bY (L s) (M s))) F r)) {n:Nat} {s:S} {t:T} (h:bv step n s=some t) {Z:Env} {O:Sto} (hE:Fits (L s) (M s) Z O) :
  Swp P cx (.loop c) Z O (F t):=by
 refine swp_loop (λn Z O=>EE cx (λZ O=>∃s,bv step n s=some t/\bY (L s) (M s) Z O) Z O) n (EE.here ⟨s,h,?_⟩) ?_
 ·exact⟨(λ{L}=>by induction L with
   |nil=>intro _;trivial|cons x l ih=>intro h;exact⟨by rw[h.1];exact V.wk_refl _,ih h.2⟩:∀{L:Ap},bN L Z->FitEW L Z) hE.1,(λ{L}=>by induction L with
   |nil=>intro _;trivial|cons x l ih=>intro h;exact⟨by rw[h.1];exact obWk_refl _,ih h.2⟩:∀{L:Al},bO L O->FitSW L O) hE.2⟩
 rintro n Z O ⟨Z',O',hw,s,hl,hE⟩;refine Swp.pre hw (sw_gen (L s) (M s) (hn s) (hm s) hE λZ O hE=>?_);cases n with
 |zero=>(cases hl)|succ n=>
  unfold bv at hl;cases hr:step s with
  |none=>simp_all|some r=>
   rw[hr] at hl;refine(hstep s r hr Z O hE).mono λe Z O hq=>?_;cases r with
   |next s'=>
    obtain⟨rfl,ρ2,σ2,hw2,hE2⟩:=hq;exact⟨n,Nat.lt_succ_self n,ρ2,σ2,hw2,s',hl,hE2⟩
   |out t'=>
    cases hl;obtain⟨hne,hq⟩:=hq;cases e with
    |normal=>grind|_=>exact hq
theorem pfn_S (ht:TbOk P tb) {f:FuncId} {fn:Func} {us:Ao} {R:Az} (c:Code) (hf:P.funcs[f]?=some fn) (hb:fn.body=some c) (hname:(fn.name == "runtime.NumGoroutine")=false) (hn:us.length<=fn.ntmps) (h:∀cx:Cx,cx.n=fn.ntmps->Swp P cx c (env0 us) sto0 (λe Z O=>(e=.normal\/e=.ret)/\∃v,iE tb Z O fn.results.toList=some v/\(v.frz O).free=true/\R (v.frz O))):PFn P f us R :=
 pfn_intro ht hf hb hname hn h
end
theorem bn {K:A3} {Q:Aa} {Z:Env} {O:Sto} (h:K Z O):thenQ K Q .normal Z O:=h
