/- Lemmas for the law. -/
import Derived.Test.YtpeabgakdpojlaaGreatDoorAmR
namespace Go.AM
open Go.RowKit
section
variable {P:Program} {cx:Cx} {tb:Tb} {Z Z':Env} {O O':Sto} {Q Q':Aa} {c x y:Code} {L:Ap} {M:Al}
theorem Wk.own0 (t n sz:Nat) (e:TypeId) (h:Z t=.u (.one (.d .nil))) (hn:n<inBase) :
  Wk cx Z O (upd (eY n Z) t (.u (.one (.own n)))) (upd (cM n O) n (some (.row sz e []))):=by intro E a w hs;have key:=hs.core.replace (so:=none) (d:=n) (hv:=.slice none 0 0) (ob:=.row sz e []) (w':=w) hn (λ_ _ h=>by cases h) rfl rfl rfl (Nat.le_refl _) (Nat.le_refl _) (λ_ _ _=>rfl) (λb hb=>by cases hb) (λ_ _ _ h=>by cases h) (λ_=>⟨by simp,.inl ⟨rfl,none,upd_same _ _ _⟩⟩);rw[nw] at key;obtain⟨h1,_,h3⟩:=key;refine⟨_,h1,λt'=>?_,hs.defers,hs.room⟩;by_cases htt:t'=t;{subst htt;rw[upd_same];have:=hs.slots t';rw[h] at this;simp only[bI,ct,bG,rep] at this⊢;simp_all};{rw[bz _ _ htt];exact h3 _ _ (hs.slots t')}
def Ob.frz1 (s:Nat) (x:Go.AM.L):Ob->Ob|.box cs=>.box (cs.map (C.frz1 s x))|o=>o
def frzS (s:Nat) (x:Go.AM.L) (O:Sto):Sto:=λt=>(iK s O t).map (Ob.frz1 s x)
theorem Wk.frz (s sz:Nat) (e:TypeId) (rows:List (List Go.AM.L)) (hs:O s=some (.row sz e rows)):Wk cx Z O (frzE s (.sl sz rows) Z) (frzS s (.sl sz rows) O):=by
 intro E a w hsim;have h1:=hsim.freeze hs;have back:∀t o',frzS s (.sl sz rows) O t=some o'->∃o,iK s O t=some o/\o'=o.frz1 s (.sl sz rows):=λt o' h=>by
  unfold frzS at h;cases hh:iK s O t with
  |none=>grind|some o=>simp_all
 have hown:∀b,owned E (frzS s (.sl sz rows) O) b↔owned E (iK s O) b:=λb=>⟨λ⟨t,o',h,hb⟩=>let ⟨o,ho,_⟩:=back t o' h;⟨t,o,ho,hb⟩,λ⟨t,o,h,hb⟩=>⟨t,o.frz1 s (.sl sz rows),by unfold frzS;rw[h];rfl,hb⟩⟩
 have hfr:cx.fr E (frzS s (.sl sz rows) O)=cx.fr E (iK s O):=by grind[Cx.fr]
 have hc:=h1.core;refine⟨E,⟨⟨hc.os,hc.tape,hc.output,hc.drawn,hc.size,hc.block,λt o' ho'=>?_,λt o' b ho' hb=>?_,λt t' o o' b ho ho' hb hb'=>?_,hc.inp,λt m l la ho'=>?_⟩,λt=>?_,h1.defers,h1.room⟩⟩
 ·obtain⟨o,ho,rfl⟩:=back t o' ho';rw[hfr];cases o with
  |box cs=>
   obtain⟨hne,hst⟩:=iG ho;obtain⟨b,arr,ty,hp,hh,hcs,h3⟩:=hsim.core.objs t _ hst;exact⟨b,arr,ty,hp,hh,csims_frz1 hsim.core hs cs _ hcs,h3⟩
  |_=>exact hc.objs t _ ho
 ·obtain⟨o,ho,_⟩:=back t o' ho';exact hc.own t o b ho hb
 ·obtain⟨o1,ho1,_⟩:=back t o ho;obtain⟨o2,ho2,_⟩:=back t' o' ho';exact hc.disj t t' o1 o2 b ho1 ho2 hb hb'
 ·obtain⟨o,ho,he⟩:=back t _ ho';cases o with
  |iter m' l' la'=>
   cases he;obtain⟨kk,es,hm⟩:=hc.itm t m l la ho;exact⟨kk,es,by unfold frzS;rw[hm];rfl⟩
  |_=>cases he
 ·rw[hfr];exact h1.slots t
theorem Wk.own0b (b i n sz:Nat) (e:TypeId) (cs:As) (hb:O b=some (.box cs)) (hi:cs[i]?=some (.d .nil)) (hn:n<inBase) (hbn:b≠n) :
  Wk cx Z O (eY n Z) (upd (upd (cM n O) n (some (.row sz e []))) b (some (.box ((cs.map (C.wipe n)).set i (.own n))))):=by
 intro E a w hs;have key:=hs.core.replace (so:=none) (d:=n) (hv:=.slice none 0 0) (ob:=.row sz e []) (w':=w) hn (λ_ _ h=>by cases h) rfl rfl rfl (Nat.le_refl _) (Nat.le_refl _) (λ_ _ _=>rfl) (λb hb=>by cases hb) (λ_ _ _ h=>by cases h) (λ_=>⟨by simp,.inl ⟨rfl,none,upd_same _ _ _⟩⟩);rw[nw] at key;obtain⟨h1,hk,h3⟩:=key;obtain⟨k,arr,ty,hp,hh,hcs,h1c⟩:=hs.core.objs b _ hb;have hbx:upd (cM n O) n (some (.row sz e [])) b=some (.box (cs.map (C.wipe n))):=by simp_all
 obtain⟨k',arr',ty',hp',hh',hcs',h1c'⟩:=h1.objs b _ hbx;obtain⟨u,hu,hun⟩:=t7 hcs hi;simp only[bG,rep] at hun;subst hun;have hEb:upd E n (.slice none 0 0) b=E b:=bz _ _ hbn;rw[hEb,hp] at hp';simp only[Value.pointer.injEq,Option.some.injEq,Addr.mk.injEq] at hp';obtain⟨rfl,_,_⟩:=hp';rw[hh] at hh';simp only[Option.some.injEq,Obj.cells.injEq] at hh';obtain⟨rfl,rfl,_⟩:=hh';have hset:bB (upd E n (.slice none 0 0)) w (cx.fr (upd E n (.slice none 0 0)) (upd (cM n O) n (some (.row sz e [])))) ((cs.map (C.wipe n)).set i (.own n)) (arr.toList.set i (.slice none 0 0)) :=
  csims_set i hcs' (by simp only[bG];simp)
 have hsame:arr.toList.set i (.slice none 0 0)=arr.toList:=i6 hu;rw[hsame] at hset;have hob:Core cx (upd E n (.slice none 0 0)) (upd (upd (cM n O) n (some (.row sz e []))) b (some (.box ((cs.map (C.wipe n)).set i (.own n))))) w /\
   cx.fr (upd E n (.slice none 0 0)) (upd (upd (cM n O) n (some (.row sz e []))) b (some (.box ((cs.map (C.wipe n)).set i (.own n)))))=cx.fr (upd E n (.slice none 0 0)) (upd (cM n O) n (some (.row sz e []))):=by
  have dom:∀t,(∃o,upd (upd (cM n O) n (some (.row sz e []))) b (some (.box ((cs.map (C.wipe n)).set i (.own n)))) t=some o)↔∃o,upd (cM n O) n (some (.row sz e [])) t=some o:=λt=>by grind[upd_same,bz]
  have hown:∀k,owned (upd E n (.slice none 0 0)) (upd (upd (cM n O) n (some (.row sz e []))) b (some (.box ((cs.map (C.wipe n)).set i (.own n))))) k↔owned (upd E n (.slice none 0 0)) (upd (cM n O) n (some (.row sz e []))) k:=λk=>⟨λ⟨t,o,ho,hk⟩=>let ⟨o',ho'⟩:=(dom t).1 ⟨o,ho⟩;⟨t,o',ho',hk⟩,λ⟨t,o,ho,hk⟩=>let ⟨o',ho'⟩:=(dom t).2 ⟨o,ho⟩;⟨t,o',ho',hk⟩⟩
  have hfr:cx.fr (upd E n (.slice none 0 0)) (upd (upd (cM n O) n (some (.row sz e []))) b (some (.box ((cs.map (C.wipe n)).set i (.own n)))))=cx.fr (upd E n (.slice none 0 0)) (upd (cM n O) n (some (.row sz e []))):=by grind[Cx.fr]
  refine⟨⟨h1.os,h1.tape,h1.output,h1.drawn,h1.size,h1.block,λt o ho=>?_,λt o k ho hk=>?_,λt t' o o' k ho ho' hk hk'=>?_,h1.inp,λt m l la ho=>?_⟩,hfr⟩;{rw[hfr];by_cases htb:t=b;{subst htb;rw[upd_same] at ho;cases ho;exact⟨k,arr,ty,by rw[hEb,hp],hh,hset,h1c⟩};{rw[bz _ _ htb] at ho;exact h1.objs t o ho}};{obtain⟨o',ho'⟩:=(dom t).1 ⟨o,ho⟩;exact h1.own t o' k ho' hk};{obtain⟨o1,ho1⟩:=(dom t).1 ⟨o,ho⟩;obtain⟨o2,ho2⟩:=(dom t').1 ⟨o',ho'⟩;exact h1.disj t t' o1 o2 k ho1 ho2 hk hk'};{by_cases htb:t=b;{simp_all};{rw[bz _ _ htb] at ho;obtain⟨kk,es,hm⟩:=h1.itm t m l la ho;grind[bz]}}
 refine⟨_,hob.1,λt'=>?_,hs.defers,hs.room⟩;rw[hob.2];exact h3 _ _ (hs.slots t')
def swp (i j t:Nat):Nat:=if t=i then j else if t=j then i else t
theorem swp_swp (i j t:Nat):swp i j (swp i j t)=t:=by grind[swp]
def Ob.ren (f:Aj):Ob->Ob|.box cs=>.box (C.rens f cs)|.row sz e rows=>.row sz e rows|.map kk es=>.map kk (es.map λx=>(x.1,x.2.ren f))|.iter m l la=>.iter (f m) (l.map λx=>(x.1,x.2.ren f)) (la.map λx=>(x.1,x.2.ren f))|.nest e ie sz els=>.nest e ie sz (els.map (NE.ren f))
def renE (f:Aj) (Z:Env):Env:=λt=>(Z t).ren f
def renS (f:Aj) (O:Sto):Sto:=λs=>(O (f s)).map (Ob.ren f)
theorem esims_ren {E:A7} {w:World} {F:Ad} {f:Aj}:∀{es:Am} {l:List MapEntry},fL (λt=>E (f t)) w F es l->fL E w F (es.map λx=>(x.1,x.2.ren f)) l|[],_,h=>h|x::es,l,h=>by obtain⟨e,r,rfl,hk,hv,h⟩:=h;exact⟨e,r,rfl,hk,(usim_ren _ _).2 hv,esims_ren h⟩
theorem osim_ren {E J:A7} {w:World} {F:Ad} {f:Aj} (hψ:∀t,J (f t)=E t) {s:Nat} {o:Ob} (ho:kq E w F s o):kq J w F (f s) (o.ren f):=by
 have hφ:E=λt=>J (f t):=funext λt=>(hψ t).symm;cases o with
 |box cs=>
  obtain⟨b,arr,t,h1,h2,h3,h4⟩:=ho;exact⟨b,arr,t,(hψ s).trans h1,h2,(sW cs _).2 (hφ ▸ h3),h4⟩
 |row sz e rows=>
  obtain⟨h1,h2⟩:=ho;refine⟨h1,?_⟩;grind[k9]
 |map kk es=>
  obtain⟨b,ents,clk,h1,h2,h3,h4,h5,h6,h7⟩:=ho;refine⟨b,ents,clk,(hψ s).trans h1,h2,esims_ren (hφ ▸ h3),h4,h5,?_,?_⟩;{grind};grind
 |iter m l la=>
  obtain⟨b,c,ents,clk,seen,h1,h2,h3,h4,h5,h6,h7,h8⟩:=ho;refine⟨b,c,ents,clk,seen,(hψ s).trans h1,(hψ m).trans h2,h3,h4,esims_ren (hφ ▸ h5),h6,h7,?_⟩;intro x hx;cases la with
  |none=>(cases hx)|some y=>
   cases hx;obtain⟨e,a1,a2,a3,a4⟩:=h8 y rfl;simp_all[usim_ren]
 |nest e ie sz els=>obtain⟨out,ivs,cs,h1,h2,h3,h4⟩:=ho;exact⟨out,ivs,cs,(hψ s).trans h1,by rw[hψ s];exact h2,by rw[List.length_map];exact h3,nsims_ren.2 (hφ ▸ h4)⟩
theorem Wk.swap (i j:Nat) (hi:i<inBase\/inBase+cx.k<=i) (hj:j<inBase\/inBase+cx.k<=j):Wk cx Z O (renE (swp i j) Z) (renS (swp i j) O):=by
 intro E a w hs;have hψ:∀t,(λt=>E (swp i j t)) (swp i j t)=E t:=λt=>by simp only[swp_swp]
 have back:∀s o',renS (swp i j) O s=some o'->∃o,O (swp i j s)=some o/\o'=o.ren (swp i j):=λs o' h=>by
  unfold renS at h;cases hh:O (swp i j s)with
  |none=>grind|some o=>simp_all
 have hown:∀b,owned (λt=>E (swp i j t)) (renS (swp i j) O) b↔owned E O b:=λb=>by constructor;{rintro⟨s,o',h,hb⟩;obtain⟨o,ho,_⟩:=back s o' h;exact⟨_,o,ho,hb⟩};{rintro⟨s,o,h,hb⟩;exact⟨swp i j s,o.ren (swp i j),by unfold renS;rw[swp_swp,h];rfl,by simp_all⟩}
 have hfr:cx.fr (λt=>E (swp i j t)) (renS (swp i j) O)=cx.fr E O:=by grind[Cx.fr]
 refine⟨λt=>E (swp i j t),⟨?_,λt=>?_,hs.defers,hs.room⟩⟩
 ·have h:=hs.core;refine⟨h.os,h.tape,h.output,h.drawn,h.size,h.block,λs o' ho'=>?_,λs o' b ho' hb=>?_,λs s' o o' b ho ho' hb hb'=>?_,λk hk hk'=>?_,λs m l la ho'=>?_⟩;{obtain⟨o,ho,rfl⟩:=back s o' ho';rw[hfr];have:=osim_ren (f:=swp i j) (J:=λt=>E (swp i j t)) hψ (h.objs _ o ho);rwa [swp_swp] at this};{obtain⟨o,ho,_⟩:=back s o' ho';exact h.own _ o b ho hb};{obtain⟨o1,ho1,_⟩:=back s o ho;obtain⟨o2,ho2,_⟩:=back s' o' ho';have:=h.disj _ _ o1 o2 b ho1 ho2 hb hb';grind[swp_swp]}
  ·have h1:k≠i:=by omega
   have h2:k≠j:=by omega
   simp only[swp,h1,h2,if_false];exact h.inp k hk hk'
  ·obtain⟨o,ho,he⟩:=back s _ ho';cases o with
   |iter m' l' la'=>
    cases he;obtain⟨kk,es,hm⟩:=h.itm _ m' l' la' ho;exact⟨kk,_,by unfold renS;rw[swp_swp,hm];rfl⟩
   |_=>cases he
 ·rw[hfr];have:(λt=>(λt=>E (swp i j t)) (swp i j t))=E:=funext hψ;exact(vsim_ren _ _).2 (by rw[this];exact hs.slots t)
theorem sw_qt (ht:TbOk P tb) (hm:P.follows .mixedOrders=true) {id:Nat} {l:A6} (hc:(kl cx.n l&&Region.lexB .any l.toArray)=true) (h:qopsL P tb l O l Z (λZ=>Q .normal Z O) .mk):Swp P cx (.region id l.toArray true) Z O Q:=by simp only[Bool.and_eq_true] at hc;exact swp_quiet ht hm hc.1 hc.2 h
theorem lM (ht:TbOk P tb) (hm:P.follows .mixedOrders=true) {id:Nat} {l:A6} (hc:(kl cx.n l&&Region.lexB .any l.toArray)=true) (h:qopsL P tb l O l Z (λZ=>Swp P cx y Z O Q) .mk):Swp P cx (.seq (.region id l.toArray true) y) Z O Q :=
 bo (sw_qt ht hm hc h)
theorem nI (ht:TbOk P tb) (hm:P.follows .mixedOrders=true) (nT:Nat) {id:Nat} {l:A6} (hc:(kl cx.n l&&Region.lexB .any l.toArray&&decide (nT<l.toArray.size)&&chainB l.toArray nT)=true) (h:qopsL P tb l O (l.take nT) Z (λZ=>lP P cx tb l (l.drop nT) Z O (Q .normal) .mk) .mk):Swp P cx (.region id l.toArray true) Z O Q:=by simp only[Bool.and_eq_true,decide_eq_true_eq] at hc;exact swp_chain ht hm hc.1.1.1 hc.1.1.2 hc.1.2 hc.2 h
theorem qc (ht:TbOk P tb) (hm:P.follows .mixedOrders=true) (nT:Nat) {id:Nat} {l:A6} (hc:(kl cx.n l&&Region.lexB .any l.toArray&&decide (nT<l.toArray.size)&&chainB l.toArray nT)=true) (h:qopsL P tb l O (l.take nT) Z (λZ=>lP P cx tb l (l.drop nT) Z O (λZ O=>Swp P cx y Z O Q) .mk) .mk):Swp P cx (.seq (.region id l.toArray true) y) Z O Q :=
 bo (nI ht hm nT hc h)
theorem d7 {e:Exit} {K:A3} (h:Q e Z O) (he:e≠.normal:=by nofun):thenQ K Q e Z O:=by cases e<;>first|exact h|exact absurd rfl he
theorem bR {id:Nat} (h:Q .normal Z O):sC id Q (.exit id) Z O:=by simp_all[sC]
theorem blk_o {id i:Nat} (hne:i≠id) (h:Q (.exit i) Z O):sC id Q (.exit i) Z O:=by simp_all[sC]
theorem blk_g {id l:Nat} (h:Q (.goto l) Z O):sC id Q (.goto l) Z O:=h
theorem qw {id:Nat} (h:Q .ret Z O):sC id Q .ret Z O:=h
theorem cn {id:Nat} (h:Q .normal Z O):sC id Q .normal Z O:=h
theorem sw_ee (hn:dY (L.map (·.1))=true) (hm:dY (M.map (·.1))=true) (h:EE cx (bY L M) Z O) (hk:∀Z O,Fits L M Z O->Swp P cx c Z O Q):Swp P cx c Z O Q :=
 let ⟨_,_,hw,hf⟩:=h
 Swp.pre hw (sw_gen L M hn hm hf hk)
theorem sw_ent (L:Ap) (M:Al) (hn:dY (L.map (·.1))=true) (hm:dY (M.map (·.1))=true) (h:EE cx (bY L M) Z O) (hk:∀Z O,Fits L M Z O->Swp P cx c Z O Q):Swp P cx c Z O Q:=sw_ee hn hm h hk
theorem ee_bind {X:A3} (hn:dY (L.map (·.1))=true) (hm:dY (M.map (·.1))=true) (h:EE cx (bY L M) Z O) (hk:∀Z O,Fits L M Z O->EE cx X Z O):EE cx X Z O:=by obtain⟨ρ1,σ1,h1,h2⟩:=h;obtain⟨ρ2,σ2,h3,h4⟩:=fits_wk (cx:=cx) hn hm h2;grind[EE.step]
theorem sw_cutE (L:Ap) (M:Al) (hn:dY (L.map (·.1))=true) (hm:dY (M.map (·.1))=true) (h:Swp P cx x Z O (thenQ (EE cx (bY L M)) Q)) (hk:∀Z O,Fits L M Z O->Swp P cx y Z O Q):Swp P cx (.seq x y) Z O Q :=
 bo (h.mono λe Z O hq=>by
  cases e with
  |normal=>exact sw_ee hn hm hq hk|_=>exact hq)
theorem cj {S T:Type} {Ea:S->Env->Sto->Prop} {F:T->Exit->Env->Sto->Prop} {s:S} (h:Ea s Z O):Rd Ea F (.next s) .normal Z O:=⟨rfl,h⟩
theorem mH {S T:Type} {Ea:S->Env->Sto->Prop} {F:T->Exit->Env->Sto->Prop} {t:T} {e:Exit} (he:e≠.normal) (h:F t e Z O):Rd Ea F (.out t) e Z O:=⟨he,h⟩
theorem pfn_E (ht:TbOk P tb) {f:FuncId} {fn:Func} {us:Ao} {R:Az} (c:Code) (hf:P.funcs[f]?=some fn) (hb:fn.body=some c) (hname:(fn.name == "runtime.NumGoroutine")=false) (hn:us.length<=fn.ntmps) (h:∀cx:Cx,cx.n=fn.ntmps->Swp P cx c (env0 us) sto0 (λe Z O=>(e=.normal\/e=.ret)/\EE cx (λZ O=>∃v,iE tb Z O fn.results.toList=some v/\(v.frz O).free=true/\R (v.frz O)) Z O)):PFn P f us R :=
 pfn_S ht c hf hb hname hn λcx hcx=>(h cx hcx).post λ_e _ρ _σ ⟨he,Z',O',hw,hq⟩=>⟨Z',O',hw,he,hq⟩
theorem new_S (ht:TbOk P tb) {f:FuncId} {fn:Func} {us:Ao} {R:Ob->Prop} (c:Code) (hf:P.funcs[f]?=some fn) (hb:fn.body=some c) (hname:(fn.name == "runtime.NumGoroutine")=false) (hn:us.length<=fn.ntmps) (h:∀cx:Cx,cx.n=fn.ntmps->Swp P cx c (env0 us) sto0 (λe Z O=>(e=.normal\/e=.ret)/\newRes tb Z O fn.results.toList R)):NewFn P f us R:=new_intro ht hf hb hname hn h
theorem callL_new {f:FuncId} {us:Ao} {o:Ob} {d:Nat} {K:A3} {j} (h:NewFn P f us (λx=>x=o)) (hd:∀x,some d=some x->x<cx.n) (hd':d<inBase) (hk:K (upd (eY d Z) d (.u (.one (obC d o)))) (upd (cM d O) d (some o))):CallL P cx f us (some d) Z O K j :=
 callK_new h (hd d rfl) hd' λo' ho=>by subst ho;exact hk
end
def cU:A5->Code->Code|[],c=>c|0::p,.seq a _=>cU p a|1::p,.seq _ b=>cU p b|0::p,.cond _ a _=>cU p a|1::p,.cond _ _ b=>cU p b|0::p,.block _ c=>cU p c|0::p,.loop c=>cU p c|0::p,.scope c=>cU p c|_,c=>c
def bS (f:Func):Code:=f.body.getD .skip
theorem bJ {I:Type} {n:Nat} {l m r:List I} (h:dp n l m=some r):(l.length+m.length)*n<=140737488355328/\r=l++m:=by unfold dp at h;simp_all
theorem oV {I:Type} {b:Int} {n m:Int} {x:I} {r:List I} (h:mkL b n m x=some r):(0<=n/\n<=m/\m*b<=140737488355328)/\r=List.replicate n.toNat x:=by unfold mkL at h;simp_all
def rB (b:Bool):Ak:=[.bool b]
def rS {I:Type} (sz:Nat) (f:I->Ak) (l:List I):Ak:=[.sl sz (l.map f)]
theorem rI_eq (k:IntKind) (n:Int):rI k n=[.int k n]:=rfl
theorem rB_eq (b:Bool):rB b=[.bool b]:=rfl
theorem rS_eq {I:Type} (sz:Nat) (f:I->Ak) (l:List I):rS sz f l=[.sl sz (l.map f)]:=rfl
theorem FitsW_eq (L:Ap) (M:Al) (Z:Env) (O:Sto):bY L M Z O=(FitEW L Z/\FitSW M O):=rfl
theorem FitEW_nil (Z:Env):FitEW [] Z=True:=rfl
theorem FitEW_cons (t:Nat) (v:V) (l:Ap) (Z:Env):FitEW ((t,v)::l) Z=((Z t).wk v/\FitEW l Z):=rfl
theorem FitSW_nil (O:Sto):FitSW [] O=True:=rfl
theorem FitSW_cons (t:Nat) (v:Ob) (l:Al) (O:Sto):FitSW ((t,v)::l) O=(obWk (O t) (some v)/\FitSW l O):=rfl
theorem obWk_some (o o':Ob):obWk (some o) (some o')=o.wk o':=rfl
theorem Ob_wk_box (cs ds:As):Ob.wk (.box cs) (.box ds)=C.wks cs ds:=rfl
theorem Ob_wk_row (sz e sz' e':Nat) (r r':A8):Ob.wk (.row sz e r) (.row sz' e' r')=(sz=sz'/\e=e'/\dK r r'):=rfl
theorem C_wk_box (s o:Nat) (c:C):C.wk (.box s o) c=(.box s o=c):=by cases c<;>rfl
theorem C_wk_own (s:Nat) (c:C):C.wk (.own s) c=(.own s=c):=by cases c<;>rfl
theorem C_wk_fn (f:FuncId) (cs:As) (c:C):C.wk (.fn f cs) c=(.fn f cs=c):=by cases c<;>rfl
theorem frzE_apply (s:Nat) (x:L) (Z:Env) (t:Nat):frzE s x Z t=(Z t).frz1 s x:=rfl
theorem frzS_apply (s:Nat) (x:L) (O:Sto) (t:Nat):frzS s x O t=(iK s O t).map (Ob.frz1 s x):=rfl
theorem dropS_apply (s:Nat) (O:Sto) (t:Nat):iK s O t=if t=s then none else O t:=rfl
attribute [simp] frzE_apply frzS_apply dropS_apply Ob.frz1
theorem obC_row (d sz e:Nat) (rows:A8):obC d (.row sz e rows)=.own d:=rfl
attribute [simp] obC_row tQ newRes
attribute [simp] rI_eq rB_eq rS_eq FitsW_eq FitEW_nil FitEW_cons FitSW_nil FitSW_cons obWk_some Ob_wk_box Ob_wk_row C_wk_box C_wk_own C_wk_fn
attribute [simp] V.ren U.ren U.rens C.ren C.rens Ob.ren
