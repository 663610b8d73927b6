/- Lemmas for the law. -/
import Derived.Test.YtpeabgakdpojlaaGreatDoorAmAr
import Derived.Test.YtpeabgakdpojlaaGreatDoorAmY
namespace Go.AM
open Go.RowKit
mutual
def C.inN (n:Nat):C->Bool|.box t _|.own t|.elt t _ _ _|.map t|.iter t|.sub t _ _ _=>decide (inBase<=t)&&decide (t<inBase+n)|.fn _ caps=>C.inNs n caps|_=>true
def C.inNs (n:Nat):As->Bool|[]=>true|c::cs=>C.inN n c&&C.inNs n cs
end
def U.inN (n:Nat):U->Bool|.one c=>c.inN n|.agg cs=>C.inNs n cs
def V.inN (n:Nat):V->Bool|.u x=>x.inN n|.tup us=>us.all (U.inN n)
def Ob.inN (n:Nat):Ob->Bool|.box cs=>C.inNs n cs|.row _ _ _=>true|.map _ es=>es.all λx=>x.2.inN n|.iter _ _ _=>false|.nest _ _ _ els=>els.all NE.closed
section
variable {E J:A7} {w:World} {F:Ad} {n:Nat} {g:Aj}
mutual
theorem csim_agree (h:∀t,inBase<=t->t<inBase+n->J (g t)=E t):∀(c:C) (v:Value),c.inN n=true->bG E w F c v->bG J w F (c.ren g) v|.top,v,_,_=>by simp[bG,C.ren]|.d x,v,_,hv=>by simpa [bG,C.ren] using hv|.ref xs off,v,_,hv=>by simpa [bG,C.ren] using hv|.box t off,v,hm,hv=>by simp only[C.inN,Bool.and_eq_true,decide_eq_true_eq] at hm;simpa [bG,C.ren,h t hm.1 hm.2] using hv|.own t,v,hm,hv=>by simp only[C.inN,Bool.and_eq_true,decide_eq_true_eq] at hm;simpa [bG,C.ren,h t hm.1 hm.2] using hv|.elt t i z off,v,hm,hv=>by simp only[C.inN,Bool.and_eq_true,decide_eq_true_eq] at hm;simpa [bG,C.ren,h t hm.1 hm.2] using hv|.map t,v,hm,hv=>by simp only[C.inN,Bool.and_eq_true,decide_eq_true_eq] at hm;simpa [bG,C.ren,h t hm.1 hm.2] using hv|.nilmap,v,_,hv=>by simpa [bG,C.ren] using hv|.iter t,v,hm,hv=>by simp only[C.inN,Bool.and_eq_true,decide_eq_true_eq] at hm;simpa [bG,C.ren,h t hm.1 hm.2] using hv|.sub t z a k,v,hm,hv=>by simp only[C.inN,Bool.and_eq_true,decide_eq_true_eq] at hm;simpa [bG,C.ren,h t hm.1 hm.2] using hv|.opq u,v,_,hv=>by simpa [bG,C.ren] using hv|.fn f caps,v,hm,hv=>by simp only[bG,C.inN,C.ren] at hm hv⊢;obtain⟨arr,rfl,hc⟩:=hv;exact⟨arr,rfl,s4 h caps _ hm hc⟩
theorem s4 (h:∀t,inBase<=t->t<inBase+n->J (g t)=E t):∀(cs:As) (vs:A9),C.inNs n cs=true->bB E w F cs vs->bB J w F (C.rens g cs) vs|[],vs,_,hv=>by simpa [bB,C.rens] using hv|c::cs,vs,hm,hv=>by simp only[C.inNs,Bool.and_eq_true] at hm;simp only[bB,C.rens] at hv⊢;obtain⟨v,r,rfl,hc,hcs⟩:=hv;exact⟨v,r,rfl,csim_agree h c v hm.1 hc,s4 h cs r hm.2 hcs⟩
end
theorem usim_agree (h:∀t,inBase<=t->t<inBase+n->J (g t)=E t) (x:U) (v:Value) (hm:x.inN n=true) (hv:ct E w F x v):ct J w F (x.ren g) v:=by
 cases x with
 |one c=>exact csim_agree h c v hm hv|agg cs=>obtain⟨arr,rfl,hc⟩:=hv;exact⟨arr,rfl,s4 h cs _ hm hc⟩
theorem usims_agree (h:∀t,inBase<=t->t<inBase+n->J (g t)=E t):∀(us:List U) (vs:A9),us.all (U.inN n)=true->iN E w F us vs->iN J w F (U.rens g us) vs|[],_,_,hv=>hv|x::us,vs,hm,hv=>by simp only[List.all_cons,Bool.and_eq_true] at hm;obtain⟨v,r,rfl,hc,hcs⟩:=hv;exact⟨v,r,rfl,usim_agree h x v hm.1 hc,usims_agree h us r hm.2 hcs⟩
theorem vsim_agree (h:∀t,inBase<=t->t<inBase+n->J (g t)=E t) (x:V) (v:Value) (hm:x.inN n=true) (hv:bI E w F x v):bI J w F (x.ren g) v:=by
 cases x with
 |u x=>exact usim_agree h x v hm hv|tup us=>obtain⟨arr,rfl,hc⟩:=hv;exact⟨arr,rfl,usims_agree h us _ hm hc⟩
theorem esims_agree (h:∀t,inBase<=t->t<inBase+n->J (g t)=E t):∀{es:Am} {l:List MapEntry},(es.all λx=>x.2.inN n)=true->fL E w F es l->fL J w F (es.map λx=>(x.1,x.2.ren g)) l|[],_,_,hs=>hs|x::es,l,hm,hs=>by simp only[List.all_cons,Bool.and_eq_true] at hm;obtain⟨e,r,rfl,hk,hv,hs⟩:=hs;exact⟨e,r,rfl,hk,usim_agree h _ _ hm.1 hv,esims_agree h hm.2 hs⟩
theorem osim_agree (h:∀t,inBase<=t->t<inBase+n->J (g t)=E t) {s:Nat} (hs:inBase<=s/\s<inBase+n) {o:Ob} (hm:o.inN n=true) (ho:kq E w F s o):kq J w F (g s) (o.ren g):=by
 have hp:=h s hs.1 hs.2;cases o with
 |box cs=>
  obtain⟨b,arr,t,h1,h2,h3,h4⟩:=ho;exact⟨b,arr,t,hp.trans h1,h2,s4 h cs _ hm h3,h4⟩
 |row sz e rows=>
  obtain⟨h1,h2⟩:=ho;refine⟨h1,?_⟩;grind[k9]
 |map kk es=>
  obtain⟨b,ents,clk,h1,h2,h3,h4,h5,h6,h7⟩:=ho;refine⟨b,ents,clk,hp.trans h1,h2,esims_agree h hm h3,h4,h5,?_,?_⟩;{grind};grind
 |iter m l la=>(cases hm)|nest e ie sz els=>obtain⟨out,ivs,cs,h1,h2,h3,h4⟩:=ho;simp only[Ob.ren,closed_ren hm];exact⟨out,ivs,cs,hp.trans h1,by rw[hp];exact h2,h3,nsims_closed hm h4⟩
end
def C.frzL (O:Sto) (c:C):C:=match c with
 |.own s=>if s<inBase then(match O s with
  |some (.row sz _ rows)=>.d (.sl sz rows)|_=>.own s)else .own s
 |c=>c
def U.frzL (O:Sto):U->U|.one c=>.one (c.frzL O)|.agg cs=>.agg (cs.map (C.frzL O))
def V.frzL (O:Sto):V->V|.u x=>.u (x.frzL O)|.tup us=>.tup (us.map (U.frzL O))
section
variable {E:A7} {w:World} {cx:Cx} {O:Sto} {F':Ad}
theorem csim_frzL (hco:Core cx E O w) (hF:∀b,cx.fr E O b->b<w.heap.size->F' b) (ho:∀s o b,s<inBase->O s=some o->hbl (E s) b->F' b) (c:C) (v:Value) (h:bG E w (cx.fr E O) c v):bG E w F' (c.frzL O) v:=by
 have K:Keep (cx.fr E O) F' w w:=⟨Nat.le_refl _,λ_ _ _=>rfl,hF⟩
 cases c with
 |own s=>simp only[C.frzL];split;{rename_i hlt;split;{rename_i sz e rows hs;simp only[bG] at h⊢;obtain⟨rfl,_⟩:=h;obtain⟨hl,hr⟩:=hco.objs s _ hs;simp only[rep];rcases hr with⟨rfl,a,ha⟩|⟨b,cap,cur,h0,hp,hle,hm,hh,hsz,hc⟩;{exact⟨a,0,0,(by rw[ha];rfl),rfl,Nat.le_refl _,Nat.zero_le _,.inl rfl⟩};{refine⟨_,_,cap,(by rw[hp];rfl),rfl,hle,hm,.inr ⟨b,0,rfl,ho s _ b hlt hs (by rw[hp];simp only[hbl_slice];grind),(Array.getElem?_eq_some_iff.1 hh).1,?_⟩⟩;have hc':=cF K _ _ hc;exact nF hl (ib hh hc' (jm hc'))}};{exact eB K _ _ h}};{exact eB K _ _ h}|_=>exact eB K _ _ h
theorem csims_frzL (hco:Core cx E O w) (hF:∀b,cx.fr E O b->b<w.heap.size->F' b) (ho:∀s o b,s<inBase->O s=some o->hbl (E s) b->F' b):∀(cs:As) (vs:A9),bB E w (cx.fr E O) cs vs->bB E w F' (cs.map (C.frzL O)) vs|[],_,h=>h|c::cs,vs,h=>by simp only[bB] at h;obtain⟨v,r,rfl,hc,h⟩:=h;simp only[List.map_cons,bB];exact⟨v,r,rfl,csim_frzL hco hF ho c v hc,csims_frzL hco hF ho cs r h⟩
theorem usim_frzL (hco:Core cx E O w) (hF:∀b,cx.fr E O b->b<w.heap.size->F' b) (ho:∀s o b,s<inBase->O s=some o->hbl (E s) b->F' b) (x:U) (v:Value) (h:ct E w (cx.fr E O) x v):ct E w F' (x.frzL O) v:=by
 cases x with
 |one c=>exact csim_frzL hco hF ho c v h|agg cs=>obtain⟨arr,rfl,hc⟩:=h;exact⟨arr,rfl,csims_frzL hco hF ho cs _ hc⟩
theorem usims_frzL (hco:Core cx E O w) (hF:∀b,cx.fr E O b->b<w.heap.size->F' b) (ho:∀s o b,s<inBase->O s=some o->hbl (E s) b->F' b):∀(us:List U) (vs:A9),iN E w (cx.fr E O) us vs->iN E w F' (us.map (U.frzL O)) vs|[],_,h=>h|x::us,vs,h=>by obtain⟨v,r,rfl,hx,h⟩:=h;exact⟨v,r,rfl,usim_frzL hco hF ho x v hx,usims_frzL hco hF ho us r h⟩
theorem vsim_frzL (hco:Core cx E O w) (hF:∀b,cx.fr E O b->b<w.heap.size->F' b) (ho:∀s o b,s<inBase->O s=some o->hbl (E s) b->F' b) (x:V) (v:Value) (h:bI E w (cx.fr E O) x v):bI E w F' (x.frzL O) v:=by
 cases x with
 |u x=>exact usim_frzL hco hF ho x v h|tup us=>obtain⟨arr,rfl,hc⟩:=h;exact⟨arr,rfl,usims_frzL hco hF ho us _ hc⟩
end
structure GIn (E:A7) (w:World) (F:Ad) (ins:Ax):Prop where
 objs:∀i o,ins[i]?=some o->kq E w (λb=>F b/\¬ fF E ins b) (inBase+i) o
 blk:∀i o b,ins[i]?=some o->hbl (E (inBase+i)) b->b<w.heap.size
 disj:∀i j o o' b,ins[i]?=some o->ins[j]?=some o'->hbl (E (inBase+i)) b->hbl (E (inBase+j)) b->i=j
 plain:∀o∈ins,o.inN ins.length=true
 glob:∀i o b,ins[i]?=some o->hbl (E (inBase+i)) b->glow<=b
def mE (E:A7) (outs:AA) (b:Nat):Prop:=∃i o,outs[i]?=some (some o)/\hbl (E (inBase+i)) b
def GFn (P:Program) (f:FuncId) (us:Ao) (ins:Ax) (v:V) (outs:AA):Prop :=(∃fn,P.funcs[f]?=some fn/\(fn.name == "runtime.NumGoroutine")=false/\fn.body.isNone=false)/\ins.length<=outs.length/\v.inN outs.length=true/\(∀(j:Nat) (o:Ob),outs[j]?=some (some o)->o.inN outs.length=true) /\ ∀(E:A7) (w:World) (F:Ad),Fr w F->GIn E w F ins -> ∀vals:A9,vals.length=us.length->(∀(i:Nat) (x:V) (u:Value),us[i]?=some x->vals[i]?=some u->bI E w (λb=>F b/\¬ fF E ins b) x u) ->
  Calls P f vals.toArray w λe w'=>∃u E',e=.returned u/\Chg E ins w w'/\(∀i,i<ins.length->veq (E (inBase+i)) (E' (inBase+i))) /\ (∀j o,outs[j]?=some (some o)->kq E' w' (λb=>(F b\/fF E ins b)/\¬ mE E' outs b) (inBase+j) o) /\ (∀j o b,outs[j]?=some (some o)->hbl (E' (inBase+j)) b->(w.heap.size<=b\/fF E ins b)/\b<w'.heap.size) /\ (∀i j o o' b,outs[i]?=some (some o)->outs[j]?=some (some o')->hbl (E' (inBase+i)) b->hbl (E' (inBase+j)) b->i=j) /\
   bI E' w' (λb=>(F b\/fF E ins b)/\¬ mE E' outs b) v u
section
variable {P:Program} {tb:Tb} {cx:Cx} {Z:Env} {O:Sto} {K:A3} {E:A7} {w w':World} {F:Ad} {ins:Ax} {outs:AA}
theorem gcore_in (h:GIn E w F ins) (q:Gq w F E ins) (n:Nat):Core (cxIn w F E ins q n) E (stoIn ins) w:=by refine⟨rfl,rfl,rfl,Nat.le_refl _,Nat.le_refl _,λ_ _ _=>rfl,λs o hs=>?_,λs o b hs hb=>?_,λs s' o o' b hs hs' hb hb'=>?_,λ_ _ _=>.refl _,λs m left last hs=>?_⟩;{obtain⟨i,rfl,hi⟩:=oF hs;refine fy ⟨Nat.le_refl _,λ_ _ _=>rfl,λb hb _=>⟨.inl hb,λho=>hb.2 (owned_stoIn.1 ho)⟩⟩ (h.objs i o hi) (λ_ _=>rfl) (λ_ _ _ _ _ _=>rfl)};{obtain⟨i,rfl,hi⟩:=oF hs;exact⟨.inr ⟨i,o,hi,hb⟩,h.blk i o b hi hb⟩};{obtain⟨i,rfl,hi⟩:=oF hs;obtain⟨j,rfl,hj⟩:=oF hs';rw[h.disj i j o o' b hi hj hb hb']};{obtain⟨i,rfl,hi⟩:=oF hs;have:=h.plain _ (List.mem_of_getElem? hi);cases this}
theorem gsim_in (h:GIn E w F ins) (q:Gq w F E ins) {us:Ao} {vals:A9} {n:Nat} (hn:us.length<=n) (hl:vals.length=us.length) (hv:∀(i:Nat) (x:V) (u:Value),us[i]?=some x->vals[i]?=some u->bI E w (λb=>F b/\¬ fF E ins b) x u) :
  Sim (cxIn w F E ins q n) E (env0 us) (stoIn ins) { tmps:=vals.toArray++Array.replicate (n-vals.toArray.size) undef,defers:=[] } w:=by
 refine⟨gcore_in h q n,λt=>?_,rfl,by show n<=_;simp;omega⟩;unfold env0;split
 ·rename_i v hvt;have hlt:t<us.length:=(List.getElem?_eq_some_iff.1 hvt).1;have hu:vals[t]?=some vals[t]:=List.getElem?_eq_getElem (by omega);have:=hv t v _ hvt hu;have he:(vals.toArray++Array.replicate (n-vals.toArray.size) undef).getD t undef=vals[t]:=by simp_all[Array.getElem?_append_left]
  simp only[he];exact fb ⟨Nat.le_refl _,λ_ _ _=>rfl,λb hb _=>⟨.inl hb,λho=>hb.2 (owned_stoIn.1 ho)⟩⟩ _ _ this
 ·exact vsim_top _
def gout (outs:AA) (O:Sto):Prop:=∀j o,outs[j]?=some (some o)->obWk (O (inBase+j)) (some o)
theorem g_intro (ht:TbOk P tb) {f:FuncId} {fn:Func} {us:Ao} {v:V} (c:Code) (hf:P.funcs[f]?=some fn) (hb:fn.body=some c) (hname:(fn.name == "runtime.NumGoroutine")=false) (hn:us.length<=fn.ntmps) (hlen:ins.length<=outs.length) (hvN:v.inN outs.length=true) (hoN:outs.all (λo=>match o with|some o=>o.inN outs.length|none=>true)=true) (h:∀cx:Cx,cx.n=fn.ntmps->cx.k=ins.length->Swp P cx c (env0 us) (stoIn ins) (λe Z O=>(e=.normal\/e=.ret)/\EE cx (λZ O=>∃v',iE tb Z O fn.results.toList=some v'/\(v'.frzL O).wk v/\gout outs O) Z O)):GFn P f us ins v outs:=by
 have hoN':∀(j:Nat) (o:Ob),outs[j]?=some (some o)->o.inN outs.length=true:=λj o ho=>by have:=List.all_eq_true.1 hoN _ (List.mem_of_getElem? ho);exact this
 refine⟨⟨fn,hf,hname,by rw[hb];rfl⟩,hlen,hvN,hoN',λE w F hF hin vals hl hv=>?_⟩;have q:=Gq.of hF hin.glob;have hpost:=(h (cxIn w F E ins q fn.ntmps) rfl rfl).post (Q':=λe Z O=>(e=.normal\/e=.ret)/\∃v',iE tb Z O fn.results.toList=some v'/\(v'.frzL O).wk v/\gout outs O) λe Z O ⟨he,Z',O',hw,hq⟩=>⟨Z',O',hw,he,hq⟩
 refine calls_of_wp hf hb (wp_mono (hpost E _ w (gsim_in hin q hn hl hv)) λe a' w' ⟨h1,h2,E',Z',O',hs',he,v',hres,hwk,hout⟩=>?_);obtain⟨u,hru,hvu⟩:=mU ht hs' hres;have hchg:Chg E ins w w':=⟨hs'.core.os,hs'.core.tape,hs'.core.output,hs'.core.drawn,hs'.core.size,λb hb hni=>hs'.core.block b hb hni⟩
 have hob:∀j o,outs[j]?=some (some o)->∃o',O' (inBase+j)=some o'/\o'.wk o:=λj o ho=>by
  have:=hout j o ho;cases hh:O' (inBase+j)with
  |none=>rw[hh] at this;exact this.elim|some o'=>simp_all
 have hsub:∀b,(cxIn w F E ins q fn.ntmps).fr E' O' b->b<w'.heap.size->(F b\/fF E ins b)/\¬ mE E' outs b:=by intro b hb _;refine⟨?_,?_⟩;{rcases hb.1 with h|h|h;{exact .inl h.1};{exact .inl (hF b h)};{exact .inr h}};{rintro⟨j,o,ho,hbk⟩;obtain⟨o',ho',_⟩:=hob j o ho;exact hb.2 ⟨_,o',ho',hbk⟩}
 have K:Keep ((cxIn w F E ins q fn.ntmps).fr E' O') (λb=>(F b\/fF E ins b)/\¬ mE E' outs b) w' w':=⟨Nat.le_refl _,λ_ _ _=>rfl,hsub⟩
 have hvf:bI E' w' (λb=>(F b\/fF E ins b)/\¬ mE E' outs b) v u:=by refine vsim_wk hwk (vsim_frzL hs'.core hsub (λs o b hlt hso hbk=>?_) _ _ hvu);refine⟨?_,?_⟩;{rcases (hs'.core.own s o b hso hbk).1 with h|h;{exact .inl (hF b h)};{exact .inr h}};{rintro⟨j,o2,ho2,hbk2⟩;obtain⟨o3,ho3,_⟩:=hob j o2 ho2;have:=hs'.core.disj _ _ _ _ b hso ho3 hbk hbk2;omega}
 have fin:∃u' E'',Ending.returned u=Ending.returned u'/\Chg E ins w w'/\(∀i,i<ins.length->veq (E (inBase+i)) (E'' (inBase+i))) /\ (∀j o,outs[j]?=some (some o)->kq E'' w' (λb=>(F b\/fF E ins b)/\¬ mE E'' outs b) (inBase+j) o) /\ (∀j o b,outs[j]?=some (some o)->hbl (E'' (inBase+j)) b->(w.heap.size<=b\/fF E ins b)/\b<w'.heap.size) /\ (∀i j o o' b,outs[i]?=some (some o)->outs[j]?=some (some o')->hbl (E'' (inBase+i)) b->hbl (E'' (inBase+j)) b->i=j) /\
   bI E'' w' (λb=>(F b\/fF E ins b)/\¬ mE E'' outs b) v u':=by refine⟨u,E',rfl,hchg,λi hi=>hs'.core.inp _ (by omega) (by show _<inBase+ins.length;omega),λj o ho=>?_,λj o b ho hb=>?_,λi j o o' b hi hj hbi hbj=>?_,hvf⟩;{obtain⟨o',ho',hw⟩:=hob j o ho;exact osim_wk hw (fy K (hs'.core.objs _ _ ho') (λ_ _=>rfl) (λ_ _ _ _ _ _=>rfl))};{obtain⟨o',ho',_⟩:=hob j o ho;exact hs'.core.own _ o' b ho' hb};{obtain⟨o1,ho1,_⟩:=hob i o hi;obtain⟨o2,ho2,_⟩:=hob j o' hj;have:=hs'.core.disj _ _ o1 o2 b ho1 ho2 hbi hbj;omega}
 rcases he with rfl|rfl;{exact⟨hs'.defers,u,hru,fin⟩};{exact⟨hs'.defers,u,hru,fin⟩}
end
def gN (ns:A5) (t:Nat):Nat:=if inBase<=t then ns.getD (t-inBase) t else t
def wipeLV (ds:A5) (v:V):V:=ds.foldl (λv d=>v.wipe d) v
def lh (ds:A5) (o:Ab):Ab:=ds.foldl (λo d=>o.bind (Ob.wipe d)) o
def gE (news:A5) (Z:Env):Env:=λt=>wipeLV news (Z t)
def gS (names news:A5) (outs:AA) (O:Sto):Sto:=λt=>match (names++news).findIdx? (· == t)with|some j=>(outs.getD j none).map (Ob.ren (gN (names++news)))|none=>lh news (dropN names O t)
theorem gN_at {ns:A5} {i s:Nat} (h:ns[i]?=some s):gN ns (inBase+i)=s:=by simp_all[gN]
theorem findIdx_at {ns:A5} (hn:ns.Nodup) {i s:Nat} (h:ns[i]?=some s):ns.findIdx? (· == s)=some i:=by
 have hi:=(List.getElem?_eq_some_iff.1 h).1;rw[List.findIdx?_eq_some_iff_getElem];refine⟨hi,by simp_all,λj hj=>?_⟩;have hs:=(List.getElem?_eq_some_iff.1 h).2;simp only[beq_iff_eq];intro he;have h1:ns[j]?=some s:=by grind
 grind[List.getElem?_inj]
theorem pP {ns:A5} {t:Nat} (h:t ∉ ns):ns.findIdx? (· == t)=none:=by grind
section
variable {E J:A7} {w:World} {F:Ad}
theorem vsim_wipeL:∀(ds:A5) {E:A7},(∀t,t ∉ ds->J t=E t)->∀(v:V) (u:Value),bI E w F v u->bI J w F (wipeLV ds v) u|[],E,h,v,u,hv=>by have:J=E:=funext λt=>h t (by simp);subst this;exact hv|d::ds,E,h,v,u,hv=>by have h1:bI (upd E d (J d)) w F (v.wipe d) u:=qg (λt ht=>bz _ _ ht) v u hv;exact vsim_wipeL ds (E:=upd E d (J d)) (λt ht=>by grind[upd_same,bz]) (v.wipe d) u h1
theorem pg (ds:A5):lh ds none=none:=by
 induction ds with
 |nil=>rfl|cons d ds ih=>exact ih
theorem osim_wipeL:∀(ds:A5) {E:A7},(∀t,t ∉ ds->J t=E t)->∀{t:Nat} {o o':Ob},t ∉ ds->kq E w F t o->lh ds (some o)=some o'->kq J w F t o'
 |[],E,h,t,o,o',_,ho,hw=>by
  have:J=E:=funext λt=>h t (by simp);subst this;cases hw;exact ho
 |d::ds,E,h,t,o,o',ht,ho,hw=>by
  simp only[List.mem_cons,not_or] at ht;have hw':lh ds (o.wipe d)=some o':=hw;cases hod:o.wipe d with
  |none=>simp_all[pg]|some o1=>rw[hod] at hw';have h1:kq (upd E d (J d)) w F t o1:=tg (λt ht=>bz _ _ ht) ht.1 ho hod;exact osim_wipeL ds (E:=upd E d (J d)) (λt ht=>by grind[upd_same,bz]) ht.2 h1 hw'
theorem wipeLO_some {ds:A5} {o:Ab} {o':Ob} (h:lh ds o=some o'):∃o1,o=some o1:=by
 cases o with
 |none=>(rw[pg] at h;cases h)|some o1=>simp
theorem wipe_iter {d:Nat} {o:Ob} {m:Nat} {l:Am} {la:Option (Key×U)} (h:o.wipe d=some (.iter m l la)):m≠d/\∃l' la',o=.iter m l' la':=by
 cases o with
 |iter m' l' la'=>simp only[Ob.wipe] at h;grind|_=>simp[Ob.wipe] at h
theorem wipeLO_iter:∀{ds:A5} {o:Ob} {m:Nat} {l:Am} {la:Option (Key×U)},lh ds (some o)=some (.iter m l la)->m ∉ ds/\∃l' la',o=.iter m l' la'
 |[],o,m,l,la,h=>by cases h;simp
 |d::ds,o,m,l,la,h=>by
  have h':lh ds (o.wipe d)=some (.iter m l la):=h;cases ho:o.wipe d with
  |none=>simp_all[pg]|some o1=>rw[ho] at h';obtain⟨h1,l1,la1,rfl⟩:=wipeLO_iter h';obtain⟨h2,l2,la2,rfl⟩:=wipe_iter ho;simp_all
theorem wipeLO_map:∀(ds:A5) (kk:KK) (es:Am),∃es',lh ds (some (.map kk es))=some (.map kk es')|[],_kk,es=>⟨es,rfl⟩|d::ds,kk,es=>wipeLO_map ds kk (es.map λx:Key×U=>(x.1,x.2.wipe d))
theorem esims_unren {f:Aj}:∀{es:Am} {l:List MapEntry},fL E w F (es.map λx=>(x.1,x.2.ren f)) l->fL (λt=>E (f t)) w F es l|[],_,h=>h|x::es,l,h=>by obtain⟨e,r,rfl,hk,hv,h⟩:=h;exact⟨e,r,rfl,hk,(usim_ren _ _).1 hv,esims_unren h⟩
theorem osim_unren {f:Aj} {s:Nat} {o:Ob} (hit:∀m l la,o≠.iter m l la) (ho:kq E w F (f s) (o.ren f)):kq (λt=>E (f t)) w F s o:=by
 cases o with
 |box cs=>
  obtain⟨b,arr,t,h1,h2,h3,h4⟩:=ho;exact⟨b,arr,t,h1,h2,(sW cs _).1 h3,h4⟩
 |row sz e rows=>
  obtain⟨h1,h2⟩:=ho;refine⟨h1,?_⟩;grind[k9]
 |map kk es=>
  obtain⟨b,ents,clk,h1,h2,h3,h4,h5,h6,h7⟩:=ho;refine⟨b,ents,clk,h1,h2,esims_unren h3,h4,h5,?_,?_⟩;{grind[List.mem_map_of_mem]};grind
 |iter m l la=>simp_all|nest e ie sz els=>obtain⟨out,ivs,cs,h1,h2,h3,h4⟩:=ho;exact⟨out,ivs,cs,h1,h2,by simpa using h3,nsims_ren.1 h4⟩
end
section
variable {P:Program} {tb:Tb} {cx:Cx} {Z:Env} {O:Sto} {K:A3} {E:A7} {w w':World} {ins:Ax} {outs:AA}
theorem callS_g {f:FuncId} {us:Ao} {v:V} {d:Ac} (h:GFn P f us ins v outs) (names news:A5) (hl:names.length=ins.length) (hl':(names++news).length=outs.length) (hnd:dY (names++news)=true) (hσ:∀(i s:Nat) (o:Ob),names[i]?=some s->ins[i]?=some o->O s=some (o.ren (gN (names++news)))) (hpl:ins.all (λo=>o.inN ins.length)=true) (hnew:news.all (λd=>decide (d<inBase))=true) (hd:∀x,d=some x->x<cx.n):(∃fn,P.funcs[f]?=some fn/\(fn.name == "runtime.NumGoroutine")=false/\fn.body.isNone=false) /\ ∀(E:A7) (a:Act) (w:World),Sim cx E Z O a w->∀vals:A9,vals.length=(us.map (V.ren (gN (names++news)))).length->(∀(i:Nat) (x:V) (u:Value),(us.map (V.ren (gN (names++news))))[i]?=some x->vals[i]?=some u->bI E w (cx.fr E O) x u) -> ∀(next:Act->World->Prop),(∀E' a' w',(∀t,t ∉ names++news->E' t=E t)->Sim cx E' (cK (gE news Z) d (v.ren (gN (names++news)))) (gS names news outs O) a' w'->next a' w')->Calls P f vals.toArray w λe w'=>∃v,e=.returned v/\next (a.put d v) w':=by
 obtain⟨hfn,hlen,hvN,hoN,h⟩:=h;refine⟨hfn,λE a w hs vals hvl hv next hn=>?_⟩;have hco:=hs.core;have nd:(names++news).Nodup:=nY hnd;have hplain:∀o∈ins,o.inN ins.length=true:=λo ho=>List.all_eq_true.1 hpl o ho;have hnewlt:∀d∈news,d<inBase:=λd hd=>by simp_all
 have hit:∀o∈ins,∀m l la,o≠.iter m l la:=λo ho m l la he=>by have:=hplain o ho;rw[he] at this;cases this
 let g:=gN (names++news);have hat:∀i s,names[i]?=some s->g (inBase+i)=s:=λi s hi=>gN_at (by grind);have hname:∀(i:Nat) (o:Ob),ins[i]?=some o->∃s,names[i]?=some s/\O s=some (o.ren g):=λi o hi=>by
  have hlt:i<names.length:=by grind
  exact⟨_,List.getElem?_eq_getElem hlt,hσ i _ o (List.getElem?_eq_getElem hlt) hi⟩
 have hins:∀(i s:Nat),names[i]?=some s->∃o:Ob,ins[i]?=some o/\O s=some (o.ren g):=λi s hi=>by
  have hlt:i<ins.length:=by grind
  exact⟨_,List.getElem?_eq_getElem hlt,hσ i s _ hi (List.getElem?_eq_getElem hlt)⟩
 have inb:∀b,fF (λt=>E (g t)) ins b↔∃s o,s∈names/\O s=some o/\hbl (E s) b:=λb=>by constructor;{rintro⟨i,o,hi,hb⟩;grind};{rintro⟨s,o,hs1,hs2,hb⟩;obtain⟨i,hi⟩:=List.getElem?_of_mem hs1;obtain⟨o',ho1,ho2⟩:=hins i s hi;exact⟨i,o',ho1,by grind⟩}
 have frni:∀b,cx.fr E O b->¬ fF (λt=>E (g t)) ins b:=λb hb hi=>by obtain⟨s,o,_,ho,hbk⟩:=(inb b).1 hi;exact hb.2 ⟨s,o,ho,hbk⟩
 have hgin:GIn (λt=>E (g t)) w (λb=>cx.fr E O b\/fF (λt=>E (g t)) ins b) ins:=by refine⟨λi o hi=>?_,λi o b hi hb=>?_,λi j o o' b hi hj hb hb'=>?_,hplain,λi o b hi hb=>by obtain⟨s,hs1,hs2⟩:=hname i o hi;simp only[hat i s hs1] at hb;exact hco.glob hs2 hb⟩;{obtain⟨s,hs1,hs2⟩:=hname i o hi;have:=hco.objs s _ hs2;rw[<- hat i s hs1] at this;exact fy ⟨Nat.le_refl _,λ_ _ _=>rfl,λb hb _=>⟨.inl hb,frni b hb⟩⟩ (osim_unren (hit o (List.mem_of_getElem? hi)) this) (λ_ _=>rfl) (λ_ _ _ _ _ _=>rfl)};{obtain⟨s,hs1,hs2⟩:=hname i o hi;simp only[hat i s hs1] at hb;exact(hco.own s _ b hs2 hb).2};{obtain⟨s,hs1,hs2⟩:=hname i o hi;obtain⟨s',hs1',hs2'⟩:=hname j o' hj;simp only[hat i s hs1] at hb;simp only[hat j s' hs1'] at hb';have:=hco.disj s s' _ _ b hs2 hs2' hb hb';grind[List.getElem?_inj]}
 refine(h (λt=>E (g t)) w _ ⟨λb hb=>.inl (hco.new b hb),hco.gw.mono λb hb=>.inl hb⟩ hgin vals (by simpa using hvl) (λi x u hx hu=>?_)).mono λ_ w' ⟨u,E',he,hc,hEi,hob,hobk,hdj,hvs⟩=>⟨u,he,?_⟩
 ·have:=hv i (x.ren g) u (by grind) hu;exact fb ⟨Nat.le_refl _,λ_ _ _=>rfl,λb hb _=>⟨.inl hb,frni b hb⟩⟩ _ _ ((vsim_ren x u).1 this)
 let J:A7:=λt=>match names.findIdx? (· == t)with|some j=>E' (inBase+j)|none=>E t
 have hJn:∀t,t ∉ names->J t=E t:=λt ht=>by simp only[J,pP ht]
 have hJi:∀j s,names[j]?=some s->J s=E' (inBase+j):=λj s hj=>by simp only[J,findIdx_at (List.nodup_append.1 nd).1 hj]
 have hv':∀t,veq (E t) (J t):=λt=>by by_cases ht:t∈names;{obtain⟨j,hj⟩:=List.getElem?_of_mem ht;rw[hJi j t hj];have h1:veq (E (g (inBase+j))) (E' (inBase+j)):=hEi j (by grind);rwa [hat j t hj] at h1};{rw[hJn t ht];exact .refl _}
 let E'':A7:=λt=>match news.findIdx? (· == t)with|some j=>E' (inBase+(names.length+j))|none=>J t
 have hnn:∀s,s∈names->s ∉ news:=λs h1 h2=>(List.nodup_append.1 nd).2.2 s h1 s h2 rfl;have hEn:∀t,t ∉ news->E'' t=J t:=λt ht=>by simp only[E'',pP ht]
 have hEo:∀t,t ∉ names++news->E'' t=E t:=λt ht=>by rw[hEn t λhh=>ht (List.mem_append_right _ hh),hJn t λhh=>ht (List.mem_append_left _ hh)]
 have hagree:∀t,inBase<=t->t<inBase+outs.length->E'' (g t)=E' t:=λt h1 h2=>by
  obtain⟨j,rfl⟩:∃j,t=inBase+j:=⟨t-inBase,by omega⟩
  have hj:j<(names++news).length:=by rw[hl'];omega
  by_cases hjn:j<names.length;{have hj':names[j]?=some names[j]:=List.getElem?_eq_getElem hjn;rw[hat j _ hj',hEn _ (hnn _ (List.mem_of_getElem? hj')),hJi j _ hj']}
  ·have hlt:j-names.length<news.length:=by grind
   have hnj:news[j-names.length]?=some news[j-names.length]:=List.getElem?_eq_getElem hlt;have:g (inBase+j)=news[j-names.length]:=gN_at (by grind);rw[this];simp only[E'',findIdx_at (List.nodup_append.1 nd).2.1 hnj];rw[show names.length+(j-names.length)=j from by omega]
 have hin:∀t j,(names++news)[j]?=some t->gS names news outs O t=(outs.getD j none).map (Ob.ren g):=λt j hj=>by simp only[gS,findIdx_at nd hj];rfl
 have hout:∀t,t ∉ names++news->gS names news outs O t=lh news (dropN names O t):=λt ht=>by simp only[gS,pP ht]
 have cases':∀t o,gS names news outs O t=some o->(∃j o',outs[j]?=some (some o')/\t=g (inBase+j)/\o=o'.ren g)\/(t ∉ names++news/\∃o',O t=some o'/\dropN names O t=some o'/\lh news (some o')=some o):=λt o ho=>by by_cases ht:t∈names++news;{obtain⟨j,hj⟩:=List.getElem?_of_mem ht;rw[hin t j hj] at ho;cases hoj:outs.getD j none with|none=>grind|some o'=>rw[hoj] at ho;cases ho;refine .inl ⟨j,o',?_,(gN_at hj).symm,rfl⟩;grind};grind[wipeLO_some,dropN_some]
 have hjlt:∀{j:Nat} {o:Ob},outs[j]?=some (some o)->inBase<=inBase+j/\inBase+j<inBase+outs.length:=λhj=>⟨by omega,by grind⟩
 have hblkout:∀j o,outs[j]?=some (some o)->E'' (g (inBase+j))=E' (inBase+j):=λj o hj=>hagree _ (hjlt hj).1 (hjlt hj).2;have hown':∀b,owned E'' (gS names news outs O) b->mE E' outs b\/∃t o,t ∉ names++news/\O t=some o/\hbl (E t) b:=λb ⟨t,o,ho,hb⟩=>by rcases cases' t o ho with⟨j,o',hj,rfl,_⟩|⟨ht,o',ho',_,_⟩;{rw[hblkout j o' hj] at hb;exact .inl ⟨j,o',hj,hb⟩};{rw[hEo t ht] at hb;exact .inr ⟨t,o',ht,ho',hb⟩}
 have sub:∀b,(cx.fr E O b\/fF (λt=>E (g t)) ins b)->¬ mE E' outs b->cx.fr E'' (gS names news outs O) b:=λb hb hno=>by rcases hb with hb|hb;{refine⟨hb.1,λho=>?_⟩;rcases hown' b ho with h1|⟨t,o,_,ho',hbk⟩;{exact hno h1};{exact hb.2 ⟨t,o,ho',hbk⟩}};{obtain⟨s,o,hs1,hs2,hbk⟩:=(inb b).1 hb;refine⟨?_,λho=>?_⟩;{rcases (hco.own s o b hs2 hbk).1 with h1|h1;{omega};grind};{rcases hown' b ho with h1|⟨t,o',ht,ho',hbk'⟩;{exact hno h1};{have:=hco.disj s t o o' b hs2 ho' hbk hbk';grind}}}
 have outold:∀b,b<w.heap.size->mE E' outs b->fF (λt=>E (g t)) ins b:=λb hb ⟨j,o,hj,hbk⟩=>by grind
 have kp:Keep (cx.fr E O) (cx.fr E'' (gS names news outs O)) w w':=⟨hc.size,λb hb hlt=>hc.block b hlt (frni b hb),λb hb hlt=>sub b (.inl hb) λho=>frni b hb (outold b hlt ho)⟩
 have kb:∀t o b,t ∉ names->O t=some o->hbl (E t) b->w'.heap[b]?=w.heap[b]?:=λt o b ht ho hb=>
  hc.block b (hco.own t o b ho hb).2 λhi=>by obtain⟨s,o',hs1,hs2,hb'⟩:=(inb b).1 hi;exact ht (by rw[hco.disj t s o o' b ho hs2 hb hb'];exact hs1)
 have kout:Keep (λb=>(( cx.fr E O b\/fF (λt=>E (g t)) ins b)\/fF (λt=>E (g t)) ins b)/\¬ mE E' outs b) (cx.fr E'' (gS names news outs O)) w' w' :=⟨Nat.le_refl _,λ_ _ _=>rfl,λb hb _=>sub b (hb.1.elim (λh=>h) .inr) hb.2⟩
 refine hn E'' _ w' hEo (Sim.put (cx:=cx) (Z:=gE news Z) ⟨⟨hc.os.trans hco.os,hc.tape.trans hco.tape,hc.output.trans hco.output,Nat.le_trans hco.drawn hc.drawn,Nat.le_trans hco.size hc.size,λb hb hni=>?_,λt o ho=>?_,λt o b ho hb=>?_,λt t' o o' b ho ho' hb hb'=>?_,λi hi hik=>?_,λt m l la ho=>?_⟩,λt=>?_,hs.defers,hs.room⟩ hd ?_);{rw[hc.block b (Nat.lt_of_lt_of_le hb hco.size) λhi=>?_];{exact hco.block b hb hni};{obtain⟨s,o,hs1,hs2,hb'⟩:=(inb b).1 hi;rcases (hco.own s o b hs2 hb').1 with h1|h1;{omega};{exact hni h1}}};{rcases cases' t o ho with⟨j,o',hj,rfl,rfl⟩|⟨ht,o',ho',hdr,hwp⟩;{exact osim_agree (n:=outs.length) hagree (hjlt hj) (hoN j o' hj) (fy kout (hob j o' hj) (λ_ _=>rfl) (λ_ _ _ _ _ _=>rfl))};{have htn:t ∉ names:=λhh=>ht (List.mem_append_left _ hh);have htw:t ∉ news:=λhh=>ht (List.mem_append_right _ hh);refine osim_wipeL news (E:=J) hEn htw (osim_veqs hv' (hJn t htn) (fy kp (hco.objs t o' ho') (λb hb=>kb t o' b htn ho' hb) λm l la b he hb=>?_)) hwp;subst he;obtain⟨kk,es,hm⟩:=hco.itm t m l la ho';exact kb m _ b ((dropN_some hdr).2.2 m l la rfl) hm hb}};{rcases cases' t o ho with⟨j,o',hj,rfl,_⟩|⟨ht,o',ho',_,_⟩;{rw[hblkout j o' hj] at hb;obtain⟨h1,h2⟩:=hobk j o' b hj hb;refine⟨?_,h2⟩;rcases h1 with h1|h1;{exact .inl (Nat.le_trans hco.size h1)};{obtain⟨s,o2,_,hs2,hb2⟩:=(inb b).1 h1;exact(hco.own s o2 b hs2 hb2).1}};{rw[hEo t ht] at hb;exact⟨(hco.own t o' b ho' hb).1,Nat.lt_of_lt_of_le (hco.own t o' b ho' hb).2 hc.size⟩}}
 ·have mixed:∀j o1 t o2,outs[j]?=some (some o1)->t ∉ names++news->O t=some o2->hbl (E' (inBase+j)) b->hbl (E t) b->False:=λj o1 t o2 hj ht ho2 hb1 hb2=>by rcases (hobk j o1 b hj hb1).1 with h1|h1;{grind};{obtain⟨s,o3,hs1,hs2,hb3⟩:=(inb b).1 h1;have:=hco.disj s t o3 o2 b hs2 ho2 hb3 hb2;grind}
  rcases cases' t o ho with⟨j,o1,hj,rfl,_⟩|⟨ht,o1,ho1,_,_⟩<;>rcases cases' t' o' ho' with⟨j',o2,hj',rfl,_⟩|⟨ht',o2,ho2,_,_⟩;{grind};{grind};{grind};{rw[hEo t ht] at hb;rw[hEo t' ht'] at hb';exact hco.disj t t' o1 o2 b ho1 ho2 hb hb'}
 ·rw[hEn i (λhh=>by grind)];exact(hco.inp i hi hik).trans (hv' i)
 ·rcases cases' t _ ho with⟨j,o1,hj,rfl,he⟩|⟨ht,o1,ho1,hdr,hwp⟩;{have:=hoN j o1 hj;cases o1 with|iter _ _ _=>(cases this)|_=>cases he}
  ·obtain⟨hmn,l',la',rfl⟩:=wipeLO_iter hwp;obtain⟨kk,es,hm⟩:=hco.itm t m l' la' ho1;have hmn':m ∉ names:=(dropN_some hdr).2.2 m l' la' rfl;have hmm:m ∉ names++news:=λhh=>(List.mem_append.1 hh).elim hmn' hmn;obtain⟨es',he'⟩:=wipeLO_map news kk es;refine⟨kk,es',?_⟩;rw[hout m hmm];have:dropN names O m=some (.map kk es):=by unfold dropN;grind
   rw[this,he']
 ·exact vsim_wipeL news (E:=J) hEn _ _ (vsim_veq (.of hv') _ _ (fb kp _ _ (hs.slots t)))
 grind[vsim_agree,fb]
theorem callK_g {f:FuncId} {us:Ao} {v:V} {d:Ac} (h:GFn P f us ins v outs) (names news:A5) (hl:names.length=ins.length) (hl':(names++news).length=outs.length) (hnd:dY (names++news)=true) (hσ:∀(i s:Nat) (o:Ob),names[i]?=some s->ins[i]?=some o->O s=some (o.ren (gN (names++news)))) (hpl:ins.all (λo=>o.inN ins.length)=true) (hnew:news.all (λd=>decide (d<inBase))=true) (hd:∀x,d=some x->x<cx.n) (hk:K (cK (gE news Z) d (v.ren (gN (names++news)))) (gS names news outs O)):oU P cx f (us.map (V.ren (gN (names++news)))) Z O d K :=
 let ⟨h1,h2⟩:=callS_g h names news hl hl' hnd hσ hpl hnew hd
 ⟨h1,λE a w hs vals hvl hv next hn=>h2 E a w hs vals hvl hv next λE' a' w' _ hs'=>hn E' _ _ a' w' hs' hk⟩
end
def mv (i j t:Nat):Nat:=if t=i then j else t
def mvE (i j:Nat) (Z:Env):Env:=λt=>((Z t).wipe j).ren (mv i j)
def mvS (i j:Nat) (O:Sto):Sto:=λt=>if t=i then none else if t=j then((O i).bind (Ob.wipe j)).map (Ob.ren (mv i j))else((O t).bind (Ob.wipe j)).map (Ob.ren (mv i j))
theorem Wk.move {cx:Cx} {Z:Env} {O:Sto} (i j:Nat) (hij:i≠j) (hj:j<inBase\/inBase+cx.k<=j):Wk cx Z O (mvE i j Z) (mvS i j O):=by
 intro E a w hs;have h:=hs.core;let J:=upd E j (E i);have hψ:∀t,t≠j->J t=E t:=λt ht=>bz _ _ ht;have hJf:(λt=>J (mv i j t))=J:=by grind[mv,upd_same]
 have hJm:∀t,J (mv i j t)=J t:=λt=>congrFun hJf t;have back:∀t o',mvS i j O t=some o'->∃s o o1,t=mv i j s/\s≠j/\O s=some o/\o.wipe j=some o1/\o'=o1.ren (mv i j)/\J t=E s:=by
  intro t o' ho;unfold mvS at ho;split at ho;{cases ho}
  ·rename_i hti;split at ho
   ·rename_i htj;subst htj;cases hsi:O i with
    |none=>simp_all|some o=>
     rw[hsi] at ho;simp only[Option.bind_some] at ho;cases hw:o.wipe t with
     |none=>simp_all|some o1=>rw[hw] at ho;cases ho;exact⟨i,o,o1,by unfold mv;rw[if_pos rfl],hij,hsi,hw,rfl,upd_same _ _ _⟩
   ·rename_i htj;cases hst:O t with
    |none=>simp_all|some o=>
     rw[hst] at ho;simp only[Option.bind_some] at ho;cases hw:o.wipe j with
     |none=>simp_all|some o1=>rw[hw] at ho;cases ho;exact⟨t,o,o1,by unfold mv;rw[if_neg hti],htj,hst,hw,rfl,hψ t htj⟩
 have sub:∀b,cx.fr E O b->cx.fr J (mvS i j O) b:=λb hb=>⟨hb.1,λ⟨t,o',ho,hbk⟩=>by obtain⟨s,o,o1,_,_,h1,_,_,h2⟩:=back t o' ho;exact hb.2 ⟨s,o,h1,by simp_all⟩⟩
 have kp:Keep (cx.fr E O) (cx.fr J (mvS i j O)) w w:=⟨Nat.le_refl _,λ_ _ _=>rfl,λb hb _=>sub b hb⟩
 refine⟨J,⟨⟨h.os,h.tape,h.output,h.drawn,h.size,h.block,λt o' ho=>?_,λt o' b ho hb=>?_,λt t' o o' b ho ho' hb hb'=>?_,λk hk hk'=>?_,λt m l la ho=>?_⟩,λt=>?_,hs.defers,hs.room⟩⟩;{obtain⟨s,o,o1,rfl,hsj,h1,h2,rfl,_⟩:=back t o' ho;exact osim_ren (E:=J) (J:=J) (f:=mv i j) hJm (tg (λt ht=>hψ t ht) hsj (fy kp (h.objs s o h1) (λ_ _=>rfl) (λ_ _ _ _ _ _=>rfl)) h2)};{obtain⟨s,o,o1,_,_,h1,_,_,h2⟩:=back t o' ho;rw[h2] at hb;exact h.own s o b h1 hb};{obtain⟨s,o1,_,hs1,_,h1,_,_,h2⟩:=back t o ho;obtain⟨s',o1',_,hs1',_,h1',_,_,h2'⟩:=back t' o' ho';rw[h2] at hb;rw[h2'] at hb';have:=h.disj s s' o1 o1' b h1 h1' hb hb';grind};{rw[hψ k (by omega)];exact h.inp k hk hk'}
 ·obtain⟨s,o,o1,_,hsj,h1,h2,h3,_⟩:=back t _ ho;cases o1 with
  |iter m1 l1 la1=>
   cases h3;obtain⟨hmj,l',la',rfl⟩:=wipe_iter h2;obtain⟨kk,es,hm⟩:=h.itm s m1 l' la' h1;refine⟨kk,(es.map λx:Key×U=>(x.1,x.2.wipe j)).map λx=>(x.1,x.2.ren (mv i j)),?_⟩;unfold mvS mv;by_cases hmi:m1=i;{subst hmi;rw[if_pos rfl,if_neg (λe=>hij e.symm),if_pos rfl,hm];rfl};simp_all
  |_=>cases h3
 ·have:=qg (J:=J) (s:=j) (λt ht=>hψ t ht) _ _ (fb kp _ _ (hs.slots t));exact(vsim_ren (f:=mv i j) _ _).2 (by grind)
def sG:A5->Ax->Aj->Sto->Prop|s::ns,o::os,g,O=>O s=some (o.ren g)/\sG ns os g O|_,_,_,_=>True
theorem rh {g:Aj} {O:Sto}:∀{ns:A5} {os:Ax},sG ns os g O->∀{i s:Nat} {o:Ob},ns[i]?=some s->os[i]?=some o->O s=some (o.ren g)
 |[],_,_,i,s,o,h1,_=>by simp at h1|_::_,[],_,i,s,o,_,h2=>by simp at h2|t::ns,x::os,h,i,s,o,h1,h2=>by
  cases i with
  |zero=>simp at h1 h2;subst h1 h2;exact h.1|succ i=>exact rh h.2 (by simpa using h1) (by simpa using h2)
def rG:Nat->AA->Sto->Prop|_,[],_=>True|i,none::l,O=>rG (i+1) l O|i,some o::l,O=>obWk (O i) (some o)/\rG (i+1) l O
theorem gout_of {outs:AA} {O:Sto} {i:Nat} (h:rG i outs O):∀(j:Nat) (o:Ob),outs[j]?=some (some o)->obWk (O (i+j)) (some o):=by
 induction outs generalizing i with
 |nil=>simp|cons x l ih=>
  intro j o hj;cases x with
  |none=>
   cases j with
   |zero=>simp at hj|succ j=>have:=ih (i:=i+1) h j o (by simpa using hj);grind
  |some x=>
   cases j with
   |zero=>simp at hj;subst hj;exact h.1|succ j=>have:=ih (i:=i+1) h.2 j o (by simpa using hj);grind
theorem cu {P:Program} {tb:Tb} {ins:Ax} {outs:AA} (ht:TbOk P tb) {f:FuncId} {fn:Func} {us:Ao} {v:V} (c:Code) (hf:P.funcs[f]?=some fn) (hb:fn.body=some c) (hname:(fn.name == "runtime.NumGoroutine")=false) (hn:us.length<=fn.ntmps) (hlen:ins.length<=outs.length) (hvN:v.inN outs.length=true) (hoN:outs.all (λo=>match o with|some o=>o.inN outs.length|none=>true)=true) (h:∀cx:Cx,cx.n=fn.ntmps->cx.k=ins.length->Swp P cx c (env0 us) (stoIn ins) (λe Z O=>(e=.normal\/e=.ret)/\EE cx (λZ O=>∃v',iE tb Z O fn.results.toList=some v'/\(v'.frzL O).wk v/\rG inBase outs O) Z O)):GFn P f us ins v outs :=
 g_intro ht c hf hb hname hn hlen hvN hoN λcx h1 h2=>(h cx h1 h2).mono λ_e _ρ _σ ⟨he,Z',O',hw,v',h3,h4,h5⟩=>⟨he,Z',O',hw,v',h3,h4,λj o hj=>gout_of h5 j o hj⟩
theorem zG {P:Program} {tb:Tb} {ins:Ax} {outs:AA} (ht:TbOk P tb) {f:FuncId} {fn:Func} {us:Ao} {v:V} {c:Code} (hf:P.funcs[f]?=some fn) (hb:fn.body=some c) (hn:us.length<=fn.ntmps) (h:∀cx:Cx,cx.n=fn.ntmps->cx.k=ins.length->Swp P cx c (env0 us) (stoIn ins) (λe Z O=>(e=.normal\/e=.ret)/\EE cx (λZ O=>∃v',iE tb Z O fn.results.toList=some v'/\(v'.frzL O).wk v/\rG inBase outs O) Z O)) (hname:(fn.name == "runtime.NumGoroutine")=false:=by kernel_rfl) (hlen:ins.length<=outs.length:=by simp) (hvN:v.inN outs.length=true:=by first|rfl|simp) (hoN:outs.all (λo=>match o with|some o=>o.inN outs.length|none=>true)=true:=by first|rfl|simp):GFn P f us ins v outs:=cu ht c hf hb hname hn hlen hvN hoN h
theorem callL_g {P:Program} {cx:Cx} {Z:Env} {O:Sto} {K:A3} {ins:Ax} {outs:AA} {f:FuncId} {us us':Ao} {v v':V} {d:Ac} {j} (h:GFn P f us ins v outs) (names news:A5) (hl:names.length=ins.length) (hl':(names++news).length=outs.length) (hnd:dY (names++news)=true) (hu:us.map (V.ren (gN (names++news)))=us') (hv:v.ren (gN (names++news))=v') (hσ:sG names ins (gN (names++news)) O) (hpl:ins.all (λo=>o.inN ins.length)=true) (hnew:news.all (λd=>decide (d<inBase))=true) (hd:∀x,d=some x->x<cx.n) (hk:K (cK (gE news Z) d v') (gS names news outs O)):CallL P cx f us' d Z O K j:=by subst hu hv;exact callK_g h names news hl hl' hnd (λi s o h1 h2=>rh hσ h1 h2) hpl hnew hd hk
theorem mvE_apply (i j:Nat) (Z:Env) (t:Nat):mvE i j Z t=((Z t).wipe j).ren (mv i j):=rfl
theorem mvS_apply (i j:Nat) (O:Sto) (t:Nat):mvS i j O t=if t=i then none else if t=j then((O i).bind (Ob.wipe j)).map (Ob.ren (mv i j))else((O t).bind (Ob.wipe j)).map (Ob.ren (mv i j)):=rfl
theorem mv_apply (i j t:Nat):mv i j t=if t=i then j else t:=rfl
theorem gE_apply (ds:A5) (Z:Env) (t:Nat):gE ds Z t=wipeLV ds (Z t):=rfl
theorem wipeLV_nil (v:V):wipeLV [] v=v:=rfl
theorem wipeLV_cons (d:Nat) (ds:A5) (v:V):wipeLV (d::ds) v=wipeLV ds (v.wipe d):=rfl
theorem wipeLO_nil (o:Ab):lh [] o=o:=rfl
theorem wipeLO_cons (d:Nat) (ds:A5) (o:Ab):lh (d::ds) o=lh ds (o.bind (Ob.wipe d)):=rfl
def gS1 (names news:A5) (outs:AA) (O:Sto) (t:Nat) (j:Ac):Ab:=match j with|some j=>(outs.getD j none).map (Ob.ren (gN (names++news)))|none=>lh news (dropN names O t)
theorem gS_apply (names news:A5) (outs:AA) (O:Sto) (t:Nat):gS names news outs O t=gS1 names news outs O t ((names++news).findIdx? (· == t)):=by rfl
theorem gS1_some (names news:A5) (outs:AA) (O:Sto) (t j:Nat):gS1 names news outs O t (some j)=(outs.getD j none).map (Ob.ren (gN (names++news))):=rfl
theorem gS1_none (names news:A5) (outs:AA) (O:Sto) (t:Nat):gS1 names news outs O t none=lh news (dropN names O t):=rfl
theorem gN_apply (ns:A5) (t:Nat):gN ns t=if inBase<=t then ns.getD (t-inBase) t else t:=rfl
def dropN1 (names:A5) (o:Ab):Ab:=match o with|some (.iter m l la)=>if names.contains m then none else some (.iter m l la)|o=>o
theorem dropN_apply (names:A5) (O:Sto) (t:Nat):dropN names O t=if names.contains t then none else dropN1 names (O t):=by rfl
theorem dropN1_box (names:A5) (cs:As):dropN1 names (some (.box cs))=some (.box cs):=rfl
theorem dropN1_row (names:A5) (sz e:Nat) (rows:A8):dropN1 names (some (.row sz e rows))=some (.row sz e rows):=rfl
theorem dropN1_nest (names:A5) (e:NSp) (ie sz:Nat) (els:List NE):dropN1 names (some (.nest e ie sz els))=some (.nest e ie sz els):=rfl
theorem goutL_nil (i:Nat) (O:Sto):rG i [] O=True:=rfl
theorem goutL_none (i:Nat) (l:AA) (O:Sto):rG i (none::l) O=rG (i+1) l O:=rfl
theorem goutL_some (i:Nat) (o:Ob) (l:AA) (O:Sto):rG i (some o::l) O=(obWk (O i) (some o)/\rG (i+1) l O):=rfl
theorem goutIn_nil (os:Ax) (g:Aj) (O:Sto):sG [] os g O=True:=by cases os<;>rfl
theorem goutIn_cons (s:Nat) (ns:A5) (o:Ob) (os:Ax) (g:Aj) (O:Sto):sG (s::ns) (o::os) g O=(O s=some (o.ren g)/\sG ns os g O):=rfl
theorem stoIn_apply (ins:Ax) (s:Nat):stoIn ins s=if inBase<=s then ins[s-inBase]? else none:=rfl
theorem inBase_eq:inBase=1000000:=rfl
attribute [simp] mvE_apply mvS_apply mv_apply gE_apply wipeLV_nil wipeLV_cons wipeLO_nil wipeLO_cons gS_apply gS1_some gS1_none gN_apply dropN_apply dropN1_box dropN1_row goutL_nil goutL_none goutL_some goutIn_nil goutIn_cons stoIn_apply inBase_eq
attribute [simp] List.findIdx?_cons List.findIdx?_nil
attribute [simp] V.frzL U.frzL C.frzL
