/- Lemmas for the law. -/
import Derived.Test.YtpeabgakdpojlaaGreatDoorAmO
namespace Go.AM
open Go.RowKit
def C.frz1 (s:Nat) (x:L) (c:C):C:=match c with|.own t=>if t=s then .d x else .own t|c=>c
def U.frz1 (s:Nat) (x:L):U->U|.one c=>.one (c.frz1 s x)|.agg cs=>.agg (cs.map (C.frz1 s x))
def V.frz1 (s:Nat) (x:L):V->V|.u y=>.u (y.frz1 s x)|.tup us=>.tup (us.map (U.frz1 s x))
def frzE (s:Nat) (x:L) (Z:Env):Env:=λt=>(Z t).frz1 s x
def iK (s:Nat) (O:Sto):Sto:=λt=>if t=s then none else O t
section
variable {P:Program} {tb:Tb} {cx:Cx} {Z:Env} {O:Sto} {K:A3} {E:A7} {w:World} {s sz:Nat} {e:TypeId} {rows:A8}
theorem iG {t:Nat} {o:Ob} (h:iK s O t=some o):t≠s/\O t=some o:=by simp_all[iK]
theorem fr_dropS {b:Nat} (h:cx.fr E O b):cx.fr E (iK s O) b:=⟨h.1,λ⟨t,o,ho,hb⟩=>h.2 ⟨t,o,(iG ho).2,hb⟩⟩
theorem m7:Keep (cx.fr E O) (cx.fr E (iK s O)) w w:=⟨Nat.le_refl _,λ_ _ _=>rfl,λ_ h _=>fr_dropS h⟩
theorem fr_block (h:Core cx E O w) {o:Ob} (hs:O s=some o) {b:Nat} (hb:hbl (E s) b):cx.fr E (iK s O) b:=by refine⟨.inr (h.own s o b hs hb).1,λ⟨t,o',ho,hb'⟩=>?_⟩;obtain⟨hne,ht⟩:=iG ho;exact hne (h.disj t s o' o b ht hs hb' hb)
theorem csim_frz1 (hco:Core cx E O w) (hs:O s=some (.row sz e rows)) (c:C) (v:Value) (h:bG E w (cx.fr E O) c v):bG E w (cx.fr E (iK s O)) (c.frz1 s (.sl sz rows)) v:=by
 cases c with
 |own t=>simp only[C.frz1];split;{rename_i hts;subst hts;simp only[bG] at h⊢;obtain⟨rfl,_⟩:=h;obtain⟨hl,hr⟩:=hco.objs t _ hs;simp only[rep];rcases hr with⟨rfl,a,ha⟩|⟨b,cap,cur,h0,hp,hle,hm,hh,hsz,hc⟩;{exact⟨a,0,0,(by rw[ha];rfl),rfl,Nat.le_refl _,Nat.zero_le _,.inl rfl⟩};{refine⟨_,_,cap,(by rw[hp];rfl),rfl,hle,hm,.inr ⟨b,0,rfl,fr_block hco hs (by rw[hp];simp only[hbl_slice];grind),(Array.getElem?_eq_some_iff.1 hh).1,?_⟩⟩;have hc':=cF (m7 (s:=t)) _ _ hc;exact nF hl (ib hh hc' (jm hc'))}};{exact eB m7 _ _ h}|_=>exact eB m7 _ _ h
theorem csims_frz1 (hco:Core cx E O w) (hs:O s=some (.row sz e rows)):∀(cs:As) (vs:A9),bB E w (cx.fr E O) cs vs->bB E w (cx.fr E (iK s O)) (cs.map (C.frz1 s (.sl sz rows))) vs|[],_,h=>h|c::cs,vs,h=>by simp only[bB] at h;obtain⟨v,r,rfl,hc,h⟩:=h;simp only[List.map_cons,bB];exact⟨v,r,rfl,csim_frz1 hco hs c v hc,csims_frz1 hco hs cs r h⟩
theorem usim_frz1 (hco:Core cx E O w) (hs:O s=some (.row sz e rows)) (x:U) (v:Value) (h:ct E w (cx.fr E O) x v):ct E w (cx.fr E (iK s O)) (x.frz1 s (.sl sz rows)) v:=by
 cases x with
 |one c=>exact csim_frz1 hco hs c v h|agg cs=>obtain⟨arr,rfl,hc⟩:=h;exact⟨arr,rfl,csims_frz1 hco hs cs _ hc⟩
theorem usims_frz1 (hco:Core cx E O w) (hs:O s=some (.row sz e rows)):∀(us:List U) (vs:A9),iN E w (cx.fr E O) us vs->iN E w (cx.fr E (iK s O)) (us.map (U.frz1 s (.sl sz rows))) vs|[],_,h=>h|x::us,vs,h=>by obtain⟨v,r,rfl,hx,h⟩:=h;exact⟨v,r,rfl,usim_frz1 hco hs x v hx,usims_frz1 hco hs us r h⟩
theorem vsim_frz1 (hco:Core cx E O w) (hs:O s=some (.row sz e rows)) (x:V) (v:Value) (h:bI E w (cx.fr E O) x v):bI E w (cx.fr E (iK s O)) (x.frz1 s (.sl sz rows)) v:=by
 cases x with
 |u x=>exact usim_frz1 hco hs x v h|tup us=>obtain⟨arr,rfl,hc⟩:=h;exact⟨arr,rfl,usims_frz1 hco hs us _ hc⟩
theorem Core.freeze (h:Core cx E O w) (hs:O s=some (.row sz e rows)):Core cx E (iK s O) w where
 os:=h.os
 tape:=h.tape
 output:=h.output
 drawn:=h.drawn
 size:=h.size
 block:=h.block
 objs:=λt o ht=>fy m7 (h.objs t o (iG ht).2) (λ_ _=>rfl) (λ_ _ _ _ _ _=>rfl)
 own:=λt o b ht hb=>h.own t o b (iG ht).2 hb
 disj:=λt t' o o' b ht ht' hb hb'=>h.disj t t' o o' b (iG ht).2 (iG ht').2 hb hb'
 inp:=h.inp
 itm:=λt m left last ht=>by
  obtain⟨kk,es,hm⟩:=h.itm t m left last (iG ht).2;have hms:m≠s:=λhe=>by simp_all
  simp_all[iK]
theorem Sim.freeze {a:Act} (h:Sim cx E Z O a w) (hs:O s=some (.row sz e rows)):Sim cx E (frzE s (.sl sz rows) Z) (iK s O) a w :=⟨h.core.freeze hs,λt=>vsim_frz1 h.core hs _ _ (h.slots t),h.defers,h.room⟩
end
def tQ:Ob->Bool|.row _ _ _=>true|.map _ es=>es.all λx=>x.2.free|_=>false
def obC (d:Nat):Ob->C|.map _ _=>.map d|_=>.own d
theorem esims_free {E J:A7} {w:World} {F:Ad}:∀{es:Am} {l:List MapEntry},(es.all λx=>x.2.free)=true->fL E w F es l->fL J w F es l|[],_,_,h=>h|x::es,l,hf,h=>by simp only[List.all_cons,Bool.and_eq_true] at hf;obtain⟨e,r,rfl,hk,hv,h⟩:=h;exact⟨e,r,rfl,hk,usim_free _ _ hf.1 hv,esims_free hf.2 h⟩
theorem osim_free {E J:A7} {w:World} {F:Ad} {s t:Nat} {o:Ob} (hf:tQ o=true) (hψ:J t=E s) (h:kq E w F s o):kq J w F t o:=by
 cases o with
 |row sz e rows=>
  obtain⟨h1,h2⟩:=h;refine⟨h1,?_⟩;grind[k9]
 |map kk es=>
  obtain⟨b,ents,clk,hp,hh,hc,h⟩:=h;exact⟨b,ents,clk,hψ.trans hp,hh,esims_free hf hc,h⟩
 |box _=>(cases hf)|iter _ _ _=>(cases hf)|nest _ _ _ _=>cases hf
theorem osim_hdv {E:A7} {w:World} {F:Ad} {s:Nat} {o:Ob} (hf:tQ o=true) (ho:kq E w F s o):hdv (E s)=E s:=by
 cases o with
 |row sz e rows=>(obtain⟨_,⟨_,a,h1⟩|⟨b,cap,cur,_,h1,_⟩⟩:=ho<;>rw[h1]<;>rfl)|map kk es=>(obtain⟨b,ents,clk,h1,_⟩:=ho;rw[h1];rfl)|_=>cases hf
theorem hdv_one {u:Value} (h:u.oneCell'=true):hdv u=u:=by cases u<;>first|rfl|cases h
def NewFn (P:Program) (f:FuncId) (us:Ao) (R:Ob->Prop):Prop :=(∃fn,P.funcs[f]?=some fn/\(fn.name == "runtime.NumGoroutine")=false/\fn.body.isNone=false) /\ ∀(E:A7) (w:World) (F:Ad),Fr w F->∀vals:A9,vals.length=us.length->(∀(i:Nat) (x:V) (u:Value),us[i]?=some x->vals[i]?=some u->bI E w F x u) ->
  Calls P f vals.toArray w λe w'=>∃u o,e=.returned u/\Blw w.heap.size w w'/\R o/\u.oneCell'=true/\(∀b,hbl u b->w.heap.size<=b/\b<w'.heap.size) /\ (∀m l la,o≠.iter m l la)/\∀(J:A7) (s:Nat),J s=u->kq J w' (λb=>F b/\¬ hbl u b) s o
section
variable {P:Program} {tb:Tb} {cx:Cx} {Z:Env} {O:Sto} {K:A3}
def newRes (tb:Tb) (Z:Env) (O:Sto) (rs:List ResultVar) (R:Ob->Prop):Prop:=match iE tb Z O rs with|some (.u (.one (.own s)))=>∃o,O s=some o/\tQ o=true/\R o|some (.u (.one (.map s)))=>∃o,O s=some o/\tQ o=true/\R o|some (.u (.one (.d .nil)))=>∃sz e,R (.row sz e [])|_=>False
theorem new_intro (ht:TbOk P tb) {f:FuncId} {fn:Func} {c:Code} {us:Ao} {R:Ob->Prop} (hf:P.funcs[f]?=some fn) (hb:fn.body=some c) (hname:(fn.name == "runtime.NumGoroutine")=false) (hn:us.length<=fn.ntmps) (h:∀cx:Cx,cx.n=fn.ntmps->Swp P cx c (env0 us) sto0 (λe Z O=>(e=.normal\/e=.ret)/\newRes tb Z O fn.results.toList R)):NewFn P f us R:=by
 refine⟨⟨fn,hf,hname,by rw[hb];rfl⟩,λE w F hF vals hl hv=>?_⟩;let cx:Cx:={ w0:=w,base:=F,inb:=λ_=>False,n:=fn.ntmps,φ0:=E,gw:=hF.gw,gin:=λ_ h=>h.elim }
 refine calls_of_wp hf hb (wp_mono (h cx rfl E _ w (sim0 (cx:=cx) hn hl hv)) λe a' w' ⟨h1,h2,E',Z',O',hs',he,hres⟩=>?_);have hbelow:Blw w.heap.size w w':=⟨⟨hs'.core.os,hs'.core.tape,hs'.core.output,hs'.core.size,λk hk=>hs'.core.block k hk (λh=>h)⟩,hs'.core.drawn⟩
 have obj:∀(s:Nat) (o:Ob) (u:Value),u=E' s->u.oneCell'=true->O' s=some o->tQ o=true->R o->∃u' o,u=u'/\Blw w.heap.size w w'/\R o/\u'.oneCell'=true/\(∀b,hbl u' b->w.heap.size<=b/\b<w'.heap.size) /\ (∀m l la,o≠.iter m l la)/\∀(J:A7) (s:Nat),J s=u'->kq J w' (λb=>F b/\¬ hbl u' b) s o:=by intro s o u hu h1c hso hfo hR;subst hu;refine⟨E' s,o,rfl,hbelow,hR,h1c,λb hb=>?_,(λm l la he=>by rw[he] at hfo;cases hfo),λJ t hψ=>?_⟩;{obtain⟨h3,h4⟩:=hs'.core.own s o b hso hb;grind};{refine osim_free hfo hψ (fy ⟨Nat.le_refl _,λ_ _ _=>rfl,λb hb _=>⟨?_,λhe=>hb.2 ⟨s,o,hso,he⟩⟩⟩ (hs'.core.objs s o hso) (λ_ _=>rfl) (λ_ _ _ _ _ _=>rfl));rcases hb.1 with hb|hb|hb;{exact hb};{exact hF b hb};{exact hb.elim}}
 have fin:∃u,(results fn a'.tmps).run P w'=.ok u w'/\∃u' o,u=u'/\Blw w.heap.size w w'/\R o/\u'.oneCell'=true/\(∀b,hbl u' b->w.heap.size<=b/\b<w'.heap.size) /\ (∀m l la,o≠.iter m l la)/\∀(J:A7) (s:Nat),J s=u'->kq J w' (λb=>F b/\¬ hbl u' b) s o:=by unfold newRes at hres;split at hres;{rename_i s hr;obtain⟨o,hso,hfo,hR⟩:=hres;obtain⟨u,hru,hu,hu1⟩:=mU ht hs' hr;exact⟨u,hru,obj s o u (hu.trans (osim_hdv hfo (hs'.core.objs s o hso))) hu1 hso hfo hR⟩};{rename_i s hr;obtain⟨o,hso,hfo,hR⟩:=hres;obtain⟨u,hru,hu,hu1⟩:=mU ht hs' hr;exact⟨u,hru,obj s o u (hu.trans (osim_hdv hfo (hs'.core.objs s o hso))) hu1 hso hfo hR⟩};{rename_i hr;obtain⟨sz,e,hR⟩:=hres;obtain⟨u,hru,hu⟩:=mU ht hs' hr;simp only[bI,ct,bG,rep] at hu;subst hu;exact⟨_,hru,_,_,rfl,hbelow,hR,rfl,(λb hb=>by cases hb),(λ_ _ _ h=>by cases h),λJ s hψ=>⟨by simp,.inl ⟨rfl,none,hψ⟩⟩⟩};{exact hres.elim}
 obtain⟨u,hru,u',o,rfl,hrest⟩:=fin;rcases he with rfl|rfl;{exact⟨hs'.defers,u,hru,u,o,rfl,hrest⟩};{exact⟨hs'.defers,u,hru,u,o,rfl,hrest⟩}
theorem callK_new {f:FuncId} {us:Ao} {R:Ob->Prop} {d:Nat} (h:NewFn P f us R) (hd:d<cx.n) (hd':d<inBase) (hk:∀o,R o->K (upd (eY d Z) d (.u (.one (obC d o)))) (upd (cM d O) d (some o))):oU P cx f us Z O (some d) K:=by
 refine⟨h.1,λE a w hs vals hl hv next hn=>(h.2 E w _ hs.core.frm vals hl hv).mono λ_ w' ⟨u,o,he,hb,hR,hu1,hub,hit,hos⟩=>⟨u,he,?_⟩⟩;have key:=hs.core.replace (so:=none) (d:=d) (hv:=u) (ob:=o) (w':=w') hd' (λ_ _ h=>by cases h) hb.os hb.tape hb.output hb.drawn hb.size (λb hl _=>hb.block b hl) (λb hbk=>⟨.inl (hub b hbk).1,(hub b hbk).2⟩) (λm l la he=>absurd he (hit m l la)) (λ_=>fy ⟨Nat.le_refl _,λ_ _ _=>rfl,λb hb' _=>⟨hb'.1.1,λ⟨t,o',ho',he'⟩=>by
   by_cases htd:t=d;{simp_all[upd_same]}
   ·rw[bz _ _ htd] at ho' he';simp only[cM,drop] at ho';cases hst:O t with
    |none=>simp_all|some o2=>exact hb'.1.2 ⟨t,o2,hst,he'⟩⟩⟩ (hos (upd E d u) d (upd_same _ _ _)) (λ_ _=>rfl) (λ_ _ _ _ _ _=>rfl))
 rw[nw] at key;refine hn _ _ _ _ w' (Sim.new hs hd key rfl ?_) (hk o hR);cases o<;>(simp only[obC,bG];rw[upd_same,hdv_one hu1];exact⟨rfl,hu1⟩)
end
