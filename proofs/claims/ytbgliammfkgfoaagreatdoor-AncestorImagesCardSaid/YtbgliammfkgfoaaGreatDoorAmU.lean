/- Calls that take a row of the caller's own as data, calls that return a new object. -/
import Derived.Test.YtbgliammfkgfoaaGreatDoorAmO
namespace Go.AM
open Go.RowKit
def C.frz1 (s:Nat) (x:L) (c:C):C:=match c with
 | .own t=>if t=s then .d x else .own t
 | c=>c
def U.frz1 (s:Nat) (x:L):U->U
 | .one c=>.one (c.frz1 s x)
 | .agg cs=>.agg (cs.map (C.frz1 s x))
def V.frz1 (s:Nat) (x:L):V->V
 | .u y=>.u (y.frz1 s x)
 | .tup us=>.tup (us.map (U.frz1 s x))
def frzE (s:Nat) (x:L) (Z:Env):Env:=fun t=>(Z t).frz1 s x
def f6 (s:Nat) (O:Sto):Sto:=fun t=>if t=s then none else O t
section
variable {P:Program} {tb:Tb} {cx:Cx} {Z:Env} {O:Sto} {K:Env->Sto->Prop} {φ:Nat->Value} {w:World} {s sz:Nat} {e:TypeId} {rows:List (List L)}
theorem eZ {t:Nat} {o:Ob} (h:f6 s O t=some o):t≠s/\O t=some o:=by
 simp_all [f6]
theorem fr_dropS {b:Nat} (h:cx.fr φ O b):cx.fr φ (f6 s O) b:=⟨h.1,fun⟨t,o,ho,hb⟩=>h.2 ⟨t,o,(eZ ho).2,hb⟩⟩
theorem iq:Keep (cx.fr φ O) (cx.fr φ (f6 s O)) w w:=⟨Nat.le_refl _,fun _ _ _=>rfl,fun _ h _=>fr_dropS h⟩
theorem fr_block (h:Core cx φ O w) {o:Ob} (hs:O s=some o) {b:Nat} (hb:hbl (φ s) b):cx.fr φ (f6 s O) b:=by
 refine⟨.inr (h.own s o b hs hb).1,fun⟨t,o',ho,hb'⟩=>?_⟩
 obtain⟨hne,ht⟩:=eZ ho
 exact hne (h.disj t s o' o b ht hs hb' hb)
theorem csim_frz1 (hco:Core cx φ O w) (hs:O s=some (.row sz e rows)) (c:C) (v:Value) (h:bl φ w (cx.fr φ O) c v):bl φ w (cx.fr φ (f6 s O)) (c.frz1 s (.sl sz rows)) v:=by
 cases c with
 | own t =>
  simp only[C.frz1]
  split
  ·rename_i hts
   subst hts
   simp only[bl] at h ⊢
   obtain⟨rfl,_⟩:=h
   obtain⟨hl,hr⟩:=hco.objs t _ hs
   simp only[rep]
   rcases hr with ⟨rfl,a,ha⟩ | ⟨b,cap,cur,h0,hp,hle,hm,hh,hsz,hc⟩
   ·exact⟨a,0,0,(by rw[ha]; rfl),rfl,Nat.le_refl _,Nat.zero_le _,.inl rfl⟩
   ·refine⟨_,_,cap,(by rw[hp]; rfl),rfl,hle,hm,.inr ⟨b,0,rfl,fr_block hco hs (by rw[hp]; simp only[hbl_slice]; grind),(Array.getElem?_eq_some_iff.1 hh).1,?_⟩⟩
    have hc':=bO (iq (s:=t)) _ _ hc
    exact k6 hl (eT hh hc' (fK hc'))
  ·exact cT iq _ _ h
 | _=>exact cT iq _ _ h
theorem csims_frz1 (hco:Core cx φ O w) (hs:O s=some (.row sz e rows)):∀ (cs:List C) (vs:List Value),bh φ w (cx.fr φ O) cs vs->bh φ w (cx.fr φ (f6 s O)) (cs.map (C.frz1 s (.sl sz rows))) vs
 | [],_,h=>h
 | c::cs,vs,h=>by
  simp only[bh] at h
  obtain⟨v,r,rfl,hc,h⟩:=h
  simp only[List.map_cons,bh]
  exact⟨v,r,rfl,csim_frz1 hco hs c v hc,csims_frz1 hco hs cs r h⟩
theorem usim_frz1 (hco:Core cx φ O w) (hs:O s=some (.row sz e rows)) (x:U) (v:Value) (h:bD φ w (cx.fr φ O) x v):bD φ w (cx.fr φ (f6 s O)) (x.frz1 s (.sl sz rows)) v:=by
 cases x with
 | one c=>exact csim_frz1 hco hs c v h
 | agg cs=>obtain⟨arr,rfl,hc⟩:=h; exact⟨arr,rfl,csims_frz1 hco hs cs _ hc⟩
theorem usims_frz1 (hco:Core cx φ O w) (hs:O s=some (.row sz e rows)):∀ (us:List U) (vs:List Value),fo φ w (cx.fr φ O) us vs->fo φ w (cx.fr φ (f6 s O)) (us.map (U.frz1 s (.sl sz rows))) vs
 | [],_,h=>h
 | x::us,vs,h=>by
  obtain⟨v,r,rfl,hx,h⟩:=h
  exact⟨v,r,rfl,usim_frz1 hco hs x v hx,usims_frz1 hco hs us r h⟩
theorem vsim_frz1 (hco:Core cx φ O w) (hs:O s=some (.row sz e rows)) (x:V) (v:Value) (h:bn φ w (cx.fr φ O) x v):bn φ w (cx.fr φ (f6 s O)) (x.frz1 s (.sl sz rows)) v:=by
 cases x with
 | u x=>exact usim_frz1 hco hs x v h
 | tup us=>obtain⟨arr,rfl,hc⟩:=h; exact⟨arr,rfl,usims_frz1 hco hs us _ hc⟩
theorem Core.freeze (h:Core cx φ O w) (hs:O s=some (.row sz e rows)):Core cx φ (f6 s O) w where
 os:=h.os
 tape:=h.tape
 output:=h.output
 drawn:=h.drawn
 size:=h.size
 block:=h.block
 objs:=fun t o ht=>dx iq (h.objs t o (eZ ht).2) (fun _ _=>rfl) (fun _ _ _ _ _ _=>rfl)
 own:=fun t o b ht hb=>h.own t o b (eZ ht).2 hb
 disj:=fun t t' o o' b ht ht' hb hb'=>h.disj t t' o o' b (eZ ht).2 (eZ ht').2 hb hb'
 inp:=h.inp
 itm:=fun t m left last ht=>by
  obtain⟨kk,es,hm⟩:=h.itm t m left last (eZ ht).2
  have hms:m≠s:=fun he=>by simp_all
  simp_all [f6]
theorem Sim.freeze {a:Act} (h:Sim cx φ Z O a w) (hs:O s=some (.row sz e rows)):Sim cx φ (frzE s (.sl sz rows) Z) (f6 s O) a w :=
 ⟨h.core.freeze hs,fun t=>vsim_frz1 h.core hs _ _ (h.slots t),h.defers,h.room⟩
end
def oR:Ob->Bool
 | .row _ _ _=>true
 | .map _ es=>es.all fun x=>x.2.free
 | _=>false
def obC (d:Nat):Ob->C
 | .map _ _=>.map d
 | _=>.own d
theorem esims_free {φ ψ:Nat->Value} {w:World} {F:Nat->Prop}:∀ {es:List (Key×U)} {l:List MapEntry},(es.all fun x=>x.2.free)=true->dn φ w F es l->dn ψ w F es l
 | [],_,_,h=>h
 | x::es,l,hf,h=>by
  simp only[List.all_cons,Bool.and_eq_true] at hf
  obtain⟨e,r,rfl,hk,hv,h⟩:=h
  exact⟨e,r,rfl,hk,usim_free _ _ hf.1 hv,esims_free hf.2 h⟩
theorem osim_free {φ ψ:Nat->Value} {w:World} {F:Nat->Prop} {s t:Nat} {o:Ob} (hf:oR o=true) (hψ:ψ t=φ s) (h:gm φ w F s o):gm ψ w F t o:=by
 cases o with
 | row sz e rows =>
  obtain⟨h1,h2⟩:=h
  refine⟨h1,?_⟩
  grind [fg]
 | map kk es =>
  obtain⟨b,ents,clk,hp,hh,hc,h⟩:=h
  exact⟨b,ents,clk,hψ.trans hp,hh,esims_free hf hc,h⟩
 | box _=>cases hf
 | iter _ _ _=>cases hf
 | nest _ _ _ _=>cases hf
theorem osim_hdv {φ:Nat->Value} {w:World} {F:Nat->Prop} {s:Nat} {o:Ob} (hf:oR o=true) (ho:gm φ w F s o):hdv (φ s)=φ s:=by
 cases o with
 | row sz e rows=>obtain⟨_,⟨_,a,h1⟩ | ⟨b,cap,cur,_,h1,_⟩⟩:=ho<;>rw[h1]<;>rfl
 | map kk es=>obtain⟨b,ents,clk,h1,_⟩:=ho; rw[h1]; rfl
 | _=>cases hf
theorem hdv_one {u:Value} (h:u.oneCell'=true):hdv u=u:=by
 cases u<;>first | rfl | cases h
def NewFn (P:Program) (f:FuncId) (us:List V) (R:Ob->Prop):Prop :=
 (∃ fn,P.funcs[f]?=some fn/\(fn.name == "runtime.NumGoroutine")=false/\fn.body.isNone=false) /\
 ∀ (φ:Nat->Value) (w:World) (F:Nat->Prop),Fr w F->∀ vals:List Value,vals.length=us.length->(∀ (i:Nat) (x:V) (u:Value),us[i]?=some x->vals[i]?=some u->bn φ w F x u) ->
  Calls P f vals.toArray w fun e w'=>∃ u o,e=.returned u/\Blw w.heap.size w w'/\R o/\u.oneCell'=true/\(∀ b,hbl u b->w.heap.size<=b/\b < w'.heap.size) /\
   (∀ m l la,o≠.iter m l la)/\∀ (ψ:Nat->Value) (s:Nat),ψ s=u->gm ψ w' (fun b=>F b/\¬ hbl u b) s o
section
variable {P:Program} {tb:Tb} {cx:Cx} {Z:Env} {O:Sto} {K:Env->Sto->Prop}
def newRes (tb:Tb) (Z:Env) (O:Sto) (rs:List ResultVar) (R:Ob->Prop):Prop:=match gF tb Z O rs with
 | some (.u (.one (.own s)))=>∃ o,O s=some o/\oR o=true/\R o
 | some (.u (.one (.map s)))=>∃ o,O s=some o/\oR o=true/\R o
 | some (.u (.one (.d .nil)))=>∃ sz e,R (.row sz e [])
 | _=>False
theorem new_intro (ht:TbOk P tb) {f:FuncId} {fn:Func} {c:Code} {us:List V} {R:Ob->Prop} (hf:P.funcs[f]?=some fn) (hb:fn.body=some c) (hname:(fn.name == "runtime.NumGoroutine")=false)
  (hn:us.length<=fn.ntmps)
  (h:∀ cx:Cx,cx.n=fn.ntmps->Swp P cx c (env0 us) sto0 (fun e Z O=>(e=.normal \/ e=.ret)/\newRes tb Z O fn.results.toList R)):NewFn P f us R:=by
 refine⟨⟨fn,hf,hname,by rw[hb]; rfl⟩,fun φ w F hF vals hl hv=>?_⟩
 let cx:Cx:={ w0:=w,base:=F,inb:=fun _=>False,n:=fn.ntmps,φ0:=φ,gw:=hF.gw,gin:=fun _ h=>h.elim }
 refine calls_of_wp hf hb (wp_mono (h cx rfl φ _ w (sim0 (cx:=cx) hn hl hv)) fun e a' w' ⟨h1,h2,φ',Z',O',hs',he,hres⟩=>?_)
 have hbelow:Blw w.heap.size w w':=⟨⟨hs'.core.os,hs'.core.tape,hs'.core.output,hs'.core.size,fun k hk=>hs'.core.block k hk (fun h=>h)⟩,hs'.core.drawn⟩
 have obj:∀ (s:Nat) (o:Ob) (u:Value),u=φ' s->u.oneCell'=true->O' s=some o->oR o=true->R o->∃ u' o,u=u'/\Blw w.heap.size w w'/\R o/\u'.oneCell'=true/\(∀ b,hbl u' b->w.heap.size<=b/\b < w'.heap.size) /\
   (∀ m l la,o≠.iter m l la)/\∀ (ψ:Nat->Value) (s:Nat),ψ s=u'->gm ψ w' (fun b=>F b/\¬ hbl u' b) s o:=by
  intro s o u hu h1c hso hfo hR
  subst hu
  refine⟨φ' s,o,rfl,hbelow,hR,h1c,fun b hb=>?_,(fun m l la he=>by rw[he] at hfo; cases hfo),fun ψ t hψ=>?_⟩
  ·obtain⟨h3,h4⟩:=hs'.core.own s o b hso hb
   grind
  ·refine osim_free hfo hψ (dx ⟨Nat.le_refl _,fun _ _ _=>rfl,fun b hb _=>⟨?_,fun he=>hb.2 ⟨s,o,hso,he⟩⟩⟩ (hs'.core.objs s o hso) (fun _ _=>rfl) (fun _ _ _ _ _ _=>rfl))
   rcases hb.1 with hb | hb | hb
   ·exact hb
   ·exact hF b hb
   ·exact hb.elim
 have fin:∃ u,(results fn a'.tmps).run P w'=.ok u w'/\∃ u' o,u=u'/\Blw w.heap.size w w'/\R o/\u'.oneCell'=true/\(∀ b,hbl u' b->w.heap.size<=b/\b < w'.heap.size) /\
   (∀ m l la,o≠.iter m l la)/\∀ (ψ:Nat->Value) (s:Nat),ψ s=u'->gm ψ w' (fun b=>F b/\¬ hbl u' b) s o:=by
  unfold newRes at hres
  split at hres
  ·rename_i s hr
   obtain⟨o,hso,hfo,hR⟩:=hres
   obtain⟨u,hru,hu,hu1⟩:=jm ht hs' hr
   exact⟨u,hru,obj s o u (hu.trans (osim_hdv hfo (hs'.core.objs s o hso))) hu1 hso hfo hR⟩
  ·rename_i s hr
   obtain⟨o,hso,hfo,hR⟩:=hres
   obtain⟨u,hru,hu,hu1⟩:=jm ht hs' hr
   exact⟨u,hru,obj s o u (hu.trans (osim_hdv hfo (hs'.core.objs s o hso))) hu1 hso hfo hR⟩
  ·rename_i hr
   obtain⟨sz,e,hR⟩:=hres
   obtain⟨u,hru,hu⟩:=jm ht hs' hr
   simp only[bn,bD,bl,rep] at hu
   subst hu
   exact⟨_,hru,_,_,rfl,hbelow,hR,rfl,(fun b hb=>by cases hb),(fun _ _ _ h=>by cases h),fun ψ s hψ=>⟨by simp,.inl ⟨rfl,none,hψ⟩⟩⟩
  ·exact hres.elim
 obtain⟨u,hru,u',o,rfl,hrest⟩:=fin
 rcases he with rfl | rfl
 ·exact⟨hs'.defers,u,hru,u,o,rfl,hrest⟩
 ·exact⟨hs'.defers,u,hru,u,o,rfl,hrest⟩
theorem callK_new {f:FuncId} {us:List V} {R:Ob->Prop} {d:Nat} (h:NewFn P f us R) (hd:d < cx.n) (hd':d < inBase) (hk:∀ o,R o->K (upd (cL d Z) d (.u (.one (obC d o)))) (upd (bN d O) d (some o))):kR P cx f us Z O (some d) K:=by
 refine⟨h.1,fun φ a w hs vals hl hv next hn=>(h.2 φ w _ hs.core.frm vals hl hv).mono fun _ w' ⟨u,o,he,hb,hR,hu1,hub,hit,hos⟩=>⟨u,he,?_⟩⟩
 have key:=hs.core.replace (so:=none) (d:=d) (hv:=u) (ob:=o) (w':=w') hd' (fun _ _ h=>by cases h) hb.os hb.tape hb.output hb.drawn hb.size (fun b hl _=>hb.block b hl)
  (fun b hbk=>⟨.inl (hub b hbk).1,(hub b hbk).2⟩) (fun m l la he=>absurd he (hit m l la))
  (fun _=>dx ⟨Nat.le_refl _,fun _ _ _=>rfl,fun b hb' _=>⟨hb'.1.1,fun⟨t,o',ho',he'⟩=>by
   by_cases htd:t=d
   ·simp_all [upd_same]
   ·rw[bc _ _ htd] at ho' he'
    simp only[bN,drop] at ho'
    cases hst:O t with
    | none=>simp_all
    | some o2=>exact hb'.1.2 ⟨t,o2,hst,he'⟩⟩⟩ (hos (upd φ d u) d (upd_same _ _ _)) (fun _ _=>rfl) (fun _ _ _ _ _ _=>rfl))
 rw[iG] at key
 refine hn _ _ _ _ w' (Sim.new hs hd key rfl ?_) (hk o hR)
 cases o<;>(simp only[obC,bl]; rw[upd_same,hdv_one hu1]; exact⟨rfl,hu1⟩)
end
end Go.AM
