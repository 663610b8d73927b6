/- Lemmas for the law. -/
import Derived.Test.YtpeabgakdpojlaaGreatDoorAmX
namespace Go.AM
open Go.RowKit
def QL (cx:Cx) (Q:Aa) (e:Exit) (a:Act) (w:World):Prop :=(∀c,e≠.panic c)/\e≠.outgrown/\∃E Z O,Sim cx E Z O a w/\Q e Z O
def Swp (P:Program) (cx:Cx) (c:Code) (Z:Env) (O:Sto) (Q:Aa):Prop :=∀(E:A7) (a:Act) (w:World),Sim cx E Z O a w->c.wp P (QL cx Q) a w
def thenQ (K:A3) (Q:Aa):Aa|.normal=>K|e=>Q e
def sC (id:Nat) (Q:Aa):Aa|.exit i=>if i=id then Q .normal else Q (.exit i)|e=>Q e
section
variable {P:Program} {tb:Tb} {cx:Cx} {Z:Env} {O:Sto} {Q:Aa}
theorem Swp.mono {c:Code} {Q':Aa} (h:Swp P cx c Z O Q) (hq:∀e Z O,Q e Z O->Q' e Z O):Swp P cx c Z O Q':=λE a w hs=>
 wp_mono (h E a w hs) λe _ _ ⟨h1,h2,E,Z,O,hs,hk⟩=>⟨h1,h2,E,Z,O,hs,hq e Z O hk⟩
theorem bq (h:Q .normal Z O):Swp P cx .skip Z O Q:=λE a w hs=>wp_skip ⟨(λ_ h=>by cases h),(λh=>by cases h),E,Z,O,hs,h⟩
theorem jp {id:Nat} (h:Q (.exit id) Z O):Swp P cx (.exit id) Z O Q:=λE a w hs=>wp_exit ⟨(λ_ h=>by cases h),(λh=>by cases h),E,Z,O,hs,h⟩
theorem bK (h:Q .ret Z O):Swp P cx .ret Z O Q:=λE a w hs=>wp_ret ⟨(λ_ h=>by cases h),(λh=>by cases h),E,Z,O,hs,h⟩
theorem swp_seq {x y:Code} (h:∀K:A3,(∀Z O,Swp P cx y Z O Q->K Z O)->Swp P cx x Z O (thenQ K Q)):Swp P cx (.seq x y) Z O Q:=λE a w hs=>
 wp_seq (wp_mono (h _ (λ_ _ h=>h) E a w hs) λe a' w' ⟨h1,h2,E',Z',O',hs',hk⟩=>by
  cases e with
  |normal=>exact hk E' a' w' hs'|panic c=>simp_all|outgrown=>grind|_=>exact⟨h1,h2,E',Z',O',hs',hk⟩)
theorem swp_cond {c:Operand} {x y:Code} {b:Bool} (hc:oev Z c=.u (.one (.d (.bool b)))) (ht:b=true->Swp P cx x Z O Q) (hf:b=false->Swp P cx y Z O Q):Swp P cx (.cond c x y) Z O Q:=λE a w hs=>by have h1:=dW hs.core.gw hs.slots c;rw[hc] at h1;simp only[bI,ct,bG,rep] at h1;exact wp_cond_split h1 (λhb=>ht hb E a w hs) (λhb=>hf hb E a w hs)
theorem swp_block {id:Nat} {c:Code} (h:Swp P cx c Z O (sC id Q)):Swp P cx (.block id c) Z O Q:=λE a w hs=>
 wp_block (wp_mono (h E a w hs) λe a' w' ⟨h1,h2,E',Z',O',hs',hk⟩=>by
  cases e with
  |exit i=>simp only[Exit.inBlock];simp only[sC] at hk;split;{rename_i hi;rw[if_pos hi] at hk;exact⟨(λ_ h=>by cases h),(λh=>by cases h),E',Z',O',hs',hk⟩};{rename_i hi;rw[if_neg hi] at hk;exact⟨(λ_ h=>by cases h),(λh=>by cases h),E',Z',O',hs',hk⟩}|panic c=>simp_all|outgrown=>grind|_=>exact⟨h1,h2,E',Z',O',hs',hk⟩)
theorem exists_least {p:Ad} (h:∃n,p n):∃n,p n/\∀m,p m->n<=m:=by
 obtain⟨n,hn⟩:=h;induction n using Nat.strongRecOn with
 |_ n ih=>grind
open Classical in
theorem swp_loop {c:Code} (Ia:Nat->Env->Sto->Prop) (n:Nat) (h0:Ia n Z O) (hr:∀n Z O,Ia n Z O->Swp P cx c Z O (thenQ (λZ O=>∃m,m<n/\Ia m Z O) Q)):Swp P cx (.loop c) Z O Q:=λE a w hs=>by
 let Ja:Act->World->Nat->Prop:=λa w n=>∃E Z O,Sim cx E Z O a w/\Ia n Z O;refine wp_loop (λa w=>∃n,Ja a w n) (λa w=>if h:∃n,Ja a w n then Classical.choose (exists_least h)else 0) ⟨n,E,Z,O,hs,h0⟩ ?_;intro a w hI;obtain⟨E',Z',O',hs',hI'⟩:=(Classical.choose_spec (exists_least hI)).1;refine wp_mono (hr _ Z' O' hI' E' a w hs') λe a' w' ⟨h1,h2,E2,ρ2,σ2,hs2,hk⟩=>?_;cases e with
 |normal=>
  obtain⟨m,hm,hIm⟩:=hk;have hJ:∃n,Ja a' w' n:=⟨m,E2,ρ2,σ2,hs2,hIm⟩
  refine⟨hJ,?_⟩;simp only[dif_pos hI,dif_pos hJ];exact Nat.lt_of_le_of_lt ((Classical.choose_spec (exists_least hJ)).2 m ⟨E2,ρ2,σ2,hs2,hIm⟩) hm
 |panic c=>exact absurd rfl (h1 c)|outgrown=>exact absurd rfl h2|_=>exact⟨h1,h2,E2,ρ2,σ2,hs2,hk⟩
theorem swp_region (ht:TbOk P tb) {id:Nat} {ops:Array Oper} (hd:kl cx.n ops.toList=true) (h:aops P cx tb ops.toList ops.toList Z O (Q .normal)):Swp P cx (.region id ops false) Z O Q:=λE a w hs=>
 wp_region (by have:=aops_sound ht hd (Q:=QL cx Q) (λE Z O a w hs hk=>⟨(λ_ h=>by cases h),(λh=>by cases h),E,Z,O,hs,hk⟩) ops.toList 0 Z O E a w (λj=>by simp) h hs;grind[List.range_eq_range'])
theorem swp_quiet (ht:TbOk P tb) {id:Nat} {ops:Array Oper} (hm:P.follows .mixedOrders=true) (hd:kl cx.n ops.toList=true) (hB:Region.lexB .any ops=true) (h:qops P tb ops.toList O ops.toList Z λZ=>Q .normal Z O):Swp P cx (.region id ops true) Z O Q:=λE a w hs=>
 draw_quiet ht hd hm hB (λE Z a w hs hk=>⟨(λ_ h=>by cases h),(λh=>by cases h),E,Z,O,hs,hk⟩) hs h
theorem swp_chain (ht:TbOk P tb) {id:Nat} {ops:Array Oper} {nT:Nat} (hm:P.follows .mixedOrders=true) (hd:kl cx.n ops.toList=true) (hB:Region.lexB .any ops=true) (hn:nT<ops.size) (hC:chainB ops nT=true) (h:qops P tb ops.toList O (ops.toList.take nT) Z λZ=>aops P cx tb ops.toList (ops.toList.drop nT) Z O (Q .normal)):Swp P cx (.region id ops true) Z O Q:=λE a w hs=>
 draw_chain ht hd hm hB hn hC (λE Z O a w hs hk=>⟨(λ_ h=>by cases h),(λh=>by cases h),E,Z,O,hs,hk⟩) hs h
end
mutual
def C.free:C->Bool|.top|.d _|.ref _ _|.nilmap|.opq _=>true|.fn _ caps=>C.frees caps|_=>false
def C.frees:As->Bool|[]=>true|c::cs=>c.free&&C.frees cs
end
def U.free:U->Bool|.one c=>c.free|.agg cs=>C.frees cs
def U.frees:List U->Bool|[]=>true|x::us=>x.free&&U.frees us
def V.free:V->Bool|.u x=>x.free|.tup us=>U.frees us
section
variable {E J:A7} {w:World} {F:Ad}
mutual
theorem csim_free:∀(c:C) (v:Value),c.free=true->bG E w F c v->bG J w F c v|.top,_,_,_=>by simp[bG]|.d x,v,_,h=>by simpa [bG] using h|.ref xs o,v,_,h=>by simpa [bG] using h|.nilmap,v,_,h=>by simpa [bG] using h|.opq _,v,_,h=>by simpa [bG] using h|.sub _ _ _ _,_,h,_=>by simp[C.free] at h|.box _ _,_,h,_=>by simp[C.free] at h|.own _,_,h,_=>by simp[C.free] at h|.elt _ _ _ _,_,h,_=>by simp[C.free] at h|.map _,_,h,_=>by simp[C.free] at h|.iter _,_,h,_=>by simp[C.free] at h|.fn f caps,v,hf,h=>by simp only[bG,C.free] at h hf⊢;obtain⟨arr,rfl,hc⟩:=h;exact⟨arr,rfl,uc caps _ hf hc⟩
theorem uc:∀(cs:As) (vs:A9),C.frees cs=true->bB E w F cs vs->bB J w F cs vs|[],_,_,h=>by simpa [bB] using h|c::cs,vs,hf,h=>by simp only[C.frees,Bool.and_eq_true] at hf;simp only[bB] at h⊢;obtain⟨v,r,rfl,hc,h⟩:=h;exact⟨v,r,rfl,csim_free c v hf.1 hc,uc cs r hf.2 h⟩
end
theorem usim_free (x:U) (v:Value) (hf:x.free=true) (h:ct E w F x v):ct J w F x v:=by
 cases x with
 |one c=>exact csim_free c v hf h|agg cs=>obtain⟨arr,rfl,hc⟩:=h;exact⟨arr,rfl,uc cs _ hf hc⟩
theorem usims_free:∀(us:List U) (vs:A9),U.frees us=true->iN E w F us vs->iN J w F us vs|[],_,_,h=>h|x::us,vs,hf,h=>by simp only[U.frees,Bool.and_eq_true] at hf;obtain⟨v,r,rfl,hc,h⟩:=h;exact⟨v,r,rfl,usim_free x v hf.1 hc,usims_free us r hf.2 h⟩
theorem vsim_free (x:V) (v:Value) (hf:x.free=true) (h:bI E w F x v):bI J w F x v:=by
 cases x with
 |u x=>exact usim_free x v hf h|tup us=>obtain⟨arr,rfl,hc⟩:=h;exact⟨arr,rfl,usims_free us _ hf hc⟩
end
def C.frz (O:Sto):C->C
 |.own s=>match O s with
  |some (.row sz _ rows)=>.d (.sl sz rows)|_=>.own s
 |c=>c
def U.frz (O:Sto):U->U|.one c=>.one (c.frz O)|.agg cs=>.agg (cs.map (C.frz O))
def V.frz (O:Sto):V->V|.u x=>.u (x.frz O)|.tup us=>.tup (us.map (U.frz O))
section
variable {E:A7} {w:World} {F:Ad}
theorem sn:∀{xs:Ak} {b o:Nat},Mem E w F (xs.map C.d) b o->dM w F xs b o|[],_,_,_=>by simp[dM]|x::xs,b,o,⟨us,hc,hm⟩=>by simp only[List.map_cons,bB] at hc;obtain⟨v,r,rfl,hx,hc⟩:=hc;simp only[dM];refine⟨⟨v,by simpa using (hm 0 v rfl).1,by simpa [bG] using hx⟩,sn ⟨r,hc,λj u hj=>?_⟩⟩;have:=hm (j+1) u (by simpa using hj);grind
theorem nF {sz:Nat}:∀{rs:A8} {b o:Nat},(∀r∈rs,r.length=sz)->Mem E w F (rs.flatten.map C.d) b o->cJ w F sz rs b o|[],_,_,_,_=>by simp[cJ]|r::rs,b,o,hl,hm=>by have hr:=hl r (by simp);simp only[cJ];refine⟨⟨hr,sn (E:=E) ?_⟩,nF (λr hr=>hl r (List.mem_cons_of_mem _ hr)) ?_⟩;{have:=hm.sub 0 sz;simp_all};{have:=hm.sub sz (rs.flatten.map C.d).length;grind}
theorem csim_frz {cx:Cx} {O:Sto} (hco:Core cx E O w) {F':Ad} (hF:∀b,cx.fr E O b->b<w.heap.size->F' b) (ho:∀s o b,O s=some o->hbl (E s) b->F' b) (c:C) (v:Value) (h:bG E w (cx.fr E O) c v):bG E w F' (c.frz O) v:=by
 have K:Keep (cx.fr E O) F' w w:=⟨Nat.le_refl _,λ_ _ _=>rfl,hF⟩
 cases c with
 |own s=>simp only[C.frz];split;{rename_i sz e rows hs;simp only[bG] at h⊢;obtain⟨rfl,_⟩:=h;obtain⟨hl,hr⟩:=hco.objs s _ hs;simp only[rep];rcases hr with⟨rfl,a,ha⟩|⟨b,cap,cur,h0,hp,hle,hm,hh,hsz,hc⟩;{exact⟨a,0,0,(by rw[ha];rfl),rfl,Nat.le_refl _,Nat.zero_le _,.inl rfl⟩};{refine⟨_,_,cap,(by rw[hp];rfl),rfl,hle,hm,.inr ⟨b,0,rfl,ho s _ b hs (by rw[hp];simp only[hbl_slice];grind),(Array.getElem?_eq_some_iff.1 hh).1,?_⟩⟩;have hc':=cF K _ _ hc;exact nF hl (ib hh hc' (jm hc'))}};{exact eB K _ _ h}|_=>exact eB K _ _ h
theorem csims_frz {cx:Cx} {O:Sto} (hco:Core cx E O w) {F':Ad} (hF:∀b,cx.fr E O b->b<w.heap.size->F' b) (ho:∀s o b,O s=some o->hbl (E s) b->F' b):∀(cs:As) (vs:A9),bB E w (cx.fr E O) cs vs->bB E w F' (cs.map (C.frz O)) vs|[],_,h=>h|c::cs,vs,h=>by simp only[bB] at h;obtain⟨v,r,rfl,hc,h⟩:=h;simp only[List.map_cons,bB];exact⟨v,r,rfl,csim_frz hco hF ho c v hc,csims_frz hco hF ho cs r h⟩
theorem usim_frz {cx:Cx} {O:Sto} (hco:Core cx E O w) {F':Ad} (hF:∀b,cx.fr E O b->b<w.heap.size->F' b) (ho:∀s o b,O s=some o->hbl (E s) b->F' b) (x:U) (v:Value) (h:ct E w (cx.fr E O) x v):ct E w F' (x.frz O) v:=by
 cases x with
 |one c=>exact csim_frz hco hF ho c v h|agg cs=>obtain⟨arr,rfl,hc⟩:=h;exact⟨arr,rfl,csims_frz hco hF ho cs _ hc⟩
theorem usims_frz {cx:Cx} {O:Sto} (hco:Core cx E O w) {F':Ad} (hF:∀b,cx.fr E O b->b<w.heap.size->F' b) (ho:∀s o b,O s=some o->hbl (E s) b->F' b):∀(us:List U) (vs:A9),iN E w (cx.fr E O) us vs->iN E w F' (us.map (U.frz O)) vs|[],_,h=>h|x::us,vs,h=>by obtain⟨v,r,rfl,hx,h⟩:=h;exact⟨v,r,rfl,usim_frz hco hF ho x v hx,usims_frz hco hF ho us r h⟩
theorem vsim_frz {cx:Cx} {O:Sto} (hco:Core cx E O w) {F':Ad} (hF:∀b,cx.fr E O b->b<w.heap.size->F' b) (ho:∀s o b,O s=some o->hbl (E s) b->F' b) (x:V) (v:Value) (h:bI E w (cx.fr E O) x v):bI E w F' (x.frz O) v:=by
 cases x with
 |u x=>exact usim_frz hco hF ho x v h|tup us=>obtain⟨arr,rfl,hc⟩:=h;exact⟨arr,rfl,usims_frz hco hF ho us _ hc⟩
end
def resU (tb:Tb) (Z:Env) (O:Sto):ResultVar->Option U
 |.tmp t=>match Z t with
  |.u x=>some x|_=>none
 |.cell at_ t=>match qload tb O t (Z at_)with
  |some (.u x)=>some x|_=>none
def resUs (tb:Tb) (Z:Env) (O:Sto):List ResultVar->Option (List U)
 |[]=>some []|r::rs=>match resU tb Z O r,resUs tb Z O rs with
  |some x,some xs=>some (x::xs)|_,_=>none
def iE (tb:Tb) (Z:Env) (O:Sto) (rs:List ResultVar):At:=match resUs tb Z O rs with|some [x]=>some (.u x)|some xs=>some (.tup xs)|none=>none
def readRes (tmps:Array Value):ResultVar->Sem Value|.tmp t=>pure (tmps.getD t undef)|.cell at_ t=>do loadVar t (<- asAddr (tmps.getD at_ undef))
theorem results_eq (fn:Func) (tmps:Array Value):results fn tmps=(do
  let vs <- fn.results.mapM (readRes tmps)
  pure (if h:vs.size=1 then vs[0] else .tuple vs)):=by rfl
section
variable {P:Program} {tb:Tb} {cx:Cx} {Z:Env} {O:Sto}
theorem resU_sound (ht:TbOk P tb) {E:A7} {a:Act} {w:World} (hs:Sim cx E Z O a w) {r:ResultVar} {x:U} (h:resU tb Z O r=some x) :∃u,(readRes a.tmps r).run P w=.ok u w/\ct E w (cx.fr E O) x u:=by
 cases r with
 |tmp t=>simp only[resU] at h;split at h;{rename_i y hy;cases h;have:=hs.slots t;rw[hy] at this;exact⟨_,rfl,this⟩};{cases h}|cell at_ t=>
  simp only[resU] at h;split at h
  ·rename_i y hy;cases h;have hx:=hs.slots at_;have hp:∃ad,a.tmps.getD at_ undef=.pointer (some ad):=by unfold qload at hy;split at hy;{rename_i ti c hty hc;split at hy;{rename_i cs off hm;rw[hc] at hx;obtain⟨b,o,he,_⟩:=memOf_sound hs.core hm hx;exact⟨_,he⟩};{cases hy}};{cases hy}
   obtain⟨ad,he⟩:=hp;obtain⟨u,hr,hv⟩:=qload_here ht hs.core hy hx;rw[he] at hr;exact⟨u,by simpa [readRes,he,asAddr,Instr.loadAt,Instr.sureAddr] using hr,hv⟩
  ·cases h
theorem resUs_sound (ht:TbOk P tb) {E:A7} {a:Act} {w:World} (hs:Sim cx E Z O a w):∀{rs:List ResultVar} {xs:List U},resUs tb Z O rs=some xs -> ∃us,(rs.mapM (readRes a.tmps)).run P w=.ok us w/\iN E w (cx.fr E O) xs us/\us.length=rs.length
 |[],xs,h=>by cases h;exact⟨[],by simp,rfl,rfl⟩
 |r::rs,xs,h=>by simp only[resUs] at h;split at h;{rename_i x ys h1 h2;cases h;obtain⟨u,hr,hu⟩:=resU_sound ht hs h1;obtain⟨us,hrs,hus,hl⟩:=resUs_sound ht hs h2;refine⟨u::us,?_,⟨u,us,rfl,hu,hus⟩,by simp[hl]⟩;simp_all};{cases h}
theorem mU (ht:TbOk P tb) {E:A7} {a:Act} {w:World} (hs:Sim cx E Z O a w) {fn:Func} {v:V} (h:iE tb Z O fn.results.toList=some v) :∃u,(results fn a.tmps).run P w=.ok u w/\bI E w (cx.fr E O) v u:=by
 unfold iE at h;have key:∀xs,resUs tb Z O fn.results.toList=some xs->∃us:A9,(results fn a.tmps).run P w=.ok (if h:us.toArray.size=1 then us.toArray[0] else .tuple us.toArray) w/\iN E w (cx.fr E O) xs us/\us.length=fn.results.toList.length:=by intro xs hx;obtain⟨us,h1,h2,h3⟩:=resUs_sound ht hs hx;refine⟨us,?_,h2,h3⟩;simp_all[results_eq,run_mapM_array]
 split at h;{rename_i x hx;cases h;obtain⟨us,h1,h2,h3⟩:=key [x] hx;obtain⟨u,r,rfl,hu,hr⟩:=h2;have:r=[]:=hr;subst this;exact⟨u,by simpa using h1,hu⟩}
 ·rename_i xs hne hx;cases h;obtain⟨us,h1,h2,h3⟩:=key xs hx;have hl:us.length≠1:=by
   intro h4
   match us,h4,xs,h2 with
   |[u],_,[],h2=>(cases h2)|[u],_,[x],_=>exact hne x rfl|[u],_,x::y::xs,h2=>obtain⟨_,r,he,_,_,r',he',_⟩:=h2;cases he;cases he'
  exact⟨.tuple us.toArray,by grind,us.toArray,rfl,by simpa using h2⟩
 ·cases h
def PFn (P:Program) (f:FuncId) (us:Ao) (R:Az):Prop :=(∃fn,P.funcs[f]?=some fn/\(fn.name == "runtime.NumGoroutine")=false/\fn.body.isNone=false) /\ ∀(E:A7) (w:World) (F:Ad),Fr w F->∀vals:A9,vals.length=us.length->(∀(i:Nat) (x:V) (u:Value),us[i]?=some x->vals[i]?=some u->bI E w F x u) ->
  Calls P f vals.toArray w λe w'=>∃u v,e=.returned u/\Blw w.heap.size w w'/\R v/\bI E w' F v u
def env0 (us:Ao):Env:=λt=>match us[t]? with|some v=>v|none=>.top
def sto0:Sto:=λ_=>none
theorem sim0 {cx:Cx} {us:Ao} {vals:A9} (hn:us.length<=cx.n) (hl:vals.length=us.length) (hv:∀(i:Nat) (x:V) (u:Value),us[i]?=some x->vals[i]?=some u->bI cx.φ0 cx.w0 cx.base x u) :
  Sim cx cx.φ0 (env0 us) sto0 { tmps:=vals.toArray++Array.replicate (cx.n-vals.toArray.size) undef,defers:=[] } cx.w0:=by
 have hfr:∀b,cx.base b->cx.fr cx.φ0 sto0 b:=λb hb=>⟨.inl hb,λ⟨_,_,h,_⟩=>by cases h⟩
 have hcore:Core cx cx.φ0 sto0 cx.w0:=⟨rfl,rfl,rfl,Nat.le_refl _,Nat.le_refl _,λ_ _ _=>rfl,(λ_ _ h=>by cases h),(λ_ _ _ h=>by cases h),(λ_ _ _ _ _ h=>by cases h),λ_ _ _=>.refl _,(λ_ _ _ _ h=>by cases h)⟩
 refine⟨hcore,λt=>?_,rfl,by simp_all⟩;unfold env0;split
 ·rename_i v hvt;have hlt:t<us.length:=(List.getElem?_eq_some_iff.1 hvt).1;have hu:vals[t]?=some vals[t]:=List.getElem?_eq_getElem (by omega);have:=hv t v _ hvt hu;have he:(vals.toArray++Array.replicate (cx.n-vals.toArray.size) undef).getD t undef=vals[t]:=by simp_all[Array.getElem?_append_left]
  simp only[he];exact fb ⟨Nat.le_refl _,λ_ _ _=>rfl,λb hb _=>hfr b hb⟩ _ _ this
 ·exact vsim_top _
theorem pfn_intro (ht:TbOk P tb) {f:FuncId} {fn:Func} {c:Code} {us:Ao} {R:Az} (hf:P.funcs[f]?=some fn) (hb:fn.body=some c) (hname:(fn.name == "runtime.NumGoroutine")=false) (hn:us.length<=fn.ntmps) (h:∀cx:Cx,cx.n=fn.ntmps->Swp P cx c (env0 us) sto0 (λe Z O=>(e=.normal\/e=.ret)/\∃v,iE tb Z O fn.results.toList=some v/\(v.frz O).free=true/\R (v.frz O))):PFn P f us R:=by
 refine⟨⟨fn,hf,hname,by rw[hb];rfl⟩,λE w F hF vals hl hv=>?_⟩;let cx:Cx:={ w0:=w,base:=F,inb:=λ_=>False,n:=fn.ntmps,φ0:=E,gw:=hF.gw,gin:=λ_ h=>h.elim }
 have hsim:=sim0 (cx:=cx) hn hl hv;refine calls_of_wp hf hb (wp_mono (h cx rfl E _ w hsim) λe a' w' ⟨h1,h2,E',Z',O',hs',he,v,hres,hvf,hR⟩=>?_);obtain⟨u,hru,hvu⟩:=mU ht hs' hres;have hbelow:Blw w.heap.size w w':=⟨⟨hs'.core.os,hs'.core.tape,hs'.core.output,hs'.core.size,λk hk=>hs'.core.block k hk (λh=>h)⟩,hs'.core.drawn⟩
 have hfin:bI E w' F (v.frz O') u:=by refine vsim_free _ _ hvf (vsim_frz hs'.core (λb hb _=>?_) (λs o b hs hb=>?_) _ _ hvu);{rcases hb.1 with hb|hb|hb;{exact hb};{exact hF b hb};{exact hb.elim}};{rcases (hs'.core.own s o b hs hb).1 with hb|hb;{exact hF b hb};{exact hb.elim}}
 rcases he with rfl|rfl;{exact⟨hs'.defers,u,hru,u,v.frz O',rfl,hbelow,hR,hfin⟩};{exact⟨hs'.defers,u,hru,u,v.frz O',rfl,hbelow,hR,hfin⟩}
theorem PFn.pure {f:FuncId} {us:Ao} {v:V} (h:PFn P f us (·=v)):bA P f us v :=⟨h.1,λE w F hF vals hl hv=>(h.2 E w F hF vals hl hv).mono λ_ _ ⟨u,_,he,hb,hv,hs⟩=>⟨u,he,hb,by grind⟩⟩
end
