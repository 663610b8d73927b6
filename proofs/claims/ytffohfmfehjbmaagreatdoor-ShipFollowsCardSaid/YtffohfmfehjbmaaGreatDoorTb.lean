/- The table, for simp. -/
import Derived.Test.YtffohfmfehjbmaaGreatDoorTab
import Derived.Test.YtffohfmfehjbmaaGreatDoorMdx1
namespace Go.Proofs.YtffohfmfehjbmaaGreatDoor
open Go.AM Go.Proofs
theorem tb_ty:tb.ty=ty:=rfl
theorem tb_eqn:tb.eqn=eqn:=rfl
theorem tb_key:tb.key=key:=rfl
theorem tb_call (f:FuncId) (us:List V):tb.call f us=none:=rfl
theorem tb_eff (f:FuncId) (us:List V) (d:Option Nat) (Z:Env) (O:Sto):tb.eff f us d Z O=none:=rfl
def g0L:List L:=[.int .i64 1,.int .i64 0,.int .i64 0,.int .i64 1,.int .i64 0,.int .i64 (-1),.int .i64 1,.int .i64 0,.int .i64 (-1),.int .i64 0,.int .i64 0,.int .i64 (-1),.int .i64 0,.int .i64 1,.int .i64 (-1),.int .i64 0,.int .i64 (-1),.int .i64 0,.int .i64 0,.int .i64 1,.int .i64 0,.int .i64 (-1),.int .i64 (-1),.int .i64 0,.int .i64 1,.int .i64 0,.int .i64 0,.int .i64 (-1),.int .i64 0,.int .i64 1,.int .i64 1,.int .i64 0]
theorem gval0:gval 0=.u (.one (.ref g0L 0)):=rfl
attribute [simp] gval0
theorem g0_get {i:Int} {x:Int×Int×Int×Int} (h:aidx 8 g0R i=some x):subR g0L (i.toNat*4) 4=[.int .i64 x.1,.int .i64 x.2.1,.int .i64 x.2.2.1,.int .i64 x.2.2.2]:=subR_get (xs:=g0L) (l:=g0R) (fun(x:Int×Int×Int×Int)=>[.int .i64 x.1,.int .i64 x.2.1,.int .i64 x.2.2.1,.int .i64 x.2.2.2]) 4 (fun _=>rfl) rfl h
attribute [simp] qnil C.inNs C.inN tb_ty tb_eqn tb_key tb_call tb_eff ty eqn key ti2 ti3 ti4 ti5 ti9 ti21 ti22 ti23 ti25 ti26 ti28 ti30 ti33 ti37 ti38 ti44 ti46 ti48 ti49 ti61 ti65 ti76 ti78 ti80 ti84 ti91 ti92 ti94 ti99 ti110 ti113 ti121 ti122 ti126 ti128 ti132 ti133 ti144 ti148 ti153 ti154 ti156 ti162 ti166 ti167 ti168 ti169 ti171 ti173 ti180 ti185 ti188 ti193 ti199 ti202 ti208 ti209 ti211 ti215 ti216 ti218 ti219 ti221 ti225 ti228 ti229 ti231 ti238 ti242 ti255 ti269 ti270 ti272 ti300 ti304 ti305 ti308 ti317 ti319 ti320 ti331 ti332 ti335 ti338
theorem pfnN {f:FuncId} {fn:Func} {N:Nat} {us:List V} {R:V->Prop} {c:Code} (hf:Tryz.prog.funcs[f]?=some fn) (ht:fn.ntmps=N) (hb:fn.body=some c) (hname:(fn.name == "runtime.NumGoroutine")=false) (hn:us.length<=N)
  (h:∀ cx:Cx,cx.n=N->Swp Tryz.prog cx c (env0 us) sto0 (fun e Z O=>(e=.normal \/ e=.ret)/\EE cx (fun Z O=>∃ v,cp tb Z O fn.results.toList=some v/\(v.frz O).free=true/\R (v.frz O)) Z O)):PFn Tryz.prog f us R :=
 pfn_E aP c hf hb hname (by rw[ht]; exact hn) fun cx hc=>h cx (hc.trans ht)
def b9 {S:Type} (L:S->List (Nat×V)) (M:S->List (Nat×Ob)) (s:S) (Z:Env) (O:Sto):Prop:=Fits (L s) (M s) Z O
theorem bc {S T:Type} {cx:Cx} {L:S->List (Nat×V)} {M:S->List (Nat×Ob)} {s:S} {Z:Env} {O:Sto} (hE:b9 L M s Z O) {step:S->Option (Lp S T)} {n:Nat} {t:T} (h:aK step n s=some t) (F:T->Exit->Env->Sto->Prop) {c:Code}
  (hstep:∀ s r,step s=some r->∀ Z O,Fits (L s) (M s) Z O->Swp Tryz.prog cx c Z O (Rd (fun s=>EE cx (aY (L s) (M s))) F r))
  (hn:∀ s,bo ((L s).map (·.1))=true:=by intro _; rfl) (hm:∀ s,bo ((M s).map (·.1))=true:=by intro _; rfl):Swp Tryz.prog cx (.loop c) Z O (F t):=loop_model L M F step hn hm hstep h hE
def dB (d:Option Nat) (N:Nat):Bool:=match d with
 | some x=>decide (x < N)
 | none=>true
theorem dkL {d:Option Nat} {n N:Nat} (hn:n=N) (h:dB d N=true:=by rfl):∀ x,d=some x->x < n:=fun x hx=>by
 subst hx hn
 exact of_decide_eq_true h
theorem sr1 {cx:Cx} {Z:Env} {O:Sto} {Q:Exit->Env->Sto->Prop} {N:Nat} (hn:cx.n=N) {id:Nat} {l:List Oper} (h:cO Tryz.prog cx tb l l Z O (Q .normal) .mk) (hd:cm N l=true:=by kernel_rfl):Swp Tryz.prog cx (.region id l.toArray false) Z O Q:=sw_reg aP (by rw[hn]; exact hd) h
theorem srs {cx:Cx} {Z:Env} {O:Sto} {Q:Exit->Env->Sto->Prop} {N:Nat} (hn:cx.n=N) {y:Code} {id:Nat} {l:List Oper} (h:cO Tryz.prog cx tb l l Z O (fun Z O=>Swp Tryz.prog cx y Z O Q) .mk) (hd:cm N l=true:=by kernel_rfl):Swp Tryz.prog cx (.seq (.region id l.toArray false) y) Z O Q:=sw_regs aP (by rw[hn]; exact hd) h
theorem bndI {α β:Type} {o:Option α} {f:α->Option β} {r:β} {G:Prop} (h:∀ x,o=some x->f x=some r->G):o.bind f=some r->G:=fun hm=>let ⟨x,h1,h2⟩:=bnd hm; h x h1 h2
theorem bifI {α:Type} {c:Bool} {x y:Option α} {r:α} {G:Prop} (h1:c=true->x=some r->G) (h2:c=false->y=some r->G):(bif c then x else y)=some r->G:=fun hm=>(aM hm).elim (fun h=>h1 h.1 h.2) fun h=>h2 h.1 h.2
theorem swif {P:Program} {cx:Cx} {x y:Code} {Z:Env} {O:Sto} {Q:Exit->Env->Sto->Prop} {o:Operand} {b:Bool} {α:Type} {A B:Option α} {r:α} (h1:b=true->A=some r->Swp P cx x Z O Q) (h2:b=false->B=some r->Swp P cx y Z O Q) (hc:oev Z o=.u (.one (.d (.bool b)))):(bif b then A else B)=some r->Swp P cx (.cond o x y) Z O Q :=
 bifI (fun h hm=>aI hc h (h1 h hm)) fun h hm=>aG hc h (h2 h hm)
theorem zz {p:Prop} (h:p:=by
  (try clear hE hh)
  (try (revert hm; intro zm))
  (try dsimp only at zm)
  (try simp only[Fits,aR,aQ,and_true,true_and] at hf)
  (try (obtain⟨rfl,xx⟩:=xx))
  repeat' (first
   | exact xx
   | ((with_reducible refine EE.here ?_); simp -dsimp [*]; done)
   | cases zm
   | with_reducible refine aC ?_ | with_reducible refine blk_r ?_ | with_reducible refine bp ?_ | with_reducible refine bj ?_ | ((with_reducible refine blk_o ?_ ?_); (focus decide))
   | ((with_reducible refine dF ?_ ?_); rotate_left; (focus exact nofun))
   | with_reducible refine bO ?_
   | ((with_reducible refine rd_out ?_ ?_); (focus exact nofun))
   | refine aH ?_ | refine aF ?_ | refine swp_exit ?_ | refine b6 ?_
   | (refine sw_ee ?_ ?_ xx ?_; (focus rfl); (focus rfl); clear xx; intro Z O hf; simp only[Fits,aR,aQ,and_true,true_and] at hf)
   | refine srs hn (hd:=by kernel_rfl) (h:=?_)
   | refine sr1 hn (hd:=by kernel_rfl) (h:=?_)
   | refine bG aP mixed (hc:=by rw[hn]; kernel_rfl) (h:=?_)
   | refine sw_qt aP mixed (hc:=by rw[hn]; kernel_rfl) (h:=?_)
   | refine aD ?_
   | (revert zm; refine swif ?_ ?_ ?_; rotate_right; (focus simp -dsimp [*]; done); all_goals intro c zm)
   | (refine aI (b:=true) ?_ rfl ?_; (focus simp -dsimp [*]; done))
   | (refine aG (b:=false) ?_ rfl ?_; (focus simp -dsimp [*]; done))
   | (revert zm; (with_reducible refine bndI ?_); intro x h zm)
   | refine⟨rfl,?_⟩ | refine⟨.inl rfl,?_⟩ | refine⟨.inr rfl,?_⟩
   | (refine ee_bind ?_ ?_ xx ?_; (focus rfl); (focus rfl); clear xx; intro Z O hf; simp only[Fits,aR,aQ,and_true,true_and] at hf)
   | simp -dsimp [*]
   | (revert zm; (with_reducible refine bifI ?_ ?_)<;>intro c zm))):p:=h
theorem aW {S:Type} {cx:Cx} {L:S->List (Nat×V)} {M:S->List (Nat×Ob)} {s:S} {c:Code} {F Q:Exit->Env->Sto->Prop} {Z:Env} {O:Sto} (h:∀ {Z:Env} {O:Sto},b9 L M s Z O->Swp Tryz.prog cx c Z O F)
  (hE:EE cx (aY (L s) (M s)) Z O) (hk:∀ ee Z O,F ee Z O->Q ee Z O) (hn:bo ((L s).map (·.1))=true:=by rfl) (hm:bo ((M s).map (·.1))=true:=by rfl):Swp Tryz.prog cx c Z O Q:=sw_ent (L s) (M s) hn hm hE fun _ _ hf=>(h hf).mono hk
theorem b8 {f:FuncId} {fn:Func} {N:Nat} {us:List V} {v0:V} {c:Code} (hf:Tryz.prog.funcs[f]?=some fn) (ht:fn.ntmps=N)
  (h:∀ cx:Cx,cx.n=N->Swp Tryz.prog cx c (env0 us) sto0 (fun e Z O=>(e=.normal \/ e=.ret)/\EE cx (fun Z O=>∃ v,cp tb Z O fn.results.toList=some v/\(v.frz O).free=true/\(v.frz O).wk v0) Z O))
  (hb:fn.body=some c:=by rfl) (hname:(fn.name == "runtime.NumGoroutine")=false:=by kernel_rfl) (hn:us.length<=N:=by simp):PureCall Tryz.prog f us v0:=(pfnN hf ht hb hname hn h).pureW
theorem sct {cx:Cx} {Z:Env} {O:Sto} {Q:Exit->Env->Sto->Prop} {x y:Code} {o:Operand} {b:Bool} (hb:b=true) (h:Swp Tryz.prog cx x Z O Q) (hc:oev Z o=.u (.one (.d (.bool b))):=by simp -dsimp):Swp Tryz.prog cx (.cond o x y) Z O Q:=aI hc hb h
theorem scf {cx:Cx} {Z:Env} {O:Sto} {Q:Exit->Env->Sto->Prop} {x y:Code} {o:Operand} {b:Bool} (hb:b=false) (h:Swp Tryz.prog cx y Z O Q) (hc:oev Z o=.u (.one (.d (.bool b))):=by simp -dsimp):Swp Tryz.prog cx (.cond o x y) Z O Q:=aG hc hb h
theorem see {cx:Cx} {Z:Env} {O:Sto} {Q:Exit->Env->Sto->Prop} {c:Code} {L:List (Nat×V)} {M:List (Nat×Ob)} (h:EE cx (aY L M) Z O) (hk:∀ Z O,Fits L M Z O->Swp Tryz.prog cx c Z O Q) (hn:bo (L.map (·.1))=true:=by rfl) (hm:bo (M.map (·.1))=true:=by rfl):Swp Tryz.prog cx c Z O Q:=sw_ee hn hm h hk
theorem scE {cx:Cx} {Z:Env} {O:Sto} {Q:Exit->Env->Sto->Prop} {x y:Code} (L:List (Nat×V)) (M:List (Nat×Ob)) (h:Swp Tryz.prog cx x Z O (thenQ (EE cx (aY L M)) Q)) (hk:∀ Z O,Fits L M Z O->Swp Tryz.prog cx y Z O Q) (hn:bo (L.map (·.1))=true:=by rfl) (hm:bo (M.map (·.1))=true:=by rfl):Swp Tryz.prog cx (.seq x y) Z O Q:=sw_cutE L M hn hm h hk
theorem eeh {cx:Cx} {Z:Env} {O:Sto} {X:Env->Sto->Prop} (h:X Z O:=by simp -dsimp):EE cx X Z O:=EE.here h
theorem emv {cx:Cx} {Z:Env} {O:Sto} {X:Env->Sto->Prop} (i j:Nat) (h:EE cx X (mvE i j Z) (mvS i j O)) (h1:i≠j:=by decide) (h2:j < inBase:=by decide):EE cx X Z O:=EE.step (Wk.move i j h1 (.inl h2)) h
theorem emr {cx:Cx} {Z:Env} {O:Sto} {X:Env->Sto->Prop} (i j:Nat) {K:Nat} (hk:cx.k=K) (h:EE cx X (mvE i j Z) (mvS i j O)) (h1:i≠j:=by decide) (h2:inBase+K<=j:=by decide):EE cx X Z O:=EE.step (Wk.move i j h1 (.inr (by rw[hk]; exact h2))) h
theorem clg {cx:Cx} {Z:Env} {O:Sto} {K:Env->Sto->Prop} {ins:List Ob} {outs:List (Option Ob)} {f:FuncId} {us us':List V} {v v':V} {d:Option Nat} {j} (h:GFn Tryz.prog f us ins v outs) (names news:List Nat)
  (hσ:goutIn names ins (gN (names++news)) O) (hd:∀ x,d=some x->x < cx.n) (hk:K (putE (gE news Z) d v') (gS names news outs O)) (hl:names.length=ins.length:=by rfl) (hl':(names++news).length=outs.length:=by rfl) (hnd:bo (names++news)=true:=by rfl)
  (hu:us.map (V.ren (gN (names++news)))=us':=by simp -dsimp) (hv:v.ren (gN (names++news))=v':=by rfl) (hpl:ins.all (fun o=>o.inN ins.length)=true:=by first | rfl | simp) (hnew:news.all (fun d=>decide (d < inBase))=true:=by rfl):CallL Tryz.prog cx f us' d Z O K j:=callL_g h names news hl hl' hnd hu hv hσ hpl hnew hd hk
end Go.Proofs.YtffohfmfehjbmaaGreatDoor
