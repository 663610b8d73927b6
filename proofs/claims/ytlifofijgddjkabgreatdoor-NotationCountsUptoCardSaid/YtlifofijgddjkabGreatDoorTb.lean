/- The table, for simp. -/
import Derived.Test.YtlifofijgddjkabGreatDoorTab
import Derived.Test.YtlifofijgddjkabGreatDoorMdx1
namespace Go.Proofs.YtlifofijgddjkabGreatDoor
open Go.AM Go.Proofs
theorem tb_ty:tb.ty=ty:=rfl
theorem tb_eqn:tb.eqn=eqn:=rfl
theorem tb_key:tb.key=key:=rfl
theorem tb_call (f:FuncId) (us:List V):tb.call f us=none:=rfl
theorem tb_eff (f:FuncId) (us:List V) (d:Option Nat) (Z:Env) (O:Sto):tb.eff f us d Z O=none:=rfl
def g0L:List L:=[.int .i64 1,.int .i64 0,.int .i64 0,.int .i64 1,.int .i64 0,.int .i64 (-1),.int .i64 1,.int .i64 0,.int .i64 (-1),.int .i64 0,.int .i64 0,.int .i64 (-1),.int .i64 0,.int .i64 1,.int .i64 (-1),.int .i64 0,.int .i64 (-1),.int .i64 0,.int .i64 0,.int .i64 1,.int .i64 0,.int .i64 (-1),.int .i64 (-1),.int .i64 0,.int .i64 1,.int .i64 0,.int .i64 0,.int .i64 (-1),.int .i64 0,.int .i64 1,.int .i64 1,.int .i64 0]
theorem gval0:gval 0=.u (.one (.ref g0L 0)):=rfl
attribute [simp] gval0
theorem g0_get {i:Int} {x:Int×Int×Int×Int} (h:fK 8 g0R i=some x):subR g0L (i.toNat*4) 4=[.int .i64 x.1,.int .i64 x.2.1,.int .i64 x.2.2.1,.int .i64 x.2.2.2]:=subR_get (xs:=g0L) (l:=g0R) (fun(x:Int×Int×Int×Int)=>[.int .i64 x.1,.int .i64 x.2.1,.int .i64 x.2.2.1,.int .i64 x.2.2.2]) 4 (fun _=>rfl) rfl h
attribute [simp] qnil C.inNs C.inN tb_ty tb_eqn tb_key tb_call tb_eff ty eqn key ti2 ti3 ti4 ti5 ti9 ti21 ti22 ti25 ti27 ti28 ti31 ti33 ti42 ti59 ti63 ti69 ti70 ti72 ti82 ti85 ti96 ti97 ti103 ti104 ti105 ti108 ti112 ti113 ti114 ti115 ti117 ti119 ti125 ti133 ti134 ti136 ti140 ti142 ti149 ti151 ti159 ti160 ti162 ti165 ti166 ti168 ti169 ti171 ti175 ti177 ti182 ti186 ti190 ti197 ti200 ti203 ti210 ti212 ti216 ti226 ti228 ti230 ti234 ti235 ti238 ti245 ti246 ti250 ti254
theorem pfnN {f:FuncId} {fn:Func} {N:Nat} {us:List V} {R:V->Prop} {c:Code} (hf:Tryz.prog.funcs[f]?=some fn) (ht:fn.ntmps=N) (hb:fn.body=some c) (hname:(fn.name == "runtime.NumGoroutine")=false) (hn:us.length<=N)
  (h:∀ cx:Cx,cx.n=N->Swp Tryz.prog cx c (env0 us) sto0 (fun e Z O=>(e=.normal \/ e=.ret)/\EE cx (fun Z O=>∃ v,ez tb Z O fn.results.toList=some v/\(v.frz O).free=true/\R (v.frz O)) Z O)):PFn Tryz.prog f us R :=
 pfn_E bh c hf hb hname (by rw[ht]; exact hn) fun cx hc=>h cx (hc.trans ht)
def bz {S:Type} (L:S->List (Nat×V)) (M:S->List (Nat×Ob)) (s:S) (Z:Env) (O:Sto):Prop:=Fits (L s) (M s) Z O
theorem bC {S T:Type} {cx:Cx} {L:S->List (Nat×V)} {M:S->List (Nat×Ob)} {s:S} {Z:Env} {O:Sto} (hE:bz L M s Z O) {step:S->Option (Lp S T)} {n:Nat} {t:T} (h:aT step n s=some t) (F:T->Exit->Env->Sto->Prop) {c:Code}
  (hstep:∀ s r,step s=some r->∀ Z O,Fits (L s) (M s) Z O->Swp Tryz.prog cx c Z O (Rd (fun s=>EE cx (be (L s) (M s))) F r))
  (hn:∀ s,bO ((L s).map (·.1))=true:=by intro _; rfl) (hm:∀ s,bO ((M s).map (·.1))=true:=by intro _; rfl):Swp Tryz.prog cx (.loop c) Z O (F t):=loop_model L M F step hn hm hstep h hE
def dB (d:Option Nat) (N:Nat):Bool:=match d with
 | some x=>decide (x < N)
 | none=>true
theorem dkL {d:Option Nat} {n N:Nat} (hn:n=N) (h:dB d N=true:=by rfl):∀ x,d=some x->x < n:=fun x hx=>by
 subst hx hn
 exact of_decide_eq_true h
theorem sr1 {cx:Cx} {Z:Env} {O:Sto} {Q:Exit->Env->Sto->Prop} {N:Nat} (hn:cx.n=N) {id:Nat} {l:List Oper} (h:ew Tryz.prog cx tb l l Z O (Q .normal) .mk) (hd:d8 N l=true:=by kernel_rfl):Swp Tryz.prog cx (.region id l.toArray false) Z O Q:=sw_reg bh (by rw[hn]; exact hd) h
theorem srs {cx:Cx} {Z:Env} {O:Sto} {Q:Exit->Env->Sto->Prop} {N:Nat} (hn:cx.n=N) {y:Code} {id:Nat} {l:List Oper} (h:ew Tryz.prog cx tb l l Z O (fun Z O=>Swp Tryz.prog cx y Z O Q) .mk) (hd:d8 N l=true:=by kernel_rfl):Swp Tryz.prog cx (.seq (.region id l.toArray false) y) Z O Q:=sw_regs bh (by rw[hn]; exact hd) h
theorem bndI {α β:Type} {o:Option α} {f:α->Option β} {r:β} {G:Prop} (h:∀ x,o=some x->f x=some r->G):o.bind f=some r->G:=fun hm=>let ⟨x,h1,h2⟩:=bnd hm; h x h1 h2
theorem bifI {α:Type} {c:Bool} {x y:Option α} {r:α} {G:Prop} (h1:c=true->x=some r->G) (h2:c=false->y=some r->G):(bif c then x else y)=some r->G:=fun hm=>(aU hm).elim (fun h=>h1 h.1 h.2) fun h=>h2 h.1 h.2
theorem swif {P:Program} {cx:Cx} {x y:Code} {Z:Env} {O:Sto} {Q:Exit->Env->Sto->Prop} {o:Operand} {b:Bool} {α:Type} {A B:Option α} {r:α} (h1:b=true->A=some r->Swp P cx x Z O Q) (h2:b=false->B=some r->Swp P cx y Z O Q) (hc:oev Z o=.u (.one (.d (.bool b)))):(bif b then A else B)=some r->Swp P cx (.cond o x y) Z O Q :=
 bifI (fun h hm=>aQ hc h (h1 h hm)) fun h hm=>aR hc h (h2 h hm)
theorem zz {p:Prop} (h:p:=by
  (try clear hE hh)
  (try (revert hm; intro zm))
  (try dsimp only at zm)
  (try simp only[Fits,aZ,b6,and_true,true_and] at hf)
  (try (obtain⟨rfl,xx⟩:=xx))
  repeat' (first
   | exact xx
   | ((with_reducible refine EE.here ?_); simp -dsimp [*]; done)
   | cases zm
   | with_reducible refine aM ?_ | with_reducible refine blk_r ?_ | with_reducible refine bN ?_ | with_reducible refine bG ?_ | ((with_reducible refine blk_o ?_ ?_); (focus decide))
   | ((with_reducible refine dT ?_ ?_); rotate_left; (focus exact nofun))
   | with_reducible refine cE ?_
   | ((with_reducible refine rd_out ?_ ?_); (focus exact nofun))
   | refine aS ?_ | refine aP ?_ | refine swp_exit ?_ | refine aY ?_
   | (refine sw_ee ?_ ?_ xx ?_; (focus rfl); (focus rfl); clear xx; intro Z O hf; simp only[Fits,aZ,b6,and_true,true_and] at hf)
   | refine srs hn (hd:=by kernel_rfl) (h:=?_)
   | refine sr1 hn (hd:=by kernel_rfl) (h:=?_)
   | refine sw_qts bh mixed (hc:=by rw[hn]; kernel_rfl) (h:=?_)
   | refine sw_qt bh mixed (hc:=by rw[hn]; kernel_rfl) (h:=?_)
   | refine aN ?_
   | (revert zm; refine swif ?_ ?_ ?_; rotate_right; (focus simp -dsimp [*]; done); all_goals intro c zm)
   | (refine aQ (b:=true) ?_ rfl ?_; (focus simp -dsimp [*]; done))
   | (refine aR (b:=false) ?_ rfl ?_; (focus simp -dsimp [*]; done))
   | (revert zm; (with_reducible refine bndI ?_); intro x h zm)
   | refine⟨rfl,?_⟩ | refine⟨.inl rfl,?_⟩ | refine⟨.inr rfl,?_⟩
   | (refine ee_bind ?_ ?_ xx ?_; (focus rfl); (focus rfl); clear xx; intro Z O hf; simp only[Fits,aZ,b6,and_true,true_and] at hf)
   | simp -dsimp [*]
   | (revert zm; (with_reducible refine bifI ?_ ?_)<;>intro c zm))):p:=h
theorem bc {S:Type} {cx:Cx} {L:S->List (Nat×V)} {M:S->List (Nat×Ob)} {s:S} {c:Code} {F Q:Exit->Env->Sto->Prop} {Z:Env} {O:Sto} (h:∀ {Z:Env} {O:Sto},bz L M s Z O->Swp Tryz.prog cx c Z O F)
  (hE:EE cx (be (L s) (M s)) Z O) (hk:∀ ee Z O,F ee Z O->Q ee Z O) (hn:bO ((L s).map (·.1))=true:=by rfl) (hm:bO ((M s).map (·.1))=true:=by rfl):Swp Tryz.prog cx c Z O Q:=sw_ent (L s) (M s) hn hm hE fun _ _ hf=>(h hf).mono hk
theorem bf {f:FuncId} {fn:Func} {N:Nat} {us:List V} {v0:V} {c:Code} (hf:Tryz.prog.funcs[f]?=some fn) (ht:fn.ntmps=N)
  (h:∀ cx:Cx,cx.n=N->Swp Tryz.prog cx c (env0 us) sto0 (fun e Z O=>(e=.normal \/ e=.ret)/\EE cx (fun Z O=>∃ v,ez tb Z O fn.results.toList=some v/\(v.frz O).free=true/\(v.frz O).wk v0) Z O))
  (hb:fn.body=some c:=by rfl) (hname:(fn.name == "runtime.NumGoroutine")=false:=by kernel_rfl) (hn:us.length<=N:=by simp):PureCall Tryz.prog f us v0:=(pfnN hf ht hb hname hn h).pureW
theorem sct {cx:Cx} {Z:Env} {O:Sto} {Q:Exit->Env->Sto->Prop} {x y:Code} {o:Operand} {b:Bool} (hb:b=true) (h:Swp Tryz.prog cx x Z O Q) (hc:oev Z o=.u (.one (.d (.bool b))):=by simp -dsimp):Swp Tryz.prog cx (.cond o x y) Z O Q:=aQ hc hb h
theorem scf {cx:Cx} {Z:Env} {O:Sto} {Q:Exit->Env->Sto->Prop} {x y:Code} {o:Operand} {b:Bool} (hb:b=false) (h:Swp Tryz.prog cx y Z O Q) (hc:oev Z o=.u (.one (.d (.bool b))):=by simp -dsimp):Swp Tryz.prog cx (.cond o x y) Z O Q:=aR hc hb h
theorem see {cx:Cx} {Z:Env} {O:Sto} {Q:Exit->Env->Sto->Prop} {c:Code} {L:List (Nat×V)} {M:List (Nat×Ob)} (h:EE cx (be L M) Z O) (hk:∀ Z O,Fits L M Z O->Swp Tryz.prog cx c Z O Q) (hn:bO (L.map (·.1))=true:=by rfl) (hm:bO (M.map (·.1))=true:=by rfl):Swp Tryz.prog cx c Z O Q:=sw_ee hn hm h hk
theorem scE {cx:Cx} {Z:Env} {O:Sto} {Q:Exit->Env->Sto->Prop} {x y:Code} (L:List (Nat×V)) (M:List (Nat×Ob)) (h:Swp Tryz.prog cx x Z O (thenQ (EE cx (be L M)) Q)) (hk:∀ Z O,Fits L M Z O->Swp Tryz.prog cx y Z O Q) (hn:bO (L.map (·.1))=true:=by rfl) (hm:bO (M.map (·.1))=true:=by rfl):Swp Tryz.prog cx (.seq x y) Z O Q:=sw_cutE L M hn hm h hk
theorem eeh {cx:Cx} {Z:Env} {O:Sto} {X:Env->Sto->Prop} (h:X Z O:=by simp -dsimp):EE cx X Z O:=EE.here h
theorem emv {cx:Cx} {Z:Env} {O:Sto} {X:Env->Sto->Prop} (i j:Nat) (h:EE cx X (mvE i j Z) (mvS i j O)) (h1:i≠j:=by decide) (h2:j < inBase:=by decide):EE cx X Z O:=EE.step (Wk.move i j h1 (.inl h2)) h
theorem emr {cx:Cx} {Z:Env} {O:Sto} {X:Env->Sto->Prop} (i j:Nat) {K:Nat} (hk:cx.k=K) (h:EE cx X (mvE i j Z) (mvS i j O)) (h1:i≠j:=by decide) (h2:inBase+K<=j:=by decide):EE cx X Z O:=EE.step (Wk.move i j h1 (.inr (by rw[hk]; exact h2))) h
theorem clg {cx:Cx} {Z:Env} {O:Sto} {K:Env->Sto->Prop} {ins:List Ob} {outs:List (Option Ob)} {f:FuncId} {us us':List V} {v v':V} {d:Option Nat} {j} (h:GFn Tryz.prog f us ins v outs) (names news:List Nat)
  (hσ:goutIn names ins (gN (names++news)) O) (hd:∀ x,d=some x->x < cx.n) (hk:K (putE (gE news Z) d v') (gS names news outs O)) (hl:names.length=ins.length:=by rfl) (hl':(names++news).length=outs.length:=by rfl) (hnd:bO (names++news)=true:=by rfl)
  (hu:us.map (V.ren (gN (names++news)))=us':=by simp -dsimp) (hv:v.ren (gN (names++news))=v':=by rfl) (hpl:ins.all (fun o=>o.inN ins.length)=true:=by first | rfl | simp) (hnew:news.all (fun d=>decide (d < inBase))=true:=by rfl):CallL Tryz.prog cx f us' d Z O K j:=callL_g h names news hl hl' hnd hu hv hσ hpl hnew hd hk
end Go.Proofs.YtlifofijgddjkabGreatDoor
