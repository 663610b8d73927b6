/- The table, for simp. -/
import Derived.Test.YtlifofijgddjkacGreatDoorTab
import Derived.Test.YtlifofijgddjkacGreatDoorMdx1
namespace Go.Proofs.YtlifofijgddjkacGreatDoor
open Go.AM Go.Proofs
theorem tb_ty:tb.ty=ty:=rfl
theorem tb_key:tb.key=key:=rfl
theorem tb_capd:tb.capd=true:=rfl
theorem tb_call (f:FuncId) (us:List V):tb.call f us=none:=rfl
theorem tb_eff (f:FuncId) (us:List V) (d:Option Nat) (Z:Env) (O:Sto):tb.eff f us d Z O=none:=rfl
def g0L:List L:=[.int .i64 1,.int .i64 0,.int .i64 0,.int .i64 1,.int .i64 0,.int .i64 (-1),.int .i64 1,.int .i64 0,.int .i64 (-1),.int .i64 0,.int .i64 0,.int .i64 (-1),.int .i64 0,.int .i64 1,.int .i64 (-1),.int .i64 0,.int .i64 (-1),.int .i64 0,.int .i64 0,.int .i64 1,.int .i64 0,.int .i64 (-1),.int .i64 (-1),.int .i64 0,.int .i64 1,.int .i64 0,.int .i64 0,.int .i64 (-1),.int .i64 0,.int .i64 1,.int .i64 1,.int .i64 0]
theorem gval0:gval 0=.u (.one (.ref g0L 0)):=rfl
attribute [simp] gval0
theorem g0_get {i:Int} {x:Int×Int×Int×Int} (h:o6 8 g0R i=some x):subR g0L (i.toNat*4) 4=[.int .i64 x.1,.int .i64 x.2.1,.int .i64 x.2.2.1,.int .i64 x.2.2.2]:=subR_get (xs:=g0L) (l:=g0R) (fun(x:Int×Int×Int×Int)=>[.int .i64 x.1,.int .i64 x.2.1,.int .i64 x.2.2.1,.int .i64 x.2.2.2]) 4 (fun _=>rfl) rfl h
attribute [simp] qnil C.inNs C.inN tb_ty tb_key tb_call tb_eff tb_capd ty eqn key ti2 ti3 ti4 ti5 ti9 ti22 ti23 ti25 ti26 ti28 ti29 ti32 ti34 ti36 ti37 ti40 ti42 ti43 ti45 ti50 ti56 ti57 ti58 ti66 ti68 ti69 ti71 ti73 ti75 ti77 ti81 ti93 ti112 ti117 ti119 ti128 ti129 ti131 ti133 ti138 ti140 ti143 ti144 ti150 ti163 ti174 ti179
theorem pfnN {f:FuncId} {fn:Func} {N:Nat} {us:List V} {R:V->Prop} {c:Code} (hf:Tryz.prog.funcs[f]?=some fn) (ht:fn.ntmps=N) (hb:fn.body=some c) (hname:(fn.name == "runtime.NumGoroutine")=false) (hn:us.length<=N)
  (h:∀ cx:Cx,cx.n=N->Swp Tryz.prog cx c (env0 us) sto0 (fun e Z O=>(e=.normal \/ e=.ret)/\EE cx (fun Z O=>∃ v,iR tb Z O fn.results.toList=some v/\(v.frz O).free=true/\R (v.frz O)) Z O)):PFn Tryz.prog f us R :=
 pfn_E bL c hf hb hname (by rw[ht]; exact hn) fun cx hc=>h cx (hc.trans ht)
def cw {S:Type} (L:S->List (Nat×V)) (M:S->List (Nat×Ob)) (s:S) (Z:Env) (O:Sto):Prop:=Fits (L s) (M s) Z O
theorem cz {S T:Type} {cx:Cx} {L:S->List (Nat×V)} {M:S->List (Nat×Ob)} {s:S} {Z:Env} {O:Sto} (hE:cw L M s Z O) {step:S->Option (Lp S T)} {n:Nat} {t:T} (h:bh step n s=some t) (F:T->Exit->Env->Sto->Prop) {c:Code}
  (hstep:∀ s r,step s=some r->∀ Z O,Fits (L s) (M s) Z O->Swp Tryz.prog cx c Z O (Rd (fun s=>EE cx (bY (L s) (M s))) F r))
  (hn:∀ s,ek ((L s).map (·.1))=true:=by intro _; rfl) (hm:∀ s,ek ((M s).map (·.1))=true:=by intro _; rfl):Swp Tryz.prog cx (.loop c) Z O (F t):=loop_model L M F step hn hm hstep h hE
def dB (d:Option Nat) (N:Nat):Bool:=match d with
 | some x=>decide (x < N)
 | none=>true
theorem dkL {d:Option Nat} {n N:Nat} (hn:n=N) (h:dB d N=true:=by rfl):∀ x,d=some x->x < n:=fun x hx=>by
 subst hx hn
 exact of_decide_eq_true h
theorem sr1 {cx:Cx} {Z:Env} {O:Sto} {Q:Exit->Env->Sto->Prop} {N:Nat} (hn:cx.n=N) {id:Nat} {l:List Oper} (h:lF Tryz.prog cx tb l l Z O (Q .normal) .mk) (hd:iF N l=true:=by kernel_rfl):Swp Tryz.prog cx (.region id l.toArray false) Z O Q:=sw_reg bL (by rw[hn]; exact hd) h
theorem srs {cx:Cx} {Z:Env} {O:Sto} {Q:Exit->Env->Sto->Prop} {N:Nat} (hn:cx.n=N) {y:Code} {id:Nat} {l:List Oper} (h:lF Tryz.prog cx tb l l Z O (fun Z O=>Swp Tryz.prog cx y Z O Q) .mk) (hd:iF N l=true:=by kernel_rfl):Swp Tryz.prog cx (.seq (.region id l.toArray false) y) Z O Q:=sw_regs bL (by rw[hn]; exact hd) h
theorem bP {S:Type} {cx:Cx} {L:S->List (Nat×V)} {M:S->List (Nat×Ob)} {s:S} {c:Code} {F Q:Exit->Env->Sto->Prop} {Z:Env} {O:Sto} (h:∀ {Z:Env} {O:Sto},cw L M s Z O->Swp Tryz.prog cx c Z O F)
  (hE:EE cx (bY (L s) (M s)) Z O) (hk:∀ ee Z O,F ee Z O->Q ee Z O) (hn:ek ((L s).map (·.1))=true:=by rfl) (hm:ek ((M s).map (·.1))=true:=by rfl):Swp Tryz.prog cx c Z O Q:=sw_ent (L s) (M s) hn hm hE fun _ _ hf=>(h hf).mono hk
theorem dG {f:FuncId} {fn:Func} {N:Nat} {us:List V} {v0:V} {c:Code} (hf:Tryz.prog.funcs[f]?=some fn) (ht:fn.ntmps=N)
  (h:∀ cx:Cx,cx.n=N->Swp Tryz.prog cx c (env0 us) sto0 (fun e Z O=>(e=.normal \/ e=.ret)/\EE cx (fun Z O=>∃ v,iR tb Z O fn.results.toList=some v/\(v.frz O).free=true/\(v.frz O).wk v0) Z O))
  (hb:fn.body=some c:=by rfl) (hname:(fn.name == "runtime.NumGoroutine")=false:=by kernel_rfl) (hn:us.length<=N:=by simp):bg Tryz.prog f us v0:=(pfnN hf ht hb hname hn h).pureW
theorem sct {cx:Cx} {Z:Env} {O:Sto} {Q:Exit->Env->Sto->Prop} {x y:Code} {o:Operand} {b:Bool} (hb:b=true) (h:Swp Tryz.prog cx x Z O Q) (hc:oev Z o=.u (.one (.d (.bool b))):=by simp -dsimp):Swp Tryz.prog cx (.cond o x y) Z O Q:=aW hc hb h
theorem scf {cx:Cx} {Z:Env} {O:Sto} {Q:Exit->Env->Sto->Prop} {x y:Code} {o:Operand} {b:Bool} (hb:b=false) (h:Swp Tryz.prog cx y Z O Q) (hc:oev Z o=.u (.one (.d (.bool b))):=by simp -dsimp):Swp Tryz.prog cx (.cond o x y) Z O Q:=aV hc hb h
theorem see {cx:Cx} {Z:Env} {O:Sto} {Q:Exit->Env->Sto->Prop} {c:Code} {L:List (Nat×V)} {M:List (Nat×Ob)} (h:EE cx (bY L M) Z O) (hk:∀ Z O,Fits L M Z O->Swp Tryz.prog cx c Z O Q) (hn:ek (L.map (·.1))=true:=by rfl) (hm:ek (M.map (·.1))=true:=by rfl):Swp Tryz.prog cx c Z O Q:=sw_ee hn hm h hk
theorem scE {cx:Cx} {Z:Env} {O:Sto} {Q:Exit->Env->Sto->Prop} {x y:Code} (L:List (Nat×V)) (M:List (Nat×Ob)) (h:Swp Tryz.prog cx x Z O (thenQ (EE cx (bY L M)) Q)) (hk:∀ Z O,Fits L M Z O->Swp Tryz.prog cx y Z O Q) (hn:ek (L.map (·.1))=true:=by rfl) (hm:ek (M.map (·.1))=true:=by rfl):Swp Tryz.prog cx (.seq x y) Z O Q:=sw_cutE L M hn hm h hk
theorem eeh {cx:Cx} {Z:Env} {O:Sto} {X:Env->Sto->Prop} (h:X Z O:=by simp -dsimp):EE cx X Z O:=EE.here h
theorem emv {cx:Cx} {Z:Env} {O:Sto} {X:Env->Sto->Prop} (i j:Nat) (h:EE cx X (mvE i j Z) (mvS i j O)) (h1:i≠j:=by decide) (h2:j < inBase:=by decide):EE cx X Z O:=EE.step (Wk.move i j h1 (.inl h2)) h
theorem emr {cx:Cx} {Z:Env} {O:Sto} {X:Env->Sto->Prop} (i j:Nat) {K:Nat} (hk:cx.k=K) (h:EE cx X (mvE i j Z) (mvS i j O)) (h1:i≠j:=by decide) (h2:inBase+K<=j:=by decide):EE cx X Z O:=EE.step (Wk.move i j h1 (.inr (by rw[hk]; exact h2))) h
theorem clg {cx:Cx} {Z:Env} {O:Sto} {K:Env->Sto->Prop} {ins:List Ob} {outs:List (Option Ob)} {f:FuncId} {us us':List V} {v v':V} {d:Option Nat} {j} (h:GFn Tryz.prog f us ins v outs) (names news:List Nat)
  (hσ:goutIn names ins (gN (names++news)) O) (hd:∀ x,d=some x->x < cx.n) (hk:K (cb (gE news Z) d v') (gS names news outs O)) (hl:names.length=ins.length:=by rfl) (hl':(names++news).length=outs.length:=by rfl) (hnd:ek (names++news)=true:=by rfl)
  (hu:us.map (V.ren (gN (names++news)))=us':=by simp -dsimp) (hv:v.ren (gN (names++news))=v':=by rfl) (hpl:ins.all (fun o=>o.inN ins.length)=true:=by first | rfl | simp) (hnew:news.all (fun d=>decide (d < inBase))=true:=by rfl):CallL Tryz.prog cx f us' d Z O K j:=callL_g h names news hl hl' hnd hu hv hσ hpl hnew hd hk
end Go.Proofs.YtlifofijgddjkacGreatDoor
