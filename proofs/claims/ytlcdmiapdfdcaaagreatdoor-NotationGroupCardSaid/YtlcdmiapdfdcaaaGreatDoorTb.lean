/- The table, for simp. -/
import Derived.Test.YtlcdmiapdfdcaaaGreatDoorTab
import Derived.Test.YtlcdmiapdfdcaaaGreatDoorMdx1
namespace Go.Proofs.YtlcdmiapdfdcaaaGreatDoor
open Go.AM Go.Proofs
theorem tb_ty:tb.ty = ty:=rfl
theorem tb_eqn:tb.eqn = eqn:=rfl
theorem tb_key:tb.key = key:=rfl
theorem tb_call (f:FuncId) (us:List V):tb.call f us = none:=rfl
theorem tb_eff (f:FuncId) (us:List V) (d:Option Nat) (O:Env) (G:Sto):tb.eff f us d O G = none:=rfl
def g0L:List L:=[.int .i64 1,.int .i64 0,.int .i64 0,.int .i64 1,.int .i64 0,.int .i64 (-1),.int .i64 1,.int .i64 0,.int .i64 (-1),.int .i64 0,.int .i64 0,.int .i64 (-1),.int .i64 0,.int .i64 1,.int .i64 (-1),.int .i64 0,.int .i64 (-1),.int .i64 0,.int .i64 0,.int .i64 1,.int .i64 0,.int .i64 (-1),.int .i64 (-1),.int .i64 0,.int .i64 1,.int .i64 0,.int .i64 0,.int .i64 (-1),.int .i64 0,.int .i64 1,.int .i64 1,.int .i64 0]
theorem gval0:gval 0 = .u (.one (.ref g0L 0)):=rfl
attribute [simp] gval0
theorem g0_get {i:Int} {x:Int×Int×Int×Int} (h:dK 8 g0R i = some x):subR g0L (i.toNat * 4) 4 = [.int .i64 x.1,.int .i64 x.2.1,.int .i64 x.2.2.1,.int .i64 x.2.2.2]:=subR_get (xs:=g0L) (l:=g0R) (fun (x:Int×Int×Int×Int)=>[.int .i64 x.1,.int .i64 x.2.1,.int .i64 x.2.2.1,.int .i64 x.2.2.2]) 4 (fun _=>rfl) rfl h
attribute [simp] qnil C.inNs C.inN tb_ty tb_eqn tb_key tb_call tb_eff ty eqn key ti2 ti3 ti4 ti5 ti9 ti21 ti22 ti23 ti25 ti29 ti32 ti37 ti45 ti49 ti57 ti64 ti65 ti67 ti74 ti78 ti84 ti85 ti86 ti88 ti90 ti92 ti96 ti106 ti110 ti115 ti116 ti118 ti124 ti128 ti129 ti130 ti132 ti134 ti140 ti141 ti142 ti144 ti152 ti154 ti160 ti164 ti169 ti170 ti172 ti174 ti175 ti177 ti178 ti180 ti184 ti186 ti190 ti204 ti205 ti207 ti216 ti230 ti231 ti235 ti236 ti238 ti247 ti249 ti255 ti260 ti261 ti263
theorem pfnN {f:FuncId} {fn:Func} {N:Nat} {us:List V} {R:V->Prop} {c:Code} (hf:Tryz.prog.funcs[f]? = some fn) (ht:fn.ntmps = N) (hb:fn.body = some c) (hname:(fn.name == "runtime.NumGoroutine") = false) (hn:us.length <= N)
  (h:∀ cx:Cx,cx.n = N->Swp Tryz.prog cx c (env0 us) sto0 (fun e O G=>(e = .normal \/ e = .ret) /\ EE cx (fun O G=>∃ v,e9 tb O G fn.results.toList = some v /\ (v.frz G).free = true /\ R (v.frz G)) O G)):PFn Tryz.prog f us R :=
 pfn_E bA c hf hb hname (by rw [ht]; exact hn) fun cx hc=>h cx (hc.trans ht)
def bH {S:Type} (L:S->List (Nat×V)) (M:S->List (Nat×Ob)) (s:S) (O:Env) (G:Sto):Prop:=Fits (L s) (M s) O G
theorem bL {S T:Type} {cx:Cx} {L:S->List (Nat×V)} {M:S->List (Nat×Ob)} {s:S} {O:Env} {G:Sto} (hE:bH L M s O G) {step:S->Option (Lp S T)} {n:Nat} {t:T} (h:aV step n s = some t) (F:T->Exit->Env->Sto->Prop) {c:Code}
  (hstep:∀ s r,step s = some r->∀ O G,Fits (L s) (M s) O G->Swp Tryz.prog cx c O G (Rd (fun s=>EE cx (bw (L s) (M s))) F r))
  (hn:∀ s,co ((L s).map (·.1)) = true:=by intro _; rfl) (hm:∀ s,co ((M s).map (·.1)) = true:=by intro _; rfl):Swp Tryz.prog cx (.loop c) O G (F t):=loop_model L M F step hn hm hstep h hE
def dB (d:Option Nat) (N:Nat):Bool:=match d with
 | some x=>decide (x < N)
 | none=>true
theorem dkL {d:Option Nat} {n N:Nat} (hn:n = N) (h:dB d N = true:=by rfl):∀ x,d = some x->x < n:=fun x hx=>by
 subst hx hn
 exact of_decide_eq_true h
theorem sr1 {cx:Cx} {O:Env} {G:Sto} {Q:Exit->Env->Sto->Prop} {N:Nat} (hn:cx.n = N) {id:Nat} {l:List Oper} (h:eb Tryz.prog cx tb l l O G (Q .normal) .mk) (hd:dr N l = true:=by kernel_rfl):Swp Tryz.prog cx (.region id l.toArray false) O G Q:=sw_reg bA (by rw [hn]; exact hd) h
theorem srs {cx:Cx} {O:Env} {G:Sto} {Q:Exit->Env->Sto->Prop} {N:Nat} (hn:cx.n = N) {y:Code} {id:Nat} {l:List Oper} (h:eb Tryz.prog cx tb l l O G (fun O G=>Swp Tryz.prog cx y O G Q) .mk) (hd:dr N l = true:=by kernel_rfl):Swp Tryz.prog cx (.seq (.region id l.toArray false) y) O G Q:=sw_regs bA (by rw [hn]; exact hd) h
theorem br {S:Type} {cx:Cx} {L:S->List (Nat×V)} {M:S->List (Nat×Ob)} {s:S} {c:Code} {F Q:Exit->Env->Sto->Prop} {O:Env} {G:Sto} (h:∀ {O:Env} {G:Sto},bH L M s O G->Swp Tryz.prog cx c O G F)
  (hE:EE cx (bw (L s) (M s)) O G) (hk:∀ ee O G,F ee O G->Q ee O G) (hn:co ((L s).map (·.1)) = true:=by rfl) (hm:co ((M s).map (·.1)) = true:=by rfl):Swp Tryz.prog cx c O G Q:=sw_ent (L s) (M s) hn hm hE fun _ _ hf=>(h hf).mono hk
theorem bD {f:FuncId} {fn:Func} {N:Nat} {us:List V} {v0:V} {c:Code} (hf:Tryz.prog.funcs[f]? = some fn) (ht:fn.ntmps = N)
  (h:∀ cx:Cx,cx.n = N->Swp Tryz.prog cx c (env0 us) sto0 (fun e O G=>(e = .normal \/ e = .ret) /\ EE cx (fun O G=>∃ v,e9 tb O G fn.results.toList = some v /\ (v.frz G).free = true /\ (v.frz G).wk v0) O G))
  (hb:fn.body = some c:=by rfl) (hname:(fn.name == "runtime.NumGoroutine") = false:=by kernel_rfl) (hn:us.length <= N:=by simp):PureCall Tryz.prog f us v0:=(pfnN hf ht hb hname hn h).pureW
theorem sct {cx:Cx} {O:Env} {G:Sto} {Q:Exit->Env->Sto->Prop} {x y:Code} {o:Operand} {b:Bool} (hb:b = true) (h:Swp Tryz.prog cx x O G Q) (hc:oev O o = .u (.one (.d (.bool b))):=by simp -dsimp):Swp Tryz.prog cx (.cond o x y) O G Q:=aQ hc hb h
theorem scf {cx:Cx} {O:Env} {G:Sto} {Q:Exit->Env->Sto->Prop} {x y:Code} {o:Operand} {b:Bool} (hb:b = false) (h:Swp Tryz.prog cx y O G Q) (hc:oev O o = .u (.one (.d (.bool b))):=by simp -dsimp):Swp Tryz.prog cx (.cond o x y) O G Q:=aP hc hb h
theorem see {cx:Cx} {O:Env} {G:Sto} {Q:Exit->Env->Sto->Prop} {c:Code} {L:List (Nat×V)} {M:List (Nat×Ob)} (h:EE cx (bw L M) O G) (hk:∀ O G,Fits L M O G->Swp Tryz.prog cx c O G Q) (hn:co (L.map (·.1)) = true:=by rfl) (hm:co (M.map (·.1)) = true:=by rfl):Swp Tryz.prog cx c O G Q:=sw_ee hn hm h hk
theorem scE {cx:Cx} {O:Env} {G:Sto} {Q:Exit->Env->Sto->Prop} {x y:Code} (L:List (Nat×V)) (M:List (Nat×Ob)) (h:Swp Tryz.prog cx x O G (thenQ (EE cx (bw L M)) Q)) (hk:∀ O G,Fits L M O G->Swp Tryz.prog cx y O G Q) (hn:co (L.map (·.1)) = true:=by rfl) (hm:co (M.map (·.1)) = true:=by rfl):Swp Tryz.prog cx (.seq x y) O G Q:=sw_cutE L M hn hm h hk
theorem eeh {cx:Cx} {O:Env} {G:Sto} {X:Env->Sto->Prop} (h:X O G:=by simp -dsimp):EE cx X O G:=EE.here h
theorem emv {cx:Cx} {O:Env} {G:Sto} {X:Env->Sto->Prop} (i j:Nat) (h:EE cx X (mvE i j O) (mvS i j G)) (h1:i ≠ j:=by decide) (h2:j < inBase:=by decide):EE cx X O G:=EE.step (Wk.move i j h1 (.inl h2)) h
theorem emr {cx:Cx} {O:Env} {G:Sto} {X:Env->Sto->Prop} (i j:Nat) {K:Nat} (hk:cx.k = K) (h:EE cx X (mvE i j O) (mvS i j G)) (h1:i ≠ j:=by decide) (h2:inBase + K <= j:=by decide):EE cx X O G:=EE.step (Wk.move i j h1 (.inr (by rw [hk]; exact h2))) h
theorem clg {cx:Cx} {O:Env} {G:Sto} {K:Env->Sto->Prop} {ins:List Ob} {outs:List (Option Ob)} {f:FuncId} {us us':List V} {v v':V} {d:Option Nat} {j} (h:GFn Tryz.prog f us ins v outs) (names news:List Nat)
  (hσ:goutIn names ins (gN (names ++ news)) G) (hd:∀ x,d = some x->x < cx.n) (hk:K (putE (gE news O) d v') (gS names news outs G)) (hl:names.length = ins.length:=by rfl) (hl':(names ++ news).length = outs.length:=by rfl) (hnd:co (names ++ news) = true:=by rfl)
  (hu:us.map (V.ren (gN (names ++ news))) = us':=by simp -dsimp) (hv:v.ren (gN (names ++ news)) = v':=by rfl) (hpl:ins.all (fun o=>o.inN ins.length) = true:=by first | rfl | simp) (hnew:news.all (fun d=>decide (d < inBase)) = true:=by rfl):CallL Tryz.prog cx f us' d O G K j:=callL_g h names news hl hl' hnd hu hv hσ hpl hnew hd hk
end Go.Proofs.YtlcdmiapdfdcaaaGreatDoor
