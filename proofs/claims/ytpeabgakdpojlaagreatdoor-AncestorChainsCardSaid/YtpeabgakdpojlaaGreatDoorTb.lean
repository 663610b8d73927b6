/- Lemmas for the law. -/
import Derived.Test.YtpeabgakdpojlaaGreatDoorTab
import Derived.Test.YtpeabgakdpojlaaGreatDoorAmSc
import Derived.Test.YtpeabgakdpojlaaGreatDoorAmOr
import Derived.Test.YtpeabgakdpojlaaGreatDoorAmBs
import Derived.Test.YtpeabgakdpojlaaGreatDoorAmSt
namespace Go.Proofs.YtpeabgakdpojlaaGreatDoor
open Go.AM Go.Proofs
theorem tb_ty:tb.ty=ty:=rfl
theorem tb_key:tb.key=key:=rfl
theorem tb_call (f:FuncId) (us:Ao):tb.call f us=none:=rfl
theorem tb_eff (f:FuncId) (us:Ao) (d:Ac) (Z:Env) (O:Sto):tb.eff f us d Z O=none:=rfl
attribute [simp] qnil C.inNs C.inN tb_ty tb_key tb_call tb_eff ty eqn key ti2 ti3 ti4 ti5 ti9 ti22 ti23 ti25 ti26 ti28 ti31 ti32 ti46 ti51 ti53 ti54 ti56 ti59 ti62 ti64 ti66 ti70 ti80 ti82 ti83 ti85 ti87 ti89 ti91 ti95 ti99 ti105 ti107 ti112 ti127 ti128 ti129 ti131 ti135 ti140 ti153 ti160 ti161 ti177 ti179 ti193 ti205 ti207
theorem pfnN {f:FuncId} {fn:Func} {N:Nat} {us:Ao} {R:Az} {c:Code} (hf:Tryz.prog.funcs[f]?=some fn) (ht:fn.ntmps=N) (hb:fn.body=some c) (hname:(fn.name == "runtime.NumGoroutine")=false) (hn:us.length<=N) (h:∀cx:Cx,cx.n=N->Swp Tryz.prog cx c (env0 us) sto0 (λe Z O=>(e=.normal\/e=.ret)/\EE cx (λZ O=>∃v,iE tb Z O fn.results.toList=some v/\(v.frz O).free=true/\R (v.frz O)) Z O)):PFn Tryz.prog f us R :=
 pfn_E bU c hf hb hname (by rw[ht];exact hn) λcx hc=>h cx (hc.trans ht)
theorem zH {f:FuncId} {fn:Func} {N:Nat} {us:Ao} {R:Az} {c:Code} (hf:Tryz.prog.funcs[f]?=some fn) (ht:fn.ntmps=N) (hb:fn.body=some c) (h:∀cx:Cx,cx.n=N->Swp Tryz.prog cx c (env0 us) sto0 (λe Z O=>(e=.normal\/e=.ret)/\EE cx (λZ O=>∃v,iE tb Z O fn.results.toList=some v/\(v.frz O).free=true/\R (v.frz O)) Z O)) (hname:(fn.name == "runtime.NumGoroutine")=false:=by kernel_rfl) (hn:us.length<=N:=by simp):PFn Tryz.prog f us R:=pfnN hf ht hb hname hn h
def eJ {S:Type} (L:S->Ap) (M:S->Al) (s:S) (Z:Env) (O:Sto):Prop:=Fits (L s) (M s) Z O
theorem cp {S T:Type} {cx:Cx} {L:S->Ap} {M:S->Al} {s:S} {Z:Env} {O:Sto} (hE:eJ L M s Z O) {step:S->Option (Lp S T)} {n:Nat} {t:T} (h:bv step n s=some t) (F:T->Exit->Env->Sto->Prop) {c:Code} (hstep:∀s r,step s=some r->∀Z O,Fits (L s) (M s) Z O->Swp Tryz.prog cx c Z O (Rd (λs=>EE cx (bY (L s) (M s))) F r)) (hn:∀s,dY ((L s).map (·.1))=true:=by intro _;rfl) (hm:∀s,dY ((M s).map (·.1))=true:=by intro _;rfl):Swp Tryz.prog cx (.loop c) Z O (F t):=loop_model L M F step hn hm hstep h hE
def dB (d:Ac) (N:Nat):Bool:=match d with|some x=>decide (x<N)|none=>true
theorem dkL {d:Ac} {n N:Nat} (hn:n=N) (h:dB d N=true:=by rfl):∀x,d=some x->x<n:=λx hx=>by subst hx hn;exact of_decide_eq_true h
theorem sr1 {cx:Cx} {Z:Env} {O:Sto} {Q:Aa} {N:Nat} (hn:cx.n=N) {id:Nat} {l:A6} (h:lP Tryz.prog cx tb l l Z O (Q .normal) .mk) (hd:kl N l=true:=by kernel_rfl):Swp Tryz.prog cx (.region id l.toArray false) Z O Q:=sw_reg bU (by rw[hn];exact hd) h
theorem srs {cx:Cx} {Z:Env} {O:Sto} {Q:Aa} {N:Nat} (hn:cx.n=N) {y:Code} {id:Nat} {l:A6} (h:lP Tryz.prog cx tb l l Z O (λZ O=>Swp Tryz.prog cx y Z O Q) .mk) (hd:kl N l=true:=by kernel_rfl):Swp Tryz.prog cx (.seq (.region id l.toArray false) y) Z O Q:=sw_regs bU (by rw[hn];exact hd) h
theorem scopeL {S T:Type} {cx:Cx} {L:S->Ap} {M:S->Al} {s:S} {Z:Env} {O:Sto} (hE:eJ L M s Z O) {step:S->Option (Lp S T)} {n:Nat} {t:T} (h:bv step n s=some t) (F:T->Exit->Env->Sto->Prop) {c:Code} {l:Nat} (hn:∀s,dY ((L s).map (·.1))=true) (hm:∀s,dY ((M s).map (·.1))=true) (hstep:∀s r,step s=some r->∀Z O,Fits (L s) (M s) Z O->Swp Tryz.prog cx c Z O (RdG l (λs=>EE cx (bY (L s) (M s))) F r)):Swp Tryz.prog cx (.seq (.label l) c) Z O (jmpS Tryz.prog cx l c (F t)):=scope_model L M F step hn hm hstep h hE
theorem bndI {I β:Type} {o:Option I} {f:I->Option β} {r:β} {G:Prop} (h:∀x,o=some x->f x=some r->G):o.bind f=some r->G:=λhm=>let ⟨x,h1,h2⟩:=bnd hm;h x h1 h2
theorem bifI {I:Type} {c:Bool} {x y:Option I} {r:I} {G:Prop} (h1:c=true->x=some r->G) (h2:c=false->y=some r->G):(bif c then x else y)=some r->G:=λhm=>(bQ hm).elim (λh=>h1 h.1 h.2) λh=>h2 h.1 h.2
theorem swif {P:Program} {cx:Cx} {x y:Code} {Z:Env} {O:Sto} {Q:Aa} {o:Operand} {b:Bool} {I:Type} {A B:Option I} {r:I} (h1:b=true->A=some r->Swp P cx x Z O Q) (h2:b=false->B=some r->Swp P cx y Z O Q) (hc:oev Z o=.u (.one (.d (.bool b)))):(bif b then A else B)=some r->Swp P cx (.cond o x y) Z O Q :=
 bifI (λh hm=>bu hc h (h1 h hm)) λh hm=>bw hc h (h2 h hm)
class CtP (a:Prop) (q:outParam Prop):Prop where
 pf:a->q
class LtP (a:Prop) (q:outParam (Cx->Prop)):Prop where
 pf:a->∀cx,q cx
abbrev lp {S:Type} (n:Nat) (s:S) (L:S->Ap) (M:S->Al) (c:Code) (Q:Cx->Exit->Env->Sto->Prop) (cx:Cx):Prop:=cx.n=n->∀{Z:Env} {O:Sto},eJ L M s Z O->Swp Tryz.prog cx (.loop c) Z O (Q cx)
theorem swlp {S:Type} {cx:Cx} {L:S->Ap} {M:S->Al} {s:S} {c:Code} {F Q:Aa} {Z:Env} {O:Sto} (h:∀{Z:Env} {O:Sto},eJ L M s Z O->Swp Tryz.prog cx c Z O F) (hE:EE cx (bY (L s) (M s)) Z O) (hk:∀ee Z O,F ee Z O->Q ee Z O) (hn:dY ((L s).map (·.1))=true) (hm:dY ((M s).map (·.1))=true):Swp Tryz.prog cx c Z O Q:=sw_ent (L s) (M s) hn hm hE λ_ _ hf=>(h hf).mono hk
theorem bT {S:Type} {cx:Cx} {L:S->Ap} {M:S->Al} {s:S} {c:Code} {F Q:Aa} {Z:Env} {O:Sto} (h:∀{Z:Env} {O:Sto},eJ L M s Z O->Swp Tryz.prog cx c Z O F) (hE:EE cx (bY (L s) (M s)) Z O) (hk:∀ee Z O,F ee Z O->Q ee Z O) (hn:dY ((L s).map (·.1))=true:=by rfl) (hm:dY ((M s).map (·.1))=true:=by rfl):Swp Tryz.prog cx c Z O Q:=sw_ent (L s) (M s) hn hm hE λ_ _ hf=>(h hf).mono hk
theorem dH {f:FuncId} {fn:Func} {N:Nat} {us:Ao} {v0:V} {c:Code} (hf:Tryz.prog.funcs[f]?=some fn) (ht:fn.ntmps=N) (h:∀cx:Cx,cx.n=N->Swp Tryz.prog cx c (env0 us) sto0 (λe Z O=>(e=.normal\/e=.ret)/\EE cx (λZ O=>∃v,iE tb Z O fn.results.toList=some v/\(v.frz O).free=true/\(v.frz O).wk v0) Z O)) (hb:fn.body=some c:=by rfl) (hname:(fn.name == "runtime.NumGoroutine")=false:=by kernel_rfl) (hn:us.length<=N:=by simp):bA Tryz.prog f us v0:=(pfnN hf ht hb hname hn h).pureW
theorem sct {cx:Cx} {Z:Env} {O:Sto} {Q:Aa} {x y:Code} {o:Operand} {b:Bool} (hb:b=true) (h:Swp Tryz.prog cx x Z O Q) (hc:oev Z o=.u (.one (.d (.bool b))):=by simp -dsimp):Swp Tryz.prog cx (.cond o x y) Z O Q:=bu hc hb h
theorem scf {cx:Cx} {Z:Env} {O:Sto} {Q:Aa} {x y:Code} {o:Operand} {b:Bool} (hb:b=false) (h:Swp Tryz.prog cx y Z O Q) (hc:oev Z o=.u (.one (.d (.bool b))):=by simp -dsimp):Swp Tryz.prog cx (.cond o x y) Z O Q:=bw hc hb h
theorem see {cx:Cx} {Z:Env} {O:Sto} {Q:Aa} {c:Code} {L:Ap} {M:Al} (h:EE cx (bY L M) Z O) (hk:∀Z O,Fits L M Z O->Swp Tryz.prog cx c Z O Q) (hn:dY (L.map (·.1))=true:=by rfl) (hm:dY (M.map (·.1))=true:=by rfl):Swp Tryz.prog cx c Z O Q:=sw_ee hn hm h hk
theorem scE {cx:Cx} {Z:Env} {O:Sto} {Q:Aa} {x y:Code} (L:Ap) (M:Al) (h:Swp Tryz.prog cx x Z O (thenQ (EE cx (bY L M)) Q)) (hk:∀Z O,Fits L M Z O->Swp Tryz.prog cx y Z O Q) (hn:dY (L.map (·.1))=true:=by rfl) (hm:dY (M.map (·.1))=true:=by rfl):Swp Tryz.prog cx (.seq x y) Z O Q:=sw_cutE L M hn hm h hk
theorem eeh {cx:Cx} {Z:Env} {O:Sto} {X:A3} (h:X Z O:=by simp -dsimp):EE cx X Z O:=EE.here h
theorem emv {cx:Cx} {Z:Env} {O:Sto} {X:A3} (i j:Nat) (h:EE cx X (mvE i j Z) (mvS i j O)) (h1:i≠j:=by decide) (h2:j<inBase:=by decide):EE cx X Z O:=EE.step (Wk.move i j h1 (.inl h2)) h
theorem emr {cx:Cx} {Z:Env} {O:Sto} {X:A3} (i j:Nat) {K:Nat} (hk:cx.k=K) (h:EE cx X (mvE i j Z) (mvS i j O)) (h1:i≠j:=by decide) (h2:inBase+K<=j:=by decide):EE cx X Z O:=EE.step (Wk.move i j h1 (.inr (by rw[hk];exact h2))) h
theorem clg {cx:Cx} {Z:Env} {O:Sto} {K:A3} {ins:Ax} {outs:AA} {f:FuncId} {us us':Ao} {v v':V} {d:Ac} {j} (h:GFn Tryz.prog f us ins v outs) (names news:A5) (hσ:sG names ins (gN (names++news)) O) (hd:∀x,d=some x->x<cx.n) (hk:K (cK (gE news Z) d v') (gS names news outs O)) (hl:names.length=ins.length:=by rfl) (hl':(names++news).length=outs.length:=by rfl) (hnd:dY (names++news)=true:=by rfl) (hu:us.map (V.ren (gN (names++news)))=us':=by simp -dsimp) (hv:v.ren (gN (names++news))=v':=by rfl) (hpl:ins.all (λo=>o.inN ins.length)=true:=by first|rfl|simp) (hnew:news.all (λd=>decide (d<inBase))=true:=by rfl):CallL Tryz.prog cx f us' d Z O K j:=callL_g h names news hl hl' hnd hu hv hσ hpl hnew hd hk
end Go.Proofs.YtpeabgakdpojlaaGreatDoor
namespace Go.Proofs.YtpeabgakdpojlaaGreatDoor
open Go.AM Go.Proofs
theorem zz {p:Prop} (h:p:=by
  (try clear hE hh)
  (try (revert hm;intro zm))
  (try dsimp only at zm)
  (try simp only[Fits,bN,bO,and_true,true_and] at hf)
  (try (obtain⟨rfl,xx⟩:=xx))
  repeat' (first
   |exact xx|((with_reducible refine EE.here ?_);(try dsimp only);simp -dsimp[*];done)|cases zm
   |with_reducible refine bn ?_|with_reducible refine qw ?_|with_reducible refine cn ?_|with_reducible refine bR ?_|((with_reducible refine blk_o ?_ ?_);(focus decide))|((with_reducible refine d7 ?_ ?_);rotate_left;(focus exact nofun))|with_reducible refine cj ?_|((with_reducible refine mH ?_ ?_);(focus exact nofun))|refine bp ?_|refine bq ?_|refine jp ?_|refine bK ?_|(refine sw_ee ?_ ?_ xx ?_;(focus rfl);(focus rfl);clear xx;intro Z O hf;simp only[Fits,bN,bO,and_true,true_and] at hf)|refine srs hn (hd:=by kernel_rfl) (h:=?_)|refine sr1 hn (hd:=by kernel_rfl) (h:=?_)|refine lM bU mixed (hc:=by rw[hn];kernel_rfl) (h:=?_)|refine sw_qt bU mixed (hc:=by rw[hn];kernel_rfl) (h:=?_)|refine bo ?_|(refine swlp (LtP.pf h cx hn) ?_ ?_ ?_ ?_;rotate_right;(focus rfl);rotate_right;(focus rfl);rotate_right;intro ee Z O xx;(try rcases (x:_ ⊕ _)with x|x)<;>(repeat rcases (x:_×_)with⟨_,x⟩)<;>(try dsimp only at zm)<;>(obtain⟨rfl,xx⟩:=xx))|(refine bF (CtP.pf h) ?_ ?_;(focus rw[hn];decide))|refine bX (CtP.pf h) ?_|(revert zm;refine swif ?_ ?_ ?_;rotate_right;(focus simp -dsimp[*];done);all_goals intro c zm)|(refine bu (b:=true) ?_ rfl ?_;(focus simp -dsimp[*];done))|(refine bw (b:=false) ?_ rfl ?_;(focus simp -dsimp[*];done))|refine⟨rfl,?_⟩|refine⟨.inl rfl,?_⟩|refine⟨.inr rfl,?_⟩|(refine ee_bind ?_ ?_ xx ?_;(focus rfl);(focus rfl);clear xx;intro Z O hf;simp only[Fits,bN,bO,and_true,true_and] at hf)|simp -dsimp[*]|(revert zm;(with_reducible refine bndI ?_);intro x h zm)|(revert zm;(with_reducible refine bifI ?_ ?_)<;>intro c zm))):p:=h
