/- Lemmas for the law. -/
import Derived.Test.YtpeabgakdpojlaaGreatDoorAmW
import Derived.ScopeJumps
namespace Go.AM
open Go.RowKit
def jumpQ (l:Nat) (Ja:A3) (Q:Aa):Aa|.goto l'=>λZ O=>l'=l/\Ja Z O|e=>Q e
section
variable {P:Program} {cx:Cx} {Z:Env} {O:Sto} {Q:Aa}
theorem swp_label {l:Nat} (h:Q .normal Z O):Swp P cx (.label l) Z O Q:=λE a w hs=>wp_label ⟨(λ_ h=>by cases h),(λh=>by cases h),E,Z,O,hs,h⟩
theorem swp_goto {l:Nat} (h:Q (.goto l) Z O):Swp P cx (.goto l) Z O Q:=λE a w hs=>wp_goto ⟨(λ_ h=>by cases h),(λh=>by cases h),E,Z,O,hs,h⟩
open Classical in
theorem swp_scope {c rest:Code} (l:Nat) (hf:findLabel c l=some rest) (Ia:Nat->Env->Sto->Prop) (first:Swp P cx c Z O (jumpQ l (λZ O=>∃n,Ia n Z O) Q)) (pass:∀n Z O,Ia n Z O->Swp P cx rest Z O (jumpQ l (λZ O=>∃m,m<n/\Ia m Z O) Q)):Swp P cx (.scope c) Z O Q:=λE a w hs=>by
 let Ja:Act->World->Nat->Prop:=λa w n=>∃E Z O,Sim cx E Z O a w/\Ia n Z O;refine wp_scope_jumps l (λa w=>∃n,Ja a w n) (λa w=>if h:∃n,Ja a w n then Classical.choose (exists_least h)else 0) hf ?_ ?_;{refine wp_mono (first E a w hs) λe a' w' ⟨h1,h2,E2,ρ2,σ2,hs2,hk⟩=>?_;cases e with|goto l'=>exact⟨hk.1,let ⟨n,hn⟩:=hk.2;⟨n,E2,ρ2,σ2,hs2,hn⟩⟩|panic c=>exact absurd rfl (h1 c)|outgrown=>exact absurd rfl h2|_=>exact⟨h1,h2,E2,ρ2,σ2,hs2,hk⟩}
 ·intro a w hI;obtain⟨E',Z',O',hs',hI'⟩:=(Classical.choose_spec (exists_least hI)).1;refine wp_mono (pass _ Z' O' hI' E' a w hs') λe a' w' ⟨h1,h2,E2,ρ2,σ2,hs2,hk⟩=>?_;cases e with
  |goto l'=>
   obtain⟨he,m,hm,hIm⟩:=hk;have hJ:∃n,Ja a' w' n:=⟨m,E2,ρ2,σ2,hs2,hIm⟩
   refine⟨he,hJ,?_⟩;simp only[dif_pos hI,dif_pos hJ];exact Nat.lt_of_le_of_lt ((Classical.choose_spec (exists_least hJ)).2 m ⟨E2,ρ2,σ2,hs2,hIm⟩) hm
  |panic c=>exact absurd rfl (h1 c)|outgrown=>exact absurd rfl h2|_=>exact⟨h1,h2,E2,ρ2,σ2,hs2,hk⟩
def RdG {S T:Type} (l:Nat) (Ea:S->Env->Sto->Prop) (F:T->Exit->Env->Sto->Prop) (r:Lp S T) (e:Exit) (Z:Env) (O:Sto):Prop:=match r with|.next s=>e=.goto l/\Ea s Z O|.out t=>(∀l',e≠.goto l')/\F t e Z O
theorem rg_next {S T:Type} {l:Nat} {Ea:S->Env->Sto->Prop} {F:T->Exit->Env->Sto->Prop} {s:S} (h:Ea s Z O):RdG l Ea F (.next s) (.goto l) Z O:=⟨rfl,h⟩
theorem rg_out {S T:Type} {l:Nat} {Ea:S->Env->Sto->Prop} {F:T->Exit->Env->Sto->Prop} {t:T} {e:Exit} (he:∀l',e≠.goto l') (h:F t e Z O):RdG l Ea F (.out t) e Z O:=⟨he,h⟩
def loopG:Nat:=2 ^ 70000
def jmpS (P:Program) (cx:Cx) (l:Nat) (rest:Code) (Q:Aa):Aa|.goto l'=>λZ O=>l'=l/\∃(Ia:Nat->Env->Sto->Prop) (n:Nat),Ia n Z O/\∀n Z O,Ia n Z O->Swp P cx rest Z O (jumpQ l (λZ O=>∃m,m<n/\Ia m Z O) Q)|e=>Q e
theorem js_r {l:Nat} {rest:Code} (h:Q .ret Z O):jmpS P cx l rest Q .ret Z O:=h
theorem jumpQ_mono {l:Nat} {Ja J':A3} {Q Q':Aa} (hJ:∀Z O,Ja Z O->J' Z O) (hQ:∀e Z O,Q e Z O->Q' e Z O) {e:Exit} (h:jumpQ l Ja Q e Z O):jumpQ l J' Q' e Z O:=by
 cases e with
 |goto l'=>exact⟨h.1,hJ _ _ h.2⟩|_=>exact hQ _ _ _ h
theorem jmpS_mono {l:Nat} {rest c:Code} {Q':Aa} (h:Swp P cx c Z O (jmpS P cx l rest Q')) (hQ:∀e Z O,Q' e Z O->Q e Z O):Swp P cx c Z O (jmpS P cx l rest Q) :=
 h.mono λe Z O hq=>by
  cases e with
  |goto l'=>
   obtain⟨h1,Ia,n,hI,hp⟩:=hq;exact⟨h1,Ia,n,hI,λn Z O h=>(hp n Z O h).mono λe Z O h=>jumpQ_mono (λ_ _ h=>h) hQ h⟩
  |_=>exact hQ _ _ _ hq
theorem sw_scope {c:Code} (l:Nat) {rest:Code} (hf:findLabel c l=some (.seq .skip rest)) (h:Swp P cx c Z O (jmpS P cx l rest Q)):Swp P cx (.scope c) Z O Q:=by refine swp_scope l hf (λn Z O=>∃Ia:Nat->Env->Sto->Prop,Ia n Z O/\∀n Z O,Ia n Z O->Swp P cx rest Z O (jumpQ l (λZ O=>∃m,m<n/\Ia m Z O) Q)) (h.mono λe Z O hq=>?_) ?_;{cases e with|goto l'=>(obtain⟨h1,Ia,n,hI,hp⟩:=hq;exact⟨h1,n,Ia,hI,hp⟩)|_=>exact hq};{rintro n Z O ⟨Ia,hI,hp⟩;refine bo (bq (bn ((hp n Z O hI).mono λe Z O h=>?_)));exact jumpQ_mono (λZ O ⟨m,hm,hI⟩=>⟨m,hm,Ia,hI,hp⟩) (λ_ _ _ h=>h) h}
theorem scope_model {S T:Type} (L:S->Ap) (M:S->Al) (F:T->Exit->Env->Sto->Prop) (step:S->Option (Lp S T)) {rest:Code} {l:Nat} (hn:∀s,dY ((L s).map (·.1))=true) (hm:∀s,dY ((M s).map (·.1))=true) (hstep:∀s r,step s=some r->∀Z O,Fits (L s) (M s) Z O->Swp P cx rest Z O (RdG l (λs=>EE cx (bY (L s) (M s))) F r)) {n:Nat} {s:S} {t:T} (h:bv step n s=some t) {Z:Env} {O:Sto} (hE:Fits (L s) (M s) Z O) :
  Swp P cx (.seq (.label l) rest) Z O (jmpS P cx l rest (F t)):=by
 have key:∀(n:Nat) (s:S) (Z:Env) (O:Sto),bv step n s=some t->Fits (L s) (M s) Z O->Swp P cx rest Z O (jumpQ l (λZ O=>∃m,m<n/\EE cx (λZ O=>∃s,bv step m s=some t/\bY (L s) (M s) Z O) Z O) (F t)):=by
  intro n s Z O hl hE;cases n with
  |zero=>(cases hl)|succ n=>
   unfold bv at hl;cases hr:step s with
   |none=>simp_all|some r=>
    rw[hr] at hl;refine(hstep s r hr Z O hE).mono λe Z O hq=>?_;cases r with
    |next s'=>
     obtain⟨rfl,ρ2,σ2,hw2,hE2⟩:=hq;exact⟨rfl,n,Nat.lt_succ_self n,ρ2,σ2,hw2,s',hl,hE2⟩
    |out t'=>
     cases hl;obtain⟨hne,hq⟩:=hq;cases e with
     |goto l'=>simp_all|_=>exact hq
 have pass:∀n Z O,EE cx (λZ O=>∃s,bv step n s=some t/\bY (L s) (M s) Z O) Z O->Swp P cx rest Z O (jumpQ l (λZ O=>∃m,m<n/\EE cx (λZ O=>∃s,bv step m s=some t/\bY (L s) (M s) Z O) Z O) (F t)):=by rintro n Z O ⟨Z',O',hw,s,hl,hE⟩;grind[Swp.pre,sw_gen]
 refine bo (swp_label (bn ((key n s Z O h hE).mono λe Z O hq=>?_)));cases e with
 |goto l'=>(obtain⟨h1,m,_,hm⟩:=hq;exact⟨h1,_,m,hm,pass⟩)|_=>exact hq
end
