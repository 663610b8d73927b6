/- Lemmas for the law. -/
import Derived.Test.YtpeabgakdpojlaaGreatDoorAmZ
import Derived.Test.YtpeabgakdpojlaaGreatDoorAmMp
namespace Go.AM
open Go.RowKit Go.Shelf Go.Proofs Go.Lib Go.Sort
section
variable {I:Type} (cf:I->I->Int)
def insS (x:I):List I->List I|[]=>[x]|y::l=>if cf x y<0 then x::y::l else y::insS x l
def isort:List I->List I|[]=>[]|x::l=>insS cf x (isort l)
def strictB:List I->Bool|x::y::l=>decide (cf x y<0)&&strictB (y::l)|_=>true
def sortM (l:List I):Option (List I):=bif strictB cf (isort cf l)&&decide (l.length<4611686018427387904)then some (isort cf l)else none
end
section
variable {I:Type} {cf:I->I->Int}
theorem insS_perm (x:I):∀l,(insS cf x l).Perm (x::l)|[]=>List.Perm.refl _|y::l=>by unfold insS;split;{exact List.Perm.refl _};{exact((insS_perm x l).cons y).trans (List.Perm.swap x y l)}
theorem isort_perm:∀l:List I,(isort cf l).Perm l|[]=>List.Perm.refl _|x::l=>(insS_perm x _).trans ((isort_perm l).cons x)
theorem strict_pair (hO:SWO (ltOf cf)):∀{l:List I},strictB cf l=true->l.Pairwise λx y=>cf x y<0|[],_=>List.Pairwise.nil|[x],_=>List.pairwise_singleton _ _|x::y::l,h=>by simp only[strictB,Bool.and_eq_true,decide_eq_true_eq] at h;have ih:=strict_pair hO h.2;refine List.Pairwise.cons (λz hz=>?_) ih;rcases List.mem_cons.1 hz with rfl|hz;{exact h.1};{have h2:=(List.pairwise_cons.1 ih).1 z hz;have:=hO.trans x y z (by simpa [ltOf] using h.1) (by simpa [ltOf] using h2);simpa [ltOf] using this}
theorem strict_uniq (hO:SWO (ltOf cf)):∀{l m:List I},l.Pairwise (λx y=>cf x y<0)->m.Pairwise (λx y=>¬ cf y x<0)->m.Perm l->m=l
 |[],m,_,_,hp=>List.Perm.eq_nil hp|x::l,[],_,_,hp=>absurd hp.length_eq (by simp)|x::l,y::m,hl,hm,hp=>by
  rw[List.pairwise_cons] at hl hm;have hxy:y=x:=by have h1:y∈x::l:=hp.subset (by simp);have h2:x∈y::m:=hp.symm.subset (by simp);rcases List.mem_cons.1 h1 with h1|h1;{exact h1};{rcases List.mem_cons.1 h2 with h2|h2;{exact h2.symm};{exact absurd (hl.1 y h1) (hm.1 x h2)}}
  subst hxy;rw[strict_uniq hO hl.2 hm.2 (List.Perm.cons_inv hp)]
theorem sortM_uniq (hO:SWO (ltOf cf)) {xs r ys:List I} (h:sortM cf xs=some r) (hp:ys.Perm xs) (hs:ys.Pairwise λx y=>¬ cf y x<0):ys=r/\xs.length<4611686018427387904:=by
 unfold sortM at h;cases hb:strictB cf (isort cf xs)&&decide (xs.length<4611686018427387904)with
 |false=>(rw[hb] at h;cases h)|true=>rw[hb] at h;cases h;simp only[Bool.and_eq_true,decide_eq_true_eq] at hb;exact⟨strict_uniq hO (strict_pair hO hb.1) hs (hp.trans (isort_perm xs).symm),hb.2⟩
theorem sortM_len {xs r:List I} (h:sortM cf xs=some r):xs.length<4611686018427387904:=by
 unfold sortM at h;cases hb:strictB cf (isort cf xs)&&decide (xs.length<4611686018427387904)with
 |false=>(rw[hb] at h;cases h)|true=>simp only[Bool.and_eq_true,decide_eq_true_eq] at hb;exact hb.2
end
theorem g_of_mut {P:Program} {f:FuncId} {us:Ao} {k e:Nat} {rows rows':A8} (h:MutFn P f us (.row k e rows) λv o'=>v=.tup []/\o'=.row k e rows'):GFn P f us [.row k e rows] (.tup []) [some (.row k e rows')]:=by
 refine⟨h.1,by simp,rfl,λj o hj=>?_,λE w F hF hin vals hl hv=>?_⟩;{rcases j with _|j;{simp at hj;subst hj;rfl};{simp at hj}}
 ·have hin':InOk E w F [.row k e rows]:=⟨hin.objs,hin.blk,hin.disj,λo ho=>by simp at ho;subst ho;rfl,hin.glob⟩
  refine(h.2 E w F hF hin' vals hl hv).mono λe' w' ⟨u,v,o',he,hc,⟨hv1,ho1⟩,hvf,hof,hvs,hos⟩=>?_;subst hv1 ho1;have hout:∀b,mE E [some (Ob.row k e rows')] b↔fF E [Ob.row k e rows] b:=λb=>by constructor;{rintro⟨i,o,hi,hb⟩;rcases i with _|i;{exact⟨0,_,rfl,hb⟩};{simp at hi}};{rintro⟨i,o,hi,hb⟩;rcases i with _|i;{exact⟨0,_,rfl,hb⟩};{simp at hi}}
  have K:Keep (λb=>F b/\¬ fF E [Ob.row k e rows] b) (λb=>(F b\/fF E [Ob.row k e rows] b)/\¬ mE E [some (Ob.row k e rows')] b) w' w' :=⟨Nat.le_refl _,λ_ _ _=>rfl,λb hb _=>⟨.inl hb.1,λho=>hb.2 ((hout b).1 ho)⟩⟩
  refine⟨u,E,he,hc,λ_ _=>veq.refl _,λj o hj=>?_,λj o b hj hb=>?_,λi j o o' b hi hj _ _=>?_,fb K _ _ hvs⟩;{rcases j with _|j;{simp at hj;subst hj;exact fy K hos (λ_ _=>rfl) (λ_ _ _ _ _ _=>rfl)};{simp at hj}}
  ·rcases j with _|j
   ·have hi:fF E [Ob.row k e rows] b:=⟨0,_,rfl,hb⟩
    exact⟨.inr hi,Nat.lt_of_lt_of_le (hin.blk 0 _ b rfl hb) hc.size⟩
   ·simp at hj
  ·rcases i with _|i<;>rcases j with _|j<;>simp at hi hj<;>rfl
theorem PFn.of {P:Program} {f:FuncId} {us:Ao} {v:V} (h:bA P f us v):PFn P f us (·=v):=⟨h.1,λE w F hF vals hl hv=>(h.2 E w F hF vals hl hv).mono λ_ _ ⟨u,he,hb,hs⟩=>⟨u,v,he,hb,rfl,hs⟩⟩
theorem bits_pure {P:Program} {Z:Ren} (L:SlLaysF0.n15 P Z) (hfn:∃fn,P.funcs[Z.f 15]?=some fn/\(fn.name == "runtime.NumGoroutine")=false/\fn.body.isNone=false) (n:Int) (h0:0<=n) (h1:n<=18446744073709551615):bA P (Z.f 15) [.one (.d (.int .u64 n))] (.int (Lib.bitLen n.toNat)):=by
 refine⟨hfn,λE w F hF vals hl hv=>?_⟩;obtain⟨v,rfl⟩:∃v,vals=[v]:=by
  match vals,hl with
  |[a],_=>exact⟨a,rfl⟩
 have:v=.int .u64 n:=hv 0 _ v rfl rfl;subst this;refine(Any.bits_Len (SlLaysF0.n15.bits L) n w h0 h1).mono λe w' ⟨he,hw⟩=>⟨_,he,?_,rfl⟩
 subst hw;exact Blw.refl _ _
theorem iconv_u64 (n:Int):0<=pK .u64 n/\pK .u64 n<=18446744073709551615:=by unfold pK;simp[IntKind.wrap,IntKind.bits,IntKind.signed];omega
theorem bitLen_small (n:Nat) (h:n<=18446744073709551615):Lib.bitLen n<4611686018427387904:=by have:=Lib.bitLen_le n 64 (by omega) (by omega);omega
