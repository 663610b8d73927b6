/- Lemmas for the law. -/
import Derived.Test.YtpeabgakdpojlaaGreatDoorAmPm
namespace Go.AM
open Go.RowKit
def vOp:Op->Bool|.move _|.assign _|.alloc _|.box _ _|.build _ _|.load _ _|.store _ _ _|.binOp _ _ _ _ _|.unOp _ _ _|.convert _ _ _|.slice _ _ _ _ _|.fieldAddr _ _ _|.field _ _ _|.indexAddr _ _ _|.index _ _ _|.extract _ _=>true|_=>false
section
variable {P:Program} {Q:Exit->Act->World->Prop} {l:A6} {i m:Nat}
def calm:Result Next->Prop|.ok (.enter _ _) _=>False|.ok (.row _ _) _=>False|_=>True
theorem calm_v (s:Sem Value) (w:World):calm ((do pure (.value (<- s)):Sem Next).run P w):=by show calm ((s>>=λx=>pure (Next.value x)).run P w);rw[Sem.run_bind];cases s.run P w<;>trivial
theorem calm_u (s:Sem Unit) (w:World):calm ((do s;pure .skip:Sem Next).run P w):=by show calm ((s>>=λ_=>pure Next.skip).run P w);rw[Sem.run_bind];cases s.run P w<;>trivial
theorem vOp_calm {o:Oper} (h:vOp o.op=true) (f:Operand->Value) (w:World):calm ((execOp f o).run P w):=by unfold execOp;cases ho:o.op<;>rw[ho] at h<;>first|(cases h;done)|exact calm_v _ w|exact calm_u _ w|trivial
theorem wp_and {o:Oper} (h:vOp o.op=true) {a:Act} {w:World} {K K':Act->World->Prop} (h1:o.wp P a w K Q) (h2:o.wp P a w K' Q):o.wp P a w (λa w=>K a w/\K' a w) Q:=by
 unfold Oper.wp at *;have hc:=vOp_calm (P:=P) h a.eval w;generalize (execOp a.eval o).run P w=r at *;cases r with
 |ok n w'=>
  cases n<;>simp only[Oper.upon] at h1 h2 ⊢<;>first|exact⟨h1,h2⟩|exact h1|cases hc
 |halt x w'=>cases x<;>simp only[Oper.upon] at h1 ⊢<;>exact h1
theorem wpOp_and (hv:l.all (λo=>vOp o.op)=true) {k:Nat} {a:Act} {w:World} {K K':Act->World->Prop} (h1:wpOp P l.toArray Q k K a w) (h2:wpOp P l.toArray Q k K' a w):wpOp P l.toArray Q k (λa w=>K a w/\K' a w) a w:=by
 unfold wpOp at *;cases ho:l.toArray[k]? with
 |none=>simp_all|some o=>rw[ho] at h1 h2;simp only at h1 h2⊢;have hov:vOp o.op=true:=List.all_eq_true.1 hv o (by grind);split at h1;{rename_i hw;rw[if_pos hw] at h2⊢;rcases h1 with h1|h1;{grind[wp_and]};{exact .inr h1}};simp_all
theorem getD_set_self {b:Array Bool} {i:Nat} (h:i<b.size):(b.setIfInBounds i true).getD i false=true:=by simp_all
theorem getD_set_keep {b:Array Bool} {i k:Nat} (h:b.getD i false=true):(b.setIfInBounds k true).getD i false=true:=by rw[Array.getD_eq_getD_getElem?] at h⊢;grind
theorem wpAny_done (hm:m<l.length):∀(fuel:Nat) (listed:Array Bool) (a:Act) (w:World),listed.getD i false=true->wpAny P .any (nN l i m).toArray Q fuel listed a w->wpAny P .any l.toArray Q fuel listed a w|0,listed,a,w,hi,h=>⟨List.eq_nil_iff_forall_not_mem.2 (λk hk=>by have:=(fI (l:=l) (i:=i) hm).2 ⟨hk,λ_=>hi⟩;rw[h.1] at this;cases this),h.2⟩|fuel+1,listed,a,w,hi,h=>⟨λh0=>h.1 (List.eq_nil_iff_forall_not_mem.2 λk hk=>by simp_all[fI]),λk hk=>by have h1:=h.2 k ((fI (l:=l) (i:=i) hm).2 ⟨hk,λ_=>hi⟩);rw[qj] at h1;exact wpOp_mono (λa' w' h'=>wpAny_done hm fuel _ a' w' (getD_set_keep hi) h') h1⟩
theorem wpAny_or (hv:l.all (λo=>vOp o.op)=true) (hi:i<l.length) (hm:m<l.length) (him:i≠m):∀(fuel:Nat) (listed:Array Bool) (a:Act) (w:World),listed.size=l.length->wpAny P .any (nN l i m).toArray Q fuel listed a w->wpAny P .any (nN l m i).toArray Q fuel listed a w->wpAny P .any l.toArray Q fuel listed a w
 |0,listed,a,w,_,h1,h2=>⟨List.eq_nil_iff_forall_not_mem.2 (λk hk=>by
   by_cases hkm:k=m;{have:=(fI (l:=l) (i:=m) (m:=i) hi).2 ⟨hk,λe=>absurd (e.symm.trans hkm) him⟩;rw[h2.1] at this;cases this}
   ·have:=(fI (l:=l) (i:=i) hm).2 ⟨hk,λe=>absurd e hkm⟩;rw[h1.1] at this;cases this),h1.2⟩
 |fuel+1,listed,a,w,hsz,h1,h2=>⟨λh0=>h1.1 (List.eq_nil_iff_forall_not_mem.2 λk hk=>by
   simp_all[fI]),λk hk=>by
   by_cases hkm:k=m;{have h3:=h2.2 k ((fI (l:=l) (i:=m) (m:=i) hi).2 ⟨hk,λe=>absurd (e.symm.trans hkm) him⟩);rw[qj] at h3;subst hkm;exact wpOp_mono (λa' w' h'=>wpAny_done hi fuel _ a' w' (getD_set_self (by omega)) h') h3}
   ·have h3:=h1.2 k ((fI (l:=l) (i:=i) hm).2 ⟨hk,λe=>absurd e hkm⟩);rw[qj] at h3;by_cases hki:k=i;{subst hki;exact wpOp_mono (λa' w' h'=>wpAny_done hm fuel _ a' w' (getD_set_self (by omega)) h') h3}
    ·have h4:=h2.2 k ((fI (l:=l) (i:=m) (m:=i) hi).2 ⟨hk,λe=>absurd e hki⟩);rw[qj] at h4;exact wpOp_mono (λa' w' h'=>wpAny_or hv hi hm him fuel _ a' w' (by simp_all) h'.1 h'.2) (wpOp_and hv h3 h4)⟩
end
section
variable {P:Program} {cx:Cx} {tb:Tb} {Z:Env} {O:Sto} {Q:Aa}
def AnyQ (P:Program) (cx:Cx) (l:A6) (Z:Env) (O:Sto) (Q:Aa):Prop:=∀E a w,Sim cx E Z O a w->wpAny P .any l.toArray (λe a w=>(∀c,e=.panic c->False)/\(e=.outgrown->False)/\∃E Z O,Sim cx E Z O a w/\Q e Z O) l.length (Array.replicate l.length false) a { w with drawn:=w.drawn+1 }
theorem swp_any (hm:P.follows .mixedOrders=true) {id:Nat} {l:A6} (h:AnyQ P cx l Z O Q):Swp P cx (.region id l.toArray true) Z O Q:=λE a w hs=>wp_region_any hm (by rw[List.size_toArray];exact h E a w hs)
def orChk (l:A6) (i m:Nat):Bool:=l.all (λo=>vOp o.op)&&(decide (i<l.length)&&(decide (m<l.length)&&decide (i≠m)))
theorem any_or (i m:Nat) {l l1 l2:A6} (hc:orChk l i m=true) (e1:nN l i m=l1) (e2:nN l m i=l2) (h1:AnyQ P cx l1 Z O Q) (h2:AnyQ P cx l2 Z O Q):AnyQ P cx l Z O Q:=λE a w hs=>by subst e1 e2;simp only[orChk,Bool.and_eq_true,decide_eq_true_eq] at hc;have k1:=h1 E a w hs;have k2:=h2 E a w hs;grind[sg,wpAny_or]
theorem any_midp (ht:TbOk P tb) (es:List (Nat×Nat)) (p inv:A5) (x y nT A:Nat) (uss nss:List A5) (las:Ag) (fl:Flt) {l0:A6} (hc:(sZ l0 es&&Region.noSelect l0.toArray&&decide ((gk l0 es).length=l0.length)&&(pmOk (gk l0 es).length p inv&&edgeOk (gk l0 es)&&(kl cx.n (rnL inv (pmL (gk l0 es) p))&&Region.lexB .any (rnL inv (pmL (gk l0 es) p)).toArray&&mb (rnL inv (pmL (gk l0 es) p)).toArray x y nT A uss nss las fl)))=true) {l:A6} (hl:rnL inv (pmL (gk l0 es) p)=l) (hf:fltT tb fl l) (h:pq P tb l (nss.flatten++flN fl) (flI fl O) (l.take x) (iy (nss.flatten++flN fl) Z) (λρx=>midsL P cx tb l (nss.flatten++flN fl) fl ρx (fP l ((l.take y).drop x) uss nss) ρx (flI fl O) (λZ O=>sd P cx tb l (nss.flatten++flN fl) fl O (gb ((l.take nT).drop y) las) Z (λZ=>lP P cx tb l (l.drop nT) Z (flS fl O) (Q .normal) .mk) .mk) .mk) .mk) :
  AnyQ P cx l0 Z O Q:=by
 subst hl;simp only[Bool.and_eq_true,decide_eq_true_eq] at hc;obtain⟨⟨⟨hes,hsel⟩,hle⟩,⟨h1,h2⟩,⟨h3,h4⟩,h5⟩:=hc;unfold pq midsL sd lP at h;rw[<- midsD_eq] at h;simp only[<- lateD_eq] at h;obtain⟨l1,hl1⟩:∃l1,l1=gk l0 es:=⟨_,rfl⟩
 have hp:=pm_of h1;have hlen:(rnL inv (pmL (gk l0 es) p)).length=(gk l0 es).length:=by rw[rnL_eq,List.length_map,qt hp.mem,hp.lp]
 intro E a w hs;have key:=draw_midsA (ops:=(rnL inv (pmL (gk l0 es) p)).toArray) ht h3 h4 h5 (Q:=λe a w=>(∀c,e=.panic c->False)/\(e=.outgrown->False)/\∃E Z O,Sim cx E Z O a w/\Q e Z O) (λE Z O a w hs hk=>⟨(λ_ h=>by cases h),(λh=>by cases h),E,Z,O,hs,hk⟩) hs rfl hf h;rw[List.size_toArray,hlen] at key;refine wpAny_edges (λc a w hq=>hq.1 c rfl) _ _ _ es l0 hes hsel (wpAny_perm hp h2 _ _ (Array.replicate (gk l0 es).length false) _ _ ⟨by simp[hle],by simp,λi hi=>?_⟩ ?_);{rw[hle] at hi;simp[hle,hi,hle ▸ hp.inn i (by rw[hle];exact hi)]};simp_all
end
