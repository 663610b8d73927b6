/- Lemmas for the law. -/
import Derived.Test.YtpeabgakdpojlaaGreatDoorAmR
namespace Go.AM
open Go.RowKit
section
variable {P:Program} {E:A7} {F:Ad} {w:World} {tb:Tb}
end
section
variable {P:Program} {cx:Cx} {tb:Tb} {Z:Env} {O:Sto} {K:A3} {o:Oper} {Q:Aa} {y:Code}
theorem aops_pre (ht:TbOk P tb) {ops:Array Oper} (hd:kl cx.n ops.toList=true) {Q:Exit->Act->World->Prop} {rest:A5} (hQ:∀E Z O a w,Sim cx E Z O a w->K Z O->wpOps P ops Q rest a w) :∀(l:A6) (k:Nat) (Z:Env) (O:Sto) (E:A7) (a:Act) (w:World),(∀(j:Nat) (o:Oper),l[j]?=some o->ops[k+j]?=some o)->aops P cx tb ops.toList l Z O K->Sim cx E Z O a w->wpOps P ops Q (List.range' k l.length++rest) a w
 |[],k,Z,O,E,a,w,_,h,hs=>by simp only[List.length_nil,List.range'_zero,List.nil_append];exact hQ E Z O a w hs h|o::l,k,Z,O,E,a,w,hl,h,hs=>by
  have h0:ops[k]?=some o:=by simpa using hl 0 o rfl
  have h0':ops.toList[k]?=some o:=by simpa using h0
  have hdo:=nu hd h0';simp only[List.length_cons,List.range'_succ,List.cons_append,wpOps,h0];simp only[aops] at h;have ih:=λZ O E a w=>aops_pre ht hd hQ l (k+1) Z O E a w (λj o ho=>by have:=hl (j+1) o (by simpa using ho);grind);rcases qa hs.slots h with⟨hw,h⟩|⟨hw,h⟩;{rw[if_pos hw];exact .inl (p9 ht hdo h E a w hs _ _ λE' Z' O' a' w' hs' hk=>ih Z' O' E' a' w' hk hs')};{rw[if_neg (by simp[hw])];exact ih _ _ E _ _ h (hs.put (λx hx=>(hdo x hx).1) oh)}
end
