/- A slice that the program writes out, as a row of one's own. -/
import Derived.Test.YtopmhknobhmbgaaGreatDoorAmR
namespace Go.AM
open Go.RowKit
section
variable {P:Program} {φ:A8} {F:Ae} {w:World} {tb:Tb}
end
section
variable {P:Program} {cx:Cx} {tb:Tb} {Z:Env} {O:Sto} {K:A2} {o:Oper} {Q:A9} {y:Code}
def bsl1 (v:Ap) (de:Option TypeDesc) (d:Nat) (Z:Env) (O:Sto) (K:A2) (_:Lk (Z,O,K)):Prop:=match v,de with|some (.u (.one (.d (.sl sz (r::rs))))),some (.slice e)=>K (upd (du d Z) d (.u (.one (.own d)))) (upd (cp d O) d (some (.row sz e (r::rs))))|_,_=>False
def bslO (tb:Tb) (l:A6) (Z:Env) (O:Sto) (K:A2) (_:Lk (Z,O,K)):Prop:=match l with|⟨some d,.buildSlice t n ps,_,_,_,none⟩::_=>bsl1 (qev tb Z O (.buildSlice t n ps)) ((tb.ty t).map (·.desc)) d Z O K .mk|_=>False
theorem bslO_cons {d t n:Nat} {ps:Array (Nat×Operand)} {ty:TypeId} {pos:String} {af:Array Edge} {l:A6} {j} :
  bslO tb ({ dst:=some d,op:=.buildSlice t n ps,type:=ty,pos:=pos,after:=af,guard:=none }::l) Z O K j=bsl1 (qev tb Z O (.buildSlice t n ps)) ((tb.ty t).map (·.desc)) d Z O K .mk:=rfl
theorem bsl1_some {sz d:Nat} {r:Ai} {rs:A7} {e:TypeId} {j} :
  bsl1 (some (.u (.one (.d (.sl sz (r::rs)))))) (some (.slice e)) d Z O K j=K (upd (du d Z) d (.u (.one (.own d)))) (upd (cp d O) d (some (.row sz e (r::rs)))):=by rfl
theorem aops_pre (ht:TbOk P tb) {ops:Array Oper} (hd:jN cx.n ops.toList=true) {Q:Exit->Act->World->Prop} {rest:A5} (hQ:∀φ Z O a w,Sim cx φ Z O a w->K Z O->wpOps P ops Q rest a w) :∀(l:A6) (k:Nat) (Z:Env) (O:Sto) (φ:A8) (a:Act) (w:World),(∀(j:Nat) (o:Oper),l[j]?=some o->ops[k+j]?=some o)->qy P cx tb ops.toList l Z O K->Sim cx φ Z O a w->wpOps P ops Q (List.range' k l.length++rest) a w
 |[],k,Z,O,φ,a,w,_,h,hs=>by simp only[List.length_nil,List.range'_zero,List.nil_append];exact hQ φ Z O a w hs h|o::l,k,Z,O,φ,a,w,hl,h,hs=>by
  have h0:ops[k]?=some o:=by simpa using hl 0 o rfl
  have h0':ops.toList[k]?=some o:=by simpa using h0
  have hdo:=mC hd h0';simp only[List.length_cons,List.range'_succ,List.cons_append,wpOps,h0];simp only[qy] at h;have ih:=λZ O φ a w=>aops_pre ht hd hQ l (k+1) Z O φ a w (λj o ho=>by have:=hl (j+1) o (by simpa using ho);grind);rcases oz hs.slots h with⟨hw,h⟩|⟨hw,h⟩;{rw[if_pos hw];exact .inl (nS ht hdo h φ a w hs _ _ λφ' Z' O' a' w' hs' hk=>ih Z' O' φ' a' w' hk hs')};{rw[if_neg (by simp[hw])];exact ih _ _ φ _ _ h (hs.put (λx hx=>(hdo x hx).1) nz)}
end
attribute [simp] bslO_cons bsl1_some
