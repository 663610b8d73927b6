/- Comparisons by which slices are sorted: that the program gives them, and that they order. -/
import Derived.Test.YtpeabgakdpojlaaGreatDoorPlx1
import Derived.Test.YtpeabgakdpojlaaGreatDoorLays
namespace Go.Proofs.YtpeabgakdpojlaaGreatDoor
open Go.AM Go.Proofs Go.Sort
theorem q0 (x y:Int) (a b:A0):js (x::a) (y::b)=if x<y then -1 else if y<x then 1 else js a b:=by simp only[js,cmpI];split<;>split<;>(try split)<;>(try split)<;>(try split)<;>first|rfl|omega
theorem cmpLL_self:∀a:A0,js a a=0|[]=>rfl|x::a=>by rw[q0,if_neg (by omega),if_neg (by omega),cmpLL_self a]
theorem cmpLL_trans:∀a b c:A0,js a b<0->js b c<0->js a c<0|[],[],_,h,_=>by simp[js] at h|[],_::_,[],_,h=>by simp[js] at h|[],_::_,_::_,_,_=>by simp[js]|_::_,[],_,h,_=>by simp[js] at h|_::_,_::_,[],_,h=>by simp[js] at h|x::a,y::b,z::c,h1,h2=>by have ih:=cmpLL_trans a b c;rw[q0] at *;grind
theorem cmpLL_ntrans:∀a b c:A0,¬ js a b<0->¬ js b c<0->¬ js a c<0|[],[],[],_,_=>by simp[js]|[],[],_::_,_,h=>by simp[js] at h|[],_::_,_,h,_=>by simp[js] at h|_::_,_,[],_,_=>by simp[js]|_::_,[],_::_,_,h=>by simp[js] at h|x::a,y::b,z::c,h1,h2=>by have ih:=cmpLL_ntrans a b c;rw[q0] at *;grind
theorem rc:SWO (ltOf fK) where
 irrefl x:=by simp[ltOf,fK,cmpLL_self]
 trans x y z h1 h2:=decide_eq_true (cmpLL_trans x.Cells y.Cells z.Cells (of_decide_eq_true h1) (of_decide_eq_true h2))
 ntrans x y z h1 h2:=decide_eq_false (cmpLL_ntrans x.Cells y.Cells z.Cells (of_decide_eq_false h1) (of_decide_eq_false h2))
def tL:A0->A0->Int ⊕ Unit|[],_=>.inr ()|_::_,[]=>.inl 1|x::a,y::b=>if cmpI x y≠0 then .inl (cmpI x y)else tL a b
theorem cmpRes_eq:∀a b:A0,(match tL a b with|.inl r=>r|.inr ()=>if a.length<b.length then -1 else 0)=js a b|[],[]=>by simp[tL,js]|[],_::_=>by simp[tL,js]|_::_,[]=>by simp[tL,js]|x::a,y::b=>by have ih:=cmpRes_eq a b;simp only[tL,js,List.length_cons,Nat.add_lt_add_iff_right];by_cases h:cmpI x y≠0;{rw[if_pos h,if_pos h]};{rw[if_neg h,if_neg h];exact ih}
theorem cmp_run (s1 s2:A0) (h1:s1.length<1000000):∀(a b:A0) (i n:Nat),s1.drop i=a->s2.drop i=b->i+a.length=s1.length->a.length<n->bv (dA s1 s2) n (i:Int)=some (tL a b)
 |[],b,i,n,ha,hb,hl,hn=>by
  obtain⟨n,rfl⟩:∃k,n=k+1:=⟨n-1,by simp at hn;omega⟩
  rw[bv];unfold dA;dsimp only;rw[bC,decide_eq_false (by simp at hl;omega)];rfl
 |x::a,b,i,n,ha,hb,hl,hn=>by
  obtain⟨n,rfl⟩:∃k,n=k+1:=⟨n-1,by simp at hn;omega⟩
  have hi:i<s1.length:=by simp at hl;omega
  have hx:s1[i]?=some x:=by have:=congrArg (·[0]?) ha;simpa using this
  rw[bv];unfold dA;dsimp only;rw[bC,decide_eq_true hi,cond_true,bD,hx,be];cases b with
  |nil=>
   have h2:geB (i:Int) (br s2)=true:=by have:=List.drop_eq_nil_iff.1 hb;simp[geB,br];omega
   rw[h2];rfl
  |cons y b=>
   have hi2:i<s2.length:=by rcases Nat.lt_or_ge i s2.length with h|h;{exact h};{rw[List.drop_eq_nil_iff.2 h] at hb;cases hb}
   have h2:geB (i:Int) (br s2)=false:=by simp[geB,br];omega
   have hy:s2[i]?=some y:=by have:=congrArg (·[0]?) hb;simpa using this
   rw[h2,cond_false,bD,hy,be,cmp_eq,be];have ih:=cmp_run s1 s2 h1 a b (i+1) n (by rw[<- List.drop_drop,ha];rfl) (by rw[<- List.drop_drop,hb];rfl) (by simp at hl;omega) (by simp at hn;omega);unfold tL;by_cases h:cmpI x y≠0;{rw[if_pos h,show neB (if x<y then -1 else if x>y then 1 else 0) 0=true from by simpa [neB,cmpI] using h];rfl};{rw[if_neg h,show neB (if x<y then -1 else if x>y then 1 else 0) 0=false from by simpa [neB,cmpI] using h,cond_false,cg (by omega)];exact ih}
theorem tot_ancestor_order (a b:Grid) (ha:fC a=true) (_hb:fC b=true):ma a b=some (fK a b):=by
 have h1:a.Cells.length<1000000:=by simpa [fC] using ha
 have h:=cmp_run a.Cells b.Cells h1 a.Cells b.Cells 0 bK rfl rfl (by simp) (Nat.lt_trans h1 (by decide));have h2:=cmpRes_eq a.Cells b.Cells;unfold ma gq;rw[show (0:Int)=((0:Nat):Int)from rfl,h,be];unfold fK;rw[<- h2];cases tL a.Cells b.Cells with
 |inl r=>rfl|inr u=>dsimp only;by_cases h3:a.Cells.length<b.Cells.length;{rw[show ltB (br a.Cells) (br b.Cells)=true from by simpa [ltB,br] using h3,if_pos h3];rfl};{rw[show ltB (br a.Cells) (br b.Cells)=false from by simp[ltB,br];omega,if_neg h3];rfl}
