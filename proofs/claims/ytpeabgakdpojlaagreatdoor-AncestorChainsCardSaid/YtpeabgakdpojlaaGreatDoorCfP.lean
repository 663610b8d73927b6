/- Lemmas for the law. -/
import Derived.Test.YtpeabgakdpojlaaGreatDoorPlx1
import Derived.Test.YtpeabgakdpojlaaGreatDoorLays
namespace Go.Proofs.YtpeabgakdpojlaaGreatDoor
open Go.AM Go.Proofs Go.Sort
theorem rA (x y:Int) (a b:A0):kj (x::a) (y::b)=if x<y then -1 else if y<x then 1 else kj a b:=by simp only[kj,cmpI];split<;>split<;>(try split)<;>(try split)<;>(try split)<;>first|rfl|omega
theorem cmpLL_self:∀a:A0,kj a a=0|[]=>rfl|x::a=>by rw[rA,if_neg (by omega),if_neg (by omega),cmpLL_self a]
theorem cmpLL_trans:∀a b c:A0,kj a b<0->kj b c<0->kj a c<0|[],[],_,h,_=>by simp[kj] at h|[],_::_,[],_,h=>by simp[kj] at h|[],_::_,_::_,_,_=>by simp[kj]|_::_,[],_,h,_=>by simp[kj] at h|_::_,_::_,[],_,h=>by simp[kj] at h|x::a,y::b,z::c,h1,h2=>by have ih:=cmpLL_trans a b c;rw[rA] at *;grind
theorem cmpLL_ntrans:∀a b c:A0,¬ kj a b<0->¬ kj b c<0->¬ kj a c<0|[],[],[],_,_=>by simp[kj]|[],[],_::_,_,h=>by simp[kj] at h|[],_::_,_,h,_=>by simp[kj] at h|_::_,_,[],_,_=>by simp[kj]|_::_,[],_::_,_,h=>by simp[kj] at h|x::a,y::b,z::c,h1,h2=>by have ih:=cmpLL_ntrans a b c;rw[rA] at *;grind
theorem swo_ancestor_order:SWO (ltOf gJ) where
 irrefl x:=by simp[ltOf,gJ,cmpLL_self]
 trans x y z h1 h2:=decide_eq_true (cmpLL_trans x.Cells y.Cells z.Cells (of_decide_eq_true h1) (of_decide_eq_true h2))
 ntrans x y z h1 h2:=decide_eq_false (cmpLL_ntrans x.Cells y.Cells z.Cells (of_decide_eq_false h1) (of_decide_eq_false h2))
def uk:A0->A0->Int ⊕ Unit|[],_=>.inr ()|_::_,[]=>.inl 1|x::a,y::b=>if cmpI x y≠0 then .inl (cmpI x y)else uk a b
theorem cmpRes_eq:∀a b:A0,(match uk a b with|.inl r=>r|.inr ()=>if a.length<b.length then -1 else 0)=kj a b|[],[]=>by simp[uk,kj]|[],_::_=>by simp[uk,kj]|_::_,[]=>by simp[uk,kj]|x::a,y::b=>by have ih:=cmpRes_eq a b;simp only[uk,kj,List.length_cons,Nat.add_lt_add_iff_right];by_cases h:cmpI x y≠0;{rw[if_pos h,if_pos h]};{rw[if_neg h,if_neg h];exact ih}
theorem cmp_run (s1 s2:A0) (h1:s1.length<1000000):∀(a b:A0) (i n:Nat),s1.drop i=a->s2.drop i=b->i+a.length=s1.length->a.length<n->bv (dG s1 s2) n (i:Int)=some (uk a b)
 |[],b,i,n,ha,hb,hl,hn=>by
  obtain⟨n,rfl⟩:∃k,n=k+1:=⟨n-1,by simp at hn;omega⟩
  rw[bv];unfold dG;dsimp only;rw[bD,decide_eq_false (by simp at hl;omega)];rfl
 |x::a,b,i,n,ha,hb,hl,hn=>by
  obtain⟨n,rfl⟩:∃k,n=k+1:=⟨n-1,by simp at hn;omega⟩
  have hi:i<s1.length:=by simp at hl;omega
  have hx:s1[i]?=some x:=by have:=congrArg (·[0]?) ha;simpa using this
  rw[bv];unfold dG;dsimp only;rw[bD,decide_eq_true hi,cond_true,bE,hx,be];cases b with
  |nil=>
   have h2:geB (i:Int) (br s2)=true:=by have:=List.drop_eq_nil_iff.1 hb;simp[geB,br];omega
   rw[h2];rfl
  |cons y b=>
   have hi2:i<s2.length:=by rcases Nat.lt_or_ge i s2.length with h|h;{exact h};{rw[List.drop_eq_nil_iff.2 h] at hb;cases hb}
   have h2:geB (i:Int) (br s2)=false:=by simp[geB,br];omega
   have hy:s2[i]?=some y:=by have:=congrArg (·[0]?) hb;simpa using this
   rw[h2,cond_false,bE,hy,be,cmp_eq,be];have ih:=cmp_run s1 s2 h1 a b (i+1) n (by rw[<- List.drop_drop,ha];rfl) (by rw[<- List.drop_drop,hb];rfl) (by simp at hl;omega) (by simp at hn;omega);unfold uk;by_cases h:cmpI x y≠0;{rw[if_pos h,show neB (if x<y then -1 else if x>y then 1 else 0) 0=true from by simpa [neB,cmpI] using h];rfl};{rw[if_neg h,show neB (if x<y then -1 else if x>y then 1 else 0) 0=false from by simpa [neB,cmpI] using h,cond_false,zF];exact ih}
theorem tot_ancestor_order (a b:Grid) (ha:fQ a=true) (_hb:fQ b=true):my a b=some (gJ a b):=by
 have h1:a.Cells.length<1000000:=by simpa [fQ] using ha
 have h:=cmp_run a.Cells b.Cells h1 a.Cells b.Cells 0 bL rfl rfl (by simp) (Nat.lt_trans h1 (by decide));have h2:=cmpRes_eq a.Cells b.Cells;unfold my gy;rw[show (0:Int)=((0:Nat):Int)from rfl,h,be];unfold gJ;rw[<- h2];cases uk a.Cells b.Cells with
 |inl r=>rfl|inr u=>dsimp only;by_cases h3:a.Cells.length<b.Cells.length;{rw[show ltB (br a.Cells) (br b.Cells)=true from by simpa [ltB,br] using h3,if_pos h3];rfl};{rw[show ltB (br a.Cells) (br b.Cells)=false from by simp[ltB,br];omega,if_neg h3];rfl}
