/- Lemmas for the law. -/
import Derived.Test.YtpeabgakdpojlaaGreatDoorMdx1
import Derived.IntWalk
namespace Go.Proofs.YtpeabgakdpojlaaGreatDoor
open Go.AM Go.Proofs
theorem i64_in {n:Int} (h:-9223372036854775808<=n/\n<=9223372036854775807):IntKind.i64.wrap n=n:=IntWalk.i64_in n h
theorem cd {n:Nat} (h:n<1099511627776):bC .i64 (n:Int) 1=((n+1:Nat):Int):=by unfold bC;rw[i64_in (by omega)];omega
theorem zB {I:Type} {l:List I} {i:Nat} (h:i<l.length:=by omega):l[i]?=some l[i]:=List.getElem?_eq_getElem h
theorem zA {p:Prop} [Decidable p] (h:¬p:=by omega):decide p=false:=decide_eq_false h
theorem zD {p:Prop} [Decidable p] (h:p:=by omega):decide p=true:=decide_eq_true h
theorem zF {n:Nat} (h:n<1099511627776:=by omega):bC .i64 (n:Int) 1=((n+1:Nat):Int):=cd h
theorem dn_nat {n:Nat} (h:n<1099511627776):bZ .i64 ((n+1:Nat):Int) 1=(n:Int):=by unfold bZ;rw[i64_in (by omega)];omega
theorem cY {a b:Int} (h:-9223372036854775808<=a+b/\a+b<=9223372036854775807):bC .i64 a b=a+b:=i64_in h
theorem jq {a b:Int} (h:-9223372036854775808<=a-b/\a-b<=9223372036854775807):bZ .i64 a b=a-b:=i64_in h
theorem dz {a b:Int} (h:-9223372036854775808<=a*b/\a*b<=9223372036854775807):bH .i64 a b=a*b:=i64_in h
theorem bE {I:Type} (l:List I) (n:Nat):idx l (n:Int)=l[n]?:=by simp[idx]
theorem fE {I:Type} (l:List I) {i:Int} (h:0<=i):idx l i=l[i.toNat]?:=by simp[idx,h]
theorem bD {I:Type} (n:Nat) (l:List I):ltB (n:Int) (br l)=decide (n<l.length):=by simp[ltB,br]
theorem iR {I:Type} (c:Bool) (a b:I):(bif c then some a else some b)=some (bif c then a else b):=by cases c<;>rfl
theorem k8 (c:Bool) (b:Bool):(bif c then true else b)=(c||b):=by cases c<;>rfl
theorem tO (c:Bool) (b:Bool):(bif c then b else false)=(c&&b):=by cases c<;>rfl
theorem be {I β:Type} (a:I) (f:I->Option β):(some a).bind f=f a:=rfl
def iD {I:Type} (bad:Nat->I->Bool):List I->Nat->Bool|[],_=>false|x::l,i=>bad i x||iD bad l (i+1)
theorem loop_any_aux {I β:Type} {b:Int->Option (Lp Int (β ⊕ Unit))} (l:List I) (bad:Nat->I->Bool) (r:β) (hs:∀(i:Nat) (x:I),l[i]?=some x->b i=some (bif bad i x then .out (.inl r)else .next ((i+1:Nat):Int))) (he:b (l.length:Nat)=some (.out (.inr ()))):∀(m:List I) (i n:Nat),l.drop i=m->i+m.length=l.length->m.length<n->bv b n (i:Nat)=some (bif iD bad m i then .inl r else .inr ())
 |[],i,n,_,hl,hn=>by
  obtain⟨n,rfl⟩:∃k,n=k+1:=⟨n-1,by simp at hn;omega⟩
  obtain rfl:i=l.length:=by simpa using hl
  rw[bv,he];rfl
 |x::m,i,n,hd,hl,hn=>by
  obtain⟨n,rfl⟩:∃k,n=k+1:=⟨n-1,by simp at hn;omega⟩
  have hx:l[i]?=some x:=by have:=congrArg (·[0]?) hd;simpa using this
  rw[bv,hs i x hx,iD];cases hb:bad i x with
  |true=>rfl|false=>simp only[cond_false,Bool.false_or];refine loop_any_aux l bad r hs he m (i+1) n ?_ (by simp at hl;omega) (by simp at hn;omega);have:=congrArg (List.drop 1) hd;simpa using this
theorem hZ {I β:Type} {b:Int->Option (Lp Int (β ⊕ Unit))} (l:List I) (bad:Nat->I->Bool) (r:β) (hl:l.length<1099511627776) (hs:∀(i:Nat) (x:I),l[i]?=some x->b i=some (bif bad i x then .out (.inl r)else .next ((i+1:Nat):Int))) (he:b (l.length:Nat)=some (.out (.inr ()))):bv b bL 0=some (bif iD bad l 0 then .inl r else .inr ()) :=
 loop_any_aux l bad r hs he l 0 bL rfl (by simp) hl
theorem gp {I:Type} {f:Nat->I->Bool}:∀{l:List I} {i:Nat},iD f l i=false->∀(j:Nat) (x:I),l[j]?=some x->f (i+j) x=false
 |[],_,_,j,x,hj=>by simp at hj|y::l,i,h,j,x,hj=>by
  rw[iD,Bool.or_eq_false_iff] at h;cases j with
  |zero=>simp at hj;subst hj;exact h.1|succ j=>have:=gp h.2 j x (by simpa using hj);rwa [show i+1+j=i+(j+1) by omega] at this
theorem iA {I:Type} {f:Nat->I->Bool}:∀{l:List I} {i:Nat},(∀(j:Nat) (x:I),l[j]?=some x->f (i+j) x=false)->iD f l i=false|[],_,_=>rfl|y::l,i,h=>by rw[iD,show f i y=false from h 0 y rfl,Bool.false_or];exact iA λj x hj=>by have:=h (j+1) x (by simpa using hj);rwa [show i+(j+1)=i+1+j by omega] at this
def runL {I S T:Type} (f:Nat->I->S->Option (Lp S T)) (fin:S->Option T):List I->Nat->S->Option T
 |[],_,s=>fin s|x::l,i,s=>match f i x s with
  |some (.next s')=>runL f fin l (i+1) s'|some (.out t)=>some t|none=>none
def mapE {S St T:Type} (Ea:S->St):Option (Lp S T)->Option (Lp St T)|some (.next s)=>some (.next (Ea s))|some (.out t)=>some (.out t)|none=>none
theorem loop_run_aux {I S St T:Type} {b:St->Option (Lp St T)} (Ea:Nat->S->St) (l:List I) (f:Nat->I->S->Option (Lp S T)) (fin:S->Option T) (hs:∀(i:Nat) (x:I) (s:S),l[i]?=some x->b (Ea i s)=mapE (Ea (i+1)) (f i x s)) (he:∀s,b (Ea l.length s)=(fin s).map .out):∀(m:List I) (i n:Nat) (s:S),l.drop i=m->i+m.length=l.length->m.length<n->bv b n (Ea i s)=runL f fin m i s
 |[],i,n,s,_,hl,hn=>by
  obtain⟨n,rfl⟩:∃k,n=k+1:=⟨n-1,by simp at hn;omega⟩
  obtain rfl:i=l.length:=by simpa using hl
  rw[bv,he,runL];cases fin s<;>rfl
 |x::m,i,n,s,hd,hl,hn=>by
  obtain⟨n,rfl⟩:∃k,n=k+1:=⟨n-1,by simp at hn;omega⟩
  have hx:l[i]?=some x:=by have:=congrArg (·[0]?) hd;simpa using this
  rw[bv,hs i x s hx,runL];rcases f i x s with _|(s'|t);{rfl};{simp only[mapE];refine loop_run_aux Ea l f fin hs he m (i+1) n s' ?_ (by simp at hl;omega) (by simp at hn;omega);have:=congrArg (List.drop 1) hd;simpa using this};{rfl}
theorem loop_run {I S St T:Type} {b:St->Option (Lp St T)} (Ea:Nat->S->St) (l:List I) (f:Nat->I->S->Option (Lp S T)) (fin:S->Option T) (hl:l.length<1099511627776) (hs:∀(i:Nat) (x:I) (s:S),l[i]?=some x->b (Ea i s)=mapE (Ea (i+1)) (f i x s)) (he:∀s,b (Ea l.length s)=(fin s).map .out) (s:S):bv b bL (Ea 0 s)=runL f fin l 0 s:=loop_run_aux Ea l f fin hs he l 0 bL s rfl (by simp) hl
theorem cmp_eq (x y:Int):fK x y=some (if x<y then -1 else if x>y then 1 else 0):=by simp only[fK,lD,be,neB,ltB,gtB,bne_self_eq_false,cond_false];by_cases h:x<y;{simp[h]};{by_cases h2:x>y<;>simp[h,h2]}
theorem or_eq (a b:Int):nW [a,b]=some (if a≠0 then a else b):=by
 unfold nW;have h:=loop_run (b:=kz [a,b]) (λi (_:Unit)=>(i:Int)) [a,b] (λ_ x _=>some (bif neB x 0 then .out (.inl x)else .next ())) (λ_=>some (.inr ())) (by simp) (λi x s hx=>by unfold kz;dsimp only;rw[bD,decide_eq_true (List.getElem?_eq_some_iff.1 hx).1,cond_true,bE,hx,cd (Nat.lt_trans (List.getElem?_eq_some_iff.1 hx).1 (by simp))];simp only[be];cases neB x 0<;>rfl) (λs=>by unfold kz;dsimp only;rw[bD,decide_eq_false (Nat.lt_irrefl _)];rfl) ();rw[show ((0:Nat):Int)=0 from rfl] at h;rw[h];simp only[runL,neB];by_cases ha:a=0
 ·by_cases hb:b=0;{simp[ha,hb]}
  ·have h1:(b != 0)=true:=by simpa using hb
   simp[ha,h1]
 ·have h1:(a != 0)=true:=by simpa using ha
  simp[ha,h1]
def befP (a b:Point):Bool:=decide (a.Y<b.Y)||(a.Y==b.Y&&decide (a.X<b.X))
theorem m_R07_before_eq (a b:Point):nO a b=some (befP a b):=by simp only[nO,befP,ltB,eqB,iR,be,k8,tO]
theorem comp_eq (a b:Point):∃c,lC a b=some c/\geB c 0=!befP a b:=by
 simp only[lC,cmp_eq,be,or_eq];refine⟨_,rfl,?_⟩;unfold befP geB;by_cases h1:a.Y<b.Y;{simp[h1]}
 ·by_cases h2:a.Y>b.Y
  ·have:¬ a.Y=b.Y:=by omega
   simp[h1,h2,this]
  ·have h3:a.Y=b.Y:=by omega
   simp only[h3,Int.lt_irrefl,↓reduceIte,gt_iff_lt,ne_eq,not_true_eq_false,decide_false,Bool.false_or];by_cases h4:a.X<b.X;{simp[h4]};{by_cases h5:b.X<a.X<;>simp[h4,h5]}
def badP (l:AG) (i:Nat) (x:Point):Bool :=ltB x.X (-2)||(gtB x.X 2||(ltB x.Y (-2)||(gtB x.Y 2||match i with
  |0=>false|j+1=>match l[j]? with
   |some y=>!befP y x|none=>false)))
def jc (l:AG):Bool:=!(ltB (br l) 1||gtB (br l) 25) && !iD (badP l) l 0
theorem cG {I:Type} {l:List I} {i:Nat} {x:I} (h:l[i]?=some x):i<l.length:=(List.getElem?_eq_some_iff.1 h).1
theorem getE_prev {I:Type} {l:List I} {i:Nat} {x:I} (h:l[i+1]?=some x):∃y,l[i]?=some y:=⟨_,List.getElem?_eq_getElem (Nat.lt_of_succ_lt (cG h))⟩
theorem gtB_zero:gtB ((0:Nat):Int) 0=false:=rfl
theorem gtB_succ (n:Nat):gtB ((n+1:Nat):Int) 0=true:=by simp[gtB]
theorem hood_eq {l:AG} (hl:l.length<1099511627776):mo l=some (jc l):=by unfold mo jc;simp only[iR,be,k8];rw[hZ l (badP l) false hl];{cases (ltB (br l) 1||gtB (br l) 25)<;>cases iD (badP l) l 0<;>rfl};{intro i x hx;unfold lW;dsimp only;rw[bD,decide_eq_true (cG hx),cond_true,bE,hx,cd (Nat.lt_trans (cG hx) hl)];unfold badP;cases i with|zero=>simp only[gtB_zero,cond_false,iR,be,k8]|succ j=>obtain⟨y,hy⟩:=getE_prev hx;obtain⟨c,hc,hg⟩:=comp_eq y x;simp only[gtB_succ,cond_true,dn_nat (Nat.lt_trans (Nat.lt_of_succ_lt (cG hx)) hl),bE,hy,be,hc,hg,iR,k8]};{unfold lW;dsimp only;rw[bD,decide_eq_false (Nat.lt_irrefl _)];rfl}
theorem hoodR_eq {l:AG} (hl:l.length<1099511627776):nv l=some (jc l):=by unfold nv jc;simp only[iR,be,k8];rw[hZ l (badP l) false hl];{cases (ltB (br l) 1||gtB (br l) 25)<;>cases iD (badP l) l 0<;>rfl};{intro i x hx;unfold mQ;dsimp only;rw[bD,decide_eq_true (cG hx),cond_true,bE,hx,cd (Nat.lt_trans (cG hx) hl)];unfold badP;cases i with|zero=>simp only[gtB_zero,cond_false,iR,be,k8]|succ j=>obtain⟨y,hy⟩:=getE_prev hx;simp only[gtB_succ,cond_true,dn_nat (Nat.lt_trans (Nat.lt_of_succ_lt (cG hx)) hl),bE,hy,be,m_R07_before_eq,e9,iR,k8]};{unfold mQ;dsimp only;rw[bD,decide_eq_false (Nat.lt_irrefl _)];rfl}
structure Sz (t:Tree):Prop where
 hood:t.Hood.length<1099511627776
 nodes:t.Nodes.length<1099511627776
 next:∀x∈t.Nodes,x.Next.length<1099511627776
def lowOk (t:Tree) (x:Node) (k:Int):Bool:=match t.Nodes[k.toNat]? with|some y=>neB y.Level (bZ .i64 x.Level 1)|none=>true
def badE (t:Tree) (i:Int) (x:Node) (k:Int):Bool:=ltB k 0||((eqB x.Level 1&&geB k t.States)||(gtB x.Level 1&&(geB k i||lowOk t x k)))
def badN (t:Tree) (i:Nat) (x:Node):Bool:=ltB x.Level 1||(gtB x.Level (br t.Hood)||(neB (br x.Next) t.States||iD (λ_ k=>badE t (i:Nat) x k) x.Next 0))
def rootOk (t:Tree):Bool:=match t.Nodes[t.Nodes.length-1]? with|some x=>eqB x.Level (br t.Hood)|none=>false
def iw (t:Tree):Bool:=!(ltB t.States 2||(gtB t.States 8||(!jc t.Hood||(ltB (br t.Nodes) 1||gtB (br t.Nodes) 4096))))&&(!iD (badN t) t.Nodes 0&&rootOk t)
section
variable {t:Tree} {n:Nat} {x:Node}
theorem low_get (hn:n<t.Nodes.length) {k:Int} (h0:ltB k 0=false) (h1:geB k (n:Nat)=false):∃y,idx t.Nodes k=some y/\lowOk t x k=neB y.Level (bZ .i64 x.Level 1):=by
 simp only[ltB,geB,decide_eq_false_iff_not,Int.not_lt,ge_iff_le,Int.not_le] at h0 h1;have hk:k.toNat<t.Nodes.length:=by omega
 refine⟨t.Nodes[k.toNat],?_,?_⟩;{rw[fE _ h0];exact List.getElem?_eq_getElem hk};{unfold lowOk;rw[List.getElem?_eq_getElem hk]}
theorem inner_eq (hn:n<t.Nodes.length) (hx:x.Next.length<1099511627776):bv (kw t (n:Nat) x) bL 0=some (bif iD (λ_ k=>badE t (n:Nat) x k) x.Next 0 then .inl false else .inr ()):=by
 refine hZ x.Next (λ_ k=>badE t (n:Nat) x k) false hx (λi k hk=>?_) ?_
 ·unfold kw badE;dsimp only;rw[bD,decide_eq_true (cG hk),cond_true,bE,hk,cd (Nat.lt_trans (cG hk) hx)];simp only[be];cases h0:ltB k 0 with
  |true=>rfl|false=>
   cases h1:geB k (n:Nat)with
   |true=>(cases eqB x.Level 1<;>cases geB k t.States<;>cases gtB x.Level 1<;>rfl)|false=>obtain⟨y,hy,hl⟩:=low_get (x:=x) hn h0 h1;rw[hy,hl];simp only[be];cases eqB x.Level 1<;>cases geB k t.States<;>cases gtB x.Level 1<;>cases neB y.Level (bZ .i64 x.Level 1)<;>rfl
 ·unfold kw;dsimp only;rw[bD,decide_eq_false (Nat.lt_irrefl _)];rfl
theorem innerR_eq (hn:n<t.Nodes.length) (hx:x.Next.length<1099511627776) (hl:br x.Next=t.States):bv (lJ t (n:Nat) x) bL 0=some (bif iD (λ_ k=>badE t (n:Nat) x k) x.Next 0 then .inl false else .inr ()):=by
 refine hZ x.Next (λ_ k=>badE t (n:Nat) x k) false hx (λi k hk=>?_) ?_
 ·unfold lJ badE;dsimp only;rw[<- hl,bD,decide_eq_true (cG hk),cond_true,bE,hk,cd (Nat.lt_trans (cG hk) hx)];simp only[be];cases h0:ltB k 0 with
  |true=>rfl|false=>
   cases h1:geB k (n:Nat)with
   |true=>(cases eqB x.Level 1<;>cases geB k (br x.Next)<;>cases gtB x.Level 1<;>rfl)|false=>obtain⟨y,hy,hl⟩:=low_get (x:=x) hn h0 h1;rw[hy,hl];simp only[be];cases eqB x.Level 1<;>cases geB k (br x.Next)<;>cases gtB x.Level 1<;>cases neB y.Level (bZ .i64 x.Level 1)<;>rfl
 ·unfold lJ;dsimp only;rw[<- hl,bD,decide_eq_false (Nat.lt_irrefl _)];rfl
theorem outer_eq (hs:Sz t):bv (kx t) bL 0=some (bif iD (badN t) t.Nodes 0 then .inl false else .inr ()):=by refine hZ t.Nodes (badN t) false hs.nodes (λi x hx=>?_) ?_;{unfold kx badN;dsimp only;rw[bD,decide_eq_true (cG hx),cond_true,bE,hx,cd (Nat.lt_trans (cG hx) hs.nodes)];simp only[be,inner_eq (cG hx) (hs.next x (List.mem_of_getElem? hx))];cases ltB x.Level 1<;>cases gtB x.Level (br t.Hood)<;>cases neB (br x.Next) t.States<;>cases iD (λ_ k=>badE t (i:Nat) x k) x.Next 0<;>rfl};{unfold kx;dsimp only;rw[bD,decide_eq_false (Nat.lt_irrefl _)];rfl}
theorem outerR_eq (hs:Sz t):bv (lF t) bL 0=some (bif iD (badN t) t.Nodes 0 then .inl false else .inr ()):=by refine hZ t.Nodes (badN t) false hs.nodes (λi x hx=>?_) ?_;{unfold lF badN;dsimp only;rw[bD,decide_eq_true (cG hx),cond_true,bE,hx,cd (Nat.lt_trans (cG hx) hs.nodes)];simp only[be];cases hne:neB (br x.Next) t.States with|true=>(cases ltB x.Level 1<;>cases gtB x.Level (br t.Hood)<;>rfl)|false=>rw[innerR_eq (cG hx) (hs.next x (List.mem_of_getElem? hx)) (by simpa [neB] using hne)];cases ltB x.Level 1<;>cases gtB x.Level (br t.Hood)<;>cases iD (λ_ k=>badE t (i:Nat) x k) x.Next 0<;>rfl};{unfold lF;dsimp only;rw[bD,decide_eq_false (Nat.lt_irrefl _)];rfl}
theorem root_get (hs:Sz t) (h:ltB (br t.Nodes) 1=false):∃x,idx t.Nodes (bZ .i64 (br t.Nodes) 1)=some x/\rootOk t=eqB x.Level (br t.Hood):=by
 have h3:0<t.Nodes.length:=by have:=of_decide_eq_false h;unfold br at this;omega
 have h2:=hs.nodes;obtain⟨m,hm⟩:∃m,t.Nodes.length=m+1:=⟨t.Nodes.length-1,by omega⟩
 have hlt:m<t.Nodes.length:=by omega
 refine⟨t.Nodes[m],?_,?_⟩;{unfold br;rw[hm,dn_nat (by omega),bE];exact List.getElem?_eq_getElem hlt};{unfold rootOk;rw[show t.Nodes.length-1=m by omega,List.getElem?_eq_getElem hlt]}
theorem neB_eqB (a b:Int):neB a b=!eqB a b:=rfl
theorem tree_eq (hs:Sz t):ir t=some (iw t):=by
 unfold ir iw;rw[outer_eq hs,hood_eq hs.hood];simp only[be];cases hl:ltB (br t.Nodes) 1 with
 |true=>(cases ltB t.States 2<;>cases gtB t.States 8<;>cases jc t.Hood<;>rfl)|false=>obtain⟨x,hx,hr⟩:=root_get hs hl;rw[hx,hr];simp only[be,neB_eqB];cases ltB t.States 2<;>cases gtB t.States 8<;>cases jc t.Hood<;>cases gtB (br t.Nodes) 4096<;>cases eqB x.Level (br t.Hood)<;>cases iD (badN t) t.Nodes 0<;>rfl
theorem treeR_eq (hs:Sz t):jt t=some (iw t):=by
 unfold jt iw;rw[outerR_eq hs,hoodR_eq hs.hood];simp only[be];cases hl:ltB (br t.Nodes) 1 with
 |true=>(cases ltB t.States 2<;>cases gtB t.States 8<;>cases jc t.Hood<;>rfl)|false=>obtain⟨x,hx,hr⟩:=root_get hs hl;rw[hx,hr];simp only[be];cases ltB t.States 2<;>cases gtB t.States 8<;>cases jc t.Hood<;>cases gtB (br t.Nodes) 4096<;>cases eqB x.Level (br t.Hood)<;>cases iD (badN t) t.Nodes 0<;>rfl
end
def lz (t:Tree):A0->Int->AB|[],k=>some k|s::l,k=>(idx t.Nodes k).bind λx=>(idx x.Next s).bind λk'=>lz t l k'
theorem run_walk (t:Tree):∀(l:A0) (i:Nat) (k:Int),runL (λ_ s k=>(idx t.Nodes k).bind λx=>(idx x.Next s).bind λk'=>some (.next k')) (λk=>some k) l i k=lz t l k
 |[],_,_=>rfl|s::l,i,k=>by
  rw[runL,lz];cases idx t.Nodes k with
  |none=>rfl|some x=>
   simp only[be];cases idx x.Next s with
   |none=>rfl|some k'=>exact run_walk t l (i+1) k'
theorem valueR_eq {t:Tree} {l:A0} (hl:l.length<1099511627776):oW t l=lz t l (bZ .i64 (br t.Nodes) 1):=by
 unfold oW;have h:=loop_run (b:=lH t l) (λi (k:Int)=>(k,(i:Int))) l (λ_ s k=>(idx t.Nodes k).bind λx=>(idx x.Next s).bind λk'=>some (.next k')) (λk=>some k) hl (λi x k hx=>by
   unfold lH;dsimp only;rw[bD,decide_eq_true (cG hx),cond_true,bE,hx,cd (Nat.lt_trans (cG hx) hl)];simp only[be];cases idx t.Nodes k with
   |none=>rfl|some y=>
    simp only[be];cases idx y.Next x<;>rfl)
  (λk=>by unfold lH;dsimp only;rw[bD,decide_eq_false (Nat.lt_irrefl _)];rfl) (bZ .i64 (br t.Nodes) 1)
 rw[show ((0:Nat):Int)=0 from rfl] at h;rw[h,run_walk];cases lz t l (bZ .i64 (br t.Nodes) 1)<;>rfl
structure Ok (t:Tree):Prop where
 s2:2<=t.States
 s8:t.States<=8
 hood:jc t.Hood=true
 h1:1<=t.Hood.length
 h25:t.Hood.length<=25
 n1:1<=t.Nodes.length
 bad:iD (badN t) t.Nodes 0=false
 root:rootOk t=true
theorem ok_of {t:Tree} (h:iw t=true):Ok t:=by unfold iw at h;simp only[Bool.and_eq_true,Bool.not_eq_true',Bool.or_eq_false_iff,Bool.not_eq_false'] at h;obtain⟨⟨h1,h2,h3,h4,h5⟩,h6,h7⟩:=h;have h3':=h3;unfold jc at h3';simp only[Bool.and_eq_true,Bool.not_eq_true',Bool.or_eq_false_iff] at h3';have e1:=of_decide_eq_false h1;have e2:=of_decide_eq_false h2;have e3:=of_decide_eq_false h3'.1.1;have e4:=of_decide_eq_false h3'.1.2;have e5:=of_decide_eq_false h4;unfold br at e3 e4 e5;exact⟨by omega,by omega,h3,by omega,by omega,by omega,h6,h7⟩
theorem Ok.node {t:Tree} (h:Ok t) {n:Nat} {x:Node} (hx:t.Nodes[n]?=some x):1<=x.Level/\x.Level<=t.Hood.length/\(x.Next.length:Int)=t.States/\∀(j:Nat) (k:Int),x.Next[j]?=some k->badE t (n:Nat) x k=false:=by
 have hb:=gp h.bad n x hx;rw[Nat.zero_add] at hb;unfold badN at hb;simp only[Bool.or_eq_false_iff] at hb;obtain⟨h1,h2,h3,h4⟩:=hb;have e1:=of_decide_eq_false h1;have e2:=of_decide_eq_false h2;have e3:br x.Next=t.States:=by simpa [neB] using h3
 unfold br at e2 e3;exact⟨by omega,by omega,e3,λj k hk=>by simpa using gp h4 j k hk⟩
theorem Ok.elem {t:Tree} (h:Ok t) {n:Nat} {x:Node} (hx:t.Nodes[n]?=some x) {j:Nat} {k:Int} (hk:x.Next[j]?=some k):0<=k/\(x.Level=1->k<t.States)/\(x.Level≠1->∃(m:Nat) (y:Node),k=m/\m<n/\t.Nodes[m]?=some y/\y.Level=x.Level-1):=by
 obtain⟨h1,h2,h3,h4⟩:=h.node hx;have hb:=h4 j k hk;unfold badE at hb;simp only[Bool.or_eq_false_iff,Bool.and_eq_false_imp] at hb;obtain⟨e1,e2,e3⟩:=hb;have f1:=of_decide_eq_false e1;refine⟨by omega,λhl=>?_,λhl=>?_⟩;{have:=e2 (by simp[eqB,hl]);have:=of_decide_eq_false this;omega}
 ·have hg:=e3 (by simp only[gtB,decide_eq_true_eq];omega);have f2:=of_decide_eq_false hg.1;have hlt:k.toNat<t.Nodes.length:=by have:=cG hx;omega
  have hlo:=hg.2;unfold lowOk at hlo;rw[List.getElem?_eq_getElem hlt] at hlo;refine⟨k.toNat,_,by omega,by omega,List.getElem?_eq_getElem hlt,?_⟩;have h25:=h.h25;rw[jq (by omega)] at hlo;simpa [neB] using hlo
theorem Ok.zero {t:Tree} (h:Ok t) {n:Nat} {x:Node} (hx:t.Nodes[n]?=some x) {s:Int} (h0:0<=s) (h1:s<t.States):∃k,idx x.Next s=some k/\x.Next[s.toNat]?=some k:=by
 obtain⟨_,_,h3,_⟩:=h.node hx;have hlt:s.toNat<x.Next.length:=by omega
 exact⟨_,by rw[fE _ h0];exact List.getElem?_eq_getElem hlt,List.getElem?_eq_getElem hlt⟩
theorem walk_total {t:Tree} (h:Ok t):∀(l:A0) (n:Nat) (x:Node),t.Nodes[n]?=some x->x.Level=l.length->(∀s∈l,0<=s/\s<t.States)->∃v,lz t l (n:Nat)=some v/\0<=v/\v<t.States
 |[],n,x,hx,hl,_=>by have:=(h.node hx).1;simp at hl;omega|s::l,n,x,hx,hl,hs=>by
  obtain⟨h0,h1⟩:=hs s (by simp);obtain⟨k,hk,hk'⟩:=h.zero hx h0 h1;rw[lz,bE,hx];simp only[be,hk];obtain⟨g0,g1,g2⟩:=h.elem hx hk';by_cases hx1:x.Level=1
  ·have:l=[]:=by
    cases l with
    |nil=>rfl|cons _ _=>simp at hl;omega
   subst this;exact⟨k,rfl,g0,g1 hx1⟩
  ·obtain⟨m,y,rfl,hm,hy,hyl⟩:=g2 hx1;exact walk_total h l m y hy (by simp at hl;omega) λs' hs'=>hs s' (by simp[hs'])
theorem value_total {t:Tree} (h:Ok t) (hs:Sz t) {l:A0} (hl:l.length=t.Hood.length) (hb:∀s∈l,0<=s/\s<t.States):∃v,lz t l (bZ .i64 (br t.Nodes) 1)=some v/\0<=v/\v<t.States:=by
 have hr:=h.root;unfold rootOk at hr;have hn:=h.n1;have hns:=hs.nodes;obtain⟨m,hm⟩:∃m,t.Nodes.length=m+1:=⟨t.Nodes.length-1,by omega⟩
 rw[hm,Nat.add_sub_cancel] at hr;have hlt:m<t.Nodes.length:=by omega
 rw[List.getElem?_eq_getElem hlt] at hr;unfold br;rw[hm,dn_nat (by omega)];refine walk_total h l m _ (List.getElem?_eq_getElem hlt) ?_ hb;have:(t.Nodes[m]).Level=br t.Hood:=by simpa [eqB] using hr
 rw[this,hl];rfl
theorem lenL_toNat {I:Type} (l:List I):(br l).toNat=l.length:=by simp[br]
