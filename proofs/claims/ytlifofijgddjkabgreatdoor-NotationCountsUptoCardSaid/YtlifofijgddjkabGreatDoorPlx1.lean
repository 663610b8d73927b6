/- Plain lists and numbers: loops over a list. -/
import Derived.Test.YtlifofijgddjkabGreatDoorMdx1
import Derived.IntWalk
namespace Go.Proofs.YtlifofijgddjkabGreatDoor
open Go.AM Go.Proofs
theorem i64_in {n:Int} (h:-9223372036854775808<=n/\n<=9223372036854775807):IntKind.i64.wrap n=n:=IntWalk.i64_in n h
theorem up_nat {n:Nat} (h:n < 1099511627776):bq .i64 (n:Int) 1=((n+1:Nat):Int):=by
 unfold bq
 rw[i64_in (by omega)]
 omega
theorem dn_nat {n:Nat} (h:n < 1099511627776):aX .i64 ((n+1:Nat):Int) 1=(n:Int):=by
 unfold aX
 rw[i64_in (by omega)]
 omega
theorem iadd_in {a b:Int} (h:-9223372036854775808<=a+b/\a+b<=9223372036854775807):bq .i64 a b=a+b:=i64_in h
theorem isub_in {a b:Int} (h:-9223372036854775808<=a - b/\a - b<=9223372036854775807):aX .i64 a b=a - b:=i64_in h
theorem imul_in {a b:Int} (h:-9223372036854775808<=a*b/\a*b<=9223372036854775807):imul .i64 a b=a*b:=i64_in h
theorem idx_nat {α:Type} (l:List α) (n:Nat):idx l (n:Int)=l[n]?:=by simp[idx]
theorem idx_int {α:Type} (l:List α) {i:Int} (h:0<=i):idx l i=l[i.toNat]?:=by simp[idx,h]
theorem ltB_nat {α:Type} (n:Nat) (l:List α):ltB (n:Int) (aO l)=decide (n < l.length):=by simp[ltB,aO]
theorem bif_some {α:Type} (c:Bool) (a b:α):(bif c then some a else some b)=some (bif c then a else b):=by cases c<;>rfl
theorem bif_some_t (c:Bool) (b:Bool):(bif c then true else b)=(c || b):=by cases c<;>rfl
theorem some_bind {α β:Type} (a:α) (f:α->Option β):(some a).bind f=f a:=rfl
def anyB {α:Type} (bad:Nat->α->Bool):List α->Nat->Bool
 | [],_=>false
 | x::l,i=>bad i x || anyB bad l (i+1)
theorem loop_any_aux {α β:Type} {b:Int->Option (Lp Int (β ⊕ Unit))} (l:List α) (bad:Nat->α->Bool) (r:β)
  (hs:∀ (i:Nat) (x:α),l[i]?=some x->b i=some (bif bad i x then .out (.inl r) else .next ((i+1:Nat):Int)))
  (he:b (l.length:Nat)=some (.out (.inr ()))):∀ (m:List α) (i n:Nat),l.drop i=m->i+m.length=l.length->m.length < n->aT b n (i:Nat)=some (bif anyB bad m i then .inl r else .inr ())
 | [],i,n,_,hl,hn=>by
  obtain⟨n,rfl⟩:∃ k,n=k+1:=⟨n - 1,by simp at hn; omega⟩
  obtain rfl:i=l.length:=by simpa using hl
  rw[aT,he]
  rfl
 | x::m,i,n,hd,hl,hn=>by
  obtain⟨n,rfl⟩:∃ k,n=k+1:=⟨n - 1,by simp at hn; omega⟩
  have hx:l[i]?=some x:=by
   have:=congrArg (·[0]?) hd
   simpa using this
  rw[aT,hs i x hx,anyB]
  cases hb:bad i x with
  | true=>rfl
  | false =>
   simp only[cond_false,Bool.false_or]
   refine loop_any_aux l bad r hs he m (i+1) n ?_ (by simp at hl; omega) (by simp at hn; omega)
   have:=congrArg (List.drop 1) hd
   simpa using this
theorem loop_any {α β:Type} {b:Int->Option (Lp Int (β ⊕ Unit))} (l:List α) (bad:Nat->α->Bool) (r:β) (hl:l.length < 1099511627776)
  (hs:∀ (i:Nat) (x:α),l[i]?=some x->b i=some (bif bad i x then .out (.inl r) else .next ((i+1:Nat):Int)))
  (he:b (l.length:Nat)=some (.out (.inr ()))):aT b b7 0=some (bif anyB bad l 0 then .inl r else .inr ()) :=
 loop_any_aux l bad r hs he l 0 b7 rfl (by simp) hl
theorem anyB_false {α:Type} {f:Nat->α->Bool}:∀ {l:List α} {i:Nat},anyB f l i=false->∀ (j:Nat) (x:α),l[j]?=some x->f (i+j) x=false
 | [],_,_,j,x,hj=>by simp at hj
 | y::l,i,h,j,x,hj=>by
  rw[anyB,Bool.or_eq_false_iff] at h
  cases j with
  | zero=>simp at hj; subst hj; exact h.1
  | succ j=>have:=anyB_false h.2 j x (by simpa using hj); rwa [show i+1+j=i+(j+1) by omega] at this
theorem anyB_of_false {α:Type} {f:Nat->α->Bool}:∀ {l:List α} {i:Nat},(∀ (j:Nat) (x:α),l[j]?=some x->f (i+j) x=false)->anyB f l i=false
 | [],_,_=>rfl
 | y::l,i,h=>by
  rw[anyB,show f i y=false from h 0 y rfl,Bool.false_or]
  exact anyB_of_false fun j x hj=>by have:=h (j+1) x (by simpa using hj); rwa [show i+(j+1)=i+1+j by omega] at this
def runL {α S T:Type} (f:Nat->α->S->Option (Lp S T)) (fin:S->Option T):List α->Nat->S->Option T
 | [],_,s=>fin s
 | x::l,i,s=>match f i x s with
  | some (.next s')=>runL f fin l (i+1) s'
  | some (.out t)=>some t
  | none=>none
def mapE {S St T:Type} (E:S->St):Option (Lp S T)->Option (Lp St T)
 | some (.next s)=>some (.next (E s))
 | some (.out t)=>some (.out t)
 | none=>none
theorem loop_run_aux {α S St T:Type} {b:St->Option (Lp St T)} (E:Nat->S->St) (l:List α) (f:Nat->α->S->Option (Lp S T)) (fin:S->Option T)
  (hs:∀ (i:Nat) (x:α) (s:S),l[i]?=some x->b (E i s)=mapE (E (i+1)) (f i x s))
  (he:∀ s,b (E l.length s)=(fin s).map .out):∀ (m:List α) (i n:Nat) (s:S),l.drop i=m->i+m.length=l.length->m.length < n->aT b n (E i s)=runL f fin m i s
 | [],i,n,s,_,hl,hn=>by
  obtain⟨n,rfl⟩:∃ k,n=k+1:=⟨n - 1,by simp at hn; omega⟩
  obtain rfl:i=l.length:=by simpa using hl
  rw[aT,he,runL]
  cases fin s<;>rfl
 | x::m,i,n,s,hd,hl,hn=>by
  obtain⟨n,rfl⟩:∃ k,n=k+1:=⟨n - 1,by simp at hn; omega⟩
  have hx:l[i]?=some x:=by
   have:=congrArg (·[0]?) hd
   simpa using this
  rw[aT,hs i x s hx,runL]
  rcases f i x s with _ | (s' | t)
  ·rfl
  ·simp only[mapE]
   refine loop_run_aux E l f fin hs he m (i+1) n s' ?_ (by simp at hl; omega) (by simp at hn; omega)
   have:=congrArg (List.drop 1) hd
   simpa using this
  ·rfl
theorem loop_run {α S St T:Type} {b:St->Option (Lp St T)} (E:Nat->S->St) (l:List α) (f:Nat->α->S->Option (Lp S T)) (fin:S->Option T) (hl:l.length < 1099511627776)
  (hs:∀ (i:Nat) (x:α) (s:S),l[i]?=some x->b (E i s)=mapE (E (i+1)) (f i x s))
  (he:∀ s,b (E l.length s)=(fin s).map .out) (s:S):aT b b7 (E 0 s)=runL f fin l 0 s:=loop_run_aux E l f fin hs he l 0 b7 s rfl (by simp) hl
end Go.Proofs.YtlifofijgddjkabGreatDoor
namespace Go.Proofs.YtlifofijgddjkabGreatDoor
open Go.AM Go.Proofs
theorem cmp_eq (x y:Int):m_cmp_Compare_int x y=some (if x < y then -1 else if x > y then 1 else 0):=by
 simp only[m_cmp_Compare_int,m_cmp_isNaN_int,some_bind,neB,ltB,gtB,bne_self_eq_false,cond_false]
 by_cases h:x < y
 ·simp[h]
 ·by_cases h2:x > y<;>simp[h,h2]
theorem or_eq (a b:Int):m_cmp_Or_int [a,b]=some (if a≠0 then a else b):=by
 unfold m_cmp_Or_int
 have h:=loop_run (b:=b_cmp_Or_int_1 [a,b]) (fun i (_:Unit)=>(i:Int)) [a,b] (fun _ x _=>some (bif neB x 0 then .out (.inl x) else .next ())) (fun _=>some (.inr ())) (by simp)
  (fun i x s hx=>by
   unfold b_cmp_Or_int_1
   dsimp only
   rw[ltB_nat,decide_eq_true (List.getElem?_eq_some_iff.1 hx).1,cond_true,idx_nat,hx,up_nat (Nat.lt_trans (List.getElem?_eq_some_iff.1 hx).1 (by simp))]
   simp only[some_bind]
   cases neB x 0<;>rfl)
  (fun s=>by
   unfold b_cmp_Or_int_1
   dsimp only
   rw[ltB_nat,decide_eq_false (Nat.lt_irrefl _)]
   rfl) ()
 rw[show ((0:Nat):Int)=0 from rfl] at h
 rw[h]
 simp only[runL,neB]
 by_cases ha:a=0
 ·by_cases hb:b=0
  ·simp[ha,hb]
  ·have h1:(b != 0)=true:=by simpa using hb
   simp[ha,h1]
 ·have h1:(a != 0)=true:=by simpa using ha
  simp[ha,h1]
end Go.Proofs.YtlifofijgddjkabGreatDoor
namespace Go.Proofs.YtlifofijgddjkabGreatDoor
open Go.AM Go.Proofs
def befP (a b:Point):Bool:=decide (a.Y < b.Y) || (a.Y == b.Y && decide (a.X < b.X))
theorem comp_eq (a b:Point):∃ c,m_point_Compare a b=some c/\geB c 0=!befP a b:=by
 simp only[m_point_Compare,cmp_eq,some_bind,or_eq]
 refine⟨_,rfl,?_⟩
 unfold befP geB
 by_cases h1:a.Y < b.Y
 ·simp[h1]
 ·by_cases h2:a.Y > b.Y
  ·have:¬ a.Y=b.Y:=by omega
   simp[h1,h2,this]
  ·have h3:a.Y=b.Y:=by omega
   simp only[h3,Int.lt_irrefl,↓reduceIte,gt_iff_lt,ne_eq,not_true_eq_false,decide_false,Bool.false_or]
   by_cases h4:a.X < b.X
   ·simp[h4]
   ·by_cases h5:b.X < a.X<;>simp[h4,h5]
def badP (l:List Point) (i:Nat) (x:Point):Bool :=
 ltB x.X (-2) || (gtB x.X 2 || (ltB x.Y (-2) || (gtB x.Y 2 || match i with
  | 0=>false
  | j+1=>match l[j]? with
   | some y=>!befP y x
   | none=>false)))
def hoodOk (l:List Point):Bool:=!(ltB (aO l) 1 || gtB (aO l) 25) && !anyB (badP l) l 0
theorem getE_lt {α:Type} {l:List α} {i:Nat} {x:α} (h:l[i]?=some x):i < l.length:=(List.getElem?_eq_some_iff.1 h).1
theorem getE_prev {α:Type} {l:List α} {i:Nat} {x:α} (h:l[i+1]?=some x):∃ y,l[i]?=some y:=⟨_,List.getElem?_eq_getElem (Nat.lt_of_succ_lt (getE_lt h))⟩
theorem gtB_zero:gtB ((0:Nat):Int) 0=false:=rfl
theorem gtB_succ (n:Nat):gtB ((n+1:Nat):Int) 0=true:=by simp[gtB]
theorem hood_eq {l:List Point} (hl:l.length < 1099511627776):m_hood_Right l=some (hoodOk l):=by
 unfold m_hood_Right hoodOk
 simp only[bif_some,some_bind,bif_some_t]
 rw[loop_any l (badP l) false hl]
 ·cases (ltB (aO l) 1 || gtB (aO l) 25)<;>cases anyB (badP l) l 0<;>rfl
 ·intro i x hx
  unfold b_hood_Right_1
  dsimp only
  rw[ltB_nat,decide_eq_true (getE_lt hx),cond_true,idx_nat,hx,up_nat (Nat.lt_trans (getE_lt hx) hl)]
  unfold badP
  cases i with
  | zero=>simp only[gtB_zero,cond_false,bif_some,some_bind,bif_some_t]
  | succ j =>
   obtain⟨y,hy⟩:=getE_prev hx
   obtain⟨c,hc,hg⟩:=comp_eq y x
   simp only[gtB_succ,cond_true,dn_nat (Nat.lt_trans (Nat.lt_of_succ_lt (getE_lt hx)) hl),idx_nat,hy,some_bind,hc,hg,bif_some,bif_some_t]
 ·unfold b_hood_Right_1
  dsimp only
  rw[ltB_nat,decide_eq_false (Nat.lt_irrefl _)]
  rfl
end Go.Proofs.YtlifofijgddjkabGreatDoor
namespace Go.Proofs.YtlifofijgddjkabGreatDoor
open Go.AM Go.Proofs
structure Sz (t:Tree):Prop where
 hood:t.Hood.length < 1099511627776
 nodes:t.Nodes.length < 1099511627776
 next:∀ x∈t.Nodes,x.Next.length < 1099511627776
def lowOk (t:Tree) (x:Node) (k:Int):Bool:=match t.Nodes[k.toNat]? with
 | some y=>neB y.Level (aX .i64 x.Level 1)
 | none=>true
def badE (t:Tree) (i:Int) (x:Node) (k:Int):Bool:=ltB k 0 || ((eqB x.Level 1 && geB k t.States) || (gtB x.Level 1 && (geB k i || lowOk t x k)))
def badN (t:Tree) (i:Nat) (x:Node):Bool:=ltB x.Level 1 || (gtB x.Level (aO t.Hood) || (neB (aO x.Next) t.States || anyB (fun _ k=>badE t (i:Nat) x k) x.Next 0))
def rootOk (t:Tree):Bool:=match t.Nodes[t.Nodes.length - 1]? with
 | some x=>eqB x.Level (aO t.Hood)
 | none=>false
def treeOk (t:Tree):Bool:=!(ltB t.States 2 || (gtB t.States 8 || (!hoodOk t.Hood || (ltB (aO t.Nodes) 1 || gtB (aO t.Nodes) 4096)))) && (!anyB (badN t) t.Nodes 0 && rootOk t)
section
variable {t:Tree} {n:Nat} {x:Node}
theorem low_get (hn:n < t.Nodes.length) {k:Int} (h0:ltB k 0=false) (h1:geB k (n:Nat)=false):∃ y,idx t.Nodes k=some y/\lowOk t x k=neB y.Level (aX .i64 x.Level 1):=by
 simp only[ltB,geB,decide_eq_false_iff_not,Int.not_lt,ge_iff_le,Int.not_le] at h0 h1
 have hk:k.toNat < t.Nodes.length:=by omega
 refine⟨t.Nodes[k.toNat],?_,?_⟩
 ·rw[idx_int _ h0]; exact List.getElem?_eq_getElem hk
 ·unfold lowOk
  rw[List.getElem?_eq_getElem hk]
theorem inner_eq (hn:n < t.Nodes.length) (hx:x.Next.length < 1099511627776):aT (b_tree_Right_2 t (n:Nat) x) b7 0=some (bif anyB (fun _ k=>badE t (n:Nat) x k) x.Next 0 then .inl false else .inr ()):=by
 refine loop_any x.Next (fun _ k=>badE t (n:Nat) x k) false hx (fun i k hk=>?_) ?_
 ·unfold b_tree_Right_2 badE
  dsimp only
  rw[ltB_nat,decide_eq_true (getE_lt hk),cond_true,idx_nat,hk,up_nat (Nat.lt_trans (getE_lt hk) hx)]
  simp only[some_bind]
  cases h0:ltB k 0 with
  | true=>rfl
  | false =>
   cases h1:geB k (n:Nat) with
   | true=>cases eqB x.Level 1<;>cases geB k t.States<;>cases gtB x.Level 1<;>rfl
   | false =>
    obtain⟨y,hy,hl⟩:=low_get (x:=x) hn h0 h1
    rw[hy,hl]
    simp only[some_bind]
    cases eqB x.Level 1<;>cases geB k t.States<;>cases gtB x.Level 1<;>cases neB y.Level (aX .i64 x.Level 1)<;>rfl
 ·unfold b_tree_Right_2
  dsimp only
  rw[ltB_nat,decide_eq_false (Nat.lt_irrefl _)]
  rfl
theorem outer_eq (hs:Sz t):aT (b_tree_Right_1 t) b7 0=some (bif anyB (badN t) t.Nodes 0 then .inl false else .inr ()):=by
 refine loop_any t.Nodes (badN t) false hs.nodes (fun i x hx=>?_) ?_
 ·unfold b_tree_Right_1 badN
  dsimp only
  rw[ltB_nat,decide_eq_true (getE_lt hx),cond_true,idx_nat,hx,up_nat (Nat.lt_trans (getE_lt hx) hs.nodes)]
  simp only[some_bind,inner_eq (getE_lt hx) (hs.next x (List.mem_of_getElem? hx))]
  cases ltB x.Level 1<;>cases gtB x.Level (aO t.Hood)<;>cases neB (aO x.Next) t.States<;>cases anyB (fun _ k=>badE t (i:Nat) x k) x.Next 0<;>rfl
 ·unfold b_tree_Right_1
  dsimp only
  rw[ltB_nat,decide_eq_false (Nat.lt_irrefl _)]
  rfl
theorem root_get (hs:Sz t) (h:ltB (aO t.Nodes) 1=false):∃ x,idx t.Nodes (aX .i64 (aO t.Nodes) 1)=some x/\rootOk t=eqB x.Level (aO t.Hood):=by
 have h3:0 < t.Nodes.length:=by
  have:=of_decide_eq_false h
  unfold aO at this
  omega
 have h2:=hs.nodes
 obtain⟨m,hm⟩:∃ m,t.Nodes.length=m+1:=⟨t.Nodes.length - 1,by omega⟩
 have hlt:m < t.Nodes.length:=by omega
 refine⟨t.Nodes[m],?_,?_⟩
 ·unfold aO
  rw[hm,dn_nat (by omega),idx_nat]
  exact List.getElem?_eq_getElem hlt
 ·unfold rootOk
  rw[show t.Nodes.length - 1=m by omega,List.getElem?_eq_getElem hlt]
theorem neB_eqB (a b:Int):neB a b=!eqB a b:=rfl
theorem tree_eq (hs:Sz t):m_tree_Right t=some (treeOk t):=by
 unfold m_tree_Right treeOk
 rw[outer_eq hs,hood_eq hs.hood]
 simp only[some_bind]
 cases hl:ltB (aO t.Nodes) 1 with
 | true=>cases ltB t.States 2<;>cases gtB t.States 8<;>cases hoodOk t.Hood<;>rfl
 | false =>
  obtain⟨x,hx,hr⟩:=root_get hs hl
  rw[hx,hr]
  simp only[some_bind,neB_eqB]
  cases ltB t.States 2<;>cases gtB t.States 8<;>cases hoodOk t.Hood<;>cases gtB (aO t.Nodes) 4096<;>cases eqB x.Level (aO t.Hood)<;>cases anyB (badN t) t.Nodes 0<;>rfl
end
end Go.Proofs.YtlifofijgddjkabGreatDoor
namespace Go.Proofs.YtlifofijgddjkabGreatDoor
open Go.AM Go.Proofs
def walkV (t:Tree):List Int->Int->Option Int
 | [],k=>some k
 | s::l,k=>(idx t.Nodes k).bind fun x=>(idx x.Next s).bind fun k'=>walkV t l k'
theorem run_walk (t:Tree):∀ (l:List Int) (i:Nat) (k:Int),runL (fun _ s k=>(idx t.Nodes k).bind fun x=>(idx x.Next s).bind fun k'=>some (.next k')) (fun k=>some k) l i k=walkV t l k
 | [],_,_=>rfl
 | s::l,i,k=>by
  rw[runL,walkV]
  cases idx t.Nodes k with
  | none=>rfl
  | some x =>
   simp only[some_bind]
   cases idx x.Next s with
   | none=>rfl
   | some k'=>exact run_walk t l (i+1) k'
theorem value_eq {t:Tree} {l:List Int} (hl:l.length < 1099511627776):m_tree_value t l=walkV t l (aX .i64 (aO t.Nodes) 1):=by
 unfold m_tree_value
 have h:=loop_run (b:=b_tree_value_1 t l) (fun i (k:Int)=>(k,(i:Int))) l (fun _ s k=>(idx t.Nodes k).bind fun x=>(idx x.Next s).bind fun k'=>some (.next k')) (fun k=>some k) hl
  (fun i x k hx=>by
   unfold b_tree_value_1
   dsimp only
   rw[ltB_nat,decide_eq_true (getE_lt hx),cond_true,idx_nat,hx,up_nat (Nat.lt_trans (getE_lt hx) hl)]
   simp only[some_bind]
   cases idx t.Nodes k with
   | none=>rfl
   | some y =>
    simp only[some_bind]
    cases idx y.Next x<;>rfl)
  (fun k=>by
   unfold b_tree_value_1
   dsimp only
   rw[ltB_nat,decide_eq_false (Nat.lt_irrefl _)]
   rfl) (aX .i64 (aO t.Nodes) 1)
 rw[show ((0:Nat):Int)=0 from rfl] at h
 rw[h,run_walk]
 cases walkV t l (aX .i64 (aO t.Nodes) 1)<;>rfl
structure Ok (t:Tree):Prop where
 s2:2<=t.States
 s8:t.States<=8
 hood:hoodOk t.Hood=true
 h1:1<=t.Hood.length
 h25:t.Hood.length<=25
 n1:1<=t.Nodes.length
 bad:anyB (badN t) t.Nodes 0=false
 root:rootOk t=true
theorem Ok.node {t:Tree} (h:Ok t) {n:Nat} {x:Node} (hx:t.Nodes[n]?=some x):1<=x.Level/\x.Level<=t.Hood.length/\(x.Next.length:Int)=t.States/\∀ (j:Nat) (k:Int),x.Next[j]?=some k->badE t (n:Nat) x k=false:=by
 have hb:=anyB_false h.bad n x hx
 rw[Nat.zero_add] at hb
 unfold badN at hb
 simp only[Bool.or_eq_false_iff] at hb
 obtain⟨h1,h2,h3,h4⟩:=hb
 have e1:=of_decide_eq_false h1
 have e2:=of_decide_eq_false h2
 have e3:aO x.Next=t.States:=by simpa [neB] using h3
 unfold aO at e2 e3
 exact⟨by omega,by omega,e3,fun j k hk=>by simpa using anyB_false h4 j k hk⟩
theorem Ok.elem {t:Tree} (h:Ok t) {n:Nat} {x:Node} (hx:t.Nodes[n]?=some x) {j:Nat} {k:Int} (hk:x.Next[j]?=some k):0<=k/\(x.Level=1->k < t.States)/\(x.Level≠1->∃ (m:Nat) (y:Node),k=m/\m < n/\t.Nodes[m]?=some y/\y.Level=x.Level - 1):=by
 obtain⟨h1,h2,h3,h4⟩:=h.node hx
 have hb:=h4 j k hk
 unfold badE at hb
 simp only[Bool.or_eq_false_iff,Bool.and_eq_false_imp] at hb
 obtain⟨e1,e2,e3⟩:=hb
 have f1:=of_decide_eq_false e1
 refine⟨by omega,fun hl=>?_,fun hl=>?_⟩
 ·have:=e2 (by simp[eqB,hl])
  have:=of_decide_eq_false this
  omega
 ·have hg:=e3 (by simp only[gtB,decide_eq_true_eq]; omega)
  have f2:=of_decide_eq_false hg.1
  have hlt:k.toNat < t.Nodes.length:=by
   have:=getE_lt hx
   omega
  have hlo:=hg.2
  unfold lowOk at hlo
  rw[List.getElem?_eq_getElem hlt] at hlo
  refine⟨k.toNat,_,by omega,by omega,List.getElem?_eq_getElem hlt,?_⟩
  have h25:=h.h25
  rw[isub_in (by omega)] at hlo
  simpa [neB] using hlo
theorem Ok.zero {t:Tree} (h:Ok t) {n:Nat} {x:Node} (hx:t.Nodes[n]?=some x) {s:Int} (h0:0<=s) (h1:s < t.States):∃ k,idx x.Next s=some k/\x.Next[s.toNat]?=some k:=by
 obtain⟨_,_,h3,_⟩:=h.node hx
 have hlt:s.toNat < x.Next.length:=by omega
 exact⟨_,by rw[idx_int _ h0]; exact List.getElem?_eq_getElem hlt,List.getElem?_eq_getElem hlt⟩
theorem lenL_toNat {α:Type} (l:List α):(aO l).toNat=l.length:=by simp[aO]
end Go.Proofs.YtlifofijgddjkabGreatDoor
