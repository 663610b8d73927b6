/- Plain lists and numbers: loops over a list. -/
import Derived.Test.YtjlckgeecihpbaaGreatDoorMdx1
import Derived.IntWalk
namespace Go.Proofs.YtjlckgeecihpbaaGreatDoor
open Go.AM Go.Proofs
theorem i64_in {n:Int} (h:-9223372036854775808<=n/\n<=9223372036854775807):IntKind.i64.wrap n=n:=IntWalk.i64_in n h
theorem bJ {n:Nat} (h:n < 1099511627776):bo .i64 (n:Int) 1=((n+1:Nat):Int):=by
 unfold bo
 rw[i64_in (by omega)]
 omega
theorem oN {n:Nat} (h:n < 1099511627776):bL .i64 ((n+1:Nat):Int) 1=(n:Int):=by
 unfold bL
 rw[i64_in (by omega)]
 omega
theorem cw {a b:Int} (h:-9223372036854775808<=a+b/\a+b<=9223372036854775807):bo .i64 a b=a+b:=i64_in h
theorem fN {a b:Int} (h:-9223372036854775808<=a - b/\a - b<=9223372036854775807):bL .i64 a b=a - b:=i64_in h
theorem jm {a b:Int} (h:-9223372036854775808<=a*b/\a*b<=9223372036854775807):ck .i64 a b=a*b:=i64_in h
theorem bl {α:Type} (l:List α) (n:Nat):idx l (n:Int)=l[n]?:=by simp[idx]
theorem gx {α:Type} (l:List α) {i:Int} (h:0<=i):idx l i=l[i.toNat]?:=by simp[idx,h]
theorem bh {α:Type} (n:Nat) (l:List α):ltB (n:Int) (b8 l)=decide (n < l.length):=by simp[ltB,b8]
theorem cR {α:Type} (c:Bool) (a b:α):(bif c then some a else some b)=some (bif c then a else b):=by cases c<;>rfl
theorem cZ (c:Bool) (b:Bool):(bif c then true else b)=(c || b):=by cases c<;>rfl
theorem lS (c:Bool) (b:Bool):(bif c then b else false)=(c && b):=by cases c<;>rfl
theorem aX {α β:Type} (a:α) (f:α->Option β):(some a).bind f=f a:=rfl
def fR {α:Type} (bad:Nat->α->Bool):List α->Nat->Bool
 | [],_=>false
 | x::l,i=>bad i x || fR bad l (i+1)
theorem loop_any_aux {α β:Type} {b:Int->Option (Lp Int (β ⊕ Unit))} (l:List α) (bad:Nat->α->Bool) (r:β)
  (hs:∀ (i:Nat) (x:α),l[i]?=some x->b i=some (bif bad i x then .out (.inl r) else .next ((i+1:Nat):Int)))
  (he:b (l.length:Nat)=some (.out (.inr ()))):∀ (m:List α) (i n:Nat),l.drop i=m->i+m.length=l.length->m.length < n->ba b n (i:Nat)=some (bif fR bad m i then .inl r else .inr ())
 | [],i,n,_,hl,hn=>by
  obtain⟨n,rfl⟩:∃ k,n=k+1:=⟨n - 1,by simp at hn; omega⟩
  obtain rfl:i=l.length:=by simpa using hl
  rw[ba,he]
  rfl
 | x::m,i,n,hd,hl,hn=>by
  obtain⟨n,rfl⟩:∃ k,n=k+1:=⟨n - 1,by simp at hn; omega⟩
  have hx:l[i]?=some x:=by
   have:=congrArg (·[0]?) hd
   simpa using this
  rw[ba,hs i x hx,fR]
  cases hb:bad i x with
  | true=>rfl
  | false =>
   simp only[cond_false,Bool.false_or]
   refine loop_any_aux l bad r hs he m (i+1) n ?_ (by simp at hl; omega) (by simp at hn; omega)
   have:=congrArg (List.drop 1) hd
   simpa using this
theorem gg {α β:Type} {b:Int->Option (Lp Int (β ⊕ Unit))} (l:List α) (bad:Nat->α->Bool) (r:β) (hl:l.length < 1099511627776)
  (hs:∀ (i:Nat) (x:α),l[i]?=some x->b i=some (bif bad i x then .out (.inl r) else .next ((i+1:Nat):Int)))
  (he:b (l.length:Nat)=some (.out (.inr ()))):ba b bp 0=some (bif fR bad l 0 then .inl r else .inr ()) :=
 loop_any_aux l bad r hs he l 0 bp rfl (by simp) hl
theorem fm {α:Type} {f:Nat->α->Bool}:∀ {l:List α} {i:Nat},fR f l i=false->∀ (j:Nat) (x:α),l[j]?=some x->f (i+j) x=false
 | [],_,_,j,x,hj=>by simp at hj
 | y::l,i,h,j,x,hj=>by
  rw[fR,Bool.or_eq_false_iff] at h
  cases j with
  | zero=>simp at hj; subst hj; exact h.1
  | succ j=>have:=fm h.2 j x (by simpa using hj); rwa [show i+1+j=i+(j+1) by omega] at this
theorem k7 {α:Type} {f:Nat->α->Bool}:∀ {l:List α} {i:Nat},(∀ (j:Nat) (x:α),l[j]?=some x->f (i+j) x=false)->fR f l i=false
 | [],_,_=>rfl
 | y::l,i,h=>by
  rw[fR,show f i y=false from h 0 y rfl,Bool.false_or]
  exact k7 fun j x hj=>by have:=h (j+1) x (by simpa using hj); rwa [show i+(j+1)=i+1+j by omega] at this
def l6 {α S T:Type} (f:Nat->α->S->Option (Lp S T)) (fin:S->Option T):List α->Nat->S->Option T
 | [],_,s=>fin s
 | x::l,i,s=>match f i x s with
  | some (.next s')=>l6 f fin l (i+1) s'
  | some (.out t)=>some t
  | none=>none
def mapE {S St T:Type} (E:S->St):Option (Lp S T)->Option (Lp St T)
 | some (.next s)=>some (.next (E s))
 | some (.out t)=>some (.out t)
 | none=>none
theorem loop_run_aux {α S St T:Type} {b:St->Option (Lp St T)} (E:Nat->S->St) (l:List α) (f:Nat->α->S->Option (Lp S T)) (fin:S->Option T)
  (hs:∀ (i:Nat) (x:α) (s:S),l[i]?=some x->b (E i s)=mapE (E (i+1)) (f i x s))
  (he:∀ s,b (E l.length s)=(fin s).map .out):∀ (m:List α) (i n:Nat) (s:S),l.drop i=m->i+m.length=l.length->m.length < n->ba b n (E i s)=l6 f fin m i s
 | [],i,n,s,_,hl,hn=>by
  obtain⟨n,rfl⟩:∃ k,n=k+1:=⟨n - 1,by simp at hn; omega⟩
  obtain rfl:i=l.length:=by simpa using hl
  rw[ba,he,l6]
  cases fin s<;>rfl
 | x::m,i,n,s,hd,hl,hn=>by
  obtain⟨n,rfl⟩:∃ k,n=k+1:=⟨n - 1,by simp at hn; omega⟩
  have hx:l[i]?=some x:=by
   have:=congrArg (·[0]?) hd
   simpa using this
  rw[ba,hs i x s hx,l6]
  rcases f i x s with _ | (s' | t)
  ·rfl
  ·simp only[mapE]
   refine loop_run_aux E l f fin hs he m (i+1) n s' ?_ (by simp at hl; omega) (by simp at hn; omega)
   have:=congrArg (List.drop 1) hd
   simpa using this
  ·rfl
theorem mu {α S St T:Type} {b:St->Option (Lp St T)} (E:Nat->S->St) (l:List α) (f:Nat->α->S->Option (Lp S T)) (fin:S->Option T) (hl:l.length < 1099511627776)
  (hs:∀ (i:Nat) (x:α) (s:S),l[i]?=some x->b (E i s)=mapE (E (i+1)) (f i x s))
  (he:∀ s,b (E l.length s)=(fin s).map .out) (s:S):ba b bp (E 0 s)=l6 f fin l 0 s:=loop_run_aux E l f fin hs he l 0 bp s rfl (by simp) hl
theorem run_any {α T β:Type} (bad:Nat->α->Bool) (r:β):∀ (l:List α) (i:Nat),l6 (fun i x (_:Unit)=>some (bif bad i x then Lp.out (Sum.inl r) else .next ())) (fun _=>some (.inr ())) l i ()=some (bif fR bad l i then (.inl r:β ⊕ Unit) else .inr ())
 | [],_=>rfl
 | x::l,i=>by
  rw[l6,fR]
  cases bad i x with
  | true=>rfl
  | false=>exact run_any (T:=T) bad r l (i+1)
theorem loop_anyE {α β St:Type} {b:St->Option (Lp St (β ⊕ Unit))} (E:Nat->St) (l:List α) (bad:Nat->α->Bool) (r:β) (hl:l.length < 1099511627776)
  (hs:∀ (i:Nat) (x:α),l[i]?=some x->b (E i)=some (bif bad i x then .out (.inl r) else .next (E (i+1))))
  (he:b (E l.length)=some (.out (.inr ()))):ba b bp (E 0)=some (bif fR bad l 0 then .inl r else .inr ()):=by
 have h:=mu (b:=b) (fun i (_:Unit)=>E i) l (fun i x _=>some (bif bad i x then .out (.inl r) else .next ())) (fun _=>some (.inr ())) hl
  (fun i x _ hx=>by
   rw[hs i x hx]
   cases bad i x<;>rfl) (fun _=>he) ()
 exact h.trans (run_any (T:=Unit) bad r l 0)
end Go.Proofs.YtjlckgeecihpbaaGreatDoor
namespace Go.Proofs.YtjlckgeecihpbaaGreatDoor
open Go.AM Go.Proofs
theorem cmp_eq (x y:Int):fg x y=some (if x < y then -1 else if x > y then 1 else 0):=by
 simp only[fg,iW,aX,neB,ltB,gtB,bne_self_eq_false,cond_false]
 by_cases h:x < y
 ·simp[h]
 ·by_cases h2:x > y<;>simp[h,h2]
theorem or_eq (a b:Int):lv [a,b]=some (if a≠0 then a else b):=by
 unfold lv
 have h:=mu (b:=ii [a,b]) (fun i (_:Unit)=>(i:Int)) [a,b] (fun _ x _=>some (bif neB x 0 then .out (.inl x) else .next ())) (fun _=>some (.inr ())) (by simp)
  (fun i x s hx=>by
   unfold ii
   dsimp only
   rw[bh,decide_eq_true (List.getElem?_eq_some_iff.1 hx).1,cond_true,bl,hx,bJ (Nat.lt_trans (List.getElem?_eq_some_iff.1 hx).1 (by simp))]
   simp only[aX]
   cases neB x 0<;>rfl)
  (fun s=>by
   unfold ii
   dsimp only
   rw[bh,decide_eq_false (Nat.lt_irrefl _)]
   rfl) ()
 rw[show ((0:Nat):Int)=0 from rfl] at h
 rw[h]
 simp only[l6,neB]
 by_cases ha:a=0
 ·by_cases hb:b=0
  ·simp[ha,hb]
  ·have h1:(b != 0)=true:=by simpa using hb
   simp[ha,h1]
 ·have h1:(a != 0)=true:=by simpa using ha
  simp[ha,h1]
end Go.Proofs.YtjlckgeecihpbaaGreatDoor
namespace Go.Proofs.YtjlckgeecihpbaaGreatDoor
open Go.AM Go.Proofs
def befP (a b:Point):Bool:=decide (a.Y < b.Y) || (a.Y == b.Y && decide (a.X < b.X))
theorem m_R07_before_eq (a b:Point):lm a b=some (befP a b):=by
 simp only[lm,befP,ltB,eqB,cR,aX,cZ,lS]
theorem comp_eq (a b:Point):∃ c,gI a b=some c/\geB c 0=!befP a b:=by
 simp only[gI,cmp_eq,aX,or_eq]
 refine⟨_,rfl,?_⟩
 unfold befP geB
 by_cases h1:a.Y < b.Y
 ·simp[h1]
 ·by_cases h2:a.Y > b.Y
  ·have:¬ a.Y=b.Y:=by omega
   simp[h1,h2,this]
  ·have h3:a.Y=b.Y:=by omega
   simp only[h3,Int.lt_irrefl,↓reduceIte,gt_iff_lt,ne_eq,not_true_eq_false,decide_false,Bool.false_or]
   by_cases h4:a.X < b.X
   ·simp[h4]
   ·by_cases h5:b.X < a.X<;>simp[h4,h5]
def badP (l:List Point) (i:Nat) (x:Point):Bool :=
 ltB x.X (-2) || (gtB x.X 2 || (ltB x.Y (-2) || (gtB x.Y 2 || match i with
  | 0=>false
  | j+1=>match l[j]? with
   | some y=>!befP y x
   | none=>false)))
def iB (l:List Point):Bool:=!(ltB (b8 l) 1 || gtB (b8 l) 25) && !fR (badP l) l 0
theorem bq {α:Type} {l:List α} {i:Nat} {x:α} (h:l[i]?=some x):i < l.length:=(List.getElem?_eq_some_iff.1 h).1
theorem nh {α:Type} {l:List α} {i:Nat} {x:α} (h:l[i+1]?=some x):∃ y,l[i]?=some y:=⟨_,List.getElem?_eq_getElem (Nat.lt_of_succ_lt (bq h))⟩
theorem gtB_zero:gtB ((0:Nat):Int) 0=false:=rfl
theorem gtB_succ (n:Nat):gtB ((n+1:Nat):Int) 0=true:=by simp[gtB]
theorem hood_eq {l:List Point} (hl:l.length < 1099511627776):jO l=some (iB l):=by
 unfold jO iB
 simp only[cR,aX,cZ]
 rw[gg l (badP l) false hl]
 ·cases (ltB (b8 l) 1 || gtB (b8 l) 25)<;>cases fR (badP l) l 0<;>rfl
 ·intro i x hx
  unfold jE
  dsimp only
  rw[bh,decide_eq_true (bq hx),cond_true,bl,hx,bJ (Nat.lt_trans (bq hx) hl)]
  unfold badP
  cases i with
  | zero=>simp only[gtB_zero,cond_false,cR,aX,cZ]
  | succ j =>
   obtain⟨y,hy⟩:=nh hx
   obtain⟨c,hc,hg⟩:=comp_eq y x
   simp only[gtB_succ,cond_true,oN (Nat.lt_trans (Nat.lt_of_succ_lt (bq hx)) hl),bl,hy,aX,hc,hg,cR,cZ]
 ·unfold jE
  dsimp only
  rw[bh,decide_eq_false (Nat.lt_irrefl _)]
  rfl
theorem hoodR_eq {l:List Point} (hl:l.length < 1099511627776):mq l=some (iB l):=by
 unfold mq iB
 simp only[cR,aX,cZ]
 rw[gg l (badP l) false hl]
 ·cases (ltB (b8 l) 1 || gtB (b8 l) 25)<;>cases fR (badP l) l 0<;>rfl
 ·intro i x hx
  unfold jZ
  dsimp only
  rw[bh,decide_eq_true (bq hx),cond_true,bl,hx,bJ (Nat.lt_trans (bq hx) hl)]
  unfold badP
  cases i with
  | zero=>simp only[gtB_zero,cond_false,cR,aX,cZ]
  | succ j =>
   obtain⟨y,hy⟩:=nh hx
   simp only[gtB_succ,cond_true,oN (Nat.lt_trans (Nat.lt_of_succ_lt (bq hx)) hl),bl,hy,aX,m_R07_before_eq,cy,cR,cZ]
 ·unfold jZ
  dsimp only
  rw[bh,decide_eq_false (Nat.lt_irrefl _)]
  rfl
end Go.Proofs.YtjlckgeecihpbaaGreatDoor
namespace Go.Proofs.YtjlckgeecihpbaaGreatDoor
open Go.AM Go.Proofs
structure Sz (t:Tree):Prop where
 hood:t.Hood.length < 1099511627776
 nodes:t.Nodes.length < 1099511627776
 next:∀ x∈t.Nodes,x.Next.length < 1099511627776
def lowOk (t:Tree) (x:Node) (k:Int):Bool:=match t.Nodes[k.toNat]? with
 | some y=>neB y.Level (bL .i64 x.Level 1)
 | none=>true
def badE (t:Tree) (i:Int) (x:Node) (k:Int):Bool:=ltB k 0 || ((eqB x.Level 1 && geB k t.States) || (gtB x.Level 1 && (geB k i || lowOk t x k)))
def badN (t:Tree) (i:Nat) (x:Node):Bool:=ltB x.Level 1 || (gtB x.Level (b8 t.Hood) || (neB (b8 x.Next) t.States || fR (fun _ k=>badE t (i:Nat) x k) x.Next 0))
def rootOk (t:Tree):Bool:=match t.Nodes[t.Nodes.length - 1]? with
 | some x=>eqB x.Level (b8 t.Hood)
 | none=>false
def gF (t:Tree):Bool:=!(ltB t.States 2 || (gtB t.States 8 || (!iB t.Hood || (ltB (b8 t.Nodes) 1 || gtB (b8 t.Nodes) 4096)))) && (!fR (badN t) t.Nodes 0 && rootOk t)
section
variable {t:Tree} {n:Nat} {x:Node}
theorem low_get (hn:n < t.Nodes.length) {k:Int} (h0:ltB k 0=false) (h1:geB k (n:Nat)=false):∃ y,idx t.Nodes k=some y/\lowOk t x k=neB y.Level (bL .i64 x.Level 1):=by
 simp only[ltB,geB,decide_eq_false_iff_not,Int.not_lt,ge_iff_le,Int.not_le] at h0 h1
 have hk:k.toNat < t.Nodes.length:=by omega
 refine⟨t.Nodes[k.toNat],?_,?_⟩
 ·rw[gx _ h0]; exact List.getElem?_eq_getElem hk
 ·unfold lowOk
  rw[List.getElem?_eq_getElem hk]
theorem inner_eq (hn:n < t.Nodes.length) (hx:x.Next.length < 1099511627776):ba (ik t (n:Nat) x) bp 0=some (bif fR (fun _ k=>badE t (n:Nat) x k) x.Next 0 then .inl false else .inr ()):=by
 refine gg x.Next (fun _ k=>badE t (n:Nat) x k) false hx (fun i k hk=>?_) ?_
 ·unfold ik badE
  dsimp only
  rw[bh,decide_eq_true (bq hk),cond_true,bl,hk,bJ (Nat.lt_trans (bq hk) hx)]
  simp only[aX]
  cases h0:ltB k 0 with
  | true=>rfl
  | false =>
   cases h1:geB k (n:Nat) with
   | true=>cases eqB x.Level 1<;>cases geB k t.States<;>cases gtB x.Level 1<;>rfl
   | false =>
    obtain⟨y,hy,hl⟩:=low_get (x:=x) hn h0 h1
    rw[hy,hl]
    simp only[aX]
    cases eqB x.Level 1<;>cases geB k t.States<;>cases gtB x.Level 1<;>cases neB y.Level (bL .i64 x.Level 1)<;>rfl
 ·unfold ik
  dsimp only
  rw[bh,decide_eq_false (Nat.lt_irrefl _)]
  rfl
theorem innerR_eq (hn:n < t.Nodes.length) (hx:x.Next.length < 1099511627776) (hl:b8 x.Next=t.States):ba (jg t (n:Nat) x) bp 0=some (bif fR (fun _ k=>badE t (n:Nat) x k) x.Next 0 then .inl false else .inr ()):=by
 refine gg x.Next (fun _ k=>badE t (n:Nat) x k) false hx (fun i k hk=>?_) ?_
 ·unfold jg badE
  dsimp only
  rw[<- hl,bh,decide_eq_true (bq hk),cond_true,bl,hk,bJ (Nat.lt_trans (bq hk) hx)]
  simp only[aX]
  cases h0:ltB k 0 with
  | true=>rfl
  | false =>
   cases h1:geB k (n:Nat) with
   | true=>cases eqB x.Level 1<;>cases geB k (b8 x.Next)<;>cases gtB x.Level 1<;>rfl
   | false =>
    obtain⟨y,hy,hl⟩:=low_get (x:=x) hn h0 h1
    rw[hy,hl]
    simp only[aX]
    cases eqB x.Level 1<;>cases geB k (b8 x.Next)<;>cases gtB x.Level 1<;>cases neB y.Level (bL .i64 x.Level 1)<;>rfl
 ·unfold jg
  dsimp only
  rw[<- hl,bh,decide_eq_false (Nat.lt_irrefl _)]
  rfl
theorem outer_eq (hs:Sz t):ba (ib t) bp 0=some (bif fR (badN t) t.Nodes 0 then .inl false else .inr ()):=by
 refine gg t.Nodes (badN t) false hs.nodes (fun i x hx=>?_) ?_
 ·unfold ib badN
  dsimp only
  rw[bh,decide_eq_true (bq hx),cond_true,bl,hx,bJ (Nat.lt_trans (bq hx) hs.nodes)]
  simp only[aX,inner_eq (bq hx) (hs.next x (List.mem_of_getElem? hx))]
  cases ltB x.Level 1<;>cases gtB x.Level (b8 t.Hood)<;>cases neB (b8 x.Next) t.States<;>cases fR (fun _ k=>badE t (i:Nat) x k) x.Next 0<;>rfl
 ·unfold ib
  dsimp only
  rw[bh,decide_eq_false (Nat.lt_irrefl _)]
  rfl
theorem outerR_eq (hs:Sz t):ba (jh t) bp 0=some (bif fR (badN t) t.Nodes 0 then .inl false else .inr ()):=by
 refine gg t.Nodes (badN t) false hs.nodes (fun i x hx=>?_) ?_
 ·unfold jh badN
  dsimp only
  rw[bh,decide_eq_true (bq hx),cond_true,bl,hx,bJ (Nat.lt_trans (bq hx) hs.nodes)]
  simp only[aX]
  cases hne:neB (b8 x.Next) t.States with
  | true=>cases ltB x.Level 1<;>cases gtB x.Level (b8 t.Hood)<;>rfl
  | false =>
   rw[innerR_eq (bq hx) (hs.next x (List.mem_of_getElem? hx)) (by simpa [neB] using hne)]
   cases ltB x.Level 1<;>cases gtB x.Level (b8 t.Hood)<;>cases fR (fun _ k=>badE t (i:Nat) x k) x.Next 0<;>rfl
 ·unfold jh
  dsimp only
  rw[bh,decide_eq_false (Nat.lt_irrefl _)]
  rfl
theorem root_get (hs:Sz t) (h:ltB (b8 t.Nodes) 1=false):∃ x,idx t.Nodes (bL .i64 (b8 t.Nodes) 1)=some x/\rootOk t=eqB x.Level (b8 t.Hood):=by
 have h3:0 < t.Nodes.length:=by
  have:=of_decide_eq_false h
  unfold b8 at this
  omega
 have h2:=hs.nodes
 obtain⟨m,hm⟩:∃ m,t.Nodes.length=m+1:=⟨t.Nodes.length - 1,by omega⟩
 have hlt:m < t.Nodes.length:=by omega
 refine⟨t.Nodes[m],?_,?_⟩
 ·unfold b8
  rw[hm,oN (by omega),bl]
  exact List.getElem?_eq_getElem hlt
 ·unfold rootOk
  rw[show t.Nodes.length - 1=m by omega,List.getElem?_eq_getElem hlt]
theorem neB_eqB (a b:Int):neB a b=!eqB a b:=rfl
theorem tree_eq (hs:Sz t):gO t=some (gF t):=by
 unfold gO gF
 rw[outer_eq hs,hood_eq hs.hood]
 simp only[aX]
 cases hl:ltB (b8 t.Nodes) 1 with
 | true=>cases ltB t.States 2<;>cases gtB t.States 8<;>cases iB t.Hood<;>rfl
 | false =>
  obtain⟨x,hx,hr⟩:=root_get hs hl
  rw[hx,hr]
  simp only[aX,neB_eqB]
  cases ltB t.States 2<;>cases gtB t.States 8<;>cases iB t.Hood<;>cases gtB (b8 t.Nodes) 4096<;>cases eqB x.Level (b8 t.Hood)<;>cases fR (badN t) t.Nodes 0<;>rfl
theorem treeR_eq (hs:Sz t):kT t=some (gF t):=by
 unfold kT gF
 rw[outerR_eq hs,hoodR_eq hs.hood]
 simp only[aX]
 cases hl:ltB (b8 t.Nodes) 1 with
 | true=>cases ltB t.States 2<;>cases gtB t.States 8<;>cases iB t.Hood<;>rfl
 | false =>
  obtain⟨x,hx,hr⟩:=root_get hs hl
  rw[hx,hr]
  simp only[aX]
  cases ltB t.States 2<;>cases gtB t.States 8<;>cases iB t.Hood<;>cases gtB (b8 t.Nodes) 4096<;>cases eqB x.Level (b8 t.Hood)<;>cases fR (badN t) t.Nodes 0<;>rfl
end
end Go.Proofs.YtjlckgeecihpbaaGreatDoor
namespace Go.Proofs.YtjlckgeecihpbaaGreatDoor
open Go.AM Go.Proofs
def fE (t:Tree):List Int->Int->Option Int
 | [],k=>some k
 | s::l,k=>(idx t.Nodes k).bind fun x=>(idx x.Next s).bind fun k'=>fE t l k'
theorem run_walk (t:Tree):∀ (l:List Int) (i:Nat) (k:Int),l6 (fun _ s k=>(idx t.Nodes k).bind fun x=>(idx x.Next s).bind fun k'=>some (.next k')) (fun k=>some k) l i k=fE t l k
 | [],_,_=>rfl
 | s::l,i,k=>by
  rw[l6,fE]
  cases idx t.Nodes k with
  | none=>rfl
  | some x =>
   simp only[aX]
   cases idx x.Next s with
   | none=>rfl
   | some k'=>exact run_walk t l (i+1) k'
theorem value_eq {t:Tree} {l:List Int} (hl:l.length < 1099511627776):lg t l=fE t l (bL .i64 (b8 t.Nodes) 1):=by
 unfold lg
 have h:=mu (b:=iy t l) (fun i (k:Int)=>(k,(i:Int))) l (fun _ s k=>(idx t.Nodes k).bind fun x=>(idx x.Next s).bind fun k'=>some (.next k')) (fun k=>some k) hl
  (fun i x k hx=>by
   unfold iy
   dsimp only
   rw[bh,decide_eq_true (bq hx),cond_true,bl,hx,bJ (Nat.lt_trans (bq hx) hl)]
   simp only[aX]
   cases idx t.Nodes k with
   | none=>rfl
   | some y =>
    simp only[aX]
    cases idx y.Next x<;>rfl)
  (fun k=>by
   unfold iy
   dsimp only
   rw[bh,decide_eq_false (Nat.lt_irrefl _)]
   rfl) (bL .i64 (b8 t.Nodes) 1)
 rw[show ((0:Nat):Int)=0 from rfl] at h
 rw[h,run_walk]
 cases fE t l (bL .i64 (b8 t.Nodes) 1)<;>rfl
theorem valueR_eq {t:Tree} {l:List Int} (hl:l.length < 1099511627776):kP t l=fE t l (bL .i64 (b8 t.Nodes) 1):=by
 unfold kP
 have h:=mu (b:=je t l) (fun i (k:Int)=>(k,(i:Int))) l (fun _ s k=>(idx t.Nodes k).bind fun x=>(idx x.Next s).bind fun k'=>some (.next k')) (fun k=>some k) hl
  (fun i x k hx=>by
   unfold je
   dsimp only
   rw[bh,decide_eq_true (bq hx),cond_true,bl,hx,bJ (Nat.lt_trans (bq hx) hl)]
   simp only[aX]
   cases idx t.Nodes k with
   | none=>rfl
   | some y =>
    simp only[aX]
    cases idx y.Next x<;>rfl)
  (fun k=>by
   unfold je
   dsimp only
   rw[bh,decide_eq_false (Nat.lt_irrefl _)]
   rfl) (bL .i64 (b8 t.Nodes) 1)
 rw[show ((0:Nat):Int)=0 from rfl] at h
 rw[h,run_walk]
 cases fE t l (bL .i64 (b8 t.Nodes) 1)<;>rfl
structure Ok (t:Tree):Prop where
 s2:2<=t.States
 s8:t.States<=8
 hood:iB t.Hood=true
 h1:1<=t.Hood.length
 h25:t.Hood.length<=25
 n1:1<=t.Nodes.length
 bad:fR (badN t) t.Nodes 0=false
 root:rootOk t=true
theorem ok_of {t:Tree} (h:gF t=true):Ok t:=by
 unfold gF at h
 simp only[Bool.and_eq_true,Bool.not_eq_true',Bool.or_eq_false_iff,Bool.not_eq_false'] at h
 obtain⟨⟨h1,h2,h3,h4,h5⟩,h6,h7⟩:=h
 have h3':=h3
 unfold iB at h3'
 simp only[Bool.and_eq_true,Bool.not_eq_true',Bool.or_eq_false_iff] at h3'
 have e1:=of_decide_eq_false h1
 have e2:=of_decide_eq_false h2
 have e3:=of_decide_eq_false h3'.1.1
 have e4:=of_decide_eq_false h3'.1.2
 have e5:=of_decide_eq_false h4
 unfold b8 at e3 e4 e5
 exact⟨by omega,by omega,h3,by omega,by omega,by omega,h6,h7⟩
theorem Ok.node {t:Tree} (h:Ok t) {n:Nat} {x:Node} (hx:t.Nodes[n]?=some x):1<=x.Level/\x.Level<=t.Hood.length/\(x.Next.length:Int)=t.States/\∀ (j:Nat) (k:Int),x.Next[j]?=some k->badE t (n:Nat) x k=false:=by
 have hb:=fm h.bad n x hx
 rw[Nat.zero_add] at hb
 unfold badN at hb
 simp only[Bool.or_eq_false_iff] at hb
 obtain⟨h1,h2,h3,h4⟩:=hb
 have e1:=of_decide_eq_false h1
 have e2:=of_decide_eq_false h2
 have e3:b8 x.Next=t.States:=by simpa [neB] using h3
 unfold b8 at e2 e3
 exact⟨by omega,by omega,e3,fun j k hk=>by simpa using fm h4 j k hk⟩
theorem Ok.elem {t:Tree} (h:Ok t) {n:Nat} {x:Node} (hx:t.Nodes[n]?=some x) {j:Nat} {k:Int} (hk:x.Next[j]?=some k):0<=k/\(x.Level=1->k < t.States)/\(x.Level≠1->∃ (m:Nat) (y:Node),k=m/\m < n/\t.Nodes[m]?=some y/\y.Level=x.Level - 1):=by
 obtain⟨h1,h2,h3,h4⟩:=h.node hx
 have hb:=h4 j k hk
 unfold badE at hb
 simp only[Bool.or_eq_false_iff,Bool.and_eq_false_imp] at hb
 obtain⟨e1,e2,e3⟩:=hb
 have f1:=of_decide_eq_false e1
 refine⟨by omega,fun hl=>?_,fun hl=>?_⟩
 ·have:=e2 (by simp[eqB,hl])
  have:=of_decide_eq_false this
  omega
 ·have hg:=e3 (by simp only[gtB,decide_eq_true_eq]; omega)
  have f2:=of_decide_eq_false hg.1
  have hlt:k.toNat < t.Nodes.length:=by
   have:=bq hx
   omega
  have hlo:=hg.2
  unfold lowOk at hlo
  rw[List.getElem?_eq_getElem hlt] at hlo
  refine⟨k.toNat,_,by omega,by omega,List.getElem?_eq_getElem hlt,?_⟩
  have h25:=h.h25
  rw[fN (by omega)] at hlo
  simpa [neB] using hlo
theorem Ok.zero {t:Tree} (h:Ok t) {n:Nat} {x:Node} (hx:t.Nodes[n]?=some x) {s:Int} (h0:0<=s) (h1:s < t.States):∃ k,idx x.Next s=some k/\x.Next[s.toNat]?=some k:=by
 obtain⟨_,_,h3,_⟩:=h.node hx
 have hlt:s.toNat < x.Next.length:=by omega
 exact⟨_,by rw[gx _ h0]; exact List.getElem?_eq_getElem hlt,List.getElem?_eq_getElem hlt⟩
theorem walk_total {t:Tree} (h:Ok t):∀ (l:List Int) (n:Nat) (x:Node),t.Nodes[n]?=some x->x.Level=l.length->(∀ s∈l,0<=s/\s < t.States)->∃ v,fE t l (n:Nat)=some v/\0<=v/\v < t.States
 | [],n,x,hx,hl,_=>by
  have:=(h.node hx).1
  simp at hl
  omega
 | s::l,n,x,hx,hl,hs=>by
  obtain⟨h0,h1⟩:=hs s (by simp)
  obtain⟨k,hk,hk'⟩:=h.zero hx h0 h1
  rw[fE,bl,hx]
  simp only[aX,hk]
  obtain⟨g0,g1,g2⟩:=h.elem hx hk'
  by_cases hx1:x.Level=1
  ·have:l=[]:=by
    cases l with
    | nil=>rfl
    | cons _ _=>simp at hl; omega
   subst this
   exact⟨k,rfl,g0,g1 hx1⟩
  ·obtain⟨m,y,rfl,hm,hy,hyl⟩:=g2 hx1
   exact walk_total h l m y hy (by simp at hl; omega) fun s' hs'=>hs s' (by simp[hs'])
theorem value_total {t:Tree} (h:Ok t) (hs:Sz t) {l:List Int} (hl:l.length=t.Hood.length) (hb:∀ s∈l,0<=s/\s < t.States):∃ v,fE t l (bL .i64 (b8 t.Nodes) 1)=some v/\0<=v/\v < t.States:=by
 have hr:=h.root
 unfold rootOk at hr
 have hn:=h.n1
 have hns:=hs.nodes
 obtain⟨m,hm⟩:∃ m,t.Nodes.length=m+1:=⟨t.Nodes.length - 1,by omega⟩
 rw[hm,Nat.add_sub_cancel] at hr
 have hlt:m < t.Nodes.length:=by omega
 rw[List.getElem?_eq_getElem hlt] at hr
 unfold b8
 rw[hm,oN (by omega)]
 refine walk_total h l m _ (List.getElem?_eq_getElem hlt) ?_ hb
 have:(t.Nodes[m]).Level=b8 t.Hood:=by simpa [eqB] using hr
 rw[this,hl]
 rfl
def eV (t:Tree):Bool:=gF t && (fE t (List.replicate t.Hood.length 0) (bL .i64 (b8 t.Nodes) 1) == some 0)
theorem mk_hood {t:Tree} (h:Ok t) {α:Type} (z:α):mkL 8 (b8 t.Hood) (b8 t.Hood) z=some (List.replicate t.Hood.length z):=by
 unfold mkL b8
 have:=h.h25
 rw[if_pos (by omega)]
 simp
theorem lenL_toNat {α:Type} (l:List α):(b8 l).toNat=l.length:=by simp[b8]
theorem quiet_eq {t:Tree} (hs:Sz t):lr t=some (eV t):=by
 unfold lr eV
 rw[tree_eq hs]
 simp only[aX]
 cases ht:gF t with
 | false=>rfl
 | true =>
  have h:=ok_of ht
  have h25:=h.h25
  rw[mk_hood h,lenL_toNat,value_eq (by simp; omega)]
  obtain⟨v,hv,_⟩:=value_total h hs (l:=List.replicate t.Hood.length 0) (by simp) (fun s hs=>by
   have:=List.eq_of_mem_replicate hs
   have:=h.s2
   omega)
  rw[hv]
  simp[eqB]
theorem quietR_eq {t:Tree} (hs:Sz t):kN t=some (eV t):=by
 unfold kN eV pP
 rw[treeR_eq hs]
 simp only[aX]
 cases ht:gF t with
 | false=>rfl
 | true =>
  have h:=ok_of ht
  have h25:=h.h25
  have h2:=h.s2
  rw[mk_hood h,lenL_toNat,valueR_eq (by simp; omega)]
  have hz:∀ s∈List.replicate t.Hood.length (0:Int),0<=s/\s < t.States:=fun s hs=>by
   have:=List.eq_of_mem_replicate hs
   omega
  obtain⟨v,hv,_⟩:=value_total h hs (l:=List.replicate t.Hood.length 0) (by simp) hz
  rw[hv]
  have hl:neB (b8 (List.replicate t.Hood.length (0:Int))) (b8 t.Hood)=false:=by simp[neB,b8]
  rw[hl]
  have hlen:(List.replicate t.Hood.length (0:Int)).length < 1099511627776:=by simp; omega
  rw[gg (List.replicate t.Hood.length (0:Int)) (fun _ _=>false) (0,10) hlen (fun i x hx=>by
    have hx0:=hz x (List.mem_of_getElem? hx)
    unfold lH
    dsimp only
    rw[bh,decide_eq_true (bq hx),cond_true,bl,hx,bJ (Nat.lt_trans (bq hx) hlen)]
    have e1:ltB x 0=false:=decide_eq_false (by omega)
    have e2:geB x t.States=false:=decide_eq_false (by omega)
    simp only[aX,e1,e2,cond_false]) (by
    unfold lH
    dsimp only
    rw[bh,decide_eq_false (Nat.lt_irrefl _)]
    rfl)]
  rw[k7 fun _ _ _=>rfl]
  simp[eqB,cy]
end Go.Proofs.YtjlckgeecihpbaaGreatDoor
