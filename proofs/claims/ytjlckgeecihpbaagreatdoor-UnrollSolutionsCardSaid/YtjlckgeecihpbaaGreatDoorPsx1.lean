/- Plain laws: patterns, the checks ahead of a step; loops by an invariant. -/
import Derived.Test.YtjlckgeecihpbaaGreatDoorPlx1
namespace Go.Proofs.YtjlckgeecihpbaaGreatDoor
open Go.AM Go.Proofs
def jj (x y:Int):Bool:=geB x (-1048576) && (leB x 1048576 && (geB y (-1048576) && leB y 1048576))
def jG (a b:Cell):Bool:=befP ⟨a.X,a.Y⟩ ⟨b.X,b.Y⟩
def badC (l:List Cell) (i:Nat) (x:Cell):Bool :=
 !jj x.X x.Y || (ltB x.S 1 || (geB x.S 8 || match i with
  | 0=>false
  | j+1=>match l[j]? with
   | some y=>!jG y x
   | none=>false))
def lO (l:List Cell):Bool:=leB (b8 l) 5000 && !fR (badC l) l 0
theorem oC (a b:Int):(fB a b=a \/ fB a b=b)/\a<=fB a b/\b<=fB a b:=by
 unfold fB
 omega
theorem imin_is (a b:Int):(nB a b=a \/ nB a b=b)/\nB a b<=a/\nB a b<=b:=by
 unfold nB
 omega
theorem gtB_not (a b:Int):gtB a b=!leB a b:=by
 grind [gtB,leB]
theorem placed_eq (p:Point):ij p=some (jj p.X p.Y):=by
 unfold ij jj
 simp only[cR,lS,aX]
 congr 1
 rw[Bool.eq_iff_iff]
 have e1:=oC p.X p.Y
 have e2:=imin_is p.X p.Y
 simp only[leB,geB,Bool.and_eq_true,decide_eq_true_eq]
 omega
theorem placeR_eq (x y:Int):jK x y=some (jj x y):=by
 unfold jK jj
 grind
theorem beforeR_eq (a b:Cell):iE a b=some (jG a b):=by
 simp only[iE,jG,befP,ltB,eqB,cR,aX,cZ,lS]
theorem order_eq (a b:Cell):∃ c,iY a b=some c/\geB c 0=!jG a b:=by
 obtain⟨c,h1,h2⟩:=comp_eq ⟨a.X,a.Y⟩ ⟨b.X,b.Y⟩
 refine⟨c,?_,h2⟩
 simp only[iY,iL,aX,h1]
theorem pat_eq {l:List Cell} (hl:l.length < 1099511627776):eI l=some (lO l):=by
 unfold eI lO
 rw[gg l (badC l) false hl]
 ·grind [gtB_not]
 ·intro i x hx
  unfold f0
  dsimp only
  rw[bh,decide_eq_true (bq hx),cond_true,bl,hx,bJ (Nat.lt_trans (bq hx) hl)]
  simp only[aX,iL,placed_eq,cy]
  unfold badC
  cases i with
  | zero=>simp only[gtB_zero,cond_false,cR,aX,cZ]
  | succ j =>
   obtain⟨y,hy⟩:=nh hx
   obtain⟨c,hc,hg⟩:=order_eq y x
   simp only[gtB_succ,cond_true,oN (Nat.lt_trans (Nat.lt_of_succ_lt (bq hx)) hl),bl,hy,aX,hc,hg,cR,cZ]
 simp[f0,bh]
theorem patR_eq {l:List Cell} (hl:l.length < 1099511627776):jF l=some (lO l):=by
 unfold jF lO
 rw[gg l (badC l) false hl]
 ·grind
 ·intro i x hx
  unfold kj
  dsimp only
  rw[bh,decide_eq_true (bq hx),cond_true,bl,hx,bJ (Nat.lt_trans (bq hx) hl)]
  simp only[aX,placeR_eq,cy]
  unfold badC
  cases i with
  | zero=>simp only[gtB_zero,cond_false,cR,aX,cZ]
  | succ j =>
   obtain⟨y,hy⟩:=nh hx
   simp only[gtB_succ,cond_true,oN (Nat.lt_trans (Nat.lt_of_succ_lt (bq hx)) hl),bl,hy,aX,beforeR_eq,cR,cZ]
 simp[kj,bh]
theorem loop_iv_aux {St T:Type} {b:St->Option (Lp St T)} {n:Nat} (I:Nat->St->Prop) (Q:T->Prop)
  (step:∀ i s,i < n->I i s->(∃ s',b s=some (.next s')/\I (i+1) s') \/ (∃ t,b s=some (.out t)/\Q t)) (fin:∀ s,I n s->∃ t,b s=some (.out t)/\Q t) :
  ∀ (k i:Nat) (s:St),i+k=n->I i s->∀ m,k < m->∃ t,ba b m s=some t/\Q t
 | 0,i,s,hi,h,m,hm=>by
  obtain⟨m,rfl⟩:∃ j,m=j+1:=⟨m - 1,by omega⟩
  obtain rfl:i=n:=by omega
  grind [ba]
 | k+1,i,s,hi,h,m,hm=>by
  obtain⟨m,rfl⟩:∃ j,m=j+1:=⟨m - 1,by omega⟩
  rcases step i s (by omega) h with ⟨s',hs,h'⟩ | ⟨t,ht,hq⟩
  ·obtain⟨t,ht,hq⟩:=loop_iv_aux I Q step fin k (i+1) s' (by omega) h' m (by omega)
   simp_all [ba]
  simp_all [ba]
theorem bX {St T:Type} {b:St->Option (Lp St T)} {n:Nat} (I:Nat->St->Prop) (Q:T->Prop) (hn:n < 1099511627776) {s:St} (h0:I 0 s)
  (step:∀ i s,i < n->I i s->(∃ s',b s=some (.next s')/\I (i+1) s') \/ (∃ t,b s=some (.out t)/\Q t)) (fin:∀ s,I n s->∃ t,b s=some (.out t)/\Q t) :
  ∃ t,ba b bp s=some t/\Q t:=loop_iv_aux I Q step fin n 0 s (by omega) h0 bp hn
structure Pat (p:List Cell):Prop where
 len:p.length<=5000
 cell:∀ c∈p,(-1048576<=c.X/\c.X<=1048576/\-1048576<=c.Y/\c.Y<=1048576)/\1<=c.S/\c.S < 8
 sorted:p.Pairwise fun a b=>jG a b=true
theorem nj (x y:Int):jj x y=true↔-1048576<=x/\x<=1048576/\-1048576<=y/\y<=1048576:=by
 unfold jj geB leB
 simp
theorem lj (a b:Cell):jG a b=true↔a.Y < b.Y \/ (a.Y=b.Y/\a.X < b.X):=by
 unfold jG befP
 simp
theorem befC_trans {a b c:Cell} (h:jG a b=true) (h':jG b c=true):jG a c=true:=by
 rw[lj] at *
 omega
theorem pairwise_adj {α:Type} {r:α->α->Prop} (ht:∀ a b c,r a b->r b c->r a c):∀ l:List α,(∀ (i:Nat) a b,l[i]?=some a->l[i+1]?=some b->r a b)->l.Pairwise r
 | [],_=>List.Pairwise.nil
 | [x],_=>List.pairwise_singleton _ _
 | x::y::l,h=>by
  have ih:=pairwise_adj ht (y::l) fun i a b ha hb=>h (i+1) a b (by simpa using ha) (by simpa using hb)
  have hxy:=h 0 x y rfl rfl
  refine List.pairwise_cons.2 ⟨fun z hz=>?_,ih⟩
  rcases List.mem_cons.1 hz with rfl | hz
  ·exact hxy
  grind [List.pairwise_cons]
theorem pat_of {p:List Cell} (h:lO p=true):Pat p:=by
 unfold lO at h
 simp only[Bool.and_eq_true,Bool.not_eq_true'] at h
 have hl:=of_decide_eq_true h.1
 have hb:=fun j x hx=>fm h.2 j x hx
 unfold b8 at hl
 have hall:∀ (j:Nat) x,p[j]?=some x->(jj x.X x.Y=true/\1<=x.S/\x.S < 8)/\(∀ i,j=i+1->∀ y,p[i]?=some y->jG y x=true):=by
  intro j x hx
  have hj:=hb j x hx
  rw[Nat.zero_add] at hj
  unfold badC at hj
  simp only[Bool.or_eq_false_iff,Bool.not_eq_false'] at hj
  obtain⟨h1,h2,h3,h4⟩:=hj
  have e2:=of_decide_eq_false h2
  have e3:=of_decide_eq_false h3
  grind
 refine⟨by omega,fun c hc=>?_,pairwise_adj (r:=fun a b=>jG a b=true) (fun a b c=>befC_trans) _ fun i a b ha hb'=>(hall (i+1) b hb').2 i rfl a ha⟩
 grind [List.mem_iff_getElem?,nj]
def jY (t:Tree) (p:List Cell):Int:=bif eV t then (bif lO p then (bif fR (fun _ (c:Cell)=>geB c.S t.States) p 0 then 10 else 0) else 2) else 11
theorem top_run (s:Int) (hs:0 < s):∀ (p:List Cell) (i:Nat) (n:Int),∃ v,l6 (fun _ (x:Cell) n=>(some (.next (fB n x.S)):Option (Lp Int Int))) (fun n=>some n) p i n=some v/\geB v s=(geB n s || fR (fun _ (c:Cell)=>geB c.S s) p i)
 | [],i,n=>⟨n,rfl,by simp[fR]⟩
 | x::p,i,n=>by
  obtain⟨v,h1,h2⟩:=top_run s hs p (i+1) (fB n x.S)
  refine⟨v,by rw[l6]; exact h1,?_⟩
  rw[h2,fR,<- Bool.or_assoc]
  congr 1
  rw[Bool.eq_iff_iff]
  simp only[geB,Bool.or_eq_true,decide_eq_true_eq,ge_iff_le]
  have:=oC n x.S
  omega
theorem top_eq (s:Int) (hs:0 < s) {p:List Cell} (hl:p.length < 1099511627776):∃ v,fP p=some v/\geB v s=fR (fun _ (c:Cell)=>geB c.S s) p 0:=by
 have h:=mu (b:=fk p) (fun i (n:Int)=>(n,(i:Int))) p (fun _ (x:Cell) n=>some (.next (fB n x.S))) (fun n=>some n) hl (fun i x n hx=>by
   unfold fk
   dsimp only
   rw[bh,decide_eq_true (bq hx),cond_true,bl,hx,bJ (Nat.lt_trans (bq hx) hl)]
   rfl)
  (fun k=>by
   simp[fk,bh]) 0
 rw[show ((0:Nat):Int)=0 from rfl] at h
 obtain⟨v,h1,h2⟩:=top_run s hs p 0 0
 simp_all [fP,geB,decide_eq_false]
theorem quiet_ok {t:Tree} (h:eV t=true):Ok t:=by
 simp_all [eV,ok_of]
theorem check_eq {t:Tree} {p:List Cell} (hs:Sz t) (hp:p.length < 1099511627776):iA t p=some (jY t p):=by
 unfold iA jY
 rw[quiet_eq hs,pat_eq hp]
 cases hq:eV t with
 | false=>rfl
 | true =>
  obtain⟨v,h1,h2⟩:=top_eq t.States (by have:=(quiet_ok hq).s2; omega) hp
  simp_all [cy,cR]
theorem fits_eq {t:Tree} {p:List Cell} (hs:Sz t) (hp:p.length < 1099511627776):kF t p=some (jY t p):=by
 unfold kF jY
 rw[quietR_eq hs,patR_eq hp,gg p (fun _ (c:Cell)=>geB c.S t.States) 10 hp]
 ·cases eV t<;>cases lO p<;>cases fR (fun _ (c:Cell)=>geB c.S t.States) p 0<;>rfl
 ·intro i x hx
  unfold lE
  dsimp only
  rw[bh,decide_eq_true (bq hx),cond_true,bl,hx,bJ (Nat.lt_trans (bq hx) hp)]
  grind
 simp[lE,bh]
structure Fit (t:Tree) (p:List Cell):Prop where
 ok:Ok t
 zero:fE t (List.replicate t.Hood.length 0) (bL .i64 (b8 t.Nodes) 1)=some 0
 pat:Pat p
 small:∀ c∈p,c.S < t.States
theorem oP {t:Tree} {p:List Cell} (h:jY t p=0):Fit t p:=by
 unfold jY at h
 cases hq:eV t with
 | false=>simp_all
 | true =>
  rw[hq] at h
  cases hp:lO p with
  | false=>simp_all
  | true =>
   rw[hp] at h
   cases ha:fR (fun _ (c:Cell)=>geB c.S t.States) p 0 with
   | true=>simp_all
   | false =>
    refine⟨quiet_ok hq,?_,pat_of hp,fun c hc=>?_⟩
    ·simp_all [eV]
    ·obtain⟨j,hj⟩:=List.mem_iff_getElem?.1 hc
     have:=of_decide_eq_false (fm ha j c hj)
     omega
end Go.Proofs.YtjlckgeecihpbaaGreatDoor
namespace Go.Proofs.YtjlckgeecihpbaaGreatDoor
open Go.AM Go.Proofs
def dc (p:List Cell) (x y:Int):Int:=match p.find? (fun c=>c.X == x && c.Y == y) with
 | some c=>c.S
 | none=>0
theorem getS_mem {p:List Cell} {x y:Int} (h:dc p x y≠0):∃ c∈p,c.X=x/\c.Y=y/\dc p x y=c.S:=by
 unfold dc at *
 cases hf:p.find? (fun c=>c.X == x && c.Y == y) with
 | none=>rw[hf] at h; exact absurd rfl h
 | some c =>
  have h1:=List.find?_some hf
  simp only[Bool.and_eq_true,beq_iff_eq] at h1
  exact⟨c,List.mem_of_find?_eq_some hf,h1.1,h1.2,rfl⟩
theorem Pat.uniq {p:List Cell} (h:p.Pairwise fun a b=>jG a b=true):∀ {a b:Cell},a∈p->b∈p->a.X=b.X->a.Y=b.Y->a=b:=by
 induction p with
 | nil=>intro a b ha; cases ha
 | cons x p ih =>
  intro a b ha hb hx hy
  obtain⟨h1,h2⟩:=List.pairwise_cons.1 h
  rcases List.mem_cons.1 ha with e | ha'
  ·rcases List.mem_cons.1 hb with e' | hb'
   ·rw[e,e']
   ·subst e; have:=(lj _ _).1 (h1 b hb'); omega
  ·rcases List.mem_cons.1 hb with e' | hb'
   ·subst e'; have:=(lj _ _).1 (h1 a ha'); omega
   ·exact ih h2 ha' hb' hx hy
theorem getS_of {p:List Cell} (h:p.Pairwise fun a b=>jG a b=true) {c:Cell} (hc:c∈p):dc p c.X c.Y=c.S:=by
 unfold dc
 cases hf:p.find? (fun d=>d.X == c.X && d.Y == c.Y) with
 | none =>
  have:=List.find?_eq_none.1 hf c hc
  simp at this
 | some d =>
  have h1:=List.find?_some hf
  simp only[Bool.and_eq_true,beq_iff_eq] at h1
  rw[Pat.uniq h (List.mem_of_find?_eq_some hf) hc h1.1 h1.2]
theorem getS_in {t:Tree} {p:List Cell} (h:Fit t p) (x y:Int):0<=dc p x y/\dc p x y < t.States:=by
 by_cases h0:dc p x y=0
 ·have:=h.ok.s2; omega
 ·obtain⟨c,hc,_,_,e⟩:=getS_mem h0
  rw[e]
  have:=h.small c hc
  have:=(h.pat.cell c hc).2
  omega
def kE (t:Tree) (p:List Cell) (x y:Int):Int:=(fE t (t.Hood.map fun o=>dc p (x+o.X) (y+o.Y)) (bL .i64 (b8 t.Nodes) 1)).getD 0
theorem newS_eq {t:Tree} {p:List Cell} (h:Fit t p) (hs:Sz t) (x y:Int):fE t (t.Hood.map fun o=>dc p (x+o.X) (y+o.Y)) (bL .i64 (b8 t.Nodes) 1)=some (kE t p x y)/\0<=kE t p x y/\kE t p x y < t.States:=by
 obtain⟨v,h1,h2,h3⟩:=value_total h.ok hs (l:=t.Hood.map fun o=>dc p (x+o.X) (y+o.Y)) (by simp) (fun s hs=>by
  obtain⟨o,_,rfl⟩:=List.mem_map.1 hs
  exact getS_in h _ _)
 unfold kE
 rw[h1]
 exact⟨rfl,h2,h3⟩
theorem newS_near {t:Tree} {p:List Cell} (h:Fit t p) {x y:Int} (hn:kE t p x y≠0):∃ c∈p,∃ o∈t.Hood,c.X=x+o.X/\c.Y=y+o.Y:=by
 apply Classical.byContradiction
 intro hc
 have hz:(t.Hood.map fun o=>dc p (x+o.X) (y+o.Y))=List.replicate t.Hood.length 0:=by
  refine List.eq_replicate_iff.2 ⟨by simp,fun s hs=>?_⟩
  obtain⟨o,ho,rfl⟩:=List.mem_map.1 hs
  apply Classical.byContradiction
  intro h0
  obtain⟨c,h1,h2,h3,_⟩:=getS_mem h0
  exact hc ⟨c,h1,o,ho,h2,h3⟩
 unfold kE at hn
 rw[hz,h.zero] at hn
 exact hn rfl
theorem hood_in {t:Tree} (h:Ok t) {o:Point} (ho:o∈t.Hood):-2<=o.X/\o.X<=2/\-2<=o.Y/\o.Y<=2:=by
 have hh:=h.hood
 unfold iB at hh
 simp only[Bool.and_eq_true,Bool.not_eq_true'] at hh
 obtain⟨j,hj⟩:=List.mem_iff_getElem?.1 ho
 have hb:=fm hh.2 j o hj
 unfold badP at hb
 simp only[Bool.or_eq_false_iff] at hb
 have e1:=of_decide_eq_false hb.1
 have e2:=of_decide_eq_false hb.2.1
 have e3:=of_decide_eq_false hb.2.2.1
 have e4:=of_decide_eq_false hb.2.2.2.1
 omega
theorem mget_mset {κ ν:Type} [DecidableEq κ] (k:κ) (v:ν):∀ (m:List (κ×ν)) (q:κ),kX (msetL m k v) q=if k=q then some v else kX m q
 | [],q=>by simp[msetL,kX]
 | x::m,q=>by
  unfold msetL
  by_cases hx:x.1=k
  ·rw[if_pos hx]
   by_cases hq:k=q
   ·simp[kX,hq]
   ·simp[kX,hq,hx]
  ·rw[if_neg hx]
   simp only[kX]
   rw[mget_mset k v m q]
   by_cases hq:k=q
   ·subst hq; simp[hx]
   ·simp[hq]
theorem getS_snoc {p:List Cell} {c:Cell} (h:∀ d∈p,¬ (d.X=c.X/\d.Y=c.Y)) (x y:Int):dc (p++[c]) x y=if c.X=x/\c.Y=y then c.S else dc p x y:=by
 unfold dc
 rw[List.find?_append]
 by_cases hc:c.X=x/\c.Y=y
 ·rw[if_pos hc]
  have:p.find? (fun d=>d.X == x && d.Y == y)=none:=by
   rw[List.find?_eq_none]
   intro d hd
   simp only[Bool.and_eq_true,beq_iff_eq]
   rw[<- hc.1,<- hc.2]
   exact h d hd
  rw[this]
  simp[hc.1,hc.2]
 ·rw[if_neg hc]
  have:(c.X == x && c.Y == y)=false:=by
   rw[Bool.eq_false_iff]
   simpa using hc
  cases hf:p.find? (fun d=>d.X == x && d.Y == y) with
  | none=>simp[this]
  | some d=>simp
def Near (x y:Int):Prop:=-1048600<=x/\x<=1048600/\-1048600<=y/\y<=1048600
end Go.Proofs.YtjlckgeecihpbaaGreatDoor
