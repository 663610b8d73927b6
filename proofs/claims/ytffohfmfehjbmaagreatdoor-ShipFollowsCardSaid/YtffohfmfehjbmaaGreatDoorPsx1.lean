/- Plain laws: patterns, the checks ahead of a step; loops by an invariant. -/
import Derived.Test.YtffohfmfehjbmaaGreatDoorPlx1
namespace Go.Proofs.YtffohfmfehjbmaaGreatDoor
open Go.AM Go.Proofs
def placeB (x y:Int):Bool:=geB x (-1048576) && (leB x 1048576 && (geB y (-1048576) && leB y 1048576))
def befC (a b:Cell):Bool:=befP ⟨a.X,a.Y⟩ ⟨b.X,b.Y⟩
def badC (l:List Cell) (i:Nat) (x:Cell):Bool :=
 !placeB x.X x.Y || (ltB x.S 1 || (geB x.S 8 || match i with
  | 0=>false
  | j+1=>match l[j]? with
   | some y=>!befC y x
   | none=>false))
def patOk (l:List Cell):Bool:=leB (aB l) 5000 && !anyB (badC l) l 0
theorem imax_is (a b:Int):(eE a b=a \/ eE a b=b)/\a<=eE a b/\b<=eE a b:=by
 unfold eE
 by_cases h:b > a
 ·rw[if_pos h]; exact⟨.inr rfl,by omega,by omega⟩
 ·rw[if_neg h]; exact⟨.inl rfl,by omega,by omega⟩
theorem imin_is (a b:Int):(ez a b=a \/ ez a b=b)/\ez a b<=a/\ez a b<=b:=by
 unfold ez
 by_cases h:b < a
 ·rw[if_pos h]; exact⟨.inr rfl,by omega,by omega⟩
 ·rw[if_neg h]; exact⟨.inl rfl,by omega,by omega⟩
theorem gtB_not (a b:Int):gtB a b=!leB a b:=by
 unfold gtB leB
 by_cases h:a<=b
 ·rw[decide_eq_true h,decide_eq_false (by omega)]; rfl
 ·rw[decide_eq_false h,decide_eq_true (by omega)]; rfl
theorem placed_eq (p:Point):m_pattern_placed p=some (placeB p.X p.Y):=by
 unfold m_pattern_placed placeB
 simp only[bif_some,bif_some_f,some_bind]
 congr 1
 rw[Bool.eq_iff_iff]
 have e1:=imax_is p.X p.Y
 have e2:=imin_is p.X p.Y
 simp only[leB,geB,Bool.and_eq_true,decide_eq_true_eq]
 constructor
 ·rintro⟨h1,h2⟩
  refine⟨?_,?_,?_,?_⟩<;>omega
 ·rintro⟨h1,h2,h3,h4⟩
  refine⟨?_,?_⟩<;>omega
theorem order_eq (a b:Cell):∃ c,m_pattern_order a b=some c/\geB c 0=!befC a b:=by
 obtain⟨c,h1,h2⟩:=comp_eq ⟨a.X,a.Y⟩ ⟨b.X,b.Y⟩
 refine⟨c,?_,h2⟩
 simp only[m_pattern_order,m_pattern_at,some_bind,h1]
theorem pat_eq {l:List Cell} (hl:l.length < 1099511627776):m_pattern_Right l=some (patOk l):=by
 unfold m_pattern_Right patOk
 rw[loop_any l (badC l) false hl]
 ·rw[gtB_not]
  cases leB (aB l) 5000<;>cases anyB (badC l) l 0<;>rfl
 ·intro i x hx
  unfold b_pattern_Right_1
  dsimp only
  rw[ltB_nat,decide_eq_true (getE_lt hx),cond_true,idx_nat,hx,up_nat (Nat.lt_trans (getE_lt hx) hl)]
  simp only[some_bind,m_pattern_at,placed_eq,ba]
  unfold badC
  cases i with
  | zero=>simp only[gtB_zero,cond_false,bif_some,some_bind,bif_some_t]
  | succ j =>
   obtain⟨y,hy⟩:=getE_prev hx
   obtain⟨c,hc,hg⟩:=order_eq y x
   simp only[gtB_succ,cond_true,dn_nat (Nat.lt_trans (Nat.lt_of_succ_lt (getE_lt hx)) hl),idx_nat,hy,some_bind,hc,hg,bif_some,bif_some_t]
 ·unfold b_pattern_Right_1
  dsimp only
  rw[ltB_nat,decide_eq_false (Nat.lt_irrefl _)]
  rfl
theorem loop_iv_aux {St T:Type} {b:St->Option (Lp St T)} {n:Nat} (I:Nat->St->Prop) (Q:T->Prop)
  (step:∀ i s,i < n->I i s->(∃ s',b s=some (.next s')/\I (i+1) s') \/ (∃ t,b s=some (.out t)/\Q t)) (fin:∀ s,I n s->∃ t,b s=some (.out t)/\Q t) :
  ∀ (k i:Nat) (s:St),i+k=n->I i s->∀ m,k < m->∃ t,aK b m s=some t/\Q t
 | 0,i,s,hi,h,m,hm=>by
  obtain⟨m,rfl⟩:∃ j,m=j+1:=⟨m - 1,by omega⟩
  obtain rfl:i=n:=by omega
  obtain⟨t,ht,hq⟩:=fin s h
  exact⟨t,by rw[aK,ht],hq⟩
 | k+1,i,s,hi,h,m,hm=>by
  obtain⟨m,rfl⟩:∃ j,m=j+1:=⟨m - 1,by omega⟩
  rcases step i s (by omega) h with ⟨s',hs,h'⟩ | ⟨t,ht,hq⟩
  ·obtain⟨t,ht,hq⟩:=loop_iv_aux I Q step fin k (i+1) s' (by omega) h' m (by omega)
   exact⟨t,by rw[aK,hs]; exact ht,hq⟩
  ·exact⟨t,by rw[aK,ht],hq⟩
theorem loop_iv {St T:Type} {b:St->Option (Lp St T)} {n:Nat} (I:Nat->St->Prop) (Q:T->Prop) (hn:n < 1099511627776) {s:St} (h0:I 0 s)
  (step:∀ i s,i < n->I i s->(∃ s',b s=some (.next s')/\I (i+1) s') \/ (∃ t,b s=some (.out t)/\Q t)) (fin:∀ s,I n s->∃ t,b s=some (.out t)/\Q t) :
  ∃ t,aK b aN s=some t/\Q t:=loop_iv_aux I Q step fin n 0 s (by omega) h0 aN hn
structure Pat (p:List Cell):Prop where
 len:p.length<=5000
 cell:∀ c∈p,(-1048576<=c.X/\c.X<=1048576/\-1048576<=c.Y/\c.Y<=1048576)/\1<=c.S/\c.S < 8
 sorted:p.Pairwise fun a b=>befC a b=true
theorem place_iff (x y:Int):placeB x y=true↔-1048576<=x/\x<=1048576/\-1048576<=y/\y<=1048576:=by
 unfold placeB geB leB
 simp only[Bool.and_eq_true,decide_eq_true_eq,ge_iff_le]
theorem befC_iff (a b:Cell):befC a b=true↔a.Y < b.Y \/ (a.Y=b.Y/\a.X < b.X):=by
 unfold befC befP
 simp only[Bool.or_eq_true,Bool.and_eq_true,decide_eq_true_eq,beq_iff_eq]
theorem befC_trans {a b c:Cell} (h:befC a b=true) (h':befC b c=true):befC a c=true:=by
 rw[befC_iff] at *
 omega
theorem pairwise_adj {α:Type} {r:α->α->Prop} (ht:∀ a b c,r a b->r b c->r a c):∀ l:List α,(∀ (i:Nat) a b,l[i]?=some a->l[i+1]?=some b->r a b)->l.Pairwise r
 | [],_=>List.Pairwise.nil
 | [x],_=>List.pairwise_singleton _ _
 | x::y::l,h=>by
  have ih:=pairwise_adj ht (y::l) fun i a b ha hb=>h (i+1) a b (by simpa using ha) (by simpa using hb)
  have hxy:=h 0 x y rfl rfl
  refine List.pairwise_cons.2 ⟨fun z hz=>?_,ih⟩
  rcases List.mem_cons.1 hz with rfl | hz
  ·exact hxy
  ·exact ht _ _ _ hxy ((List.pairwise_cons.1 ih).1 z hz)
theorem pat_of {p:List Cell} (h:patOk p=true):Pat p:=by
 unfold patOk at h
 simp only[Bool.and_eq_true,Bool.not_eq_true'] at h
 have hl:=of_decide_eq_true h.1
 have hb:=fun j x hx=>anyB_false h.2 j x hx
 unfold aB at hl
 have hall:∀ (j:Nat) x,p[j]?=some x->(placeB x.X x.Y=true/\1<=x.S/\x.S < 8)/\(∀ i,j=i+1->∀ y,p[i]?=some y->befC y x=true):=by
  intro j x hx
  have hj:=hb j x hx
  rw[Nat.zero_add] at hj
  unfold badC at hj
  simp only[Bool.or_eq_false_iff,Bool.not_eq_false'] at hj
  obtain⟨h1,h2,h3,h4⟩:=hj
  have e2:=of_decide_eq_false h2
  have e3:=of_decide_eq_false h3
  refine⟨⟨h1,by omega,by omega⟩,fun i hi y hy=>?_⟩
  subst hi
  simp only[hy,Bool.not_eq_false'] at h4
  exact h4
 refine⟨by omega,fun c hc=>?_,pairwise_adj (r:=fun a b=>befC a b=true) (fun a b c=>befC_trans) _ fun i a b ha hb'=>(hall (i+1) b hb').2 i rfl a ha⟩
 obtain⟨j,hj⟩:=List.mem_iff_getElem?.1 hc
 have:=(hall j c hj).1
 exact⟨(place_iff _ _).1 this.1,this.2⟩
def fitE (t:Tree) (p:List Cell):Int:=bif quietB t then (bif patOk p then (bif anyB (fun _ (c:Cell)=>geB c.S t.States) p 0 then 10 else 0) else 2) else 11
theorem top_run (s:Int) (hs:0 < s):∀ (p:List Cell) (i:Nat) (n:Int),∃ v,runL (fun _ (x:Cell) n=>(some (.next (eE n x.S)):Option (Lp Int Int))) (fun n=>some n) p i n=some v/\geB v s=(geB n s || anyB (fun _ (c:Cell)=>geB c.S s) p i)
 | [],i,n=>⟨n,rfl,by simp[anyB]⟩
 | x::p,i,n=>by
  obtain⟨v,h1,h2⟩:=top_run s hs p (i+1) (eE n x.S)
  refine⟨v,by rw[runL]; exact h1,?_⟩
  rw[h2,anyB,<- Bool.or_assoc]
  congr 1
  rw[Bool.eq_iff_iff]
  simp only[geB,Bool.or_eq_true,decide_eq_true_eq,ge_iff_le]
  have:=imax_is n x.S
  omega
theorem top_eq (s:Int) (hs:0 < s) {p:List Cell} (hl:p.length < 1099511627776):∃ v,m_pattern_Top p=some v/\geB v s=anyB (fun _ (c:Cell)=>geB c.S s) p 0:=by
 have h:=loop_run (b:=b_pattern_Top_1 p) (fun i (n:Int)=>(n,(i:Int))) p (fun _ (x:Cell) n=>some (.next (eE n x.S))) (fun n=>some n) hl (fun i x n hx=>by
   unfold b_pattern_Top_1
   dsimp only
   rw[ltB_nat,decide_eq_true (getE_lt hx),cond_true,idx_nat,hx,up_nat (Nat.lt_trans (getE_lt hx) hl)]
   rfl)
  (fun k=>by
   unfold b_pattern_Top_1
   dsimp only
   rw[ltB_nat,decide_eq_false (Nat.lt_irrefl _)]
   rfl) 0
 rw[show ((0:Nat):Int)=0 from rfl] at h
 obtain⟨v,h1,h2⟩:=top_run s hs p 0 0
 refine⟨v,by unfold m_pattern_Top; rw[h,h1]; rfl,?_⟩
 rw[h2]
 have:geB 0 s=false:=decide_eq_false (by omega)
 rw[this,Bool.false_or]
theorem quiet_ok {t:Tree} (h:quietB t=true):Ok t:=by
 unfold quietB at h
 simp only[Bool.and_eq_true] at h
 exact ok_of h.1
theorem check_eq {t:Tree} {p:List Cell} (hs:Sz t) (hp:p.length < 1099511627776):m_direct_check t p=some (fitE t p):=by
 unfold m_direct_check fitE
 rw[quiet_eq hs,pat_eq hp]
 cases hq:quietB t with
 | false=>rfl
 | true =>
  obtain⟨v,h1,h2⟩:=top_eq t.States (by have:=(quiet_ok hq).s2; omega) hp
  rw[h1]
  simp only[some_bind,ba,Bool.not_true,cond_false,cond_true]
  cases patOk p with
  | false=>rfl
  | true =>
   simp only[Bool.not_true,cond_false,cond_true,h2,bif_some]
   try rfl
structure Fit (t:Tree) (p:List Cell):Prop where
 ok:Ok t
 zero:walkV t (List.replicate t.Hood.length 0) (aL .i64 (aB t.Nodes) 1)=some 0
 pat:Pat p
 small:∀ c∈p,c.S < t.States
theorem fit_of {t:Tree} {p:List Cell} (h:fitE t p=0):Fit t p:=by
 unfold fitE at h
 cases hq:quietB t with
 | false=>rw[hq] at h; simp at h
 | true =>
  rw[hq] at h
  cases hp:patOk p with
  | false=>rw[hp] at h; simp at h
  | true =>
   rw[hp] at h
   cases ha:anyB (fun _ (c:Cell)=>geB c.S t.States) p 0 with
   | true=>rw[ha] at h; simp at h
   | false =>
    refine⟨quiet_ok hq,?_,pat_of hp,fun c hc=>?_⟩
    ·unfold quietB at hq
     simp only[Bool.and_eq_true,beq_iff_eq] at hq
     exact hq.2
    ·obtain⟨j,hj⟩:=List.mem_iff_getElem?.1 hc
     have:=of_decide_eq_false (anyB_false ha j c hj)
     omega
end Go.Proofs.YtffohfmfehjbmaaGreatDoor
namespace Go.Proofs.YtffohfmfehjbmaaGreatDoor
open Go.AM Go.Proofs
def getS (p:List Cell) (x y:Int):Int:=match p.find? (fun c=>c.X == x && c.Y == y) with
 | some c=>c.S
 | none=>0
theorem getS_mem {p:List Cell} {x y:Int} (h:getS p x y≠0):∃ c∈p,c.X=x/\c.Y=y/\getS p x y=c.S:=by
 unfold getS at *
 cases hf:p.find? (fun c=>c.X == x && c.Y == y) with
 | none=>rw[hf] at h; exact absurd rfl h
 | some c =>
  have h1:=List.find?_some hf
  simp only[Bool.and_eq_true,beq_iff_eq] at h1
  exact⟨c,List.mem_of_find?_eq_some hf,h1.1,h1.2,rfl⟩
theorem Pat.uniq {p:List Cell} (h:p.Pairwise fun a b=>befC a b=true):∀ {a b:Cell},a∈p->b∈p->a.X=b.X->a.Y=b.Y->a=b:=by
 induction p with
 | nil=>intro a b ha; cases ha
 | cons x p ih =>
  intro a b ha hb hx hy
  obtain⟨h1,h2⟩:=List.pairwise_cons.1 h
  rcases List.mem_cons.1 ha with e | ha'
  ·rcases List.mem_cons.1 hb with e' | hb'
   ·rw[e,e']
   ·subst e; have:=(befC_iff _ _).1 (h1 b hb'); omega
  ·rcases List.mem_cons.1 hb with e' | hb'
   ·subst e'; have:=(befC_iff _ _).1 (h1 a ha'); omega
   ·exact ih h2 ha' hb' hx hy
theorem getS_of {p:List Cell} (h:p.Pairwise fun a b=>befC a b=true) {c:Cell} (hc:c∈p):getS p c.X c.Y=c.S:=by
 unfold getS
 cases hf:p.find? (fun d=>d.X == c.X && d.Y == c.Y) with
 | none =>
  have:=List.find?_eq_none.1 hf c hc
  simp at this
 | some d =>
  have h1:=List.find?_some hf
  simp only[Bool.and_eq_true,beq_iff_eq] at h1
  rw[Pat.uniq h (List.mem_of_find?_eq_some hf) hc h1.1 h1.2]
theorem getS_in {t:Tree} {p:List Cell} (h:Fit t p) (x y:Int):0<=getS p x y/\getS p x y < t.States:=by
 by_cases h0:getS p x y=0
 ·have:=h.ok.s2; omega
 ·obtain⟨c,hc,_,_,e⟩:=getS_mem h0
  rw[e]
  have:=h.small c hc
  have:=(h.pat.cell c hc).2
  omega
def newS (t:Tree) (p:List Cell) (x y:Int):Int:=(walkV t (t.Hood.map fun o=>getS p (x+o.X) (y+o.Y)) (aL .i64 (aB t.Nodes) 1)).getD 0
theorem newS_eq {t:Tree} {p:List Cell} (h:Fit t p) (hs:Sz t) (x y:Int):walkV t (t.Hood.map fun o=>getS p (x+o.X) (y+o.Y)) (aL .i64 (aB t.Nodes) 1)=some (newS t p x y)/\0<=newS t p x y/\newS t p x y < t.States:=by
 obtain⟨v,h1,h2,h3⟩:=value_total h.ok hs (l:=t.Hood.map fun o=>getS p (x+o.X) (y+o.Y)) (by simp) (fun s hs=>by
  obtain⟨o,_,rfl⟩:=List.mem_map.1 hs
  exact getS_in h _ _)
 unfold newS
 rw[h1]
 exact⟨rfl,h2,h3⟩
theorem newS_near {t:Tree} {p:List Cell} (h:Fit t p) {x y:Int} (hn:newS t p x y≠0):∃ c∈p,∃ o∈t.Hood,c.X=x+o.X/\c.Y=y+o.Y:=by
 apply Classical.byContradiction
 intro hc
 have hz:(t.Hood.map fun o=>getS p (x+o.X) (y+o.Y))=List.replicate t.Hood.length 0:=by
  refine List.eq_replicate_iff.2 ⟨by simp,fun s hs=>?_⟩
  obtain⟨o,ho,rfl⟩:=List.mem_map.1 hs
  apply Classical.byContradiction
  intro h0
  obtain⟨c,h1,h2,h3,_⟩:=getS_mem h0
  exact hc ⟨c,h1,o,ho,h2,h3⟩
 unfold newS at hn
 rw[hz,h.zero] at hn
 exact hn rfl
theorem hood_in {t:Tree} (h:Ok t) {o:Point} (ho:o∈t.Hood):-2<=o.X/\o.X<=2/\-2<=o.Y/\o.Y<=2:=by
 have hh:=h.hood
 unfold hoodOk at hh
 simp only[Bool.and_eq_true,Bool.not_eq_true'] at hh
 obtain⟨j,hj⟩:=List.mem_iff_getElem?.1 ho
 have hb:=anyB_false hh.2 j o hj
 unfold badP at hb
 simp only[Bool.or_eq_false_iff] at hb
 have e1:=of_decide_eq_false hb.1
 have e2:=of_decide_eq_false hb.2.1
 have e3:=of_decide_eq_false hb.2.2.1
 have e4:=of_decide_eq_false hb.2.2.2.1
 omega
theorem mget_mset {κ ν:Type} [DecidableEq κ] (k:κ) (v:ν):∀ (m:List (κ×ν)) (q:κ),e7 (cP m k v) q=if k=q then some v else e7 m q
 | [],q=>by simp[cP,e7]
 | x::m,q=>by
  unfold cP
  by_cases hx:x.1=k
  ·rw[if_pos hx]
   by_cases hq:k=q
   ·simp[e7,hq]
   ·simp[e7,hq,hx]
  ·rw[if_neg hx]
   simp only[e7]
   rw[mget_mset k v m q]
   by_cases hq:k=q
   ·subst hq; simp[hx]
   ·simp[hq]
theorem mgetD_mset {κ ν:Type} [DecidableEq κ] (k:κ) (v z:ν) (m:List (κ×ν)) (q:κ):bN (cP m k v) q z=if k=q then v else bN m q z:=by
 unfold bN
 rw[mget_mset]
 by_cases h:k=q<;>simp[h]
theorem kck_in {x y:Int} (h:-9223372036854775808<=x/\x<=9223372036854775807/\-9223372036854775808<=y/\y<=9223372036854775807):kckL [x,y]=some ():=by
 unfold kckL
 have e:∀ n:Int,-9223372036854775808<=n->n<=9223372036854775807->(Lit.int .i64 n).wf=true:=fun n h1 h2=>by
  simp[Lit.wf,IntKind.min,IntKind.max,IntKind.signed,IntKind.bits]
  omega
 simp[e x h.1 h.2.1,e y h.2.2.1 h.2.2.2]
theorem getS_snoc {p:List Cell} {c:Cell} (h:∀ d∈p,¬ (d.X=c.X/\d.Y=c.Y)) (x y:Int):getS (p++[c]) x y=if c.X=x/\c.Y=y then c.S else getS p x y:=by
 unfold getS
 rw[List.find?_append]
 by_cases hc:c.X=x/\c.Y=y
 ·rw[if_pos hc]
  have:p.find? (fun d=>d.X == x && d.Y == y)=none:=by
   rw[List.find?_eq_none]
   intro d hd
   simp only[Bool.and_eq_true,beq_iff_eq]
   rw[<- hc.1,<- hc.2]
   exact h d hd
  rw[this]
  simp[hc.1,hc.2]
 ·rw[if_neg hc]
  have:(c.X == x && c.Y == y)=false:=by
   rw[Bool.eq_false_iff]
   simpa using hc
  cases hf:p.find? (fun d=>d.X == x && d.Y == y) with
  | none=>simp[this]
  | some d=>simp
theorem of_eq {p:List Cell} (h:Pat p):∃ m,m_direct_of p=some m/\∀ q:Point,bN m q 0=getS p q.X q.Y:=by
 have hl:=h.len
 obtain⟨m,hm,hq⟩:=loop_iv (b:=b_direct_of_1 p) (n:=p.length) (s:=(0,[])) (fun i s=>s.1=(i:Int)/\∀ q:Point,bN s.2 q 0=getS (p.take i) q.X q.Y) (fun m=>∀ q:Point,bN m q 0=getS p q.X q.Y) (by omega)
  ⟨rfl,fun q=>rfl⟩
  (fun i s hi ⟨h1,h2⟩=>by
   obtain⟨a,m⟩:=s
   dsimp only at h1 h2
   subst h1
   have hx:p[i]?=some p[i]:=List.getElem?_eq_getElem hi
   have hc:=h.cell p[i] (List.getElem_mem hi)
   refine .inl ⟨(((i+1:Nat):Int),cP m ⟨p[i].X,p[i].Y⟩ p[i].S),?_,rfl,fun q=>?_⟩
   ·unfold b_direct_of_1
    dsimp only
    rw[ltB_nat,decide_eq_true hi,cond_true,idx_nat,hx,up_nat (by omega)]
    simp only[some_bind]
    rw[kck_in (by omega)]
    rfl
   ·rw[mgetD_mset,h2 q,List.take_add_one,hx]
    simp only[Option.toList_some]
    rw[getS_snoc]
    ·by_cases hq:(⟨p[i].X,p[i].Y⟩:Point)=q
     ·subst hq; simp
     ·have:¬ (p[i].X=q.X/\p[i].Y=q.Y):=fun⟨e1,e2⟩=>hq (by cases q; simp_all)
      rw[if_neg hq,if_neg this]
    ·intro d hd ⟨e1,e2⟩
     obtain⟨j,hj⟩:=List.mem_iff_getElem?.1 hd
     rw[List.getElem?_take] at hj
     split at hj
     ·rename_i hji
      obtain⟨hjl,rfl⟩:=List.getElem?_eq_some_iff.1 hj
      have:=List.pairwise_iff_getElem.1 h.sorted j i hjl hi hji
      rw[befC_iff] at this
      omega
     ·cases hj)
  (fun s ⟨h1,h2⟩=>by
   obtain⟨a,m⟩:=s
   dsimp only at h1 h2
   subst h1
   refine⟨m,?_,fun q=>by rw[h2 q,List.take_length]⟩
   unfold b_direct_of_1
   dsimp only
   rw[ltB_nat,decide_eq_false (Nat.lt_irrefl _)]
   rfl)
 exact⟨m,by unfold m_direct_of; rw[hm]; rfl,hq⟩
def Near (x y:Int):Prop:=-1048600<=x/\x<=1048600/\-1048600<=y/\y<=1048600
theorem run_walk' (t:Tree) {α:Type} (g:α->Int):∀ (l:List α) (i:Nat) (k:Int),runL (fun _ o k=>(idx t.Nodes k).bind fun x=>(idx x.Next (g o)).bind fun k'=>some (.next k')) (fun k=>some k) l i k=walkV t (l.map g) k
 | [],_,_=>rfl
 | s::l,i,k=>by
  rw[runL,List.map_cons,walkV]
  cases idx t.Nodes k with
  | none=>rfl
  | some x =>
   simp only[some_bind]
   cases idx x.Next (g s) with
   | none=>rfl
   | some k'=>exact run_walk' t g l (i+1) k'
theorem next_eq {t:Tree} {p:List Cell} (h:Fit t p) (hs:Sz t) {m:List (Point×Int)} (hm:∀ q:Point,bN m q 0=getS p q.X q.Y) {x y:Int} (hq:Near x y):m_direct_cells_next_o m t ⟨x,y⟩=some (newS t p x y):=by
 unfold m_direct_cells_next_o
 have hl:=hs.hood
 unfold Near at hq
 have hr:=loop_run (b:=b_direct_cells_next_o_1 m t ⟨x,y⟩) (fun i (k:Int)=>(k,(i:Int))) t.Hood (fun _ (o:Point) k=>(idx t.Nodes k).bind fun n=>(idx n.Next (getS p (x+o.X) (y+o.Y))).bind fun k'=>some (.next k')) (fun k=>some k) hl
  (fun i o k ho=>by
   have hi:=hood_in h.ok (List.mem_of_getElem? ho)
   unfold b_direct_cells_next_o_1
   dsimp only
   rw[ltB_nat,decide_eq_true (getE_lt ho),cond_true,idx_nat,ho,up_nat (Nat.lt_trans (getE_lt ho) hl)]
   simp only[some_bind]
   rw[iadd_in (by omega),iadd_in (by omega),kck_in (by omega),hm]
   simp only[some_bind]
   cases idx t.Nodes k with
   | none=>rfl
   | some n =>
    simp only[some_bind]
    cases idx n.Next (getS p (x+o.X) (y+o.Y))<;>rfl)
  (fun k=>by
   unfold b_direct_cells_next_o_1
   dsimp only
   rw[ltB_nat,decide_eq_false (Nat.lt_irrefl _)]
   rfl) (aL .i64 (aB t.Nodes) 1)
 rw[show ((0:Nat):Int)=0 from rfl] at hr
 rw[hr,run_walk' t (fun o:Point=>getS p (x+o.X) (y+o.Y)),(newS_eq h hs x y).1]
 rfl
end Go.Proofs.YtffohfmfehjbmaaGreatDoor
namespace Go.Proofs.YtffohfmfehjbmaaGreatDoor
open Go.AM Go.Proofs
theorem cf_lt (a b:Cell):cf_pattern_order a b < 0↔befC a b=true:=by
 rw[befC_iff]
 unfold cf_pattern_order cmpYX cmpI
 by_cases h1:a.Y < b.Y
 ·simp[h1]
 ·by_cases h2:a.Y > b.Y
  ·simp[h1,h2]; omega
  ·have h3:a.Y=b.Y:=by omega
   by_cases h4:a.X < b.X
   ·simp[h3,h4]
   ·by_cases h5:a.X > b.X<;>simp[h3,h4,h5]
def Dist (a b:Cell):Prop:=¬ (a.X=b.X/\a.Y=b.Y)
theorem bef_or {a b:Cell} (h:Dist a b) (hn:befC a b=false):befC b a=true:=by
 have h1:¬ befC a b=true:=by simp[hn]
 rw[befC_iff] at *
 unfold Dist at h
 omega
theorem ins_sorted {x:Cell}:∀ {l:List Cell},l.Pairwise (fun a b=>befC a b=true)->(∀ y∈l,Dist x y)->(insS cf_pattern_order x l).Pairwise fun a b=>befC a b=true
 | [],_,_=>List.pairwise_singleton _ _
 | y::l,hl,hx=>by
  obtain⟨h1,h2⟩:=List.pairwise_cons.1 hl
  unfold insS
  split
  ·rename_i hc
   rw[cf_lt] at hc
   refine List.pairwise_cons.2 ⟨fun z hz=>?_,hl⟩
   rcases List.mem_cons.1 hz with e | hz
   ·rw[e]; exact hc
   ·exact befC_trans hc (h1 z hz)
  ·rename_i hc
   rw[cf_lt] at hc
   have hyx:=bef_or (hx y (by simp)) (by simpa using hc)
   refine List.pairwise_cons.2 ⟨fun z hz=>?_,ins_sorted h2 fun z hz=>hx z (List.mem_cons_of_mem _ hz)⟩
   rcases List.mem_cons.1 ((insS_perm x l).subset hz) with e | hz
   ·rw[e]; exact hyx
   ·exact h1 z hz
theorem isort_sorted:∀ {l:List Cell},l.Pairwise Dist->(isort cf_pattern_order l).Pairwise fun a b=>befC a b=true
 | [],_=>List.Pairwise.nil
 | x::l,h=>by
  obtain⟨h1,h2⟩:=List.pairwise_cons.1 h
  exact ins_sorted (isort_sorted h2) fun y hy=>h1 y ((cw l).subset hy)
theorem strictB_of:∀ {l:List Cell},l.Pairwise (fun a b=>befC a b=true)->eV cf_pattern_order l=true
 | [],_=>rfl
 | [x],_=>rfl
 | x::y::l,h=>by
  obtain⟨h1,h2⟩:=List.pairwise_cons.1 h
  simp only[eV,Bool.and_eq_true,decide_eq_true_eq]
  exact⟨(cf_lt _ _).2 (h1 y (by simp)),strictB_of h2⟩
theorem sort_eq {l:List Cell} (h:l.Pairwise Dist) (hl:l.length < 1099511627776):sortM cf_pattern_order l=some (isort cf_pattern_order l):=by
 unfold sortM
 rw[strictB_of (isort_sorted h),decide_eq_true (by omega)]
 rfl
theorem sorted_ext:∀ {l m:List Cell},l.Pairwise (fun a b=>befC a b=true)->m.Pairwise (fun a b=>befC a b=true)->(∀ c,c∈l↔c∈m)->l=m
 | [],[],_,_,_=>rfl
 | [],y::m,_,_,h=>by have:=(h y).2 (by simp); simp at this
 | x::l,[],_,_,h=>by have:=(h x).1 (by simp); simp at this
 | x::l,y::m,hl,hm,h=>by
  obtain⟨l1,l2⟩:=List.pairwise_cons.1 hl
  obtain⟨m1,m2⟩:=List.pairwise_cons.1 hm
  have irr:∀ a:Cell,¬ befC a a=true:=fun a ha=>by rw[befC_iff] at ha; omega
  have hxy:x=y:=by
   rcases List.mem_cons.1 ((h x).1 (by simp)) with e | e
   ·exact e
   ·rcases List.mem_cons.1 ((h y).2 (by simp)) with e' | e'
    ·exact e'.symm
    ·exact absurd (befC_trans (m1 x e) (l1 y e')) (irr y)
  subst hxy
  congr 1
  refine sorted_ext l2 m2 fun c=>⟨fun hc=>?_,fun hc=>?_⟩
  ·rcases List.mem_cons.1 ((h c).1 (List.mem_cons_of_mem _ hc)) with e | e
   ·subst e; exact absurd (l1 c hc) (irr c)
   ·exact e
  ·rcases List.mem_cons.1 ((h c).2 (List.mem_cons_of_mem _ hc)) with e | e
   ·subst e; exact absurd (m1 c hc) (irr c)
   ·exact e
theorem from_one {l:List Cell} (hl:l.length < 1099511627776) (hc:∀ c∈l,placeB c.X c.Y=true/\1<=c.S/\c.S < 8):aK (b_pattern_From_1 l) aN (0,[])=some (.inr l):=by
 obtain⟨r,hr,e⟩:=loop_iv (b:=b_pattern_From_1 l) (n:=l.length) (s:=(0,[])) (fun i s=>s=((i:Int),l.take i)) (fun r=>r=.inr l) hl rfl
  (fun i s hi e=>by
   subst e
   have hx:l[i]?=some l[i]:=List.getElem?_eq_getElem hi
   obtain⟨h1,h2,h3⟩:=hc l[i] (List.getElem_mem hi)
   refine .inl ⟨(((i+1:Nat):Int),l.take (i+1)),?_,rfl⟩
   unfold b_pattern_From_1
   dsimp only
   rw[ltB_nat,decide_eq_true hi,cond_true,idx_nat,hx,up_nat (by omega)]
   have e1:ltB l[i].S 0=false:=decide_eq_false (by omega)
   have e2:geB l[i].S 8=false:=decide_eq_false (by omega)
   have e3:gtB l[i].S 0=true:=decide_eq_true (by omega)
   have e4:appL 24 (l.take i) [l[i]]=some (l.take i++[l[i]]):=by
    unfold appL
    rw[if_pos]
    simp only[List.length_take,List.length_cons,List.length_nil]
    omega
   simp only[some_bind,m_pattern_at,placed_eq,h1,ba,Bool.not_true,cond_false,e1,e2,e3,cond_true,e4]
   rw[List.take_add_one,hx]
   rfl)
  (fun s e=>by
   subst e
   refine⟨_,?_,rfl⟩
   unfold b_pattern_From_1
   dsimp only
   rw[ltB_nat,decide_eq_false (Nat.lt_irrefl _),List.take_length]
   rfl)
 rw[hr,e]
theorem from_two {out y:List Cell} (hl:y.length < 1099511627776) (hs:y.Pairwise fun a b=>befC a b=true):aK (b_pattern_From_2 out y) aN 1=some (.inr ()):=by
 obtain⟨r,hr,e⟩:=loop_iv (b:=b_pattern_From_2 out y) (n:=y.length - 1) (s:=1) (fun i s=>s=((i+1:Nat):Int)) (fun r=>r=.inr ()) (by omega) rfl
  (fun i s hi e=>by
   subst e
   have h0:y[i]?=some y[i]:=List.getElem?_eq_getElem (by omega)
   have h1:y[i+1]?=some y[i+1]:=List.getElem?_eq_getElem (by omega)
   refine .inl ⟨((i+1+1:Nat):Int),?_,rfl⟩
   unfold b_pattern_From_2
   dsimp only
   rw[ltB_nat,decide_eq_true (by omega),cond_true,dn_nat (by omega),idx_nat,h0,idx_nat,h1,up_nat (by omega)]
   have hb:=(befC_iff _ _).1 (List.pairwise_iff_getElem.1 hs i (i+1) (by omega) (by omega) (by omega))
   have e1:bW (eqB y[i].X y[i+1].X) (bW (eqB y[i].Y y[i+1].Y) true)=false:=by
    rw[Bool.eq_false_iff]
    unfold bW eqB
    simp only[ne_eq,Bool.and_eq_true,beq_iff_eq,and_true]
    omega
   simp only[some_bind,m_pattern_at,e1,cond_false])
  (fun s e=>by
   subst e
   refine⟨_,?_,rfl⟩
   unfold b_pattern_From_2
   dsimp only
   rw[ltB_nat,decide_eq_false (by omega)]
   rfl)
 rw[hr,e]
theorem from_eq {l:List Cell} (hl:l.length < 1099511627776) (hc:∀ c∈l,placeB c.X c.Y=true/\1<=c.S/\c.S < 8) (hd:l.Pairwise Dist) :
  m_pattern_From l=some (bif gtB (aB (isort cf_pattern_order l)) 5000 then ([],6) else (isort cf_pattern_order l,0)):=by
 unfold m_pattern_From
 rw[from_one hl hc]
 simp only[some_bind,m_slices_SortFunc_api_Pattern_api_Cell_o_pattern_order]
 rw[sort_eq hd hl]
 simp only[some_bind]
 rw[from_two (by rw[(cw l).length_eq]; exact hl) (isort_sorted hd)]
 simp only[some_bind,bif_some]
structure J (t:Tree) (p:List Cell) (P:Point->Prop) (done:List (Point×Bool)) (l:List Cell) (k:Nat):Prop where
 done:∀ q,bN done q false=true↔P q
 mem:∀ c∈l,P ⟨c.X,c.Y⟩/\c.S=newS t p c.X c.Y/\c.S≠0/\placeB c.X c.Y=true
 all:∀ q,P q->newS t p q.X q.Y≠0->(⟨q.X,q.Y,newS t p q.X q.Y⟩:Cell)∈l
 dist:l.Pairwise Dist
 len:l.length<=k
theorem J.congr {t:Tree} {p:List Cell} {P P':Point->Prop} {done:List (Point×Bool)} {l:List Cell} {k k':Nat} (h:J t p P done l k) (hP:∀ q,P q↔P' q) (hk:k<=k'):J t p P' done l k' :=
 ⟨fun q=>(h.done q).trans (hP q),fun c hc=>⟨(hP _).1 (h.mem c hc).1,(h.mem c hc).2⟩,fun q hq=>h.all q ((hP q).2 hq),h.dist,Nat.le_trans h.len hk⟩
def Out (t:Tree) (p:List Cell):Prop:=∃ x y,newS t p x y≠0/\placeB x y=false
theorem dplace_eq (q:Point):m_direct_place q=some (placeB q.X q.Y):=placed_eq q
section
variable {t:Tree} {p:List Cell} (h:Fit t p) (hs:Sz t) {y:List (Point×Int)} (hy:∀ q:Point,bN y q 0=getS p q.X q.Y)
include h hs hy
theorem inner_step {P:Point->Prop} {done:List (Point×Bool)} {l:List Cell} {k:Nat} (hJ:J t p P done l k) (hk:k < 200000) {a:Int} {c:Cell} (hc:c∈p) {i:Nat} {o:Point} (ho:t.Hood[i]?=some o) :
  (∃ done' l',b_direct_step_2 t p y a c ((i:Int),done,l)=some (.next (((i+1:Nat):Int),done',l'))/\J t p (fun q=>P q \/ q=⟨c.X - o.X,c.Y - o.Y⟩) done' l' (k+1)) \/
   (b_direct_step_2 t p y a c ((i:Int),done,l)=some (.out (.inl ([],5)))/\Out t p):=by
 have hi:=hood_in h.ok (List.mem_of_getElem? ho)
 have hcc:=(h.pat.cell c hc).1
 have hl:=hs.hood
 obtain⟨r,hb⟩:∃ r,b_direct_step_2 t p y a c ((i:Int),done,l)=r:=⟨_,rfl⟩
 rw[hb]
 unfold b_direct_step_2 at hb
 dsimp only at hb
 rw[ltB_nat,decide_eq_true (getE_lt ho),cond_true,idx_nat,ho,up_nat (Nat.lt_trans (getE_lt ho) hl)] at hb
 simp only[some_bind] at hb
 rw[isub_in (by omega),isub_in (by omega),kck_in (by omega),next_eq h hs hy (by unfold Near; omega),dplace_eq] at hb
 simp only[some_bind] at hb
 have hv:=(newS_eq h hs (c.X - o.X) (c.Y - o.Y)).2
 by_cases hd:bN done (⟨c.X - o.X,c.Y - o.Y⟩:Point) false=true
 ·rw[hd] at hb
  refine .inl ⟨done,l,hb.symm,hJ.congr (fun q=>⟨.inl,fun hq=>?_⟩) (by omega)⟩
  rcases hq with hq | rfl
  ·exact hq
  ·exact (hJ.done _).1 hd
 ·have hd':bN done (⟨c.X - o.X,c.Y - o.Y⟩:Point) false=false:=by simpa using hd
  rw[hd'] at hb
  simp only[cond_false] at hb
  by_cases hn:newS t p (c.X - o.X) (c.Y - o.Y)=0
  ·have e:gtB (newS t p (c.X - o.X) (c.Y - o.Y)) 0=false:=decide_eq_false (by omega)
   rw[e] at hb
   refine .inl ⟨_,_,hb.symm,⟨fun q=>?_,fun d hd=>⟨.inl (hJ.mem d hd).1,(hJ.mem d hd).2⟩,fun q hq hq0=>?_,hJ.dist,by have:=hJ.len; omega⟩⟩
   ·rw[mgetD_mset]
    by_cases hq:(⟨c.X - o.X,c.Y - o.Y⟩:Point)=q
    ·simp[hq]
    ·rw[if_neg hq,hJ.done q]
     exact⟨.inl,fun hq'=>hq'.resolve_right fun e=>hq e.symm⟩
   ·rcases hq with hq | rfl
    ·exact hJ.all q hq hq0
    ·exact absurd hn hq0
  ·have e:gtB (newS t p (c.X - o.X) (c.Y - o.Y)) 0=true:=decide_eq_true (by omega)
   rw[e] at hb
   simp only[cond_true] at hb
   cases hp:placeB (c.X - o.X) (c.Y - o.Y) with
   | false =>
    rw[hp] at hb
    exact .inr ⟨hb.symm,_,_,hn,hp⟩
   | true =>
    rw[hp] at hb
    have ea:appL 24 l [(⟨c.X - o.X,c.Y - o.Y,newS t p (c.X - o.X) (c.Y - o.Y)⟩:Cell)]=some (l++[⟨c.X - o.X,c.Y - o.Y,newS t p (c.X - o.X) (c.Y - o.Y)⟩]):=by
     unfold appL
     rw[if_pos]
     have:=hJ.len
     simp only[List.length_cons,List.length_nil]
     omega
    rw[ea] at hb
    simp only[ba,Bool.not_true,cond_false,some_bind] at hb
    have hnP:¬ P ⟨c.X - o.X,c.Y - o.Y⟩:=fun hP=>by rw[(hJ.done _).2 hP] at hd'; cases hd'
    refine .inl ⟨_,_,hb.symm,⟨fun q=>?_,fun d hd=>?_,fun q hq hq0=>?_,?_,by have:=hJ.len; simp; omega⟩⟩
    ·rw[mgetD_mset]
     by_cases hq:(⟨c.X - o.X,c.Y - o.Y⟩:Point)=q
     ·simp[hq]
     ·rw[if_neg hq,hJ.done q]
      exact⟨.inl,fun hq'=>hq'.resolve_right fun e=>hq e.symm⟩
    ·rcases List.mem_append.1 hd with hd | hd
     ·exact⟨.inl (hJ.mem d hd).1,(hJ.mem d hd).2⟩
     ·rw[List.mem_singleton] at hd
      subst hd
      exact⟨.inr rfl,rfl,hn,hp⟩
    ·rcases hq with hq | rfl
     ·exact List.mem_append_left _ (hJ.all q hq hq0)
     ·exact List.mem_append_right _ (by simp)
    ·refine List.pairwise_append.2 ⟨hJ.dist,List.pairwise_singleton _ _,fun d hd e he=>?_⟩
     rw[List.mem_singleton] at he
     subst he
     rintro⟨e1,e2⟩
     have:=(hJ.mem d hd).1
     dsimp only at e1 e2
     rw[e1,e2] at this
     exact hnP this
theorem inner_loop {P:Point->Prop} {done:List (Point×Bool)} {l:List Cell} {k:Nat} (hJ:J t p P done l k) (hk:k+25 < 200000) {a:Int} {c:Cell} (hc:c∈p) :
  (∃ done' l',aK (b_direct_step_2 t p y a c) aN (0,done,l)=some (.inr (done',l'))/\J t p (fun q=>P q \/ ∃ o∈t.Hood,q=⟨c.X - o.X,c.Y - o.Y⟩) done' l' (k+25)) \/
   (aK (b_direct_step_2 t p y a c) aN (0,done,l)=some (.inl ([],5))/\Out t p):=by
 have hl:=hs.hood
 have h25:=h.ok.h25
 obtain⟨r,hr,hq⟩:=loop_iv (b:=b_direct_step_2 t p y a c) (n:=t.Hood.length) (s:=(0,done,l))
  (fun i s=>s.1=(i:Int)/\J t p (fun q=>P q \/ ∃ j < i,∃ o,t.Hood[j]?=some o/\q=⟨c.X - o.X,c.Y - o.Y⟩) s.2.1 s.2.2 (k+i))
  (fun r=>(∃ done' l',r=.inr (done',l')/\J t p (fun q=>P q \/ ∃ o∈t.Hood,q=⟨c.X - o.X,c.Y - o.Y⟩) done' l' (k+25)) \/ (r=.inl ([],5)/\Out t p)) hl
  ⟨rfl,hJ.congr (fun q=>⟨.inl,fun hq=>hq.resolve_right fun⟨j,hj,_⟩=>by omega⟩) (by omega)⟩
  (fun i s hi ⟨h1,h2⟩=>by
   obtain⟨a1,d,l1⟩:=s
   dsimp only at h1 h2
   subst h1
   have hx:t.Hood[i]?=some t.Hood[i]:=List.getElem?_eq_getElem hi
   rcases inner_step h hs hy h2 (by omega) (a:=a) hc hx with ⟨d',l',e,hj⟩ | ⟨e,ho⟩
   ·refine .inl ⟨_,e,rfl,hj.congr (fun q=>?_) (by omega)⟩
    constructor
    ·rintro ((hq | ⟨j,hj,o,ho,e⟩) | e)
     ·exact .inl hq
     ·exact .inr ⟨j,by omega,o,ho,e⟩
     ·exact .inr ⟨i,by omega,_,hx,e⟩
    ·rintro (hq | ⟨j,hj,o,ho,e⟩)
     ·exact .inl (.inl hq)
     ·rcases Nat.lt_succ_iff_lt_or_eq.1 hj with hj | rfl
      ·exact .inl (.inr ⟨j,hj,o,ho,e⟩)
      ·rw[hx] at ho
       cases ho
       exact .inr e
   ·exact .inr ⟨_,e,.inr ⟨rfl,ho⟩⟩)
  (fun s ⟨h1,h2⟩=>by
   obtain⟨a1,d,l1⟩:=s
   dsimp only at h1 h2
   subst h1
   refine⟨.inr (d,l1),?_,.inl ⟨d,l1,rfl,h2.congr (fun q=>?_) (by omega)⟩⟩
   ·unfold b_direct_step_2
    dsimp only
    rw[ltB_nat,decide_eq_false (Nat.lt_irrefl _)]
    rfl
   ·constructor
    ·rintro (hq | ⟨j,hj,o,ho,e⟩)
     ·exact .inl hq
     ·exact .inr ⟨o,List.mem_of_getElem? ho,e⟩
    ·rintro (hq | ⟨o,ho,e⟩)
     ·exact .inl hq
     ·obtain⟨j,hj⟩:=List.mem_iff_getElem?.1 ho
      exact .inr ⟨j,getE_lt hj,o,hj,e⟩)
 rcases hq with ⟨d',l',e,hj⟩ | ⟨e,ho⟩
 ·exact .inl ⟨d',l',by rw[hr,e],hj⟩
 ·exact .inr ⟨by rw[hr,e],ho⟩
theorem outer_loop:(∃ done l,aK (b_direct_step_1 t p y) aN (0,[],[])=some (.inr l)/\J t p (fun q=>∃ c∈p,∃ o∈t.Hood,q=⟨c.X - o.X,c.Y - o.Y⟩) done l 125000) \/
   (aK (b_direct_step_1 t p y) aN (0,[],[])=some (.inl ([],5))/\Out t p):=by
 have hl:=h.pat.len
 obtain⟨r,hr,hq⟩:=loop_iv (b:=b_direct_step_1 t p y) (n:=p.length) (s:=(0,[],[]))
  (fun i s=>s.1=(i:Int)/\J t p (fun q=>∃ j < i,∃ c,p[j]?=some c/\∃ o∈t.Hood,q=⟨c.X - o.X,c.Y - o.Y⟩) s.2.1 s.2.2 (25*i))
  (fun r=>(∃ done l,r=.inr l/\J t p (fun q=>∃ c∈p,∃ o∈t.Hood,q=⟨c.X - o.X,c.Y - o.Y⟩) done l 125000) \/ (r=.inl ([],5)/\Out t p)) (by omega)
  ⟨rfl,J.mk (fun q=>⟨fun hq=>by simp[bN,e7] at hq,fun⟨j,hj,_⟩=>by omega⟩) (fun c hc=>by simp at hc) (fun q ⟨j,hj,_⟩=>by omega) List.Pairwise.nil (by simp)⟩
  (fun i s hi ⟨h1,h2⟩=>by
   obtain⟨a1,d,l1⟩:=s
   dsimp only at h1 h2
   subst h1
   have hx:p[i]?=some p[i]:=List.getElem?_eq_getElem hi
   obtain⟨r,hb⟩:∃ r,b_direct_step_1 t p y ((i:Int),d,l1)=r:=⟨_,rfl⟩
   rw[hb]
   unfold b_direct_step_1 at hb
   dsimp only at hb
   rw[ltB_nat,decide_eq_true hi,cond_true,idx_nat,hx,up_nat (by omega)] at hb
   simp only[some_bind] at hb
   rcases inner_loop h hs hy h2 (by omega) (a:=(i:Int)) (List.getElem_mem hi) with ⟨d',l',e,hj⟩ | ⟨e,ho⟩
   ·rw[e] at hb
    refine .inl ⟨_,hb.symm,rfl,hj.congr (fun q=>?_) (by omega)⟩
    constructor
    ·rintro (⟨j,hj,hq⟩ | hq)
     ·exact⟨j,by omega,hq⟩
     ·exact⟨i,by omega,_,hx,hq⟩
    ·rintro⟨j,hj,c,hc,hq⟩
     rcases Nat.lt_succ_iff_lt_or_eq.1 hj with hj | rfl
     ·exact .inl ⟨j,hj,c,hc,hq⟩
     ·rw[hx] at hc
      cases hc
      exact .inr hq
   ·rw[e] at hb
    exact .inr ⟨_,hb.symm,.inr ⟨rfl,ho⟩⟩)
  (fun s ⟨h1,h2⟩=>by
   obtain⟨a1,d,l1⟩:=s
   dsimp only at h1 h2
   subst h1
   refine⟨.inr l1,?_,.inl ⟨d,l1,rfl,h2.congr (fun q=>?_) (by omega)⟩⟩
   ·unfold b_direct_step_1
    dsimp only
    rw[ltB_nat,decide_eq_false (Nat.lt_irrefl _)]
    rfl
   ·constructor
    ·rintro⟨j,hj,c,hc,hq⟩
     exact⟨c,List.mem_of_getElem? hc,hq⟩
    ·rintro⟨c,hc,hq⟩
     obtain⟨j,hj⟩:=List.mem_iff_getElem?.1 hc
     exact⟨j,getE_lt hj,c,hj,hq⟩)
 rcases hq with ⟨d',l',e,hj⟩ | ⟨e,ho⟩
 ·exact .inl ⟨d',l',by rw[hr,e],hj⟩
 ·exact .inr ⟨by rw[hr,e],ho⟩
end
structure Canon (t:Tree) (p y:List Cell):Prop where
 sorted:y.Pairwise fun a b=>befC a b=true
 mem:∀ c,c∈y↔c.S=newS t p c.X c.Y/\c.S≠0
theorem Canon.uniq {t:Tree} {p y y':List Cell} (h:Canon t p y) (h':Canon t p y'):y=y':=sorted_ext h.sorted h'.sorted fun c=>(h.mem c).trans (h'.mem c).symm
def Stp (t:Tree) (p:List Cell) (r:List Cell×Int):Prop:=(Out t p/\r=([],5)) \/ (¬ Out t p/\∃ y,Canon t p y/\r=(bif gtB (aB y) 5000 then ([],6) else (y,0)))
theorem Stp.uniq {t:Tree} {p:List Cell} {r r':List Cell×Int} (h:Stp t p r) (h':Stp t p r'):r=r':=by
 rcases h with ⟨h1,rfl⟩ | ⟨h1,y,hy,rfl⟩<;>rcases h' with ⟨h2,rfl⟩ | ⟨h2,y',hy',rfl⟩
 ·rfl
 ·exact absurd h1 h2
 ·exact absurd h2 h1
 ·rw[hy.uniq hy']
theorem step_is {t:Tree} {p:List Cell} (h:Fit t p) (hs:Sz t):∃ r,m_direct_step t p=some r/\Stp t p r:=by
 obtain⟨y,hy,hm⟩:=of_eq h.pat
 unfold m_direct_step
 rw[hy]
 simp only[some_bind]
 rcases outer_loop h hs hm with ⟨d,l,e,hj⟩ | ⟨e,ho⟩
 ·rw[e]
  have hall:∀ x z,newS t p x z≠0->(⟨x,z,newS t p x z⟩:Cell)∈l:=fun x z hn=>by
   obtain⟨c,hc,o,ho,e1,e2⟩:=newS_near h hn
   exact hj.all ⟨x,z⟩ ⟨c,hc,o,ho,by rw[e1,e2]; congr 1<;>omega⟩ hn
  have hf:=from_eq (l:=l) (by have:=hj.len; omega) (fun c hc=>by
   have h1:=hj.mem c hc
   have h2:=(newS_eq h hs c.X c.Y).2
   have h3:=h.ok.s8
   exact⟨h1.2.2.2,by omega,by omega⟩) hj.dist
  simp only[some_bind]
  rw[hf]
  simp only[some_bind]
  refine⟨_,rfl,.inr ⟨fun⟨x,z,hn,hp⟩=>?_,isort cf_pattern_order l,⟨isort_sorted hj.dist,fun c=>⟨fun hc=>?_,fun⟨e1,e2⟩=>?_⟩⟩,?_⟩⟩
  ·have:=(hj.mem _ (hall x z hn)).2.2.2
   dsimp only at this
   rw[hp] at this
   cases this
  ·have:=hj.mem c ((cw l).subset hc)
   exact⟨this.2.1,this.2.2.1⟩
  ·refine (cw l).symm.subset ?_
   have:=hall c.X c.Y (by rw[<- e1]; exact e2)
   rw[<- e1] at this
   exact this
  ·rfl
 ·rw[e]
  exact⟨_,rfl,.inl ⟨ho,rfl⟩⟩
theorem step_eq {t:Tree} {p:List Cell} (hs:Sz t) (hp:p.length < 1099511627776):(fitE t p≠0/\m_direct_Step t p=some ([],fitE t p)) \/ (fitE t p=0/\∃ r,m_direct_Step t p=some r/\Stp t p r):=by
 unfold m_direct_Step
 rw[check_eq hs hp]
 simp only[some_bind]
 by_cases h0:fitE t p=0
 ·obtain⟨r,hr,h⟩:=step_is (fit_of h0) hs
  rw[hr,h0]
  exact .inr ⟨rfl,r,rfl,h⟩
 ·have:neB (fitE t p) 0=true:=by simpa [neB] using h0
  rw[this]
  exact .inl ⟨h0,rfl⟩
end Go.Proofs.YtffohfmfehjbmaaGreatDoor
namespace Go.Proofs.YtffohfmfehjbmaaGreatDoor
open Go.AM Go.Proofs
theorem app_in {l:List Cell} (hl:l.length<=5000000) (d:Cell):appL 24 l [d]=some (l++[d]):=by
 unfold appL
 rw[if_pos]
 simp only[List.length_cons,List.length_nil]
 omega
end Go.Proofs.YtffohfmfehjbmaaGreatDoor
namespace Go.Proofs.YtffohfmfehjbmaaGreatDoor
open Go.AM Go.Proofs
structure BoxOk (p:List Cell) (b:Box):Prop where
 inn:∀ c∈p,b.X<=c.X/\c.X < b.X+b.W/\b.Y<=c.Y/\c.Y < b.Y+b.H
 xl:-1048576<=b.X
 xh:b.X+b.W<=1048577
 yl:-1048576<=b.Y
 yh:b.Y+b.H<=1048577
 wh:(b.W=0/\b.H=0) \/ (1<=b.W/\1<=b.H)
theorem getS_out {p:List Cell} {x y:Int} (h:∀ c∈p,¬ (c.X=x/\c.Y=y)):getS p x y=0:=by
 apply Classical.byContradiction
 intro h0
 obtain⟨c,hc,e1,e2,_⟩:=getS_mem h0
 exact h c hc ⟨e1,e2⟩
end Go.Proofs.YtffohfmfehjbmaaGreatDoor
namespace Go.Proofs.YtffohfmfehjbmaaGreatDoor
open Go.AM Go.Proofs
structure NearOk (p:List Cell) (l:List Point):Prop where
 dist:l.Pairwise fun a b=>¬ (a.X=b.X/\a.Y=b.Y)
 inn:∀ q∈l,Near q.X q.Y
 all:∀ c∈p,∀ q:Point,c.X - 2<=q.X->q.X<=c.X+2->c.Y - 2<=q.Y->q.Y<=c.Y+2->q∈l
 len:l.length<=400000
structure BoxIn (b:Box):Prop where
 xl:-1048576<=b.X
 xh:b.X+b.W<=1048577
 yl:-1048576<=b.Y
 yh:b.Y+b.H<=1048577
 w0:0<=b.W
 h0:0<=b.H
 area:(b.H+4)*(b.W+4)<=400000
def InB (b:Box) (q:Point):Prop:=b.X - 2<=q.X/\q.X < b.X+b.W+2/\b.Y - 2<=q.Y/\q.Y < b.Y+b.H+2
structure Scan (b:Box) (x y:Int) (l:List Point) (k:Int):Prop where
 dist:l.Pairwise fun a b=>¬ (a.X=b.X/\a.Y=b.Y)
 mem:∀ q,q∈l↔InB b q/\(q.Y < y \/ (q.Y=y/\q.X < x))
 len:(l.length:Int)<=k
def By2 (c:Cell) (q:Point):Prop:=c.X - 2<=q.X/\q.X<=c.X+2/\c.Y - 2<=q.Y/\q.Y<=c.Y+2
structure Far (p:List Cell) (i:Nat) (c:Cell) (x y:Int) (l:List Point) (k:Int):Prop where
 dist:l.Pairwise fun a b=>¬ (a.X=b.X/\a.Y=b.Y)
 mem:∀ q,q∈l↔(∃ j < i,∃ c,p[j]?=some c/\By2 c q) \/ (By2 c q/\(q.Y < c.Y+y \/ (q.Y=c.Y+y/\q.X < c.X+x)))
 len:(l.length:Int)<=k
end Go.Proofs.YtffohfmfehjbmaaGreatDoor
namespace Go.Proofs.YtffohfmfehjbmaaGreatDoor
open Go.AM Go.Proofs
theorem run0_is {t:Tree} {p:List Cell} (hs:Sz t) (hp:p.length < 1099511627776):m_direct_Run t p 0=some (bif neB (fitE t p) 0 then ([],fitE t p) else (p,0)):=by
 unfold m_direct_Run
 rw[check_eq hs hp]
 simp only[some_bind]
 cases neB (fitE t p) 0 with
 | true=>rfl
 | false =>
  have hF:∃ k,aN=k+1:=⟨1099511627775,rfl⟩
  obtain⟨k,hk⟩:=hF
  have hl:aK (b_direct_Run_1 t 0) aN (p,0)=some (.inr p):=by
   rw[hk,aK]
   rfl
  rw[hl]
  rfl
theorem stp_pat {t:Tree} {p:List Cell} {r:List Cell×Int} (h:Fit t p) (hs:Sz t) (hr:Stp t p r) (h0:r.2=0):Fit t r.1:=by
 rcases hr with ⟨_,rfl⟩ | ⟨hno,y,hy,rfl⟩
 ·cases h0
 ·cases hg:gtB (aB y) 5000 with
  | true=>rw[hg] at h0; cases h0
  | false =>
   simp only[cond_false]
   have hl:=of_decide_eq_false hg
   unfold aB at hl
   have hc:∀ c∈y,(-1048576<=c.X/\c.X<=1048576/\-1048576<=c.Y/\c.Y<=1048576)/\1<=c.S/\c.S < t.States:=fun c hc=>by
    obtain⟨e1,e2⟩:=(hy.mem c).1 hc
    have hv:=(newS_eq h hs c.X c.Y).2
    refine⟨?_,by omega,by omega⟩
    rw[<- place_iff]
    cases hpl:placeB c.X c.Y with
    | true=>rfl
    | false=>exact absurd ⟨c.X,c.Y,by rw[<- e1]; exact e2,hpl⟩ hno
   have h8:=h.ok.s8
   exact⟨h.ok,h.zero,⟨by omega,fun c hc'=>⟨(hc c hc').1,by have:=(hc c hc').2; omega⟩,hy.sorted⟩,fun c hc'=>(hc c hc').2.2⟩
theorem anyB_all {α:Type} {f:α->Bool}:∀ {l:List α} {i:Nat},(∀ x∈l,f x=false)->anyB (fun _ x=>f x) l i=false
 | [],_,_=>rfl
 | x::l,i,h=>by
  unfold anyB
  rw[h x (by simp),anyB_all fun y hy=>h y (List.mem_cons_of_mem _ hy)]
  rfl
theorem fitE_of {t:Tree} {p:List Cell} (h:Fit t p) (hq:quietB t=true):fitE t p=0:=by
 unfold fitE
 have h1:patOk p=true:=by
  unfold patOk
  have hl:=h.pat.len
  have e:leB (aB p) 5000=true:=decide_eq_true (by unfold aB; omega)
  rw[e,Bool.true_and]
  have:anyB (badC p) p 0=false:=anyB_of_false fun j x hx=>by
   have hc:=h.pat.cell x (List.mem_of_getElem? hx)
   have hpl:=(place_iff x.X x.Y).2 hc.1
   unfold badC
   have e1:ltB x.S 1=false:=decide_eq_false (by omega)
   have e2:geB x.S 8=false:=decide_eq_false (by omega)
   rw[hpl,e1,e2,Nat.zero_add]
   cases j with
   | zero=>rfl
   | succ j =>
    obtain⟨y,hy⟩:=getE_prev hx
    simp only[hy]
    have h1:=getE_lt hx
    obtain⟨_,e3⟩:=List.getElem?_eq_some_iff.1 hx
    obtain⟨_,e4⟩:=List.getElem?_eq_some_iff.1 hy
    have:=List.pairwise_iff_getElem.1 h.pat.sorted j (j+1) (by omega) h1 (by omega)
    rw[e3,e4] at this
    rw[this]
    rfl
  rw[this]
  rfl
 have h2:anyB (fun _ (c:Cell)=>geB c.S t.States) p 0=false:=anyB_all fun c hc=>decide_eq_false (by have:=h.small c hc; omega)
 rw[hq,h1,h2]
 rfl
theorem fitE_quiet {t:Tree} {p:List Cell} (h:fitE t p=0):quietB t=true:=by
 unfold fitE at h
 cases hq:quietB t with
 | false=>rw[hq] at h; simp at h
 | true=>rfl
theorem stp_nil {t:Tree} {r:List Cell×Int} (h:Fit t []) (hr:Stp t [] r):r=([],0):=by
 have h0:∀ x y,newS t [] x y=0:=fun x y=>by
  apply Classical.byContradiction
  intro hn
  obtain⟨c,hc,_⟩:=newS_near h hn
  simp at hc
 rcases hr with ⟨⟨x,y,hn,_⟩,_⟩ | ⟨_,y,hy,rfl⟩
 ·exact absurd (h0 x y) hn
 ·have:y=[]:=by
   cases y with
   | nil=>rfl
   | cons c y =>
    obtain⟨e1,e2⟩:=(hy.mem c).1 (by simp)
    exact absurd (e1.trans (h0 _ _)) e2
  subst this
  rfl
def relC (h c:Cell):Cell:=⟨c.X - h.X,c.Y - h.Y,c.S⟩
def homeL:List Cell->List Cell
 | []=>[]
 | h::l=>(h::l).map (relC h)
theorem order_ne {a b:Int} (h:a≠b):∃ v,m_R05_order a b=some v/\v≠0:=by
 unfold m_R05_order ltB gtB
 by_cases h1:a < b
 ·simp[h1]
 ·have:a > b:=by omega
  simp[h1,this]
theorem order_self (a:Int):m_R05_order a a=some 0:=by
 unfold m_R05_order ltB gtB
 simp
theorem same_eq {a b:List Cell} (ha:a.length<=5000) (hb:b.length<=5000):m_R05_Same a b=some (decide (a=b)):=by
 have hmain:∃ v,m_R05_Compare a b=some v/\(v=0↔a=b):=by
  obtain⟨t,ht,hq⟩:=loop_iv (b:=b_R05_Compare_1 a b) (n:=min a.length b.length) (s:=0) (fun i s=>s=(i:Int)/\a.take i=b.take i)
   (fun t=>(∃ v,t=.inl v/\v≠0/\a≠b) \/ (t=.inr ()/\a.take (min a.length b.length)=b.take (min a.length b.length))) (by omega)
   ⟨rfl,rfl⟩
   (fun i s hi ⟨h1,h2⟩=>by
    subst h1
    have hxa:a[i]?=some (a[i]'(by omega)):=List.getElem?_eq_getElem (by omega)
    have hxb:b[i]?=some (b[i]'(by omega)):=List.getElem?_eq_getElem (by omega)
    obtain⟨w,hw⟩:∃ w,b_R05_Compare_1 a b (i:Int)=w:=⟨_,rfl⟩
    rw[hw]
    unfold b_R05_Compare_1 at hw
    dsimp only at hw
    rw[ltB_nat,ltB_nat,decide_eq_true (by omega),decide_eq_true (by omega),idx_nat,idx_nat,hxa,hxb,up_nat (by omega)] at hw
    simp only[cond_true,some_bind] at hw
    have hne:∀ {v:Int} {x y:Int},x≠y->(∀ (e:a=b),x=y)->m_R05_order x y=some v->v≠0->(∃ v',(Sum.inl v:Int ⊕ Unit)=.inl v'/\v'≠0/\a≠b):=fun hxy hab _ hv=>⟨_,rfl,hv,fun e=>hxy (hab e)⟩
    have hab:a=b->(a[i]'(by omega))=(b[i]'(by omega)):=fun e=>by
     subst e; rfl
    by_cases hY:(a[i]'(by omega)).Y=(b[i]'(by omega)).Y
    ·have e1:neB (a[i]'(by omega)).Y (b[i]'(by omega)).Y=false:=by simpa [neB] using hY
     rw[e1] at hw
     simp only[cond_false] at hw
     by_cases hX:(a[i]'(by omega)).X=(b[i]'(by omega)).X
     ·have e2:neB (a[i]'(by omega)).X (b[i]'(by omega)).X=false:=by simpa [neB] using hX
      rw[e2] at hw
      simp only[cond_false] at hw
      by_cases hS:(a[i]'(by omega)).S=(b[i]'(by omega)).S
      ·have e3:neB (a[i]'(by omega)).S (b[i]'(by omega)).S=false:=by simpa [neB] using hS
       rw[e3] at hw
       simp only[cond_false] at hw
       refine .inl ⟨_,hw.symm,rfl,?_⟩
       rw[List.take_add_one,List.take_add_one,h2,hxa,hxb]
       congr 2
       revert hX hY hS
       generalize (a[i]'(by omega))=u
       generalize (b[i]'(by omega))=v
       intro hX hY hS
       cases u; cases v
       simp_all
      ·have e3:neB (a[i]'(by omega)).S (b[i]'(by omega)).S=true:=by simpa [neB] using hS
       rw[e3] at hw
       obtain⟨v,hv,hv0⟩:=order_ne hS
       rw[hv] at hw
       exact .inr ⟨_,hw.symm,.inl ⟨v,rfl,hv0,fun e=>hS (by rw[hab e])⟩⟩
     ·have e2:neB (a[i]'(by omega)).X (b[i]'(by omega)).X=true:=by simpa [neB] using hX
      rw[e2] at hw
      obtain⟨v,hv,hv0⟩:=order_ne hX
      rw[hv] at hw
      exact .inr ⟨_,hw.symm,.inl ⟨v,rfl,hv0,fun e=>hX (by rw[hab e])⟩⟩
    ·have e1:neB (a[i]'(by omega)).Y (b[i]'(by omega)).Y=true:=by simpa [neB] using hY
     rw[e1] at hw
     obtain⟨v,hv,hv0⟩:=order_ne hY
     rw[hv] at hw
     exact .inr ⟨_,hw.symm,.inl ⟨v,rfl,hv0,fun e=>hY (by rw[hab e])⟩⟩)
   (fun s ⟨h1,h2⟩=>by
    subst h1
    refine⟨_,?_,.inr ⟨rfl,h2⟩⟩
    unfold b_R05_Compare_1
    dsimp only
    rw[ltB_nat,ltB_nat]
    by_cases hab:min a.length b.length < a.length
    ·have:¬ min a.length b.length < b.length:=by omega
     rw[decide_eq_true hab,decide_eq_false this]
     rfl
    ·rw[decide_eq_false hab]
     rfl)
  unfold m_R05_Compare
  rw[ht]
  rcases hq with ⟨v,rfl,hv,hab⟩ | ⟨rfl,htk⟩
  ·exact⟨v,rfl,⟨fun h=>absurd h hv,fun h=>absurd h hab⟩⟩
  ·by_cases hlen:a.length=b.length
   ·have e:a=b:=by
     rw[hlen,Nat.min_self,List.take_length] at htk
     rw[<- hlen,List.take_length] at htk
     exact htk
    refine⟨0,?_,⟨fun _=>e,fun _=>rfl⟩⟩
    simp only[some_bind]
    unfold aB
    rw[hlen,order_self]
    rfl
   ·obtain⟨v,hv,hv0⟩:=order_ne (a:=aB a) (b:=aB b) (by unfold aB; omega)
    refine⟨v,?_,⟨fun h=>absurd h hv0,fun h=>absurd (by rw[h]) hlen⟩⟩
    simp only[some_bind,hv]
 obtain⟨v,hv,hiff⟩:=hmain
 unfold m_R05_Same
 rw[hv]
 simp only[some_bind]
 congr 1
 unfold eqB
 by_cases h:a=b
 ·rw[decide_eq_true h,hiff.2 h]; rfl
 ·rw[decide_eq_false h]
  have:v≠0:=fun e=>h (hiff.1 e)
  simpa using this
end Go.Proofs.YtffohfmfehjbmaaGreatDoor
namespace Go.Proofs.YtffohfmfehjbmaaGreatDoor
open Go.AM Go.Proofs
def hdC (l:List Cell):Cell:=(l[0]?).getD ⟨0,0,0⟩
def mvB (p y:List Cell):Bool:=decide (p≠[]/\homeL y=homeL p)
def mvR (p y:List Cell):Int×Int×Bool:=bif mvB p y then ((hdC y).X - (hdC p).X,(hdC y).Y - (hdC p).Y,true) else (0,0,false)
theorem homeL_length (l:List Cell):(homeL l).length=l.length:=by
 cases l<;>simp[homeL]
theorem homeL_get {l:List Cell} {c0:Cell} (h0:l[0]?=some c0) (i:Nat):(homeL l)[i]?=(l[i]?).map (relC c0):=by
 cases l with
 | nil=>simp at h0
 | cons h l =>
  simp only[List.getElem?_cons_zero,Option.some.injEq] at h0
  subst h0
  unfold homeL
  rw[List.getElem?_map]
theorem moved_eq {p y:List Cell} (hp:Pat p) (hy:Pat y):m_period_moved p y=some (mvR p y):=by
 have hpl:=hp.len
 have hyl:=hy.len
 unfold m_period_moved
 simp only[bif_some,bif_some_t,some_bind]
 cases hc:neB (aB p) (aB y) || eqB (aB p) 0 with
 | true =>
  have hm:mvB p y=false:=by
   unfold mvB
   rw[decide_eq_false_iff_not]
   rintro⟨h1,h2⟩
   have h3:=congrArg List.length h2
   rw[homeL_length,homeL_length] at h3
   have h4:p.length≠0:=fun e=>h1 (List.eq_nil_of_length_eq_zero e)
   simp only[Bool.or_eq_true,neB,eqB,bne_iff_ne,beq_iff_eq] at hc
   unfold aB at hc
   omega
  unfold mvR
  rw[hm]
  rfl
 | false =>
  simp only[Bool.or_eq_false_iff,neB,eqB,bne_eq_false_iff_eq,beq_eq_false_iff_ne] at hc
  unfold aB at hc
  have hlen:p.length=y.length:=by omega
  have hp0:p[0]?=some (p[0]'(by omega)):=List.getElem?_eq_getElem (by omega)
  have hy0:y[0]?=some (y[0]'(by omega)):=List.getElem?_eq_getElem (by omega)
  have hcp:=(hp.cell _ (List.mem_of_getElem? hp0)).1
  have hcy:=(hy.cell _ (List.mem_of_getElem? hy0)).1
  have i0p:idx p 0=some (p[0]'(by omega)):=by rw[show (0:Int)=((0:Nat):Int) from rfl,idx_nat,hp0]
  have i0y:idx y 0=some (y[0]'(by omega)):=by rw[show (0:Int)=((0:Nat):Int) from rfl,idx_nat,hy0]
  simp only[cond_false]
  rw[i0p,i0y]
  simp only[some_bind]
  have hpne:p≠[]:=fun e=>by rw[e] at hc; simp at hc
  have hd1:hdC p=(p[0]'(by omega)):=by unfold hdC; rw[hp0]; rfl
  have hd2:hdC y=(y[0]'(by omega)):=by unfold hdC; rw[hy0]; rfl
  obtain⟨t,ht,hq⟩:=loop_iv (b:=b_period_moved_1 p y (y[0]'(by omega)) (p[0]'(by omega))) (n:=p.length) (s:=0) (fun i s=>s=(i:Int)/\∀ j < i,(homeL y)[j]?=(homeL p)[j]?)
   (fun t=>(t=.inl (0,0,false)/\mvB p y=false) \/ (t=.inr ()/\mvB p y=true)) (by omega)
   ⟨rfl,fun j hj=>by omega⟩
   (fun i s hi ⟨h1,h2⟩=>by
    subst h1
    have hxp:p[i]?=some (p[i]'(by omega)):=List.getElem?_eq_getElem (by omega)
    have hxy:y[i]?=some (y[i]'(by omega)):=List.getElem?_eq_getElem (by omega)
    have h1p:=(hp.cell _ (List.mem_of_getElem? hxp)).1
    have h1y:=(hy.cell _ (List.mem_of_getElem? hxy)).1
    obtain⟨w,hw⟩:∃ w,b_period_moved_1 p y (y[0]'(by omega)) (p[0]'(by omega)) (i:Int)=w:=⟨_,rfl⟩
    rw[hw]
    unfold b_period_moved_1 at hw
    dsimp only at hw
    rw[ltB_nat,decide_eq_true hi,idx_nat,idx_nat,hxp,hxy,up_nat (by omega)] at hw
    simp only[cond_true,some_bind] at hw
    rw[isub_in (by omega),isub_in (by omega),iadd_in (by omega),iadd_in (by omega)] at hw
    have gy:=homeL_get hy0 i
    have gp:=homeL_get hp0 i
    rw[hxy] at gy
    rw[hxp] at gp
    by_cases he:(homeL y)[i]?=(homeL p)[i]?
    ·have he':=he
     rw[gy,gp] at he'
     simp only[Option.map_some,Option.some.injEq,relC,Cell.mk.injEq] at he'
     have e1:bW (eqB (y[i]'(by omega)).X ((p[i]'(by omega)).X+((y[0]'(by omega)).X - (p[0]'(by omega)).X))) (bW (eqB (y[i]'(by omega)).Y ((p[i]'(by omega)).Y+((y[0]'(by omega)).Y - (p[0]'(by omega)).Y))) (bW (eqB (y[i]'(by omega)).S (p[i]'(by omega)).S) true))=true:=by
      unfold bW eqB
      simp only[Bool.and_eq_true,beq_iff_eq,and_true]
      omega
     rw[e1] at hw
     refine .inl ⟨_,hw.symm,rfl,fun j hj=>?_⟩
     rcases Nat.lt_succ_iff_lt_or_eq.1 hj with hj | rfl
     ·exact h2 j hj
     ·exact he
    ·have e1:bW (eqB (y[i]'(by omega)).X ((p[i]'(by omega)).X+((y[0]'(by omega)).X - (p[0]'(by omega)).X))) (bW (eqB (y[i]'(by omega)).Y ((p[i]'(by omega)).Y+((y[0]'(by omega)).Y - (p[0]'(by omega)).Y))) (bW (eqB (y[i]'(by omega)).S (p[i]'(by omega)).S) true))=false:=by
      rw[Bool.eq_false_iff]
      unfold bW eqB
      simp only[ne_eq,Bool.and_eq_true,beq_iff_eq,and_true]
      rintro⟨a1,a2,a3⟩
      apply he
      rw[gy,gp]
      simp only[Option.map_some,Option.some.injEq,relC,Cell.mk.injEq]
      omega
     rw[e1] at hw
     refine .inr ⟨_,hw.symm,.inl ⟨rfl,?_⟩⟩
     unfold mvB
     rw[decide_eq_false_iff_not]
     rintro⟨_,h⟩
     exact he (by rw[h]))
   (fun s ⟨h1,h2⟩=>by
    subst h1
    refine⟨_,?_,.inr ⟨rfl,?_⟩⟩
    ·unfold b_period_moved_1
     dsimp only
     rw[ltB_nat,decide_eq_false (Nat.lt_irrefl _)]
     rfl
    ·unfold mvB
     rw[decide_eq_true_eq]
     refine⟨hpne,List.ext_getElem? fun j=>?_⟩
     by_cases hj:j < p.length
     ·exact h2 j hj
     ·rw[List.getElem?_eq_none (by rw[homeL_length]; omega),List.getElem?_eq_none (by rw[homeL_length]; omega)])
  rw[ht]
  unfold mvR
  rcases hq with ⟨rfl,hm⟩ | ⟨rfl,hm⟩
  ·rw[hm]; rfl
  ·rw[hm,hd1,hd2]
   simp only[some_bind,cond_true]
   rw[isub_in (by omega),isub_in (by omega)]
def stepS (t:Tree) (q:List Cell):List Cell×Int:=(m_direct_Step t q).getD ([],0)
theorem stepS_eq {t:Tree} {q:List Cell} (hs:Sz t) (hq:q.length < 1099511627776):m_direct_Step t q=some (stepS t q)/\((fitE t q≠0/\stepS t q=([],fitE t q)) \/ (fitE t q=0/\Stp t q (stepS t q))):=by
 rcases step_eq hs hq with ⟨h0,h1⟩ | ⟨h0,r,h1,h2⟩
 ·have e:stepS t q=([],fitE t q):=by unfold stepS; rw[h1]; rfl
  rw[e]
  exact⟨h1,.inl ⟨h0,rfl⟩⟩
 ·have e:stepS t q=r:=by unfold stepS; rw[h1]; rfl
  rw[e]
  exact⟨h1,.inr ⟨h0,h2⟩⟩
def findS (t:Tree) (p:List Cell):Nat->List Cell->Int->(Motion×Bool×Int) ⊕ Unit
 | 0,_,_=>.inr ()
 | n+1,q,g=>bif neB (stepS t q).2 0 then .inl (⟨0,0,0⟩,false,(stepS t q).2) else bif mvB p (stepS t q).1 then .inl (⟨g,(hdC (stepS t q).1).X - (hdC p).X,(hdC (stepS t q).1).Y - (hdC p).Y⟩,true,0) else findS t p n (stepS t q).1 (g+1)
theorem stepS_fit {t:Tree} {q:List Cell} (hs:Sz t) (hq:fitE t q=0) (h0:(stepS t q).2=0):fitE t (stepS t q).1=0:=by
 have hl:=(fit_of hq).pat.len
 rcases (stepS_eq hs (q:=q) (by omega)).2 with ⟨h,_⟩ | ⟨_,h⟩
 ·exact absurd hq h
 ·exact fitE_of (stp_pat (fit_of hq) hs h h0) (fitE_quiet hq)
theorem stepS_nil {t:Tree} (hs:Sz t) (hp:fitE t []=0):stepS t []=([],0):=by
 rcases (stepS_eq hs (q:=[]) (by simp)).2 with ⟨h,_⟩ | ⟨_,h⟩
 ·exact absurd hp h
 ·exact stp_nil (fit_of hp) h
theorem findS_nil {t:Tree} {p:List Cell} (hs:Sz t) (hp:fitE t []=0):∀ (n:Nat) (g:Int),findS t p n [] g=.inr ()
 | 0,_=>rfl
 | n+1,g=>by
  unfold findS
  rw[stepS_nil hs hp]
  have e1:neB (([]:List Cell),(0:Int)).2 0=false:=rfl
  have e2:mvB p (([]:List Cell),(0:Int)).1=false:=by
   unfold mvB
   rw[decide_eq_false_iff_not]
   rintro⟨h1,h2⟩
   cases p with
   | nil=>exact h1 rfl
   | cons c p=>simp[homeL] at h2
  rw[e1,e2]
  exact findS_nil hs hp n _
section
variable {t:Tree} {p:List Cell} {most:Int} (hs:Sz t) (hp:fitE t p=0) (hm:most<=64)
include hs hp hm
theorem find_loop:∀ (n:Nat) (q:List Cell) (g:Int) (k:Nat),fitE t q=0->1<=g->g+n=most+1->n < k->aK (b_period_Find_1 t p most) k (q,g)=some (findS t p n q g)
 | 0,q,g,k,hq,hg,hn,hk=>by
  obtain⟨k,rfl⟩:∃ j,k=j+1:=⟨k - 1,by omega⟩
  rw[aK]
  unfold b_period_Find_1
  have e:leB g most=false:=decide_eq_false (by omega)
  dsimp only
  rw[e]
  rfl
 | n+1,q,g,k,hq,hg,hn,hk=>by
  obtain⟨k,rfl⟩:∃ j,k=j+1:=⟨k - 1,by omega⟩
  have hl:=(fit_of hq).pat.len
  have h1:=(stepS_eq hs (q:=q) (by omega)).1
  rw[aK]
  obtain⟨w,hw⟩:∃ w,b_period_Find_1 t p most (q,g)=w:=⟨_,rfl⟩
  rw[hw]
  unfold b_period_Find_1 at hw
  have e:leB g most=true:=decide_eq_true (by omega)
  dsimp only at hw
  rw[e] at hw
  simp only[cond_true,some_bind] at hw
  cases hq0:gtB (aB q) 0 with
  | false =>
   have hnil:q=[]:=by
    have:=of_decide_eq_false hq0
    unfold aB at this
    exact List.eq_nil_of_length_eq_zero (by omega)
   subst hnil
   rw[hq0] at hw
   rw[<- hw,findS_nil hs hq]
   rfl
  | true =>
   rw[hq0,h1] at hw
   simp only[cond_true,some_bind] at hw
   unfold findS
   cases he:neB (stepS t q).2 0 with
   | true =>
    rw[he] at hw
    rw[<- hw]
    rfl
   | false =>
    have he0:(stepS t q).2=0:=by simpa [neB] using he
    have hf:=stepS_fit hs hq he0
    rw[he,moved_eq (fit_of hp).pat (fit_of hf).pat] at hw
    simp only[cond_false,some_bind] at hw
    unfold mvR at hw
    cases hmv:mvB p (stepS t q).1 with
    | true =>
     rw[hmv] at hw
     rw[<- hw]
     rfl
    | false =>
     rw[hmv] at hw
     rw[<- hw]
     simp only[cond_false]
     rw[iadd_in (by omega)]
     exact find_loop n _ _ k hf (by omega) (by omega) (by omega)
end
def findA (t:Tree) (p:List Cell) (most:Int):Motion×Bool×Int :=
 bif neB (fitE t p) 0 then (⟨0,0,0⟩,false,fitE t p) else bif !(decide (1<=most) && decide (most<=64)) then (⟨0,0,0⟩,false,2) else match findS t p most.toNat p 1 with
  | .inl r=>r
  | .inr _=>(⟨0,0,0⟩,false,0)
theorem proper_is (n:Int):m_period_proper n=some (decide (1<=n) && decide (n<=64)):=by
 unfold m_period_proper geB leB
 by_cases h:n≥1<;>simp[h]<;>omega
theorem find_eq {t:Tree} {p:List Cell} (hs:Sz t) (hp:p.length < 1099511627776) (most:Int):m_period_Find t p most=some (findA t p most):=by
 unfold m_period_Find findA
 rw[run0_is hs hp]
 simp only[some_bind]
 cases hn:neB (fitE t p) 0 with
 | true =>
  simp only[cond_true,hn]
 | false =>
  have h0:fitE t p=0:=by simpa [neB] using hn
  simp only[cond_false]
  have e:neB 0 0=false:=rfl
  rw[e,proper_is]
  simp only[cond_false,some_bind,ba]
  cases hm:(decide (1<=most) && decide (most<=64)) with
  | false=>rfl
  | true =>
   simp only[Bool.and_eq_true,decide_eq_true_eq] at hm
   rw[find_loop hs h0 (by omega) most.toNat p 1 aN h0 (by omega) (by omega) (by unfold aN; omega)]
   simp only[Bool.not_true,cond_false,some_bind]
   cases findS t p most.toNat p 1<;>rfl
theorem findS_err (t:Tree) (p:List Cell):∀ (n:Nat) (q:List Cell) (g:Int) r,findS t p n q g=.inl r->r.2.2≠0->r.2.1=false
 | 0,_,_,r,h,_=>by cases h
 | n+1,q,g,r,h,h0=>by
  unfold findS at h
  cases he:neB (stepS t q).2 0 with
  | true =>
   rw[he] at h
   cases h
   rfl
  | false =>
   rw[he] at h
   cases hm:mvB p (stepS t q).1 with
   | true =>
    rw[hm] at h
    cases h
    exact absurd rfl h0
   | false =>
    rw[hm] at h
    exact findS_err t p n _ _ r h h0
theorem findA_err {t:Tree} {p:List Cell} {most:Int} (h:(findA t p most).2.2≠0):(findA t p most).2.1=false:=by
 unfold findA at *
 cases hn:neB (fitE t p) 0 with
 | true=>rfl
 | false =>
  rw[hn] at h
  simp only[cond_false] at h ⊢
  cases hm:!(decide (1<=most) && decide (most<=64)) with
  | true=>rfl
  | false =>
   rw[hm] at h
   simp only[cond_false] at h ⊢
   cases hf:findS t p most.toNat p 1 with
   | inl r =>
    rw[hf] at h
    exact findS_err t p _ _ _ r hf h
   | inr u=>rfl
end Go.Proofs.YtffohfmfehjbmaaGreatDoor
namespace Go.Proofs.YtffohfmfehjbmaaGreatDoor
open Go.AM Go.Proofs
section
variable {t:Tree} {gens most:Int} (hs:Sz t) (hg1:gens<=10000)
include hs hg1
end
def iterS (t:Tree):Nat->List Cell->List Cell×Int
 | 0,q=>(q,0)
 | n+1,q=>bif neB (stepS t q).2 0 then ([],(stepS t q).2) else iterS t n (stepS t q).1
theorem step_fit {t:Tree} {q:List Cell} (hs:Sz t) (hq:fitE t q=0):m_direct_step t q=some (stepS t q):=by
 have hl:=(fit_of hq).pat.len
 have h1:=(stepS_eq hs (q:=q) (by omega)).1
 unfold m_direct_Step at h1
 rw[check_eq hs (by omega)] at h1
 simp only[some_bind] at h1
 have e:neB (fitE t q) 0=false:=by simpa [neB] using hq
 rw[e] at h1
 simp only[cond_false] at h1
 cases hd:m_direct_step t q with
 | none=>rw[hd] at h1; cases h1
 | some y=>rw[hd] at h1; exact h1
theorem run_loop {t:Tree} (hs:Sz t) {N:Int} (hN:N<=10000):∀ (n:Nat) (q:List Cell) (a:Int) (k:Nat),fitE t q=0->0<=a->a+n=N->n < k ->
  aK (b_direct_Run_1 t N) k (q,a)=some (bif neB (iterS t n q).2 0 then .inl (iterS t n q) else .inr (iterS t n q).1)
 | 0,q,a,k,hq,ha,hn,hk=>by
  obtain⟨k,rfl⟩:∃ j,k=j+1:=⟨k - 1,by omega⟩
  rw[aK]
  unfold b_direct_Run_1
  have e:ltB a N=false:=decide_eq_false (by omega)
  dsimp only
  rw[e]
  rfl
 | n+1,q,a,k,hq,ha,hn,hk=>by
  obtain⟨k,rfl⟩:∃ j,k=j+1:=⟨k - 1,by omega⟩
  rw[aK]
  obtain⟨w,hw⟩:∃ w,b_direct_Run_1 t N (q,a)=w:=⟨_,rfl⟩
  rw[hw]
  unfold b_direct_Run_1 at hw
  have e:ltB a N=true:=decide_eq_true (by omega)
  dsimp only at hw
  rw[e,step_fit hs hq] at hw
  simp only[cond_true,some_bind] at hw
  rw[iadd_in (by omega)] at hw
  unfold iterS
  cases he:neB (stepS t q).2 0 with
  | true =>
   rw[he] at hw
   rw[<- hw]
   simp only[cond_true,he]
  | false =>
   rw[he] at hw
   rw[<- hw]
   simp only[cond_false]
   exact run_loop hs hN n _ _ k (stepS_fit hs hq (by simpa [neB] using he)) (by omega) (by omega) (by omega)
theorem run_eq {t:Tree} (hs:Sz t) {p:List Cell} (hp:fitE t p=0) {n:Nat} (hn:n<=10000):m_direct_Run t p (n:Int)=some (iterS t n p):=by
 have hl:=(fit_of hp).pat.len
 unfold m_direct_Run
 rw[check_eq hs (by omega)]
 simp only[some_bind]
 have e:neB (fitE t p) 0=false:=by simpa [neB] using hp
 have e1:ltB (n:Int) 0=false:=decide_eq_false (by omega)
 have e2:gtB (n:Int) 10000=false:=decide_eq_false (by omega)
 rw[e,e1,e2,run_loop hs (by omega) n p 0 aN hp (by omega) (by omega) (by unfold aN; omega)]
 simp only[cond_false,some_bind]
 cases he:neB (iterS t n p).2 0 with
 | true=>rfl
 | false =>
  have h0:(iterS t n p).2=0:=by simpa [neB] using he
  simp only[cond_false]
  rw[<- h0]
structure First (t:Tree) (p:List Cell) (most:Int) (k:Nat) (m:Motion):Prop where
 here:∃ q,iterS t k p=(q,0)/\fitE t q=0/\((q=[]/\m=⟨0,0,0⟩) \/ (q≠[]/\findA t q most=(m,true,0)))
 before:∀ j,k=j+1->∃ q m',iterS t j p=(q,0)/\fitE t q=0/\q≠[]/\findA t q most=(m',false,0)
end Go.Proofs.YtffohfmfehjbmaaGreatDoor
namespace Go.Proofs.YtffohfmfehjbmaaGreatDoor
open Go.AM Go.Proofs
def newF (t:Tree) (S:Int->Int->Int):Int->Int->Int:=fun x y=>(walkV t (t.Hood.map fun o=>S (x+o.X) (y+o.Y)) (aL .i64 (aB t.Nodes) 1)).getD 0
def shF (a b:Int) (S:Int->Int->Int):Int->Int->Int:=fun x y=>S (x - a) (y - b)
def itF (t:Tree):Nat->(Int->Int->Int)->Int->Int->Int
 | 0,S=>S
 | n+1,S=>itF t n (newF t S)
theorem newF_sh (t:Tree) (a b:Int) (S:Int->Int->Int):newF t (shF a b S)=shF a b (newF t S):=by
 funext x y
 unfold newF shF
 congr 2
 refine List.map_congr_left fun o _=>?_
 congr 1<;>omega
theorem itF_sh (t:Tree) (a b:Int):∀ (n:Nat) (S:Int->Int->Int),itF t n (shF a b S)=shF a b (itF t n S)
 | 0,_=>rfl
 | n+1,S=>by
  unfold itF
  rw[newF_sh,itF_sh t a b n]
theorem itF_add (t:Tree):∀ (m n:Nat) (S:Int->Int->Int),itF t (m+n) S=itF t n (itF t m S)
 | 0,n,S=>by rw[Nat.zero_add]; rfl
 | m+1,n,S=>by
  rw[Nat.add_right_comm]
  show itF t (m+n) (newF t S)=_
  rw[itF_add t m n]
  rfl
theorem shF_add (a b c d:Int) (S:Int->Int->Int):shF a b (shF c d S)=shF (a+c) (b+d) S:=by
 funext x y
 unfold shF
 congr 1<;>omega
theorem mem_getS {p:List Cell} (h:Pat p) (c:Cell):c∈p↔getS p c.X c.Y=c.S/\c.S≠0:=by
 constructor
 ·intro hc
  have:=(h.cell c hc).2
  exact⟨getS_of h.sorted hc,by omega⟩
 ·rintro⟨h1,h2⟩
  obtain⟨d,hd,e1,e2,e3⟩:=getS_mem (by rw[h1]; exact h2)
  have:d=c:=by
   cases c; cases d
   simp_all
  rw[<- this]
  exact hd
def shC (a b:Int) (c:Cell):Cell:=⟨c.X+a,c.Y+b,c.S⟩
def shL (a b:Int) (l:List Cell):List Cell:=l.map (shC a b)
theorem getS_sh (a b:Int) (p:List Cell):getS (shL a b p)=shF a b (getS p):=by
 funext x y
 unfold shF getS shL
 rw[List.find?_map]
 have e:(fun c:Cell=>c.X == x && c.Y == y) ∘ shC a b=fun c=>c.X == x - a && c.Y == y - b:=by
  funext c
  unfold shC
  simp only[Function.comp]
  rw[Bool.eq_iff_iff]
  simp only[Bool.and_eq_true,beq_iff_eq]
  omega
 rw[e]
 cases p.find? (fun c=>c.X == x - a && c.Y == y - b)<;>rfl
theorem befC_sh (a b:Int) (c d:Cell):befC (shC a b c) (shC a b d)=befC c d:=by
 rw[Bool.eq_iff_iff,befC_iff,befC_iff]
 unfold shC
 dsimp only
 omega
theorem sh_sorted {a b:Int} {p:List Cell} (h:p.Pairwise fun a b=>befC a b=true):(shL a b p).Pairwise fun a b=>befC a b=true:=by
 unfold shL
 rw[List.pairwise_map]
 exact h.imp fun{c d} hcd=>by rw[befC_sh]; exact hcd
def InR (p:List Cell):Prop:=∀ c∈p,placeB c.X c.Y=true
theorem inR_pat {p:List Cell} (h:Pat p):InR p:=fun c hc=>(place_iff _ _).2 (h.cell c hc).1
theorem newS_newF (t:Tree) (p:List Cell) (x y:Int):newS t p x y=newF t (getS p) x y:=rfl
theorem canon_getS {t:Tree} {p y:List Cell} (h:Canon t p y):getS y=newF t (getS p):=by
 funext x z
 rw[<- newS_newF]
 by_cases h0:newS t p x z=0
 ·rw[h0]
  refine getS_out fun c hc ⟨e1,e2⟩=>?_
  obtain⟨h1,h2⟩:=(h.mem c).1 hc
  rw[e1,e2,h0] at h1
  exact h2 h1
 ·have:(⟨x,z,newS t p x z⟩:Cell)∈y:=(h.mem _).2 ⟨rfl,h0⟩
  exact getS_of h.sorted this
theorem stepS_cases {t:Tree} {q:List Cell} (hs:Sz t) (hq:fitE t q=0):stepS t q=([],5) \/ stepS t q=([],6) \/ ∃ y,stepS t q=(y,0)/\fitE t y=0/\getS y=newF t (getS q):=by
 have hl:=(fit_of hq).pat.len
 rcases (stepS_eq hs (q:=q) (by omega)).2 with ⟨h,_⟩ | ⟨_,h⟩
 ·exact absurd hq h
 ·rcases h with ⟨_,e⟩ | ⟨hno,y,hy,e⟩
  ·exact .inl e
  ·cases hg:gtB (aB y) 5000 with
   | true=>rw[hg] at e; exact .inr (.inl e)
   | false =>
    rw[hg] at e
    refine .inr (.inr ⟨y,e,?_,canon_getS hy⟩)
    have:=stepS_fit hs hq (by rw[e]; rfl)
    rw[e] at this
    exact this
theorem stepS_to {t:Tree} {q y:List Cell} (hs:Sz t) (hq:fitE t q=0) (hy:Pat y) (h:getS y=newF t (getS q)):stepS t q=(y,0):=by
 have hl:=(fit_of hq).pat.len
 have hm:∀ c,c∈y↔c.S=newS t q c.X c.Y/\c.S≠0:=fun c=>by
  rw[mem_getS hy,h,<- newS_newF]
  exact⟨fun⟨a,b⟩=>⟨a.symm,b⟩,fun⟨a,b⟩=>⟨a.symm,b⟩⟩
 have hC:Canon t q y:=⟨hy.sorted,hm⟩
 have hno:¬ Out t q:=fun⟨x,z,hn,hp⟩=>by
  have:=inR_pat hy ⟨x,z,newS t q x z⟩ ((hm _).2 ⟨rfl,hn⟩)
  dsimp only at this
  rw[hp] at this
  cases this
 have hS:Stp t q (y,0):=.inr ⟨hno,y,hC,by
  have:gtB (aB y) 5000=false:=decide_eq_false (by have:=hy.len; unfold aB; omega)
  rw[this]
  rfl⟩
 rcases (stepS_eq hs (q:=q) (by omega)).2 with ⟨h,_⟩ | ⟨_,h⟩
 ·exact absurd hq h
 ·exact h.uniq hS
theorem iterS_fit {t:Tree} (hs:Sz t):∀ (n:Nat) (q y:List Cell),fitE t q=0->iterS t n q=(y,0)->fitE t y=0/\getS y=itF t n (getS q)
 | 0,q,y,hq,h=>by
  cases h
  exact⟨hq,rfl⟩
 | n+1,q,y,hq,h=>by
  unfold iterS at h
  cases he:neB (stepS t q).2 0 with
  | true =>
   rw[he] at h
   have h0:(stepS t q).2≠0:=by simpa [neB] using he
   simp only[cond_true,Prod.mk.injEq] at h
   exact absurd h.2 h0
  | false =>
   rw[he] at h
   have h0:(stepS t q).2=0:=by simpa [neB] using he
   have hf:=stepS_fit hs hq h0
   obtain⟨h1,h2⟩:=iterS_fit hs n _ y hf h
   refine⟨h1,?_⟩
   have e2:itF t (n+1) (getS q)=itF t n (newF t (getS q)):=rfl
   rw[h2,e2]
   rcases stepS_cases hs hq with e | e | ⟨y',e,_,h3⟩
   ·rw[e] at h0; cases h0
   ·rw[e] at h0; cases h0
   ·rw[e,<- h3]
theorem iterS_add (t:Tree):∀ (m n:Nat) (q y:List Cell),iterS t m q=(y,0)->iterS t (m+n) q=iterS t n y
 | 0,n,q,y,h=>by
  cases h
  rw[Nat.zero_add]
 | m+1,n,q,y,h=>by
  rw[Nat.add_right_comm]
  have e1:iterS t (m+n+1) q=bif neB (stepS t q).2 0 then ([],(stepS t q).2) else iterS t (m+n) (stepS t q).1:=rfl
  rw[e1]
  unfold iterS at h
  cases he:neB (stepS t q).2 0 with
  | true =>
   rw[he] at h
   have h0:(stepS t q).2≠0:=by simpa [neB] using he
   simp only[cond_true,Prod.mk.injEq] at h
   exact absurd h.2 h0
  | false =>
   rw[he] at h
   exact iterS_add t m n _ y h
theorem shL_home {p y:List Cell} (hne:p≠[]) (h:homeL y=homeL p):y=shL ((hdC y).X - (hdC p).X) ((hdC y).Y - (hdC p).Y) p:=by
 cases p with
 | nil=>exact absurd rfl hne
 | cons c0 p =>
  cases y with
  | nil=>simp[homeL] at h
  | cons d0 y =>
   have e1:hdC (c0::p)=c0:=rfl
   have e2:hdC (d0::y)=d0:=rfl
   rw[e1,e2]
   refine List.ext_getElem? fun i=>?_
   have h1:=congrArg (·[i]?) h
   rw[homeL_get (c0:=d0) rfl,homeL_get (c0:=c0) rfl] at h1
   unfold shL
   rw[List.getElem?_map]
   cases hy:(d0::y)[i]? with
   | none =>
    rw[hy] at h1
    cases hp:(c0::p)[i]? with
    | none=>rfl
    | some c=>rw[hp] at h1; cases h1
   | some d =>
    rw[hy] at h1
    cases hp:(c0::p)[i]? with
    | none=>rw[hp] at h1; cases h1
    | some c =>
     rw[hp] at h1
     simp only[Option.map_some,Option.some.injEq,relC,Cell.mk.injEq] at h1
     simp only[Option.map_some,Option.some.injEq]
     unfold shC
     cases d; cases c
     simp only[Cell.mk.injEq] at h1 ⊢
     omega
theorem shL_ne {a b:Int} {p:List Cell} (h:p≠[]):shL a b p≠[]:=fun e=>h (List.map_eq_nil_iff.1 e)
structure Per (t:Tree) (p:List Cell) (m:Motion) (P:Nat):Prop where
 fit:fitE t p=0
 ne:p≠[]
 is:m.Period=P
 pos:1<=P
 here:iterS t P p=(shL m.DX m.DY p,0)
 before:∀ g,1<=g->g < P->∃ y,iterS t g p=(y,0)/\mvB p y=false
theorem findS_per {t:Tree} {p:List Cell} (hs:Sz t):∀ (n:Nat) (q:List Cell) (g:Nat) r,fitE t q=0->iterS t g p=(q,0)->(∀ j,1<=j->j<=g->∃ y,iterS t j p=(y,0)/\mvB p y=false) ->
  findS t p n q ((g+1:Nat):Int)=.inl r->r.2.2=0->∃ P,r.1.Period=(P:Nat)/\g+1<=P/\P<=g+n/\p≠[]/\r.2.1=true/\iterS t P p=(shL r.1.DX r.1.DY p,0)/\∀ j,1<=j->j < P->∃ y,iterS t j p=(y,0)/\mvB p y=false
 | 0,_,_,r,_,_,_,h,_=>by cases h
 | n+1,q,g,r,hq,hi,hb,h,h0=>by
  unfold findS at h
  cases he:neB (stepS t q).2 0 with
  | true =>
   rw[he] at h
   cases h
   have:(stepS t q).2≠0:=by simpa [neB] using he
   exact absurd h0 this
  | false =>
   rw[he] at h
   have e0:(stepS t q).2=0:=by simpa [neB] using he
   have hst:stepS t q=((stepS t q).1,0):=by rw[<- e0]
   have hi':iterS t (g+1) p=((stepS t q).1,0):=by
    rw[iterS_add t g 1 p q hi]
    unfold iterS
    rw[he]
    rfl
   cases hm:mvB p (stepS t q).1 with
   | true =>
    rw[hm] at h
    cases h
    have hm':=hm
    unfold mvB at hm'
    rw[decide_eq_true_eq] at hm'
    refine⟨g+1,rfl,by omega,by omega,hm'.1,rfl,?_,fun j h1 h2=>hb j h1 (by omega)⟩
    rw[hi']
    congr 1
    exact shL_home hm'.1 hm'.2
   | false =>
    rw[hm] at h
    simp only[cond_false] at h
    rw[show (((g+1:Nat):Int)+1)=((g+1+1:Nat):Int) by omega] at h
    obtain⟨P,h1,h2,h3,h4⟩:=findS_per hs n _ (g+1) r (stepS_fit hs hq e0) hi' (fun j h1 h2=>by
     by_cases hj:j=g+1
     ·subst hj
      exact⟨_,hi',hm⟩
     ·exact hb j h1 (by omega)) h h0
    exact⟨P,h1,by omega,by omega,h4⟩
theorem findA_per {t:Tree} {p:List Cell} {most:Int} (hs:Sz t) (h0:(findA t p most).2.2=0) (h1:(findA t p most).2.1=true):∃ P:Nat,Per t p (findA t p most).1 P/\(P:Int)<=most:=by
 unfold findA at *
 cases hn:neB (fitE t p) 0 with
 | true=>rw[hn] at h1; cases h1
 | false =>
  rw[hn] at h0 h1
  have hp:fitE t p=0:=by simpa [neB] using hn
  simp only[cond_false] at h0 h1 ⊢
  cases hm:!(decide (1<=most) && decide (most<=64)) with
  | true=>rw[hm] at h1; cases h1
  | false =>
   rw[hm] at h0 h1
   simp only[cond_false] at h0 h1 ⊢
   cases hf:findS t p most.toNat p 1 with
   | inr u=>rw[hf] at h1; cases h1
   | inl r =>
    rw[hf] at h0 h1
    dsimp only at h0 h1 ⊢
    obtain⟨P,e1,e2,e3,e4,_,e5,e6⟩:=findS_per hs most.toNat p 0 r hp rfl (fun j a b=>by omega) hf h0
    simp only[Bool.not_eq_false',Bool.and_eq_true,decide_eq_true_eq] at hm
    exact⟨P,⟨hp,e4,e1,by omega,e5,e6⟩,by omega⟩
end Go.Proofs.YtffohfmfehjbmaaGreatDoor
namespace Go.Proofs.YtffohfmfehjbmaaGreatDoor
open Go.AM Go.Proofs
end Go.Proofs.YtffohfmfehjbmaaGreatDoor
namespace Go.Proofs.YtffohfmfehjbmaaGreatDoor
open Go.AM Go.Proofs
theorem shift_loop {p:List Cell} (h:Pat p) {dx dy:Int} (hx:-2097152<=dx/\dx<=2097152) (hy:-2097152<=dy/\dy<=2097152) :
  (InR (shL dx dy p)/\aK (b_pattern_Shift_1 dx dy p) aN (0,p)=some (.inr (shL dx dy p))) \/ (¬ InR (shL dx dy p)/\aK (b_pattern_Shift_1 dx dy p) aN (0,p)=some (.inl ([],5))):=by
 have hl:=h.len
 obtain⟨t,ht,hq⟩:=loop_iv (b:=b_pattern_Shift_1 dx dy p) (n:=p.length) (s:=(0,p)) (fun i s=>s=((i:Int),shL dx dy (p.take i)++p.drop i)/\InR (shL dx dy (p.take i)))
  (fun t=>(InR (shL dx dy p)/\t=.inr (shL dx dy p)) \/ (¬ InR (shL dx dy p)/\t=.inl ([],5))) (by omega)
  ⟨by simp[shL],fun c hc=>by simp[shL] at hc⟩
  (fun i s hi ⟨h1,h2⟩=>by
   subst h1
   have hxi:p[i]?=some p[i]:=List.getElem?_eq_getElem hi
   have hc:=(h.cell p[i] (List.getElem_mem hi)).1
   have hA:(shL dx dy (p.take i)).length=i:=by unfold shL; rw[List.length_map,List.length_take]; omega
   have hg:∀ (z:Cell) (B:List Cell),(shL dx dy (p.take i)++z::B)[i]?=some z:=fun z B=>by
    rw[List.getElem?_append_right (by omega),hA,Nat.sub_self]
    rfl
   have hset:∀ (z w:Cell) (B:List Cell),(shL dx dy (p.take i)++z::B).set i w=shL dx dy (p.take i)++w::B:=fun z w B=>by
    rw[List.set_append_right _ _ (by omega),hA,Nat.sub_self]
    rfl
   rw[List.drop_eq_getElem_cons hi]
   obtain⟨w,hw⟩:∃ w,b_pattern_Shift_1 dx dy p ((i:Int),shL dx dy (p.take i)++p[i]::p.drop (i+1))=w:=⟨_,rfl⟩
   rw[hw]
   unfold b_pattern_Shift_1 at hw
   dsimp only at hw
   rw[ltB_nat,decide_eq_true hi,idx_nat,hg,up_nat (by omega)] at hw
   simp only[cond_true,some_bind,Int.toNat_natCast] at hw
   rw[hset,idx_nat,hg] at hw
   simp only[some_bind] at hw
   rw[hset,idx_nat,hg,iadd_in (by omega),iadd_in (by omega)] at hw
   simp only[some_bind,m_pattern_at,placed_eq,ba] at hw
   have hsnoc:shL dx dy (p.take (i+1))=shL dx dy (p.take i)++[⟨p[i].X+dx,p[i].Y+dy,p[i].S⟩]:=by
    unfold shL
    rw[List.take_add_one,hxi,Option.toList_some,List.map_append]
    rfl
   cases hp:placeB (p[i].X+dx) (p[i].Y+dy) with
   | true =>
    rw[hp] at hw
    refine .inl ⟨_,hw.symm,?_,?_⟩
    ·rw[hsnoc,List.append_assoc]
     rfl
    ·rw[hsnoc]
     intro c hc
     rcases List.mem_append.1 hc with hc | hc
     ·exact h2 c hc
     ·rw[List.mem_singleton] at hc
      subst hc
      exact hp
   | false =>
    rw[hp] at hw
    refine .inr ⟨_,hw.symm,.inr ⟨fun hin=>?_,rfl⟩⟩
    have:=hin (shC dx dy p[i]) (List.mem_map.2 ⟨_,List.getElem_mem hi,rfl⟩)
    unfold shC at this
    dsimp only at this
    rw[hp] at this
    cases this)
  (fun s ⟨h1,h2⟩=>by
   subst h1
   rw[List.take_length] at h2
   refine⟨_,?_,.inl ⟨h2,rfl⟩⟩
   unfold b_pattern_Shift_1
   dsimp only
   rw[ltB_nat,decide_eq_false (Nat.lt_irrefl _),List.take_length,List.drop_length,List.append_nil]
   rfl)
 rw[ht]
 rcases hq with ⟨h1,rfl⟩ | ⟨h1,rfl⟩
 ·exact .inl ⟨h1,rfl⟩
 ·exact .inr ⟨h1,rfl⟩
theorem shift_eq {p:List Cell} (hp:patOk p=true) {dx dy:Int} (hx:-2097152<=dx/\dx<=2097152) (hy:-2097152<=dy/\dy<=2097152) :
  (InR (shL dx dy p)/\m_pattern_Shift p dx dy=some (shL dx dy p,0)) \/ m_pattern_Shift p dx dy=some ([],5):=by
 have h:=pat_of hp
 have hl:=h.len
 unfold m_pattern_Shift
 rw[pat_eq (by omega),hp]
 simp only[some_bind,ba,Bool.not_true,cond_false,bif_some]
 have e1:gtB (eE dx dy) 2097152=false:=decide_eq_false (by have:=imax_is dx dy; omega)
 have e2:ltB (ez dx dy) (-2097152)=false:=decide_eq_false (by have:=imin_is dx dy; omega)
 rw[e1,e2]
 have e3:m_slices_Clone_api_Pattern_api_Cell p=some p:=by
  unfold m_slices_Clone_api_Pattern_api_Cell appL
  rw[if_pos,List.nil_append]
  simp only[List.length_nil]
  omega
 rw[e3]
 simp only[cond_false,some_bind]
 rcases shift_loop h hx hy with ⟨h1,e⟩ | ⟨_,e⟩<;>rw[e]
 ·exact .inl ⟨h1,rfl⟩
 ·exact .inr rfl
theorem iterS_near {t:Tree} (hs:Sz t):∀ (n:Nat) (q y:List Cell),fitE t q=0->iterS t n q=(y,0)->∀ c∈y,∃ d∈q,c.X - d.X<=2*n/\d.X - c.X<=2*n/\c.Y - d.Y<=2*n/\d.Y - c.Y<=2*n
 | 0,q,y,_,h,c,hc=>by
  cases h
  exact⟨c,hc,by omega,by omega,by omega,by omega⟩
 | n+1,q,y,hq,h,c,hc=>by
  unfold iterS at h
  cases he:neB (stepS t q).2 0 with
  | true =>
   rw[he] at h
   have h0:(stepS t q).2≠0:=by simpa [neB] using he
   simp only[cond_true,Prod.mk.injEq] at h
   exact absurd h.2 h0
  | false =>
   rw[he] at h
   have h0:(stepS t q).2=0:=by simpa [neB] using he
   have hf:=stepS_fit hs hq h0
   obtain⟨d,hd,hdc⟩:=iterS_near hs n _ y hf h c hc
   rcases stepS_cases hs hq with e | e | ⟨y',e,_,h3⟩
   ·rw[e] at h0; cases h0
   ·rw[e] at h0; cases h0
   ·rw[e] at hd hf
    have hm:=(mem_getS (fit_of hf).pat d).1 hd
    rw[h3] at hm
    obtain⟨b,hb,o,ho,e1,e2⟩:=newS_near (fit_of hq) (x:=d.X) (y:=d.Y) (by rw[newS_newF,hm.1]; exact hm.2)
    have:=hood_in (fit_of hq).ok ho
    exact⟨b,hb,by omega,by omega,by omega,by omega⟩
theorem exists_top (f:Cell->Int):∀ {p:List Cell},p≠[]->∃ c∈p,∀ d∈p,f d<=f c
 | [],h=>absurd rfl h
 | [c],_=>⟨c,by simp,fun d hd=>by simp at hd; rw[hd]; exact Int.le_refl _⟩
 | c::d::p,_=>by
  obtain⟨e,he,hm⟩:=exists_top f (p:=d::p) (by simp)
  by_cases hce:f e<=f c
  ·refine⟨c,by simp,fun x hx=>?_⟩
   rcases List.mem_cons.1 hx with rfl | hx
   ·exact Int.le_refl _
   ·exact Int.le_trans (hm x hx) hce
  ·refine⟨e,List.mem_cons_of_mem _ he,fun x hx=>?_⟩
   rcases List.mem_cons.1 hx with rfl | hx
   ·omega
   ·exact hm x hx
theorem Per.bound {t:Tree} {p:List Cell} {m:Motion} {P:Nat} (h:Per t p m P) (hs:Sz t):-(2*(P:Int))<=m.DX/\m.DX<=2*P/\-(2*(P:Int))<=m.DY/\m.DY<=2*P:=by
 have hn:=iterS_near hs P p _ h.fit h.here
 have hm:∀ c∈p,shC m.DX m.DY c∈shL m.DX m.DY p:=fun c hc=>List.mem_map.2 ⟨c,hc,rfl⟩
 obtain⟨c1,h1,t1⟩:=exists_top (fun c=>c.X) h.ne
 obtain⟨c2,h2,t2⟩:=exists_top (fun c=>-c.X) h.ne
 obtain⟨c3,h3,t3⟩:=exists_top (fun c=>c.Y) h.ne
 obtain⟨c4,h4,t4⟩:=exists_top (fun c=>-c.Y) h.ne
 obtain⟨d1,g1,n1⟩:=hn _ (hm c1 h1)
 obtain⟨d2,g2,n2⟩:=hn _ (hm c2 h2)
 obtain⟨d3,g3,n3⟩:=hn _ (hm c3 h3)
 obtain⟨d4,g4,n4⟩:=hn _ (hm c4 h4)
 have:=t1 d1 g1
 have:=t2 d2 g2
 have:=t3 d3 g3
 have:=t4 d4 g4
 unfold shC at n1 n2 n3 n4
 dsimp only at *
 omega
theorem shL_add (a b c d:Int) (p:List Cell):shL a b (shL c d p)=shL (a+c) (b+d) p:=by
 unfold shL
 rw[List.map_map]
 refine List.map_congr_left fun x _=>?_
 unfold shC
 simp only[Function.comp]
 congr 1<;>omega
theorem iterS_nil {t:Tree} (hs:Sz t) (hp:fitE t []=0):∀ n:Nat,iterS t n []=([],0)
 | 0=>rfl
 | n+1=>by
  unfold iterS
  rw[stepS_nil hs hp]
  exact iterS_nil hs hp n
theorem Per.first {t:Tree} {p:List Cell} {m:Motion} {P:Nat} (h:Per t p m P) (hs:Sz t):∃ y1,stepS t p=(y1,0)/\fitE t y1=0/\y1≠[]/\iterS t 1 p=(y1,0)/\∀ g,1<=g->iterS t (g+1) p=iterS t g y1:=by
 obtain⟨Q,rfl⟩:∃ Q,P=Q+1:=⟨P - 1,by have:=h.pos; omega⟩
 have hh:=h.here
 have e1:iterS t (Q+1) p=bif neB (stepS t p).2 0 then ([],(stepS t p).2) else iterS t Q (stepS t p).1:=rfl
 rw[e1] at hh
 cases he:neB (stepS t p).2 0 with
 | true =>
  rw[he] at hh
  have h0:(stepS t p).2≠0:=by simpa [neB] using he
  simp only[cond_true,Prod.mk.injEq] at hh
  exact absurd hh.2 h0
 | false =>
  rw[he] at hh
  have h0:(stepS t p).2=0:=by simpa [neB] using he
  have hf:=stepS_fit hs h.fit h0
  have h1:iterS t 1 p=((stepS t p).1,0):=by
   unfold iterS
   rw[he]
   rfl
  refine⟨(stepS t p).1,by rw[<- h0],hf,fun e=>?_,h1,fun g _=>?_⟩
  ·simp only[cond_false] at hh
   rw[e] at hh hf
   rw[iterS_nil hs hf] at hh
   simp only[Prod.mk.injEq,and_true] at hh
   exact shL_ne h.ne hh.symm
  ·have e2:iterS t (g+1) p=bif neB (stepS t p).2 0 then ([],(stepS t p).2) else iterS t g (stepS t p).1:=rfl
   rw[e2,he]
   rfl
end Go.Proofs.YtffohfmfehjbmaaGreatDoor
namespace Go.Proofs.YtffohfmfehjbmaaGreatDoor
open Go.AM Go.Proofs
theorem awake50:m_L50_awake=some true:=by kernel_rfl
end Go.Proofs.YtffohfmfehjbmaaGreatDoor
namespace Go.Proofs.YtffohfmfehjbmaaGreatDoor
open Go.AM Go.Proofs
theorem fold_take {α β:Type} (f:β->α->β) (a:β) (l:List α) {i:Nat} {x:α} (h:l[i]?=some x):(l.take (i+1)).foldl f a=f ((l.take i).foldl f a) x:=by
 obtain⟨hi,rfl⟩:=List.getElem?_eq_some_iff.1 h
 rw[List.take_succ_eq_append_getElem hi,List.foldl_append]
 rfl
def lowX (p:List Cell) (a:Int):Int:=p.foldl (fun x c=>ez x c.X) a
def highX (p:List Cell) (a:Int):Int:=p.foldl (fun x c=>eE x c.X) a
theorem boxP_loop {p:List Cell} (hl:p.length<=5000) (a:Int):aK (b_pattern_Box_1 p) aN (a,a,0)=some (lowX p a,highX p a):=by
 obtain⟨t,ht,rfl⟩:=loop_iv (b:=b_pattern_Box_1 p) (n:=p.length) (s:=(a,a,0)) (fun i s=>s=((p.take i).foldl (fun x c=>ez x c.X) a,(p.take i).foldl (fun x c=>eE x c.X) a,(i:Int))) (fun t=>t=(lowX p a,highX p a)) (by omega) rfl
  (fun i s hi hs=>by
   subst hs
   have hx:p[i]?=some p[i]:=List.getElem?_eq_getElem hi
   refine .inl ⟨_,?_,rfl⟩
   unfold b_pattern_Box_1
   dsimp only
   rw[ltB_nat,decide_eq_true hi,cond_true,idx_nat,hx,up_nat (by omega),fold_take _ _ _ hx,fold_take _ _ _ hx]
   rfl)
  (fun s hs=>by
   subst hs
   refine⟨_,?_,rfl⟩
   unfold b_pattern_Box_1
   dsimp only
   rw[ltB_nat,decide_eq_false (Nat.lt_irrefl _),List.take_length]
   rfl)
 exact ht
theorem sorted_ends {c0:Cell} {q:List Cell} (h:Pat (c0::q)):(∀ c∈c0::q,c0.Y<=c.Y)/\∃ cl,(c0::q)[q.length]?=some cl/\∀ c∈c0::q,c.Y<=cl.Y:=by
 have hs:=h.sorted
 refine⟨fun c hc=>?_,?_⟩
 ·rcases List.mem_cons.1 hc with rfl | hc
  ·exact Int.le_refl _
  ·have:=(befC_iff _ _).1 ((List.pairwise_cons.1 hs).1 c hc)
   omega
 ·have hlt:q.length < (c0::q).length:=by simp
  refine⟨(c0::q)[q.length],List.getElem?_eq_getElem hlt,fun c hc=>?_⟩
  obtain⟨i,hi,rfl⟩:=List.mem_iff_getElem.1 hc
  rcases Nat.lt_or_ge i q.length with hi2 | hi2
  ·have:=(befC_iff _ _).1 (List.pairwise_iff_getElem.1 hs i q.length hi hlt hi2)
   omega
  ·have:i=q.length:=by simp at hi; omega
   subst this
   exact Int.le_refl _
theorem Per.all {t:Tree} {p:List Cell} {m:Motion} {P:Nat} (h:Per t p m P) {k:Nat} (hk:k < P):∀ g,g<=k->∃ q,iterS t g p=(q,0):=fun g hg=>by
 rcases Nat.eq_zero_or_pos g with rfl | hg0
 ·exact⟨p,rfl⟩
 ·obtain⟨y,hy,_⟩:=h.before g hg0 (by omega)
  exact⟨y,hy⟩
end Go.Proofs.YtffohfmfehjbmaaGreatDoor
