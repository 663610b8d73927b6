/- Plain laws: patterns, the checks ahead of a step; loops by an invariant. -/
import Derived.Test.YtnkmjlncmlmnbaaGreatDoorPlx1
namespace Go.Proofs.YtnkmjlncmlmnbaaGreatDoor
open Go.AM Go.Proofs
def placeB (x y:Int):Bool:=geB x (-1048576) && (leB x 1048576 && (geB y (-1048576) && leB y 1048576))
def befC (a b:Cell):Bool:=befP ⟨a.X,a.Y⟩ ⟨b.X,b.Y⟩
def badC (l:List Cell) (i:Nat) (x:Cell):Bool :=
 !placeB x.X x.Y || (ltB x.S 1 || (geB x.S 8 || match i with
  | 0=>false
  | j+1=>match l[j]? with
   | some y=>!befC y x
   | none=>false))
def patOk (l:List Cell):Bool:=leB (bf l) 5000 && !anyB (badC l) l 0
theorem imax_is (a b:Int):(d7 a b=a \/ d7 a b=b)/\a<=d7 a b/\b<=d7 a b:=by
 unfold d7
 by_cases h:b > a
 ·rw[if_pos h]; exact⟨.inr rfl,by omega,by omega⟩
 ·rw[if_neg h]; exact⟨.inl rfl,by omega,by omega⟩
theorem imin_is (a b:Int):(ii a b=a \/ ii a b=b)/\ii a b<=a/\ii a b<=b:=by
 unfold ii
 by_cases h:b < a
 ·rw[if_pos h]; exact⟨.inr rfl,by omega,by omega⟩
 ·rw[if_neg h]; exact⟨.inl rfl,by omega,by omega⟩
theorem gtB_not (a b:Int):gtB a b=!leB a b:=by
 unfold gtB leB
 by_cases h:a<=b
 ·rw[decide_eq_true h,decide_eq_false (by omega)]; rfl
 ·rw[decide_eq_false h,decide_eq_true (by omega)]; rfl
theorem placed_eq (p:Point):m_pattern_placed p=some (placeB p.X p.Y):=by
 unfold m_pattern_placed placeB
 simp only[bif_some,bif_some_f,some_bind]
 congr 1
 rw[Bool.eq_iff_iff]
 have e1:=imax_is p.X p.Y
 have e2:=imin_is p.X p.Y
 simp only[leB,geB,Bool.and_eq_true,decide_eq_true_eq]
 constructor
 ·rintro⟨h1,h2⟩
  refine⟨?_,?_,?_,?_⟩<;>omega
 ·rintro⟨h1,h2,h3,h4⟩
  refine⟨?_,?_⟩<;>omega
theorem order_eq (a b:Cell):∃ c,m_pattern_order a b=some c/\geB c 0=!befC a b:=by
 obtain⟨c,h1,h2⟩:=comp_eq ⟨a.X,a.Y⟩ ⟨b.X,b.Y⟩
 refine⟨c,?_,h2⟩
 simp only[m_pattern_order,m_pattern_at,some_bind,h1]
theorem pat_eq {l:List Cell} (hl:l.length < 1099511627776):m_pattern_Right l=some (patOk l):=by
 unfold m_pattern_Right patOk
 rw[loop_any l (badC l) false hl]
 ·rw[gtB_not]
  cases leB (bf l) 5000<;>cases anyB (badC l) l 0<;>rfl
 ·intro i x hx
  unfold b_pattern_Right_1
  dsimp only
  rw[ltB_nat,decide_eq_true (getE_lt hx),cond_true,idx_nat,hx,up_nat (Nat.lt_trans (getE_lt hx) hl)]
  simp only[some_bind,m_pattern_at,placed_eq,bW]
  unfold badC
  cases i with
  | zero=>simp only[gtB_zero,cond_false,bif_some,some_bind,bif_some_t]
  | succ j =>
   obtain⟨y,hy⟩:=getE_prev hx
   obtain⟨c,hc,hg⟩:=order_eq y x
   simp only[gtB_succ,cond_true,dn_nat (Nat.lt_trans (Nat.lt_of_succ_lt (getE_lt hx)) hl),idx_nat,hy,some_bind,hc,hg,bif_some,bif_some_t]
 ·unfold b_pattern_Right_1
  dsimp only
  rw[ltB_nat,decide_eq_false (Nat.lt_irrefl _)]
  rfl
theorem loop_iv_aux {St T:Type} {b:St->Option (Lp St T)} {n:Nat} (I:Nat->St->Prop) (Q:T->Prop)
  (step:∀ i s,i < n->I i s->(∃ s',b s=some (.next s')/\I (i+1) s') \/ (∃ t,b s=some (.out t)/\Q t)) (fin:∀ s,I n s->∃ t,b s=some (.out t)/\Q t) :
  ∀ (k i:Nat) (s:St),i+k=n->I i s->∀ m,k < m->∃ t,bh b m s=some t/\Q t
 | 0,i,s,hi,h,m,hm=>by
  obtain⟨m,rfl⟩:∃ j,m=j+1:=⟨m - 1,by omega⟩
  obtain rfl:i=n:=by omega
  obtain⟨t,ht,hq⟩:=fin s h
  exact⟨t,by rw[bh,ht],hq⟩
 | k+1,i,s,hi,h,m,hm=>by
  obtain⟨m,rfl⟩:∃ j,m=j+1:=⟨m - 1,by omega⟩
  rcases step i s (by omega) h with ⟨s',hs,h'⟩ | ⟨t,ht,hq⟩
  ·obtain⟨t,ht,hq⟩:=loop_iv_aux I Q step fin k (i+1) s' (by omega) h' m (by omega)
   exact⟨t,by rw[bh,hs]; exact ht,hq⟩
  ·exact⟨t,by rw[bh,ht],hq⟩
theorem loop_iv {St T:Type} {b:St->Option (Lp St T)} {n:Nat} (I:Nat->St->Prop) (Q:T->Prop) (hn:n < 1099511627776) {s:St} (h0:I 0 s)
  (step:∀ i s,i < n->I i s->(∃ s',b s=some (.next s')/\I (i+1) s') \/ (∃ t,b s=some (.out t)/\Q t)) (fin:∀ s,I n s->∃ t,b s=some (.out t)/\Q t) :
  ∃ t,bh b bm s=some t/\Q t:=loop_iv_aux I Q step fin n 0 s (by omega) h0 bm hn
structure Pat (p:List Cell):Prop where
 len:p.length<=5000
 cell:∀ c∈p,(-1048576<=c.X/\c.X<=1048576/\-1048576<=c.Y/\c.Y<=1048576)/\1<=c.S/\c.S < 8
 sorted:p.Pairwise fun a b=>befC a b=true
def fitE (t:Tree) (p:List Cell):Int:=bif quietB t then (bif patOk p then (bif anyB (fun _ (c:Cell)=>geB c.S t.States) p 0 then 10 else 0) else 2) else 11
theorem top_run (s:Int) (hs:0 < s):∀ (p:List Cell) (i:Nat) (n:Int),∃ v,runL (fun _ (x:Cell) n=>(some (.next (d7 n x.S)):Option (Lp Int Int))) (fun n=>some n) p i n=some v/\geB v s=(geB n s || anyB (fun _ (c:Cell)=>geB c.S s) p i)
 | [],i,n=>⟨n,rfl,by simp[anyB]⟩
 | x::p,i,n=>by
  obtain⟨v,h1,h2⟩:=top_run s hs p (i+1) (d7 n x.S)
  refine⟨v,by rw[runL]; exact h1,?_⟩
  rw[h2,anyB,<- Bool.or_assoc]
  congr 1
  rw[Bool.eq_iff_iff]
  simp only[geB,Bool.or_eq_true,decide_eq_true_eq,ge_iff_le]
  have:=imax_is n x.S
  omega
theorem top_eq (s:Int) (hs:0 < s) {p:List Cell} (hl:p.length < 1099511627776):∃ v,m_pattern_Top p=some v/\geB v s=anyB (fun _ (c:Cell)=>geB c.S s) p 0:=by
 have h:=loop_run (b:=b_pattern_Top_1 p) (fun i (n:Int)=>(n,(i:Int))) p (fun _ (x:Cell) n=>some (.next (d7 n x.S))) (fun n=>some n) hl (fun i x n hx=>by
   unfold b_pattern_Top_1
   dsimp only
   rw[ltB_nat,decide_eq_true (getE_lt hx),cond_true,idx_nat,hx,up_nat (Nat.lt_trans (getE_lt hx) hl)]
   rfl)
  (fun k=>by
   unfold b_pattern_Top_1
   dsimp only
   rw[ltB_nat,decide_eq_false (Nat.lt_irrefl _)]
   rfl) 0
 rw[show ((0:Nat):Int)=0 from rfl] at h
 obtain⟨v,h1,h2⟩:=top_run s hs p 0 0
 refine⟨v,by unfold m_pattern_Top; rw[h,h1]; rfl,?_⟩
 rw[h2]
 have:geB 0 s=false:=decide_eq_false (by omega)
 rw[this,Bool.false_or]
theorem quiet_ok {t:Tree} (h:quietB t=true):Ok t:=by
 unfold quietB at h
 simp only[Bool.and_eq_true] at h
 exact ok_of h.1
theorem check_eq {t:Tree} {p:List Cell} (hs:Sz t) (hp:p.length < 1099511627776):m_direct_check t p=some (fitE t p):=by
 unfold m_direct_check fitE
 rw[quiet_eq hs,pat_eq hp]
 cases hq:quietB t with
 | false=>rfl
 | true =>
  obtain⟨v,h1,h2⟩:=top_eq t.States (by have:=(quiet_ok hq).s2; omega) hp
  rw[h1]
  simp only[some_bind,bW,Bool.not_true,cond_false,cond_true]
  cases patOk p with
  | false=>rfl
  | true =>
   simp only[Bool.not_true,cond_false,cond_true,h2,bif_some]
   try rfl
structure Fit (t:Tree) (p:List Cell):Prop where
 ok:Ok t
 zero:walkV t (List.replicate t.Hood.length 0) (br .i64 (bf t.Nodes) 1)=some 0
 pat:Pat p
 small:∀ c∈p,c.S < t.States
end Go.Proofs.YtnkmjlncmlmnbaaGreatDoor
namespace Go.Proofs.YtnkmjlncmlmnbaaGreatDoor
open Go.AM Go.Proofs
theorem mget_mset {κ ν:Type} [DecidableEq κ] (k:κ) (v:ν):∀ (m:List (κ×ν)) (q:κ),eb (msetL m k v) q=if k=q then some v else eb m q
 | [],q=>by simp[msetL,eb]
 | x::m,q=>by
  unfold msetL
  by_cases hx:x.1=k
  ·rw[if_pos hx]
   by_cases hq:k=q
   ·simp[eb,hq]
   ·simp[eb,hq,hx]
  ·rw[if_neg hx]
   simp only[eb]
   rw[mget_mset k v m q]
   by_cases hq:k=q
   ·subst hq; simp[hx]
   ·simp[hq]
end Go.Proofs.YtnkmjlncmlmnbaaGreatDoor
