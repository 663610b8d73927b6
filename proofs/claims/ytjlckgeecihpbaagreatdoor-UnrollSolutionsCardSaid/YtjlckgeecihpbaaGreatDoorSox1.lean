/- Plain laws: Bits: the values of the states of a pattern in the box. -/
import Derived.Test.YtjlckgeecihpbaaGreatDoorSnx1
import Derived.Test.YtjlckgeecihpbaaGreatDoorPsx2
namespace Go.Proofs.YtjlckgeecihpbaaGreatDoor
open Go.AM Go.Proofs
structure PBox (x:Bg):Prop where
 w1:1<=x.W
 w16:x.W<=16
 h1:1<=x.H
 h16:x.H<=16
 a16:x.W*x.H<=16
def area (x:Bg):Nat:=(x.W*x.H).toNat
theorem PBox.area {x:Bg} (h:PBox x):ck .i64 x.W x.H=((area x:Nat):Int)/\area x<=16/\((area x:Nat):Int)=x.W*x.H:=by
 have h0:0<=x.W*x.H:=Int.mul_nonneg (by have:=h.w1; omega) (by have:=h.h1; omega)
 have:=h.a16
 have he:((Go.Proofs.YtjlckgeecihpbaaGreatDoor.area x:Nat):Int)=x.W*x.H:=by unfold Go.Proofs.YtjlckgeecihpbaaGreatDoor.area; omega
 rw[jm (by omega)]
 exact⟨he.symm,by omega,he⟩
section
variable {t:Tree} {x:Bg} {p:List Cell} {b n:Nat} {c:Cell} {out:List Bool}
def lh (x:Bg) (c:Cell):Bool:=ltB c.X 0 || (geB c.X x.W || (ltB c.Y 0 || geB c.Y x.H))
def pos (x:Bg) (c:Cell):Nat:=(c.Y*x.W+c.X).toNat
def nb (x:Bg) (b:Nat) (out:List Bool) (c:Cell):List Bool:=(List.range b).foldl (fun o k=>o.set (pos x c*b+k) (fZ c.S k)) out
theorem ov (x:Bg) (b:Nat) (out:List Bool) (c:Cell):(nb x b out c).length=out.length:=by
 have key:∀ (ks:List Nat) (o:List Bool),(ks.foldl (fun o k=>o.set (pos x c*b+k) (fZ c.S k)) o).length=o.length:=by
  intro ks
  induction ks with
  | nil=>intro o; rfl
  | cons k ks ih=>intro o; rw[List.foldl_cons,ih,List.length_set]
 exact key _ _
theorem pos_in {x:Bg} {c:Cell} (h:PBox x) (hc:lh x c=false):0<=c.X/\c.X < x.W/\0<=c.Y/\c.Y < x.H/\((pos x c:Nat):Int)=c.Y*x.W+c.X/\pos x c < area x/\0<=c.Y*x.W/\c.Y*x.W+c.X < 16:=by
 unfold lh at hc
 simp only[Bool.or_eq_false_iff] at hc
 have a1:=of_decide_eq_false hc.1
 have a2:=of_decide_eq_false hc.2.1
 have a3:=of_decide_eq_false hc.2.2.1
 have a4:=of_decide_eq_false hc.2.2.2
 have h0:0<=c.Y*x.W:=Int.mul_nonneg (by omega) (by have:=h.w1; omega)
 have h1:(c.Y+1)*x.W<=x.H*x.W:=Int.mul_le_mul_of_nonneg_right (by omega) (by have:=h.w1; omega)
 rw[Int.add_mul,Int.one_mul,Int.mul_comm x.H] at h1
 have h2:=h.area.2.2
 have h3:=h.a16
 refine⟨by omega,by omega,by omega,by omega,?_,?_,h0,by omega⟩
 ·unfold pos; omega
 ·have:((pos x c:Nat):Int)=c.Y*x.W+c.X:=by unfold pos; omega
  omega
theorem bit_idx (hx:PBox x) (hc:lh x c=false) (hb:b<=3) {k:Nat} (hk:k < b):bo .i64 (ck .i64 (bo .i64 (ck .i64 c.Y x.W) c.X) (b:Int)) (k:Int)=((pos x c*b+k:Nat):Int):=by
 obtain⟨_,_,_,_,h1,h2,h3,h4⟩:=pos_in hx hc
 have h5:=hx.area.2.1
 have h6:pos x c*b<=16*3:=Nat.mul_le_mul (by omega) hb
 rw[jm (a:=c.Y) (by omega),cw (a:=c.Y*x.W) (by omega),<- h1,jm (by rw[<- Int.natCast_mul]; omega),<- Int.natCast_mul,cw (by omega)]
 rfl
theorem set_run:∀ (ks:List Nat) (i:Nat) (o:List Bool),(∀ k∈ks,pos x c*b+k < o.length) ->
  l6 (fun _ k (o:List Bool)=>((idx o ((pos x c*b+k:Nat):Int)).bind fun _=>some (.next (o.set (pos x c*b+k) (fZ c.S k))):Option (Lp (List Bool) (List Bool)))) (fun o=>some o) ks i o=some (ks.foldl (fun o k=>o.set (pos x c*b+k) (fZ c.S k)) o)
 | [],_,_,_=>rfl
 | k::ks,i,o,h=>by
  rw[l6,bl,List.getElem?_eq_getElem (h k (by simp))]
  exact set_run ks (i+1) _ fun k' hk'=>by rw[List.length_set]; exact h k' (by simp[hk'])
theorem inner_set (hx:PBox x) (hc:lh x c=false) (hb:b<=3) (hl:out.length=area x*b) (i:Int) (o0:List Bool):ba (fw x p (b:Int) i o0 c) bp (0,out)=some (nb x b out c):=by
 obtain⟨_,_,_,_,h1,h2,h3,h4⟩:=pos_in hx hc
 have hbd:∀ k,k < b->pos x c*b+k < area x*b:=fun k hk=>by
  have:(pos x c+1)*b<=area x*b:=Nat.mul_le_mul_right _ h2
  rw[Nat.add_mul] at this
  omega
 have h:=mu (b:=fw x p (b:Int) i o0 c) (fun k (o:List Bool)=>((k:Int),o)) (List.range b)
  (fun _ k (o:List Bool)=>((idx o ((pos x c*b+k:Nat):Int)).bind fun _=>some (.next (o.set (pos x c*b+k) (fZ c.S k))):Option (Lp (List Bool) (List Bool)))) (fun o=>some o) (by simp; omega) (fun k j o hj=>by
   have hk:k < b:=by have:=bq hj; simpa using this
   rw[List.getElem?_range hk] at hj
   cases hj
   unfold fw
   dsimp only
   rw[show ltB (k:Int) (b:Int)=true from decide_eq_true (by omega),cond_true,ishr_nat,bJ (by omega)]
   simp only[aX,bit_idx hx hc hb hk]
   cases idx o ((pos x c*b+k:Nat):Int)<;>rfl) (fun o=>by
   unfold fw
   dsimp only
   rw[show ltB (((List.range b).length:Nat):Int) (b:Int)=false from decide_eq_false (by simp)]
   rfl) out
 rw[show ((0:Nat):Int)=0 from rfl] at h
 rw[h,set_run _ _ _ fun k hk=>by rw[hl]; exact hbd k (by simpa using hk)]
 rfl
def pE (x:Bg) (b:Nat) (p:List Cell) (out:List Bool):List Bool:=p.foldl (nb x b) out
theorem bitsAll_len (x:Bg) (b:Nat):∀ (p:List Cell) (out:List Bool),(pE x b p out).length=out.length
 | [],_=>rfl
 | c::p,out=>by
  show (pE x b p (nb x b out c)).length=_
  rw[bitsAll_len x b p,ov]
theorem out_run (hx:PBox x) (hb:b<=3):∀ (q:List Cell) (i:Nat) (o:List Bool),(∀ c∈q,lh x c=false)->o.length=area x*b ->
  l6 (fun(_:Nat) c (o:List Bool)=>(some (.next (nb x b o c)):Option (Lp (List Bool) (List Bool)))) (fun o=>some o) q i o=some (pE x b q o)
 | [],_,_,_,_=>rfl
 | c::q,i,o,h,hl=>by
  rw[l6]
  exact out_run hx hb q (i+1) _ (fun c hc=>h c (by simp[hc])) (by rw[ov]; exact hl)
theorem loop_inv_aux {α S St T:Type} {b:St->Option (Lp St T)} (E:Nat->S->St) (l:List α) (I:S->Prop) (f:Nat->α->S->Option (Lp S T)) (fin:S->Option T)
  (hs:∀ (i:Nat) (x:α) (s:S),l[i]?=some x->I s->b (E i s)=mapE (E (i+1)) (f i x s)/\∀ s',f i x s=some (.next s')->I s')
  (he:∀ s,b (E l.length s)=(fin s).map .out):∀ (m:List α) (i n:Nat) (s:S),I s->l.drop i=m->i+m.length=l.length->m.length < n->ba b n (E i s)=l6 f fin m i s
 | [],i,n,s,_,_,hl,hn=>by
  obtain⟨n,rfl⟩:∃ k,n=k+1:=⟨n - 1,by simp at hn; omega⟩
  obtain rfl:i=l.length:=by simpa using hl
  rw[ba,he,l6]
  cases fin s<;>rfl
 | x::m,i,n,s,hI,hd,hl,hn=>by
  obtain⟨n,rfl⟩:∃ k,n=k+1:=⟨n - 1,by simp at hn; omega⟩
  have hx:l[i]?=some x:=by
   have:=congrArg (·[0]?) hd
   simpa using this
  obtain⟨h1,h2⟩:=hs i x s hx hI
  rw[ba,h1,l6]
  rcases hf:f i x s with _ | (s' | t)
  ·rfl
  ·simp only[mapE]
   refine loop_inv_aux E l I f fin hs he m (i+1) n s' (h2 s' hf) ?_ (by simp at hl; omega) (by simp at hn; omega)
   have:=congrArg (List.drop 1) hd
   simpa using this
  ·rfl
theorem loop_inv {α S St T:Type} {b:St->Option (Lp St T)} (E:Nat->S->St) (l:List α) (I:S->Prop) (f:Nat->α->S->Option (Lp S T)) (fin:S->Option T) (hl:l.length < 1099511627776)
  (hs:∀ (i:Nat) (x:α) (s:S),l[i]?=some x->I s->b (E i s)=mapE (E (i+1)) (f i x s)/\∀ s',f i x s=some (.next s')->I s')
  (he:∀ s,b (E l.length s)=(fin s).map .out) (s:S) (hI:I s):ba b bp (E 0 s)=l6 f fin l 0 s:=loop_inv_aux E l I f fin hs he l 0 bp s hI rfl (by simp) hl
theorem outer_set (hx:PBox x) (hb:b<=3) (hp:p.length < 1099511627776) (hin:∀ c∈p,lh x c=false) (hl:out.length=area x*b):ba (fp x p (b:Int)) bp (0,out)=some (pE x b p out):=by
 have h:=loop_inv (b:=fp x p (b:Int)) (fun k (o:List Bool)=>((k:Int),o)) p (fun o=>o.length=area x*b)
  (fun(_:Nat) c (o:List Bool)=>(some (.next (nb x b o c)):Option (Lp (List Bool) (List Bool)))) (fun o=>some o) hp (fun i c o hc hI=>⟨by
   unfold fp
   dsimp only
   rw[bh,decide_eq_true (bq hc),cond_true,bl,hc,bJ (Nat.lt_trans (bq hc) hp)]
   simp only[aX]
   rw[inner_set hx (hin c (List.mem_of_getElem? hc)) hb hI]
   rfl,fun s' hs'=>by cases hs'; rw[ov]; exact hI⟩) (fun o=>by
   unfold fp
   dsimp only
   rw[bh,decide_eq_false (Nat.lt_irrefl _)]
   rfl) out hl
 rw[show ((0:Nat):Int)=0 from rfl] at h
 rw[h,out_run hx hb p 0 out hin hl]
theorem out1_eq (c:Cell) (x:Bg):iX c x=some (lh x c):=by
 unfold iX lh
 simp only[cR,cZ,aX]
theorem has_run:∀ (q:List Cell) (i:Nat),∃ o,l6 (fun(i:Nat) (c:Cell) (_:Unit)=>(some (bif lh x c then .out (.inl (i:Int)) else .next ()):Option (Lp Unit (Int ⊕ Unit)))) (fun _=>some (.inr ())) q i ()=some o /\
  match o with | .inl r=>0<=r/\q.any (lh x)=true | .inr _=>q.any (lh x)=false
 | [],_=>⟨_,rfl,rfl⟩
 | c::q,i=>by
  rw[l6,List.any_cons]
  cases lh x c with
  | true=>exact⟨_,rfl,by omega,rfl⟩
  | false =>
   obtain⟨o,h1,h2⟩:=has_run q (i+1)
   exact⟨o,h1,h2⟩
theorem has_eq (hp:p.length < 1099511627776):bF p x=some (p.any (lh x)):=by
 unfold bF bT
 have h:=mu (b:=bv p x) (fun i (_:Unit)=>(i:Int)) p (fun(i:Nat) (c:Cell) (_:Unit)=>(some (bif lh x c then .out (.inl (i:Int)) else .next ()):Option (Lp Unit (Int ⊕ Unit)))) (fun _=>some (.inr ())) hp (fun i c n hc=>by
   unfold bv
   dsimp only
   rw[bh,decide_eq_true (bq hc),cond_true,bl,hc,bJ (Nat.lt_trans (bq hc) hp)]
   simp only[aX,out1_eq]
   cases lh x c<;>rfl) (fun n=>by
   unfold bv
   dsimp only
   rw[bh,decide_eq_false (Nat.lt_irrefl _)]
   rfl) ()
 rw[show ((0:Nat):Int)=0 from rfl] at h
 obtain⟨o,h1,h2⟩:=has_run (x:=x) p 0
 rw[h,h1]
 rcases o with r | _
 ·simp only[aX]
  rw[h2.2,show geB r 0=true from decide_eq_true h2.1]
 ·simp only[aX]
  rw[h2]
  rfl
theorem fold_get {B:Nat} {g:Nat->Bool}:∀ (ks:List Nat) (o:List Bool) (q:Nat),q < o.length->(ks.foldl (fun o k=>o.set (B+k) (g k)) o)[q]?=if ks.any (fun k=>B+k == q) then some (g (q - B)) else o[q]?
 | [],o,q,_=>by simp
 | k::ks,o,q,hq=>by
  rw[List.foldl_cons,fold_get ks _ q (by rw[List.length_set]; exact hq),List.any_cons]
  by_cases h1:ks.any (fun k=>B+k == q)=true
  ·simp[h1]
  ·by_cases h2:B+k=q
   ·subst h2
    simp[h1,hq]
   ·have h3:(B+k == q)=false:=beq_false_of_ne h2
    rw[List.getElem?_set_ne h2]
    simp[h1,h3]
theorem setBits_get {x:Bg} {b:Nat} {out:List Bool} {c:Cell} (hb:0 < b) {q:Nat} (hq:q < out.length):(nb x b out c)[q]?=if pos x c=q / b then some (fZ c.S (q % b)) else out[q]?:=by
 unfold nb
 rw[fold_get _ _ _ hq]
 have hd:b*(q / b)+q % b=q:=Nat.div_add_mod q b
 have hm:q % b < b:=Nat.mod_lt _ hb
 by_cases h:pos x c=q / b
 ·have h1:pos x c*b=b*(q / b):=by rw[h,Nat.mul_comm]
  rw[if_pos (List.any_eq_true.2 ⟨q % b,by simpa using hm,by rw[beq_iff_eq]; omega⟩),if_pos h]
  congr 2
  omega
 ·rw[if_neg h,if_neg]
  intro ha
  obtain⟨k,hk,he⟩:=List.any_eq_true.1 ha
  rw[beq_iff_eq] at he
  rw[List.mem_range] at hk
  apply h
  rw[<- he,Nat.mul_comm,Nat.mul_add_div hb,Nat.div_eq_of_lt hk,Nat.add_zero]
theorem bitsAll_get {x:Bg} {b:Nat} (hb:0 < b):∀ (p:List Cell) (out:List Bool) (q:Nat),q < out.length->p.Pairwise (fun c d=>pos x c < pos x d) ->
  (pE x b p out)[q]?=match p.find? (fun c=>pos x c == q / b) with | some c=>some (fZ c.S (q % b)) | none=>out[q]?
 | [],_,_,_,_=>rfl
 | c::p,out,q,hq,hp=>by
  have hp':=List.pairwise_cons.1 hp
  show (pE x b p (nb x b out c))[q]?=_
  rw[bitsAll_get hb p _ q (by rw[ov]; exact hq) hp'.2,List.find?_cons,setBits_get hb hq]
  by_cases h:pos x c=q / b
  ·rw[if_pos h,show (pos x c == q / b)=true from beq_iff_eq.2 h]
   have:p.find? (fun c=>pos x c == q / b)=none:=List.find?_eq_none.2 fun d hd hb=>by
    rw[beq_iff_eq] at hb
    have:=hp'.1 d hd
    omega
   rw[this]
  ·rw[if_neg h,show (pos x c == q / b)=false from beq_false_of_ne h]
theorem pos_lt {x:Bg} (hx:PBox x) {c d:Cell} (hc:lh x c=false) (hd:lh x d=false) (h:jG c d=true):pos x c < pos x d:=by
 obtain⟨c1,c2,c3,c4,c5,_⟩:=pos_in hx hc
 obtain⟨d1,d2,d3,d4,d5,_⟩:=pos_in hx hd
 unfold jG befP at h
 simp only[Bool.or_eq_true,Bool.and_eq_true,decide_eq_true_eq,beq_iff_eq] at h
 rcases h with h | ⟨h,h'⟩
 ·have h1:(c.Y+1)*x.W<=d.Y*x.W:=Int.mul_le_mul_of_nonneg_right (by omega) (by have:=hx.w1; omega)
  rw[Int.add_mul,Int.one_mul] at h1
  omega
 ·rw[h] at c5
  omega
theorem pos_sorted {x:Bg} (hx:PBox x) {p:List Cell} (hp:lO p=true) (hin:∀ c∈p,lh x c=false):p.Pairwise (fun c d=>pos x c < pos x d):=by
 unfold lO at hp
 simp only[Bool.and_eq_true,Bool.not_eq_true'] at hp
 have step:∀ j c d,p[j]?=some c->p[j+1]?=some d->pos x c < pos x d:=fun j c d hc hd=>by
  have hb:=fm hp.2 (j+1) d hd
  rw[Nat.zero_add] at hb
  unfold badC at hb
  simp only[Bool.or_eq_false_iff,hc,Bool.not_eq_false'] at hb
  exact pos_lt hx (hin c (List.mem_of_getElem? hc)) (hin d (List.mem_of_getElem? hd)) hb.2.2.2
 have far:∀ (k i:Nat) (c d:Cell),p[i]?=some c->p[i+k+1]?=some d->pos x c < pos x d:=by
  intro k
  induction k with
  | zero=>intro i c d hc hd; exact step i c d hc hd
  | succ k ih =>
   intro i c d hc hd
   obtain⟨e,he⟩:=nh (l:=p) (i:=i+k+1) (x:=d) (by rw[show i+k+1+1=i+(k+1)+1 by omega]; exact hd)
   exact Nat.lt_trans (ih i c e hc he) (step _ e d he (by rw[show i+k+1+1=i+(k+1)+1 by omega]; exact hd))
 refine List.pairwise_iff_getElem.2 fun i j hi hj hij=>?_
 exact far (j - i - 1) i _ _ (List.getElem?_eq_getElem hi) (by rw[show i+(j - i - 1)+1=j by omega]; exact List.getElem?_eq_getElem hj)
end
end Go.Proofs.YtjlckgeecihpbaaGreatDoor
namespace Go.Proofs.YtjlckgeecihpbaaGreatDoor
open Go.AM Go.Proofs
def stepS (t:Tree) (q:List Cell):List Cell×Int:=(jA t q).getD ([],0)
theorem stepS_eq {t:Tree} {q:List Cell} (hs:Sz t) (hq:jY t q=0):jA t q=some (stepS t q)/\Stp t q (stepS t q):=by
 have hl:=(oP hq).pat.len
 rcases stepR_eq hs (p:=q) (by omega) with ⟨h,_⟩ | ⟨_,r,h1,h2⟩
 ·exact absurd hq h
 ·have e:stepS t q=r:=by unfold stepS; rw[h1]; rfl
  rw[e]
  exact⟨h1,h2⟩
def newF (t:Tree) (S:Int->Int->Int):Int->Int->Int:=fun x y=>(fE t (t.Hood.map fun o=>S (x+o.X) (y+o.Y)) (bL .i64 (b8 t.Nodes) 1)).getD 0
def itG (t:Tree):Nat->(Int->Int->Int)->Int->Int->Int
 | 0,S=>S
 | n+1,S=>newF t (itG t n S)
theorem newS_newF (t:Tree) (p:List Cell) (x y:Int):kE t p x y=newF t (dc p) x y:=rfl
theorem k6 {p:List Cell} (h:Pat p) (c:Cell):c∈p↔dc p c.X c.Y=c.S/\c.S≠0:=by
 constructor
 ·intro hc
  have:=(h.cell c hc).2
  exact⟨getS_of h.sorted hc,by omega⟩
 ·rintro⟨h1,h2⟩
  obtain⟨d,hd,e1,e2,e3⟩:=getS_mem (by rw[h1]; exact h2)
  have:d=c:=by
   cases c; cases d
   simp_all
  rw[<- this]
  exact hd
theorem pat_ext {p q:List Cell} (hp:Pat p) (hq:Pat q) (h:dc p=dc q):p=q :=
 pK hp.sorted hq.sorted fun c=>by rw[k6 hp,k6 hq,h]
theorem canon_getS {t:Tree} {p y:List Cell} (h:Canon t p y):dc y=newF t (dc p):=by
 funext x z
 rw[<- newS_newF]
 by_cases h0:kE t p x z=0
 ·rw[h0]
  refine getS_out fun c hc ⟨e1,e2⟩=>?_
  obtain⟨h1,h2⟩:=(h.mem c).1 hc
  rw[e1,e2,h0] at h1
  exact h2 h1
 ·have:(⟨x,z,kE t p x z⟩:Cell)∈y:=(h.mem _).2 ⟨rfl,h0⟩
  exact getS_of h.sorted this
def InBx (X Y:Int) (W H:Nat) (p:List Cell):Prop:=∀ c∈p,X<=c.X/\c.X < X+W/\Y<=c.Y/\c.Y < Y+H
theorem rise_len {N:Nat}:∀ {l:List Nat} {m:Nat},l.Pairwise (· < ·)->(∀ x∈l,m<=x/\x < N)->l.length<=N - m
 | [],_,_,_=>Nat.zero_le _
 | x::l,m,h,hb=>by
  obtain⟨h1,h2⟩:=List.pairwise_cons.1 h
  have hx:=hb x (by simp)
  have:=rise_len (m:=x+1) h2 fun y hy=>⟨h1 y hy,(hb y (by simp[hy])).2⟩
  rw[List.length_cons]
  omega
def numB (X Y:Int) (W:Nat) (c:Cell):Nat:=(c.Y - Y).toNat*W+(c.X - X).toNat
theorem num_lt {X Y:Int} {W H:Nat} {c d:Cell} (hc:X<=c.X/\c.X < X+W/\Y<=c.Y/\c.Y < Y+H) (hd:X<=d.X/\d.X < X+W/\Y<=d.Y/\d.Y < Y+H) (h:jG c d=true):numB X Y W c < numB X Y W d:=by
 unfold numB
 rcases (lj c d).1 h with h | ⟨h,h'⟩
 ·have h1:((c.Y - Y).toNat+1)*W<=(d.Y - Y).toNat*W:=Nat.mul_le_mul_right _ (by omega)
  rw[Nat.add_mul,Nat.one_mul] at h1
  omega
 ·rw[h]
  omega
theorem box_len {X Y:Int} {W H:Nat} {p:List Cell} (h:p.Pairwise fun a b=>jG a b=true) (hb:InBx X Y W H p):p.length<=W*H:=by
 have h1:(p.map (numB X Y W)).Pairwise (· < ·):=by
  rw[List.pairwise_map]
  refine h.imp_of_mem fun{c d} hc hd hcd=>num_lt (hb c hc) (hb d hd) hcd
 have:=rise_len (m:=0) (N:=W*H) h1 fun x hx=>by
  obtain⟨c,hc,rfl⟩:=List.mem_map.1 hx
  obtain⟨b1,b2,b3,b4⟩:=hb c hc
  have h2:((c.Y - Y).toNat+1)*W<=H*W:=Nat.mul_le_mul_right _ (by omega)
  rw[Nat.add_mul,Nat.one_mul,Nat.mul_comm H] at h2
  unfold numB
  omega
 rwa [List.length_map] at this
theorem step_bx {t:Tree} {q:List Cell} {X Y:Int} {W H:Nat} (hs:Sz t) (hq:jY t q=0) (hb:InBx X Y W H q) (hr:-1000<=X/\X+W<=1000/\-1000<=Y/\Y+H<=1000) (ha:(W+4)*(H+4)<=5000) :
  ∃ y,stepS t q=(y,0)/\jY t y=0/\dc y=newF t (dc q)/\InBx (X - 2) (Y - 2) (W+4) (H+4) y:=by
 obtain⟨_,h⟩:=stepS_eq hs hq
 have F:=oP hq
 have hnear:∀ x z,kE t q x z≠0->X - 2<=x/\x < X - 2+(W+4:Nat)/\Y - 2<=z/\z < Y - 2+(H+4:Nat):=fun x z hn=>by
  obtain⟨c,hc,o,ho,e1,e2⟩:=newS_near F hn
  have h1:=hood_in F.ok ho
  have h2:=hb c hc
  omega
 rcases h with ⟨⟨x,z,hn,hp⟩,e⟩ | ⟨hno,y,hy,e⟩
 ·have h1:=hnear x z hn
  rw[(nj x z).2 (by omega)] at hp
  cases hp
 ·have hin:InBx (X - 2) (Y - 2) (W+4) (H+4) y:=fun c hc=>by
   obtain⟨h1,h2⟩:=(hy.mem c).1 hc
   exact hnear _ _ (by rwa [<- h1])
  have hl:=box_len hy.sorted hin
  have hg:gtB (b8 y) 5000=false:=decide_eq_false (by unfold b8; omega)
  rw[hg,cond_false] at e
  have hf:=stp_pat F hs (r:=(y,0)) (.inr ⟨hno,y,hy,by rw[hg]; rfl⟩) rfl
  exact⟨y,e,fitE_of hf (fitE_quiet hq),canon_getS hy,hin⟩
theorem its_bx {t:Tree} {p:List Cell} {W H:Nat} (hs:Sz t) (hp:jY t p=0) (hb:InBx 0 0 W H p) (hW:W<=16) (hH:H<=16):∀ g:Nat,g<=6->∃ q,jY t q=0/\dc q=itG t g (dc p)/\InBx (-(2*g:Nat)) (-(2*g:Nat)) (W+4*g) (H+4*g) q
 | 0,_=>⟨p,hp,rfl,hb⟩
 | g+1,hg=>by
  obtain⟨q,h1,h2,h3⟩:=its_bx hs hp hb hW hH g (by omega)
  have ha:(W+4*g+4)*(H+4*g+4)<=40*40:=Nat.mul_le_mul (by omega) (by omega)
  obtain⟨y,_,e2,e3,e4⟩:=step_bx hs h1 h3 (by omega) (by omega)
  refine⟨y,e2,by rw[e3,h2]; rfl,fun c hc=>?_⟩
  have:=e4 c hc
  omega
theorem run_bx {t:Tree} {p:List Cell} {W H G:Nat} (hs:Sz t) (hp:jY t p=0) (hb:InBx 0 0 W H p) (hW:W<=16) (hH:H<=16) (hG:G<=6):∃ y,pg t p (G:Int)=some (y,0)/\Pat y/\dc y=itG t G (dc p):=by
 have hlen:=(oP hp).pat.len
 have hz:neB (0:Int) 0=false:=rfl
 have hn1:ltB (G:Int) 0=false:=decide_eq_false (by omega)
 have hn2:gtB (G:Int) 10000=false:=decide_eq_false (by omega)
 obtain⟨r,hr,out,y,rfl,ho,hy1,hy2⟩:=bX (b:=gK t (G:Int)) (n:=G) (s:=(0,[p])) (fun i s=>s.1=(i:Int)/\s.2.length=i+1/\∃ q,s.2[i]?=some q/\jY t q=0/\dc q=itG t i (dc p)/\InBx (-(2*i:Nat)) (-(2*i:Nat)) (W+4*i) (H+4*i) q) (fun r=>∃ out y,r=.inr out/\out[G]?=some y/\Pat y/\dc y=itG t G (dc p)) (by omega)
  ⟨rfl,rfl,p,rfl,hp,rfl,hb⟩
  (fun i s hi ⟨h1,h2,q,h3,h4,h5,h6⟩=>by
   obtain⟨a,out⟩:=s
   dsimp only at h1 h2 h3
   subst h1
   have ha:(W+4*i+4)*(H+4*i+4)<=40*40:=Nat.mul_le_mul (by omega) (by omega)
   obtain⟨q',e1,e2,e3,e4⟩:=step_bx hs h4 h6 (by omega) (by omega)
   have hstep:=(stepS_eq hs h4).1
   rw[e1] at hstep
   have ha:eT 24 out [q']=some (out++[q']):=by
    unfold eT
    rw[if_pos ⟨by decide,by simp; omega⟩]
   refine .inl ⟨(((i+1:Nat):Int),out++[q']),?_,rfl,by simp; omega,q',?_,e2,by rw[e3,h5]; rfl,fun c hc=>?_⟩
   ·unfold gK
    dsimp only
    rw[show ltB (i:Int) (G:Int)=true from decide_eq_true (by omega),cond_true,bl,h3,bJ (by omega)]
    simp only[aX,hstep,hz,cond_false,ha]
   ·dsimp only
    rw[List.getElem?_append_right (by omega),show i+1 - out.length=0 from by omega]
    rfl
   ·have:=e4 c hc
    omega)
  (fun s ⟨h1,h2,q,h3,h4,h5,h6⟩=>by
   obtain⟨a,out⟩:=s
   dsimp only at h1 h2 h3
   subst h1
   refine⟨.inr out,?_,out,q,rfl,h3,(oP h4).pat,h5⟩
   unfold gK
   dsimp only
   rw[show ltB (G:Int) (G:Int)=false from decide_eq_false (by omega)]
   rfl)
 refine⟨y,?_,hy1,hy2⟩
 unfold pg mc
 rw[fits_eq hs (by omega),hp]
 simp only[aX,hz,cond_false,hn1,hn2,hr,bl,ho]
end Go.Proofs.YtjlckgeecihpbaaGreatDoor
namespace Go.Proofs.YtjlckgeecihpbaaGreatDoor
open Go.AM Go.Proofs
def wiN (s W H i:Nat):Int:=match gR s ⟨0,0,W,H⟩ ⟨(i % W:Nat),(i / W:Nat)⟩ with
 | some q=>q.Y*W+q.X
 | none=>-1
def nodB:List Int->Bool
 | []=>true
 | a::l=>(l.all fun b=>neB a b) && nodB l
def onB (s W H:Nat):Bool:=nodB ((List.range (W*H)).map (wiN s W H)) && (List.range (W*H)).all fun j=>(List.range (W*H)).any fun i=>eqB (wiN s W H i) (j:Int)
def chkO (s:Nat):Bool:=sizesW.all fun p=>if s % 2=1/\p.1≠p.2 then true else onB s p.1 p.2
theorem chkO0:chkO 0=true:=by kernel_rfl
theorem chkO1:chkO 1=true:=by kernel_rfl
theorem chkO2:chkO 2=true:=by kernel_rfl
theorem chkO3:chkO 3=true:=by kernel_rfl
theorem chkO4:chkO 4=true:=by kernel_rfl
theorem chkO5:chkO 5=true:=by kernel_rfl
theorem chkO6:chkO 6=true:=by kernel_rfl
theorem chkO7:chkO 7=true:=by kernel_rfl
theorem chkO_all:∀ s,s < 8->chkO s=true
 | 0,_=>chkO0
 | 1,_=>chkO1
 | 2,_=>chkO2
 | 3,_=>chkO3
 | 4,_=>chkO4
 | 5,_=>chkO5
 | 6,_=>chkO6
 | 7,_=>chkO7
 | _+8,h=>by omega
theorem nod_get:∀ {l:List Int} {i j:Nat} {a b:Int},nodB l=true->i < j->l[i]?=some a->l[j]?=some b->a≠b
 | [],_,_,_,_,_,_,h,_=>by simp at h
 | x::l,i,0,_,_,_,h,_,_=>by omega
 | x::l,0,j+1,a,b,h,_,ha,hb=>by
  unfold nodB at h
  rw[Bool.and_eq_true] at h
  simp only[List.getElem?_cons_zero,Option.some.injEq,List.getElem?_cons_succ] at ha hb
  subst ha
  have:=List.all_eq_true.1 h.1 b (List.mem_of_getElem? hb)
  simpa [neB] using this
 | x::l,i+1,j+1,a,b,h,hij,ha,hb=>by
  unfold nodB at h
  rw[Bool.and_eq_true] at h
  rw[List.getElem?_cons_succ] at ha hb
  exact nod_get h.2 (by omega) ha hb
section
variable {n b w h r G:Nat} {t:Tree} {x:Bg} {L:Nat} {u:DD (L+1)} {p:List Cell}
theorem wiN_is (K:PK n b w h r G t x u) {k:Nat} (hs:(k:Int)∈x.Syms) {i:Nat} (hi:i < w*h):wiN k w h i=(wqS w h k i).Y*w+(wqS w h k i).X:=by
 unfold wiN
 rw[(wq_of K hs hi).2.1]
theorem places (K:PK n b w h r G t x u) {s:Int} (hs:s∈x.Syms):(∀ i j,i < w*h->j < w*h->wqS w h s i=wqS w h s j->i=j)/\∀ j,j < w*h->∃ i,i < w*h/\(wqS w h s i).X=(j % w:Nat)/\(wqS w h s i).Y=(j / w:Nat):=by
 obtain⟨k,rfl,h1,h2⟩:=K.syms s hs
 have hw:=K.w1
 have hh:=K.h1
 have hwh:=K.wh
 obtain⟨w16,h16⟩:=K.w16
 have hm:(w,h)∈sizesW:=by
  unfold sizesW
  rw[List.mem_flatMap]
  refine⟨w,List.mem_range.2 (by omega),?_⟩
  rw[List.mem_filterMap]
  exact⟨h,List.mem_range.2 (by omega),if_pos ⟨hw,hh,hwh⟩⟩
 have h3:=List.all_eq_true.1 (chkO_all k h1) (w,h) hm
 dsimp only at h3
 rw[if_neg (by intro h; exact h.2 (h2 h.1))] at h3
 unfold onB at h3
 rw[Bool.and_eq_true] at h3
 have hg:∀ i,i < w*h->((List.range (w*h)).map (wiN k w h))[i]?=some ((wqS w h k i).Y*w+(wqS w h k i).X):=fun i hi=>by
  rw[List.getElem?_map,List.getElem?_range hi,Option.map_some,wiN_is K hs hi]
 constructor
 ·intro i j hi hj e
  rcases Nat.lt_trichotomy i j with hij | hij | hij
  ·exact absurd (by rw[e]) (nod_get h3.1 hij (hg i hi) (hg j hj))
  ·exact hij
  ·exact absurd (by rw[e]) (nod_get h3.1 hij (hg j hj) (hg i hi))
 ·intro j hj
  obtain⟨i,hi,e⟩:=List.any_eq_true.1 (List.all_eq_true.1 h3.2 j (List.mem_range.2 hj))
  have hi':=List.mem_range.1 hi
  rw[wiN_is K hs hi'] at e
  have e':(wqS w h k i).Y*w+(wqS w h k i).X=(j:Int):=by simpa [eqB] using e
  obtain⟨_,_,q1,q2,q3,q4⟩:=wq_of K hs hi'
  obtain⟨a,ha⟩:∃ a:Nat,(wqS w h k i).X=a:=⟨(wqS w h k i).X.toNat,by omega⟩
  obtain⟨c,hc⟩:∃ c:Nat,(wqS w h k i).Y=c:=⟨(wqS w h k i).Y.toNat,by omega⟩
  rw[ha,hc] at e'
  have hj':j=c*w+a:=by
   rw[<- Int.natCast_mul] at e'
   omega
  refine⟨i,hi',?_,?_⟩
  ·rw[ha,hj',Nat.mul_comm c,Nat.mul_add_mod,Nat.mod_eq_of_lt (by omega)]
  ·rw[hc,hj',Nat.mul_comm c,Nat.mul_add_div (by omega),Nat.div_eq_of_lt (by omega),Nat.add_zero]
theorem PK.box (K:PK n b w h r G t x u):PBox x:=by
 have h1:=K.w1
 have h2:=K.h1
 have h3:=K.wh
 have h4:=K.W
 have h5:=K.H
 obtain⟨w16,h16⟩:=K.w16
 have e:((w*h:Nat):Int)=x.W*x.H:=by rw[h4,h5,Int.natCast_mul]
 exact⟨by omega,by omega,by omega,by omega,by omega⟩
theorem PK.area (K:PK n b w h r G t x u):Go.Proofs.YtjlckgeecihpbaaGreatDoor.area x=w*h:=by
 have e:((w*h:Nat):Int)=x.W*x.H:=by rw[K.W,K.H,Int.natCast_mul]
 unfold Go.Proofs.YtjlckgeecihpbaaGreatDoor.area
 omega
theorem ny (K:PK n b w h r G t x u) {c:Cell} (hc:lh x c=false):pos x c < w*h/\((pos x c % w:Nat):Int)=c.X/\((pos x c / w:Nat):Int)=c.Y/\0<=c.X/\c.X < w/\0<=c.Y/\c.Y < h:=by
 obtain⟨c1,c2,c3,c4,c5,c6,_,_⟩:=pos_in K.box hc
 rw[K.area] at c6
 rw[K.W] at c2 c5
 rw[K.H] at c4
 obtain⟨a,ha⟩:∃ a:Nat,c.X=a:=⟨c.X.toNat,by omega⟩
 obtain⟨d,hd⟩:∃ d:Nat,c.Y=d:=⟨c.Y.toNat,by omega⟩
 rw[ha,hd,<- Int.natCast_mul] at c5
 have e:pos x c=d*w+a:=by omega
 refine⟨c6,?_,?_,c1,c2,c3,c4⟩
 ·rw[ha,e,Nat.mul_comm d,Nat.mul_add_mod,Nat.mod_eq_of_lt (by omega)]
 ·rw[hd,e,Nat.mul_comm d,Nat.mul_add_div (by omega),Nat.div_eq_of_lt (by omega),Nat.add_zero]
theorem pos_mk (K:PK n b w h r G t x u) {i:Nat} (s:Int):pos x ⟨(i % w:Nat),(i / w:Nat),s⟩=i:=by
 unfold pos
 dsimp only
 rw[K.W,<- Int.natCast_mul,<- Int.natCast_add,Int.toNat_natCast,Nat.mul_comm]
 exact Nat.div_add_mod i w
def qC (w h:Nat) (s:Int) (x:Bg) (c:Cell):Cell:=⟨(wqS w h s (pos x c)).X,(wqS w h s (pos x c)).Y,c.S⟩
theorem image_is (K:PK n b w h r G t x u) {s:Int} (hs:s∈x.Syms) (hp:Pat p) (hin:∀ c∈p,lh x c=false) :
  kV x s p=some (jy [] (p.map (qC w h s x)))/\(jy [] (p.map (qC w h s x))).Pairwise (fun a b=>jG a b=true):=by
 have hlen:=hp.len
 obtain⟨w16,h16⟩:=K.w16
 obtain⟨l,hl,rfl⟩:=bX (b:=jf x s p) (n:=p.length) (s:=(0,[])) (fun i st=>st=((i:Int),(p.take i).map (qC w h s x))) (fun l=>l=p.map (qC w h s x)) (by omega) (by simp)
  (fun i st hi e=>by
   subst e
   have hx:p[i]?=some p[i]:=List.getElem?_eq_getElem hi
   generalize p[i]=c at hx
   obtain⟨c1,c2,c3,_⟩:=ny K (hin c (List.mem_of_getElem? hx))
   have hq:=(wq_of K hs c1).2.1
   rw[c2,c3] at hq
   refine .inl ⟨(((i+1:Nat):Int),(p.take (i+1)).map (qC w h s x)),?_,rfl⟩
   unfold jf
   dsimp only
   rw[bh,decide_eq_true hi,cond_true,bl,hx,aX,K.W,K.H,hq,aX,jL (by decide) (by decide) (by simp; omega),aX,bJ (by omega),List.take_add_one,hx,List.map_append]
   rfl)
  (fun st e=>by
   subst e
   refine⟨_,?_,rfl⟩
   unfold jf
   dsimp only
   rw[bh,decide_eq_false (Nat.lt_irrefl _),cond_false,List.take_length])
 have hd:(p.map (qC w h s x)).Pairwise Dist:=by
  rw[List.pairwise_map]
  refine hp.sorted.imp_of_mem fun{c d} hc hd hcd=>fun⟨e1,e2⟩=>?_
  have hlt:=pos_lt K.box (hin c hc) (hin d hd) hcd
  have:=(places K hs).1 _ _ (ny K (hin c hc)).1 (ny K (hin d hd)).1 (by
   unfold qC at e1 e2
   dsimp only at e1 e2
   revert e1 e2
   generalize wqS w h s (pos x c)=P
   generalize wqS w h s (pos x d)=Q
   intro e1 e2
   cases P; cases Q
   dsimp only at e1 e2
   rw[e1,e2])
  omega
 have hf:=fromR_eq (l:=p.map (qC w h s x)) (by rw[List.length_map]; omega) (fun c hc=>by
  obtain⟨d,hd',rfl⟩:=List.mem_map.1 hc
  obtain⟨_,_,q1,q2,q3,q4⟩:=wq_of K hs (ny K (hin d hd')).1
  exact⟨(nj _ _).2 (by unfold qC; dsimp only; omega),(hp.cell d hd').2⟩) hd
 have hg:gtB (b8 (jy [] (p.map (qC w h s x)))) 5000=false:=decide_eq_false (by unfold b8; rw[(kD _ _).length_eq]; simp; omega)
 rw[hg] at hf
 refine⟨?_,nf _ _ List.Pairwise.nil (by simpa using hd)⟩
 unfold kV
 rw[hl,aX,hf]
 rfl
theorem image_same (K:PK n b w h r G t x u) {s:Int} (hs:s∈x.Syms) (hp:Pat p) (hin:∀ c∈p,lh x c=false) :
  ∃ y v,kV x s p=some y/\jI y p=some v/\(v=true↔∀ i,i < w*h->dc p (i % w:Nat) (i / w:Nat)=dc p (wqS w h s i).X (wqS w h s i).Y):=by
 have hlen:=hp.len
 obtain⟨h1,h2⟩:=image_is K hs hp hin
 have hperm:=kD (p.map (qC w h s x)) []
 rw[List.nil_append] at hperm
 have hmem:∀ d,d∈jy [] (p.map (qC w h s x))↔∃ c∈p,qC w h s x c=d:=fun d=>by rw[hperm.mem_iff,List.mem_map]
 have hl:=hperm.length_eq
 rw[List.length_map] at hl
 generalize jy [] (p.map (qC w h s x))=y at h1 h2 hmem hl
 obtain⟨inj,sur⟩:=places K hs
 refine⟨y,_,h1,same_eq (by omega) hlen,?_⟩
 rw[decide_eq_true_eq]
 have ext:∀ i j,(wqS w h s i).X=(wqS w h s j).X->(wqS w h s i).Y=(wqS w h s j).Y->wqS w h s i=wqS w h s j:=fun i j=>by
  generalize wqS w h s i=P
  generalize wqS w h s j=Q
  intro e1 e2
  cases P; cases Q
  dsimp only at e1 e2
  rw[e1,e2]
 constructor
 ·intro e i hi
  subst e
  by_cases h0:dc y (i % w:Nat) (i / w:Nat)=0
  ·rw[h0]
   by_cases h3:dc y (wqS w h s i).X (wqS w h s i).Y=0
   ·exact h3.symm
   ·obtain⟨c,hc,e⟩:=(hmem ⟨(wqS w h s i).X,(wqS w h s i).Y,dc y (wqS w h s i).X (wqS w h s i).Y⟩).1 ((k6 hp _).2 ⟨rfl,h3⟩)
    obtain⟨c1,c2,c3,_⟩:=ny K (hin c hc)
    unfold qC at e
    simp only[Cell.mk.injEq] at e
    have:=inj _ _ c1 hi (ext _ _ e.1 e.2.1)
    rw[this] at c2 c3
    have hcs:=(k6 hp c).1 hc
    rw[<- c2,<- c3,h0] at hcs
    exact absurd hcs.1.symm hcs.2
  ·have hc:(⟨(i % w:Nat),(i / w:Nat),dc y (i % w:Nat) (i / w:Nat)⟩:Cell)∈y:=(k6 hp _).2 ⟨rfl,h0⟩
   have hq:=(hmem _).2 ⟨_,hc,rfl⟩
   have:=((k6 hp _).1 hq).1
   unfold qC at this
   rw[pos_mk K] at this
   exact this.symm
 ·intro hh
  refine pK h2 hp.sorted fun d=>?_
  rw[hmem]
  constructor
  ·rintro⟨c,hc,rfl⟩
   obtain⟨c1,c2,c3,_⟩:=ny K (hin c hc)
   have h3:=hh _ c1
   rw[c2,c3] at h3
   have hcs:=(k6 hp c).1 hc
   rw[k6 hp]
   unfold qC
   dsimp only
   rw[<- h3]
   exact hcs
  ·intro hd
   obtain⟨d1,d2,d3,_⟩:=ny K (hin d hd)
   obtain⟨i,hi,e1,e2⟩:=sur _ d1
   rw[d2] at e1
   rw[d3] at e2
   have h3:=hh i hi
   rw[e1,e2] at h3
   have hds:=(k6 hp d).1 hd
   refine⟨⟨(i % w:Nat),(i / w:Nat),d.S⟩,(k6 hp _).2 ⟨h3.trans hds.1,hds.2⟩,?_⟩
   unfold qC
   rw[pos_mk K,e1,e2]
def shF (a b:Int) (S:Int->Int->Int):Int->Int->Int:=fun x y=>S (x - a) (y - b)
def shC (a b:Int) (c:Cell):Cell:=⟨c.X+a,c.Y+b,c.S⟩
def shL (a b:Int) (l:List Cell):List Cell:=l.map (shC a b)
theorem getS_sh (a b:Int) (p:List Cell):dc (shL a b p)=shF a b (dc p):=by
 funext x y
 unfold shF dc shL
 rw[List.find?_map]
 have e:(fun c:Cell=>c.X == x && c.Y == y) ∘ shC a b=fun c=>c.X == x - a && c.Y == y - b:=by
  funext c
  unfold shC
  simp only[Function.comp]
  rw[Bool.eq_iff_iff]
  simp only[Bool.and_eq_true,beq_iff_eq]
  omega
 rw[e]
 cases p.find? (fun c=>c.X == x - a && c.Y == y - b)<;>rfl
theorem shift_is {dx dy:Int} (hp:Pat p) (ho:lO p=true) (hin:∀ c∈p,0<=c.X/\c.X < 16/\0<=c.Y/\c.Y < 16) (hx:-24<=dx/\dx<=24) (hy:-24<=dy/\dy<=24):mg p dx dy=some (shL dx dy p,0)/\Pat (shL dx dy p):=by
 have hlen:=hp.len
 obtain⟨l,hl,rfl⟩:=bX (b:=jc p dx dy) (n:=p.length) (s:=(0,[])) (fun i st=>st=((i:Int),shL dx dy (p.take i))) (fun l=>l=.inr (shL dx dy p)) (by omega) (by simp[shL])
  (fun i st hi e=>by
   subst e
   have hq:p[i]?=some p[i]:=List.getElem?_eq_getElem hi
   generalize p[i]=c at hq
   have hc:=hin c (List.mem_of_getElem? hq)
   refine .inl ⟨(((i+1:Nat):Int),shL dx dy (p.take (i+1))),?_,rfl⟩
   unfold jc
   dsimp only
   rw[bh,decide_eq_true hi,cond_true,bl,hq,aX,cw (a:=c.X) (by omega),cw (a:=c.Y) (by omega),placeR_eq,(nj _ _).2 (by omega),aX,show cy true=false from rfl,cond_false,
    jL (by decide) (by decide) (by simp[shL]; omega),aX,bJ (by omega),List.take_add_one,hq]
   unfold shL
   rw[List.map_append]
   rfl)
  (fun st e=>by
   subst e
   refine⟨_,?_,rfl⟩
   unfold jc
   dsimp only
   rw[bh,decide_eq_false (Nat.lt_irrefl _),cond_false,List.take_length])
 refine⟨?_,by unfold shL; rw[List.length_map]; exact hlen,fun c hc=>?_,?_⟩
 ·unfold mg
  rw[patR_eq (by omega),ho,aX,show cy true=false from rfl,cond_false,show ltB dx (-2097152)=false from decide_eq_false (by omega),show gtB dx 2097152=false from decide_eq_false (by omega),show ltB dy (-2097152)=false from decide_eq_false (by omega),
   show gtB dy 2097152=false from decide_eq_false (by omega),cond_false,cond_false,cond_false,aX,cond_false,hl]
  rfl
 ·obtain⟨d,hd,rfl⟩:=List.mem_map.1 hc
  have:=hin d hd
  have:=hp.cell d hd
  unfold shC
  dsimp only
  omega
 ·unfold shL
  rw[List.pairwise_map]
  refine hp.sorted.imp fun{c d} hcd=>?_
  rw[lj] at hcd ⊢
  unfold shC
  dsimp only
  omega
theorem solves_is (K:PK n b w h r G t x u) (hsz:Sz t) (hc:PC.chkE t x=0) (hf:jY t p=0) (hin:∀ c∈p,lh x c=false) :
  ∃ v,lC t x p=some (v,0)/\(v=true↔(∀ s∈x.Syms,∀ i,i < w*h->dc p (i % w:Nat) (i / w:Nat)=dc p (wqS w h s i).X (wqS w h s i).Y)/\∀ px py,itG t G (dc p) px py=dc p (px - x.DX) (py - x.DY)):=by
 have F:=oP hf
 have hlen:=F.pat.len
 have hsl:=K.slen
 obtain⟨w16,h16⟩:=K.w16
 have hpo:=fit_pat hf
 have hib:InBx 0 0 w h p:=fun c hc=>by
  obtain⟨_,_,_,c1,c2,c3,c4⟩:=ny K (hin c hc)
  omega
 have l1:ba (gk t x p) bp 0=some (.inr ()):=by
  have hla:=gg (b:=gk t x p) p (fun _ c=>lh x c) (false,0) (by omega) (fun i c hc=>?_) ?_
  ·rw[hla,anyB_all fun c hc=>hin c hc]
   rfl
  ·unfold gk
   dsimp only
   rw[bh,decide_eq_true (bq hc),cond_true,bl,hc,bJ (Nat.lt_trans (bq hc) (by omega))]
   simp only[aX,cR,cZ]
   rfl
  ·unfold gk
   dsimp only
   rw[bh,decide_eq_false (Nat.lt_irrefl _)]
   rfl
 obtain⟨o,l2,ho⟩:=bX (b:=ga t x p) (n:=x.Syms.length) (s:=0)
  (fun i st=>st=(i:Int)/\∀ (j:Nat) s,j < i->x.Syms[j]?=some s->∀ i,i < w*h->dc p (i % w:Nat) (i / w:Nat)=dc p (wqS w h s i).X (wqS w h s i).Y)
  (fun o=>(o=.inl (false,0)/\¬ ∀ s∈x.Syms,∀ i,i < w*h->dc p (i % w:Nat) (i / w:Nat)=dc p (wqS w h s i).X (wqS w h s i).Y) \/ (o=.inr ()/\∀ s∈x.Syms,∀ i,i < w*h->dc p (i % w:Nat) (i / w:Nat)=dc p (wqS w h s i).X (wqS w h s i).Y)) (by omega) ⟨rfl,fun j s hj=>by omega⟩
  (fun i st hi ⟨e,hh⟩=>by
   subst e
   have hx:x.Syms[i]?=some x.Syms[i]:=List.getElem?_eq_getElem hi
   generalize x.Syms[i]=s at hx
   have hs:=List.mem_of_getElem? hx
   obtain⟨y,v,e1,e2,e3⟩:=image_same K hs F.pat hin
   have hb:ga t x p (i:Int)=some (bif v then .next ((i+1:Nat):Int) else .out (.inl (false,0))):=by
    unfold ga
    dsimp only
    rw[bh,decide_eq_true hi,cond_true,bl,hx,aX,e1,aX,e2,aX,bJ (by omega)]
    cases v<;>rfl
   cases v with
   | true =>
    refine .inl ⟨_,hb,rfl,fun j s' hj hs'=>?_⟩
    rcases Nat.lt_succ_iff_lt_or_eq.1 hj with hj | rfl
    ·exact hh j s' hj hs'
    ·rw[hx] at hs'
     cases hs'
     exact e3.1 rfl
   | false=>exact .inr ⟨_,hb,.inl ⟨rfl,fun hall=>by have:=e3.2 (hall s hs); cases this⟩⟩)
  (fun st ⟨e,hh⟩=>by
   subst e
   refine⟨.inr (),?_,.inr ⟨rfl,fun s hs=>?_⟩⟩
   ·unfold ga
    dsimp only
    rw[bh,decide_eq_false (Nat.lt_irrefl _)]
    rfl
   ·obtain⟨j,hj⟩:=List.mem_iff_getElem?.1 hs
    exact hh j s (bq hj) hj)
 obtain⟨y,r1,r2,r3⟩:=run_bx hsz hf hib w16 h16 K.g6
 obtain⟨s1,s2⟩:=shift_is F.pat hpo (fun c hc=>by have:=hib c hc; omega) K.dx K.dy
 unfold lC
 rw[PC.checkR_eq hsz (by omega),hc,aX,show neB 0 0=false from rfl,cond_false,fits_eq hsz (by omega),hf,aX,show neB 0 0=false from rfl,cond_false,l1,aX]
 dsimp only
 rw[l2,aX]
 rcases ho with ⟨rfl,hn⟩ | ⟨rfl,hall⟩
 ·exact⟨false,rfl,by simp,fun hh=>absurd hh.1 hn⟩
 ·dsimp only
  rw[K.gens,r1,aX,s1,aX,same_eq r2.len s2.len,aX]
  refine⟨_,rfl,?_⟩
  rw[decide_eq_true_eq]
  constructor
  ·intro e
   refine⟨hall,fun px py=>?_⟩
   rw[<- r3,e,getS_sh]
   rfl
  ·rintro⟨_,hh⟩
   refine pat_ext r2 s2 ?_
   rw[r3,getS_sh]
   funext px py
   exact hh px py
end
end Go.Proofs.YtjlckgeecihpbaaGreatDoor
namespace Go.Proofs.YtjlckgeecihpbaaGreatDoor
open Go.AM Go.Proofs
section
variable {n b w h r G:Nat} {t:Tree} {x:Bg} {L:Nat} {u:DD (L+1)} {p:List Cell}
def stL (p:List Cell) (w h:Nat):List Int:=(List.range (w*h)).map fun i=>dc p (i % w:Nat) (i / w:Nat)
theorem st_at (K:PK n b w h r G t x u) (hf:jY t p=0) {k:Nat} (hk:k < w*h):((csA (stL p w h) n k:Nat):Int)=dc p (k % w:Nat) (k / w:Nat):=by
 obtain⟨h0,h1⟩:=getS_in (oP hf) (k % w:Nat) (k / w:Nat)
 rw[K.R.st] at h1
 unfold csA stL
 rw[List.getD_eq_getElem?_getD,List.getElem?_map,List.getElem?_range hk,Option.map_some,Option.getD_some,Nat.mod_eq_of_lt (by omega)]
 omega
theorem box_st (K:PK n b w h r G t x u) (hf:jY t p=0) (hin:∀ c∈p,lh x c=false) (px py:Int):((boxC w h (csA (stL p w h) n) px py:Nat):Int)=dc p px py:=by
 unfold boxC
 cases hi:inB 0 0 w h px py with
 | true =>
  obtain⟨i1,i2,i3,i4⟩:=gy.1 hi
  rw[if_pos rfl,st_at K hf (pI (by omega) (by omega)),Nat.mul_comm,Nat.mul_add_mod,Nat.mod_eq_of_lt (by omega),Nat.mul_add_div (by omega),Nat.div_eq_of_lt (by omega),Nat.add_zero,Int.toNat_of_nonneg (by omega),Int.toNat_of_nonneg (by omega)]
 | false =>
  rw[if_neg (by simp)]
  refine (getS_out fun c hc ⟨e1,e2⟩=>?_).symm
  obtain⟨_,_,_,c1,c2,c3,c4⟩:=ny K (hin c hc)
  rw[gy.2 (by omega)] at hi
  cases hi
theorem sgC_is (K:PK n b w h r G t x u) (hsz:Sz t) (hf:jY t p=0) (hin:∀ c∈p,lh x c=false):∀ g,g<=6->∀ px py,((sgC u t.Hood (boxC w h (csA (stL p w h) n)) g px py:Nat):Int)=itG t g (dc p) px py
 | 0,_=>fun px py=>box_st K hf hin px py
 | g+1,hg=>fun px py=>by
  have ih:=sgC_is K hsz hf hin g (by omega)
  obtain⟨w16,h16⟩:=K.w16
  have hib:InBx 0 0 w h p:=fun c hc=>by
   obtain⟨_,_,_,c1,c2,c3,c4⟩:=ny K (hin c hc)
   omega
  obtain⟨q,q1,q2,_⟩:=its_bx hsz hf hib w16 h16 g (by omega)
  have hst:=K.R.st
  have hn:=newS_eq (oP q1) hsz px py
  show ((newC u t.Hood (sgC u t.Hood (boxC w h (csA (stL p w h) n)) g) px py:Nat):Int)=newF t (itG t g (dc p)) px py
  rw[newC_is K.R K.D (p:=q) (fun a c=>by rw[q2]; exact ih a c) (fun a c=>by
   have h1:=ih a c
   have h2:=(getS_in (oP q1) a c).2
   rw[q2,hst] at h2
   omega),Int.toNat_of_nonneg hn.2.1,newS_newF,q2]
theorem bits_sol (K:PK n b w h r G t x u) (hsz:Sz t) (hc:PC.chkE t x=0) (hp:p.length < 1099511627776) :
  ∃ l e,gU t x p=some (l,e)/\(e=0->jY t p=0/\(∀ c∈p,lh x c=false)/\l=vA (bvA (stL p w h) n b) (w*h*b)):=by
 have hq:eV t=true:=by
  unfold PC.chkE at hc
  cases hq:eV t with
  | true=>rfl
  | false=>rw[hq] at hc; simp at hc
 have hsl:=K.slen
 have b3:=K.R.sb.b3
 have b1:=K.R.sb.b1
 have hwh:=K.wh
 have hn2:=K.R.sb.n2
 obtain⟨m,hm,hmt⟩:=top_eq (t.States) (by rw[K.R.st]; omega) (p:=p) hp
 unfold gU
 rw[PC.check_eq hsz (by omega),hc,pat_eq hp,has_eq hp,hm]
 simp only[aX]
 rw[show neB 0 0=false from rfl,hmt]
 simp only[cond_false]
 cases hpo:lO p with
 | false=>exact⟨[],2,rfl,fun h=>by cases h⟩
 | true =>
  cases ho:p.any (lh x) with
  | true=>exact⟨[],2,rfl,fun h=>by cases h⟩
  | false =>
   cases hb:fR (fun _ (c:Cell)=>geB c.S t.States) p 0 with
   | true=>exact⟨[],10,rfl,fun h=>by cases h⟩
   | false =>
    have hin:∀ c∈p,lh x c=false:=fun c hc=>by simpa using List.any_eq_false.1 ho c hc
    have hfe:jY t p=0:=by
     unfold jY
     rw[hq,hpo,hb]
     rfl
    have hwb:w*h*b<=16*3:=Nat.mul_le_mul hwh b3
    have e1:((w*h:Nat):Int)=(w:Int)*h:=Int.natCast_mul _ _
    have e2:((w*h*b:Nat):Int)=((w*h:Nat):Int)*b:=Int.natCast_mul _ _
    have hmul:ck .i64 (ck .i64 x.W x.H) (b:Int)=((w*h*b:Nat):Int):=by rw[K.W,K.H,jm (a:=(w:Int)) (by omega),<- e1,jm (by omega),e2]
    have hset:=outer_set (out:=List.replicate (w*h*b) false) K.box b3 hp hin (by rw[List.length_replicate,K.area])
    refine⟨pE x b p (List.replicate (w*h*b) false),0,?_,fun _=>⟨hfe,hin,?_⟩⟩
    ·simp only[cy,Bool.not_true,cond_false,aX]
     rw[PC.bits_eq,K.R.st,K.R.sb.bits,aX,hmul,show mkL 1 ((w*h*b:Nat):Int) ((w*h*b:Nat):Int) false=some (List.replicate (w*h*b) false) from by unfold mkL; rw[if_pos (by omega)]; rfl,aX,Int.toNat_natCast,hset]
     rfl
    ·refine List.ext_getElem? fun q=>?_
     rcases Nat.lt_or_ge q (w*h*b) with hql | hql
     ·have hqd:q / b < w*h:=Nat.div_lt_of_lt_mul (by rw[Nat.mul_comm]; exact hql)
      rw[bitsAll_get b1 p _ q (by rw[List.length_replicate]; exact hql) (pos_sorted K.box hpo hin)]
      unfold vA
      rw[List.getElem?_map,List.getElem?_range hql,Option.map_some]
      unfold bvA
      rw[Nat.add_sub_cancel,st_at K hfe hqd]
      have F:=oP hfe
      cases hfd:p.find? (fun c=>pos x c == q / b) with
      | some c =>
       have hcm:=List.mem_of_find?_eq_some hfd
       have hcp:pos x c=q / b:=by simpa using List.find?_some hfd
       obtain⟨_,c2,c3,_⟩:=ny K (hin c hcm)
       rw[hcp] at c2 c3
       rw[c2,c3,getS_of F.pat.sorted hcm]
      | none =>
       have h0:dc p (q / b % w:Nat) (q / b / w:Nat)=0:=getS_out fun c hc ⟨e1,e2⟩=>by
        have h1:=List.find?_eq_none.1 hfd c hc
        have h2:=pos_mk K (i:=q / b) c.S
        rw[<- e1,<- e2] at h2
        exact h1 (by rw[beq_iff_eq]; exact h2)
       rw[h0]
       dsimp only
       rw[List.getElem?_replicate,if_pos hql]
       exact congrArg some (bitB_zero _).symm
     ·rw[List.getElem?_eq_none (by rw[bitsAll_len,List.length_replicate]; exact hql),List.getElem?_eq_none (by rw[vA_len]; exact hql)]
theorem gen_A:∀ g,iZ n b w h r t x u g=iO b w h r t.Hood u (iZ n b w h r t x u 0) g
 | 0=>rfl
 | g+1=>by
  rw[iO,<- gen_A g]
  rfl
theorem sat_syms (K:PK n b w h r G t x u) (hf:jY t p=0) (hin:∀ c∈p,lh x c=false) :
  (Sat (bvA (stL p w h) n b) (gat (fun _ s=>symS b w h s) x.Syms 0)↔∀ s∈x.Syms,∀ i,i < w*h->dc p (i % w:Nat) (i / w:Nat)=dc p (wqS w h s i).X (wqS w h s i).Y) /\
   ∀ d∈gat (fun _ s=>symS b w h s) x.Syms 0,kA (w*h*b) d:=by
 have B:=K.R.sb
 have hwb:w*h*b<=16*3:=Nat.mul_le_mul K.wh B.b3
 have hcs:FirstV n b (bvA (stL p w h) n b) (w*h) (csA (stL p w h) n):=fun k _=>⟨Nat.mod_lt _ (by have:=B.n2; omega),bvA_bits _ _ B.b1 k⟩
 have F:=first_fd B hcs
 have key:∀ s∈x.Syms,_:=fun s hs=>sym_sat (qx:=fun i=>(wqS w h s i).X) (qy:=fun i=>(wqS w h s i).Y) (by omega) B F fun i hi=>by
  obtain⟨_,_,q1,q2,q3,q4⟩:=wq_of K hs hi
  exact wq_in q1 q2 q3 q4
 constructor
 ·rw[gat_sat]
  constructor
  ·intro hh s hs i hi
   obtain⟨j,hj⟩:=List.mem_iff_getElem?.1 hs
   have:=(key s hs).1.1 (hh j s hj) i hi
   rw[<- box_st K hf hin,<- box_st K hf hin,this]
  ·intro hh j s hj
   have hs:=List.mem_of_getElem? hj
   refine (key s hs).1.2 fun i hi=>?_
   have:=hh s hs i hi
   rw[<- box_st K hf hin,<- box_st K hf hin] at this
   exact Int.ofNat_inj.1 this
 ·intro d hd
  obtain⟨j,s,hj,hd⟩:=gT.1 hd
  exact (key s (List.mem_of_getElem? hj)).2 d hd
end
theorem solutions_true (t:Tree) (x:Bg) (p:List Cell):gt t x p=some true:=by
 obtain⟨y,hy,hs⟩:=small_eq t x
 unfold gt
 rw[hy,alive45]
 cases y with
 | false=>rfl
 | true =>
  obtain⟨hsz,hsl⟩:=hs rfl
  simp only[aX,cy,Bool.not_true,cond_false]
  cases hg:gtB (b8 p) 100 with
  | true=>rfl
  | false =>
   have hl:=of_decide_eq_false hg
   unfold b8 at hl
   simp only[cond_false]
   by_cases h0:PC.chkE t x=0
   ·obtain⟨n,b,w,h,r,G,L,u,K⟩:=pk_of hsl h0
    obtain⟨l,e,hb,hbe⟩:=bits_sol K hsz h0 (p:=p) (by omega)
    rw[forP K hsz h0,hb]
    simp only[aX]
    cases hf:jz (pq n b w h r G t x u).1 (pq n b w h r G t x u).2 with
    | false=>rfl
    | true =>
     by_cases he:e=0
     ·subst he
      obtain⟨hfe,hin,rfl⟩:=hbe rfl
      have hq:=fitE_quiet hfe
      have B:=K.R.sb
      obtain⟨s1,s2⟩:=sat_syms K hfe hin
      have hcs:FirstV n b (bvA (stL p w h) n b) (w*h) (csA (stL p w h) n):=fun k _=>⟨Nat.mod_lt _ (by have:=B.n2; omega),bvA_bits _ _ B.b1 k⟩
      have hfor:pq n b w h r G t x u=((iO b w h r t.Hood u (iZ n b w h r t x u 0) G).1,((iO b w h r t.Hood u (iZ n b w h r t x u 0) G).2.1++gat (eA b w h r G x) (iO b w h r t.Hood u (iZ n b w h r t x u 0) G).2.2 0)++gat (eB w h r G x) (bw b (w*h)) 0):=by
       rw[<- gen_A]
       rfl
      have hcl:=for_cl K
      have hfv:(pq n b w h r G t x u).1<=65536/\(pq n b w h r G t x u).2.length<=262144:=by
       unfold jz at hf
       rw[Bool.and_eq_true] at hf
       have q1:=of_decide_eq_true hf.1
       have q2:=of_decide_eq_true hf.2
       unfold b8 at q2
       omega
      obtain⟨V',A',v1,v2,v3,v4,v5,v6⟩:=sol_sem (F0:=iZ n b w h r t x u 0) K hq K.pts hcs s2 (by rw[Int.natCast_mul]; rfl) rfl rfl (by rw[hfor] at hfv; exact hfv.1)
      rw[hfor] at hcl hfv ⊢
      dsimp only at hcl hfv ⊢
      rw[v1] at hfv ⊢
      generalize ((iO b w h r t.Hood u (iZ n b w h r t x u 0) G).2.1++gat (eA b w h r G x) (iO b w h r t.Hood u (iZ n b w h r t x u 0) G).2.2 0)++gat (eB w h r G x) (bw b (w*h)) 0=fc at hcl hfv v4 v5 v6 ⊢
      have H:Frm V' fc:=⟨by omega,by omega,v4,fun c hc'=>by have:=hcl c hc'; omega⟩
      obtain⟨rr,c1,c2⟩:=completes_is (A:=A') (l:=vA (bvA (stL p w h) n b) (w*h*b)) H (by rw[vA_len]; exact v2) (fun k z hu=>by
       obtain⟨hu1,hu2⟩:=vA_get hu
       rw[hu2,v3 (k+1) hu1]) (fun k hu1 hu2=>v5 k (by rwa [vA_len] at hu1) hu2)
      obtain⟨v,o1,o2⟩:=solves_is K hsz h0 hfe hin
      have hro:rr=v:=by
       rw[Bool.eq_iff_iff,c2,v6,s1,o2]
       refine and_congr Iff.rfl (forall_congr' fun px=>forall_congr' fun py=>?_)
       rw[<- sgC_is K hsz hfe hin G K.g6,<- box_st K hfe hin]
       exact Int.ofNat_inj.symm
      subst hro
      simp only[cond_true]
      rw[show neB (0:Int) 0=false from rfl,cond_false,aX,cond_false,o1,aX]
      dsimp only
      rw[show eqB (0:Int) 0=true from rfl,cond_true,show b8 (vA (bvA (stL p w h) n b) (w*h*b))=((w*h:Nat):Int)*b from by unfold b8; rw[vA_len,Int.natCast_mul],eqB_self,cond_true,c1,aX,show eqb rr rr=true from by cases rr<;>rfl]
      rfl
     ·simp only[cond_true]
      rw[show neB (0:Int) 0=false from rfl,cond_false,show neB e 0=true from by simp[neB,he]]
      rfl
   ·have hne:neB (PC.chkE t x) 0=true:=by simp[neB,h0]
    unfold ek gU
    rw[PC.check_eq hsz (by omega)]
    simp only[aX]
    rw[hne]
    simp only[cond_true,aX]
    rw[hne]
    rfl
end Go.Proofs.YtjlckgeecihpbaaGreatDoor
