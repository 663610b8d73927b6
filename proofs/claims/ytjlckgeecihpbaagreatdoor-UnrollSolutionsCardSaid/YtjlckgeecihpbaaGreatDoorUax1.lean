/- The fixed examples of chapter 45 hold: reckoned by the kernel over the functions of lists. -/
import Derived.Test.YtjlckgeecihpbaaGreatDoorRrx1
namespace Go.Proofs.YtjlckgeecihpbaaGreatDoor
open Go.AM Go.Proofs
set_option maxRecDepth 100000
theorem alive45:kM=some true:=by kernel_rfl
end Go.Proofs.YtjlckgeecihpbaaGreatDoor
namespace Go.Proofs.YtjlckgeecihpbaaGreatDoor
open Go.AM Go.Proofs
end Go.Proofs.YtjlckgeecihpbaaGreatDoor
namespace Go.Proofs.YtjlckgeecihpbaaGreatDoor
open Go.AM Go.Proofs
end Go.Proofs.YtjlckgeecihpbaaGreatDoor
namespace Go.Proofs.YtjlckgeecihpbaaGreatDoor.PC
open Go.AM Go.Proofs Go.Proofs.YtjlckgeecihpbaaGreatDoor
def oZ (l:List Int) (i:Nat):List Bool:=(List.range 8).map fun(c:Nat)=>(l.take i).contains (c:Int)
theorem seen_len (l:List Int) (i:Nat):(oZ l i).length=8:=by simp[oZ]
theorem seen_get (l:List Int) (i:Nat) {c:Nat} (h:c < 8):(oZ l i)[c]?=some ((l.take i).contains (c:Int)):=by
 simp[oZ,List.getElem?_range h]
theorem aidx_seen {l:List Int} {i:Nat} {k:Int} (h0:ltB k 0=false) (h8:geB k 8=false):aidx 8 (oZ l i) k=some ((l.take i).contains k):=by
 have e0:=of_decide_eq_false h0
 have e8:=of_decide_eq_false h8
 have hk:aok 8 k=true:=decide_eq_true ⟨by omega,by omega⟩
 unfold aidx
 rw[hk,cond_true,seen_get l i (by omega),show ((k.toNat:Nat):Int)=k by omega]
theorem seen_set {l:List Int} {i:Nat} {k:Int} (hk:l[i]?=some k) (h0:ltB k 0=false) (h8:geB k 8=false):(oZ l i).set k.toNat true=oZ l (i+1):=by
 have e0:=of_decide_eq_false h0
 have e8:=of_decide_eq_false h8
 apply List.ext_getElem?
 intro c
 by_cases hc:c < 8
 ·rw[seen_get l (i+1) hc,List.take_add_one,hk]
  by_cases he:k.toNat=c
  ·subst he
   rw[List.getElem?_set_self (by rw[seen_len]; exact hc),show ((k.toNat:Nat):Int)=k by omega]
   simp
  ·rw[List.getElem?_set_ne he,seen_get l i hc]
   have:((c:Nat):Int)≠k:=by omega
   simp[this]
 ·rw[List.getElem?_eq_none (by rw[List.length_set,seen_len]; omega),List.getElem?_eq_none (by rw[seen_len]; omega)]
def oddB (k:Int):Bool:=eqB (k.tmod 2) 1
def badS (x:Bg) (i:Nat) (k:Int):Bool:=ltB k 0 || (geB k 8 || ((x.Syms.take i).contains k || (oddB k && neB x.W x.H)))
theorem irem2 (k:Int):irem k 2=some (k.tmod 2):=by unfold irem; rw[if_neg (by decide)]
theorem fits_eq {x:Bg} (hx:x.Syms.length < 1099511627776):js x=some (!fR (badS x) x.Syms 0):=by
 unfold js
 have h:=loop_anyE (b:=fU x) (fun i=>((i:Int),oZ x.Syms i)) x.Syms (badS x) false hx
  (fun i k hk=>by
   unfold fU badS oddB
   dsimp only
   rw[bh,decide_eq_true (bq hk),cond_true,bl,hk,bJ (Nat.lt_trans (bq hk) hx)]
   simp only[aX,irem2]
   cases h0:ltB k 0 with
   | true=>rfl
   | false =>
    cases h8:geB k 8 with
    | true=>rfl
    | false =>
     rw[aidx_seen h0 h8,seen_set hk h0 h8]
     simp only[aX]
     cases (x.Syms.take i).contains k<;>cases eqB (k.tmod 2) 1<;>cases neB x.W x.H<;>rfl)
  (by
   unfold fU
   dsimp only
   rw[bh,decide_eq_false (Nat.lt_irrefl _)]
   rfl)
 rw[show ((((0:Nat):Int),oZ x.Syms 0):Int×List Bool)=(0,[false,false,false,false,false,false,false,false]) from by
  simp[oZ,List.range,List.range.loop]] at h
 rw[h]
 cases fR (badS x) x.Syms 0<;>rfl
theorem any_contains (l:List Int) (k:Int):∀ i:Nat,fR (fun _ y=>eqB y k) l i=l.contains k:=by
 induction l with
 | nil=>intro i; rfl
 | cons y l ih =>
  intro i
  rw[fR,ih]
  simp only[List.contains_cons,eqB]
  rw[show (y == k)=(k == y) from Bool.eq_iff_iff.2 (by simp only[beq_iff_eq]; exact⟨Eq.symm,Eq.symm⟩)]
theorem box2_eq {x:Bg} {i:Nat} {k:Int} (hx:x.Syms.length < 1099511627776) (hi:i<=x.Syms.length):ba (kZ x (i:Nat) k) bp 0=some (bif (x.Syms.take i).contains k then .inl 2 else .inr ()):=by
 have hl:(x.Syms.take i).length=i:=by simp; omega
 rw[<- any_contains _ _ 0]
 refine gg (x.Syms.take i) (fun _ y=>eqB y k) 2 (by omega) (fun j y hy=>?_) ?_
 ·have hj:j < i:=by have:=bq hy; omega
  unfold kZ
  dsimp only
  rw[show ltB (j:Int) (i:Int)=true from decide_eq_true (by omega),cond_true,bl,show x.Syms[j]?=some y by rw[List.getElem?_take,if_pos hj] at hy; exact hy,bJ (by omega)]
  simp only[aX]
  cases eqB y k<;>rfl
 ·unfold kZ
  dsimp only
  rw[hl,show ltB (i:Int) (i:Int)=false from decide_eq_false (by omega)]
  rfl
theorem box1_eq {x:Bg} (hx:x.Syms.length < 1099511627776):ba (kU x) bp 0=some (bif fR (badS x) x.Syms 0 then .inl 2 else .inr ()):=by
 refine gg x.Syms (badS x) 2 hx (fun i k hk=>?_) ?_
 ·unfold kU badS oddB
  dsimp only
  rw[bh,decide_eq_true (bq hk),cond_true,bl,hk,bJ (Nat.lt_trans (bq hk) hx)]
  simp only[aX,irem2,box2_eq hx (Nat.le_of_lt (bq hk))]
  rw[show gtB k 7=geB k 8 from decide_eq_decide.2 ⟨fun h=>by omega,fun h=>by omega⟩]
  cases ltB k 0<;>cases geB k 8<;>cases (x.Syms.take i).contains k<;>cases eqB (k.tmod 2) 1<;>cases neB x.W x.H<;>rfl
 ·unfold kU
  dsimp only
  rw[bh,decide_eq_false (Nat.lt_irrefl _)]
  rfl
theorem ltB_min (a b c:Int):ltB (nB a b) c=(ltB a c || ltB b c):=by
 unfold ltB nB
 rw[Bool.eq_iff_iff]
 simp only[decide_eq_true_eq,Bool.or_eq_true]
 split<;>omega
theorem gtB_max (a b c:Int):gtB (fB a b) c=(gtB a c || gtB b c):=by
 unfold gtB fB
 rw[Bool.eq_iff_iff]
 simp only[decide_eq_true_eq,Bool.or_eq_true]
 split<;>omega
def probE (x:Bg):Int :=
 bif ltB x.W 1 || ltB x.H 1 then 2 else bif gtB x.W 16 || (gtB x.H 16 || gtB (ck .i64 x.W x.H) 16) then 6 else
  bif ltB x.Gens 1 || (gtB x.Gens 6 || (ltB x.DX (-24) || (gtB x.DX 24 || (ltB x.DY (-24) || (gtB x.DY 24 || fR (badS x) x.Syms 0))))) then 2 else 0
theorem first_eq {x:Bg} (hx:x.Syms.length < 1099511627776):iT x=some (probE x):=by
 unfold iT probE
 rw[fits_eq hx,ltB_min,gtB_max,gtB_max,ltB_min]
 simp only[aX,cR,cZ,cy,Bool.not_not]
 cases ltB x.W 1 || ltB x.H 1 with
 | true=>rfl
 | false =>
  rw[Bool.or_assoc]
  cases gtB x.W 16 || (gtB x.H 16 || gtB (ck .i64 x.W x.H) 16) with
  | true=>rfl
  | false =>
   cases ltB x.Gens 1<;>cases gtB x.Gens 6<;>cases ltB x.DX (-24)<;>cases gtB x.DX 24<;>cases ltB x.DY (-24)<;>cases gtB x.DY 24<;>cases fR (badS x) x.Syms 0<;>rfl
theorem box_eq {x:Bg} (hx:x.Syms.length < 1099511627776):pz x=some (probE x):=by
 unfold pz probE
 rw[box1_eq hx]
 simp only[aX,cR,cZ]
 cases ltB x.W 1 || ltB x.H 1 with
 | true=>rfl
 | false =>
  cases gtB x.W 16 || (gtB x.H 16 || gtB (ck .i64 x.W x.H) 16) with
  | true=>rfl
  | false =>
   cases ltB x.Gens 1<;>cases gtB x.Gens 6<;>cases ltB x.DX (-24)<;>cases gtB x.DX 24<;>cases ltB x.DY (-24)<;>cases gtB x.DY 24<;>cases fR (badS x) x.Syms 0<;>rfl
theorem patR_nil:eI []=some true:=by
 unfold eI
 rw[gg (b:=f0 []) ([]:List Unit) (fun _ _=>false) false (by simp) (fun i x hx=>by simp at hx) (by rfl)]
 rfl
theorem patT_nil:fP []=some 0:=by
 unfold fP
 have h:=mu (b:=fk []) (fun i (n:Int)=>(n,(i:Int))) [] (fun _ (x:Cell) n=>some (.next (fB n x.S))) (fun n=>some n) (by simp) (fun i x s hx=>by simp at hx) (fun n=>by rfl) 0
 rw[show ((0:Nat):Int)=0 from rfl] at h
 rw[h]
 rfl
def chkE (t:Tree) (x:Bg):Int:=bif eV t then probE x else 11
theorem run0_eq {t:Tree} (hs:Sz t):lK t [] 0=some ([],bif eV t then 0 else 11):=by
 unfold lK iA
 rw[quiet_eq hs,patR_nil,patT_nil]
 simp only[aX]
 cases hq:eV t with
 | false=>rfl
 | true =>
  have ht:gF t=true:=by
   unfold eV at hq
   simp only[Bool.and_eq_true] at hq
   exact hq.1
  have h2:=(ok_of ht).s2
  have hg:geB 0 t.States=false:=decide_eq_false (by omega)
  rw[hg]
  have hl:ba (lB t [] 0) bp ()=some ():=by
   have hF:∃ k,bp=k+1:=⟨1099511627775,rfl⟩
   obtain⟨k,hk⟩:=hF
   rw[hk,ba]
   rfl
  rw[hl]
  rfl
theorem check_eq {t:Tree} {x:Bg} (hs:Sz t) (hx:x.Syms.length < 1099511627776):fi t x=some (chkE t x):=by
 unfold fi chkE
 rw[run0_eq hs,first_eq hx]
 cases eV t<;>rfl
theorem checkR_eq {t:Tree} {x:Bg} (hs:Sz t) (hx:x.Syms.length < 1099511627776):mm t x=some (chkE t x):=by
 unfold mm chkE
 rw[quietR_eq hs,box_eq hx]
 cases eV t<;>rfl
def bitsOf (s:Int):Int:=bif eqB s 2 then 1 else bif eqB s 3 || eqB s 4 then 2 else bif gtB s 4 && leB s 8 then 3 else 0
theorem bits_eq (s:Int):iS s=some (bitsOf s):=by
 unfold iS bitsOf
 cases eqB s 2<;>cases eqB s 3<;>cases eqB s 4<;>cases gtB s 4<;>cases leB s 8<;>rfl
theorem bits_in {s:Int} (h2:2<=s) (h8:s<=8):(bitsOf s=1/\s<=2) \/ (bitsOf s=2/\s<=4) \/ (bitsOf s=3/\s<=8):=by
 unfold bitsOf eqB gtB leB
 by_cases e2:s=2
 ·subst e2; exact .inl ⟨rfl,by omega⟩
 ·by_cases e3:s=3
  ·subst e3; exact .inr (.inl ⟨rfl,by omega⟩)
  ·by_cases e4:s=4
   ·subst e4; exact .inr (.inl ⟨rfl,by omega⟩)
   ·refine .inr (.inr ⟨?_,h8⟩)
    have:s > 4:=by omega
    rw[beq_false_of_ne e2,beq_false_of_ne e3,beq_false_of_ne e4,decide_eq_true this,decide_eq_true h8]
    rfl
end Go.Proofs.YtjlckgeecihpbaaGreatDoor.PC
namespace Go.Proofs.YtjlckgeecihpbaaGreatDoor
open Go.AM Go.Proofs
def fZ (c:Int) (j:Nat):Bool:=eqB (iand .i64 ((ishr .i64 c (j:Int)).getD 0) 1) 1
theorem ishr_nat (c:Int) (j:Nat):ishr .i64 c (j:Int)=some ((ishr .i64 c (j:Int)).getD 0):=by unfold ishr; rw[if_neg (by omega)]; rfl
theorem and1 (n:Int):iand .i64 n 1=0 \/ iand .i64 n 1=1:=by
 unfold iand
 have h:(BitVec.ofInt IntKind.i64.bits n &&& BitVec.ofInt IntKind.i64.bits 1).toNat=(BitVec.ofInt IntKind.i64.bits n).toNat % 2:=by
  rw[BitVec.toNat_and,show (BitVec.ofInt IntKind.i64.bits 1).toNat=1 from by decide,Nat.and_one_is_mod]
 rw[h]
 rcases Nat.mod_two_eq_zero_or_one (BitVec.ofInt IntKind.i64.bits n).toNat with e | e
 ·rw[e]; exact .inl (by decide)
 ·rw[e]; exact .inr (by decide)
theorem and1_zero (n:Int):eqB (iand .i64 n 1) 0=!eqB (iand .i64 n 1) 1:=by rcases and1 n with e | e<;>rw[e]<;>rfl
def gat {α β:Type} (f:Nat->α->List β):List α->Nat->List β
 | [],_=>[]
 | x::l,i=>f i x++gat f l (i+1)
theorem gat_app {α β:Type} (f:Nat->α->List β):∀ (l m:List α) (i:Nat),gat f (l++m) i=gat f l i++gat f m (i+l.length)
 | [],m,i=>by simp[gat]
 | x::l,m,i=>by rw[List.cons_append,gat,gat,gat_app f l m (i+1),List.append_assoc,List.length_cons,Nat.add_assoc,Nat.add_comm 1]
theorem gat_take {α β:Type} (f:Nat->α->List β) {l:List α} {i:Nat} {x:α} (h:l[i]?=some x):gat f (l.take (i+1)) 0=gat f (l.take i) 0++f i x:=by
 have hi:=(List.getElem?_eq_some_iff.1 h).1
 rw[List.take_add_one,h,gat_app]
 simp only[Option.toList,gat,List.append_nil,Nat.zero_add,List.length_take,Nat.min_eq_left (Nat.le_of_lt hi)]
theorem gat_len {α β:Type} {f:Nat->α->List β} {m:Nat} (hf:∀ i x,(f i x).length<=m):∀ (l:List α) (i:Nat),(gat f l i).length<=m*l.length
 | [],_=>by simp[gat]
 | x::l,i=>by
  rw[gat,List.length_append,List.length_cons,Nat.mul_add,Nat.mul_one]
  have:=gat_len hf l (i+1)
  have:=hf i x
  omega
theorem nt {α β:Type} {b:Int×List β->Option (Lp (Int×List β) (List β))} (l:List α) (f:Nat->α->List β) (m C:Nat) (acc:List β) (hf:∀ i x,(f i x).length<=m) (hl:l.length < 1099511627776) (hC:acc.length+m*l.length<=C)
  (hs:∀ (i:Nat) (x:α) (ac:List β),l[i]?=some x->ac.length+m<=C->b ((i:Int),ac)=some (.next (((i+1:Nat):Int),ac++f i x)))
  (he:∀ ac,b ((l.length:Int),ac)=some (.out ac)):ba b bp (0,acc)=some (acc++gat f l 0):=by
 obtain⟨r,hr,rfl⟩:=bX (b:=b) (n:=l.length) (s:=(0,acc)) (fun i st=>st=((i:Int),acc++gat f (l.take i) 0)) (fun r=>r=acc++gat f l 0) hl (by simp[gat])
  (fun i st hi e=>by
   subst e
   have hx:l[i]?=some l[i]:=List.getElem?_eq_getElem hi
   refine .inl ⟨_,hs i _ _ hx ?_,?_⟩
   ·have h1:=gat_len hf (l.take i) 0
    rw[List.length_take,Nat.min_eq_left (Nat.le_of_lt hi)] at h1
    rw[List.length_append]
    have h2:m*i+m<=m*l.length:=by
     have:=Nat.mul_le_mul_left m (show i+1<=l.length from hi)
     rw[Nat.mul_add,Nat.mul_one] at this
     exact this
    omega
   ·rw[gat_take f hx,List.append_assoc])
  (fun st e=>by
   subst e
   exact⟨_,he _,by rw[List.take_length]⟩)
 exact hr
theorem gat_get {α β:Type} (f:Nat->α->β):∀ (l:List α) (i j:Nat),(gat (fun k x=>[f k x]) l i)[j]?=(l[j]?).map (f (i+j))
 | [],_,_=>by simp[gat]
 | x::l,i,0=>by simp[gat]
 | x::l,i,j+1=>by
  rw[gat,List.singleton_append,List.getElem?_cons_succ,List.getElem?_cons_succ,gat_get f l (i+1) j,show i+1+j=i+(j+1) by omega]
theorem gat_one_len {α β:Type} (f:Nat->α->β):∀ (l:List α) (i:Nat),(gat (fun k x=>[f k x]) l i).length=l.length
 | [],_=>rfl
 | x::l,i=>by rw[gat,List.singleton_append,List.length_cons,gat_one_len f l (i+1),List.length_cons]
theorem jL {α:Type} {n:Nat} {l m:List α} (h1:0 < n) (h2:n<=64) (h:l.length+m.length<=2000000000000):eT n l m=some (l++m):=by
 refine if_pos ⟨h1,?_⟩
 have:=Nat.mul_le_mul h h2
 omega
def agS (l:List Int) (c:Int):List Int:=gat (fun j v=>[bif fZ c j then cz .i64 v else v]) l 0
def d7 (v:Int) (b:Nat):List Int:=(List.range b).map fun(k:Nat)=>v+1+k
def md:List Int->List Int->List (List Int)
 | x::xs,y::ys=>[cz .i64 x,y]::[x,cz .i64 y]::md xs ys
 | _,_=>[]
def fixS (l:List Int) (c:Int):List (List Int):=gat (fun j v=>[[bif fZ c j then v else cz .i64 v]]) l 0
abbrev SV:=Int×List Int
def sel1 (un:List Int) (v:SV) (k:Nat) (x:Int):List (List Int) :=
 bif isE v.2 then [un++[bif fZ v.1 k then x else cz .i64 x]] else [un++[cz .i64 x,v.2.getD k 0],un++[x,cz .i64 (v.2.getD k 0)]]
def selS (un own:List Int) (v:SV):List (List Int):=gat (sel1 un v) own 0
def pv (v:SV):Bi:=⟨v.1,v.2⟩
theorem agS_len (l:List Int) (c:Int):(agS l c).length=l.length:=gat_one_len _ l 0
theorem ev (v:Int) (b:Nat):(d7 v b).length=b:=by simp[d7]
theorem sel1_len (un:List Int) (v:SV) (k:Nat) (x:Int):(sel1 un v k x).length<=2:=by
 unfold sel1
 cases isE v.2<;>simp
theorem selS_len (un own:List Int) (v:SV):(selS un own v).length<=2*own.length:=gat_len (fun k x=>sel1_len un v k x) own 0
theorem fixS_len (l:List Int) (c:Int):(fixS l c).length=l.length:=gat_one_len _ l 0
theorem sameS_len:∀ x y:List Int,(md x y).length<=2*x.length
 | [],y=>by simp[md]
 | x::xs,[]=>by simp[md]
 | x::xs,y::ys=>by have:=sameS_len xs ys; simp only[md,List.length_cons]; omega
theorem clone_i {l:List Int} (h:l.length<=1000000000000):ch l=some l:=by
 unfold ch
 rw[jL (by decide) (by decide) (by simp; omega)]
 rfl
theorem against_eq {l:List Int} (hl:l.length < 1000000) (c:Int):fS l c=some (agS l c):=by
 unfold fS
 rw[clone_i (by omega)]
 simp only[aX]
 obtain⟨r,hr,rfl⟩:=bX (b:=eW c l) (n:=l.length) (s:=(0,l)) (fun i st=>∃ ys:List Int,st=((i:Int),ys)/\ys.length=l.length/\(∀ j,j < i->ys[j]?=(agS l c)[j]?)/\∀ j,i<=j->ys[j]?=l[j]?) (fun r=>r=agS l c) (by omega) ⟨l,rfl,rfl,fun j h=>by omega,fun _ _=>rfl⟩
  (fun i st hi ⟨ys,e,h1,h2,h3⟩=>by
   subst e
   have hx:l[i]?=some l[i]:=List.getElem?_eq_getElem hi
   have hy:ys[i]?=some l[i]:=(h3 i (Nat.le_refl _)).trans hx
   have hg:(agS l c)[i]?=some (bif fZ c i then cz .i64 l[i] else l[i]):=by
    unfold agS
    rw[gat_get,hx,Nat.zero_add]
    rfl
   refine .inl ⟨(((i+1:Nat):Int),ys.set i (bif fZ c i then cz .i64 l[i] else l[i])),?_,_,rfl,by rw[List.length_set,h1],fun j hj=>?_,fun j hj=>?_⟩
   ·unfold eW
    dsimp only
    rw[bh,decide_eq_true hi,cond_true,ishr_nat,bJ (by omega)]
    simp only[aX]
    rw[show eqB (iand .i64 ((ishr .i64 c (i:Int)).getD 0) 1) 1=fZ c i from rfl]
    cases fZ c i with
    | true =>
     simp only[cond_true]
     rw[bl,hy]
     rfl
    | false =>
     simp only[cond_false,aX]
     rw[iV hy]
   ·rcases Nat.lt_succ_iff_lt_or_eq.1 hj with hj | rfl
    ·rw[List.getElem?_set_ne (by omega),h2 j hj]
    ·rw[List.getElem?_set_self (by omega),hg]
   ·rw[List.getElem?_set_ne (by omega),h3 j (by omega)])
  (fun st ⟨ys,e,h1,h2,_⟩=>by
   subst e
   refine⟨ys,?_,?_⟩
   ·unfold eW
    dsimp only
    rw[bh,decide_eq_false (Nat.lt_irrefl _)]
    rfl
   ·apply List.ext_getElem?
    intro j
    rcases Nat.lt_or_ge j l.length with hj | hj
    ·exact h2 j hj
    ·rw[List.getElem?_eq_none (by omega),List.getElem?_eq_none (by rw[agS_len]; omega)])
 rw[hr]
 rfl
theorem clauseP {a:Int} {S:Int} {H:List Point} {N:List Node} {b:Int} {mp:List (List UInt8×Tree)} {cs:List (List Int)} {l:List Int} (h:cs.length<=1000000000000):cp a cs S H N b mp l=some ():=by
 unfold cp
 rw[jL (by decide) (by decide) (by simp; omega)]
 rfl
theorem clauseP2 {a:Int} {S:Int} {H:List Point} {N:List Node} {b:Int} {mp:List (List UInt8×Tree)} {cs:List (List Int)} {l:List Int} (h:cs.length<=1000000000000):dq a cs S H N b mp l=some ():=by
 unfold dq
 rw[jL (by decide) (by decide) (by simp; omega)]
 rfl
theorem fixP {a:Int} {S:Int} {H:List Point} {N:List Node} {b:Int} {mp:List (List UInt8×Tree)} {cs:List (List Int)} {l:List Int} (c:Int) (h:cs.length<=100000000000) (h1:l.length<=1000000):cH a cs S H N b mp l c=some (cs++fixS l c):=by
 unfold cH
 rw[nt l (fun j v=>[[bif fZ c j then v else cz .i64 v]]) 1 200000000000 cs (fun _ _=>Nat.le_refl _) (by omega) (by omega) (fun i x ac hx hac=>by
  unfold dV
  dsimp only
  rw[bh,decide_eq_true (bq hx),cond_true,bl,hx,ishr_nat,bJ (by have:=bq hx; omega)]
  simp only[aX]
  rw[and1_zero,show eqB (iand .i64 ((ishr .i64 c (i:Int)).getD 0) 1) 1=fZ c i from rfl]
  cases fZ c i<;>simp only[Bool.not_true,Bool.not_false,cond_true,cond_false,aX]<;>rw[clauseP (by omega)]<;>rfl) (fun ac=>by
  unfold dV
  dsimp only
  rw[bh,decide_eq_false (Nat.lt_irrefl _)]
  rfl)]
 rfl
def same1 (y:List Int) (k:Nat) (x:Int):List (List Int):=[[cz .i64 x,y.getD k 0],[x,cz .i64 (y.getD k 0)]]
theorem same_gat:∀ (x y:List Int) (z:List Int) (i:Nat),(∀ k,y[k]?=z[i+k]?)->x.length<=y.length->gat (same1 z) x i=md x y
 | [],y,z,i,_,_=>by cases y<;>rfl
 | x::xs,[],z,i,_,hl=>by simp at hl
 | x::xs,y::ys,z,i,h,hl=>by
  have h0:=h 0
  simp only[List.getElem?_cons_zero,Nat.add_zero] at h0
  rw[gat,same_gat xs ys z (i+1) (fun k=>by have:=h (k+1); rw[List.getElem?_cons_succ] at this; rw[this,show i+(k+1)=i+1+k by omega]) (by simpa using hl)]
  unfold same1
  rw[List.getD_eq_getElem?_getD,<- h0]
  rfl
theorem sameP {a:Int} {S:Int} {H:List Point} {N:List Node} {b:Int} {mp:List (List UInt8×Tree)} {cs:List (List Int)} {x y:List Int} (h:cs.length<=100000000000) (h1:x.length<=1000000) (h2:x.length<=y.length):du a cs S H N b mp x y=some (cs++md x y):=by
 unfold du
 rw[nt x (same1 y) 2 200000000000 cs (fun _ _=>Nat.le_refl _) (by omega) (by omega) (fun i v ac hx hac=>by
  have hi:=bq hx
  have hy:y[i]?=some (y.getD i 0):=by rw[List.getD_eq_getElem?_getD,List.getElem?_eq_getElem (by omega)]; rfl
  unfold dN
  dsimp only
  rw[bh,decide_eq_true hi,cond_true,bl,hx,bl,hy,bJ (by omega)]
  simp only[aX]
  rw[clauseP (by omega),clauseP (by simp; omega)]
  simp only[aX,same1,List.append_assoc,List.singleton_append]) (fun ac=>by
  unfold dN
  dsimp only
  rw[bh,decide_eq_false (Nat.lt_irrefl _)]
  rfl),same_gat x y y 0 (fun k=>by rw[Nat.zero_add]) h2]
 rfl
end Go.Proofs.YtjlckgeecihpbaaGreatDoor
namespace Go.Proofs.YtjlckgeecihpbaaGreatDoor
open Go.AM Go.Proofs
abbrev FS:=Int×List (List Int)×List SV
def mj (of_:List SV) (x:Node) (s:Nat):SV:=if x.Level=1 then (x.Next.getD s 0,[]) else of_.getD (x.Next.getD s 0).toNat (0,[])
def uniB (x:Node):Bool:=x.Next.all (fun k=>eqB k (x.Next.getD 0 0))
def rdS (H:Nat) (in_:List SV) (x:Node):List Int:=(in_.getD (H - x.Level.toNat) (0,[])).2
def oE (b H:Nat) (in_:List SV) (st:FS) (x:Node):FS :=
 bif uniB x then (st.1,st.2.1,st.2.2++[mj st.2.2 x 0])
 else (st.1+b,st.2.1++gat (fun s _=>selS (agS (rdS H in_ x) (s:Int)) (d7 st.1 b) (mj st.2.2 x s)) x.Next 0,st.2.2++[(0,d7 st.1 b)])
def eO (b H:Nat) (in_:List SV) (ns:List Node) (st:FS):FS:=ns.foldl (oE b H in_) st
theorem tree_take (b H:Nat) (in_:List SV) {ns:List Node} (st:FS) {i:Nat} {x:Node} (h:ns[i]?=some x):eO b H in_ (ns.take (i+1)) st=oE b H in_ (eO b H in_ (ns.take i) st) x:=by
 unfold eO
 rw[List.take_add_one,h,List.foldl_append]
 rfl
def VOk (n b:Nat) (v:SV):Prop:=(v.2=[]/\0<=v.1/\v.1 < (n:Int)) \/ (v.1=0/\v.2.length=b)
structure WT (n b H:Nat) (in_:List SV) (ns:List Node):Prop where
 n2:2<=n
 n8:n<=8
 b1:1<=b
 b3:b<=3
 H25:H<=25
 len:ns.length<=4096
 ne:1<=ns.length
 good:Good n ns
 lev:∀ x∈ns,x.Level<=(H:Int)
 inl:in_.length=H
 inv:∀ v∈in_,VOk n b v
 rds:∀ x∈ns,uniB x=false->rdS H in_ x≠[]
structure TI (n b i:Nat) (n0:Int) (c0:Nat) (st:FS):Prop where
 lo:n0<=st.1
 hi:st.1<=n0+3*i
 cs:st.2.1.length<=c0+48*i
 of_:st.2.2.length=i
 ok:∀ v∈st.2.2,VOk n b v
section
variable {n b H:Nat} {in_:List SV} {ns:List Node} {n0:Int} {c0:Nat} {st:FS} {i:Nat} {x:Node}
theorem WT.inb (W:WT n b H in_ ns) (hx:ns[i]?=some x):(x.Level.toNat:Int)=x.Level/\1<=x.Level/\x.Level<=(H:Int):=by
 have h1:=W.good.lev i x hx
 have h2:=W.lev x (List.mem_of_getElem? hx)
 omega
theorem kid_ok (W:WT n b H in_ ns) (T:TI n b i n0 c0 st) (hx:ns[i]?=some x) {s:Nat} (hs:s < n):VOk n b (mj st.2.2 x s):=by
 have hl:=W.good.len i x hx
 have hk:x.Next[s]?=some (x.Next.getD s 0):=by rw[List.getD_eq_getElem?_getD,List.getElem?_eq_getElem (by omega)]; rfl
 have hm:=List.mem_of_getElem? hk
 unfold mj
 by_cases h1:x.Level=1
 ·rw[if_pos h1]
  obtain⟨a,b⟩:=W.good.st i x hx h1 _ hm
  exact .inl ⟨rfl,a,b⟩
 ·rw[if_neg h1]
  have:=(W.inb hx).2.1
  obtain⟨a,b,_⟩:=W.good.kid i x hx (by omega) _ hm
  have hlt:(x.Next.getD s 0).toNat < st.2.2.length:=by rw[T.of_]; omega
  rw[List.getD_eq_getElem?_getD,List.getElem?_eq_getElem hlt]
  exact T.ok _ (List.getElem_mem hlt)
theorem rds_get (W:WT n b H in_ ns) (hx:ns[i]?=some x):∃ v:SV,idx in_ (bL .i64 (H:Int) x.Level)=some v/\v.2=rdS H in_ x/\VOk n b v:=by
 obtain⟨h1,h2,h3⟩:=W.inb hx
 have hH:=W.H25
 have hlt:H - x.Level.toNat < in_.length:=by rw[W.inl]; omega
 refine⟨in_.getD (H - x.Level.toNat) (0,[]),?_,rfl,?_⟩
 ·rw[fN (by omega),gx _ (by omega),show ((H:Int) - x.Level).toNat=H - x.Level.toNat by omega,List.getD_eq_getElem?_getD,List.getElem?_eq_getElem hlt]
  rfl
 ·rw[List.getD_eq_getElem?_getD,List.getElem?_eq_getElem hlt]
  exact W.inv _ (List.getElem_mem hlt)
theorem rds_len (W:WT n b H in_ ns) (hx:ns[i]?=some x):(rdS H in_ x).length<=3:=by
 obtain⟨v,_,h2,h3⟩:=rds_get W hx
 have:=W.b3
 rw[<- h2]
 rcases h3 with ⟨e,_⟩ | ⟨_,e⟩
 ·rw[e]; simp
 ·omega
theorem TI.step (W:WT n b H in_ ns) (T:TI n b i n0 c0 st) (hx:ns[i]?=some x):TI n b (i+1) n0 c0 (oE b H in_ st x):=by
 have h3:=W.b3
 have n8:=W.n8
 have n2:=W.n2
 obtain⟨t1,t2,t3,t4,t5⟩:=T
 unfold oE
 cases uniB x with
 | true =>
  simp only[cond_true]
  refine⟨t1,by show st.1<=_; omega,by show st.2.1.length<=_; omega,by simp[t4],fun v hv=>?_⟩
  rcases List.mem_append.1 hv with hv | hv
  ·exact t5 v hv
  ·rw[List.mem_singleton.1 hv]
   exact kid_ok W ⟨t1,t2,t3,t4,t5⟩ hx (by omega)
 | false =>
  simp only[cond_false]
  refine⟨by show n0<=st.1+b; omega,by show st.1+b<=_; omega,?_,by simp[t4],fun v hv=>?_⟩
  ·show (_++_:List (List Int)).length<=_
   rw[List.length_append]
   have hg:=gat_len (f:=fun s _=>selS (agS (rdS H in_ x) ((s:Nat):Int)) (d7 st.1 b) (mj st.2.2 x s)) (m:=6) (fun s y=>by
    have:=selS_len (agS (rdS H in_ x) ((s:Nat):Int)) (d7 st.1 b) (mj st.2.2 x s)
    rw[ev] at this
    omega) x.Next 0
   have:=W.good.len i x hx
   omega
  ·rcases List.mem_append.1 hv with hv | hv
   ·exact t5 v hv
   ·rw[List.mem_singleton.1 hv]
    exact .inr ⟨rfl,ev _ _⟩
theorem TI.init {cs:List (List Int)}:TI n b 0 n0 cs.length (n0,cs,[]):=⟨Int.le_refl _,by show n0<=_; omega,by show cs.length<=_; omega,rfl,fun v hv=>by cases hv⟩
theorem TI.at_ (W:WT n b H in_ ns) (T:TI n b 0 n0 c0 st):∀ i,i<=ns.length->TI n b i n0 c0 (eO b H in_ (ns.take i) st)
 | 0,_=>T
 | i+1,h=>by
  have hx:ns[i]?=some ns[i]:=List.getElem?_eq_getElem (by omega)
  rw[tree_take b H in_ st hx]
  exact (TI.at_ W T i (by omega)).step W hx
end
theorem freshP {v:Int} {cs:List (List Int)} {S:Int} {Hd:List Point} {N:List Node} {b:Nat} {mp:List (List UInt8×Tree)} (hb:b<=3) (h0:0<=v) (h1:v<=1000000000000):di v cs S Hd N (b:Int) mp=some (d7 v b,v+b):=by
 unfold di
 obtain⟨r,hr,rfl⟩:=bX (b:=cS cs S Hd N (b:Int) mp) (n:=b) (s:=(0,[],v)) (fun i st=>st=((i:Int),d7 v i,v+i)) (fun r=>r=(d7 v b,v+b)) (by omega) (by simp[d7])
  (fun i st hi e=>by
   subst e
   refine .inl ⟨_,?_,rfl⟩
   unfold cS
   dsimp only
   rw[show ltB (i:Int) (b:Int)=true from decide_eq_true (by omega),cond_true,cw (a:=v+i) (b:=1) (by omega),jL (by decide) (by decide) (by rw[ev]; simp; omega),bJ (by omega)]
   simp only[aX,d7,List.range_succ,List.map_append,List.map_cons,List.map_nil]
   rw[show v+(i:Int)+1=v+1+i by omega,show v+((i+1:Nat):Int)=v+1+i by omega])
  (fun st e=>by
   subst e
   refine⟨_,?_,rfl⟩
   unfold cS
   dsimp only
   rw[show ltB (b:Int) (b:Int)=false from decide_eq_false (by omega)]
   rfl)
 rw[hr]
 rfl
theorem uniP {x:Node} (hl:x.Next.length < 1000000):bI x.Next x=some (!uniB x):=by
 unfold bI bZ
 obtain⟨r,hr,hq⟩:=bX (b:=bE x.Next x) (n:=x.Next.length) (s:=0) (fun i st=>st=(i:Int)/\∀ (j:Nat) k,j < i->x.Next[j]?=some k->eqB k (x.Next.getD 0 0)=true)
  (fun r=>(uniB x=true/\r=.inr ()) \/ (uniB x=false/\∃ k:Nat,r=.inl (k:Int))) (by omega) ⟨rfl,fun j k h=>by omega⟩
  (fun i st hi ⟨e,h⟩=>by
   subst e
   have hx:x.Next[i]?=some x.Next[i]:=List.getElem?_eq_getElem hi
   generalize x.Next[i]=k at hx
   have h0:idx x.Next 0=some (x.Next.getD 0 0):=by
    rw[show (0:Int)=((0:Nat):Int) from rfl,bl,List.getD_eq_getElem?_getD,List.getElem?_eq_getElem (by omega)]
    rfl
   unfold bE fb
   dsimp only
   rw[bh,decide_eq_true hi,cond_true,bl,hx,h0,bJ (by omega)]
   simp only[aX,neB_eqB]
   cases hk:eqB k (x.Next.getD 0 0) with
   | true =>
    refine .inl ⟨_,rfl,rfl,fun j k' hj hk'=>?_⟩
    rcases Nat.lt_succ_iff_lt_or_eq.1 hj with hj | rfl
    ·exact h j k' hj hk'
    ·rw[hx] at hk'
     cases hk'
     exact hk
   | false =>
    refine .inr ⟨_,rfl,.inr ⟨?_,i,rfl⟩⟩
    unfold uniB
    rw[Bool.eq_false_iff]
    intro ha
    have:=List.all_eq_true.1 ha k (List.mem_of_getElem? hx)
    rw[hk] at this
    cases this)
  (fun st ⟨e,h⟩=>by
   subst e
   refine⟨_,?_,.inl ⟨?_,rfl⟩⟩
   ·unfold bE
    dsimp only
    rw[bh,decide_eq_false (Nat.lt_irrefl _)]
    rfl
   ·unfold uniB
    rw[List.all_eq_true]
    intro k hk
    obtain⟨j,hj⟩:=List.mem_iff_getElem?.1 hk
    exact h j k (bq hj) hj)
 rw[hr]
 rcases hq with ⟨h1,rfl⟩ | ⟨h1,k,rfl⟩
 ·rw[h1]; rfl
 ·rw[h1]
  simp only[aX]
  rw[show geB (k:Int) 0=true from decide_eq_true (by omega)]
  rfl
theorem j1 {α:Type} {l:List α} (h:l≠[]):neE l=some ():=by cases l with
 | nil=>exact absurd rfl h
 | cons _ _=>rfl
theorem mh {α:Type} {l:List α} (h:isE l=true):l=[]:=by cases l with
 | nil=>rfl
 | cons _ _=>cases h
theorem vok_len {n b:Nat} {v:SV} (h:VOk n b v) (he:isE v.2=false):v.2.length=b:=by
 rcases h with ⟨e,_⟩ | ⟨_,e⟩
 ·rw[e] at he; cases he
 ·exact e
theorem addP {l:List Int} {v:Int} {cs:List (List Int)} {S:Int} {Hd:List Point} {N:List Node} {b:Int} {mp:List (List UInt8×Tree)} {un:List Int} (h:cs.length<=1000000000000) (h1:un.length<=1000000) (h2:l.length<=1000000):bU l v cs S Hd N b mp un=some (cs++[un++l]):=by
 unfold bU
 rw[clone_i (by omega)]
 simp only[aX]
 rw[jL (by decide) (by decide) (by omega),clauseP2 h]
 rfl
theorem selP {n b:Nat} {f:Int} {cs:List (List Int)} {S:Int} {Hd:List Point} {N:List Node} {bb:Int} {mp:List (List UInt8×Tree)} {un own:List Int} {v:SV} (hv:VOk n b v) (ho:own.length=b) (hb:b<=3) (h:cs.length<=100000000000) (h1:un.length<=1000000) :
  dC f cs S Hd N bb mp un own (pv v)=some (cs++selS un own v):=by
 unfold dC
 rw[nt own (sel1 un v) 2 200000000000 cs (fun i x=>sel1_len un v i x) (by omega) (by omega) (fun i x ac hx hac=>by
  have hi:=bq hx
  unfold dh sel1
  dsimp only [pv]
  rw[bh,decide_eq_true hi,cond_true,bl,hx,bJ (by omega)]
  simp only[aX]
  cases he:isE v.2 with
  | false =>
   have hne:v.2≠[]:=fun e=>by rw[e] at he; cases he
   have hy:v.2[i]?=some (v.2.getD i 0):=by rw[List.getD_eq_getElem?_getD,List.getElem?_eq_getElem (by have:=vok_len hv he; omega)]; rfl
   simp only[cy,Bool.not_false,cond_true,cond_false]
   rw[j1 hne,bl,hy]
   simp only[aX]
   rw[addP (by omega) h1 (by simp)]
   simp only[aX]
   rw[addP (by simp; omega) h1 (by simp)]
   simp only[aX,List.append_assoc,List.singleton_append]
  | true =>
   simp only[cy,Bool.not_true,cond_false,cond_true]
   rw[ishr_nat]
   simp only[aX]
   rw[show eqB (iand .i64 ((ishr .i64 v.1 (i:Int)).getD 0) 1) 1=fZ v.1 i from rfl,addP (by omega) h1 (by simp),addP (by omega) h1 (by simp)]
   cases fZ v.1 i<;>rfl) (fun ac=>by
  unfold dh
  dsimp only
  rw[bh,decide_eq_false (Nat.lt_irrefl _)]
  rfl)]
 rfl
end Go.Proofs.YtjlckgeecihpbaaGreatDoor
namespace Go.Proofs.YtjlckgeecihpbaaGreatDoor
open Go.AM Go.Proofs
def jz (v:Int) (cs:List (List Int)):Bool:=leB v 65536 && leB (b8 cs) 262144
theorem largeP_eq {v:Int} {cs:List (List Int)} {S:Int} {Hd:List Point} {N:List Node} {b:Int} {mp:List (List UInt8×Tree)}:cJ v cs S Hd N b mp=some (!jz v cs):=by
 unfold cJ jz
 rw[gtB_not,gtB_not]
 cases leB v 65536<;>cases leB (b8 cs) 262144<;>rfl
theorem fit_of_le {v w:Int} {cs ds:List (List Int)} (h1:v<=w) (h2:cs.length<=ds.length) (h:jz w ds=true):jz v cs=true:=by
 unfold jz leB b8 at *
 simp only[Bool.and_eq_true,decide_eq_true_eq] at *
 omega
theorem fit_len {v:Int} {cs:List (List Int)} (h:jz v cs=true):v<=65536/\cs.length<=262144:=by
 unfold jz leB b8 at *
 simp only[Bool.and_eq_true,decide_eq_true_eq] at *
 omega
theorem node_mono (b H:Nat) (in_:List SV) (st:FS) (x:Node):st.1<=(oE b H in_ st x).1/\st.2.1.length<=(oE b H in_ st x).2.1.length:=by
 unfold oE
 cases uniB x
 ·simp only[cond_false,List.length_append]; omega
 ·simp only[cond_true]; omega
theorem tree_mono (b H:Nat) (in_:List SV):∀ (ns:List Node) (st:FS),st.1<=(eO b H in_ ns st).1/\st.2.1.length<=(eO b H in_ ns st).2.1.length
 | [],st=>⟨Int.le_refl _,Nat.le_refl _⟩
 | x::ns,st=>by
  have h1:=node_mono b H in_ st x
  have h2:=tree_mono b H in_ ns (oE b H in_ st x)
  show st.1<=(eO b H in_ ns (oE b H in_ st x)).1/\_<=(eO b H in_ ns (oE b H in_ st x)).2.1.length
  omega
section
variable {n b:Nat} {S S':Int} {Hd Hd':List Point} {N:List Node} {mp:List (List UInt8×Tree)} {in_:List SV} {ns:List Node} {n0:Int} {c0:Nat}
theorem elemP {of_:List SV} {k:Nat} {x:Node} {s:Nat} {i:Nat} {e:SV} (W:WT n b Hd.length in_ ns) (hof:of_.length=i) (hx:ns[i]?=some x) (hs:s < n) :
  cd (s:Int) x.Level x.Next ((of_++List.replicate k e).map pv)=some (mj of_ x s):=by
 have hl:=W.good.len i x hx
 have hk:x.Next[s]?=some (x.Next.getD s 0):=by rw[List.getD_eq_getElem?_getD,List.getElem?_eq_getElem (by omega)]; rfl
 unfold cd mj
 rw[bl,hk]
 simp only[aX]
 by_cases h1:x.Level=1
 ·rw[if_pos h1,show eqB x.Level 1=true from by simp[eqB,h1],cond_true]
 ·rw[if_neg h1,show eqB x.Level 1=false from by simp[eqB,h1],cond_false]
  have:=(W.inb hx).2.1
  obtain⟨a,c,_⟩:=W.good.kid i x hx (by omega) _ (List.mem_of_getElem? hk)
  have hlt:(x.Next.getD s 0).toNat < of_.length:=by omega
  rw[gx _ a,List.getElem?_map,List.getElem?_append_left hlt,List.getD_eq_getElem?_getD (l:=of_),List.getElem?_eq_getElem hlt]
  rfl
theorem set_app {α:Type} (l:List α) (k:Nat) (e v:α):(l++List.replicate (k+1) e).set l.length v=(l++[v])++List.replicate k e:=by
 rw[List.set_append_right _ _ (Nat.le_refl _),Nat.sub_self,List.replicate_succ,List.set_cons_zero,List.append_assoc]
 rfl
theorem selsP {of_:List SV} {k:Nat} {x:Node} {i:Nat} {v:Int} {l1:List Bi} {cs:List (List Int)} {x1:SV} {u:Unit} {y1:(List Int)×Int} {x2:Bi} {t:Tree} {ia:List Bi} (W:WT n b Hd.length in_ ns) (T:TI n b i n0 c0 (v,cs,of_)) (hx:ns[i]?=some x)
  (hr:x1.2=rdS Hd.length in_ x) (hu:uniB x=false) (hl1:l1=(of_++List.replicate (k+1) (0,[])).map pv) (hx2:x2=⟨0,[]⟩) (hy1:y1=(d7 v b,v+b)) (hc:cs.length<=10000000000) :
  ba (cO S' Hd' N (b:Int) mp t ia (i:Int) l1 x (pv x1) y1 x2 u) bp (0,cs)=some (cs++gat (fun s _=>selS (agS (rdS Hd.length in_ x) ((s:Nat):Int)) (d7 v b) (mj of_ x s)) x.Next 0):=by
 subst hl1 hx2 hy1
 have n8:=W.n8
 have b3:=W.b3
 have hl:=W.good.len i x hx
 have hrl:=rds_len W hx
 have hne:=W.rds x (List.mem_of_getElem? hx) hu
 have hof:of_.length=i:=T.of_
 have hset:((of_++List.replicate (k+1) ((0:Int),([]:List Int))).map pv).set i (⟨0,d7 v b⟩:Bi)=((of_++[(0,d7 v b)])++List.replicate k ((0:Int),([]:List Int))).map pv:=by
  rw[show (⟨0,d7 v b⟩:Bi)=pv (0,d7 v b) from rfl,<- List.map_set,<- hof,set_app]
 refine nt x.Next _ 6 20000000000 cs (fun s y=>?_) (by omega) (by omega) (fun s y ac hs hac=>?_) (fun ac=>?_)
 ·have:=selS_len (agS (rdS Hd.length in_ x) (s:Int)) (d7 v b) (mj of_ x s)
  rw[ev] at this
  omega
 ·have hlt:=bq hs
  unfold cO
  dsimp only [pv]
  rw[bh,decide_eq_true hlt,cond_true,hr,j1 hne,against_eq (by omega),bJ (by omega)]
  simp only[aX]
  rw[Int.toNat_natCast]
  have he:cd (s:Int) x.Level x.Next (((of_++List.replicate (k+1) ((0:Int),([]:List Int))).map pv).set i (⟨0,d7 v b⟩:Bi))=some (mj of_ x s):=by
   rw[hset]
   unfold cd mj
   have hk:x.Next[s]?=some (x.Next.getD s 0):=by rw[List.getD_eq_getElem?_getD,List.getElem?_eq_getElem (by omega)]; rfl
   rw[bl,hk]
   simp only[aX]
   by_cases h1:x.Level=1
   ·rw[if_pos h1,show eqB x.Level 1=true from by simp[eqB,h1],cond_true]
   ·rw[if_neg h1,show eqB x.Level 1=false from by simp[eqB,h1],cond_false]
    have:=(W.inb hx).2.1
    obtain⟨a,c,_⟩:=W.good.kid i x hx (by omega) _ (List.mem_of_getElem? hk)
    have hlt:(x.Next.getD s 0).toNat < of_.length:=by omega
    rw[gx _ a,List.getElem?_map,List.append_assoc,List.getElem?_append_left hlt,List.getD_eq_getElem?_getD (l:=of_),List.getElem?_eq_getElem hlt]
    rfl
  rw[he]
  simp only[aX]
  have hv:=kid_ok W T hx (s:=s) (by omega)
  have hsel:=selP (f:=v+b) (cs:=ac) (S:=S') (Hd:=Hd') (N:=N) (bb:=(b:Int)) (mp:=mp) (un:=agS (rdS Hd.length in_ x) (s:Int)) (own:=d7 v b) hv (ev _ _) b3 (by omega) (by rw[agS_len]; omega)
  unfold pv at hsel
  dsimp only at hsel ⊢
  rw[hsel]
  rfl
 ·unfold cO
  dsimp only
  rw[bh,decide_eq_false (Nat.lt_irrefl _)]
  rfl
theorem treeP {t:Tree} {v:Int} {cs:List (List Int)} (W:WT n b t.Hood.length in_ t.Nodes) (h0:0<=v) (h1:v<=10000000) (hc:cs.length<=1000000000) :
  dO v cs S Hd N (b:Int) mp t (in_.map pv)=some (((eO b t.Hood.length in_ t.Nodes (v,cs,[])).2.2.getLastD (0,[])).1,((eO b t.Hood.length in_ t.Nodes (v,cs,[])).2.2.getLastD (0,[])).2,(eO b t.Hood.length in_ t.Nodes (v,cs,[])).2.1,(eO b t.Hood.length in_ t.Nodes (v,cs,[])).1):=by
 have hlen:=W.len
 have b3:=W.b3
 have n8:=W.n8
 have n2:=W.n2
 have hH:=W.H25
 have TA:=TI.at_ W (TI.init (n:=n) (b:=b) (n0:=v) (cs:=cs))
 unfold dO
 rw[show mkL 32 (b8 t.Nodes) (b8 t.Nodes) (⟨0,[]⟩:Bi)=some (List.replicate t.Nodes.length ⟨0,[]⟩) from by unfold mkL b8; rw[if_pos (by omega)]; simp,lenL_toNat]
 simp only[aX]
 obtain⟨r,hr,rfl⟩:=bX (b:=cN S Hd N (b:Int) mp t (in_.map pv)) (n:=t.Nodes.length) (s:=(0,List.replicate t.Nodes.length (⟨0,[]⟩:Bi),cs,v))
  (fun i st=>st=((i:Int),((eO b t.Hood.length in_ (t.Nodes.take i) (v,cs,[])).2.2++List.replicate (t.Nodes.length - i) (0,[])).map pv,(eO b t.Hood.length in_ (t.Nodes.take i) (v,cs,[])).2.1,(eO b t.Hood.length in_ (t.Nodes.take i) (v,cs,[])).1))
  (fun r=>r=((eO b t.Hood.length in_ t.Nodes (v,cs,[])).2.2.map pv,(eO b t.Hood.length in_ t.Nodes (v,cs,[])).2.1,(eO b t.Hood.length in_ t.Nodes (v,cs,[])).1)) (by omega) (by simp[eO,pv])
  (fun i st hi e=>by
   subst e
   have T:=TA i (by omega)
   have hx:t.Nodes[i]?=some t.Nodes[i]:=List.getElem?_eq_getElem hi
   rw[tree_take b t.Hood.length in_ (v,cs,[]) hx]
   generalize t.Nodes[i]=x at hx
   generalize eO b t.Hood.length in_ (t.Nodes.take i) (v,cs,[])=st at T
   obtain⟨w,ds,of_⟩:=st
   obtain⟨k,hk⟩:∃ k,t.Nodes.length - i=k+1:=⟨t.Nodes.length - i - 1,by omega⟩
   rw[hk,show t.Nodes.length - (i+1)=k by omega]
   have hl:=W.good.len i x hx
   obtain⟨t1,t2,t3,t4,t5⟩:=id T
   dsimp only at t1 t2 t3 t4
   have hget:idx ((of_++List.replicate (k+1) ((0:Int),([]:List Int))).map pv) (i:Int)=some (⟨0,[]⟩:Bi):=by
    rw[bl,List.getElem?_map,List.getElem?_append_right (by omega),t4,Nat.sub_self]
    rfl
   refine .inl ⟨_,?_,rfl⟩
   unfold cN
   dsimp only
   rw[bh,decide_eq_true hi,cond_true,bl,hx,bJ (by omega)]
   simp only[aX]
   rw[uniP (by omega)]
   simp only[aX,cy,Bool.not_not]
   unfold oE
   cases hu:uniB x with
   | true =>
    simp only[cond_true]
    have he:=elemP (k:=k+1) (e:=(0,[])) (s:=0) (of_:=of_) W t4 hx (by omega)
    rw[show ((0:Nat):Int)=0 from rfl] at he
    rw[he,hget]
    simp only[aX]
    rw[Int.toNat_natCast,show (⟨(mj of_ x 0).1,(mj of_ x 0).2⟩:Bi)=pv (mj of_ x 0) from rfl,<- List.map_set]
    have:=set_app of_ k ((0:Int),([]:List Int)) (mj of_ x 0)
    rw[t4] at this
    rw[this]
   | false =>
    simp only[cond_false]
    obtain⟨x1,e1,e2,_⟩:=rds_get W hx
    have e1':idx (in_.map pv) (bL .i64 (b8 t.Hood) x.Level)=some (pv x1):=by
     unfold idx b8 at *
     split at e1
     ·rename_i hp
      rw[if_pos hp,List.getElem?_map,e1]
      rfl
     ·cases e1
    have hfr:=freshP (v:=w) (cs:=ds) (S:=S) (Hd:=Hd) (N:=N) (mp:=mp) b3 (by omega) (by omega)
    rw[e1',hfr,hget]
    simp only[aX]
    rw[j1 (l:=d7 w b) (fun e=>by have h9:=ev w b; rw[e] at h9; have h8:=W.b1; simp at h9; omega)]
    simp only[aX]
    rw[selsP (Hd:=t.Hood) (k:=k) (x1:=x1) W T hx e2 hu rfl rfl rfl (by omega)]
    simp only[aX]
    rw[Int.toNat_natCast,show (⟨0,d7 w b⟩:Bi)=pv (0,d7 w b) from rfl,<- List.map_set]
    have:=set_app of_ k ((0:Int),([]:List Int)) (0,d7 w b)
    rw[t4] at this
    rw[this])
  (fun st e=>by
   subst e
   refine⟨_,?_,rfl⟩
   unfold cN
   dsimp only
   rw[bh,decide_eq_false (Nat.lt_irrefl _),List.take_length,Nat.sub_self]
   simp)
 rw[hr]
 have T:=TA t.Nodes.length (Nat.le_refl _)
 rw[List.take_length] at T
 generalize eO b t.Hood.length in_ t.Nodes (v,cs,[])=st at T
 obtain⟨w,ds,of_⟩:=st
 have h4:=T.of_
 have hne:=W.ne
 dsimp only at h4 ⊢
 simp only[aX]
 have:idx (of_.map pv) (bL .i64 (b8 (of_.map pv)) 1)=some (pv (of_.getLastD (0,[]))):=by
  unfold b8
  rw[List.length_map,fN (by omega),gx _ (by omega),show ((of_.length:Int) - 1).toNat=of_.length - 1 by omega,List.getElem?_map,List.getLastD_eq_getLast?,List.getLast?_eq_getElem?,List.getElem?_eq_getElem (show of_.length - 1 < of_.length by omega)]
  rfl
 rw[this]
 rfl
end
end Go.Proofs.YtjlckgeecihpbaaGreatDoor
namespace Go.Proofs.YtjlckgeecihpbaaGreatDoor
open Go.AM Go.Proofs
section
variable {n b:Nat} {in_:List SV} {ns:List Node} {n0:Int} {c0:Nat}
end
end Go.Proofs.YtjlckgeecihpbaaGreatDoor
