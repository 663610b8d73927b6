/- The fixed examples of chapter 45 hold: reckoned by the kernel over the functions of lists. -/
import Derived.Test.YtlifofijgddjkacGreatDoorRrx1
namespace Go.Proofs.YtlifofijgddjkacGreatDoor
open Go.AM Go.Proofs
set_option maxRecDepth 100000
theorem alive45:jW=some true:=by kernel_rfl
end Go.Proofs.YtlifofijgddjkacGreatDoor
namespace Go.Proofs.YtlifofijgddjkacGreatDoor
open Go.AM Go.Proofs
end Go.Proofs.YtlifofijgddjkacGreatDoor
namespace Go.Proofs.YtlifofijgddjkacGreatDoor
open Go.AM Go.Proofs
theorem imax_assoc (a b c:Int):gy (gy a b) c=gy a (gy b c):=by
 unfold gy
 repeat' split
 all_goals omega
theorem rad_step (l:List Point):jb l=dT l:=by
 funext st
 obtain⟨n,i⟩:=st
 unfold jb dT nN
 dsimp only
 simp only[aX,<- imax_assoc]
theorem rad_eq {l:List Point} (hl:l.length < 1099511627776):i6 l=dw l:=by
 unfold i6 dw
 rw[hoodR_eq hl,hood_eq hl,rad_step]
 simp only[aX]
 cases ju l with
 | false=>rfl
 | true =>
  simp only[fi,Bool.not_true,cond_false,cond_true]
  cases bh (dT l) bK (0,0)<;>rfl
end Go.Proofs.YtlifofijgddjkacGreatDoor
namespace Go.Proofs.YtlifofijgddjkacGreatDoor.PC
open Go.AM Go.Proofs Go.Proofs.YtlifofijgddjkacGreatDoor
def bitsOf (s:Int):Int:=bif eqB s 2 then 1 else bif eqB s 3 || eqB s 4 then 2 else bif gtB s 4 && leB s 8 then 3 else 0
theorem bits_eq (s:Int):hX s=some (bitsOf s):=by
 unfold hX bitsOf
 cases eqB s 2<;>cases eqB s 3<;>cases eqB s 4<;>cases gtB s 4<;>cases leB s 8<;>rfl
theorem bitsR_eq (s:Int):kM s=some (bitsOf s):=by
 unfold kM bitsOf
 rw[show geB s 5=gtB s 4 from decide_eq_decide.2 ⟨fun h=>by omega,fun h=>by omega⟩]
 cases eqB s 2<;>cases eqB s 3<;>cases eqB s 4<;>cases gtB s 4<;>cases leB s 8<;>rfl
theorem bits_in {s:Int} (h2:2<=s) (h8:s<=8):(bitsOf s=1/\s<=2) \/ (bitsOf s=2/\s<=4) \/ (bitsOf s=3/\s<=8):=by
 unfold bitsOf eqB gtB leB
 by_cases e2:s=2
 ·subst e2; exact .inl ⟨rfl,by omega⟩
 ·by_cases e3:s=3
  ·subst e3; exact .inr (.inl ⟨rfl,by omega⟩)
  ·by_cases e4:s=4
   ·subst e4; exact .inr (.inl ⟨rfl,by omega⟩)
   ·refine .inr (.inr ⟨?_,h8⟩)
    have:s > 4:=by omega
    rw[beq_false_of_ne e2,beq_false_of_ne e3,beq_false_of_ne e4,decide_eq_true this,decide_eq_true h8]
    rfl
end Go.Proofs.YtlifofijgddjkacGreatDoor.PC
namespace Go.Proofs.YtlifofijgddjkacGreatDoor
open Go.AM Go.Proofs
def gQ (c:Int) (j:Nat):Bool:=eqB (iand .i64 ((ishr .i64 c (j:Int)).getD 0) 1) 1
theorem ishr_nat (c:Int) (j:Nat):ishr .i64 c (j:Int)=some ((ishr .i64 c (j:Int)).getD 0):=by unfold ishr; rw[if_neg (by omega)]; rfl
theorem and1 (n:Int):iand .i64 n 1=0 \/ iand .i64 n 1=1:=by
 unfold iand
 have h:(BitVec.ofInt IntKind.i64.bits n &&& BitVec.ofInt IntKind.i64.bits 1).toNat=(BitVec.ofInt IntKind.i64.bits n).toNat % 2:=by
  rw[BitVec.toNat_and,show (BitVec.ofInt IntKind.i64.bits 1).toNat=1 from by decide,Nat.and_one_is_mod]
 rw[h]
 rcases Nat.mod_two_eq_zero_or_one (BitVec.ofInt IntKind.i64.bits n).toNat with e | e
 ·rw[e]; exact .inl (by decide)
 ·rw[e]; exact .inr (by decide)
theorem and1_zero (n:Int):eqB (iand .i64 n 1) 0=!eqB (iand .i64 n 1) 1:=by rcases and1 n with e | e<;>rw[e]<;>rfl
theorem u64_nat {j:Nat} (h:j < 1099511627776):mb .u64 (j:Int)=(j:Int):=by
 unfold mb
 exact IntWalk.u64_in _ ⟨by omega,by omega⟩
def gat {α β:Type} (f:Nat->α->List β):List α->Nat->List β
 | [],_=>[]
 | x::l,i=>f i x++gat f l (i+1)
theorem gat_app {α β:Type} (f:Nat->α->List β):∀ (l m:List α) (i:Nat),gat f (l++m) i=gat f l i++gat f m (i+l.length)
 | [],m,i=>by simp[gat]
 | x::l,m,i=>by rw[List.cons_append,gat,gat,gat_app f l m (i+1),List.append_assoc,List.length_cons,Nat.add_assoc,Nat.add_comm 1]
theorem gat_take {α β:Type} (f:Nat->α->List β) {l:List α} {i:Nat} {x:α} (h:l[i]?=some x):gat f (l.take (i+1)) 0=gat f (l.take i) 0++f i x:=by
 have hi:=(List.getElem?_eq_some_iff.1 h).1
 rw[List.take_add_one,h,gat_app]
 simp only[Option.toList,gat,List.append_nil,Nat.zero_add,List.length_take,Nat.min_eq_left (Nat.le_of_lt hi)]
theorem gat_len {α β:Type} {f:Nat->α->List β} {m:Nat} (hf:∀ i x,(f i x).length<=m):∀ (l:List α) (i:Nat),(gat f l i).length<=m*l.length
 | [],_=>by simp[gat]
 | x::l,i=>by
  rw[gat,List.length_append,List.length_cons,Nat.mul_add,Nat.mul_one]
  have:=gat_len hf l (i+1)
  have:=hf i x
  omega
theorem nG {α β:Type} {b:Int×List β->Option (Lp (Int×List β) (List β))} (l:List α) (f:Nat->α->List β) (m C:Nat) (acc:List β) (hf:∀ i x,(f i x).length<=m) (hl:l.length < 1099511627776) (hC:acc.length+m*l.length<=C)
  (hs:∀ (i:Nat) (x:α) (ac:List β),l[i]?=some x->ac.length+m<=C->b ((i:Int),ac)=some (.next (((i+1:Nat):Int),ac++f i x)))
  (he:∀ ac,b ((l.length:Int),ac)=some (.out ac)):bh b bK (0,acc)=some (acc++gat f l 0):=by
 obtain⟨r,hr,rfl⟩:=dK (b:=b) (n:=l.length) (s:=(0,acc)) (fun i st=>st=((i:Int),acc++gat f (l.take i) 0)) (fun r=>r=acc++gat f l 0) hl (by simp[gat])
  (fun i st hi e=>by
   subst e
   have hx:l[i]?=some l[i]:=List.getElem?_eq_getElem hi
   refine .inl ⟨_,hs i _ _ hx ?_,?_⟩
   ·have h1:=gat_len hf (l.take i) 0
    rw[List.length_take,Nat.min_eq_left (Nat.le_of_lt hi)] at h1
    rw[List.length_append]
    have h2:m*i+m<=m*l.length:=by
     have:=Nat.mul_le_mul_left m (show i+1<=l.length from hi)
     rw[Nat.mul_add,Nat.mul_one] at this
     exact this
    omega
   ·rw[gat_take f hx,List.append_assoc])
  (fun st e=>by
   subst e
   exact⟨_,he _,by rw[List.take_length]⟩)
 exact hr
theorem gat_get {α β:Type} (f:Nat->α->β):∀ (l:List α) (i j:Nat),(gat (fun k x=>[f k x]) l i)[j]?=(l[j]?).map (f (i+j))
 | [],_,_=>by simp[gat]
 | x::l,i,0=>by simp[gat]
 | x::l,i,j+1=>by
  rw[gat,List.singleton_append,List.getElem?_cons_succ,List.getElem?_cons_succ,gat_get f l (i+1) j,show i+1+j=i+(j+1) by omega]
theorem gat_one_len {α β:Type} (f:Nat->α->β):∀ (l:List α) (i:Nat),(gat (fun k x=>[f k x]) l i).length=l.length
 | [],_=>rfl
 | x::l,i=>by rw[gat,List.singleton_append,List.length_cons,gat_one_len f l (i+1),List.length_cons]
theorem jm {α:Type} {n:Nat} {l m:List α} (h1:0 < n) (h2:n<=64) (h:l.length+m.length<=2000000000000):ik n l m=some (l++m):=by
 refine if_pos ⟨h1,?_⟩
 have:=Nat.mul_le_mul h h2
 omega
def agS (l:List Int) (c:Int):List Int:=gat (fun j v=>[bif gQ c j then cQ .i64 v else v]) l 0
def cU (v:Int) (b:Nat):List Int:=(List.range b).map fun(k:Nat)=>v+1+k
def fixS (l:List Int) (c:Int):List (List Int):=gat (fun j v=>[[bif gQ c j then v else cQ .i64 v]]) l 0
abbrev SV:=Int×List Int
def sel1 (un:List Int) (v:SV) (k:Nat) (x:Int):List (List Int) :=
 bif isE v.2 then [un++[bif gQ v.1 k then x else cQ .i64 x]] else [un++[cQ .i64 x,v.2.getD k 0],un++[x,cQ .i64 (v.2.getD k 0)]]
def selS (un own:List Int) (v:SV):List (List Int):=gat (sel1 un v) own 0
def pv (v:SV):Ba:=⟨v.1,v.2⟩
theorem agS_len (l:List Int) (c:Int):(agS l c).length=l.length:=gat_one_len _ l 0
theorem e6 (v:Int) (b:Nat):(cU v b).length=b:=by simp[cU]
theorem sel1_len (un:List Int) (v:SV) (k:Nat) (x:Int):(sel1 un v k x).length<=2:=by
 unfold sel1
 cases isE v.2<;>simp
theorem selS_len (un own:List Int) (v:SV):(selS un own v).length<=2*own.length:=gat_len (fun k x=>sel1_len un v k x) own 0
theorem fixS_len (l:List Int) (c:Int):(fixS l c).length=l.length:=gat_one_len _ l 0
theorem clone_i {l:List Int} (h:l.length<=1000000000000):cg l=some l:=by
 unfold cg
 rw[jm (by decide) (by decide) (by simp; omega)]
 rfl
theorem against_eq {l:List Int} (hl:l.length < 1000000) (c:Int):fB l c=some (agS l c):=by
 unfold fB
 rw[clone_i (by omega)]
 simp only[aX]
 obtain⟨r,hr,rfl⟩:=dK (b:=eM c l) (n:=l.length) (s:=(0,l)) (fun i st=>∃ ys:List Int,st=((i:Int),ys)/\ys.length=l.length/\(∀ j,j < i->ys[j]?=(agS l c)[j]?)/\∀ j,i<=j->ys[j]?=l[j]?) (fun r=>r=agS l c) (by omega) ⟨l,rfl,rfl,fun j h=>by omega,fun _ _=>rfl⟩
  (fun i st hi ⟨ys,e,h1,h2,h3⟩=>by
   subst e
   have hx:l[i]?=some l[i]:=List.getElem?_eq_getElem hi
   have hy:ys[i]?=some l[i]:=(h3 i (Nat.le_refl _)).trans hx
   have hg:(agS l c)[i]?=some (bif gQ c i then cQ .i64 l[i] else l[i]):=by
    unfold agS
    rw[gat_get,hx,Nat.zero_add]
    rfl
   refine .inl ⟨(((i+1:Nat):Int),ys.set i (bif gQ c i then cQ .i64 l[i] else l[i])),?_,_,rfl,by rw[List.length_set,h1],fun j hj=>?_,fun j hj=>?_⟩
   ·unfold eM
    dsimp only
    rw[bG,decide_eq_true hi,cond_true,ishr_nat,d6 (by omega)]
    simp only[aX]
    rw[show eqB (iand .i64 ((ishr .i64 c (i:Int)).getD 0) 1) 1=gQ c i from rfl]
    cases gQ c i with
    | true =>
     simp only[cond_true]
     rw[bJ,hy]
     rfl
    | false =>
     simp only[cond_false,aX]
     rw[iW hy]
   ·rcases Nat.lt_succ_iff_lt_or_eq.1 hj with hj | rfl
    ·rw[List.getElem?_set_ne (by omega),h2 j hj]
    ·rw[List.getElem?_set_self (by omega),hg]
   ·rw[List.getElem?_set_ne (by omega),h3 j (by omega)])
  (fun st ⟨ys,e,h1,h2,_⟩=>by
   subst e
   refine⟨ys,?_,?_⟩
   ·unfold eM
    dsimp only
    rw[bG,decide_eq_false (Nat.lt_irrefl _)]
    rfl
   ·apply List.ext_getElem?
    intro j
    rcases Nat.lt_or_ge j l.length with hj | hj
    ·exact h2 j hj
    ·rw[List.getElem?_eq_none (by omega),List.getElem?_eq_none (by rw[agS_len]; omega)])
 rw[hr]
 rfl
theorem clauseP {a:Int} {S:Int} {H:List Point} {N:List Node} {b:Int} {mp:List (List UInt8×Tree)} {cs:List (List Int)} {l:List Int} (h:cs.length<=1000000000000):cn a cs S H N b mp l=some ():=by
 unfold cn
 rw[jm (by decide) (by decide) (by simp; omega)]
 rfl
theorem clauseP2 {a:Int} {S:Int} {H:List Point} {N:List Node} {b:Int} {mp:List (List UInt8×Tree)} {cs:List (List Int)} {l:List Int} (h:cs.length<=1000000000000):dl a cs S H N b mp l=some ():=by
 unfold dl
 rw[jm (by decide) (by decide) (by simp; omega)]
 rfl
theorem fixP {a:Int} {S:Int} {H:List Point} {N:List Node} {b:Int} {mp:List (List UInt8×Tree)} {cs:List (List Int)} {l:List Int} (c:Int) (h:cs.length<=100000000000) (h1:l.length<=1000000):cF a cs S H N b mp l c=some (cs++fixS l c):=by
 unfold cF
 rw[nG l (fun j v=>[[bif gQ c j then v else cQ .i64 v]]) 1 200000000000 cs (fun _ _=>Nat.le_refl _) (by omega) (by omega) (fun i x ac hx hac=>by
  unfold dP
  dsimp only
  rw[bG,decide_eq_true (cp hx),cond_true,bJ,hx,ishr_nat,d6 (by have:=cp hx; omega)]
  simp only[aX]
  rw[and1_zero,show eqB (iand .i64 ((ishr .i64 c (i:Int)).getD 0) 1) 1=gQ c i from rfl]
  cases gQ c i<;>simp only[Bool.not_true,Bool.not_false,cond_true,cond_false,aX]<;>rw[clauseP (by omega)]<;>rfl) (fun ac=>by
  unfold dP
  dsimp only
  rw[bG,decide_eq_false (Nat.lt_irrefl _)]
  rfl)]
 rfl
end Go.Proofs.YtlifofijgddjkacGreatDoor
namespace Go.Proofs.YtlifofijgddjkacGreatDoor
open Go.AM Go.Proofs
abbrev FS:=Int×List (List Int)×List SV
def kU (of_:List SV) (x:Node) (s:Nat):SV:=if x.Level=1 then (x.Next.getD s 0,[]) else of_.getD (x.Next.getD s 0).toNat (0,[])
def uniB (x:Node):Bool:=x.Next.all (fun k=>eqB k (x.Next.getD 0 0))
def rdS (H:Nat) (in_:List SV) (x:Node):List Int:=(in_.getD (H - x.Level.toNat) (0,[])).2
def mS (b H:Nat) (in_:List SV) (st:FS) (x:Node):FS :=
 bif uniB x then (st.1,st.2.1,st.2.2++[kU st.2.2 x 0])
 else (st.1+b,st.2.1++gat (fun s _=>selS (agS (rdS H in_ x) (s:Int)) (cU st.1 b) (kU st.2.2 x s)) x.Next 0,st.2.2++[(0,cU st.1 b)])
def dO (b H:Nat) (in_:List SV) (ns:List Node) (st:FS):FS:=ns.foldl (mS b H in_) st
theorem tree_take (b H:Nat) (in_:List SV) {ns:List Node} (st:FS) {i:Nat} {x:Node} (h:ns[i]?=some x):dO b H in_ (ns.take (i+1)) st=mS b H in_ (dO b H in_ (ns.take i) st) x:=by
 unfold dO
 rw[List.take_add_one,h,List.foldl_append]
 rfl
def VOk (n b:Nat) (v:SV):Prop:=(v.2=[]/\0<=v.1/\v.1 < (n:Int)) \/ (v.1=0/\v.2.length=b)
structure WT (n b H:Nat) (in_:List SV) (ns:List Node):Prop where
 n2:2<=n
 n8:n<=8
 b1:1<=b
 b3:b<=3
 H25:H<=25
 len:ns.length<=4096
 ne:1<=ns.length
 good:Good n ns
 lev:∀ x∈ns,x.Level<=(H:Int)
 inl:in_.length=H
 inv:∀ v∈in_,VOk n b v
 rds:∀ x∈ns,uniB x=false->rdS H in_ x≠[]
structure TI (n b i:Nat) (n0:Int) (c0:Nat) (st:FS):Prop where
 lo:n0<=st.1
 hi:st.1<=n0+3*i
 cs:st.2.1.length<=c0+48*i
 of_:st.2.2.length=i
 ok:∀ v∈st.2.2,VOk n b v
section
variable {n b H:Nat} {in_:List SV} {ns:List Node} {n0:Int} {c0:Nat} {st:FS} {i:Nat} {x:Node}
theorem WT.inb (W:WT n b H in_ ns) (hx:ns[i]?=some x):(x.Level.toNat:Int)=x.Level/\1<=x.Level/\x.Level<=(H:Int):=by
 have h1:=W.good.lev i x hx
 have h2:=W.lev x (List.mem_of_getElem? hx)
 omega
theorem kid_ok (W:WT n b H in_ ns) (T:TI n b i n0 c0 st) (hx:ns[i]?=some x) {s:Nat} (hs:s < n):VOk n b (kU st.2.2 x s):=by
 have hl:=W.good.len i x hx
 have hk:x.Next[s]?=some (x.Next.getD s 0):=by rw[List.getD_eq_getElem?_getD,List.getElem?_eq_getElem (by omega)]; rfl
 have hm:=List.mem_of_getElem? hk
 unfold kU
 by_cases h1:x.Level=1
 ·rw[if_pos h1]
  obtain⟨a,b⟩:=W.good.st i x hx h1 _ hm
  exact .inl ⟨rfl,a,b⟩
 ·rw[if_neg h1]
  have:=(W.inb hx).2.1
  obtain⟨a,b,_⟩:=W.good.kid i x hx (by omega) _ hm
  have hlt:(x.Next.getD s 0).toNat < st.2.2.length:=by rw[T.of_]; omega
  rw[List.getD_eq_getElem?_getD,List.getElem?_eq_getElem hlt]
  exact T.ok _ (List.getElem_mem hlt)
theorem rds_get (W:WT n b H in_ ns) (hx:ns[i]?=some x):∃ v:SV,idx in_ (cu .i64 (H:Int) x.Level)=some v/\v.2=rdS H in_ x/\VOk n b v:=by
 obtain⟨h1,h2,h3⟩:=W.inb hx
 have hH:=W.H25
 have hlt:H - x.Level.toNat < in_.length:=by rw[W.inl]; omega
 refine⟨in_.getD (H - x.Level.toNat) (0,[]),?_,rfl,?_⟩
 ·rw[od (by omega),iJ _ (by omega),show ((H:Int) - x.Level).toNat=H - x.Level.toNat by omega,List.getD_eq_getElem?_getD,List.getElem?_eq_getElem hlt]
  rfl
 ·rw[List.getD_eq_getElem?_getD,List.getElem?_eq_getElem hlt]
  exact W.inv _ (List.getElem_mem hlt)
theorem rds_len (W:WT n b H in_ ns) (hx:ns[i]?=some x):(rdS H in_ x).length<=3:=by
 obtain⟨v,_,h2,h3⟩:=rds_get W hx
 have:=W.b3
 rw[<- h2]
 rcases h3 with ⟨e,_⟩ | ⟨_,e⟩
 ·rw[e]; simp
 ·omega
theorem TI.step (W:WT n b H in_ ns) (T:TI n b i n0 c0 st) (hx:ns[i]?=some x):TI n b (i+1) n0 c0 (mS b H in_ st x):=by
 have h3:=W.b3
 have n8:=W.n8
 have n2:=W.n2
 obtain⟨t1,t2,t3,t4,t5⟩:=T
 unfold mS
 cases uniB x with
 | true =>
  simp only[cond_true]
  refine⟨t1,by show st.1<=_; omega,by show st.2.1.length<=_; omega,by simp[t4],fun v hv=>?_⟩
  rcases List.mem_append.1 hv with hv | hv
  ·exact t5 v hv
  ·rw[List.mem_singleton.1 hv]
   exact kid_ok W ⟨t1,t2,t3,t4,t5⟩ hx (by omega)
 | false =>
  simp only[cond_false]
  refine⟨by show n0<=st.1+b; omega,by show st.1+b<=_; omega,?_,by simp[t4],fun v hv=>?_⟩
  ·show (_++_:List (List Int)).length<=_
   rw[List.length_append]
   have hg:=gat_len (f:=fun s _=>selS (agS (rdS H in_ x) ((s:Nat):Int)) (cU st.1 b) (kU st.2.2 x s)) (m:=6) (fun s y=>by
    have:=selS_len (agS (rdS H in_ x) ((s:Nat):Int)) (cU st.1 b) (kU st.2.2 x s)
    rw[e6] at this
    omega) x.Next 0
   have:=W.good.len i x hx
   omega
  ·rcases List.mem_append.1 hv with hv | hv
   ·exact t5 v hv
   ·rw[List.mem_singleton.1 hv]
    exact .inr ⟨rfl,e6 _ _⟩
theorem TI.init {cs:List (List Int)}:TI n b 0 n0 cs.length (n0,cs,[]):=⟨Int.le_refl _,by show n0<=_; omega,by show cs.length<=_; omega,rfl,fun v hv=>by cases hv⟩
theorem TI.at_ (W:WT n b H in_ ns) (T:TI n b 0 n0 c0 st):∀ i,i<=ns.length->TI n b i n0 c0 (dO b H in_ (ns.take i) st)
 | 0,_=>T
 | i+1,h=>by
  have hx:ns[i]?=some ns[i]:=List.getElem?_eq_getElem (by omega)
  rw[tree_take b H in_ st hx]
  exact (TI.at_ W T i (by omega)).step W hx
end
theorem freshP {v:Int} {cs:List (List Int)} {S:Int} {Hd:List Point} {N:List Node} {b:Nat} {mp:List (List UInt8×Tree)} (hb:b<=3) (h0:0<=v) (h1:v<=1000000000000):dc v cs S Hd N (b:Int) mp=some (cU v b,v+b):=by
 unfold dc
 obtain⟨r,hr,rfl⟩:=dK (b:=cS cs S Hd N (b:Int) mp) (n:=b) (s:=(0,[],v)) (fun i st=>st=((i:Int),cU v i,v+i)) (fun r=>r=(cU v b,v+b)) (by omega) (by simp[cU])
  (fun i st hi e=>by
   subst e
   refine .inl ⟨_,?_,rfl⟩
   unfold cS
   dsimp only
   rw[show ltB (i:Int) (b:Int)=true from decide_eq_true (by omega),cond_true,dW (a:=v+i) (b:=1) (by omega),jm (by decide) (by decide) (by rw[e6]; simp; omega),d6 (by omega)]
   simp only[aX,cU,List.range_succ,List.map_append,List.map_cons,List.map_nil]
   rw[show v+(i:Int)+1=v+1+i by omega,show v+((i+1:Nat):Int)=v+1+i by omega])
  (fun st e=>by
   subst e
   refine⟨_,?_,rfl⟩
   unfold cS
   dsimp only
   rw[show ltB (b:Int) (b:Int)=false from decide_eq_false (by omega)]
   rfl)
 rw[hr]
 rfl
theorem uniP {x:Node} (hl:x.Next.length < 1000000):bH x.Next x=some (!uniB x):=by
 unfold bH ca
 obtain⟨r,hr,hq⟩:=dK (b:=bE x.Next x) (n:=x.Next.length) (s:=0) (fun i st=>st=(i:Int)/\∀ (j:Nat) k,j < i->x.Next[j]?=some k->eqB k (x.Next.getD 0 0)=true)
  (fun r=>(uniB x=true/\r=.inr ()) \/ (uniB x=false/\∃ k:Nat,r=.inl (k:Int))) (by omega) ⟨rfl,fun j k h=>by omega⟩
  (fun i st hi ⟨e,h⟩=>by
   subst e
   have hx:x.Next[i]?=some x.Next[i]:=List.getElem?_eq_getElem hi
   generalize x.Next[i]=k at hx
   have h0:idx x.Next 0=some (x.Next.getD 0 0):=by
    rw[show (0:Int)=((0:Nat):Int) from rfl,bJ,List.getD_eq_getElem?_getD,List.getElem?_eq_getElem (by omega)]
    rfl
   unfold bE fg
   dsimp only
   rw[bG,decide_eq_true hi,cond_true,bJ,hx,h0,d6 (by omega)]
   simp only[aX,neB_eqB]
   cases hk:eqB k (x.Next.getD 0 0) with
   | true =>
    refine .inl ⟨_,rfl,rfl,fun j k' hj hk'=>?_⟩
    rcases Nat.lt_succ_iff_lt_or_eq.1 hj with hj | rfl
    ·exact h j k' hj hk'
    ·rw[hx] at hk'
     cases hk'
     exact hk
   | false =>
    refine .inr ⟨_,rfl,.inr ⟨?_,i,rfl⟩⟩
    unfold uniB
    rw[Bool.eq_false_iff]
    intro ha
    have:=List.all_eq_true.1 ha k (List.mem_of_getElem? hx)
    rw[hk] at this
    cases this)
  (fun st ⟨e,h⟩=>by
   subst e
   refine⟨_,?_,.inl ⟨?_,rfl⟩⟩
   ·unfold bE
    dsimp only
    rw[bG,decide_eq_false (Nat.lt_irrefl _)]
    rfl
   ·unfold uniB
    rw[List.all_eq_true]
    intro k hk
    obtain⟨j,hj⟩:=List.mem_iff_getElem?.1 hk
    exact h j k (cp hj) hj)
 rw[hr]
 rcases hq with ⟨h1,rfl⟩ | ⟨h1,k,rfl⟩
 ·rw[h1]; rfl
 ·rw[h1]
  simp only[aX]
  rw[show geB (k:Int) 0=true from decide_eq_true (by omega)]
  rfl
theorem nF {α:Type} {l:List α} (h:l≠[]):neE l=some ():=by cases l with
 | nil=>exact absurd rfl h
 | cons _ _=>rfl
theorem vok_len {n b:Nat} {v:SV} (h:VOk n b v) (he:isE v.2=false):v.2.length=b:=by
 rcases h with ⟨e,_⟩ | ⟨_,e⟩
 ·rw[e] at he; cases he
 ·exact e
theorem addP {l:List Int} {v:Int} {cs:List (List Int)} {S:Int} {Hd:List Point} {N:List Node} {b:Int} {mp:List (List UInt8×Tree)} {un:List Int} (h:cs.length<=1000000000000) (h1:un.length<=1000000) (h2:l.length<=1000000):bU l v cs S Hd N b mp un=some (cs++[un++l]):=by
 unfold bU
 rw[clone_i (by omega)]
 simp only[aX]
 rw[jm (by decide) (by decide) (by omega),clauseP2 h]
 rfl
theorem selP {n b:Nat} {f:Int} {cs:List (List Int)} {S:Int} {Hd:List Point} {N:List Node} {bb:Int} {mp:List (List UInt8×Tree)} {un own:List Int} {v:SV} (hv:VOk n b v) (ho:own.length=b) (hb:b<=3) (h:cs.length<=100000000000) (h1:un.length<=1000000) :
  du f cs S Hd N bb mp un own (pv v)=some (cs++selS un own v):=by
 unfold du
 rw[nG own (sel1 un v) 2 200000000000 cs (fun i x=>sel1_len un v i x) (by omega) (by omega) (fun i x ac hx hac=>by
  have hi:=cp hx
  unfold db sel1
  dsimp only [pv]
  rw[bG,decide_eq_true hi,cond_true,bJ,hx,d6 (by omega)]
  simp only[aX]
  cases he:isE v.2 with
  | false =>
   have hne:v.2≠[]:=fun e=>by rw[e] at he; cases he
   have hy:v.2[i]?=some (v.2.getD i 0):=by rw[List.getD_eq_getElem?_getD,List.getElem?_eq_getElem (by have:=vok_len hv he; omega)]; rfl
   simp only[fi,Bool.not_false,cond_true,cond_false]
   rw[nF hne,bJ,hy]
   simp only[aX]
   rw[addP (by omega) h1 (by simp)]
   simp only[aX]
   rw[addP (by simp; omega) h1 (by simp)]
   simp only[aX,List.append_assoc,List.singleton_append]
  | true =>
   simp only[fi,Bool.not_true,cond_false,cond_true]
   rw[ishr_nat]
   simp only[aX]
   rw[show eqB (iand .i64 ((ishr .i64 v.1 (i:Int)).getD 0) 1) 1=gQ v.1 i from rfl,addP (by omega) h1 (by simp),addP (by omega) h1 (by simp)]
   cases gQ v.1 i<;>rfl) (fun ac=>by
  unfold db
  dsimp only
  rw[bG,decide_eq_false (Nat.lt_irrefl _)]
  rfl)]
 rfl
end Go.Proofs.YtlifofijgddjkacGreatDoor
namespace Go.Proofs.YtlifofijgddjkacGreatDoor
open Go.AM Go.Proofs
def jo (v:Int) (cs:List (List Int)):Bool:=leB v 65536 && leB (b9 cs) 262144
theorem largeP_eq {v:Int} {cs:List (List Int)} {S:Int} {Hd:List Point} {N:List Node} {b:Int} {mp:List (List UInt8×Tree)}:cJ v cs S Hd N b mp=some (!jo v cs):=by
 unfold cJ jo
 rw[gtB_not,gtB_not]
 cases leB v 65536<;>cases leB (b9 cs) 262144<;>rfl
theorem fit_of_le {v w:Int} {cs ds:List (List Int)} (h1:v<=w) (h2:cs.length<=ds.length) (h:jo w ds=true):jo v cs=true:=by
 unfold jo leB b9 at *
 simp only[Bool.and_eq_true,decide_eq_true_eq] at *
 omega
theorem fit_len {v:Int} {cs:List (List Int)} (h:jo v cs=true):v<=65536/\cs.length<=262144:=by
 unfold jo leB b9 at *
 simp only[Bool.and_eq_true,decide_eq_true_eq] at *
 omega
theorem node_mono (b H:Nat) (in_:List SV) (st:FS) (x:Node):st.1<=(mS b H in_ st x).1/\st.2.1.length<=(mS b H in_ st x).2.1.length:=by
 unfold mS
 cases uniB x
 ·simp only[cond_false,List.length_append]; omega
 ·simp only[cond_true]; omega
theorem tree_mono (b H:Nat) (in_:List SV):∀ (ns:List Node) (st:FS),st.1<=(dO b H in_ ns st).1/\st.2.1.length<=(dO b H in_ ns st).2.1.length
 | [],st=>⟨Int.le_refl _,Nat.le_refl _⟩
 | x::ns,st=>by
  have h1:=node_mono b H in_ st x
  have h2:=tree_mono b H in_ ns (mS b H in_ st x)
  show st.1<=(dO b H in_ ns (mS b H in_ st x)).1/\_<=(dO b H in_ ns (mS b H in_ st x)).2.1.length
  omega
section
variable {n b:Nat} {S S':Int} {Hd Hd':List Point} {N:List Node} {mp:List (List UInt8×Tree)} {in_:List SV} {ns:List Node} {n0:Int} {c0:Nat}
theorem elemP {of_:List SV} {k:Nat} {x:Node} {s:Nat} {i:Nat} {e:SV} (W:WT n b Hd.length in_ ns) (hof:of_.length=i) (hx:ns[i]?=some x) (hs:s < n) :
  cd (s:Int) x.Level x.Next ((of_++List.replicate k e).map pv)=some (kU of_ x s):=by
 have hl:=W.good.len i x hx
 have hk:x.Next[s]?=some (x.Next.getD s 0):=by rw[List.getD_eq_getElem?_getD,List.getElem?_eq_getElem (by omega)]; rfl
 unfold cd kU
 rw[bJ,hk]
 simp only[aX]
 by_cases h1:x.Level=1
 ·rw[if_pos h1,show eqB x.Level 1=true from by simp[eqB,h1],cond_true]
 ·rw[if_neg h1,show eqB x.Level 1=false from by simp[eqB,h1],cond_false]
  have:=(W.inb hx).2.1
  obtain⟨a,c,_⟩:=W.good.kid i x hx (by omega) _ (List.mem_of_getElem? hk)
  have hlt:(x.Next.getD s 0).toNat < of_.length:=by omega
  rw[iJ _ a,List.getElem?_map,List.getElem?_append_left hlt,List.getD_eq_getElem?_getD (l:=of_),List.getElem?_eq_getElem hlt]
  rfl
theorem set_app {α:Type} (l:List α) (k:Nat) (e v:α):(l++List.replicate (k+1) e).set l.length v=(l++[v])++List.replicate k e:=by
 rw[List.set_append_right _ _ (Nat.le_refl _),Nat.sub_self,List.replicate_succ,List.set_cons_zero,List.append_assoc]
 rfl
theorem selsP {of_:List SV} {k:Nat} {x:Node} {i:Nat} {v:Int} {l1:List Ba} {cs:List (List Int)} {x1:SV} {u:Unit} {y1:(List Int)×Int} {x2:Ba} {t:Tree} {ia:List Ba} (W:WT n b Hd.length in_ ns) (T:TI n b i n0 c0 (v,cs,of_)) (hx:ns[i]?=some x)
  (hr:x1.2=rdS Hd.length in_ x) (hu:uniB x=false) (hl1:l1=(of_++List.replicate (k+1) (0,[])).map pv) (hx2:x2=⟨0,[]⟩) (hy1:y1=(cU v b,v+b)) (hc:cs.length<=10000000000) :
  bh (cN S' Hd' N (b:Int) mp t ia (i:Int) l1 x (pv x1) y1 x2 u) bK (0,cs)=some (cs++gat (fun s _=>selS (agS (rdS Hd.length in_ x) ((s:Nat):Int)) (cU v b) (kU of_ x s)) x.Next 0):=by
 subst hl1 hx2 hy1
 have n8:=W.n8
 have b3:=W.b3
 have hl:=W.good.len i x hx
 have hrl:=rds_len W hx
 have hne:=W.rds x (List.mem_of_getElem? hx) hu
 have hof:of_.length=i:=T.of_
 have hset:((of_++List.replicate (k+1) ((0:Int),([]:List Int))).map pv).set i (⟨0,cU v b⟩:Ba)=((of_++[(0,cU v b)])++List.replicate k ((0:Int),([]:List Int))).map pv:=by
  rw[show (⟨0,cU v b⟩:Ba)=pv (0,cU v b) from rfl,<- List.map_set,<- hof,set_app]
 refine nG x.Next _ 6 20000000000 cs (fun s y=>?_) (by omega) (by omega) (fun s y ac hs hac=>?_) (fun ac=>?_)
 ·have:=selS_len (agS (rdS Hd.length in_ x) (s:Int)) (cU v b) (kU of_ x s)
  rw[e6] at this
  omega
 ·have hlt:=cp hs
  unfold cN
  dsimp only [pv]
  rw[bG,decide_eq_true hlt,cond_true,hr,nF hne,against_eq (by omega),d6 (by omega)]
  simp only[aX]
  rw[Int.toNat_natCast]
  have he:cd (s:Int) x.Level x.Next (((of_++List.replicate (k+1) ((0:Int),([]:List Int))).map pv).set i (⟨0,cU v b⟩:Ba))=some (kU of_ x s):=by
   rw[hset]
   unfold cd kU
   have hk:x.Next[s]?=some (x.Next.getD s 0):=by rw[List.getD_eq_getElem?_getD,List.getElem?_eq_getElem (by omega)]; rfl
   rw[bJ,hk]
   simp only[aX]
   by_cases h1:x.Level=1
   ·rw[if_pos h1,show eqB x.Level 1=true from by simp[eqB,h1],cond_true]
   ·rw[if_neg h1,show eqB x.Level 1=false from by simp[eqB,h1],cond_false]
    have:=(W.inb hx).2.1
    obtain⟨a,c,_⟩:=W.good.kid i x hx (by omega) _ (List.mem_of_getElem? hk)
    have hlt:(x.Next.getD s 0).toNat < of_.length:=by omega
    rw[iJ _ a,List.getElem?_map,List.append_assoc,List.getElem?_append_left hlt,List.getD_eq_getElem?_getD (l:=of_),List.getElem?_eq_getElem hlt]
    rfl
  rw[he]
  simp only[aX]
  have hv:=kid_ok W T hx (s:=s) (by omega)
  have hsel:=selP (f:=v+b) (cs:=ac) (S:=S') (Hd:=Hd') (N:=N) (bb:=(b:Int)) (mp:=mp) (un:=agS (rdS Hd.length in_ x) (s:Int)) (own:=cU v b) hv (e6 _ _) b3 (by omega) (by rw[agS_len]; omega)
  unfold pv at hsel
  dsimp only at hsel ⊢
  rw[hsel]
  rfl
 ·unfold cN
  dsimp only
  rw[bG,decide_eq_false (Nat.lt_irrefl _)]
  rfl
theorem treeP {t:Tree} {v:Int} {cs:List (List Int)} (W:WT n b t.Hood.length in_ t.Nodes) (h0:0<=v) (h1:v<=10000000) (hc:cs.length<=1000000000) :
  dF v cs S Hd N (b:Int) mp t (in_.map pv)=some (((dO b t.Hood.length in_ t.Nodes (v,cs,[])).2.2.getLastD (0,[])).1,((dO b t.Hood.length in_ t.Nodes (v,cs,[])).2.2.getLastD (0,[])).2,(dO b t.Hood.length in_ t.Nodes (v,cs,[])).2.1,(dO b t.Hood.length in_ t.Nodes (v,cs,[])).1):=by
 have hlen:=W.len
 have b3:=W.b3
 have n8:=W.n8
 have n2:=W.n2
 have hH:=W.H25
 have TA:=TI.at_ W (TI.init (n:=n) (b:=b) (n0:=v) (cs:=cs))
 unfold dF
 rw[show mkL 32 (b9 t.Nodes) (b9 t.Nodes) (⟨0,[]⟩:Ba)=some (List.replicate t.Nodes.length ⟨0,[]⟩) from by unfold mkL b9; rw[if_pos (by omega)]; simp,lenL_toNat]
 simp only[aX]
 obtain⟨r,hr,rfl⟩:=dK (b:=cM S Hd N (b:Int) mp t (in_.map pv)) (n:=t.Nodes.length) (s:=(0,List.replicate t.Nodes.length (⟨0,[]⟩:Ba),cs,v))
  (fun i st=>st=((i:Int),((dO b t.Hood.length in_ (t.Nodes.take i) (v,cs,[])).2.2++List.replicate (t.Nodes.length - i) (0,[])).map pv,(dO b t.Hood.length in_ (t.Nodes.take i) (v,cs,[])).2.1,(dO b t.Hood.length in_ (t.Nodes.take i) (v,cs,[])).1))
  (fun r=>r=((dO b t.Hood.length in_ t.Nodes (v,cs,[])).2.2.map pv,(dO b t.Hood.length in_ t.Nodes (v,cs,[])).2.1,(dO b t.Hood.length in_ t.Nodes (v,cs,[])).1)) (by omega) (by simp[dO,pv])
  (fun i st hi e=>by
   subst e
   have T:=TA i (by omega)
   have hx:t.Nodes[i]?=some t.Nodes[i]:=List.getElem?_eq_getElem hi
   rw[tree_take b t.Hood.length in_ (v,cs,[]) hx]
   generalize t.Nodes[i]=x at hx
   generalize dO b t.Hood.length in_ (t.Nodes.take i) (v,cs,[])=st at T
   obtain⟨w,ds,of_⟩:=st
   obtain⟨k,hk⟩:∃ k,t.Nodes.length - i=k+1:=⟨t.Nodes.length - i - 1,by omega⟩
   rw[hk,show t.Nodes.length - (i+1)=k by omega]
   have hl:=W.good.len i x hx
   obtain⟨t1,t2,t3,t4,t5⟩:=id T
   dsimp only at t1 t2 t3 t4
   have hget:idx ((of_++List.replicate (k+1) ((0:Int),([]:List Int))).map pv) (i:Int)=some (⟨0,[]⟩:Ba):=by
    rw[bJ,List.getElem?_map,List.getElem?_append_right (by omega),t4,Nat.sub_self]
    rfl
   refine .inl ⟨_,?_,rfl⟩
   unfold cM
   dsimp only
   rw[bG,decide_eq_true hi,cond_true,bJ,hx,d6 (by omega)]
   simp only[aX]
   rw[uniP (by omega)]
   simp only[aX,fi,Bool.not_not]
   unfold mS
   cases hu:uniB x with
   | true =>
    simp only[cond_true]
    have he:=elemP (k:=k+1) (e:=(0,[])) (s:=0) (of_:=of_) W t4 hx (by omega)
    rw[show ((0:Nat):Int)=0 from rfl] at he
    rw[he,hget]
    simp only[aX]
    rw[Int.toNat_natCast,show (⟨(kU of_ x 0).1,(kU of_ x 0).2⟩:Ba)=pv (kU of_ x 0) from rfl,<- List.map_set]
    have:=set_app of_ k ((0:Int),([]:List Int)) (kU of_ x 0)
    rw[t4] at this
    rw[this]
   | false =>
    simp only[cond_false]
    obtain⟨x1,e1,e2,_⟩:=rds_get W hx
    have e1':idx (in_.map pv) (cu .i64 (b9 t.Hood) x.Level)=some (pv x1):=by
     unfold idx b9 at *
     split at e1
     ·rename_i hp
      rw[if_pos hp,List.getElem?_map,e1]
      rfl
     ·cases e1
    have hfr:=freshP (v:=w) (cs:=ds) (S:=S) (Hd:=Hd) (N:=N) (mp:=mp) b3 (by omega) (by omega)
    rw[e1',hfr,hget]
    simp only[aX]
    rw[nF (l:=cU w b) (fun e=>by have h9:=e6 w b; rw[e] at h9; have h8:=W.b1; simp at h9; omega)]
    simp only[aX]
    rw[selsP (Hd:=t.Hood) (k:=k) (x1:=x1) W T hx e2 hu rfl rfl rfl (by omega)]
    simp only[aX]
    rw[Int.toNat_natCast,show (⟨0,cU w b⟩:Ba)=pv (0,cU w b) from rfl,<- List.map_set]
    have:=set_app of_ k ((0:Int),([]:List Int)) (0,cU w b)
    rw[t4] at this
    rw[this])
  (fun st e=>by
   subst e
   refine⟨_,?_,rfl⟩
   unfold cM
   dsimp only
   rw[bG,decide_eq_false (Nat.lt_irrefl _),List.take_length,Nat.sub_self]
   simp)
 rw[hr]
 have T:=TA t.Nodes.length (Nat.le_refl _)
 rw[List.take_length] at T
 generalize dO b t.Hood.length in_ t.Nodes (v,cs,[])=st at T
 obtain⟨w,ds,of_⟩:=st
 have h4:=T.of_
 have hne:=W.ne
 dsimp only at h4 ⊢
 simp only[aX]
 have:idx (of_.map pv) (cu .i64 (b9 (of_.map pv)) 1)=some (pv (of_.getLastD (0,[]))):=by
  unfold b9
  rw[List.length_map,od (by omega),iJ _ (by omega),show ((of_.length:Int) - 1).toNat=of_.length - 1 by omega,List.getElem?_map,List.getLastD_eq_getLast?,List.getLast?_eq_getElem?,List.getElem?_eq_getElem (show of_.length - 1 < of_.length by omega)]
  rfl
 rw[this]
 rfl
end
end Go.Proofs.YtlifofijgddjkacGreatDoor
namespace Go.Proofs.YtlifofijgddjkacGreatDoor
open Go.AM Go.Proofs
section
variable {n b:Nat} {in_:List SV} {ns:List Node} {n0:Int} {c0:Nat}
end
end Go.Proofs.YtlifofijgddjkacGreatDoor
