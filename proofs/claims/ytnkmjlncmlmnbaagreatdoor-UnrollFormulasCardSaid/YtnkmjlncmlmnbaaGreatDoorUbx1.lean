/- Plain laws: formulas and their parts, as lists. -/
import Derived.Test.YtnkmjlncmlmnbaaGreatDoorUax1
namespace Go.Proofs.YtnkmjlncmlmnbaaGreatDoor
open Go.AM Go.Proofs
def bitB (c:Int) (j:Nat):Bool:=eqB (iand .i64 ((ishr .i64 c (j:Int)).getD 0) 1) 1
theorem ishr_nat (c:Int) (j:Nat):ishr .i64 c (j:Int)=some ((ishr .i64 c (j:Int)).getD 0):=by unfold ishr; rw[if_neg (by omega)]; rfl
theorem and1 (n:Int):iand .i64 n 1=0 \/ iand .i64 n 1=1:=by
 unfold iand
 have h:(BitVec.ofInt IntKind.i64.bits n &&& BitVec.ofInt IntKind.i64.bits 1).toNat=(BitVec.ofInt IntKind.i64.bits n).toNat % 2:=by
  rw[BitVec.toNat_and,show (BitVec.ofInt IntKind.i64.bits 1).toNat=1 from by decide,Nat.and_one_is_mod]
 rw[h]
 rcases Nat.mod_two_eq_zero_or_one (BitVec.ofInt IntKind.i64.bits n).toNat with e | e
 ·rw[e]; exact .inl (by decide)
 ·rw[e]; exact .inr (by decide)
theorem and1_zero (n:Int):eqB (iand .i64 n 1) 0=!eqB (iand .i64 n 1) 1:=by rcases and1 n with e | e<;>rw[e]<;>rfl
theorem u64_nat {j:Nat} (h:j < 1099511627776):gt .u64 (j:Int)=(j:Int):=by
 unfold gt
 exact IntWalk.u64_in _ ⟨by omega,by omega⟩
theorem bitR_eq (c:Int) {j:Nat} (h:j < 1099511627776):∃ n,m_R45_bit c (j:Int)=some n/\eqB n 1=bitB c j:=by
 refine⟨_,?_,rfl⟩
 unfold m_R45_bit
 rw[u64_nat h,ishr_nat]
 rfl
def gat {α β:Type} (f:Nat->α->List β):List α->Nat->List β
 | [],_=>[]
 | x::l,i=>f i x++gat f l (i+1)
theorem gat_app {α β:Type} (f:Nat->α->List β):∀ (l m:List α) (i:Nat),gat f (l++m) i=gat f l i++gat f m (i+l.length)
 | [],m,i=>by simp[gat]
 | x::l,m,i=>by rw[List.cons_append,gat,gat,gat_app f l m (i+1),List.append_assoc,List.length_cons,Nat.add_assoc,Nat.add_comm 1]
theorem gat_take {α β:Type} (f:Nat->α->List β) {l:List α} {i:Nat} {x:α} (h:l[i]?=some x):gat f (l.take (i+1)) 0=gat f (l.take i) 0++f i x:=by
 have hi:=(List.getElem?_eq_some_iff.1 h).1
 rw[List.take_add_one,h,gat_app]
 simp only[Option.toList,gat,List.append_nil,Nat.zero_add,List.length_take,Nat.min_eq_left (Nat.le_of_lt hi)]
theorem gat_len {α β:Type} {f:Nat->α->List β} {m:Nat} (hf:∀ i x,(f i x).length<=m):∀ (l:List α) (i:Nat),(gat f l i).length<=m*l.length
 | [],_=>by simp[gat]
 | x::l,i=>by
  rw[gat,List.length_append,List.length_cons,Nat.mul_add,Nat.mul_one]
  have:=gat_len hf l (i+1)
  have:=hf i x
  omega
theorem loop_gat {α β:Type} {b:Int×List β->Option (Lp (Int×List β) (List β))} (l:List α) (f:Nat->α->List β) (m C:Nat) (acc:List β) (hf:∀ i x,(f i x).length<=m) (hl:l.length < 1099511627776) (hC:acc.length+m*l.length<=C)
  (hs:∀ (i:Nat) (x:α) (ac:List β),l[i]?=some x->ac.length+m<=C->b ((i:Int),ac)=some (.next (((i+1:Nat):Int),ac++f i x)))
  (he:∀ ac,b ((l.length:Int),ac)=some (.out ac)):bh b bm (0,acc)=some (acc++gat f l 0):=by
 obtain⟨r,hr,rfl⟩:=loop_iv (b:=b) (n:=l.length) (s:=(0,acc)) (fun i st=>st=((i:Int),acc++gat f (l.take i) 0)) (fun r=>r=acc++gat f l 0) hl (by simp[gat])
  (fun i st hi e=>by
   subst e
   have hx:l[i]?=some l[i]:=List.getElem?_eq_getElem hi
   refine .inl ⟨_,hs i _ _ hx ?_,?_⟩
   ·have h1:=gat_len hf (l.take i) 0
    rw[List.length_take,Nat.min_eq_left (Nat.le_of_lt hi)] at h1
    rw[List.length_append]
    have h2:m*i+m<=m*l.length:=by
     have:=Nat.mul_le_mul_left m (show i+1<=l.length from hi)
     rw[Nat.mul_add,Nat.mul_one] at this
     exact this
    omega
   ·rw[gat_take f hx,List.append_assoc])
  (fun st e=>by
   subst e
   exact⟨_,he _,by rw[List.take_length]⟩)
 exact hr
theorem gat_get {α β:Type} (f:Nat->α->β):∀ (l:List α) (i j:Nat),(gat (fun k x=>[f k x]) l i)[j]?=(l[j]?).map (f (i+j))
 | [],_,_=>by simp[gat]
 | x::l,i,0=>by simp[gat]
 | x::l,i,j+1=>by
  rw[gat,List.singleton_append,List.getElem?_cons_succ,List.getElem?_cons_succ,gat_get f l (i+1) j,show i+1+j=i+(j+1) by omega]
theorem gat_one_len {α β:Type} (f:Nat->α->β):∀ (l:List α) (i:Nat),(gat (fun k x=>[f k x]) l i).length=l.length
 | [],_=>rfl
 | x::l,i=>by rw[gat,List.singleton_append,List.length_cons,gat_one_len f l (i+1),List.length_cons]
theorem appL_ok {α:Type} {n:Nat} {l m:List α} (h1:0 < n) (h2:n<=64) (h:l.length+m.length<=2000000000000):bQ n l m=some (l++m):=by
 refine if_pos ⟨h1,?_⟩
 have:=Nat.mul_le_mul h h2
 omega
def agS (l:List Int) (c:Int):List Int:=gat (fun j v=>[bif bitB c j then bH .i64 v else v]) l 0
def freshS (v:Int) (b:Nat):List Int:=(List.range b).map fun(k:Nat)=>v+1+k
def sameS:List Int->List Int->List (List Int)
 | x::xs,y::ys=>[bH .i64 x,y]::[x,bH .i64 y]::sameS xs ys
 | _,_=>[]
def fixS (l:List Int) (c:Int):List (List Int):=gat (fun j v=>[[bif bitB c j then v else bH .i64 v]]) l 0
abbrev SV:=Int×List Int
def sel1 (un:List Int) (v:SV) (k:Nat) (x:Int):List (List Int) :=
 bif isE v.2 then [un++[bif bitB v.1 k then x else bH .i64 x]] else [un++[bH .i64 x,v.2.getD k 0],un++[x,bH .i64 (v.2.getD k 0)]]
def selS (un own:List Int) (v:SV):List (List Int):=gat (sel1 un v) own 0
def pv (v:SV):Bn:=⟨v.1,v.2⟩
def rv (v:SV):Bp:=⟨v.1,v.2⟩
theorem agS_len (l:List Int) (c:Int):(agS l c).length=l.length:=gat_one_len _ l 0
theorem fresh_len (v:Int) (b:Nat):(freshS v b).length=b:=by simp[freshS]
theorem sel1_len (un:List Int) (v:SV) (k:Nat) (x:Int):(sel1 un v k x).length<=2:=by
 unfold sel1
 cases isE v.2<;>simp
theorem selS_len (un own:List Int) (v:SV):(selS un own v).length<=2*own.length:=gat_len (fun k x=>sel1_len un v k x) own 0
theorem fixS_len (l:List Int) (c:Int):(fixS l c).length=l.length:=gat_one_len _ l 0
theorem sameS_len:∀ x y:List Int,(sameS x y).length<=2*x.length
 | [],y=>by simp[sameS]
 | x::xs,[]=>by simp[sameS]
 | x::xs,y::ys=>by have:=sameS_len xs ys; simp only[sameS,List.length_cons]; omega
theorem clone_i {l:List Int} (h:l.length<=1000000000000):m_slices_Clone_int_int l=some l:=by
 unfold m_slices_Clone_int_int
 rw[appL_ok (by decide) (by decide) (by simp; omega)]
 rfl
theorem against_eq {l:List Int} (hl:l.length < 1000000) (c:Int):m_unroll_against l c=some (agS l c):=by
 unfold m_unroll_against
 rw[clone_i (by omega)]
 simp only[some_bind]
 obtain⟨r,hr,rfl⟩:=loop_iv (b:=b_unroll_against_1 c l) (n:=l.length) (s:=(0,l)) (fun i st=>∃ ys:List Int,st=((i:Int),ys)/\ys.length=l.length/\(∀ j,j < i->ys[j]?=(agS l c)[j]?)/\∀ j,i<=j->ys[j]?=l[j]?) (fun r=>r=agS l c) (by omega) ⟨l,rfl,rfl,fun j h=>by omega,fun _ _=>rfl⟩
  (fun i st hi ⟨ys,e,h1,h2,h3⟩=>by
   subst e
   have hx:l[i]?=some l[i]:=List.getElem?_eq_getElem hi
   have hy:ys[i]?=some l[i]:=(h3 i (Nat.le_refl _)).trans hx
   have hg:(agS l c)[i]?=some (bif bitB c i then bH .i64 l[i] else l[i]):=by
    unfold agS
    rw[gat_get,hx,Nat.zero_add]
    rfl
   refine .inl ⟨(((i+1:Nat):Int),ys.set i (bif bitB c i then bH .i64 l[i] else l[i])),?_,_,rfl,by rw[List.length_set,h1],fun j hj=>?_,fun j hj=>?_⟩
   ·unfold b_unroll_against_1
    dsimp only
    rw[ltB_nat,decide_eq_true hi,cond_true,ishr_nat,up_nat (by omega)]
    simp only[some_bind]
    rw[show eqB (iand .i64 ((ishr .i64 c (i:Int)).getD 0) 1) 1=bitB c i from rfl]
    cases bitB c i with
    | true =>
     simp only[cond_true]
     rw[idx_nat,hy]
     rfl
    | false =>
     simp only[cond_false,some_bind]
     rw[set_same hy]
   ·rcases Nat.lt_succ_iff_lt_or_eq.1 hj with hj | rfl
    ·rw[List.getElem?_set_ne (by omega),h2 j hj]
    ·rw[List.getElem?_set_self (by omega),hg]
   ·rw[List.getElem?_set_ne (by omega),h3 j (by omega)])
  (fun st ⟨ys,e,h1,h2,_⟩=>by
   subst e
   refine⟨ys,?_,?_⟩
   ·unfold b_unroll_against_1
    dsimp only
    rw[ltB_nat,decide_eq_false (Nat.lt_irrefl _)]
    rfl
   ·apply List.ext_getElem?
    intro j
    rcases Nat.lt_or_ge j l.length with hj | hj
    ·exact h2 j hj
    ·rw[List.getElem?_eq_none (by omega),List.getElem?_eq_none (by rw[agS_len]; omega)])
 rw[hr]
 rfl
theorem againstR_eq {l:List Int} (hl:l.length < 1000000) (c:Int):m_R45_against l c=some (agS l c):=by
 unfold m_R45_against
 rw[loop_gat l (fun j v=>[bif bitB c j then bH .i64 v else v]) 1 1000000 [] (fun _ _=>Nat.le_refl _) (by omega) (by simp; omega) (fun i x ac hx hac=>by
  unfold b_R45_against_1
  dsimp only
  obtain⟨n,h1,h2⟩:=bitR_eq c (show i < 1099511627776 by have:=getE_lt hx; omega)
  rw[ltB_nat,decide_eq_true (getE_lt hx),cond_true,h1,up_nat (by have:=getE_lt hx; omega)]
  simp only[some_bind]
  rw[h2,idx_nat,hx]
  simp only[some_bind]
  rw[appL_ok (by decide) (by decide) (by simp; omega),appL_ok (by decide) (by decide) (by simp; omega)]
  cases bitB c i<;>rfl) (fun ac=>by
  unfold b_R45_against_1
  dsimp only
  rw[ltB_nat,decide_eq_false (Nat.lt_irrefl _)]
  rfl)]
 rfl
theorem clauseP {a:Int} {S:Int} {H:List Point} {N:List Node} {b:Int} {mp:List (List UInt8×Tree)} {cs:List (List Int)} {l:List Int} (h:cs.length<=1000000000000):m_unroll_builder_clause_o a cs S H N b mp l=some ():=by
 unfold m_unroll_builder_clause_o
 rw[appL_ok (by decide) (by decide) (by simp; omega)]
 rfl
theorem clauseP2 {a:Int} {S:Int} {H:List Point} {N:List Node} {b:Int} {mp:List (List UInt8×Tree)} {cs:List (List Int)} {l:List Int} (h:cs.length<=1000000000000):m_unroll_builder_clause_o_o a cs S H N b mp l=some ():=by
 unfold m_unroll_builder_clause_o_o
 rw[appL_ok (by decide) (by decide) (by simp; omega)]
 rfl
theorem clauseR {a:Int} {cs:List (List Int)} {l m:List Int} (h:cs.length<=1000000000000) (h1:l.length<=1000000) (h2:m.length<=1000000):m_R45_clause_o a cs l m=some ():=by
 unfold m_R45_clause_o
 rw[appL_ok (by decide) (by decide) (by simp; omega),appL_ok (by decide) (by decide) (by simp; omega),appL_ok (by decide) (by decide) (by simp; omega)]
 rfl
theorem clauseR0 {a:Int} {cs:List (List Int)} {l:List Int} (h:cs.length<=1000000000000) (h1:l.length<=1000000):m_R45_clause_o_N a cs l=some ():=by
 unfold m_R45_clause_o_N
 rw[appL_ok (by decide) (by decide) (by simp; omega),appL_ok (by decide) (by decide) (by simp; omega),appL_ok (by decide) (by decide) (by simp; omega)]
 rfl
theorem fixP {a:Int} {S:Int} {H:List Point} {N:List Node} {b:Int} {mp:List (List UInt8×Tree)} {cs:List (List Int)} {l:List Int} (c:Int) (h:cs.length<=100000000000) (h1:l.length<=1000000):m_unroll_builder_fix_o a cs S H N b mp l c=some (cs++fixS l c):=by
 unfold m_unroll_builder_fix_o
 rw[loop_gat l (fun j v=>[[bif bitB c j then v else bH .i64 v]]) 1 200000000000 cs (fun _ _=>Nat.le_refl _) (by omega) (by omega) (fun i x ac hx hac=>by
  unfold b_unroll_builder_fix_o_1
  dsimp only
  rw[ltB_nat,decide_eq_true (getE_lt hx),cond_true,idx_nat,hx,ishr_nat,up_nat (by have:=getE_lt hx; omega)]
  simp only[some_bind]
  rw[and1_zero,show eqB (iand .i64 ((ishr .i64 c (i:Int)).getD 0) 1) 1=bitB c i from rfl]
  cases bitB c i<;>simp only[Bool.not_true,Bool.not_false,cond_true,cond_false,some_bind]<;>rw[clauseP (by omega)]<;>rfl) (fun ac=>by
  unfold b_unroll_builder_fix_o_1
  dsimp only
  rw[ltB_nat,decide_eq_false (Nat.lt_irrefl _)]
  rfl)]
 rfl
theorem fixR {a:Int} {cs:List (List Int)} {l:List Int} (c:Int) (h:cs.length<=100000000000) (h1:l.length<=1000000):m_R45_fix_o a cs l c=some (cs++fixS l c):=by
 unfold m_R45_fix_o
 rw[loop_gat l (fun j v=>[[bif bitB c j then v else bH .i64 v]]) 1 200000000000 cs (fun _ _=>Nat.le_refl _) (by omega) (by omega) (fun i x ac hx hac=>by
  unfold b_R45_fix_o_1
  dsimp only
  obtain⟨n,e1,e2⟩:=bitR_eq c (show i < 1099511627776 by have:=getE_lt hx; omega)
  rw[ltB_nat,decide_eq_true (getE_lt hx),cond_true,e1,idx_nat,hx,up_nat (by have:=getE_lt hx; omega)]
  simp only[some_bind]
  rw[e2,clauseR0 (by omega) (by simp),clauseR0 (by omega) (by simp)]
  cases bitB c i<;>rfl) (fun ac=>by
  unfold b_R45_fix_o_1
  dsimp only
  rw[ltB_nat,decide_eq_false (Nat.lt_irrefl _)]
  rfl)]
 rfl
def same1 (y:List Int) (k:Nat) (x:Int):List (List Int):=[[bH .i64 x,y.getD k 0],[x,bH .i64 (y.getD k 0)]]
theorem same_gat:∀ (x y:List Int) (z:List Int) (i:Nat),(∀ k,y[k]?=z[i+k]?)->x.length<=y.length->gat (same1 z) x i=sameS x y
 | [],y,z,i,_,_=>by cases y<;>rfl
 | x::xs,[],z,i,_,hl=>by simp at hl
 | x::xs,y::ys,z,i,h,hl=>by
  have h0:=h 0
  simp only[List.getElem?_cons_zero,Nat.add_zero] at h0
  rw[gat,same_gat xs ys z (i+1) (fun k=>by have:=h (k+1); rw[List.getElem?_cons_succ] at this; rw[this,show i+(k+1)=i+1+k by omega]) (by simpa using hl)]
  unfold same1
  rw[List.getD_eq_getElem?_getD,<- h0]
  rfl
theorem sameP {a:Int} {S:Int} {H:List Point} {N:List Node} {b:Int} {mp:List (List UInt8×Tree)} {cs:List (List Int)} {x y:List Int} (h:cs.length<=100000000000) (h1:x.length<=1000000) (h2:x.length<=y.length):m_unroll_builder_same_o a cs S H N b mp x y=some (cs++sameS x y):=by
 unfold m_unroll_builder_same_o
 rw[loop_gat x (same1 y) 2 200000000000 cs (fun _ _=>Nat.le_refl _) (by omega) (by omega) (fun i v ac hx hac=>by
  have hi:=getE_lt hx
  have hy:y[i]?=some (y.getD i 0):=by rw[List.getD_eq_getElem?_getD,List.getElem?_eq_getElem (by omega)]; rfl
  unfold b_unroll_builder_same_o_1
  dsimp only
  rw[ltB_nat,decide_eq_true hi,cond_true,idx_nat,hx,idx_nat,hy,up_nat (by omega)]
  simp only[some_bind]
  rw[clauseP (by omega),clauseP (by simp; omega)]
  simp only[some_bind,same1,List.append_assoc,List.singleton_append]) (fun ac=>by
  unfold b_unroll_builder_same_o_1
  dsimp only
  rw[ltB_nat,decide_eq_false (Nat.lt_irrefl _)]
  rfl),same_gat x y y 0 (fun k=>by rw[Nat.zero_add]) h2]
 rfl
theorem sameR {a:Int} {cs:List (List Int)} {x y:List Int} (h:cs.length<=100000000000) (h1:x.length<=1000000) (h2:x.length<=y.length):m_R45_same_o a cs x y=some (cs++sameS x y):=by
 unfold m_R45_same_o
 rw[loop_gat x (same1 y) 2 200000000000 cs (fun _ _=>Nat.le_refl _) (by omega) (by omega) (fun i v ac hx hac=>by
  have hi:=getE_lt hx
  have hy:y[i]?=some (y.getD i 0):=by rw[List.getD_eq_getElem?_getD,List.getElem?_eq_getElem (by omega)]; rfl
  unfold b_R45_same_o_1
  dsimp only
  rw[ltB_nat,decide_eq_true hi,cond_true,idx_nat,hx,idx_nat,hy,up_nat (by omega)]
  simp only[some_bind]
  rw[clauseR0 (by omega) (by simp),clauseR0 (by simp; omega) (by simp)]
  simp only[some_bind,same1,List.append_assoc,List.singleton_append,List.nil_append,List.append_nil]) (fun ac=>by
  unfold b_R45_same_o_1
  dsimp only
  rw[ltB_nat,decide_eq_false (Nat.lt_irrefl _)]
  rfl),same_gat x y y 0 (fun k=>by rw[Nat.zero_add]) h2]
 rfl
end Go.Proofs.YtnkmjlncmlmnbaaGreatDoor
namespace Go.Proofs.YtnkmjlncmlmnbaaGreatDoor
open Go.AM Go.Proofs
abbrev FS:=Int×List (List Int)×List SV
def kidS (of_:List SV) (x:Node) (s:Nat):SV:=if x.Level=1 then (x.Next.getD s 0,[]) else of_.getD (x.Next.getD s 0).toNat (0,[])
def uniB (x:Node):Bool:=x.Next.all (fun k=>eqB k (x.Next.getD 0 0))
def rdS (H:Nat) (in_:List SV) (x:Node):List Int:=(in_.getD (H - x.Level.toNat) (0,[])).2
def nodeS (b H:Nat) (in_:List SV) (st:FS) (x:Node):FS :=
 bif uniB x then (st.1,st.2.1,st.2.2++[kidS st.2.2 x 0])
 else (st.1+b,st.2.1++gat (fun s _=>selS (agS (rdS H in_ x) (s:Int)) (freshS st.1 b) (kidS st.2.2 x s)) x.Next 0,st.2.2++[(0,freshS st.1 b)])
def treeS (b H:Nat) (in_:List SV) (ns:List Node) (st:FS):FS:=ns.foldl (nodeS b H in_) st
theorem tree_take (b H:Nat) (in_:List SV) {ns:List Node} (st:FS) {i:Nat} {x:Node} (h:ns[i]?=some x):treeS b H in_ (ns.take (i+1)) st=nodeS b H in_ (treeS b H in_ (ns.take i) st) x:=by
 unfold treeS
 rw[List.take_add_one,h,List.foldl_append]
 rfl
def VOk (n b:Nat) (v:SV):Prop:=(v.2=[]/\0<=v.1/\v.1 < (n:Int)) \/ (v.1=0/\v.2.length=b)
structure WT (n b H:Nat) (in_:List SV) (ns:List Node):Prop where
 n2:2<=n
 n8:n<=8
 b1:1<=b
 b3:b<=3
 H25:H<=25
 len:ns.length<=4096
 ne:1<=ns.length
 good:Good n ns
 lev:∀ x∈ns,x.Level<=(H:Int)
 inl:in_.length=H
 inv:∀ v∈in_,VOk n b v
 rds:∀ x∈ns,uniB x=false->rdS H in_ x≠[]
structure TI (n b i:Nat) (n0:Int) (c0:Nat) (st:FS):Prop where
 lo:n0<=st.1
 hi:st.1<=n0+3*i
 cs:st.2.1.length<=c0+48*i
 of_:st.2.2.length=i
 ok:∀ v∈st.2.2,VOk n b v
section
variable {n b H:Nat} {in_:List SV} {ns:List Node} {n0:Int} {c0:Nat} {st:FS} {i:Nat} {x:Node}
theorem WT.inb (W:WT n b H in_ ns) (hx:ns[i]?=some x):(x.Level.toNat:Int)=x.Level/\1<=x.Level/\x.Level<=(H:Int):=by
 have h1:=W.good.lev i x hx
 have h2:=W.lev x (List.mem_of_getElem? hx)
 omega
theorem kid_ok (W:WT n b H in_ ns) (T:TI n b i n0 c0 st) (hx:ns[i]?=some x) {s:Nat} (hs:s < n):VOk n b (kidS st.2.2 x s):=by
 have hl:=W.good.len i x hx
 have hk:x.Next[s]?=some (x.Next.getD s 0):=by rw[List.getD_eq_getElem?_getD,List.getElem?_eq_getElem (by omega)]; rfl
 have hm:=List.mem_of_getElem? hk
 unfold kidS
 by_cases h1:x.Level=1
 ·rw[if_pos h1]
  obtain⟨a,b⟩:=W.good.st i x hx h1 _ hm
  exact .inl ⟨rfl,a,b⟩
 ·rw[if_neg h1]
  have:=(W.inb hx).2.1
  obtain⟨a,b,_⟩:=W.good.kid i x hx (by omega) _ hm
  have hlt:(x.Next.getD s 0).toNat < st.2.2.length:=by rw[T.of_]; omega
  rw[List.getD_eq_getElem?_getD,List.getElem?_eq_getElem hlt]
  exact T.ok _ (List.getElem_mem hlt)
theorem rds_get (W:WT n b H in_ ns) (hx:ns[i]?=some x):∃ v:SV,idx in_ (br .i64 (H:Int) x.Level)=some v/\v.2=rdS H in_ x/\VOk n b v:=by
 obtain⟨h1,h2,h3⟩:=W.inb hx
 have hH:=W.H25
 have hlt:H - x.Level.toNat < in_.length:=by rw[W.inl]; omega
 refine⟨in_.getD (H - x.Level.toNat) (0,[]),?_,rfl,?_⟩
 ·rw[isub_in (by omega),idx_int _ (by omega),show ((H:Int) - x.Level).toNat=H - x.Level.toNat by omega,List.getD_eq_getElem?_getD,List.getElem?_eq_getElem hlt]
  rfl
 ·rw[List.getD_eq_getElem?_getD,List.getElem?_eq_getElem hlt]
  exact W.inv _ (List.getElem_mem hlt)
theorem rds_len (W:WT n b H in_ ns) (hx:ns[i]?=some x):(rdS H in_ x).length<=3:=by
 obtain⟨v,_,h2,h3⟩:=rds_get W hx
 have:=W.b3
 rw[<- h2]
 rcases h3 with ⟨e,_⟩ | ⟨_,e⟩
 ·rw[e]; simp
 ·omega
theorem TI.step (W:WT n b H in_ ns) (T:TI n b i n0 c0 st) (hx:ns[i]?=some x):TI n b (i+1) n0 c0 (nodeS b H in_ st x):=by
 have h3:=W.b3
 have n8:=W.n8
 have n2:=W.n2
 obtain⟨t1,t2,t3,t4,t5⟩:=T
 unfold nodeS
 cases uniB x with
 | true =>
  simp only[cond_true]
  refine⟨t1,by show st.1<=_; omega,by show st.2.1.length<=_; omega,by simp[t4],fun v hv=>?_⟩
  rcases List.mem_append.1 hv with hv | hv
  ·exact t5 v hv
  ·rw[List.mem_singleton.1 hv]
   exact kid_ok W ⟨t1,t2,t3,t4,t5⟩ hx (by omega)
 | false =>
  simp only[cond_false]
  refine⟨by show n0<=st.1+b; omega,by show st.1+b<=_; omega,?_,by simp[t4],fun v hv=>?_⟩
  ·show (_++_:List (List Int)).length<=_
   rw[List.length_append]
   have hg:=gat_len (f:=fun s _=>selS (agS (rdS H in_ x) ((s:Nat):Int)) (freshS st.1 b) (kidS st.2.2 x s)) (m:=6) (fun s y=>by
    have:=selS_len (agS (rdS H in_ x) ((s:Nat):Int)) (freshS st.1 b) (kidS st.2.2 x s)
    rw[fresh_len] at this
    omega) x.Next 0
   have:=W.good.len i x hx
   omega
  ·rcases List.mem_append.1 hv with hv | hv
   ·exact t5 v hv
   ·rw[List.mem_singleton.1 hv]
    exact .inr ⟨rfl,fresh_len _ _⟩
theorem TI.init {cs:List (List Int)}:TI n b 0 n0 cs.length (n0,cs,[]):=⟨Int.le_refl _,by show n0<=_; omega,by show cs.length<=_; omega,rfl,fun v hv=>by cases hv⟩
theorem TI.at_ (W:WT n b H in_ ns) (T:TI n b 0 n0 c0 st):∀ i,i<=ns.length->TI n b i n0 c0 (treeS b H in_ (ns.take i) st)
 | 0,_=>T
 | i+1,h=>by
  have hx:ns[i]?=some ns[i]:=List.getElem?_eq_getElem (by omega)
  rw[tree_take b H in_ st hx]
  exact (TI.at_ W T i (by omega)).step W hx
end
theorem freshP {v:Int} {cs:List (List Int)} {S:Int} {Hd:List Point} {N:List Node} {b:Nat} {mp:List (List UInt8×Tree)} (hb:b<=3) (h0:0<=v) (h1:v<=1000000000000):m_unroll_builder_fresh_o v cs S Hd N (b:Int) mp=some (freshS v b,v+b):=by
 unfold m_unroll_builder_fresh_o
 obtain⟨r,hr,rfl⟩:=loop_iv (b:=b_unroll_builder_fresh_o_1 cs S Hd N (b:Int) mp) (n:=b) (s:=(0,[],v)) (fun i st=>st=((i:Int),freshS v i,v+i)) (fun r=>r=(freshS v b,v+b)) (by omega) (by simp[freshS])
  (fun i st hi e=>by
   subst e
   refine .inl ⟨_,?_,rfl⟩
   unfold b_unroll_builder_fresh_o_1
   dsimp only
   rw[show ltB (i:Int) (b:Int)=true from decide_eq_true (by omega),cond_true,iadd_in (a:=v+i) (b:=1) (by omega),appL_ok (by decide) (by decide) (by rw[fresh_len]; simp; omega),up_nat (by omega)]
   simp only[some_bind,freshS,List.range_succ,List.map_append,List.map_cons,List.map_nil]
   rw[show v+(i:Int)+1=v+1+i by omega,show v+((i+1:Nat):Int)=v+1+i by omega])
  (fun st e=>by
   subst e
   refine⟨_,?_,rfl⟩
   unfold b_unroll_builder_fresh_o_1
   dsimp only
   rw[show ltB (b:Int) (b:Int)=false from decide_eq_false (by omega)]
   rfl)
 rw[hr]
 rfl
theorem freshR (t:Tree) (in_:List Bp) {b:Nat} (i:Int) (l:List (List Int)) (of_:List Bp) (x:Node) (kids:List Bp) {v:Int} (hb:b<=3) (h0:0<=v) (h1:v<=1000000000000):bh (b_R45_tree_o_o_3 t in_ (b:Int) i l of_ x kids) bm (0,v,[])=some (v+b,freshS v b):=by
 obtain⟨r,hr,rfl⟩:=loop_iv (b:=b_R45_tree_o_o_3 t in_ (b:Int) i l of_ x kids) (n:=b) (s:=(0,v,[])) (fun i st=>st=((i:Int),v+i,freshS v i)) (fun r=>r=(v+b,freshS v b)) (by omega) (by simp[freshS])
  (fun i st hi e=>by
   subst e
   refine .inl ⟨_,?_,rfl⟩
   unfold b_R45_tree_o_o_3
   dsimp only
   rw[show ltB (i:Int) (b:Int)=true from decide_eq_true (by omega),cond_true,iadd_in (a:=v+i) (b:=1) (by omega),appL_ok (by decide) (by decide) (by rw[fresh_len]; simp; omega),up_nat (by omega)]
   simp only[some_bind,freshS,List.range_succ,List.map_append,List.map_cons,List.map_nil]
   rw[show v+(i:Int)+1=v+1+i by omega,show v+((i+1:Nat):Int)=v+1+i by omega])
  (fun st e=>by
   subst e
   refine⟨_,?_,rfl⟩
   unfold b_R45_tree_o_o_3
   dsimp only
   rw[show ltB (b:Int) (b:Int)=false from decide_eq_false (by omega)]
   rfl)
 exact hr
theorem uniP {x:Node} (hl:x.Next.length < 1000000):m_slices_ContainsFunc_int_int_unroll_builder_tree_2 x.Next x=some (!uniB x):=by
 unfold m_slices_ContainsFunc_int_int_unroll_builder_tree_2 m_slices_IndexFunc_int_int_unroll_builder_tree_2
 obtain⟨r,hr,hq⟩:=loop_iv (b:=b_slices_IndexFunc_int_int_unroll_builder_tree_2_1 x.Next x) (n:=x.Next.length) (s:=0) (fun i st=>st=(i:Int)/\∀ (j:Nat) k,j < i->x.Next[j]?=some k->eqB k (x.Next.getD 0 0)=true)
  (fun r=>(uniB x=true/\r=.inr ()) \/ (uniB x=false/\∃ k:Nat,r=.inl (k:Int))) (by omega) ⟨rfl,fun j k h=>by omega⟩
  (fun i st hi ⟨e,h⟩=>by
   subst e
   have hx:x.Next[i]?=some x.Next[i]:=List.getElem?_eq_getElem hi
   generalize x.Next[i]=k at hx
   have h0:idx x.Next 0=some (x.Next.getD 0 0):=by
    rw[show (0:Int)=((0:Nat):Int) from rfl,idx_nat,List.getD_eq_getElem?_getD,List.getElem?_eq_getElem (by omega)]
    rfl
   unfold b_slices_IndexFunc_int_int_unroll_builder_tree_2_1 m_unroll_builder_tree_2
   dsimp only
   rw[ltB_nat,decide_eq_true hi,cond_true,idx_nat,hx,h0,up_nat (by omega)]
   simp only[some_bind,neB_eqB]
   cases hk:eqB k (x.Next.getD 0 0) with
   | true =>
    refine .inl ⟨_,rfl,rfl,fun j k' hj hk'=>?_⟩
    rcases Nat.lt_succ_iff_lt_or_eq.1 hj with hj | rfl
    ·exact h j k' hj hk'
    ·rw[hx] at hk'
     cases hk'
     exact hk
   | false =>
    refine .inr ⟨_,rfl,.inr ⟨?_,i,rfl⟩⟩
    unfold uniB
    rw[Bool.eq_false_iff]
    intro ha
    have:=List.all_eq_true.1 ha k (List.mem_of_getElem? hx)
    rw[hk] at this
    cases this)
  (fun st ⟨e,h⟩=>by
   subst e
   refine⟨_,?_,.inl ⟨?_,rfl⟩⟩
   ·unfold b_slices_IndexFunc_int_int_unroll_builder_tree_2_1
    dsimp only
    rw[ltB_nat,decide_eq_false (Nat.lt_irrefl _)]
    rfl
   ·unfold uniB
    rw[List.all_eq_true]
    intro k hk
    obtain⟨j,hj⟩:=List.mem_iff_getElem?.1 hk
    exact h j k (getE_lt hj) hj)
 rw[hr]
 rcases hq with ⟨h1,rfl⟩ | ⟨h1,k,rfl⟩
 ·rw[h1]; rfl
 ·rw[h1]
  simp only[some_bind]
  rw[show geB (k:Int) 0=true from decide_eq_true (by omega)]
  rfl
theorem uniR {x:Node} (h1:1<=x.Next.length) (hl:x.Next.length < 1000000):m_R45_equal x.Next=some (uniB x):=by
 unfold m_R45_equal
 have h0:idx x.Next 0=some (x.Next.getD 0 0):=by
  rw[show (0:Int)=((0:Nat):Int) from rfl,idx_nat,List.getD_eq_getElem?_getD,List.getElem?_eq_getElem (by omega)]
  rfl
 obtain⟨r,hr,hq⟩:=loop_iv (b:=b_R45_equal_1 x.Next) (n:=x.Next.length - 1) (s:=1) (fun i st=>st=((i+1:Nat):Int)/\∀ (j:Nat) k,j<=i->x.Next[j]?=some k->eqB k (x.Next.getD 0 0)=true)
  (fun r=>(uniB x=true/\r=.inr ()) \/ (uniB x=false/\r=.inl false)) (by omega) ⟨rfl,fun j k h hk=>by
   obtain rfl:j=0:=by omega
   rw[List.getD_eq_getElem?_getD,hk]
   simp[eqB]⟩
  (fun i st hi ⟨e,h⟩=>by
   subst e
   have hi':i+1 < x.Next.length:=by omega
   have hx:x.Next[i+1]?=some x.Next[i+1]:=List.getElem?_eq_getElem hi'
   generalize x.Next[i+1]=k at hx
   unfold b_R45_equal_1
   dsimp only
   rw[ltB_nat,decide_eq_true hi',cond_true,idx_nat,hx,h0,up_nat (by omega)]
   simp only[some_bind,neB_eqB]
   cases hk:eqB k (x.Next.getD 0 0) with
   | true =>
    refine .inl ⟨_,rfl,rfl,fun j k' hj hk'=>?_⟩
    rcases Nat.lt_or_ge j (i+1) with hj' | hj'
    ·exact h j k' (by omega) hk'
    ·obtain rfl:j=i+1:=by omega
     rw[hx] at hk'
     cases hk'
     exact hk
   | false =>
    refine .inr ⟨_,rfl,.inr ⟨?_,rfl⟩⟩
    unfold uniB
    rw[Bool.eq_false_iff]
    intro ha
    have:=List.all_eq_true.1 ha k (List.mem_of_getElem? hx)
    rw[hk] at this
    cases this)
  (fun st ⟨e,h⟩=>by
   subst e
   refine⟨_,?_,.inl ⟨?_,rfl⟩⟩
   ·unfold b_R45_equal_1
    dsimp only
    rw[ltB_nat,decide_eq_false (by omega)]
    rfl
   ·unfold uniB
    rw[List.all_eq_true]
    intro k hk
    obtain⟨j,hj⟩:=List.mem_iff_getElem?.1 hk
    exact h j k (by have:=getE_lt hj; omega) hj)
 rw[hr]
 rcases hq with ⟨h1,rfl⟩ | ⟨h1,rfl⟩<;>rw[h1]<;>rfl
theorem neE_some {α:Type} {l:List α} (h:l≠[]):neE l=some ():=by cases l with
 | nil=>exact absurd rfl h
 | cons _ _=>rfl
theorem isE_true {α:Type} {l:List α} (h:isE l=true):l=[]:=by cases l with
 | nil=>rfl
 | cons _ _=>cases h
theorem vok_len {n b:Nat} {v:SV} (h:VOk n b v) (he:isE v.2=false):v.2.length=b:=by
 rcases h with ⟨e,_⟩ | ⟨_,e⟩
 ·rw[e] at he; cases he
 ·exact e
theorem addP {l:List Int} {v:Int} {cs:List (List Int)} {S:Int} {Hd:List Point} {N:List Node} {b:Int} {mp:List (List UInt8×Tree)} {un:List Int} (h:cs.length<=1000000000000) (h1:un.length<=1000000) (h2:l.length<=1000000):m_unroll_builder_select1_1_o_o l v cs S Hd N b mp un=some (cs++[un++l]):=by
 unfold m_unroll_builder_select1_1_o_o
 rw[clone_i (by omega)]
 simp only[some_bind]
 rw[appL_ok (by decide) (by decide) (by omega),clauseP2 h]
 rfl
theorem selP {n b:Nat} {f:Int} {cs:List (List Int)} {S:Int} {Hd:List Point} {N:List Node} {bb:Int} {mp:List (List UInt8×Tree)} {un own:List Int} {v:SV} (hv:VOk n b v) (ho:own.length=b) (hb:b<=3) (h:cs.length<=100000000000) (h1:un.length<=1000000) :
  m_unroll_builder_select1_o f cs S Hd N bb mp un own (pv v)=some (cs++selS un own v):=by
 unfold m_unroll_builder_select1_o
 rw[loop_gat own (sel1 un v) 2 200000000000 cs (fun i x=>sel1_len un v i x) (by omega) (by omega) (fun i x ac hx hac=>by
  have hi:=getE_lt hx
  unfold b_unroll_builder_select1_o_1 sel1
  dsimp only [pv]
  rw[ltB_nat,decide_eq_true hi,cond_true,idx_nat,hx,up_nat (by omega)]
  simp only[some_bind]
  cases he:isE v.2 with
  | false =>
   have hne:v.2≠[]:=fun e=>by rw[e] at he; cases he
   have hy:v.2[i]?=some (v.2.getD i 0):=by rw[List.getD_eq_getElem?_getD,List.getElem?_eq_getElem (by have:=vok_len hv he; omega)]; rfl
   simp only[bW,Bool.not_false,cond_true,cond_false]
   rw[neE_some hne,idx_nat,hy]
   simp only[some_bind]
   rw[addP (by omega) h1 (by simp)]
   simp only[some_bind]
   rw[addP (by simp; omega) h1 (by simp)]
   simp only[some_bind,List.append_assoc,List.singleton_append]
  | true =>
   simp only[bW,Bool.not_true,cond_false,cond_true]
   rw[ishr_nat]
   simp only[some_bind]
   rw[show eqB (iand .i64 ((ishr .i64 v.1 (i:Int)).getD 0) 1) 1=bitB v.1 i from rfl,addP (by omega) h1 (by simp),addP (by omega) h1 (by simp)]
   cases bitB v.1 i<;>rfl) (fun ac=>by
  unfold b_unroll_builder_select1_o_1
  dsimp only
  rw[ltB_nat,decide_eq_false (Nat.lt_irrefl _)]
  rfl)]
 rfl
end Go.Proofs.YtnkmjlncmlmnbaaGreatDoor
namespace Go.Proofs.YtnkmjlncmlmnbaaGreatDoor
open Go.AM Go.Proofs
def fitB (v:Int) (cs:List (List Int)):Bool:=leB v 65536 && leB (bf cs) 262144
theorem fitsR_eq (f:Bm):m_R45_fits f=some (fitB f.Vars f.Clauses):=by
 unfold m_R45_fits fitB
 cases leB f.Vars 65536<;>rfl
theorem largeP_eq {v:Int} {cs:List (List Int)} {S:Int} {Hd:List Point} {N:List Node} {b:Int} {mp:List (List UInt8×Tree)}:m_unroll_builder_large_o v cs S Hd N b mp=some (!fitB v cs):=by
 unfold m_unroll_builder_large_o fitB
 rw[gtB_not,gtB_not]
 cases leB v 65536<;>cases leB (bf cs) 262144<;>rfl
theorem fit_of_le {v w:Int} {cs ds:List (List Int)} (h1:v<=w) (h2:cs.length<=ds.length) (h:fitB w ds=true):fitB v cs=true:=by
 unfold fitB leB bf at *
 simp only[Bool.and_eq_true,decide_eq_true_eq] at *
 omega
theorem fit_len {v:Int} {cs:List (List Int)} (h:fitB v cs=true):v<=65536/\cs.length<=262144:=by
 unfold fitB leB bf at *
 simp only[Bool.and_eq_true,decide_eq_true_eq] at *
 omega
theorem node_mono (b H:Nat) (in_:List SV) (st:FS) (x:Node):st.1<=(nodeS b H in_ st x).1/\st.2.1.length<=(nodeS b H in_ st x).2.1.length:=by
 unfold nodeS
 cases uniB x
 ·simp only[cond_false,List.length_append]; omega
 ·simp only[cond_true]; omega
theorem tree_mono (b H:Nat) (in_:List SV):∀ (ns:List Node) (st:FS),st.1<=(treeS b H in_ ns st).1/\st.2.1.length<=(treeS b H in_ ns st).2.1.length
 | [],st=>⟨Int.le_refl _,Nat.le_refl _⟩
 | x::ns,st=>by
  have h1:=node_mono b H in_ st x
  have h2:=tree_mono b H in_ ns (nodeS b H in_ st x)
  show st.1<=(treeS b H in_ ns (nodeS b H in_ st x)).1/\_<=(treeS b H in_ ns (nodeS b H in_ st x)).2.1.length
  omega
theorem tree_cut (b H:Nat) (in_:List SV) (ns:List Node) (st:FS) (i:Nat):treeS b H in_ ns st=treeS b H in_ (ns.drop i) (treeS b H in_ (ns.take i) st):=by
 unfold treeS
 rw[<- List.foldl_append,List.take_append_drop]
theorem fit_take {b H:Nat} {in_:List SV} {ns:List Node} {st:FS} (i:Nat) (h:fitB (treeS b H in_ ns st).1 (treeS b H in_ ns st).2.1=true):fitB (treeS b H in_ (ns.take i) st).1 (treeS b H in_ (ns.take i) st).2.1=true:=by
 rw[tree_cut b H in_ ns st i] at h
 have:=tree_mono b H in_ (ns.drop i) (treeS b H in_ (ns.take i) st)
 exact fit_of_le this.1 this.2 h
section
variable {n b:Nat} {S S':Int} {Hd Hd':List Point} {N:List Node} {mp:List (List UInt8×Tree)} {in_:List SV} {ns:List Node} {n0:Int} {c0:Nat}
theorem elemP {of_:List SV} {k:Nat} {x:Node} {s:Nat} {i:Nat} {e:SV} (W:WT n b Hd.length in_ ns) (hof:of_.length=i) (hx:ns[i]?=some x) (hs:s < n) :
  m_unroll_builder_tree_1_o_o (s:Int) x.Level x.Next ((of_++List.replicate k e).map pv)=some (kidS of_ x s):=by
 have hl:=W.good.len i x hx
 have hk:x.Next[s]?=some (x.Next.getD s 0):=by rw[List.getD_eq_getElem?_getD,List.getElem?_eq_getElem (by omega)]; rfl
 unfold m_unroll_builder_tree_1_o_o kidS
 rw[idx_nat,hk]
 simp only[some_bind]
 by_cases h1:x.Level=1
 ·rw[if_pos h1,show eqB x.Level 1=true from by simp[eqB,h1],cond_true]
 ·rw[if_neg h1,show eqB x.Level 1=false from by simp[eqB,h1],cond_false]
  have:=(W.inb hx).2.1
  obtain⟨a,c,_⟩:=W.good.kid i x hx (by omega) _ (List.mem_of_getElem? hk)
  have hlt:(x.Next.getD s 0).toNat < of_.length:=by omega
  rw[idx_int _ a,List.getElem?_map,List.getElem?_append_left hlt,List.getD_eq_getElem?_getD (l:=of_),List.getElem?_eq_getElem hlt]
  rfl
theorem set_app {α:Type} (l:List α) (k:Nat) (e v:α):(l++List.replicate (k+1) e).set l.length v=(l++[v])++List.replicate k e:=by
 rw[List.set_append_right _ _ (Nat.le_refl _),Nat.sub_self,List.replicate_succ,List.set_cons_zero,List.append_assoc]
 rfl
theorem selsP {of_:List SV} {k:Nat} {x:Node} {i:Nat} {v:Int} {l1:List Bn} {cs:List (List Int)} {x1:SV} {u:Unit} {y1:(List Int)×Int} {x2:Bn} {t:Tree} {ia:List Bn} (W:WT n b Hd.length in_ ns) (T:TI n b i n0 c0 (v,cs,of_)) (hx:ns[i]?=some x)
  (hr:x1.2=rdS Hd.length in_ x) (hu:uniB x=false) (hl1:l1=(of_++List.replicate (k+1) (0,[])).map pv) (hx2:x2=⟨0,[]⟩) (hy1:y1=(freshS v b,v+b)) (hc:cs.length<=10000000000) :
  bh (b_unroll_builder_tree_o_o_2 S' Hd' N (b:Int) mp t ia (i:Int) l1 x (pv x1) y1 x2 u) bm (0,cs)=some (cs++gat (fun s _=>selS (agS (rdS Hd.length in_ x) ((s:Nat):Int)) (freshS v b) (kidS of_ x s)) x.Next 0):=by
 subst hl1 hx2 hy1
 have n8:=W.n8
 have b3:=W.b3
 have hl:=W.good.len i x hx
 have hrl:=rds_len W hx
 have hne:=W.rds x (List.mem_of_getElem? hx) hu
 have hof:of_.length=i:=T.of_
 have hset:((of_++List.replicate (k+1) ((0:Int),([]:List Int))).map pv).set i (⟨0,freshS v b⟩:Bn)=((of_++[(0,freshS v b)])++List.replicate k ((0:Int),([]:List Int))).map pv:=by
  rw[show (⟨0,freshS v b⟩:Bn)=pv (0,freshS v b) from rfl,<- List.map_set,<- hof,set_app]
 refine loop_gat x.Next _ 6 20000000000 cs (fun s y=>?_) (by omega) (by omega) (fun s y ac hs hac=>?_) (fun ac=>?_)
 ·have:=selS_len (agS (rdS Hd.length in_ x) (s:Int)) (freshS v b) (kidS of_ x s)
  rw[fresh_len] at this
  omega
 ·have hlt:=getE_lt hs
  unfold b_unroll_builder_tree_o_o_2
  dsimp only [pv]
  rw[ltB_nat,decide_eq_true hlt,cond_true,hr,neE_some hne,against_eq (by omega),up_nat (by omega)]
  simp only[some_bind]
  rw[Int.toNat_natCast]
  have he:m_unroll_builder_tree_1_o_o (s:Int) x.Level x.Next (((of_++List.replicate (k+1) ((0:Int),([]:List Int))).map pv).set i (⟨0,freshS v b⟩:Bn))=some (kidS of_ x s):=by
   rw[hset]
   unfold m_unroll_builder_tree_1_o_o kidS
   have hk:x.Next[s]?=some (x.Next.getD s 0):=by rw[List.getD_eq_getElem?_getD,List.getElem?_eq_getElem (by omega)]; rfl
   rw[idx_nat,hk]
   simp only[some_bind]
   by_cases h1:x.Level=1
   ·rw[if_pos h1,show eqB x.Level 1=true from by simp[eqB,h1],cond_true]
   ·rw[if_neg h1,show eqB x.Level 1=false from by simp[eqB,h1],cond_false]
    have:=(W.inb hx).2.1
    obtain⟨a,c,_⟩:=W.good.kid i x hx (by omega) _ (List.mem_of_getElem? hk)
    have hlt:(x.Next.getD s 0).toNat < of_.length:=by omega
    rw[idx_int _ a,List.getElem?_map,List.append_assoc,List.getElem?_append_left hlt,List.getD_eq_getElem?_getD (l:=of_),List.getElem?_eq_getElem hlt]
    rfl
  rw[he]
  simp only[some_bind]
  have hv:=kid_ok W T hx (s:=s) (by omega)
  have hsel:=selP (f:=v+b) (cs:=ac) (S:=S') (Hd:=Hd') (N:=N) (bb:=(b:Int)) (mp:=mp) (un:=agS (rdS Hd.length in_ x) (s:Int)) (own:=freshS v b) hv (fresh_len _ _) b3 (by omega) (by rw[agS_len]; omega)
  unfold pv at hsel
  dsimp only at hsel ⊢
  rw[hsel]
  rfl
 ·unfold b_unroll_builder_tree_o_o_2
  dsimp only
  rw[ltB_nat,decide_eq_false (Nat.lt_irrefl _)]
  rfl
theorem treeP {t:Tree} {v:Int} {cs:List (List Int)} (W:WT n b t.Hood.length in_ t.Nodes) (h0:0<=v) (h1:v<=10000000) (hc:cs.length<=1000000000) :
  m_unroll_builder_tree_o_o v cs S Hd N (b:Int) mp t (in_.map pv)=some (((treeS b t.Hood.length in_ t.Nodes (v,cs,[])).2.2.getLastD (0,[])).1,((treeS b t.Hood.length in_ t.Nodes (v,cs,[])).2.2.getLastD (0,[])).2,(treeS b t.Hood.length in_ t.Nodes (v,cs,[])).2.1,(treeS b t.Hood.length in_ t.Nodes (v,cs,[])).1):=by
 have hlen:=W.len
 have b3:=W.b3
 have n8:=W.n8
 have n2:=W.n2
 have hH:=W.H25
 have TA:=TI.at_ W (TI.init (n:=n) (b:=b) (n0:=v) (cs:=cs))
 unfold m_unroll_builder_tree_o_o
 rw[show mkL 32 (bf t.Nodes) (bf t.Nodes) (⟨0,[]⟩:Bn)=some (List.replicate t.Nodes.length ⟨0,[]⟩) from by unfold mkL bf; rw[if_pos (by omega)]; simp,lenL_toNat]
 simp only[some_bind]
 obtain⟨r,hr,rfl⟩:=loop_iv (b:=b_unroll_builder_tree_o_o_1 S Hd N (b:Int) mp t (in_.map pv)) (n:=t.Nodes.length) (s:=(0,List.replicate t.Nodes.length (⟨0,[]⟩:Bn),cs,v))
  (fun i st=>st=((i:Int),((treeS b t.Hood.length in_ (t.Nodes.take i) (v,cs,[])).2.2++List.replicate (t.Nodes.length - i) (0,[])).map pv,(treeS b t.Hood.length in_ (t.Nodes.take i) (v,cs,[])).2.1,(treeS b t.Hood.length in_ (t.Nodes.take i) (v,cs,[])).1))
  (fun r=>r=((treeS b t.Hood.length in_ t.Nodes (v,cs,[])).2.2.map pv,(treeS b t.Hood.length in_ t.Nodes (v,cs,[])).2.1,(treeS b t.Hood.length in_ t.Nodes (v,cs,[])).1)) (by omega) (by simp[treeS,pv])
  (fun i st hi e=>by
   subst e
   have T:=TA i (by omega)
   have hx:t.Nodes[i]?=some t.Nodes[i]:=List.getElem?_eq_getElem hi
   rw[tree_take b t.Hood.length in_ (v,cs,[]) hx]
   generalize t.Nodes[i]=x at hx
   generalize treeS b t.Hood.length in_ (t.Nodes.take i) (v,cs,[])=st at T
   obtain⟨w,ds,of_⟩:=st
   obtain⟨k,hk⟩:∃ k,t.Nodes.length - i=k+1:=⟨t.Nodes.length - i - 1,by omega⟩
   rw[hk,show t.Nodes.length - (i+1)=k by omega]
   have hl:=W.good.len i x hx
   obtain⟨t1,t2,t3,t4,t5⟩:=id T
   dsimp only at t1 t2 t3 t4
   have hget:idx ((of_++List.replicate (k+1) ((0:Int),([]:List Int))).map pv) (i:Int)=some (⟨0,[]⟩:Bn):=by
    rw[idx_nat,List.getElem?_map,List.getElem?_append_right (by omega),t4,Nat.sub_self]
    rfl
   refine .inl ⟨_,?_,rfl⟩
   unfold b_unroll_builder_tree_o_o_1
   dsimp only
   rw[ltB_nat,decide_eq_true hi,cond_true,idx_nat,hx,up_nat (by omega)]
   simp only[some_bind]
   rw[uniP (by omega)]
   simp only[some_bind,bW,Bool.not_not]
   unfold nodeS
   cases hu:uniB x with
   | true =>
    simp only[cond_true]
    have he:=elemP (k:=k+1) (e:=(0,[])) (s:=0) (of_:=of_) W t4 hx (by omega)
    rw[show ((0:Nat):Int)=0 from rfl] at he
    rw[he,hget]
    simp only[some_bind]
    rw[Int.toNat_natCast,show (⟨(kidS of_ x 0).1,(kidS of_ x 0).2⟩:Bn)=pv (kidS of_ x 0) from rfl,<- List.map_set]
    have:=set_app of_ k ((0:Int),([]:List Int)) (kidS of_ x 0)
    rw[t4] at this
    rw[this]
   | false =>
    simp only[cond_false]
    obtain⟨x1,e1,e2,_⟩:=rds_get W hx
    have e1':idx (in_.map pv) (br .i64 (bf t.Hood) x.Level)=some (pv x1):=by
     unfold idx bf at *
     split at e1
     ·rename_i hp
      rw[if_pos hp,List.getElem?_map,e1]
      rfl
     ·cases e1
    have hfr:=freshP (v:=w) (cs:=ds) (S:=S) (Hd:=Hd) (N:=N) (mp:=mp) b3 (by omega) (by omega)
    rw[e1',hfr,hget]
    simp only[some_bind]
    rw[neE_some (l:=freshS w b) (fun e=>by have h9:=fresh_len w b; rw[e] at h9; have h8:=W.b1; simp at h9; omega)]
    simp only[some_bind]
    rw[selsP (Hd:=t.Hood) (k:=k) (x1:=x1) W T hx e2 hu rfl rfl rfl (by omega)]
    simp only[some_bind]
    rw[Int.toNat_natCast,show (⟨0,freshS w b⟩:Bn)=pv (0,freshS w b) from rfl,<- List.map_set]
    have:=set_app of_ k ((0:Int),([]:List Int)) (0,freshS w b)
    rw[t4] at this
    rw[this])
  (fun st e=>by
   subst e
   refine⟨_,?_,rfl⟩
   unfold b_unroll_builder_tree_o_o_1
   dsimp only
   rw[ltB_nat,decide_eq_false (Nat.lt_irrefl _),List.take_length,Nat.sub_self]
   simp)
 rw[hr]
 have T:=TA t.Nodes.length (Nat.le_refl _)
 rw[List.take_length] at T
 generalize treeS b t.Hood.length in_ t.Nodes (v,cs,[])=st at T
 obtain⟨w,ds,of_⟩:=st
 have h4:=T.of_
 have hne:=W.ne
 dsimp only at h4 ⊢
 simp only[some_bind]
 have:idx (of_.map pv) (br .i64 (bf (of_.map pv)) 1)=some (pv (of_.getLastD (0,[]))):=by
  unfold bf
  rw[List.length_map,isub_in (by omega),idx_int _ (by omega),show ((of_.length:Int) - 1).toNat=of_.length - 1 by omega,List.getElem?_map,List.getLastD_eq_getLast?,List.getLast?_eq_getElem?,List.getElem?_eq_getElem (show of_.length - 1 < of_.length by omega)]
  rfl
 rw[this]
 rfl
end
end Go.Proofs.YtnkmjlncmlmnbaaGreatDoor
namespace Go.Proofs.YtnkmjlncmlmnbaaGreatDoor
open Go.AM Go.Proofs
section
variable {n b:Nat} {in_:List SV} {ns:List Node} {n0:Int} {c0:Nat}
theorem kidsR {t:Tree} {ia:List Bp} {y i' f:Int} {l:List (List Int)} {of_:List SV} {x:Node} {i:Nat} {H:Nat} (W:WT n b H in_ ns) (hof:of_.length=i) (hx:ns[i]?=some x) (hS:t.States=(n:Int)) :
  bh (b_R45_tree_o_o_2 t ia y i' f l (of_.map rv) x) bm (0,[])=some (((List.range n).map fun s=>kidS of_ x s).map rv):=by
 have n8:=W.n8
 have hl:=W.good.len i x hx
 obtain⟨r,hr,rfl⟩:=loop_iv (b:=b_R45_tree_o_o_2 t ia y i' f l (of_.map rv) x) (n:=n) (s:=(0,[])) (fun s st=>st=((s:Int),((List.range s).map fun s=>kidS of_ x s).map rv)) (fun r=>r=((List.range n).map fun s=>kidS of_ x s).map rv) (by omega) (by simp)
  (fun s st hs e=>by
   subst e
   have hk:x.Next[s]?=some (x.Next.getD s 0):=by rw[List.getD_eq_getElem?_getD,List.getElem?_eq_getElem (by omega)]; rfl
   refine .inl ⟨(((s+1:Nat):Int),((List.range (s+1)).map fun s=>kidS of_ x s).map rv),?_,rfl⟩
   unfold b_R45_tree_o_o_2
   dsimp only
   rw[hS,show ltB (s:Int) (n:Int)=true from decide_eq_true (by omega),cond_true,idx_nat,hk,up_nat (by omega)]
   simp only[some_bind]
   have hv:∀ v:SV,kidS of_ x s=v->(((List.range s).map fun s=>kidS of_ x s).map rv)++[rv v]=((List.range (s+1)).map fun s=>kidS of_ x s).map rv:=fun v hv=>by
    rw[List.range_succ,List.map_append,List.map_append,<- hv]
    rfl
   by_cases h1:x.Level=1
   ·rw[show eqB x.Level 1=true from by simp[eqB,h1],cond_true,appL_ok (by decide) (by decide) (by simp; omega)]
    simp only[some_bind]
    have hk':kidS of_ x s=(x.Next.getD s 0,[]):=if_pos h1
    rw[<- hv _ hk']
    rfl
   ·rw[show eqB x.Level 1=false from by simp[eqB,h1],cond_false]
    have hi:=(W.inb hx).2.1
    obtain⟨a,c,_⟩:=W.good.kid i x hx (by omega) _ (List.mem_of_getElem? hk)
    have hlt:(x.Next.getD s 0).toNat < of_.length:=by omega
    have hk':kidS of_ x s=of_.getD (x.Next.getD s 0).toNat (0,[]):=if_neg h1
    rw[idx_int _ a,List.getElem?_map,List.getElem?_eq_getElem hlt]
    simp only[Option.map_some,some_bind]
    rw[appL_ok (by decide) (by decide) (by simp; omega)]
    simp only[some_bind]
    rw[<- hv _ hk',List.getD_eq_getElem?_getD (l:=of_),List.getElem?_eq_getElem hlt]
    rfl)
  (fun st e=>by
   subst e
   refine⟨_,?_,rfl⟩
   unfold b_R45_tree_o_o_2
   dsimp only
   rw[hS,show ltB (n:Int) (n:Int)=false from decide_eq_false (by omega)]
   rfl)
 exact hr
theorem selR {t:Tree} {ia:List Bp} {i':Int} {of_:List Bp} {x:Node} {kids:List Bp} {f:Int} {own un:List Int} {s:Nat} {v:SV} {cs:List (List Int)} (hv:VOk n b v) (hk:kids[s]?=some (rv v)) (ho:own.length=b) (hb:b<=3) (h:cs.length<=100000000000) (h1:un.length<=1000000) :
  bh (b_R45_tree_o_o_5 t ia (b:Int) i' of_ x kids f own (s:Int) un) bm (0,cs)=some (cs++selS un own v):=by
 refine loop_gat own (sel1 un v) 2 200000000000 cs (fun i x=>sel1_len un v i x) (by omega) (by omega) (fun i x ac hx hac=>?_) (fun ac=>?_)
 ·have hi:=getE_lt hx
  unfold b_R45_tree_o_o_5 sel1
  dsimp only [rv]
  rw[show ltB (i:Int) (b:Int)=true from decide_eq_true (by omega),cond_true,idx_nat,hk,idx_nat,hx,up_nat (by omega)]
  simp only[some_bind,rv]
  cases he:isE v.2 with
  | false =>
   have hne:v.2≠[]:=fun e=>by rw[e] at he; cases he
   have hl:=vok_len hv he
   have hy:v.2[i]?=some (v.2.getD i 0):=by rw[List.getD_eq_getElem?_getD,List.getElem?_eq_getElem (by omega)]; rfl
   rw[show gtB (bf v.2) 0=true from decide_eq_true (by unfold bf; omega),cond_true,idx_nat,hy,cond_false]
   simp only[some_bind]
   rw[clauseR (by omega) h1 (by simp)]
   simp only[some_bind]
   rw[clauseR (by simp; omega) h1 (by simp)]
   simp only[some_bind,List.append_assoc,List.singleton_append,List.nil_append]
  | true =>
   have:=isE_true he
   obtain⟨m,e1,e2⟩:=bitR_eq v.1 (show i < 1099511627776 by omega)
   rw[show gtB (bf v.2) 0=false from by rw[this]; rfl,cond_false,e1,cond_true]
   simp only[some_bind]
   rw[e2,clauseR (by omega) h1 (by simp),clauseR (by omega) h1 (by simp)]
   cases bitB v.1 i<;>rfl
 ·unfold b_R45_tree_o_o_5
  dsimp only
  rw[ho,show ltB (b:Int) (b:Int)=false from decide_eq_false (by omega)]
  rfl
theorem selsR {t:Tree} {i':Int} {of_:List SV} {x:Node} {i:Nat} {v:Int} {cs:List (List Int)} {oa:List Bp} {f:Int} (W:WT n b t.Hood.length in_ ns) (T:TI n b i n0 c0 (v,cs,of_)) (hx:ns[i]?=some x) (hS:t.States=(n:Int)) (hc:cs.length<=10000000000) :
  bh (b_R45_tree_o_o_4 t (in_.map rv) (b:Int) i' oa x (((List.range n).map fun s=>kidS of_ x s).map rv) f (freshS v b)) bm (0,cs)=some (cs++gat (fun s _=>selS (agS (rdS t.Hood.length in_ x) ((s:Nat):Int)) (freshS v b) (kidS of_ x s)) x.Next 0):=by
 have n8:=W.n8
 have b3:=W.b3
 have hl:=W.good.len i x hx
 have hrl:=rds_len W hx
 obtain⟨x1,e1,e2,_⟩:=rds_get W hx
 have e1':idx (in_.map rv) (br .i64 (bf t.Hood) x.Level)=some (rv x1):=by
  unfold idx bf at *
  split at e1
  ·rename_i hp
   rw[if_pos hp,List.getElem?_map,e1]
   rfl
  ·cases e1
 refine loop_gat x.Next _ 6 20000000000 cs (fun s y=>?_) (by omega) (by omega) (fun s y ac hs hac=>?_) (fun ac=>?_)
 ·have:=selS_len (agS (rdS t.Hood.length in_ x) (s:Int)) (freshS v b) (kidS of_ x s)
  rw[fresh_len] at this
  omega
 ·have hlt:=getE_lt hs
  unfold b_R45_tree_o_o_4
  dsimp only
  rw[hS,show ltB (s:Int) (n:Int)=true from decide_eq_true (by omega),cond_true,e1',up_nat (by omega)]
  simp only[some_bind]
  rw[show (rv x1).Vars=rdS t.Hood.length in_ x from e2,againstR_eq (by omega)]
  simp only[some_bind]
  rw[selR (kid_ok W T hx (s:=s) (by omega)) (by rw[List.getElem?_map,List.getElem?_map,List.getElem?_range (by omega)]; rfl) (fresh_len _ _) b3 (by omega) (by rw[agS_len]; omega)]
  rfl
 ·unfold b_R45_tree_o_o_4
  dsimp only
  rw[hS,hl,show ltB (n:Int) (n:Int)=false from decide_eq_false (by omega)]
  rfl
theorem treeR {t:Tree} {v:Int} {cs:List (List Int)} (W:WT n b t.Hood.length in_ t.Nodes) (hS:t.States=(n:Int)) (hb:PC.bitsOf t.States=(b:Int)) (h0:0<=v) (h1:v<=10000000) (hc:cs.length<=1000000000) :
  ∃ r,m_R45_tree_o_o v cs t (in_.map rv)=some r /\
   (fitB (treeS b t.Hood.length in_ t.Nodes (v,cs,[])).1 (treeS b t.Hood.length in_ t.Nodes (v,cs,[])).2.1=true->r=((treeS b t.Hood.length in_ t.Nodes (v,cs,[])).1,((treeS b t.Hood.length in_ t.Nodes (v,cs,[])).2.2.getLastD (0,[])).1,((treeS b t.Hood.length in_ t.Nodes (v,cs,[])).2.2.getLastD (0,[])).2,(treeS b t.Hood.length in_ t.Nodes (v,cs,[])).2.1)) /\
   (fitB (treeS b t.Hood.length in_ t.Nodes (v,cs,[])).1 (treeS b t.Hood.length in_ t.Nodes (v,cs,[])).2.1=false->fitB r.1 r.2.2.2=false/\r.2.2.1=[]/\r.1<=v+12288/\v<=r.1/\r.2.2.2.length<=cs.length+196608):=by
 have hlen:=W.len
 have b3:=W.b3
 have n8:=W.n8
 have n2:=W.n2
 have hH:=W.H25
 have TA:=TI.at_ W (TI.init (n:=n) (b:=b) (n0:=v) (cs:=cs))
 unfold m_R45_tree_o_o
 rw[PC.bitsR_eq,hb]
 simp only[some_bind]
 obtain⟨r,hr,i,hi,rfl,hq⟩:=loop_iv (b:=b_R45_tree_o_o_1 t (in_.map rv) (b:Int)) (n:=t.Nodes.length) (s:=(0,v,cs,[]))
  (fun i st=>st=((i:Int),(treeS b t.Hood.length in_ (t.Nodes.take i) (v,cs,[])).1,(treeS b t.Hood.length in_ (t.Nodes.take i) (v,cs,[])).2.1,(treeS b t.Hood.length in_ (t.Nodes.take i) (v,cs,[])).2.2.map rv))
  (fun r=>∃ i,i<=t.Nodes.length/\r=((treeS b t.Hood.length in_ (t.Nodes.take i) (v,cs,[])).1,(treeS b t.Hood.length in_ (t.Nodes.take i) (v,cs,[])).2.1,(treeS b t.Hood.length in_ (t.Nodes.take i) (v,cs,[])).2.2.map rv)/\(i=t.Nodes.length \/ fitB (treeS b t.Hood.length in_ (t.Nodes.take i) (v,cs,[])).1 (treeS b t.Hood.length in_ (t.Nodes.take i) (v,cs,[])).2.1=false)) (by omega) (by simp[treeS])
  (fun i st hi e=>by
   subst e
   have T:=TA i (by omega)
   have hx:t.Nodes[i]?=some t.Nodes[i]:=List.getElem?_eq_getElem hi
   rw[tree_take b t.Hood.length in_ (v,cs,[]) hx]
   generalize t.Nodes[i]=x at hx
   cases hf:fitB (treeS b t.Hood.length in_ (t.Nodes.take i) (v,cs,[])).1 (treeS b t.Hood.length in_ (t.Nodes.take i) (v,cs,[])).2.1 with
   | false =>
    refine .inr ⟨_,?_,i,by omega,rfl,.inr hf⟩
    unfold b_R45_tree_o_o_1
    dsimp only
    rw[ltB_nat,decide_eq_true hi,cond_true,fitsR_eq]
    dsimp only
    rw[hf]
    rfl
   | true =>
    generalize treeS b t.Hood.length in_ (t.Nodes.take i) (v,cs,[])=st at T hf
    obtain⟨w,ds,of_⟩:=st
    have hl:=W.good.len i x hx
    obtain⟨t1,t2,t3,t4,t5⟩:=id T
    dsimp only at t1 t2 t3 t4 hf
    refine .inl ⟨_,?_,rfl⟩
    unfold b_R45_tree_o_o_1
    dsimp only
    rw[ltB_nat,decide_eq_true hi,cond_true,fitsR_eq]
    dsimp only
    rw[hf,idx_nat,hx,up_nat (by omega)]
    simp only[some_bind,cond_true]
    rw[kidsR W t4 hx hS,uniR (by omega) (by omega)]
    simp only[some_bind]
    unfold nodeS
    cases hu:uniB x with
    | true =>
     simp only[cond_true]
     rw[show idx (((List.range n).map fun s=>kidS of_ x s).map rv) 0=some (rv (kidS of_ x 0)) from by
      rw[show (0:Int)=((0:Nat):Int) from rfl,idx_nat,List.getElem?_map,List.getElem?_map,List.getElem?_range (by omega)]; rfl]
     simp only[some_bind]
     rw[appL_ok (by decide) (by decide) (by simp; omega),List.map_append]
     rfl
    | false =>
     simp only[cond_false]
     rw[freshR t (in_.map rv) (i:Int) ds (of_.map rv) x _ b3 (by omega) (by omega)]
     simp only[some_bind]
     rw[appL_ok (by decide) (by decide) (by simp; omega)]
     simp only[some_bind]
     rw[selsR W T hx hS (by omega),List.map_append]
     rfl)
  (fun st e=>by
   subst e
   refine⟨_,?_,t.Nodes.length,Nat.le_refl _,rfl,.inl rfl⟩
   unfold b_R45_tree_o_o_1
   dsimp only
   rw[ltB_nat,decide_eq_false (Nat.lt_irrefl _)]
   rfl)
 rw[hr]
 simp only[some_bind]
 rw[fitsR_eq]
 simp only[some_bind]
 have Ti:=TA i hi
 cases hf:fitB (treeS b t.Hood.length in_ (t.Nodes.take i) (v,cs,[])).1 (treeS b t.Hood.length in_ (t.Nodes.take i) (v,cs,[])).2.1 with
 | false =>
  refine⟨_,rfl,fun h=>?_,fun _=>⟨hf,rfl,?_,Ti.lo,?_⟩⟩
  ·rw[fit_take i h] at hf
   cases hf
  ·have:=Ti.hi
   show (treeS b t.Hood.length in_ (t.Nodes.take i) (v,cs,[])).1<=_
   omega
  ·have:=Ti.cs
   show (treeS b t.Hood.length in_ (t.Nodes.take i) (v,cs,[])).2.1.length<=_
   omega
 | true =>
  have hil:i=t.Nodes.length:=by
   rcases hq with h | h
   ·exact h
   ·rw[h] at hf; cases hf
  subst hil
  rw[List.take_length] at hf ⊢ Ti
  generalize treeS b t.Hood.length in_ t.Nodes (v,cs,[])=st at Ti hf
  obtain⟨w,ds,of_⟩:=st
  have h4:=Ti.of_
  have hne:=W.ne
  dsimp only at h4 hf ⊢
  have:idx (of_.map rv) (br .i64 (bf (of_.map rv)) 1)=some (rv (of_.getLastD (0,[]))):=by
   unfold bf
   rw[List.length_map,isub_in (by omega),idx_int _ (by omega),show ((of_.length:Int) - 1).toNat=of_.length - 1 by omega,List.getElem?_map,List.getLastD_eq_getLast?,List.getLast?_eq_getElem?,List.getElem?_eq_getElem (show of_.length - 1 < of_.length by omega)]
   rfl
  refine⟨_,?_,fun _=>rfl,fun h=>?_⟩
  ·simp only[bW,Bool.not_true,cond_false]
   rw[this]
   rfl
  ·rw[hf] at h; cases h
end
end Go.Proofs.YtnkmjlncmlmnbaaGreatDoor
