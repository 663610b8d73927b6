/- Plain laws: the symmetries of a tree, decided by looking at all states. -/
import Derived.Test.YtcllfealpkhjfaaGreatDoorExx2
import Derived.Test.YtcllfealpkhjfaaGreatDoorNrx1
namespace Go.Proofs.YtcllfealpkhjfaaGreatDoor
open Go.AM Go.Proofs
theorem lt8 {a:Nat} (h:a < 8):a=0 \/ a=1 \/ a=2 \/ a=3 \/ a=4 \/ a=5 \/ a=6 \/ a=7:=by omega
theorem cnt8 {n:Nat} (hn:n<=8):∀ k,cntN n k<=cntN 8 k
 | 0=>Nat.le_refl _
 | k+1=>by
  have:=cnt8 hn k
  show n*cntN n k+1<=8*cntN 8 k+1
  have:=Nat.mul_le_mul hn this
  omega
theorem cnt9 {n L:Nat} (hn:n<=8) (hL:L < 9):cntOk n L:=by
 unfold cntOk
 refine Nat.le_trans (cnt8 hn _) ?_
 rcases lt8 (show L - 1 < 8 by omega) with h | h | h | h | h | h | h | h<;>rcases Nat.eq_zero_or_pos L with h' | h'<;>first | (obtain rfl:L=0:=h'; decide) | (obtain⟨m,rfl⟩:∃ m,L=m+1:=⟨L - 1,by omega⟩; rw[Nat.add_sub_cancel] at h; subst h; decide)
def allL (n:Nat):Nat->List (List Nat)
 | 0=>[[]]
 | m+1=>(List.range n).flatMap fun s=>(allL n m).map (s::·)
theorem mem_allL {n:Nat}:∀ {m:Nat} {l:List Nat},l∈allL n m↔Sts n m l
 | 0,l=>by
  constructor
  ·intro h
   obtain rfl:=List.mem_singleton.1 h
   exact⟨rfl,fun s hs=>by cases hs⟩
  ·intro h
   rw[List.eq_nil_of_length_eq_zero h.1]
   exact List.mem_singleton.2 rfl
 | m+1,l=>by
  constructor
  ·intro h
   obtain⟨s,hs,h⟩:=List.mem_flatMap.1 h
   obtain⟨l',hl',rfl⟩:=List.mem_map.1 h
   exact (mem_allL.1 hl').of_cons (List.mem_range.1 hs)
  ·intro h
   cases l with
   | nil=>have:=h.1; simp at this
   | cons s l=>exact List.mem_flatMap.2 ⟨s,List.mem_range.2 h.cons.1,List.mem_map.2 ⟨l,mem_allL.2 h.cons.2,rfl⟩⟩
def valN (t:Tree) (l:List Nat):Option Int:=walkV t (l.map fun s:Nat=>(s:Int)) ((t.Nodes.length - 1:Nat):Int)
def chk (t:Tree) (k:Nat):Bool:=t.Hood.all (fun p=>t.Hood.contains (apK k p)) && (allL t.States.toNat t.Hood.length).all fun l=>decide (valN t l=valN t ((t.Hood.map fun p=>t.Hood.idxOf (apK k p)).map fun i=>l.getD i 0))
section
variable {n L:Nat} {t:Tree} {u:DD (L+1)}
theorem TD.val (T:TD n L t u) {l:List Nat} (hl:Sts n (L+1) l):valN t l=some (evD (L+1) u l):=by
 obtain⟨i,hi,hr⟩:=T.rep
 unfold valN
 rw[show t.Nodes.length - 1=i by omega]
 exact walk_ev hr T.reg hl
theorem chk_iff (T:TD n L t u) {k:Nat}:chk t k=true↔Inv n L t u k:=by
 have hst:=T.tok.st
 have hn2:=T.tok.n2
 have hL:=T.hL
 have hnd:=sorted_nodup (hood_sorted (tok_hood T.ok))
 unfold chk
 rw[show t.States.toNat=n by omega,<- hL,Bool.and_eq_true,List.all_eq_true,List.all_eq_true]
 have hsts:∀ c:Point->Nat,(∀ p,c p < n)->Sts n (L+1) (t.Hood.map c):=fun c hc=>⟨by rw[List.length_map,hL],fun s hs=>by
  obtain⟨p,_,rfl⟩:=List.mem_map.1 hs
  exact hc p⟩
 constructor
 ·rintro⟨h1,h2⟩
  have hood:∀ p∈t.Hood,apK k p∈t.Hood:=fun p hp=>by simpa using h1 p hp
  refine⟨hood,fun c hc=>?_⟩
  have h:=of_decide_eq_true (h2 (t.Hood.map c) (mem_allL.2 (hsts c hc)))
  have e:((t.Hood.map fun p=>t.Hood.idxOf (apK k p)).map fun i=>(t.Hood.map c).getD i 0)=t.Hood.map fun p=>c (apK k p):=by
   rw[List.map_map]
   refine List.map_congr_left fun p hp=>?_
   have hlt:=List.idxOf_lt_length_iff.2 (hood p hp)
   show (t.Hood.map c).getD (t.Hood.idxOf (apK k p)) 0=c (apK k p)
   rw[List.getD_eq_getElem?_getD,List.getElem?_map,List.getElem?_eq_getElem hlt,List.getElem_idxOf hlt]
   rfl
  rw[e,T.val (hsts c hc),T.val (hsts (fun p=>c (apK k p)) fun p=>hc _)] at h
  exact Option.some.inj h
 ·intro hi
  refine⟨fun p hp=>by simpa using hi.hood p hp,fun l hl=>decide_eq_true ?_⟩
  have hl':=mem_allL.1 hl
  obtain⟨c,hc⟩:∃ c:Point->Nat,c=fun p=>l.getD (t.Hood.idxOf p) 0:=⟨_,rfl⟩
  have hcn:∀ p,c p < n:=fun p=>by
   rw[hc]
   dsimp only
   rw[List.getD_eq_getElem?_getD]
   cases hg:l[t.Hood.idxOf p]? with
   | none=>show (0:Nat) < n; omega
   | some x=>exact hl'.2 x (List.mem_of_getElem? hg)
  have hcl:t.Hood.map c=l:=by
   apply List.ext_getElem?
   intro i
   rw[List.getElem?_map]
   have hll:=hl'.1
   rcases Nat.lt_or_ge i t.Hood.length with h | h
   ·have hx:t.Hood.idxOf t.Hood[i]=i:=(List.getElem_inj hnd).1 (List.getElem_idxOf (List.idxOf_lt_length_iff.2 (List.getElem_mem h)))
    rw[List.getElem?_eq_getElem h,Option.map_some,hc]
    dsimp only
    rw[hx,List.getD_eq_getElem?_getD,List.getElem?_eq_getElem (by omega)]
    rfl
   ·rw[List.getElem?_eq_none h,List.getElem?_eq_none (by omega)]
    rfl
  have e:((t.Hood.map fun p=>t.Hood.idxOf (apK k p)).map fun i=>l.getD i 0)=t.Hood.map fun p=>c (apK k p):=by
   rw[List.map_map,hc]
   rfl
  have h:=hi.sem c hcn
  rw[e,T.val (hsts (fun p=>c (apK k p)) fun p=>hcn _),<- h,hcl,T.val hl']
theorem syms_chk (hok:treeOk t=true) (h9:t.Hood.length<=9):m_notation_Syms t=some (selL (chk t) 8):=by
 obtain⟨n,L,u,T⟩:=td_of hok
 have hL:=T.hL
 exact syms_is T (cnt9 T.tok.n8 (by omega)) _ fun k _=>chk_iff T
end
end Go.Proofs.YtcllfealpkhjfaaGreatDoor
namespace Go.Proofs.YtcllfealpkhjfaaGreatDoor
open Go.AM Go.Proofs
set_option maxRecDepth 100000
theorem ra_syms:m_notation_Syms raT=some [0,1,2,3,4,5,6,7]:=(syms_chk (by kernel_rfl) (by decide)).trans (by kernel_rfl)
theorem rb_syms:m_notation_Syms rbT=some [0,2,5,7]:=(syms_chk (by kernel_rfl) (by decide)).trans (by kernel_rfl)
theorem pa1:m_notation_Parse ([66,51,47,83,50,51]:List UInt8)=some (raT,0):=by kernel_rfl
theorem pa2:m_notation_Parse ([66,50,47,83,51,52,72]:List UInt8)=some (rbT,0):=by kernel_rfl
theorem pa3:∃ t,m_notation_Parse ([87,49,49,48]:List UInt8)=some (t,0)/\m_notation_Syms t=some [0,6]:=by
 have h1:(m_notation_Parse ([87,49,49,48]:List UInt8)).map (fun y=>y.2)=some 0:=by kernel_rfl
 have h2:(m_notation_Parse ([87,49,49,48]:List UInt8)).bind (fun y=>m_notation_Syms y.1)=some [0,6]:=by kernel_rfl
 revert h1 h2
 cases m_notation_Parse ([87,49,49,48]:List UInt8) with
 | none=>intro h1; cases h1
 | some y =>
  intro h1 h2
  exact⟨y.1,by rw[show y=(y.1,y.2) from rfl,show y.2=0 from by simpa using h1],h2⟩
theorem pa4:m_notation_Parse ([66,57,47,83]:List UInt8)=some (⟨0,[],[]⟩,5):=by kernel_rfl
theorem pa5:m_notation_Parse ([108,105,102,101]:List UInt8)=some (⟨0,[],[]⟩,7):=by kernel_rfl
theorem pa6:m_notation_Canon ([47,50,47,51]:List UInt8)=some ([66,50,47,83,47,67,51],0):=by kernel_rfl
theorem pa7:m_tree_Eval raT [1,1,1,0,0,0,0,0,0]=some (1,0):=by kernel_rfl
theorem awake_of {T1 T2 T3 T4 T5:Tree} (p1:m_notation_Parse ([66,51,47,83,50,51]:List UInt8)=some (T1,0)) (p2:m_notation_Parse ([66,50,47,83,51,52,72]:List UInt8)=some (T2,0)) (p3:m_notation_Parse ([87,49,49,48]:List UInt8)=some (T3,0))
  (p4:m_notation_Parse ([66,57,47,83]:List UInt8)=some (T4,5)) (p5:m_notation_Parse ([108,105,102,101]:List UInt8)=some (T5,7)) (c6:m_notation_Canon ([47,50,47,51]:List UInt8)=some ([66,50,47,83,47,67,51],0)) (e7:m_tree_Eval T1 [1,1,1,0,0,0,0,0,0]=some (1,0))
  (k1:m_notation_Kind ([66,51,47,83,50,51]:List UInt8)=some 1) (k2:m_notation_Kind ([47,50,47,51]:List UInt8)=some 2) (k3:m_notation_Kind ([87,51,48]:List UInt8)=some 3) (k4:m_notation_Kind ([84,55,55,55,47,51]:List UInt8)=some 4) (k5:m_notation_Kind ([98,51,47,115,50,51]:List UInt8)=some 0) (k6:m_notation_Kind ([120,10]:List UInt8)=some 5)
  (s1:m_notation_Syms T1=some [0,1,2,3,4,5,6,7]) (s2:m_notation_Syms T2=some [0,2,5,7]) (s3:m_notation_Syms T3=some [0,6]):m_L16_awake=some true:=by
 have i1:m_L12_Ints [0,2,5,7] [0,2,5,7]=some true:=by kernel_rfl
 have i2:m_L12_Ints [0,6] [0,6]=some true:=by kernel_rfl
 have n0:neB (0:Int) 0=false:=by kernel_rfl
 have n5:neB (5:Int) 5=false:=by kernel_rfl
 have n7:neB (7:Int) 7=false:=by kernel_rfl
 have n1:neB (1:Int) 1=false:=by kernel_rfl
 have e0:eqB (0:Int) 0=true:=by kernel_rfl
 have e1:eqB (1:Int) 1=true:=by kernel_rfl
 have e2:eqB (2:Int) 2=true:=by kernel_rfl
 have e3:eqB (3:Int) 3=true:=by kernel_rfl
 have e4:eqB (4:Int) 4=true:=by kernel_rfl
 have e5:eqB (5:Int) 5=true:=by kernel_rfl
 have e8:eqB (aT ([0,1,2,3,4,5,6,7]:List Int)) 8=true:=by kernel_rfl
 have es:bB (eqS ([66,50,47,83,47,67,51]:List UInt8) ([66,50,47,83,47,67,51]:List UInt8))=false:=by kernel_rfl
 simp only[m_L16_awake,p1,p2,c6,e7,p3,s3,p4,p5,k1,k2,k3,k4,k5,k6,i1,i2,n0,n5,n7,n1,e0,e1,e2,e3,e4,e5,e8,es,s1,s2,Option.bind_some,cond_true,cond_false]
theorem awake16:m_L16_awake=some true:=by
 obtain⟨t3,h3,s3⟩:=pa3
 exact awake_of pa1 pa2 h3 pa4 pa5 pa6 pa7 (by kernel_rfl) (by kernel_rfl) (by kernel_rfl) (by kernel_rfl) (by kernel_rfl) (by kernel_rfl) ra_syms rb_syms s3
end Go.Proofs.YtcllfealpkhjfaaGreatDoor
namespace Go.Proofs.YtcllfealpkhjfaaGreatDoor
open Go.AM Go.Proofs
theorem ints12_same (l:List Int) (hl:l.length < 1099511627776):m_L12_Ints l l=some true:=by
 unfold m_L12_Ints
 rw[show neB (aT l) (aT l)=false from by simp[neB],cond_false,eq_loop l l rfl hl (fun i x y hx hy=>by
   unfold b_L12_Ints_1
   dsimp only
   rw[ltB_nat,decide_eq_true (List.getElem?_eq_some_iff.1 hx).1,cond_true,idx_nat,hx,up_nat (by have:=(List.getElem?_eq_some_iff.1 hx).1; omega)]
   simp only[some_bind]
   obtain rfl:x=y:=Option.some.inj (hx.symm.trans hy)
   rw[show neB x x=false from by simp[neB],decide_eq_true rfl]
   rfl) (by
   unfold b_L12_Ints_1
   dsimp only
   rw[ltB_nat,decide_eq_false (Nat.lt_irrefl _)]
   rfl),decide_eq_true rfl]
 rfl
theorem few_eq (t:Tree):∃ y,m_L12_Few t=some y/\(y=true->Sz t):=by
 unfold m_L12_Few
 simp only[bif_some,some_bind,bif_some_t]
 cases h1:gtB (aT t.Hood) 40 with
 | true=>exact⟨false,rfl,fun h=>by cases h⟩
 | false =>
  cases h2:gtB (aT t.Nodes) 400 with
  | true=>exact⟨false,rfl,fun h=>by cases h⟩
  | false =>
   have e1:=of_decide_eq_false h1
   have e2:=of_decide_eq_false h2
   unfold aT at e1 e2
   simp only[Bool.or_false,cond_false]
   rw[loop_any t.Nodes (fun _ n=>gtB (aT n.Next) 20) false (by omega) (fun i n hn=>by
    unfold b_L12_Few_1
    dsimp only
    rw[ltB_nat,decide_eq_true (getE_lt hn),cond_true,idx_nat,hn,up_nat (by have:=getE_lt hn; omega)]
    simp only[some_bind,bif_some]) (by
    unfold b_L12_Few_1
    dsimp only
    rw[ltB_nat,decide_eq_false (Nat.lt_irrefl _)]
    rfl)]
   cases ha:anyB (fun _ n=>gtB (aT n.Next) 20) t.Nodes 0 with
   | true=>exact⟨false,rfl,fun h=>by cases h⟩
   | false =>
    refine⟨_,rfl,fun h=>⟨by omega,by omega,fun n hn=>?_⟩⟩
    obtain⟨j,hj⟩:=List.getElem?_of_mem hn
    have:=anyB_false ha j n hj
    have:=of_decide_eq_false this
    unfold aT at this
    omega
theorem syms_bad {t:Tree} (hs:Sz t) (hok:treeOk t=false):m_notation_Syms t=some []/\m_R16_Syms t=some []:=by
 constructor
 ·unfold m_notation_Syms
  obtain⟨r,hr,rfl⟩:=loop_iv (b:=b_notation_Syms_1 t) (n:=8) (s:=(0,[])) (fun k st=>st=((k:Int),[])) (fun r=>r=[]) (by omega) rfl
   (fun k st hk e=>by
    subst e
    refine .inl ⟨_,?_,rfl⟩
    unfold b_notation_Syms_1 m_reduce_Turn
    dsimp only
    rw[show ltB (k:Int) 8=true from decide_eq_true (by omega),cond_true,tree_eq hs,hok,up_nat (by omega)]
    rfl)
   (fun st e=>by
    subst e
    refine⟨_,?_,rfl⟩
    unfold b_notation_Syms_1
    rfl)
  rw[hr]
  rfl
 ·unfold m_R16_Syms
  have h:b_R16_Syms_1 t (0,[])=some (.out []):=by
   unfold b_R16_Syms_1
   dsimp only
   rw[treeR_eq hs,hok]
   rfl
  show (aY (b_R16_Syms_1 t) (1099511627775+1) (0,[])).bind _=_
  rw[aY,h]
  rfl
theorem symslaw_true (t:Tree):m_L16_NotationSyms t=some true:=by
 obtain⟨y,hy,hs⟩:=few_eq t
 unfold m_L16_NotationSyms
 rw[hy,awake16]
 cases y with
 | false=>rfl
 | true =>
  simp only[some_bind,bB,Bool.not_true,cond_false]
  cases h1:gtB (aT t.Nodes) 60 with
  | true=>rfl
  | false =>
   cases h2:gtB (aT t.Hood) 9 with
   | true=>rfl
   | false =>
    simp only[some_bind,cond_false]
    cases hok:treeOk t with
    | false =>
     obtain⟨e1,e2⟩:=syms_bad (hs rfl) hok
     rw[e1,e2]
     rfl
    | true =>
     obtain⟨n,L,u,T⟩:=td_of hok
     have e2:=of_decide_eq_false h2
     unfold aT at e2
     have hL:=T.hL
     have hcnt:cntOk n L:=cnt9 T.tok.n8 (by omega)
     obtain⟨f,hf⟩:∃ f:Nat->Bool,∀ k,f k=true↔Inv n L t u k:=by
      classical
      exact⟨fun k=>decide (Inv n L t u k),fun k=>decide_eq_true_iff⟩
     have hlen:=selL_len f 8
     rw[syms_is T hcnt f fun k _=>hf k,symsR_is T hcnt f fun k _=>hf k]
     simp only[some_bind]
     rw[ints12_same _ (by omega)]
     rfl
end Go.Proofs.YtcllfealpkhjfaaGreatDoor
