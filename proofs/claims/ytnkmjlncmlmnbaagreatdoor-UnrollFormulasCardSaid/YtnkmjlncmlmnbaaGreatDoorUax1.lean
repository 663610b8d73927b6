/- The fixed examples of chapter 45 hold: reckoned by the kernel over the functions of lists. -/
import Derived.Test.YtnkmjlncmlmnbaaGreatDoorRrx2
namespace Go.Proofs.YtnkmjlncmlmnbaaGreatDoor
open Go.AM Go.Proofs
set_option maxRecDepth 100000
theorem alive45:m_L45_alive=some true:=by kernel_rfl
end Go.Proofs.YtnkmjlncmlmnbaaGreatDoor
namespace Go.Proofs.YtnkmjlncmlmnbaaGreatDoor
open Go.AM Go.Proofs
theorem equal41 (f:Bm) (h:f.Clauses.length < 1099511627776) (hc:∀ c∈f.Clauses,c.length < 1099511627776):m_R41_Equal f f=some true:=by
 have inner:∀ (i:Int) (x:List Int),x.length < 1099511627776->bh (b_R41_Equal_2 f f i x x) bm 0=some (.inr ()):=fun i x hx=>by
  have:=loop_any (b:=b_R41_Equal_2 f f i x x) x (fun _ _=>false) false hx (fun j y hy=>by
   have hj:=(List.getElem?_eq_some_iff.1 hy).1
   unfold b_R41_Equal_2
   dsimp only
   rw[ltB_nat,decide_eq_true hj,cond_true,idx_nat,hy,up_nat (by omega)]
   simp only[some_bind]
   rw[show neB y y=false from by simp[neB],cond_false]
   rfl) (by
   unfold b_R41_Equal_2
   dsimp only
   rw[ltB_nat,decide_eq_false (Nat.lt_irrefl _)]
   rfl)
  rw[this,anyB_of_false (fun _ _ _=>rfl)]
  rfl
 have outer:bh (b_R41_Equal_1 f f) bm 0=some (.inr ()):=by
  have:=loop_any (b:=b_R41_Equal_1 f f) f.Clauses (fun _ _=>false) false h (fun j y hy=>by
   have hj:=(List.getElem?_eq_some_iff.1 hy).1
   unfold b_R41_Equal_1
   dsimp only
   rw[ltB_nat,decide_eq_true hj,cond_true,idx_nat,hy,up_nat (by omega)]
   simp only[some_bind]
   rw[show neB (bf y) (bf y)=false from by simp[neB],cond_false,inner _ y (hc y (List.mem_of_getElem? hy))]
   rfl) (by
   unfold b_R41_Equal_1
   dsimp only
   rw[ltB_nat,decide_eq_false (Nat.lt_irrefl _)]
   rfl)
  rw[this,anyB_of_false (fun _ _ _=>rfl)]
  rfl
 unfold m_R41_Equal
 rw[show neB f.Vars f.Vars=false from by simp[neB],cond_false,show neB (bf f.Clauses) (bf f.Clauses)=false from by simp[neB]]
 simp only[some_bind,cond_false]
 rw[outer]
 rfl
end Go.Proofs.YtnkmjlncmlmnbaaGreatDoor
namespace Go.Proofs.YtnkmjlncmlmnbaaGreatDoor
open Go.AM Go.Proofs
theorem imax_assoc (a b c:Int):d7 (d7 a b) c=d7 a (d7 b c):=by
 unfold d7
 repeat' split
 all_goals omega
theorem rad_step (l:List Point):b_R07_Radius_1 l=b_hood_Radius_1 l:=by
 funext st
 obtain⟨n,i⟩:=st
 unfold b_R07_Radius_1 b_hood_Radius_1 m_R07_Abs
 dsimp only
 simp only[some_bind,<- imax_assoc]
theorem rad_eq {l:List Point} (hl:l.length < 1099511627776):m_R07_Radius l=m_hood_Radius l:=by
 unfold m_R07_Radius m_hood_Radius
 rw[hoodR_eq hl,hood_eq hl,rad_step]
 simp only[some_bind]
 cases hoodOk l with
 | false=>rfl
 | true =>
  simp only[bW,Bool.not_true,cond_false,cond_true]
  cases bh (b_hood_Radius_1 l) bm (0,0)<;>rfl
end Go.Proofs.YtnkmjlncmlmnbaaGreatDoor
namespace Go.Proofs.YtnkmjlncmlmnbaaGreatDoor.PC
open Go.AM Go.Proofs Go.Proofs.YtnkmjlncmlmnbaaGreatDoor
def seenOf (l:List Int) (i:Nat):List Bool:=(List.range 8).map fun(c:Nat)=>(l.take i).contains (c:Int)
theorem seen_len (l:List Int) (i:Nat):(seenOf l i).length=8:=by simp[seenOf]
theorem seen_get (l:List Int) (i:Nat) {c:Nat} (h:c < 8):(seenOf l i)[c]?=some ((l.take i).contains (c:Int)):=by
 simp[seenOf,List.getElem?_range h]
theorem aidx_seen {l:List Int} {i:Nat} {k:Int} (h0:ltB k 0=false) (h8:geB k 8=false):aidx 8 (seenOf l i) k=some ((l.take i).contains k):=by
 have e0:=of_decide_eq_false h0
 have e8:=of_decide_eq_false h8
 have hk:aok 8 k=true:=decide_eq_true ⟨by omega,by omega⟩
 unfold aidx
 rw[hk,cond_true,seen_get l i (by omega),show ((k.toNat:Nat):Int)=k by omega]
theorem seen_set {l:List Int} {i:Nat} {k:Int} (hk:l[i]?=some k) (h0:ltB k 0=false) (h8:geB k 8=false):(seenOf l i).set k.toNat true=seenOf l (i+1):=by
 have e0:=of_decide_eq_false h0
 have e8:=of_decide_eq_false h8
 apply List.ext_getElem?
 intro c
 by_cases hc:c < 8
 ·rw[seen_get l (i+1) hc,List.take_add_one,hk]
  by_cases he:k.toNat=c
  ·subst he
   rw[List.getElem?_set_self (by rw[seen_len]; exact hc),show ((k.toNat:Nat):Int)=k by omega]
   simp
  ·rw[List.getElem?_set_ne he,seen_get l i hc]
   have:((c:Nat):Int)≠k:=by omega
   simp[this]
 ·rw[List.getElem?_eq_none (by rw[List.length_set,seen_len]; omega),List.getElem?_eq_none (by rw[seen_len]; omega)]
def oddB (k:Int):Bool:=eqB (k.tmod 2) 1
def badS (x:Bl) (i:Nat) (k:Int):Bool:=ltB k 0 || (geB k 8 || ((x.Syms.take i).contains k || (oddB k && neB x.W x.H)))
theorem irem2 (k:Int):i7 k 2=some (k.tmod 2):=by unfold i7; rw[if_neg (by decide)]
theorem fits_eq {x:Bl} (hx:x.Syms.length < 1099511627776):m_problem_fits x=some (!anyB (badS x) x.Syms 0):=by
 unfold m_problem_fits
 have h:=loop_anyE (b:=b_problem_fits_1 x) (fun i=>((i:Int),seenOf x.Syms i)) x.Syms (badS x) false hx
  (fun i k hk=>by
   unfold b_problem_fits_1 badS oddB
   dsimp only
   rw[ltB_nat,decide_eq_true (getE_lt hk),cond_true,idx_nat,hk,up_nat (Nat.lt_trans (getE_lt hk) hx)]
   simp only[some_bind,irem2]
   cases h0:ltB k 0 with
   | true=>rfl
   | false =>
    cases h8:geB k 8 with
    | true=>rfl
    | false =>
     rw[aidx_seen h0 h8,seen_set hk h0 h8]
     simp only[some_bind]
     cases (x.Syms.take i).contains k<;>cases eqB (k.tmod 2) 1<;>cases neB x.W x.H<;>rfl)
  (by
   unfold b_problem_fits_1
   dsimp only
   rw[ltB_nat,decide_eq_false (Nat.lt_irrefl _)]
   rfl)
 rw[show ((((0:Nat):Int),seenOf x.Syms 0):Int×List Bool)=(0,[false,false,false,false,false,false,false,false]) from by
  simp[seenOf,List.range,List.range.loop]] at h
 rw[h]
 cases anyB (badS x) x.Syms 0<;>rfl
theorem any_contains (l:List Int) (k:Int):∀ i:Nat,anyB (fun _ y=>eqB y k) l i=l.contains k:=by
 induction l with
 | nil=>intro i; rfl
 | cons y l ih =>
  intro i
  rw[anyB,ih]
  simp only[List.contains_cons,eqB]
  rw[show (y == k)=(k == y) from Bool.eq_iff_iff.2 (by simp only[beq_iff_eq]; exact⟨Eq.symm,Eq.symm⟩)]
theorem box2_eq {x:Bl} {i:Nat} {k:Int} (hx:x.Syms.length < 1099511627776) (hi:i<=x.Syms.length):bh (b_R44_Box_2 x (i:Nat) k) bm 0=some (bif (x.Syms.take i).contains k then .inl 2 else .inr ()):=by
 have hl:(x.Syms.take i).length=i:=by simp; omega
 rw[<- any_contains _ _ 0]
 refine loop_any (x.Syms.take i) (fun _ y=>eqB y k) 2 (by omega) (fun j y hy=>?_) ?_
 ·have hj:j < i:=by have:=getE_lt hy; omega
  unfold b_R44_Box_2
  dsimp only
  rw[show ltB (j:Int) (i:Int)=true from decide_eq_true (by omega),cond_true,idx_nat,show x.Syms[j]?=some y by rw[List.getElem?_take,if_pos hj] at hy; exact hy,up_nat (by omega)]
  simp only[some_bind]
  cases eqB y k<;>rfl
 ·unfold b_R44_Box_2
  dsimp only
  rw[hl,show ltB (i:Int) (i:Int)=false from decide_eq_false (by omega)]
  rfl
theorem box1_eq {x:Bl} (hx:x.Syms.length < 1099511627776):bh (b_R44_Box_1 x) bm 0=some (bif anyB (badS x) x.Syms 0 then .inl 2 else .inr ()):=by
 refine loop_any x.Syms (badS x) 2 hx (fun i k hk=>?_) ?_
 ·unfold b_R44_Box_1 badS oddB
  dsimp only
  rw[ltB_nat,decide_eq_true (getE_lt hk),cond_true,idx_nat,hk,up_nat (Nat.lt_trans (getE_lt hk) hx)]
  simp only[some_bind,irem2,box2_eq hx (Nat.le_of_lt (getE_lt hk))]
  rw[show gtB k 7=geB k 8 from decide_eq_decide.2 ⟨fun h=>by omega,fun h=>by omega⟩]
  cases ltB k 0<;>cases geB k 8<;>cases (x.Syms.take i).contains k<;>cases eqB (k.tmod 2) 1<;>cases neB x.W x.H<;>rfl
 ·unfold b_R44_Box_1
  dsimp only
  rw[ltB_nat,decide_eq_false (Nat.lt_irrefl _)]
  rfl
theorem ltB_min (a b c:Int):ltB (ii a b) c=(ltB a c || ltB b c):=by
 unfold ltB ii
 rw[Bool.eq_iff_iff]
 simp only[decide_eq_true_eq,Bool.or_eq_true]
 split<;>omega
theorem gtB_max (a b c:Int):gtB (d7 a b) c=(gtB a c || gtB b c):=by
 unfold gtB d7
 rw[Bool.eq_iff_iff]
 simp only[decide_eq_true_eq,Bool.or_eq_true]
 split<;>omega
def probE (x:Bl):Int :=
 bif ltB x.W 1 || ltB x.H 1 then 2 else bif gtB x.W 16 || (gtB x.H 16 || gtB (bB .i64 x.W x.H) 16) then 6 else
  bif ltB x.Gens 1 || (gtB x.Gens 6 || (ltB x.DX (-24) || (gtB x.DX 24 || (ltB x.DY (-24) || (gtB x.DY 24 || anyB (badS x) x.Syms 0))))) then 2 else 0
theorem first_eq {x:Bl} (hx:x.Syms.length < 1099511627776):m_problem_first x=some (probE x):=by
 unfold m_problem_first probE
 rw[fits_eq hx,ltB_min,gtB_max,gtB_max,ltB_min]
 simp only[some_bind,bif_some,bif_some_t,bW,Bool.not_not]
 cases ltB x.W 1 || ltB x.H 1 with
 | true=>rfl
 | false =>
  rw[Bool.or_assoc]
  cases gtB x.W 16 || (gtB x.H 16 || gtB (bB .i64 x.W x.H) 16) with
  | true=>rfl
  | false =>
   cases ltB x.Gens 1<;>cases gtB x.Gens 6<;>cases ltB x.DX (-24)<;>cases gtB x.DX 24<;>cases ltB x.DY (-24)<;>cases gtB x.DY 24<;>cases anyB (badS x) x.Syms 0<;>rfl
theorem box_eq {x:Bl} (hx:x.Syms.length < 1099511627776):m_R44_Box x=some (probE x):=by
 unfold m_R44_Box probE
 rw[box1_eq hx]
 simp only[some_bind,bif_some,bif_some_t]
 cases ltB x.W 1 || ltB x.H 1 with
 | true=>rfl
 | false =>
  cases gtB x.W 16 || (gtB x.H 16 || gtB (bB .i64 x.W x.H) 16) with
  | true=>rfl
  | false =>
   cases ltB x.Gens 1<;>cases gtB x.Gens 6<;>cases ltB x.DX (-24)<;>cases gtB x.DX 24<;>cases ltB x.DY (-24)<;>cases gtB x.DY 24<;>cases anyB (badS x) x.Syms 0<;>rfl
theorem patR_nil:m_pattern_Right []=some true:=by
 unfold m_pattern_Right
 rw[loop_any (b:=b_pattern_Right_1 []) ([]:List Unit) (fun _ _=>false) false (by simp) (fun i x hx=>by simp at hx) (by rfl)]
 rfl
theorem patT_nil:m_pattern_Top []=some 0:=by
 unfold m_pattern_Top
 have h:=loop_run (b:=b_pattern_Top_1 []) (fun i (n:Int)=>(n,(i:Int))) [] (fun _ (x:Cell) n=>some (.next (d7 n x.S))) (fun n=>some n) (by simp) (fun i x s hx=>by simp at hx) (fun n=>by rfl) 0
 rw[show ((0:Nat):Int)=0 from rfl] at h
 rw[h]
 rfl
def chkE (t:Tree) (x:Bl):Int:=bif quietB t then probE x else 11
theorem run0_eq {t:Tree} (hs:Sz t):m_direct_Run t [] 0=some ([],bif quietB t then 0 else 11):=by
 unfold m_direct_Run m_direct_check
 rw[quiet_eq hs,patR_nil,patT_nil]
 simp only[some_bind]
 cases hq:quietB t with
 | false=>rfl
 | true =>
  have ht:treeOk t=true:=by
   unfold quietB at hq
   simp only[Bool.and_eq_true] at hq
   exact hq.1
  have h2:=(ok_of ht).s2
  have hg:geB 0 t.States=false:=decide_eq_false (by omega)
  rw[hg]
  have hl:bh (b_direct_Run_1 t [] 0) bm ()=some ():=by
   have hF:∃ k,bm=k+1:=⟨1099511627775,rfl⟩
   obtain⟨k,hk⟩:=hF
   rw[hk,bh]
   rfl
  rw[hl]
  rfl
theorem check_eq {t:Tree} {x:Bl} (hs:Sz t) (hx:x.Syms.length < 1099511627776):m_problem_Check t x=some (chkE t x):=by
 unfold m_problem_Check chkE
 rw[run0_eq hs,first_eq hx]
 cases quietB t<;>rfl
theorem checkR_eq {t:Tree} {x:Bl} (hs:Sz t) (hx:x.Syms.length < 1099511627776):m_R44_Check t x=some (chkE t x):=by
 unfold m_R44_Check chkE
 rw[quietR_eq hs,box_eq hx]
 cases quietB t<;>rfl
def bitsOf (s:Int):Int:=bif eqB s 2 then 1 else bif eqB s 3 || eqB s 4 then 2 else bif gtB s 4 && leB s 8 then 3 else 0
theorem bits_eq (s:Int):m_lower_Bits s=some (bitsOf s):=by
 unfold m_lower_Bits bitsOf
 cases eqB s 2<;>cases eqB s 3<;>cases eqB s 4<;>cases gtB s 4<;>cases leB s 8<;>rfl
theorem bitsR_eq (s:Int):m_R18_Bits s=some (bitsOf s):=by
 unfold m_R18_Bits bitsOf
 rw[show geB s 5=gtB s 4 from decide_eq_decide.2 ⟨fun h=>by omega,fun h=>by omega⟩]
 cases eqB s 2<;>cases eqB s 3<;>cases eqB s 4<;>cases gtB s 4<;>cases leB s 8<;>rfl
theorem bits_in {s:Int} (h2:2<=s) (h8:s<=8):(bitsOf s=1/\s<=2) \/ (bitsOf s=2/\s<=4) \/ (bitsOf s=3/\s<=8):=by
 unfold bitsOf eqB gtB leB
 by_cases e2:s=2
 ·subst e2; exact .inl ⟨rfl,by omega⟩
 ·by_cases e3:s=3
  ·subst e3; exact .inr (.inl ⟨rfl,by omega⟩)
  ·by_cases e4:s=4
   ·subst e4; exact .inr (.inl ⟨rfl,by omega⟩)
   ·refine .inr (.inr ⟨?_,h8⟩)
    have:s > 4:=by omega
    rw[beq_false_of_ne e2,beq_false_of_ne e3,beq_false_of_ne e4,decide_eq_true this,decide_eq_true h8]
    rfl
end Go.Proofs.YtnkmjlncmlmnbaaGreatDoor.PC
