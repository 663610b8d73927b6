/- NrS -/
import Derived.Test.YtlcdmiapdfdcaaaGreatDoorNrx2
import Derived.Test.YtlcdmiapdfdcaaaGreatDoorNrx3
import Derived.Test.YtlcdmiapdfdcaaaGreatDoorNrx4
import Derived.Test.YtlcdmiapdfdcaaaGreatDoorSwx2
namespace Go.Proofs.YtlcdmiapdfdcaaaGreatDoor
open Go.AM Go.Proofs
set_option maxRecDepth 100000
theorem syms_yes {t u:Tree} {a:Int} {out:List Int} (ha:ltB a 8 = true) (ht:m_reduce_Turn a t = some (u,0)) (he:m_reduce_Equal t u = some true) (hl:(appL 8 out [a]).isSome = true):b_notation_Syms_1 t (a,out) = some (.next (bP .i64 a 1,out ++ [a])):=by
 obtain ⟨l,hl⟩:=Option.isSome_iff_exists.1 hl
 have h0:eqB (0:Int) 0 = true:=by kernel_rfl
 simp only [b_notation_Syms_1,ha,ht,he,hl,h0,cond_true,Option.bind_some]
theorem syms_no {t u:Tree} {a:Int} {out:List Int} (ha:ltB a 8 = true) (ht:m_reduce_Turn a t = some (u,0)) (he:m_reduce_Equal t u = some false):b_notation_Syms_1 t (a,out) = some (.next (bP .i64 a 1,out)):=by
 have h0:eqB (0:Int) 0 = true:=by kernel_rfl
 simp only [b_notation_Syms_1,ha,ht,he,h0,cond_true,cond_false,Option.bind_some]
theorem syms_end {t:Tree} {out:List Int}:b_notation_Syms_1 t (8,out) = some (.out out):=by
 have h0:ltB (8:Int) 8 = false:=by kernel_rfl
 simp only [b_notation_Syms_1,h0,cond_false]
theorem ra_0s:b_notation_Syms_1 raT (0,[]) = some (.next (1,[0])):=syms_yes (by kernel_rfl) ra_0t ra_0e (by kernel_rfl)
theorem ra_1s:b_notation_Syms_1 raT (1,[0]) = some (.next (2,[0,1])):=syms_yes (by kernel_rfl) ra_1t ra_1e (by kernel_rfl)
theorem ra_2s:b_notation_Syms_1 raT (2,[0,1]) = some (.next (3,[0,1,2])):=syms_yes (by kernel_rfl) ra_2t ra_2e (by kernel_rfl)
theorem ra_3s:b_notation_Syms_1 raT (3,[0,1,2]) = some (.next (4,[0,1,2,3])):=syms_yes (by kernel_rfl) ra_3t ra_3e (by kernel_rfl)
theorem ra_4s:b_notation_Syms_1 raT (4,[0,1,2,3]) = some (.next (5,[0,1,2,3,4])):=syms_yes (by kernel_rfl) ra_4t ra_4e (by kernel_rfl)
theorem ra_5s:b_notation_Syms_1 raT (5,[0,1,2,3,4]) = some (.next (6,[0,1,2,3,4,5])):=syms_yes (by kernel_rfl) ra_5t ra_5e (by kernel_rfl)
theorem ra_6s:b_notation_Syms_1 raT (6,[0,1,2,3,4,5]) = some (.next (7,[0,1,2,3,4,5,6])):=syms_yes (by kernel_rfl) ra_6t ra_6e (by kernel_rfl)
theorem ra_7s:b_notation_Syms_1 raT (7,[0,1,2,3,4,5,6]) = some (.next (8,[0,1,2,3,4,5,6,7])):=syms_yes (by kernel_rfl) ra_7t ra_7e (by kernel_rfl)
theorem ra_syms:m_notation_Syms raT = some [0,1,2,3,4,5,6,7]:=by
 have h:aV (b_notation_Syms_1 raT) b8 (0,[]) = some [0,1,2,3,4,5,6,7]:=Run.fin (run_next ra_0s (run_next ra_1s (run_next ra_2s (run_next ra_3s (run_next ra_4s (run_next ra_5s (run_next ra_6s (run_next ra_7s (run_out syms_end))))))))) (by decide)
 simp only [m_notation_Syms,h,Option.bind_some]
theorem rb_0s:b_notation_Syms_1 rbT (0,[]) = some (.next (1,[0])):=syms_yes (by kernel_rfl) rb_0t rb_0e (by kernel_rfl)
theorem rb_1s:b_notation_Syms_1 rbT (1,[0]) = some (.next (2,[0])):=syms_no (by kernel_rfl) rb_1t rb_1e
theorem rb_2s:b_notation_Syms_1 rbT (2,[0]) = some (.next (3,[0,2])):=syms_yes (by kernel_rfl) rb_2t rb_2e (by kernel_rfl)
theorem rb_3s:b_notation_Syms_1 rbT (3,[0,2]) = some (.next (4,[0,2])):=syms_no (by kernel_rfl) rb_3t rb_3e
theorem rb_4s:b_notation_Syms_1 rbT (4,[0,2]) = some (.next (5,[0,2])):=syms_no (by kernel_rfl) rb_4t rb_4e
theorem rb_5s:b_notation_Syms_1 rbT (5,[0,2]) = some (.next (6,[0,2,5])):=syms_yes (by kernel_rfl) rb_5t rb_5e (by kernel_rfl)
theorem rb_6s:b_notation_Syms_1 rbT (6,[0,2,5]) = some (.next (7,[0,2,5])):=syms_no (by kernel_rfl) rb_6t rb_6e
theorem rb_7s:b_notation_Syms_1 rbT (7,[0,2,5]) = some (.next (8,[0,2,5,7])):=syms_yes (by kernel_rfl) rb_7t rb_7e (by kernel_rfl)
theorem rb_syms:m_notation_Syms rbT = some [0,2,5,7]:=by
 have h:aV (b_notation_Syms_1 rbT) b8 (0,[]) = some [0,2,5,7]:=Run.fin (run_next rb_0s (run_next rb_1s (run_next rb_2s (run_next rb_3s (run_next rb_4s (run_next rb_5s (run_next rb_6s (run_next rb_7s (run_out syms_end))))))))) (by decide)
 simp only [m_notation_Syms,h,Option.bind_some]
theorem pa1:m_notation_Parse ([66,51,47,83,50,51]:List UInt8) = some (raT,0):=by kernel_rfl
theorem pa2:m_notation_Parse ([66,50,47,83,51,52,72]:List UInt8) = some (rbT,0):=by kernel_rfl
theorem pa3:∃ t,m_notation_Parse ([87,49,49,48]:List UInt8) = some (t,0) /\ m_notation_Syms t = some [0,6]:=by
 have h1:(m_notation_Parse ([87,49,49,48]:List UInt8)).map (fun y=>y.2) = some 0:=by kernel_rfl
 have h2:(m_notation_Parse ([87,49,49,48]:List UInt8)).bind (fun y=>m_notation_Syms y.1) = some [0,6]:=by kernel_rfl
 revert h1 h2
 cases m_notation_Parse ([87,49,49,48]:List UInt8) with
 | none=>intro h1; cases h1
 | some y =>
  intro h1 h2
  exact ⟨y.1,by rw [show y = (y.1,y.2) from rfl,show y.2 = 0 from by simpa using h1],h2⟩
theorem pa4:m_notation_Parse ([66,57,47,83]:List UInt8) = some (⟨0,[],[]⟩,5):=by kernel_rfl
theorem pa5:m_notation_Parse ([108,105,102,101]:List UInt8) = some (⟨0,[],[]⟩,7):=by kernel_rfl
theorem pa6:m_notation_Canon ([47,50,47,51]:List UInt8) = some ([66,50,47,83,47,67,51],0):=by kernel_rfl
theorem pa7:m_tree_Eval raT [1,1,1,0,0,0,0,0,0] = some (1,0):=by kernel_rfl
theorem awake_of {T1 T2 T3 T4 T5:Tree} (p1:m_notation_Parse ([66,51,47,83,50,51]:List UInt8) = some (T1,0)) (p2:m_notation_Parse ([66,50,47,83,51,52,72]:List UInt8) = some (T2,0)) (p3:m_notation_Parse ([87,49,49,48]:List UInt8) = some (T3,0))
  (p4:m_notation_Parse ([66,57,47,83]:List UInt8) = some (T4,5)) (p5:m_notation_Parse ([108,105,102,101]:List UInt8) = some (T5,7)) (c6:m_notation_Canon ([47,50,47,51]:List UInt8) = some ([66,50,47,83,47,67,51],0)) (e7:m_tree_Eval T1 [1,1,1,0,0,0,0,0,0] = some (1,0))
  (k1:m_notation_Kind ([66,51,47,83,50,51]:List UInt8) = some 1) (k2:m_notation_Kind ([47,50,47,51]:List UInt8) = some 2) (k3:m_notation_Kind ([87,51,48]:List UInt8) = some 3) (k4:m_notation_Kind ([84,55,55,55,47,51]:List UInt8) = some 4) (k5:m_notation_Kind ([98,51,47,115,50,51]:List UInt8) = some 0) (k6:m_notation_Kind ([120,10]:List UInt8) = some 5)
  (s1:m_notation_Syms T1 = some [0,1,2,3,4,5,6,7]) (s2:m_notation_Syms T2 = some [0,2,5,7]) (s3:m_notation_Syms T3 = some [0,6]):m_L16_awake = some true:=by
 have i1:m_L12_Ints [0,2,5,7] [0,2,5,7] = some true:=by kernel_rfl
 have i2:m_L12_Ints [0,6] [0,6] = some true:=by kernel_rfl
 have n0:neB (0:Int) 0 = false:=by kernel_rfl
 have n5:neB (5:Int) 5 = false:=by kernel_rfl
 have n7:neB (7:Int) 7 = false:=by kernel_rfl
 have n1:neB (1:Int) 1 = false:=by kernel_rfl
 have e0:eqB (0:Int) 0 = true:=by kernel_rfl
 have e1:eqB (1:Int) 1 = true:=by kernel_rfl
 have e2:eqB (2:Int) 2 = true:=by kernel_rfl
 have e3:eqB (3:Int) 3 = true:=by kernel_rfl
 have e4:eqB (4:Int) 4 = true:=by kernel_rfl
 have e5:eqB (5:Int) 5 = true:=by kernel_rfl
 have e8:eqB (aX ([0,1,2,3,4,5,6,7]:List Int)) 8 = true:=by kernel_rfl
 have es:bT (eqS ([66,50,47,83,47,67,51]:List UInt8) ([66,50,47,83,47,67,51]:List UInt8)) = false:=by kernel_rfl
 simp only [m_L16_awake,p1,p2,c6,e7,p3,s3,p4,p5,k1,k2,k3,k4,k5,k6,i1,i2,n0,n5,n7,n1,e0,e1,e2,e3,e4,e5,e8,es,s1,s2,Option.bind_some,cond_true,cond_false]
theorem awake16:m_L16_awake = some true:=by
 obtain ⟨t3,h3,s3⟩:=pa3
 exact awake_of pa1 pa2 h3 pa4 pa5 pa6 pa7 (by kernel_rfl) (by kernel_rfl) (by kernel_rfl) (by kernel_rfl) (by kernel_rfl) (by kernel_rfl) ra_syms rb_syms s3
end Go.Proofs.YtlcdmiapdfdcaaaGreatDoor
namespace Go.Proofs.YtlcdmiapdfdcaaaGreatDoor
open Go.AM Go.Proofs
theorem grouplaw_true (t:Tree):m_L16_NotationGroup t = some true:=group_true awake16 t
end Go.Proofs.YtlcdmiapdfdcaaaGreatDoor
