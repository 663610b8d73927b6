/- Long loops, step by step, with the states between written out. -/
import Derived.Test.YtlifofijgddjkabGreatDoorExx1
namespace Go.Proofs.YtlifofijgddjkabGreatDoor
open Go.AM Go.Proofs
def Run {S T:Type} (step:S->Option (Lp S T)) (k:Nat) (s:S) (t:T):Prop:=∀ n,aT step (n+k) s=some t
theorem Run.fin {S T:Type} {step:S->Option (Lp S T)} {k:Nat} {s:S} {t:T} (r:Run step k s t) (hk:k<=1000):aT step b7 s=some t:=by
 have h:=r (b7 - k)
 rwa [Nat.sub_add_cancel (Nat.le_trans hk (by decide))] at h
def mkN:List Int->List Node
 | a::b::c::r=>⟨a,[b,c]⟩::mkN r
 | _=>[]
def mkP:List Int->List Point
 | a::b::r=>⟨a,b⟩::mkP r
 | _=>[]
end Go.Proofs.YtlifofijgddjkabGreatDoor
namespace Go.Proofs.YtlifofijgddjkabGreatDoor
open Go.AM Go.Proofs
set_option maxRecDepth 100000
def raT:Tree:=⟨2,(mkP [-1,-1,0,-1,1,-1,-1,0,0,0,1,0,-1,1,0,1,1,1]),(mkN [1,0,0,2,0,0,1,0,1,2,0,2,3,1,3,1,1,0,2,2,5,3,3,6,4,4,7,1,1,1,2,2,9,3,3,10,2,9,5,3,10,12,4,11,13,5,8,14,2,5,0,3,6,16,4,7,17,3,12,16,4,13,19,5,18,20,6,15,21,3,16,1,4,17,23,4,19,23,5,24,25,6,21,26,7,22,27,3,1,1,4,23,29,5,30,30,6,26,31,7,27,32,8,28,33,4,29,29,5,35,35,6,31,36,7,32,37,8,33,38,9,34,39])⟩
def rbT:Tree:=⟨2,(mkP [-1,-1,0,-1,-1,0,0,0,1,0,0,1,1,1]),(mkN [1,0,0,1,0,1,2,0,1,1,1,0,2,1,3,3,2,4,2,0,0,3,6,2,4,5,7,2,3,0,3,4,9,1,1,1,2,1,11,3,2,12,4,10,13,5,8,14,3,9,6,2,11,3,3,12,17,4,16,18,5,14,19,6,15,20,3,6,6,3,17,9,4,22,23,5,19,24,6,20,25,7,21,26])⟩
end Go.Proofs.YtlifofijgddjkabGreatDoor
namespace Go.Proofs.YtlifofijgddjkabGreatDoor
open Go.AM Go.Proofs
set_option maxRecDepth 100000
theorem ra_syms:m_notation_Syms raT=some [0,1,2,3,4,5,6,7]:=(syms_chk (by kernel_rfl) (by decide)).trans (by kernel_rfl)
theorem rb_syms:m_notation_Syms rbT=some [0,2,5,7]:=(syms_chk (by kernel_rfl) (by decide)).trans (by kernel_rfl)
theorem pa1:m_notation_Parse ([66,51,47,83,50,51]:List UInt8)=some (raT,0):=by kernel_rfl
theorem pa2:m_notation_Parse ([66,50,47,83,51,52,72]:List UInt8)=some (rbT,0):=by kernel_rfl
theorem pa3:∃ t,m_notation_Parse ([87,49,49,48]:List UInt8)=some (t,0)/\m_notation_Syms t=some [0,6]:=by
 have h1:(m_notation_Parse ([87,49,49,48]:List UInt8)).map (fun y=>y.2)=some 0:=by kernel_rfl
 have h2:(m_notation_Parse ([87,49,49,48]:List UInt8)).bind (fun y=>m_notation_Syms y.1)=some [0,6]:=by kernel_rfl
 revert h1 h2
 cases m_notation_Parse ([87,49,49,48]:List UInt8) with
 | none=>intro h1; cases h1
 | some y =>
  intro h1 h2
  exact⟨y.1,by rw[show y=(y.1,y.2) from rfl,show y.2=0 from by simpa using h1],h2⟩
theorem pa4:m_notation_Parse ([66,57,47,83]:List UInt8)=some (⟨0,[],[]⟩,5):=by kernel_rfl
theorem pa5:m_notation_Parse ([108,105,102,101]:List UInt8)=some (⟨0,[],[]⟩,7):=by kernel_rfl
theorem pa6:m_notation_Canon ([47,50,47,51]:List UInt8)=some ([66,50,47,83,47,67,51],0):=by kernel_rfl
theorem pa7:m_tree_Eval raT [1,1,1,0,0,0,0,0,0]=some (1,0):=by kernel_rfl
theorem awake_of {T1 T2 T3 T4 T5:Tree} (p1:m_notation_Parse ([66,51,47,83,50,51]:List UInt8)=some (T1,0)) (p2:m_notation_Parse ([66,50,47,83,51,52,72]:List UInt8)=some (T2,0)) (p3:m_notation_Parse ([87,49,49,48]:List UInt8)=some (T3,0))
  (p4:m_notation_Parse ([66,57,47,83]:List UInt8)=some (T4,5)) (p5:m_notation_Parse ([108,105,102,101]:List UInt8)=some (T5,7)) (c6:m_notation_Canon ([47,50,47,51]:List UInt8)=some ([66,50,47,83,47,67,51],0)) (e7:m_tree_Eval T1 [1,1,1,0,0,0,0,0,0]=some (1,0))
  (k1:m_notation_Kind ([66,51,47,83,50,51]:List UInt8)=some 1) (k2:m_notation_Kind ([47,50,47,51]:List UInt8)=some 2) (k3:m_notation_Kind ([87,51,48]:List UInt8)=some 3) (k4:m_notation_Kind ([84,55,55,55,47,51]:List UInt8)=some 4) (k5:m_notation_Kind ([98,51,47,115,50,51]:List UInt8)=some 0) (k6:m_notation_Kind ([120,10]:List UInt8)=some 5)
  (s1:m_notation_Syms T1=some [0,1,2,3,4,5,6,7]) (s2:m_notation_Syms T2=some [0,2,5,7]) (s3:m_notation_Syms T3=some [0,6]):m_L16_awake=some true:=by
 have i1:m_L12_Ints [0,2,5,7] [0,2,5,7]=some true:=by kernel_rfl
 have i2:m_L12_Ints [0,6] [0,6]=some true:=by kernel_rfl
 have n0:neB (0:Int) 0=false:=by kernel_rfl
 have n5:neB (5:Int) 5=false:=by kernel_rfl
 have n7:neB (7:Int) 7=false:=by kernel_rfl
 have n1:neB (1:Int) 1=false:=by kernel_rfl
 have e0:eqB (0:Int) 0=true:=by kernel_rfl
 have e1:eqB (1:Int) 1=true:=by kernel_rfl
 have e2:eqB (2:Int) 2=true:=by kernel_rfl
 have e3:eqB (3:Int) 3=true:=by kernel_rfl
 have e4:eqB (4:Int) 4=true:=by kernel_rfl
 have e5:eqB (5:Int) 5=true:=by kernel_rfl
 have e8:eqB (aO ([0,1,2,3,4,5,6,7]:List Int)) 8=true:=by kernel_rfl
 have es:ba (eqS ([66,50,47,83,47,67,51]:List UInt8) ([66,50,47,83,47,67,51]:List UInt8))=false:=by kernel_rfl
 simp only[m_L16_awake,p1,p2,c6,e7,p3,s3,p4,p5,k1,k2,k3,k4,k5,k6,i1,i2,n0,n5,n7,n1,e0,e1,e2,e3,e4,e5,e8,es,s1,s2,Option.bind_some,cond_true,cond_false]
theorem awake16:m_L16_awake=some true:=by
 obtain⟨t3,h3,s3⟩:=pa3
 exact awake_of pa1 pa2 h3 pa4 pa5 pa6 pa7 (by kernel_rfl) (by kernel_rfl) (by kernel_rfl) (by kernel_rfl) (by kernel_rfl) (by kernel_rfl) ra_syms rb_syms s3
end Go.Proofs.YtlifofijgddjkabGreatDoor
