/- Long loops, step by step, with the states between written out. -/
import Derived.Test.YtlcdmiapdfdcaaaGreatDoorMdx1
namespace Go.Proofs.YtlcdmiapdfdcaaaGreatDoor
open Go.AM Go.Proofs
def Run {S T:Type} (step:S->Option (Lp S T)) (k:Nat) (s:S) (t:T):Prop:=∀ n,aV step (n + k) s = some t
theorem run_out {S T:Type} {step:S->Option (Lp S T)} {s:S} {t:T} (h:step s = some (.out t)):Run step 1 s t:=fun n=>by
 show aV step (n + 1) s = some t
 simp only [aV,h]
theorem run_next {S T:Type} {step:S->Option (Lp S T)} {k:Nat} {s s':S} {t:T} (h:step s = some (.next s')) (r:Run step k s' t):Run step (k + 1) s t:=fun n=>by
 show aV step ((n + k) + 1) s = some t
 simp only [aV,h]
 exact r n
theorem Run.fin {S T:Type} {step:S->Option (Lp S T)} {k:Nat} {s:S} {t:T} (r:Run step k s t) (hk:k <= 1000):aV step b8 s = some t:=by
 have h:=r (b8 - k)
 rwa [Nat.sub_add_cancel (Nat.le_trans hk (by decide))] at h
def mkN:List Int->List Node
 | a :: b :: c :: r=>⟨a,[b,c]⟩ :: mkN r
 | _=>[]
def mkP:List Int->List Point
 | a :: b :: r=>⟨a,b⟩ :: mkP r
 | _=>[]
def itN {S T:Type} (step:S->Option (Lp S T)):Nat->S->Option S
 | 0,s=>some s
 | k + 1,s=>match step s with
  | some (.next s')=>itN step k s'
  | _=>none
theorem ri {S T:Type} {step:S->Option (Lp S T)} {m:Nat} {t:T}:∀ (k:Nat) {s:S} (s':S),itN step k s = some s'->Run step m s' t->Run step (m + k) s t
 | 0,s,s',h,r=>by cases h; exact r
 | k + 1,s,s',h,r=>by
  simp only [itN] at h
  split at h
  ·rename_i s1 h1
   exact run_next h1 (ri k s' h r)
  ·cases h
theorem rl {S T:Type} {step:S->Option (Lp S T)} {t:T}:∀ {k:Nat} {s:S},aV step k s = some t->Run step k s t
 | 0,s,h=>by cases h
 | k + 1,s,h=>fun n=>by
  show aV step ((n + k) + 1) s = some t
  simp only [aV] at h ⊢
  split at h
  ·exact rl h n
  ·cases h; rfl
  ·cases h
theorem turn2_next {y1:Int×(List Node)×(List Point)} {n n':List Node} {h h':List Point} {so:Bool} (e:aV (b_reduce_Turn_3 y1) b8 (true,1,n,h) = some (so,n',h')):b_reduce_Turn_2 y1 (false,n,h) = some (.next (so,n',h')):=by
 show (aV (b_reduce_Turn_3 y1) b8 (true,1,n,h)).bind _ = _
 rw [e]
 rfl
theorem turn2_out (y1:Int×(List Node)×(List Point)) (n:List Node) (h:List Point):b_reduce_Turn_2 y1 (true,n,h) = some (.out (n,h)):=rfl
theorem turn_is {k:Int} {t:Tree} {y:Int×(List Node)×(List Point)} {n0 n:List Node} {h0 h:List Point} (hr:m_tree_Right t = some true) (hw:m_reduce_Reduce_w t = some y) (hn:y.2.1 = n0) (ha:aV (b_reduce_Turn_1 k y) b8 (0,y.2.2) = some h0) (hb:aV (b_reduce_Turn_2 y) b8 (false,n0,h0) = some (n,h))
  (hs:m_reduce_sized ⟨y.1,h,n⟩ = some (⟨y.1,h,n⟩,0)):m_reduce_Turn k t = some (⟨y.1,h,n⟩,0):=by
 subst hn
 unfold m_reduce_Turn
 rw [hr]
 simp only [Option.bind_some,hw,ha,hb,hs,bT,Bool.not_true,cond_false]
end Go.Proofs.YtlcdmiapdfdcaaaGreatDoor
namespace Go.Proofs.YtlcdmiapdfdcaaaGreatDoor
open Go.AM Go.Proofs
set_option maxRecDepth 100000
def raT:Tree:=⟨2,(mkP [-1,-1,0,-1,1,-1,-1,0,0,0,1,0,-1,1,0,1,1,1]),(mkN [1,0,0,2,0,0,1,0,1,2,0,2,3,1,3,1,1,0,2,2,5,3,3,6,4,4,7,1,1,1,2,2,9,3,3,10,2,9,5,3,10,12,4,11,13,5,8,14,2,5,0,3,6,16,4,7,17,3,12,16,4,13,19,5,18,20,6,15,21,3,16,1,4,17,23,4,19,23,5,24,25,6,21,26,7,22,27,3,1,1,4,23,29,5,30,30,6,26,31,7,27,32,8,28,33,4,29,29,5,35,35,6,31,36,7,32,37,8,33,38,9,34,39])⟩
def ran:List Node:=(mkN [1,0,0,2,0,0,1,0,1,2,0,2,3,1,3,1,1,0,2,2,5,3,3,6,4,4,7,1,1,1,2,2,9,3,3,10,2,9,5,3,10,12,4,11,13,5,8,14,2,5,0,3,6,16,4,7,17,3,12,16,4,13,19,5,18,20,6,15,21,3,16,1,4,17,23,4,19,23,5,24,25,6,21,26,7,22,27,3,1,1,4,23,29,5,30,30,6,26,31,7,27,32,8,28,33,4,29,29,5,35,35,6,31,36,7,32,37,8,33,38,9,34,39])
def ray:Int×List Node×List Point:=(2,ran,(mkP [-1,-1,0,-1,1,-1,-1,0,0,0,1,0,-1,1,0,1,1,1]))
theorem rar:m_tree_Right raT = some true:=by kernel_rfl
theorem raw:m_reduce_Reduce_w raT = some ray:=by kernel_rfl
def rbT:Tree:=⟨2,(mkP [-1,-1,0,-1,-1,0,0,0,1,0,0,1,1,1]),(mkN [1,0,0,1,0,1,2,0,1,1,1,0,2,1,3,3,2,4,2,0,0,3,6,2,4,5,7,2,3,0,3,4,9,1,1,1,2,1,11,3,2,12,4,10,13,5,8,14,3,9,6,2,11,3,3,12,17,4,16,18,5,14,19,6,15,20,3,6,6,3,17,9,4,22,23,5,19,24,6,20,25,7,21,26])⟩
def rbn:List Node:=(mkN [1,0,0,1,0,1,2,0,1,1,1,0,2,1,3,3,2,4,2,0,0,3,6,2,4,5,7,2,3,0,3,4,9,1,1,1,2,1,11,3,2,12,4,10,13,5,8,14,3,9,6,2,11,3,3,12,17,4,16,18,5,14,19,6,15,20,3,6,6,3,17,9,4,22,23,5,19,24,6,20,25,7,21,26])
def rby:Int×List Node×List Point:=(2,rbn,(mkP [-1,-1,0,-1,-1,0,0,0,1,0,0,1,1,1]))
theorem rbr:m_tree_Right rbT = some true:=by kernel_rfl
theorem rbw:m_reduce_Reduce_w rbT = some rby:=by kernel_rfl
end Go.Proofs.YtlcdmiapdfdcaaaGreatDoor
