/- Nrb0 -/
import Derived.Test.YtlcdmiapdfdcaaaGreatDoorNrx1
namespace Go.Proofs.YtlcdmiapdfdcaaaGreatDoor
open Go.AM Go.Proofs
set_option maxRecDepth 100000
abbrev rb_0y:=rby
abbrev rb_0n0:=rbn
def rb_0h0:List Point:=(mkP [-1,-1,0,-1,-1,0,0,0,1,0,0,1,1,1])
theorem rb_0a:aV (b_reduce_Turn_1 0 rb_0y) b8 (0,rb_0y.2.2) = some rb_0h0:=by kernel_rfl
abbrev rb_0n1:=rb_0n0
abbrev rb_0h1:=rb_0h0
theorem rb_0p0:aV (b_reduce_Turn_3 rb_0y) b8 (true,1,rb_0n0,rb_0h0) = some (true,rb_0n1,rb_0h1):=Run.fin (rl (k:=40) (by kernel_rfl)) (by decide)
theorem rb_0b:aV (b_reduce_Turn_2 rb_0y) b8 (false,rb_0n0,rb_0h0) = some (rb_0n1,rb_0h1):=Run.fin (run_next (turn2_next rb_0p0) (run_out (turn2_out rb_0y rb_0n1 rb_0h1))) (by decide)
theorem rb_0t:m_reduce_Turn 0 rbT = some (⟨2,rb_0h1,rb_0n1⟩,0):=turn_is rbr rbw rfl rb_0a rb_0b (by kernel_rfl)
theorem rb_0e:m_reduce_Equal rbT ⟨2,rb_0h1,rb_0n1⟩ = some true:=by kernel_rfl
end Go.Proofs.YtlcdmiapdfdcaaaGreatDoor
namespace Go.Proofs.YtlcdmiapdfdcaaaGreatDoor
open Go.AM Go.Proofs
set_option maxRecDepth 100000
abbrev rb_1y:=rby
abbrev rb_1n0:=rbn
def rb_1h0:List Point:=(mkP [1,-1,1,0,0,-1,0,0,0,1,-1,0,-1,1])
theorem rb_1a:aV (b_reduce_Turn_1 1 rb_1y) b8 (0,rb_1y.2.2) = some rb_1h0:=by kernel_rfl
def rb_1n1:List Node:=(mkN [1,0,0,1,0,1,2,0,1,1,1,0,2,1,3,3,2,4,2,3,0,3,4,6,4,5,7,2,0,0,3,9,2,1,1,1,2,1,11,3,2,12,4,10,13,5,8,14,3,6,9,4,7,16,2,11,3,3,12,18,4,13,19,5,17,20,6,15,21,3,9,9,4,16,23,3,18,6,4,19,25,5,24,26,6,21,27,7,22,28])
def rb_1h1:List Point:=(mkP [1,-1,0,-1,0,0,1,0,-1,0,-1,1,0,1])
theorem rb_1p0:aV (b_reduce_Turn_3 rb_1y) b8 (true,1,rb_1n0,rb_1h0) = some (false,rb_1n1,rb_1h1):=Run.fin (ri 3 (false,4,(mkN [1,0,0,1,0,1,2,0,1,1,1,0,2,1,3,3,2,4,2,3,0,3,4,6,4,5,7,2,0,0,3,9,2,1,1,1,2,1,11,3,2,12,4,10,13,5,8,14,3,6,9,4,7,16,2,11,3,3,12,18,4,13,19,5,17,20,6,15,21,3,9,9,4,16,23,3,18,6,4,19,25,5,24,26,6,21,27,7,22,28]),(mkP [1,-1,0,-1,0,0,1,0,0,1,-1,0,-1,1])) (by kernel_rfl)
 (ri 3 (false,7,(mkN [1,0,0,1,0,1,2,0,1,1,1,0,2,1,3,3,2,4,2,3,0,3,4,6,4,5,7,2,0,0,3,9,2,1,1,1,2,1,11,3,2,12,4,10,13,5,8,14,3,6,9,4,7,16,2,11,3,3,12,18,4,13,19,5,17,20,6,15,21,3,9,9,4,16,23,3,18,6,4,19,25,5,24,26,6,21,27,7,22,28]),(mkP [1,-1,0,-1,0,0,1,0,-1,0,-1,1,0,1])) (by kernel_rfl)
 (rl (k:=40) (by kernel_rfl)))) (by decide)
def rb_1n2:List Node:=(mkN [1,0,0,1,0,1,2,0,1,1,1,0,2,1,3,3,2,4,2,3,0,3,4,6,4,5,7,2,0,0,3,9,2,1,1,1,2,1,11,3,2,12,4,10,13,5,8,14,3,6,9,4,7,16,2,11,3,3,12,18,4,13,19,5,17,20,6,15,21,3,9,9,4,16,23,3,18,6,4,19,25,5,24,26,6,21,27,7,22,28])
def rb_1h2:List Point:=(mkP [0,-1,1,-1,0,0,-1,0,1,0,-1,1,0,1])
theorem rb_1p1:aV (b_reduce_Turn_3 rb_1y) b8 (true,1,rb_1n1,rb_1h1) = some (false,rb_1n2,rb_1h2):=Run.fin (ri 4 (false,5,(mkN [1,0,0,1,0,1,2,0,1,1,1,0,2,1,3,3,2,4,2,3,0,3,4,6,4,5,7,2,0,0,3,9,2,1,1,1,2,1,11,3,2,12,4,10,13,5,8,14,3,6,9,4,7,16,2,11,3,3,12,18,4,13,19,5,17,20,6,15,21,3,9,9,4,16,23,3,18,6,4,19,25,5,24,26,6,21,27,7,22,28]),(mkP [0,-1,1,-1,0,0,-1,0,1,0,-1,1,0,1])) (by kernel_rfl)
 (rl (k:=40) (by kernel_rfl))) (by decide)
def rb_1n3:List Node:=(mkN [1,0,0,1,0,1,2,0,1,1,1,0,2,1,3,3,2,4,2,0,0,3,6,2,4,5,7,2,3,0,3,4,9,1,1,1,2,1,11,3,2,12,4,10,13,5,8,14,3,9,6,2,11,3,3,12,17,4,16,18,5,14,19,6,15,20,3,6,6,3,17,9,4,22,23,5,19,24,6,20,25,7,21,26])
def rb_1h3:List Point:=(mkP [0,-1,1,-1,-1,0,0,0,1,0,-1,1,0,1])
theorem rb_1p2:aV (b_reduce_Turn_3 rb_1y) b8 (true,1,rb_1n2,rb_1h2) = some (false,rb_1n3,rb_1h3):=Run.fin (rl (k:=40) (by kernel_rfl)) (by decide)
abbrev rb_1n4:=rb_1n3
abbrev rb_1h4:=rb_1h3
theorem rb_1p3:aV (b_reduce_Turn_3 rb_1y) b8 (true,1,rb_1n3,rb_1h3) = some (true,rb_1n4,rb_1h4):=Run.fin (rl (k:=40) (by kernel_rfl)) (by decide)
theorem rb_1b:aV (b_reduce_Turn_2 rb_1y) b8 (false,rb_1n0,rb_1h0) = some (rb_1n4,rb_1h4):=Run.fin (run_next (turn2_next rb_1p0) (run_next (turn2_next rb_1p1) (run_next (turn2_next rb_1p2) (run_next (turn2_next rb_1p3) (run_out (turn2_out rb_1y rb_1n4 rb_1h4)))))) (by decide)
theorem rb_1t:m_reduce_Turn 1 rbT = some (⟨2,rb_1h4,rb_1n4⟩,0):=turn_is rbr rbw rfl rb_1a rb_1b (by kernel_rfl)
theorem rb_1e:m_reduce_Equal rbT ⟨2,rb_1h4,rb_1n4⟩ = some false:=by kernel_rfl
end Go.Proofs.YtlcdmiapdfdcaaaGreatDoor
namespace Go.Proofs.YtlcdmiapdfdcaaaGreatDoor
open Go.AM Go.Proofs
set_option maxRecDepth 100000
abbrev rb_2y:=rby
abbrev rb_2n0:=rbn
def rb_2h0:List Point:=(mkP [1,1,0,1,1,0,0,0,-1,0,0,-1,-1,-1])
theorem rb_2a:aV (b_reduce_Turn_1 2 rb_2y) b8 (0,rb_2y.2.2) = some rb_2h0:=by kernel_rfl
def rb_2n1:List Node:=(mkN [1,0,0,1,0,1,2,0,1,1,1,0,2,1,3,3,2,4,2,3,0,3,4,6,4,5,7,2,0,0,3,9,2,1,1,1,2,1,11,3,2,12,4,10,13,5,8,14,3,6,9,4,7,16,2,11,3,3,12,18,4,13,19,5,17,20,6,15,21,3,9,9,4,16,23,3,18,6,4,19,25,5,24,26,6,21,27,7,22,28])
def rb_2h1:List Point:=(mkP [0,1,1,0,0,0,-1,0,0,-1,-1,-1,1,1])
theorem rb_2p0:aV (b_reduce_Turn_3 rb_2y) b8 (true,1,rb_2n0,rb_2h0) = some (false,rb_2n1,rb_2h1):=Run.fin (ri 2 (false,3,(mkN [1,0,0,1,0,1,2,0,1,1,1,0,2,1,3,3,2,4,2,0,0,3,6,2,4,5,7,2,3,0,3,4,9,1,1,1,2,1,11,3,2,12,4,10,13,5,8,14,3,9,6,2,11,3,3,12,17,4,16,18,5,14,19,6,15,20,3,6,6,3,17,9,4,22,23,5,19,24,6,20,25,7,21,26]),(mkP [0,1,1,0,1,1,0,0,-1,0,0,-1,-1,-1])) (by kernel_rfl)
 (ri 2 (false,5,(mkN [1,0,0,1,0,1,2,0,1,1,1,0,2,1,3,3,2,4,2,3,0,3,4,6,4,5,7,2,0,0,3,9,2,1,1,1,2,1,11,3,2,12,4,10,13,5,8,14,3,6,9,4,7,16,2,11,3,3,12,18,4,13,19,5,17,20,6,15,21,3,9,9,4,16,23,3,18,6,4,19,25,5,24,26,6,21,27,7,22,28]),(mkP [0,1,1,0,0,0,-1,0,1,1,0,-1,-1,-1])) (by kernel_rfl)
 (ri 2 (false,7,(mkN [1,0,0,1,0,1,2,0,1,1,1,0,2,1,3,3,2,4,2,3,0,3,4,6,4,5,7,2,0,0,3,9,2,1,1,1,2,1,11,3,2,12,4,10,13,5,8,14,3,6,9,4,7,16,2,11,3,3,12,18,4,13,19,5,17,20,6,15,21,3,9,9,4,16,23,3,18,6,4,19,25,5,24,26,6,21,27,7,22,28]),(mkP [0,1,1,0,0,0,-1,0,0,-1,-1,-1,1,1])) (by kernel_rfl)
 (rl (k:=40) (by kernel_rfl))))) (by decide)
def rb_2n2:List Node:=(mkN [1,0,0,1,0,1,2,0,1,1,1,0,2,1,3,3,2,4,2,3,0,3,4,6,4,5,7,2,0,0,3,6,9,4,7,10,5,8,11,3,9,2,1,1,1,2,1,14,3,2,15,4,13,16,2,14,3,3,15,18,4,16,19,5,17,20,6,12,21,3,9,9,4,10,23,5,11,24,3,18,6,4,19,26,5,20,27,6,25,28,7,22,29])
def rb_2h2:List Point:=(mkP [1,0,0,0,-1,0,0,-1,-1,-1,0,1,1,1])
theorem rb_2p1:aV (b_reduce_Turn_3 rb_2y) b8 (true,1,rb_2n1,rb_2h1) = some (false,rb_2n2,rb_2h2):=Run.fin (ri 2 (false,3,(mkN [1,0,0,1,0,1,2,0,1,1,1,0,2,1,3,3,2,4,2,3,0,3,4,6,4,5,7,2,0,0,3,6,9,4,7,10,5,8,11,3,9,2,1,1,1,2,1,14,3,2,15,4,13,16,2,14,3,3,15,18,4,16,19,5,17,20,6,12,21,3,9,9,4,10,23,5,11,24,3,18,6,4,19,26,5,20,27,6,25,28,7,22,29]),(mkP [1,0,0,0,0,1,-1,0,0,-1,-1,-1,1,1])) (by kernel_rfl)
 (ri 2 (false,5,(mkN [1,0,0,1,0,1,2,0,1,1,1,0,2,1,3,3,2,4,2,3,0,3,4,6,4,5,7,2,0,0,3,6,9,4,7,10,5,8,11,3,9,2,1,1,1,2,1,14,3,2,15,4,13,16,2,14,3,3,15,18,4,16,19,5,17,20,6,12,21,3,9,9,4,10,23,5,11,24,3,18,6,4,19,26,5,20,27,6,25,28,7,22,29]),(mkP [1,0,0,0,-1,0,0,-1,0,1,-1,-1,1,1])) (by kernel_rfl)
 (rl (k:=40) (by kernel_rfl)))) (by decide)
def rb_2n3:List Node:=(mkN [1,0,0,1,0,1,2,0,1,1,1,0,2,1,3,3,2,4,2,3,0,3,4,6,4,5,7,2,0,0,3,6,9,4,7,10,5,8,11,3,9,9,4,10,13,5,11,14,6,12,15,3,9,2,1,1,1,2,1,18,3,2,19,4,17,20,2,18,3,3,19,22,4,20,23,5,21,24,3,22,6,4,23,26,5,24,27,6,25,28,7,16,29])
def rb_2h3:List Point:=(mkP [0,0,-1,0,0,-1,-1,-1,1,0,0,1,1,1])
theorem rb_2p2:aV (b_reduce_Turn_3 rb_2y) b8 (true,1,rb_2n2,rb_2h2) = some (false,rb_2n3,rb_2h3):=Run.fin (ri 2 (false,3,(mkN [1,0,0,1,0,1,2,0,1,1,1,0,2,1,3,3,2,4,2,3,0,3,4,6,4,5,7,2,0,0,3,6,9,4,7,10,5,8,11,3,9,9,4,10,13,5,11,14,6,12,15,3,9,2,1,1,1,2,1,18,3,2,19,4,17,20,2,18,3,3,19,22,4,20,23,5,21,24,3,22,6,4,23,26,5,24,27,6,25,28,7,16,29]),(mkP [0,0,-1,0,1,0,0,-1,-1,-1,0,1,1,1])) (by kernel_rfl)
 (ri 2 (false,5,(mkN [1,0,0,1,0,1,2,0,1,1,1,0,2,1,3,3,2,4,2,3,0,3,4,6,4,5,7,2,0,0,3,6,9,4,7,10,5,8,11,3,9,9,4,10,13,5,11,14,6,12,15,3,9,2,1,1,1,2,1,18,3,2,19,4,17,20,2,18,3,3,19,22,4,20,23,5,21,24,3,22,6,4,23,26,5,24,27,6,25,28,7,16,29]),(mkP [0,0,-1,0,0,-1,-1,-1,1,0,0,1,1,1])) (by kernel_rfl)
 (rl (k:=40) (by kernel_rfl)))) (by decide)
def rb_2n4:List Node:=(mkN [1,0,0,1,0,1,2,0,1,1,1,0,2,1,3,3,2,4,2,0,0,3,6,2,4,5,7,2,3,0,3,4,9,1,1,1,2,1,11,3,2,12,4,10,13,5,8,14,3,9,6,2,11,3,3,12,17,4,16,18,5,14,19,6,15,20,3,6,6,3,17,9,4,22,23,5,19,24,6,20,25,7,21,26])
def rb_2h4:List Point:=(mkP [-1,0,0,-1,-1,-1,0,0,1,0,0,1,1,1])
theorem rb_2p3:aV (b_reduce_Turn_3 rb_2y) b8 (true,1,rb_2n3,rb_2h3) = some (false,rb_2n4,rb_2h4):=Run.fin (ri 2 (false,3,(mkN [1,0,0,1,0,1,2,0,1,1,1,0,2,1,3,3,2,4,2,3,0,3,4,6,4,5,7,2,0,0,3,9,2,1,1,1,2,1,11,3,2,12,4,10,13,5,8,14,3,6,9,4,7,16,2,11,3,3,12,18,4,13,19,5,17,20,6,15,21,3,9,9,4,16,23,3,18,6,4,19,25,5,24,26,6,21,27,7,22,28]),(mkP [-1,0,0,-1,0,0,-1,-1,1,0,0,1,1,1])) (by kernel_rfl)
 (rl (k:=40) (by kernel_rfl))) (by decide)
def rb_2n5:List Node:=(mkN [1,0,0,1,0,1,2,0,1,1,1,0,2,1,3,3,2,4,2,0,0,3,6,2,4,5,7,2,3,0,3,4,9,1,1,1,2,1,11,3,2,12,4,10,13,5,8,14,3,9,6,2,11,3,3,12,17,4,16,18,5,14,19,6,15,20,3,6,6,3,17,9,4,22,23,5,19,24,6,20,25,7,21,26])
def rb_2h5:List Point:=(mkP [0,-1,-1,-1,-1,0,0,0,1,0,0,1,1,1])
theorem rb_2p4:aV (b_reduce_Turn_3 rb_2y) b8 (true,1,rb_2n4,rb_2h4) = some (false,rb_2n5,rb_2h5):=Run.fin (ri 2 (false,3,(mkN [1,0,0,1,0,1,2,0,1,1,1,0,2,1,3,3,2,4,2,0,0,3,6,2,4,5,7,2,3,0,3,4,9,1,1,1,2,1,11,3,2,12,4,10,13,5,8,14,3,9,6,2,11,3,3,12,17,4,16,18,5,14,19,6,15,20,3,6,6,3,17,9,4,22,23,5,19,24,6,20,25,7,21,26]),(mkP [0,-1,-1,-1,-1,0,0,0,1,0,0,1,1,1])) (by kernel_rfl)
 (rl (k:=40) (by kernel_rfl))) (by decide)
def rb_2n6:List Node:=(mkN [1,0,0,1,0,1,2,0,1,1,1,0,2,1,3,3,2,4,2,0,0,3,6,2,4,5,7,2,3,0,3,4,9,1,1,1,2,1,11,3,2,12,4,10,13,5,8,14,3,9,6,2,11,3,3,12,17,4,16,18,5,14,19,6,15,20,3,6,6,3,17,9,4,22,23,5,19,24,6,20,25,7,21,26])
def rb_2h6:List Point:=(mkP [-1,-1,0,-1,-1,0,0,0,1,0,0,1,1,1])
theorem rb_2p5:aV (b_reduce_Turn_3 rb_2y) b8 (true,1,rb_2n5,rb_2h5) = some (false,rb_2n6,rb_2h6):=Run.fin (rl (k:=40) (by kernel_rfl)) (by decide)
abbrev rb_2n7:=rb_2n6
abbrev rb_2h7:=rb_2h6
theorem rb_2p6:aV (b_reduce_Turn_3 rb_2y) b8 (true,1,rb_2n6,rb_2h6) = some (true,rb_2n7,rb_2h7):=Run.fin (rl (k:=40) (by kernel_rfl)) (by decide)
theorem rb_2b:aV (b_reduce_Turn_2 rb_2y) b8 (false,rb_2n0,rb_2h0) = some (rb_2n7,rb_2h7):=Run.fin (run_next (turn2_next rb_2p0) (run_next (turn2_next rb_2p1) (run_next (turn2_next rb_2p2) (run_next (turn2_next rb_2p3) (run_next (turn2_next rb_2p4) (run_next (turn2_next rb_2p5) (run_next (turn2_next rb_2p6) (run_out (turn2_out rb_2y rb_2n7 rb_2h7))))))))) (by decide)
theorem rb_2t:m_reduce_Turn 2 rbT = some (⟨2,rb_2h7,rb_2n7⟩,0):=turn_is rbr rbw rfl rb_2a rb_2b (by kernel_rfl)
theorem rb_2e:m_reduce_Equal rbT ⟨2,rb_2h7,rb_2n7⟩ = some true:=by kernel_rfl
end Go.Proofs.YtlcdmiapdfdcaaaGreatDoor
namespace Go.Proofs.YtlcdmiapdfdcaaaGreatDoor
open Go.AM Go.Proofs
set_option maxRecDepth 100000
abbrev rb_3y:=rby
abbrev rb_3n0:=rbn
def rb_3h0:List Point:=(mkP [-1,1,-1,0,0,1,0,0,0,-1,1,0,1,-1])
theorem rb_3a:aV (b_reduce_Turn_1 3 rb_3y) b8 (0,rb_3y.2.2) = some rb_3h0:=by kernel_rfl
def rb_3n1:List Node:=(mkN [1,0,0,1,0,1,2,0,1,1,1,0,2,1,3,3,2,4,2,3,0,3,4,6,4,5,7,2,0,0,3,9,2,1,1,1,2,1,11,3,2,12,4,10,13,5,8,14,3,6,9,4,7,16,2,11,3,3,12,18,4,13,19,5,17,20,6,15,21,3,9,9,4,16,23,3,18,6,4,19,25,5,24,26,6,21,27,7,22,28])
def rb_3h1:List Point:=(mkP [-1,0,-1,1,0,0,0,-1,1,0,1,-1,0,1])
theorem rb_3p0:aV (b_reduce_Turn_3 rb_3y) b8 (true,1,rb_3n0,rb_3h0) = some (false,rb_3n1,rb_3h1):=Run.fin (ri 3 (false,4,(mkN [1,0,0,1,0,1,2,0,1,1,1,0,2,1,3,3,2,4,2,3,0,3,4,6,4,5,7,2,0,0,3,9,2,1,1,1,2,1,11,3,2,12,4,10,13,5,8,14,3,6,9,4,7,16,2,11,3,3,12,18,4,13,19,5,17,20,6,15,21,3,9,9,4,16,23,3,18,6,4,19,25,5,24,26,6,21,27,7,22,28]),(mkP [-1,0,-1,1,0,0,0,1,0,-1,1,0,1,-1])) (by kernel_rfl)
 (ri 2 (false,6,(mkN [1,0,0,1,0,1,2,0,1,1,1,0,2,1,3,3,2,4,2,3,0,3,4,6,4,5,7,2,0,0,3,9,2,1,1,1,2,1,11,3,2,12,4,10,13,5,8,14,3,6,9,4,7,16,2,11,3,3,12,18,4,13,19,5,17,20,6,15,21,3,9,9,4,16,23,3,18,6,4,19,25,5,24,26,6,21,27,7,22,28]),(mkP [-1,0,-1,1,0,0,0,-1,1,0,0,1,1,-1])) (by kernel_rfl)
 (rl (k:=40) (by kernel_rfl)))) (by decide)
def rb_3n2:List Node:=(mkN [1,0,0,1,0,1,2,0,1,1,1,0,2,1,3,3,2,4,2,3,0,3,4,6,4,5,7,2,0,0,3,6,9,4,7,10,5,8,11,3,9,2,1,1,1,2,1,14,3,2,15,4,13,16,2,14,3,3,15,18,4,16,19,5,17,20,6,12,21,3,9,9,4,10,23,5,11,24,3,18,6,4,19,26,5,20,27,6,25,28,7,22,29])
def rb_3h2:List Point:=(mkP [-1,0,0,0,0,-1,1,0,1,-1,-1,1,0,1])
theorem rb_3p1:aV (b_reduce_Turn_3 rb_3y) b8 (true,1,rb_3n1,rb_3h1) = some (false,rb_3n2,rb_3h2):=Run.fin (ri 3 (false,4,(mkN [1,0,0,1,0,1,2,0,1,1,1,0,2,1,3,3,2,4,2,3,0,3,4,6,4,5,7,2,0,0,3,6,9,4,7,10,5,8,11,3,9,2,1,1,1,2,1,14,3,2,15,4,13,16,2,14,3,3,15,18,4,16,19,5,17,20,6,12,21,3,9,9,4,10,23,5,11,24,3,18,6,4,19,26,5,20,27,6,25,28,7,22,29]),(mkP [-1,0,0,0,0,-1,-1,1,1,0,1,-1,0,1])) (by kernel_rfl)
 (ri 2 (false,6,(mkN [1,0,0,1,0,1,2,0,1,1,1,0,2,1,3,3,2,4,2,3,0,3,4,6,4,5,7,2,0,0,3,6,9,4,7,10,5,8,11,3,9,2,1,1,1,2,1,14,3,2,15,4,13,16,2,14,3,3,15,18,4,16,19,5,17,20,6,12,21,3,9,9,4,10,23,5,11,24,3,18,6,4,19,26,5,20,27,6,25,28,7,22,29]),(mkP [-1,0,0,0,0,-1,1,0,1,-1,-1,1,0,1])) (by kernel_rfl)
 (rl (k:=40) (by kernel_rfl)))) (by decide)
def rb_3n3:List Node:=(mkN [1,0,0,1,0,1,2,0,1,1,1,0,2,1,3,3,2,4,2,3,0,3,4,6,4,5,7,2,0,0,3,9,2,1,1,1,2,1,11,3,2,12,4,10,13,5,8,14,3,6,9,4,7,16,2,11,3,3,12,18,4,13,19,5,17,20,6,15,21,3,9,9,4,16,23,3,18,6,4,19,25,5,24,26,6,21,27,7,22,28])
def rb_3h3:List Point:=(mkP [-1,0,0,-1,0,0,1,-1,1,0,-1,1,0,1])
theorem rb_3p2:aV (b_reduce_Turn_3 rb_3y) b8 (true,1,rb_3n2,rb_3h2) = some (false,rb_3n3,rb_3h3):=Run.fin (ri 4 (false,5,(mkN [1,0,0,1,0,1,2,0,1,1,1,0,2,1,3,3,2,4,2,3,0,3,4,6,4,5,7,2,0,0,3,9,2,1,1,1,2,1,11,3,2,12,4,10,13,5,8,14,3,6,9,4,7,16,2,11,3,3,12,18,4,13,19,5,17,20,6,15,21,3,9,9,4,16,23,3,18,6,4,19,25,5,24,26,6,21,27,7,22,28]),(mkP [-1,0,0,-1,0,0,1,-1,1,0,-1,1,0,1])) (by kernel_rfl)
 (rl (k:=40) (by kernel_rfl))) (by decide)
def rb_3n4:List Node:=(mkN [1,0,0,1,0,1,2,0,1,1,1,0,2,1,3,3,2,4,2,0,0,3,6,2,4,5,7,2,3,0,3,4,9,1,1,1,2,1,11,3,2,12,4,10,13,5,8,14,3,9,6,2,11,3,3,12,17,4,16,18,5,14,19,6,15,20,3,6,6,3,17,9,4,22,23,5,19,24,6,20,25,7,21,26])
def rb_3h4:List Point:=(mkP [0,-1,-1,0,1,-1,0,0,1,0,-1,1,0,1])
theorem rb_3p3:aV (b_reduce_Turn_3 rb_3y) b8 (true,1,rb_3n3,rb_3h3) = some (false,rb_3n4,rb_3h4):=Run.fin (ri 3 (false,4,(mkN [1,0,0,1,0,1,2,0,1,1,1,0,2,1,3,3,2,4,2,0,0,3,6,2,4,5,7,2,3,0,3,4,9,1,1,1,2,1,11,3,2,12,4,10,13,5,8,14,3,9,6,2,11,3,3,12,17,4,16,18,5,14,19,6,15,20,3,6,6,3,17,9,4,22,23,5,19,24,6,20,25,7,21,26]),(mkP [0,-1,-1,0,1,-1,0,0,1,0,-1,1,0,1])) (by kernel_rfl)
 (rl (k:=40) (by kernel_rfl))) (by decide)
def rb_3n5:List Node:=(mkN [1,0,0,1,0,1,2,0,1,1,1,0,2,1,3,3,2,4,2,0,0,3,6,2,4,5,7,2,3,0,3,4,9,1,1,1,2,1,11,3,2,12,4,10,13,5,8,14,3,9,6,2,11,3,3,12,17,4,16,18,5,14,19,6,15,20,3,6,6,3,17,9,4,22,23,5,19,24,6,20,25,7,21,26])
def rb_3h5:List Point:=(mkP [0,-1,1,-1,-1,0,0,0,1,0,-1,1,0,1])
theorem rb_3p4:aV (b_reduce_Turn_3 rb_3y) b8 (true,1,rb_3n4,rb_3h4) = some (false,rb_3n5,rb_3h5):=Run.fin (rl (k:=40) (by kernel_rfl)) (by decide)
abbrev rb_3n6:=rb_3n5
abbrev rb_3h6:=rb_3h5
theorem rb_3p5:aV (b_reduce_Turn_3 rb_3y) b8 (true,1,rb_3n5,rb_3h5) = some (true,rb_3n6,rb_3h6):=Run.fin (rl (k:=40) (by kernel_rfl)) (by decide)
theorem rb_3b:aV (b_reduce_Turn_2 rb_3y) b8 (false,rb_3n0,rb_3h0) = some (rb_3n6,rb_3h6):=Run.fin (run_next (turn2_next rb_3p0) (run_next (turn2_next rb_3p1) (run_next (turn2_next rb_3p2) (run_next (turn2_next rb_3p3) (run_next (turn2_next rb_3p4) (run_next (turn2_next rb_3p5) (run_out (turn2_out rb_3y rb_3n6 rb_3h6)))))))) (by decide)
theorem rb_3t:m_reduce_Turn 3 rbT = some (⟨2,rb_3h6,rb_3n6⟩,0):=turn_is rbr rbw rfl rb_3a rb_3b (by kernel_rfl)
theorem rb_3e:m_reduce_Equal rbT ⟨2,rb_3h6,rb_3n6⟩ = some false:=by kernel_rfl
end Go.Proofs.YtlcdmiapdfdcaaaGreatDoor
namespace Go.Proofs.YtlcdmiapdfdcaaaGreatDoor
open Go.AM Go.Proofs
set_option maxRecDepth 100000
abbrev rb_4y:=rby
abbrev rb_4n0:=rbn
def rb_4h0:List Point:=(mkP [1,-1,0,-1,1,0,0,0,-1,0,0,1,-1,1])
theorem rb_4a:aV (b_reduce_Turn_1 4 rb_4y) b8 (0,rb_4y.2.2) = some rb_4h0:=by kernel_rfl
def rb_4n1:List Node:=(mkN [1,0,0,1,0,1,2,0,1,1,1,0,2,1,3,3,2,4,2,3,0,3,4,6,4,5,7,2,0,0,3,9,2,1,1,1,2,1,11,3,2,12,4,10,13,5,8,14,3,6,9,4,7,16,2,11,3,3,12,18,4,13,19,5,17,20,6,15,21,3,9,9,4,16,23,3,18,6,4,19,25,5,24,26,6,21,27,7,22,28])
def rb_4h1:List Point:=(mkP [0,-1,1,-1,0,0,-1,0,1,0,-1,1,0,1])
theorem rb_4p0:aV (b_reduce_Turn_3 rb_4y) b8 (true,1,rb_4n0,rb_4h0) = some (false,rb_4n1,rb_4h1):=Run.fin (ri 3 (false,4,(mkN [1,0,0,1,0,1,2,0,1,1,1,0,2,1,3,3,2,4,2,3,0,3,4,6,4,5,7,2,0,0,3,9,2,1,1,1,2,1,11,3,2,12,4,10,13,5,8,14,3,6,9,4,7,16,2,11,3,3,12,18,4,13,19,5,17,20,6,15,21,3,9,9,4,16,23,3,18,6,4,19,25,5,24,26,6,21,27,7,22,28]),(mkP [0,-1,1,-1,0,0,1,0,-1,0,0,1,-1,1])) (by kernel_rfl)
 (ri 3 (false,7,(mkN [1,0,0,1,0,1,2,0,1,1,1,0,2,1,3,3,2,4,2,3,0,3,4,6,4,5,7,2,0,0,3,9,2,1,1,1,2,1,11,3,2,12,4,10,13,5,8,14,3,6,9,4,7,16,2,11,3,3,12,18,4,13,19,5,17,20,6,15,21,3,9,9,4,16,23,3,18,6,4,19,25,5,24,26,6,21,27,7,22,28]),(mkP [0,-1,1,-1,0,0,-1,0,1,0,-1,1,0,1])) (by kernel_rfl)
 (rl (k:=40) (by kernel_rfl)))) (by decide)
def rb_4n2:List Node:=(mkN [1,0,0,1,0,1,2,0,1,1,1,0,2,1,3,3,2,4,2,0,0,3,6,2,4,5,7,2,3,0,3,4,9,1,1,1,2,1,11,3,2,12,4,10,13,5,8,14,3,9,6,2,11,3,3,12,17,4,16,18,5,14,19,6,15,20,3,6,6,3,17,9,4,22,23,5,19,24,6,20,25,7,21,26])
def rb_4h2:List Point:=(mkP [0,-1,1,-1,-1,0,0,0,1,0,-1,1,0,1])
theorem rb_4p1:aV (b_reduce_Turn_3 rb_4y) b8 (true,1,rb_4n1,rb_4h1) = some (false,rb_4n2,rb_4h2):=Run.fin (rl (k:=40) (by kernel_rfl)) (by decide)
abbrev rb_4n3:=rb_4n2
abbrev rb_4h3:=rb_4h2
theorem rb_4p2:aV (b_reduce_Turn_3 rb_4y) b8 (true,1,rb_4n2,rb_4h2) = some (true,rb_4n3,rb_4h3):=Run.fin (rl (k:=40) (by kernel_rfl)) (by decide)
theorem rb_4b:aV (b_reduce_Turn_2 rb_4y) b8 (false,rb_4n0,rb_4h0) = some (rb_4n3,rb_4h3):=Run.fin (run_next (turn2_next rb_4p0) (run_next (turn2_next rb_4p1) (run_next (turn2_next rb_4p2) (run_out (turn2_out rb_4y rb_4n3 rb_4h3))))) (by decide)
theorem rb_4t:m_reduce_Turn 4 rbT = some (⟨2,rb_4h3,rb_4n3⟩,0):=turn_is rbr rbw rfl rb_4a rb_4b (by kernel_rfl)
theorem rb_4e:m_reduce_Equal rbT ⟨2,rb_4h3,rb_4n3⟩ = some false:=by kernel_rfl
end Go.Proofs.YtlcdmiapdfdcaaaGreatDoor
namespace Go.Proofs.YtlcdmiapdfdcaaaGreatDoor
open Go.AM Go.Proofs
set_option maxRecDepth 100000
abbrev rb_5y:=rby
abbrev rb_5n0:=rbn
def rb_5h0:List Point:=(mkP [1,1,1,0,0,1,0,0,0,-1,-1,0,-1,-1])
theorem rb_5a:aV (b_reduce_Turn_1 5 rb_5y) b8 (0,rb_5y.2.2) = some rb_5h0:=by kernel_rfl
def rb_5n1:List Node:=(mkN [1,0,0,1,0,1,2,0,1,1,1,0,2,1,3,3,2,4,2,3,0,3,4,6,4,5,7,2,0,0,3,9,2,1,1,1,2,1,11,3,2,12,4,10,13,5,8,14,3,6,9,4,7,16,2,11,3,3,12,18,4,13,19,5,17,20,6,15,21,3,9,9,4,16,23,3,18,6,4,19,25,5,24,26,6,21,27,7,22,28])
def rb_5h1:List Point:=(mkP [1,0,0,1,0,0,0,-1,-1,0,-1,-1,1,1])
theorem rb_5p0:aV (b_reduce_Turn_3 rb_5y) b8 (true,1,rb_5n0,rb_5h0) = some (false,rb_5n1,rb_5h1):=Run.fin (ri 2 (false,3,(mkN [1,0,0,1,0,1,2,0,1,1,1,0,2,1,3,3,2,4,2,0,0,3,6,2,4,5,7,2,3,0,3,4,9,1,1,1,2,1,11,3,2,12,4,10,13,5,8,14,3,9,6,2,11,3,3,12,17,4,16,18,5,14,19,6,15,20,3,6,6,3,17,9,4,22,23,5,19,24,6,20,25,7,21,26]),(mkP [1,0,0,1,1,1,0,0,0,-1,-1,0,-1,-1])) (by kernel_rfl)
 (ri 2 (false,5,(mkN [1,0,0,1,0,1,2,0,1,1,1,0,2,1,3,3,2,4,2,3,0,3,4,6,4,5,7,2,0,0,3,9,2,1,1,1,2,1,11,3,2,12,4,10,13,5,8,14,3,6,9,4,7,16,2,11,3,3,12,18,4,13,19,5,17,20,6,15,21,3,9,9,4,16,23,3,18,6,4,19,25,5,24,26,6,21,27,7,22,28]),(mkP [1,0,0,1,0,0,0,-1,1,1,-1,0,-1,-1])) (by kernel_rfl)
 (ri 2 (false,7,(mkN [1,0,0,1,0,1,2,0,1,1,1,0,2,1,3,3,2,4,2,3,0,3,4,6,4,5,7,2,0,0,3,9,2,1,1,1,2,1,11,3,2,12,4,10,13,5,8,14,3,6,9,4,7,16,2,11,3,3,12,18,4,13,19,5,17,20,6,15,21,3,9,9,4,16,23,3,18,6,4,19,25,5,24,26,6,21,27,7,22,28]),(mkP [1,0,0,1,0,0,0,-1,-1,0,-1,-1,1,1])) (by kernel_rfl)
 (rl (k:=40) (by kernel_rfl))))) (by decide)
def rb_5n2:List Node:=(mkN [1,0,0,1,0,1,2,0,1,1,1,0,2,1,3,3,2,4,2,3,0,3,4,6,4,5,7,2,0,0,3,6,9,4,7,10,5,8,11,3,9,2,1,1,1,2,1,14,3,2,15,4,13,16,2,14,3,3,15,18,4,16,19,5,17,20,6,12,21,3,9,9,4,10,23,5,11,24,3,18,6,4,19,26,5,20,27,6,25,28,7,22,29])
def rb_5h2:List Point:=(mkP [1,0,0,0,0,-1,-1,0,-1,-1,0,1,1,1])
theorem rb_5p1:aV (b_reduce_Turn_3 rb_5y) b8 (true,1,rb_5n1,rb_5h1) = some (false,rb_5n2,rb_5h2):=Run.fin (ri 3 (false,4,(mkN [1,0,0,1,0,1,2,0,1,1,1,0,2,1,3,3,2,4,2,3,0,3,4,6,4,5,7,2,0,0,3,6,9,4,7,10,5,8,11,3,9,2,1,1,1,2,1,14,3,2,15,4,13,16,2,14,3,3,15,18,4,16,19,5,17,20,6,12,21,3,9,9,4,10,23,5,11,24,3,18,6,4,19,26,5,20,27,6,25,28,7,22,29]),(mkP [1,0,0,0,0,-1,0,1,-1,0,-1,-1,1,1])) (by kernel_rfl)
 (ri 2 (false,6,(mkN [1,0,0,1,0,1,2,0,1,1,1,0,2,1,3,3,2,4,2,3,0,3,4,6,4,5,7,2,0,0,3,6,9,4,7,10,5,8,11,3,9,2,1,1,1,2,1,14,3,2,15,4,13,16,2,14,3,3,15,18,4,16,19,5,17,20,6,12,21,3,9,9,4,10,23,5,11,24,3,18,6,4,19,26,5,20,27,6,25,28,7,22,29]),(mkP [1,0,0,0,0,-1,-1,0,-1,-1,0,1,1,1])) (by kernel_rfl)
 (rl (k:=40) (by kernel_rfl)))) (by decide)
def rb_5n3:List Node:=(mkN [1,0,0,1,0,1,2,0,1,1,1,0,2,1,3,3,2,4,2,3,0,3,4,6,4,5,7,2,0,0,3,6,9,4,7,10,5,8,11,3,9,9,4,10,13,5,11,14,6,12,15,3,9,2,1,1,1,2,1,18,3,2,19,4,17,20,2,18,3,3,19,22,4,20,23,5,21,24,3,22,6,4,23,26,5,24,27,6,25,28,7,16,29])
def rb_5h3:List Point:=(mkP [0,0,0,-1,-1,0,-1,-1,1,0,0,1,1,1])
theorem rb_5p2:aV (b_reduce_Turn_3 rb_5y) b8 (true,1,rb_5n2,rb_5h2) = some (false,rb_5n3,rb_5h3):=Run.fin (ri 2 (false,3,(mkN [1,0,0,1,0,1,2,0,1,1,1,0,2,1,3,3,2,4,2,3,0,3,4,6,4,5,7,2,0,0,3,6,9,4,7,10,5,8,11,3,9,9,4,10,13,5,11,14,6,12,15,3,9,2,1,1,1,2,1,18,3,2,19,4,17,20,2,18,3,3,19,22,4,20,23,5,21,24,3,22,6,4,23,26,5,24,27,6,25,28,7,16,29]),(mkP [0,0,0,-1,1,0,-1,0,-1,-1,0,1,1,1])) (by kernel_rfl)
 (ri 2 (false,5,(mkN [1,0,0,1,0,1,2,0,1,1,1,0,2,1,3,3,2,4,2,3,0,3,4,6,4,5,7,2,0,0,3,6,9,4,7,10,5,8,11,3,9,9,4,10,13,5,11,14,6,12,15,3,9,2,1,1,1,2,1,18,3,2,19,4,17,20,2,18,3,3,19,22,4,20,23,5,21,24,3,22,6,4,23,26,5,24,27,6,25,28,7,16,29]),(mkP [0,0,0,-1,-1,0,-1,-1,1,0,0,1,1,1])) (by kernel_rfl)
 (rl (k:=40) (by kernel_rfl)))) (by decide)
def rb_5n4:List Node:=(mkN [1,0,0,1,0,1,2,0,1,1,1,0,2,1,3,3,2,4,2,0,0,3,6,2,4,5,7,2,3,0,3,4,9,1,1,1,2,1,11,3,2,12,4,10,13,5,8,14,3,9,6,2,11,3,3,12,17,4,16,18,5,14,19,6,15,20,3,6,6,3,17,9,4,22,23,5,19,24,6,20,25,7,21,26])
def rb_5h4:List Point:=(mkP [0,-1,-1,0,-1,-1,0,0,1,0,0,1,1,1])
theorem rb_5p3:aV (b_reduce_Turn_3 rb_5y) b8 (true,1,rb_5n3,rb_5h3) = some (false,rb_5n4,rb_5h4):=Run.fin (ri 2 (false,3,(mkN [1,0,0,1,0,1,2,0,1,1,1,0,2,1,3,3,2,4,2,3,0,3,4,6,4,5,7,2,0,0,3,9,2,1,1,1,2,1,11,3,2,12,4,10,13,5,8,14,3,6,9,4,7,16,2,11,3,3,12,18,4,13,19,5,17,20,6,15,21,3,9,9,4,16,23,3,18,6,4,19,25,5,24,26,6,21,27,7,22,28]),(mkP [0,-1,-1,0,0,0,-1,-1,1,0,0,1,1,1])) (by kernel_rfl)
 (rl (k:=40) (by kernel_rfl))) (by decide)
def rb_5n5:List Node:=(mkN [1,0,0,1,0,1,2,0,1,1,1,0,2,1,3,3,2,4,2,0,0,3,6,2,4,5,7,2,3,0,3,4,9,1,1,1,2,1,11,3,2,12,4,10,13,5,8,14,3,9,6,2,11,3,3,12,17,4,16,18,5,14,19,6,15,20,3,6,6,3,17,9,4,22,23,5,19,24,6,20,25,7,21,26])
def rb_5h5:List Point:=(mkP [0,-1,-1,-1,-1,0,0,0,1,0,0,1,1,1])
theorem rb_5p4:aV (b_reduce_Turn_3 rb_5y) b8 (true,1,rb_5n4,rb_5h4) = some (false,rb_5n5,rb_5h5):=Run.fin (rl (k:=40) (by kernel_rfl)) (by decide)
def rb_5n6:List Node:=(mkN [1,0,0,1,0,1,2,0,1,1,1,0,2,1,3,3,2,4,2,0,0,3,6,2,4,5,7,2,3,0,3,4,9,1,1,1,2,1,11,3,2,12,4,10,13,5,8,14,3,9,6,2,11,3,3,12,17,4,16,18,5,14,19,6,15,20,3,6,6,3,17,9,4,22,23,5,19,24,6,20,25,7,21,26])
def rb_5h6:List Point:=(mkP [-1,-1,0,-1,-1,0,0,0,1,0,0,1,1,1])
theorem rb_5p5:aV (b_reduce_Turn_3 rb_5y) b8 (true,1,rb_5n5,rb_5h5) = some (false,rb_5n6,rb_5h6):=Run.fin (rl (k:=40) (by kernel_rfl)) (by decide)
abbrev rb_5n7:=rb_5n6
abbrev rb_5h7:=rb_5h6
theorem rb_5p6:aV (b_reduce_Turn_3 rb_5y) b8 (true,1,rb_5n6,rb_5h6) = some (true,rb_5n7,rb_5h7):=Run.fin (rl (k:=40) (by kernel_rfl)) (by decide)
theorem rb_5b:aV (b_reduce_Turn_2 rb_5y) b8 (false,rb_5n0,rb_5h0) = some (rb_5n7,rb_5h7):=Run.fin (run_next (turn2_next rb_5p0) (run_next (turn2_next rb_5p1) (run_next (turn2_next rb_5p2) (run_next (turn2_next rb_5p3) (run_next (turn2_next rb_5p4) (run_next (turn2_next rb_5p5) (run_next (turn2_next rb_5p6) (run_out (turn2_out rb_5y rb_5n7 rb_5h7))))))))) (by decide)
theorem rb_5t:m_reduce_Turn 5 rbT = some (⟨2,rb_5h7,rb_5n7⟩,0):=turn_is rbr rbw rfl rb_5a rb_5b (by kernel_rfl)
theorem rb_5e:m_reduce_Equal rbT ⟨2,rb_5h7,rb_5n7⟩ = some true:=by kernel_rfl
end Go.Proofs.YtlcdmiapdfdcaaaGreatDoor
namespace Go.Proofs.YtlcdmiapdfdcaaaGreatDoor
open Go.AM Go.Proofs
set_option maxRecDepth 100000
abbrev rb_6y:=rby
abbrev rb_6n0:=rbn
def rb_6h0:List Point:=(mkP [-1,1,0,1,-1,0,0,0,1,0,0,-1,1,-1])
theorem rb_6a:aV (b_reduce_Turn_1 6 rb_6y) b8 (0,rb_6y.2.2) = some rb_6h0:=by kernel_rfl
def rb_6n1:List Node:=(mkN [1,0,0,1,0,1,2,0,1,1,1,0,2,1,3,3,2,4,2,3,0,3,4,6,4,5,7,2,0,0,3,9,2,1,1,1,2,1,11,3,2,12,4,10,13,5,8,14,3,6,9,4,7,16,2,11,3,3,12,18,4,13,19,5,17,20,6,15,21,3,9,9,4,16,23,3,18,6,4,19,25,5,24,26,6,21,27,7,22,28])
def rb_6h1:List Point:=(mkP [-1,1,-1,0,0,0,1,0,0,-1,1,-1,0,1])
theorem rb_6p0:aV (b_reduce_Turn_3 rb_6y) b8 (true,1,rb_6n0,rb_6h0) = some (false,rb_6n1,rb_6h1):=Run.fin (ri 3 (false,4,(mkN [1,0,0,1,0,1,2,0,1,1,1,0,2,1,3,3,2,4,2,3,0,3,4,6,4,5,7,2,0,0,3,9,2,1,1,1,2,1,11,3,2,12,4,10,13,5,8,14,3,6,9,4,7,16,2,11,3,3,12,18,4,13,19,5,17,20,6,15,21,3,9,9,4,16,23,3,18,6,4,19,25,5,24,26,6,21,27,7,22,28]),(mkP [-1,1,-1,0,0,0,0,1,1,0,0,-1,1,-1])) (by kernel_rfl)
 (ri 2 (false,6,(mkN [1,0,0,1,0,1,2,0,1,1,1,0,2,1,3,3,2,4,2,3,0,3,4,6,4,5,7,2,0,0,3,9,2,1,1,1,2,1,11,3,2,12,4,10,13,5,8,14,3,6,9,4,7,16,2,11,3,3,12,18,4,13,19,5,17,20,6,15,21,3,9,9,4,16,23,3,18,6,4,19,25,5,24,26,6,21,27,7,22,28]),(mkP [-1,1,-1,0,0,0,1,0,0,-1,0,1,1,-1])) (by kernel_rfl)
 (rl (k:=40) (by kernel_rfl)))) (by decide)
def rb_6n2:List Node:=(mkN [1,0,0,1,0,1,2,0,1,1,1,0,2,1,3,3,2,4,2,3,0,3,4,6,4,5,7,2,0,0,3,6,9,4,7,10,5,8,11,3,9,2,1,1,1,2,1,14,3,2,15,4,13,16,2,14,3,3,15,18,4,16,19,5,17,20,6,12,21,3,9,9,4,10,23,5,11,24,3,18,6,4,19,26,5,20,27,6,25,28,7,22,29])
def rb_6h2:List Point:=(mkP [-1,0,0,0,1,0,0,-1,1,-1,-1,1,0,1])
theorem rb_6p1:aV (b_reduce_Turn_3 rb_6y) b8 (true,1,rb_6n1,rb_6h1) = some (false,rb_6n2,rb_6h2):=Run.fin (ri 2 (false,3,(mkN [1,0,0,1,0,1,2,0,1,1,1,0,2,1,3,3,2,4,2,3,0,3,4,6,4,5,7,2,0,0,3,6,9,4,7,10,5,8,11,3,9,2,1,1,1,2,1,14,3,2,15,4,13,16,2,14,3,3,15,18,4,16,19,5,17,20,6,12,21,3,9,9,4,10,23,5,11,24,3,18,6,4,19,26,5,20,27,6,25,28,7,22,29]),(mkP [-1,0,0,0,-1,1,1,0,0,-1,1,-1,0,1])) (by kernel_rfl)
 (ri 2 (false,5,(mkN [1,0,0,1,0,1,2,0,1,1,1,0,2,1,3,3,2,4,2,3,0,3,4,6,4,5,7,2,0,0,3,6,9,4,7,10,5,8,11,3,9,2,1,1,1,2,1,14,3,2,15,4,13,16,2,14,3,3,15,18,4,16,19,5,17,20,6,12,21,3,9,9,4,10,23,5,11,24,3,18,6,4,19,26,5,20,27,6,25,28,7,22,29]),(mkP [-1,0,0,0,1,0,0,-1,-1,1,1,-1,0,1])) (by kernel_rfl)
 (rl (k:=40) (by kernel_rfl)))) (by decide)
def rb_6n3:List Node:=(mkN [1,0,0,1,0,1,2,0,1,1,1,0,2,1,3,3,2,4,2,3,0,3,4,6,4,5,7,2,0,0,3,6,9,4,7,10,5,8,11,3,9,2,1,1,1,2,1,14,3,2,15,4,13,16,2,14,3,3,15,18,4,16,19,5,17,20,6,12,21,3,9,9,4,10,23,5,11,24,3,18,6,4,19,26,5,20,27,6,25,28,7,22,29])
def rb_6h3:List Point:=(mkP [-1,0,0,0,0,-1,1,-1,1,0,-1,1,0,1])
theorem rb_6p2:aV (b_reduce_Turn_3 rb_6y) b8 (true,1,rb_6n2,rb_6h2) = some (false,rb_6n3,rb_6h3):=Run.fin (ri 4 (false,5,(mkN [1,0,0,1,0,1,2,0,1,1,1,0,2,1,3,3,2,4,2,3,0,3,4,6,4,5,7,2,0,0,3,6,9,4,7,10,5,8,11,3,9,2,1,1,1,2,1,14,3,2,15,4,13,16,2,14,3,3,15,18,4,16,19,5,17,20,6,12,21,3,9,9,4,10,23,5,11,24,3,18,6,4,19,26,5,20,27,6,25,28,7,22,29]),(mkP [-1,0,0,0,0,-1,1,-1,1,0,-1,1,0,1])) (by kernel_rfl)
 (rl (k:=40) (by kernel_rfl))) (by decide)
def rb_6n4:List Node:=(mkN [1,0,0,1,0,1,2,0,1,1,1,0,2,1,3,3,2,4,2,0,0,3,6,2,4,5,7,2,3,0,3,4,9,1,1,1,2,1,11,3,2,12,4,10,13,5,8,14,3,9,6,2,11,3,3,12,17,4,16,18,5,14,19,6,15,20,3,6,6,3,17,9,4,22,23,5,19,24,6,20,25,7,21,26])
def rb_6h4:List Point:=(mkP [-1,0,0,-1,1,-1,0,0,1,0,-1,1,0,1])
theorem rb_6p3:aV (b_reduce_Turn_3 rb_6y) b8 (true,1,rb_6n3,rb_6h3) = some (false,rb_6n4,rb_6h4):=Run.fin (ri 3 (false,4,(mkN [1,0,0,1,0,1,2,0,1,1,1,0,2,1,3,3,2,4,2,0,0,3,6,2,4,5,7,2,3,0,3,4,9,1,1,1,2,1,11,3,2,12,4,10,13,5,8,14,3,9,6,2,11,3,3,12,17,4,16,18,5,14,19,6,15,20,3,6,6,3,17,9,4,22,23,5,19,24,6,20,25,7,21,26]),(mkP [-1,0,0,-1,1,-1,0,0,1,0,-1,1,0,1])) (by kernel_rfl)
 (rl (k:=40) (by kernel_rfl))) (by decide)
def rb_6n5:List Node:=(mkN [1,0,0,1,0,1,2,0,1,1,1,0,2,1,3,3,2,4,2,0,0,3,6,2,4,5,7,2,3,0,3,4,9,1,1,1,2,1,11,3,2,12,4,10,13,5,8,14,3,9,6,2,11,3,3,12,17,4,16,18,5,14,19,6,15,20,3,6,6,3,17,9,4,22,23,5,19,24,6,20,25,7,21,26])
def rb_6h5:List Point:=(mkP [0,-1,1,-1,-1,0,0,0,1,0,-1,1,0,1])
theorem rb_6p4:aV (b_reduce_Turn_3 rb_6y) b8 (true,1,rb_6n4,rb_6h4) = some (false,rb_6n5,rb_6h5):=Run.fin (ri 2 (false,3,(mkN [1,0,0,1,0,1,2,0,1,1,1,0,2,1,3,3,2,4,2,0,0,3,6,2,4,5,7,2,3,0,3,4,9,1,1,1,2,1,11,3,2,12,4,10,13,5,8,14,3,9,6,2,11,3,3,12,17,4,16,18,5,14,19,6,15,20,3,6,6,3,17,9,4,22,23,5,19,24,6,20,25,7,21,26]),(mkP [0,-1,1,-1,-1,0,0,0,1,0,-1,1,0,1])) (by kernel_rfl)
 (rl (k:=40) (by kernel_rfl))) (by decide)
abbrev rb_6n6:=rb_6n5
abbrev rb_6h6:=rb_6h5
theorem rb_6p5:aV (b_reduce_Turn_3 rb_6y) b8 (true,1,rb_6n5,rb_6h5) = some (true,rb_6n6,rb_6h6):=Run.fin (rl (k:=40) (by kernel_rfl)) (by decide)
theorem rb_6b:aV (b_reduce_Turn_2 rb_6y) b8 (false,rb_6n0,rb_6h0) = some (rb_6n6,rb_6h6):=Run.fin (run_next (turn2_next rb_6p0) (run_next (turn2_next rb_6p1) (run_next (turn2_next rb_6p2) (run_next (turn2_next rb_6p3) (run_next (turn2_next rb_6p4) (run_next (turn2_next rb_6p5) (run_out (turn2_out rb_6y rb_6n6 rb_6h6)))))))) (by decide)
theorem rb_6t:m_reduce_Turn 6 rbT = some (⟨2,rb_6h6,rb_6n6⟩,0):=turn_is rbr rbw rfl rb_6a rb_6b (by kernel_rfl)
theorem rb_6e:m_reduce_Equal rbT ⟨2,rb_6h6,rb_6n6⟩ = some false:=by kernel_rfl
end Go.Proofs.YtlcdmiapdfdcaaaGreatDoor
namespace Go.Proofs.YtlcdmiapdfdcaaaGreatDoor
open Go.AM Go.Proofs
set_option maxRecDepth 100000
abbrev rb_7y:=rby
abbrev rb_7n0:=rbn
def rb_7h0:List Point:=(mkP [-1,-1,-1,0,0,-1,0,0,0,1,1,0,1,1])
theorem rb_7a:aV (b_reduce_Turn_1 7 rb_7y) b8 (0,rb_7y.2.2) = some rb_7h0:=by kernel_rfl
def rb_7n1:List Node:=(mkN [1,0,0,1,0,1,2,0,1,1,1,0,2,1,3,3,2,4,2,0,0,3,6,2,4,5,7,2,3,0,3,4,9,1,1,1,2,1,11,3,2,12,4,10,13,5,8,14,3,9,6,2,11,3,3,12,17,4,16,18,5,14,19,6,15,20,3,6,6,3,17,9,4,22,23,5,19,24,6,20,25,7,21,26])
def rb_7h1:List Point:=(mkP [-1,-1,0,-1,-1,0,0,0,1,0,0,1,1,1])
theorem rb_7p0:aV (b_reduce_Turn_3 rb_7y) b8 (true,1,rb_7n0,rb_7h0) = some (false,rb_7n1,rb_7h1):=Run.fin (ri 5 (false,6,(mkN [1,0,0,1,0,1,2,0,1,1,1,0,2,1,3,3,2,4,2,0,0,3,6,2,4,5,7,2,3,0,3,4,9,1,1,1,2,1,11,3,2,12,4,10,13,5,8,14,3,9,6,2,11,3,3,12,17,4,16,18,5,14,19,6,15,20,3,6,6,3,17,9,4,22,23,5,19,24,6,20,25,7,21,26]),(mkP [-1,-1,0,-1,-1,0,0,0,1,0,0,1,1,1])) (by kernel_rfl)
 (rl (k:=40) (by kernel_rfl))) (by decide)
abbrev rb_7n2:=rb_7n1
abbrev rb_7h2:=rb_7h1
theorem rb_7p1:aV (b_reduce_Turn_3 rb_7y) b8 (true,1,rb_7n1,rb_7h1) = some (true,rb_7n2,rb_7h2):=Run.fin (rl (k:=40) (by kernel_rfl)) (by decide)
theorem rb_7b:aV (b_reduce_Turn_2 rb_7y) b8 (false,rb_7n0,rb_7h0) = some (rb_7n2,rb_7h2):=Run.fin (run_next (turn2_next rb_7p0) (run_next (turn2_next rb_7p1) (run_out (turn2_out rb_7y rb_7n2 rb_7h2)))) (by decide)
theorem rb_7t:m_reduce_Turn 7 rbT = some (⟨2,rb_7h2,rb_7n2⟩,0):=turn_is rbr rbw rfl rb_7a rb_7b (by kernel_rfl)
theorem rb_7e:m_reduce_Equal rbT ⟨2,rb_7h2,rb_7n2⟩ = some true:=by kernel_rfl
end Go.Proofs.YtlcdmiapdfdcaaaGreatDoor
