/- That the code does what the functions say (made by cc.py). -/
import Derived.Test.YtlifofijgddjkacGreatDoorWa10
import Derived.Test.YtlifofijgddjkacGreatDoorWa11
namespace Go.Proofs.YtlifofijgddjkacGreatDoor
open Go.AM Go.Proofs
set_option maxRecDepth 100000
attribute [-simp] eR fS jn Ob.wipe Ob.ren Ob.frz1
def fe (cx:Cx) (t:Tree) (gv:Grid) (cells:Int×Int×Int×Int×Int×Int×Int×Int×Int×Int×Int×Int×Int×Int×Int×Int) (y:B9×Int×Int) (y1 y2 a2:Int) (tt:(List Bool)) (ee:Exit) (Z:Env) (O:Sto):Prop:=match tt with
 | l1=>ee=.exit 2/\EE cx (bY [(3,vX 3),(4,vX 4),(5,vX 5),(7,vX 7),(10,vI y1),(11,vI y2),(12,vI (bm .i64 gv.W (bO .i64 2 y2))),(14,vO 5000),(76,vI (bO .i64 (bm .i64 gv.W (bO .i64 2 y2)) (bm .i64 gv.H (bO .i64 2 y2)))),(77,vI a2)] [(3,.box [dI t.States,dR2 t.Hood,dR1 t.Nodes]),(4,.box [dI gv.W,dI gv.H,dI gv.Edge,dL gv.Cells]),(5,.box (List.map (cI .u8) [cells.1,cells.2.1,cells.2.2.1,cells.2.2.2.1,cells.2.2.2.2.1,cells.2.2.2.2.2.1,cells.2.2.2.2.2.2.1,cells.2.2.2.2.2.2.2.1,cells.2.2.2.2.2.2.2.2.1,cells.2.2.2.2.2.2.2.2.2.1,cells.2.2.2.2.2.2.2.2.2.2.1,cells.2.2.2.2.2.2.2.2.2.2.2.1,cells.2.2.2.2.2.2.2.2.2.2.2.2.1,cells.2.2.2.2.2.2.2.2.2.2.2.2.2.1,cells.2.2.2.2.2.2.2.2.2.2.2.2.2.2.1,cells.2.2.2.2.2.2.2.2.2.2.2.2.2.2.2])),(7,.box [dI y.1.Vars,.d (.sl 1 (List.map (rS 1 (rI .i64)) y.1.Clauses))]),(5000,.row 1 4 (List.map rB l1))]) Z O
set_option maxHeartbeats 1000000 in
theorem nV (cx:Cx) (hn:cx.n=168) (t:Tree) (gv:Grid) (cells:Int×Int×Int×Int×Int×Int×Int×Int×Int×Int×Int×Int×Int×Int×Int×Int) (y:B9×Int×Int) (y1 y2 a2:Int) {fu:Nat} {stt:Int×(List Bool)} {tt:(List Bool)} (hh:bh (cR t gv cells y y1 y2 a2) fu stt=some tt) {Z:Env} {O:Sto}
  (hE:cw (fun stt:Int×(List Bool)=>match stt with | (a3,_l1)=>[(3,vX 3),(4,vX 4),(5,vX 5),(7,vX 7),(10,vI y1),(11,vI y2),(12,vI (bm .i64 gv.W (bO .i64 2 y2))),(14,vO 5000),(15,vI a2),(76,vI (bO .i64 (bm .i64 gv.W (bO .i64 2 y2)) (bm .i64 gv.H (bO .i64 2 y2)))),(77,vI a2),(80,vI y1),(81,vI a3)]) (fun stt:Int×(List Bool)=>match stt with | (_a3,l1)=>[(3,.box [dI t.States,dR2 t.Hood,dR1 t.Nodes]),(4,.box [dI gv.W,dI gv.H,dI gv.Edge,dL gv.Cells]),(5,.box (List.map (cI .u8) [cells.1,cells.2.1,cells.2.2.1,cells.2.2.2.1,cells.2.2.2.2.1,cells.2.2.2.2.2.1,cells.2.2.2.2.2.2.1,cells.2.2.2.2.2.2.2.1,cells.2.2.2.2.2.2.2.2.1,cells.2.2.2.2.2.2.2.2.2.1,cells.2.2.2.2.2.2.2.2.2.2.1,cells.2.2.2.2.2.2.2.2.2.2.2.1,cells.2.2.2.2.2.2.2.2.2.2.2.2.1,cells.2.2.2.2.2.2.2.2.2.2.2.2.2.1,cells.2.2.2.2.2.2.2.2.2.2.2.2.2.2.1,cells.2.2.2.2.2.2.2.2.2.2.2.2.2.2.2])),(7,.box [dI y.1.Vars,.d (.sl 1 (List.map (rS 1 (rI .i64)) y.1.Clauses))]),(5000,.row 1 4 (List.map rB l1))]) stt Z O):Swp Tryz.prog cx (.loop (dx [1,1,1,1,1,1,1,1,0,1,0,0,1,1,0,0,1,1,0,0] (bQ Tryz.f3))) Z O (fe cx t gv cells y y1 y2 a2 tt):=by
 refine cz hE hh (fe cx t gv cells y y1 y2 a2) ?_
 rintro⟨a3,l1⟩ r hm Z O hf
 simp only[Fits,bv,bu,and_true] at hf
 unfold cR at hm
 dsimp only at hm
 refine srs hn ?_
 simp -dsimp [hf]
 refine aZ ?_
 rcases bc hm with ⟨c13,hm⟩ | ⟨c13,hm⟩
 ·refine aW (by simp -dsimp) c13 ?_
  refine aY (aU (aZ (b7 ?_)))
  refine srs hn ?_
  simp -dsimp [hf,c13]
  refine oT bL mixed 14 (by rw[hn]; kernel_rfl) ?_
  dsimp only [List.take,List.drop]
  obtain⟨x,h14,hm⟩:=bnd hm
  obtain⟨n,h15,hm⟩:=bnd hm
  obtain⟨n1,h16,hm⟩:=bnd hm
  obtain⟨l2,h17,hm⟩:=bnd hm
  obtain⟨h17a,h17e⟩:=ct h17
  replace h17e:=h17e.symm
  subst h17e
  try simp only[List.length_cons,List.length_nil,Nat.zero_add] at h17a
  try simp only[Nat.mul_one,Nat.reduceLeDiff] at h17a
  simp -dsimp [hf,mY h14,(@id (([.d (.int .u8 cells.1),.d (.int .u8 cells.2.1),.d (.int .u8 cells.2.2.1),.d (.int .u8 cells.2.2.2.1),.d (.int .u8 cells.2.2.2.2.1),.d (.int .u8 cells.2.2.2.2.2.1),.d (.int .u8 cells.2.2.2.2.2.2.1),.d (.int .u8 cells.2.2.2.2.2.2.2.1),.d (.int .u8 cells.2.2.2.2.2.2.2.2.1),.d (.int .u8 cells.2.2.2.2.2.2.2.2.2.1),.d (.int .u8 cells.2.2.2.2.2.2.2.2.2.2.1),.d (.int .u8 cells.2.2.2.2.2.2.2.2.2.2.2.1),.d (.int .u8 cells.2.2.2.2.2.2.2.2.2.2.2.2.1),.d (.int .u8 cells.2.2.2.2.2.2.2.2.2.2.2.2.2.1),.d (.int .u8 cells.2.2.2.2.2.2.2.2.2.2.2.2.2.2.1),.d (.int .u8 cells.2.2.2.2.2.2.2.2.2.2.2.2.2.2.2)]:List C)[a2.toNat]?=some ((cI .u8) _)) (aidx_map (cI .u8) h14)),h15,h16,h17a]
  refine bI ?_
  refine aU ?_
  refine sr1 hn ?_
  simp -dsimp [hf]
  cases hm
  refine bC ?_
  refine emv 98 5000 ?_
  exact EE.here (by simp -dsimp [hf])
 ·refine aV (by simp -dsimp) c13 ?_
  refine bp ?_
  refine b8 ?_
  cases hm
  refine bz nofun ?_
  exact⟨rfl,EE.here (by simp -dsimp [hf,c13])⟩
def f5 (cx:Cx) (t:Tree) (gv:Grid) (cells:Int×Int×Int×Int×Int×Int×Int×Int×Int×Int×Int×Int×Int×Int×Int×Int) (y:B9×Int×Int) (_y1 y2:Int) (tt:(List Bool)) (ee:Exit) (Z:Env) (O:Sto):Prop:=match tt with
 | l=>ee=.exit 0/\EE cx (bY [(3,vX 3),(4,vX 4),(5,vX 5),(7,vX 7),(11,vI y2),(12,vI (bm .i64 gv.W (bO .i64 2 y2))),(14,vO 5000)] [(3,.box [dI t.States,dR2 t.Hood,dR1 t.Nodes]),(4,.box [dI gv.W,dI gv.H,dI gv.Edge,dL gv.Cells]),(5,.box (List.map (cI .u8) [cells.1,cells.2.1,cells.2.2.1,cells.2.2.2.1,cells.2.2.2.2.1,cells.2.2.2.2.2.1,cells.2.2.2.2.2.2.1,cells.2.2.2.2.2.2.2.1,cells.2.2.2.2.2.2.2.2.1,cells.2.2.2.2.2.2.2.2.2.1,cells.2.2.2.2.2.2.2.2.2.2.1,cells.2.2.2.2.2.2.2.2.2.2.2.1,cells.2.2.2.2.2.2.2.2.2.2.2.2.1,cells.2.2.2.2.2.2.2.2.2.2.2.2.2.1,cells.2.2.2.2.2.2.2.2.2.2.2.2.2.2.1,cells.2.2.2.2.2.2.2.2.2.2.2.2.2.2.2])),(7,.box [dI y.1.Vars,.d (.sl 1 (List.map (rS 1 (rI .i64)) y.1.Clauses))]),(5000,.row 1 4 (List.map rB l))]) Z O
set_option maxHeartbeats 1000000 in
theorem nJ (cx:Cx) (hn:cx.n=168) (t:Tree) (gv:Grid) (cells:Int×Int×Int×Int×Int×Int×Int×Int×Int×Int×Int×Int×Int×Int×Int×Int) (y:B9×Int×Int) (y1 y2:Int) {fu:Nat} {stt:Int×(List Bool)} {tt:(List Bool)} (hh:bh (cT t gv cells y y1 y2) fu stt=some tt) {Z:Env} {O:Sto}
  (hE:cw (fun stt:Int×(List Bool)=>match stt with | (a2,_l)=>[(3,vX 3),(4,vX 4),(5,vX 5),(7,vX 7),(10,vI y1),(11,vI y2),(12,vI (bm .i64 gv.W (bO .i64 2 y2))),(14,vO 5000),(76,vI (bO .i64 (bm .i64 gv.W (bO .i64 2 y2)) (bm .i64 gv.H (bO .i64 2 y2)))),(77,vI a2)]) (fun stt:Int×(List Bool)=>match stt with | (_a2,l)=>[(3,.box [dI t.States,dR2 t.Hood,dR1 t.Nodes]),(4,.box [dI gv.W,dI gv.H,dI gv.Edge,dL gv.Cells]),(5,.box (List.map (cI .u8) [cells.1,cells.2.1,cells.2.2.1,cells.2.2.2.1,cells.2.2.2.2.1,cells.2.2.2.2.2.1,cells.2.2.2.2.2.2.1,cells.2.2.2.2.2.2.2.1,cells.2.2.2.2.2.2.2.2.1,cells.2.2.2.2.2.2.2.2.2.1,cells.2.2.2.2.2.2.2.2.2.2.1,cells.2.2.2.2.2.2.2.2.2.2.2.1,cells.2.2.2.2.2.2.2.2.2.2.2.2.1,cells.2.2.2.2.2.2.2.2.2.2.2.2.2.1,cells.2.2.2.2.2.2.2.2.2.2.2.2.2.2.1,cells.2.2.2.2.2.2.2.2.2.2.2.2.2.2.2])),(7,.box [dI y.1.Vars,.d (.sl 1 (List.map (rS 1 (rI .i64)) y.1.Clauses))]),(5000,.row 1 4 (List.map rB l))]) stt Z O):Swp Tryz.prog cx (.loop (dx [1,1,1,1,1,1,1,1,0,1,0,0] (bQ Tryz.f3))) Z O (f5 cx t gv cells y y1 y2 tt):=by
 refine cz hE hh (f5 cx t gv cells y y1 y2) ?_
 rintro⟨a2,l⟩ r hm Z O hf
 simp only[Fits,bv,bu,and_true] at hf
 unfold cT at hm
 dsimp only at hm
 refine srs hn ?_
 simp -dsimp [hf]
 refine aZ ?_
 rcases bc hm with ⟨c12,hm⟩ | ⟨c12,hm⟩
 ·refine aW (by simp -dsimp) c12 ?_
  refine aY (aU (aZ (b7 ?_)))
  refine srs hn ?_
  simp -dsimp [hf,c12]
  refine srs hn ?_
  simp -dsimp [hf]
  refine b7 ?_
  obtain⟨l1,g18,hm⟩:=bnd hm
  refine bP (nV cx hn t gv cells y y1 y2 a2 g18) (by
    try dsimp only
    exact EE.here (by simp -dsimp [hf])
  ) fun ee Z O xx=>?_
  unfold fe at xx
  dsimp only at xx
  obtain⟨rfl,xx⟩:=xx
  refine br ?_
  refine bI ?_
  refine aU ?_
  refine see xx fun Z O hf=>?_
  simp only[Fits,bv,bu,and_true] at hf
  refine sr1 hn ?_
  simp -dsimp [hf]
  cases hm
  refine bC ?_
  exact EE.here (by simp -dsimp [hf])
 ·refine aV (by simp -dsimp) c12 ?_
  refine bp ?_
  refine b8 ?_
  cases hm
  refine bz nofun ?_
  exact⟨rfl,EE.here (by simp -dsimp [hf,c12])⟩
def f0 (cx:Cx) (t:Tree) (gv:Grid) (cells:Int×Int×Int×Int×Int×Int×Int×Int×Int×Int×Int×Int×Int×Int×Int×Int) (y:B9×Int×Int) (y2:Int) (l:List Bool) (leads:Bool) (a2 _n _n1:Int) (tt:(List Int)) (ee:Exit) (Z:Env) (O:Sto):Prop:=match tt with
 | in_=>ee=.exit 6/\EE cx (bY [(3,vX 3),(4,vX 4),(5,vX 5),(7,vX 7),(11,vI y2),(12,vI (bm .i64 gv.W (bO .i64 2 y2))),(14,vO 5000),(17,vT leads),(18,vI a2),(21,vO 5001),(103,vI (b9 gv.Cells)),(104,vI a2)] [(3,.box [dI t.States,dR2 t.Hood,dR1 t.Nodes]),(4,.box [dI gv.W,dI gv.H,dI gv.Edge,dL gv.Cells]),(5,.box (List.map (cI .u8) [cells.1,cells.2.1,cells.2.2.1,cells.2.2.2.1,cells.2.2.2.2.1,cells.2.2.2.2.2.1,cells.2.2.2.2.2.2.1,cells.2.2.2.2.2.2.2.1,cells.2.2.2.2.2.2.2.2.1,cells.2.2.2.2.2.2.2.2.2.1,cells.2.2.2.2.2.2.2.2.2.2.1,cells.2.2.2.2.2.2.2.2.2.2.2.1,cells.2.2.2.2.2.2.2.2.2.2.2.2.1,cells.2.2.2.2.2.2.2.2.2.2.2.2.2.1,cells.2.2.2.2.2.2.2.2.2.2.2.2.2.2.1,cells.2.2.2.2.2.2.2.2.2.2.2.2.2.2.2])),(7,.box [dI y.1.Vars,.d (.sl 1 (List.map (rS 1 (rI .i64)) y.1.Clauses))]),(5000,.row 1 4 (List.map rB l)),(5001,.row 1 3 (List.map (rI .i64) in_))]) Z O
set_option maxHeartbeats 1000000 in
theorem nH (cx:Cx) (hn:cx.n=168) (t:Tree) (gv:Grid) (cells:Int×Int×Int×Int×Int×Int×Int×Int×Int×Int×Int×Int×Int×Int×Int×Int) (y:B9×Int×Int) (y2:Int) (l:List Bool) (leads:Bool) (a2 n n1:Int) {fu:Nat} {stt:Int×(List Int)} {tt:(List Int)} (hh:bh (cP t gv cells y y2 l leads a2 n n1) fu stt=some tt) {Z:Env} {O:Sto}
  (hE:cw (fun stt:Int×(List Int)=>match stt with | (a3,_in_)=>[(3,vX 3),(4,vX 4),(5,vX 5),(7,vX 7),(11,vI y2),(12,vI (bm .i64 gv.W (bO .i64 2 y2))),(14,vO 5000),(17,vT leads),(18,vI a2),(19,vI (bm .i64 n y2)),(20,vI (bm .i64 n1 y2)),(21,vO 5001),(103,vI (b9 gv.Cells)),(104,vI a2),(120,.u (.one (dR2 t.Hood))),(121,vI (b9 t.Hood)),(122,vI a3)]) (fun stt:Int×(List Int)=>match stt with | (_a3,in_)=>[(3,.box [dI t.States,dR2 t.Hood,dR1 t.Nodes]),(4,.box [dI gv.W,dI gv.H,dI gv.Edge,dL gv.Cells]),(5,.box (List.map (cI .u8) [cells.1,cells.2.1,cells.2.2.1,cells.2.2.2.1,cells.2.2.2.2.1,cells.2.2.2.2.2.1,cells.2.2.2.2.2.2.1,cells.2.2.2.2.2.2.2.1,cells.2.2.2.2.2.2.2.2.1,cells.2.2.2.2.2.2.2.2.2.1,cells.2.2.2.2.2.2.2.2.2.2.1,cells.2.2.2.2.2.2.2.2.2.2.2.1,cells.2.2.2.2.2.2.2.2.2.2.2.2.1,cells.2.2.2.2.2.2.2.2.2.2.2.2.2.1,cells.2.2.2.2.2.2.2.2.2.2.2.2.2.2.1,cells.2.2.2.2.2.2.2.2.2.2.2.2.2.2.2])),(7,.box [dI y.1.Vars,.d (.sl 1 (List.map (rS 1 (rI .i64)) y.1.Clauses))]),(5000,.row 1 4 (List.map rB l)),(5001,.row 1 3 (List.map (rI .i64) in_))]) stt Z O):Swp Tryz.prog cx (.loop (dx [1,1,1,1,1,1,1,1,1,1,0,1,0,0,1,1,0,0,1,1,1,0,1,0,0] (bQ Tryz.f3))) Z O (f0 cx t gv cells y y2 l leads a2 n n1 tt):=by
 refine cz hE hh (f0 cx t gv cells y y2 l leads a2 n n1) ?_
 rintro⟨a3,in_⟩ r hm Z O hf
 simp only[Fits,bv,bu,and_true] at hf
 unfold cP at hm
 dsimp only at hm
 refine srs hn ?_
 simp -dsimp [hf]
 refine aZ ?_
 rcases bc hm with ⟨c23,hm⟩ | ⟨c23,hm⟩
 ·refine aW (by simp -dsimp) c23 ?_
  refine aY (aU (aZ (b7 ?_)))
  refine srs hn ?_
  obtain⟨x,h24,hm⟩:=bnd hm
  simp -dsimp [hf,c23,h24]
  refine oT bL mixed 19 (by rw[hn]; kernel_rfl) ?_
  dsimp only [List.take,List.drop]
  obtain⟨x1,h25,hm⟩:=bnd hm
  obtain⟨n2,h26,hm⟩:=bnd hm
  obtain⟨l1,h27,hm⟩:=bnd hm
  obtain⟨h27a,h27e⟩:=ct h27
  replace h27e:=h27e.symm
  subst h27e
  try simp only[List.length_cons,List.length_nil,Nat.zero_add] at h27a
  simp -dsimp [hf,mY h25,(@id (([.d (.int .u8 cells.1),.d (.int .u8 cells.2.1),.d (.int .u8 cells.2.2.1),.d (.int .u8 cells.2.2.2.1),.d (.int .u8 cells.2.2.2.2.1),.d (.int .u8 cells.2.2.2.2.2.1),.d (.int .u8 cells.2.2.2.2.2.2.1),.d (.int .u8 cells.2.2.2.2.2.2.2.1),.d (.int .u8 cells.2.2.2.2.2.2.2.2.1),.d (.int .u8 cells.2.2.2.2.2.2.2.2.2.1),.d (.int .u8 cells.2.2.2.2.2.2.2.2.2.2.1),.d (.int .u8 cells.2.2.2.2.2.2.2.2.2.2.2.1),.d (.int .u8 cells.2.2.2.2.2.2.2.2.2.2.2.2.1),.d (.int .u8 cells.2.2.2.2.2.2.2.2.2.2.2.2.2.1),.d (.int .u8 cells.2.2.2.2.2.2.2.2.2.2.2.2.2.2.1),.d (.int .u8 cells.2.2.2.2.2.2.2.2.2.2.2.2.2.2.2)]:List C)[(bm .i64 (bm .i64 (bO .i64 (bm .i64 (bm .i64 n1 y2) x.Y) (bm .i64 gv.W (bO .i64 2 y2))) (bm .i64 n y2)) x.X).toNat]?=some ((cI .u8) _)) (aidx_map (cI .u8) h25)),h26,h27a]
  refine bI ?_
  refine aU ?_
  refine sr1 hn ?_
  simp -dsimp [hf]
  cases hm
  refine bC ?_
  refine emv 145 5001 ?_
  exact EE.here (by simp -dsimp [hf])
 ·refine aV (by simp -dsimp) c23 ?_
  refine bp ?_
  refine b8 ?_
  cases hm
  refine bz nofun ?_
  exact⟨rfl,EE.here (by simp -dsimp [hf,c23])⟩
def ff (cx:Cx) (_t:Tree) (_gv:Grid) (_cells:Int×Int×Int×Int×Int×Int×Int×Int×Int×Int×Int×Int×Int×Int×Int×Int) (y:B9×Int×Int) (_y2:Int) (l:List Bool) (tt:Bool) (ee:Exit) (Z:Env) (O:Sto):Prop:=match tt with
 | leads=>ee=.exit 4/\EE cx (bY [(7,vX 7),(14,vO 5000),(17,vT leads)] [(7,.box [dI y.1.Vars,.d (.sl 1 (List.map (rS 1 (rI .i64)) y.1.Clauses))]),(5000,.row 1 4 (List.map rB l))]) Z O
set_option maxHeartbeats 1000000 in
theorem nD (cx:Cx) (hn:cx.n=168) (t:Tree) (gv:Grid) (cells:Int×Int×Int×Int×Int×Int×Int×Int×Int×Int×Int×Int×Int×Int×Int×Int) (y:B9×Int×Int) (y2:Int) (l:List Bool) {fu:Nat} {stt:Bool×Int} {tt:Bool} (hh:bh (cA t gv cells y y2 l) fu stt=some tt) {Z:Env} {O:Sto}
  (hE:cw (fun stt:Bool×Int=>match stt with | (leads,a2)=>[(3,vX 3),(4,vX 4),(5,vX 5),(7,vX 7),(11,vI y2),(12,vI (bm .i64 gv.W (bO .i64 2 y2))),(14,vO 5000),(17,vT leads),(103,vI (b9 gv.Cells)),(104,vI a2)]) (fun stt:Bool×Int=>match stt with | (_leads,_a2)=>[(3,.box [dI t.States,dR2 t.Hood,dR1 t.Nodes]),(4,.box [dI gv.W,dI gv.H,dI gv.Edge,dL gv.Cells]),(5,.box (List.map (cI .u8) [cells.1,cells.2.1,cells.2.2.1,cells.2.2.2.1,cells.2.2.2.2.1,cells.2.2.2.2.2.1,cells.2.2.2.2.2.2.1,cells.2.2.2.2.2.2.2.1,cells.2.2.2.2.2.2.2.2.1,cells.2.2.2.2.2.2.2.2.2.1,cells.2.2.2.2.2.2.2.2.2.2.1,cells.2.2.2.2.2.2.2.2.2.2.2.1,cells.2.2.2.2.2.2.2.2.2.2.2.2.1,cells.2.2.2.2.2.2.2.2.2.2.2.2.2.1,cells.2.2.2.2.2.2.2.2.2.2.2.2.2.2.1,cells.2.2.2.2.2.2.2.2.2.2.2.2.2.2.2])),(7,.box [dI y.1.Vars,.d (.sl 1 (List.map (rS 1 (rI .i64)) y.1.Clauses))]),(5000,.row 1 4 (List.map rB l))]) stt Z O):Swp Tryz.prog cx (.loop (dx [1,1,1,1,1,1,1,1,1,1,0,1,0,0] (bQ Tryz.f3))) Z O (ff cx t gv cells y y2 l tt):=by
 refine cz hE hh (ff cx t gv cells y y2 l) ?_
 rintro⟨leads,a2⟩ r hm Z O hf
 simp only[Fits,bv,bu,and_true] at hf
 unfold cA at hm
 dsimp only at hm
 refine srs hn ?_
 simp -dsimp [hf]
 refine aZ ?_
 rcases bc hm with ⟨c20,hm⟩ | ⟨c20,hm⟩
 ·refine aW (by simp -dsimp) c20 ?_
  refine aY (aU (aZ (b7 ?_)))
  refine srs hn ?_
  simp -dsimp [hf,c20]
  refine fQ bL mixed (by rw[hn]; kernel_rfl) ?_
  obtain⟨n,h21,hm⟩:=bnd hm
  obtain⟨n1,h22,hm⟩:=bnd hm
  simp -dsimp [hf,h21,h22]
  refine srs hn ?_
  simp -dsimp
  refine aZ ?_
  refine srs hn ?_
  simp -dsimp [hf]
  refine b7 ?_
  obtain⟨in_,g28,hm⟩:=bnd hm
  refine bP (nH cx hn t gv cells y y2 l leads a2 n n1 g28) (by
    try dsimp only
    refine EE.step (Wk.own0 21 5001 1 3 (by simp -dsimp) (by decide)) ?_
    exact EE.here (by simp -dsimp [hf])
  ) fun ee Z O xx=>?_
  unfold f0 at xx
  dsimp only at xx
  obtain⟨rfl,xx⟩:=xx
  refine br ?_
  refine aU ?_
  refine see xx fun Z O hf=>?_
  simp only[Fits,bv,bu,and_true] at hf
  refine sw_qt bL mixed (by rw[hn]; kernel_rfl) ?_
  rcases bc hm with ⟨c29,hm⟩ | ⟨c29,hm⟩
  ·obtain⟨y3,h30,hm⟩:=bnd hm
   simp -dsimp [hf,c29]
   refine qcallL_brw (us':=[.u (.agg [dI t.States,dR2 t.Hood,dR1 t.Nodes]),.u (.one (dL in_))]) (c_R12_Value t in_ y3 h30) (by simp -dsimp [hf]) rfl ?_
   obtain⟨x,h31,hm⟩:=bnd hm
   simp -dsimp [hf,h31]
   refine bI ?_
   refine aU ?_
   refine sr1 hn ?_
   simp -dsimp [hf]
   cases hm
   refine bC ?_
   exact EE.here (by simp -dsimp [hf])
  ·simp -dsimp [hf,c29]
   refine bI ?_
   refine aU ?_
   refine sr1 hn ?_
   simp -dsimp [hf]
   cases hm
   refine bC ?_
   exact EE.here (by simp -dsimp [hf])
 ·refine aV (by simp -dsimp) c20 ?_
  refine bp ?_
  refine b8 ?_
  cases hm
  refine bz nofun ?_
  exact⟨rfl,EE.here (by simp -dsimp [hf,c20])⟩
set_option maxHeartbeats 1000000 in
theorem c_L45_UnrollAncestors (t:Tree) (gv:Grid) (cells:Int×Int×Int×Int×Int×Int×Int×Int×Int×Int×Int×Int×Int×Int×Int×Int) (r:Bool) (hm:fU t gv cells=some r):bg Tryz.prog 3 [.u (.agg [dI t.States,dR2 t.Hood,dR1 t.Nodes]),.u (.agg [dI gv.W,dI gv.H,dI gv.Edge,dL gv.Cells]),.u (.agg [.d (.int .u8 cells.1),.d (.int .u8 cells.2.1),.d (.int .u8 cells.2.2.1),.d (.int .u8 cells.2.2.2.1),.d (.int .u8 cells.2.2.2.2.1),.d (.int .u8 cells.2.2.2.2.2.1),.d (.int .u8 cells.2.2.2.2.2.2.1),.d (.int .u8 cells.2.2.2.2.2.2.2.1),.d (.int .u8 cells.2.2.2.2.2.2.2.2.1),.d (.int .u8 cells.2.2.2.2.2.2.2.2.2.1),.d (.int .u8 cells.2.2.2.2.2.2.2.2.2.2.1),.d (.int .u8 cells.2.2.2.2.2.2.2.2.2.2.2.1),.d (.int .u8 cells.2.2.2.2.2.2.2.2.2.2.2.2.1),.d (.int .u8 cells.2.2.2.2.2.2.2.2.2.2.2.2.2.1),.d (.int .u8 cells.2.2.2.2.2.2.2.2.2.2.2.2.2.2.1),.d (.int .u8 cells.2.2.2.2.2.2.2.2.2.2.2.2.2.2.2)])] (vT r):=by
 refine dG Tryz.func3 Tryz.ntmps3 fun cx hn=>?_
 unfold fU at hm
 refine srs hn ?_
 simp -dsimp
 refine aZ ?_
 obtain⟨a,j38,hm⟩:=bnd hm
 refine scE [(3,vX 3),(4,vX 4),(5,vX 5),(33,vT a)] [(3,.box [dI t.States,dR2 t.Hood,dR1 t.Nodes]),(4,.box [dI gv.W,dI gv.H,dI gv.Edge,dL gv.Cells]),(5,.box [.d (.int .u8 cells.1),.d (.int .u8 cells.2.1),.d (.int .u8 cells.2.2.1),.d (.int .u8 cells.2.2.2.1),.d (.int .u8 cells.2.2.2.2.1),.d (.int .u8 cells.2.2.2.2.2.1),.d (.int .u8 cells.2.2.2.2.2.2.1),.d (.int .u8 cells.2.2.2.2.2.2.2.1),.d (.int .u8 cells.2.2.2.2.2.2.2.2.1),.d (.int .u8 cells.2.2.2.2.2.2.2.2.2.1),.d (.int .u8 cells.2.2.2.2.2.2.2.2.2.2.1),.d (.int .u8 cells.2.2.2.2.2.2.2.2.2.2.2.1),.d (.int .u8 cells.2.2.2.2.2.2.2.2.2.2.2.2.1),.d (.int .u8 cells.2.2.2.2.2.2.2.2.2.2.2.2.2.1),.d (.int .u8 cells.2.2.2.2.2.2.2.2.2.2.2.2.2.2.1),.d (.int .u8 cells.2.2.2.2.2.2.2.2.2.2.2.2.2.2.2)])] ?_ fun Z O hf=>?_
 ·replace hm:=j38
  clear j38
  refine sr1 hn ?_
  obtain⟨y,h1,hm⟩:=bnd hm
  simp -dsimp
  refine bi ((c_L45_Small t (⟨0,0,0,0,0,[]⟩:B8) y h1).wk (by simp[V.wkl])) (dkL hn) ?_
  rcases bc hm with ⟨c2,hm⟩ | ⟨c2,hm⟩
  ·simp -dsimp [c2]
   cases hm
   exact EE.here (by simp -dsimp)
  ·simp -dsimp [c2]
   cases hm
   exact EE.here (by simp -dsimp)
 ·clear j38
  simp only[Fits,bv,bu,and_true] at hf
  rcases bc hm with ⟨c3,hm⟩ | ⟨c3,hm⟩
  ·refine aW (by simp -dsimp [hf]) c3 ?_
   refine srs hn ?_
   obtain⟨y,h4,hm⟩:=bnd hm
   simp -dsimp
   refine bi (c_L45_alive y h4) (dkL hn) ?_
   simp -dsimp
   refine b0 (b8 ?_)
   cases hm
   refine⟨.inr rfl,?_⟩
   exact EE.here (by simp -dsimp)
  ·refine aV (by simp -dsimp [hf]) c3 ?_
   refine aY (aU ?_)
   refine srs hn ?_
   obtain⟨y,h5,hm⟩:=bnd hm
   simp -dsimp [hf]
   refine bi (nY t gv y h5) (dkL hn) ?_
   simp -dsimp
   refine aZ ?_
   refine srs hn ?_
   simp -dsimp
   rcases bc hm with ⟨c6,hm⟩ | ⟨c6,hm⟩
   ·refine aW (by simp -dsimp) c6 ?_
    refine srs hn ?_
    obtain⟨y1,h7,hm⟩:=bnd hm
    simp -dsimp [c6]
    refine bi (c_L45_alive y1 h7) (dkL hn) ?_
    simp -dsimp
    refine b0 (b8 ?_)
    cases hm
    refine⟨.inr rfl,?_⟩
    exact EE.here (by simp -dsimp)
   ·refine aV (by simp -dsimp) c6 ?_
    refine aY (aU ?_)
    refine fQ bL mixed (by rw[hn]; kernel_rfl) ?_
    obtain⟨y1,h8,hm⟩:=bnd hm
    simp -dsimp [hf,c6]
    refine bn (c_R18_Bits t.States y1 h8) ?_
    obtain⟨y2,h9,hm⟩:=bnd hm
    simp -dsimp [hf]
    refine bn (c_R07_Radius t.Hood y2 h9) ?_
    simp -dsimp
    refine fQ bL mixed (by rw[hn]; kernel_rfl) ?_
    simp -dsimp [hf]
    refine aZ ?_
    obtain⟨a1,j37,hm⟩:=bnd hm
    refine scE [(3,vX 3),(4,vX 4),(5,vX 5),(7,vX 7),(10,vI y1),(11,vI y2),(12,vI (bm .i64 gv.W (bO .i64 2 y2))),(13,vI (bm .i64 gv.H (bO .i64 2 y2))),(73,vT a1)] [(3,.box [dI t.States,dR2 t.Hood,dR1 t.Nodes]),(4,.box [dI gv.W,dI gv.H,dI gv.Edge,dL gv.Cells]),(5,.box [.d (.int .u8 cells.1),.d (.int .u8 cells.2.1),.d (.int .u8 cells.2.2.1),.d (.int .u8 cells.2.2.2.1),.d (.int .u8 cells.2.2.2.2.1),.d (.int .u8 cells.2.2.2.2.2.1),.d (.int .u8 cells.2.2.2.2.2.2.1),.d (.int .u8 cells.2.2.2.2.2.2.2.1),.d (.int .u8 cells.2.2.2.2.2.2.2.2.1),.d (.int .u8 cells.2.2.2.2.2.2.2.2.2.1),.d (.int .u8 cells.2.2.2.2.2.2.2.2.2.2.1),.d (.int .u8 cells.2.2.2.2.2.2.2.2.2.2.2.1),.d (.int .u8 cells.2.2.2.2.2.2.2.2.2.2.2.2.1),.d (.int .u8 cells.2.2.2.2.2.2.2.2.2.2.2.2.2.1),.d (.int .u8 cells.2.2.2.2.2.2.2.2.2.2.2.2.2.2.1),.d (.int .u8 cells.2.2.2.2.2.2.2.2.2.2.2.2.2.2.2)]),(7,.box [dI y.1.Vars,.d (.sl 1 (List.map (rS 1 (rI .i64)) y.1.Clauses))])] ?_ fun Z O hf=>?_
    ·replace hm:=j37
     clear j37
     refine sr1 hn ?_
     rcases bc hm with ⟨c10,hm⟩ | ⟨c10,hm⟩
     ·simp -dsimp [c10]
      cases hm
      exact EE.here (by simp -dsimp [hf])
     ·simp -dsimp [c10]
      cases hm
      exact EE.here (by simp -dsimp [hf])
    ·clear j37
     simp only[Fits,bv,bu,and_true] at hf
     rcases bc hm with ⟨c11,hm⟩ | ⟨c11,hm⟩
     ·refine aW (by simp -dsimp [hf]) c11 ?_
      refine srs hn ?_
      simp -dsimp
      refine b0 (b8 ?_)
      cases hm
      refine⟨.inr rfl,?_⟩
      exact EE.here (by simp -dsimp)
     ·refine aV (by simp -dsimp [hf]) c11 ?_
      refine aY (aU ?_)
      refine srs hn ?_
      simp -dsimp
      refine aZ ?_
      refine srs hn ?_
      simp -dsimp [hf]
      refine b7 ?_
      obtain⟨l,g19,hm⟩:=bnd hm
      refine bP (nJ cx hn t gv cells y y1 y2 g19) (by
        try dsimp only
        refine EE.step (Wk.own0 14 5000 1 4 (by simp -dsimp) (by decide)) ?_
        exact EE.here (by simp -dsimp [hf])
      ) fun ee Z O xx=>?_
      unfold f5 at xx
      dsimp only at xx
      obtain⟨rfl,xx⟩:=xx
      refine br ?_
      refine aU ?_
      refine see xx fun Z O hf=>?_
      simp only[Fits,bv,bu,and_true] at hf
      refine srs hn ?_
      simp -dsimp
      refine aZ ?_
      refine srs hn ?_
      simp -dsimp [hf]
      refine b7 ?_
      obtain⟨leads,g32,hm⟩:=bnd hm
      refine bP (nD cx hn t gv cells y y2 l g32) (by
        try dsimp only
        exact EE.here (by simp -dsimp [hf])
      ) fun ee Z O xx=>?_
      unfold ff at xx
      dsimp only at xx
      obtain⟨rfl,xx⟩:=xx
      refine br ?_
      refine aU ?_
      refine see xx fun Z O hf=>?_
      simp only[Fits,bv,bu,and_true] at hf
      obtain⟨a2,j36,hm⟩:=bnd hm
      refine scE [(6,vT a2)] [] ?_ fun Z O hf=>?_
      ·replace hm:=j36
       clear j36
       refine sr1 hn ?_
       obtain⟨y3,h33,hm⟩:=bnd hm
       simp -dsimp [hf]
       refine m8 (us':=[.u (.agg [dI y.1.Vars,.d (.sl 1 (List.map (rS 1 (rI .i64)) y.1.Clauses))]),.u (.one (.d (.sl 1 (List.map rB l))))]) (c_L45_completes y.1 l y3 h33) (by simp -dsimp [hf]) rfl (dkL hn) ?_
       rcases bc hm with ⟨c34,hm⟩ | ⟨c34,hm⟩
       ·obtain⟨y4,h35,hm⟩:=bnd hm
        simp -dsimp [hf,c34]
        refine bi (c_L45_alive y4 h35) (dkL hn) ?_
        simp -dsimp
        cases hm
        exact EE.here (by simp -dsimp)
       ·simp -dsimp [hf,c34]
        cases hm
        exact EE.here (by simp -dsimp)
      ·clear j36
       simp only[Fits,bv,bu,and_true] at hf
       cases hm
       exact b0 ⟨.inr rfl,EE.here (by simp -dsimp [hf])⟩
end Go.Proofs.YtlifofijgddjkacGreatDoor
