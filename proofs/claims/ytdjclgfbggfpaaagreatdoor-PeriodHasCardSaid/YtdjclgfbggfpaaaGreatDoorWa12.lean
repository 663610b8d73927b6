/-
  That the code does what the functions say (made by cc.py).
-/
import Derived.Test.YtdjclgfbggfpaaaGreatDoorMd1
import Derived.Test.YtdjclgfbggfpaaaGreatDoorTb
import Derived.Test.YtdjclgfbggfpaaaGreatDoorWa5
import Derived.Test.YtdjclgfbggfpaaaGreatDoorWa6
import Derived.Test.YtdjclgfbggfpaaaGreatDoorWa7
import Derived.Test.YtdjclgfbggfpaaaGreatDoorWa11
namespace Go.Proofs.YtdjclgfbggfpaaaGreatDoor
open Go.AM Go.Proofs
attribute [-simp] qlookup cn dG Ob.wipe Ob.ren Ob.frz1
theorem f_R34_Has (t : Tree) (p : List Cell) (m : Motion) (r : Bool × Int) (hm : ib t p m = some r) : PFn Tryz.prog 15 [.u (.agg [.d (.int .i64 t.States), .d (.sl 2 (List.map Point.row t.Hood)), .d (.sl 2 (List.map Node.row t.Nodes))]), .u (.one (.d (.sl 3 (List.map Cell.row p)))), .u (.agg [.d (.int .i64 m.Period), .d (.int .i64 m.DX), .d (.int .i64 m.DY)])] (fun v => v.wk (.tup [.one (.d (.bool r.1)), .one (.d (.int .i64 r.2))])) := by
 refine bv Tryz.func15 Tryz.ntmps15 rfl (by kernel_rfl) (by simp) fun cx hn => ?_
 unfold ib at hm
 refine srs hn (by kernel_rfl) ?_
 simp -dsimp []
 refine srs hn (by kernel_rfl) ?_
 obtain ⟨y, h1, hm⟩ := bnd hm
 simp -dsimp []
 refine ag (c_R34_Find t p m.Period y h1) (by rw [hn]; decide) ?_
 simp -dsimp
 refine ai ?_
 refine srs hn (by kernel_rfl) ?_
 simp -dsimp
 rcases am hm with ⟨c2, hm⟩ | ⟨c2, hm⟩
 ·refine ab (b := (neB y.2.2 0)) (by simp -dsimp) c2 ?_
  refine srs hn (by kernel_rfl) ?_
  simp -dsimp [c2]
  refine ah ?_
  refine aj ?_
  cases hm
  refine ⟨.inr rfl, ?_⟩
  refine EE.here ?_
  simp -dsimp
 ·refine aa (b := (neB y.2.2 0)) (by simp -dsimp) c2 ?_
  refine ae ?_
  refine a7 ?_
  obtain ⟨a, j4, hm⟩ := bnd hm
  refine av [(6, .u (.one (.d (.bool a)))), (7, .u (.one (.d (.int .i64 0))))] [] (by rfl) (by rfl) ?_ fun ρ σ hf => ?_
  ·replace hm := j4
   clear j4
   refine sr1 hn (by kernel_rfl) ?_
   rcases am hm with ⟨c3, hm⟩ | ⟨c3, hm⟩
   ·simp -dsimp [c2, c3]
    refine a7 ?_
    cases hm
    refine EE.here ?_
    simp -dsimp
   ·simp -dsimp [c2, c3]
    refine a7 ?_
    cases hm
    refine EE.here ?_
    simp -dsimp
  ·clear j4
   simp only [Fits, az, aA, and_true] at hf
   refine ah ?_
   cases hm
   refine ⟨.inr rfl, ?_⟩
   refine EE.here ?_
   simp -dsimp [hf]
theorem c_R34_Has (t : Tree) (p : List Cell) (m : Motion) (r : Bool × Int) (hm : ib t p m = some r) : PureCall Tryz.prog 15 [.u (.agg [.d (.int .i64 t.States), .d (.sl 2 (List.map Point.row t.Hood)), .d (.sl 2 (List.map Node.row t.Nodes))]), .u (.one (.d (.sl 3 (List.map Cell.row p)))), .u (.agg [.d (.int .i64 m.Period), .d (.int .i64 m.DX), .d (.int .i64 m.DY)])] (.tup [.one (.d (.bool r.1)), .one (.d (.int .i64 r.2))]) := (f_R34_Has t p m r hm).pureW
theorem f_L34_PeriodHas (t : Tree) (p : List Cell) (m : Motion) (r : Bool) (hm : dI t p m = some r) : PFn Tryz.prog 4 [.u (.agg [.d (.int .i64 t.States), .d (.sl 2 (List.map Point.row t.Hood)), .d (.sl 2 (List.map Node.row t.Nodes))]), .u (.one (.d (.sl 3 (List.map Cell.row p)))), .u (.agg [.d (.int .i64 m.Period), .d (.int .i64 m.DX), .d (.int .i64 m.DY)])] (fun v => v.wk (.u (.one (.d (.bool r))))) := by
 refine bv Tryz.func4 Tryz.ntmps4 rfl (by kernel_rfl) (by simp) fun cx hn => ?_
 unfold dI at hm
 refine srs hn (by kernel_rfl) ?_
 simp -dsimp []
 refine ai ?_
 obtain ⟨a, j12, hm⟩ := bnd hm
 refine av [(1, .u (.one (.d (.sl 3 (List.map Cell.row p))))), (3, .u (.one (.box 3 0))), (5, .u (.one (.box 5 0))), (24, .u (.one (.d (.bool a))))] [(3, .box [.d (.int .i64 t.States), .d (.sl 2 (List.map Point.row t.Hood)), .d (.sl 2 (List.map Node.row t.Nodes))]), (5, .box [.d (.int .i64 m.Period), .d (.int .i64 m.DX), .d (.int .i64 m.DY)])] (by rfl) (by rfl) ?_ fun ρ σ hf => ?_
 ·replace hm := j12
  clear j12
  refine sr1 hn (by kernel_rfl) ?_
  obtain ⟨y, h1, hm⟩ := bnd hm
  simp -dsimp []
  refine ag (fm t p y h1) (by rw [hn]; decide) ?_
  rcases am hm with ⟨c2, hm⟩ | ⟨c2, hm⟩
  ·simp -dsimp [c2]
   refine a7 ?_
   cases hm
   refine EE.here ?_
   simp -dsimp
  ·rcases am hm with ⟨c3, hm⟩ | ⟨c3, hm⟩
   ·simp -dsimp [c2, c3]
    refine a7 ?_
    cases hm
    refine EE.here ?_
    simp -dsimp
   ·simp -dsimp [c2, c3]
    refine a7 ?_
    cases hm
    refine EE.here ?_
    simp -dsimp
 ·clear j12
  simp only [Fits, az, aA, and_true] at hf
  rcases am hm with ⟨c4, hm⟩ | ⟨c4, hm⟩
  ·refine ab (b := a) (by simp -dsimp [hf]) c4 ?_
   refine srs hn (by kernel_rfl) ?_
   obtain ⟨y, h5, hm⟩ := bnd hm
   simp -dsimp
   refine ag (aS y h5) (by rw [hn]; decide) ?_
   simp -dsimp
   refine ah ?_
   refine aj ?_
   cases hm
   refine ⟨.inr rfl, ?_⟩
   refine EE.here ?_
   simp -dsimp
  ·refine aa (b := a) (by simp -dsimp [hf]) c4 ?_
   refine ae ?_
   refine a7 ?_
   refine srs hn (by kernel_rfl) ?_
   obtain ⟨y, h6, hm⟩ := bnd hm
   simp -dsimp [hf]
   refine ag (gj t p m y h6) (by rw [hn]; decide) ?_
   simp -dsimp
   refine srs hn (by kernel_rfl) ?_
   obtain ⟨y1, h7, hm⟩ := bnd hm
   simp -dsimp [hf]
   refine ag (c_R34_Has t p m y1 h7) (by rw [hn]; decide) ?_
   simp -dsimp
   obtain ⟨a1, j11, hm⟩ := bnd hm
   refine av [(6, .u (.one (.d (.bool a1))))] [] (by rfl) (by rfl) ?_ fun ρ σ hf => ?_
   ·replace hm := j11
    clear j11
    refine sr1 hn (by kernel_rfl) ?_
    rcases am hm with ⟨c8, hm⟩ | ⟨c8, hm⟩
    ·rcases am hm with ⟨c9, hm⟩ | ⟨c9, hm⟩
     ·obtain ⟨y2, h10, hm⟩ := bnd hm
      simp -dsimp [c8, c9]
      refine ag (aS y2 h10) (by rw [hn]; decide) ?_
      simp -dsimp
      refine a7 ?_
      cases hm
      refine EE.here ?_
      simp -dsimp
     ·simp -dsimp [c8, c9]
      refine a7 ?_
      cases hm
      refine EE.here ?_
      simp -dsimp
    ·simp -dsimp [c8]
     refine a7 ?_
     cases hm
     refine EE.here ?_
     simp -dsimp
   ·clear j11
    simp only [Fits, az, aA, and_true] at hf
    refine ah ?_
    cases hm
    refine ⟨.inr rfl, ?_⟩
    refine EE.here ?_
    simp -dsimp [hf]
theorem c_L34_PeriodHas (t : Tree) (p : List Cell) (m : Motion) (r : Bool) (hm : dI t p m = some r) : PureCall Tryz.prog 4 [.u (.agg [.d (.int .i64 t.States), .d (.sl 2 (List.map Point.row t.Hood)), .d (.sl 2 (List.map Node.row t.Nodes))]), .u (.one (.d (.sl 3 (List.map Cell.row p)))), .u (.agg [.d (.int .i64 m.Period), .d (.int .i64 m.DX), .d (.int .i64 m.DY)])] (.u (.one (.d (.bool r)))) := (f_L34_PeriodHas t p m r hm).pureW
end Go.Proofs.YtdjclgfbggfpaaaGreatDoor
