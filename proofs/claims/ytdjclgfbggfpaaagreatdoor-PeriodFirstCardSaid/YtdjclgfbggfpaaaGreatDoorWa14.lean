/-
  That the code does what the functions say (made by cc.py).
-/
import Derived.Test.YtdjclgfbggfpaaaGreatDoorMd1
import Derived.Test.YtdjclgfbggfpaaaGreatDoorTb
import Derived.Test.YtdjclgfbggfpaaaGreatDoorWa4
import Derived.Test.YtdjclgfbggfpaaaGreatDoorWa5
import Derived.Test.YtdjclgfbggfpaaaGreatDoorWa6
import Derived.Test.YtdjclgfbggfpaaaGreatDoorWa7
import Derived.Test.YtdjclgfbggfpaaaGreatDoorWa11
namespace Go.Proofs.YtdjclgfbggfpaaaGreatDoor
open Go.AM Go.Proofs
attribute [-simp] qlookup cr dw Ob.wipe Ob.ren Ob.frz1
theorem f_L34_PeriodFirst (t : Tree) (p : List Cell) (r : Bool) (hm : cY t p = some r) : PFn Tryz.prog 7 [.u (.agg [.d (.int .i64 t.States), .d (.sl 2 (List.map Point.row t.Hood)), .d (.sl 2 (List.map Node.row t.Nodes))]), .u (.one (.d (.sl 3 (List.map Cell.row p))))] (fun v => v.wk (.u (.one (.d (.bool r))))) := by
 refine bw Tryz.func7 Tryz.ntmps7 rfl (by kernel_rfl) (by simp) fun cx hn => ?_
 unfold cY at hm
 refine srs hn (by kernel_rfl) ?_
 simp -dsimp []
 refine ai ?_
 refine srs hn (by kernel_rfl) ?_
 obtain ⟨y, h1, hm⟩ := bnd hm
 simp -dsimp []
 refine ag (ff t p y h1) (by rw [hn]; decide) ?_
 simp -dsimp
 rcases am hm with ⟨c2, hm⟩ | ⟨c2, hm⟩
 ·refine ab (b := (aR y)) (by simp -dsimp) c2 ?_
  refine srs hn (by kernel_rfl) ?_
  obtain ⟨y1, h3, hm⟩ := bnd hm
  simp -dsimp [c2]
  refine ag (aS y1 h3) (by rw [hn]; decide) ?_
  simp -dsimp
  refine ah ?_
  refine aj ?_
  cases hm
  refine ⟨.inr rfl, ?_⟩
  refine EE.here ?_
  simp -dsimp
 ·refine aa (b := (aR y)) (by simp -dsimp) c2 ?_
  refine ae ?_
  refine a7 ?_
  refine srs hn (by kernel_rfl) ?_
  obtain ⟨y1, h4, hm⟩ := bnd hm
  simp -dsimp [c2]
  refine ag (eE t p 10 3 y1 h4) (by rw [hn]; decide) ?_
  simp -dsimp
  refine ai ?_
  refine srs hn (by kernel_rfl) ?_
  simp -dsimp
  rcases am hm with ⟨c5, hm⟩ | ⟨c5, hm⟩
  ·refine ab (b := (neB y1.2.2 0)) (by simp -dsimp) c5 ?_
   refine srs hn (by kernel_rfl) ?_
   obtain ⟨y2, h6, hm⟩ := bnd hm
   simp -dsimp [c5]
   refine ag (c_R20_Run t p 0 y2 h6) (by rw [hn]; decide) ?_
   simp -dsimp
   obtain ⟨a, j17, hm⟩ := bnd hm
   refine av [(4, .u (.one (.d (.bool a))))] [] (by rfl) (by rfl) ?_ fun ρ σ hf => ?_
   ·replace hm := j17
    clear j17
    refine sr1 hn (by kernel_rfl) ?_
    rcases am hm with ⟨c7, hm⟩ | ⟨c7, hm⟩
    ·rcases am hm with ⟨c8, hm⟩ | ⟨c8, hm⟩
     ·rcases am hm with ⟨c9, hm⟩ | ⟨c9, hm⟩
      ·obtain ⟨y3, h10, hm⟩ := bnd hm
       simp -dsimp [c7, c8, c9]
       refine ag (aS y3 h10) (by rw [hn]; decide) ?_
       simp -dsimp
       refine a7 ?_
       cases hm
       refine EE.here ?_
       simp -dsimp
      ·rcases am hm with ⟨c11, hm⟩ | ⟨c11, hm⟩
       ·obtain ⟨y3, h12, hm⟩ := bnd hm
        simp -dsimp [c7, c8, c9, c11]
        refine ag (aS y3 h12) (by rw [hn]; decide) ?_
        simp -dsimp
        refine a7 ?_
        cases hm
        refine EE.here ?_
        simp -dsimp
       ·rcases am hm with ⟨c13, hm⟩ | ⟨c13, hm⟩
        ·obtain ⟨y3, h14, hm⟩ := bnd hm
         simp -dsimp [c7, c8, c9, c11, c13]
         refine ag (aS y3 h14) (by rw [hn]; decide) ?_
         simp -dsimp
         refine a7 ?_
         cases hm
         refine EE.here ?_
         simp -dsimp
        ·rcases am hm with ⟨c15, hm⟩ | ⟨c15, hm⟩
         ·obtain ⟨y3, h16, hm⟩ := bnd hm
          simp -dsimp [c7, c8, c9, c11, c13, c15]
          refine ag (aS y3 h16) (by rw [hn]; decide) ?_
          simp -dsimp
          refine a7 ?_
          cases hm
          refine EE.here ?_
          simp -dsimp
         ·simp -dsimp [c7, c8, c9, c11, c13, c15]
          refine a7 ?_
          cases hm
          refine EE.here ?_
          simp -dsimp
     ·simp -dsimp [c7, c8]
      refine a7 ?_
      cases hm
      refine EE.here ?_
      simp -dsimp
    ·simp -dsimp [c7]
     refine a7 ?_
     cases hm
     refine EE.here ?_
     simp -dsimp
   ·clear j17
    simp only [Fits, az, aA, and_true] at hf
    refine ah ?_
    refine aj ?_
    cases hm
    refine ⟨.inr rfl, ?_⟩
    refine EE.here ?_
    simp -dsimp [hf]
  ·refine aa (b := (neB y1.2.2 0)) (by simp -dsimp) c5 ?_
   refine ae ?_
   refine a7 ?_
   refine srs hn (by kernel_rfl) ?_
   obtain ⟨y2, h18, hm⟩ := bnd hm
   simp -dsimp [c5]
   refine ag (eJ t p y1.1 y2 h18) (by rw [hn]; decide) ?_
   simp -dsimp
   refine srs hn (by kernel_rfl) ?_
   obtain ⟨y3, h19, hm⟩ := bnd hm
   simp -dsimp
   refine ag (cg t y2.1 3 y3 h19) (by rw [hn]; decide) ?_
   simp -dsimp
   refine ai ?_
   obtain ⟨a, j34, hm⟩ := bnd hm
   refine av [(1, .u (.one (.d (.sl 3 (List.map Cell.row p))))), (2, .u (.one (.box 2 0))), (5, .u (.one (.d (.int .i64 y1.1)))), (92, .u (.one (.d (.bool a))))] [(2, .box [.d (.int .i64 t.States), .d (.sl 2 (List.map Point.row t.Hood)), .d (.sl 2 (List.map Node.row t.Nodes))])] (by rfl) (by rfl) ?_ fun ρ σ hf => ?_
   ·replace hm := j34
    clear j34
    refine sr1 hn (by kernel_rfl) ?_
    rcases am hm with ⟨c20, hm⟩ | ⟨c20, hm⟩
    ·simp -dsimp [c20]
     refine a7 ?_
     cases hm
     refine EE.here ?_
     simp -dsimp
    ·rcases am hm with ⟨c21, hm⟩ | ⟨c21, hm⟩
     ·simp -dsimp [c20, c21]
      refine a7 ?_
      cases hm
      refine EE.here ?_
      simp -dsimp
     ·rcases am hm with ⟨c22, hm⟩ | ⟨c22, hm⟩
      ·simp -dsimp [c20, c21, c22]
       refine a7 ?_
       cases hm
       refine EE.here ?_
       simp -dsimp
      ·simp -dsimp [c20, c21, c22]
       refine a7 ?_
       cases hm
       refine EE.here ?_
       simp -dsimp
   ·clear j34
    simp only [Fits, az, aA, and_true] at hf
    rcases am hm with ⟨c23, hm⟩ | ⟨c23, hm⟩
    ·refine ab (b := a) (by simp -dsimp [hf]) c23 ?_
     refine srs hn (by kernel_rfl) ?_
     simp -dsimp
     refine ah ?_
     refine aj ?_
     cases hm
     refine ⟨.inr rfl, ?_⟩
     refine EE.here ?_
     simp -dsimp
    ·refine aa (b := a) (by simp -dsimp [hf]) c23 ?_
     refine ae ?_
     refine a7 ?_
     refine ai ?_
     refine srs hn (by kernel_rfl) ?_
     simp -dsimp [hf]
     rcases am hm with ⟨c24, hm⟩ | ⟨c24, hm⟩
     ·refine ab (b := (eqB y1.1 0)) (by simp -dsimp) c24 ?_
      refine srs hn (by kernel_rfl) ?_
      obtain ⟨y4, h25, hm⟩ := bnd hm
      simp -dsimp [c24]
      refine ag (aS y4 h25) (by rw [hn]; decide) ?_
      simp -dsimp
      refine ah ?_
      refine aj ?_
      cases hm
      refine ⟨.inr rfl, ?_⟩
      refine EE.here ?_
      simp -dsimp
     ·refine aa (b := (eqB y1.1 0)) (by simp -dsimp) c24 ?_
      refine ae ?_
      refine a7 ?_
      refine srs hn (by kernel_rfl) ?_
      obtain ⟨y4, h26, hm⟩ := bnd hm
      simp -dsimp [hf, c24]
      refine ag (eJ t p (aM .i64 y1.1 1) y4 h26) (by rw [hn]; decide) ?_
      simp -dsimp
      refine srs hn (by kernel_rfl) ?_
      obtain ⟨y5, h27, hm⟩ := bnd hm
      simp -dsimp [hf]
      refine ag (cg t y4.1 3 y5 h27) (by rw [hn]; decide) ?_
      simp -dsimp
      obtain ⟨a1, j33, hm⟩ := bnd hm
      refine av [(4, .u (.one (.d (.bool a1))))] [] (by rfl) (by rfl) ?_ fun ρ σ hf => ?_
      ·replace hm := j33
       clear j33
       refine sr1 hn (by kernel_rfl) ?_
       rcases am hm with ⟨c28, hm⟩ | ⟨c28, hm⟩
       ·rcases am hm with ⟨c29, hm⟩ | ⟨c29, hm⟩
        ·rcases am hm with ⟨c30, hm⟩ | ⟨c30, hm⟩
         ·rcases am hm with ⟨c31, hm⟩ | ⟨c31, hm⟩
          ·obtain ⟨y6, h32, hm⟩ := bnd hm
           simp -dsimp [c28, c29, c30, c31]
           refine ag (aS y6 h32) (by rw [hn]; decide) ?_
           simp -dsimp
           refine a7 ?_
           cases hm
           refine EE.here ?_
           simp -dsimp
          ·simp -dsimp [c28, c29, c30, c31]
           refine a7 ?_
           cases hm
           refine EE.here ?_
           simp -dsimp
         ·simp -dsimp [c28, c29, c30]
          refine a7 ?_
          cases hm
          refine EE.here ?_
          simp -dsimp
        ·simp -dsimp [c28, c29]
         refine a7 ?_
         cases hm
         refine EE.here ?_
         simp -dsimp
       ·simp -dsimp [c28]
        refine a7 ?_
        cases hm
        refine EE.here ?_
        simp -dsimp
      ·clear j33
       simp only [Fits, az, aA, and_true] at hf
       refine ah ?_
       cases hm
       refine ⟨.inr rfl, ?_⟩
       refine EE.here ?_
       simp -dsimp [hf]
theorem c_L34_PeriodFirst (t : Tree) (p : List Cell) (r : Bool) (hm : cY t p = some r) : PureCall Tryz.prog 7 [.u (.agg [.d (.int .i64 t.States), .d (.sl 2 (List.map Point.row t.Hood)), .d (.sl 2 (List.map Node.row t.Nodes))]), .u (.one (.d (.sl 3 (List.map Cell.row p))))] (.u (.one (.d (.bool r)))) := (f_L34_PeriodFirst t p r hm).pureW
end Go.Proofs.YtdjclgfbggfpaaaGreatDoor
