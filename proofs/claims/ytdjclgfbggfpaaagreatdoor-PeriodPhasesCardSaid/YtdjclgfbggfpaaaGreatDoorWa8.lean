/-
  That the code does what the functions say (made by cc.py).
-/
import Derived.Test.YtdjclgfbggfpaaaGreatDoorMd1
import Derived.Test.YtdjclgfbggfpaaaGreatDoorTb
import Derived.Test.YtdjclgfbggfpaaaGreatDoorWa4
import Derived.Test.YtdjclgfbggfpaaaGreatDoorWa5
import Derived.Test.YtdjclgfbggfpaaaGreatDoorWa6
import Derived.Test.YtdjclgfbggfpaaaGreatDoorWa7
namespace Go.Proofs.YtdjclgfbggfpaaaGreatDoor
open Go.AM Go.Proofs
attribute [-simp] qlookup cr dw Ob.wipe Ob.ren Ob.frz1
theorem f_L34_PeriodPhases (t : Tree) (p : List Cell) (move : Int × Int) (r : Bool) (hm : cH t p move = some r) : PFn Tryz.prog 9 [.u (.agg [.d (.int .i64 t.States), .d (.sl 2 (List.map Point.row t.Hood)), .d (.sl 2 (List.map Node.row t.Nodes))]), .u (.one (.d (.sl 3 (List.map Cell.row p)))), .u (.agg [.d (.int .i8 move.1), .d (.int .i8 move.2)])] (fun v => v.wk (.u (.one (.d (.bool r))))) := by
 refine bw Tryz.func9 Tryz.ntmps9 rfl (by kernel_rfl) (by simp) fun cx hn => ?_
 unfold cH at hm
 refine srs hn (by kernel_rfl) ?_
 simp -dsimp []
 refine ai ?_
 refine srs hn (by kernel_rfl) ?_
 obtain ⟨y, h1, hm⟩ := bnd hm
 simp -dsimp []
 refine ag (ff t p y h1) (by rw [hn]; decide) ?_
 simp -dsimp
 rcases am hm with ⟨c2, hm⟩ | ⟨c2, hm⟩
 ·refine ab (b := (aR y)) (by simp -dsimp) c2 ?_
  refine srs hn (by kernel_rfl) ?_
  obtain ⟨y1, h3, hm⟩ := bnd hm
  simp -dsimp [c2]
  refine ag (aS y1 h3) (by rw [hn]; decide) ?_
  simp -dsimp
  refine ah ?_
  refine aj ?_
  cases hm
  refine ⟨.inr rfl, ?_⟩
  refine EE.here ?_
  simp -dsimp
 ·refine aa (b := (aR y)) (by simp -dsimp) c2 ?_
  refine ae ?_
  refine a7 ?_
  refine srs hn (by kernel_rfl) ?_
  obtain ⟨y1, h4, hm⟩ := bnd hm
  simp -dsimp [c2]
  refine ag (cg t p 6 y1 h4) (by rw [hn]; decide) ?_
  simp -dsimp
  refine ai ?_
  obtain ⟨a, j33, hm⟩ := bnd hm
  refine av [(1, .u (.one (.d (.sl 3 (List.map Cell.row p))))), (3, .u (.one (.box 3 0))), (5, .u (.one (.box 5 0))), (7, .u (.one (.box 7 0))), (35, .u (.one (.d (.bool a))))] [(3, .box [.d (.int .i64 t.States), .d (.sl 2 (List.map Point.row t.Hood)), .d (.sl 2 (List.map Node.row t.Nodes))]), (5, .box [.d (.int .i8 move.1), .d (.int .i8 move.2)]), (7, .box [.d (.int .i64 y1.1.Period), .d (.int .i64 y1.1.DX), .d (.int .i64 y1.1.DY)])] (by rfl) (by rfl) ?_ fun ρ σ hf => ?_
  ·replace hm := j33
   clear j33
   refine sr1 hn (by kernel_rfl) ?_
   rcases am hm with ⟨c5, hm⟩ | ⟨c5, hm⟩
   ·simp -dsimp [c5]
    refine a7 ?_
    cases hm
    refine EE.here ?_
    simp -dsimp
   ·simp -dsimp [c5]
    refine a7 ?_
    cases hm
    refine EE.here ?_
    simp -dsimp
  ·clear j33
   simp only [Fits, az, aA, and_true] at hf
   rcases am hm with ⟨c6, hm⟩ | ⟨c6, hm⟩
   ·refine ab (b := a) (by simp -dsimp [hf]) c6 ?_
    refine srs hn (by kernel_rfl) ?_
    obtain ⟨y2, h7, hm⟩ := bnd hm
    simp -dsimp
    refine ag (aS y2 h7) (by rw [hn]; decide) ?_
    simp -dsimp
    refine ah ?_
    refine aj ?_
    cases hm
    refine ⟨.inr rfl, ?_⟩
    refine EE.here ?_
    simp -dsimp
   ·refine aa (b := a) (by simp -dsimp [hf]) c6 ?_
    refine ae ?_
    refine a7 ?_
    refine srs hn (by kernel_rfl) ?_
    obtain ⟨y2, h8, hm⟩ := bnd hm
    simp -dsimp [hf]
    refine ag (i3 t p y2 h8) (by rw [hn]; decide) ?_
    simp -dsimp
    refine srs hn (by kernel_rfl) ?_
    obtain ⟨y3, h9, hm⟩ := bnd hm
    simp -dsimp [hf, (@id (aok 2 0 = true) rfl), (@id (aok 2 1 = true) rfl)]
    refine ag (ge p (gH .i64 move.1) (gH .i64 move.2) y3 h9) (by rw [hn]; decide) ?_
    simp -dsimp
    refine ai ?_
    obtain ⟨a1, j32, hm⟩ := bnd hm
    refine av [(3, .u (.one (.box 3 0))), (7, .u (.one (.box 7 0))), (10, .u (.one (.d (.sl 3 (List.map Cell.row y2.1))))), (11, .u (.one (.d (.int .i64 y2.2)))), (12, .u (.one (.d (.sl 3 (List.map Cell.row y3.1))))), (13, .u (.one (.d (.int .i64 y3.2)))), (59, .u (.one (.d (.bool a1))))] [(3, .box [.d (.int .i64 t.States), .d (.sl 2 (List.map Point.row t.Hood)), .d (.sl 2 (List.map Node.row t.Nodes))]), (7, .box [.d (.int .i64 y1.1.Period), .d (.int .i64 y1.1.DX), .d (.int .i64 y1.1.DY)])] (by rfl) (by rfl) ?_ fun ρ σ hf => ?_
    ·replace hm := j32
     clear j32
     refine sr1 hn (by kernel_rfl) ?_
     rcases am hm with ⟨c10, hm⟩ | ⟨c10, hm⟩
     ·simp -dsimp [c10]
      refine a7 ?_
      cases hm
      refine EE.here ?_
      simp -dsimp [hf]
     ·simp -dsimp [c10]
      refine a7 ?_
      cases hm
      refine EE.here ?_
      simp -dsimp [hf]
    ·clear j32
     simp only [Fits, az, aA, and_true] at hf
     rcases am hm with ⟨c11, hm⟩ | ⟨c11, hm⟩
     ·refine ab (b := a1) (by simp -dsimp [hf]) c11 ?_
      obtain ⟨a2, j15, hm⟩ := bnd hm
      refine av [(6, .u (.one (.d (.bool a2))))] [] (by rfl) (by rfl) ?_ fun ρ σ hf => ?_
      ·replace hm := j15
       clear j15
       refine sr1 hn (by kernel_rfl) ?_
       rcases am hm with ⟨c12, hm⟩ | ⟨c12, hm⟩
       ·rcases am hm with ⟨c13, hm⟩ | ⟨c13, hm⟩
        ·obtain ⟨y4, h14, hm⟩ := bnd hm
         simp -dsimp [hf, c12, c13]
         refine ag (aS y4 h14) (by rw [hn]; decide) ?_
         simp -dsimp
         refine a7 ?_
         cases hm
         refine EE.here ?_
         simp -dsimp
        ·simp -dsimp [hf, c12, c13]
         refine a7 ?_
         cases hm
         refine EE.here ?_
         simp -dsimp
       ·simp -dsimp [hf, c12]
        refine a7 ?_
        cases hm
        refine EE.here ?_
        simp -dsimp
      ·clear j15
       simp only [Fits, az, aA, and_true] at hf
       refine ah ?_
       refine aj ?_
       cases hm
       refine ⟨.inr rfl, ?_⟩
       refine EE.here ?_
       simp -dsimp [hf]
     ·refine aa (b := a1) (by simp -dsimp [hf]) c11 ?_
      refine ae ?_
      refine a7 ?_
      refine srs hn (by kernel_rfl) ?_
      obtain ⟨y4, h16, hm⟩ := bnd hm
      simp -dsimp [hf]
      refine ag (gg t y2.1 y1.1 y4 h16) (by rw [hn]; decide) ?_
      simp -dsimp
      refine srs hn (by kernel_rfl) ?_
      obtain ⟨y5, h17, hm⟩ := bnd hm
      simp -dsimp [hf]
      refine ag (gg t y3.1 y1.1 y5 h17) (by rw [hn]; decide) ?_
      simp -dsimp
      obtain ⟨a2, j31, hm⟩ := bnd hm
      refine av [(6, .u (.one (.d (.bool a2))))] [] (by rfl) (by rfl) ?_ fun ρ σ hf => ?_
      ·replace hm := j31
       clear j31
       refine sr1 hn (by kernel_rfl) ?_
       rcases am hm with ⟨c18, hm⟩ | ⟨c18, hm⟩
       ·rcases am hm with ⟨c19, hm⟩ | ⟨c19, hm⟩
        ·obtain ⟨y6, h20, hm⟩ := bnd hm
         simp -dsimp [c18, c19]
         refine ag (aS y6 h20) (by rw [hn]; decide) ?_
         simp -dsimp
         refine a7 ?_
         cases hm
         refine EE.here ?_
         simp -dsimp
        ·rcases am hm with ⟨c21, hm⟩ | ⟨c21, hm⟩
         ·rcases am hm with ⟨c22, hm⟩ | ⟨c22, hm⟩
          ·obtain ⟨y6, h23, hm⟩ := bnd hm
           simp -dsimp [c18, c19, c21, c22]
           refine ag (aS y6 h23) (by rw [hn]; decide) ?_
           simp -dsimp
           refine a7 ?_
           cases hm
           refine EE.here ?_
           simp -dsimp
          ·simp -dsimp [c18, c19, c21, c22]
           refine a7 ?_
           cases hm
           refine EE.here ?_
           simp -dsimp
         ·simp -dsimp [c18, c19, c21]
          refine a7 ?_
          cases hm
          refine EE.here ?_
          simp -dsimp
       ·rcases am hm with ⟨c24, hm⟩ | ⟨c24, hm⟩
        ·rcases am hm with ⟨c25, hm⟩ | ⟨c25, hm⟩
         ·rcases am hm with ⟨c26, hm⟩ | ⟨c26, hm⟩
          ·obtain ⟨y6, h27, hm⟩ := bnd hm
           simp -dsimp [c18, c24, c25, c26]
           refine ag (aS y6 h27) (by rw [hn]; decide) ?_
           simp -dsimp
           refine a7 ?_
           cases hm
           refine EE.here ?_
           simp -dsimp
          ·rcases am hm with ⟨c28, hm⟩ | ⟨c28, hm⟩
           ·rcases am hm with ⟨c29, hm⟩ | ⟨c29, hm⟩
            ·obtain ⟨y6, h30, hm⟩ := bnd hm
             simp -dsimp [c18, c24, c25, c26, c28, c29]
             refine ag (aS y6 h30) (by rw [hn]; decide) ?_
             simp -dsimp
             refine a7 ?_
             cases hm
             refine EE.here ?_
             simp -dsimp
            ·simp -dsimp [c18, c24, c25, c26, c28, c29]
             refine a7 ?_
             cases hm
             refine EE.here ?_
             simp -dsimp
           ·simp -dsimp [c18, c24, c25, c26, c28]
            refine a7 ?_
            cases hm
            refine EE.here ?_
            simp -dsimp
         ·simp -dsimp [c18, c24, c25]
          refine a7 ?_
          cases hm
          refine EE.here ?_
          simp -dsimp
        ·simp -dsimp [c18, c24]
         refine a7 ?_
         cases hm
         refine EE.here ?_
         simp -dsimp
      ·clear j31
       simp only [Fits, az, aA, and_true] at hf
       refine ah ?_
       cases hm
       refine ⟨.inr rfl, ?_⟩
       refine EE.here ?_
       simp -dsimp [hf]
theorem c_L34_PeriodPhases (t : Tree) (p : List Cell) (move : Int × Int) (r : Bool) (hm : cH t p move = some r) : PureCall Tryz.prog 9 [.u (.agg [.d (.int .i64 t.States), .d (.sl 2 (List.map Point.row t.Hood)), .d (.sl 2 (List.map Node.row t.Nodes))]), .u (.one (.d (.sl 3 (List.map Cell.row p)))), .u (.agg [.d (.int .i8 move.1), .d (.int .i8 move.2)])] (.u (.one (.d (.bool r)))) := (f_L34_PeriodPhases t p move r hm).pureW
end Go.Proofs.YtdjclgfbggfpaaaGreatDoor
