/-
  That the code does what the functions say (made by cc.py).
-/
import Derived.Test.YtdjclgfbggfpaaaGreatDoorMd1
import Derived.Test.YtdjclgfbggfpaaaGreatDoorTb
import Derived.Test.YtdjclgfbggfpaaaGreatDoorWa1
import Derived.Test.YtdjclgfbggfpaaaGreatDoorWa5
namespace Go.Proofs.YtdjclgfbggfpaaaGreatDoor
open Go.AM Go.Proofs
attribute [-simp] qlookup cn dG Ob.wipe Ob.ren Ob.frz1
theorem f_L34_awake (r : Bool) (hm : aI = some r) : PFn Tryz.prog 11 [] (fun v => v.wk (.u (.one (.d (.bool r))))) := by
 refine bv Tryz.func11 Tryz.ntmps11 rfl (by kernel_rfl) (by simp) fun cx hn => ?_
 unfold aI at hm
 refine srs hn (by kernel_rfl) ?_
 simp -dsimp []
 refine srs hn (by kernel_rfl) ?_
 obtain ⟨y, h1, hm⟩ := bnd hm
 simp -dsimp []
 refine ag (c_notation_Parse y h1) (by rw [hn]; decide) ?_
 simp -dsimp
 refine srs hn (by kernel_rfl) ?_
 simp -dsimp
 refine srs hn (by kernel_rfl) ?_
 obtain ⟨y1, h2, hm⟩ := bnd hm
 simp -dsimp
 refine ag (cd y.1 [(⟨1, 0, 1⟩ : Cell), (⟨2, 1, 1⟩ : Cell), (⟨0, 2, 1⟩ : Cell), (⟨1, 2, 1⟩ : Cell), (⟨2, 2, 1⟩ : Cell)] 8 y1 h2) (by rw [hn]; decide) ?_
 simp -dsimp
 refine srs hn (by kernel_rfl) ?_
 obtain ⟨y2, h3, hm⟩ := bnd hm
 simp -dsimp
 refine ag (cd y.1 [(⟨1, 0, 1⟩ : Cell), (⟨2, 1, 1⟩ : Cell), (⟨0, 2, 1⟩ : Cell), (⟨1, 2, 1⟩ : Cell), (⟨2, 2, 1⟩ : Cell)] 3 y2 h3) (by rw [hn]; decide) ?_
 simp -dsimp
 refine cZ bj mixed (by rw [hn]; kernel_rfl) ?_
 obtain ⟨l, h4, hm⟩ := bnd hm
 obtain ⟨y3, h5, hm⟩ := bnd hm
 simp -dsimp [(@id (slc3 [[(.int .i64 1), (.int .i64 0), (.int .i64 1)], [(.int .i64 2), (.int .i64 1), (.int .i64 1)], [(.int .i64 0), (.int .i64 2), (.int .i64 1)], [(.int .i64 1), (.int .i64 2), (.int .i64 1)], [(.int .i64 2), (.int .i64 2), (.int .i64 1)]] 0 0 = some (List.map Cell.row l)) (slc3_rows Cell.row h4))]
 refine aK (gj y.1 l y1.1 y3 h5) ?_
 simp -dsimp
 refine srs hn (by kernel_rfl) ?_
 obtain ⟨y4, h6, hm⟩ := bnd hm
 simp -dsimp
 refine ag (eI y.1 [(⟨0, 0, 1⟩ : Cell), (⟨1, 0, 1⟩ : Cell), (⟨0, 1, 1⟩ : Cell)] 5 2 y4 h6) (by rw [hn]; decide) ?_
 simp -dsimp
 refine srs hn (by kernel_rfl) ?_
 obtain ⟨y5, h7, hm⟩ := bnd hm
 simp -dsimp
 refine ag (eI y.1 [(⟨0, 0, 1⟩ : Cell)] 5 2 y5 h7) (by rw [hn]; decide) ?_
 simp -dsimp
 refine srs hn (by kernel_rfl) ?_
 obtain ⟨y6, h8, hm⟩ := bnd hm
 simp -dsimp
 refine ag (c_period_After y1.1 3 y6 h8) (by rw [hn]; decide) ?_
 simp -dsimp
 refine ai ?_
 obtain ⟨a, j29, hm⟩ := bnd hm
 refine av [(4, .u (.one (.box 4 0))), (12, .u (.one (.d (.int .i64 y4.1)))), (13, .u (.one (.box 13 0))), (15, .u (.one (.d (.int .i64 y5.1)))), (16, .u (.one (.box 16 0))), (18, .u (.one (.box 18 0))), (110, .u (.one (.d (.bool a))))] [(4, .box [.d (.int .i64 y1.1.Period), .d (.int .i64 y1.1.DX), .d (.int .i64 y1.1.DY)]), (13, .box [.d (.int .i64 y4.2.1.Period), .d (.int .i64 y4.2.1.DX), .d (.int .i64 y4.2.1.DY)]), (16, .box [.d (.int .i64 y5.2.1.Period), .d (.int .i64 y5.2.1.DX), .d (.int .i64 y5.2.1.DY)]), (18, .box [.d (.int .i64 y6.1.Period), .d (.int .i64 y6.1.DX), .d (.int .i64 y6.1.DY)])] (by rfl) (by rfl) ?_ fun ρ σ hf => ?_
 ·replace hm := j29
  clear j29
  refine sr1 hn (by kernel_rfl) ?_
  rcases am hm with ⟨c9, hm⟩ | ⟨c9, hm⟩
  ·simp -dsimp [c9]
   refine a7 ?_
   cases hm
   refine EE.here ?_
   simp -dsimp
  ·rcases am hm with ⟨c10, hm⟩ | ⟨c10, hm⟩
   ·simp -dsimp [c9, c10]
    refine a7 ?_
    cases hm
    refine EE.here ?_
    simp -dsimp
   ·rcases am hm with ⟨c11, hm⟩ | ⟨c11, hm⟩
    ·simp -dsimp [c9, c10, c11]
     refine a7 ?_
     cases hm
     refine EE.here ?_
     simp -dsimp
    ·rcases am hm with ⟨c12, hm⟩ | ⟨c12, hm⟩
     ·simp -dsimp [c9, c10, c11, c12]
      refine a7 ?_
      cases hm
      refine EE.here ?_
      simp -dsimp
     ·rcases am hm with ⟨c13, hm⟩ | ⟨c13, hm⟩
      ·simp -dsimp [c9, c10, c11, c12, c13]
       refine a7 ?_
       cases hm
       refine EE.here ?_
       simp -dsimp
      ·rcases am hm with ⟨c14, hm⟩ | ⟨c14, hm⟩
       ·simp -dsimp [c9, c10, c11, c12, c13, c14]
        refine a7 ?_
        cases hm
        refine EE.here ?_
        simp -dsimp
       ·rcases am hm with ⟨c15, hm⟩ | ⟨c15, hm⟩
        ·simp -dsimp [c9, c10, c11, c12, c13, c14, c15]
         refine a7 ?_
         cases hm
         refine EE.here ?_
         simp -dsimp
        ·rcases am hm with ⟨c16, hm⟩ | ⟨c16, hm⟩
         ·simp -dsimp [c9, c10, c11, c12, c13, c14, c15, c16]
          refine a7 ?_
          cases hm
          refine EE.here ?_
          simp -dsimp
         ·rcases am hm with ⟨c17, hm⟩ | ⟨c17, hm⟩
          ·simp -dsimp [c9, c10, c11, c12, c13, c14, c15, c16, c17]
           refine a7 ?_
           cases hm
           refine EE.here ?_
           simp -dsimp
          ·simp -dsimp [c9, c10, c11, c12, c13, c14, c15, c16, c17]
           refine a7 ?_
           cases hm
           refine EE.here ?_
           simp -dsimp
 ·clear j29
  simp only [Fits, az, aA, and_true] at hf
  rcases am hm with ⟨c18, hm⟩ | ⟨c18, hm⟩
  ·refine ab (b := a) (by simp -dsimp [hf]) c18 ?_
   refine srs hn (by kernel_rfl) ?_
   simp -dsimp
   refine ah (aj ?_)
   cases hm
   refine ⟨.inr rfl, ?_⟩
   refine EE.here ?_
   simp -dsimp
  ·refine aa (b := a) (by simp -dsimp [hf]) c18 ?_
   refine ae (a7 ?_)
   obtain ⟨a1, j28, hm⟩ := bnd hm
   refine av [(0, .u (.one (.d (.bool a1))))] [] (by rfl) (by rfl) ?_ fun ρ σ hf => ?_
   ·replace hm := j28
    clear j28
    refine sr1 hn (by kernel_rfl) ?_
    rcases am hm with ⟨c19, hm⟩ | ⟨c19, hm⟩
    ·rcases am hm with ⟨c20, hm⟩ | ⟨c20, hm⟩
     ·rcases am hm with ⟨c21, hm⟩ | ⟨c21, hm⟩
      ·rcases am hm with ⟨c22, hm⟩ | ⟨c22, hm⟩
       ·rcases am hm with ⟨c23, hm⟩ | ⟨c23, hm⟩
        ·rcases am hm with ⟨c24, hm⟩ | ⟨c24, hm⟩
         ·obtain ⟨y7, h25, hm⟩ := bnd hm
          simp -dsimp [hf, c19, c20, c21, c22, c23, c24]
          refine ag (c_period_Kind y1.1 y7 h25) (by rw [hn]; decide) ?_
          rcases am hm with ⟨c26, hm⟩ | ⟨c26, hm⟩
          ·obtain ⟨y8, h27, hm⟩ := bnd hm
           simp -dsimp [hf, c26]
           refine ag (c_period_Kind y4.2.1 y8 h27) (by rw [hn]; decide) ?_
           simp -dsimp
           refine a7 ?_
           cases hm
           refine EE.here ?_
           simp -dsimp
          ·simp -dsimp [c26]
           refine a7 ?_
           cases hm
           refine EE.here ?_
           simp -dsimp
         ·simp -dsimp [hf, c19, c20, c21, c22, c23, c24]
          refine a7 ?_
          cases hm
          refine EE.here ?_
          simp -dsimp
        ·simp -dsimp [hf, c19, c20, c21, c22, c23]
         refine a7 ?_
         cases hm
         refine EE.here ?_
         simp -dsimp
       ·simp -dsimp [hf, c19, c20, c21, c22]
        refine a7 ?_
        cases hm
        refine EE.here ?_
        simp -dsimp
      ·simp -dsimp [hf, c19, c20, c21]
       refine a7 ?_
       cases hm
       refine EE.here ?_
       simp -dsimp
     ·simp -dsimp [hf, c19, c20]
      refine a7 ?_
      cases hm
      refine EE.here ?_
      simp -dsimp
    ·simp -dsimp [hf, c19]
     refine a7 ?_
     cases hm
     refine EE.here ?_
     simp -dsimp
   ·clear j28
    simp only [Fits, az, aA, and_true] at hf
    refine ah ?_
    cases hm
    refine ⟨.inr rfl, ?_⟩
    refine EE.here ?_
    simp -dsimp [hf]
theorem aS (r : Bool) (hm : aI = some r) : PureCall Tryz.prog 11 [] (.u (.one (.d (.bool r)))) := (f_L34_awake r hm).pureW
end Go.Proofs.YtdjclgfbggfpaaaGreatDoor
