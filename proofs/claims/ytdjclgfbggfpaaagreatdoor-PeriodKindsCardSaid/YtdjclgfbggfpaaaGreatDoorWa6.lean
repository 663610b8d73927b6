/-
  That the code does what the functions say (made by cc.py).
-/
import Derived.Test.YtdjclgfbggfpaaaGreatDoorMd1
import Derived.Test.YtdjclgfbggfpaaaGreatDoorTb
import Derived.Test.YtdjclgfbggfpaaaGreatDoorWa1
import Derived.Test.YtdjclgfbggfpaaaGreatDoorWa5
namespace Go.Proofs.YtdjclgfbggfpaaaGreatDoor
open Go.AM Go.Proofs
attribute [-simp] qlookup rMapSet rDelete dropIt_apply Ob.wipe Ob.ren Ob.frz1
theorem f_L34_PeriodKinds (m : Motion) (n : Int) (r : Bool) (hm : m_L34_PeriodKinds m n = some r) : PFn Tryz.prog 5 [.u (.agg [.d (.int .i64 m.Period), .d (.int .i64 m.DX), .d (.int .i64 m.DY)]), .u (.one (.d (.int .i64 n)))] (fun v => v.wk (.u (.one (.d (.bool r))))) := by
  refine pfn_E tb_ok _ Tryz.func5 rfl (by kernel_rfl) (by simp [Tryz.ntmps5]) fun cx hn => ?_
  replace hn : cx.n = 39 := hn.trans Tryz.ntmps5
  unfold m_L34_PeriodKinds at hm
  refine sw_regs tb_ok (by rw [hn]; kernel_rfl) ?_
  simp -dsimp []
  refine sw_regs tb_ok (by rw [hn]; kernel_rfl) ?_
  obtain ⟨y, h1, hm⟩ := bnd hm
  simp -dsimp []
  refine callL_pure (c_period_After m n y h1) (by rw [hn]; decide) ?_
  simp -dsimp
  refine sw_regs tb_ok (by rw [hn]; kernel_rfl) ?_
  obtain ⟨y1, h2, hm⟩ := bnd hm
  simp -dsimp
  refine callL_pure (c_R34_After m n y1 h2) (by rw [hn]; decide) ?_
  simp -dsimp
  obtain ⟨a, j9, hm⟩ := bnd hm
  refine sw_cutE [(4, .u (.one (.d (.bool a))))] [] (by rfl) (by rfl) ?_ fun ρ σ hf => ?_
  · replace hm := j9
    clear j9
    refine sw_qt tb_ok mixed (by rw [hn]; kernel_rfl) ?_
    obtain ⟨y2, h3, hm⟩ := bnd hm
    simp -dsimp
    refine qcallL_pure (c_period_Kind m y2 h3) ?_
    obtain ⟨y3, h4, hm⟩ := bnd hm
    simp -dsimp
    refine qcallL_pure (c_R34_Kind m y3 h4) ?_
    rcases bifE hm with ⟨c5, hm⟩ | ⟨c5, hm⟩
    · rcases bifE hm with ⟨c6, hm⟩ | ⟨c6, hm⟩
      · rcases bifE hm with ⟨c7, hm⟩ | ⟨c7, hm⟩
        · obtain ⟨y4, h8, hm⟩ := bnd hm
          simp -dsimp [c5, c6, c7]
          refine qcallL_pure (c_L34_awake y4 h8) ?_
          simp -dsimp
          refine thenQ_n ?_
          cases hm
          refine EE.here ?_
          simp -dsimp

        · simp -dsimp [c5, c6, c7]
          refine thenQ_n ?_
          cases hm
          refine EE.here ?_
          simp -dsimp

      · simp -dsimp [c5, c6]
        refine thenQ_n ?_
        cases hm
        refine EE.here ?_
        simp -dsimp

    · simp -dsimp [c5]
      refine thenQ_n ?_
      cases hm
      refine EE.here ?_
      simp -dsimp

  · clear j9
    simp only [Fits, FitE, FitS, and_true] at hf
    refine swp_ret ?_
    cases hm
    refine ⟨.inr rfl, ?_⟩
    refine EE.here ?_
    simp -dsimp [hf]

theorem c_L34_PeriodKinds (m : Motion) (n : Int) (r : Bool) (hm : m_L34_PeriodKinds m n = some r) : PureCall Tryz.prog 5 [.u (.agg [.d (.int .i64 m.Period), .d (.int .i64 m.DX), .d (.int .i64 m.DY)]), .u (.one (.d (.int .i64 n)))] (.u (.one (.d (.bool r)))) := (f_L34_PeriodKinds m n r hm).pureW
end Go.Proofs.YtdjclgfbggfpaaaGreatDoor
