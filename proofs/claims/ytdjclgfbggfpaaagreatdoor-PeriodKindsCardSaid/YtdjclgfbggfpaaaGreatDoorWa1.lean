/-
  That the code does what the functions say (made by cc.py).
-/
import Derived.Test.YtdjclgfbggfpaaaGreatDoorMd1
import Derived.Test.YtdjclgfbggfpaaaGreatDoorTb
import Derived.Test.YtdjclgfbggfpaaaGreatDoorMxD1
namespace Go.Proofs.YtdjclgfbggfpaaaGreatDoor
open Go.AM Go.Proofs
attribute [-simp] qlookup rMapSet rDelete dropIt_apply Ob.wipe Ob.ren Ob.frz1
theorem f_period_proper (n : Int) (r : Bool) (hm : m_period_proper n = some r) : PFn Tryz.prog 29 [.u (.one (.d (.int .i64 n)))] (fun v => v.wk (.u (.one (.d (.bool r))))) := by
  refine pfn_E tb_ok _ Tryz.func29 rfl (by kernel_rfl) (by simp [Tryz.ntmps29]) fun cx hn => ?_
  replace hn : cx.n = 9 := hn.trans Tryz.ntmps29
  unfold m_period_proper at hm
  refine sw_regs tb_ok (by rw [hn]; kernel_rfl) ?_
  simp -dsimp []
  obtain ⟨a, j2, hm⟩ := bnd hm
  refine sw_cutE [(2, .u (.one (.d (.bool a))))] [] (by rfl) (by rfl) ?_ fun ρ σ hf => ?_
  · replace hm := j2
    clear j2
    refine sw_reg tb_ok (by rw [hn]; kernel_rfl) ?_
    rcases bifE hm with ⟨c1, hm⟩ | ⟨c1, hm⟩
    · simp -dsimp [c1]
      refine thenQ_n ?_
      cases hm
      refine EE.here ?_
      simp -dsimp

    · simp -dsimp [c1]
      refine thenQ_n ?_
      cases hm
      refine EE.here ?_
      simp -dsimp

  · clear j2
    simp only [Fits, FitE, FitS, and_true] at hf
    refine swp_ret ?_
    cases hm
    refine ⟨.inr rfl, ?_⟩
    refine EE.here ?_
    simp -dsimp [hf]

theorem c_period_proper (n : Int) (r : Bool) (hm : m_period_proper n = some r) : PureCall Tryz.prog 29 [.u (.one (.d (.int .i64 n)))] (.u (.one (.d (.bool r)))) := (f_period_proper n r hm).pureW
theorem f_period_After (m : Motion) (n : Int) (r : Motion × Int) (hm : m_period_After m n = some r) : PFn Tryz.prog 16 [.u (.agg [.d (.int .i64 m.Period), .d (.int .i64 m.DX), .d (.int .i64 m.DY)]), .u (.one (.d (.int .i64 n)))] (fun v => v.wk (.tup [.agg [.d (.int .i64 r.1.Period), .d (.int .i64 r.1.DX), .d (.int .i64 r.1.DY)], .one (.d (.int .i64 r.2))])) := by
  refine pfn_E tb_ok _ Tryz.func16 rfl (by kernel_rfl) (by simp [Tryz.ntmps16]) fun cx hn => ?_
  replace hn : cx.n = 70 := hn.trans Tryz.ntmps16
  unfold m_period_After at hm
  refine sw_regs tb_ok (by rw [hn]; kernel_rfl) ?_
  simp -dsimp []
  refine sw_seq ?_
  obtain ⟨a, j11, hm⟩ := bnd hm
  refine sw_cutE [(1, .u (.one (.d (.int .i64 n)))), (2, .u (.one (.box 2 0))), (4, .u (.one (.box 4 0))), (34, .u (.one (.d (.bool a))))] [(2, .box [.d (.int .i64 m.Period), .d (.int .i64 m.DX), .d (.int .i64 m.DY)]), (4, .box [.d (.int .i64 0), .d (.int .i64 0), .d (.int .i64 0)])] (by rfl) (by rfl) ?_ fun ρ σ hf => ?_
  · replace hm := j11
    clear j11
    refine sw_reg tb_ok (by rw [hn]; kernel_rfl) ?_
    obtain ⟨y, h1, hm⟩ := bnd hm
    simp -dsimp []
    refine callL_pure (c_period_proper m.Period y h1) (by rw [hn]; decide) ?_
    rcases bifE hm with ⟨c2, hm⟩ | ⟨c2, hm⟩
    · simp -dsimp [c2]
      refine thenQ_n ?_
      cases hm
      refine EE.here ?_
      simp -dsimp

    · rcases bifE hm with ⟨c3, hm⟩ | ⟨c3, hm⟩
      · simp -dsimp [c2, c3]
        refine thenQ_n ?_
        cases hm
        refine EE.here ?_
        simp -dsimp

      · rcases bifE hm with ⟨c4, hm⟩ | ⟨c4, hm⟩
        · simp -dsimp [c2, c3, c4]
          refine thenQ_n ?_
          cases hm
          refine EE.here ?_
          simp -dsimp

        · rcases bifE hm with ⟨c5, hm⟩ | ⟨c5, hm⟩
          · simp -dsimp [c2, c3, c4, c5]
            refine thenQ_n ?_
            cases hm
            refine EE.here ?_
            simp -dsimp

          · simp -dsimp [c2, c3, c4, c5]
            refine thenQ_n ?_
            cases hm
            refine EE.here ?_
            simp -dsimp

  · clear j11
    simp only [Fits, FitE, FitS, and_true] at hf
    rcases bifE hm with ⟨c6, hm⟩ | ⟨c6, hm⟩
    · refine sw_cond_t (b := a) (by simp -dsimp [hf]) c6 ?_
      refine sw_regs tb_ok (by rw [hn]; kernel_rfl) ?_
      simp -dsimp [hf]
      refine swp_ret ?_
      refine then_x ?_
      cases hm
      refine ⟨.inr rfl, ?_⟩
      refine EE.here ?_
      simp -dsimp [hf]

    · refine sw_cond_f (b := a) (by simp -dsimp [hf]) c6 ?_
      refine swp_skip ?_
      refine thenQ_n ?_
      refine sw_regs tb_ok (by rw [hn]; kernel_rfl) ?_
      simp -dsimp [hf]
      refine sw_seq ?_
      obtain ⟨a1, j10, hm⟩ := bnd hm
      refine sw_cutE [(4, .u (.one (.box 4 0))), (6, .u (.one (.box 6 0))), (67, .u (.one (.d (.bool a1))))] [(4, .box [.d (.int .i64 0), .d (.int .i64 0), .d (.int .i64 0)]), (6, .box [.d (.int .i64 (imul .i64 m.Period n)), .d (.int .i64 (imul .i64 m.DX n)), .d (.int .i64 (imul .i64 m.DY n))])] (by rfl) (by rfl) ?_ fun ρ σ hf => ?_
      · replace hm := j10
        clear j10
        refine sw_reg tb_ok (by rw [hn]; kernel_rfl) ?_
        rcases bifE hm with ⟨c7, hm⟩ | ⟨c7, hm⟩
        · simp -dsimp [c7]
          refine thenQ_n ?_
          cases hm
          refine EE.here ?_
          simp -dsimp [hf]

        · rcases bifE hm with ⟨c8, hm⟩ | ⟨c8, hm⟩
          · simp -dsimp [c7, c8]
            refine thenQ_n ?_
            cases hm
            refine EE.here ?_
            simp -dsimp [hf]

          · simp -dsimp [c7, c8]
            refine thenQ_n ?_
            cases hm
            refine EE.here ?_
            simp -dsimp [hf]

      · clear j10
        simp only [Fits, FitE, FitS, and_true] at hf
        rcases bifE hm with ⟨c9, hm⟩ | ⟨c9, hm⟩
        · refine sw_cond_t (b := a1) (by simp -dsimp [hf]) c9 ?_
          refine sw_regs tb_ok (by rw [hn]; kernel_rfl) ?_
          simp -dsimp [hf]
          refine swp_ret ?_
          refine then_x ?_
          cases hm
          refine ⟨.inr rfl, ?_⟩
          refine EE.here ?_
          simp -dsimp [hf]

        · refine sw_cond_f (b := a1) (by simp -dsimp [hf]) c9 ?_
          refine swp_skip ?_
          refine thenQ_n ?_
          refine sw_regs tb_ok (by rw [hn]; kernel_rfl) ?_
          simp -dsimp [hf]
          refine swp_ret ?_
          cases hm
          refine ⟨.inr rfl, ?_⟩
          refine EE.here ?_
          simp -dsimp [hf]

theorem c_period_After (m : Motion) (n : Int) (r : Motion × Int) (hm : m_period_After m n = some r) : PureCall Tryz.prog 16 [.u (.agg [.d (.int .i64 m.Period), .d (.int .i64 m.DX), .d (.int .i64 m.DY)]), .u (.one (.d (.int .i64 n)))] (.tup [.agg [.d (.int .i64 r.1.Period), .d (.int .i64 r.1.DX), .d (.int .i64 r.1.DY)], .one (.d (.int .i64 r.2))]) := (f_period_After m n r hm).pureW
theorem f_R34_near (n : Int) (r : Bool) (hm : m_R34_near n = some r) : PFn Tryz.prog 33 [.u (.one (.d (.int .i64 n)))] (fun v => v.wk (.u (.one (.d (.bool r))))) := by
  refine pfn_E tb_ok _ Tryz.func33 rfl (by kernel_rfl) (by simp [Tryz.ntmps33]) fun cx hn => ?_
  replace hn : cx.n = 9 := hn.trans Tryz.ntmps33
  unfold m_R34_near at hm
  refine sw_regs tb_ok (by rw [hn]; kernel_rfl) ?_
  simp -dsimp []
  obtain ⟨a, j2, hm⟩ := bnd hm
  refine sw_cutE [(2, .u (.one (.d (.bool a))))] [] (by rfl) (by rfl) ?_ fun ρ σ hf => ?_
  · replace hm := j2
    clear j2
    refine sw_reg tb_ok (by rw [hn]; kernel_rfl) ?_
    rcases bifE hm with ⟨c1, hm⟩ | ⟨c1, hm⟩
    · simp -dsimp [c1]
      refine thenQ_n ?_
      cases hm
      refine EE.here ?_
      simp -dsimp

    · simp -dsimp [c1]
      refine thenQ_n ?_
      cases hm
      refine EE.here ?_
      simp -dsimp

  · clear j2
    simp only [Fits, FitE, FitS, and_true] at hf
    refine swp_ret ?_
    cases hm
    refine ⟨.inr rfl, ?_⟩
    refine EE.here ?_
    simp -dsimp [hf]

theorem c_R34_near (n : Int) (r : Bool) (hm : m_R34_near n = some r) : PureCall Tryz.prog 33 [.u (.one (.d (.int .i64 n)))] (.u (.one (.d (.bool r)))) := (f_R34_near n r hm).pureW
theorem f_R34_After (m : Motion) (n : Int) (r : Motion × Int) (hm : m_R34_After m n = some r) : PFn Tryz.prog 17 [.u (.agg [.d (.int .i64 m.Period), .d (.int .i64 m.DX), .d (.int .i64 m.DY)]), .u (.one (.d (.int .i64 n)))] (fun v => v.wk (.tup [.agg [.d (.int .i64 r.1.Period), .d (.int .i64 r.1.DX), .d (.int .i64 r.1.DY)], .one (.d (.int .i64 r.2))])) := by
  refine pfn_E tb_ok _ Tryz.func17 rfl (by kernel_rfl) (by simp [Tryz.ntmps17]) fun cx hn => ?_
  replace hn : cx.n = 70 := hn.trans Tryz.ntmps17
  unfold m_R34_After at hm
  refine sw_regs tb_ok (by rw [hn]; kernel_rfl) ?_
  simp -dsimp []
  refine sw_seq ?_
  obtain ⟨a, j15, hm⟩ := bnd hm
  refine sw_cutE [(1, .u (.one (.d (.int .i64 n)))), (2, .u (.one (.box 2 0))), (4, .u (.one (.box 4 0))), (33, .u (.one (.d (.bool a))))] [(2, .box [.d (.int .i64 m.Period), .d (.int .i64 m.DX), .d (.int .i64 m.DY)]), (4, .box [.d (.int .i64 0), .d (.int .i64 0), .d (.int .i64 0)])] (by rfl) (by rfl) ?_ fun ρ σ hf => ?_
  · replace hm := j15
    clear j15
    refine sw_reg tb_ok (by rw [hn]; kernel_rfl) ?_
    rcases bifE hm with ⟨c1, hm⟩ | ⟨c1, hm⟩
    · simp -dsimp [c1]
      refine thenQ_n ?_
      cases hm
      refine EE.here ?_
      simp -dsimp

    · rcases bifE hm with ⟨c2, hm⟩ | ⟨c2, hm⟩
      · simp -dsimp [c1, c2]
        refine thenQ_n ?_
        cases hm
        refine EE.here ?_
        simp -dsimp

      · obtain ⟨y, h3, hm⟩ := bnd hm
        simp -dsimp [c1, c2]
        refine callL_pure (c_R34_near m.DX y h3) (by rw [hn]; decide) ?_
        rcases bifE hm with ⟨c4, hm⟩ | ⟨c4, hm⟩
        · simp -dsimp [c4]
          refine thenQ_n ?_
          cases hm
          refine EE.here ?_
          simp -dsimp

        · obtain ⟨y1, h5, hm⟩ := bnd hm
          simp -dsimp [c4]
          refine callL_pure (c_R34_near m.DY y1 h5) (by rw [hn]; decide) ?_
          rcases bifE hm with ⟨c6, hm⟩ | ⟨c6, hm⟩
          · simp -dsimp [c6]
            refine thenQ_n ?_
            cases hm
            refine EE.here ?_
            simp -dsimp

          · rcases bifE hm with ⟨c7, hm⟩ | ⟨c7, hm⟩
            · simp -dsimp [c6, c7]
              refine thenQ_n ?_
              cases hm
              refine EE.here ?_
              simp -dsimp

            · simp -dsimp [c6, c7]
              refine thenQ_n ?_
              cases hm
              refine EE.here ?_
              simp -dsimp

  · clear j15
    simp only [Fits, FitE, FitS, and_true] at hf
    rcases bifE hm with ⟨c8, hm⟩ | ⟨c8, hm⟩
    · refine sw_cond_t (b := a) (by simp -dsimp [hf]) c8 ?_
      refine sw_regs tb_ok (by rw [hn]; kernel_rfl) ?_
      simp -dsimp [hf]
      refine swp_ret ?_
      refine then_x ?_
      cases hm
      refine ⟨.inr rfl, ?_⟩
      refine EE.here ?_
      simp -dsimp [hf]

    · refine sw_cond_f (b := a) (by simp -dsimp [hf]) c8 ?_
      refine swp_skip ?_
      refine thenQ_n ?_
      refine sw_seq ?_
      obtain ⟨a1, j14, hm⟩ := bnd hm
      refine sw_cutE [(1, .u (.one (.d (.int .i64 n)))), (2, .u (.one (.box 2 0))), (4, .u (.one (.box 4 0))), (55, .u (.one (.d (.bool a1))))] [(2, .box [.d (.int .i64 m.Period), .d (.int .i64 m.DX), .d (.int .i64 m.DY)]), (4, .box [.d (.int .i64 0), .d (.int .i64 0), .d (.int .i64 0)])] (by rfl) (by rfl) ?_ fun ρ σ hf => ?_
      · replace hm := j14
        clear j14
        refine sw_reg tb_ok (by rw [hn]; kernel_rfl) ?_
        rcases bifE hm with ⟨c9, hm⟩ | ⟨c9, hm⟩
        · simp -dsimp [hf, c9]
          refine thenQ_n ?_
          cases hm
          refine EE.here ?_
          simp -dsimp [hf]

        · obtain ⟨y, h10, hm⟩ := bnd hm
          simp -dsimp [hf, c9]
          refine callL_pure (c_R34_near (imul .i64 n m.DX) y h10) (by rw [hn]; decide) ?_
          rcases bifE hm with ⟨c11, hm⟩ | ⟨c11, hm⟩
          · simp -dsimp [c11]
            refine thenQ_n ?_
            cases hm
            refine EE.here ?_
            simp -dsimp [hf]

          · obtain ⟨y1, h12, hm⟩ := bnd hm
            simp -dsimp [hf, c11]
            refine callL_pure (c_R34_near (imul .i64 n m.DY) y1 h12) (by rw [hn]; decide) ?_
            simp -dsimp
            refine thenQ_n ?_
            cases hm
            refine EE.here ?_
            simp -dsimp [hf]

      · clear j14
        simp only [Fits, FitE, FitS, and_true] at hf
        rcases bifE hm with ⟨c13, hm⟩ | ⟨c13, hm⟩
        · refine sw_cond_t (b := a1) (by simp -dsimp [hf]) c13 ?_
          refine sw_regs tb_ok (by rw [hn]; kernel_rfl) ?_
          simp -dsimp [hf]
          refine swp_ret ?_
          refine then_x ?_
          cases hm
          refine ⟨.inr rfl, ?_⟩
          refine EE.here ?_
          simp -dsimp [hf]

        · refine sw_cond_f (b := a1) (by simp -dsimp [hf]) c13 ?_
          refine swp_skip ?_
          refine thenQ_n ?_
          refine sw_regs tb_ok (by rw [hn]; kernel_rfl) ?_
          simp -dsimp [hf]
          refine swp_ret ?_
          cases hm
          refine ⟨.inr rfl, ?_⟩
          refine EE.here ?_
          simp -dsimp [hf]

theorem c_R34_After (m : Motion) (n : Int) (r : Motion × Int) (hm : m_R34_After m n = some r) : PureCall Tryz.prog 17 [.u (.agg [.d (.int .i64 m.Period), .d (.int .i64 m.DX), .d (.int .i64 m.DY)]), .u (.one (.d (.int .i64 n)))] (.tup [.agg [.d (.int .i64 r.1.Period), .d (.int .i64 r.1.DX), .d (.int .i64 r.1.DY)], .one (.d (.int .i64 r.2))]) := (f_R34_After m n r hm).pureW
theorem f_period_Kind (m : Motion) (r : Int) (hm : m_period_Kind m = some r) : PFn Tryz.prog 18 [.u (.agg [.d (.int .i64 m.Period), .d (.int .i64 m.DX), .d (.int .i64 m.DY)])] (fun v => v.wk (.u (.one (.d (.int .i64 r))))) := by
  refine pfn_E tb_ok _ Tryz.func18 rfl (by kernel_rfl) (by simp [Tryz.ntmps18]) fun cx hn => ?_
  replace hn : cx.n = 21 := hn.trans Tryz.ntmps18
  unfold m_period_Kind at hm
  refine sw_regs tb_ok (by rw [hn]; kernel_rfl) ?_
  simp -dsimp []
  refine sw_seq ?_
  refine sw_block ?_
  refine sw_regs tb_ok (by rw [hn]; kernel_rfl) ?_
  obtain ⟨y, h1, hm⟩ := bnd hm
  simp -dsimp []
  refine callL_pure (c_period_proper m.Period y h1) (by rw [hn]; decide) ?_
  simp -dsimp
  rcases bifE hm with ⟨c2, hm⟩ | ⟨c2, hm⟩
  · refine sw_cond_t (b := (notB y)) (by simp -dsimp) c2 ?_
    refine sw_regs tb_ok (by rw [hn]; kernel_rfl) ?_
    simp -dsimp [c2]
    refine swp_ret ?_
    refine blk_r ?_
    refine then_x ?_
    cases hm
    refine ⟨.inr rfl, ?_⟩
    refine EE.here ?_
    simp -dsimp

  · refine sw_cond_f (b := (notB y)) (by simp -dsimp) c2 ?_
    obtain ⟨a, j6, hm⟩ := bnd hm
    refine sw_cutE [(1, .u (.one (.box 1 0))), (8, .u (.one (.d (.bool a))))] [(1, .box [.d (.int .i64 m.Period), .d (.int .i64 m.DX), .d (.int .i64 m.DY)])] (by rfl) (by rfl) ?_ fun ρ σ hf => ?_
    · replace hm := j6
      clear j6
      refine sw_reg tb_ok (by rw [hn]; kernel_rfl) ?_
      rcases bifE hm with ⟨c3, hm⟩ | ⟨c3, hm⟩
      · simp -dsimp [c2, c3]
        refine thenQ_n ?_
        cases hm
        refine EE.here ?_
        simp -dsimp

      · simp -dsimp [c2, c3]
        refine thenQ_n ?_
        cases hm
        refine EE.here ?_
        simp -dsimp

    · clear j6
      simp only [Fits, FitE, FitS, and_true] at hf
      rcases bifE hm with ⟨c4, hm⟩ | ⟨c4, hm⟩
      · refine sw_cond_t (b := a) (by simp -dsimp [hf]) c4 ?_
        refine sw_regs tb_ok (by rw [hn]; kernel_rfl) ?_
        simp -dsimp
        refine swp_ret ?_
        refine blk_r ?_
        refine then_x ?_
        cases hm
        refine ⟨.inr rfl, ?_⟩
        refine EE.here ?_
        simp -dsimp

      · refine sw_cond_f (b := a) (by simp -dsimp [hf]) c4 ?_
        refine sw_regs tb_ok (by rw [hn]; kernel_rfl) ?_
        simp -dsimp [hf]
        rcases bifE hm with ⟨c5, hm⟩ | ⟨c5, hm⟩
        · refine sw_cond_t (b := (gtB m.Period 1)) (by simp -dsimp) c5 ?_
          refine sw_regs tb_ok (by rw [hn]; kernel_rfl) ?_
          simp -dsimp [c5]
          refine swp_ret ?_
          refine blk_r ?_
          refine then_x ?_
          cases hm
          refine ⟨.inr rfl, ?_⟩
          refine EE.here ?_
          simp -dsimp

        · refine sw_cond_f (b := (gtB m.Period 1)) (by simp -dsimp) c5 ?_
          refine swp_skip ?_
          refine blk_n ?_
          refine thenQ_n ?_
          refine sw_regs tb_ok (by rw [hn]; kernel_rfl) ?_
          simp -dsimp [c5]
          refine swp_ret ?_
          cases hm
          refine ⟨.inr rfl, ?_⟩
          refine EE.here ?_
          simp -dsimp

theorem c_period_Kind (m : Motion) (r : Int) (hm : m_period_Kind m = some r) : PureCall Tryz.prog 18 [.u (.agg [.d (.int .i64 m.Period), .d (.int .i64 m.DX), .d (.int .i64 m.DY)])] (.u (.one (.d (.int .i64 r)))) := (f_period_Kind m r hm).pureW
theorem f_R34_Kind (m : Motion) (r : Int) (hm : m_R34_Kind m = some r) : PFn Tryz.prog 19 [.u (.agg [.d (.int .i64 m.Period), .d (.int .i64 m.DX), .d (.int .i64 m.DY)])] (fun v => v.wk (.u (.one (.d (.int .i64 r))))) := by
  refine pfn_E tb_ok _ Tryz.func19 rfl (by kernel_rfl) (by simp [Tryz.ntmps19]) fun cx hn => ?_
  replace hn : cx.n = 22 := hn.trans Tryz.ntmps19
  unfold m_R34_Kind at hm
  refine sw_regs tb_ok (by rw [hn]; kernel_rfl) ?_
  simp -dsimp []
  refine sw_seq ?_
  obtain ⟨a, j6, hm⟩ := bnd hm
  refine sw_cutE [(1, .u (.one (.box 1 0))), (10, .u (.one (.d (.bool a))))] [(1, .box [.d (.int .i64 m.Period), .d (.int .i64 m.DX), .d (.int .i64 m.DY)])] (by rfl) (by rfl) ?_ fun ρ σ hf => ?_
  · replace hm := j6
    clear j6
    refine sw_reg tb_ok (by rw [hn]; kernel_rfl) ?_
    rcases bifE hm with ⟨c1, hm⟩ | ⟨c1, hm⟩
    · simp -dsimp [c1]
      refine thenQ_n ?_
      cases hm
      refine EE.here ?_
      simp -dsimp

    · simp -dsimp [c1]
      refine thenQ_n ?_
      cases hm
      refine EE.here ?_
      simp -dsimp

  · clear j6
    simp only [Fits, FitE, FitS, and_true] at hf
    rcases bifE hm with ⟨c2, hm⟩ | ⟨c2, hm⟩
    · refine sw_cond_t (b := a) (by simp -dsimp [hf]) c2 ?_
      refine sw_regs tb_ok (by rw [hn]; kernel_rfl) ?_
      simp -dsimp
      refine swp_ret ?_
      refine then_x ?_
      cases hm
      refine ⟨.inr rfl, ?_⟩
      refine EE.here ?_
      simp -dsimp

    · refine sw_cond_f (b := a) (by simp -dsimp [hf]) c2 ?_
      refine swp_skip ?_
      refine thenQ_n ?_
      refine sw_seq ?_
      obtain ⟨a1, j5, hm⟩ := bnd hm
      refine sw_cutE [(1, .u (.one (.box 1 0))), (18, .u (.one (.d (.bool a1))))] [(1, .box [.d (.int .i64 m.Period), .d (.int .i64 m.DX), .d (.int .i64 m.DY)])] (by rfl) (by rfl) ?_ fun ρ σ hf => ?_
      · replace hm := j5
        clear j5
        refine sw_reg tb_ok (by rw [hn]; kernel_rfl) ?_
        rcases bifE hm with ⟨c3, hm⟩ | ⟨c3, hm⟩
        · simp -dsimp [hf, c3]
          refine thenQ_n ?_
          cases hm
          refine EE.here ?_
          simp -dsimp [hf]

        · simp -dsimp [hf, c3]
          refine thenQ_n ?_
          cases hm
          refine EE.here ?_
          simp -dsimp [hf]

      · clear j5
        simp only [Fits, FitE, FitS, and_true] at hf
        rcases bifE hm with ⟨c4, hm⟩ | ⟨c4, hm⟩
        · refine sw_cond_t (b := a1) (by simp -dsimp [hf]) c4 ?_
          refine sw_regs tb_ok (by rw [hn]; kernel_rfl) ?_
          simp -dsimp
          refine swp_ret ?_
          refine then_x ?_
          cases hm
          refine ⟨.inr rfl, ?_⟩
          refine EE.here ?_
          simp -dsimp

        · refine sw_cond_f (b := a1) (by simp -dsimp [hf]) c4 ?_
          refine swp_skip ?_
          refine thenQ_n ?_
          refine sw_regs tb_ok (by rw [hn]; kernel_rfl) ?_
          simp -dsimp [hf]
          refine swp_ret ?_
          cases hm
          refine ⟨.inr rfl, ?_⟩
          refine EE.here ?_
          simp -dsimp

theorem c_R34_Kind (m : Motion) (r : Int) (hm : m_R34_Kind m = some r) : PureCall Tryz.prog 19 [.u (.agg [.d (.int .i64 m.Period), .d (.int .i64 m.DX), .d (.int .i64 m.DY)])] (.u (.one (.d (.int .i64 r)))) := (f_R34_Kind m r hm).pureW
theorem c_notation_Parse (r : Tree × Int) (hm : m_notation_Parse = some r) : PureCall Tryz.prog 28 [.u (.one (.d (.str ⟨#[66, 51, 47, 83, 50, 51]⟩)))] (.tup [.agg [.d (.int .i64 r.1.States), .d (.sl 2 (List.map Point.row r.1.Hood)), .d (.sl 2 (List.map Node.row r.1.Nodes))], .one (.d (.int .i64 r.2))]) := by
  cases hm
  exact parse_life_pure
theorem f_cmp_isNaN_int (x : Int) (r : Bool) (hm : m_cmp_isNaN_int x = some r) : PFn Tryz.prog 194 [.u (.one (.d (.int .i64 x)))] (fun v => v.wk (.u (.one (.d (.bool r))))) := by
  refine pfn_E tb_ok _ Tryz.func194 rfl (by kernel_rfl) (by simp [Tryz.ntmps194]) fun cx hn => ?_
  replace hn : cx.n = 6 := hn.trans Tryz.ntmps194
  unfold m_cmp_isNaN_int at hm
  refine sw_regs tb_ok (by rw [hn]; kernel_rfl) ?_
  simp -dsimp []
  refine sw_regs tb_ok (by rw [hn]; kernel_rfl) ?_
  simp -dsimp []
  refine swp_ret ?_
  cases hm
  refine ⟨.inr rfl, ?_⟩
  refine EE.here ?_
  simp -dsimp

theorem c_cmp_isNaN_int (x : Int) (r : Bool) (hm : m_cmp_isNaN_int x = some r) : PureCall Tryz.prog 194 [.u (.one (.d (.int .i64 x)))] (.u (.one (.d (.bool r)))) := (f_cmp_isNaN_int x r hm).pureW
theorem f_cmp_Compare_int (x : Int) (y : Int) (r : Int) (hm : m_cmp_Compare_int x y = some r) : PFn Tryz.prog 155 [.u (.one (.d (.int .i64 x))), .u (.one (.d (.int .i64 y)))] (fun v => v.wk (.u (.one (.d (.int .i64 r))))) := by
  refine pfn_E tb_ok _ Tryz.func155 rfl (by kernel_rfl) (by simp [Tryz.ntmps155]) fun cx hn => ?_
  replace hn : cx.n = 20 := hn.trans Tryz.ntmps155
  unfold m_cmp_Compare_int at hm
  refine sw_regs tb_ok (by rw [hn]; kernel_rfl) ?_
  simp -dsimp []
  refine sw_regs tb_ok (by rw [hn]; kernel_rfl) ?_
  obtain ⟨y1, h1, hm⟩ := bnd hm
  simp -dsimp []
  refine callL_pure (c_cmp_isNaN_int x y1 h1) (by rw [hn]; decide) ?_
  simp -dsimp
  refine sw_regs tb_ok (by rw [hn]; kernel_rfl) ?_
  obtain ⟨y2, h2, hm⟩ := bnd hm
  simp -dsimp
  refine callL_pure (c_cmp_isNaN_int y y2 h2) (by rw [hn]; decide) ?_
  simp -dsimp
  refine sw_seq ?_
  refine sw_regs tb_ok (by rw [hn]; kernel_rfl) ?_
  simp -dsimp
  rcases bifE hm with ⟨c3, hm⟩ | ⟨c3, hm⟩
  · refine sw_cond_t (b := y1) (by simp -dsimp) c3 ?_
    refine sw_seq ?_
    refine sw_regs tb_ok (by rw [hn]; kernel_rfl) ?_
    simp -dsimp [c3]
    rcases bifE hm with ⟨c4, hm⟩ | ⟨c4, hm⟩
    · refine sw_cond_t (b := y2) (by simp -dsimp) c4 ?_
      refine sw_regs tb_ok (by rw [hn]; kernel_rfl) ?_
      simp -dsimp [c4]
      refine swp_ret ?_
      refine then_x ?_
      refine then_x ?_
      cases hm
      refine ⟨.inr rfl, ?_⟩
      refine EE.here ?_
      simp -dsimp

    · refine sw_cond_f (b := y2) (by simp -dsimp) c4 ?_
      refine swp_skip ?_
      refine thenQ_n ?_
      refine sw_regs tb_ok (by rw [hn]; kernel_rfl) ?_
      simp -dsimp [c4]
      refine swp_ret ?_
      refine then_x ?_
      cases hm
      refine ⟨.inr rfl, ?_⟩
      refine EE.here ?_
      simp -dsimp

  · refine sw_cond_f (b := y1) (by simp -dsimp) c3 ?_
    refine swp_skip ?_
    refine thenQ_n ?_
    refine sw_seq ?_
    refine sw_regs tb_ok (by rw [hn]; kernel_rfl) ?_
    simp -dsimp [c3]
    rcases bifE hm with ⟨c5, hm⟩ | ⟨c5, hm⟩
    · refine sw_cond_t (b := y2) (by simp -dsimp) c5 ?_
      refine sw_regs tb_ok (by rw [hn]; kernel_rfl) ?_
      simp -dsimp [c5]
      refine swp_ret ?_
      refine then_x ?_
      cases hm
      refine ⟨.inr rfl, ?_⟩
      refine EE.here ?_
      simp -dsimp

    · refine sw_cond_f (b := y2) (by simp -dsimp) c5 ?_
      refine swp_skip ?_
      refine thenQ_n ?_
      refine sw_seq ?_
      refine sw_regs tb_ok (by rw [hn]; kernel_rfl) ?_
      simp -dsimp [c5]
      rcases bifE hm with ⟨c6, hm⟩ | ⟨c6, hm⟩
      · refine sw_cond_t (b := (ltB x y)) (by simp -dsimp) c6 ?_
        refine sw_regs tb_ok (by rw [hn]; kernel_rfl) ?_
        simp -dsimp [c6]
        refine swp_ret ?_
        refine then_x ?_
        cases hm
        refine ⟨.inr rfl, ?_⟩
        refine EE.here ?_
        simp -dsimp

      · refine sw_cond_f (b := (ltB x y)) (by simp -dsimp) c6 ?_
        refine swp_skip ?_
        refine thenQ_n ?_
        refine sw_seq ?_
        refine sw_regs tb_ok (by rw [hn]; kernel_rfl) ?_
        simp -dsimp [c6]
        rcases bifE hm with ⟨c7, hm⟩ | ⟨c7, hm⟩
        · refine sw_cond_t (b := (gtB x y)) (by simp -dsimp) c7 ?_
          refine sw_regs tb_ok (by rw [hn]; kernel_rfl) ?_
          simp -dsimp [c7]
          refine swp_ret ?_
          refine then_x ?_
          cases hm
          refine ⟨.inr rfl, ?_⟩
          refine EE.here ?_
          simp -dsimp

        · refine sw_cond_f (b := (gtB x y)) (by simp -dsimp) c7 ?_
          refine swp_skip ?_
          refine thenQ_n ?_
          refine sw_regs tb_ok (by rw [hn]; kernel_rfl) ?_
          simp -dsimp [c7]
          refine swp_ret ?_
          cases hm
          refine ⟨.inr rfl, ?_⟩
          refine EE.here ?_
          simp -dsimp

theorem c_cmp_Compare_int (x : Int) (y : Int) (r : Int) (hm : m_cmp_Compare_int x y = some r) : PureCall Tryz.prog 155 [.u (.one (.d (.int .i64 x))), .u (.one (.d (.int .i64 y)))] (.u (.one (.d (.int .i64 r)))) := (f_cmp_Compare_int x y r hm).pureW
def F_cmp_Or_int_1 (cx : Cx) (_vals : List Int) (tt : Int ⊕ Unit) (ee : Exit) (ρ : Env) (σ : Sto) : Prop := match tt with
  | .inl r => ee = .ret ∧ EE cx (fun ρ σ => ∃ v, resV tb ρ σ Tryz.f154.results.toList = some v ∧ (v.frz σ).free = true ∧ (v.frz σ).wk (.u (.one (.d (.int .i64 r))))) ρ σ
  | .inr _u => ee = .exit 0 ∧ EE cx (FitsW [(3, .u (.one (.d (.int .i64 0))))] []) ρ σ
theorem l_cmp_Or_int_1 (cx : Cx) (hn : cx.n = 18) (vals : List Int) {fu : Nat} {stt : Int} {tt : Int ⊕ Unit} (hh : loopN (b_cmp_Or_int_1 vals) fu stt = some tt) {ρ : Env} {σ : Sto}
    (hE : Fits ((fun a : Int => [(3, .u (.one (.d (.int .i64 0)))), (6, .u (.one (.d (.sl 1 (List.map (rI .i64) vals))))), (7, .u (.one (.d (.int .i64 (lenL vals))))), (8, .u (.one (.d (.int .i64 a))))]) stt) ((fun _a : Int => []) stt) ρ σ) : Swp Tryz.prog cx (.loop (csub [1, 1, 0, 1, 0, 0] (bodyOf Tryz.f154))) ρ σ (F_cmp_Or_int_1 cx vals tt) := by
  refine loop_model (fun a : Int => [(3, .u (.one (.d (.int .i64 0)))), (6, .u (.one (.d (.sl 1 (List.map (rI .i64) vals))))), (7, .u (.one (.d (.int .i64 (lenL vals))))), (8, .u (.one (.d (.int .i64 a))))]) (fun a : Int => []) (F_cmp_Or_int_1 cx vals) (b_cmp_Or_int_1 vals) (fun a => by rfl) (fun a => by rfl) ?_ hh hE
  rintro a r hm ρ σ hf
  simp only [Fits, FitE, FitS, and_true] at hf
  unfold b_cmp_Or_int_1 at hm
  dsimp only at hm
  refine sw_regs tb_ok (by rw [hn]; kernel_rfl) ?_
  simp -dsimp [hf]
  refine sw_seq ?_
  rcases bifE hm with ⟨c1, hm⟩ | ⟨c1, hm⟩
  · refine sw_cond_t (b := (ltB a (lenL vals))) (by simp -dsimp) c1 ?_
    refine swp_skip ?_
    refine thenQ_n ?_
    refine sw_seq ?_
    refine sw_block ?_
    refine sw_regs tb_ok (by rw [hn]; kernel_rfl) ?_
    obtain ⟨x, h2, hm⟩ := bnd hm
    simp -dsimp [hf, c1, h2]
    refine sw_regs tb_ok (by rw [hn]; kernel_rfl) ?_
    simp -dsimp [hf]
    rcases bifE hm with ⟨c3, hm⟩ | ⟨c3, hm⟩
    · refine sw_cond_t (b := (neB x 0)) (by simp -dsimp) c3 ?_
      refine sw_regs tb_ok (by rw [hn]; kernel_rfl) ?_
      simp -dsimp [c3]
      refine swp_ret ?_
      refine blk_r ?_
      refine then_x ?_
      cases hm
      refine rd_out nofun ?_
      unfold F_cmp_Or_int_1
      dsimp only
      refine ⟨rfl, ?_⟩
      refine EE.here ?_
      simp -dsimp [Tryz.results154]

    · refine sw_cond_f (b := (neB x 0)) (by simp -dsimp) c3 ?_
      refine swp_skip ?_
      refine blk_n ?_
      refine thenQ_n ?_
      refine sw_reg tb_ok (by rw [hn]; kernel_rfl) ?_
      simp -dsimp [hf, c3]
      cases hm
      refine rd_next ?_
      refine EE.here ?_
      simp -dsimp [hf]

  · refine sw_cond_f (b := (ltB a (lenL vals))) (by simp -dsimp) c1 ?_
    refine swp_exit ?_
    refine then_x ?_
    cases hm
    refine rd_out nofun ?_
    unfold F_cmp_Or_int_1
    dsimp only
    refine ⟨rfl, ?_⟩
    refine EE.here ?_
    simp -dsimp [hf, c1]

theorem f_cmp_Or_int (vals : List Int) (r : Int) (hm : m_cmp_Or_int vals = some r) : PFn Tryz.prog 154 [.u (.one (.d (.sl 1 (List.map (rI .i64) vals))))] (fun v => v.wk (.u (.one (.d (.int .i64 r))))) := by
  refine pfn_E tb_ok _ Tryz.func154 rfl (by kernel_rfl) (by simp [Tryz.ntmps154]) fun cx hn => ?_
  replace hn : cx.n = 18 := hn.trans Tryz.ntmps154
  unfold m_cmp_Or_int at hm
  refine sw_regs tb_ok (by rw [hn]; kernel_rfl) ?_
  simp -dsimp []
  refine sw_regs tb_ok (by rw [hn]; kernel_rfl) ?_
  simp -dsimp []
  refine sw_seq ?_
  refine sw_regs tb_ok (by rw [hn]; kernel_rfl) ?_
  simp -dsimp []
  refine sw_block ?_
  obtain ⟨o_, g4, hm⟩ := bnd hm
  refine sw_ent [(3, .u (.one (.d (.int .i64 0)))), (6, .u (.one (.d (.sl 1 (List.map (rI .i64) vals))))), (7, .u (.one (.d (.int .i64 (lenL vals))))), (8, .u (.one (.d (.int .i64 0))))] [] (by rfl) (by rfl) (by
      refine EE.here ?_
      simp -dsimp []
  ) fun ρ σ hf => ?_
  refine (l_cmp_Or_int_1 cx hn vals g4 hf).mono fun ee ρ σ x5 => ?_
  rcases o_ with r | _u
  · unfold F_cmp_Or_int_1 at x5
    dsimp only at x5
    obtain ⟨rfl, x5⟩ := x5
    refine blk_r ?_
    refine then_x ?_
    cases hm
    exact ⟨.inr rfl, x5⟩

  · unfold F_cmp_Or_int_1 at x5
    dsimp only at x5
    obtain ⟨rfl, x5⟩ := x5
    refine blk_exit ?_
    refine thenQ_n ?_
    refine sw_ee (by rfl) (by rfl) x5 fun ρ σ hf => ?_
    simp only [Fits, FitE, FitS, and_true] at hf
    refine sw_regs tb_ok (by rw [hn]; kernel_rfl) ?_
    simp -dsimp [hf]
    refine swp_ret ?_
    cases hm
    refine ⟨.inr rfl, ?_⟩
    refine EE.here ?_
    simp -dsimp

theorem c_cmp_Or_int (vals : List Int) (r : Int) (hm : m_cmp_Or_int vals = some r) : PureCall Tryz.prog 154 [.u (.one (.d (.sl 1 (List.map (rI .i64) vals))))] (.u (.one (.d (.int .i64 r)))) := (f_cmp_Or_int vals r hm).pureW
theorem f_point_Compare (a : Point) (b : Point) (r : Int) (hm : m_point_Compare a b = some r) : PFn Tryz.prog 112 [.u (.agg [.d (.int .i64 a.X), .d (.int .i64 a.Y)]), .u (.agg [.d (.int .i64 b.X), .d (.int .i64 b.Y)])] (fun v => v.wk (.u (.one (.d (.int .i64 r))))) := by
  refine pfn_E tb_ok _ Tryz.func112 rfl (by kernel_rfl) (by simp [Tryz.ntmps112]) fun cx hn => ?_
  replace hn : cx.n = 17 := hn.trans Tryz.ntmps112
  unfold m_point_Compare at hm
  refine sw_regs tb_ok (by rw [hn]; kernel_rfl) ?_
  simp -dsimp []
  refine sw_qts tb_ok mixed (by rw [hn]; kernel_rfl) ?_
  obtain ⟨y, h1, hm⟩ := bnd hm
  simp -dsimp []
  refine qcallL_pure (c_cmp_Compare_int a.Y b.Y y h1) ?_
  obtain ⟨y1, h2, hm⟩ := bnd hm
  simp -dsimp
  refine qcallL_pure (c_cmp_Compare_int a.X b.X y1 h2) ?_
  obtain ⟨y2, h3, hm⟩ := bnd hm
  simp -dsimp
  refine qcallL_pure (c_cmp_Or_int [y, y1] y2 h3) ?_
  simp -dsimp
  refine swp_ret ?_
  cases hm
  refine ⟨.inr rfl, ?_⟩
  refine EE.here ?_
  simp -dsimp

theorem c_point_Compare (a : Point) (b : Point) (r : Int) (hm : m_point_Compare a b = some r) : PureCall Tryz.prog 112 [.u (.agg [.d (.int .i64 a.X), .d (.int .i64 a.Y)]), .u (.agg [.d (.int .i64 b.X), .d (.int .i64 b.Y)])] (.u (.one (.d (.int .i64 r)))) := (f_point_Compare a b r hm).pureW
def F_hood_Right_1 (cx : Cx) (_l : List Point) (tt : Bool ⊕ Unit) (ee : Exit) (ρ : Env) (σ : Sto) : Prop := match tt with
  | .inl r => ee = .ret ∧ EE cx (fun ρ σ => ∃ v, resV tb ρ σ Tryz.f127.results.toList = some v ∧ (v.frz σ).free = true ∧ (v.frz σ).wk (.u (.one (.d (.bool r))))) ρ σ
  | .inr _u => ee = .exit 0 ∧ EE cx (FitsW [] []) ρ σ
theorem l_hood_Right_1 (cx : Cx) (hn : cx.n = 53) (l : List Point) {fu : Nat} {stt : Int} {tt : Bool ⊕ Unit} (hh : loopN (b_hood_Right_1 l) fu stt = some tt) {ρ : Env} {σ : Sto}
    (hE : Fits ((fun a1 : Int => [(0, .u (.one (.d (.sl 2 (List.map Point.row l))))), (13, .u (.one (.d (.sl 2 (List.map Point.row l))))), (14, .u (.one (.d (.int .i64 (lenL l))))), (15, .u (.one (.d (.int .i64 a1))))]) stt) ((fun _a1 : Int => []) stt) ρ σ) : Swp Tryz.prog cx (.loop (csub [1, 1, 0, 1, 0, 0] (bodyOf Tryz.f127))) ρ σ (F_hood_Right_1 cx l tt) := by
  refine loop_model (fun a1 : Int => [(0, .u (.one (.d (.sl 2 (List.map Point.row l))))), (13, .u (.one (.d (.sl 2 (List.map Point.row l))))), (14, .u (.one (.d (.int .i64 (lenL l))))), (15, .u (.one (.d (.int .i64 a1))))]) (fun a1 : Int => []) (F_hood_Right_1 cx l) (b_hood_Right_1 l) (fun a1 => by rfl) (fun a1 => by rfl) ?_ hh hE
  rintro a1 r hm ρ σ hf
  simp only [Fits, FitE, FitS, and_true] at hf
  unfold b_hood_Right_1 at hm
  dsimp only at hm
  refine sw_regs tb_ok (by rw [hn]; kernel_rfl) ?_
  simp -dsimp [hf]
  refine sw_seq ?_
  rcases bifE hm with ⟨c3, hm⟩ | ⟨c3, hm⟩
  · refine sw_cond_t (b := (ltB a1 (lenL l))) (by simp -dsimp) c3 ?_
    refine swp_skip ?_
    refine thenQ_n ?_
    refine sw_seq ?_
    refine sw_block ?_
    refine sw_regs tb_ok (by rw [hn]; kernel_rfl) ?_
    obtain ⟨x, h4, hm⟩ := bnd hm
    simp -dsimp [hf, c3, h4]
    obtain ⟨a2, j13, hm⟩ := bnd hm
    refine sw_cutE [(0, .u (.one (.d (.sl 2 (List.map Point.row l))))), (13, .u (.one (.d (.sl 2 (List.map Point.row l))))), (14, .u (.one (.d (.int .i64 (lenL l))))), (15, .u (.one (.d (.int .i64 a1)))), (51, .u (.one (.d (.bool a2))))] [] (by rfl) (by rfl) ?_ fun ρ σ hf => ?_
    · replace hm := j13
      clear j13
      refine sw_qt tb_ok mixed (by rw [hn]; kernel_rfl) ?_
      rcases bifE hm with ⟨c5, hm⟩ | ⟨c5, hm⟩
      · simp -dsimp [c5]
        refine thenQ_n ?_
        cases hm
        refine EE.here ?_
        simp -dsimp [hf]

      · rcases bifE hm with ⟨c6, hm⟩ | ⟨c6, hm⟩
        · simp -dsimp [c5, c6]
          refine thenQ_n ?_
          cases hm
          refine EE.here ?_
          simp -dsimp [hf]

        · rcases bifE hm with ⟨c7, hm⟩ | ⟨c7, hm⟩
          · simp -dsimp [c5, c6, c7]
            refine thenQ_n ?_
            cases hm
            refine EE.here ?_
            simp -dsimp [hf]

          · rcases bifE hm with ⟨c8, hm⟩ | ⟨c8, hm⟩
            · simp -dsimp [c5, c6, c7, c8]
              refine thenQ_n ?_
              cases hm
              refine EE.here ?_
              simp -dsimp [hf]

            · rcases bifE hm with ⟨c9, hm⟩ | ⟨c9, hm⟩
              · obtain ⟨x1, h10, hm⟩ := bnd hm
                obtain ⟨y, h11, hm⟩ := bnd hm
                simp -dsimp [hf, c5, c6, c7, c8, c9, h10]
                refine qcallL_pure (c_point_Compare x1 x y h11) ?_
                simp -dsimp
                refine thenQ_n ?_
                cases hm
                refine EE.here ?_
                simp -dsimp [hf]

              · simp -dsimp [c5, c6, c7, c8, c9]
                refine thenQ_n ?_
                cases hm
                refine EE.here ?_
                simp -dsimp [hf]

    · clear j13
      simp only [Fits, FitE, FitS, and_true] at hf
      rcases bifE hm with ⟨c12, hm⟩ | ⟨c12, hm⟩
      · refine sw_cond_t (b := a2) (by simp -dsimp [hf]) c12 ?_
        refine sw_regs tb_ok (by rw [hn]; kernel_rfl) ?_
        simp -dsimp
        refine swp_ret ?_
        refine blk_r ?_
        refine then_x ?_
        cases hm
        refine rd_out nofun ?_
        unfold F_hood_Right_1
        dsimp only
        refine ⟨rfl, ?_⟩
        refine EE.here ?_
        simp -dsimp [Tryz.results127]

      · refine sw_cond_f (b := a2) (by simp -dsimp [hf]) c12 ?_
        refine swp_skip ?_
        refine blk_n ?_
        refine thenQ_n ?_
        refine sw_reg tb_ok (by rw [hn]; kernel_rfl) ?_
        simp -dsimp [hf]
        cases hm
        refine rd_next ?_
        refine EE.here ?_
        simp -dsimp [hf]

  · refine sw_cond_f (b := (ltB a1 (lenL l))) (by simp -dsimp) c3 ?_
    refine swp_exit ?_
    refine then_x ?_
    cases hm
    refine rd_out nofun ?_
    unfold F_hood_Right_1
    dsimp only
    refine ⟨rfl, ?_⟩
    refine EE.here ?_
    simp -dsimp [c3]

theorem f_hood_Right (l : List Point) (r : Bool) (hm : m_hood_Right l = some r) : PFn Tryz.prog 127 [.u (.one (.d (.sl 2 (List.map Point.row l))))] (fun v => v.wk (.u (.one (.d (.bool r))))) := by
  refine pfn_E tb_ok _ Tryz.func127 rfl (by kernel_rfl) (by simp [Tryz.ntmps127]) fun cx hn => ?_
  replace hn : cx.n = 53 := hn.trans Tryz.ntmps127
  unfold m_hood_Right at hm
  refine sw_regs tb_ok (by rw [hn]; kernel_rfl) ?_
  simp -dsimp []
  refine sw_seq ?_
  obtain ⟨a, j16, hm⟩ := bnd hm
  refine sw_cutE [(0, .u (.one (.d (.sl 2 (List.map Point.row l))))), (12, .u (.one (.d (.bool a))))] [] (by rfl) (by rfl) ?_ fun ρ σ hf => ?_
  · replace hm := j16
    clear j16
    refine sw_reg tb_ok (by rw [hn]; kernel_rfl) ?_
    rcases bifE hm with ⟨c1, hm⟩ | ⟨c1, hm⟩
    · simp -dsimp [c1]
      refine thenQ_n ?_
      cases hm
      refine EE.here ?_
      simp -dsimp

    · simp -dsimp [c1]
      refine thenQ_n ?_
      cases hm
      refine EE.here ?_
      simp -dsimp

  · clear j16
    simp only [Fits, FitE, FitS, and_true] at hf
    rcases bifE hm with ⟨c2, hm⟩ | ⟨c2, hm⟩
    · refine sw_cond_t (b := a) (by simp -dsimp [hf]) c2 ?_
      refine sw_regs tb_ok (by rw [hn]; kernel_rfl) ?_
      simp -dsimp
      refine swp_ret ?_
      refine then_x ?_
      cases hm
      refine ⟨.inr rfl, ?_⟩
      refine EE.here ?_
      simp -dsimp

    · refine sw_cond_f (b := a) (by simp -dsimp [hf]) c2 ?_
      refine swp_skip ?_
      refine thenQ_n ?_
      refine sw_seq ?_
      refine sw_regs tb_ok (by rw [hn]; kernel_rfl) ?_
      simp -dsimp [hf]
      refine sw_block ?_
      obtain ⟨o_, g14, hm⟩ := bnd hm
      refine sw_ent [(0, .u (.one (.d (.sl 2 (List.map Point.row l))))), (13, .u (.one (.d (.sl 2 (List.map Point.row l))))), (14, .u (.one (.d (.int .i64 (lenL l))))), (15, .u (.one (.d (.int .i64 0))))] [] (by rfl) (by rfl) (by
          refine EE.here ?_
          simp -dsimp [hf]
      ) fun ρ σ hf => ?_
      refine (l_hood_Right_1 cx hn l g14 hf).mono fun ee ρ σ x15 => ?_
      rcases o_ with r | _u
      · unfold F_hood_Right_1 at x15
        dsimp only at x15
        obtain ⟨rfl, x15⟩ := x15
        refine blk_r ?_
        refine then_x ?_
        cases hm
        exact ⟨.inr rfl, x15⟩

      · unfold F_hood_Right_1 at x15
        dsimp only at x15
        obtain ⟨rfl, x15⟩ := x15
        refine blk_exit ?_
        refine thenQ_n ?_
        refine sw_ee (by rfl) (by rfl) x15 fun ρ σ hf => ?_
        simp only [Fits, FitE, FitS, and_true] at hf
        refine sw_regs tb_ok (by rw [hn]; kernel_rfl) ?_
        simp -dsimp
        refine swp_ret ?_
        cases hm
        refine ⟨.inr rfl, ?_⟩
        refine EE.here ?_
        simp -dsimp

theorem c_hood_Right (l : List Point) (r : Bool) (hm : m_hood_Right l = some r) : PureCall Tryz.prog 127 [.u (.one (.d (.sl 2 (List.map Point.row l))))] (.u (.one (.d (.bool r)))) := (f_hood_Right l r hm).pureW
def F_tree_Right_2 (cx : Cx) (t : Tree) (a1 : Int) (_x : Node) (tt : Bool ⊕ Unit) (ee : Exit) (ρ : Env) (σ : Sto) : Prop := match tt with
  | .inl r => ee = .ret ∧ EE cx (fun ρ σ => ∃ v, resV tb ρ σ Tryz.f109.results.toList = some v ∧ (v.frz σ).free = true ∧ (v.frz σ).wk (.u (.one (.d (.bool r))))) ρ σ
  | .inr _u => ee = .exit 2 ∧ EE cx (FitsW [(1, .u (.one (.box 1 0))), (47, .u (.one (.d (.sl 2 (List.map Node.row t.Nodes))))), (48, .u (.one (.d (.int .i64 (lenL t.Nodes))))), (49, .u (.one (.d (.int .i64 a1))))] [(1, .box [.d (.int .i64 t.States), .d (.sl 2 (List.map Point.row t.Hood)), .d (.sl 2 (List.map Node.row t.Nodes))])]) ρ σ
theorem l_tree_Right_2 (cx : Cx) (hn : cx.n = 117) (t : Tree) (a1 : Int) (x : Node) {fu : Nat} {stt : Int} {tt : Bool ⊕ Unit} (hh : loopN (b_tree_Right_2 t a1 x) fu stt = some tt) {ρ : Env} {σ : Sto}
    (hE : Fits ((fun a3 : Int => [(1, .u (.one (.box 1 0))), (4, .u (.one (.d (.int .i64 a1)))), (5, .u (.one (.box 5 0))), (47, .u (.one (.d (.sl 2 (List.map Node.row t.Nodes))))), (48, .u (.one (.d (.int .i64 (lenL t.Nodes))))), (49, .u (.one (.d (.int .i64 a1)))), (74, .u (.one (.d (.sl 1 (List.map (rI .i64) x.Next))))), (75, .u (.one (.d (.int .i64 (lenL x.Next))))), (76, .u (.one (.d (.int .i64 a3))))]) stt) ((fun _a3 : Int => [(1, .box [.d (.int .i64 t.States), .d (.sl 2 (List.map Point.row t.Hood)), .d (.sl 2 (List.map Node.row t.Nodes))]), (5, .box [.d (.int .i64 x.Level), .d (.sl 1 (List.map (rI .i64) x.Next))])]) stt) ρ σ) : Swp Tryz.prog cx (.loop (csub [1, 1, 1, 0, 1, 0, 0, 1, 1, 0, 0, 1, 1, 1, 0, 0] (bodyOf Tryz.f109))) ρ σ (F_tree_Right_2 cx t a1 x tt) := by
  refine loop_model (fun a3 : Int => [(1, .u (.one (.box 1 0))), (4, .u (.one (.d (.int .i64 a1)))), (5, .u (.one (.box 5 0))), (47, .u (.one (.d (.sl 2 (List.map Node.row t.Nodes))))), (48, .u (.one (.d (.int .i64 (lenL t.Nodes))))), (49, .u (.one (.d (.int .i64 a1)))), (74, .u (.one (.d (.sl 1 (List.map (rI .i64) x.Next))))), (75, .u (.one (.d (.int .i64 (lenL x.Next))))), (76, .u (.one (.d (.int .i64 a3))))]) (fun a3 : Int => [(1, .box [.d (.int .i64 t.States), .d (.sl 2 (List.map Point.row t.Hood)), .d (.sl 2 (List.map Node.row t.Nodes))]), (5, .box [.d (.int .i64 x.Level), .d (.sl 1 (List.map (rI .i64) x.Next))])]) (F_tree_Right_2 cx t a1 x) (b_tree_Right_2 t a1 x) (fun a3 => by rfl) (fun a3 => by rfl) ?_ hh hE
  rintro a3 r hm ρ σ hf
  simp only [Fits, FitE, FitS, and_true] at hf
  unfold b_tree_Right_2 at hm
  dsimp only at hm
  refine sw_regs tb_ok (by rw [hn]; kernel_rfl) ?_
  simp -dsimp [hf]
  refine sw_seq ?_
  rcases bifE hm with ⟨c14, hm⟩ | ⟨c14, hm⟩
  · refine sw_cond_t (b := (ltB a3 (lenL x.Next))) (by simp -dsimp) c14 ?_
    refine swp_skip ?_
    refine thenQ_n ?_
    refine sw_seq ?_
    refine sw_block ?_
    refine sw_regs tb_ok (by rw [hn]; kernel_rfl) ?_
    obtain ⟨x1, h15, hm⟩ := bnd hm
    simp -dsimp [hf, c14, h15]
    obtain ⟨a4, j26, hm⟩ := bnd hm
    refine sw_cutE [(1, .u (.one (.box 1 0))), (4, .u (.one (.d (.int .i64 a1)))), (5, .u (.one (.box 5 0))), (47, .u (.one (.d (.sl 2 (List.map Node.row t.Nodes))))), (48, .u (.one (.d (.int .i64 (lenL t.Nodes))))), (49, .u (.one (.d (.int .i64 a1)))), (74, .u (.one (.d (.sl 1 (List.map (rI .i64) x.Next))))), (75, .u (.one (.d (.int .i64 (lenL x.Next))))), (76, .u (.one (.d (.int .i64 a3)))), (114, .u (.one (.d (.bool a4))))] [(1, .box [.d (.int .i64 t.States), .d (.sl 2 (List.map Point.row t.Hood)), .d (.sl 2 (List.map Node.row t.Nodes))]), (5, .box [.d (.int .i64 x.Level), .d (.sl 1 (List.map (rI .i64) x.Next))])] (by rfl) (by rfl) ?_ fun ρ σ hf => ?_
    · replace hm := j26
      clear j26
      refine sw_qt tb_ok mixed (by rw [hn]; kernel_rfl) ?_
      rcases bifE hm with ⟨c16, hm⟩ | ⟨c16, hm⟩
      · simp -dsimp [c16]
        refine thenQ_n ?_
        cases hm
        refine EE.here ?_
        simp -dsimp [hf]

      · rcases bifE hm with ⟨c17, hm⟩ | ⟨c17, hm⟩
        · rcases bifE hm with ⟨c18, hm⟩ | ⟨c18, hm⟩
          · simp -dsimp [hf, c16, c17, c18]
            refine thenQ_n ?_
            cases hm
            refine EE.here ?_
            simp -dsimp [hf]

          · rcases bifE hm with ⟨c19, hm⟩ | ⟨c19, hm⟩
            · rcases bifE hm with ⟨c20, hm⟩ | ⟨c20, hm⟩
              · simp -dsimp [hf, c16, c17, c18, c19, c20]
                refine thenQ_n ?_
                cases hm
                refine EE.here ?_
                simp -dsimp [hf]

              · obtain ⟨x2, h21, hm⟩ := bnd hm
                simp -dsimp [hf, c16, c17, c18, c19, c20, h21]
                refine thenQ_n ?_
                cases hm
                refine EE.here ?_
                simp -dsimp [hf]

            · simp -dsimp [hf, c16, c17, c18, c19]
              refine thenQ_n ?_
              cases hm
              refine EE.here ?_
              simp -dsimp [hf]

        · rcases bifE hm with ⟨c22, hm⟩ | ⟨c22, hm⟩
          · rcases bifE hm with ⟨c23, hm⟩ | ⟨c23, hm⟩
            · simp -dsimp [hf, c16, c17, c22, c23]
              refine thenQ_n ?_
              cases hm
              refine EE.here ?_
              simp -dsimp [hf]

            · obtain ⟨x2, h24, hm⟩ := bnd hm
              simp -dsimp [hf, c16, c17, c22, c23, h24]
              refine thenQ_n ?_
              cases hm
              refine EE.here ?_
              simp -dsimp [hf]

          · simp -dsimp [hf, c16, c17, c22]
            refine thenQ_n ?_
            cases hm
            refine EE.here ?_
            simp -dsimp [hf]

    · clear j26
      simp only [Fits, FitE, FitS, and_true] at hf
      rcases bifE hm with ⟨c25, hm⟩ | ⟨c25, hm⟩
      · refine sw_cond_t (b := a4) (by simp -dsimp [hf]) c25 ?_
        refine sw_regs tb_ok (by rw [hn]; kernel_rfl) ?_
        simp -dsimp
        refine swp_ret ?_
        refine blk_r ?_
        refine then_x ?_
        cases hm
        refine rd_out nofun ?_
        unfold F_tree_Right_2
        dsimp only
        refine ⟨rfl, ?_⟩
        refine EE.here ?_
        simp -dsimp [Tryz.results109]

      · refine sw_cond_f (b := a4) (by simp -dsimp [hf]) c25 ?_
        refine swp_skip ?_
        refine blk_n ?_
        refine thenQ_n ?_
        refine sw_reg tb_ok (by rw [hn]; kernel_rfl) ?_
        simp -dsimp [hf]
        cases hm
        refine rd_next ?_
        refine EE.here ?_
        simp -dsimp [hf]

  · refine sw_cond_f (b := (ltB a3 (lenL x.Next))) (by simp -dsimp) c14 ?_
    refine swp_exit ?_
    refine then_x ?_
    cases hm
    refine rd_out nofun ?_
    unfold F_tree_Right_2
    dsimp only
    refine ⟨rfl, ?_⟩
    refine EE.here ?_
    simp -dsimp [hf, c14]

def F_tree_Right_1 (cx : Cx) (_t : Tree) (tt : Bool ⊕ Unit) (ee : Exit) (ρ : Env) (σ : Sto) : Prop := match tt with
  | .inl r => ee = .ret ∧ EE cx (fun ρ σ => ∃ v, resV tb ρ σ Tryz.f109.results.toList = some v ∧ (v.frz σ).free = true ∧ (v.frz σ).wk (.u (.one (.d (.bool r))))) ρ σ
  | .inr _u => ee = .exit 0 ∧ EE cx (FitsW [] []) ρ σ
theorem l_tree_Right_1 (cx : Cx) (hn : cx.n = 117) (t : Tree) {fu : Nat} {stt : Int} {tt : Bool ⊕ Unit} (hh : loopN (b_tree_Right_1 t) fu stt = some tt) {ρ : Env} {σ : Sto}
    (hE : Fits ((fun a1 : Int => [(1, .u (.one (.box 1 0))), (47, .u (.one (.d (.sl 2 (List.map Node.row t.Nodes))))), (48, .u (.one (.d (.int .i64 (lenL t.Nodes))))), (49, .u (.one (.d (.int .i64 a1))))]) stt) ((fun _a1 : Int => [(1, .box [.d (.int .i64 t.States), .d (.sl 2 (List.map Point.row t.Hood)), .d (.sl 2 (List.map Node.row t.Nodes))])]) stt) ρ σ) : Swp Tryz.prog cx (.loop (csub [1, 1, 1, 0, 1, 0, 0] (bodyOf Tryz.f109))) ρ σ (F_tree_Right_1 cx t tt) := by
  refine loop_model (fun a1 : Int => [(1, .u (.one (.box 1 0))), (47, .u (.one (.d (.sl 2 (List.map Node.row t.Nodes))))), (48, .u (.one (.d (.int .i64 (lenL t.Nodes))))), (49, .u (.one (.d (.int .i64 a1))))]) (fun a1 : Int => [(1, .box [.d (.int .i64 t.States), .d (.sl 2 (List.map Point.row t.Hood)), .d (.sl 2 (List.map Node.row t.Nodes))])]) (F_tree_Right_1 cx t) (b_tree_Right_1 t) (fun a1 => by rfl) (fun a1 => by rfl) ?_ hh hE
  rintro a1 r hm ρ σ hf
  simp only [Fits, FitE, FitS, and_true] at hf
  unfold b_tree_Right_1 at hm
  dsimp only at hm
  refine sw_regs tb_ok (by rw [hn]; kernel_rfl) ?_
  simp -dsimp [hf]
  refine sw_seq ?_
  rcases bifE hm with ⟨c9, hm⟩ | ⟨c9, hm⟩
  · refine sw_cond_t (b := (ltB a1 (lenL t.Nodes))) (by simp -dsimp) c9 ?_
    refine swp_skip ?_
    refine thenQ_n ?_
    refine sw_seq ?_
    refine sw_block ?_
    refine sw_regs tb_ok (by rw [hn]; kernel_rfl) ?_
    obtain ⟨x, h10, hm⟩ := bnd hm
    simp -dsimp [hf, c9, h10]
    refine sw_seq ?_
    obtain ⟨a2, j29, hm⟩ := bnd hm
    refine sw_cutE [(1, .u (.one (.box 1 0))), (4, .u (.one (.d (.int .i64 a1)))), (5, .u (.one (.box 5 0))), (47, .u (.one (.d (.sl 2 (List.map Node.row t.Nodes))))), (48, .u (.one (.d (.int .i64 (lenL t.Nodes))))), (49, .u (.one (.d (.int .i64 a1)))), (72, .u (.one (.d (.bool a2))))] [(1, .box [.d (.int .i64 t.States), .d (.sl 2 (List.map Point.row t.Hood)), .d (.sl 2 (List.map Node.row t.Nodes))]), (5, .box [.d (.int .i64 x.Level), .d (.sl 1 (List.map (rI .i64) x.Next))])] (by rfl) (by rfl) ?_ fun ρ σ hf => ?_
    · replace hm := j29
      clear j29
      refine sw_reg tb_ok (by rw [hn]; kernel_rfl) ?_
      rcases bifE hm with ⟨c11, hm⟩ | ⟨c11, hm⟩
      · simp -dsimp [c11]
        refine thenQ_n ?_
        cases hm
        refine EE.here ?_
        simp -dsimp [hf]

      · rcases bifE hm with ⟨c12, hm⟩ | ⟨c12, hm⟩
        · simp -dsimp [hf, c11, c12]
          refine thenQ_n ?_
          cases hm
          refine EE.here ?_
          simp -dsimp [hf]

        · simp -dsimp [hf, c11, c12]
          refine thenQ_n ?_
          cases hm
          refine EE.here ?_
          simp -dsimp [hf]

    · clear j29
      simp only [Fits, FitE, FitS, and_true] at hf
      rcases bifE hm with ⟨c13, hm⟩ | ⟨c13, hm⟩
      · refine sw_cond_t (b := a2) (by simp -dsimp [hf]) c13 ?_
        refine sw_regs tb_ok (by rw [hn]; kernel_rfl) ?_
        simp -dsimp
        refine swp_ret ?_
        refine then_x ?_
        refine blk_r ?_
        refine then_x ?_
        cases hm
        refine rd_out nofun ?_
        unfold F_tree_Right_1
        dsimp only
        refine ⟨rfl, ?_⟩
        refine EE.here ?_
        simp -dsimp [Tryz.results109]

      · refine sw_cond_f (b := a2) (by simp -dsimp [hf]) c13 ?_
        refine swp_skip ?_
        refine thenQ_n ?_
        refine sw_regs tb_ok (by rw [hn]; kernel_rfl) ?_
        simp -dsimp [hf]
        refine sw_block ?_
        obtain ⟨o_, g27, hm⟩ := bnd hm
        refine sw_ent [(1, .u (.one (.box 1 0))), (4, .u (.one (.d (.int .i64 a1)))), (5, .u (.one (.box 5 0))), (47, .u (.one (.d (.sl 2 (List.map Node.row t.Nodes))))), (48, .u (.one (.d (.int .i64 (lenL t.Nodes))))), (49, .u (.one (.d (.int .i64 a1)))), (74, .u (.one (.d (.sl 1 (List.map (rI .i64) x.Next))))), (75, .u (.one (.d (.int .i64 (lenL x.Next))))), (76, .u (.one (.d (.int .i64 0))))] [(1, .box [.d (.int .i64 t.States), .d (.sl 2 (List.map Point.row t.Hood)), .d (.sl 2 (List.map Node.row t.Nodes))]), (5, .box [.d (.int .i64 x.Level), .d (.sl 1 (List.map (rI .i64) x.Next))])] (by rfl) (by rfl) (by
            refine EE.here ?_
            simp -dsimp [hf]
        ) fun ρ σ hf => ?_
        refine (l_tree_Right_2 cx hn t a1 x g27 hf).mono fun ee ρ σ x28 => ?_
        rcases o_ with r | _u
        · unfold F_tree_Right_2 at x28
          dsimp only at x28
          obtain ⟨rfl, x28⟩ := x28
          refine blk_r ?_
          refine blk_r ?_
          refine then_x ?_
          cases hm
          refine rd_out nofun ?_
          unfold F_tree_Right_1
          dsimp only
          refine ⟨rfl, ?_⟩
          exact x28

        · unfold F_tree_Right_2 at x28
          dsimp only at x28
          obtain ⟨rfl, x28⟩ := x28
          refine blk_exit ?_
          refine blk_n ?_
          refine thenQ_n ?_
          refine sw_ee (by rfl) (by rfl) x28 fun ρ σ hf => ?_
          simp only [Fits, FitE, FitS, and_true] at hf
          refine sw_reg tb_ok (by rw [hn]; kernel_rfl) ?_
          simp -dsimp [hf]
          cases hm
          refine rd_next ?_
          refine EE.here ?_
          simp -dsimp [hf]

  · refine sw_cond_f (b := (ltB a1 (lenL t.Nodes))) (by simp -dsimp) c9 ?_
    refine swp_exit ?_
    refine then_x ?_
    cases hm
    refine rd_out nofun ?_
    unfold F_tree_Right_1
    dsimp only
    refine ⟨rfl, ?_⟩
    refine EE.here ?_
    simp -dsimp [c9]

theorem f_tree_Right (t : Tree) (r : Bool) (hm : m_tree_Right t = some r) : PFn Tryz.prog 109 [.u (.agg [.d (.int .i64 t.States), .d (.sl 2 (List.map Point.row t.Hood)), .d (.sl 2 (List.map Node.row t.Nodes))])] (fun v => v.wk (.u (.one (.d (.bool r))))) := by
  refine pfn_E tb_ok _ Tryz.func109 rfl (by kernel_rfl) (by simp [Tryz.ntmps109]) fun cx hn => ?_
  replace hn : cx.n = 117 := hn.trans Tryz.ntmps109
  unfold m_tree_Right at hm
  refine sw_regs tb_ok (by rw [hn]; kernel_rfl) ?_
  simp -dsimp []
  refine sw_regs tb_ok (by rw [hn]; kernel_rfl) ?_
  simp -dsimp []
  refine sw_seq ?_
  obtain ⟨a, j32, hm⟩ := bnd hm
  refine sw_cutE [(1, .u (.one (.box 1 0))), (45, .u (.one (.d (.bool a))))] [(1, .box [.d (.int .i64 t.States), .d (.sl 2 (List.map Point.row t.Hood)), .d (.sl 2 (List.map Node.row t.Nodes))])] (by rfl) (by rfl) ?_ fun ρ σ hf => ?_
  · replace hm := j32
    clear j32
    refine sw_qt tb_ok mixed (by rw [hn]; kernel_rfl) ?_
    rcases bifE hm with ⟨c1, hm⟩ | ⟨c1, hm⟩
    · simp -dsimp [c1]
      refine thenQ_n ?_
      cases hm
      refine EE.here ?_
      simp -dsimp

    · rcases bifE hm with ⟨c2, hm⟩ | ⟨c2, hm⟩
      · simp -dsimp [c1, c2]
        refine thenQ_n ?_
        cases hm
        refine EE.here ?_
        simp -dsimp

      · obtain ⟨y, h3, hm⟩ := bnd hm
        simp -dsimp [c1, c2]
        refine qcallL_pure (c_hood_Right t.Hood y h3) ?_
        rcases bifE hm with ⟨c4, hm⟩ | ⟨c4, hm⟩
        · simp -dsimp [c4]
          refine thenQ_n ?_
          cases hm
          refine EE.here ?_
          simp -dsimp

        · rcases bifE hm with ⟨c5, hm⟩ | ⟨c5, hm⟩
          · simp -dsimp [c4, c5]
            refine thenQ_n ?_
            cases hm
            refine EE.here ?_
            simp -dsimp

          · rcases bifE hm with ⟨c6, hm⟩ | ⟨c6, hm⟩
            · simp -dsimp [c4, c5, c6]
              refine thenQ_n ?_
              cases hm
              refine EE.here ?_
              simp -dsimp

            · obtain ⟨x, h7, hm⟩ := bnd hm
              simp -dsimp [c4, c5, c6, h7]
              refine thenQ_n ?_
              cases hm
              refine EE.here ?_
              simp -dsimp

  · clear j32
    simp only [Fits, FitE, FitS, and_true] at hf
    rcases bifE hm with ⟨c8, hm⟩ | ⟨c8, hm⟩
    · refine sw_cond_t (b := a) (by simp -dsimp [hf]) c8 ?_
      refine sw_regs tb_ok (by rw [hn]; kernel_rfl) ?_
      simp -dsimp
      refine swp_ret ?_
      refine then_x ?_
      cases hm
      refine ⟨.inr rfl, ?_⟩
      refine EE.here ?_
      simp -dsimp

    · refine sw_cond_f (b := a) (by simp -dsimp [hf]) c8 ?_
      refine swp_skip ?_
      refine thenQ_n ?_
      refine sw_seq ?_
      refine sw_regs tb_ok (by rw [hn]; kernel_rfl) ?_
      simp -dsimp [hf]
      refine sw_block ?_
      obtain ⟨o_, g30, hm⟩ := bnd hm
      refine sw_ent [(1, .u (.one (.box 1 0))), (47, .u (.one (.d (.sl 2 (List.map Node.row t.Nodes))))), (48, .u (.one (.d (.int .i64 (lenL t.Nodes))))), (49, .u (.one (.d (.int .i64 0))))] [(1, .box [.d (.int .i64 t.States), .d (.sl 2 (List.map Point.row t.Hood)), .d (.sl 2 (List.map Node.row t.Nodes))])] (by rfl) (by rfl) (by
          refine EE.here ?_
          simp -dsimp [hf]
      ) fun ρ σ hf => ?_
      refine (l_tree_Right_1 cx hn t g30 hf).mono fun ee ρ σ x31 => ?_
      rcases o_ with r | _u
      · unfold F_tree_Right_1 at x31
        dsimp only at x31
        obtain ⟨rfl, x31⟩ := x31
        refine blk_r ?_
        refine then_x ?_
        cases hm
        exact ⟨.inr rfl, x31⟩

      · unfold F_tree_Right_1 at x31
        dsimp only at x31
        obtain ⟨rfl, x31⟩ := x31
        refine blk_exit ?_
        refine thenQ_n ?_
        refine sw_ee (by rfl) (by rfl) x31 fun ρ σ hf => ?_
        simp only [Fits, FitE, FitS, and_true] at hf
        refine sw_regs tb_ok (by rw [hn]; kernel_rfl) ?_
        simp -dsimp
        refine swp_ret ?_
        cases hm
        refine ⟨.inr rfl, ?_⟩
        refine EE.here ?_
        simp -dsimp

theorem c_tree_Right (t : Tree) (r : Bool) (hm : m_tree_Right t = some r) : PureCall Tryz.prog 109 [.u (.agg [.d (.int .i64 t.States), .d (.sl 2 (List.map Point.row t.Hood)), .d (.sl 2 (List.map Node.row t.Nodes))])] (.u (.one (.d (.bool r)))) := (f_tree_Right t r hm).pureW
end Go.Proofs.YtdjclgfbggfpaaaGreatDoor
