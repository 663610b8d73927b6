/-
  That the code does what the functions say (made by cc.py).
-/
import Derived.Test.YtgfhhbjnjccomaaGreatDoorMd1
import Derived.Test.YtgfhhbjnjccomaaGreatDoorTb
import Derived.Test.YtgfhhbjnjccomaaGreatDoorWa1
import Derived.Test.YtgfhhbjnjccomaaGreatDoorWa6
import Derived.Test.YtgfhhbjnjccomaaGreatDoorWa12
import Derived.Test.YtgfhhbjnjccomaaGreatDoorWa13
import Derived.Test.YtgfhhbjnjccomaaGreatDoorWa15
namespace Go.Proofs.YtgfhhbjnjccomaaGreatDoor
open Go.AM Go.Proofs
theorem f_L45_UnrollBits (t : Tree) (x : Problem) (p : List Cell) (r : Bool) (hm : m_L45_UnrollBits t x p = some r) : PFn Tryz.prog 6 [.u (.agg [.d (.int .i64 t.States), .d (.sl 2 (List.map Point.row t.Hood)), .d (.sl 2 (List.map Node.row t.Nodes))]), .u (.agg [.d (.int .i64 x.W), .d (.int .i64 x.H), .d (.int .i64 x.Gens), .d (.int .i64 x.DX), .d (.int .i64 x.DY), .d (.sl 1 (List.map (rI .i64) x.Syms))]), .u (.one (.d (.sl 3 (List.map Cell.row p))))] (fun v => v.wk (.u (.one (.d (.bool r))))) := by
  refine pfn_E tb_ok _ Tryz.func6 rfl (by kernel_rfl) (by simp [Tryz.ntmps6]) fun cx hn => ?_
  replace hn : cx.n = 66 := hn.trans Tryz.ntmps6
  unfold m_L45_UnrollBits at hm
  refine sw_regs tb_ok (by rw [hn]; kernel_rfl) ?_
  simp -dsimp []
  refine sw_seq ?_
  obtain ⟨a, j19, hm⟩ := bnd hm
  refine sw_cutE [(2, .u (.one (.d (.sl 3 (List.map Cell.row p))))), (3, .u (.one (.box 3 0))), (4, .u (.one (.box 4 0))), (21, .u (.one (.d (.bool a))))] [(3, .box [.d (.int .i64 t.States), .d (.sl 2 (List.map Point.row t.Hood)), .d (.sl 2 (List.map Node.row t.Nodes))]), (4, .box [.d (.int .i64 x.W), .d (.int .i64 x.H), .d (.int .i64 x.Gens), .d (.int .i64 x.DX), .d (.int .i64 x.DY), .d (.sl 1 (List.map (rI .i64) x.Syms))])] (by rfl) (by rfl) ?_ fun ρ σ hf => ?_
  · replace hm := j19
    clear j19
    refine sw_reg tb_ok (by rw [hn]; kernel_rfl) ?_
    obtain ⟨y, h1, hm⟩ := bnd hm
    simp -dsimp []
    refine callL_pure (c_L45_Small t x y h1) (by rw [hn]; decide) ?_
    rcases bifE hm with ⟨c2, hm⟩ | ⟨c2, hm⟩
    · simp -dsimp [c2]
      refine thenQ_n ?_
      cases hm
      refine EE.here ?_
      simp -dsimp

    · simp -dsimp [c2]
      refine thenQ_n ?_
      cases hm
      refine EE.here ?_
      simp -dsimp

  · clear j19
    simp only [Fits, FitE, FitS, and_true] at hf
    rcases bifE hm with ⟨c3, hm⟩ | ⟨c3, hm⟩
    · refine sw_cond_t (b := a) (by simp -dsimp [hf]) c3 ?_
      refine sw_regs tb_ok (by rw [hn]; kernel_rfl) ?_
      obtain ⟨y, h4, hm⟩ := bnd hm
      simp -dsimp
      refine callL_pure (c_L45_alive y h4) (by rw [hn]; decide) ?_
      simp -dsimp
      refine swp_ret ?_
      refine then_x ?_
      cases hm
      refine ⟨.inr rfl, ?_⟩
      refine EE.here ?_
      simp -dsimp

    · refine sw_cond_f (b := a) (by simp -dsimp [hf]) c3 ?_
      refine swp_skip ?_
      refine thenQ_n ?_
      refine sw_regs tb_ok (by rw [hn]; kernel_rfl) ?_
      obtain ⟨y, h5, hm⟩ := bnd hm
      simp -dsimp [hf]
      refine callL_pure (c_unroll_Bits t x p y h5) (by rw [hn]; decide) ?_
      simp -dsimp
      refine sw_regs tb_ok (by rw [hn]; kernel_rfl) ?_
      obtain ⟨y1, h6, hm⟩ := bnd hm
      simp -dsimp [hf]
      refine callL_pure (c_R45_Bits t x p y1 h6) (by rw [hn]; decide) ?_
      simp -dsimp
      refine sw_seq ?_
      obtain ⟨a1, j18, hm⟩ := bnd hm
      refine sw_cutE [(2, .u (.one (.d (.sl 3 (List.map Cell.row p))))), (3, .u (.one (.box 3 0))), (4, .u (.one (.box 4 0))), (7, .u (.one (.d (.sl 1 (List.map rB y.1))))), (8, .u (.one (.d (.int .i64 y.2)))), (45, .u (.one (.d (.bool a1))))] [(3, .box [.d (.int .i64 t.States), .d (.sl 2 (List.map Point.row t.Hood)), .d (.sl 2 (List.map Node.row t.Nodes))]), (4, .box [.d (.int .i64 x.W), .d (.int .i64 x.H), .d (.int .i64 x.Gens), .d (.int .i64 x.DX), .d (.int .i64 x.DY), .d (.sl 1 (List.map (rI .i64) x.Syms))])] (by rfl) (by rfl) ?_ fun ρ σ hf => ?_
      · replace hm := j18
        clear j18
        refine sw_reg tb_ok (by rw [hn]; kernel_rfl) ?_
        obtain ⟨y2, h7, hm⟩ := bnd hm
        simp -dsimp
        refine callL_pure (c_R17_SameBools y.1 y1.1 y2 h7) (by rw [hn]; decide) ?_
        rcases bifE hm with ⟨c8, hm⟩ | ⟨c8, hm⟩
        · simp -dsimp [c8]
          refine thenQ_n ?_
          cases hm
          refine EE.here ?_
          simp -dsimp [hf]

        · simp -dsimp [c8]
          refine thenQ_n ?_
          cases hm
          refine EE.here ?_
          simp -dsimp [hf]

      · clear j18
        simp only [Fits, FitE, FitS, and_true] at hf
        rcases bifE hm with ⟨c9, hm⟩ | ⟨c9, hm⟩
        · refine sw_cond_t (b := a1) (by simp -dsimp [hf]) c9 ?_
          refine sw_regs tb_ok (by rw [hn]; kernel_rfl) ?_
          simp -dsimp
          refine swp_ret ?_
          refine then_x ?_
          cases hm
          refine ⟨.inr rfl, ?_⟩
          refine EE.here ?_
          simp -dsimp

        · refine sw_cond_f (b := a1) (by simp -dsimp [hf]) c9 ?_
          refine swp_skip ?_
          refine thenQ_n ?_
          refine sw_seq ?_
          refine sw_regs tb_ok (by rw [hn]; kernel_rfl) ?_
          simp -dsimp [hf]
          rcases bifE hm with ⟨c10, hm⟩ | ⟨c10, hm⟩
          · refine sw_cond_t (b := (neB y.2 0)) (by simp -dsimp) c10 ?_
            refine sw_regs tb_ok (by rw [hn]; kernel_rfl) ?_
            obtain ⟨y2, h11, hm⟩ := bnd hm
            simp -dsimp [c10]
            refine callL_pure (c_L45_alive y2 h11) (by rw [hn]; decide) ?_
            simp -dsimp
            refine swp_ret ?_
            refine then_x ?_
            cases hm
            refine ⟨.inr rfl, ?_⟩
            refine EE.here ?_
            simp -dsimp

          · refine sw_cond_f (b := (neB y.2 0)) (by simp -dsimp) c10 ?_
            refine swp_skip ?_
            refine thenQ_n ?_
            refine sw_regs tb_ok (by rw [hn]; kernel_rfl) ?_
            obtain ⟨y2, h12, hm⟩ := bnd hm
            simp -dsimp [hf, c10]
            refine callL_pure (c_unroll_Pattern t x y.1 y2 h12) (by rw [hn]; decide) ?_
            simp -dsimp
            obtain ⟨a2, j17, hm⟩ := bnd hm
            refine sw_cutE [(6, .u (.one (.d (.bool a2))))] [] (by rfl) (by rfl) ?_ fun ρ σ hf => ?_
            · replace hm := j17
              clear j17
              refine sw_reg tb_ok (by rw [hn]; kernel_rfl) ?_
              rcases bifE hm with ⟨c13, hm⟩ | ⟨c13, hm⟩
              · obtain ⟨y3, h14, hm⟩ := bnd hm
                simp -dsimp [hf, c13]
                refine callL_pure (c_R05_Same p y2.1 y3 h14) (by rw [hn]; decide) ?_
                rcases bifE hm with ⟨c15, hm⟩ | ⟨c15, hm⟩
                · obtain ⟨y4, h16, hm⟩ := bnd hm
                  simp -dsimp [c15]
                  refine callL_pure (c_L45_alive y4 h16) (by rw [hn]; decide) ?_
                  simp -dsimp
                  refine thenQ_n ?_
                  cases hm
                  refine EE.here ?_
                  simp -dsimp

                · simp -dsimp [c15]
                  refine thenQ_n ?_
                  cases hm
                  refine EE.here ?_
                  simp -dsimp

              · simp -dsimp [c13]
                refine thenQ_n ?_
                cases hm
                refine EE.here ?_
                simp -dsimp

            · clear j17
              simp only [Fits, FitE, FitS, and_true] at hf
              refine swp_ret ?_
              cases hm
              refine ⟨.inr rfl, ?_⟩
              refine EE.here ?_
              simp -dsimp [hf]

theorem c_L45_UnrollBits (t : Tree) (x : Problem) (p : List Cell) (r : Bool) (hm : m_L45_UnrollBits t x p = some r) : PureCall Tryz.prog 6 [.u (.agg [.d (.int .i64 t.States), .d (.sl 2 (List.map Point.row t.Hood)), .d (.sl 2 (List.map Node.row t.Nodes))]), .u (.agg [.d (.int .i64 x.W), .d (.int .i64 x.H), .d (.int .i64 x.Gens), .d (.int .i64 x.DX), .d (.int .i64 x.DY), .d (.sl 1 (List.map (rI .i64) x.Syms))]), .u (.one (.d (.sl 3 (List.map Cell.row p))))] (.u (.one (.d (.bool r)))) := (f_L45_UnrollBits t x p r hm).pureW
end Go.Proofs.YtgfhhbjnjccomaaGreatDoor
