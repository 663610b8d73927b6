/-
  That the code does what the functions say (made by cc.py).
-/
import Derived.Test.YtgfhhbjnjccomaaGreatDoorMd1
import Derived.Test.YtgfhhbjnjccomaaGreatDoorTb
import Derived.Test.YtgfhhbjnjccomaaGreatDoorWa1
import Derived.Test.YtgfhhbjnjccomaaGreatDoorWa6
import Derived.Test.YtgfhhbjnjccomaaGreatDoorWa11
import Derived.Test.YtgfhhbjnjccomaaGreatDoorWa12
import Derived.Test.YtgfhhbjnjccomaaGreatDoorWa13
namespace Go.Proofs.YtgfhhbjnjccomaaGreatDoor
open Go.AM Go.Proofs
theorem f_L45_UnrollPatterns (t : Tree) (x : Problem) (l : List Bool) (r : Bool) (hm : m_L45_UnrollPatterns t x l = some r) : PFn Tryz.prog 5 [.u (.agg [.d (.int .i64 t.States), .d (.sl 2 (List.map Point.row t.Hood)), .d (.sl 2 (List.map Node.row t.Nodes))]), .u (.agg [.d (.int .i64 x.W), .d (.int .i64 x.H), .d (.int .i64 x.Gens), .d (.int .i64 x.DX), .d (.int .i64 x.DY), .d (.sl 1 (List.map (rI .i64) x.Syms))]), .u (.one (.d (.sl 1 (List.map rB l))))] (fun v => v.wk (.u (.one (.d (.bool r))))) := by
  refine pfn_E tb_ok _ Tryz.func5 rfl (by kernel_rfl) (by simp [Tryz.ntmps5]) fun cx hn => ?_
  replace hn : cx.n = 66 := hn.trans Tryz.ntmps5
  unfold m_L45_UnrollPatterns at hm
  refine sw_regs tb_ok (by rw [hn]; kernel_rfl) ?_
  simp -dsimp []
  refine sw_seq ?_
  obtain ⟨a, j19, hm⟩ := bnd hm
  refine sw_cutE [(2, .u (.one (.d (.sl 1 (List.map rB l))))), (3, .u (.one (.box 3 0))), (4, .u (.one (.box 4 0))), (21, .u (.one (.d (.bool a))))] [(3, .box [.d (.int .i64 t.States), .d (.sl 2 (List.map Point.row t.Hood)), .d (.sl 2 (List.map Node.row t.Nodes))]), (4, .box [.d (.int .i64 x.W), .d (.int .i64 x.H), .d (.int .i64 x.Gens), .d (.int .i64 x.DX), .d (.int .i64 x.DY), .d (.sl 1 (List.map (rI .i64) x.Syms))])] (by rfl) (by rfl) ?_ fun ρ σ hf => ?_
  · replace hm := j19
    clear j19
    refine sw_reg tb_ok (by rw [hn]; kernel_rfl) ?_
    obtain ⟨y, h1, hm⟩ := bnd hm
    simp -dsimp []
    refine callL_pure (c_L45_Small t x y h1) (by rw [hn]; decide) ?_
    rcases bifE hm with ⟨c2, hm⟩ | ⟨c2, hm⟩
    · simp -dsimp [c2]
      refine thenQ_n ?_
      cases hm
      refine EE.here ?_
      simp -dsimp

    · simp -dsimp [c2]
      refine thenQ_n ?_
      cases hm
      refine EE.here ?_
      simp -dsimp

  · clear j19
    simp only [Fits, FitE, FitS, and_true] at hf
    rcases bifE hm with ⟨c3, hm⟩ | ⟨c3, hm⟩
    · refine sw_cond_t (b := a) (by simp -dsimp [hf]) c3 ?_
      refine sw_regs tb_ok (by rw [hn]; kernel_rfl) ?_
      obtain ⟨y, h4, hm⟩ := bnd hm
      simp -dsimp
      refine callL_pure (c_L45_alive y h4) (by rw [hn]; decide) ?_
      simp -dsimp
      refine swp_ret ?_
      refine then_x ?_
      cases hm
      refine ⟨.inr rfl, ?_⟩
      refine EE.here ?_
      simp -dsimp

    · refine sw_cond_f (b := a) (by simp -dsimp [hf]) c3 ?_
      refine swp_skip ?_
      refine thenQ_n ?_
      refine sw_regs tb_ok (by rw [hn]; kernel_rfl) ?_
      obtain ⟨y, h5, hm⟩ := bnd hm
      simp -dsimp [hf]
      refine callL_pure (c_unroll_Pattern t x l y h5) (by rw [hn]; decide) ?_
      simp -dsimp
      refine sw_regs tb_ok (by rw [hn]; kernel_rfl) ?_
      obtain ⟨y1, h6, hm⟩ := bnd hm
      simp -dsimp [hf]
      refine callL_pure (c_R45_Pattern t x l y1 h6) (by rw [hn]; decide) ?_
      simp -dsimp
      refine sw_seq ?_
      obtain ⟨a1, j18, hm⟩ := bnd hm
      refine sw_cutE [(2, .u (.one (.d (.sl 1 (List.map rB l))))), (3, .u (.one (.box 3 0))), (4, .u (.one (.box 4 0))), (7, .u (.one (.d (.sl 3 (List.map Cell.row y.1))))), (8, .u (.one (.d (.int .i64 y.2)))), (45, .u (.one (.d (.bool a1))))] [(3, .box [.d (.int .i64 t.States), .d (.sl 2 (List.map Point.row t.Hood)), .d (.sl 2 (List.map Node.row t.Nodes))]), (4, .box [.d (.int .i64 x.W), .d (.int .i64 x.H), .d (.int .i64 x.Gens), .d (.int .i64 x.DX), .d (.int .i64 x.DY), .d (.sl 1 (List.map (rI .i64) x.Syms))])] (by rfl) (by rfl) ?_ fun ρ σ hf => ?_
      · replace hm := j18
        clear j18
        refine sw_reg tb_ok (by rw [hn]; kernel_rfl) ?_
        obtain ⟨y2, h7, hm⟩ := bnd hm
        simp -dsimp
        refine callL_pure (c_R05_Same y.1 y1.1 y2 h7) (by rw [hn]; decide) ?_
        rcases bifE hm with ⟨c8, hm⟩ | ⟨c8, hm⟩
        · simp -dsimp [c8]
          refine thenQ_n ?_
          cases hm
          refine EE.here ?_
          simp -dsimp [hf]

        · simp -dsimp [c8]
          refine thenQ_n ?_
          cases hm
          refine EE.here ?_
          simp -dsimp [hf]

      · clear j18
        simp only [Fits, FitE, FitS, and_true] at hf
        rcases bifE hm with ⟨c9, hm⟩ | ⟨c9, hm⟩
        · refine sw_cond_t (b := a1) (by simp -dsimp [hf]) c9 ?_
          refine sw_regs tb_ok (by rw [hn]; kernel_rfl) ?_
          simp -dsimp
          refine swp_ret ?_
          refine then_x ?_
          cases hm
          refine ⟨.inr rfl, ?_⟩
          refine EE.here ?_
          simp -dsimp

        · refine sw_cond_f (b := a1) (by simp -dsimp [hf]) c9 ?_
          refine swp_skip ?_
          refine thenQ_n ?_
          refine sw_seq ?_
          refine sw_regs tb_ok (by rw [hn]; kernel_rfl) ?_
          simp -dsimp [hf]
          rcases bifE hm with ⟨c10, hm⟩ | ⟨c10, hm⟩
          · refine sw_cond_t (b := (neB y.2 0)) (by simp -dsimp) c10 ?_
            refine sw_regs tb_ok (by rw [hn]; kernel_rfl) ?_
            obtain ⟨y2, h11, hm⟩ := bnd hm
            simp -dsimp [c10]
            refine callL_pure (c_L45_alive y2 h11) (by rw [hn]; decide) ?_
            simp -dsimp
            refine swp_ret ?_
            refine then_x ?_
            cases hm
            refine ⟨.inr rfl, ?_⟩
            refine EE.here ?_
            simp -dsimp

          · refine sw_cond_f (b := (neB y.2 0)) (by simp -dsimp) c10 ?_
            refine swp_skip ?_
            refine thenQ_n ?_
            refine sw_regs tb_ok (by rw [hn]; kernel_rfl) ?_
            obtain ⟨y2, h12, hm⟩ := bnd hm
            simp -dsimp [hf, c10]
            refine callL_pure (c_unroll_Bits t x y.1 y2 h12) (by rw [hn]; decide) ?_
            simp -dsimp
            obtain ⟨a2, j17, hm⟩ := bnd hm
            refine sw_cutE [(6, .u (.one (.d (.bool a2))))] [] (by rfl) (by rfl) ?_ fun ρ σ hf => ?_
            · replace hm := j17
              clear j17
              refine sw_reg tb_ok (by rw [hn]; kernel_rfl) ?_
              rcases bifE hm with ⟨c13, hm⟩ | ⟨c13, hm⟩
              · obtain ⟨y3, h14, hm⟩ := bnd hm
                simp -dsimp [hf, c13]
                refine callL_pure (c_R17_SameBools l y2.1 y3 h14) (by rw [hn]; decide) ?_
                rcases bifE hm with ⟨c15, hm⟩ | ⟨c15, hm⟩
                · obtain ⟨y4, h16, hm⟩ := bnd hm
                  simp -dsimp [c15]
                  refine callL_pure (c_L45_alive y4 h16) (by rw [hn]; decide) ?_
                  simp -dsimp
                  refine thenQ_n ?_
                  cases hm
                  refine EE.here ?_
                  simp -dsimp

                · simp -dsimp [c15]
                  refine thenQ_n ?_
                  cases hm
                  refine EE.here ?_
                  simp -dsimp

              · simp -dsimp [c13]
                refine thenQ_n ?_
                cases hm
                refine EE.here ?_
                simp -dsimp

            · clear j17
              simp only [Fits, FitE, FitS, and_true] at hf
              refine swp_ret ?_
              cases hm
              refine ⟨.inr rfl, ?_⟩
              refine EE.here ?_
              simp -dsimp [hf]

theorem c_L45_UnrollPatterns (t : Tree) (x : Problem) (l : List Bool) (r : Bool) (hm : m_L45_UnrollPatterns t x l = some r) : PureCall Tryz.prog 5 [.u (.agg [.d (.int .i64 t.States), .d (.sl 2 (List.map Point.row t.Hood)), .d (.sl 2 (List.map Node.row t.Nodes))]), .u (.agg [.d (.int .i64 x.W), .d (.int .i64 x.H), .d (.int .i64 x.Gens), .d (.int .i64 x.DX), .d (.int .i64 x.DY), .d (.sl 1 (List.map (rI .i64) x.Syms))]), .u (.one (.d (.sl 1 (List.map rB l))))] (.u (.one (.d (.bool r)))) := (f_L45_UnrollPatterns t x l r hm).pureW
theorem f_R05_Place (x : Int) (y : Int) (r : Bool) (hm : m_R05_Place x y = some r) : PFn Tryz.prog 104 [.u (.one (.d (.int .i64 x))), .u (.one (.d (.int .i64 y)))] (fun v => v.wk (.u (.one (.d (.bool r))))) := by
  refine pfn_E tb_ok _ Tryz.func104 rfl (by kernel_rfl) (by simp [Tryz.ntmps104]) fun cx hn => ?_
  replace hn : cx.n = 19 := hn.trans Tryz.ntmps104
  unfold m_R05_Place at hm
  refine sw_regs tb_ok (by rw [hn]; kernel_rfl) ?_
  simp -dsimp []
  obtain ⟨a, j4, hm⟩ := bnd hm
  refine sw_cutE [(4, .u (.one (.d (.bool a))))] [] (by rfl) (by rfl) ?_ fun ρ σ hf => ?_
  · replace hm := j4
    clear j4
    refine sw_reg tb_ok (by rw [hn]; kernel_rfl) ?_
    rcases bifE hm with ⟨c1, hm⟩ | ⟨c1, hm⟩
    · rcases bifE hm with ⟨c2, hm⟩ | ⟨c2, hm⟩
      · rcases bifE hm with ⟨c3, hm⟩ | ⟨c3, hm⟩
        · simp -dsimp [c1, c2, c3]
          refine thenQ_n ?_
          cases hm
          refine EE.here ?_
          simp -dsimp

        · simp -dsimp [c1, c2, c3]
          refine thenQ_n ?_
          cases hm
          refine EE.here ?_
          simp -dsimp

      · simp -dsimp [c1, c2]
        refine thenQ_n ?_
        cases hm
        refine EE.here ?_
        simp -dsimp

    · simp -dsimp [c1]
      refine thenQ_n ?_
      cases hm
      refine EE.here ?_
      simp -dsimp

  · clear j4
    simp only [Fits, FitE, FitS, and_true] at hf
    refine swp_ret ?_
    cases hm
    refine ⟨.inr rfl, ?_⟩
    refine EE.here ?_
    simp -dsimp [hf]

theorem c_R05_Place (x : Int) (y : Int) (r : Bool) (hm : m_R05_Place x y = some r) : PureCall Tryz.prog 104 [.u (.one (.d (.int .i64 x))), .u (.one (.d (.int .i64 y)))] (.u (.one (.d (.bool r)))) := (f_R05_Place x y r hm).pureW
theorem f_R05_before (a : Cell) (b : Cell) (r : Bool) (hm : m_R05_before a b = some r) : PFn Tryz.prog 105 [.u (.agg [.d (.int .i64 a.X), .d (.int .i64 a.Y), .d (.int .i64 a.S)]), .u (.agg [.d (.int .i64 b.X), .d (.int .i64 b.Y), .d (.int .i64 b.S)])] (fun v => v.wk (.u (.one (.d (.bool r))))) := by
  refine pfn_E tb_ok _ Tryz.func105 rfl (by kernel_rfl) (by simp [Tryz.ntmps105]) fun cx hn => ?_
  replace hn : cx.n = 24 := hn.trans Tryz.ntmps105
  unfold m_R05_before at hm
  refine sw_regs tb_ok (by rw [hn]; kernel_rfl) ?_
  simp -dsimp []
  obtain ⟨a1, j3, hm⟩ := bnd hm
  refine sw_cutE [(4, .u (.one (.d (.bool a1))))] [] (by rfl) (by rfl) ?_ fun ρ σ hf => ?_
  · replace hm := j3
    clear j3
    refine sw_reg tb_ok (by rw [hn]; kernel_rfl) ?_
    rcases bifE hm with ⟨c1, hm⟩ | ⟨c1, hm⟩
    · simp -dsimp [c1]
      refine thenQ_n ?_
      cases hm
      refine EE.here ?_
      simp -dsimp

    · rcases bifE hm with ⟨c2, hm⟩ | ⟨c2, hm⟩
      · simp -dsimp [c1, c2]
        refine thenQ_n ?_
        cases hm
        refine EE.here ?_
        simp -dsimp

      · simp -dsimp [c1, c2]
        refine thenQ_n ?_
        cases hm
        refine EE.here ?_
        simp -dsimp

  · clear j3
    simp only [Fits, FitE, FitS, and_true] at hf
    refine swp_ret ?_
    cases hm
    refine ⟨.inr rfl, ?_⟩
    refine EE.here ?_
    simp -dsimp [hf]

theorem c_R05_before (a : Cell) (b : Cell) (r : Bool) (hm : m_R05_before a b = some r) : PureCall Tryz.prog 105 [.u (.agg [.d (.int .i64 a.X), .d (.int .i64 a.Y), .d (.int .i64 a.S)]), .u (.agg [.d (.int .i64 b.X), .d (.int .i64 b.Y), .d (.int .i64 b.S)])] (.u (.one (.d (.bool r)))) := (f_R05_before a b r hm).pureW
def F_R05_Right_1 (cx : Cx) (p : List Cell) (tt : Bool ⊕ Unit) (ee : Exit) (ρ : Env) (σ : Sto) : Prop := match tt with
  | .inl r => ee = .ret ∧ EE cx (fun ρ σ => ∃ v, resV tb ρ σ Tryz.f63.results.toList = some v ∧ (v.frz σ).free = true ∧ (v.frz σ).wk (.u (.one (.d (.bool r))))) ρ σ
  | .inr _u => ee = .exit 0 ∧ EE cx (FitsW [(0, .u (.one (.d (.sl 3 (List.map Cell.row p)))))] []) ρ σ
theorem l_R05_Right_1 (cx : Cx) (hn : cx.n = 58) (p : List Cell) {fu : Nat} {stt : Int} {tt : Bool ⊕ Unit} (hh : loopN (b_R05_Right_1 p) fu stt = some tt) {ρ : Env} {σ : Sto}
    (hE : Fits ((fun i : Int => [(0, .u (.one (.d (.sl 3 (List.map Cell.row p))))), (3, .u (.one (.d (.int .i64 i))))]) stt) ((fun _i : Int => []) stt) ρ σ) : Swp Tryz.prog cx (.loop (csub [1, 0, 1, 0, 0] (bodyOf Tryz.f63))) ρ σ (F_R05_Right_1 cx p tt) := by
  refine loop_model (fun i : Int => [(0, .u (.one (.d (.sl 3 (List.map Cell.row p))))), (3, .u (.one (.d (.int .i64 i))))]) (fun i : Int => []) (F_R05_Right_1 cx p) (b_R05_Right_1 p) (fun i => by rfl) (fun i => by rfl) ?_ hh hE
  rintro i r hm ρ σ hf
  simp only [Fits, FitE, FitS, and_true] at hf
  unfold b_R05_Right_1 at hm
  dsimp only at hm
  refine sw_seq ?_
  refine sw_regs tb_ok (by rw [hn]; kernel_rfl) ?_
  simp -dsimp [hf]
  rcases bifE hm with ⟨c1, hm⟩ | ⟨c1, hm⟩
  · refine sw_cond_t (b := (ltB i (lenL p))) (by simp -dsimp) c1 ?_
    refine swp_skip ?_
    refine thenQ_n ?_
    refine sw_seq ?_
    refine sw_block ?_
    obtain ⟨a, j11, hm⟩ := bnd hm
    refine sw_cutE [(0, .u (.one (.d (.sl 3 (List.map Cell.row p))))), (3, .u (.one (.d (.int .i64 i)))), (54, .u (.one (.d (.bool a))))] [] (by rfl) (by rfl) ?_ fun ρ σ hf => ?_
    · replace hm := j11
      clear j11
      refine sw_qt tb_ok mixed (by rw [hn]; kernel_rfl) ?_
      obtain ⟨x, h2, hm⟩ := bnd hm
      obtain ⟨y, h3, hm⟩ := bnd hm
      simp -dsimp [hf, c1, h2]
      refine qcallL_pure (c_R05_Place x.X x.Y y h3) ?_
      rcases bifE hm with ⟨c4, hm⟩ | ⟨c4, hm⟩
      · simp -dsimp [c4]
        refine thenQ_n ?_
        cases hm
        refine EE.here ?_
        simp -dsimp [hf]

      · rcases bifE hm with ⟨c5, hm⟩ | ⟨c5, hm⟩
        · simp -dsimp [hf, h2, c4, c5]
          refine thenQ_n ?_
          cases hm
          refine EE.here ?_
          simp -dsimp [hf]

        · rcases bifE hm with ⟨c6, hm⟩ | ⟨c6, hm⟩
          · simp -dsimp [hf, h2, c4, c5, c6]
            refine thenQ_n ?_
            cases hm
            refine EE.here ?_
            simp -dsimp [hf]

          · rcases bifE hm with ⟨c7, hm⟩ | ⟨c7, hm⟩
            · obtain ⟨x1, h8, hm⟩ := bnd hm
              obtain ⟨y1, h9, hm⟩ := bnd hm
              simp -dsimp [hf, h2, c4, c5, c6, c7, h8]
              refine qcallL_pure (c_R05_before x1 x y1 h9) ?_
              simp -dsimp
              refine thenQ_n ?_
              cases hm
              refine EE.here ?_
              simp -dsimp [hf]

            · simp -dsimp [hf, h2, c4, c5, c6, c7]
              refine thenQ_n ?_
              cases hm
              refine EE.here ?_
              simp -dsimp [hf]

    · clear j11
      simp only [Fits, FitE, FitS, and_true] at hf
      rcases bifE hm with ⟨c10, hm⟩ | ⟨c10, hm⟩
      · refine sw_cond_t (b := a) (by simp -dsimp [hf]) c10 ?_
        refine sw_regs tb_ok (by rw [hn]; kernel_rfl) ?_
        simp -dsimp
        refine swp_ret ?_
        refine blk_r ?_
        refine then_x ?_
        cases hm
        refine rd_out nofun ?_
        unfold F_R05_Right_1
        dsimp only
        refine ⟨rfl, ?_⟩
        refine EE.here ?_
        simp -dsimp [Tryz.results63]

      · refine sw_cond_f (b := a) (by simp -dsimp [hf]) c10 ?_
        refine swp_skip ?_
        refine blk_n ?_
        refine thenQ_n ?_
        refine sw_reg tb_ok (by rw [hn]; kernel_rfl) ?_
        simp -dsimp [hf]
        cases hm
        refine rd_next ?_
        refine EE.here ?_
        simp -dsimp [hf]

  · refine sw_cond_f (b := (ltB i (lenL p))) (by simp -dsimp) c1 ?_
    refine swp_exit ?_
    refine then_x ?_
    cases hm
    refine rd_out nofun ?_
    unfold F_R05_Right_1
    dsimp only
    refine ⟨rfl, ?_⟩
    refine EE.here ?_
    simp -dsimp [hf, c1]

theorem f_R05_Right (p : List Cell) (r : Bool) (hm : m_R05_Right p = some r) : PFn Tryz.prog 63 [.u (.one (.d (.sl 3 (List.map Cell.row p))))] (fun v => v.wk (.u (.one (.d (.bool r))))) := by
  refine pfn_E tb_ok _ Tryz.func63 rfl (by kernel_rfl) (by simp [Tryz.ntmps63]) fun cx hn => ?_
  replace hn : cx.n = 58 := hn.trans Tryz.ntmps63
  unfold m_R05_Right at hm
  refine sw_regs tb_ok (by rw [hn]; kernel_rfl) ?_
  simp -dsimp []
  refine sw_seq ?_
  refine sw_regs tb_ok (by rw [hn]; kernel_rfl) ?_
  simp -dsimp []
  refine sw_block ?_
  obtain ⟨o_, g12, hm⟩ := bnd hm
  refine sw_ent [(0, .u (.one (.d (.sl 3 (List.map Cell.row p))))), (3, .u (.one (.d (.int .i64 0))))] [] (by rfl) (by rfl) (by
      refine EE.here ?_
      simp -dsimp []
  ) fun ρ σ hf => ?_
  refine (l_R05_Right_1 cx hn p g12 hf).mono fun ee ρ σ x13 => ?_
  rcases o_ with r | _u
  · unfold F_R05_Right_1 at x13
    dsimp only at x13
    obtain ⟨rfl, x13⟩ := x13
    refine blk_r ?_
    refine then_x ?_
    cases hm
    exact ⟨.inr rfl, x13⟩

  · unfold F_R05_Right_1 at x13
    dsimp only at x13
    obtain ⟨rfl, x13⟩ := x13
    refine blk_exit ?_
    refine thenQ_n ?_
    refine sw_ee (by rfl) (by rfl) x13 fun ρ σ hf => ?_
    simp only [Fits, FitE, FitS, and_true] at hf
    refine sw_regs tb_ok (by rw [hn]; kernel_rfl) ?_
    simp -dsimp [hf]
    refine swp_ret ?_
    cases hm
    refine ⟨.inr rfl, ?_⟩
    refine EE.here ?_
    simp -dsimp

theorem c_R05_Right (p : List Cell) (r : Bool) (hm : m_R05_Right p = some r) : PureCall Tryz.prog 63 [.u (.one (.d (.sl 3 (List.map Cell.row p))))] (.u (.one (.d (.bool r)))) := (f_R05_Right p r hm).pureW
theorem f_R45_bit (n : Int) (k : Int) (r : Int) (hm : m_R45_bit n k = some r) : PFn Tryz.prog 64 [.u (.one (.d (.int .i64 n))), .u (.one (.d (.int .i64 k)))] (fun v => v.wk (.u (.one (.d (.int .i64 r))))) := by
  refine pfn_E tb_ok _ Tryz.func64 rfl (by kernel_rfl) (by simp [Tryz.ntmps64]) fun cx hn => ?_
  replace hn : cx.n = 10 := hn.trans Tryz.ntmps64
  unfold m_R45_bit at hm
  refine sw_regs tb_ok (by rw [hn]; kernel_rfl) ?_
  simp -dsimp []
  refine sw_regs tb_ok (by rw [hn]; kernel_rfl) ?_
  obtain ⟨n1, h1, hm⟩ := bnd hm
  simp -dsimp [h1]
  refine swp_ret ?_
  cases hm
  refine ⟨.inr rfl, ?_⟩
  refine EE.here ?_
  simp -dsimp

theorem c_R45_bit (n : Int) (k : Int) (r : Int) (hm : m_R45_bit n k = some r) : PureCall Tryz.prog 64 [.u (.one (.d (.int .i64 n))), .u (.one (.d (.int .i64 k)))] (.u (.one (.d (.int .i64 r)))) := (f_R45_bit n k r hm).pureW
end Go.Proofs.YtgfhhbjnjccomaaGreatDoor
