/-
  That the code does what the functions say (made by cc.py).
-/
import Derived.Test.YtgfhhbjnjccomaaGreatDoorMd1
import Derived.Test.YtgfhhbjnjccomaaGreatDoorTb
import Derived.Test.YtgfhhbjnjccomaaGreatDoorWa4
namespace Go.Proofs.YtgfhhbjnjccomaaGreatDoor
open Go.AM Go.Proofs
def F_direct_Run_1 (cx : Cx) (_t : Tree) (p : List Cell) (_n : Int) (tt : Unit) (ee : Exit) (ρ : Env) (σ : Sto) : Prop := match tt with
  | _u => ee = .exit 0 ∧ EE cx (FitsW [(1, .u (.one (.d (.sl 3 (List.map Cell.row p)))))] []) ρ σ
theorem l_direct_Run_1 (cx : Cx) (hn : cx.n = 38) (t : Tree) (p : List Cell) (n : Int) {fu : Nat} {stt : Unit} {tt : Unit} (hh : loopN (b_direct_Run_1 t p n) fu stt = some tt) {ρ : Env} {σ : Sto}
    (hE : Fits ((fun _u : Unit => [(1, .u (.one (.d (.sl 3 (List.map Cell.row p))))), (3, .u (.one (.box 3 0))), (23, .u (.one (.d (.int .i64 n)))), (24, .u (.one (.d (.int .i64 0))))]) stt) ((fun _u : Unit => [(3, .box [.d (.int .i64 t.States), .d (.sl 2 (List.map Point.row t.Hood)), .d (.sl 2 (List.map Node.row t.Nodes))])]) stt) ρ σ) : Swp Tryz.prog cx (.loop (csub [1, 1, 1, 0, 1, 0, 0] (bodyOf Tryz.f72))) ρ σ (F_direct_Run_1 cx t p n tt) := by
  refine loop_model (fun _u : Unit => [(1, .u (.one (.d (.sl 3 (List.map Cell.row p))))), (3, .u (.one (.box 3 0))), (23, .u (.one (.d (.int .i64 n)))), (24, .u (.one (.d (.int .i64 0))))]) (fun _u : Unit => [(3, .box [.d (.int .i64 t.States), .d (.sl 2 (List.map Point.row t.Hood)), .d (.sl 2 (List.map Node.row t.Nodes))])]) (F_direct_Run_1 cx t p n) (b_direct_Run_1 t p n) (fun _u => by rfl) (fun _u => by rfl) ?_ hh hE
  rintro _u r hm ρ σ hf
  simp only [Fits, FitE, FitS, and_true] at hf
  unfold b_direct_Run_1 at hm
  dsimp only at hm
  refine sw_regs tb_ok (by rw [hn]; kernel_rfl) ?_
  simp -dsimp [hf]
  refine sw_seq ?_
  rcases bifE hm with ⟨c5, hm⟩ | ⟨c5, hm⟩
  · refine sw_cond_t (b := (ltB 0 n)) (by simp -dsimp) c5 ?_
    refine swp_skip ?_
    refine thenQ_n ?_
    refine sw_seq ?_
    refine sw_block ?_
    refine sw_regs tb_ok (by rw [hn]; kernel_rfl) ?_
    cases hm

  · refine sw_cond_f (b := (ltB 0 n)) (by simp -dsimp) c5 ?_
    refine swp_exit ?_
    refine then_x ?_
    cases hm
    refine rd_out nofun ?_
    unfold F_direct_Run_1
    dsimp only
    refine ⟨rfl, ?_⟩
    refine EE.here ?_
    simp -dsimp [hf, c5]

theorem f_direct_Run (t : Tree) (p : List Cell) (n : Int) (r : (List Cell) × Int) (hm : m_direct_Run t p n = some r) : PFn Tryz.prog 72 [.u (.agg [.d (.int .i64 t.States), .d (.sl 2 (List.map Point.row t.Hood)), .d (.sl 2 (List.map Node.row t.Nodes))]), .u (.one (.d (.sl 3 (List.map Cell.row p)))), .u (.one (.d (.int .i64 n)))] (fun v => v.wk (.tup [.one (.d (.sl 3 (List.map Cell.row r.1))), .one (.d (.int .i64 r.2))])) := by
  refine pfn_E tb_ok _ Tryz.func72 rfl (by kernel_rfl) (by simp [Tryz.ntmps72]) fun cx hn => ?_
  replace hn : cx.n = 38 := hn.trans Tryz.ntmps72
  unfold m_direct_Run at hm
  refine sw_regs tb_ok (by rw [hn]; kernel_rfl) ?_
  simp -dsimp []
  refine sw_seq ?_
  refine sw_regs tb_ok (by rw [hn]; kernel_rfl) ?_
  obtain ⟨y, h1, hm⟩ := bnd hm
  simp -dsimp []
  refine callL_pure (c_direct_check t p y h1) (by rw [hn]; decide) ?_
  simp -dsimp
  refine sw_regs tb_ok (by rw [hn]; kernel_rfl) ?_
  simp -dsimp
  rcases bifE hm with ⟨c2, hm⟩ | ⟨c2, hm⟩
  · refine sw_cond_t (b := (neB y 0)) (by simp -dsimp) c2 ?_
    refine sw_regs tb_ok (by rw [hn]; kernel_rfl) ?_
    simp -dsimp [c2]
    refine swp_ret ?_
    refine then_x ?_
    cases hm
    refine ⟨.inr rfl, ?_⟩
    refine EE.here ?_
    simp -dsimp

  · refine sw_cond_f (b := (neB y 0)) (by simp -dsimp) c2 ?_
    refine swp_skip ?_
    refine thenQ_n ?_
    refine sw_seq ?_
    obtain ⟨a, j8, hm⟩ := bnd hm
    refine sw_cutE [(1, .u (.one (.d (.sl 3 (List.map Cell.row p))))), (2, .u (.one (.d (.int .i64 n)))), (3, .u (.one (.box 3 0))), (22, .u (.one (.d (.bool a))))] [(3, .box [.d (.int .i64 t.States), .d (.sl 2 (List.map Point.row t.Hood)), .d (.sl 2 (List.map Node.row t.Nodes))])] (by rfl) (by rfl) ?_ fun ρ σ hf => ?_
    · replace hm := j8
      clear j8
      refine sw_reg tb_ok (by rw [hn]; kernel_rfl) ?_
      rcases bifE hm with ⟨c3, hm⟩ | ⟨c3, hm⟩
      · simp -dsimp [c2, c3]
        refine thenQ_n ?_
        cases hm
        refine EE.here ?_
        simp -dsimp

      · simp -dsimp [c2, c3]
        refine thenQ_n ?_
        cases hm
        refine EE.here ?_
        simp -dsimp

    · clear j8
      simp only [Fits, FitE, FitS, and_true] at hf
      rcases bifE hm with ⟨c4, hm⟩ | ⟨c4, hm⟩
      · refine sw_cond_t (b := a) (by simp -dsimp [hf]) c4 ?_
        refine sw_regs tb_ok (by rw [hn]; kernel_rfl) ?_
        simp -dsimp
        refine swp_ret ?_
        refine then_x ?_
        cases hm
        refine ⟨.inr rfl, ?_⟩
        refine EE.here ?_
        simp -dsimp

      · refine sw_cond_f (b := a) (by simp -dsimp [hf]) c4 ?_
        refine swp_skip ?_
        refine thenQ_n ?_
        refine sw_seq ?_
        refine sw_regs tb_ok (by rw [hn]; kernel_rfl) ?_
        simp -dsimp [hf]
        refine sw_block ?_
        obtain ⟨_u, g6, hm⟩ := bnd hm
        refine sw_ent [(1, .u (.one (.d (.sl 3 (List.map Cell.row p))))), (3, .u (.one (.box 3 0))), (23, .u (.one (.d (.int .i64 n)))), (24, .u (.one (.d (.int .i64 0))))] [(3, .box [.d (.int .i64 t.States), .d (.sl 2 (List.map Point.row t.Hood)), .d (.sl 2 (List.map Node.row t.Nodes))])] (by rfl) (by rfl) (by
            refine EE.here ?_
            simp -dsimp [hf]
        ) fun ρ σ hf => ?_
        refine (l_direct_Run_1 cx hn t p n g6 hf).mono fun ee ρ σ x7 => ?_
        unfold F_direct_Run_1 at x7
        dsimp only at x7
        obtain ⟨rfl, x7⟩ := x7
        refine blk_exit ?_
        refine thenQ_n ?_
        refine sw_ee (by rfl) (by rfl) x7 fun ρ σ hf => ?_
        simp only [Fits, FitE, FitS, and_true] at hf
        refine sw_regs tb_ok (by rw [hn]; kernel_rfl) ?_
        simp -dsimp [hf]
        refine swp_ret ?_
        cases hm
        refine ⟨.inr rfl, ?_⟩
        refine EE.here ?_
        simp -dsimp

theorem c_direct_Run (t : Tree) (p : List Cell) (n : Int) (r : (List Cell) × Int) (hm : m_direct_Run t p n = some r) : PureCall Tryz.prog 72 [.u (.agg [.d (.int .i64 t.States), .d (.sl 2 (List.map Point.row t.Hood)), .d (.sl 2 (List.map Node.row t.Nodes))]), .u (.one (.d (.sl 3 (List.map Cell.row p)))), .u (.one (.d (.int .i64 n)))] (.tup [.one (.d (.sl 3 (List.map Cell.row r.1))), .one (.d (.int .i64 r.2))]) := (f_direct_Run t p n r hm).pureW
def F_problem_fits_1 (cx : Cx) (_x : Problem) (tt : Bool ⊕ Unit) (ee : Exit) (ρ : Env) (σ : Sto) : Prop := match tt with
  | .inl r => ee = .ret ∧ EE cx (fun ρ σ => ∃ v, resV tb ρ σ Tryz.f111.results.toList = some v ∧ (v.frz σ).free = true ∧ (v.frz σ).wk (.u (.one (.d (.bool r))))) ρ σ
  | .inr _u => ee = .exit 0 ∧ EE cx (FitsW [] []) ρ σ
theorem l_problem_fits_1 (cx : Cx) (hn : cx.n = 39) (x : Problem) {fu : Nat} {stt : Int × (List Bool)} {tt : Bool ⊕ Unit} (hh : loopN (b_problem_fits_1 x) fu stt = some tt) {ρ : Env} {σ : Sto}
    (hE : Fits ((fun stt : Int × (List Bool) => match stt with | (a, _seen) => [(1, .u (.one (.box 1 0))), (3, .u (.one (.box 3 0))), (7, .u (.one (.d (.sl 1 (List.map (rI .i64) x.Syms))))), (8, .u (.one (.d (.int .i64 (lenL x.Syms))))), (9, .u (.one (.d (.int .i64 a))))]) stt) ((fun stt : Int × (List Bool) => match stt with | (_a, seen) => [(1, .box [.d (.int .i64 x.W), .d (.int .i64 x.H), .d (.int .i64 x.Gens), .d (.int .i64 x.DX), .d (.int .i64 x.DY), .d (.sl 1 (List.map (rI .i64) x.Syms))]), (3, .box (List.map cB seen))]) stt) ρ σ) : Swp Tryz.prog cx (.loop (csub [1, 1, 0, 1, 0, 0] (bodyOf Tryz.f111))) ρ σ (F_problem_fits_1 cx x tt) := by
  refine loop_model (fun stt : Int × (List Bool) => match stt with | (a, seen) => [(1, .u (.one (.box 1 0))), (3, .u (.one (.box 3 0))), (7, .u (.one (.d (.sl 1 (List.map (rI .i64) x.Syms))))), (8, .u (.one (.d (.int .i64 (lenL x.Syms))))), (9, .u (.one (.d (.int .i64 a))))]) (fun stt : Int × (List Bool) => match stt with | (a, seen) => [(1, .box [.d (.int .i64 x.W), .d (.int .i64 x.H), .d (.int .i64 x.Gens), .d (.int .i64 x.DX), .d (.int .i64 x.DY), .d (.sl 1 (List.map (rI .i64) x.Syms))]), (3, .box (List.map cB seen))]) (F_problem_fits_1 cx x) (b_problem_fits_1 x) (fun _ => by rfl) (fun _ => by rfl) ?_ hh hE
  rintro ⟨a, seen⟩ r hm ρ σ hf
  simp only [Fits, FitE, FitS, and_true] at hf
  unfold b_problem_fits_1 at hm
  dsimp only at hm
  refine sw_regs tb_ok (by rw [hn]; kernel_rfl) ?_
  simp -dsimp [hf]
  refine sw_seq ?_
  rcases bifE hm with ⟨c1, hm⟩ | ⟨c1, hm⟩
  · refine sw_cond_t (b := (ltB a (lenL x.Syms))) (by simp -dsimp) c1 ?_
    refine swp_skip ?_
    refine thenQ_n ?_
    refine sw_seq ?_
    refine sw_block ?_
    refine sw_regs tb_ok (by rw [hn]; kernel_rfl) ?_
    obtain ⟨x1, h2, hm⟩ := bnd hm
    simp -dsimp [hf, c1, h2]
    refine sw_seq ?_
    obtain ⟨a1, j11, hm⟩ := bnd hm
    refine sw_cutE [(1, .u (.one (.box 1 0))), (3, .u (.one (.box 3 0))), (5, .u (.one (.d (.int .i64 x1)))), (7, .u (.one (.d (.sl 1 (List.map (rI .i64) x.Syms))))), (8, .u (.one (.d (.int .i64 (lenL x.Syms))))), (9, .u (.one (.d (.int .i64 a)))), (35, .u (.one (.d (.bool a1))))] [(1, .box [.d (.int .i64 x.W), .d (.int .i64 x.H), .d (.int .i64 x.Gens), .d (.int .i64 x.DX), .d (.int .i64 x.DY), .d (.sl 1 (List.map (rI .i64) x.Syms))]), (3, .box (List.map cB seen))] (by rfl) (by rfl) ?_ fun ρ σ hf => ?_
    · replace hm := j11
      clear j11
      refine sw_reg tb_ok (by rw [hn]; kernel_rfl) ?_
      rcases bifE hm with ⟨c3, hm⟩ | ⟨c3, hm⟩
      · simp -dsimp [c3]
        refine thenQ_n ?_
        cases hm
        refine EE.here ?_
        simp -dsimp [hf]

      · rcases bifE hm with ⟨c4, hm⟩ | ⟨c4, hm⟩
        · simp -dsimp [c3, c4]
          refine thenQ_n ?_
          cases hm
          refine EE.here ?_
          simp -dsimp [hf]

        · obtain ⟨x2, h5, hm⟩ := bnd hm
          rcases bifE hm with ⟨c6, hm⟩ | ⟨c6, hm⟩
          · simp -dsimp [hf, c3, c4, aidx_ok h5, aidx_get h5, c6]
            refine thenQ_n ?_
            cases hm
            refine EE.here ?_
            simp -dsimp [hf]

          · obtain ⟨n, h7, hm⟩ := bnd hm
            rcases bifE hm with ⟨c8, hm⟩ | ⟨c8, hm⟩
            · simp -dsimp [hf, c3, c4, aidx_ok h5, aidx_get h5, c6, h7, c8]
              refine thenQ_n ?_
              cases hm
              refine EE.here ?_
              simp -dsimp [hf]

            · simp -dsimp [hf, c3, c4, aidx_ok h5, aidx_get h5, c6, h7, c8]
              refine thenQ_n ?_
              cases hm
              refine EE.here ?_
              simp -dsimp [hf]

    · clear j11
      simp only [Fits, FitE, FitS, and_true] at hf
      rcases bifE hm with ⟨c9, hm⟩ | ⟨c9, hm⟩
      · refine sw_cond_t (b := a1) (by simp -dsimp [hf]) c9 ?_
        refine sw_regs tb_ok (by rw [hn]; kernel_rfl) ?_
        simp -dsimp
        refine swp_ret ?_
        refine then_x ?_
        refine blk_r ?_
        refine then_x ?_
        cases hm
        refine rd_out nofun ?_
        unfold F_problem_fits_1
        dsimp only
        refine ⟨rfl, ?_⟩
        refine EE.here ?_
        simp -dsimp [Tryz.results111]

      · refine sw_cond_f (b := a1) (by simp -dsimp [hf]) c9 ?_
        refine swp_skip ?_
        refine thenQ_n ?_
        refine sw_reg tb_ok (by rw [hn]; kernel_rfl) ?_
        obtain ⟨x2, h10, hm⟩ := bnd hm
        simp -dsimp [hf, aidx_ok h10, aidx_lt2 h10, asetB h10 true]
        refine blk_n ?_
        refine thenQ_n ?_
        refine sw_reg tb_ok (by rw [hn]; kernel_rfl) ?_
        simp -dsimp [hf]
        cases hm
        refine rd_next ?_
        refine EE.here ?_
        simp -dsimp [hf]

  · refine sw_cond_f (b := (ltB a (lenL x.Syms))) (by simp -dsimp) c1 ?_
    refine swp_exit ?_
    refine then_x ?_
    cases hm
    refine rd_out nofun ?_
    unfold F_problem_fits_1
    dsimp only
    refine ⟨rfl, ?_⟩
    refine EE.here ?_
    simp -dsimp [c1]

theorem f_problem_fits (x : Problem) (r : Bool) (hm : m_problem_fits x = some r) : PFn Tryz.prog 111 [.u (.agg [.d (.int .i64 x.W), .d (.int .i64 x.H), .d (.int .i64 x.Gens), .d (.int .i64 x.DX), .d (.int .i64 x.DY), .d (.sl 1 (List.map (rI .i64) x.Syms))])] (fun v => v.wk (.u (.one (.d (.bool r))))) := by
  refine pfn_E tb_ok _ Tryz.func111 rfl (by kernel_rfl) (by simp [Tryz.ntmps111]) fun cx hn => ?_
  replace hn : cx.n = 39 := hn.trans Tryz.ntmps111
  unfold m_problem_fits at hm
  refine sw_regs tb_ok (by rw [hn]; kernel_rfl) ?_
  simp -dsimp []
  refine sw_regs tb_ok (by rw [hn]; kernel_rfl) ?_
  simp -dsimp []
  refine sw_seq ?_
  refine sw_regs tb_ok (by rw [hn]; kernel_rfl) ?_
  simp -dsimp []
  refine sw_block ?_
  obtain ⟨o_, g12, hm⟩ := bnd hm
  refine sw_ent [(1, .u (.one (.box 1 0))), (3, .u (.one (.box 3 0))), (7, .u (.one (.d (.sl 1 (List.map (rI .i64) x.Syms))))), (8, .u (.one (.d (.int .i64 (lenL x.Syms))))), (9, .u (.one (.d (.int .i64 0))))] [(1, .box [.d (.int .i64 x.W), .d (.int .i64 x.H), .d (.int .i64 x.Gens), .d (.int .i64 x.DX), .d (.int .i64 x.DY), .d (.sl 1 (List.map (rI .i64) x.Syms))]), (3, .box (List.map cB [false, false, false, false, false, false, false, false]))] (by rfl) (by rfl) (by
      refine EE.here ?_
      simp -dsimp []
  ) fun ρ σ hf => ?_
  refine (l_problem_fits_1 cx hn x g12 hf).mono fun ee ρ σ x13 => ?_
  rcases o_ with r | _u
  · unfold F_problem_fits_1 at x13
    dsimp only at x13
    obtain ⟨rfl, x13⟩ := x13
    refine blk_r ?_
    refine then_x ?_
    cases hm
    exact ⟨.inr rfl, x13⟩

  · unfold F_problem_fits_1 at x13
    dsimp only at x13
    obtain ⟨rfl, x13⟩ := x13
    refine blk_exit ?_
    refine thenQ_n ?_
    refine sw_ee (by rfl) (by rfl) x13 fun ρ σ hf => ?_
    simp only [Fits, FitE, FitS, and_true] at hf
    refine sw_regs tb_ok (by rw [hn]; kernel_rfl) ?_
    simp -dsimp
    refine swp_ret ?_
    cases hm
    refine ⟨.inr rfl, ?_⟩
    refine EE.here ?_
    simp -dsimp

theorem c_problem_fits (x : Problem) (r : Bool) (hm : m_problem_fits x = some r) : PureCall Tryz.prog 111 [.u (.agg [.d (.int .i64 x.W), .d (.int .i64 x.H), .d (.int .i64 x.Gens), .d (.int .i64 x.DX), .d (.int .i64 x.DY), .d (.sl 1 (List.map (rI .i64) x.Syms))])] (.u (.one (.d (.bool r)))) := (f_problem_fits x r hm).pureW
theorem f_problem_first (x : Problem) (r : Int) (hm : m_problem_first x = some r) : PFn Tryz.prog 73 [.u (.agg [.d (.int .i64 x.W), .d (.int .i64 x.H), .d (.int .i64 x.Gens), .d (.int .i64 x.DX), .d (.int .i64 x.DY), .d (.sl 1 (List.map (rI .i64) x.Syms))])] (fun v => v.wk (.u (.one (.d (.int .i64 r))))) := by
  refine pfn_E tb_ok _ Tryz.func73 rfl (by kernel_rfl) (by simp [Tryz.ntmps73]) fun cx hn => ?_
  replace hn : cx.n = 55 := hn.trans Tryz.ntmps73
  unfold m_problem_first at hm
  refine sw_regs tb_ok (by rw [hn]; kernel_rfl) ?_
  simp -dsimp []
  refine sw_seq ?_
  refine sw_block ?_
  refine sw_regs tb_ok (by rw [hn]; kernel_rfl) ?_
  simp -dsimp []
  rcases bifE hm with ⟨c1, hm⟩ | ⟨c1, hm⟩
  · refine sw_cond_t (b := (ltB (imin x.W x.H) 1)) (by simp -dsimp []) c1 ?_
    refine sw_regs tb_ok (by rw [hn]; kernel_rfl) ?_
    simp -dsimp [c1]
    refine swp_ret ?_
    refine blk_r ?_
    refine then_x ?_
    cases hm
    refine ⟨.inr rfl, ?_⟩
    refine EE.here ?_
    simp -dsimp

  · refine sw_cond_f (b := (ltB (imin x.W x.H) 1)) (by simp -dsimp []) c1 ?_
    obtain ⟨a, j11, hm⟩ := bnd hm
    refine sw_cutE [(1, .u (.one (.box 1 0))), (10, .u (.one (.d (.bool a))))] [(1, .box [.d (.int .i64 x.W), .d (.int .i64 x.H), .d (.int .i64 x.Gens), .d (.int .i64 x.DX), .d (.int .i64 x.DY), .d (.sl 1 (List.map (rI .i64) x.Syms))])] (by rfl) (by rfl) ?_ fun ρ σ hf => ?_
    · replace hm := j11
      clear j11
      refine sw_reg tb_ok (by rw [hn]; kernel_rfl) ?_
      rcases bifE hm with ⟨c2, hm⟩ | ⟨c2, hm⟩
      · simp -dsimp [c1, c2]
        refine thenQ_n ?_
        cases hm
        refine EE.here ?_
        simp -dsimp

      · simp -dsimp [c1, c2]
        refine thenQ_n ?_
        cases hm
        refine EE.here ?_
        simp -dsimp

    · clear j11
      simp only [Fits, FitE, FitS, and_true] at hf
      rcases bifE hm with ⟨c3, hm⟩ | ⟨c3, hm⟩
      · refine sw_cond_t (b := a) (by simp -dsimp [hf]) c3 ?_
        refine sw_regs tb_ok (by rw [hn]; kernel_rfl) ?_
        simp -dsimp
        refine swp_ret ?_
        refine blk_r ?_
        refine then_x ?_
        cases hm
        refine ⟨.inr rfl, ?_⟩
        refine EE.here ?_
        simp -dsimp

      · refine sw_cond_f (b := a) (by simp -dsimp [hf]) c3 ?_
        obtain ⟨a1, j10, hm⟩ := bnd hm
        refine sw_cutE [(25, .u (.one (.d (.bool a1))))] [] (by rfl) (by rfl) ?_ fun ρ σ hf => ?_
        · replace hm := j10
          clear j10
          refine sw_reg tb_ok (by rw [hn]; kernel_rfl) ?_
          rcases bifE hm with ⟨c4, hm⟩ | ⟨c4, hm⟩
          · simp -dsimp [hf, c4]
            refine thenQ_n ?_
            cases hm
            refine EE.here ?_
            simp -dsimp

          · rcases bifE hm with ⟨c5, hm⟩ | ⟨c5, hm⟩
            · simp -dsimp [hf, c4, c5]
              refine thenQ_n ?_
              cases hm
              refine EE.here ?_
              simp -dsimp

            · rcases bifE hm with ⟨c6, hm⟩ | ⟨c6, hm⟩
              · simp -dsimp [hf, c4, c5, c6]
                refine thenQ_n ?_
                cases hm
                refine EE.here ?_
                simp -dsimp

              · rcases bifE hm with ⟨c7, hm⟩ | ⟨c7, hm⟩
                · simp -dsimp [hf, c4, c5, c6, c7]
                  refine thenQ_n ?_
                  cases hm
                  refine EE.here ?_
                  simp -dsimp

                · obtain ⟨y, h8, hm⟩ := bnd hm
                  simp -dsimp [hf, c4, c5, c6, c7]
                  refine callL_pure (c_problem_fits x y h8) (by rw [hn]; decide) ?_
                  simp -dsimp
                  refine thenQ_n ?_
                  cases hm
                  refine EE.here ?_
                  simp -dsimp

        · clear j10
          simp only [Fits, FitE, FitS, and_true] at hf
          rcases bifE hm with ⟨c9, hm⟩ | ⟨c9, hm⟩
          · refine sw_cond_t (b := a1) (by simp -dsimp [hf]) c9 ?_
            refine sw_regs tb_ok (by rw [hn]; kernel_rfl) ?_
            simp -dsimp
            refine swp_ret ?_
            refine blk_r ?_
            refine then_x ?_
            cases hm
            refine ⟨.inr rfl, ?_⟩
            refine EE.here ?_
            simp -dsimp

          · refine sw_cond_f (b := a1) (by simp -dsimp [hf]) c9 ?_
            refine swp_skip ?_
            refine blk_n ?_
            refine thenQ_n ?_
            refine sw_regs tb_ok (by rw [hn]; kernel_rfl) ?_
            simp -dsimp
            refine swp_ret ?_
            cases hm
            refine ⟨.inr rfl, ?_⟩
            refine EE.here ?_
            simp -dsimp

theorem c_problem_first (x : Problem) (r : Int) (hm : m_problem_first x = some r) : PureCall Tryz.prog 73 [.u (.agg [.d (.int .i64 x.W), .d (.int .i64 x.H), .d (.int .i64 x.Gens), .d (.int .i64 x.DX), .d (.int .i64 x.DY), .d (.sl 1 (List.map (rI .i64) x.Syms))])] (.u (.one (.d (.int .i64 r)))) := (f_problem_first x r hm).pureW
theorem f_problem_Check (t : Tree) (x : Problem) (r : Int) (hm : m_problem_Check t x = some r) : PFn Tryz.prog 28 [.u (.agg [.d (.int .i64 t.States), .d (.sl 2 (List.map Point.row t.Hood)), .d (.sl 2 (List.map Node.row t.Nodes))]), .u (.agg [.d (.int .i64 x.W), .d (.int .i64 x.H), .d (.int .i64 x.Gens), .d (.int .i64 x.DX), .d (.int .i64 x.DY), .d (.sl 1 (List.map (rI .i64) x.Syms))])] (fun v => v.wk (.u (.one (.d (.int .i64 r))))) := by
  refine pfn_E tb_ok _ Tryz.func28 rfl (by kernel_rfl) (by simp [Tryz.ntmps28]) fun cx hn => ?_
  replace hn : cx.n = 17 := hn.trans Tryz.ntmps28
  unfold m_problem_Check at hm
  refine sw_regs tb_ok (by rw [hn]; kernel_rfl) ?_
  simp -dsimp []
  refine sw_seq ?_
  refine sw_regs tb_ok (by rw [hn]; kernel_rfl) ?_
  obtain ⟨y, h1, hm⟩ := bnd hm
  simp -dsimp []
  refine callL_pure ((c_direct_Run t [] 0 y h1).wk (by simp [V.wkl])) (by rw [hn]; decide) ?_
  simp -dsimp
  refine sw_regs tb_ok (by rw [hn]; kernel_rfl) ?_
  simp -dsimp
  rcases bifE hm with ⟨c2, hm⟩ | ⟨c2, hm⟩
  · refine sw_cond_t (b := (neB y.2 0)) (by simp -dsimp) c2 ?_
    refine sw_regs tb_ok (by rw [hn]; kernel_rfl) ?_
    simp -dsimp [c2]
    refine swp_ret ?_
    refine then_x ?_
    cases hm
    refine ⟨.inr rfl, ?_⟩
    refine EE.here ?_
    simp -dsimp

  · refine sw_cond_f (b := (neB y.2 0)) (by simp -dsimp) c2 ?_
    refine swp_skip ?_
    refine thenQ_n ?_
    refine sw_regs tb_ok (by rw [hn]; kernel_rfl) ?_
    obtain ⟨y1, h3, hm⟩ := bnd hm
    simp -dsimp [c2]
    refine callL_pure (c_problem_first x y1 h3) (by rw [hn]; decide) ?_
    simp -dsimp
    refine swp_ret ?_
    cases hm
    refine ⟨.inr rfl, ?_⟩
    refine EE.here ?_
    simp -dsimp

theorem c_problem_Check (t : Tree) (x : Problem) (r : Int) (hm : m_problem_Check t x = some r) : PureCall Tryz.prog 28 [.u (.agg [.d (.int .i64 t.States), .d (.sl 2 (List.map Point.row t.Hood)), .d (.sl 2 (List.map Node.row t.Nodes))]), .u (.agg [.d (.int .i64 x.W), .d (.int .i64 x.H), .d (.int .i64 x.Gens), .d (.int .i64 x.DX), .d (.int .i64 x.DY), .d (.sl 1 (List.map (rI .i64) x.Syms))])] (.u (.one (.d (.int .i64 r)))) := (f_problem_Check t x r hm).pureW
end Go.Proofs.YtgfhhbjnjccomaaGreatDoor
