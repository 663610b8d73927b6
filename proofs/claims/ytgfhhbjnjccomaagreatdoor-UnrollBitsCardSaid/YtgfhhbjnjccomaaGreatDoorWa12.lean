/-
  That the code does what the functions say (made by cc.py).
-/
import Derived.Test.YtgfhhbjnjccomaaGreatDoorMd1
import Derived.Test.YtgfhhbjnjccomaaGreatDoorTb
import Derived.Test.YtgfhhbjnjccomaaGreatDoorWa11
namespace Go.Proofs.YtgfhhbjnjccomaaGreatDoor
open Go.AM Go.Proofs
def F_R05_Compare_1 (cx : Cx) (a : List Cell) (b : List Cell) (tt : Int ⊕ Unit) (ee : Exit) (ρ : Env) (σ : Sto) : Prop := match tt with
  | .inl r => ee = .ret ∧ EE cx (fun ρ σ => ∃ v, resV tb ρ σ Tryz.f58.results.toList = some v ∧ (v.frz σ).free = true ∧ (v.frz σ).wk (.u (.one (.d (.int .i64 r))))) ρ σ
  | .inr _u => ee = .exit 0 ∧ EE cx (FitsW [(0, .u (.one (.d (.sl 3 (List.map Cell.row a))))), (1, .u (.one (.d (.sl 3 (List.map Cell.row b)))))] []) ρ σ
theorem l_R05_Compare_1 (cx : Cx) (hn : cx.n = 89) (a : List Cell) (b : List Cell) {fu : Nat} {stt : Int} {tt : Int ⊕ Unit} (hh : loopN (b_R05_Compare_1 a b) fu stt = some tt) {ρ : Env} {σ : Sto}
    (hE : Fits ((fun i : Int => [(0, .u (.one (.d (.sl 3 (List.map Cell.row a))))), (1, .u (.one (.d (.sl 3 (List.map Cell.row b))))), (5, .u (.one (.d (.int .i64 i))))]) stt) ((fun _i : Int => []) stt) ρ σ) : Swp Tryz.prog cx (.loop (csub [1, 0, 1, 0, 0] (bodyOf Tryz.f58))) ρ σ (F_R05_Compare_1 cx a b tt) := by
  refine loop_model (fun i : Int => [(0, .u (.one (.d (.sl 3 (List.map Cell.row a))))), (1, .u (.one (.d (.sl 3 (List.map Cell.row b))))), (5, .u (.one (.d (.int .i64 i))))]) (fun i : Int => []) (F_R05_Compare_1 cx a b) (b_R05_Compare_1 a b) (fun i => by rfl) (fun i => by rfl) ?_ hh hE
  rintro i r hm ρ σ hf
  simp only [Fits, FitE, FitS, and_true] at hf
  unfold b_R05_Compare_1 at hm
  dsimp only at hm
  refine sw_seq ?_
  obtain ⟨a1, j11, hm⟩ := bnd hm
  refine sw_cutE [(0, .u (.one (.d (.sl 3 (List.map Cell.row a))))), (1, .u (.one (.d (.sl 3 (List.map Cell.row b))))), (5, .u (.one (.d (.int .i64 i)))), (15, .u (.one (.d (.bool a1))))] [] (by rfl) (by rfl) ?_ fun ρ σ hf => ?_
  · replace hm := j11
    clear j11
    refine sw_reg tb_ok (by rw [hn]; kernel_rfl) ?_
    rcases bifE hm with ⟨c1, hm⟩ | ⟨c1, hm⟩
    · simp -dsimp [hf, c1]
      refine thenQ_n ?_
      cases hm
      refine EE.here ?_
      simp -dsimp [hf]

    · simp -dsimp [hf, c1]
      refine thenQ_n ?_
      cases hm
      refine EE.here ?_
      simp -dsimp [hf]

  · clear j11
    simp only [Fits, FitE, FitS, and_true] at hf
    rcases bifE hm with ⟨c2, hm⟩ | ⟨c2, hm⟩
    · refine sw_cond_t (b := a1) (by simp -dsimp [hf]) c2 ?_
      refine swp_skip ?_
      refine thenQ_n ?_
      refine sw_seq ?_
      refine sw_block ?_
      refine sw_seq ?_
      refine sw_qts tb_ok mixed (by rw [hn]; kernel_rfl) ?_
      obtain ⟨x, h3, hm⟩ := bnd hm
      obtain ⟨x1, h4, hm⟩ := bnd hm
      simp -dsimp [hf, h3, h4]
      rcases bifE hm with ⟨c5, hm⟩ | ⟨c5, hm⟩
      · refine sw_cond_t (b := (neB x.Y x1.Y)) (by simp -dsimp) c5 ?_
        refine sw_qts tb_ok mixed (by rw [hn]; kernel_rfl) ?_
        obtain ⟨y, h6, hm⟩ := bnd hm
        simp -dsimp [hf, h3, h4, c5]
        refine qcallL_pure (c_R05_order x.Y x1.Y y h6) ?_
        simp -dsimp
        refine swp_ret ?_
        refine then_x ?_
        refine blk_r ?_
        refine then_x ?_
        cases hm
        refine rd_out nofun ?_
        unfold F_R05_Compare_1
        dsimp only
        refine ⟨rfl, ?_⟩
        refine EE.here ?_
        simp -dsimp [Tryz.results58]

      · refine sw_cond_f (b := (neB x.Y x1.Y)) (by simp -dsimp) c5 ?_
        refine swp_skip ?_
        refine thenQ_n ?_
        refine sw_seq ?_
        refine sw_qts tb_ok mixed (by rw [hn]; kernel_rfl) ?_
        simp -dsimp [hf, h3, h4, c5]
        rcases bifE hm with ⟨c7, hm⟩ | ⟨c7, hm⟩
        · refine sw_cond_t (b := (neB x.X x1.X)) (by simp -dsimp) c7 ?_
          refine sw_qts tb_ok mixed (by rw [hn]; kernel_rfl) ?_
          obtain ⟨y, h8, hm⟩ := bnd hm
          simp -dsimp [hf, h3, h4, c7]
          refine qcallL_pure (c_R05_order x.X x1.X y h8) ?_
          simp -dsimp
          refine swp_ret ?_
          refine then_x ?_
          refine blk_r ?_
          refine then_x ?_
          cases hm
          refine rd_out nofun ?_
          unfold F_R05_Compare_1
          dsimp only
          refine ⟨rfl, ?_⟩
          refine EE.here ?_
          simp -dsimp [Tryz.results58]

        · refine sw_cond_f (b := (neB x.X x1.X)) (by simp -dsimp) c7 ?_
          refine swp_skip ?_
          refine thenQ_n ?_
          refine sw_qts tb_ok mixed (by rw [hn]; kernel_rfl) ?_
          simp -dsimp [hf, h3, h4, c7]
          rcases bifE hm with ⟨c9, hm⟩ | ⟨c9, hm⟩
          · refine sw_cond_t (b := (neB x.S x1.S)) (by simp -dsimp) c9 ?_
            refine sw_qts tb_ok mixed (by rw [hn]; kernel_rfl) ?_
            obtain ⟨y, h10, hm⟩ := bnd hm
            simp -dsimp [hf, h3, h4, c9]
            refine qcallL_pure (c_R05_order x.S x1.S y h10) ?_
            simp -dsimp
            refine swp_ret ?_
            refine blk_r ?_
            refine then_x ?_
            cases hm
            refine rd_out nofun ?_
            unfold F_R05_Compare_1
            dsimp only
            refine ⟨rfl, ?_⟩
            refine EE.here ?_
            simp -dsimp [Tryz.results58]

          · refine sw_cond_f (b := (neB x.S x1.S)) (by simp -dsimp) c9 ?_
            refine swp_skip ?_
            refine blk_n ?_
            refine thenQ_n ?_
            refine sw_reg tb_ok (by rw [hn]; kernel_rfl) ?_
            simp -dsimp [hf, c9]
            cases hm
            refine rd_next ?_
            refine EE.here ?_
            simp -dsimp [hf]

    · refine sw_cond_f (b := a1) (by simp -dsimp [hf]) c2 ?_
      refine swp_exit ?_
      refine then_x ?_
      cases hm
      refine rd_out nofun ?_
      unfold F_R05_Compare_1
      dsimp only
      refine ⟨rfl, ?_⟩
      refine EE.here ?_
      simp -dsimp [hf]

theorem f_R05_Compare (a : List Cell) (b : List Cell) (r : Int) (hm : m_R05_Compare a b = some r) : PFn Tryz.prog 58 [.u (.one (.d (.sl 3 (List.map Cell.row a)))), .u (.one (.d (.sl 3 (List.map Cell.row b))))] (fun v => v.wk (.u (.one (.d (.int .i64 r))))) := by
  refine pfn_E tb_ok _ Tryz.func58 rfl (by kernel_rfl) (by simp [Tryz.ntmps58]) fun cx hn => ?_
  replace hn : cx.n = 89 := hn.trans Tryz.ntmps58
  unfold m_R05_Compare at hm
  refine sw_regs tb_ok (by rw [hn]; kernel_rfl) ?_
  simp -dsimp []
  refine sw_seq ?_
  refine sw_regs tb_ok (by rw [hn]; kernel_rfl) ?_
  simp -dsimp []
  refine sw_block ?_
  obtain ⟨o_, g12, hm⟩ := bnd hm
  refine sw_ent [(0, .u (.one (.d (.sl 3 (List.map Cell.row a))))), (1, .u (.one (.d (.sl 3 (List.map Cell.row b))))), (5, .u (.one (.d (.int .i64 0))))] [] (by rfl) (by rfl) (by
      refine EE.here ?_
      simp -dsimp []
  ) fun ρ σ hf => ?_
  refine (l_R05_Compare_1 cx hn a b g12 hf).mono fun ee ρ σ x13 => ?_
  rcases o_ with r | _u
  · unfold F_R05_Compare_1 at x13
    dsimp only at x13
    obtain ⟨rfl, x13⟩ := x13
    refine blk_r ?_
    refine then_x ?_
    cases hm
    exact ⟨.inr rfl, x13⟩

  · unfold F_R05_Compare_1 at x13
    dsimp only at x13
    obtain ⟨rfl, x13⟩ := x13
    refine blk_exit ?_
    refine thenQ_n ?_
    refine sw_ee (by rfl) (by rfl) x13 fun ρ σ hf => ?_
    simp only [Fits, FitE, FitS, and_true] at hf
    refine sw_regs tb_ok (by rw [hn]; kernel_rfl) ?_
    obtain ⟨y, h14, hm⟩ := bnd hm
    simp -dsimp [hf]
    refine callL_pure (c_R05_order (lenL a) (lenL b) y h14) (by rw [hn]; decide) ?_
    simp -dsimp
    refine swp_ret ?_
    cases hm
    refine ⟨.inr rfl, ?_⟩
    refine EE.here ?_
    simp -dsimp

theorem c_R05_Compare (a : List Cell) (b : List Cell) (r : Int) (hm : m_R05_Compare a b = some r) : PureCall Tryz.prog 58 [.u (.one (.d (.sl 3 (List.map Cell.row a)))), .u (.one (.d (.sl 3 (List.map Cell.row b))))] (.u (.one (.d (.int .i64 r)))) := (f_R05_Compare a b r hm).pureW
theorem f_R05_Same (a : List Cell) (b : List Cell) (r : Bool) (hm : m_R05_Same a b = some r) : PFn Tryz.prog 18 [.u (.one (.d (.sl 3 (List.map Cell.row a)))), .u (.one (.d (.sl 3 (List.map Cell.row b))))] (fun v => v.wk (.u (.one (.d (.bool r))))) := by
  refine pfn_E tb_ok _ Tryz.func18 rfl (by kernel_rfl) (by simp [Tryz.ntmps18]) fun cx hn => ?_
  replace hn : cx.n = 9 := hn.trans Tryz.ntmps18
  unfold m_R05_Same at hm
  refine sw_regs tb_ok (by rw [hn]; kernel_rfl) ?_
  simp -dsimp []
  refine sw_regs tb_ok (by rw [hn]; kernel_rfl) ?_
  obtain ⟨y, h1, hm⟩ := bnd hm
  simp -dsimp []
  refine callL_pure (c_R05_Compare a b y h1) (by rw [hn]; decide) ?_
  simp -dsimp
  refine swp_ret ?_
  cases hm
  refine ⟨.inr rfl, ?_⟩
  refine EE.here ?_
  simp -dsimp

theorem c_R05_Same (a : List Cell) (b : List Cell) (r : Bool) (hm : m_R05_Same a b = some r) : PureCall Tryz.prog 18 [.u (.one (.d (.sl 3 (List.map Cell.row a)))), .u (.one (.d (.sl 3 (List.map Cell.row b))))] (.u (.one (.d (.bool r)))) := (f_R05_Same a b r hm).pureW
theorem f_unroll_Bits_1 (c : Cell) (a : Problem) (r : Bool) (hm : m_unroll_Bits_1 c a = some r) : PFn Tryz.prog 61 [.u (.agg [.d (.int .i64 c.X), .d (.int .i64 c.Y), .d (.int .i64 c.S)]), .u (.one (.ref (Problem.row a) 0))] (fun v => v.wk (.u (.one (.d (.bool r))))) := by
  refine pfn_E tb_ok _ Tryz.func61 rfl (by kernel_rfl) (by simp [Tryz.ntmps61]) fun cx hn => ?_
  replace hn : cx.n = 26 := hn.trans Tryz.ntmps61
  unfold m_unroll_Bits_1 at hm
  refine sw_regs tb_ok (by rw [hn]; kernel_rfl) ?_
  simp -dsimp []
  obtain ⟨a1, j4, hm⟩ := bnd hm
  refine sw_cutE [(3, .u (.one (.d (.bool a1))))] [] (by rfl) (by rfl) ?_ fun ρ σ hf => ?_
  · replace hm := j4
    clear j4
    refine sw_reg tb_ok (by rw [hn]; kernel_rfl) ?_
    rcases bifE hm with ⟨c1, hm⟩ | ⟨c1, hm⟩
    · simp -dsimp [c1]
      refine thenQ_n ?_
      cases hm
      refine EE.here ?_
      simp -dsimp

    · rcases bifE hm with ⟨c2, hm⟩ | ⟨c2, hm⟩
      · simp -dsimp [c1, c2]
        refine thenQ_n ?_
        cases hm
        refine EE.here ?_
        simp -dsimp

      · rcases bifE hm with ⟨c3, hm⟩ | ⟨c3, hm⟩
        · simp -dsimp [c1, c2, c3]
          refine thenQ_n ?_
          cases hm
          refine EE.here ?_
          simp -dsimp

        · simp -dsimp [c1, c2, c3]
          refine thenQ_n ?_
          cases hm
          refine EE.here ?_
          simp -dsimp

  · clear j4
    simp only [Fits, FitE, FitS, and_true] at hf
    refine swp_ret ?_
    cases hm
    refine ⟨.inr rfl, ?_⟩
    refine EE.here ?_
    simp -dsimp [hf]

theorem c_unroll_Bits_1 (c : Cell) (a : Problem) (r : Bool) (hm : m_unroll_Bits_1 c a = some r) : PureCall Tryz.prog 61 [.u (.agg [.d (.int .i64 c.X), .d (.int .i64 c.Y), .d (.int .i64 c.S)]), .u (.one (.ref (Problem.row a) 0))] (.u (.one (.d (.bool r)))) := (f_unroll_Bits_1 c a r hm).pureW
def F_slices_IndexFunc_api_Pattern_api_Cell_unroll_Bits_1_1 (cx : Cx) (_s : List Cell) (_c : Problem) (tt : Int ⊕ Unit) (ee : Exit) (ρ : Env) (σ : Sto) : Prop := match tt with
  | .inl r => ee = .ret ∧ EE cx (fun ρ σ => ∃ v, resV tb ρ σ Tryz.f103.results.toList = some v ∧ (v.frz σ).free = true ∧ (v.frz σ).wk (.u (.one (.d (.int .i64 r))))) ρ σ
  | .inr _u => ee = .exit 0 ∧ EE cx (FitsW [] []) ρ σ
theorem l_slices_IndexFunc_api_Pattern_api_Cell_unroll_Bits_1_1 (cx : Cx) (hn : cx.n = 19) (s : List Cell) (c : Problem) {fu : Nat} {stt : Int} {tt : Int ⊕ Unit} (hh : loopN (b_slices_IndexFunc_api_Pattern_api_Cell_unroll_Bits_1_1 s c) fu stt = some tt) {ρ : Env} {σ : Sto}
    (hE : Fits ((fun a : Int => [(0, .u (.one (.d (.sl 3 (List.map Cell.row s))))), (1, .u (.one (.fn 61 [.ref (Problem.row c) 0]))), (7, .u (.one (.d (.int .i64 (lenL s))))), (8, .u (.one (.d (.int .i64 a))))]) stt) ((fun _a : Int => []) stt) ρ σ) : Swp Tryz.prog cx (.loop (csub [1, 0, 1, 0, 0] (bodyOf Tryz.f103))) ρ σ (F_slices_IndexFunc_api_Pattern_api_Cell_unroll_Bits_1_1 cx s c tt) := by
  refine loop_model (fun a : Int => [(0, .u (.one (.d (.sl 3 (List.map Cell.row s))))), (1, .u (.one (.fn 61 [.ref (Problem.row c) 0]))), (7, .u (.one (.d (.int .i64 (lenL s))))), (8, .u (.one (.d (.int .i64 a))))]) (fun a : Int => []) (F_slices_IndexFunc_api_Pattern_api_Cell_unroll_Bits_1_1 cx s c) (b_slices_IndexFunc_api_Pattern_api_Cell_unroll_Bits_1_1 s c) (fun a => by rfl) (fun a => by rfl) ?_ hh hE
  rintro a r hm ρ σ hf
  simp only [Fits, FitE, FitS, and_true] at hf
  unfold b_slices_IndexFunc_api_Pattern_api_Cell_unroll_Bits_1_1 at hm
  dsimp only at hm
  refine sw_regs tb_ok (by rw [hn]; kernel_rfl) ?_
  simp -dsimp [hf]
  refine sw_seq ?_
  rcases bifE hm with ⟨c1, hm⟩ | ⟨c1, hm⟩
  · refine sw_cond_t (b := (ltB a (lenL s))) (by simp -dsimp) c1 ?_
    refine swp_skip ?_
    refine thenQ_n ?_
    refine sw_seq ?_
    refine sw_block ?_
    refine sw_regs tb_ok (by rw [hn]; kernel_rfl) ?_
    simp -dsimp [hf, c1]
    refine sw_regs tb_ok (by rw [hn]; kernel_rfl) ?_
    obtain ⟨x, h2, hm⟩ := bnd hm
    obtain ⟨y, h3, hm⟩ := bnd hm
    simp -dsimp [hf, h2]
    refine callL_pure (c_unroll_Bits_1 x c y h3) (by rw [hn]; decide) ?_
    simp -dsimp
    rcases bifE hm with ⟨c4, hm⟩ | ⟨c4, hm⟩
    · refine sw_cond_t (b := y) (by simp -dsimp) c4 ?_
      refine sw_regs tb_ok (by rw [hn]; kernel_rfl) ?_
      simp -dsimp [c4]
      refine swp_ret ?_
      refine blk_r ?_
      refine then_x ?_
      cases hm
      refine rd_out nofun ?_
      unfold F_slices_IndexFunc_api_Pattern_api_Cell_unroll_Bits_1_1
      dsimp only
      refine ⟨rfl, ?_⟩
      refine EE.here ?_
      simp -dsimp [Tryz.results103]

    · refine sw_cond_f (b := y) (by simp -dsimp) c4 ?_
      refine swp_skip ?_
      refine blk_n ?_
      refine thenQ_n ?_
      refine sw_reg tb_ok (by rw [hn]; kernel_rfl) ?_
      simp -dsimp [hf, c4]
      cases hm
      refine rd_next ?_
      refine EE.here ?_
      simp -dsimp [hf]

  · refine sw_cond_f (b := (ltB a (lenL s))) (by simp -dsimp) c1 ?_
    refine swp_exit ?_
    refine then_x ?_
    cases hm
    refine rd_out nofun ?_
    unfold F_slices_IndexFunc_api_Pattern_api_Cell_unroll_Bits_1_1
    dsimp only
    refine ⟨rfl, ?_⟩
    refine EE.here ?_
    simp -dsimp [c1]

theorem f_slices_IndexFunc_api_Pattern_api_Cell_unroll_Bits_1 (s : List Cell) (c : Problem) (r : Int) (hm : m_slices_IndexFunc_api_Pattern_api_Cell_unroll_Bits_1 s c = some r) : PFn Tryz.prog 103 [.u (.one (.d (.sl 3 (List.map Cell.row s)))), .u (.one (.fn 61 [.ref (Problem.row c) 0]))] (fun v => v.wk (.u (.one (.d (.int .i64 r))))) := by
  refine pfn_E tb_ok _ Tryz.func103 rfl (by kernel_rfl) (by simp [Tryz.ntmps103]) fun cx hn => ?_
  replace hn : cx.n = 19 := hn.trans Tryz.ntmps103
  unfold m_slices_IndexFunc_api_Pattern_api_Cell_unroll_Bits_1 at hm
  refine sw_regs tb_ok (by rw [hn]; kernel_rfl) ?_
  simp -dsimp []
  refine sw_seq ?_
  refine sw_regs tb_ok (by rw [hn]; kernel_rfl) ?_
  simp -dsimp []
  refine sw_block ?_
  obtain ⟨o_, g5, hm⟩ := bnd hm
  refine sw_ent [(0, .u (.one (.d (.sl 3 (List.map Cell.row s))))), (1, .u (.one (.fn 61 [.ref (Problem.row c) 0]))), (7, .u (.one (.d (.int .i64 (lenL s))))), (8, .u (.one (.d (.int .i64 0))))] [] (by rfl) (by rfl) (by
      refine EE.here ?_
      simp -dsimp []
  ) fun ρ σ hf => ?_
  refine (l_slices_IndexFunc_api_Pattern_api_Cell_unroll_Bits_1_1 cx hn s c g5 hf).mono fun ee ρ σ x6 => ?_
  rcases o_ with r | _u
  · unfold F_slices_IndexFunc_api_Pattern_api_Cell_unroll_Bits_1_1 at x6
    dsimp only at x6
    obtain ⟨rfl, x6⟩ := x6
    refine blk_r ?_
    refine then_x ?_
    cases hm
    exact ⟨.inr rfl, x6⟩

  · unfold F_slices_IndexFunc_api_Pattern_api_Cell_unroll_Bits_1_1 at x6
    dsimp only at x6
    obtain ⟨rfl, x6⟩ := x6
    refine blk_exit ?_
    refine thenQ_n ?_
    refine sw_ee (by rfl) (by rfl) x6 fun ρ σ hf => ?_
    simp only [Fits, FitE, FitS, and_true] at hf
    refine sw_regs tb_ok (by rw [hn]; kernel_rfl) ?_
    simp -dsimp
    refine swp_ret ?_
    cases hm
    refine ⟨.inr rfl, ?_⟩
    refine EE.here ?_
    simp -dsimp

theorem c_slices_IndexFunc_api_Pattern_api_Cell_unroll_Bits_1 (s : List Cell) (c : Problem) (r : Int) (hm : m_slices_IndexFunc_api_Pattern_api_Cell_unroll_Bits_1 s c = some r) : PureCall Tryz.prog 103 [.u (.one (.d (.sl 3 (List.map Cell.row s)))), .u (.one (.fn 61 [.ref (Problem.row c) 0]))] (.u (.one (.d (.int .i64 r)))) := (f_slices_IndexFunc_api_Pattern_api_Cell_unroll_Bits_1 s c r hm).pureW
theorem f_slices_ContainsFunc_api_Pattern_api_Cell_unroll_Bits_1 (s : List Cell) (c : Problem) (r : Bool) (hm : m_slices_ContainsFunc_api_Pattern_api_Cell_unroll_Bits_1 s c = some r) : PFn Tryz.prog 60 [.u (.one (.d (.sl 3 (List.map Cell.row s)))), .u (.one (.fn 61 [.ref (Problem.row c) 0]))] (fun v => v.wk (.u (.one (.d (.bool r))))) := by
  refine pfn_E tb_ok _ Tryz.func60 rfl (by kernel_rfl) (by simp [Tryz.ntmps60]) fun cx hn => ?_
  replace hn : cx.n = 9 := hn.trans Tryz.ntmps60
  unfold m_slices_ContainsFunc_api_Pattern_api_Cell_unroll_Bits_1 at hm
  refine sw_regs tb_ok (by rw [hn]; kernel_rfl) ?_
  simp -dsimp []
  refine sw_regs tb_ok (by rw [hn]; kernel_rfl) ?_
  obtain ⟨y, h1, hm⟩ := bnd hm
  simp -dsimp []
  refine callL_pure (c_slices_IndexFunc_api_Pattern_api_Cell_unroll_Bits_1 s c y h1) (by rw [hn]; decide) ?_
  simp -dsimp
  refine swp_ret ?_
  cases hm
  refine ⟨.inr rfl, ?_⟩
  refine EE.here ?_
  simp -dsimp

theorem c_slices_ContainsFunc_api_Pattern_api_Cell_unroll_Bits_1 (s : List Cell) (c : Problem) (r : Bool) (hm : m_slices_ContainsFunc_api_Pattern_api_Cell_unroll_Bits_1 s c = some r) : PureCall Tryz.prog 60 [.u (.one (.d (.sl 3 (List.map Cell.row s)))), .u (.one (.fn 61 [.ref (Problem.row c) 0]))] (.u (.one (.d (.bool r)))) := (f_slices_ContainsFunc_api_Pattern_api_Cell_unroll_Bits_1 s c r hm).pureW
end Go.Proofs.YtgfhhbjnjccomaaGreatDoor
