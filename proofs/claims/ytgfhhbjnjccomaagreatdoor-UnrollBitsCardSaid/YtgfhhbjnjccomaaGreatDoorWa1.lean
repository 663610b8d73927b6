/-
  That the code does what the functions say (made by cc.py).
-/
import Derived.Test.YtgfhhbjnjccomaaGreatDoorMd1
import Derived.Test.YtgfhhbjnjccomaaGreatDoorTb
import Derived.Test.YtgfhhbjnjccomaaGreatDoorMxAl
namespace Go.Proofs.YtgfhhbjnjccomaaGreatDoor
open Go.AM Go.Proofs
def F_L45_Small_1 (cx : Cx) (_t : Tree) (x : Problem) (tt : Bool ⊕ Unit) (ee : Exit) (ρ : Env) (σ : Sto) : Prop := match tt with
  | .inl r => ee = .ret ∧ EE cx (fun ρ σ => ∃ v, resV tb ρ σ Tryz.f9.results.toList = some v ∧ (v.frz σ).free = true ∧ (v.frz σ).wk (.u (.one (.d (.bool r))))) ρ σ
  | .inr _u => ee = .exit 0 ∧ EE cx (FitsW [(3, .u (.one (.box 3 0)))] [(3, .box [.d (.int .i64 x.W), .d (.int .i64 x.H), .d (.int .i64 x.Gens), .d (.int .i64 x.DX), .d (.int .i64 x.DY), .d (.sl 1 (List.map (rI .i64) x.Syms))])]) ρ σ
theorem l_L45_Small_1 (cx : Cx) (hn : cx.n = 81) (t : Tree) (x : Problem) {fu : Nat} {stt : Int} {tt : Bool ⊕ Unit} (hh : loopN (b_L45_Small_1 t x) fu stt = some tt) {ρ : Env} {σ : Sto}
    (hE : Fits ((fun a1 : Int => [(2, .u (.one (.box 2 0))), (3, .u (.one (.box 3 0))), (34, .u (.one (.d (.int .i64 (lenL t.Nodes))))), (35, .u (.one (.d (.int .i64 a1))))]) stt) ((fun _a1 : Int => [(2, .box [.d (.int .i64 t.States), .d (.sl 2 (List.map Point.row t.Hood)), .d (.sl 2 (List.map Node.row t.Nodes))]), (3, .box [.d (.int .i64 x.W), .d (.int .i64 x.H), .d (.int .i64 x.Gens), .d (.int .i64 x.DX), .d (.int .i64 x.DY), .d (.sl 1 (List.map (rI .i64) x.Syms))])]) stt) ρ σ) : Swp Tryz.prog cx (.loop (csub [1, 1, 0, 1, 0, 0] (bodyOf Tryz.f9))) ρ σ (F_L45_Small_1 cx t x tt) := by
  refine loop_model (fun a1 : Int => [(2, .u (.one (.box 2 0))), (3, .u (.one (.box 3 0))), (34, .u (.one (.d (.int .i64 (lenL t.Nodes))))), (35, .u (.one (.d (.int .i64 a1))))]) (fun a1 : Int => [(2, .box [.d (.int .i64 t.States), .d (.sl 2 (List.map Point.row t.Hood)), .d (.sl 2 (List.map Node.row t.Nodes))]), (3, .box [.d (.int .i64 x.W), .d (.int .i64 x.H), .d (.int .i64 x.Gens), .d (.int .i64 x.DX), .d (.int .i64 x.DY), .d (.sl 1 (List.map (rI .i64) x.Syms))])]) (F_L45_Small_1 cx t x) (b_L45_Small_1 t x) (fun a1 => by rfl) (fun a1 => by rfl) ?_ hh hE
  rintro a1 r hm ρ σ hf
  simp only [Fits, FitE, FitS, and_true] at hf
  unfold b_L45_Small_1 at hm
  dsimp only at hm
  refine sw_regs tb_ok (by rw [hn]; kernel_rfl) ?_
  simp -dsimp [hf]
  refine sw_seq ?_
  rcases bifE hm with ⟨c6, hm⟩ | ⟨c6, hm⟩
  · refine sw_cond_t (b := (ltB a1 (lenL t.Nodes))) (by simp -dsimp) c6 ?_
    refine swp_skip ?_
    refine thenQ_n ?_
    refine sw_seq ?_
    refine sw_block ?_
    refine sw_regs tb_ok (by rw [hn]; kernel_rfl) ?_
    simp -dsimp [hf, c6]
    refine sw_regs tb_ok (by rw [hn]; kernel_rfl) ?_
    obtain ⟨x1, h7, hm⟩ := bnd hm
    simp -dsimp [hf, h7]
    rcases bifE hm with ⟨c8, hm⟩ | ⟨c8, hm⟩
    · refine sw_cond_t (b := (gtB (lenL x1.Next) 20)) (by simp -dsimp) c8 ?_
      refine sw_regs tb_ok (by rw [hn]; kernel_rfl) ?_
      simp -dsimp [c8]
      refine swp_ret ?_
      refine blk_r ?_
      refine then_x ?_
      cases hm
      refine rd_out nofun ?_
      unfold F_L45_Small_1
      dsimp only
      refine ⟨rfl, ?_⟩
      refine EE.here ?_
      simp -dsimp [Tryz.results9]

    · refine sw_cond_f (b := (gtB (lenL x1.Next) 20)) (by simp -dsimp) c8 ?_
      refine swp_skip ?_
      refine blk_n ?_
      refine thenQ_n ?_
      refine sw_reg tb_ok (by rw [hn]; kernel_rfl) ?_
      simp -dsimp [hf, c8]
      cases hm
      refine rd_next ?_
      refine EE.here ?_
      simp -dsimp [hf]

  · refine sw_cond_f (b := (ltB a1 (lenL t.Nodes))) (by simp -dsimp) c6 ?_
    refine swp_exit ?_
    refine then_x ?_
    cases hm
    refine rd_out nofun ?_
    unfold F_L45_Small_1
    dsimp only
    refine ⟨rfl, ?_⟩
    refine EE.here ?_
    simp -dsimp [hf, c6]

theorem f_L45_Small (t : Tree) (x : Problem) (r : Bool) (hm : m_L45_Small t x = some r) : PFn Tryz.prog 9 [.u (.agg [.d (.int .i64 t.States), .d (.sl 2 (List.map Point.row t.Hood)), .d (.sl 2 (List.map Node.row t.Nodes))]), .u (.agg [.d (.int .i64 x.W), .d (.int .i64 x.H), .d (.int .i64 x.Gens), .d (.int .i64 x.DX), .d (.int .i64 x.DY), .d (.sl 1 (List.map (rI .i64) x.Syms))])] (fun v => v.wk (.u (.one (.d (.bool r))))) := by
  refine pfn_E tb_ok _ Tryz.func9 rfl (by kernel_rfl) (by simp [Tryz.ntmps9]) fun cx hn => ?_
  replace hn : cx.n = 81 := hn.trans Tryz.ntmps9
  unfold m_L45_Small at hm
  refine sw_regs tb_ok (by rw [hn]; kernel_rfl) ?_
  simp -dsimp []
  refine sw_seq ?_
  obtain ⟨a, j17, hm⟩ := bnd hm
  refine sw_cutE [(2, .u (.one (.box 2 0))), (3, .u (.one (.box 3 0))), (31, .u (.one (.d (.bool a))))] [(2, .box [.d (.int .i64 t.States), .d (.sl 2 (List.map Point.row t.Hood)), .d (.sl 2 (List.map Node.row t.Nodes))]), (3, .box [.d (.int .i64 x.W), .d (.int .i64 x.H), .d (.int .i64 x.Gens), .d (.int .i64 x.DX), .d (.int .i64 x.DY), .d (.sl 1 (List.map (rI .i64) x.Syms))])] (by rfl) (by rfl) ?_ fun ρ σ hf => ?_
  · replace hm := j17
    clear j17
    refine sw_reg tb_ok (by rw [hn]; kernel_rfl) ?_
    rcases bifE hm with ⟨c1, hm⟩ | ⟨c1, hm⟩
    · simp -dsimp [c1]
      refine thenQ_n ?_
      cases hm
      refine EE.here ?_
      simp -dsimp

    · rcases bifE hm with ⟨c2, hm⟩ | ⟨c2, hm⟩
      · simp -dsimp [c1, c2]
        refine thenQ_n ?_
        cases hm
        refine EE.here ?_
        simp -dsimp

      · rcases bifE hm with ⟨c3, hm⟩ | ⟨c3, hm⟩
        · simp -dsimp [c1, c2, c3]
          refine thenQ_n ?_
          cases hm
          refine EE.here ?_
          simp -dsimp

        · rcases bifE hm with ⟨c4, hm⟩ | ⟨c4, hm⟩
          · simp -dsimp [c1, c2, c3, c4]
            refine thenQ_n ?_
            cases hm
            refine EE.here ?_
            simp -dsimp

          · simp -dsimp [c1, c2, c3, c4]
            refine thenQ_n ?_
            cases hm
            refine EE.here ?_
            simp -dsimp

  · clear j17
    simp only [Fits, FitE, FitS, and_true] at hf
    rcases bifE hm with ⟨c5, hm⟩ | ⟨c5, hm⟩
    · refine sw_cond_t (b := a) (by simp -dsimp [hf]) c5 ?_
      refine sw_regs tb_ok (by rw [hn]; kernel_rfl) ?_
      simp -dsimp
      refine swp_ret ?_
      refine then_x ?_
      cases hm
      refine ⟨.inr rfl, ?_⟩
      refine EE.here ?_
      simp -dsimp

    · refine sw_cond_f (b := a) (by simp -dsimp [hf]) c5 ?_
      refine swp_skip ?_
      refine thenQ_n ?_
      refine sw_seq ?_
      refine sw_regs tb_ok (by rw [hn]; kernel_rfl) ?_
      simp -dsimp [hf]
      refine sw_block ?_
      obtain ⟨o_, g9, hm⟩ := bnd hm
      refine sw_ent [(2, .u (.one (.box 2 0))), (3, .u (.one (.box 3 0))), (34, .u (.one (.d (.int .i64 (lenL t.Nodes))))), (35, .u (.one (.d (.int .i64 0))))] [(2, .box [.d (.int .i64 t.States), .d (.sl 2 (List.map Point.row t.Hood)), .d (.sl 2 (List.map Node.row t.Nodes))]), (3, .box [.d (.int .i64 x.W), .d (.int .i64 x.H), .d (.int .i64 x.Gens), .d (.int .i64 x.DX), .d (.int .i64 x.DY), .d (.sl 1 (List.map (rI .i64) x.Syms))])] (by rfl) (by rfl) (by
          refine EE.here ?_
          simp -dsimp [hf]
      ) fun ρ σ hf => ?_
      refine (l_L45_Small_1 cx hn t x g9 hf).mono fun ee ρ σ x10 => ?_
      rcases o_ with r | _u
      · unfold F_L45_Small_1 at x10
        dsimp only at x10
        obtain ⟨rfl, x10⟩ := x10
        refine blk_r ?_
        refine then_x ?_
        cases hm
        exact ⟨.inr rfl, x10⟩

      · unfold F_L45_Small_1 at x10
        dsimp only at x10
        obtain ⟨rfl, x10⟩ := x10
        refine blk_exit ?_
        refine thenQ_n ?_
        refine sw_ee (by rfl) (by rfl) x10 fun ρ σ hf => ?_
        simp only [Fits, FitE, FitS, and_true] at hf
        obtain ⟨a1, j16, hm⟩ := bnd hm
        refine sw_cutE [(4, .u (.one (.d (.bool a1))))] [] (by rfl) (by rfl) ?_ fun ρ σ hf => ?_
        · replace hm := j16
          clear j16
          refine sw_reg tb_ok (by rw [hn]; kernel_rfl) ?_
          rcases bifE hm with ⟨c11, hm⟩ | ⟨c11, hm⟩
          · simp -dsimp [hf, c11]
            refine thenQ_n ?_
            cases hm
            refine EE.here ?_
            simp -dsimp

          · rcases bifE hm with ⟨c12, hm⟩ | ⟨c12, hm⟩
            · simp -dsimp [hf, c11, c12]
              refine thenQ_n ?_
              cases hm
              refine EE.here ?_
              simp -dsimp

            · rcases bifE hm with ⟨c13, hm⟩ | ⟨c13, hm⟩
              · simp -dsimp [hf, c11, c12, c13]
                refine thenQ_n ?_
                cases hm
                refine EE.here ?_
                simp -dsimp

              · rcases bifE hm with ⟨c14, hm⟩ | ⟨c14, hm⟩
                · simp -dsimp [hf, c11, c12, c13, c14]
                  refine thenQ_n ?_
                  cases hm
                  refine EE.here ?_
                  simp -dsimp

                · rcases bifE hm with ⟨c15, hm⟩ | ⟨c15, hm⟩
                  · simp -dsimp [hf, c11, c12, c13, c14, c15]
                    refine thenQ_n ?_
                    cases hm
                    refine EE.here ?_
                    simp -dsimp

                  · simp -dsimp [hf, c11, c12, c13, c14, c15]
                    refine thenQ_n ?_
                    cases hm
                    refine EE.here ?_
                    simp -dsimp

        · clear j16
          simp only [Fits, FitE, FitS, and_true] at hf
          refine swp_ret ?_
          cases hm
          refine ⟨.inr rfl, ?_⟩
          refine EE.here ?_
          simp -dsimp [hf]

theorem c_L45_Small (t : Tree) (x : Problem) (r : Bool) (hm : m_L45_Small t x = some r) : PureCall Tryz.prog 9 [.u (.agg [.d (.int .i64 t.States), .d (.sl 2 (List.map Point.row t.Hood)), .d (.sl 2 (List.map Node.row t.Nodes))]), .u (.agg [.d (.int .i64 x.W), .d (.int .i64 x.H), .d (.int .i64 x.Gens), .d (.int .i64 x.DX), .d (.int .i64 x.DY), .d (.sl 1 (List.map (rI .i64) x.Syms))])] (.u (.one (.d (.bool r)))) := (f_L45_Small t x r hm).pureW
theorem c_L45_alive (r : Bool) (hm : m_L45_alive = some r) : PureCall Tryz.prog 10 [] (.u (.one (.d (.bool r)))) := by
  cases hm
  exact alive_pure
theorem f_cmp_isNaN_int (x : Int) (r : Bool) (hm : m_cmp_isNaN_int x = some r) : PFn Tryz.prog 150 [.u (.one (.d (.int .i64 x)))] (fun v => v.wk (.u (.one (.d (.bool r))))) := by
  refine pfn_E tb_ok _ Tryz.func150 rfl (by kernel_rfl) (by simp [Tryz.ntmps150]) fun cx hn => ?_
  replace hn : cx.n = 6 := hn.trans Tryz.ntmps150
  unfold m_cmp_isNaN_int at hm
  refine sw_regs tb_ok (by rw [hn]; kernel_rfl) ?_
  simp -dsimp []
  refine sw_regs tb_ok (by rw [hn]; kernel_rfl) ?_
  simp -dsimp []
  refine swp_ret ?_
  cases hm
  refine ⟨.inr rfl, ?_⟩
  refine EE.here ?_
  simp -dsimp

theorem c_cmp_isNaN_int (x : Int) (r : Bool) (hm : m_cmp_isNaN_int x = some r) : PureCall Tryz.prog 150 [.u (.one (.d (.int .i64 x)))] (.u (.one (.d (.bool r)))) := (f_cmp_isNaN_int x r hm).pureW
theorem f_cmp_Compare_int (x : Int) (y : Int) (r : Int) (hm : m_cmp_Compare_int x y = some r) : PFn Tryz.prog 138 [.u (.one (.d (.int .i64 x))), .u (.one (.d (.int .i64 y)))] (fun v => v.wk (.u (.one (.d (.int .i64 r))))) := by
  refine pfn_E tb_ok _ Tryz.func138 rfl (by kernel_rfl) (by simp [Tryz.ntmps138]) fun cx hn => ?_
  replace hn : cx.n = 20 := hn.trans Tryz.ntmps138
  unfold m_cmp_Compare_int at hm
  refine sw_regs tb_ok (by rw [hn]; kernel_rfl) ?_
  simp -dsimp []
  refine sw_regs tb_ok (by rw [hn]; kernel_rfl) ?_
  obtain ⟨y1, h1, hm⟩ := bnd hm
  simp -dsimp []
  refine callL_pure (c_cmp_isNaN_int x y1 h1) (by rw [hn]; decide) ?_
  simp -dsimp
  refine sw_regs tb_ok (by rw [hn]; kernel_rfl) ?_
  obtain ⟨y2, h2, hm⟩ := bnd hm
  simp -dsimp
  refine callL_pure (c_cmp_isNaN_int y y2 h2) (by rw [hn]; decide) ?_
  simp -dsimp
  refine sw_seq ?_
  refine sw_regs tb_ok (by rw [hn]; kernel_rfl) ?_
  simp -dsimp
  rcases bifE hm with ⟨c3, hm⟩ | ⟨c3, hm⟩
  · refine sw_cond_t (b := y1) (by simp -dsimp) c3 ?_
    refine sw_seq ?_
    refine sw_regs tb_ok (by rw [hn]; kernel_rfl) ?_
    simp -dsimp [c3]
    rcases bifE hm with ⟨c4, hm⟩ | ⟨c4, hm⟩
    · refine sw_cond_t (b := y2) (by simp -dsimp) c4 ?_
      refine sw_regs tb_ok (by rw [hn]; kernel_rfl) ?_
      simp -dsimp [c4]
      refine swp_ret ?_
      refine then_x ?_
      refine then_x ?_
      cases hm
      refine ⟨.inr rfl, ?_⟩
      refine EE.here ?_
      simp -dsimp

    · refine sw_cond_f (b := y2) (by simp -dsimp) c4 ?_
      refine swp_skip ?_
      refine thenQ_n ?_
      refine sw_regs tb_ok (by rw [hn]; kernel_rfl) ?_
      simp -dsimp [c4]
      refine swp_ret ?_
      refine then_x ?_
      cases hm
      refine ⟨.inr rfl, ?_⟩
      refine EE.here ?_
      simp -dsimp

  · refine sw_cond_f (b := y1) (by simp -dsimp) c3 ?_
    refine swp_skip ?_
    refine thenQ_n ?_
    refine sw_seq ?_
    refine sw_regs tb_ok (by rw [hn]; kernel_rfl) ?_
    simp -dsimp [c3]
    rcases bifE hm with ⟨c5, hm⟩ | ⟨c5, hm⟩
    · refine sw_cond_t (b := y2) (by simp -dsimp) c5 ?_
      refine sw_regs tb_ok (by rw [hn]; kernel_rfl) ?_
      simp -dsimp [c5]
      refine swp_ret ?_
      refine then_x ?_
      cases hm
      refine ⟨.inr rfl, ?_⟩
      refine EE.here ?_
      simp -dsimp

    · refine sw_cond_f (b := y2) (by simp -dsimp) c5 ?_
      refine swp_skip ?_
      refine thenQ_n ?_
      refine sw_seq ?_
      refine sw_regs tb_ok (by rw [hn]; kernel_rfl) ?_
      simp -dsimp [c5]
      rcases bifE hm with ⟨c6, hm⟩ | ⟨c6, hm⟩
      · refine sw_cond_t (b := (ltB x y)) (by simp -dsimp) c6 ?_
        refine sw_regs tb_ok (by rw [hn]; kernel_rfl) ?_
        simp -dsimp [c6]
        refine swp_ret ?_
        refine then_x ?_
        cases hm
        refine ⟨.inr rfl, ?_⟩
        refine EE.here ?_
        simp -dsimp

      · refine sw_cond_f (b := (ltB x y)) (by simp -dsimp) c6 ?_
        refine swp_skip ?_
        refine thenQ_n ?_
        refine sw_seq ?_
        refine sw_regs tb_ok (by rw [hn]; kernel_rfl) ?_
        simp -dsimp [c6]
        rcases bifE hm with ⟨c7, hm⟩ | ⟨c7, hm⟩
        · refine sw_cond_t (b := (gtB x y)) (by simp -dsimp) c7 ?_
          refine sw_regs tb_ok (by rw [hn]; kernel_rfl) ?_
          simp -dsimp [c7]
          refine swp_ret ?_
          refine then_x ?_
          cases hm
          refine ⟨.inr rfl, ?_⟩
          refine EE.here ?_
          simp -dsimp

        · refine sw_cond_f (b := (gtB x y)) (by simp -dsimp) c7 ?_
          refine swp_skip ?_
          refine thenQ_n ?_
          refine sw_regs tb_ok (by rw [hn]; kernel_rfl) ?_
          simp -dsimp [c7]
          refine swp_ret ?_
          cases hm
          refine ⟨.inr rfl, ?_⟩
          refine EE.here ?_
          simp -dsimp

theorem c_cmp_Compare_int (x : Int) (y : Int) (r : Int) (hm : m_cmp_Compare_int x y = some r) : PureCall Tryz.prog 138 [.u (.one (.d (.int .i64 x))), .u (.one (.d (.int .i64 y)))] (.u (.one (.d (.int .i64 r)))) := (f_cmp_Compare_int x y r hm).pureW
def F_cmp_Or_int_1 (cx : Cx) (_vals : List Int) (tt : Int ⊕ Unit) (ee : Exit) (ρ : Env) (σ : Sto) : Prop := match tt with
  | .inl r => ee = .ret ∧ EE cx (fun ρ σ => ∃ v, resV tb ρ σ Tryz.f137.results.toList = some v ∧ (v.frz σ).free = true ∧ (v.frz σ).wk (.u (.one (.d (.int .i64 r))))) ρ σ
  | .inr _u => ee = .exit 0 ∧ EE cx (FitsW [(3, .u (.one (.d (.int .i64 0))))] []) ρ σ
theorem l_cmp_Or_int_1 (cx : Cx) (hn : cx.n = 18) (vals : List Int) {fu : Nat} {stt : Int} {tt : Int ⊕ Unit} (hh : loopN (b_cmp_Or_int_1 vals) fu stt = some tt) {ρ : Env} {σ : Sto}
    (hE : Fits ((fun a : Int => [(3, .u (.one (.d (.int .i64 0)))), (6, .u (.one (.d (.sl 1 (List.map (rI .i64) vals))))), (7, .u (.one (.d (.int .i64 (lenL vals))))), (8, .u (.one (.d (.int .i64 a))))]) stt) ((fun _a : Int => []) stt) ρ σ) : Swp Tryz.prog cx (.loop (csub [1, 1, 0, 1, 0, 0] (bodyOf Tryz.f137))) ρ σ (F_cmp_Or_int_1 cx vals tt) := by
  refine loop_model (fun a : Int => [(3, .u (.one (.d (.int .i64 0)))), (6, .u (.one (.d (.sl 1 (List.map (rI .i64) vals))))), (7, .u (.one (.d (.int .i64 (lenL vals))))), (8, .u (.one (.d (.int .i64 a))))]) (fun a : Int => []) (F_cmp_Or_int_1 cx vals) (b_cmp_Or_int_1 vals) (fun a => by rfl) (fun a => by rfl) ?_ hh hE
  rintro a r hm ρ σ hf
  simp only [Fits, FitE, FitS, and_true] at hf
  unfold b_cmp_Or_int_1 at hm
  dsimp only at hm
  refine sw_regs tb_ok (by rw [hn]; kernel_rfl) ?_
  simp -dsimp [hf]
  refine sw_seq ?_
  rcases bifE hm with ⟨c1, hm⟩ | ⟨c1, hm⟩
  · refine sw_cond_t (b := (ltB a (lenL vals))) (by simp -dsimp) c1 ?_
    refine swp_skip ?_
    refine thenQ_n ?_
    refine sw_seq ?_
    refine sw_block ?_
    refine sw_regs tb_ok (by rw [hn]; kernel_rfl) ?_
    obtain ⟨x, h2, hm⟩ := bnd hm
    simp -dsimp [hf, c1, h2]
    refine sw_regs tb_ok (by rw [hn]; kernel_rfl) ?_
    simp -dsimp [hf]
    rcases bifE hm with ⟨c3, hm⟩ | ⟨c3, hm⟩
    · refine sw_cond_t (b := (neB x 0)) (by simp -dsimp) c3 ?_
      refine sw_regs tb_ok (by rw [hn]; kernel_rfl) ?_
      simp -dsimp [c3]
      refine swp_ret ?_
      refine blk_r ?_
      refine then_x ?_
      cases hm
      refine rd_out nofun ?_
      unfold F_cmp_Or_int_1
      dsimp only
      refine ⟨rfl, ?_⟩
      refine EE.here ?_
      simp -dsimp [Tryz.results137]

    · refine sw_cond_f (b := (neB x 0)) (by simp -dsimp) c3 ?_
      refine swp_skip ?_
      refine blk_n ?_
      refine thenQ_n ?_
      refine sw_reg tb_ok (by rw [hn]; kernel_rfl) ?_
      simp -dsimp [hf, c3]
      cases hm
      refine rd_next ?_
      refine EE.here ?_
      simp -dsimp [hf]

  · refine sw_cond_f (b := (ltB a (lenL vals))) (by simp -dsimp) c1 ?_
    refine swp_exit ?_
    refine then_x ?_
    cases hm
    refine rd_out nofun ?_
    unfold F_cmp_Or_int_1
    dsimp only
    refine ⟨rfl, ?_⟩
    refine EE.here ?_
    simp -dsimp [hf, c1]

theorem f_cmp_Or_int (vals : List Int) (r : Int) (hm : m_cmp_Or_int vals = some r) : PFn Tryz.prog 137 [.u (.one (.d (.sl 1 (List.map (rI .i64) vals))))] (fun v => v.wk (.u (.one (.d (.int .i64 r))))) := by
  refine pfn_E tb_ok _ Tryz.func137 rfl (by kernel_rfl) (by simp [Tryz.ntmps137]) fun cx hn => ?_
  replace hn : cx.n = 18 := hn.trans Tryz.ntmps137
  unfold m_cmp_Or_int at hm
  refine sw_regs tb_ok (by rw [hn]; kernel_rfl) ?_
  simp -dsimp []
  refine sw_regs tb_ok (by rw [hn]; kernel_rfl) ?_
  simp -dsimp []
  refine sw_seq ?_
  refine sw_regs tb_ok (by rw [hn]; kernel_rfl) ?_
  simp -dsimp []
  refine sw_block ?_
  obtain ⟨o_, g4, hm⟩ := bnd hm
  refine sw_ent [(3, .u (.one (.d (.int .i64 0)))), (6, .u (.one (.d (.sl 1 (List.map (rI .i64) vals))))), (7, .u (.one (.d (.int .i64 (lenL vals))))), (8, .u (.one (.d (.int .i64 0))))] [] (by rfl) (by rfl) (by
      refine EE.here ?_
      simp -dsimp []
  ) fun ρ σ hf => ?_
  refine (l_cmp_Or_int_1 cx hn vals g4 hf).mono fun ee ρ σ x5 => ?_
  rcases o_ with r | _u
  · unfold F_cmp_Or_int_1 at x5
    dsimp only at x5
    obtain ⟨rfl, x5⟩ := x5
    refine blk_r ?_
    refine then_x ?_
    cases hm
    exact ⟨.inr rfl, x5⟩

  · unfold F_cmp_Or_int_1 at x5
    dsimp only at x5
    obtain ⟨rfl, x5⟩ := x5
    refine blk_exit ?_
    refine thenQ_n ?_
    refine sw_ee (by rfl) (by rfl) x5 fun ρ σ hf => ?_
    simp only [Fits, FitE, FitS, and_true] at hf
    refine sw_regs tb_ok (by rw [hn]; kernel_rfl) ?_
    simp -dsimp [hf]
    refine swp_ret ?_
    cases hm
    refine ⟨.inr rfl, ?_⟩
    refine EE.here ?_
    simp -dsimp

theorem c_cmp_Or_int (vals : List Int) (r : Int) (hm : m_cmp_Or_int vals = some r) : PureCall Tryz.prog 137 [.u (.one (.d (.sl 1 (List.map (rI .i64) vals))))] (.u (.one (.d (.int .i64 r)))) := (f_cmp_Or_int vals r hm).pureW
theorem f_point_Compare (a : Point) (b : Point) (r : Int) (hm : m_point_Compare a b = some r) : PFn Tryz.prog 114 [.u (.agg [.d (.int .i64 a.X), .d (.int .i64 a.Y)]), .u (.agg [.d (.int .i64 b.X), .d (.int .i64 b.Y)])] (fun v => v.wk (.u (.one (.d (.int .i64 r))))) := by
  refine pfn_E tb_ok _ Tryz.func114 rfl (by kernel_rfl) (by simp [Tryz.ntmps114]) fun cx hn => ?_
  replace hn : cx.n = 17 := hn.trans Tryz.ntmps114
  unfold m_point_Compare at hm
  refine sw_regs tb_ok (by rw [hn]; kernel_rfl) ?_
  simp -dsimp []
  refine sw_qts tb_ok mixed (by rw [hn]; kernel_rfl) ?_
  obtain ⟨y, h1, hm⟩ := bnd hm
  simp -dsimp []
  refine qcallL_pure (c_cmp_Compare_int a.Y b.Y y h1) ?_
  obtain ⟨y1, h2, hm⟩ := bnd hm
  simp -dsimp
  refine qcallL_pure (c_cmp_Compare_int a.X b.X y1 h2) ?_
  obtain ⟨y2, h3, hm⟩ := bnd hm
  simp -dsimp
  refine qcallL_pure (c_cmp_Or_int [y, y1] y2 h3) ?_
  simp -dsimp
  refine swp_ret ?_
  cases hm
  refine ⟨.inr rfl, ?_⟩
  refine EE.here ?_
  simp -dsimp

theorem c_point_Compare (a : Point) (b : Point) (r : Int) (hm : m_point_Compare a b = some r) : PureCall Tryz.prog 114 [.u (.agg [.d (.int .i64 a.X), .d (.int .i64 a.Y)]), .u (.agg [.d (.int .i64 b.X), .d (.int .i64 b.Y)])] (.u (.one (.d (.int .i64 r)))) := (f_point_Compare a b r hm).pureW
end Go.Proofs.YtgfhhbjnjccomaaGreatDoor
