/-
  That the code does what the functions say (made by cc.py).
-/
import Derived.Test.YtgfhhbjnjccomaaGreatDoorMd1
import Derived.Test.YtgfhhbjnjccomaaGreatDoorTb
import Derived.Test.YtgfhhbjnjccomaaGreatDoorWa6
namespace Go.Proofs.YtgfhhbjnjccomaaGreatDoor
open Go.AM Go.Proofs
def F_R07_Right_1 (cx : Cx) (_l : List Point) (tt : Bool ⊕ Unit) (ee : Exit) (ρ : Env) (σ : Sto) : Prop := match tt with
  | .inl r => ee = .ret ∧ EE cx (fun ρ σ => ∃ v, resV tb ρ σ Tryz.f70.results.toList = some v ∧ (v.frz σ).free = true ∧ (v.frz σ).wk (.u (.one (.d (.bool r))))) ρ σ
  | .inr _u => ee = .exit 0 ∧ EE cx (FitsW [] []) ρ σ
theorem l_R07_Right_1 (cx : Cx) (hn : cx.n = 55) (l : List Point) {fu : Nat} {stt : Int} {tt : Bool ⊕ Unit} (hh : loopN (b_R07_Right_1 l) fu stt = some tt) {ρ : Env} {σ : Sto}
    (hE : Fits ((fun i : Int => [(0, .u (.one (.d (.sl 2 (List.map Point.row l))))), (3, .u (.one (.d (.int .i64 i))))]) stt) ((fun _i : Int => []) stt) ρ σ) : Swp Tryz.prog cx (.loop (csub [1, 1, 0, 1, 0, 0] (bodyOf Tryz.f70))) ρ σ (F_R07_Right_1 cx l tt) := by
  refine loop_model (fun i : Int => [(0, .u (.one (.d (.sl 2 (List.map Point.row l))))), (3, .u (.one (.d (.int .i64 i))))]) (fun i : Int => []) (F_R07_Right_1 cx l) (b_R07_Right_1 l) (fun i => by rfl) (fun i => by rfl) ?_ hh hE
  rintro i r hm ρ σ hf
  simp only [Fits, FitE, FitS, and_true] at hf
  unfold b_R07_Right_1 at hm
  dsimp only at hm
  refine sw_seq ?_
  refine sw_regs tb_ok (by rw [hn]; kernel_rfl) ?_
  simp -dsimp [hf]
  rcases bifE hm with ⟨c3, hm⟩ | ⟨c3, hm⟩
  · refine sw_cond_t (b := (ltB i (lenL l))) (by simp -dsimp) c3 ?_
    refine swp_skip ?_
    refine thenQ_n ?_
    refine sw_seq ?_
    refine sw_block ?_
    refine sw_regs tb_ok (by rw [hn]; kernel_rfl) ?_
    obtain ⟨x, h4, hm⟩ := bnd hm
    simp -dsimp [hf, c3, h4]
    obtain ⟨a1, j13, hm⟩ := bnd hm
    refine sw_cutE [(0, .u (.one (.d (.sl 2 (List.map Point.row l))))), (3, .u (.one (.d (.int .i64 i)))), (54, .u (.one (.d (.bool a1))))] [] (by rfl) (by rfl) ?_ fun ρ σ hf => ?_
    · replace hm := j13
      clear j13
      refine sw_qt tb_ok mixed (by rw [hn]; kernel_rfl) ?_
      rcases bifE hm with ⟨c5, hm⟩ | ⟨c5, hm⟩
      · simp -dsimp [c5]
        refine thenQ_n ?_
        cases hm
        refine EE.here ?_
        simp -dsimp [hf]

      · rcases bifE hm with ⟨c6, hm⟩ | ⟨c6, hm⟩
        · simp -dsimp [c5, c6]
          refine thenQ_n ?_
          cases hm
          refine EE.here ?_
          simp -dsimp [hf]

        · rcases bifE hm with ⟨c7, hm⟩ | ⟨c7, hm⟩
          · simp -dsimp [c5, c6, c7]
            refine thenQ_n ?_
            cases hm
            refine EE.here ?_
            simp -dsimp [hf]

          · rcases bifE hm with ⟨c8, hm⟩ | ⟨c8, hm⟩
            · simp -dsimp [c5, c6, c7, c8]
              refine thenQ_n ?_
              cases hm
              refine EE.here ?_
              simp -dsimp [hf]

            · rcases bifE hm with ⟨c9, hm⟩ | ⟨c9, hm⟩
              · obtain ⟨x1, h10, hm⟩ := bnd hm
                obtain ⟨y, h11, hm⟩ := bnd hm
                simp -dsimp [hf, c5, c6, c7, c8, c9, h10]
                refine qcallL_pure (c_R07_before x1 x y h11) ?_
                simp -dsimp
                refine thenQ_n ?_
                cases hm
                refine EE.here ?_
                simp -dsimp [hf]

              · simp -dsimp [hf, c5, c6, c7, c8, c9]
                refine thenQ_n ?_
                cases hm
                refine EE.here ?_
                simp -dsimp [hf]

    · clear j13
      simp only [Fits, FitE, FitS, and_true] at hf
      rcases bifE hm with ⟨c12, hm⟩ | ⟨c12, hm⟩
      · refine sw_cond_t (b := a1) (by simp -dsimp [hf]) c12 ?_
        refine sw_regs tb_ok (by rw [hn]; kernel_rfl) ?_
        simp -dsimp
        refine swp_ret ?_
        refine blk_r ?_
        refine then_x ?_
        cases hm
        refine rd_out nofun ?_
        unfold F_R07_Right_1
        dsimp only
        refine ⟨rfl, ?_⟩
        refine EE.here ?_
        simp -dsimp [Tryz.results70]

      · refine sw_cond_f (b := a1) (by simp -dsimp [hf]) c12 ?_
        refine swp_skip ?_
        refine blk_n ?_
        refine thenQ_n ?_
        refine sw_reg tb_ok (by rw [hn]; kernel_rfl) ?_
        simp -dsimp [hf]
        cases hm
        refine rd_next ?_
        refine EE.here ?_
        simp -dsimp [hf]

  · refine sw_cond_f (b := (ltB i (lenL l))) (by simp -dsimp) c3 ?_
    refine swp_exit ?_
    refine then_x ?_
    cases hm
    refine rd_out nofun ?_
    unfold F_R07_Right_1
    dsimp only
    refine ⟨rfl, ?_⟩
    refine EE.here ?_
    simp -dsimp [c3]

theorem f_R07_Right (l : List Point) (r : Bool) (hm : m_R07_Right l = some r) : PFn Tryz.prog 70 [.u (.one (.d (.sl 2 (List.map Point.row l))))] (fun v => v.wk (.u (.one (.d (.bool r))))) := by
  refine pfn_E tb_ok _ Tryz.func70 rfl (by kernel_rfl) (by simp [Tryz.ntmps70]) fun cx hn => ?_
  replace hn : cx.n = 55 := hn.trans Tryz.ntmps70
  unfold m_R07_Right at hm
  refine sw_regs tb_ok (by rw [hn]; kernel_rfl) ?_
  simp -dsimp []
  refine sw_seq ?_
  obtain ⟨a, j16, hm⟩ := bnd hm
  refine sw_cutE [(0, .u (.one (.d (.sl 2 (List.map Point.row l))))), (12, .u (.one (.d (.bool a))))] [] (by rfl) (by rfl) ?_ fun ρ σ hf => ?_
  · replace hm := j16
    clear j16
    refine sw_reg tb_ok (by rw [hn]; kernel_rfl) ?_
    rcases bifE hm with ⟨c1, hm⟩ | ⟨c1, hm⟩
    · simp -dsimp [c1]
      refine thenQ_n ?_
      cases hm
      refine EE.here ?_
      simp -dsimp

    · simp -dsimp [c1]
      refine thenQ_n ?_
      cases hm
      refine EE.here ?_
      simp -dsimp

  · clear j16
    simp only [Fits, FitE, FitS, and_true] at hf
    rcases bifE hm with ⟨c2, hm⟩ | ⟨c2, hm⟩
    · refine sw_cond_t (b := a) (by simp -dsimp [hf]) c2 ?_
      refine sw_regs tb_ok (by rw [hn]; kernel_rfl) ?_
      simp -dsimp
      refine swp_ret ?_
      refine then_x ?_
      cases hm
      refine ⟨.inr rfl, ?_⟩
      refine EE.here ?_
      simp -dsimp

    · refine sw_cond_f (b := a) (by simp -dsimp [hf]) c2 ?_
      refine swp_skip ?_
      refine thenQ_n ?_
      refine sw_seq ?_
      refine sw_regs tb_ok (by rw [hn]; kernel_rfl) ?_
      simp -dsimp
      refine sw_block ?_
      obtain ⟨o_, g14, hm⟩ := bnd hm
      refine sw_ent [(0, .u (.one (.d (.sl 2 (List.map Point.row l))))), (3, .u (.one (.d (.int .i64 0))))] [] (by rfl) (by rfl) (by
          refine EE.here ?_
          simp -dsimp [hf]
      ) fun ρ σ hf => ?_
      refine (l_R07_Right_1 cx hn l g14 hf).mono fun ee ρ σ x15 => ?_
      rcases o_ with r | _u
      · unfold F_R07_Right_1 at x15
        dsimp only at x15
        obtain ⟨rfl, x15⟩ := x15
        refine blk_r ?_
        refine then_x ?_
        cases hm
        exact ⟨.inr rfl, x15⟩

      · unfold F_R07_Right_1 at x15
        dsimp only at x15
        obtain ⟨rfl, x15⟩ := x15
        refine blk_exit ?_
        refine thenQ_n ?_
        refine sw_ee (by rfl) (by rfl) x15 fun ρ σ hf => ?_
        simp only [Fits, FitE, FitS, and_true] at hf
        refine sw_regs tb_ok (by rw [hn]; kernel_rfl) ?_
        simp -dsimp
        refine swp_ret ?_
        cases hm
        refine ⟨.inr rfl, ?_⟩
        refine EE.here ?_
        simp -dsimp

theorem c_R07_Right (l : List Point) (r : Bool) (hm : m_R07_Right l = some r) : PureCall Tryz.prog 70 [.u (.one (.d (.sl 2 (List.map Point.row l))))] (.u (.one (.d (.bool r)))) := (f_R07_Right l r hm).pureW
end Go.Proofs.YtgfhhbjnjccomaaGreatDoor
