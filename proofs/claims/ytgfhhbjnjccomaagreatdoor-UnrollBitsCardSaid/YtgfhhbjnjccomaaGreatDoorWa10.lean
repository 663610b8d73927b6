/-
  That the code does what the functions say (made by cc.py).
-/
import Derived.Test.YtgfhhbjnjccomaaGreatDoorMd1
import Derived.Test.YtgfhhbjnjccomaaGreatDoorTb
import Derived.Test.YtgfhhbjnjccomaaGreatDoorWa9
namespace Go.Proofs.YtgfhhbjnjccomaaGreatDoor
open Go.AM Go.Proofs
def F_R44_Box_2 (cx : Cx) (x : Problem) (i : Int) (_x1 : Int) (tt : Int ⊕ Unit) (ee : Exit) (ρ : Env) (σ : Sto) : Prop := match tt with
  | .inl r => ee = .ret ∧ EE cx (fun ρ σ => ∃ v, resV tb ρ σ Tryz.f84.results.toList = some v ∧ (v.frz σ).free = true ∧ (v.frz σ).wk (.u (.one (.d (.int .i64 r))))) ρ σ
  | .inr _u => ee = .exit 2 ∧ EE cx (FitsW [(1, .u (.one (.box 1 0))), (3, .u (.one (.d (.int .i64 i))))] [(1, .box [.d (.int .i64 x.W), .d (.int .i64 x.H), .d (.int .i64 x.Gens), .d (.int .i64 x.DX), .d (.int .i64 x.DY), .d (.sl 1 (List.map (rI .i64) x.Syms))])]) ρ σ
theorem l_R44_Box_2 (cx : Cx) (hn : cx.n = 100) (x : Problem) (i : Int) (x1 : Int) {fu : Nat} {stt : Int} {tt : Int ⊕ Unit} (hh : loopN (b_R44_Box_2 x i x1) fu stt = some tt) {ρ : Env} {σ : Sto}
    (hE : Fits ((fun k : Int => [(1, .u (.one (.box 1 0))), (3, .u (.one (.d (.int .i64 i)))), (4, .u (.one (.d (.int .i64 x1)))), (5, .u (.one (.d (.int .i64 k))))]) stt) ((fun _k : Int => [(1, .box [.d (.int .i64 x.W), .d (.int .i64 x.H), .d (.int .i64 x.Gens), .d (.int .i64 x.DX), .d (.int .i64 x.DY), .d (.sl 1 (List.map (rI .i64) x.Syms))])]) stt) ρ σ) : Swp Tryz.prog cx (.loop (csub [1, 1, 1, 1, 0, 1, 0, 0, 1, 0, 0, 1, 1, 1, 0, 0] (bodyOf Tryz.f84))) ρ σ (F_R44_Box_2 cx x i x1 tt) := by
  refine loop_model (fun k : Int => [(1, .u (.one (.box 1 0))), (3, .u (.one (.d (.int .i64 i)))), (4, .u (.one (.d (.int .i64 x1)))), (5, .u (.one (.d (.int .i64 k))))]) (fun k : Int => [(1, .box [.d (.int .i64 x.W), .d (.int .i64 x.H), .d (.int .i64 x.Gens), .d (.int .i64 x.DX), .d (.int .i64 x.DY), .d (.sl 1 (List.map (rI .i64) x.Syms))])]) (F_R44_Box_2 cx x i x1) (b_R44_Box_2 x i x1) (fun k => by rfl) (fun k => by rfl) ?_ hh hE
  rintro k r hm ρ σ hf
  simp only [Fits, FitE, FitS, and_true] at hf
  unfold b_R44_Box_2 at hm
  dsimp only at hm
  refine sw_seq ?_
  refine sw_regs tb_ok (by rw [hn]; kernel_rfl) ?_
  simp -dsimp [hf]
  rcases bifE hm with ⟨c19, hm⟩ | ⟨c19, hm⟩
  · refine sw_cond_t (b := (ltB k i)) (by simp -dsimp) c19 ?_
    refine swp_skip ?_
    refine thenQ_n ?_
    refine sw_seq ?_
    refine sw_block ?_
    refine sw_regs tb_ok (by rw [hn]; kernel_rfl) ?_
    obtain ⟨x2, h20, hm⟩ := bnd hm
    simp -dsimp [hf, c19, h20]
    rcases bifE hm with ⟨c21, hm⟩ | ⟨c21, hm⟩
    · refine sw_cond_t (b := (eqB x2 x1)) (by simp -dsimp) c21 ?_
      refine sw_regs tb_ok (by rw [hn]; kernel_rfl) ?_
      simp -dsimp [c21]
      refine swp_ret ?_
      refine blk_r ?_
      refine then_x ?_
      cases hm
      refine rd_out nofun ?_
      unfold F_R44_Box_2
      dsimp only
      refine ⟨rfl, ?_⟩
      refine EE.here ?_
      simp -dsimp [Tryz.results84]

    · refine sw_cond_f (b := (eqB x2 x1)) (by simp -dsimp) c21 ?_
      refine swp_skip ?_
      refine blk_n ?_
      refine thenQ_n ?_
      refine sw_reg tb_ok (by rw [hn]; kernel_rfl) ?_
      simp -dsimp [hf, c21]
      cases hm
      refine rd_next ?_
      refine EE.here ?_
      simp -dsimp [hf]

  · refine sw_cond_f (b := (ltB k i)) (by simp -dsimp) c19 ?_
    refine swp_exit ?_
    refine then_x ?_
    cases hm
    refine rd_out nofun ?_
    unfold F_R44_Box_2
    dsimp only
    refine ⟨rfl, ?_⟩
    refine EE.here ?_
    simp -dsimp [hf, c19]

def F_R44_Box_1 (cx : Cx) (_x : Problem) (tt : Int ⊕ Unit) (ee : Exit) (ρ : Env) (σ : Sto) : Prop := match tt with
  | .inl r => ee = .ret ∧ EE cx (fun ρ σ => ∃ v, resV tb ρ σ Tryz.f84.results.toList = some v ∧ (v.frz σ).free = true ∧ (v.frz σ).wk (.u (.one (.d (.int .i64 r))))) ρ σ
  | .inr _u => ee = .exit 0 ∧ EE cx (FitsW [] []) ρ σ
theorem l_R44_Box_1 (cx : Cx) (hn : cx.n = 100) (x : Problem) {fu : Nat} {stt : Int} {tt : Int ⊕ Unit} (hh : loopN (b_R44_Box_1 x) fu stt = some tt) {ρ : Env} {σ : Sto}
    (hE : Fits ((fun i : Int => [(1, .u (.one (.box 1 0))), (3, .u (.one (.d (.int .i64 i))))]) stt) ((fun _i : Int => [(1, .box [.d (.int .i64 x.W), .d (.int .i64 x.H), .d (.int .i64 x.Gens), .d (.int .i64 x.DX), .d (.int .i64 x.DY), .d (.sl 1 (List.map (rI .i64) x.Syms))])]) stt) ρ σ) : Swp Tryz.prog cx (.loop (csub [1, 1, 1, 1, 0, 1, 0, 0] (bodyOf Tryz.f84))) ρ σ (F_R44_Box_1 cx x tt) := by
  refine loop_model (fun i : Int => [(1, .u (.one (.box 1 0))), (3, .u (.one (.d (.int .i64 i))))]) (fun i : Int => [(1, .box [.d (.int .i64 x.W), .d (.int .i64 x.H), .d (.int .i64 x.Gens), .d (.int .i64 x.DX), .d (.int .i64 x.DY), .d (.sl 1 (List.map (rI .i64) x.Syms))])]) (F_R44_Box_1 cx x) (b_R44_Box_1 x) (fun i => by rfl) (fun i => by rfl) ?_ hh hE
  rintro i r hm ρ σ hf
  simp only [Fits, FitE, FitS, and_true] at hf
  unfold b_R44_Box_1 at hm
  dsimp only at hm
  refine sw_seq ?_
  refine sw_regs tb_ok (by rw [hn]; kernel_rfl) ?_
  simp -dsimp [hf]
  rcases bifE hm with ⟨c12, hm⟩ | ⟨c12, hm⟩
  · refine sw_cond_t (b := (ltB i (lenL x.Syms))) (by simp -dsimp) c12 ?_
    refine swp_skip ?_
    refine thenQ_n ?_
    refine sw_seq ?_
    refine sw_block ?_
    refine sw_regs tb_ok (by rw [hn]; kernel_rfl) ?_
    obtain ⟨x1, h13, hm⟩ := bnd hm
    simp -dsimp [hf, c12, h13]
    refine sw_seq ?_
    obtain ⟨a3, j24, hm⟩ := bnd hm
    refine sw_cutE [(1, .u (.one (.box 1 0))), (3, .u (.one (.d (.int .i64 i)))), (4, .u (.one (.d (.int .i64 x1)))), (87, .u (.one (.d (.bool a3))))] [(1, .box [.d (.int .i64 x.W), .d (.int .i64 x.H), .d (.int .i64 x.Gens), .d (.int .i64 x.DX), .d (.int .i64 x.DY), .d (.sl 1 (List.map (rI .i64) x.Syms))])] (by rfl) (by rfl) ?_ fun ρ σ hf => ?_
    · replace hm := j24
      clear j24
      refine sw_reg tb_ok (by rw [hn]; kernel_rfl) ?_
      rcases bifE hm with ⟨c14, hm⟩ | ⟨c14, hm⟩
      · simp -dsimp [c14]
        refine thenQ_n ?_
        cases hm
        refine EE.here ?_
        simp -dsimp [hf]

      · rcases bifE hm with ⟨c15, hm⟩ | ⟨c15, hm⟩
        · simp -dsimp [c14, c15]
          refine thenQ_n ?_
          cases hm
          refine EE.here ?_
          simp -dsimp [hf]

        · obtain ⟨n, h16, hm⟩ := bnd hm
          rcases bifE hm with ⟨c17, hm⟩ | ⟨c17, hm⟩
          · simp -dsimp [hf, c14, c15, h16, c17]
            refine thenQ_n ?_
            cases hm
            refine EE.here ?_
            simp -dsimp [hf]

          · simp -dsimp [c14, c15, h16, c17]
            refine thenQ_n ?_
            cases hm
            refine EE.here ?_
            simp -dsimp [hf]

    · clear j24
      simp only [Fits, FitE, FitS, and_true] at hf
      rcases bifE hm with ⟨c18, hm⟩ | ⟨c18, hm⟩
      · refine sw_cond_t (b := a3) (by simp -dsimp [hf]) c18 ?_
        refine sw_regs tb_ok (by rw [hn]; kernel_rfl) ?_
        simp -dsimp
        refine swp_ret ?_
        refine then_x ?_
        refine blk_r ?_
        refine then_x ?_
        cases hm
        refine rd_out nofun ?_
        unfold F_R44_Box_1
        dsimp only
        refine ⟨rfl, ?_⟩
        refine EE.here ?_
        simp -dsimp [Tryz.results84]

      · refine sw_cond_f (b := a3) (by simp -dsimp [hf]) c18 ?_
        refine swp_skip ?_
        refine thenQ_n ?_
        refine sw_regs tb_ok (by rw [hn]; kernel_rfl) ?_
        simp -dsimp
        refine sw_block ?_
        obtain ⟨o_, g22, hm⟩ := bnd hm
        refine sw_ent [(1, .u (.one (.box 1 0))), (3, .u (.one (.d (.int .i64 i)))), (4, .u (.one (.d (.int .i64 x1)))), (5, .u (.one (.d (.int .i64 0))))] [(1, .box [.d (.int .i64 x.W), .d (.int .i64 x.H), .d (.int .i64 x.Gens), .d (.int .i64 x.DX), .d (.int .i64 x.DY), .d (.sl 1 (List.map (rI .i64) x.Syms))])] (by rfl) (by rfl) (by
            refine EE.here ?_
            simp -dsimp [hf]
        ) fun ρ σ hf => ?_
        refine (l_R44_Box_2 cx hn x i x1 g22 hf).mono fun ee ρ σ x23 => ?_
        rcases o_ with r | _u
        · unfold F_R44_Box_2 at x23
          dsimp only at x23
          obtain ⟨rfl, x23⟩ := x23
          refine blk_r ?_
          refine blk_r ?_
          refine then_x ?_
          cases hm
          refine rd_out nofun ?_
          unfold F_R44_Box_1
          dsimp only
          refine ⟨rfl, ?_⟩
          exact x23

        · unfold F_R44_Box_2 at x23
          dsimp only at x23
          obtain ⟨rfl, x23⟩ := x23
          refine blk_exit ?_
          refine blk_n ?_
          refine thenQ_n ?_
          refine sw_ee (by rfl) (by rfl) x23 fun ρ σ hf => ?_
          simp only [Fits, FitE, FitS, and_true] at hf
          refine sw_reg tb_ok (by rw [hn]; kernel_rfl) ?_
          simp -dsimp [hf]
          cases hm
          refine rd_next ?_
          refine EE.here ?_
          simp -dsimp [hf]

  · refine sw_cond_f (b := (ltB i (lenL x.Syms))) (by simp -dsimp) c12 ?_
    refine swp_exit ?_
    refine then_x ?_
    cases hm
    refine rd_out nofun ?_
    unfold F_R44_Box_1
    dsimp only
    refine ⟨rfl, ?_⟩
    refine EE.here ?_
    simp -dsimp [c12]

theorem f_R44_Box (x : Problem) (r : Int) (hm : m_R44_Box x = some r) : PFn Tryz.prog 84 [.u (.agg [.d (.int .i64 x.W), .d (.int .i64 x.H), .d (.int .i64 x.Gens), .d (.int .i64 x.DX), .d (.int .i64 x.DY), .d (.sl 1 (List.map (rI .i64) x.Syms))])] (fun v => v.wk (.u (.one (.d (.int .i64 r))))) := by
  refine pfn_E tb_ok _ Tryz.func84 rfl (by kernel_rfl) (by simp [Tryz.ntmps84]) fun cx hn => ?_
  replace hn : cx.n = 100 := hn.trans Tryz.ntmps84
  unfold m_R44_Box at hm
  refine sw_regs tb_ok (by rw [hn]; kernel_rfl) ?_
  simp -dsimp []
  refine sw_seq ?_
  obtain ⟨a, j29, hm⟩ := bnd hm
  refine sw_cutE [(1, .u (.one (.box 1 0))), (13, .u (.one (.d (.bool a))))] [(1, .box [.d (.int .i64 x.W), .d (.int .i64 x.H), .d (.int .i64 x.Gens), .d (.int .i64 x.DX), .d (.int .i64 x.DY), .d (.sl 1 (List.map (rI .i64) x.Syms))])] (by rfl) (by rfl) ?_ fun ρ σ hf => ?_
  · replace hm := j29
    clear j29
    refine sw_reg tb_ok (by rw [hn]; kernel_rfl) ?_
    rcases bifE hm with ⟨c1, hm⟩ | ⟨c1, hm⟩
    · simp -dsimp [c1]
      refine thenQ_n ?_
      cases hm
      refine EE.here ?_
      simp -dsimp

    · simp -dsimp [c1]
      refine thenQ_n ?_
      cases hm
      refine EE.here ?_
      simp -dsimp

  · clear j29
    simp only [Fits, FitE, FitS, and_true] at hf
    rcases bifE hm with ⟨c2, hm⟩ | ⟨c2, hm⟩
    · refine sw_cond_t (b := a) (by simp -dsimp [hf]) c2 ?_
      refine sw_regs tb_ok (by rw [hn]; kernel_rfl) ?_
      simp -dsimp
      refine swp_ret ?_
      refine then_x ?_
      cases hm
      refine ⟨.inr rfl, ?_⟩
      refine EE.here ?_
      simp -dsimp

    · refine sw_cond_f (b := a) (by simp -dsimp [hf]) c2 ?_
      refine swp_skip ?_
      refine thenQ_n ?_
      refine sw_seq ?_
      obtain ⟨a1, j28, hm⟩ := bnd hm
      refine sw_cutE [(1, .u (.one (.box 1 0))), (29, .u (.one (.d (.bool a1))))] [(1, .box [.d (.int .i64 x.W), .d (.int .i64 x.H), .d (.int .i64 x.Gens), .d (.int .i64 x.DX), .d (.int .i64 x.DY), .d (.sl 1 (List.map (rI .i64) x.Syms))])] (by rfl) (by rfl) ?_ fun ρ σ hf => ?_
      · replace hm := j28
        clear j28
        refine sw_reg tb_ok (by rw [hn]; kernel_rfl) ?_
        rcases bifE hm with ⟨c3, hm⟩ | ⟨c3, hm⟩
        · simp -dsimp [hf, c3]
          refine thenQ_n ?_
          cases hm
          refine EE.here ?_
          simp -dsimp [hf]

        · rcases bifE hm with ⟨c4, hm⟩ | ⟨c4, hm⟩
          · simp -dsimp [hf, c3, c4]
            refine thenQ_n ?_
            cases hm
            refine EE.here ?_
            simp -dsimp [hf]

          · simp -dsimp [hf, c3, c4]
            refine thenQ_n ?_
            cases hm
            refine EE.here ?_
            simp -dsimp [hf]

      · clear j28
        simp only [Fits, FitE, FitS, and_true] at hf
        rcases bifE hm with ⟨c5, hm⟩ | ⟨c5, hm⟩
        · refine sw_cond_t (b := a1) (by simp -dsimp [hf]) c5 ?_
          refine sw_regs tb_ok (by rw [hn]; kernel_rfl) ?_
          simp -dsimp
          refine swp_ret ?_
          refine then_x ?_
          cases hm
          refine ⟨.inr rfl, ?_⟩
          refine EE.here ?_
          simp -dsimp

        · refine sw_cond_f (b := a1) (by simp -dsimp [hf]) c5 ?_
          refine swp_skip ?_
          refine thenQ_n ?_
          refine sw_seq ?_
          obtain ⟨a2, j27, hm⟩ := bnd hm
          refine sw_cutE [(1, .u (.one (.box 1 0))), (57, .u (.one (.d (.bool a2))))] [(1, .box [.d (.int .i64 x.W), .d (.int .i64 x.H), .d (.int .i64 x.Gens), .d (.int .i64 x.DX), .d (.int .i64 x.DY), .d (.sl 1 (List.map (rI .i64) x.Syms))])] (by rfl) (by rfl) ?_ fun ρ σ hf => ?_
          · replace hm := j27
            clear j27
            refine sw_reg tb_ok (by rw [hn]; kernel_rfl) ?_
            rcases bifE hm with ⟨c6, hm⟩ | ⟨c6, hm⟩
            · simp -dsimp [hf, c6]
              refine thenQ_n ?_
              cases hm
              refine EE.here ?_
              simp -dsimp [hf]

            · rcases bifE hm with ⟨c7, hm⟩ | ⟨c7, hm⟩
              · simp -dsimp [hf, c6, c7]
                refine thenQ_n ?_
                cases hm
                refine EE.here ?_
                simp -dsimp [hf]

              · rcases bifE hm with ⟨c8, hm⟩ | ⟨c8, hm⟩
                · simp -dsimp [hf, c6, c7, c8]
                  refine thenQ_n ?_
                  cases hm
                  refine EE.here ?_
                  simp -dsimp [hf]

                · rcases bifE hm with ⟨c9, hm⟩ | ⟨c9, hm⟩
                  · simp -dsimp [hf, c6, c7, c8, c9]
                    refine thenQ_n ?_
                    cases hm
                    refine EE.here ?_
                    simp -dsimp [hf]

                  · rcases bifE hm with ⟨c10, hm⟩ | ⟨c10, hm⟩
                    · simp -dsimp [hf, c6, c7, c8, c9, c10]
                      refine thenQ_n ?_
                      cases hm
                      refine EE.here ?_
                      simp -dsimp [hf]

                    · simp -dsimp [hf, c6, c7, c8, c9, c10]
                      refine thenQ_n ?_
                      cases hm
                      refine EE.here ?_
                      simp -dsimp [hf]

          · clear j27
            simp only [Fits, FitE, FitS, and_true] at hf
            rcases bifE hm with ⟨c11, hm⟩ | ⟨c11, hm⟩
            · refine sw_cond_t (b := a2) (by simp -dsimp [hf]) c11 ?_
              refine sw_regs tb_ok (by rw [hn]; kernel_rfl) ?_
              simp -dsimp
              refine swp_ret ?_
              refine then_x ?_
              cases hm
              refine ⟨.inr rfl, ?_⟩
              refine EE.here ?_
              simp -dsimp

            · refine sw_cond_f (b := a2) (by simp -dsimp [hf]) c11 ?_
              refine swp_skip ?_
              refine thenQ_n ?_
              refine sw_seq ?_
              refine sw_regs tb_ok (by rw [hn]; kernel_rfl) ?_
              simp -dsimp
              refine sw_block ?_
              obtain ⟨o_, g25, hm⟩ := bnd hm
              refine sw_ent [(1, .u (.one (.box 1 0))), (3, .u (.one (.d (.int .i64 0))))] [(1, .box [.d (.int .i64 x.W), .d (.int .i64 x.H), .d (.int .i64 x.Gens), .d (.int .i64 x.DX), .d (.int .i64 x.DY), .d (.sl 1 (List.map (rI .i64) x.Syms))])] (by rfl) (by rfl) (by
                  refine EE.here ?_
                  simp -dsimp [hf]
              ) fun ρ σ hf => ?_
              refine (l_R44_Box_1 cx hn x g25 hf).mono fun ee ρ σ x26 => ?_
              rcases o_ with r | _u
              · unfold F_R44_Box_1 at x26
                dsimp only at x26
                obtain ⟨rfl, x26⟩ := x26
                refine blk_r ?_
                refine then_x ?_
                cases hm
                exact ⟨.inr rfl, x26⟩

              · unfold F_R44_Box_1 at x26
                dsimp only at x26
                obtain ⟨rfl, x26⟩ := x26
                refine blk_exit ?_
                refine thenQ_n ?_
                refine sw_ee (by rfl) (by rfl) x26 fun ρ σ hf => ?_
                simp only [Fits, FitE, FitS, and_true] at hf
                refine sw_regs tb_ok (by rw [hn]; kernel_rfl) ?_
                simp -dsimp
                refine swp_ret ?_
                cases hm
                refine ⟨.inr rfl, ?_⟩
                refine EE.here ?_
                simp -dsimp

theorem c_R44_Box (x : Problem) (r : Int) (hm : m_R44_Box x = some r) : PureCall Tryz.prog 84 [.u (.agg [.d (.int .i64 x.W), .d (.int .i64 x.H), .d (.int .i64 x.Gens), .d (.int .i64 x.DX), .d (.int .i64 x.DY), .d (.sl 1 (List.map (rI .i64) x.Syms))])] (.u (.one (.d (.int .i64 r)))) := (f_R44_Box x r hm).pureW
theorem f_R44_Check (t : Tree) (x : Problem) (r : Int) (hm : m_R44_Check t x = some r) : PFn Tryz.prog 39 [.u (.agg [.d (.int .i64 t.States), .d (.sl 2 (List.map Point.row t.Hood)), .d (.sl 2 (List.map Node.row t.Nodes))]), .u (.agg [.d (.int .i64 x.W), .d (.int .i64 x.H), .d (.int .i64 x.Gens), .d (.int .i64 x.DX), .d (.int .i64 x.DY), .d (.sl 1 (List.map (rI .i64) x.Syms))])] (fun v => v.wk (.u (.one (.d (.int .i64 r))))) := by
  refine pfn_E tb_ok _ Tryz.func39 rfl (by kernel_rfl) (by simp [Tryz.ntmps39]) fun cx hn => ?_
  replace hn : cx.n = 10 := hn.trans Tryz.ntmps39
  unfold m_R44_Check at hm
  refine sw_regs tb_ok (by rw [hn]; kernel_rfl) ?_
  simp -dsimp []
  refine sw_seq ?_
  refine sw_regs tb_ok (by rw [hn]; kernel_rfl) ?_
  obtain ⟨y, h1, hm⟩ := bnd hm
  simp -dsimp []
  refine callL_pure (c_R12_Quiet t y h1) (by rw [hn]; decide) ?_
  simp -dsimp
  rcases bifE hm with ⟨c2, hm⟩ | ⟨c2, hm⟩
  · refine sw_cond_t (b := (notB y)) (by simp -dsimp) c2 ?_
    refine sw_regs tb_ok (by rw [hn]; kernel_rfl) ?_
    simp -dsimp [c2]
    refine swp_ret ?_
    refine then_x ?_
    cases hm
    refine ⟨.inr rfl, ?_⟩
    refine EE.here ?_
    simp -dsimp

  · refine sw_cond_f (b := (notB y)) (by simp -dsimp) c2 ?_
    refine swp_skip ?_
    refine thenQ_n ?_
    refine sw_regs tb_ok (by rw [hn]; kernel_rfl) ?_
    obtain ⟨y1, h3, hm⟩ := bnd hm
    simp -dsimp [c2]
    refine callL_pure (c_R44_Box x y1 h3) (by rw [hn]; decide) ?_
    simp -dsimp
    refine swp_ret ?_
    cases hm
    refine ⟨.inr rfl, ?_⟩
    refine EE.here ?_
    simp -dsimp

theorem c_R44_Check (t : Tree) (x : Problem) (r : Int) (hm : m_R44_Check t x = some r) : PureCall Tryz.prog 39 [.u (.agg [.d (.int .i64 t.States), .d (.sl 2 (List.map Point.row t.Hood)), .d (.sl 2 (List.map Node.row t.Nodes))]), .u (.agg [.d (.int .i64 x.W), .d (.int .i64 x.H), .d (.int .i64 x.Gens), .d (.int .i64 x.DX), .d (.int .i64 x.DY), .d (.sl 1 (List.map (rI .i64) x.Syms))])] (.u (.one (.d (.int .i64 r)))) := (f_R44_Check t x r hm).pureW
theorem f_R18_Bits (states : Int) (r : Int) (hm : m_R18_Bits states = some r) : PFn Tryz.prog 24 [.u (.one (.d (.int .i64 states)))] (fun v => v.wk (.u (.one (.d (.int .i64 r))))) := by
  refine pfn_E tb_ok _ Tryz.func24 rfl (by kernel_rfl) (by simp [Tryz.ntmps24]) fun cx hn => ?_
  replace hn : cx.n = 17 := hn.trans Tryz.ntmps24
  unfold m_R18_Bits at hm
  refine sw_regs tb_ok (by rw [hn]; kernel_rfl) ?_
  simp -dsimp []
  refine sw_seq ?_
  refine sw_regs tb_ok (by rw [hn]; kernel_rfl) ?_
  simp -dsimp []
  rcases bifE hm with ⟨c1, hm⟩ | ⟨c1, hm⟩
  · refine sw_cond_t (b := (eqB states 2)) (by simp -dsimp []) c1 ?_
    refine sw_regs tb_ok (by rw [hn]; kernel_rfl) ?_
    simp -dsimp [c1]
    refine swp_ret ?_
    refine then_x ?_
    cases hm
    refine ⟨.inr rfl, ?_⟩
    refine EE.here ?_
    simp -dsimp

  · refine sw_cond_f (b := (eqB states 2)) (by simp -dsimp []) c1 ?_
    refine swp_skip ?_
    refine thenQ_n ?_
    refine sw_seq ?_
    obtain ⟨a, j7, hm⟩ := bnd hm
    refine sw_cutE [(0, .u (.one (.d (.int .i64 states)))), (10, .u (.one (.d (.bool a))))] [] (by rfl) (by rfl) ?_ fun ρ σ hf => ?_
    · replace hm := j7
      clear j7
      refine sw_reg tb_ok (by rw [hn]; kernel_rfl) ?_
      rcases bifE hm with ⟨c2, hm⟩ | ⟨c2, hm⟩
      · simp -dsimp [c1, c2]
        refine thenQ_n ?_
        cases hm
        refine EE.here ?_
        simp -dsimp

      · simp -dsimp [c1, c2]
        refine thenQ_n ?_
        cases hm
        refine EE.here ?_
        simp -dsimp

    · clear j7
      simp only [Fits, FitE, FitS, and_true] at hf
      rcases bifE hm with ⟨c3, hm⟩ | ⟨c3, hm⟩
      · refine sw_cond_t (b := a) (by simp -dsimp [hf]) c3 ?_
        refine sw_regs tb_ok (by rw [hn]; kernel_rfl) ?_
        simp -dsimp
        refine swp_ret ?_
        refine then_x ?_
        cases hm
        refine ⟨.inr rfl, ?_⟩
        refine EE.here ?_
        simp -dsimp

      · refine sw_cond_f (b := a) (by simp -dsimp [hf]) c3 ?_
        refine swp_skip ?_
        refine thenQ_n ?_
        refine sw_seq ?_
        obtain ⟨a1, j6, hm⟩ := bnd hm
        refine sw_cutE [(16, .u (.one (.d (.bool a1))))] [] (by rfl) (by rfl) ?_ fun ρ σ hf => ?_
        · replace hm := j6
          clear j6
          refine sw_reg tb_ok (by rw [hn]; kernel_rfl) ?_
          rcases bifE hm with ⟨c4, hm⟩ | ⟨c4, hm⟩
          · simp -dsimp [hf, c4]
            refine thenQ_n ?_
            cases hm
            refine EE.here ?_
            simp -dsimp

          · simp -dsimp [hf, c4]
            refine thenQ_n ?_
            cases hm
            refine EE.here ?_
            simp -dsimp

        · clear j6
          simp only [Fits, FitE, FitS, and_true] at hf
          rcases bifE hm with ⟨c5, hm⟩ | ⟨c5, hm⟩
          · refine sw_cond_t (b := a1) (by simp -dsimp [hf]) c5 ?_
            refine sw_regs tb_ok (by rw [hn]; kernel_rfl) ?_
            simp -dsimp
            refine swp_ret ?_
            refine then_x ?_
            cases hm
            refine ⟨.inr rfl, ?_⟩
            refine EE.here ?_
            simp -dsimp

          · refine sw_cond_f (b := a1) (by simp -dsimp [hf]) c5 ?_
            refine swp_skip ?_
            refine thenQ_n ?_
            refine sw_regs tb_ok (by rw [hn]; kernel_rfl) ?_
            simp -dsimp
            refine swp_ret ?_
            cases hm
            refine ⟨.inr rfl, ?_⟩
            refine EE.here ?_
            simp -dsimp

theorem c_R18_Bits (states : Int) (r : Int) (hm : m_R18_Bits states = some r) : PureCall Tryz.prog 24 [.u (.one (.d (.int .i64 states)))] (.u (.one (.d (.int .i64 r)))) := (f_R18_Bits states r hm).pureW
end Go.Proofs.YtgfhhbjnjccomaaGreatDoor
