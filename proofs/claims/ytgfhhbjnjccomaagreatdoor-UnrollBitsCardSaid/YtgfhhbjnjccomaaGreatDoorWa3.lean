/-
  That the code does what the functions say (made by cc.py).
-/
import Derived.Test.YtgfhhbjnjccomaaGreatDoorMd1
import Derived.Test.YtgfhhbjnjccomaaGreatDoorTb
import Derived.Test.YtgfhhbjnjccomaaGreatDoorWa2
namespace Go.Proofs.YtgfhhbjnjccomaaGreatDoor
open Go.AM Go.Proofs
def F_tree_Right_2 (cx : Cx) (t : Tree) (a1 : Int) (_x : Node) (tt : Bool ⊕ Unit) (ee : Exit) (ρ : Env) (σ : Sto) : Prop := match tt with
  | .inl r => ee = .ret ∧ EE cx (fun ρ σ => ∃ v, resV tb ρ σ Tryz.f46.results.toList = some v ∧ (v.frz σ).free = true ∧ (v.frz σ).wk (.u (.one (.d (.bool r))))) ρ σ
  | .inr _u => ee = .exit 2 ∧ EE cx (FitsW [(1, .u (.one (.box 1 0))), (47, .u (.one (.d (.sl 2 (List.map Node.row t.Nodes))))), (48, .u (.one (.d (.int .i64 (lenL t.Nodes))))), (49, .u (.one (.d (.int .i64 a1))))] [(1, .box [.d (.int .i64 t.States), .d (.sl 2 (List.map Point.row t.Hood)), .d (.sl 2 (List.map Node.row t.Nodes))])]) ρ σ
theorem l_tree_Right_2 (cx : Cx) (hn : cx.n = 117) (t : Tree) (a1 : Int) (x : Node) {fu : Nat} {stt : Int} {tt : Bool ⊕ Unit} (hh : loopN (b_tree_Right_2 t a1 x) fu stt = some tt) {ρ : Env} {σ : Sto}
    (hE : Fits ((fun a3 : Int => [(1, .u (.one (.box 1 0))), (4, .u (.one (.d (.int .i64 a1)))), (5, .u (.one (.box 5 0))), (47, .u (.one (.d (.sl 2 (List.map Node.row t.Nodes))))), (48, .u (.one (.d (.int .i64 (lenL t.Nodes))))), (49, .u (.one (.d (.int .i64 a1)))), (74, .u (.one (.d (.sl 1 (List.map (rI .i64) x.Next))))), (75, .u (.one (.d (.int .i64 (lenL x.Next))))), (76, .u (.one (.d (.int .i64 a3))))]) stt) ((fun _a3 : Int => [(1, .box [.d (.int .i64 t.States), .d (.sl 2 (List.map Point.row t.Hood)), .d (.sl 2 (List.map Node.row t.Nodes))]), (5, .box [.d (.int .i64 x.Level), .d (.sl 1 (List.map (rI .i64) x.Next))])]) stt) ρ σ) : Swp Tryz.prog cx (.loop (csub [1, 1, 1, 0, 1, 0, 0, 1, 1, 0, 0, 1, 1, 1, 0, 0] (bodyOf Tryz.f46))) ρ σ (F_tree_Right_2 cx t a1 x tt) := by
  refine loop_model (fun a3 : Int => [(1, .u (.one (.box 1 0))), (4, .u (.one (.d (.int .i64 a1)))), (5, .u (.one (.box 5 0))), (47, .u (.one (.d (.sl 2 (List.map Node.row t.Nodes))))), (48, .u (.one (.d (.int .i64 (lenL t.Nodes))))), (49, .u (.one (.d (.int .i64 a1)))), (74, .u (.one (.d (.sl 1 (List.map (rI .i64) x.Next))))), (75, .u (.one (.d (.int .i64 (lenL x.Next))))), (76, .u (.one (.d (.int .i64 a3))))]) (fun a3 : Int => [(1, .box [.d (.int .i64 t.States), .d (.sl 2 (List.map Point.row t.Hood)), .d (.sl 2 (List.map Node.row t.Nodes))]), (5, .box [.d (.int .i64 x.Level), .d (.sl 1 (List.map (rI .i64) x.Next))])]) (F_tree_Right_2 cx t a1 x) (b_tree_Right_2 t a1 x) (fun a3 => by rfl) (fun a3 => by rfl) ?_ hh hE
  rintro a3 r hm ρ σ hf
  simp only [Fits, FitE, FitS, and_true] at hf
  unfold b_tree_Right_2 at hm
  dsimp only at hm
  refine sw_regs tb_ok (by rw [hn]; kernel_rfl) ?_
  simp -dsimp [hf]
  refine sw_seq ?_
  rcases bifE hm with ⟨c14, hm⟩ | ⟨c14, hm⟩
  · refine sw_cond_t (b := (ltB a3 (lenL x.Next))) (by simp -dsimp) c14 ?_
    refine swp_skip ?_
    refine thenQ_n ?_
    refine sw_seq ?_
    refine sw_block ?_
    refine sw_regs tb_ok (by rw [hn]; kernel_rfl) ?_
    obtain ⟨x1, h15, hm⟩ := bnd hm
    simp -dsimp [hf, c14, h15]
    obtain ⟨a4, j26, hm⟩ := bnd hm
    refine sw_cutE [(1, .u (.one (.box 1 0))), (4, .u (.one (.d (.int .i64 a1)))), (5, .u (.one (.box 5 0))), (47, .u (.one (.d (.sl 2 (List.map Node.row t.Nodes))))), (48, .u (.one (.d (.int .i64 (lenL t.Nodes))))), (49, .u (.one (.d (.int .i64 a1)))), (74, .u (.one (.d (.sl 1 (List.map (rI .i64) x.Next))))), (75, .u (.one (.d (.int .i64 (lenL x.Next))))), (76, .u (.one (.d (.int .i64 a3)))), (114, .u (.one (.d (.bool a4))))] [(1, .box [.d (.int .i64 t.States), .d (.sl 2 (List.map Point.row t.Hood)), .d (.sl 2 (List.map Node.row t.Nodes))]), (5, .box [.d (.int .i64 x.Level), .d (.sl 1 (List.map (rI .i64) x.Next))])] (by rfl) (by rfl) ?_ fun ρ σ hf => ?_
    · replace hm := j26
      clear j26
      refine sw_qt tb_ok mixed (by rw [hn]; kernel_rfl) ?_
      rcases bifE hm with ⟨c16, hm⟩ | ⟨c16, hm⟩
      · simp -dsimp [c16]
        refine thenQ_n ?_
        cases hm
        refine EE.here ?_
        simp -dsimp [hf]

      · rcases bifE hm with ⟨c17, hm⟩ | ⟨c17, hm⟩
        · rcases bifE hm with ⟨c18, hm⟩ | ⟨c18, hm⟩
          · simp -dsimp [hf, c16, c17, c18]
            refine thenQ_n ?_
            cases hm
            refine EE.here ?_
            simp -dsimp [hf]

          · rcases bifE hm with ⟨c19, hm⟩ | ⟨c19, hm⟩
            · rcases bifE hm with ⟨c20, hm⟩ | ⟨c20, hm⟩
              · simp -dsimp [hf, c16, c17, c18, c19, c20]
                refine thenQ_n ?_
                cases hm
                refine EE.here ?_
                simp -dsimp [hf]

              · obtain ⟨x2, h21, hm⟩ := bnd hm
                simp -dsimp [hf, c16, c17, c18, c19, c20, h21]
                refine thenQ_n ?_
                cases hm
                refine EE.here ?_
                simp -dsimp [hf]

            · simp -dsimp [hf, c16, c17, c18, c19]
              refine thenQ_n ?_
              cases hm
              refine EE.here ?_
              simp -dsimp [hf]

        · rcases bifE hm with ⟨c22, hm⟩ | ⟨c22, hm⟩
          · rcases bifE hm with ⟨c23, hm⟩ | ⟨c23, hm⟩
            · simp -dsimp [hf, c16, c17, c22, c23]
              refine thenQ_n ?_
              cases hm
              refine EE.here ?_
              simp -dsimp [hf]

            · obtain ⟨x2, h24, hm⟩ := bnd hm
              simp -dsimp [hf, c16, c17, c22, c23, h24]
              refine thenQ_n ?_
              cases hm
              refine EE.here ?_
              simp -dsimp [hf]

          · simp -dsimp [hf, c16, c17, c22]
            refine thenQ_n ?_
            cases hm
            refine EE.here ?_
            simp -dsimp [hf]

    · clear j26
      simp only [Fits, FitE, FitS, and_true] at hf
      rcases bifE hm with ⟨c25, hm⟩ | ⟨c25, hm⟩
      · refine sw_cond_t (b := a4) (by simp -dsimp [hf]) c25 ?_
        refine sw_regs tb_ok (by rw [hn]; kernel_rfl) ?_
        simp -dsimp
        refine swp_ret ?_
        refine blk_r ?_
        refine then_x ?_
        cases hm
        refine rd_out nofun ?_
        unfold F_tree_Right_2
        dsimp only
        refine ⟨rfl, ?_⟩
        refine EE.here ?_
        simp -dsimp [Tryz.results46]

      · refine sw_cond_f (b := a4) (by simp -dsimp [hf]) c25 ?_
        refine swp_skip ?_
        refine blk_n ?_
        refine thenQ_n ?_
        refine sw_reg tb_ok (by rw [hn]; kernel_rfl) ?_
        simp -dsimp [hf]
        cases hm
        refine rd_next ?_
        refine EE.here ?_
        simp -dsimp [hf]

  · refine sw_cond_f (b := (ltB a3 (lenL x.Next))) (by simp -dsimp) c14 ?_
    refine swp_exit ?_
    refine then_x ?_
    cases hm
    refine rd_out nofun ?_
    unfold F_tree_Right_2
    dsimp only
    refine ⟨rfl, ?_⟩
    refine EE.here ?_
    simp -dsimp [hf, c14]

def F_tree_Right_1 (cx : Cx) (_t : Tree) (tt : Bool ⊕ Unit) (ee : Exit) (ρ : Env) (σ : Sto) : Prop := match tt with
  | .inl r => ee = .ret ∧ EE cx (fun ρ σ => ∃ v, resV tb ρ σ Tryz.f46.results.toList = some v ∧ (v.frz σ).free = true ∧ (v.frz σ).wk (.u (.one (.d (.bool r))))) ρ σ
  | .inr _u => ee = .exit 0 ∧ EE cx (FitsW [] []) ρ σ
theorem l_tree_Right_1 (cx : Cx) (hn : cx.n = 117) (t : Tree) {fu : Nat} {stt : Int} {tt : Bool ⊕ Unit} (hh : loopN (b_tree_Right_1 t) fu stt = some tt) {ρ : Env} {σ : Sto}
    (hE : Fits ((fun a1 : Int => [(1, .u (.one (.box 1 0))), (47, .u (.one (.d (.sl 2 (List.map Node.row t.Nodes))))), (48, .u (.one (.d (.int .i64 (lenL t.Nodes))))), (49, .u (.one (.d (.int .i64 a1))))]) stt) ((fun _a1 : Int => [(1, .box [.d (.int .i64 t.States), .d (.sl 2 (List.map Point.row t.Hood)), .d (.sl 2 (List.map Node.row t.Nodes))])]) stt) ρ σ) : Swp Tryz.prog cx (.loop (csub [1, 1, 1, 0, 1, 0, 0] (bodyOf Tryz.f46))) ρ σ (F_tree_Right_1 cx t tt) := by
  refine loop_model (fun a1 : Int => [(1, .u (.one (.box 1 0))), (47, .u (.one (.d (.sl 2 (List.map Node.row t.Nodes))))), (48, .u (.one (.d (.int .i64 (lenL t.Nodes))))), (49, .u (.one (.d (.int .i64 a1))))]) (fun a1 : Int => [(1, .box [.d (.int .i64 t.States), .d (.sl 2 (List.map Point.row t.Hood)), .d (.sl 2 (List.map Node.row t.Nodes))])]) (F_tree_Right_1 cx t) (b_tree_Right_1 t) (fun a1 => by rfl) (fun a1 => by rfl) ?_ hh hE
  rintro a1 r hm ρ σ hf
  simp only [Fits, FitE, FitS, and_true] at hf
  unfold b_tree_Right_1 at hm
  dsimp only at hm
  refine sw_regs tb_ok (by rw [hn]; kernel_rfl) ?_
  simp -dsimp [hf]
  refine sw_seq ?_
  rcases bifE hm with ⟨c9, hm⟩ | ⟨c9, hm⟩
  · refine sw_cond_t (b := (ltB a1 (lenL t.Nodes))) (by simp -dsimp) c9 ?_
    refine swp_skip ?_
    refine thenQ_n ?_
    refine sw_seq ?_
    refine sw_block ?_
    refine sw_regs tb_ok (by rw [hn]; kernel_rfl) ?_
    obtain ⟨x, h10, hm⟩ := bnd hm
    simp -dsimp [hf, c9, h10]
    refine sw_seq ?_
    obtain ⟨a2, j29, hm⟩ := bnd hm
    refine sw_cutE [(1, .u (.one (.box 1 0))), (4, .u (.one (.d (.int .i64 a1)))), (5, .u (.one (.box 5 0))), (47, .u (.one (.d (.sl 2 (List.map Node.row t.Nodes))))), (48, .u (.one (.d (.int .i64 (lenL t.Nodes))))), (49, .u (.one (.d (.int .i64 a1)))), (72, .u (.one (.d (.bool a2))))] [(1, .box [.d (.int .i64 t.States), .d (.sl 2 (List.map Point.row t.Hood)), .d (.sl 2 (List.map Node.row t.Nodes))]), (5, .box [.d (.int .i64 x.Level), .d (.sl 1 (List.map (rI .i64) x.Next))])] (by rfl) (by rfl) ?_ fun ρ σ hf => ?_
    · replace hm := j29
      clear j29
      refine sw_reg tb_ok (by rw [hn]; kernel_rfl) ?_
      rcases bifE hm with ⟨c11, hm⟩ | ⟨c11, hm⟩
      · simp -dsimp [c11]
        refine thenQ_n ?_
        cases hm
        refine EE.here ?_
        simp -dsimp [hf]

      · rcases bifE hm with ⟨c12, hm⟩ | ⟨c12, hm⟩
        · simp -dsimp [hf, c11, c12]
          refine thenQ_n ?_
          cases hm
          refine EE.here ?_
          simp -dsimp [hf]

        · simp -dsimp [hf, c11, c12]
          refine thenQ_n ?_
          cases hm
          refine EE.here ?_
          simp -dsimp [hf]

    · clear j29
      simp only [Fits, FitE, FitS, and_true] at hf
      rcases bifE hm with ⟨c13, hm⟩ | ⟨c13, hm⟩
      · refine sw_cond_t (b := a2) (by simp -dsimp [hf]) c13 ?_
        refine sw_regs tb_ok (by rw [hn]; kernel_rfl) ?_
        simp -dsimp
        refine swp_ret ?_
        refine then_x ?_
        refine blk_r ?_
        refine then_x ?_
        cases hm
        refine rd_out nofun ?_
        unfold F_tree_Right_1
        dsimp only
        refine ⟨rfl, ?_⟩
        refine EE.here ?_
        simp -dsimp [Tryz.results46]

      · refine sw_cond_f (b := a2) (by simp -dsimp [hf]) c13 ?_
        refine swp_skip ?_
        refine thenQ_n ?_
        refine sw_regs tb_ok (by rw [hn]; kernel_rfl) ?_
        simp -dsimp [hf]
        refine sw_block ?_
        obtain ⟨o_, g27, hm⟩ := bnd hm
        refine sw_ent [(1, .u (.one (.box 1 0))), (4, .u (.one (.d (.int .i64 a1)))), (5, .u (.one (.box 5 0))), (47, .u (.one (.d (.sl 2 (List.map Node.row t.Nodes))))), (48, .u (.one (.d (.int .i64 (lenL t.Nodes))))), (49, .u (.one (.d (.int .i64 a1)))), (74, .u (.one (.d (.sl 1 (List.map (rI .i64) x.Next))))), (75, .u (.one (.d (.int .i64 (lenL x.Next))))), (76, .u (.one (.d (.int .i64 0))))] [(1, .box [.d (.int .i64 t.States), .d (.sl 2 (List.map Point.row t.Hood)), .d (.sl 2 (List.map Node.row t.Nodes))]), (5, .box [.d (.int .i64 x.Level), .d (.sl 1 (List.map (rI .i64) x.Next))])] (by rfl) (by rfl) (by
            refine EE.here ?_
            simp -dsimp [hf]
        ) fun ρ σ hf => ?_
        refine (l_tree_Right_2 cx hn t a1 x g27 hf).mono fun ee ρ σ x28 => ?_
        rcases o_ with r | _u
        · unfold F_tree_Right_2 at x28
          dsimp only at x28
          obtain ⟨rfl, x28⟩ := x28
          refine blk_r ?_
          refine blk_r ?_
          refine then_x ?_
          cases hm
          refine rd_out nofun ?_
          unfold F_tree_Right_1
          dsimp only
          refine ⟨rfl, ?_⟩
          exact x28

        · unfold F_tree_Right_2 at x28
          dsimp only at x28
          obtain ⟨rfl, x28⟩ := x28
          refine blk_exit ?_
          refine blk_n ?_
          refine thenQ_n ?_
          refine sw_ee (by rfl) (by rfl) x28 fun ρ σ hf => ?_
          simp only [Fits, FitE, FitS, and_true] at hf
          refine sw_reg tb_ok (by rw [hn]; kernel_rfl) ?_
          simp -dsimp [hf]
          cases hm
          refine rd_next ?_
          refine EE.here ?_
          simp -dsimp [hf]

  · refine sw_cond_f (b := (ltB a1 (lenL t.Nodes))) (by simp -dsimp) c9 ?_
    refine swp_exit ?_
    refine then_x ?_
    cases hm
    refine rd_out nofun ?_
    unfold F_tree_Right_1
    dsimp only
    refine ⟨rfl, ?_⟩
    refine EE.here ?_
    simp -dsimp [c9]

theorem f_tree_Right (t : Tree) (r : Bool) (hm : m_tree_Right t = some r) : PFn Tryz.prog 46 [.u (.agg [.d (.int .i64 t.States), .d (.sl 2 (List.map Point.row t.Hood)), .d (.sl 2 (List.map Node.row t.Nodes))])] (fun v => v.wk (.u (.one (.d (.bool r))))) := by
  refine pfn_E tb_ok _ Tryz.func46 rfl (by kernel_rfl) (by simp [Tryz.ntmps46]) fun cx hn => ?_
  replace hn : cx.n = 117 := hn.trans Tryz.ntmps46
  unfold m_tree_Right at hm
  refine sw_regs tb_ok (by rw [hn]; kernel_rfl) ?_
  simp -dsimp []
  refine sw_regs tb_ok (by rw [hn]; kernel_rfl) ?_
  simp -dsimp []
  refine sw_seq ?_
  obtain ⟨a, j32, hm⟩ := bnd hm
  refine sw_cutE [(1, .u (.one (.box 1 0))), (45, .u (.one (.d (.bool a))))] [(1, .box [.d (.int .i64 t.States), .d (.sl 2 (List.map Point.row t.Hood)), .d (.sl 2 (List.map Node.row t.Nodes))])] (by rfl) (by rfl) ?_ fun ρ σ hf => ?_
  · replace hm := j32
    clear j32
    refine sw_qt tb_ok mixed (by rw [hn]; kernel_rfl) ?_
    rcases bifE hm with ⟨c1, hm⟩ | ⟨c1, hm⟩
    · simp -dsimp [c1]
      refine thenQ_n ?_
      cases hm
      refine EE.here ?_
      simp -dsimp

    · rcases bifE hm with ⟨c2, hm⟩ | ⟨c2, hm⟩
      · simp -dsimp [c1, c2]
        refine thenQ_n ?_
        cases hm
        refine EE.here ?_
        simp -dsimp

      · obtain ⟨y, h3, hm⟩ := bnd hm
        simp -dsimp [c1, c2]
        refine qcallL_pure (c_hood_Right t.Hood y h3) ?_
        rcases bifE hm with ⟨c4, hm⟩ | ⟨c4, hm⟩
        · simp -dsimp [c4]
          refine thenQ_n ?_
          cases hm
          refine EE.here ?_
          simp -dsimp

        · rcases bifE hm with ⟨c5, hm⟩ | ⟨c5, hm⟩
          · simp -dsimp [c4, c5]
            refine thenQ_n ?_
            cases hm
            refine EE.here ?_
            simp -dsimp

          · rcases bifE hm with ⟨c6, hm⟩ | ⟨c6, hm⟩
            · simp -dsimp [c4, c5, c6]
              refine thenQ_n ?_
              cases hm
              refine EE.here ?_
              simp -dsimp

            · obtain ⟨x, h7, hm⟩ := bnd hm
              simp -dsimp [c4, c5, c6, h7]
              refine thenQ_n ?_
              cases hm
              refine EE.here ?_
              simp -dsimp

  · clear j32
    simp only [Fits, FitE, FitS, and_true] at hf
    rcases bifE hm with ⟨c8, hm⟩ | ⟨c8, hm⟩
    · refine sw_cond_t (b := a) (by simp -dsimp [hf]) c8 ?_
      refine sw_regs tb_ok (by rw [hn]; kernel_rfl) ?_
      simp -dsimp
      refine swp_ret ?_
      refine then_x ?_
      cases hm
      refine ⟨.inr rfl, ?_⟩
      refine EE.here ?_
      simp -dsimp

    · refine sw_cond_f (b := a) (by simp -dsimp [hf]) c8 ?_
      refine swp_skip ?_
      refine thenQ_n ?_
      refine sw_seq ?_
      refine sw_regs tb_ok (by rw [hn]; kernel_rfl) ?_
      simp -dsimp [hf]
      refine sw_block ?_
      obtain ⟨o_, g30, hm⟩ := bnd hm
      refine sw_ent [(1, .u (.one (.box 1 0))), (47, .u (.one (.d (.sl 2 (List.map Node.row t.Nodes))))), (48, .u (.one (.d (.int .i64 (lenL t.Nodes))))), (49, .u (.one (.d (.int .i64 0))))] [(1, .box [.d (.int .i64 t.States), .d (.sl 2 (List.map Point.row t.Hood)), .d (.sl 2 (List.map Node.row t.Nodes))])] (by rfl) (by rfl) (by
          refine EE.here ?_
          simp -dsimp [hf]
      ) fun ρ σ hf => ?_
      refine (l_tree_Right_1 cx hn t g30 hf).mono fun ee ρ σ x31 => ?_
      rcases o_ with r | _u
      · unfold F_tree_Right_1 at x31
        dsimp only at x31
        obtain ⟨rfl, x31⟩ := x31
        refine blk_r ?_
        refine then_x ?_
        cases hm
        exact ⟨.inr rfl, x31⟩

      · unfold F_tree_Right_1 at x31
        dsimp only at x31
        obtain ⟨rfl, x31⟩ := x31
        refine blk_exit ?_
        refine thenQ_n ?_
        refine sw_ee (by rfl) (by rfl) x31 fun ρ σ hf => ?_
        simp only [Fits, FitE, FitS, and_true] at hf
        refine sw_regs tb_ok (by rw [hn]; kernel_rfl) ?_
        simp -dsimp
        refine swp_ret ?_
        cases hm
        refine ⟨.inr rfl, ?_⟩
        refine EE.here ?_
        simp -dsimp

theorem c_tree_Right (t : Tree) (r : Bool) (hm : m_tree_Right t = some r) : PureCall Tryz.prog 46 [.u (.agg [.d (.int .i64 t.States), .d (.sl 2 (List.map Point.row t.Hood)), .d (.sl 2 (List.map Node.row t.Nodes))])] (.u (.one (.d (.bool r)))) := (f_tree_Right t r hm).pureW
def F_tree_value_1 (cx : Cx) (_t : Tree) (_in_ : List Int) (tt : Int) (ee : Exit) (ρ : Env) (σ : Sto) : Prop := match tt with
  | k => ee = .exit 0 ∧ EE cx (FitsW [(5, .u (.one (.d (.int .i64 k))))] []) ρ σ
theorem l_tree_value_1 (cx : Cx) (hn : cx.n = 29) (t : Tree) (in_ : List Int) {fu : Nat} {stt : Int × Int} {tt : Int} (hh : loopN (b_tree_value_1 t in_) fu stt = some tt) {ρ : Env} {σ : Sto}
    (hE : Fits ((fun stt : Int × Int => match stt with | (k, a) => [(2, .u (.one (.box 2 0))), (5, .u (.one (.d (.int .i64 k)))), (12, .u (.one (.d (.sl 1 (List.map (rI .i64) in_))))), (13, .u (.one (.d (.int .i64 (lenL in_))))), (14, .u (.one (.d (.int .i64 a))))]) stt) ((fun stt : Int × Int => match stt with | (_k, _a) => [(2, .box [.d (.int .i64 t.States), .d (.sl 2 (List.map Point.row t.Hood)), .d (.sl 2 (List.map Node.row t.Nodes))])]) stt) ρ σ) : Swp Tryz.prog cx (.loop (csub [1, 1, 0, 1, 0, 0] (bodyOf Tryz.f146))) ρ σ (F_tree_value_1 cx t in_ tt) := by
  refine loop_model (fun stt : Int × Int => match stt with | (k, a) => [(2, .u (.one (.box 2 0))), (5, .u (.one (.d (.int .i64 k)))), (12, .u (.one (.d (.sl 1 (List.map (rI .i64) in_))))), (13, .u (.one (.d (.int .i64 (lenL in_))))), (14, .u (.one (.d (.int .i64 a))))]) (fun stt : Int × Int => match stt with | (k, a) => [(2, .box [.d (.int .i64 t.States), .d (.sl 2 (List.map Point.row t.Hood)), .d (.sl 2 (List.map Node.row t.Nodes))])]) (F_tree_value_1 cx t in_) (b_tree_value_1 t in_) (fun _ => by rfl) (fun _ => by rfl) ?_ hh hE
  rintro ⟨k, a⟩ r hm ρ σ hf
  simp only [Fits, FitE, FitS, and_true] at hf
  unfold b_tree_value_1 at hm
  dsimp only at hm
  refine sw_regs tb_ok (by rw [hn]; kernel_rfl) ?_
  simp -dsimp [hf]
  refine sw_seq ?_
  rcases bifE hm with ⟨c1, hm⟩ | ⟨c1, hm⟩
  · refine sw_cond_t (b := (ltB a (lenL in_))) (by simp -dsimp) c1 ?_
    refine swp_skip ?_
    refine thenQ_n ?_
    refine sw_seq ?_
    refine sw_block ?_
    refine sw_regs tb_ok (by rw [hn]; kernel_rfl) ?_
    obtain ⟨x, h2, hm⟩ := bnd hm
    simp -dsimp [hf, c1, h2]
    refine sw_reg tb_ok (by rw [hn]; kernel_rfl) ?_
    obtain ⟨x1, h3, hm⟩ := bnd hm
    obtain ⟨x2, h4, hm⟩ := bnd hm
    simp -dsimp [hf, h3, h4]
    refine blk_n ?_
    refine thenQ_n ?_
    refine sw_reg tb_ok (by rw [hn]; kernel_rfl) ?_
    simp -dsimp [hf]
    cases hm
    refine rd_next ?_
    refine EE.here ?_
    simp -dsimp [hf]

  · refine sw_cond_f (b := (ltB a (lenL in_))) (by simp -dsimp) c1 ?_
    refine swp_exit ?_
    refine then_x ?_
    cases hm
    refine rd_out nofun ?_
    unfold F_tree_value_1
    dsimp only
    refine ⟨rfl, ?_⟩
    refine EE.here ?_
    simp -dsimp [hf, c1]

theorem f_tree_value (t : Tree) (in_ : List Int) (r : Int) (hm : m_tree_value t in_ = some r) : PFn Tryz.prog 146 [.u (.agg [.d (.int .i64 t.States), .d (.sl 2 (List.map Point.row t.Hood)), .d (.sl 2 (List.map Node.row t.Nodes))]), .u (.one (.d (.sl 1 (List.map (rI .i64) in_))))] (fun v => v.wk (.u (.one (.d (.int .i64 r))))) := by
  refine pfn_E tb_ok _ Tryz.func146 rfl (by kernel_rfl) (by simp [Tryz.ntmps146]) fun cx hn => ?_
  replace hn : cx.n = 29 := hn.trans Tryz.ntmps146
  unfold m_tree_value at hm
  refine sw_regs tb_ok (by rw [hn]; kernel_rfl) ?_
  simp -dsimp []
  refine sw_regs tb_ok (by rw [hn]; kernel_rfl) ?_
  simp -dsimp []
  refine sw_seq ?_
  refine sw_regs tb_ok (by rw [hn]; kernel_rfl) ?_
  simp -dsimp []
  refine sw_block ?_
  obtain ⟨k, g5, hm⟩ := bnd hm
  refine sw_ent [(2, .u (.one (.box 2 0))), (5, .u (.one (.d (.int .i64 (isub .i64 (lenL t.Nodes) 1))))), (12, .u (.one (.d (.sl 1 (List.map (rI .i64) in_))))), (13, .u (.one (.d (.int .i64 (lenL in_))))), (14, .u (.one (.d (.int .i64 0))))] [(2, .box [.d (.int .i64 t.States), .d (.sl 2 (List.map Point.row t.Hood)), .d (.sl 2 (List.map Node.row t.Nodes))])] (by rfl) (by rfl) (by
      refine EE.here ?_
      simp -dsimp []
  ) fun ρ σ hf => ?_
  refine (l_tree_value_1 cx hn t in_ g5 hf).mono fun ee ρ σ x6 => ?_
  unfold F_tree_value_1 at x6
  dsimp only at x6
  obtain ⟨rfl, x6⟩ := x6
  refine blk_exit ?_
  refine thenQ_n ?_
  refine sw_ee (by rfl) (by rfl) x6 fun ρ σ hf => ?_
  simp only [Fits, FitE, FitS, and_true] at hf
  refine sw_regs tb_ok (by rw [hn]; kernel_rfl) ?_
  simp -dsimp [hf]
  refine swp_ret ?_
  cases hm
  refine ⟨.inr rfl, ?_⟩
  refine EE.here ?_
  simp -dsimp

theorem c_tree_value (t : Tree) (in_ : List Int) (r : Int) (hm : m_tree_value t in_ = some r) : PureCall Tryz.prog 146 [.u (.agg [.d (.int .i64 t.States), .d (.sl 2 (List.map Point.row t.Hood)), .d (.sl 2 (List.map Node.row t.Nodes))]), .u (.one (.d (.sl 1 (List.map (rI .i64) in_))))] (.u (.one (.d (.int .i64 r)))) := (f_tree_value t in_ r hm).pureW
end Go.Proofs.YtgfhhbjnjccomaaGreatDoor
