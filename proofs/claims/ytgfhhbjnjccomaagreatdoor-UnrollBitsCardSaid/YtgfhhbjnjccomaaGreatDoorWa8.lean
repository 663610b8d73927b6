/-
  That the code does what the functions say (made by cc.py).
-/
import Derived.Test.YtgfhhbjnjccomaaGreatDoorMd1
import Derived.Test.YtgfhhbjnjccomaaGreatDoorTb
import Derived.Test.YtgfhhbjnjccomaaGreatDoorWa7
namespace Go.Proofs.YtgfhhbjnjccomaaGreatDoor
open Go.AM Go.Proofs
def F_R12_Right_2 (cx : Cx) (t : Tree) (i : Int) (_x : Node) (tt : Bool ⊕ Unit) (ee : Exit) (ρ : Env) (σ : Sto) : Prop := match tt with
  | .inl r => ee = .ret ∧ EE cx (fun ρ σ => ∃ v, resV tb ρ σ Tryz.f95.results.toList = some v ∧ (v.frz σ).free = true ∧ (v.frz σ).wk (.u (.one (.d (.bool r))))) ρ σ
  | .inr _u => ee = .exit 2 ∧ EE cx (FitsW [(1, .u (.one (.box 1 0))), (3, .u (.one (.d (.int .i64 (lenL t.Nodes))))), (4, .u (.one (.d (.int .i64 i))))] [(1, .box [.d (.int .i64 t.States), .d (.sl 2 (List.map Point.row t.Hood)), .d (.sl 2 (List.map Node.row t.Nodes))])]) ρ σ
theorem l_R12_Right_2 (cx : Cx) (hn : cx.n = 115) (t : Tree) (i : Int) (x : Node) {fu : Nat} {stt : Int} {tt : Bool ⊕ Unit} (hh : loopN (b_R12_Right_2 t i x) fu stt = some tt) {ρ : Env} {σ : Sto}
    (hE : Fits ((fun s : Int => [(1, .u (.one (.box 1 0))), (3, .u (.one (.d (.int .i64 (lenL t.Nodes))))), (4, .u (.one (.d (.int .i64 i)))), (5, .u (.one (.box 5 0))), (6, .u (.one (.d (.int .i64 s))))]) stt) ((fun _s : Int => [(1, .box [.d (.int .i64 t.States), .d (.sl 2 (List.map Point.row t.Hood)), .d (.sl 2 (List.map Node.row t.Nodes))]), (5, .box [.d (.int .i64 x.Level), .d (.sl 1 (List.map (rI .i64) x.Next))])]) stt) ρ σ) : Swp Tryz.prog cx (.loop (csub [1, 1, 1, 0, 1, 0, 0, 1, 0, 0, 1, 1, 1, 0, 0] (bodyOf Tryz.f95))) ρ σ (F_R12_Right_2 cx t i x tt) := by
  refine loop_model (fun s : Int => [(1, .u (.one (.box 1 0))), (3, .u (.one (.d (.int .i64 (lenL t.Nodes))))), (4, .u (.one (.d (.int .i64 i)))), (5, .u (.one (.box 5 0))), (6, .u (.one (.d (.int .i64 s))))]) (fun s : Int => [(1, .box [.d (.int .i64 t.States), .d (.sl 2 (List.map Point.row t.Hood)), .d (.sl 2 (List.map Node.row t.Nodes))]), (5, .box [.d (.int .i64 x.Level), .d (.sl 1 (List.map (rI .i64) x.Next))])]) (F_R12_Right_2 cx t i x) (b_R12_Right_2 t i x) (fun s => by rfl) (fun s => by rfl) ?_ hh hE
  rintro s r hm ρ σ hf
  simp only [Fits, FitE, FitS, and_true] at hf
  unfold b_R12_Right_2 at hm
  dsimp only at hm
  refine sw_seq ?_
  refine sw_regs tb_ok (by rw [hn]; kernel_rfl) ?_
  simp -dsimp [hf]
  rcases bifE hm with ⟨c12, hm⟩ | ⟨c12, hm⟩
  · refine sw_cond_t (b := (ltB s t.States)) (by simp -dsimp) c12 ?_
    refine swp_skip ?_
    refine thenQ_n ?_
    refine sw_seq ?_
    refine sw_block ?_
    refine sw_regs tb_ok (by rw [hn]; kernel_rfl) ?_
    obtain ⟨x1, h13, hm⟩ := bnd hm
    simp -dsimp [hf, c12, h13]
    refine sw_seq ?_
    refine sw_regs tb_ok (by rw [hn]; kernel_rfl) ?_
    simp -dsimp
    rcases bifE hm with ⟨c14, hm⟩ | ⟨c14, hm⟩
    · refine sw_cond_t (b := (ltB x1 0)) (by simp -dsimp) c14 ?_
      refine sw_regs tb_ok (by rw [hn]; kernel_rfl) ?_
      simp -dsimp [c14]
      refine swp_ret ?_
      refine then_x ?_
      refine blk_r ?_
      refine then_x ?_
      cases hm
      refine rd_out nofun ?_
      unfold F_R12_Right_2
      dsimp only
      refine ⟨rfl, ?_⟩
      refine EE.here ?_
      simp -dsimp [Tryz.results95]

    · refine sw_cond_f (b := (ltB x1 0)) (by simp -dsimp) c14 ?_
      refine swp_skip ?_
      refine thenQ_n ?_
      refine sw_seq ?_
      obtain ⟨a2, j22, hm⟩ := bnd hm
      refine sw_cutE [(1, .u (.one (.box 1 0))), (3, .u (.one (.d (.int .i64 (lenL t.Nodes))))), (4, .u (.one (.d (.int .i64 i)))), (5, .u (.one (.box 5 0))), (6, .u (.one (.d (.int .i64 s)))), (7, .u (.one (.d (.int .i64 x1)))), (83, .u (.one (.d (.bool a2))))] [(1, .box [.d (.int .i64 t.States), .d (.sl 2 (List.map Point.row t.Hood)), .d (.sl 2 (List.map Node.row t.Nodes))]), (5, .box [.d (.int .i64 x.Level), .d (.sl 1 (List.map (rI .i64) x.Next))])] (by rfl) (by rfl) ?_ fun ρ σ hf => ?_
      · replace hm := j22
        clear j22
        refine sw_reg tb_ok (by rw [hn]; kernel_rfl) ?_
        rcases bifE hm with ⟨c15, hm⟩ | ⟨c15, hm⟩
        · simp -dsimp [hf, c14, c15]
          refine thenQ_n ?_
          cases hm
          refine EE.here ?_
          simp -dsimp [hf]

        · simp -dsimp [hf, c14, c15]
          refine thenQ_n ?_
          cases hm
          refine EE.here ?_
          simp -dsimp [hf]

      · clear j22
        simp only [Fits, FitE, FitS, and_true] at hf
        rcases bifE hm with ⟨c16, hm⟩ | ⟨c16, hm⟩
        · refine sw_cond_t (b := a2) (by simp -dsimp [hf]) c16 ?_
          refine sw_regs tb_ok (by rw [hn]; kernel_rfl) ?_
          simp -dsimp
          refine swp_ret ?_
          refine then_x ?_
          refine blk_r ?_
          refine then_x ?_
          cases hm
          refine rd_out nofun ?_
          unfold F_R12_Right_2
          dsimp only
          refine ⟨rfl, ?_⟩
          refine EE.here ?_
          simp -dsimp [Tryz.results95]

        · refine sw_cond_f (b := a2) (by simp -dsimp [hf]) c16 ?_
          refine swp_skip ?_
          refine thenQ_n ?_
          obtain ⟨a3, j21, hm⟩ := bnd hm
          refine sw_cutE [(1, .u (.one (.box 1 0))), (3, .u (.one (.d (.int .i64 (lenL t.Nodes))))), (4, .u (.one (.d (.int .i64 i)))), (5, .u (.one (.box 5 0))), (6, .u (.one (.d (.int .i64 s)))), (103, .u (.one (.d (.bool a3))))] [(1, .box [.d (.int .i64 t.States), .d (.sl 2 (List.map Point.row t.Hood)), .d (.sl 2 (List.map Node.row t.Nodes))]), (5, .box [.d (.int .i64 x.Level), .d (.sl 1 (List.map (rI .i64) x.Next))])] (by rfl) (by rfl) ?_ fun ρ σ hf => ?_
          · replace hm := j21
            clear j21
            refine sw_qt tb_ok mixed (by rw [hn]; kernel_rfl) ?_
            rcases bifE hm with ⟨c17, hm⟩ | ⟨c17, hm⟩
            · rcases bifE hm with ⟨c18, hm⟩ | ⟨c18, hm⟩
              · simp -dsimp [hf, c17, c18]
                refine thenQ_n ?_
                cases hm
                refine EE.here ?_
                simp -dsimp [hf]

              · obtain ⟨x2, h19, hm⟩ := bnd hm
                simp -dsimp [hf, c17, c18, h19]
                refine thenQ_n ?_
                cases hm
                refine EE.here ?_
                simp -dsimp [hf]

            · simp -dsimp [hf, c17]
              refine thenQ_n ?_
              cases hm
              refine EE.here ?_
              simp -dsimp [hf]

          · clear j21
            simp only [Fits, FitE, FitS, and_true] at hf
            rcases bifE hm with ⟨c20, hm⟩ | ⟨c20, hm⟩
            · refine sw_cond_t (b := a3) (by simp -dsimp [hf]) c20 ?_
              refine sw_regs tb_ok (by rw [hn]; kernel_rfl) ?_
              simp -dsimp
              refine swp_ret ?_
              refine blk_r ?_
              refine then_x ?_
              cases hm
              refine rd_out nofun ?_
              unfold F_R12_Right_2
              dsimp only
              refine ⟨rfl, ?_⟩
              refine EE.here ?_
              simp -dsimp [Tryz.results95]

            · refine sw_cond_f (b := a3) (by simp -dsimp [hf]) c20 ?_
              refine swp_skip ?_
              refine blk_n ?_
              refine thenQ_n ?_
              refine sw_reg tb_ok (by rw [hn]; kernel_rfl) ?_
              simp -dsimp [hf]
              cases hm
              refine rd_next ?_
              refine EE.here ?_
              simp -dsimp [hf]

  · refine sw_cond_f (b := (ltB s t.States)) (by simp -dsimp) c12 ?_
    refine swp_exit ?_
    refine then_x ?_
    cases hm
    refine rd_out nofun ?_
    unfold F_R12_Right_2
    dsimp only
    refine ⟨rfl, ?_⟩
    refine EE.here ?_
    simp -dsimp [hf, c12]

def F_R12_Right_1 (cx : Cx) (t : Tree) (tt : Bool ⊕ Unit) (ee : Exit) (ρ : Env) (σ : Sto) : Prop := match tt with
  | .inl r => ee = .ret ∧ EE cx (fun ρ σ => ∃ v, resV tb ρ σ Tryz.f95.results.toList = some v ∧ (v.frz σ).free = true ∧ (v.frz σ).wk (.u (.one (.d (.bool r))))) ρ σ
  | .inr _u => ee = .exit 0 ∧ EE cx (FitsW [(1, .u (.one (.box 1 0))), (3, .u (.one (.d (.int .i64 (lenL t.Nodes)))))] [(1, .box [.d (.int .i64 t.States), .d (.sl 2 (List.map Point.row t.Hood)), .d (.sl 2 (List.map Node.row t.Nodes))])]) ρ σ
theorem l_R12_Right_1 (cx : Cx) (hn : cx.n = 115) (t : Tree) {fu : Nat} {stt : Int} {tt : Bool ⊕ Unit} (hh : loopN (b_R12_Right_1 t) fu stt = some tt) {ρ : Env} {σ : Sto}
    (hE : Fits ((fun i : Int => [(1, .u (.one (.box 1 0))), (3, .u (.one (.d (.int .i64 (lenL t.Nodes))))), (4, .u (.one (.d (.int .i64 i))))]) stt) ((fun _i : Int => [(1, .box [.d (.int .i64 t.States), .d (.sl 2 (List.map Point.row t.Hood)), .d (.sl 2 (List.map Node.row t.Nodes))])]) stt) ρ σ) : Swp Tryz.prog cx (.loop (csub [1, 1, 1, 0, 1, 0, 0] (bodyOf Tryz.f95))) ρ σ (F_R12_Right_1 cx t tt) := by
  refine loop_model (fun i : Int => [(1, .u (.one (.box 1 0))), (3, .u (.one (.d (.int .i64 (lenL t.Nodes))))), (4, .u (.one (.d (.int .i64 i))))]) (fun i : Int => [(1, .box [.d (.int .i64 t.States), .d (.sl 2 (List.map Point.row t.Hood)), .d (.sl 2 (List.map Node.row t.Nodes))])]) (F_R12_Right_1 cx t) (b_R12_Right_1 t) (fun i => by rfl) (fun i => by rfl) ?_ hh hE
  rintro i r hm ρ σ hf
  simp only [Fits, FitE, FitS, and_true] at hf
  unfold b_R12_Right_1 at hm
  dsimp only at hm
  refine sw_seq ?_
  refine sw_regs tb_ok (by rw [hn]; kernel_rfl) ?_
  simp -dsimp [hf]
  rcases bifE hm with ⟨c7, hm⟩ | ⟨c7, hm⟩
  · refine sw_cond_t (b := (ltB i (lenL t.Nodes))) (by simp -dsimp) c7 ?_
    refine swp_skip ?_
    refine thenQ_n ?_
    refine sw_seq ?_
    refine sw_block ?_
    refine sw_regs tb_ok (by rw [hn]; kernel_rfl) ?_
    obtain ⟨x, h8, hm⟩ := bnd hm
    simp -dsimp [hf, c7, h8]
    refine sw_seq ?_
    obtain ⟨a1, j25, hm⟩ := bnd hm
    refine sw_cutE [(1, .u (.one (.box 1 0))), (3, .u (.one (.d (.int .i64 (lenL t.Nodes))))), (4, .u (.one (.d (.int .i64 i)))), (5, .u (.one (.box 5 0))), (61, .u (.one (.d (.bool a1))))] [(1, .box [.d (.int .i64 t.States), .d (.sl 2 (List.map Point.row t.Hood)), .d (.sl 2 (List.map Node.row t.Nodes))]), (5, .box [.d (.int .i64 x.Level), .d (.sl 1 (List.map (rI .i64) x.Next))])] (by rfl) (by rfl) ?_ fun ρ σ hf => ?_
    · replace hm := j25
      clear j25
      refine sw_reg tb_ok (by rw [hn]; kernel_rfl) ?_
      rcases bifE hm with ⟨c9, hm⟩ | ⟨c9, hm⟩
      · simp -dsimp [c9]
        refine thenQ_n ?_
        cases hm
        refine EE.here ?_
        simp -dsimp [hf]

      · rcases bifE hm with ⟨c10, hm⟩ | ⟨c10, hm⟩
        · simp -dsimp [hf, c9, c10]
          refine thenQ_n ?_
          cases hm
          refine EE.here ?_
          simp -dsimp [hf]

        · simp -dsimp [hf, c9, c10]
          refine thenQ_n ?_
          cases hm
          refine EE.here ?_
          simp -dsimp [hf]

    · clear j25
      simp only [Fits, FitE, FitS, and_true] at hf
      rcases bifE hm with ⟨c11, hm⟩ | ⟨c11, hm⟩
      · refine sw_cond_t (b := a1) (by simp -dsimp [hf]) c11 ?_
        refine sw_regs tb_ok (by rw [hn]; kernel_rfl) ?_
        simp -dsimp
        refine swp_ret ?_
        refine then_x ?_
        refine blk_r ?_
        refine then_x ?_
        cases hm
        refine rd_out nofun ?_
        unfold F_R12_Right_1
        dsimp only
        refine ⟨rfl, ?_⟩
        refine EE.here ?_
        simp -dsimp [Tryz.results95]

      · refine sw_cond_f (b := a1) (by simp -dsimp [hf]) c11 ?_
        refine swp_skip ?_
        refine thenQ_n ?_
        refine sw_regs tb_ok (by rw [hn]; kernel_rfl) ?_
        simp -dsimp
        refine sw_block ?_
        obtain ⟨o_, g23, hm⟩ := bnd hm
        refine sw_ent [(1, .u (.one (.box 1 0))), (3, .u (.one (.d (.int .i64 (lenL t.Nodes))))), (4, .u (.one (.d (.int .i64 i)))), (5, .u (.one (.box 5 0))), (6, .u (.one (.d (.int .i64 0))))] [(1, .box [.d (.int .i64 t.States), .d (.sl 2 (List.map Point.row t.Hood)), .d (.sl 2 (List.map Node.row t.Nodes))]), (5, .box [.d (.int .i64 x.Level), .d (.sl 1 (List.map (rI .i64) x.Next))])] (by rfl) (by rfl) (by
            refine EE.here ?_
            simp -dsimp [hf]
        ) fun ρ σ hf => ?_
        refine (l_R12_Right_2 cx hn t i x g23 hf).mono fun ee ρ σ x24 => ?_
        rcases o_ with r | _u
        · unfold F_R12_Right_2 at x24
          dsimp only at x24
          obtain ⟨rfl, x24⟩ := x24
          refine blk_r ?_
          refine blk_r ?_
          refine then_x ?_
          cases hm
          refine rd_out nofun ?_
          unfold F_R12_Right_1
          dsimp only
          refine ⟨rfl, ?_⟩
          exact x24

        · unfold F_R12_Right_2 at x24
          dsimp only at x24
          obtain ⟨rfl, x24⟩ := x24
          refine blk_exit ?_
          refine blk_n ?_
          refine thenQ_n ?_
          refine sw_ee (by rfl) (by rfl) x24 fun ρ σ hf => ?_
          simp only [Fits, FitE, FitS, and_true] at hf
          refine sw_reg tb_ok (by rw [hn]; kernel_rfl) ?_
          simp -dsimp [hf]
          cases hm
          refine rd_next ?_
          refine EE.here ?_
          simp -dsimp [hf]

  · refine sw_cond_f (b := (ltB i (lenL t.Nodes))) (by simp -dsimp) c7 ?_
    refine swp_exit ?_
    refine then_x ?_
    cases hm
    refine rd_out nofun ?_
    unfold F_R12_Right_1
    dsimp only
    refine ⟨rfl, ?_⟩
    refine EE.here ?_
    simp -dsimp [hf, c7]

theorem f_R12_Right (t : Tree) (r : Bool) (hm : m_R12_Right t = some r) : PFn Tryz.prog 95 [.u (.agg [.d (.int .i64 t.States), .d (.sl 2 (List.map Point.row t.Hood)), .d (.sl 2 (List.map Node.row t.Nodes))])] (fun v => v.wk (.u (.one (.d (.bool r))))) := by
  refine pfn_E tb_ok _ Tryz.func95 rfl (by kernel_rfl) (by simp [Tryz.ntmps95]) fun cx hn => ?_
  replace hn : cx.n = 115 := hn.trans Tryz.ntmps95
  unfold m_R12_Right at hm
  refine sw_regs tb_ok (by rw [hn]; kernel_rfl) ?_
  simp -dsimp []
  refine sw_regs tb_ok (by rw [hn]; kernel_rfl) ?_
  simp -dsimp []
  refine sw_seq ?_
  obtain ⟨a, j29, hm⟩ := bnd hm
  refine sw_cutE [(1, .u (.one (.box 1 0))), (3, .u (.one (.d (.int .i64 (lenL t.Nodes))))), (32, .u (.one (.d (.bool a))))] [(1, .box [.d (.int .i64 t.States), .d (.sl 2 (List.map Point.row t.Hood)), .d (.sl 2 (List.map Node.row t.Nodes))])] (by rfl) (by rfl) ?_ fun ρ σ hf => ?_
  · replace hm := j29
    clear j29
    refine sw_reg tb_ok (by rw [hn]; kernel_rfl) ?_
    rcases bifE hm with ⟨c1, hm⟩ | ⟨c1, hm⟩
    · simp -dsimp [c1]
      refine thenQ_n ?_
      cases hm
      refine EE.here ?_
      simp -dsimp

    · rcases bifE hm with ⟨c2, hm⟩ | ⟨c2, hm⟩
      · simp -dsimp [c1, c2]
        refine thenQ_n ?_
        cases hm
        refine EE.here ?_
        simp -dsimp

      · obtain ⟨y, h3, hm⟩ := bnd hm
        simp -dsimp [c1, c2]
        refine callL_pure (c_R07_Right t.Hood y h3) (by rw [hn]; decide) ?_
        rcases bifE hm with ⟨c4, hm⟩ | ⟨c4, hm⟩
        · simp -dsimp [c4]
          refine thenQ_n ?_
          cases hm
          refine EE.here ?_
          simp -dsimp

        · rcases bifE hm with ⟨c5, hm⟩ | ⟨c5, hm⟩
          · simp -dsimp [c4, c5]
            refine thenQ_n ?_
            cases hm
            refine EE.here ?_
            simp -dsimp

          · simp -dsimp [c4, c5]
            refine thenQ_n ?_
            cases hm
            refine EE.here ?_
            simp -dsimp

  · clear j29
    simp only [Fits, FitE, FitS, and_true] at hf
    rcases bifE hm with ⟨c6, hm⟩ | ⟨c6, hm⟩
    · refine sw_cond_t (b := a) (by simp -dsimp [hf]) c6 ?_
      refine sw_regs tb_ok (by rw [hn]; kernel_rfl) ?_
      simp -dsimp
      refine swp_ret ?_
      refine then_x ?_
      cases hm
      refine ⟨.inr rfl, ?_⟩
      refine EE.here ?_
      simp -dsimp

    · refine sw_cond_f (b := a) (by simp -dsimp [hf]) c6 ?_
      refine swp_skip ?_
      refine thenQ_n ?_
      refine sw_seq ?_
      refine sw_regs tb_ok (by rw [hn]; kernel_rfl) ?_
      simp -dsimp
      refine sw_block ?_
      obtain ⟨o_, g26, hm⟩ := bnd hm
      refine sw_ent [(1, .u (.one (.box 1 0))), (3, .u (.one (.d (.int .i64 (lenL t.Nodes))))), (4, .u (.one (.d (.int .i64 0))))] [(1, .box [.d (.int .i64 t.States), .d (.sl 2 (List.map Point.row t.Hood)), .d (.sl 2 (List.map Node.row t.Nodes))])] (by rfl) (by rfl) (by
          refine EE.here ?_
          simp -dsimp [hf]
      ) fun ρ σ hf => ?_
      refine (l_R12_Right_1 cx hn t g26 hf).mono fun ee ρ σ x27 => ?_
      rcases o_ with r | _u
      · unfold F_R12_Right_1 at x27
        dsimp only at x27
        obtain ⟨rfl, x27⟩ := x27
        refine blk_r ?_
        refine then_x ?_
        cases hm
        exact ⟨.inr rfl, x27⟩

      · unfold F_R12_Right_1 at x27
        dsimp only at x27
        obtain ⟨rfl, x27⟩ := x27
        refine blk_exit ?_
        refine thenQ_n ?_
        refine sw_ee (by rfl) (by rfl) x27 fun ρ σ hf => ?_
        simp only [Fits, FitE, FitS, and_true] at hf
        refine sw_qts tb_ok mixed (by rw [hn]; kernel_rfl) ?_
        obtain ⟨x, h28, hm⟩ := bnd hm
        simp -dsimp [hf, h28]
        refine swp_ret ?_
        cases hm
        refine ⟨.inr rfl, ?_⟩
        refine EE.here ?_
        simp -dsimp

theorem c_R12_Right (t : Tree) (r : Bool) (hm : m_R12_Right t = some r) : PureCall Tryz.prog 95 [.u (.agg [.d (.int .i64 t.States), .d (.sl 2 (List.map Point.row t.Hood)), .d (.sl 2 (List.map Node.row t.Nodes))])] (.u (.one (.d (.bool r)))) := (f_R12_Right t r hm).pureW
def F_R12_Value_1 (cx : Cx) (_t : Tree) (_in_ : List Int) (tt : Int) (ee : Exit) (ρ : Env) (σ : Sto) : Prop := match tt with
  | k => ee = .exit 0 ∧ EE cx (FitsW [(5, .u (.one (.d (.int .i64 k))))] []) ρ σ
theorem l_R12_Value_1 (cx : Cx) (hn : cx.n = 30) (t : Tree) (in_ : List Int) {fu : Nat} {stt : Int × Int} {tt : Int} (hh : loopN (b_R12_Value_1 t in_) fu stt = some tt) {ρ : Env} {σ : Sto}
    (hE : Fits ((fun stt : Int × Int => match stt with | (k, i) => [(1, .u (.one (.d (.sl 1 (List.map (rI .i64) in_))))), (2, .u (.one (.box 2 0))), (5, .u (.one (.d (.int .i64 k)))), (6, .u (.one (.d (.int .i64 i))))]) stt) ((fun stt : Int × Int => match stt with | (_k, _i) => [(2, .box [.d (.int .i64 t.States), .d (.sl 2 (List.map Point.row t.Hood)), .d (.sl 2 (List.map Node.row t.Nodes))])]) stt) ρ σ) : Swp Tryz.prog cx (.loop (csub [1, 1, 0, 1, 0, 0] (bodyOf Tryz.f26))) ρ σ (F_R12_Value_1 cx t in_ tt) := by
  refine loop_model (fun stt : Int × Int => match stt with | (k, i) => [(1, .u (.one (.d (.sl 1 (List.map (rI .i64) in_))))), (2, .u (.one (.box 2 0))), (5, .u (.one (.d (.int .i64 k)))), (6, .u (.one (.d (.int .i64 i))))]) (fun stt : Int × Int => match stt with | (k, i) => [(2, .box [.d (.int .i64 t.States), .d (.sl 2 (List.map Point.row t.Hood)), .d (.sl 2 (List.map Node.row t.Nodes))])]) (F_R12_Value_1 cx t in_) (b_R12_Value_1 t in_) (fun _ => by rfl) (fun _ => by rfl) ?_ hh hE
  rintro ⟨k, i⟩ r hm ρ σ hf
  simp only [Fits, FitE, FitS, and_true] at hf
  unfold b_R12_Value_1 at hm
  dsimp only at hm
  refine sw_seq ?_
  refine sw_regs tb_ok (by rw [hn]; kernel_rfl) ?_
  simp -dsimp [hf]
  rcases bifE hm with ⟨c1, hm⟩ | ⟨c1, hm⟩
  · refine sw_cond_t (b := (ltB i (lenL in_))) (by simp -dsimp) c1 ?_
    refine swp_skip ?_
    refine thenQ_n ?_
    refine sw_seq ?_
    refine sw_block ?_
    refine sw_qt tb_ok mixed (by rw [hn]; kernel_rfl) ?_
    obtain ⟨x, h2, hm⟩ := bnd hm
    obtain ⟨x1, h3, hm⟩ := bnd hm
    obtain ⟨x2, h4, hm⟩ := bnd hm
    simp -dsimp [hf, c1, h2, h3, h4]
    refine blk_n ?_
    refine thenQ_n ?_
    refine sw_reg tb_ok (by rw [hn]; kernel_rfl) ?_
    simp -dsimp [hf]
    cases hm
    refine rd_next ?_
    refine EE.here ?_
    simp -dsimp [hf]

  · refine sw_cond_f (b := (ltB i (lenL in_))) (by simp -dsimp) c1 ?_
    refine swp_exit ?_
    refine then_x ?_
    cases hm
    refine rd_out nofun ?_
    unfold F_R12_Value_1
    dsimp only
    refine ⟨rfl, ?_⟩
    refine EE.here ?_
    simp -dsimp [hf, c1]

theorem f_R12_Value (t : Tree) (in_ : List Int) (r : Int) (hm : m_R12_Value t in_ = some r) : PFn Tryz.prog 26 [.u (.agg [.d (.int .i64 t.States), .d (.sl 2 (List.map Point.row t.Hood)), .d (.sl 2 (List.map Node.row t.Nodes))]), .u (.one (.d (.sl 1 (List.map (rI .i64) in_))))] (fun v => v.wk (.u (.one (.d (.int .i64 r))))) := by
  refine pfn_E tb_ok _ Tryz.func26 rfl (by kernel_rfl) (by simp [Tryz.ntmps26]) fun cx hn => ?_
  replace hn : cx.n = 30 := hn.trans Tryz.ntmps26
  unfold m_R12_Value at hm
  refine sw_regs tb_ok (by rw [hn]; kernel_rfl) ?_
  simp -dsimp []
  refine sw_regs tb_ok (by rw [hn]; kernel_rfl) ?_
  simp -dsimp []
  refine sw_seq ?_
  refine sw_regs tb_ok (by rw [hn]; kernel_rfl) ?_
  simp -dsimp []
  refine sw_block ?_
  obtain ⟨k, g5, hm⟩ := bnd hm
  refine sw_ent [(1, .u (.one (.d (.sl 1 (List.map (rI .i64) in_))))), (2, .u (.one (.box 2 0))), (5, .u (.one (.d (.int .i64 (isub .i64 (lenL t.Nodes) 1))))), (6, .u (.one (.d (.int .i64 0))))] [(2, .box [.d (.int .i64 t.States), .d (.sl 2 (List.map Point.row t.Hood)), .d (.sl 2 (List.map Node.row t.Nodes))])] (by rfl) (by rfl) (by
      refine EE.here ?_
      simp -dsimp []
  ) fun ρ σ hf => ?_
  refine (l_R12_Value_1 cx hn t in_ g5 hf).mono fun ee ρ σ x6 => ?_
  unfold F_R12_Value_1 at x6
  dsimp only at x6
  obtain ⟨rfl, x6⟩ := x6
  refine blk_exit ?_
  refine thenQ_n ?_
  refine sw_ee (by rfl) (by rfl) x6 fun ρ σ hf => ?_
  simp only [Fits, FitE, FitS, and_true] at hf
  refine sw_regs tb_ok (by rw [hn]; kernel_rfl) ?_
  simp -dsimp [hf]
  refine swp_ret ?_
  cases hm
  refine ⟨.inr rfl, ?_⟩
  refine EE.here ?_
  simp -dsimp

theorem c_R12_Value (t : Tree) (in_ : List Int) (r : Int) (hm : m_R12_Value t in_ = some r) : PureCall Tryz.prog 26 [.u (.agg [.d (.int .i64 t.States), .d (.sl 2 (List.map Point.row t.Hood)), .d (.sl 2 (List.map Node.row t.Nodes))]), .u (.one (.d (.sl 1 (List.map (rI .i64) in_))))] (.u (.one (.d (.int .i64 r)))) := (f_R12_Value t in_ r hm).pureW
end Go.Proofs.YtgfhhbjnjccomaaGreatDoor
