/-
  That the code does what the functions say (made by cc.py).
-/
import Derived.Test.YtgfhhbjnjccomaaGreatDoorMd1
import Derived.Test.YtgfhhbjnjccomaaGreatDoorTb
import Derived.Test.YtgfhhbjnjccomaaGreatDoorWa8
namespace Go.Proofs.YtgfhhbjnjccomaaGreatDoor
open Go.AM Go.Proofs
def F_R12_Eval_1 (cx : Cx) (t : Tree) (in_ : List Int) (tt : (Int × Int) ⊕ Unit) (ee : Exit) (ρ : Env) (σ : Sto) : Prop := match tt with
  | .inl r => ee = .ret ∧ EE cx (fun ρ σ => ∃ v, resV tb ρ σ Tryz.f121.results.toList = some v ∧ (v.frz σ).free = true ∧ (v.frz σ).wk (.tup [.one (.d (.int .i64 r.1)), .one (.d (.int .i64 r.2))])) ρ σ
  | .inr _u => ee = .exit 0 ∧ EE cx (FitsW [(1, .u (.one (.d (.sl 1 (List.map (rI .i64) in_))))), (2, .u (.one (.box 2 0)))] [(2, .box [.d (.int .i64 t.States), .d (.sl 2 (List.map Point.row t.Hood)), .d (.sl 2 (List.map Node.row t.Nodes))])]) ρ σ
theorem l_R12_Eval_1 (cx : Cx) (hn : cx.n = 39) (t : Tree) (in_ : List Int) {fu : Nat} {stt : Int} {tt : (Int × Int) ⊕ Unit} (hh : loopN (b_R12_Eval_1 t in_) fu stt = some tt) {ρ : Env} {σ : Sto}
    (hE : Fits ((fun i : Int => [(1, .u (.one (.d (.sl 1 (List.map (rI .i64) in_))))), (2, .u (.one (.box 2 0))), (6, .u (.one (.d (.int .i64 i))))]) stt) ((fun _i : Int => [(2, .box [.d (.int .i64 t.States), .d (.sl 2 (List.map Point.row t.Hood)), .d (.sl 2 (List.map Node.row t.Nodes))])]) stt) ρ σ) : Swp Tryz.prog cx (.loop (csub [1, 1, 1, 0, 1, 0, 0] (bodyOf Tryz.f121))) ρ σ (F_R12_Eval_1 cx t in_ tt) := by
  refine loop_model (fun i : Int => [(1, .u (.one (.d (.sl 1 (List.map (rI .i64) in_))))), (2, .u (.one (.box 2 0))), (6, .u (.one (.d (.int .i64 i))))]) (fun i : Int => [(2, .box [.d (.int .i64 t.States), .d (.sl 2 (List.map Point.row t.Hood)), .d (.sl 2 (List.map Node.row t.Nodes))])]) (F_R12_Eval_1 cx t in_) (b_R12_Eval_1 t in_) (fun i => by rfl) (fun i => by rfl) ?_ hh hE
  rintro i r hm ρ σ hf
  simp only [Fits, FitE, FitS, and_true] at hf
  unfold b_R12_Eval_1 at hm
  dsimp only at hm
  refine sw_seq ?_
  refine sw_regs tb_ok (by rw [hn]; kernel_rfl) ?_
  simp -dsimp [hf]
  rcases bifE hm with ⟨c4, hm⟩ | ⟨c4, hm⟩
  · refine sw_cond_t (b := (ltB i (lenL in_))) (by simp -dsimp) c4 ?_
    refine swp_skip ?_
    refine thenQ_n ?_
    refine sw_seq ?_
    refine sw_block ?_
    obtain ⟨a, j8, hm⟩ := bnd hm
    refine sw_cutE [(1, .u (.one (.d (.sl 1 (List.map (rI .i64) in_))))), (2, .u (.one (.box 2 0))), (6, .u (.one (.d (.int .i64 i)))), (35, .u (.one (.d (.bool a))))] [(2, .box [.d (.int .i64 t.States), .d (.sl 2 (List.map Point.row t.Hood)), .d (.sl 2 (List.map Node.row t.Nodes))])] (by rfl) (by rfl) ?_ fun ρ σ hf => ?_
    · replace hm := j8
      clear j8
      refine sw_qt tb_ok mixed (by rw [hn]; kernel_rfl) ?_
      obtain ⟨x, h5, hm⟩ := bnd hm
      rcases bifE hm with ⟨c6, hm⟩ | ⟨c6, hm⟩
      · simp -dsimp [hf, c4, h5, c6]
        refine thenQ_n ?_
        cases hm
        refine EE.here ?_
        simp -dsimp [hf]

      · simp -dsimp [hf, c4, h5, c6]
        refine thenQ_n ?_
        cases hm
        refine EE.here ?_
        simp -dsimp [hf]

    · clear j8
      simp only [Fits, FitE, FitS, and_true] at hf
      rcases bifE hm with ⟨c7, hm⟩ | ⟨c7, hm⟩
      · refine sw_cond_t (b := a) (by simp -dsimp [hf]) c7 ?_
        refine sw_regs tb_ok (by rw [hn]; kernel_rfl) ?_
        simp -dsimp
        refine swp_ret ?_
        refine blk_r ?_
        refine then_x ?_
        cases hm
        refine rd_out nofun ?_
        unfold F_R12_Eval_1
        dsimp only
        refine ⟨rfl, ?_⟩
        refine EE.here ?_
        simp -dsimp [Tryz.results121]

      · refine sw_cond_f (b := a) (by simp -dsimp [hf]) c7 ?_
        refine swp_skip ?_
        refine blk_n ?_
        refine thenQ_n ?_
        refine sw_reg tb_ok (by rw [hn]; kernel_rfl) ?_
        simp -dsimp [hf]
        cases hm
        refine rd_next ?_
        refine EE.here ?_
        simp -dsimp [hf]

  · refine sw_cond_f (b := (ltB i (lenL in_))) (by simp -dsimp) c4 ?_
    refine swp_exit ?_
    refine then_x ?_
    cases hm
    refine rd_out nofun ?_
    unfold F_R12_Eval_1
    dsimp only
    refine ⟨rfl, ?_⟩
    refine EE.here ?_
    simp -dsimp [hf, c4]

theorem f_R12_Eval (t : Tree) (in_ : List Int) (r : Int × Int) (hm : m_R12_Eval t in_ = some r) : PFn Tryz.prog 121 [.u (.agg [.d (.int .i64 t.States), .d (.sl 2 (List.map Point.row t.Hood)), .d (.sl 2 (List.map Node.row t.Nodes))]), .u (.one (.d (.sl 1 (List.map (rI .i64) in_))))] (fun v => v.wk (.tup [.one (.d (.int .i64 r.1)), .one (.d (.int .i64 r.2))])) := by
  refine pfn_E tb_ok _ Tryz.func121 rfl (by kernel_rfl) (by simp [Tryz.ntmps121]) fun cx hn => ?_
  replace hn : cx.n = 39 := hn.trans Tryz.ntmps121
  unfold m_R12_Eval at hm
  refine sw_regs tb_ok (by rw [hn]; kernel_rfl) ?_
  simp -dsimp []
  refine sw_seq ?_
  refine sw_regs tb_ok (by rw [hn]; kernel_rfl) ?_
  obtain ⟨y, h1, hm⟩ := bnd hm
  simp -dsimp []
  refine callL_pure (c_R12_Right t y h1) (by rw [hn]; decide) ?_
  simp -dsimp
  rcases bifE hm with ⟨c2, hm⟩ | ⟨c2, hm⟩
  · refine sw_cond_t (b := (notB y)) (by simp -dsimp) c2 ?_
    refine sw_regs tb_ok (by rw [hn]; kernel_rfl) ?_
    simp -dsimp [c2]
    refine swp_ret ?_
    refine then_x ?_
    cases hm
    refine ⟨.inr rfl, ?_⟩
    refine EE.here ?_
    simp -dsimp

  · refine sw_cond_f (b := (notB y)) (by simp -dsimp) c2 ?_
    refine swp_skip ?_
    refine thenQ_n ?_
    refine sw_seq ?_
    refine sw_regs tb_ok (by rw [hn]; kernel_rfl) ?_
    simp -dsimp [c2]
    rcases bifE hm with ⟨c3, hm⟩ | ⟨c3, hm⟩
    · refine sw_cond_t (b := (neB (lenL in_) (lenL t.Hood))) (by simp -dsimp) c3 ?_
      refine sw_regs tb_ok (by rw [hn]; kernel_rfl) ?_
      simp -dsimp [c3]
      refine swp_ret ?_
      refine then_x ?_
      cases hm
      refine ⟨.inr rfl, ?_⟩
      refine EE.here ?_
      simp -dsimp

    · refine sw_cond_f (b := (neB (lenL in_) (lenL t.Hood))) (by simp -dsimp) c3 ?_
      refine swp_skip ?_
      refine thenQ_n ?_
      refine sw_seq ?_
      refine sw_regs tb_ok (by rw [hn]; kernel_rfl) ?_
      simp -dsimp [c3]
      refine sw_block ?_
      obtain ⟨o_, g9, hm⟩ := bnd hm
      refine sw_ent [(1, .u (.one (.d (.sl 1 (List.map (rI .i64) in_))))), (2, .u (.one (.box 2 0))), (6, .u (.one (.d (.int .i64 0))))] [(2, .box [.d (.int .i64 t.States), .d (.sl 2 (List.map Point.row t.Hood)), .d (.sl 2 (List.map Node.row t.Nodes))])] (by rfl) (by rfl) (by
          refine EE.here ?_
          simp -dsimp
      ) fun ρ σ hf => ?_
      refine (l_R12_Eval_1 cx hn t in_ g9 hf).mono fun ee ρ σ x10 => ?_
      rcases o_ with r | _u
      · unfold F_R12_Eval_1 at x10
        dsimp only at x10
        obtain ⟨rfl, x10⟩ := x10
        refine blk_r ?_
        refine then_x ?_
        cases hm
        exact ⟨.inr rfl, x10⟩

      · unfold F_R12_Eval_1 at x10
        dsimp only at x10
        obtain ⟨rfl, x10⟩ := x10
        refine blk_exit ?_
        refine thenQ_n ?_
        refine sw_ee (by rfl) (by rfl) x10 fun ρ σ hf => ?_
        simp only [Fits, FitE, FitS, and_true] at hf
        refine sw_regs tb_ok (by rw [hn]; kernel_rfl) ?_
        obtain ⟨y1, h11, hm⟩ := bnd hm
        simp -dsimp [hf]
        refine callL_pure (c_R12_Value t in_ y1 h11) (by rw [hn]; decide) ?_
        simp -dsimp
        refine swp_ret ?_
        cases hm
        refine ⟨.inr rfl, ?_⟩
        refine EE.here ?_
        simp -dsimp

theorem c_R12_Eval (t : Tree) (in_ : List Int) (r : Int × Int) (hm : m_R12_Eval t in_ = some r) : PureCall Tryz.prog 121 [.u (.agg [.d (.int .i64 t.States), .d (.sl 2 (List.map Point.row t.Hood)), .d (.sl 2 (List.map Node.row t.Nodes))]), .u (.one (.d (.sl 1 (List.map (rI .i64) in_))))] (.tup [.one (.d (.int .i64 r.1)), .one (.d (.int .i64 r.2))]) := (f_R12_Eval t in_ r hm).pureW
theorem f_R12_Quiet (t : Tree) (r : Bool) (hm : m_R12_Quiet t = some r) : PFn Tryz.prog 83 [.u (.agg [.d (.int .i64 t.States), .d (.sl 2 (List.map Point.row t.Hood)), .d (.sl 2 (List.map Node.row t.Nodes))])] (fun v => v.wk (.u (.one (.d (.bool r))))) := by
  refine pfn_E tb_ok _ Tryz.func83 rfl (by kernel_rfl) (by simp [Tryz.ntmps83]) fun cx hn => ?_
  replace hn : cx.n = 19 := hn.trans Tryz.ntmps83
  unfold m_R12_Quiet at hm
  refine sw_regs tb_ok (by rw [hn]; kernel_rfl) ?_
  simp -dsimp []
  refine sw_seq ?_
  refine sw_regs tb_ok (by rw [hn]; kernel_rfl) ?_
  obtain ⟨y, h1, hm⟩ := bnd hm
  simp -dsimp []
  refine callL_pure (c_R12_Right t y h1) (by rw [hn]; decide) ?_
  simp -dsimp
  rcases bifE hm with ⟨c2, hm⟩ | ⟨c2, hm⟩
  · refine sw_cond_t (b := (notB y)) (by simp -dsimp) c2 ?_
    refine sw_regs tb_ok (by rw [hn]; kernel_rfl) ?_
    simp -dsimp [c2]
    refine swp_ret ?_
    refine then_x ?_
    cases hm
    refine ⟨.inr rfl, ?_⟩
    refine EE.here ?_
    simp -dsimp

  · refine sw_cond_f (b := (notB y)) (by simp -dsimp) c2 ?_
    refine swp_skip ?_
    refine thenQ_n ?_
    refine sw_mids tb_ok mixed 4 5 10 [[0]] [13] (by rw [hn]; kernel_rfl) ?_
    dsimp only [List.take, List.drop, midsD, uopsD, pk, List.cons_append, List.nil_append]
    obtain ⟨l, h3, hm⟩ := bnd hm
    obtain ⟨⟨h3a, h3b, h3c⟩, rfl⟩ := mkL_some h3
    obtain ⟨y1, h4, hm⟩ := bnd hm
    simp -dsimp [c2, h3a, h3c]
    refine qcallL_brw (us' := [.u (.agg [.d (.int .i64 t.States), .d (.sl 2 (List.map Point.row t.Hood)), .d (.sl 2 (List.map Node.row t.Nodes))]), .u (.one (.d (.sl 1 (List.map (rI .i64) (List.replicate (lenL t.Hood).toNat 0)))))]) (c_R12_Eval t (List.replicate (lenL t.Hood).toNat 0) y1 h4) (by simp -dsimp) rfl ?_
    simp -dsimp
    refine sw_regs tb_ok (by rw [hn]; kernel_rfl) ?_
    simp -dsimp
    refine swp_ret ?_
    cases hm
    refine ⟨.inr rfl, ?_⟩
    refine EE.here ?_
    simp -dsimp

theorem c_R12_Quiet (t : Tree) (r : Bool) (hm : m_R12_Quiet t = some r) : PureCall Tryz.prog 83 [.u (.agg [.d (.int .i64 t.States), .d (.sl 2 (List.map Point.row t.Hood)), .d (.sl 2 (List.map Node.row t.Nodes))])] (.u (.one (.d (.bool r)))) := (f_R12_Quiet t r hm).pureW
end Go.Proofs.YtgfhhbjnjccomaaGreatDoor
