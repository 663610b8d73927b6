/-
  That the code does what the functions say (made by cc.py).
-/
import Derived.Test.YtdjclgfbggfpaaaGreatDoorMd1
import Derived.Test.YtdjclgfbggfpaaaGreatDoorTb
import Derived.Test.YtdjclgfbggfpaaaGreatDoorWa1
namespace Go.Proofs.YtdjclgfbggfpaaaGreatDoor
open Go.AM Go.Proofs
attribute [-simp] qlookup rMapSet rDelete dropIt_apply Ob.wipe Ob.ren Ob.frz1
def F_tree_value_1 (cx : Cx) (_t : Tree) (_in_ : List Int) (tt : Int) (ee : Exit) (ρ : Env) (σ : Sto) : Prop := match tt with
  | k => ee = .exit 0 ∧ EE cx (FitsW [(5, .u (.one (.d (.int .i64 k))))] []) ρ σ
theorem l_tree_value_1 (cx : Cx) (hn : cx.n = 29) (t : Tree) (in_ : List Int) {fu : Nat} {stt : Int × Int} {tt : Int} (hh : loopN (b_tree_value_1 t in_) fu stt = some tt) {ρ : Env} {σ : Sto}
    (hE : Fits ((fun stt : Int × Int => match stt with | (k, a) => [(2, .u (.one (.box 2 0))), (5, .u (.one (.d (.int .i64 k)))), (12, .u (.one (.d (.sl 1 (List.map (rI .i64) in_))))), (13, .u (.one (.d (.int .i64 (lenL in_))))), (14, .u (.one (.d (.int .i64 a))))]) stt) ((fun stt : Int × Int => match stt with | (_k, _a) => [(2, .box [.d (.int .i64 t.States), .d (.sl 2 (List.map Point.row t.Hood)), .d (.sl 2 (List.map Node.row t.Nodes))])]) stt) ρ σ) : Swp Tryz.prog cx (.loop (csub [1, 1, 0, 1, 0, 0] (bodyOf Tryz.f110))) ρ σ (F_tree_value_1 cx t in_ tt) := by
  refine loop_model (fun stt : Int × Int => match stt with | (k, a) => [(2, .u (.one (.box 2 0))), (5, .u (.one (.d (.int .i64 k)))), (12, .u (.one (.d (.sl 1 (List.map (rI .i64) in_))))), (13, .u (.one (.d (.int .i64 (lenL in_))))), (14, .u (.one (.d (.int .i64 a))))]) (fun stt : Int × Int => match stt with | (k, a) => [(2, .box [.d (.int .i64 t.States), .d (.sl 2 (List.map Point.row t.Hood)), .d (.sl 2 (List.map Node.row t.Nodes))])]) (F_tree_value_1 cx t in_) (b_tree_value_1 t in_) (fun _ => by rfl) (fun _ => by rfl) ?_ hh hE
  rintro ⟨k, a⟩ r hm ρ σ hf
  simp only [Fits, FitE, FitS, and_true] at hf
  unfold b_tree_value_1 at hm
  dsimp only at hm
  refine sw_regs tb_ok (by rw [hn]; kernel_rfl) ?_
  simp -dsimp [hf]
  refine sw_seq ?_
  rcases bifE hm with ⟨c1, hm⟩ | ⟨c1, hm⟩
  · refine sw_cond_t (b := (ltB a (lenL in_))) (by simp -dsimp) c1 ?_
    refine swp_skip ?_
    refine thenQ_n ?_
    refine sw_seq ?_
    refine sw_block ?_
    refine sw_regs tb_ok (by rw [hn]; kernel_rfl) ?_
    obtain ⟨x, h2, hm⟩ := bnd hm
    simp -dsimp [hf, c1, h2]
    refine sw_reg tb_ok (by rw [hn]; kernel_rfl) ?_
    obtain ⟨x1, h3, hm⟩ := bnd hm
    obtain ⟨x2, h4, hm⟩ := bnd hm
    simp -dsimp [hf, h3, h4]
    refine blk_n ?_
    refine thenQ_n ?_
    refine sw_reg tb_ok (by rw [hn]; kernel_rfl) ?_
    simp -dsimp [hf]
    cases hm
    refine rd_next ?_
    refine EE.here ?_
    simp -dsimp [hf]

  · refine sw_cond_f (b := (ltB a (lenL in_))) (by simp -dsimp) c1 ?_
    refine swp_exit ?_
    refine then_x ?_
    cases hm
    refine rd_out nofun ?_
    unfold F_tree_value_1
    dsimp only
    refine ⟨rfl, ?_⟩
    refine EE.here ?_
    simp -dsimp [hf, c1]

theorem f_tree_value (t : Tree) (in_ : List Int) (r : Int) (hm : m_tree_value t in_ = some r) : PFn Tryz.prog 110 [.u (.agg [.d (.int .i64 t.States), .d (.sl 2 (List.map Point.row t.Hood)), .d (.sl 2 (List.map Node.row t.Nodes))]), .u (.one (.d (.sl 1 (List.map (rI .i64) in_))))] (fun v => v.wk (.u (.one (.d (.int .i64 r))))) := by
  refine pfn_E tb_ok _ Tryz.func110 rfl (by kernel_rfl) (by simp [Tryz.ntmps110]) fun cx hn => ?_
  replace hn : cx.n = 29 := hn.trans Tryz.ntmps110
  unfold m_tree_value at hm
  refine sw_regs tb_ok (by rw [hn]; kernel_rfl) ?_
  simp -dsimp []
  refine sw_regs tb_ok (by rw [hn]; kernel_rfl) ?_
  simp -dsimp []
  refine sw_seq ?_
  refine sw_regs tb_ok (by rw [hn]; kernel_rfl) ?_
  simp -dsimp []
  refine sw_block ?_
  obtain ⟨k, g5, hm⟩ := bnd hm
  refine sw_ent [(2, .u (.one (.box 2 0))), (5, .u (.one (.d (.int .i64 (isub .i64 (lenL t.Nodes) 1))))), (12, .u (.one (.d (.sl 1 (List.map (rI .i64) in_))))), (13, .u (.one (.d (.int .i64 (lenL in_))))), (14, .u (.one (.d (.int .i64 0))))] [(2, .box [.d (.int .i64 t.States), .d (.sl 2 (List.map Point.row t.Hood)), .d (.sl 2 (List.map Node.row t.Nodes))])] (by rfl) (by rfl) (by
      refine EE.here ?_
      simp -dsimp []
  ) fun ρ σ hf => ?_
  refine (l_tree_value_1 cx hn t in_ g5 hf).mono fun ee ρ σ x6 => ?_
  unfold F_tree_value_1 at x6
  dsimp only at x6
  obtain ⟨rfl, x6⟩ := x6
  refine blk_exit ?_
  refine thenQ_n ?_
  refine sw_ee (by rfl) (by rfl) x6 fun ρ σ hf => ?_
  simp only [Fits, FitE, FitS, and_true] at hf
  refine sw_regs tb_ok (by rw [hn]; kernel_rfl) ?_
  simp -dsimp [hf]
  refine swp_ret ?_
  cases hm
  refine ⟨.inr rfl, ?_⟩
  refine EE.here ?_
  simp -dsimp

theorem c_tree_value (t : Tree) (in_ : List Int) (r : Int) (hm : m_tree_value t in_ = some r) : PureCall Tryz.prog 110 [.u (.agg [.d (.int .i64 t.States), .d (.sl 2 (List.map Point.row t.Hood)), .d (.sl 2 (List.map Node.row t.Nodes))]), .u (.one (.d (.sl 1 (List.map (rI .i64) in_))))] (.u (.one (.d (.int .i64 r)))) := (f_tree_value t in_ r hm).pureW
theorem f_tree_Quiet (t : Tree) (r : Bool) (hm : m_tree_Quiet t = some r) : PFn Tryz.prog 57 [.u (.agg [.d (.int .i64 t.States), .d (.sl 2 (List.map Point.row t.Hood)), .d (.sl 2 (List.map Node.row t.Nodes))])] (fun v => v.wk (.u (.one (.d (.bool r))))) := by
  refine pfn_E tb_ok _ Tryz.func57 rfl (by kernel_rfl) (by simp [Tryz.ntmps57]) fun cx hn => ?_
  replace hn : cx.n = 14 := hn.trans Tryz.ntmps57
  unfold m_tree_Quiet at hm
  refine sw_regs tb_ok (by rw [hn]; kernel_rfl) ?_
  simp -dsimp []
  obtain ⟨a, j5, hm⟩ := bnd hm
  refine sw_cutE [(2, .u (.one (.d (.bool a))))] [] (by rfl) (by rfl) ?_ fun ρ σ hf => ?_
  · replace hm := j5
    clear j5
    refine sw_mid tb_ok mixed 7 8 8 [[3]] [10] (by rw [hn]; kernel_rfl) ?_
    dsimp only [List.take, List.drop, midsD, uopsD, pk, List.cons_append, List.nil_append]
    obtain ⟨y, h1, hm⟩ := bnd hm
    simp -dsimp []
    refine qcallL_pure (c_tree_Right t y h1) ?_
    rcases bifE hm with ⟨c2, hm⟩ | ⟨c2, hm⟩
    · obtain ⟨l, h3, hm⟩ := bnd hm
      obtain ⟨⟨h3a, h3b, h3c⟩, rfl⟩ := mkL_some h3
      obtain ⟨y1, h4, hm⟩ := bnd hm
      simp -dsimp [c2, h3a, h3c]
      refine callL_brw (us' := [.u (.agg [.d (.int .i64 t.States), .d (.sl 2 (List.map Point.row t.Hood)), .d (.sl 2 (List.map Node.row t.Nodes))]), .u (.one (.d (.sl 1 (List.map (rI .i64) (List.replicate (lenL t.Hood).toNat 0)))))]) (c_tree_value t (List.replicate (lenL t.Hood).toNat 0) y1 h4) (by simp -dsimp) rfl (by rw [hn]; decide) ?_
      simp -dsimp
      refine thenQ_n ?_
      cases hm
      refine EE.here ?_
      simp -dsimp

    · simp -dsimp [c2]
      refine thenQ_n ?_
      cases hm
      refine EE.here ?_
      simp -dsimp

  · clear j5
    simp only [Fits, FitE, FitS, and_true] at hf
    refine swp_ret ?_
    cases hm
    refine ⟨.inr rfl, ?_⟩
    refine EE.here ?_
    simp -dsimp [hf]

theorem c_tree_Quiet (t : Tree) (r : Bool) (hm : m_tree_Quiet t = some r) : PureCall Tryz.prog 57 [.u (.agg [.d (.int .i64 t.States), .d (.sl 2 (List.map Point.row t.Hood)), .d (.sl 2 (List.map Node.row t.Nodes))])] (.u (.one (.d (.bool r)))) := (f_tree_Quiet t r hm).pureW
theorem f_pattern_at (c : Cell) (r : Point) (hm : m_pattern_at c = some r) : PFn Tryz.prog 40 [.u (.agg [.d (.int .i64 c.X), .d (.int .i64 c.Y), .d (.int .i64 c.S)])] (fun v => v.wk (.u (.agg [.d (.int .i64 r.X), .d (.int .i64 r.Y)]))) := by
  refine pfn_E tb_ok _ Tryz.func40 rfl (by kernel_rfl) (by simp [Tryz.ntmps40]) fun cx hn => ?_
  replace hn : cx.n = 8 := hn.trans Tryz.ntmps40
  unfold m_pattern_at at hm
  refine sw_regs tb_ok (by rw [hn]; kernel_rfl) ?_
  simp -dsimp []
  refine sw_regs tb_ok (by rw [hn]; kernel_rfl) ?_
  simp -dsimp []
  refine swp_ret ?_
  cases hm
  refine ⟨.inr rfl, ?_⟩
  refine EE.here ?_
  simp -dsimp

theorem c_pattern_at (c : Cell) (r : Point) (hm : m_pattern_at c = some r) : PureCall Tryz.prog 40 [.u (.agg [.d (.int .i64 c.X), .d (.int .i64 c.Y), .d (.int .i64 c.S)])] (.u (.agg [.d (.int .i64 r.X), .d (.int .i64 r.Y)])) := (f_pattern_at c r hm).pureW
theorem f_pattern_placed (p : Point) (r : Bool) (hm : m_pattern_placed p = some r) : PFn Tryz.prog 39 [.u (.agg [.d (.int .i64 p.X), .d (.int .i64 p.Y)])] (fun v => v.wk (.u (.one (.d (.bool r))))) := by
  refine pfn_E tb_ok _ Tryz.func39 rfl (by kernel_rfl) (by simp [Tryz.ntmps39]) fun cx hn => ?_
  replace hn : cx.n = 17 := hn.trans Tryz.ntmps39
  unfold m_pattern_placed at hm
  refine sw_regs tb_ok (by rw [hn]; kernel_rfl) ?_
  simp -dsimp []
  obtain ⟨a, j2, hm⟩ := bnd hm
  refine sw_cutE [(2, .u (.one (.d (.bool a))))] [] (by rfl) (by rfl) ?_ fun ρ σ hf => ?_
  · replace hm := j2
    clear j2
    refine sw_reg tb_ok (by rw [hn]; kernel_rfl) ?_
    rcases bifE hm with ⟨c1, hm⟩ | ⟨c1, hm⟩
    · simp -dsimp [c1]
      refine thenQ_n ?_
      cases hm
      refine EE.here ?_
      simp -dsimp

    · simp -dsimp [c1]
      refine thenQ_n ?_
      cases hm
      refine EE.here ?_
      simp -dsimp

  · clear j2
    simp only [Fits, FitE, FitS, and_true] at hf
    refine swp_ret ?_
    cases hm
    refine ⟨.inr rfl, ?_⟩
    refine EE.here ?_
    simp -dsimp [hf]

theorem c_pattern_placed (p : Point) (r : Bool) (hm : m_pattern_placed p = some r) : PureCall Tryz.prog 39 [.u (.agg [.d (.int .i64 p.X), .d (.int .i64 p.Y)])] (.u (.one (.d (.bool r)))) := (f_pattern_placed p r hm).pureW
theorem f_pattern_order (a : Cell) (b : Cell) (r : Int) (hm : m_pattern_order a b = some r) : PFn Tryz.prog 63 [.u (.agg [.d (.int .i64 a.X), .d (.int .i64 a.Y), .d (.int .i64 a.S)]), .u (.agg [.d (.int .i64 b.X), .d (.int .i64 b.Y), .d (.int .i64 b.S)])] (fun v => v.wk (.u (.one (.d (.int .i64 r))))) := by
  refine pfn_E tb_ok _ Tryz.func63 rfl (by kernel_rfl) (by simp [Tryz.ntmps63]) fun cx hn => ?_
  replace hn : cx.n = 10 := hn.trans Tryz.ntmps63
  unfold m_pattern_order at hm
  refine sw_regs tb_ok (by rw [hn]; kernel_rfl) ?_
  simp -dsimp []
  refine sw_qts tb_ok mixed (by rw [hn]; kernel_rfl) ?_
  obtain ⟨y, h1, hm⟩ := bnd hm
  simp -dsimp []
  refine qcallL_pure (c_pattern_at a y h1) ?_
  obtain ⟨y1, h2, hm⟩ := bnd hm
  simp -dsimp
  refine qcallL_pure (c_pattern_at b y1 h2) ?_
  obtain ⟨y2, h3, hm⟩ := bnd hm
  simp -dsimp
  refine qcallL_pure (c_point_Compare y y1 y2 h3) ?_
  simp -dsimp
  refine swp_ret ?_
  cases hm
  refine ⟨.inr rfl, ?_⟩
  refine EE.here ?_
  simp -dsimp

theorem c_pattern_order (a : Cell) (b : Cell) (r : Int) (hm : m_pattern_order a b = some r) : PureCall Tryz.prog 63 [.u (.agg [.d (.int .i64 a.X), .d (.int .i64 a.Y), .d (.int .i64 a.S)]), .u (.agg [.d (.int .i64 b.X), .d (.int .i64 b.Y), .d (.int .i64 b.S)])] (.u (.one (.d (.int .i64 r)))) := (f_pattern_order a b r hm).pureW
def F_pattern_Right_1 (cx : Cx) (_p : List Cell) (tt : Bool ⊕ Unit) (ee : Exit) (ρ : Env) (σ : Sto) : Prop := match tt with
  | .inl r => ee = .ret ∧ EE cx (fun ρ σ => ∃ v, resV tb ρ σ Tryz.f37.results.toList = some v ∧ (v.frz σ).free = true ∧ (v.frz σ).wk (.u (.one (.d (.bool r))))) ρ σ
  | .inr _u => ee = .exit 0 ∧ EE cx (FitsW [] []) ρ σ
theorem l_pattern_Right_1 (cx : Cx) (hn : cx.n = 44) (p : List Cell) {fu : Nat} {stt : Int} {tt : Bool ⊕ Unit} (hh : loopN (b_pattern_Right_1 p) fu stt = some tt) {ρ : Env} {σ : Sto}
    (hE : Fits ((fun a : Int => [(0, .u (.one (.d (.sl 3 (List.map Cell.row p))))), (8, .u (.one (.d (.sl 3 (List.map Cell.row p))))), (9, .u (.one (.d (.int .i64 (lenL p))))), (10, .u (.one (.d (.int .i64 a))))]) stt) ((fun _a : Int => []) stt) ρ σ) : Swp Tryz.prog cx (.loop (csub [1, 1, 0, 1, 0, 0] (bodyOf Tryz.f37))) ρ σ (F_pattern_Right_1 cx p tt) := by
  refine loop_model (fun a : Int => [(0, .u (.one (.d (.sl 3 (List.map Cell.row p))))), (8, .u (.one (.d (.sl 3 (List.map Cell.row p))))), (9, .u (.one (.d (.int .i64 (lenL p))))), (10, .u (.one (.d (.int .i64 a))))]) (fun a : Int => []) (F_pattern_Right_1 cx p) (b_pattern_Right_1 p) (fun a => by rfl) (fun a => by rfl) ?_ hh hE
  rintro a r hm ρ σ hf
  simp only [Fits, FitE, FitS, and_true] at hf
  unfold b_pattern_Right_1 at hm
  dsimp only at hm
  refine sw_regs tb_ok (by rw [hn]; kernel_rfl) ?_
  simp -dsimp [hf]
  refine sw_seq ?_
  rcases bifE hm with ⟨c2, hm⟩ | ⟨c2, hm⟩
  · refine sw_cond_t (b := (ltB a (lenL p))) (by simp -dsimp) c2 ?_
    refine swp_skip ?_
    refine thenQ_n ?_
    refine sw_seq ?_
    refine sw_block ?_
    refine sw_regs tb_ok (by rw [hn]; kernel_rfl) ?_
    obtain ⟨x, h3, hm⟩ := bnd hm
    simp -dsimp [hf, c2, h3]
    obtain ⟨a1, j13, hm⟩ := bnd hm
    refine sw_cutE [(0, .u (.one (.d (.sl 3 (List.map Cell.row p))))), (8, .u (.one (.d (.sl 3 (List.map Cell.row p))))), (9, .u (.one (.d (.int .i64 (lenL p))))), (10, .u (.one (.d (.int .i64 a)))), (42, .u (.one (.d (.bool a1))))] [] (by rfl) (by rfl) ?_ fun ρ σ hf => ?_
    · replace hm := j13
      clear j13
      refine sw_qt tb_ok mixed (by rw [hn]; kernel_rfl) ?_
      obtain ⟨y, h4, hm⟩ := bnd hm
      simp -dsimp
      refine qcallL_pure (c_pattern_at x y h4) ?_
      obtain ⟨y1, h5, hm⟩ := bnd hm
      simp -dsimp
      refine qcallL_pure (c_pattern_placed y y1 h5) ?_
      rcases bifE hm with ⟨c6, hm⟩ | ⟨c6, hm⟩
      · simp -dsimp [c6]
        refine thenQ_n ?_
        cases hm
        refine EE.here ?_
        simp -dsimp [hf]

      · rcases bifE hm with ⟨c7, hm⟩ | ⟨c7, hm⟩
        · simp -dsimp [c6, c7]
          refine thenQ_n ?_
          cases hm
          refine EE.here ?_
          simp -dsimp [hf]

        · rcases bifE hm with ⟨c8, hm⟩ | ⟨c8, hm⟩
          · simp -dsimp [c6, c7, c8]
            refine thenQ_n ?_
            cases hm
            refine EE.here ?_
            simp -dsimp [hf]

          · rcases bifE hm with ⟨c9, hm⟩ | ⟨c9, hm⟩
            · obtain ⟨x1, h10, hm⟩ := bnd hm
              obtain ⟨y2, h11, hm⟩ := bnd hm
              simp -dsimp [hf, c6, c7, c8, c9, h10]
              refine qcallL_pure (c_pattern_order x1 x y2 h11) ?_
              simp -dsimp
              refine thenQ_n ?_
              cases hm
              refine EE.here ?_
              simp -dsimp [hf]

            · simp -dsimp [c6, c7, c8, c9]
              refine thenQ_n ?_
              cases hm
              refine EE.here ?_
              simp -dsimp [hf]

    · clear j13
      simp only [Fits, FitE, FitS, and_true] at hf
      rcases bifE hm with ⟨c12, hm⟩ | ⟨c12, hm⟩
      · refine sw_cond_t (b := a1) (by simp -dsimp [hf]) c12 ?_
        refine sw_regs tb_ok (by rw [hn]; kernel_rfl) ?_
        simp -dsimp
        refine swp_ret ?_
        refine blk_r ?_
        refine then_x ?_
        cases hm
        refine rd_out nofun ?_
        unfold F_pattern_Right_1
        dsimp only
        refine ⟨rfl, ?_⟩
        refine EE.here ?_
        simp -dsimp [Tryz.results37]

      · refine sw_cond_f (b := a1) (by simp -dsimp [hf]) c12 ?_
        refine swp_skip ?_
        refine blk_n ?_
        refine thenQ_n ?_
        refine sw_reg tb_ok (by rw [hn]; kernel_rfl) ?_
        simp -dsimp [hf]
        cases hm
        refine rd_next ?_
        refine EE.here ?_
        simp -dsimp [hf]

  · refine sw_cond_f (b := (ltB a (lenL p))) (by simp -dsimp) c2 ?_
    refine swp_exit ?_
    refine then_x ?_
    cases hm
    refine rd_out nofun ?_
    unfold F_pattern_Right_1
    dsimp only
    refine ⟨rfl, ?_⟩
    refine EE.here ?_
    simp -dsimp [c2]

theorem f_pattern_Right (p : List Cell) (r : Bool) (hm : m_pattern_Right p = some r) : PFn Tryz.prog 37 [.u (.one (.d (.sl 3 (List.map Cell.row p))))] (fun v => v.wk (.u (.one (.d (.bool r))))) := by
  refine pfn_E tb_ok _ Tryz.func37 rfl (by kernel_rfl) (by simp [Tryz.ntmps37]) fun cx hn => ?_
  replace hn : cx.n = 44 := hn.trans Tryz.ntmps37
  unfold m_pattern_Right at hm
  refine sw_regs tb_ok (by rw [hn]; kernel_rfl) ?_
  simp -dsimp []
  refine sw_seq ?_
  refine sw_regs tb_ok (by rw [hn]; kernel_rfl) ?_
  simp -dsimp []
  rcases bifE hm with ⟨c1, hm⟩ | ⟨c1, hm⟩
  · refine sw_cond_t (b := (gtB (lenL p) 5000)) (by simp -dsimp []) c1 ?_
    refine sw_regs tb_ok (by rw [hn]; kernel_rfl) ?_
    simp -dsimp [c1]
    refine swp_ret ?_
    refine then_x ?_
    cases hm
    refine ⟨.inr rfl, ?_⟩
    refine EE.here ?_
    simp -dsimp

  · refine sw_cond_f (b := (gtB (lenL p) 5000)) (by simp -dsimp []) c1 ?_
    refine swp_skip ?_
    refine thenQ_n ?_
    refine sw_seq ?_
    refine sw_regs tb_ok (by rw [hn]; kernel_rfl) ?_
    simp -dsimp [c1]
    refine sw_block ?_
    obtain ⟨o_, g14, hm⟩ := bnd hm
    refine sw_ent [(0, .u (.one (.d (.sl 3 (List.map Cell.row p))))), (8, .u (.one (.d (.sl 3 (List.map Cell.row p))))), (9, .u (.one (.d (.int .i64 (lenL p))))), (10, .u (.one (.d (.int .i64 0))))] [] (by rfl) (by rfl) (by
        refine EE.here ?_
        simp -dsimp
    ) fun ρ σ hf => ?_
    refine (l_pattern_Right_1 cx hn p g14 hf).mono fun ee ρ σ x15 => ?_
    rcases o_ with r | _u
    · unfold F_pattern_Right_1 at x15
      dsimp only at x15
      obtain ⟨rfl, x15⟩ := x15
      refine blk_r ?_
      refine then_x ?_
      cases hm
      exact ⟨.inr rfl, x15⟩

    · unfold F_pattern_Right_1 at x15
      dsimp only at x15
      obtain ⟨rfl, x15⟩ := x15
      refine blk_exit ?_
      refine thenQ_n ?_
      refine sw_ee (by rfl) (by rfl) x15 fun ρ σ hf => ?_
      simp only [Fits, FitE, FitS, and_true] at hf
      refine sw_regs tb_ok (by rw [hn]; kernel_rfl) ?_
      simp -dsimp
      refine swp_ret ?_
      cases hm
      refine ⟨.inr rfl, ?_⟩
      refine EE.here ?_
      simp -dsimp

theorem c_pattern_Right (p : List Cell) (r : Bool) (hm : m_pattern_Right p = some r) : PureCall Tryz.prog 37 [.u (.one (.d (.sl 3 (List.map Cell.row p))))] (.u (.one (.d (.bool r)))) := (f_pattern_Right p r hm).pureW
def F_pattern_Top_1 (cx : Cx) (_p : List Cell) (tt : Int) (ee : Exit) (ρ : Env) (σ : Sto) : Prop := match tt with
  | n => ee = .exit 0 ∧ EE cx (FitsW [(3, .u (.one (.d (.int .i64 n))))] []) ρ σ
theorem l_pattern_Top_1 (cx : Cx) (hn : cx.n = 19) (p : List Cell) {fu : Nat} {stt : Int × Int} {tt : Int} (hh : loopN (b_pattern_Top_1 p) fu stt = some tt) {ρ : Env} {σ : Sto}
    (hE : Fits ((fun stt : Int × Int => match stt with | (n, a) => [(0, .u (.one (.d (.sl 3 (List.map Cell.row p))))), (3, .u (.one (.d (.int .i64 n)))), (6, .u (.one (.d (.int .i64 (lenL p))))), (7, .u (.one (.d (.int .i64 a))))]) stt) ((fun stt : Int × Int => match stt with | (_n, _a) => []) stt) ρ σ) : Swp Tryz.prog cx (.loop (csub [1, 1, 0, 1, 0, 0] (bodyOf Tryz.f58))) ρ σ (F_pattern_Top_1 cx p tt) := by
  refine loop_model (fun stt : Int × Int => match stt with | (n, a) => [(0, .u (.one (.d (.sl 3 (List.map Cell.row p))))), (3, .u (.one (.d (.int .i64 n)))), (6, .u (.one (.d (.int .i64 (lenL p))))), (7, .u (.one (.d (.int .i64 a))))]) (fun stt : Int × Int => match stt with | (n, a) => []) (F_pattern_Top_1 cx p) (b_pattern_Top_1 p) (fun _ => by rfl) (fun _ => by rfl) ?_ hh hE
  rintro ⟨n, a⟩ r hm ρ σ hf
  simp only [Fits, FitE, FitS, and_true] at hf
  unfold b_pattern_Top_1 at hm
  dsimp only at hm
  refine sw_regs tb_ok (by rw [hn]; kernel_rfl) ?_
  simp -dsimp [hf]
  refine sw_seq ?_
  rcases bifE hm with ⟨c1, hm⟩ | ⟨c1, hm⟩
  · refine sw_cond_t (b := (ltB a (lenL p))) (by simp -dsimp) c1 ?_
    refine swp_skip ?_
    refine thenQ_n ?_
    refine sw_seq ?_
    refine sw_block ?_
    refine sw_regs tb_ok (by rw [hn]; kernel_rfl) ?_
    simp -dsimp [hf, c1]
    refine sw_reg tb_ok (by rw [hn]; kernel_rfl) ?_
    obtain ⟨x, h2, hm⟩ := bnd hm
    simp -dsimp [hf, h2]
    refine blk_n ?_
    refine thenQ_n ?_
    refine sw_reg tb_ok (by rw [hn]; kernel_rfl) ?_
    simp -dsimp [hf]
    cases hm
    refine rd_next ?_
    refine EE.here ?_
    simp -dsimp [hf]

  · refine sw_cond_f (b := (ltB a (lenL p))) (by simp -dsimp) c1 ?_
    refine swp_exit ?_
    refine then_x ?_
    cases hm
    refine rd_out nofun ?_
    unfold F_pattern_Top_1
    dsimp only
    refine ⟨rfl, ?_⟩
    refine EE.here ?_
    simp -dsimp [hf, c1]

theorem f_pattern_Top (p : List Cell) (r : Int) (hm : m_pattern_Top p = some r) : PFn Tryz.prog 58 [.u (.one (.d (.sl 3 (List.map Cell.row p))))] (fun v => v.wk (.u (.one (.d (.int .i64 r))))) := by
  refine pfn_E tb_ok _ Tryz.func58 rfl (by kernel_rfl) (by simp [Tryz.ntmps58]) fun cx hn => ?_
  replace hn : cx.n = 19 := hn.trans Tryz.ntmps58
  unfold m_pattern_Top at hm
  refine sw_regs tb_ok (by rw [hn]; kernel_rfl) ?_
  simp -dsimp []
  refine sw_regs tb_ok (by rw [hn]; kernel_rfl) ?_
  simp -dsimp []
  refine sw_seq ?_
  refine sw_regs tb_ok (by rw [hn]; kernel_rfl) ?_
  simp -dsimp []
  refine sw_block ?_
  obtain ⟨n, g3, hm⟩ := bnd hm
  refine sw_ent [(0, .u (.one (.d (.sl 3 (List.map Cell.row p))))), (3, .u (.one (.d (.int .i64 0)))), (6, .u (.one (.d (.int .i64 (lenL p))))), (7, .u (.one (.d (.int .i64 0))))] [] (by rfl) (by rfl) (by
      refine EE.here ?_
      simp -dsimp []
  ) fun ρ σ hf => ?_
  refine (l_pattern_Top_1 cx hn p g3 hf).mono fun ee ρ σ x4 => ?_
  unfold F_pattern_Top_1 at x4
  dsimp only at x4
  obtain ⟨rfl, x4⟩ := x4
  refine blk_exit ?_
  refine thenQ_n ?_
  refine sw_ee (by rfl) (by rfl) x4 fun ρ σ hf => ?_
  simp only [Fits, FitE, FitS, and_true] at hf
  refine sw_regs tb_ok (by rw [hn]; kernel_rfl) ?_
  simp -dsimp [hf]
  refine swp_ret ?_
  cases hm
  refine ⟨.inr rfl, ?_⟩
  refine EE.here ?_
  simp -dsimp

theorem c_pattern_Top (p : List Cell) (r : Int) (hm : m_pattern_Top p = some r) : PureCall Tryz.prog 58 [.u (.one (.d (.sl 3 (List.map Cell.row p))))] (.u (.one (.d (.int .i64 r)))) := (f_pattern_Top p r hm).pureW
theorem f_direct_check (t : Tree) (p : List Cell) (r : Int) (hm : m_direct_check t p = some r) : PFn Tryz.prog 35 [.u (.agg [.d (.int .i64 t.States), .d (.sl 2 (List.map Point.row t.Hood)), .d (.sl 2 (List.map Node.row t.Nodes))]), .u (.one (.d (.sl 3 (List.map Cell.row p))))] (fun v => v.wk (.u (.one (.d (.int .i64 r))))) := by
  refine pfn_E tb_ok _ Tryz.func35 rfl (by kernel_rfl) (by simp [Tryz.ntmps35]) fun cx hn => ?_
  replace hn : cx.n = 19 := hn.trans Tryz.ntmps35
  unfold m_direct_check at hm
  refine sw_regs tb_ok (by rw [hn]; kernel_rfl) ?_
  simp -dsimp []
  refine sw_seq ?_
  refine sw_block ?_
  refine sw_regs tb_ok (by rw [hn]; kernel_rfl) ?_
  obtain ⟨y, h1, hm⟩ := bnd hm
  simp -dsimp []
  refine callL_pure (c_tree_Quiet t y h1) (by rw [hn]; decide) ?_
  simp -dsimp
  rcases bifE hm with ⟨c2, hm⟩ | ⟨c2, hm⟩
  · refine sw_cond_t (b := (notB y)) (by simp -dsimp) c2 ?_
    refine sw_regs tb_ok (by rw [hn]; kernel_rfl) ?_
    simp -dsimp [c2]
    refine swp_ret ?_
    refine blk_r ?_
    refine then_x ?_
    cases hm
    refine ⟨.inr rfl, ?_⟩
    refine EE.here ?_
    simp -dsimp

  · refine sw_cond_f (b := (notB y)) (by simp -dsimp) c2 ?_
    refine sw_regs tb_ok (by rw [hn]; kernel_rfl) ?_
    obtain ⟨y1, h3, hm⟩ := bnd hm
    simp -dsimp [c2]
    refine callL_pure (c_pattern_Right p y1 h3) (by rw [hn]; decide) ?_
    simp -dsimp
    rcases bifE hm with ⟨c4, hm⟩ | ⟨c4, hm⟩
    · refine sw_cond_t (b := (notB y1)) (by simp -dsimp) c4 ?_
      refine sw_regs tb_ok (by rw [hn]; kernel_rfl) ?_
      simp -dsimp [c4]
      refine swp_ret ?_
      refine blk_r ?_
      refine then_x ?_
      cases hm
      refine ⟨.inr rfl, ?_⟩
      refine EE.here ?_
      simp -dsimp

    · refine sw_cond_f (b := (notB y1)) (by simp -dsimp) c4 ?_
      refine sw_qts tb_ok mixed (by rw [hn]; kernel_rfl) ?_
      obtain ⟨y2, h5, hm⟩ := bnd hm
      simp -dsimp [c4]
      refine qcallL_pure (c_pattern_Top p y2 h5) ?_
      simp -dsimp
      rcases bifE hm with ⟨c6, hm⟩ | ⟨c6, hm⟩
      · refine sw_cond_t (b := (geB y2 t.States)) (by simp -dsimp) c6 ?_
        refine sw_regs tb_ok (by rw [hn]; kernel_rfl) ?_
        simp -dsimp [c6]
        refine swp_ret ?_
        refine blk_r ?_
        refine then_x ?_
        cases hm
        refine ⟨.inr rfl, ?_⟩
        refine EE.here ?_
        simp -dsimp

      · refine sw_cond_f (b := (geB y2 t.States)) (by simp -dsimp) c6 ?_
        refine swp_skip ?_
        refine blk_n ?_
        refine thenQ_n ?_
        refine sw_regs tb_ok (by rw [hn]; kernel_rfl) ?_
        simp -dsimp [c6]
        refine swp_ret ?_
        cases hm
        refine ⟨.inr rfl, ?_⟩
        refine EE.here ?_
        simp -dsimp

theorem c_direct_check (t : Tree) (p : List Cell) (r : Int) (hm : m_direct_check t p = some r) : PureCall Tryz.prog 35 [.u (.agg [.d (.int .i64 t.States), .d (.sl 2 (List.map Point.row t.Hood)), .d (.sl 2 (List.map Node.row t.Nodes))]), .u (.one (.d (.sl 3 (List.map Cell.row p))))] (.u (.one (.d (.int .i64 r)))) := (f_direct_check t p r hm).pureW
def F_direct_of_1 (cx : Cx) (_p : List Cell) (tt : (List (Point × Int))) (ee : Exit) (ρ : Env) (σ : Sto) : Prop := match tt with
  | m => ee = .exit 0 ∧ EE cx (FitsW [(3, .u (.one (.map 6)))] [(6, mOb (.ints 2) Point.key (uL (L.int .i64)) m)]) ρ σ
theorem l_direct_of_1 (cx : Cx) (hn : cx.n = 23) (_hk : cx.k = 0) (p : List Cell) {fu : Nat} {stt : Int × (List (Point × Int))} {tt : (List (Point × Int))} (hh : loopN (b_direct_of_1 p) fu stt = some tt) {ρ : Env} {σ : Sto}
    (hE : Fits ((fun stt : Int × (List (Point × Int)) => match stt with | (a, _m) => [(3, .u (.one (.map 6))), (7, .u (.one (.d (.sl 3 (List.map Cell.row p))))), (8, .u (.one (.d (.int .i64 (lenL p))))), (9, .u (.one (.d (.int .i64 a))))]) stt) ((fun stt : Int × (List (Point × Int)) => match stt with | (_a, m) => [(6, mOb (.ints 2) Point.key (uL (L.int .i64)) m)]) stt) ρ σ) : Swp Tryz.prog cx (.loop (csub [1, 1, 0, 1, 0, 0] (bodyOf Tryz.f59))) ρ σ (F_direct_of_1 cx p tt) := by
  refine loop_model (fun stt : Int × (List (Point × Int)) => match stt with | (a, m) => [(3, .u (.one (.map 6))), (7, .u (.one (.d (.sl 3 (List.map Cell.row p))))), (8, .u (.one (.d (.int .i64 (lenL p))))), (9, .u (.one (.d (.int .i64 a))))]) (fun stt : Int × (List (Point × Int)) => match stt with | (a, m) => [(6, mOb (.ints 2) Point.key (uL (L.int .i64)) m)]) (F_direct_of_1 cx p) (b_direct_of_1 p) (fun _ => by rfl) (fun _ => by rfl) ?_ hh hE
  rintro ⟨a, m⟩ r hm ρ σ hf
  simp only [Fits, FitE, FitS, and_true] at hf
  unfold b_direct_of_1 at hm
  dsimp only at hm
  refine sw_regs tb_ok (by rw [hn]; kernel_rfl) ?_
  simp -dsimp [hf]
  refine sw_seq ?_
  rcases bifE hm with ⟨c1, hm⟩ | ⟨c1, hm⟩
  · refine sw_cond_t (b := (ltB a (lenL p))) (by simp -dsimp) c1 ?_
    refine swp_skip ?_
    refine thenQ_n ?_
    refine sw_seq ?_
    refine sw_block ?_
    refine sw_regs tb_ok (by rw [hn]; kernel_rfl) ?_
    obtain ⟨x, h2, hm⟩ := bnd hm
    simp -dsimp [hf, c1, h2]
    refine sw_reg tb_ok (by rw [hn]; kernel_rfl) ?_
    obtain ⟨u, h3, hm⟩ := bnd hm
    simp -dsimp [hf, kckL_wf h3 (.head _), kckL_wf h3 (.tail _ (.head _)), (@id (msetOb (mOb (.ints 2) Point.key (uL (L.int .i64)) m) (.ints [x.X, x.Y]) (.one (.d (.int .i64 x.S))) = mOb (.ints 2) Point.key (uL (L.int .i64)) (msetL m (⟨x.X, x.Y⟩ : Point) x.S)) (mset_ob (.ints 2) Point.key (uL (L.int .i64)) m (⟨x.X, x.Y⟩ : Point) x.S))]
    refine blk_n ?_
    refine thenQ_n ?_
    refine sw_reg tb_ok (by rw [hn]; kernel_rfl) ?_
    simp -dsimp [hf]
    cases hm
    refine rd_next ?_
    refine EE.here ?_
    simp -dsimp [hf]

  · refine sw_cond_f (b := (ltB a (lenL p))) (by simp -dsimp) c1 ?_
    refine swp_exit ?_
    refine then_x ?_
    cases hm
    refine rd_out nofun ?_
    unfold F_direct_of_1
    dsimp only
    refine ⟨rfl, ?_⟩
    refine EE.here ?_
    simp -dsimp [hf, c1]

theorem g_direct_of (p : List Cell) (r : List (Point × Int)) (hm : m_direct_of p = some r) : GFn Tryz.prog 59 [.u (.one (.d (.sl 3 (List.map Cell.row p))))] [] (.u (.one (.map 1000000))) [some (mOb (.ints 2) Point.key (uL (L.int .i64)) r)] := by
  refine g_intro' tb_ok _ Tryz.func59 rfl (by kernel_rfl) (by simp [Tryz.ntmps59]) (by simp) (by first | rfl | simp) (by first | rfl | simp) fun cx hn hk => ?_
  replace hn : cx.n = 23 := hn.trans Tryz.ntmps59
  replace hk : cx.k = 0 := hk
  unfold m_direct_of at hm
  refine sw_regs tb_ok (by rw [hn]; kernel_rfl) ?_
  simp -dsimp []
  refine sw_regs tb_ok (by rw [hn]; kernel_rfl) ?_
  simp -dsimp [(@id (Ob.map (.ints 2) [] = mOb (.ints 2) Point.key (uL (L.int .i64)) ([] : List (Point × Int))) (mOb_nil (.ints 2) Point.key (uL (L.int .i64))))]
  refine sw_seq ?_
  refine sw_regs tb_ok (by rw [hn]; kernel_rfl) ?_
  simp -dsimp
  refine sw_block ?_
  obtain ⟨m, g4, hm⟩ := bnd hm
  refine sw_ent [(3, .u (.one (.map 6))), (7, .u (.one (.d (.sl 3 (List.map Cell.row p))))), (8, .u (.one (.d (.int .i64 (lenL p))))), (9, .u (.one (.d (.int .i64 0))))] [(6, mOb (.ints 2) Point.key (uL (L.int .i64)) [])] (by rfl) (by rfl) (by
      refine EE.here ?_
      simp -dsimp
  ) fun ρ σ hf => ?_
  refine (l_direct_of_1 cx hn hk p g4 hf).mono fun ee ρ σ x5 => ?_
  unfold F_direct_of_1 at x5
  dsimp only at x5
  obtain ⟨rfl, x5⟩ := x5
  refine blk_exit ?_
  refine thenQ_n ?_
  refine sw_ee (by rfl) (by rfl) x5 fun ρ σ hf => ?_
  simp only [Fits, FitE, FitS, and_true] at hf
  refine sw_regs tb_ok (by rw [hn]; kernel_rfl) ?_
  simp -dsimp [hf]
  refine swp_ret ?_
  cases hm
  refine ⟨.inr rfl, ?_⟩
  refine EE.step (Wk.move 6 1000000 (by decide) (.inr (by rw [hk]; decide))) ?_
  refine EE.here ?_
  simp -dsimp [hf]

def F_direct_cells_next_o_1 (cx : Cx) (m : List (Point × Int)) (_t : Tree) (_p : Point) (tt : Int) (ee : Exit) (ρ : Env) (σ : Sto) : Prop := match tt with
  | k => ee = .exit 0 ∧ EE cx (FitsW [(7, .u (.one (.d (.int .i64 k))))] [(1000000, mOb (.ints 2) Point.key (uL (L.int .i64)) m)]) ρ σ
theorem l_direct_cells_next_o_1 (cx : Cx) (hn : cx.n = 44) (_hk : cx.k = 1) (m : List (Point × Int)) (t : Tree) (p : Point) {fu : Nat} {stt : Int × Int} {tt : Int} (hh : loopN (b_direct_cells_next_o_1 m t p) fu stt = some tt) {ρ : Env} {σ : Sto}
    (hE : Fits ((fun stt : Int × Int => match stt with | (k, a) => [(0, .u (.one (.map 1000000))), (4, .u (.one (.box 4 0))), (5, .u (.one (.box 5 0))), (7, .u (.one (.d (.int .i64 k)))), (15, .u (.one (.d (.sl 2 (List.map Point.row t.Hood))))), (16, .u (.one (.d (.int .i64 (lenL t.Hood))))), (17, .u (.one (.d (.int .i64 a))))]) stt) ((fun stt : Int × Int => match stt with | (_k, _a) => [(4, .box [.d (.int .i64 t.States), .d (.sl 2 (List.map Point.row t.Hood)), .d (.sl 2 (List.map Node.row t.Nodes))]), (5, .box [.d (.int .i64 p.X), .d (.int .i64 p.Y)]), (1000000, mOb (.ints 2) Point.key (uL (L.int .i64)) m)]) stt) ρ σ) : Swp Tryz.prog cx (.loop (csub [1, 1, 0, 1, 0, 0] (bodyOf Tryz.f60))) ρ σ (F_direct_cells_next_o_1 cx m t p tt) := by
  refine loop_model (fun stt : Int × Int => match stt with | (k, a) => [(0, .u (.one (.map 1000000))), (4, .u (.one (.box 4 0))), (5, .u (.one (.box 5 0))), (7, .u (.one (.d (.int .i64 k)))), (15, .u (.one (.d (.sl 2 (List.map Point.row t.Hood))))), (16, .u (.one (.d (.int .i64 (lenL t.Hood))))), (17, .u (.one (.d (.int .i64 a))))]) (fun stt : Int × Int => match stt with | (k, a) => [(4, .box [.d (.int .i64 t.States), .d (.sl 2 (List.map Point.row t.Hood)), .d (.sl 2 (List.map Node.row t.Nodes))]), (5, .box [.d (.int .i64 p.X), .d (.int .i64 p.Y)]), (1000000, mOb (.ints 2) Point.key (uL (L.int .i64)) m)]) (F_direct_cells_next_o_1 cx m t p) (b_direct_cells_next_o_1 m t p) (fun _ => by rfl) (fun _ => by rfl) ?_ hh hE
  rintro ⟨k, a⟩ r hm ρ σ hf
  simp only [Fits, FitE, FitS, and_true] at hf
  unfold b_direct_cells_next_o_1 at hm
  dsimp only at hm
  refine sw_regs tb_ok (by rw [hn]; kernel_rfl) ?_
  simp -dsimp [hf]
  refine sw_seq ?_
  rcases bifE hm with ⟨c1, hm⟩ | ⟨c1, hm⟩
  · refine sw_cond_t (b := (ltB a (lenL t.Hood))) (by simp -dsimp) c1 ?_
    refine swp_skip ?_
    refine thenQ_n ?_
    refine sw_seq ?_
    refine sw_block ?_
    refine sw_regs tb_ok (by rw [hn]; kernel_rfl) ?_
    obtain ⟨x, h2, hm⟩ := bnd hm
    simp -dsimp [hf, c1, h2]
    refine sw_qt tb_ok mixed (by rw [hn]; kernel_rfl) ?_
    obtain ⟨x1, h3, hm⟩ := bnd hm
    obtain ⟨u, h4, hm⟩ := bnd hm
    obtain ⟨x2, h5, hm⟩ := bnd hm
    simp -dsimp [hf, h3, kckL_wf h4 (.head _), kckL_wf h4 (.tail _ (.head _)), (@id (lkM (mgetOb (mOb (.ints 2) Point.key (uL (L.int .i64)) m) (.ints [(iadd .i64 p.X x.X), (iadd .i64 p.Y x.Y)])) false (.one (.d (.int .i64 0))) = some (.u (.one (.d (.int .i64 (mgetD m (⟨(iadd .i64 p.X x.X), (iadd .i64 p.Y x.Y)⟩ : Point) 0)))))) (lk_val (⟨(iadd .i64 p.X x.X), (iadd .i64 p.Y x.Y)⟩ : Point) 0)), h5]
    refine blk_n ?_
    refine thenQ_n ?_
    refine sw_reg tb_ok (by rw [hn]; kernel_rfl) ?_
    simp -dsimp [hf]
    cases hm
    refine rd_next ?_
    refine EE.here ?_
    simp -dsimp [hf]

  · refine sw_cond_f (b := (ltB a (lenL t.Hood))) (by simp -dsimp) c1 ?_
    refine swp_exit ?_
    refine then_x ?_
    cases hm
    refine rd_out nofun ?_
    unfold F_direct_cells_next_o_1
    dsimp only
    refine ⟨rfl, ?_⟩
    refine EE.here ?_
    simp -dsimp [hf, c1]

theorem g_direct_cells_next_o (m : List (Point × Int)) (t : Tree) (p : Point) (r : Int) (hm : m_direct_cells_next_o m t p = some r) : GFn Tryz.prog 60 [.u (.one (.map 1000000)), .u (.agg [.d (.int .i64 t.States), .d (.sl 2 (List.map Point.row t.Hood)), .d (.sl 2 (List.map Node.row t.Nodes))]), .u (.agg [.d (.int .i64 p.X), .d (.int .i64 p.Y)])] [mOb (.ints 2) Point.key (uL (L.int .i64)) m] (.u (.one (.d (.int .i64 r)))) [some (mOb (.ints 2) Point.key (uL (L.int .i64)) m)] := by
  refine g_intro' tb_ok _ Tryz.func60 rfl (by kernel_rfl) (by simp [Tryz.ntmps60]) (by simp) (by first | rfl | simp) (by first | rfl | simp) fun cx hn hk => ?_
  replace hn : cx.n = 44 := hn.trans Tryz.ntmps60
  replace hk : cx.k = 1 := hk
  unfold m_direct_cells_next_o at hm
  refine sw_regs tb_ok (by rw [hn]; kernel_rfl) ?_
  simp -dsimp []
  refine sw_regs tb_ok (by rw [hn]; kernel_rfl) ?_
  simp -dsimp []
  refine sw_seq ?_
  refine sw_regs tb_ok (by rw [hn]; kernel_rfl) ?_
  simp -dsimp []
  refine sw_block ?_
  obtain ⟨k, g6, hm⟩ := bnd hm
  refine sw_ent [(0, .u (.one (.map 1000000))), (4, .u (.one (.box 4 0))), (5, .u (.one (.box 5 0))), (7, .u (.one (.d (.int .i64 (isub .i64 (lenL t.Nodes) 1))))), (15, .u (.one (.d (.sl 2 (List.map Point.row t.Hood))))), (16, .u (.one (.d (.int .i64 (lenL t.Hood))))), (17, .u (.one (.d (.int .i64 0))))] [(4, .box [.d (.int .i64 t.States), .d (.sl 2 (List.map Point.row t.Hood)), .d (.sl 2 (List.map Node.row t.Nodes))]), (5, .box [.d (.int .i64 p.X), .d (.int .i64 p.Y)]), (1000000, mOb (.ints 2) Point.key (uL (L.int .i64)) m)] (by rfl) (by rfl) (by
      refine EE.here ?_
      simp -dsimp []
  ) fun ρ σ hf => ?_
  refine (l_direct_cells_next_o_1 cx hn hk m t p g6 hf).mono fun ee ρ σ x7 => ?_
  unfold F_direct_cells_next_o_1 at x7
  dsimp only at x7
  obtain ⟨rfl, x7⟩ := x7
  refine blk_exit ?_
  refine thenQ_n ?_
  refine sw_ee (by rfl) (by rfl) x7 fun ρ σ hf => ?_
  simp only [Fits, FitE, FitS, and_true] at hf
  refine sw_regs tb_ok (by rw [hn]; kernel_rfl) ?_
  simp -dsimp [hf]
  refine swp_ret ?_
  cases hm
  refine ⟨.inr rfl, ?_⟩
  refine EE.here ?_
  simp -dsimp [hf]

theorem f_direct_place (p : Point) (r : Bool) (hm : m_direct_place p = some r) : PFn Tryz.prog 61 [.u (.agg [.d (.int .i64 p.X), .d (.int .i64 p.Y)])] (fun v => v.wk (.u (.one (.d (.bool r))))) := by
  refine pfn_E tb_ok _ Tryz.func61 rfl (by kernel_rfl) (by simp [Tryz.ntmps61]) fun cx hn => ?_
  replace hn : cx.n = 17 := hn.trans Tryz.ntmps61
  unfold m_direct_place at hm
  refine sw_regs tb_ok (by rw [hn]; kernel_rfl) ?_
  simp -dsimp []
  obtain ⟨a, j2, hm⟩ := bnd hm
  refine sw_cutE [(2, .u (.one (.d (.bool a))))] [] (by rfl) (by rfl) ?_ fun ρ σ hf => ?_
  · replace hm := j2
    clear j2
    refine sw_reg tb_ok (by rw [hn]; kernel_rfl) ?_
    rcases bifE hm with ⟨c1, hm⟩ | ⟨c1, hm⟩
    · simp -dsimp [c1]
      refine thenQ_n ?_
      cases hm
      refine EE.here ?_
      simp -dsimp

    · simp -dsimp [c1]
      refine thenQ_n ?_
      cases hm
      refine EE.here ?_
      simp -dsimp

  · clear j2
    simp only [Fits, FitE, FitS, and_true] at hf
    refine swp_ret ?_
    cases hm
    refine ⟨.inr rfl, ?_⟩
    refine EE.here ?_
    simp -dsimp [hf]

theorem c_direct_place (p : Point) (r : Bool) (hm : m_direct_place p = some r) : PureCall Tryz.prog 61 [.u (.agg [.d (.int .i64 p.X), .d (.int .i64 p.Y)])] (.u (.one (.d (.bool r)))) := (f_direct_place p r hm).pureW
end Go.Proofs.YtdjclgfbggfpaaaGreatDoor
