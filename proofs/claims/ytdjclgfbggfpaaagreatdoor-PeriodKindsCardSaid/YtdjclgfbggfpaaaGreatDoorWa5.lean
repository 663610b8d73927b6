/-
  That the code does what the functions say (made by cc.py).
-/
import Derived.Test.YtdjclgfbggfpaaaGreatDoorMd1
import Derived.Test.YtdjclgfbggfpaaaGreatDoorTb
import Derived.Test.YtdjclgfbggfpaaaGreatDoorWa1
import Derived.Test.YtdjclgfbggfpaaaGreatDoorWa4
namespace Go.Proofs.YtdjclgfbggfpaaaGreatDoor
open Go.AM Go.Proofs
attribute [-simp] qlookup rMapSet rDelete dropIt_apply Ob.wipe Ob.ren Ob.frz1
def F_period_moved_1 (cx : Cx) (_a : List Cell) (_b : List Cell) (x : Cell) (x1 : Cell) (tt : (Int × Int × Bool) ⊕ Unit) (ee : Exit) (ρ : Env) (σ : Sto) : Prop := match tt with
  | .inl r => ee = .ret ∧ EE cx (fun ρ σ => ∃ v, resV tb ρ σ Tryz.f30.results.toList = some v ∧ (v.frz σ).free = true ∧ (v.frz σ).wk (.tup [.one (.d (.int .i64 r.1)), .one (.d (.int .i64 r.2.1)), .one (.d (.bool r.2.2))])) ρ σ
  | .inr _u => ee = .exit 0 ∧ EE cx (FitsW [(4, .u (.one (.d (.int .i64 (isub .i64 x.X x1.X))))), (5, .u (.one (.d (.int .i64 (isub .i64 x.Y x1.Y)))))] []) ρ σ
theorem l_period_moved_1 (cx : Cx) (hn : cx.n = 69) (a : List Cell) (b : List Cell) (x : Cell) (x1 : Cell) {fu : Nat} {stt : Int} {tt : (Int × Int × Bool) ⊕ Unit} (hh : loopN (b_period_moved_1 a b x x1) fu stt = some tt) {ρ : Env} {σ : Sto}
    (hE : Fits ((fun a2 : Int => [(0, .u (.one (.d (.sl 3 (List.map Cell.row a))))), (1, .u (.one (.d (.sl 3 (List.map Cell.row b))))), (4, .u (.one (.d (.int .i64 (isub .i64 x.X x1.X))))), (5, .u (.one (.d (.int .i64 (isub .i64 x.Y x1.Y))))), (37, .u (.one (.d (.int .i64 (lenL a))))), (38, .u (.one (.d (.int .i64 a2))))]) stt) ((fun _a2 : Int => []) stt) ρ σ) : Swp Tryz.prog cx (.loop (csub [1, 1, 1, 0, 1, 0, 0] (bodyOf Tryz.f30))) ρ σ (F_period_moved_1 cx a b x x1 tt) := by
  refine loop_model (fun a2 : Int => [(0, .u (.one (.d (.sl 3 (List.map Cell.row a))))), (1, .u (.one (.d (.sl 3 (List.map Cell.row b))))), (4, .u (.one (.d (.int .i64 (isub .i64 x.X x1.X))))), (5, .u (.one (.d (.int .i64 (isub .i64 x.Y x1.Y))))), (37, .u (.one (.d (.int .i64 (lenL a))))), (38, .u (.one (.d (.int .i64 a2))))]) (fun a2 : Int => []) (F_period_moved_1 cx a b x x1) (b_period_moved_1 a b x x1) (fun a2 => by rfl) (fun a2 => by rfl) ?_ hh hE
  rintro a2 r hm ρ σ hf
  simp only [Fits, FitE, FitS, and_true] at hf
  unfold b_period_moved_1 at hm
  dsimp only at hm
  refine sw_regs tb_ok (by rw [hn]; kernel_rfl) ?_
  simp -dsimp [hf]
  refine sw_seq ?_
  rcases bifE hm with ⟨c5, hm⟩ | ⟨c5, hm⟩
  · refine sw_cond_t (b := (ltB a2 (lenL a))) (by simp -dsimp) c5 ?_
    refine swp_skip ?_
    refine thenQ_n ?_
    refine sw_seq ?_
    refine sw_block ?_
    refine sw_regs tb_ok (by rw [hn]; kernel_rfl) ?_
    simp -dsimp [hf, c5]
    refine sw_qts tb_ok mixed (by rw [hn]; kernel_rfl) ?_
    obtain ⟨x2, h6, hm⟩ := bnd hm
    obtain ⟨x3, h7, hm⟩ := bnd hm
    simp -dsimp [hf, h6, h7]
    rcases bifE hm with ⟨c8, hm⟩ | ⟨c8, hm⟩
    · refine sw_cond_t (b := (notB (andB (eqB x2.X (iadd .i64 x3.X (isub .i64 x.X x1.X))) (andB (eqB x2.Y (iadd .i64 x3.Y (isub .i64 x.Y x1.Y))) (andB (eqB x2.S x3.S) true))))) (by simp -dsimp) c8 ?_
      refine sw_regs tb_ok (by rw [hn]; kernel_rfl) ?_
      simp -dsimp [c8]
      refine swp_ret ?_
      refine blk_r ?_
      refine then_x ?_
      cases hm
      refine rd_out nofun ?_
      unfold F_period_moved_1
      dsimp only
      refine ⟨rfl, ?_⟩
      refine EE.here ?_
      simp -dsimp [Tryz.results30]

    · refine sw_cond_f (b := (notB (andB (eqB x2.X (iadd .i64 x3.X (isub .i64 x.X x1.X))) (andB (eqB x2.Y (iadd .i64 x3.Y (isub .i64 x.Y x1.Y))) (andB (eqB x2.S x3.S) true))))) (by simp -dsimp) c8 ?_
      refine swp_skip ?_
      refine blk_n ?_
      refine thenQ_n ?_
      refine sw_reg tb_ok (by rw [hn]; kernel_rfl) ?_
      simp -dsimp [hf, c8]
      cases hm
      refine rd_next ?_
      refine EE.here ?_
      simp -dsimp [hf]

  · refine sw_cond_f (b := (ltB a2 (lenL a))) (by simp -dsimp) c5 ?_
    refine swp_exit ?_
    refine then_x ?_
    cases hm
    refine rd_out nofun ?_
    unfold F_period_moved_1
    dsimp only
    refine ⟨rfl, ?_⟩
    refine EE.here ?_
    simp -dsimp [hf, c5]

theorem f_period_moved (a : List Cell) (b : List Cell) (r : Int × Int × Bool) (hm : m_period_moved a b = some r) : PFn Tryz.prog 30 [.u (.one (.d (.sl 3 (List.map Cell.row a)))), .u (.one (.d (.sl 3 (List.map Cell.row b))))] (fun v => v.wk (.tup [.one (.d (.int .i64 r.1)), .one (.d (.int .i64 r.2.1)), .one (.d (.bool r.2.2))])) := by
  refine pfn_E tb_ok _ Tryz.func30 rfl (by kernel_rfl) (by simp [Tryz.ntmps30]) fun cx hn => ?_
  replace hn : cx.n = 69 := hn.trans Tryz.ntmps30
  unfold m_period_moved at hm
  refine sw_regs tb_ok (by rw [hn]; kernel_rfl) ?_
  simp -dsimp []
  refine sw_seq ?_
  obtain ⟨a1, j11, hm⟩ := bnd hm
  refine sw_cutE [(0, .u (.one (.d (.sl 3 (List.map Cell.row a))))), (1, .u (.one (.d (.sl 3 (List.map Cell.row b))))), (17, .u (.one (.d (.bool a1))))] [] (by rfl) (by rfl) ?_ fun ρ σ hf => ?_
  · replace hm := j11
    clear j11
    refine sw_reg tb_ok (by rw [hn]; kernel_rfl) ?_
    rcases bifE hm with ⟨c1, hm⟩ | ⟨c1, hm⟩
    · simp -dsimp [c1]
      refine thenQ_n ?_
      cases hm
      refine EE.here ?_
      simp -dsimp

    · simp -dsimp [c1]
      refine thenQ_n ?_
      cases hm
      refine EE.here ?_
      simp -dsimp

  · clear j11
    simp only [Fits, FitE, FitS, and_true] at hf
    rcases bifE hm with ⟨c2, hm⟩ | ⟨c2, hm⟩
    · refine sw_cond_t (b := a1) (by simp -dsimp [hf]) c2 ?_
      refine sw_regs tb_ok (by rw [hn]; kernel_rfl) ?_
      simp -dsimp
      refine swp_ret ?_
      refine then_x ?_
      cases hm
      refine ⟨.inr rfl, ?_⟩
      refine EE.here ?_
      simp -dsimp

    · refine sw_cond_f (b := a1) (by simp -dsimp [hf]) c2 ?_
      refine swp_skip ?_
      refine thenQ_n ?_
      refine sw_qts tb_ok mixed (by rw [hn]; kernel_rfl) ?_
      obtain ⟨x, h3, hm⟩ := bnd hm
      obtain ⟨x1, h4, hm⟩ := bnd hm
      simp -dsimp [hf, h3, h4]
      refine sw_seq ?_
      refine sw_regs tb_ok (by rw [hn]; kernel_rfl) ?_
      simp -dsimp [hf]
      refine sw_block ?_
      obtain ⟨o_, g9, hm⟩ := bnd hm
      refine sw_ent [(0, .u (.one (.d (.sl 3 (List.map Cell.row a))))), (1, .u (.one (.d (.sl 3 (List.map Cell.row b))))), (4, .u (.one (.d (.int .i64 (isub .i64 x.X x1.X))))), (5, .u (.one (.d (.int .i64 (isub .i64 x.Y x1.Y))))), (37, .u (.one (.d (.int .i64 (lenL a))))), (38, .u (.one (.d (.int .i64 0))))] [] (by rfl) (by rfl) (by
          refine EE.here ?_
          simp -dsimp [hf]
      ) fun ρ σ hf => ?_
      refine (l_period_moved_1 cx hn a b x x1 g9 hf).mono fun ee ρ σ x10 => ?_
      rcases o_ with r | _u
      · unfold F_period_moved_1 at x10
        dsimp only at x10
        obtain ⟨rfl, x10⟩ := x10
        refine blk_r ?_
        refine then_x ?_
        cases hm
        exact ⟨.inr rfl, x10⟩

      · unfold F_period_moved_1 at x10
        dsimp only at x10
        obtain ⟨rfl, x10⟩ := x10
        refine blk_exit ?_
        refine thenQ_n ?_
        refine sw_ee (by rfl) (by rfl) x10 fun ρ σ hf => ?_
        simp only [Fits, FitE, FitS, and_true] at hf
        refine sw_regs tb_ok (by rw [hn]; kernel_rfl) ?_
        simp -dsimp [hf]
        refine swp_ret ?_
        cases hm
        refine ⟨.inr rfl, ?_⟩
        refine EE.here ?_
        simp -dsimp

theorem c_period_moved (a : List Cell) (b : List Cell) (r : Int × Int × Bool) (hm : m_period_moved a b = some r) : PureCall Tryz.prog 30 [.u (.one (.d (.sl 3 (List.map Cell.row a)))), .u (.one (.d (.sl 3 (List.map Cell.row b))))] (.tup [.one (.d (.int .i64 r.1)), .one (.d (.int .i64 r.2.1)), .one (.d (.bool r.2.2))]) := (f_period_moved a b r hm).pureW
def F_period_Find_1 (cx : Cx) (_t : Tree) (_p : List Cell) (_most : Int) (tt : (Motion × Bool × Int) ⊕ Unit) (ee : Exit) (ρ : Env) (σ : Sto) : Prop := match tt with
  | .inl r => ee = .ret ∧ EE cx (fun ρ σ => ∃ v, resV tb ρ σ Tryz.f12.results.toList = some v ∧ (v.frz σ).free = true ∧ (v.frz σ).wk (.tup [.agg [.d (.int .i64 r.1.Period), .d (.int .i64 r.1.DX), .d (.int .i64 r.1.DY)], .one (.d (.bool r.2.1)), .one (.d (.int .i64 r.2.2))])) ρ σ
  | .inr _u => ee = .exit 0 ∧ EE cx (FitsW [(6, .u (.one (.box 6 0)))] [(6, .box [.d (.int .i64 0), .d (.int .i64 0), .d (.int .i64 0)])]) ρ σ
theorem l_period_Find_1 (cx : Cx) (hn : cx.n = 67) (t : Tree) (p : List Cell) (most : Int) {fu : Nat} {stt : (List Cell) × Int} {tt : (Motion × Bool × Int) ⊕ Unit} (hh : loopN (b_period_Find_1 t p most) fu stt = some tt) {ρ : Env} {σ : Sto}
    (hE : Fits ((fun stt : (List Cell) × Int => match stt with | (q, g) => [(1, .u (.one (.d (.sl 3 (List.map Cell.row p))))), (2, .u (.one (.d (.int .i64 most)))), (3, .u (.one (.box 3 0))), (6, .u (.one (.box 6 0))), (11, .u (.one (.d (.sl 3 (List.map Cell.row q))))), (12, .u (.one (.d (.int .i64 g))))]) stt) ((fun stt : (List Cell) × Int => match stt with | (_q, _g) => [(3, .box [.d (.int .i64 t.States), .d (.sl 2 (List.map Point.row t.Hood)), .d (.sl 2 (List.map Node.row t.Nodes))]), (6, .box [.d (.int .i64 0), .d (.int .i64 0), .d (.int .i64 0)])]) stt) ρ σ) : Swp Tryz.prog cx (.loop (csub [1, 1, 1, 1, 0, 1, 0, 0] (bodyOf Tryz.f12))) ρ σ (F_period_Find_1 cx t p most tt) := by
  refine loop_model (fun stt : (List Cell) × Int => match stt with | (q, g) => [(1, .u (.one (.d (.sl 3 (List.map Cell.row p))))), (2, .u (.one (.d (.int .i64 most)))), (3, .u (.one (.box 3 0))), (6, .u (.one (.box 6 0))), (11, .u (.one (.d (.sl 3 (List.map Cell.row q))))), (12, .u (.one (.d (.int .i64 g))))]) (fun stt : (List Cell) × Int => match stt with | (q, g) => [(3, .box [.d (.int .i64 t.States), .d (.sl 2 (List.map Point.row t.Hood)), .d (.sl 2 (List.map Node.row t.Nodes))]), (6, .box [.d (.int .i64 0), .d (.int .i64 0), .d (.int .i64 0)])]) (F_period_Find_1 cx t p most) (b_period_Find_1 t p most) (fun _ => by rfl) (fun _ => by rfl) ?_ hh hE
  rintro ⟨q, g⟩ r hm ρ σ hf
  simp only [Fits, FitE, FitS, and_true] at hf
  unfold b_period_Find_1 at hm
  dsimp only at hm
  refine sw_seq ?_
  obtain ⟨a, j11, hm⟩ := bnd hm
  refine sw_cutE [(1, .u (.one (.d (.sl 3 (List.map Cell.row p))))), (2, .u (.one (.d (.int .i64 most)))), (3, .u (.one (.box 3 0))), (6, .u (.one (.box 6 0))), (11, .u (.one (.d (.sl 3 (List.map Cell.row q))))), (12, .u (.one (.d (.int .i64 g)))), (40, .u (.one (.d (.bool a))))] [(3, .box [.d (.int .i64 t.States), .d (.sl 2 (List.map Point.row t.Hood)), .d (.sl 2 (List.map Node.row t.Nodes))]), (6, .box [.d (.int .i64 0), .d (.int .i64 0), .d (.int .i64 0)])] (by rfl) (by rfl) ?_ fun ρ σ hf => ?_
  · replace hm := j11
    clear j11
    refine sw_reg tb_ok (by rw [hn]; kernel_rfl) ?_
    rcases bifE hm with ⟨c5, hm⟩ | ⟨c5, hm⟩
    · simp -dsimp [hf, c5]
      refine thenQ_n ?_
      cases hm
      refine EE.here ?_
      simp -dsimp [hf]

    · simp -dsimp [hf, c5]
      refine thenQ_n ?_
      cases hm
      refine EE.here ?_
      simp -dsimp [hf]

  · clear j11
    simp only [Fits, FitE, FitS, and_true] at hf
    rcases bifE hm with ⟨c6, hm⟩ | ⟨c6, hm⟩
    · refine sw_cond_t (b := a) (by simp -dsimp [hf]) c6 ?_
      refine swp_skip ?_
      refine thenQ_n ?_
      refine sw_seq ?_
      refine sw_block ?_
      refine sw_regs tb_ok (by rw [hn]; kernel_rfl) ?_
      obtain ⟨y2, h7, hm⟩ := bnd hm
      simp -dsimp [hf]
      refine callL_pure (c_direct_Step t q y2 h7) (by rw [hn]; decide) ?_
      simp -dsimp
      refine sw_seq ?_
      refine sw_regs tb_ok (by rw [hn]; kernel_rfl) ?_
      simp -dsimp
      rcases bifE hm with ⟨c8, hm⟩ | ⟨c8, hm⟩
      · refine sw_cond_t (b := (neB y2.2 0)) (by simp -dsimp) c8 ?_
        refine sw_regs tb_ok (by rw [hn]; kernel_rfl) ?_
        simp -dsimp [hf, c8]
        refine swp_ret ?_
        refine then_x ?_
        refine blk_r ?_
        refine then_x ?_
        cases hm
        refine rd_out nofun ?_
        unfold F_period_Find_1
        dsimp only
        refine ⟨rfl, ?_⟩
        refine EE.here ?_
        simp -dsimp [hf, Tryz.results12]

      · refine sw_cond_f (b := (neB y2.2 0)) (by simp -dsimp) c8 ?_
        refine swp_skip ?_
        refine thenQ_n ?_
        refine sw_regs tb_ok (by rw [hn]; kernel_rfl) ?_
        simp -dsimp [c8]
        refine sw_regs tb_ok (by rw [hn]; kernel_rfl) ?_
        obtain ⟨y3, h9, hm⟩ := bnd hm
        simp -dsimp [hf]
        refine callL_pure (c_period_moved p y2.1 y3 h9) (by rw [hn]; decide) ?_
        simp -dsimp
        refine sw_regs tb_ok (by rw [hn]; kernel_rfl) ?_
        simp -dsimp
        rcases bifE hm with ⟨c10, hm⟩ | ⟨c10, hm⟩
        · refine sw_cond_t (b := y3.2.2) (by simp -dsimp) c10 ?_
          refine sw_regs tb_ok (by rw [hn]; kernel_rfl) ?_
          simp -dsimp [hf, c10]
          refine swp_ret ?_
          refine blk_r ?_
          refine then_x ?_
          cases hm
          refine rd_out nofun ?_
          unfold F_period_Find_1
          dsimp only
          refine ⟨rfl, ?_⟩
          refine EE.here ?_
          simp -dsimp [hf, Tryz.results12]

        · refine sw_cond_f (b := y3.2.2) (by simp -dsimp) c10 ?_
          refine swp_skip ?_
          refine blk_n ?_
          refine thenQ_n ?_
          refine sw_reg tb_ok (by rw [hn]; kernel_rfl) ?_
          simp -dsimp [hf, c10]
          cases hm
          refine rd_next ?_
          refine EE.here ?_
          simp -dsimp [hf]

    · refine sw_cond_f (b := a) (by simp -dsimp [hf]) c6 ?_
      refine swp_exit ?_
      refine then_x ?_
      cases hm
      refine rd_out nofun ?_
      unfold F_period_Find_1
      dsimp only
      refine ⟨rfl, ?_⟩
      refine EE.here ?_
      simp -dsimp [hf]

theorem f_period_Find (t : Tree) (p : List Cell) (most : Int) (r : Motion × Bool × Int) (hm : m_period_Find t p most = some r) : PFn Tryz.prog 12 [.u (.agg [.d (.int .i64 t.States), .d (.sl 2 (List.map Point.row t.Hood)), .d (.sl 2 (List.map Node.row t.Nodes))]), .u (.one (.d (.sl 3 (List.map Cell.row p)))), .u (.one (.d (.int .i64 most)))] (fun v => v.wk (.tup [.agg [.d (.int .i64 r.1.Period), .d (.int .i64 r.1.DX), .d (.int .i64 r.1.DY)], .one (.d (.bool r.2.1)), .one (.d (.int .i64 r.2.2))])) := by
  refine pfn_E tb_ok _ Tryz.func12 rfl (by kernel_rfl) (by simp [Tryz.ntmps12]) fun cx hn => ?_
  replace hn : cx.n = 67 := hn.trans Tryz.ntmps12
  unfold m_period_Find at hm
  refine sw_regs tb_ok (by rw [hn]; kernel_rfl) ?_
  simp -dsimp []
  refine sw_seq ?_
  refine sw_regs tb_ok (by rw [hn]; kernel_rfl) ?_
  obtain ⟨y, h1, hm⟩ := bnd hm
  simp -dsimp []
  refine callL_pure (c_direct_Run t p 0 y h1) (by rw [hn]; decide) ?_
  simp -dsimp
  refine sw_regs tb_ok (by rw [hn]; kernel_rfl) ?_
  simp -dsimp
  rcases bifE hm with ⟨c2, hm⟩ | ⟨c2, hm⟩
  · refine sw_cond_t (b := (neB y.2 0)) (by simp -dsimp) c2 ?_
    refine sw_regs tb_ok (by rw [hn]; kernel_rfl) ?_
    simp -dsimp [c2]
    refine swp_ret ?_
    refine then_x ?_
    cases hm
    refine ⟨.inr rfl, ?_⟩
    refine EE.here ?_
    simp -dsimp

  · refine sw_cond_f (b := (neB y.2 0)) (by simp -dsimp) c2 ?_
    refine swp_skip ?_
    refine thenQ_n ?_
    refine sw_seq ?_
    refine sw_regs tb_ok (by rw [hn]; kernel_rfl) ?_
    obtain ⟨y1, h3, hm⟩ := bnd hm
    simp -dsimp [c2]
    refine callL_pure (c_period_proper most y1 h3) (by rw [hn]; decide) ?_
    simp -dsimp
    rcases bifE hm with ⟨c4, hm⟩ | ⟨c4, hm⟩
    · refine sw_cond_t (b := (notB y1)) (by simp -dsimp) c4 ?_
      refine sw_regs tb_ok (by rw [hn]; kernel_rfl) ?_
      simp -dsimp [c4]
      refine swp_ret ?_
      refine then_x ?_
      cases hm
      refine ⟨.inr rfl, ?_⟩
      refine EE.here ?_
      simp -dsimp

    · refine sw_cond_f (b := (notB y1)) (by simp -dsimp) c4 ?_
      refine swp_skip ?_
      refine thenQ_n ?_
      refine sw_regs tb_ok (by rw [hn]; kernel_rfl) ?_
      simp -dsimp [c4]
      refine sw_seq ?_
      refine sw_regs tb_ok (by rw [hn]; kernel_rfl) ?_
      simp -dsimp
      refine sw_block ?_
      obtain ⟨o_, g12, hm⟩ := bnd hm
      refine sw_ent [(1, .u (.one (.d (.sl 3 (List.map Cell.row p))))), (2, .u (.one (.d (.int .i64 most)))), (3, .u (.one (.box 3 0))), (6, .u (.one (.box 6 0))), (11, .u (.one (.d (.sl 3 (List.map Cell.row p))))), (12, .u (.one (.d (.int .i64 1))))] [(3, .box [.d (.int .i64 t.States), .d (.sl 2 (List.map Point.row t.Hood)), .d (.sl 2 (List.map Node.row t.Nodes))]), (6, .box [.d (.int .i64 0), .d (.int .i64 0), .d (.int .i64 0)])] (by rfl) (by rfl) (by
          refine EE.here ?_
          simp -dsimp
      ) fun ρ σ hf => ?_
      refine (l_period_Find_1 cx hn t p most g12 hf).mono fun ee ρ σ x13 => ?_
      rcases o_ with r | _u
      · unfold F_period_Find_1 at x13
        dsimp only at x13
        obtain ⟨rfl, x13⟩ := x13
        refine blk_r ?_
        refine then_x ?_
        cases hm
        exact ⟨.inr rfl, x13⟩

      · unfold F_period_Find_1 at x13
        dsimp only at x13
        obtain ⟨rfl, x13⟩ := x13
        refine blk_exit ?_
        refine thenQ_n ?_
        refine sw_ee (by rfl) (by rfl) x13 fun ρ σ hf => ?_
        simp only [Fits, FitE, FitS, and_true] at hf
        refine sw_regs tb_ok (by rw [hn]; kernel_rfl) ?_
        simp -dsimp [hf]
        refine swp_ret ?_
        cases hm
        refine ⟨.inr rfl, ?_⟩
        refine EE.here ?_
        simp -dsimp [hf]

theorem c_period_Find (t : Tree) (p : List Cell) (most : Int) (r : Motion × Bool × Int) (hm : m_period_Find t p most = some r) : PureCall Tryz.prog 12 [.u (.agg [.d (.int .i64 t.States), .d (.sl 2 (List.map Point.row t.Hood)), .d (.sl 2 (List.map Node.row t.Nodes))]), .u (.one (.d (.sl 3 (List.map Cell.row p)))), .u (.one (.d (.int .i64 most)))] (.tup [.agg [.d (.int .i64 r.1.Period), .d (.int .i64 r.1.DX), .d (.int .i64 r.1.DY)], .one (.d (.bool r.2.1)), .one (.d (.int .i64 r.2.2))]) := (f_period_Find t p most r hm).pureW
theorem f_period_Has (t : Tree) (p : List Cell) (m : Motion) (r : Bool × Int) (hm : m_period_Has t p m = some r) : PFn Tryz.prog 14 [.u (.agg [.d (.int .i64 t.States), .d (.sl 2 (List.map Point.row t.Hood)), .d (.sl 2 (List.map Node.row t.Nodes))]), .u (.one (.d (.sl 3 (List.map Cell.row p)))), .u (.agg [.d (.int .i64 m.Period), .d (.int .i64 m.DX), .d (.int .i64 m.DY)])] (fun v => v.wk (.tup [.one (.d (.bool r.1)), .one (.d (.int .i64 r.2))])) := by
  refine pfn_E tb_ok _ Tryz.func14 rfl (by kernel_rfl) (by simp [Tryz.ntmps14]) fun cx hn => ?_
  replace hn : cx.n = 27 := hn.trans Tryz.ntmps14
  unfold m_period_Has at hm
  refine sw_regs tb_ok (by rw [hn]; kernel_rfl) ?_
  simp -dsimp []
  refine sw_regs tb_ok (by rw [hn]; kernel_rfl) ?_
  obtain ⟨y, h1, hm⟩ := bnd hm
  simp -dsimp []
  refine callL_pure (c_period_Find t p m.Period y h1) (by rw [hn]; decide) ?_
  simp -dsimp
  obtain ⟨a, j3, hm⟩ := bnd hm
  refine sw_cutE [(6, .u (.one (.d (.bool a)))), (7, .u (.one (.d (.int .i64 y.2.2))))] [] (by rfl) (by rfl) ?_ fun ρ σ hf => ?_
  · replace hm := j3
    clear j3
    refine sw_reg tb_ok (by rw [hn]; kernel_rfl) ?_
    rcases bifE hm with ⟨c2, hm⟩ | ⟨c2, hm⟩
    · simp -dsimp [c2]
      refine thenQ_n ?_
      cases hm
      refine EE.here ?_
      simp -dsimp

    · simp -dsimp [c2]
      refine thenQ_n ?_
      cases hm
      refine EE.here ?_
      simp -dsimp

  · clear j3
    simp only [Fits, FitE, FitS, and_true] at hf
    refine swp_ret ?_
    cases hm
    refine ⟨.inr rfl, ?_⟩
    refine EE.here ?_
    simp -dsimp [hf]

theorem c_period_Has (t : Tree) (p : List Cell) (m : Motion) (r : Bool × Int) (hm : m_period_Has t p m = some r) : PureCall Tryz.prog 14 [.u (.agg [.d (.int .i64 t.States), .d (.sl 2 (List.map Point.row t.Hood)), .d (.sl 2 (List.map Node.row t.Nodes))]), .u (.one (.d (.sl 3 (List.map Cell.row p)))), .u (.agg [.d (.int .i64 m.Period), .d (.int .i64 m.DX), .d (.int .i64 m.DY)])] (.tup [.one (.d (.bool r.1)), .one (.d (.int .i64 r.2))]) := (f_period_Has t p m r hm).pureW
def F_period_Settles_1 (cx : Cx) (_t : Tree) (_gens : Int) (_most : Int) (tt : (Int × Motion × Int) ⊕ Unit) (ee : Exit) (ρ : Env) (σ : Sto) : Prop := match tt with
  | .inl r => ee = .ret ∧ EE cx (fun ρ σ => ∃ v, resV tb ρ σ Tryz.f20.results.toList = some v ∧ (v.frz σ).free = true ∧ (v.frz σ).wk (.tup [.one (.d (.int .i64 r.1)), .agg [.d (.int .i64 r.2.1.Period), .d (.int .i64 r.2.1.DX), .d (.int .i64 r.2.1.DY)], .one (.d (.int .i64 r.2.2))])) ρ σ
  | .inr _u => ee = .exit 0 ∧ EE cx (FitsW [(9, .u (.one (.box 9 0)))] [(9, .box [.d (.int .i64 0), .d (.int .i64 0), .d (.int .i64 0)])]) ρ σ
theorem l_period_Settles_1 (cx : Cx) (hn : cx.n = 78) (t : Tree) (gens : Int) (most : Int) {fu : Nat} {stt : (List Cell) × Int} {tt : (Int × Motion × Int) ⊕ Unit} (hh : loopN (b_period_Settles_1 t gens most) fu stt = some tt) {ρ : Env} {σ : Sto}
    (hE : Fits ((fun stt : (List Cell) × Int => match stt with | (p1, g) => [(1, .u (.one (.d (.sl 3 (List.map Cell.row p1))))), (2, .u (.one (.d (.int .i64 gens)))), (3, .u (.one (.d (.int .i64 most)))), (4, .u (.one (.box 4 0))), (9, .u (.one (.box 9 0))), (13, .u (.one (.d (.int .i64 g))))]) stt) ((fun stt : (List Cell) × Int => match stt with | (_p1, _g) => [(4, .box [.d (.int .i64 t.States), .d (.sl 2 (List.map Point.row t.Hood)), .d (.sl 2 (List.map Node.row t.Nodes))]), (9, .box [.d (.int .i64 0), .d (.int .i64 0), .d (.int .i64 0)])]) stt) ρ σ) : Swp Tryz.prog cx (.loop (csub [1, 1, 1, 0, 1, 0, 0] (bodyOf Tryz.f20))) ρ σ (F_period_Settles_1 cx t gens most tt) := by
  refine loop_model (fun stt : (List Cell) × Int => match stt with | (p1, g) => [(1, .u (.one (.d (.sl 3 (List.map Cell.row p1))))), (2, .u (.one (.d (.int .i64 gens)))), (3, .u (.one (.d (.int .i64 most)))), (4, .u (.one (.box 4 0))), (9, .u (.one (.box 9 0))), (13, .u (.one (.d (.int .i64 g))))]) (fun stt : (List Cell) × Int => match stt with | (p1, g) => [(4, .box [.d (.int .i64 t.States), .d (.sl 2 (List.map Point.row t.Hood)), .d (.sl 2 (List.map Node.row t.Nodes))]), (9, .box [.d (.int .i64 0), .d (.int .i64 0), .d (.int .i64 0)])]) (F_period_Settles_1 cx t gens most) (b_period_Settles_1 t gens most) (fun _ => by rfl) (fun _ => by rfl) ?_ hh hE
  rintro ⟨p1, g⟩ r hm ρ σ hf
  simp only [Fits, FitE, FitS, and_true] at hf
  unfold b_period_Settles_1 at hm
  dsimp only at hm
  refine sw_seq ?_
  refine sw_regs tb_ok (by rw [hn]; kernel_rfl) ?_
  simp -dsimp [hf]
  rcases bifE hm with ⟨c7, hm⟩ | ⟨c7, hm⟩
  · refine sw_cond_t (b := (leB g gens)) (by simp -dsimp) c7 ?_
    refine swp_skip ?_
    refine thenQ_n ?_
    refine sw_seq ?_
    refine sw_block ?_
    refine sw_seq ?_
    refine sw_regs tb_ok (by rw [hn]; kernel_rfl) ?_
    simp -dsimp [hf, c7]
    rcases bifE hm with ⟨c8, hm⟩ | ⟨c8, hm⟩
    · refine sw_cond_t (b := (eqB (lenL p1) 0)) (by simp -dsimp) c8 ?_
      refine sw_regs tb_ok (by rw [hn]; kernel_rfl) ?_
      simp -dsimp [hf, c8]
      refine swp_ret ?_
      refine then_x ?_
      refine blk_r ?_
      refine then_x ?_
      cases hm
      refine rd_out nofun ?_
      unfold F_period_Settles_1
      dsimp only
      refine ⟨rfl, ?_⟩
      refine EE.here ?_
      simp -dsimp [hf, Tryz.results20]

    · refine sw_cond_f (b := (eqB (lenL p1) 0)) (by simp -dsimp) c8 ?_
      refine swp_skip ?_
      refine thenQ_n ?_
      refine sw_regs tb_ok (by rw [hn]; kernel_rfl) ?_
      obtain ⟨y1, h9, hm⟩ := bnd hm
      simp -dsimp [hf, c8]
      refine callL_pure (c_period_Find t p1 most y1 h9) (by rw [hn]; decide) ?_
      simp -dsimp
      refine sw_seq ?_
      refine sw_regs tb_ok (by rw [hn]; kernel_rfl) ?_
      simp -dsimp
      rcases bifE hm with ⟨c10, hm⟩ | ⟨c10, hm⟩
      · refine sw_cond_t (b := (neB y1.2.2 0)) (by simp -dsimp) c10 ?_
        refine sw_regs tb_ok (by rw [hn]; kernel_rfl) ?_
        simp -dsimp [hf, c10]
        refine swp_ret ?_
        refine then_x ?_
        refine blk_r ?_
        refine then_x ?_
        cases hm
        refine rd_out nofun ?_
        unfold F_period_Settles_1
        dsimp only
        refine ⟨rfl, ?_⟩
        refine EE.here ?_
        simp -dsimp [hf, Tryz.results20]

      · refine sw_cond_f (b := (neB y1.2.2 0)) (by simp -dsimp) c10 ?_
        refine swp_skip ?_
        refine thenQ_n ?_
        refine sw_seq ?_
        refine sw_regs tb_ok (by rw [hn]; kernel_rfl) ?_
        simp -dsimp [c10]
        rcases bifE hm with ⟨c11, hm⟩ | ⟨c11, hm⟩
        · refine sw_cond_t (b := y1.2.1) (by simp -dsimp) c11 ?_
          refine sw_drNs tb_ok mixed 3 (by rw [hn]; kernel_rfl) ?_
          dsimp only [List.take, List.drop]
          simp -dsimp [hf, c11]
          refine swp_ret ?_
          refine then_x ?_
          refine blk_r ?_
          refine then_x ?_
          cases hm
          refine rd_out nofun ?_
          unfold F_period_Settles_1
          dsimp only
          refine ⟨rfl, ?_⟩
          refine EE.here ?_
          simp -dsimp [hf, Tryz.results20]

        · refine sw_cond_f (b := y1.2.1) (by simp -dsimp) c11 ?_
          refine swp_skip ?_
          refine thenQ_n ?_
          refine sw_regs tb_ok (by rw [hn]; kernel_rfl) ?_
          simp -dsimp [hf, c11]
          rcases bifE hm with ⟨c12, hm⟩ | ⟨c12, hm⟩
          · refine sw_cond_t (b := (ltB g gens)) (by simp -dsimp) c12 ?_
            refine sw_regs tb_ok (by rw [hn]; kernel_rfl) ?_
            obtain ⟨y2, h13, hm⟩ := bnd hm
            simp -dsimp [hf, c12]
            refine callL_pure (c_direct_Step t p1 y2 h13) (by rw [hn]; decide) ?_
            simp -dsimp
            refine sw_regs tb_ok (by rw [hn]; kernel_rfl) ?_
            simp -dsimp
            rcases bifE hm with ⟨c14, hm⟩ | ⟨c14, hm⟩
            · refine sw_cond_t (b := (neB y2.2 0)) (by simp -dsimp) c14 ?_
              refine sw_regs tb_ok (by rw [hn]; kernel_rfl) ?_
              simp -dsimp [hf, c14]
              refine swp_ret ?_
              refine blk_r ?_
              refine then_x ?_
              cases hm
              refine rd_out nofun ?_
              unfold F_period_Settles_1
              dsimp only
              refine ⟨rfl, ?_⟩
              refine EE.here ?_
              simp -dsimp [hf, Tryz.results20]

            · refine sw_cond_f (b := (neB y2.2 0)) (by simp -dsimp) c14 ?_
              refine swp_skip ?_
              refine blk_n ?_
              refine thenQ_n ?_
              refine sw_reg tb_ok (by rw [hn]; kernel_rfl) ?_
              simp -dsimp [hf, c14]
              cases hm
              refine rd_next ?_
              refine EE.here ?_
              simp -dsimp [hf]

          · refine sw_cond_f (b := (ltB g gens)) (by simp -dsimp) c12 ?_
            refine swp_skip ?_
            refine blk_n ?_
            refine thenQ_n ?_
            refine sw_reg tb_ok (by rw [hn]; kernel_rfl) ?_
            simp -dsimp [hf, c12]
            cases hm
            refine rd_next ?_
            refine EE.here ?_
            simp -dsimp [hf]

  · refine sw_cond_f (b := (leB g gens)) (by simp -dsimp) c7 ?_
    refine swp_exit ?_
    refine then_x ?_
    cases hm
    refine rd_out nofun ?_
    unfold F_period_Settles_1
    dsimp only
    refine ⟨rfl, ?_⟩
    refine EE.here ?_
    simp -dsimp [hf, c7]

theorem f_period_Settles (t : Tree) (p : List Cell) (gens : Int) (most : Int) (r : Int × Motion × Int) (hm : m_period_Settles t p gens most = some r) : PFn Tryz.prog 20 [.u (.agg [.d (.int .i64 t.States), .d (.sl 2 (List.map Point.row t.Hood)), .d (.sl 2 (List.map Node.row t.Nodes))]), .u (.one (.d (.sl 3 (List.map Cell.row p)))), .u (.one (.d (.int .i64 gens))), .u (.one (.d (.int .i64 most)))] (fun v => v.wk (.tup [.one (.d (.int .i64 r.1)), .agg [.d (.int .i64 r.2.1.Period), .d (.int .i64 r.2.1.DX), .d (.int .i64 r.2.1.DY)], .one (.d (.int .i64 r.2.2))])) := by
  refine pfn_E tb_ok _ Tryz.func20 rfl (by kernel_rfl) (by simp [Tryz.ntmps20]) fun cx hn => ?_
  replace hn : cx.n = 78 := hn.trans Tryz.ntmps20
  unfold m_period_Settles at hm
  refine sw_regs tb_ok (by rw [hn]; kernel_rfl) ?_
  simp -dsimp []
  refine sw_seq ?_
  refine sw_regs tb_ok (by rw [hn]; kernel_rfl) ?_
  obtain ⟨y, h1, hm⟩ := bnd hm
  simp -dsimp []
  refine callL_pure (c_direct_Run t p 0 y h1) (by rw [hn]; decide) ?_
  simp -dsimp
  refine sw_regs tb_ok (by rw [hn]; kernel_rfl) ?_
  simp -dsimp
  rcases bifE hm with ⟨c2, hm⟩ | ⟨c2, hm⟩
  · refine sw_cond_t (b := (neB y.2 0)) (by simp -dsimp) c2 ?_
    refine sw_regs tb_ok (by rw [hn]; kernel_rfl) ?_
    simp -dsimp [c2]
    refine swp_ret ?_
    refine then_x ?_
    cases hm
    refine ⟨.inr rfl, ?_⟩
    refine EE.here ?_
    simp -dsimp

  · refine sw_cond_f (b := (neB y.2 0)) (by simp -dsimp) c2 ?_
    refine swp_skip ?_
    refine thenQ_n ?_
    refine sw_seq ?_
    obtain ⟨a, j17, hm⟩ := bnd hm
    refine sw_cutE [(1, .u (.one (.d (.sl 3 (List.map Cell.row p))))), (2, .u (.one (.d (.int .i64 gens)))), (3, .u (.one (.d (.int .i64 most)))), (4, .u (.one (.box 4 0))), (9, .u (.one (.box 9 0))), (37, .u (.one (.d (.bool a))))] [(4, .box [.d (.int .i64 t.States), .d (.sl 2 (List.map Point.row t.Hood)), .d (.sl 2 (List.map Node.row t.Nodes))]), (9, .box [.d (.int .i64 0), .d (.int .i64 0), .d (.int .i64 0)])] (by rfl) (by rfl) ?_ fun ρ σ hf => ?_
    · replace hm := j17
      clear j17
      refine sw_reg tb_ok (by rw [hn]; kernel_rfl) ?_
      rcases bifE hm with ⟨c3, hm⟩ | ⟨c3, hm⟩
      · simp -dsimp [c2, c3]
        refine thenQ_n ?_
        cases hm
        refine EE.here ?_
        simp -dsimp

      · rcases bifE hm with ⟨c4, hm⟩ | ⟨c4, hm⟩
        · simp -dsimp [c2, c3, c4]
          refine thenQ_n ?_
          cases hm
          refine EE.here ?_
          simp -dsimp

        · obtain ⟨y1, h5, hm⟩ := bnd hm
          simp -dsimp [c2, c3, c4]
          refine callL_pure (c_period_proper most y1 h5) (by rw [hn]; decide) ?_
          simp -dsimp
          refine thenQ_n ?_
          cases hm
          refine EE.here ?_
          simp -dsimp

    · clear j17
      simp only [Fits, FitE, FitS, and_true] at hf
      rcases bifE hm with ⟨c6, hm⟩ | ⟨c6, hm⟩
      · refine sw_cond_t (b := a) (by simp -dsimp [hf]) c6 ?_
        refine sw_regs tb_ok (by rw [hn]; kernel_rfl) ?_
        simp -dsimp [hf]
        refine swp_ret ?_
        refine then_x ?_
        cases hm
        refine ⟨.inr rfl, ?_⟩
        refine EE.here ?_
        simp -dsimp [hf]

      · refine sw_cond_f (b := a) (by simp -dsimp [hf]) c6 ?_
        refine swp_skip ?_
        refine thenQ_n ?_
        refine sw_seq ?_
        refine sw_regs tb_ok (by rw [hn]; kernel_rfl) ?_
        simp -dsimp
        refine sw_block ?_
        obtain ⟨o_, g15, hm⟩ := bnd hm
        refine sw_ent [(1, .u (.one (.d (.sl 3 (List.map Cell.row p))))), (2, .u (.one (.d (.int .i64 gens)))), (3, .u (.one (.d (.int .i64 most)))), (4, .u (.one (.box 4 0))), (9, .u (.one (.box 9 0))), (13, .u (.one (.d (.int .i64 0))))] [(4, .box [.d (.int .i64 t.States), .d (.sl 2 (List.map Point.row t.Hood)), .d (.sl 2 (List.map Node.row t.Nodes))]), (9, .box [.d (.int .i64 0), .d (.int .i64 0), .d (.int .i64 0)])] (by rfl) (by rfl) (by
            refine EE.here ?_
            simp -dsimp [hf]
        ) fun ρ σ hf => ?_
        refine (l_period_Settles_1 cx hn t gens most g15 hf).mono fun ee ρ σ x16 => ?_
        rcases o_ with r | _u
        · unfold F_period_Settles_1 at x16
          dsimp only at x16
          obtain ⟨rfl, x16⟩ := x16
          refine blk_r ?_
          refine then_x ?_
          cases hm
          exact ⟨.inr rfl, x16⟩

        · unfold F_period_Settles_1 at x16
          dsimp only at x16
          obtain ⟨rfl, x16⟩ := x16
          refine blk_exit ?_
          refine thenQ_n ?_
          refine sw_ee (by rfl) (by rfl) x16 fun ρ σ hf => ?_
          simp only [Fits, FitE, FitS, and_true] at hf
          refine sw_regs tb_ok (by rw [hn]; kernel_rfl) ?_
          simp -dsimp [hf]
          refine swp_ret ?_
          cases hm
          refine ⟨.inr rfl, ?_⟩
          refine EE.here ?_
          simp -dsimp [hf]

theorem c_period_Settles (t : Tree) (p : List Cell) (gens : Int) (most : Int) (r : Int × Motion × Int) (hm : m_period_Settles t p gens most = some r) : PureCall Tryz.prog 20 [.u (.agg [.d (.int .i64 t.States), .d (.sl 2 (List.map Point.row t.Hood)), .d (.sl 2 (List.map Node.row t.Nodes))]), .u (.one (.d (.sl 3 (List.map Cell.row p)))), .u (.one (.d (.int .i64 gens))), .u (.one (.d (.int .i64 most)))] (.tup [.one (.d (.int .i64 r.1)), .agg [.d (.int .i64 r.2.1.Period), .d (.int .i64 r.2.1.DX), .d (.int .i64 r.2.1.DY)], .one (.d (.int .i64 r.2.2))]) := (f_period_Settles t p gens most r hm).pureW
theorem f_L34_awake (r : Bool) (hm : m_L34_awake = some r) : PFn Tryz.prog 11 [] (fun v => v.wk (.u (.one (.d (.bool r))))) := by
  refine pfn_E tb_ok _ Tryz.func11 rfl (by kernel_rfl) (by simp [Tryz.ntmps11]) fun cx hn => ?_
  replace hn : cx.n = 147 := hn.trans Tryz.ntmps11
  unfold m_L34_awake at hm
  refine sw_regs tb_ok (by rw [hn]; kernel_rfl) ?_
  simp -dsimp []
  refine sw_regs tb_ok (by rw [hn]; kernel_rfl) ?_
  obtain ⟨y, h1, hm⟩ := bnd hm
  simp -dsimp []
  refine callL_pure (c_notation_Parse y h1) (by rw [hn]; decide) ?_
  simp -dsimp
  refine sw_regs tb_ok (by rw [hn]; kernel_rfl) ?_
  simp -dsimp
  refine sw_regs tb_ok (by rw [hn]; kernel_rfl) ?_
  obtain ⟨y1, h2, hm⟩ := bnd hm
  simp -dsimp
  refine callL_pure (c_period_Find y.1 [(⟨1, 0, 1⟩ : Cell), (⟨2, 1, 1⟩ : Cell), (⟨0, 2, 1⟩ : Cell), (⟨1, 2, 1⟩ : Cell), (⟨2, 2, 1⟩ : Cell)] 8 y1 h2) (by rw [hn]; decide) ?_
  simp -dsimp
  refine sw_regs tb_ok (by rw [hn]; kernel_rfl) ?_
  obtain ⟨y2, h3, hm⟩ := bnd hm
  simp -dsimp
  refine callL_pure (c_period_Find y.1 [(⟨1, 0, 1⟩ : Cell), (⟨2, 1, 1⟩ : Cell), (⟨0, 2, 1⟩ : Cell), (⟨1, 2, 1⟩ : Cell), (⟨2, 2, 1⟩ : Cell)] 3 y2 h3) (by rw [hn]; decide) ?_
  simp -dsimp
  refine sw_qts tb_ok mixed (by rw [hn]; kernel_rfl) ?_
  obtain ⟨l, h4, hm⟩ := bnd hm
  obtain ⟨y3, h5, hm⟩ := bnd hm
  simp -dsimp [(@id (slc3 [[(.int .i64 1), (.int .i64 0), (.int .i64 1)], [(.int .i64 2), (.int .i64 1), (.int .i64 1)], [(.int .i64 0), (.int .i64 2), (.int .i64 1)], [(.int .i64 1), (.int .i64 2), (.int .i64 1)], [(.int .i64 2), (.int .i64 2), (.int .i64 1)]] 0 0 = some (List.map Cell.row l)) (slc3_rows Cell.row h4))]
  refine qcallL_pure (c_period_Has y.1 l y1.1 y3 h5) ?_
  simp -dsimp
  refine sw_regs tb_ok (by rw [hn]; kernel_rfl) ?_
  obtain ⟨y4, h6, hm⟩ := bnd hm
  simp -dsimp
  refine callL_pure (c_period_Settles y.1 [(⟨0, 0, 1⟩ : Cell), (⟨1, 0, 1⟩ : Cell), (⟨0, 1, 1⟩ : Cell)] 5 2 y4 h6) (by rw [hn]; decide) ?_
  simp -dsimp
  refine sw_regs tb_ok (by rw [hn]; kernel_rfl) ?_
  obtain ⟨y5, h7, hm⟩ := bnd hm
  simp -dsimp
  refine callL_pure (c_period_Settles y.1 [(⟨0, 0, 1⟩ : Cell)] 5 2 y5 h7) (by rw [hn]; decide) ?_
  simp -dsimp
  refine sw_regs tb_ok (by rw [hn]; kernel_rfl) ?_
  obtain ⟨y6, h8, hm⟩ := bnd hm
  simp -dsimp
  refine callL_pure (c_period_After y1.1 3 y6 h8) (by rw [hn]; decide) ?_
  simp -dsimp
  refine sw_seq ?_
  obtain ⟨a, j29, hm⟩ := bnd hm
  refine sw_cutE [(4, .u (.one (.box 4 0))), (12, .u (.one (.d (.int .i64 y4.1)))), (13, .u (.one (.box 13 0))), (15, .u (.one (.d (.int .i64 y5.1)))), (16, .u (.one (.box 16 0))), (18, .u (.one (.box 18 0))), (110, .u (.one (.d (.bool a))))] [(4, .box [.d (.int .i64 y1.1.Period), .d (.int .i64 y1.1.DX), .d (.int .i64 y1.1.DY)]), (13, .box [.d (.int .i64 y4.2.1.Period), .d (.int .i64 y4.2.1.DX), .d (.int .i64 y4.2.1.DY)]), (16, .box [.d (.int .i64 y5.2.1.Period), .d (.int .i64 y5.2.1.DX), .d (.int .i64 y5.2.1.DY)]), (18, .box [.d (.int .i64 y6.1.Period), .d (.int .i64 y6.1.DX), .d (.int .i64 y6.1.DY)])] (by rfl) (by rfl) ?_ fun ρ σ hf => ?_
  · replace hm := j29
    clear j29
    refine sw_reg tb_ok (by rw [hn]; kernel_rfl) ?_
    rcases bifE hm with ⟨c9, hm⟩ | ⟨c9, hm⟩
    · simp -dsimp [c9]
      refine thenQ_n ?_
      cases hm
      refine EE.here ?_
      simp -dsimp

    · rcases bifE hm with ⟨c10, hm⟩ | ⟨c10, hm⟩
      · simp -dsimp [c9, c10]
        refine thenQ_n ?_
        cases hm
        refine EE.here ?_
        simp -dsimp

      · rcases bifE hm with ⟨c11, hm⟩ | ⟨c11, hm⟩
        · simp -dsimp [c9, c10, c11]
          refine thenQ_n ?_
          cases hm
          refine EE.here ?_
          simp -dsimp

        · rcases bifE hm with ⟨c12, hm⟩ | ⟨c12, hm⟩
          · simp -dsimp [c9, c10, c11, c12]
            refine thenQ_n ?_
            cases hm
            refine EE.here ?_
            simp -dsimp

          · rcases bifE hm with ⟨c13, hm⟩ | ⟨c13, hm⟩
            · simp -dsimp [c9, c10, c11, c12, c13]
              refine thenQ_n ?_
              cases hm
              refine EE.here ?_
              simp -dsimp

            · rcases bifE hm with ⟨c14, hm⟩ | ⟨c14, hm⟩
              · simp -dsimp [c9, c10, c11, c12, c13, c14]
                refine thenQ_n ?_
                cases hm
                refine EE.here ?_
                simp -dsimp

              · rcases bifE hm with ⟨c15, hm⟩ | ⟨c15, hm⟩
                · simp -dsimp [c9, c10, c11, c12, c13, c14, c15]
                  refine thenQ_n ?_
                  cases hm
                  refine EE.here ?_
                  simp -dsimp

                · rcases bifE hm with ⟨c16, hm⟩ | ⟨c16, hm⟩
                  · simp -dsimp [c9, c10, c11, c12, c13, c14, c15, c16]
                    refine thenQ_n ?_
                    cases hm
                    refine EE.here ?_
                    simp -dsimp

                  · rcases bifE hm with ⟨c17, hm⟩ | ⟨c17, hm⟩
                    · simp -dsimp [c9, c10, c11, c12, c13, c14, c15, c16, c17]
                      refine thenQ_n ?_
                      cases hm
                      refine EE.here ?_
                      simp -dsimp

                    · simp -dsimp [c9, c10, c11, c12, c13, c14, c15, c16, c17]
                      refine thenQ_n ?_
                      cases hm
                      refine EE.here ?_
                      simp -dsimp

  · clear j29
    simp only [Fits, FitE, FitS, and_true] at hf
    rcases bifE hm with ⟨c18, hm⟩ | ⟨c18, hm⟩
    · refine sw_cond_t (b := a) (by simp -dsimp [hf]) c18 ?_
      refine sw_regs tb_ok (by rw [hn]; kernel_rfl) ?_
      simp -dsimp
      refine swp_ret ?_
      refine then_x ?_
      cases hm
      refine ⟨.inr rfl, ?_⟩
      refine EE.here ?_
      simp -dsimp

    · refine sw_cond_f (b := a) (by simp -dsimp [hf]) c18 ?_
      refine swp_skip ?_
      refine thenQ_n ?_
      obtain ⟨a1, j28, hm⟩ := bnd hm
      refine sw_cutE [(0, .u (.one (.d (.bool a1))))] [] (by rfl) (by rfl) ?_ fun ρ σ hf => ?_
      · replace hm := j28
        clear j28
        refine sw_reg tb_ok (by rw [hn]; kernel_rfl) ?_
        rcases bifE hm with ⟨c19, hm⟩ | ⟨c19, hm⟩
        · rcases bifE hm with ⟨c20, hm⟩ | ⟨c20, hm⟩
          · rcases bifE hm with ⟨c21, hm⟩ | ⟨c21, hm⟩
            · rcases bifE hm with ⟨c22, hm⟩ | ⟨c22, hm⟩
              · rcases bifE hm with ⟨c23, hm⟩ | ⟨c23, hm⟩
                · rcases bifE hm with ⟨c24, hm⟩ | ⟨c24, hm⟩
                  · obtain ⟨y7, h25, hm⟩ := bnd hm
                    simp -dsimp [hf, c19, c20, c21, c22, c23, c24]
                    refine callL_pure (c_period_Kind y1.1 y7 h25) (by rw [hn]; decide) ?_
                    rcases bifE hm with ⟨c26, hm⟩ | ⟨c26, hm⟩
                    · obtain ⟨y8, h27, hm⟩ := bnd hm
                      simp -dsimp [hf, c26]
                      refine callL_pure (c_period_Kind y4.2.1 y8 h27) (by rw [hn]; decide) ?_
                      simp -dsimp
                      refine thenQ_n ?_
                      cases hm
                      refine EE.here ?_
                      simp -dsimp

                    · simp -dsimp [c26]
                      refine thenQ_n ?_
                      cases hm
                      refine EE.here ?_
                      simp -dsimp

                  · simp -dsimp [hf, c19, c20, c21, c22, c23, c24]
                    refine thenQ_n ?_
                    cases hm
                    refine EE.here ?_
                    simp -dsimp

                · simp -dsimp [hf, c19, c20, c21, c22, c23]
                  refine thenQ_n ?_
                  cases hm
                  refine EE.here ?_
                  simp -dsimp

              · simp -dsimp [hf, c19, c20, c21, c22]
                refine thenQ_n ?_
                cases hm
                refine EE.here ?_
                simp -dsimp

            · simp -dsimp [hf, c19, c20, c21]
              refine thenQ_n ?_
              cases hm
              refine EE.here ?_
              simp -dsimp

          · simp -dsimp [hf, c19, c20]
            refine thenQ_n ?_
            cases hm
            refine EE.here ?_
            simp -dsimp

        · simp -dsimp [hf, c19]
          refine thenQ_n ?_
          cases hm
          refine EE.here ?_
          simp -dsimp

      · clear j28
        simp only [Fits, FitE, FitS, and_true] at hf
        refine swp_ret ?_
        cases hm
        refine ⟨.inr rfl, ?_⟩
        refine EE.here ?_
        simp -dsimp [hf]

theorem c_L34_awake (r : Bool) (hm : m_L34_awake = some r) : PureCall Tryz.prog 11 [] (.u (.one (.d (.bool r)))) := (f_L34_awake r hm).pureW
end Go.Proofs.YtdjclgfbggfpaaaGreatDoor
