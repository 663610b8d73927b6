/-
  That the code does what the functions say (made by cc.py).
-/
import Derived.Test.YtgfhhbjnjccomaaGreatDoorMd1
import Derived.Test.YtgfhhbjnjccomaaGreatDoorTb
import Derived.Test.YtgfhhbjnjccomaaGreatDoorWa5
namespace Go.Proofs.YtgfhhbjnjccomaaGreatDoor
open Go.AM Go.Proofs
theorem f_lower_Bits (states : Int) (r : Int) (hm : m_lower_Bits states = some r) : PFn Tryz.prog 56 [.u (.one (.d (.int .i64 states)))] (fun v => v.wk (.u (.one (.d (.int .i64 r))))) := by
  refine pfn_E tb_ok _ Tryz.func56 rfl (by kernel_rfl) (by simp [Tryz.ntmps56]) fun cx hn => ?_
  replace hn : cx.n = 18 := hn.trans Tryz.ntmps56
  unfold m_lower_Bits at hm
  refine sw_regs tb_ok (by rw [hn]; kernel_rfl) ?_
  simp -dsimp []
  refine sw_seq ?_
  refine sw_block ?_
  refine sw_regs tb_ok (by rw [hn]; kernel_rfl) ?_
  simp -dsimp []
  rcases bifE hm with ⟨c1, hm⟩ | ⟨c1, hm⟩
  · refine sw_cond_t (b := (eqB states 2)) (by simp -dsimp []) c1 ?_
    refine sw_regs tb_ok (by rw [hn]; kernel_rfl) ?_
    simp -dsimp [c1]
    refine swp_ret ?_
    refine blk_r ?_
    refine then_x ?_
    cases hm
    refine ⟨.inr rfl, ?_⟩
    refine EE.here ?_
    simp -dsimp

  · refine sw_cond_f (b := (eqB states 2)) (by simp -dsimp []) c1 ?_
    obtain ⟨a, j7, hm⟩ := bnd hm
    refine sw_cutE [(0, .u (.one (.d (.int .i64 states)))), (6, .u (.one (.d (.bool a))))] [] (by rfl) (by rfl) ?_ fun ρ σ hf => ?_
    · replace hm := j7
      clear j7
      refine sw_regs tb_ok (by rw [hn]; kernel_rfl) ?_
      simp -dsimp [c1]
      rcases bifE hm with ⟨c2, hm⟩ | ⟨c2, hm⟩
      · refine sw_cond_t (b := (eqB states 3)) (by simp -dsimp) c2 ?_
        refine swp_skip ?_
        refine thenQ_n ?_
        cases hm
        refine EE.here ?_
        simp -dsimp [c2]

      · refine sw_cond_f (b := (eqB states 3)) (by simp -dsimp) c2 ?_
        refine sw_reg tb_ok (by rw [hn]; kernel_rfl) ?_
        simp -dsimp [c2]
        refine thenQ_n ?_
        cases hm
        refine EE.here ?_
        simp -dsimp

    · clear j7
      simp only [Fits, FitE, FitS, and_true] at hf
      rcases bifE hm with ⟨c3, hm⟩ | ⟨c3, hm⟩
      · refine sw_cond_t (b := a) (by simp -dsimp [hf]) c3 ?_
        refine sw_regs tb_ok (by rw [hn]; kernel_rfl) ?_
        simp -dsimp
        refine swp_ret ?_
        refine blk_r ?_
        refine then_x ?_
        cases hm
        refine ⟨.inr rfl, ?_⟩
        refine EE.here ?_
        simp -dsimp

      · refine sw_cond_f (b := a) (by simp -dsimp [hf]) c3 ?_
        obtain ⟨a1, j6, hm⟩ := bnd hm
        refine sw_cutE [(11, .u (.one (.d (.bool a1))))] [] (by rfl) (by rfl) ?_ fun ρ σ hf => ?_
        · replace hm := j6
          clear j6
          refine sw_reg tb_ok (by rw [hn]; kernel_rfl) ?_
          rcases bifE hm with ⟨c4, hm⟩ | ⟨c4, hm⟩
          · simp -dsimp [hf, c4]
            refine thenQ_n ?_
            cases hm
            refine EE.here ?_
            simp -dsimp

          · simp -dsimp [hf, c4]
            refine thenQ_n ?_
            cases hm
            refine EE.here ?_
            simp -dsimp

        · clear j6
          simp only [Fits, FitE, FitS, and_true] at hf
          rcases bifE hm with ⟨c5, hm⟩ | ⟨c5, hm⟩
          · refine sw_cond_t (b := a1) (by simp -dsimp [hf]) c5 ?_
            refine sw_regs tb_ok (by rw [hn]; kernel_rfl) ?_
            simp -dsimp
            refine swp_ret ?_
            refine blk_r ?_
            refine then_x ?_
            cases hm
            refine ⟨.inr rfl, ?_⟩
            refine EE.here ?_
            simp -dsimp

          · refine sw_cond_f (b := a1) (by simp -dsimp [hf]) c5 ?_
            refine swp_skip ?_
            refine blk_n ?_
            refine thenQ_n ?_
            refine sw_regs tb_ok (by rw [hn]; kernel_rfl) ?_
            simp -dsimp
            refine swp_ret ?_
            cases hm
            refine ⟨.inr rfl, ?_⟩
            refine EE.here ?_
            simp -dsimp

theorem c_lower_Bits (states : Int) (r : Int) (hm : m_lower_Bits states = some r) : PureCall Tryz.prog 56 [.u (.one (.d (.int .i64 states)))] (.u (.one (.d (.int .i64 r)))) := (f_lower_Bits states r hm).pureW
def F_lower_State_1 (cx : Cx) (_l : List Bool) (tt : Int) (ee : Exit) (ρ : Env) (σ : Sto) : Prop := match tt with
  | n => ee = .exit 0 ∧ EE cx (FitsW [(3, .u (.one (.d (.int .i64 n))))] []) ρ σ
theorem l_lower_State_1 (cx : Cx) (hn : cx.n = 23) (l : List Bool) {fu : Nat} {stt : Int × Int} {tt : Int} (hh : loopN (b_lower_State_1 l) fu stt = some tt) {ρ : Env} {σ : Sto}
    (hE : Fits ((fun stt : Int × Int => match stt with | (n, a) => [(3, .u (.one (.d (.int .i64 n)))), (9, .u (.one (.d (.sl 1 (List.map rB l))))), (10, .u (.one (.d (.int .i64 (lenL l))))), (11, .u (.one (.d (.int .i64 a))))]) stt) ((fun stt : Int × Int => match stt with | (_n, _a) => []) stt) ρ σ) : Swp Tryz.prog cx (.loop (csub [1, 1, 1, 0, 1, 0, 0] (bodyOf Tryz.f57))) ρ σ (F_lower_State_1 cx l tt) := by
  refine loop_model (fun stt : Int × Int => match stt with | (n, a) => [(3, .u (.one (.d (.int .i64 n)))), (9, .u (.one (.d (.sl 1 (List.map rB l))))), (10, .u (.one (.d (.int .i64 (lenL l))))), (11, .u (.one (.d (.int .i64 a))))]) (fun stt : Int × Int => match stt with | (n, a) => []) (F_lower_State_1 cx l) (b_lower_State_1 l) (fun _ => by rfl) (fun _ => by rfl) ?_ hh hE
  rintro ⟨n, a⟩ r hm ρ σ hf
  simp only [Fits, FitE, FitS, and_true] at hf
  unfold b_lower_State_1 at hm
  dsimp only at hm
  refine sw_regs tb_ok (by rw [hn]; kernel_rfl) ?_
  simp -dsimp [hf]
  refine sw_seq ?_
  rcases bifE hm with ⟨c2, hm⟩ | ⟨c2, hm⟩
  · refine sw_cond_t (b := (ltB a (lenL l))) (by simp -dsimp) c2 ?_
    refine swp_skip ?_
    refine thenQ_n ?_
    obtain ⟨n1, j6, hm⟩ := bnd hm
    refine sw_cutE [(3, .u (.one (.d (.int .i64 n1)))), (9, .u (.one (.d (.sl 1 (List.map rB l))))), (10, .u (.one (.d (.int .i64 (lenL l))))), (11, .u (.one (.d (.int .i64 a))))] [] (by rfl) (by rfl) ?_ fun ρ σ hf => ?_
    · replace hm := j6
      clear j6
      refine sw_block ?_
      refine sw_regs tb_ok (by rw [hn]; kernel_rfl) ?_
      obtain ⟨x, h3, hm⟩ := bnd hm
      simp -dsimp [hf, c2, h3]
      refine sw_regs tb_ok (by rw [hn]; kernel_rfl) ?_
      simp -dsimp
      rcases bifE hm with ⟨c4, hm⟩ | ⟨c4, hm⟩
      · refine sw_cond_t (b := x) (by simp -dsimp) c4 ?_
        refine sw_reg tb_ok (by rw [hn]; kernel_rfl) ?_
        obtain ⟨n1, h5, hm⟩ := bnd hm
        simp -dsimp [hf, c4, h5]
        refine blk_n ?_
        refine thenQ_n ?_
        cases hm
        refine EE.here ?_
        simp -dsimp [hf]

      · refine sw_cond_f (b := x) (by simp -dsimp) c4 ?_
        refine swp_skip ?_
        refine blk_n ?_
        refine thenQ_n ?_
        cases hm
        refine EE.here ?_
        simp -dsimp [hf, c4]

    · clear j6
      simp only [Fits, FitE, FitS, and_true] at hf
      refine sw_reg tb_ok (by rw [hn]; kernel_rfl) ?_
      simp -dsimp [hf]
      cases hm
      refine rd_next ?_
      refine EE.here ?_
      simp -dsimp [hf]

  · refine sw_cond_f (b := (ltB a (lenL l))) (by simp -dsimp) c2 ?_
    refine swp_exit ?_
    refine then_x ?_
    cases hm
    refine rd_out nofun ?_
    unfold F_lower_State_1
    dsimp only
    refine ⟨rfl, ?_⟩
    refine EE.here ?_
    simp -dsimp [hf, c2]

theorem f_lower_State (l : List Bool) (r : Int) (hm : m_lower_State l = some r) : PFn Tryz.prog 57 [.u (.one (.d (.sl 1 (List.map rB l))))] (fun v => v.wk (.u (.one (.d (.int .i64 r))))) := by
  refine pfn_E tb_ok _ Tryz.func57 rfl (by kernel_rfl) (by simp [Tryz.ntmps57]) fun cx hn => ?_
  replace hn : cx.n = 23 := hn.trans Tryz.ntmps57
  unfold m_lower_State at hm
  refine sw_regs tb_ok (by rw [hn]; kernel_rfl) ?_
  simp -dsimp []
  refine sw_seq ?_
  refine sw_regs tb_ok (by rw [hn]; kernel_rfl) ?_
  simp -dsimp []
  rcases bifE hm with ⟨c1, hm⟩ | ⟨c1, hm⟩
  · refine sw_cond_t (b := (gtB (lenL l) 8)) (by simp -dsimp []) c1 ?_
    refine sw_regs tb_ok (by rw [hn]; kernel_rfl) ?_
    simp -dsimp [c1]
    refine swp_ret ?_
    refine then_x ?_
    cases hm
    refine ⟨.inr rfl, ?_⟩
    refine EE.here ?_
    simp -dsimp

  · refine sw_cond_f (b := (gtB (lenL l) 8)) (by simp -dsimp []) c1 ?_
    refine swp_skip ?_
    refine thenQ_n ?_
    refine sw_regs tb_ok (by rw [hn]; kernel_rfl) ?_
    simp -dsimp [c1]
    refine sw_seq ?_
    refine sw_regs tb_ok (by rw [hn]; kernel_rfl) ?_
    simp -dsimp
    refine sw_block ?_
    obtain ⟨n, g7, hm⟩ := bnd hm
    refine sw_ent [(3, .u (.one (.d (.int .i64 0)))), (9, .u (.one (.d (.sl 1 (List.map rB l))))), (10, .u (.one (.d (.int .i64 (lenL l))))), (11, .u (.one (.d (.int .i64 0))))] [] (by rfl) (by rfl) (by
        refine EE.here ?_
        simp -dsimp
    ) fun ρ σ hf => ?_
    refine (l_lower_State_1 cx hn l g7 hf).mono fun ee ρ σ x8 => ?_
    unfold F_lower_State_1 at x8
    dsimp only at x8
    obtain ⟨rfl, x8⟩ := x8
    refine blk_exit ?_
    refine thenQ_n ?_
    refine sw_ee (by rfl) (by rfl) x8 fun ρ σ hf => ?_
    simp only [Fits, FitE, FitS, and_true] at hf
    refine sw_regs tb_ok (by rw [hn]; kernel_rfl) ?_
    simp -dsimp [hf]
    refine swp_ret ?_
    cases hm
    refine ⟨.inr rfl, ?_⟩
    refine EE.here ?_
    simp -dsimp

theorem c_lower_State (l : List Bool) (r : Int) (hm : m_lower_State l = some r) : PureCall Tryz.prog 57 [.u (.one (.d (.sl 1 (List.map rB l))))] (.u (.one (.d (.int .i64 r)))) := (f_lower_State l r hm).pureW
def F_unroll_Pattern_1 (cx : Cx) (_t : Tree) (_x : Problem) (_l : List Bool) (_y1 : Int) (tt : ((List Cell) × Int) ⊕ (List Cell)) (ee : Exit) (ρ : Env) (σ : Sto) : Prop := match tt with
  | .inl r => ee = .ret ∧ EE cx (fun ρ σ => ∃ v, resV tb ρ σ Tryz.f16.results.toList = some v ∧ (v.frz σ).free = true ∧ (v.frz σ).wk (.tup [.one (.d (.sl 3 (List.map Cell.row r.1))), .one (.d (.int .i64 r.2))])) ρ σ
  | .inr out => ee = .exit 0 ∧ EE cx (FitsW [(10, .u (.one (.own 5000)))] [(5000, .row 3 68 (List.map Cell.row out))]) ρ σ
theorem l_unroll_Pattern_1 (cx : Cx) (hn : cx.n = 71) (t : Tree) (x : Problem) (l : List Bool) (y1 : Int) {fu : Nat} {stt : Int × (List Cell)} {tt : ((List Cell) × Int) ⊕ (List Cell)} (hh : loopN (b_unroll_Pattern_1 t x l y1) fu stt = some tt) {ρ : Env} {σ : Sto}
    (hE : Fits ((fun stt : Int × (List Cell) => match stt with | (a, _out) => [(2, .u (.one (.d (.sl 1 (List.map rB l))))), (3, .u (.one (.box 3 0))), (4, .u (.one (.box 4 0))), (9, .u (.one (.d (.int .i64 y1)))), (10, .u (.one (.own 5000))), (36, .u (.one (.d (.int .i64 (imul .i64 x.W x.H))))), (37, .u (.one (.d (.int .i64 a))))]) stt) ((fun stt : Int × (List Cell) => match stt with | (_a, out) => [(3, .box [.d (.int .i64 t.States), .d (.sl 2 (List.map Point.row t.Hood)), .d (.sl 2 (List.map Node.row t.Nodes))]), (4, .box [.d (.int .i64 x.W), .d (.int .i64 x.H), .d (.int .i64 x.Gens), .d (.int .i64 x.DX), .d (.int .i64 x.DY), .d (.sl 1 (List.map (rI .i64) x.Syms))]), (5000, .row 3 68 (List.map Cell.row out))]) stt) ρ σ) : Swp Tryz.prog cx (.loop (csub [1, 1, 1, 1, 1, 0, 1, 0, 0] (bodyOf Tryz.f16))) ρ σ (F_unroll_Pattern_1 cx t x l y1 tt) := by
  refine loop_model (fun stt : Int × (List Cell) => match stt with | (a, out) => [(2, .u (.one (.d (.sl 1 (List.map rB l))))), (3, .u (.one (.box 3 0))), (4, .u (.one (.box 4 0))), (9, .u (.one (.d (.int .i64 y1)))), (10, .u (.one (.own 5000))), (36, .u (.one (.d (.int .i64 (imul .i64 x.W x.H))))), (37, .u (.one (.d (.int .i64 a))))]) (fun stt : Int × (List Cell) => match stt with | (a, out) => [(3, .box [.d (.int .i64 t.States), .d (.sl 2 (List.map Point.row t.Hood)), .d (.sl 2 (List.map Node.row t.Nodes))]), (4, .box [.d (.int .i64 x.W), .d (.int .i64 x.H), .d (.int .i64 x.Gens), .d (.int .i64 x.DX), .d (.int .i64 x.DY), .d (.sl 1 (List.map (rI .i64) x.Syms))]), (5000, .row 3 68 (List.map Cell.row out))]) (F_unroll_Pattern_1 cx t x l y1) (b_unroll_Pattern_1 t x l y1) (fun _ => by rfl) (fun _ => by rfl) ?_ hh hE
  rintro ⟨a, out⟩ r hm ρ σ hf
  simp only [Fits, FitE, FitS, and_true] at hf
  unfold b_unroll_Pattern_1 at hm
  dsimp only at hm
  refine sw_regs tb_ok (by rw [hn]; kernel_rfl) ?_
  simp -dsimp [hf]
  refine sw_seq ?_
  rcases bifE hm with ⟨c5, hm⟩ | ⟨c5, hm⟩
  · refine sw_cond_t (b := (ltB a (imul .i64 x.W x.H))) (by simp -dsimp) c5 ?_
    refine swp_skip ?_
    refine thenQ_n ?_
    refine sw_seq ?_
    refine sw_block ?_
    refine sw_regs tb_ok (by rw [hn]; kernel_rfl) ?_
    simp -dsimp [hf, c5]
    refine sw_regs tb_ok (by rw [hn]; kernel_rfl) ?_
    obtain ⟨l1, h6, hm⟩ := bnd hm
    obtain ⟨y2, h7, hm⟩ := bnd hm
    simp -dsimp [hf, h6]
    refine callL_pure (c_lower_State l1 y2 h7) (by rw [hn]; decide) ?_
    simp -dsimp
    refine sw_seq ?_
    refine sw_regs tb_ok (by rw [hn]; kernel_rfl) ?_
    simp -dsimp [hf]
    rcases bifE hm with ⟨c8, hm⟩ | ⟨c8, hm⟩
    · refine sw_cond_t (b := (geB y2 t.States)) (by simp -dsimp) c8 ?_
      refine sw_regs tb_ok (by rw [hn]; kernel_rfl) ?_
      simp -dsimp [c8]
      refine swp_ret ?_
      refine then_x ?_
      refine blk_r ?_
      refine then_x ?_
      cases hm
      refine rd_out nofun ?_
      unfold F_unroll_Pattern_1
      dsimp only
      refine ⟨rfl, ?_⟩
      refine EE.here ?_
      simp -dsimp [Tryz.results16]

    · refine sw_cond_f (b := (geB y2 t.States)) (by simp -dsimp) c8 ?_
      refine swp_skip ?_
      refine thenQ_n ?_
      refine sw_regs tb_ok (by rw [hn]; kernel_rfl) ?_
      simp -dsimp [c8]
      rcases bifE hm with ⟨c9, hm⟩ | ⟨c9, hm⟩
      · refine sw_cond_t (b := (gtB y2 0)) (by simp -dsimp) c9 ?_
        refine sw_drN tb_ok mixed 12 (by rw [hn]; kernel_rfl) ?_
        dsimp only [List.take, List.drop]
        obtain ⟨n, h10, hm⟩ := bnd hm
        obtain ⟨n1, h11, hm⟩ := bnd hm
        obtain ⟨l2, h12, hm⟩ := bnd hm
        obtain ⟨h12a, h12e⟩ := appL_some h12
        replace h12e := h12e.symm
        subst h12e
        try simp only [List.length_cons, List.length_nil, Nat.zero_add] at h12a
        simp -dsimp [hf, c9, h10, h11, h12a]
        refine blk_n ?_
        refine thenQ_n ?_
        refine sw_reg tb_ok (by rw [hn]; kernel_rfl) ?_
        simp -dsimp [hf]
        cases hm
        refine rd_next ?_
        refine EE.step (Wk.move 68 5000 (by decide) (.inl (by decide))) ?_
        refine EE.here ?_
        simp -dsimp [hf]

      · refine sw_cond_f (b := (gtB y2 0)) (by simp -dsimp) c9 ?_
        refine swp_skip ?_
        refine blk_n ?_
        refine thenQ_n ?_
        refine sw_reg tb_ok (by rw [hn]; kernel_rfl) ?_
        simp -dsimp [hf, c9]
        cases hm
        refine rd_next ?_
        refine EE.here ?_
        simp -dsimp [hf]

  · refine sw_cond_f (b := (ltB a (imul .i64 x.W x.H))) (by simp -dsimp) c5 ?_
    refine swp_exit ?_
    refine then_x ?_
    cases hm
    refine rd_out nofun ?_
    unfold F_unroll_Pattern_1
    dsimp only
    refine ⟨rfl, ?_⟩
    refine EE.here ?_
    simp -dsimp [hf, c5]

theorem f_unroll_Pattern (t : Tree) (x : Problem) (l : List Bool) (r : (List Cell) × Int) (hm : m_unroll_Pattern t x l = some r) : PFn Tryz.prog 16 [.u (.agg [.d (.int .i64 t.States), .d (.sl 2 (List.map Point.row t.Hood)), .d (.sl 2 (List.map Node.row t.Nodes))]), .u (.agg [.d (.int .i64 x.W), .d (.int .i64 x.H), .d (.int .i64 x.Gens), .d (.int .i64 x.DX), .d (.int .i64 x.DY), .d (.sl 1 (List.map (rI .i64) x.Syms))]), .u (.one (.d (.sl 1 (List.map rB l))))] (fun v => v.wk (.tup [.one (.d (.sl 3 (List.map Cell.row r.1))), .one (.d (.int .i64 r.2))])) := by
  refine pfn_E tb_ok _ Tryz.func16 rfl (by kernel_rfl) (by simp [Tryz.ntmps16]) fun cx hn => ?_
  replace hn : cx.n = 71 := hn.trans Tryz.ntmps16
  unfold m_unroll_Pattern at hm
  refine sw_regs tb_ok (by rw [hn]; kernel_rfl) ?_
  simp -dsimp []
  refine sw_seq ?_
  refine sw_regs tb_ok (by rw [hn]; kernel_rfl) ?_
  obtain ⟨y, h1, hm⟩ := bnd hm
  simp -dsimp []
  refine callL_pure (c_problem_Check t x y h1) (by rw [hn]; decide) ?_
  simp -dsimp
  refine sw_regs tb_ok (by rw [hn]; kernel_rfl) ?_
  simp -dsimp
  rcases bifE hm with ⟨c2, hm⟩ | ⟨c2, hm⟩
  · refine sw_cond_t (b := (neB y 0)) (by simp -dsimp) c2 ?_
    refine sw_regs tb_ok (by rw [hn]; kernel_rfl) ?_
    simp -dsimp [c2]
    refine swp_ret ?_
    refine then_x ?_
    cases hm
    refine ⟨.inr rfl, ?_⟩
    refine EE.here ?_
    simp -dsimp

  · refine sw_cond_f (b := (neB y 0)) (by simp -dsimp) c2 ?_
    refine swp_skip ?_
    refine thenQ_n ?_
    refine sw_regs tb_ok (by rw [hn]; kernel_rfl) ?_
    obtain ⟨y1, h3, hm⟩ := bnd hm
    simp -dsimp [c2]
    refine callL_pure (c_lower_Bits t.States y1 h3) (by rw [hn]; decide) ?_
    simp -dsimp
    refine sw_seq ?_
    refine sw_regs tb_ok (by rw [hn]; kernel_rfl) ?_
    simp -dsimp
    rcases bifE hm with ⟨c4, hm⟩ | ⟨c4, hm⟩
    · refine sw_cond_t (b := (neB (lenL l) (imul .i64 (imul .i64 x.W x.H) y1))) (by simp -dsimp) c4 ?_
      refine sw_regs tb_ok (by rw [hn]; kernel_rfl) ?_
      simp -dsimp [c4]
      refine swp_ret ?_
      refine then_x ?_
      cases hm
      refine ⟨.inr rfl, ?_⟩
      refine EE.here ?_
      simp -dsimp

    · refine sw_cond_f (b := (neB (lenL l) (imul .i64 (imul .i64 x.W x.H) y1))) (by simp -dsimp) c4 ?_
      refine swp_skip ?_
      refine thenQ_n ?_
      refine sw_regs tb_ok (by rw [hn]; kernel_rfl) ?_
      simp -dsimp [c4]
      refine sw_seq ?_
      refine sw_regs tb_ok (by rw [hn]; kernel_rfl) ?_
      simp -dsimp
      refine sw_block ?_
      obtain ⟨o_, g13, hm⟩ := bnd hm
      refine sw_ent [(2, .u (.one (.d (.sl 1 (List.map rB l))))), (3, .u (.one (.box 3 0))), (4, .u (.one (.box 4 0))), (9, .u (.one (.d (.int .i64 y1)))), (10, .u (.one (.own 5000))), (36, .u (.one (.d (.int .i64 (imul .i64 x.W x.H))))), (37, .u (.one (.d (.int .i64 0))))] [(3, .box [.d (.int .i64 t.States), .d (.sl 2 (List.map Point.row t.Hood)), .d (.sl 2 (List.map Node.row t.Nodes))]), (4, .box [.d (.int .i64 x.W), .d (.int .i64 x.H), .d (.int .i64 x.Gens), .d (.int .i64 x.DX), .d (.int .i64 x.DY), .d (.sl 1 (List.map (rI .i64) x.Syms))]), (5000, .row 3 68 (List.map Cell.row []))] (by rfl) (by rfl) (by
          refine EE.step (Wk.own0 10 5000 3 68 (by simp -dsimp) (by decide)) ?_
          refine EE.here ?_
          simp -dsimp
      ) fun ρ σ hf => ?_
      refine (l_unroll_Pattern_1 cx hn t x l y1 g13 hf).mono fun ee ρ σ x14 => ?_
      rcases o_ with r | out
      · unfold F_unroll_Pattern_1 at x14
        dsimp only at x14
        obtain ⟨rfl, x14⟩ := x14
        refine blk_r ?_
        refine then_x ?_
        cases hm
        exact ⟨.inr rfl, x14⟩

      · unfold F_unroll_Pattern_1 at x14
        dsimp only at x14
        obtain ⟨rfl, x14⟩ := x14
        refine blk_exit ?_
        refine thenQ_n ?_
        refine sw_ee (by rfl) (by rfl) x14 fun ρ σ hf => ?_
        simp only [Fits, FitE, FitS, and_true] at hf
        refine sw_regs tb_ok (by rw [hn]; kernel_rfl) ?_
        simp -dsimp [hf]
        refine swp_ret ?_
        cases hm
        refine ⟨.inr rfl, ?_⟩
        refine EE.here ?_
        simp -dsimp [hf]

theorem c_unroll_Pattern (t : Tree) (x : Problem) (l : List Bool) (r : (List Cell) × Int) (hm : m_unroll_Pattern t x l = some r) : PureCall Tryz.prog 16 [.u (.agg [.d (.int .i64 t.States), .d (.sl 2 (List.map Point.row t.Hood)), .d (.sl 2 (List.map Node.row t.Nodes))]), .u (.agg [.d (.int .i64 x.W), .d (.int .i64 x.H), .d (.int .i64 x.Gens), .d (.int .i64 x.DX), .d (.int .i64 x.DY), .d (.sl 1 (List.map (rI .i64) x.Syms))]), .u (.one (.d (.sl 1 (List.map rB l))))] (.tup [.one (.d (.sl 3 (List.map Cell.row r.1))), .one (.d (.int .i64 r.2))]) := (f_unroll_Pattern t x l r hm).pureW
theorem f_R07_before (a : Point) (b : Point) (r : Bool) (hm : m_R07_before a b = some r) : PFn Tryz.prog 108 [.u (.agg [.d (.int .i64 a.X), .d (.int .i64 a.Y)]), .u (.agg [.d (.int .i64 b.X), .d (.int .i64 b.Y)])] (fun v => v.wk (.u (.one (.d (.bool r))))) := by
  refine pfn_E tb_ok _ Tryz.func108 rfl (by kernel_rfl) (by simp [Tryz.ntmps108]) fun cx hn => ?_
  replace hn : cx.n = 24 := hn.trans Tryz.ntmps108
  unfold m_R07_before at hm
  refine sw_regs tb_ok (by rw [hn]; kernel_rfl) ?_
  simp -dsimp []
  obtain ⟨a1, j3, hm⟩ := bnd hm
  refine sw_cutE [(4, .u (.one (.d (.bool a1))))] [] (by rfl) (by rfl) ?_ fun ρ σ hf => ?_
  · replace hm := j3
    clear j3
    refine sw_reg tb_ok (by rw [hn]; kernel_rfl) ?_
    rcases bifE hm with ⟨c1, hm⟩ | ⟨c1, hm⟩
    · simp -dsimp [c1]
      refine thenQ_n ?_
      cases hm
      refine EE.here ?_
      simp -dsimp

    · rcases bifE hm with ⟨c2, hm⟩ | ⟨c2, hm⟩
      · simp -dsimp [c1, c2]
        refine thenQ_n ?_
        cases hm
        refine EE.here ?_
        simp -dsimp

      · simp -dsimp [c1, c2]
        refine thenQ_n ?_
        cases hm
        refine EE.here ?_
        simp -dsimp

  · clear j3
    simp only [Fits, FitE, FitS, and_true] at hf
    refine swp_ret ?_
    cases hm
    refine ⟨.inr rfl, ?_⟩
    refine EE.here ?_
    simp -dsimp [hf]

theorem c_R07_before (a : Point) (b : Point) (r : Bool) (hm : m_R07_before a b = some r) : PureCall Tryz.prog 108 [.u (.agg [.d (.int .i64 a.X), .d (.int .i64 a.Y)]), .u (.agg [.d (.int .i64 b.X), .d (.int .i64 b.Y)])] (.u (.one (.d (.bool r)))) := (f_R07_before a b r hm).pureW
end Go.Proofs.YtgfhhbjnjccomaaGreatDoor
