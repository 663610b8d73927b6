/-
  That the code does what the functions say (made by cc.py).
-/
import Derived.Test.YtgfhhbjnjccomaaGreatDoorMd1
import Derived.Test.YtgfhhbjnjccomaaGreatDoorTb
import Derived.Test.YtgfhhbjnjccomaaGreatDoorWa4
import Derived.Test.YtgfhhbjnjccomaaGreatDoorWa5
import Derived.Test.YtgfhhbjnjccomaaGreatDoorWa6
import Derived.Test.YtgfhhbjnjccomaaGreatDoorWa12
namespace Go.Proofs.YtgfhhbjnjccomaaGreatDoor
open Go.AM Go.Proofs
def F_unroll_Bits_2 (cx : Cx) (x : Problem) (p : List Cell) (y2 : Int) (a1 : Int) (_out : List Bool) (_x1 : Cell) (tt : (List Bool)) (ee : Exit) (ρ : Env) (σ : Sto) : Prop := match tt with
  | out1 => ee = .exit 2 ∧ EE cx (FitsW [(4, .u (.one (.box 4 0))), (9, .u (.one (.d (.int .i64 y2)))), (10, .u (.one (.own 43))), (44, .u (.one (.d (.sl 3 (List.map Cell.row p))))), (45, .u (.one (.d (.int .i64 (lenL p))))), (46, .u (.one (.d (.int .i64 a1))))] [(4, .box [.d (.int .i64 x.W), .d (.int .i64 x.H), .d (.int .i64 x.Gens), .d (.int .i64 x.DX), .d (.int .i64 x.DY), .d (.sl 1 (List.map (rI .i64) x.Syms))]), (43, .row 1 4 (List.map rB out1))]) ρ σ
theorem l_unroll_Bits_2 (cx : Cx) (hn : cx.n = 77) (x : Problem) (p : List Cell) (y2 : Int) (a1 : Int) (out : List Bool) (x1 : Cell) {fu : Nat} {stt : Int × (List Bool)} {tt : (List Bool)} (hh : loopN (b_unroll_Bits_2 x p y2 a1 out x1) fu stt = some tt) {ρ : Env} {σ : Sto}
    (hE : Fits ((fun stt : Int × (List Bool) => match stt with | (a2, _out1) => [(4, .u (.one (.box 4 0))), (9, .u (.one (.d (.int .i64 y2)))), (10, .u (.one (.own 43))), (12, .u (.one (.box 12 0))), (44, .u (.one (.d (.sl 3 (List.map Cell.row p))))), (45, .u (.one (.d (.int .i64 (lenL p))))), (46, .u (.one (.d (.int .i64 a1)))), (50, .u (.one (.d (.int .i64 y2)))), (51, .u (.one (.d (.int .i64 a2))))]) stt) ((fun stt : Int × (List Bool) => match stt with | (_a2, out1) => [(4, .box [.d (.int .i64 x.W), .d (.int .i64 x.H), .d (.int .i64 x.Gens), .d (.int .i64 x.DX), .d (.int .i64 x.DY), .d (.sl 1 (List.map (rI .i64) x.Syms))]), (12, .box [.d (.int .i64 x1.X), .d (.int .i64 x1.Y), .d (.int .i64 x1.S)]), (43, .row 1 4 (List.map rB out1))]) stt) ρ σ) : Swp Tryz.prog cx (.loop (csub [1, 1, 1, 1, 1, 1, 0, 1, 0, 0, 1, 1, 0, 0, 1, 1, 0, 0] (bodyOf Tryz.f19))) ρ σ (F_unroll_Bits_2 cx x p y2 a1 out x1 tt) := by
  refine loop_model (fun stt : Int × (List Bool) => match stt with | (a2, out1) => [(4, .u (.one (.box 4 0))), (9, .u (.one (.d (.int .i64 y2)))), (10, .u (.one (.own 43))), (12, .u (.one (.box 12 0))), (44, .u (.one (.d (.sl 3 (List.map Cell.row p))))), (45, .u (.one (.d (.int .i64 (lenL p))))), (46, .u (.one (.d (.int .i64 a1)))), (50, .u (.one (.d (.int .i64 y2)))), (51, .u (.one (.d (.int .i64 a2))))]) (fun stt : Int × (List Bool) => match stt with | (a2, out1) => [(4, .box [.d (.int .i64 x.W), .d (.int .i64 x.H), .d (.int .i64 x.Gens), .d (.int .i64 x.DX), .d (.int .i64 x.DY), .d (.sl 1 (List.map (rI .i64) x.Syms))]), (12, .box [.d (.int .i64 x1.X), .d (.int .i64 x1.Y), .d (.int .i64 x1.S)]), (43, .row 1 4 (List.map rB out1))]) (F_unroll_Bits_2 cx x p y2 a1 out x1) (b_unroll_Bits_2 x p y2 a1 out x1) (fun _ => by rfl) (fun _ => by rfl) ?_ hh hE
  rintro ⟨a2, out1⟩ r hm ρ σ hf
  simp only [Fits, FitE, FitS, and_true] at hf
  unfold b_unroll_Bits_2 at hm
  dsimp only at hm
  refine sw_regs tb_ok (by rw [hn]; kernel_rfl) ?_
  simp -dsimp [hf]
  refine sw_seq ?_
  rcases bifE hm with ⟨c13, hm⟩ | ⟨c13, hm⟩
  · refine sw_cond_t (b := (ltB a2 y2)) (by simp -dsimp) c13 ?_
    refine swp_skip ?_
    refine thenQ_n ?_
    refine sw_seq ?_
    refine sw_block ?_
    refine sw_regs tb_ok (by rw [hn]; kernel_rfl) ?_
    simp -dsimp [hf, c13]
    refine sw_drN tb_ok mixed 19 (by rw [hn]; kernel_rfl) ?_
    dsimp only [List.take, List.drop]
    obtain ⟨n, h14, hm⟩ := bnd hm
    obtain ⟨x2, h15, hm⟩ := bnd hm
    simp -dsimp [hf, h14, h15, idx_get h15]
    refine blk_n ?_
    refine thenQ_n ?_
    refine sw_reg tb_ok (by rw [hn]; kernel_rfl) ?_
    simp -dsimp [hf]
    cases hm
    refine rd_next ?_
    refine EE.here ?_
    simp -dsimp [hf]

  · refine sw_cond_f (b := (ltB a2 y2)) (by simp -dsimp) c13 ?_
    refine swp_exit ?_
    refine then_x ?_
    cases hm
    refine rd_out nofun ?_
    unfold F_unroll_Bits_2
    dsimp only
    refine ⟨rfl, ?_⟩
    refine EE.here ?_
    simp -dsimp [hf, c13]

def F_unroll_Bits_1 (cx : Cx) (_x : Problem) (_p : List Cell) (_y2 : Int) (tt : (List Bool)) (ee : Exit) (ρ : Env) (σ : Sto) : Prop := match tt with
  | out => ee = .exit 0 ∧ EE cx (FitsW [(10, .u (.one (.own 43)))] [(43, .row 1 4 (List.map rB out))]) ρ σ
theorem l_unroll_Bits_1 (cx : Cx) (hn : cx.n = 77) (x : Problem) (p : List Cell) (y2 : Int) {fu : Nat} {stt : Int × (List Bool)} {tt : (List Bool)} (hh : loopN (b_unroll_Bits_1 x p y2) fu stt = some tt) {ρ : Env} {σ : Sto}
    (hE : Fits ((fun stt : Int × (List Bool) => match stt with | (a1, _out) => [(4, .u (.one (.box 4 0))), (9, .u (.one (.d (.int .i64 y2)))), (10, .u (.one (.own 43))), (44, .u (.one (.d (.sl 3 (List.map Cell.row p))))), (45, .u (.one (.d (.int .i64 (lenL p))))), (46, .u (.one (.d (.int .i64 a1))))]) stt) ((fun stt : Int × (List Bool) => match stt with | (_a1, out) => [(4, .box [.d (.int .i64 x.W), .d (.int .i64 x.H), .d (.int .i64 x.Gens), .d (.int .i64 x.DX), .d (.int .i64 x.DY), .d (.sl 1 (List.map (rI .i64) x.Syms))]), (43, .row 1 4 (List.map rB out))]) stt) ρ σ) : Swp Tryz.prog cx (.loop (csub [1, 1, 1, 1, 1, 1, 0, 1, 0, 0] (bodyOf Tryz.f19))) ρ σ (F_unroll_Bits_1 cx x p y2 tt) := by
  refine loop_model (fun stt : Int × (List Bool) => match stt with | (a1, out) => [(4, .u (.one (.box 4 0))), (9, .u (.one (.d (.int .i64 y2)))), (10, .u (.one (.own 43))), (44, .u (.one (.d (.sl 3 (List.map Cell.row p))))), (45, .u (.one (.d (.int .i64 (lenL p))))), (46, .u (.one (.d (.int .i64 a1))))]) (fun stt : Int × (List Bool) => match stt with | (a1, out) => [(4, .box [.d (.int .i64 x.W), .d (.int .i64 x.H), .d (.int .i64 x.Gens), .d (.int .i64 x.DX), .d (.int .i64 x.DY), .d (.sl 1 (List.map (rI .i64) x.Syms))]), (43, .row 1 4 (List.map rB out))]) (F_unroll_Bits_1 cx x p y2) (b_unroll_Bits_1 x p y2) (fun _ => by rfl) (fun _ => by rfl) ?_ hh hE
  rintro ⟨a1, out⟩ r hm ρ σ hf
  simp only [Fits, FitE, FitS, and_true] at hf
  unfold b_unroll_Bits_1 at hm
  dsimp only at hm
  refine sw_regs tb_ok (by rw [hn]; kernel_rfl) ?_
  simp -dsimp [hf]
  refine sw_seq ?_
  rcases bifE hm with ⟨c11, hm⟩ | ⟨c11, hm⟩
  · refine sw_cond_t (b := (ltB a1 (lenL p))) (by simp -dsimp) c11 ?_
    refine swp_skip ?_
    refine thenQ_n ?_
    refine sw_seq ?_
    refine sw_block ?_
    refine sw_regs tb_ok (by rw [hn]; kernel_rfl) ?_
    obtain ⟨x1, h12, hm⟩ := bnd hm
    simp -dsimp [hf, c11, h12]
    refine sw_regs tb_ok (by rw [hn]; kernel_rfl) ?_
    simp -dsimp [hf]
    refine sw_block ?_
    obtain ⟨out1, g16, hm⟩ := bnd hm
    refine sw_ent [(4, .u (.one (.box 4 0))), (9, .u (.one (.d (.int .i64 y2)))), (10, .u (.one (.own 43))), (12, .u (.one (.box 12 0))), (44, .u (.one (.d (.sl 3 (List.map Cell.row p))))), (45, .u (.one (.d (.int .i64 (lenL p))))), (46, .u (.one (.d (.int .i64 a1)))), (50, .u (.one (.d (.int .i64 y2)))), (51, .u (.one (.d (.int .i64 0))))] [(4, .box [.d (.int .i64 x.W), .d (.int .i64 x.H), .d (.int .i64 x.Gens), .d (.int .i64 x.DX), .d (.int .i64 x.DY), .d (.sl 1 (List.map (rI .i64) x.Syms))]), (12, .box [.d (.int .i64 x1.X), .d (.int .i64 x1.Y), .d (.int .i64 x1.S)]), (43, .row 1 4 (List.map rB out))] (by rfl) (by rfl) (by
        refine EE.here ?_
        simp -dsimp [hf]
    ) fun ρ σ hf => ?_
    refine (l_unroll_Bits_2 cx hn x p y2 a1 out x1 g16 hf).mono fun ee ρ σ x17 => ?_
    unfold F_unroll_Bits_2 at x17
    dsimp only at x17
    obtain ⟨rfl, x17⟩ := x17
    refine blk_exit ?_
    refine blk_n ?_
    refine thenQ_n ?_
    refine sw_ee (by rfl) (by rfl) x17 fun ρ σ hf => ?_
    simp only [Fits, FitE, FitS, and_true] at hf
    refine sw_reg tb_ok (by rw [hn]; kernel_rfl) ?_
    simp -dsimp [hf]
    cases hm
    refine rd_next ?_
    refine EE.here ?_
    simp -dsimp [hf]

  · refine sw_cond_f (b := (ltB a1 (lenL p))) (by simp -dsimp) c11 ?_
    refine swp_exit ?_
    refine then_x ?_
    cases hm
    refine rd_out nofun ?_
    unfold F_unroll_Bits_1
    dsimp only
    refine ⟨rfl, ?_⟩
    refine EE.here ?_
    simp -dsimp [hf, c11]

theorem f_unroll_Bits (t : Tree) (x : Problem) (p : List Cell) (r : (List Bool) × Int) (hm : m_unroll_Bits t x p = some r) : PFn Tryz.prog 19 [.u (.agg [.d (.int .i64 t.States), .d (.sl 2 (List.map Point.row t.Hood)), .d (.sl 2 (List.map Node.row t.Nodes))]), .u (.agg [.d (.int .i64 x.W), .d (.int .i64 x.H), .d (.int .i64 x.Gens), .d (.int .i64 x.DX), .d (.int .i64 x.DY), .d (.sl 1 (List.map (rI .i64) x.Syms))]), .u (.one (.d (.sl 3 (List.map Cell.row p))))] (fun v => v.wk (.tup [.one (.d (.sl 1 (List.map rB r.1))), .one (.d (.int .i64 r.2))])) := by
  refine pfn_E tb_ok _ Tryz.func19 rfl (by kernel_rfl) (by simp [Tryz.ntmps19]) fun cx hn => ?_
  replace hn : cx.n = 77 := hn.trans Tryz.ntmps19
  unfold m_unroll_Bits at hm
  refine sw_regs tb_ok (by rw [hn]; kernel_rfl) ?_
  simp -dsimp []
  refine sw_seq ?_
  refine sw_regs tb_ok (by rw [hn]; kernel_rfl) ?_
  obtain ⟨y, h1, hm⟩ := bnd hm
  simp -dsimp []
  refine callL_pure (c_problem_Check t x y h1) (by rw [hn]; decide) ?_
  simp -dsimp
  refine sw_regs tb_ok (by rw [hn]; kernel_rfl) ?_
  simp -dsimp
  rcases bifE hm with ⟨c2, hm⟩ | ⟨c2, hm⟩
  · refine sw_cond_t (b := (neB y 0)) (by simp -dsimp) c2 ?_
    refine sw_regs tb_ok (by rw [hn]; kernel_rfl) ?_
    simp -dsimp [c2]
    refine swp_ret ?_
    refine then_x ?_
    cases hm
    refine ⟨.inr rfl, ?_⟩
    refine EE.here ?_
    simp -dsimp

  · refine sw_cond_f (b := (neB y 0)) (by simp -dsimp) c2 ?_
    refine swp_skip ?_
    refine thenQ_n ?_
    refine sw_seq ?_
    obtain ⟨a, j20, hm⟩ := bnd hm
    refine sw_cutE [(2, .u (.one (.d (.sl 3 (List.map Cell.row p))))), (3, .u (.one (.box 3 0))), (4, .u (.one (.box 4 0))), (27, .u (.one (.d (.bool a))))] [(3, .box [.d (.int .i64 t.States), .d (.sl 2 (List.map Point.row t.Hood)), .d (.sl 2 (List.map Node.row t.Nodes))]), (4, .box [.d (.int .i64 x.W), .d (.int .i64 x.H), .d (.int .i64 x.Gens), .d (.int .i64 x.DX), .d (.int .i64 x.DY), .d (.sl 1 (List.map (rI .i64) x.Syms))])] (by rfl) (by rfl) ?_ fun ρ σ hf => ?_
    · replace hm := j20
      clear j20
      refine sw_reg tb_ok (by rw [hn]; kernel_rfl) ?_
      obtain ⟨y1, h3, hm⟩ := bnd hm
      simp -dsimp [c2]
      refine callL_pure (c_pattern_Right p y1 h3) (by rw [hn]; decide) ?_
      rcases bifE hm with ⟨c4, hm⟩ | ⟨c4, hm⟩
      · simp -dsimp [c4]
        refine thenQ_n ?_
        cases hm
        refine EE.here ?_
        simp -dsimp

      · obtain ⟨y2, h5, hm⟩ := bnd hm
        simp -dsimp [c4]
        refine callL_brw (us' := [.u (.one (.d (.sl 3 (List.map Cell.row p)))), .u (.one (.fn 61 [.ref (Problem.row x) 0]))]) (c_slices_ContainsFunc_api_Pattern_api_Cell_unroll_Bits_1 p x y2 h5) (by simp -dsimp) rfl (by rw [hn]; decide) ?_
        simp -dsimp
        refine thenQ_n ?_
        cases hm
        refine EE.here ?_
        simp -dsimp

    · clear j20
      simp only [Fits, FitE, FitS, and_true] at hf
      rcases bifE hm with ⟨c6, hm⟩ | ⟨c6, hm⟩
      · refine sw_cond_t (b := a) (by simp -dsimp [hf]) c6 ?_
        refine sw_regs tb_ok (by rw [hn]; kernel_rfl) ?_
        simp -dsimp
        refine swp_ret ?_
        refine then_x ?_
        cases hm
        refine ⟨.inr rfl, ?_⟩
        refine EE.here ?_
        simp -dsimp

      · refine sw_cond_f (b := a) (by simp -dsimp [hf]) c6 ?_
        refine swp_skip ?_
        refine thenQ_n ?_
        refine sw_seq ?_
        refine sw_qts tb_ok mixed (by rw [hn]; kernel_rfl) ?_
        obtain ⟨y1, h7, hm⟩ := bnd hm
        simp -dsimp [hf]
        refine qcallL_pure (c_pattern_Top p y1 h7) ?_
        simp -dsimp [hf]
        rcases bifE hm with ⟨c8, hm⟩ | ⟨c8, hm⟩
        · refine sw_cond_t (b := (geB y1 t.States)) (by simp -dsimp) c8 ?_
          refine sw_regs tb_ok (by rw [hn]; kernel_rfl) ?_
          simp -dsimp [c8]
          refine swp_ret ?_
          refine then_x ?_
          cases hm
          refine ⟨.inr rfl, ?_⟩
          refine EE.here ?_
          simp -dsimp

        · refine sw_cond_f (b := (geB y1 t.States)) (by simp -dsimp) c8 ?_
          refine swp_skip ?_
          refine thenQ_n ?_
          refine sw_regs tb_ok (by rw [hn]; kernel_rfl) ?_
          obtain ⟨y2, h9, hm⟩ := bnd hm
          simp -dsimp [hf, c8]
          refine callL_pure (c_lower_Bits t.States y2 h9) (by rw [hn]; decide) ?_
          simp -dsimp
          refine sw_regs tb_ok (by rw [hn]; kernel_rfl) ?_
          obtain ⟨l, h10, hm⟩ := bnd hm
          obtain ⟨⟨h10a, h10b, h10c⟩, rfl⟩ := mkL_some h10
          rw [Int.mul_one] at h10c
          simp -dsimp [hf, h10a, h10c]
          refine sw_seq ?_
          refine sw_regs tb_ok (by rw [hn]; kernel_rfl) ?_
          simp -dsimp [hf]
          refine sw_block ?_
          obtain ⟨out, g18, hm⟩ := bnd hm
          refine sw_ent [(4, .u (.one (.box 4 0))), (9, .u (.one (.d (.int .i64 y2)))), (10, .u (.one (.own 43))), (44, .u (.one (.d (.sl 3 (List.map Cell.row p))))), (45, .u (.one (.d (.int .i64 (lenL p))))), (46, .u (.one (.d (.int .i64 0))))] [(4, .box [.d (.int .i64 x.W), .d (.int .i64 x.H), .d (.int .i64 x.Gens), .d (.int .i64 x.DX), .d (.int .i64 x.DY), .d (.sl 1 (List.map (rI .i64) x.Syms))]), (43, .row 1 4 (List.map rB (List.replicate (imul .i64 (imul .i64 x.W x.H) y2).toNat false)))] (by rfl) (by rfl) (by
              refine EE.here ?_
              simp -dsimp [hf]
          ) fun ρ σ hf => ?_
          refine (l_unroll_Bits_1 cx hn x p y2 g18 hf).mono fun ee ρ σ x19 => ?_
          unfold F_unroll_Bits_1 at x19
          dsimp only at x19
          obtain ⟨rfl, x19⟩ := x19
          refine blk_exit ?_
          refine thenQ_n ?_
          refine sw_ee (by rfl) (by rfl) x19 fun ρ σ hf => ?_
          simp only [Fits, FitE, FitS, and_true] at hf
          refine sw_regs tb_ok (by rw [hn]; kernel_rfl) ?_
          simp -dsimp [hf]
          refine swp_ret ?_
          cases hm
          refine ⟨.inr rfl, ?_⟩
          refine EE.here ?_
          simp -dsimp [hf]

theorem c_unroll_Bits (t : Tree) (x : Problem) (p : List Cell) (r : (List Bool) × Int) (hm : m_unroll_Bits t x p = some r) : PureCall Tryz.prog 19 [.u (.agg [.d (.int .i64 t.States), .d (.sl 2 (List.map Point.row t.Hood)), .d (.sl 2 (List.map Node.row t.Nodes))]), .u (.agg [.d (.int .i64 x.W), .d (.int .i64 x.H), .d (.int .i64 x.Gens), .d (.int .i64 x.DX), .d (.int .i64 x.DY), .d (.sl 1 (List.map (rI .i64) x.Syms))]), .u (.one (.d (.sl 3 (List.map Cell.row p))))] (.tup [.one (.d (.sl 1 (List.map rB r.1))), .one (.d (.int .i64 r.2))]) := (f_unroll_Bits t x p r hm).pureW
def F_R17_SameBools_1 (cx : Cx) (_a : List Bool) (_b : List Bool) (tt : Bool ⊕ Unit) (ee : Exit) (ρ : Env) (σ : Sto) : Prop := match tt with
  | .inl r => ee = .ret ∧ EE cx (fun ρ σ => ∃ v, resV tb ρ σ Tryz.f20.results.toList = some v ∧ (v.frz σ).free = true ∧ (v.frz σ).wk (.u (.one (.d (.bool r))))) ρ σ
  | .inr _u => ee = .exit 0 ∧ EE cx (FitsW [] []) ρ σ
theorem l_R17_SameBools_1 (cx : Cx) (hn : cx.n = 26) (a : List Bool) (b : List Bool) {fu : Nat} {stt : Int} {tt : Bool ⊕ Unit} (hh : loopN (b_R17_SameBools_1 a b) fu stt = some tt) {ρ : Env} {σ : Sto}
    (hE : Fits ((fun i : Int => [(0, .u (.one (.d (.sl 1 (List.map rB a))))), (1, .u (.one (.d (.sl 1 (List.map rB b))))), (5, .u (.one (.d (.int .i64 i))))]) stt) ((fun _i : Int => []) stt) ρ σ) : Swp Tryz.prog cx (.loop (csub [1, 1, 0, 1, 0, 0] (bodyOf Tryz.f20))) ρ σ (F_R17_SameBools_1 cx a b tt) := by
  refine loop_model (fun i : Int => [(0, .u (.one (.d (.sl 1 (List.map rB a))))), (1, .u (.one (.d (.sl 1 (List.map rB b))))), (5, .u (.one (.d (.int .i64 i))))]) (fun i : Int => []) (F_R17_SameBools_1 cx a b) (b_R17_SameBools_1 a b) (fun i => by rfl) (fun i => by rfl) ?_ hh hE
  rintro i r hm ρ σ hf
  simp only [Fits, FitE, FitS, and_true] at hf
  unfold b_R17_SameBools_1 at hm
  dsimp only at hm
  refine sw_seq ?_
  refine sw_regs tb_ok (by rw [hn]; kernel_rfl) ?_
  simp -dsimp [hf]
  rcases bifE hm with ⟨c2, hm⟩ | ⟨c2, hm⟩
  · refine sw_cond_t (b := (ltB i (lenL a))) (by simp -dsimp) c2 ?_
    refine swp_skip ?_
    refine thenQ_n ?_
    refine sw_seq ?_
    refine sw_block ?_
    refine sw_qts tb_ok mixed (by rw [hn]; kernel_rfl) ?_
    obtain ⟨x, h3, hm⟩ := bnd hm
    obtain ⟨x1, h4, hm⟩ := bnd hm
    simp -dsimp [hf, c2, h3, h4]
    rcases bifE hm with ⟨c5, hm⟩ | ⟨c5, hm⟩
    · refine sw_cond_t (b := (notB (eqb x x1))) (by simp -dsimp) c5 ?_
      refine sw_regs tb_ok (by rw [hn]; kernel_rfl) ?_
      simp -dsimp [c5]
      refine swp_ret ?_
      refine blk_r ?_
      refine then_x ?_
      cases hm
      refine rd_out nofun ?_
      unfold F_R17_SameBools_1
      dsimp only
      refine ⟨rfl, ?_⟩
      refine EE.here ?_
      simp -dsimp [Tryz.results20]

    · refine sw_cond_f (b := (notB (eqb x x1))) (by simp -dsimp) c5 ?_
      refine swp_skip ?_
      refine blk_n ?_
      refine thenQ_n ?_
      refine sw_reg tb_ok (by rw [hn]; kernel_rfl) ?_
      simp -dsimp [hf, c5]
      cases hm
      refine rd_next ?_
      refine EE.here ?_
      simp -dsimp [hf]

  · refine sw_cond_f (b := (ltB i (lenL a))) (by simp -dsimp) c2 ?_
    refine swp_exit ?_
    refine then_x ?_
    cases hm
    refine rd_out nofun ?_
    unfold F_R17_SameBools_1
    dsimp only
    refine ⟨rfl, ?_⟩
    refine EE.here ?_
    simp -dsimp [c2]

theorem f_R17_SameBools (a : List Bool) (b : List Bool) (r : Bool) (hm : m_R17_SameBools a b = some r) : PFn Tryz.prog 20 [.u (.one (.d (.sl 1 (List.map rB a)))), .u (.one (.d (.sl 1 (List.map rB b))))] (fun v => v.wk (.u (.one (.d (.bool r))))) := by
  refine pfn_E tb_ok _ Tryz.func20 rfl (by kernel_rfl) (by simp [Tryz.ntmps20]) fun cx hn => ?_
  replace hn : cx.n = 26 := hn.trans Tryz.ntmps20
  unfold m_R17_SameBools at hm
  refine sw_regs tb_ok (by rw [hn]; kernel_rfl) ?_
  simp -dsimp []
  refine sw_seq ?_
  refine sw_regs tb_ok (by rw [hn]; kernel_rfl) ?_
  simp -dsimp []
  rcases bifE hm with ⟨c1, hm⟩ | ⟨c1, hm⟩
  · refine sw_cond_t (b := (neB (lenL a) (lenL b))) (by simp -dsimp []) c1 ?_
    refine sw_regs tb_ok (by rw [hn]; kernel_rfl) ?_
    simp -dsimp [c1]
    refine swp_ret ?_
    refine then_x ?_
    cases hm
    refine ⟨.inr rfl, ?_⟩
    refine EE.here ?_
    simp -dsimp

  · refine sw_cond_f (b := (neB (lenL a) (lenL b))) (by simp -dsimp []) c1 ?_
    refine swp_skip ?_
    refine thenQ_n ?_
    refine sw_seq ?_
    refine sw_regs tb_ok (by rw [hn]; kernel_rfl) ?_
    simp -dsimp [c1]
    refine sw_block ?_
    obtain ⟨o_, g6, hm⟩ := bnd hm
    refine sw_ent [(0, .u (.one (.d (.sl 1 (List.map rB a))))), (1, .u (.one (.d (.sl 1 (List.map rB b))))), (5, .u (.one (.d (.int .i64 0))))] [] (by rfl) (by rfl) (by
        refine EE.here ?_
        simp -dsimp
    ) fun ρ σ hf => ?_
    refine (l_R17_SameBools_1 cx hn a b g6 hf).mono fun ee ρ σ x7 => ?_
    rcases o_ with r | _u
    · unfold F_R17_SameBools_1 at x7
      dsimp only at x7
      obtain ⟨rfl, x7⟩ := x7
      refine blk_r ?_
      refine then_x ?_
      cases hm
      exact ⟨.inr rfl, x7⟩

    · unfold F_R17_SameBools_1 at x7
      dsimp only at x7
      obtain ⟨rfl, x7⟩ := x7
      refine blk_exit ?_
      refine thenQ_n ?_
      refine sw_ee (by rfl) (by rfl) x7 fun ρ σ hf => ?_
      simp only [Fits, FitE, FitS, and_true] at hf
      refine sw_regs tb_ok (by rw [hn]; kernel_rfl) ?_
      simp -dsimp
      refine swp_ret ?_
      cases hm
      refine ⟨.inr rfl, ?_⟩
      refine EE.here ?_
      simp -dsimp

theorem c_R17_SameBools (a : List Bool) (b : List Bool) (r : Bool) (hm : m_R17_SameBools a b = some r) : PureCall Tryz.prog 20 [.u (.one (.d (.sl 1 (List.map rB a)))), .u (.one (.d (.sl 1 (List.map rB b))))] (.u (.one (.d (.bool r)))) := (f_R17_SameBools a b r hm).pureW
end Go.Proofs.YtgfhhbjnjccomaaGreatDoor
