/-
  That the code does what the functions say (made by cc.py).
-/
import Derived.Test.YtgfhhbjnjccomaaGreatDoorMd1
import Derived.Test.YtgfhhbjnjccomaaGreatDoorTb
import Derived.Test.YtgfhhbjnjccomaaGreatDoorWa10
import Derived.Test.YtgfhhbjnjccomaaGreatDoorWa14
namespace Go.Proofs.YtgfhhbjnjccomaaGreatDoor
open Go.AM Go.Proofs
def F_R45_Bits_2 (cx : Cx) (t : Tree) (x : Problem) (p : List Cell) (y2 : Int) (i : Int) (_out : List Bool) (tt : (List Bool)) (ee : Exit) (ρ : Env) (σ : Sto) : Prop := match tt with
  | out1 => ee = .exit 2 ∧ EE cx (FitsW [(2, .u (.one (.d (.sl 3 (List.map Cell.row p))))), (3, .u (.one (.box 3 0))), (4, .u (.one (.box 4 0))), (9, .u (.one (.d (.int .i64 y2)))), (10, .u (.one (.own 33))), (11, .u (.one (.d (.int .i64 i))))] [(3, .box [.d (.int .i64 t.States), .d (.sl 2 (List.map Point.row t.Hood)), .d (.sl 2 (List.map Node.row t.Nodes))]), (4, .box [.d (.int .i64 x.W), .d (.int .i64 x.H), .d (.int .i64 x.Gens), .d (.int .i64 x.DX), .d (.int .i64 x.DY), .d (.sl 1 (List.map (rI .i64) x.Syms))]), (33, .row 1 4 (List.map rB out1))]) ρ σ
theorem l_R45_Bits_2 (cx : Cx) (hn : cx.n = 122) (t : Tree) (x : Problem) (p : List Cell) (y2 : Int) (i : Int) (out : List Bool) {fu : Nat} {stt : Int × (List Bool)} {tt : (List Bool)} (hh : loopN (b_R45_Bits_2 t x p y2 i out) fu stt = some tt) {ρ : Env} {σ : Sto}
    (hE : Fits ((fun stt : Int × (List Bool) => match stt with | (k, _out1) => [(2, .u (.one (.d (.sl 3 (List.map Cell.row p))))), (3, .u (.one (.box 3 0))), (4, .u (.one (.box 4 0))), (9, .u (.one (.d (.int .i64 y2)))), (10, .u (.one (.own 33))), (11, .u (.one (.d (.int .i64 i)))), (12, .u (.one (.d (.int .i64 k))))]) stt) ((fun stt : Int × (List Bool) => match stt with | (_k, out1) => [(3, .box [.d (.int .i64 t.States), .d (.sl 2 (List.map Point.row t.Hood)), .d (.sl 2 (List.map Node.row t.Nodes))]), (4, .box [.d (.int .i64 x.W), .d (.int .i64 x.H), .d (.int .i64 x.Gens), .d (.int .i64 x.DX), .d (.int .i64 x.DY), .d (.sl 1 (List.map (rI .i64) x.Syms))]), (33, .row 1 4 (List.map rB out1))]) stt) ρ σ) : Swp Tryz.prog cx (.loop (csub [1, 1, 1, 1, 1, 0, 1, 0, 0, 1, 0, 0, 1, 1, 0, 0] (bodyOf Tryz.f21))) ρ σ (F_R45_Bits_2 cx t x p y2 i out tt) := by
  refine loop_model (fun stt : Int × (List Bool) => match stt with | (k, out1) => [(2, .u (.one (.d (.sl 3 (List.map Cell.row p))))), (3, .u (.one (.box 3 0))), (4, .u (.one (.box 4 0))), (9, .u (.one (.d (.int .i64 y2)))), (10, .u (.one (.own 33))), (11, .u (.one (.d (.int .i64 i)))), (12, .u (.one (.d (.int .i64 k))))]) (fun stt : Int × (List Bool) => match stt with | (k, out1) => [(3, .box [.d (.int .i64 t.States), .d (.sl 2 (List.map Point.row t.Hood)), .d (.sl 2 (List.map Node.row t.Nodes))]), (4, .box [.d (.int .i64 x.W), .d (.int .i64 x.H), .d (.int .i64 x.Gens), .d (.int .i64 x.DX), .d (.int .i64 x.DY), .d (.sl 1 (List.map (rI .i64) x.Syms))]), (33, .row 1 4 (List.map rB out1))]) (F_R45_Bits_2 cx t x p y2 i out) (b_R45_Bits_2 t x p y2 i out) (fun _ => by rfl) (fun _ => by rfl) ?_ hh hE
  rintro ⟨k, out1⟩ r hm ρ σ hf
  simp only [Fits, FitE, FitS, and_true] at hf
  unfold b_R45_Bits_2 at hm
  dsimp only at hm
  refine sw_seq ?_
  refine sw_regs tb_ok (by rw [hn]; kernel_rfl) ?_
  simp -dsimp [hf]
  rcases bifE hm with ⟨c13, hm⟩ | ⟨c13, hm⟩
  · refine sw_cond_t (b := (ltB k y2)) (by simp -dsimp) c13 ?_
    refine swp_skip ?_
    refine thenQ_n ?_
    refine sw_seq ?_
    refine sw_block ?_
    refine sw_drN tb_ok mixed 27 (by rw [hn]; kernel_rfl) ?_
    dsimp only [List.take, List.drop]
    obtain ⟨x1, h14, hm⟩ := bnd hm
    obtain ⟨y3, h15, hm⟩ := bnd hm
    simp -dsimp [hf, c13, h14]
    refine qcallL_pure (c_R45_bit x1.S k y3 h15) ?_
    obtain ⟨x2, h16, hm⟩ := bnd hm
    simp -dsimp [hf, h16, idx_get h16]
    refine blk_n ?_
    refine thenQ_n ?_
    refine sw_reg tb_ok (by rw [hn]; kernel_rfl) ?_
    simp -dsimp [hf]
    cases hm
    refine rd_next ?_
    refine EE.here ?_
    simp -dsimp [hf]

  · refine sw_cond_f (b := (ltB k y2)) (by simp -dsimp) c13 ?_
    refine swp_exit ?_
    refine then_x ?_
    cases hm
    refine rd_out nofun ?_
    unfold F_R45_Bits_2
    dsimp only
    refine ⟨rfl, ?_⟩
    refine EE.here ?_
    simp -dsimp [hf, c13]

def F_R45_Bits_1 (cx : Cx) (t : Tree) (_x : Problem) (p : List Cell) (_y2 : Int) (tt : ((List Bool) × Int) ⊕ (List Bool)) (ee : Exit) (ρ : Env) (σ : Sto) : Prop := match tt with
  | .inl r => ee = .ret ∧ EE cx (fun ρ σ => ∃ v, resV tb ρ σ Tryz.f21.results.toList = some v ∧ (v.frz σ).free = true ∧ (v.frz σ).wk (.tup [.one (.d (.sl 1 (List.map rB r.1))), .one (.d (.int .i64 r.2))])) ρ σ
  | .inr out => ee = .exit 0 ∧ EE cx (FitsW [(2, .u (.one (.d (.sl 3 (List.map Cell.row p))))), (3, .u (.one (.box 3 0))), (10, .u (.one (.own 33)))] [(3, .box [.d (.int .i64 t.States), .d (.sl 2 (List.map Point.row t.Hood)), .d (.sl 2 (List.map Node.row t.Nodes))]), (33, .row 1 4 (List.map rB out))]) ρ σ
theorem l_R45_Bits_1 (cx : Cx) (hn : cx.n = 122) (t : Tree) (x : Problem) (p : List Cell) (y2 : Int) {fu : Nat} {stt : Int × (List Bool)} {tt : ((List Bool) × Int) ⊕ (List Bool)} (hh : loopN (b_R45_Bits_1 t x p y2) fu stt = some tt) {ρ : Env} {σ : Sto}
    (hE : Fits ((fun stt : Int × (List Bool) => match stt with | (i, _out) => [(2, .u (.one (.d (.sl 3 (List.map Cell.row p))))), (3, .u (.one (.box 3 0))), (4, .u (.one (.box 4 0))), (9, .u (.one (.d (.int .i64 y2)))), (10, .u (.one (.own 33))), (11, .u (.one (.d (.int .i64 i))))]) stt) ((fun stt : Int × (List Bool) => match stt with | (_i, out) => [(3, .box [.d (.int .i64 t.States), .d (.sl 2 (List.map Point.row t.Hood)), .d (.sl 2 (List.map Node.row t.Nodes))]), (4, .box [.d (.int .i64 x.W), .d (.int .i64 x.H), .d (.int .i64 x.Gens), .d (.int .i64 x.DX), .d (.int .i64 x.DY), .d (.sl 1 (List.map (rI .i64) x.Syms))]), (33, .row 1 4 (List.map rB out))]) stt) ρ σ) : Swp Tryz.prog cx (.loop (csub [1, 1, 1, 1, 1, 0, 1, 0, 0] (bodyOf Tryz.f21))) ρ σ (F_R45_Bits_1 cx t x p y2 tt) := by
  refine loop_model (fun stt : Int × (List Bool) => match stt with | (i, out) => [(2, .u (.one (.d (.sl 3 (List.map Cell.row p))))), (3, .u (.one (.box 3 0))), (4, .u (.one (.box 4 0))), (9, .u (.one (.d (.int .i64 y2)))), (10, .u (.one (.own 33))), (11, .u (.one (.d (.int .i64 i))))]) (fun stt : Int × (List Bool) => match stt with | (i, out) => [(3, .box [.d (.int .i64 t.States), .d (.sl 2 (List.map Point.row t.Hood)), .d (.sl 2 (List.map Node.row t.Nodes))]), (4, .box [.d (.int .i64 x.W), .d (.int .i64 x.H), .d (.int .i64 x.Gens), .d (.int .i64 x.DX), .d (.int .i64 x.DY), .d (.sl 1 (List.map (rI .i64) x.Syms))]), (33, .row 1 4 (List.map rB out))]) (F_R45_Bits_1 cx t x p y2) (b_R45_Bits_1 t x p y2) (fun _ => by rfl) (fun _ => by rfl) ?_ hh hE
  rintro ⟨i, out⟩ r hm ρ σ hf
  simp only [Fits, FitE, FitS, and_true] at hf
  unfold b_R45_Bits_1 at hm
  dsimp only at hm
  refine sw_seq ?_
  refine sw_regs tb_ok (by rw [hn]; kernel_rfl) ?_
  simp -dsimp [hf]
  rcases bifE hm with ⟨c7, hm⟩ | ⟨c7, hm⟩
  · refine sw_cond_t (b := (ltB i (lenL p))) (by simp -dsimp) c7 ?_
    refine swp_skip ?_
    refine thenQ_n ?_
    refine sw_seq ?_
    refine sw_block ?_
    refine sw_seq ?_
    obtain ⟨a, j19, hm⟩ := bnd hm
    refine sw_cutE [(2, .u (.one (.d (.sl 3 (List.map Cell.row p))))), (3, .u (.one (.box 3 0))), (4, .u (.one (.box 4 0))), (9, .u (.one (.d (.int .i64 y2)))), (10, .u (.one (.own 33))), (11, .u (.one (.d (.int .i64 i)))), (73, .u (.one (.d (.bool a))))] [(3, .box [.d (.int .i64 t.States), .d (.sl 2 (List.map Point.row t.Hood)), .d (.sl 2 (List.map Node.row t.Nodes))]), (4, .box [.d (.int .i64 x.W), .d (.int .i64 x.H), .d (.int .i64 x.Gens), .d (.int .i64 x.DX), .d (.int .i64 x.DY), .d (.sl 1 (List.map (rI .i64) x.Syms))]), (33, .row 1 4 (List.map rB out))] (by rfl) (by rfl) ?_ fun ρ σ hf => ?_
    · replace hm := j19
      clear j19
      refine sw_qt tb_ok mixed (by rw [hn]; kernel_rfl) ?_
      obtain ⟨x1, h8, hm⟩ := bnd hm
      rcases bifE hm with ⟨c9, hm⟩ | ⟨c9, hm⟩
      · simp -dsimp [hf, c7, h8, c9]
        refine thenQ_n ?_
        cases hm
        refine EE.here ?_
        simp -dsimp [hf]

      · rcases bifE hm with ⟨c10, hm⟩ | ⟨c10, hm⟩
        · simp -dsimp [hf, c7, h8, c9, c10]
          refine thenQ_n ?_
          cases hm
          refine EE.here ?_
          simp -dsimp [hf]

        · rcases bifE hm with ⟨c11, hm⟩ | ⟨c11, hm⟩
          · simp -dsimp [hf, c7, h8, c9, c10, c11]
            refine thenQ_n ?_
            cases hm
            refine EE.here ?_
            simp -dsimp [hf]

          · simp -dsimp [hf, c7, h8, c9, c10, c11]
            refine thenQ_n ?_
            cases hm
            refine EE.here ?_
            simp -dsimp [hf]

    · clear j19
      simp only [Fits, FitE, FitS, and_true] at hf
      rcases bifE hm with ⟨c12, hm⟩ | ⟨c12, hm⟩
      · refine sw_cond_t (b := a) (by simp -dsimp [hf]) c12 ?_
        refine sw_regs tb_ok (by rw [hn]; kernel_rfl) ?_
        simp -dsimp
        refine swp_ret ?_
        refine then_x ?_
        refine blk_r ?_
        refine then_x ?_
        cases hm
        refine rd_out nofun ?_
        unfold F_R45_Bits_1
        dsimp only
        refine ⟨rfl, ?_⟩
        refine EE.here ?_
        simp -dsimp [Tryz.results21]

      · refine sw_cond_f (b := a) (by simp -dsimp [hf]) c12 ?_
        refine swp_skip ?_
        refine thenQ_n ?_
        refine sw_regs tb_ok (by rw [hn]; kernel_rfl) ?_
        simp -dsimp
        refine sw_block ?_
        obtain ⟨out1, g17, hm⟩ := bnd hm
        refine sw_ent [(2, .u (.one (.d (.sl 3 (List.map Cell.row p))))), (3, .u (.one (.box 3 0))), (4, .u (.one (.box 4 0))), (9, .u (.one (.d (.int .i64 y2)))), (10, .u (.one (.own 33))), (11, .u (.one (.d (.int .i64 i)))), (12, .u (.one (.d (.int .i64 0))))] [(3, .box [.d (.int .i64 t.States), .d (.sl 2 (List.map Point.row t.Hood)), .d (.sl 2 (List.map Node.row t.Nodes))]), (4, .box [.d (.int .i64 x.W), .d (.int .i64 x.H), .d (.int .i64 x.Gens), .d (.int .i64 x.DX), .d (.int .i64 x.DY), .d (.sl 1 (List.map (rI .i64) x.Syms))]), (33, .row 1 4 (List.map rB out))] (by rfl) (by rfl) (by
            refine EE.here ?_
            simp -dsimp [hf]
        ) fun ρ σ hf => ?_
        refine (l_R45_Bits_2 cx hn t x p y2 i out g17 hf).mono fun ee ρ σ x18 => ?_
        unfold F_R45_Bits_2 at x18
        dsimp only at x18
        obtain ⟨rfl, x18⟩ := x18
        refine blk_exit ?_
        refine blk_n ?_
        refine thenQ_n ?_
        refine sw_ee (by rfl) (by rfl) x18 fun ρ σ hf => ?_
        simp only [Fits, FitE, FitS, and_true] at hf
        refine sw_reg tb_ok (by rw [hn]; kernel_rfl) ?_
        simp -dsimp [hf]
        cases hm
        refine rd_next ?_
        refine EE.here ?_
        simp -dsimp [hf]

  · refine sw_cond_f (b := (ltB i (lenL p))) (by simp -dsimp) c7 ?_
    refine swp_exit ?_
    refine then_x ?_
    cases hm
    refine rd_out nofun ?_
    unfold F_R45_Bits_1
    dsimp only
    refine ⟨rfl, ?_⟩
    refine EE.here ?_
    simp -dsimp [hf, c7]

def F_R45_Bits_3 (cx : Cx) (_t : Tree) (_p : List Cell) (out : List Bool) (tt : ((List Bool) × Int) ⊕ Unit) (ee : Exit) (ρ : Env) (σ : Sto) : Prop := match tt with
  | .inl r => ee = .ret ∧ EE cx (fun ρ σ => ∃ v, resV tb ρ σ Tryz.f21.results.toList = some v ∧ (v.frz σ).free = true ∧ (v.frz σ).wk (.tup [.one (.d (.sl 1 (List.map rB r.1))), .one (.d (.int .i64 r.2))])) ρ σ
  | .inr _u => ee = .exit 4 ∧ EE cx (FitsW [(10, .u (.one (.own 33)))] [(33, .row 1 4 (List.map rB out))]) ρ σ
theorem l_R45_Bits_3 (cx : Cx) (hn : cx.n = 122) (t : Tree) (p : List Cell) (out : List Bool) {fu : Nat} {stt : Int} {tt : ((List Bool) × Int) ⊕ Unit} (hh : loopN (b_R45_Bits_3 t p out) fu stt = some tt) {ρ : Env} {σ : Sto}
    (hE : Fits ((fun i : Int => [(2, .u (.one (.d (.sl 3 (List.map Cell.row p))))), (3, .u (.one (.box 3 0))), (10, .u (.one (.own 33))), (13, .u (.one (.d (.int .i64 i))))]) stt) ((fun _i : Int => [(3, .box [.d (.int .i64 t.States), .d (.sl 2 (List.map Point.row t.Hood)), .d (.sl 2 (List.map Node.row t.Nodes))]), (33, .row 1 4 (List.map rB out))]) stt) ρ σ) : Swp Tryz.prog cx (.loop (csub [1, 1, 1, 1, 1, 1, 0, 1, 0, 0] (bodyOf Tryz.f21))) ρ σ (F_R45_Bits_3 cx t p out tt) := by
  refine loop_model (fun i : Int => [(2, .u (.one (.d (.sl 3 (List.map Cell.row p))))), (3, .u (.one (.box 3 0))), (10, .u (.one (.own 33))), (13, .u (.one (.d (.int .i64 i))))]) (fun i : Int => [(3, .box [.d (.int .i64 t.States), .d (.sl 2 (List.map Point.row t.Hood)), .d (.sl 2 (List.map Node.row t.Nodes))]), (33, .row 1 4 (List.map rB out))]) (F_R45_Bits_3 cx t p out) (b_R45_Bits_3 t p out) (fun i => by rfl) (fun i => by rfl) ?_ hh hE
  rintro i r hm ρ σ hf
  simp only [Fits, FitE, FitS, and_true] at hf
  unfold b_R45_Bits_3 at hm
  dsimp only at hm
  refine sw_seq ?_
  refine sw_regs tb_ok (by rw [hn]; kernel_rfl) ?_
  simp -dsimp [hf]
  rcases bifE hm with ⟨c22, hm⟩ | ⟨c22, hm⟩
  · refine sw_cond_t (b := (ltB i (lenL p))) (by simp -dsimp) c22 ?_
    refine swp_skip ?_
    refine thenQ_n ?_
    refine sw_seq ?_
    refine sw_block ?_
    refine sw_qts tb_ok mixed (by rw [hn]; kernel_rfl) ?_
    obtain ⟨x1, h23, hm⟩ := bnd hm
    simp -dsimp [hf, c22, h23]
    rcases bifE hm with ⟨c24, hm⟩ | ⟨c24, hm⟩
    · refine sw_cond_t (b := (geB x1.S t.States)) (by simp -dsimp) c24 ?_
      refine sw_regs tb_ok (by rw [hn]; kernel_rfl) ?_
      simp -dsimp [c24]
      refine swp_ret ?_
      refine blk_r ?_
      refine then_x ?_
      cases hm
      refine rd_out nofun ?_
      unfold F_R45_Bits_3
      dsimp only
      refine ⟨rfl, ?_⟩
      refine EE.here ?_
      simp -dsimp [Tryz.results21]

    · refine sw_cond_f (b := (geB x1.S t.States)) (by simp -dsimp) c24 ?_
      refine swp_skip ?_
      refine blk_n ?_
      refine thenQ_n ?_
      refine sw_reg tb_ok (by rw [hn]; kernel_rfl) ?_
      simp -dsimp [hf, c24]
      cases hm
      refine rd_next ?_
      refine EE.here ?_
      simp -dsimp [hf]

  · refine sw_cond_f (b := (ltB i (lenL p))) (by simp -dsimp) c22 ?_
    refine swp_exit ?_
    refine then_x ?_
    cases hm
    refine rd_out nofun ?_
    unfold F_R45_Bits_3
    dsimp only
    refine ⟨rfl, ?_⟩
    refine EE.here ?_
    simp -dsimp [hf, c22]

theorem f_R45_Bits (t : Tree) (x : Problem) (p : List Cell) (r : (List Bool) × Int) (hm : m_R45_Bits t x p = some r) : PFn Tryz.prog 21 [.u (.agg [.d (.int .i64 t.States), .d (.sl 2 (List.map Point.row t.Hood)), .d (.sl 2 (List.map Node.row t.Nodes))]), .u (.agg [.d (.int .i64 x.W), .d (.int .i64 x.H), .d (.int .i64 x.Gens), .d (.int .i64 x.DX), .d (.int .i64 x.DY), .d (.sl 1 (List.map (rI .i64) x.Syms))]), .u (.one (.d (.sl 3 (List.map Cell.row p))))] (fun v => v.wk (.tup [.one (.d (.sl 1 (List.map rB r.1))), .one (.d (.int .i64 r.2))])) := by
  refine pfn_E tb_ok _ Tryz.func21 rfl (by kernel_rfl) (by simp [Tryz.ntmps21]) fun cx hn => ?_
  replace hn : cx.n = 122 := hn.trans Tryz.ntmps21
  unfold m_R45_Bits at hm
  refine sw_regs tb_ok (by rw [hn]; kernel_rfl) ?_
  simp -dsimp []
  refine sw_seq ?_
  refine sw_regs tb_ok (by rw [hn]; kernel_rfl) ?_
  obtain ⟨y, h1, hm⟩ := bnd hm
  simp -dsimp []
  refine callL_pure (c_R44_Check t x y h1) (by rw [hn]; decide) ?_
  simp -dsimp
  refine sw_regs tb_ok (by rw [hn]; kernel_rfl) ?_
  simp -dsimp
  rcases bifE hm with ⟨c2, hm⟩ | ⟨c2, hm⟩
  · refine sw_cond_t (b := (neB y 0)) (by simp -dsimp) c2 ?_
    refine sw_regs tb_ok (by rw [hn]; kernel_rfl) ?_
    simp -dsimp [c2]
    refine swp_ret ?_
    refine then_x ?_
    cases hm
    refine ⟨.inr rfl, ?_⟩
    refine EE.here ?_
    simp -dsimp

  · refine sw_cond_f (b := (neB y 0)) (by simp -dsimp) c2 ?_
    refine swp_skip ?_
    refine thenQ_n ?_
    refine sw_seq ?_
    refine sw_regs tb_ok (by rw [hn]; kernel_rfl) ?_
    obtain ⟨y1, h3, hm⟩ := bnd hm
    simp -dsimp [c2]
    refine callL_pure (c_R05_Right p y1 h3) (by rw [hn]; decide) ?_
    simp -dsimp
    rcases bifE hm with ⟨c4, hm⟩ | ⟨c4, hm⟩
    · refine sw_cond_t (b := (notB y1)) (by simp -dsimp) c4 ?_
      refine sw_regs tb_ok (by rw [hn]; kernel_rfl) ?_
      simp -dsimp [c4]
      refine swp_ret ?_
      refine then_x ?_
      cases hm
      refine ⟨.inr rfl, ?_⟩
      refine EE.here ?_
      simp -dsimp

    · refine sw_cond_f (b := (notB y1)) (by simp -dsimp) c4 ?_
      refine swp_skip ?_
      refine thenQ_n ?_
      refine sw_regs tb_ok (by rw [hn]; kernel_rfl) ?_
      obtain ⟨y2, h5, hm⟩ := bnd hm
      simp -dsimp [c4]
      refine callL_pure (c_R18_Bits t.States y2 h5) (by rw [hn]; decide) ?_
      simp -dsimp
      refine sw_regs tb_ok (by rw [hn]; kernel_rfl) ?_
      obtain ⟨l, h6, hm⟩ := bnd hm
      obtain ⟨⟨h6a, h6b, h6c⟩, rfl⟩ := mkL_some h6
      rw [Int.mul_one] at h6c
      simp -dsimp [h6a, h6c]
      refine sw_seq ?_
      refine sw_regs tb_ok (by rw [hn]; kernel_rfl) ?_
      simp -dsimp
      refine sw_block ?_
      obtain ⟨o_, g20, hm⟩ := bnd hm
      refine sw_ent [(2, .u (.one (.d (.sl 3 (List.map Cell.row p))))), (3, .u (.one (.box 3 0))), (4, .u (.one (.box 4 0))), (9, .u (.one (.d (.int .i64 y2)))), (10, .u (.one (.own 33))), (11, .u (.one (.d (.int .i64 0))))] [(3, .box [.d (.int .i64 t.States), .d (.sl 2 (List.map Point.row t.Hood)), .d (.sl 2 (List.map Node.row t.Nodes))]), (4, .box [.d (.int .i64 x.W), .d (.int .i64 x.H), .d (.int .i64 x.Gens), .d (.int .i64 x.DX), .d (.int .i64 x.DY), .d (.sl 1 (List.map (rI .i64) x.Syms))]), (33, .row 1 4 (List.map rB (List.replicate (imul .i64 (imul .i64 x.W x.H) y2).toNat false)))] (by rfl) (by rfl) (by
          refine EE.here ?_
          simp -dsimp
      ) fun ρ σ hf => ?_
      refine (l_R45_Bits_1 cx hn t x p y2 g20 hf).mono fun ee ρ σ x21 => ?_
      rcases o_ with r | out
      · unfold F_R45_Bits_1 at x21
        dsimp only at x21
        obtain ⟨rfl, x21⟩ := x21
        refine blk_r ?_
        refine then_x ?_
        cases hm
        exact ⟨.inr rfl, x21⟩

      · unfold F_R45_Bits_1 at x21
        dsimp only at x21
        obtain ⟨rfl, x21⟩ := x21
        refine blk_exit ?_
        refine thenQ_n ?_
        refine sw_ee (by rfl) (by rfl) x21 fun ρ σ hf => ?_
        simp only [Fits, FitE, FitS, and_true] at hf
        refine sw_seq ?_
        refine sw_regs tb_ok (by rw [hn]; kernel_rfl) ?_
        simp -dsimp
        refine sw_block ?_
        obtain ⟨o_1, g25, hm⟩ := bnd hm
        refine sw_ent [(2, .u (.one (.d (.sl 3 (List.map Cell.row p))))), (3, .u (.one (.box 3 0))), (10, .u (.one (.own 33))), (13, .u (.one (.d (.int .i64 0))))] [(3, .box [.d (.int .i64 t.States), .d (.sl 2 (List.map Point.row t.Hood)), .d (.sl 2 (List.map Node.row t.Nodes))]), (33, .row 1 4 (List.map rB out))] (by rfl) (by rfl) (by
            refine EE.here ?_
            simp -dsimp [hf]
        ) fun ρ σ hf => ?_
        refine (l_R45_Bits_3 cx hn t p out g25 hf).mono fun ee ρ σ x26 => ?_
        rcases o_1 with r | _u
        · unfold F_R45_Bits_3 at x26
          dsimp only at x26
          obtain ⟨rfl, x26⟩ := x26
          refine blk_r ?_
          refine then_x ?_
          cases hm
          exact ⟨.inr rfl, x26⟩

        · unfold F_R45_Bits_3 at x26
          dsimp only at x26
          obtain ⟨rfl, x26⟩ := x26
          refine blk_exit ?_
          refine thenQ_n ?_
          refine sw_ee (by rfl) (by rfl) x26 fun ρ σ hf => ?_
          simp only [Fits, FitE, FitS, and_true] at hf
          refine sw_regs tb_ok (by rw [hn]; kernel_rfl) ?_
          simp -dsimp [hf]
          refine swp_ret ?_
          cases hm
          refine ⟨.inr rfl, ?_⟩
          refine EE.here ?_
          simp -dsimp [hf]

theorem c_R45_Bits (t : Tree) (x : Problem) (p : List Cell) (r : (List Bool) × Int) (hm : m_R45_Bits t x p = some r) : PureCall Tryz.prog 21 [.u (.agg [.d (.int .i64 t.States), .d (.sl 2 (List.map Point.row t.Hood)), .d (.sl 2 (List.map Node.row t.Nodes))]), .u (.agg [.d (.int .i64 x.W), .d (.int .i64 x.H), .d (.int .i64 x.Gens), .d (.int .i64 x.DX), .d (.int .i64 x.DY), .d (.sl 1 (List.map (rI .i64) x.Syms))]), .u (.one (.d (.sl 3 (List.map Cell.row p))))] (.tup [.one (.d (.sl 1 (List.map rB r.1))), .one (.d (.int .i64 r.2))]) := (f_R45_Bits t x p r hm).pureW
end Go.Proofs.YtgfhhbjnjccomaaGreatDoor
