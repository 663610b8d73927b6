/-
  That the code does what the functions say (made by cc.py).
-/
import Derived.Test.YtgfhhbjnjccomaaGreatDoorMd1
import Derived.Test.YtgfhhbjnjccomaaGreatDoorTb
import Derived.Test.YtgfhhbjnjccomaaGreatDoorWa10
namespace Go.Proofs.YtgfhhbjnjccomaaGreatDoor
open Go.AM Go.Proofs
def F_R45_Pattern_2 (cx : Cx) (t : Tree) (x : Problem) (l : List Bool) (y1 : Int) (i : Int) (p : List Cell) (tt : Int) (ee : Exit) (ρ : Env) (σ : Sto) : Prop := match tt with
  | s => ee = .exit 2 ∧ EE cx (FitsW [(2, .u (.one (.d (.sl 1 (List.map rB l))))), (3, .u (.one (.box 3 0))), (4, .u (.one (.box 4 0))), (9, .u (.one (.d (.int .i64 y1)))), (10, .u (.one (.own 5000))), (11, .u (.one (.d (.int .i64 i)))), (12, .u (.one (.d (.int .i64 s))))] [(3, .box [.d (.int .i64 t.States), .d (.sl 2 (List.map Point.row t.Hood)), .d (.sl 2 (List.map Node.row t.Nodes))]), (4, .box [.d (.int .i64 x.W), .d (.int .i64 x.H), .d (.int .i64 x.Gens), .d (.int .i64 x.DX), .d (.int .i64 x.DY), .d (.sl 1 (List.map (rI .i64) x.Syms))]), (5000, .row 3 68 (List.map Cell.row p))]) ρ σ
theorem l_R45_Pattern_2 (cx : Cx) (hn : cx.n = 80) (t : Tree) (x : Problem) (l : List Bool) (y1 : Int) (i : Int) (p : List Cell) {fu : Nat} {stt : Int × Int} {tt : Int} (hh : loopN (b_R45_Pattern_2 t x l y1 i p) fu stt = some tt) {ρ : Env} {σ : Sto}
    (hE : Fits ((fun stt : Int × Int => match stt with | (s, k) => [(2, .u (.one (.d (.sl 1 (List.map rB l))))), (3, .u (.one (.box 3 0))), (4, .u (.one (.box 4 0))), (9, .u (.one (.d (.int .i64 y1)))), (10, .u (.one (.own 5000))), (11, .u (.one (.d (.int .i64 i)))), (12, .u (.one (.d (.int .i64 s)))), (13, .u (.one (.d (.int .i64 k))))]) stt) ((fun stt : Int × Int => match stt with | (_s, _k) => [(3, .box [.d (.int .i64 t.States), .d (.sl 2 (List.map Point.row t.Hood)), .d (.sl 2 (List.map Node.row t.Nodes))]), (4, .box [.d (.int .i64 x.W), .d (.int .i64 x.H), .d (.int .i64 x.Gens), .d (.int .i64 x.DX), .d (.int .i64 x.DY), .d (.sl 1 (List.map (rI .i64) x.Syms))]), (5000, .row 3 68 (List.map Cell.row p))]) stt) ρ σ) : Swp Tryz.prog cx (.loop (csub [1, 1, 1, 1, 1, 0, 1, 0, 0, 1, 0, 0, 1, 0, 1, 0, 0] (bodyOf Tryz.f17))) ρ σ (F_R45_Pattern_2 cx t x l y1 i p tt) := by
  refine loop_model (fun stt : Int × Int => match stt with | (s, k) => [(2, .u (.one (.d (.sl 1 (List.map rB l))))), (3, .u (.one (.box 3 0))), (4, .u (.one (.box 4 0))), (9, .u (.one (.d (.int .i64 y1)))), (10, .u (.one (.own 5000))), (11, .u (.one (.d (.int .i64 i)))), (12, .u (.one (.d (.int .i64 s)))), (13, .u (.one (.d (.int .i64 k))))]) (fun stt : Int × Int => match stt with | (s, k) => [(3, .box [.d (.int .i64 t.States), .d (.sl 2 (List.map Point.row t.Hood)), .d (.sl 2 (List.map Node.row t.Nodes))]), (4, .box [.d (.int .i64 x.W), .d (.int .i64 x.H), .d (.int .i64 x.Gens), .d (.int .i64 x.DX), .d (.int .i64 x.DY), .d (.sl 1 (List.map (rI .i64) x.Syms))]), (5000, .row 3 68 (List.map Cell.row p))]) (F_R45_Pattern_2 cx t x l y1 i p) (b_R45_Pattern_2 t x l y1 i p) (fun _ => by rfl) (fun _ => by rfl) ?_ hh hE
  rintro ⟨s, k⟩ r hm ρ σ hf
  simp only [Fits, FitE, FitS, and_true] at hf
  unfold b_R45_Pattern_2 at hm
  dsimp only at hm
  refine sw_seq ?_
  refine sw_regs tb_ok (by rw [hn]; kernel_rfl) ?_
  simp -dsimp [hf]
  rcases bifE hm with ⟨c6, hm⟩ | ⟨c6, hm⟩
  · refine sw_cond_t (b := (geB k 0)) (by simp -dsimp) c6 ?_
    refine swp_skip ?_
    refine thenQ_n ?_
    obtain ⟨s1, j9, hm⟩ := bnd hm
    refine sw_cutE [(2, .u (.one (.d (.sl 1 (List.map rB l))))), (3, .u (.one (.box 3 0))), (4, .u (.one (.box 4 0))), (9, .u (.one (.d (.int .i64 y1)))), (10, .u (.one (.own 5000))), (11, .u (.one (.d (.int .i64 i)))), (12, .u (.one (.d (.int .i64 s1)))), (13, .u (.one (.d (.int .i64 k))))] [(3, .box [.d (.int .i64 t.States), .d (.sl 2 (List.map Point.row t.Hood)), .d (.sl 2 (List.map Node.row t.Nodes))]), (4, .box [.d (.int .i64 x.W), .d (.int .i64 x.H), .d (.int .i64 x.Gens), .d (.int .i64 x.DX), .d (.int .i64 x.DY), .d (.sl 1 (List.map (rI .i64) x.Syms))]), (5000, .row 3 68 (List.map Cell.row p))] (by rfl) (by rfl) ?_ fun ρ σ hf => ?_
    · replace hm := j9
      clear j9
      refine sw_block ?_
      refine sw_regs tb_ok (by rw [hn]; kernel_rfl) ?_
      simp -dsimp [hf, c6]
      refine sw_regs tb_ok (by rw [hn]; kernel_rfl) ?_
      obtain ⟨x1, h7, hm⟩ := bnd hm
      simp -dsimp [hf, h7]
      rcases bifE hm with ⟨c8, hm⟩ | ⟨c8, hm⟩
      · refine sw_cond_t (b := x1) (by simp -dsimp) c8 ?_
        refine sw_reg tb_ok (by rw [hn]; kernel_rfl) ?_
        simp -dsimp [c8]
        refine blk_n ?_
        refine thenQ_n ?_
        cases hm
        refine EE.here ?_
        simp -dsimp [hf]

      · refine sw_cond_f (b := x1) (by simp -dsimp) c8 ?_
        refine swp_skip ?_
        refine blk_n ?_
        refine thenQ_n ?_
        cases hm
        refine EE.here ?_
        simp -dsimp [hf, c8]

    · clear j9
      simp only [Fits, FitE, FitS, and_true] at hf
      refine sw_reg tb_ok (by rw [hn]; kernel_rfl) ?_
      simp -dsimp [hf]
      cases hm
      refine rd_next ?_
      refine EE.here ?_
      simp -dsimp [hf]

  · refine sw_cond_f (b := (geB k 0)) (by simp -dsimp) c6 ?_
    refine swp_exit ?_
    refine then_x ?_
    cases hm
    refine rd_out nofun ?_
    unfold F_R45_Pattern_2
    dsimp only
    refine ⟨rfl, ?_⟩
    refine EE.here ?_
    simp -dsimp [hf, c6]

def F_R45_Pattern_1 (cx : Cx) (_t : Tree) (_x : Problem) (_l : List Bool) (_y1 : Int) (tt : ((List Cell) × Int) ⊕ (List Cell)) (ee : Exit) (ρ : Env) (σ : Sto) : Prop := match tt with
  | .inl r => ee = .ret ∧ EE cx (fun ρ σ => ∃ v, resV tb ρ σ Tryz.f17.results.toList = some v ∧ (v.frz σ).free = true ∧ (v.frz σ).wk (.tup [.one (.d (.sl 3 (List.map Cell.row r.1))), .one (.d (.int .i64 r.2))])) ρ σ
  | .inr p => ee = .exit 0 ∧ EE cx (FitsW [(10, .u (.one (.own 5000)))] [(5000, .row 3 68 (List.map Cell.row p))]) ρ σ
theorem l_R45_Pattern_1 (cx : Cx) (hn : cx.n = 80) (t : Tree) (x : Problem) (l : List Bool) (y1 : Int) {fu : Nat} {stt : Int × (List Cell)} {tt : ((List Cell) × Int) ⊕ (List Cell)} (hh : loopN (b_R45_Pattern_1 t x l y1) fu stt = some tt) {ρ : Env} {σ : Sto}
    (hE : Fits ((fun stt : Int × (List Cell) => match stt with | (i, _p) => [(2, .u (.one (.d (.sl 1 (List.map rB l))))), (3, .u (.one (.box 3 0))), (4, .u (.one (.box 4 0))), (9, .u (.one (.d (.int .i64 y1)))), (10, .u (.one (.own 5000))), (11, .u (.one (.d (.int .i64 i))))]) stt) ((fun stt : Int × (List Cell) => match stt with | (_i, p) => [(3, .box [.d (.int .i64 t.States), .d (.sl 2 (List.map Point.row t.Hood)), .d (.sl 2 (List.map Node.row t.Nodes))]), (4, .box [.d (.int .i64 x.W), .d (.int .i64 x.H), .d (.int .i64 x.Gens), .d (.int .i64 x.DX), .d (.int .i64 x.DY), .d (.sl 1 (List.map (rI .i64) x.Syms))]), (5000, .row 3 68 (List.map Cell.row p))]) stt) ρ σ) : Swp Tryz.prog cx (.loop (csub [1, 1, 1, 1, 1, 0, 1, 0, 0] (bodyOf Tryz.f17))) ρ σ (F_R45_Pattern_1 cx t x l y1 tt) := by
  refine loop_model (fun stt : Int × (List Cell) => match stt with | (i, p) => [(2, .u (.one (.d (.sl 1 (List.map rB l))))), (3, .u (.one (.box 3 0))), (4, .u (.one (.box 4 0))), (9, .u (.one (.d (.int .i64 y1)))), (10, .u (.one (.own 5000))), (11, .u (.one (.d (.int .i64 i))))]) (fun stt : Int × (List Cell) => match stt with | (i, p) => [(3, .box [.d (.int .i64 t.States), .d (.sl 2 (List.map Point.row t.Hood)), .d (.sl 2 (List.map Node.row t.Nodes))]), (4, .box [.d (.int .i64 x.W), .d (.int .i64 x.H), .d (.int .i64 x.Gens), .d (.int .i64 x.DX), .d (.int .i64 x.DY), .d (.sl 1 (List.map (rI .i64) x.Syms))]), (5000, .row 3 68 (List.map Cell.row p))]) (F_R45_Pattern_1 cx t x l y1) (b_R45_Pattern_1 t x l y1) (fun _ => by rfl) (fun _ => by rfl) ?_ hh hE
  rintro ⟨i, p⟩ r hm ρ σ hf
  simp only [Fits, FitE, FitS, and_true] at hf
  unfold b_R45_Pattern_1 at hm
  dsimp only at hm
  refine sw_seq ?_
  refine sw_regs tb_ok (by rw [hn]; kernel_rfl) ?_
  simp -dsimp [hf]
  rcases bifE hm with ⟨c5, hm⟩ | ⟨c5, hm⟩
  · refine sw_cond_t (b := (ltB i (imul .i64 x.W x.H))) (by simp -dsimp) c5 ?_
    refine swp_skip ?_
    refine thenQ_n ?_
    refine sw_seq ?_
    refine sw_block ?_
    refine sw_regs tb_ok (by rw [hn]; kernel_rfl) ?_
    simp -dsimp [c5]
    refine sw_seq ?_
    refine sw_regs tb_ok (by rw [hn]; kernel_rfl) ?_
    simp -dsimp [hf]
    refine sw_block ?_
    obtain ⟨s, g10, hm⟩ := bnd hm
    refine sw_ent [(2, .u (.one (.d (.sl 1 (List.map rB l))))), (3, .u (.one (.box 3 0))), (4, .u (.one (.box 4 0))), (9, .u (.one (.d (.int .i64 y1)))), (10, .u (.one (.own 5000))), (11, .u (.one (.d (.int .i64 i)))), (12, .u (.one (.d (.int .i64 0)))), (13, .u (.one (.d (.int .i64 (isub .i64 y1 1)))))] [(3, .box [.d (.int .i64 t.States), .d (.sl 2 (List.map Point.row t.Hood)), .d (.sl 2 (List.map Node.row t.Nodes))]), (4, .box [.d (.int .i64 x.W), .d (.int .i64 x.H), .d (.int .i64 x.Gens), .d (.int .i64 x.DX), .d (.int .i64 x.DY), .d (.sl 1 (List.map (rI .i64) x.Syms))]), (5000, .row 3 68 (List.map Cell.row p))] (by rfl) (by rfl) (by
        refine EE.here ?_
        simp -dsimp [hf]
    ) fun ρ σ hf => ?_
    refine (l_R45_Pattern_2 cx hn t x l y1 i p g10 hf).mono fun ee ρ σ x11 => ?_
    unfold F_R45_Pattern_2 at x11
    dsimp only at x11
    obtain ⟨rfl, x11⟩ := x11
    refine blk_exit ?_
    refine thenQ_n ?_
    refine sw_ee (by rfl) (by rfl) x11 fun ρ σ hf => ?_
    simp only [Fits, FitE, FitS, and_true] at hf
    refine sw_seq ?_
    refine sw_regs tb_ok (by rw [hn]; kernel_rfl) ?_
    simp -dsimp [hf]
    rcases bifE hm with ⟨c12, hm⟩ | ⟨c12, hm⟩
    · refine sw_cond_t (b := (geB s t.States)) (by simp -dsimp) c12 ?_
      refine sw_regs tb_ok (by rw [hn]; kernel_rfl) ?_
      simp -dsimp [c12]
      refine swp_ret ?_
      refine then_x ?_
      refine blk_r ?_
      refine then_x ?_
      cases hm
      refine rd_out nofun ?_
      unfold F_R45_Pattern_1
      dsimp only
      refine ⟨rfl, ?_⟩
      refine EE.here ?_
      simp -dsimp [Tryz.results17]

    · refine sw_cond_f (b := (geB s t.States)) (by simp -dsimp) c12 ?_
      refine swp_skip ?_
      refine thenQ_n ?_
      refine sw_regs tb_ok (by rw [hn]; kernel_rfl) ?_
      simp -dsimp [hf, c12]
      rcases bifE hm with ⟨c13, hm⟩ | ⟨c13, hm⟩
      · refine sw_cond_t (b := (gtB s 0)) (by simp -dsimp) c13 ?_
        refine sw_drN tb_ok mixed 12 (by rw [hn]; kernel_rfl) ?_
        dsimp only [List.take, List.drop]
        obtain ⟨n, h14, hm⟩ := bnd hm
        obtain ⟨n1, h15, hm⟩ := bnd hm
        obtain ⟨l1, h16, hm⟩ := bnd hm
        obtain ⟨h16a, h16e⟩ := appL_some h16
        replace h16e := h16e.symm
        subst h16e
        try simp only [List.length_cons, List.length_nil, Nat.zero_add] at h16a
        simp -dsimp [hf, c13, h14, h15, h16a]
        refine blk_n ?_
        refine thenQ_n ?_
        refine sw_reg tb_ok (by rw [hn]; kernel_rfl) ?_
        simp -dsimp [hf]
        cases hm
        refine rd_next ?_
        refine EE.step (Wk.move 78 5000 (by decide) (.inl (by decide))) ?_
        refine EE.here ?_
        simp -dsimp [hf]

      · refine sw_cond_f (b := (gtB s 0)) (by simp -dsimp) c13 ?_
        refine swp_skip ?_
        refine blk_n ?_
        refine thenQ_n ?_
        refine sw_reg tb_ok (by rw [hn]; kernel_rfl) ?_
        simp -dsimp [hf, c13]
        cases hm
        refine rd_next ?_
        refine EE.here ?_
        simp -dsimp [hf]

  · refine sw_cond_f (b := (ltB i (imul .i64 x.W x.H))) (by simp -dsimp) c5 ?_
    refine swp_exit ?_
    refine then_x ?_
    cases hm
    refine rd_out nofun ?_
    unfold F_R45_Pattern_1
    dsimp only
    refine ⟨rfl, ?_⟩
    refine EE.here ?_
    simp -dsimp [hf, c5]

theorem f_R45_Pattern (t : Tree) (x : Problem) (l : List Bool) (r : (List Cell) × Int) (hm : m_R45_Pattern t x l = some r) : PFn Tryz.prog 17 [.u (.agg [.d (.int .i64 t.States), .d (.sl 2 (List.map Point.row t.Hood)), .d (.sl 2 (List.map Node.row t.Nodes))]), .u (.agg [.d (.int .i64 x.W), .d (.int .i64 x.H), .d (.int .i64 x.Gens), .d (.int .i64 x.DX), .d (.int .i64 x.DY), .d (.sl 1 (List.map (rI .i64) x.Syms))]), .u (.one (.d (.sl 1 (List.map rB l))))] (fun v => v.wk (.tup [.one (.d (.sl 3 (List.map Cell.row r.1))), .one (.d (.int .i64 r.2))])) := by
  refine pfn_E tb_ok _ Tryz.func17 rfl (by kernel_rfl) (by simp [Tryz.ntmps17]) fun cx hn => ?_
  replace hn : cx.n = 80 := hn.trans Tryz.ntmps17
  unfold m_R45_Pattern at hm
  refine sw_regs tb_ok (by rw [hn]; kernel_rfl) ?_
  simp -dsimp []
  refine sw_seq ?_
  refine sw_regs tb_ok (by rw [hn]; kernel_rfl) ?_
  obtain ⟨y, h1, hm⟩ := bnd hm
  simp -dsimp []
  refine callL_pure (c_R44_Check t x y h1) (by rw [hn]; decide) ?_
  simp -dsimp
  refine sw_regs tb_ok (by rw [hn]; kernel_rfl) ?_
  simp -dsimp
  rcases bifE hm with ⟨c2, hm⟩ | ⟨c2, hm⟩
  · refine sw_cond_t (b := (neB y 0)) (by simp -dsimp) c2 ?_
    refine sw_regs tb_ok (by rw [hn]; kernel_rfl) ?_
    simp -dsimp [c2]
    refine swp_ret ?_
    refine then_x ?_
    cases hm
    refine ⟨.inr rfl, ?_⟩
    refine EE.here ?_
    simp -dsimp

  · refine sw_cond_f (b := (neB y 0)) (by simp -dsimp) c2 ?_
    refine swp_skip ?_
    refine thenQ_n ?_
    refine sw_regs tb_ok (by rw [hn]; kernel_rfl) ?_
    obtain ⟨y1, h3, hm⟩ := bnd hm
    simp -dsimp [c2]
    refine callL_pure (c_R18_Bits t.States y1 h3) (by rw [hn]; decide) ?_
    simp -dsimp
    refine sw_seq ?_
    refine sw_regs tb_ok (by rw [hn]; kernel_rfl) ?_
    simp -dsimp
    rcases bifE hm with ⟨c4, hm⟩ | ⟨c4, hm⟩
    · refine sw_cond_t (b := (neB (lenL l) (imul .i64 (imul .i64 x.W x.H) y1))) (by simp -dsimp) c4 ?_
      refine sw_regs tb_ok (by rw [hn]; kernel_rfl) ?_
      simp -dsimp [c4]
      refine swp_ret ?_
      refine then_x ?_
      cases hm
      refine ⟨.inr rfl, ?_⟩
      refine EE.here ?_
      simp -dsimp

    · refine sw_cond_f (b := (neB (lenL l) (imul .i64 (imul .i64 x.W x.H) y1))) (by simp -dsimp) c4 ?_
      refine swp_skip ?_
      refine thenQ_n ?_
      refine sw_regs tb_ok (by rw [hn]; kernel_rfl) ?_
      simp -dsimp [c4]
      refine sw_seq ?_
      refine sw_regs tb_ok (by rw [hn]; kernel_rfl) ?_
      simp -dsimp
      refine sw_block ?_
      obtain ⟨o_, g17, hm⟩ := bnd hm
      refine sw_ent [(2, .u (.one (.d (.sl 1 (List.map rB l))))), (3, .u (.one (.box 3 0))), (4, .u (.one (.box 4 0))), (9, .u (.one (.d (.int .i64 y1)))), (10, .u (.one (.own 5000))), (11, .u (.one (.d (.int .i64 0))))] [(3, .box [.d (.int .i64 t.States), .d (.sl 2 (List.map Point.row t.Hood)), .d (.sl 2 (List.map Node.row t.Nodes))]), (4, .box [.d (.int .i64 x.W), .d (.int .i64 x.H), .d (.int .i64 x.Gens), .d (.int .i64 x.DX), .d (.int .i64 x.DY), .d (.sl 1 (List.map (rI .i64) x.Syms))]), (5000, .row 3 68 (List.map Cell.row []))] (by rfl) (by rfl) (by
          refine EE.step (Wk.own0 10 5000 3 68 (by simp -dsimp) (by decide)) ?_
          refine EE.here ?_
          simp -dsimp
      ) fun ρ σ hf => ?_
      refine (l_R45_Pattern_1 cx hn t x l y1 g17 hf).mono fun ee ρ σ x18 => ?_
      rcases o_ with r | p
      · unfold F_R45_Pattern_1 at x18
        dsimp only at x18
        obtain ⟨rfl, x18⟩ := x18
        refine blk_r ?_
        refine then_x ?_
        cases hm
        exact ⟨.inr rfl, x18⟩

      · unfold F_R45_Pattern_1 at x18
        dsimp only at x18
        obtain ⟨rfl, x18⟩ := x18
        refine blk_exit ?_
        refine thenQ_n ?_
        refine sw_ee (by rfl) (by rfl) x18 fun ρ σ hf => ?_
        simp only [Fits, FitE, FitS, and_true] at hf
        refine sw_regs tb_ok (by rw [hn]; kernel_rfl) ?_
        simp -dsimp [hf]
        refine swp_ret ?_
        cases hm
        refine ⟨.inr rfl, ?_⟩
        refine EE.here ?_
        simp -dsimp [hf]

theorem c_R45_Pattern (t : Tree) (x : Problem) (l : List Bool) (r : (List Cell) × Int) (hm : m_R45_Pattern t x l = some r) : PureCall Tryz.prog 17 [.u (.agg [.d (.int .i64 t.States), .d (.sl 2 (List.map Point.row t.Hood)), .d (.sl 2 (List.map Node.row t.Nodes))]), .u (.agg [.d (.int .i64 x.W), .d (.int .i64 x.H), .d (.int .i64 x.Gens), .d (.int .i64 x.DX), .d (.int .i64 x.DY), .d (.sl 1 (List.map (rI .i64) x.Syms))]), .u (.one (.d (.sl 1 (List.map rB l))))] (.tup [.one (.d (.sl 3 (List.map Cell.row r.1))), .one (.d (.int .i64 r.2))]) := (f_R45_Pattern t x l r hm).pureW
theorem f_R05_order (a : Int) (b : Int) (r : Int) (hm : m_R05_order a b = some r) : PFn Tryz.prog 99 [.u (.one (.d (.int .i64 a))), .u (.one (.d (.int .i64 b)))] (fun v => v.wk (.u (.one (.d (.int .i64 r))))) := by
  refine pfn_E tb_ok _ Tryz.func99 rfl (by kernel_rfl) (by simp [Tryz.ntmps99]) fun cx hn => ?_
  replace hn : cx.n = 11 := hn.trans Tryz.ntmps99
  unfold m_R05_order at hm
  refine sw_regs tb_ok (by rw [hn]; kernel_rfl) ?_
  simp -dsimp []
  refine sw_seq ?_
  refine sw_regs tb_ok (by rw [hn]; kernel_rfl) ?_
  simp -dsimp []
  rcases bifE hm with ⟨c1, hm⟩ | ⟨c1, hm⟩
  · refine sw_cond_t (b := (ltB a b)) (by simp -dsimp []) c1 ?_
    refine sw_regs tb_ok (by rw [hn]; kernel_rfl) ?_
    simp -dsimp [c1]
    refine swp_ret ?_
    refine then_x ?_
    cases hm
    refine ⟨.inr rfl, ?_⟩
    refine EE.here ?_
    simp -dsimp

  · refine sw_cond_f (b := (ltB a b)) (by simp -dsimp []) c1 ?_
    refine swp_skip ?_
    refine thenQ_n ?_
    refine sw_seq ?_
    refine sw_regs tb_ok (by rw [hn]; kernel_rfl) ?_
    simp -dsimp [c1]
    rcases bifE hm with ⟨c2, hm⟩ | ⟨c2, hm⟩
    · refine sw_cond_t (b := (gtB a b)) (by simp -dsimp) c2 ?_
      refine sw_regs tb_ok (by rw [hn]; kernel_rfl) ?_
      simp -dsimp [c2]
      refine swp_ret ?_
      refine then_x ?_
      cases hm
      refine ⟨.inr rfl, ?_⟩
      refine EE.here ?_
      simp -dsimp

    · refine sw_cond_f (b := (gtB a b)) (by simp -dsimp) c2 ?_
      refine swp_skip ?_
      refine thenQ_n ?_
      refine sw_regs tb_ok (by rw [hn]; kernel_rfl) ?_
      simp -dsimp [c2]
      refine swp_ret ?_
      cases hm
      refine ⟨.inr rfl, ?_⟩
      refine EE.here ?_
      simp -dsimp

theorem c_R05_order (a : Int) (b : Int) (r : Int) (hm : m_R05_order a b = some r) : PureCall Tryz.prog 99 [.u (.one (.d (.int .i64 a))), .u (.one (.d (.int .i64 b)))] (.u (.one (.d (.int .i64 r)))) := (f_R05_order a b r hm).pureW
end Go.Proofs.YtgfhhbjnjccomaaGreatDoor
