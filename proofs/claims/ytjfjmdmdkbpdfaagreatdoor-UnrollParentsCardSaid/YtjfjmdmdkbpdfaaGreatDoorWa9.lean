/- That the code does what the functions say (made by cc.py). -/
import Derived.Test.YtjfjmdmdkbpdfaaGreatDoorWa8
namespace Go.Proofs.YtjfjmdmdkbpdfaaGreatDoor
open Go.AM Go.Proofs
set_option maxRecDepth 100000
attribute [-simp] qlookup ct d7 Ob.wipe Ob.ren Ob.frz1
def F_unroll_Pattern_1 (cx : Cx) (_t : Tree) (_x : Av) (_l : List Bool) (_y1 : Int) (tt : ((List Cell) × Int) ⊕ (List Cell)) (ee : Exit) (Z : Env) (O : Sto) : Prop := match tt with
 | .inl r => ee = .ret /\ EE cx (fun Z O => ∃ v, cX tb Z O Tryz.f21.results.toList = some v /\ (v.frz O).free = true /\ (v.frz O).wk (.tup [.one (dR0 r.1), .one (dI r.2)])) Z O
 | .inr out => ee = .exit 0 /\ EE cx (bp [(10, vO 5000)] [(5000, .row 3 63 (List.map Cell.row out))]) Z O
theorem l_unroll_Pattern_1 (cx : Cx) (hn : cx.n = 71) (t : Tree) (x : Av) (l : List Bool) (y1 : Int) {fu : Nat} {stt : Int × (List Cell)} {tt : ((List Cell) × Int) ⊕ (List Cell)} (hh : b0 (b_unroll_Pattern_1 t x l y1) fu stt = some tt) {Z : Env} {O : Sto}
  (hE : bu (fun stt : Int × (List Cell) => match stt with | (a, _out) => [(2, .u (.one (.d (.sl 1 (List.map rB l))))), (3, vX 3), (4, vX 4), (9, vI y1), (10, vO 5000), (36, vI (bq .i64 x.W x.H)), (37, vI a)]) (fun stt : Int × (List Cell) => match stt with | (_a, out) => [(3, .box [dI t.States, dR2 t.Hood, dR1 t.Nodes]), (4, .box [dI x.W, dI x.H, dI x.Gens, dI x.DX, dI x.DY, dL x.Syms]), (5000, .row 3 63 (List.map Cell.row out))]) stt Z O) : Swp Tryz.prog cx (.loop (bL [1, 1, 1, 1, 1, 0, 1, 0, 0] (bn Tryz.f21))) Z O (F_unroll_Pattern_1 cx t x l y1 tt) := by
 refine bv hE hh (F_unroll_Pattern_1 cx t x l y1) ?_
 rintro ⟨a, out⟩ r hm Z O hf
 simp only [Fits, ba, bc, and_true] at hf
 unfold b_unroll_Pattern_1 at hm
 dsimp only at hm
 refine srs hn ?_
 simp -dsimp [hf]
 refine aU ?_
 rcases aZ hm with ⟨c5, hm⟩ | ⟨c5, hm⟩
 ·refine aS (by simp -dsimp) c5 ?_
  refine aT (aP (aU (aW ?_)))
  refine srs hn ?_
  simp -dsimp [hf, c5]
  refine srs hn ?_
  obtain ⟨l1, h6, hm⟩ := bnd hm
  obtain ⟨y2, h7, hm⟩ := bnd hm
  simp -dsimp [hf, h6]
  refine b7 (c_lower_State l1 y2 h7) (dkL hn) ?_
  simp -dsimp
  refine aU ?_
  refine srs hn ?_
  simp -dsimp [hf]
  rcases aZ hm with ⟨c8, hm⟩ | ⟨c8, hm⟩
  ·refine aS (by simp -dsimp) c8 ?_
   refine srs hn ?_
   simp -dsimp [c8]
   refine aV (aX (bz (aX ?_)))
   cases hm
   refine bd nofun ?_
   exact ⟨rfl, EE.here (by simp -dsimp [Tryz.results21])⟩
  ·refine aR (by simp -dsimp) c8 ?_
   refine aT (aP ?_)
   refine srs hn ?_
   simp -dsimp [c8]
   rcases aZ hm with ⟨c9, hm⟩ | ⟨c9, hm⟩
   ·refine aS (by simp -dsimp) c9 ?_
    refine dV bm mixed 12 (by rw [hn]; kernel_rfl) ?_
    dsimp only [List.take, List.drop]
    obtain ⟨n, h10, hm⟩ := bnd hm
    obtain ⟨n1, h11, hm⟩ := bnd hm
    obtain ⟨l2, h12, hm⟩ := bnd hm
    obtain ⟨h12a, h12e⟩ := bj h12
    replace h12e := h12e.symm
    subst h12e
    try simp only [List.length_cons, List.length_nil, Nat.zero_add] at h12a
    simp -dsimp [hf, c9, h10, h11, h12a]
    refine bk ?_
    refine aP ?_
    refine sr1 hn ?_
    simp -dsimp [hf]
    cases hm
    refine bh ?_
    refine emv 68 5000 ?_
    exact EE.here (by simp -dsimp [hf])
   ·refine aR (by simp -dsimp) c9 ?_
    refine aT ?_
    refine bk ?_
    refine aP ?_
    refine sr1 hn ?_
    simp -dsimp [hf, c9]
    cases hm
    refine bh ?_
    exact EE.here (by simp -dsimp [hf])
 ·refine aR (by simp -dsimp) c5 ?_
  refine b9 ?_
  refine aX ?_
  cases hm
  refine bd nofun ?_
  exact ⟨rfl, EE.here (by simp -dsimp [hf, c5])⟩
theorem c_unroll_Pattern (t : Tree) (x : Av) (l : List Bool) (r : (List Cell) × Int) (hm : m_unroll_Pattern t x l = some r) : PureCall Tryz.prog 21 [.u (.agg [dI t.States, dR2 t.Hood, dR1 t.Nodes]), .u (.agg [dI x.W, dI x.H, dI x.Gens, dI x.DX, dI x.DY, dL x.Syms]), .u (.one (.d (.sl 1 (List.map rB l))))] (.tup [.one (dR0 r.1), .one (dI r.2)]) := by
 refine bN Tryz.func21 Tryz.ntmps21 fun cx hn => ?_
 unfold m_unroll_Pattern at hm
 refine srs hn ?_
 simp -dsimp
 refine aU ?_
 refine srs hn ?_
 obtain ⟨y, h1, hm⟩ := bnd hm
 simp -dsimp
 refine b7 (eg t x y h1) (dkL hn) ?_
 simp -dsimp
 refine srs hn ?_
 simp -dsimp
 rcases aZ hm with ⟨c2, hm⟩ | ⟨c2, hm⟩
 ·refine aS (by simp -dsimp) c2 ?_
  refine srs hn ?_
  simp -dsimp [c2]
  refine aV (aX ?_)
  cases hm
  refine ⟨.inr rfl, ?_⟩
  exact EE.here (by simp -dsimp)
 ·refine aR (by simp -dsimp) c2 ?_
  refine aT (aP ?_)
  refine srs hn ?_
  obtain ⟨y1, h3, hm⟩ := bnd hm
  simp -dsimp [c2]
  refine b7 (ev t.States y1 h3) (dkL hn) ?_
  simp -dsimp
  refine aU ?_
  refine srs hn ?_
  simp -dsimp
  rcases aZ hm with ⟨c4, hm⟩ | ⟨c4, hm⟩
  ·refine aS (by simp -dsimp) c4 ?_
   refine srs hn ?_
   simp -dsimp [c4]
   refine aV (aX ?_)
   cases hm
   refine ⟨.inr rfl, ?_⟩
   exact EE.here (by simp -dsimp)
  ·refine aR (by simp -dsimp) c4 ?_
   refine aT (aP ?_)
   refine srs hn ?_
   simp -dsimp [c4]
   refine aU ?_
   refine srs hn ?_
   simp -dsimp
   refine aW ?_
   obtain ⟨o_, g13, hm⟩ := bnd hm
   refine bo (l_unroll_Pattern_1 cx hn t x l y1 g13) (by
     try dsimp only
     refine EE.step (Wk.own0 10 5000 3 63 (by simp -dsimp) (by decide)) ?_
     exact EE.here (by simp -dsimp)
   ) fun ee Z O x14 => ?_
   rcases o_ with r | out
   ·unfold F_unroll_Pattern_1 at x14
    dsimp only at x14
    obtain ⟨rfl, x14⟩ := x14
    refine bz (aX ?_)
    cases hm
    exact ⟨.inr rfl, x14⟩
   ·unfold F_unroll_Pattern_1 at x14
    dsimp only at x14
    obtain ⟨rfl, x14⟩ := x14
    refine b8 ?_
    refine aP ?_
    refine see x14 fun Z O hf => ?_
    simp only [Fits, ba, bc, and_true] at hf
    refine srs hn ?_
    simp -dsimp [hf]
    cases hm
    exact aV ⟨.inr rfl, EE.here (by simp -dsimp [hf])⟩
def F_R41_Equal_2 (cx : Cx) (a b : Aw) (i : Int) (_x _x1 : List Int) (tt : Bool ⊕ Unit) (ee : Exit) (Z : Env) (O : Sto) : Prop := match tt with
 | .inl r => ee = .ret /\ EE cx (fun Z O => ∃ v, cX tb Z O Tryz.f11.results.toList = some v /\ (v.frz O).free = true /\ (v.frz O).wk (vT r)) Z O
 | .inr _u => ee = .exit 2 /\ EE cx (bp [(2, vX 2), (3, vX 3), (5, vI i)] [(2, .box [dI a.Vars, .d (.sl 1 (List.map (rS 1 (rI .i64)) a.Clauses))]), (3, .box [dI b.Vars, .d (.sl 1 (List.map (rS 1 (rI .i64)) b.Clauses))])]) Z O
theorem l_R41_Equal_2 (cx : Cx) (hn : cx.n = 60) (a b : Aw) (i : Int) (x x1 : List Int) {fu : Nat} {stt : Int} {tt : Bool ⊕ Unit} (hh : b0 (b_R41_Equal_2 a b i x x1) fu stt = some tt) {Z : Env} {O : Sto}
  (hE : bu (fun k : Int => [(2, vX 2), (3, vX 3), (5, vI i), (6, .u (.one (dL x))), (7, .u (.one (dL x1))), (8, vI k)]) (fun _k : Int => [(2, .box [dI a.Vars, .d (.sl 1 (List.map (rS 1 (rI .i64)) a.Clauses))]), (3, .box [dI b.Vars, .d (.sl 1 (List.map (rS 1 (rI .i64)) b.Clauses))])]) stt Z O) : Swp Tryz.prog cx (.loop (bL [1, 1, 0, 1, 0, 0, 1, 0, 0, 1, 1, 1, 0, 0] (bn Tryz.f11))) Z O (F_R41_Equal_2 cx a b i x x1 tt) := by
 refine bv hE hh (F_R41_Equal_2 cx a b i x x1) ?_
 rintro k r hm Z O hf
 simp only [Fits, ba, bc, and_true] at hf
 unfold b_R41_Equal_2 at hm
 dsimp only at hm
 refine aU ?_
 refine srs hn ?_
 simp -dsimp [hf]
 rcases aZ hm with ⟨c7, hm⟩ | ⟨c7, hm⟩
 ·refine aS (by simp -dsimp) c7 ?_
  refine aT (aP (aU (aW ?_)))
  refine cy bm mixed (by rw [hn]; kernel_rfl) ?_
  obtain ⟨x2, h8, hm⟩ := bnd hm
  obtain ⟨x3, h9, hm⟩ := bnd hm
  simp -dsimp [hf, c7, h8, h9]
  rcases aZ hm with ⟨c10, hm⟩ | ⟨c10, hm⟩
  ·refine aS (by simp -dsimp) c10 ?_
   refine srs hn ?_
   simp -dsimp [c10]
   refine aV (bz (aX ?_))
   cases hm
   refine bd nofun ?_
   exact ⟨rfl, EE.here (by simp -dsimp [Tryz.results11])⟩
  ·refine aR (by simp -dsimp) c10 ?_
   refine aT ?_
   refine bk ?_
   refine aP ?_
   refine sr1 hn ?_
   simp -dsimp [hf, c10]
   cases hm
   refine bh ?_
   exact EE.here (by simp -dsimp [hf])
 ·refine aR (by simp -dsimp) c7 ?_
  refine b9 ?_
  refine aX ?_
  cases hm
  refine bd nofun ?_
  exact ⟨rfl, EE.here (by simp -dsimp [hf, c7])⟩
def F_R41_Equal_1 (cx : Cx) (_a _b : Aw) (tt : Bool ⊕ Unit) (ee : Exit) (Z : Env) (O : Sto) : Prop := match tt with
 | .inl r => ee = .ret /\ EE cx (fun Z O => ∃ v, cX tb Z O Tryz.f11.results.toList = some v /\ (v.frz O).free = true /\ (v.frz O).wk (vT r)) Z O
 | .inr _u => ee = .exit 0 /\ EE cx (bp [] []) Z O
theorem l_R41_Equal_1 (cx : Cx) (hn : cx.n = 60) (a b : Aw) {fu : Nat} {stt : Int} {tt : Bool ⊕ Unit} (hh : b0 (b_R41_Equal_1 a b) fu stt = some tt) {Z : Env} {O : Sto}
  (hE : bu (fun i : Int => [(2, vX 2), (3, vX 3), (5, vI i)]) (fun _i : Int => [(2, .box [dI a.Vars, .d (.sl 1 (List.map (rS 1 (rI .i64)) a.Clauses))]), (3, .box [dI b.Vars, .d (.sl 1 (List.map (rS 1 (rI .i64)) b.Clauses))])]) stt Z O) : Swp Tryz.prog cx (.loop (bL [1, 1, 0, 1, 0, 0] (bn Tryz.f11))) Z O (F_R41_Equal_1 cx a b tt) := by
 refine bv hE hh (F_R41_Equal_1 cx a b) ?_
 rintro i r hm Z O hf
 simp only [Fits, ba, bc, and_true] at hf
 unfold b_R41_Equal_1 at hm
 dsimp only at hm
 refine aU ?_
 refine srs hn ?_
 simp -dsimp [hf]
 rcases aZ hm with ⟨c3, hm⟩ | ⟨c3, hm⟩
 ·refine aS (by simp -dsimp) c3 ?_
  refine aT (aP (aU (aW ?_)))
  refine cy bm mixed (by rw [hn]; kernel_rfl) ?_
  obtain ⟨x, h4, hm⟩ := bnd hm
  obtain ⟨x1, h5, hm⟩ := bnd hm
  simp -dsimp [hf, c3, h4, h5]
  refine aU ?_
  refine srs hn ?_
  simp -dsimp
  rcases aZ hm with ⟨c6, hm⟩ | ⟨c6, hm⟩
  ·refine aS (by simp -dsimp) c6 ?_
   refine srs hn ?_
   simp -dsimp [c6]
   refine aV (aX (bz (aX ?_)))
   cases hm
   refine bd nofun ?_
   exact ⟨rfl, EE.here (by simp -dsimp [Tryz.results11])⟩
  ·refine aR (by simp -dsimp) c6 ?_
   refine aT (aP ?_)
   refine srs hn ?_
   simp -dsimp [c6]
   refine aW ?_
   obtain ⟨o_, g11, hm⟩ := bnd hm
   refine bo (l_R41_Equal_2 cx hn a b i x x1 g11) (by
     try dsimp only
     exact EE.here (by simp -dsimp [hf])
   ) fun ee Z O x12 => ?_
   rcases o_ with r | _u
   ·unfold F_R41_Equal_2 at x12
    dsimp only at x12
    obtain ⟨rfl, x12⟩ := x12
    refine bz (bz (aX ?_))
    cases hm
    refine bd nofun ?_
    unfold F_R41_Equal_1
    dsimp only
    refine ⟨rfl, ?_⟩
    exact x12
   ·unfold F_R41_Equal_2 at x12
    dsimp only at x12
    obtain ⟨rfl, x12⟩ := x12
    refine b8 ?_
    refine bk ?_
    refine aP ?_
    refine see x12 fun Z O hf => ?_
    simp only [Fits, ba, bc, and_true] at hf
    refine sr1 hn ?_
    simp -dsimp [hf]
    cases hm
    refine bh ?_
    exact EE.here (by simp -dsimp [hf])
 ·refine aR (by simp -dsimp) c3 ?_
  refine b9 ?_
  refine aX ?_
  cases hm
  refine bd nofun ?_
  exact ⟨rfl, EE.here (by simp -dsimp [c3])⟩
theorem c_R41_Equal (a b : Aw) (r : Bool) (hm : m_R41_Equal a b = some r) : PureCall Tryz.prog 11 [.u (.agg [dI a.Vars, .d (.sl 1 (List.map (rS 1 (rI .i64)) a.Clauses))]), .u (.agg [dI b.Vars, .d (.sl 1 (List.map (rS 1 (rI .i64)) b.Clauses))])] (vT r) := by
 refine bN Tryz.func11 Tryz.ntmps11 fun cx hn => ?_
 unfold m_R41_Equal at hm
 refine srs hn ?_
 simp -dsimp
 refine aU ?_
 obtain ⟨a1, j15, hm⟩ := bnd hm
 refine scE [(2, vX 2), (3, vX 3), (22, vT a1)] [(2, .box [dI a.Vars, .d (.sl 1 (List.map (rS 1 (rI .i64)) a.Clauses))]), (3, .box [dI b.Vars, .d (.sl 1 (List.map (rS 1 (rI .i64)) b.Clauses))])] ?_ fun Z O hf => ?_
 ·replace hm := j15
  clear j15
  refine sr1 hn ?_
  rcases aZ hm with ⟨c1, hm⟩ | ⟨c1, hm⟩
  ·simp -dsimp [c1]
   cases hm
   exact EE.here (by simp -dsimp)
  ·simp -dsimp [c1]
   cases hm
   exact EE.here (by simp -dsimp)
 ·clear j15
  simp only [Fits, ba, bc, and_true] at hf
  rcases aZ hm with ⟨c2, hm⟩ | ⟨c2, hm⟩
  ·refine aS (by simp -dsimp [hf]) c2 ?_
   refine srs hn ?_
   simp -dsimp
   refine aV (aX ?_)
   cases hm
   refine ⟨.inr rfl, ?_⟩
   exact EE.here (by simp -dsimp)
  ·refine aR (by simp -dsimp [hf]) c2 ?_
   refine aT (aP (aU ?_))
   refine srs hn ?_
   simp -dsimp
   refine aW ?_
   obtain ⟨o_, g13, hm⟩ := bnd hm
   refine bo (l_R41_Equal_1 cx hn a b g13) (by
     try dsimp only
     exact EE.here (by simp -dsimp [hf])
   ) fun ee Z O x14 => ?_
   rcases o_ with r | _u
   ·unfold F_R41_Equal_1 at x14
    dsimp only at x14
    obtain ⟨rfl, x14⟩ := x14
    refine bz (aX ?_)
    cases hm
    exact ⟨.inr rfl, x14⟩
   ·unfold F_R41_Equal_1 at x14
    dsimp only at x14
    obtain ⟨rfl, x14⟩ := x14
    refine b8 ?_
    refine aP ?_
    refine see x14 fun Z O hf => ?_
    simp only [Fits, ba, bc, and_true] at hf
    refine srs hn ?_
    simp -dsimp
    cases hm
    exact aV ⟨.inr rfl, EE.here (by simp -dsimp)⟩
theorem c_R05_order (a b r : Int) (hm : m_R05_order a b = some r) : PureCall Tryz.prog 102 [vI a, vI b] (vI r) := by
 refine bN Tryz.func102 Tryz.ntmps102 fun cx hn => ?_
 unfold m_R05_order at hm
 refine srs hn ?_
 simp -dsimp
 refine aU ?_
 refine srs hn ?_
 simp -dsimp
 rcases aZ hm with ⟨c1, hm⟩ | ⟨c1, hm⟩
 ·refine sct c1 ?_
  refine srs hn ?_
  simp -dsimp [c1]
  refine aV (aX ?_)
  cases hm
  refine ⟨.inr rfl, ?_⟩
  exact EE.here (by simp -dsimp)
 ·refine scf c1 ?_
  refine aT (aP (aU ?_))
  refine srs hn ?_
  simp -dsimp [c1]
  rcases aZ hm with ⟨c2, hm⟩ | ⟨c2, hm⟩
  ·refine aS (by simp -dsimp) c2 ?_
   refine srs hn ?_
   simp -dsimp [c2]
   refine aV (aX ?_)
   cases hm
   refine ⟨.inr rfl, ?_⟩
   exact EE.here (by simp -dsimp)
  ·refine aR (by simp -dsimp) c2 ?_
   refine aT (aP ?_)
   refine srs hn ?_
   simp -dsimp [c2]
   cases hm
   exact aV ⟨.inr rfl, EE.here (by simp -dsimp)⟩
def F_R05_Compare_1 (cx : Cx) (a b : List Cell) (tt : Int ⊕ Unit) (ee : Exit) (Z : Env) (O : Sto) : Prop := match tt with
 | .inl r => ee = .ret /\ EE cx (fun Z O => ∃ v, cX tb Z O Tryz.f64.results.toList = some v /\ (v.frz O).free = true /\ (v.frz O).wk (vI r)) Z O
 | .inr _u => ee = .exit 0 /\ EE cx (bp [(0, .u (.one (dR0 a))), (1, .u (.one (dR0 b)))] []) Z O
theorem l_R05_Compare_1 (cx : Cx) (hn : cx.n = 89) (a b : List Cell) {fu : Nat} {stt : Int} {tt : Int ⊕ Unit} (hh : b0 (b_R05_Compare_1 a b) fu stt = some tt) {Z : Env} {O : Sto}
  (hE : bu (fun i : Int => [(0, .u (.one (dR0 a))), (1, .u (.one (dR0 b))), (5, vI i)]) (fun _i : Int => []) stt Z O) : Swp Tryz.prog cx (.loop (bL [1, 0, 1, 0, 0] (bn Tryz.f64))) Z O (F_R05_Compare_1 cx a b tt) := by
 refine bv hE hh (F_R05_Compare_1 cx a b) ?_
 rintro i r hm Z O hf
 simp only [Fits, ba, bc, and_true] at hf
 unfold b_R05_Compare_1 at hm
 dsimp only at hm
 refine aU ?_
 obtain ⟨a1, j11, hm⟩ := bnd hm
 refine scE [(0, .u (.one (dR0 a))), (1, .u (.one (dR0 b))), (5, vI i), (15, vT a1)] [] ?_ fun Z O hf => ?_
 ·replace hm := j11
  clear j11
  refine sr1 hn ?_
  rcases aZ hm with ⟨c1, hm⟩ | ⟨c1, hm⟩
  ·simp -dsimp [hf, c1]
   cases hm
   exact EE.here (by simp -dsimp [hf])
  ·simp -dsimp [hf, c1]
   cases hm
   exact EE.here (by simp -dsimp [hf])
 ·clear j11
  simp only [Fits, ba, bc, and_true] at hf
  rcases aZ hm with ⟨c2, hm⟩ | ⟨c2, hm⟩
  ·refine aS (by simp -dsimp [hf]) c2 ?_
   refine aT (aP (aU (aW (aU ?_))))
   refine cy bm mixed (by rw [hn]; kernel_rfl) ?_
   obtain ⟨x, h3, hm⟩ := bnd hm
   obtain ⟨x1, h4, hm⟩ := bnd hm
   simp -dsimp [hf, h3, h4]
   rcases aZ hm with ⟨c5, hm⟩ | ⟨c5, hm⟩
   ·refine aS (by simp -dsimp) c5 ?_
    refine cy bm mixed (by rw [hn]; kernel_rfl) ?_
    obtain ⟨y, h6, hm⟩ := bnd hm
    simp -dsimp [hf, h3, h4, c5]
    refine bi (c_R05_order x.Y x1.Y y h6) ?_
    simp -dsimp
    refine aV (aX (bz (aX ?_)))
    cases hm
    refine bd nofun ?_
    exact ⟨rfl, EE.here (by simp -dsimp [Tryz.results64])⟩
   ·refine aR (by simp -dsimp) c5 ?_
    refine aT (aP (aU ?_))
    refine cy bm mixed (by rw [hn]; kernel_rfl) ?_
    simp -dsimp [hf, h3, h4, c5]
    rcases aZ hm with ⟨c7, hm⟩ | ⟨c7, hm⟩
    ·refine aS (by simp -dsimp) c7 ?_
     refine cy bm mixed (by rw [hn]; kernel_rfl) ?_
     obtain ⟨y, h8, hm⟩ := bnd hm
     simp -dsimp [hf, h3, h4, c7]
     refine bi (c_R05_order x.X x1.X y h8) ?_
     simp -dsimp
     refine aV (aX (bz (aX ?_)))
     cases hm
     refine bd nofun ?_
     exact ⟨rfl, EE.here (by simp -dsimp [Tryz.results64])⟩
    ·refine aR (by simp -dsimp) c7 ?_
     refine aT (aP ?_)
     refine cy bm mixed (by rw [hn]; kernel_rfl) ?_
     simp -dsimp [hf, h3, h4, c7]
     rcases aZ hm with ⟨c9, hm⟩ | ⟨c9, hm⟩
     ·refine aS (by simp -dsimp) c9 ?_
      refine cy bm mixed (by rw [hn]; kernel_rfl) ?_
      obtain ⟨y, h10, hm⟩ := bnd hm
      simp -dsimp [hf, h3, h4, c9]
      refine bi (c_R05_order x.S x1.S y h10) ?_
      simp -dsimp
      refine aV (bz (aX ?_))
      cases hm
      refine bd nofun ?_
      exact ⟨rfl, EE.here (by simp -dsimp [Tryz.results64])⟩
     ·refine aR (by simp -dsimp) c9 ?_
      refine aT ?_
      refine bk ?_
      refine aP ?_
      refine sr1 hn ?_
      simp -dsimp [hf, c9]
      cases hm
      refine bh ?_
      exact EE.here (by simp -dsimp [hf])
  ·refine aR (by simp -dsimp [hf]) c2 ?_
   refine b9 ?_
   refine aX ?_
   cases hm
   refine bd nofun ?_
   exact ⟨rfl, EE.here (by simp -dsimp [hf])⟩
theorem c_R05_Compare (a b : List Cell) (r : Int) (hm : m_R05_Compare a b = some r) : PureCall Tryz.prog 64 [.u (.one (dR0 a)), .u (.one (dR0 b))] (vI r) := by
 refine bN Tryz.func64 Tryz.ntmps64 fun cx hn => ?_
 unfold m_R05_Compare at hm
 refine srs hn ?_
 simp -dsimp
 refine aU ?_
 refine srs hn ?_
 simp -dsimp
 refine aW ?_
 obtain ⟨o_, g12, hm⟩ := bnd hm
 refine bo (l_R05_Compare_1 cx hn a b g12) (by
   try dsimp only
   exact eeh
 ) fun ee Z O x13 => ?_
 rcases o_ with r | _u
 ·unfold F_R05_Compare_1 at x13
  dsimp only at x13
  obtain ⟨rfl, x13⟩ := x13
  refine bz (aX ?_)
  cases hm
  exact ⟨.inr rfl, x13⟩
 ·unfold F_R05_Compare_1 at x13
  dsimp only at x13
  obtain ⟨rfl, x13⟩ := x13
  refine b8 ?_
  refine aP ?_
  refine see x13 fun Z O hf => ?_
  simp only [Fits, ba, bc, and_true] at hf
  refine srs hn ?_
  obtain ⟨y, h14, hm⟩ := bnd hm
  simp -dsimp [hf]
  refine b7 (c_R05_order (aY a) (aY b) y h14) (dkL hn) ?_
  simp -dsimp
  cases hm
  exact aV ⟨.inr rfl, EE.here (by simp -dsimp)⟩
theorem c_R05_Same (a b : List Cell) (r : Bool) (hm : m_R05_Same a b = some r) : PureCall Tryz.prog 22 [.u (.one (dR0 a)), .u (.one (dR0 b))] (vT r) := by
 refine bN Tryz.func22 Tryz.ntmps22 fun cx hn => ?_
 unfold m_R05_Same at hm
 refine srs hn ?_
 simp -dsimp
 refine srs hn ?_
 obtain ⟨y, h1, hm⟩ := bnd hm
 simp -dsimp
 refine b7 (c_R05_Compare a b y h1) (dkL hn) ?_
 simp -dsimp
 cases hm
 exact aV ⟨.inr rfl, EE.here (by simp -dsimp)⟩
theorem c_L45_alive (r : Bool) (hm : m_L45_alive = some r) : PureCall Tryz.prog 8 [] (vT r) := by
 refine bN Tryz.func8 Tryz.ntmps8 fun cx hn => ?_
 unfold m_L45_alive at hm
 refine srs hn ?_
 simp -dsimp
 refine srs hn ?_
 simp -dsimp
 refine dd bm mixed 7 9 10 0 [[0, 1, 2, 3, 4, 5, 6], [5, 6]] [[2], []] [true] none (by rw [hn]; kernel_rfl) bY ?_
 dsimp only [List.take, List.drop, cM, cO, dp, pk, List.cons_append, List.nil_append, List.flatten_cons, List.flatten_nil, bV, bU, List.append_nil]
 obtain ⟨y, h1, hm⟩ := bnd hm
 simp -dsimp
 refine bi (ey y h1) ?_
 obtain ⟨y1, h2, hm⟩ := bnd hm
 simp -dsimp
 refine bi ((c_unroll_Formula y (⟨1, 1, 1, 0, 0, []⟩ : Av) y1 h2).wk (by simp [V.wkl])) ?_
 simp -dsimp
 refine bi (ey y h1) ?_
 simp -dsimp
 refine bi ((c_unroll_Formula y (⟨1, 1, 1, 0, 0, []⟩ : Av) y1 h2).wk (by simp [V.wkl])) ?_
 simp -dsimp
 refine srs hn ?_
 simp -dsimp
 refine b7 (ey y h1) (dkL hn) ?_
 obtain ⟨y2, h3, hm⟩ := bnd hm
 simp -dsimp
 refine b7 (c_unroll_Parents y (⟨1, 1, 0, [1]⟩ : Grid) y2 h3) (dkL hn) ?_
 simp -dsimp
 refine cy bm mixed (by rw [hn]; kernel_rfl) ?_
 simp -dsimp
 refine bi (ey y h1) ?_
 obtain ⟨y3, h4, hm⟩ := bnd hm
 simp -dsimp
 refine bi ((c_unroll_Bits y (⟨1, 1, 1, 0, 0, []⟩ : Av) [(⟨0, 0, 1⟩ : Cell)] y3 h4).wk (by simp [V.wkl])) ?_
 simp -dsimp
 refine cy bm mixed (by rw [hn]; kernel_rfl) ?_
 simp -dsimp
 refine bi (ey y h1) ?_
 obtain ⟨y4, h5, hm⟩ := bnd hm
 simp -dsimp
 refine bi ((c_unroll_Pattern y (⟨1, 1, 1, 0, 0, []⟩ : Av) [true] y4 h5).wk (by simp [V.wkl])) ?_
 simp -dsimp
 refine srs hn ?_
 obtain ⟨y5, h6, hm⟩ := bnd hm
 simp -dsimp
 refine b7 ((c_unroll_Formula (⟨0, [], []⟩ : Tree) (⟨1, 1, 1, 0, 0, []⟩ : Av) y5 h6).wk (by simp [V.wkl])) (dkL hn) ?_
 simp -dsimp
 refine srs hn ?_
 simp -dsimp
 obtain ⟨a, j22, hm⟩ := bnd hm
 refine scE [(0, vT a)] [] ?_ fun Z O hf => ?_
 ·replace hm := j22
  clear j22
  refine sr1 hn ?_
  rcases aZ hm with ⟨c7, hm⟩ | ⟨c7, hm⟩
  ·rcases aZ hm with ⟨c8, hm⟩ | ⟨c8, hm⟩
   ·obtain ⟨y6, h9, hm⟩ := bnd hm
    simp -dsimp [c7, c8]
    refine b7 (c_R41_Equal y1.1 (⟨2, [[1, (-2)], [(-1), 2], [(-2), 1], [2, (-1)]]⟩ : Aw) y6 h9) (dkL hn) ?_
    rcases aZ hm with ⟨c10, hm⟩ | ⟨c10, hm⟩
    ·rcases aZ hm with ⟨c11, hm⟩ | ⟨c11, hm⟩
     ·rcases aZ hm with ⟨c12, hm⟩ | ⟨c12, hm⟩
      ·obtain ⟨y7, h13, hm⟩ := bnd hm
       simp -dsimp [c10, c11, c12]
       refine b7 (c_R41_Equal y2.1 (⟨2, [[1, (-2)], [(-1), 2], [2]]⟩ : Aw) y7 h13) (dkL hn) ?_
       rcases aZ hm with ⟨c14, hm⟩ | ⟨c14, hm⟩
       ·rcases aZ hm with ⟨c15, hm⟩ | ⟨c15, hm⟩
        ·rcases aZ hm with ⟨c16, hm⟩ | ⟨c16, hm⟩
         ·obtain ⟨x, h17, hm⟩ := bnd hm
          rcases aZ hm with ⟨c18, hm⟩ | ⟨c18, hm⟩
          ·rcases aZ hm with ⟨c19, hm⟩ | ⟨c19, hm⟩
           ·obtain ⟨y8, h20, hm⟩ := bnd hm
            simp -dsimp [c14, c15, c16, h17, c18, c19]
            refine b7 (c_R05_Same y4.1 [(⟨0, 0, 1⟩ : Cell)] y8 h20) (dkL hn) ?_
            rcases aZ hm with ⟨c21, hm⟩ | ⟨c21, hm⟩
            ·simp -dsimp [c21]
             cases hm
             exact EE.here (by simp -dsimp)
            ·simp -dsimp [c21]
             cases hm
             exact EE.here (by simp -dsimp)
           ·simp -dsimp [c14, c15, c16, h17, c18, c19]
            cases hm
            exact EE.here (by simp -dsimp)
          ·simp -dsimp [c14, c15, c16, h17, c18]
           cases hm
           exact EE.here (by simp -dsimp)
         ·simp -dsimp [c14, c15, c16]
          cases hm
          exact EE.here (by simp -dsimp)
        ·simp -dsimp [c14, c15]
         cases hm
         exact EE.here (by simp -dsimp)
       ·simp -dsimp [c14]
        cases hm
        exact EE.here (by simp -dsimp)
      ·simp -dsimp [c10, c11, c12]
       cases hm
       exact EE.here (by simp -dsimp)
     ·simp -dsimp [c10, c11]
      cases hm
      exact EE.here (by simp -dsimp)
    ·simp -dsimp [c10]
     cases hm
     exact EE.here (by simp -dsimp)
   ·simp -dsimp [c7, c8]
    cases hm
    exact EE.here (by simp -dsimp)
  ·simp -dsimp [c7]
   cases hm
   exact EE.here (by simp -dsimp)
 ·clear j22
  simp only [Fits, ba, bc, and_true] at hf
  cases hm
  exact aV ⟨.inr rfl, EE.here (by simp -dsimp [hf])⟩
theorem c_R07_before (a b : Point) (r : Bool) (hm : m_R07_before a b = some r) : PureCall Tryz.prog 101 [.u (.agg [dI a.X, dI a.Y]), .u (.agg [dI b.X, dI b.Y])] (vT r) := by
 refine bN Tryz.func101 Tryz.ntmps101 fun cx hn => ?_
 unfold m_R07_before at hm
 refine srs hn ?_
 simp -dsimp
 obtain ⟨a1, j3, hm⟩ := bnd hm
 refine scE [(4, vT a1)] [] ?_ fun Z O hf => ?_
 ·replace hm := j3
  clear j3
  refine sr1 hn ?_
  rcases aZ hm with ⟨c1, hm⟩ | ⟨c1, hm⟩
  ·simp -dsimp [c1]
   cases hm
   exact EE.here (by simp -dsimp)
  ·rcases aZ hm with ⟨c2, hm⟩ | ⟨c2, hm⟩
   ·simp -dsimp [c1, c2]
    cases hm
    exact EE.here (by simp -dsimp)
   ·simp -dsimp [c1, c2]
    cases hm
    exact EE.here (by simp -dsimp)
 ·clear j3
  simp only [Fits, ba, bc, and_true] at hf
  cases hm
  exact aV ⟨.inr rfl, EE.here (by simp -dsimp [hf])⟩
def F_R07_Right_1 (cx : Cx) (_l : List Point) (tt : Bool ⊕ Unit) (ee : Exit) (Z : Env) (O : Sto) : Prop := match tt with
 | .inl r => ee = .ret /\ EE cx (fun Z O => ∃ v, cX tb Z O Tryz.f61.results.toList = some v /\ (v.frz O).free = true /\ (v.frz O).wk (vT r)) Z O
 | .inr _u => ee = .exit 0 /\ EE cx (bp [] []) Z O
theorem l_R07_Right_1 (cx : Cx) (hn : cx.n = 55) (l : List Point) {fu : Nat} {stt : Int} {tt : Bool ⊕ Unit} (hh : b0 (b_R07_Right_1 l) fu stt = some tt) {Z : Env} {O : Sto}
  (hE : bu (fun i : Int => [(0, .u (.one (dR2 l))), (3, vI i)]) (fun _i : Int => []) stt Z O) : Swp Tryz.prog cx (.loop (bL [1, 1, 0, 1, 0, 0] (bn Tryz.f61))) Z O (F_R07_Right_1 cx l tt) := by
 refine bv hE hh (F_R07_Right_1 cx l) ?_
 rintro i r hm Z O hf
 simp only [Fits, ba, bc, and_true] at hf
 unfold b_R07_Right_1 at hm
 dsimp only at hm
 refine aU ?_
 refine srs hn ?_
 simp -dsimp [hf]
 rcases aZ hm with ⟨c3, hm⟩ | ⟨c3, hm⟩
 ·refine aS (by simp -dsimp) c3 ?_
  refine aT (aP (aU (aW ?_)))
  refine srs hn ?_
  obtain ⟨x, h4, hm⟩ := bnd hm
  simp -dsimp [hf, c3, h4]
  obtain ⟨a1, j13, hm⟩ := bnd hm
  refine scE [(0, .u (.one (dR2 l))), (3, vI i), (54, vT a1)] [] ?_ fun Z O hf => ?_
  ·replace hm := j13
   clear j13
   refine sw_qt bm mixed (by rw [hn]; kernel_rfl) ?_
   rcases aZ hm with ⟨c5, hm⟩ | ⟨c5, hm⟩
   ·simp -dsimp [c5]
    cases hm
    exact EE.here (by simp -dsimp [hf])
   ·rcases aZ hm with ⟨c6, hm⟩ | ⟨c6, hm⟩
    ·simp -dsimp [c5, c6]
     cases hm
     exact EE.here (by simp -dsimp [hf])
    ·rcases aZ hm with ⟨c7, hm⟩ | ⟨c7, hm⟩
     ·simp -dsimp [c5, c6, c7]
      cases hm
      exact EE.here (by simp -dsimp [hf])
     ·rcases aZ hm with ⟨c8, hm⟩ | ⟨c8, hm⟩
      ·simp -dsimp [c5, c6, c7, c8]
       cases hm
       exact EE.here (by simp -dsimp [hf])
      ·rcases aZ hm with ⟨c9, hm⟩ | ⟨c9, hm⟩
       ·obtain ⟨x1, h10, hm⟩ := bnd hm
        obtain ⟨y, h11, hm⟩ := bnd hm
        simp -dsimp [hf, c5, c6, c7, c8, c9, h10]
        refine bi (c_R07_before x1 x y h11) ?_
        simp -dsimp
        cases hm
        exact EE.here (by simp -dsimp [hf])
       ·simp -dsimp [hf, c5, c6, c7, c8, c9]
        cases hm
        exact EE.here (by simp -dsimp [hf])
  ·clear j13
   simp only [Fits, ba, bc, and_true] at hf
   rcases aZ hm with ⟨c12, hm⟩ | ⟨c12, hm⟩
   ·refine aS (by simp -dsimp [hf]) c12 ?_
    refine srs hn ?_
    simp -dsimp
    refine aV (bz (aX ?_))
    cases hm
    refine bd nofun ?_
    exact ⟨rfl, EE.here (by simp -dsimp [Tryz.results61])⟩
   ·refine aR (by simp -dsimp [hf]) c12 ?_
    refine aT ?_
    refine bk ?_
    refine aP ?_
    refine sr1 hn ?_
    simp -dsimp [hf]
    cases hm
    refine bh ?_
    exact EE.here (by simp -dsimp [hf])
 ·refine aR (by simp -dsimp) c3 ?_
  refine b9 ?_
  refine aX ?_
  cases hm
  refine bd nofun ?_
  exact ⟨rfl, EE.here (by simp -dsimp [c3])⟩
theorem c_R07_Right (l : List Point) (r : Bool) (hm : m_R07_Right l = some r) : PureCall Tryz.prog 61 [.u (.one (dR2 l))] (vT r) := by
 refine bN Tryz.func61 Tryz.ntmps61 fun cx hn => ?_
 unfold m_R07_Right at hm
 refine srs hn ?_
 simp -dsimp
 refine aU ?_
 obtain ⟨a, j16, hm⟩ := bnd hm
 refine scE [(0, .u (.one (dR2 l))), (12, vT a)] [] ?_ fun Z O hf => ?_
 ·replace hm := j16
  clear j16
  refine sr1 hn ?_
  rcases aZ hm with ⟨c1, hm⟩ | ⟨c1, hm⟩
  ·simp -dsimp [c1]
   cases hm
   exact EE.here (by simp -dsimp)
  ·simp -dsimp [c1]
   cases hm
   exact EE.here (by simp -dsimp)
 ·clear j16
  simp only [Fits, ba, bc, and_true] at hf
  rcases aZ hm with ⟨c2, hm⟩ | ⟨c2, hm⟩
  ·refine aS (by simp -dsimp [hf]) c2 ?_
   refine srs hn ?_
   simp -dsimp
   refine aV (aX ?_)
   cases hm
   refine ⟨.inr rfl, ?_⟩
   exact EE.here (by simp -dsimp)
  ·refine aR (by simp -dsimp [hf]) c2 ?_
   refine aT (aP (aU ?_))
   refine srs hn ?_
   simp -dsimp
   refine aW ?_
   obtain ⟨o_, g14, hm⟩ := bnd hm
   refine bo (l_R07_Right_1 cx hn l g14) (by
     try dsimp only
     exact EE.here (by simp -dsimp [hf])
   ) fun ee Z O x15 => ?_
   rcases o_ with r | _u
   ·unfold F_R07_Right_1 at x15
    dsimp only at x15
    obtain ⟨rfl, x15⟩ := x15
    refine bz (aX ?_)
    cases hm
    exact ⟨.inr rfl, x15⟩
   ·unfold F_R07_Right_1 at x15
    dsimp only at x15
    obtain ⟨rfl, x15⟩ := x15
    refine b8 ?_
    refine aP ?_
    refine see x15 fun Z O hf => ?_
    simp only [Fits, ba, bc, and_true] at hf
    refine srs hn ?_
    simp -dsimp
    cases hm
    exact aV ⟨.inr rfl, EE.here (by simp -dsimp)⟩
end Go.Proofs.YtjfjmdmdkbpdfaaGreatDoor
