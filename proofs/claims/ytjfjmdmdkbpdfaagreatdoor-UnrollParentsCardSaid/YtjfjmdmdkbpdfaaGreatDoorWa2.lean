/- That the code does what the functions say (made by cc.py). -/
import Derived.Test.YtjfjmdmdkbpdfaaGreatDoorWa1
import Derived.Test.YtjfjmdmdkbpdfaaGreatDoorLays
namespace Go.Proofs.YtjfjmdmdkbpdfaaGreatDoor
open Go.AM Go.Proofs
set_option maxRecDepth 100000
attribute [-simp] qlookup ct d7 Ob.wipe Ob.ren Ob.frz1
def dz (cx : Cx) (_p : List Cell) (tt : Int) (ee : Exit) (Z : Env) (O : Sto) : Prop := match tt with
 | n => ee = .exit 0 /\ EE cx (bp [(3, vI n)] []) Z O
theorem l_pattern_Top_1 (cx : Cx) (hn : cx.n = 19) (p : List Cell) {fu : Nat} {stt : Int × Int} {tt : Int} (hh : b0 (b_pattern_Top_1 p) fu stt = some tt) {Z : Env} {O : Sto}
  (hE : bu (fun stt : Int × Int => match stt with | (n, a) => [(0, .u (.one (dR0 p))), (3, vI n), (6, vI (aY p)), (7, vI a)]) (fun stt : Int × Int => match stt with | (_n, _a) => []) stt Z O) : Swp Tryz.prog cx (.loop (bL [1, 1, 0, 1, 0, 0] (bn Tryz.f54))) Z O (dz cx p tt) := by
 refine bv hE hh (dz cx p) ?_
 rintro ⟨n, a⟩ r hm Z O hf
 simp only [Fits, ba, bc, and_true] at hf
 unfold b_pattern_Top_1 at hm
 dsimp only at hm
 refine srs hn ?_
 simp -dsimp [hf]
 refine aU ?_
 rcases aZ hm with ⟨c1, hm⟩ | ⟨c1, hm⟩
 ·refine aS (by simp -dsimp) c1 ?_
  refine aT (aP (aU (aW ?_)))
  refine srs hn ?_
  simp -dsimp [hf, c1]
  refine sr1 hn ?_
  obtain ⟨x, h2, hm⟩ := bnd hm
  simp -dsimp [hf, h2]
  refine bk ?_
  refine aP ?_
  refine sr1 hn ?_
  simp -dsimp [hf]
  cases hm
  refine bh ?_
  exact EE.here (by simp -dsimp [hf])
 ·refine aR (by simp -dsimp) c1 ?_
  refine b9 ?_
  refine aX ?_
  cases hm
  refine bd nofun ?_
  exact ⟨rfl, EE.here (by simp -dsimp [hf, c1])⟩
theorem c_pattern_Top (p : List Cell) (r : Int) (hm : m_pattern_Top p = some r) : PureCall Tryz.prog 54 [.u (.one (dR0 p))] (vI r) := by
 refine bN Tryz.func54 Tryz.ntmps54 fun cx hn => ?_
 unfold m_pattern_Top at hm
 refine srs hn ?_
 simp -dsimp
 refine srs hn ?_
 simp -dsimp
 refine aU ?_
 refine srs hn ?_
 simp -dsimp
 refine aW ?_
 obtain ⟨n, g3, hm⟩ := bnd hm
 refine bo (l_pattern_Top_1 cx hn p g3) (by
   try dsimp only
   exact eeh
 ) fun ee Z O x4 => ?_
 unfold dz at x4
 dsimp only at x4
 obtain ⟨rfl, x4⟩ := x4
 refine b8 ?_
 refine aP ?_
 refine see x4 fun Z O hf => ?_
 simp only [Fits, ba, bc, and_true] at hf
 refine srs hn ?_
 simp -dsimp [hf]
 cases hm
 exact aV ⟨.inr rfl, EE.here (by simp -dsimp)⟩
theorem c_direct_check (t : Tree) (p : List Cell) (r : Int) (hm : m_direct_check t p = some r) : PureCall Tryz.prog 103 [.u (.agg [dI t.States, dR2 t.Hood, dR1 t.Nodes]), .u (.one (dR0 p))] (vI r) := by
 refine bN Tryz.func103 Tryz.ntmps103 fun cx hn => ?_
 unfold m_direct_check at hm
 refine srs hn ?_
 simp -dsimp
 refine aU (aW ?_)
 refine srs hn ?_
 obtain ⟨y, h1, hm⟩ := bnd hm
 simp -dsimp
 refine b7 (c_tree_Quiet t y h1) (dkL hn) ?_
 simp -dsimp
 rcases aZ hm with ⟨c2, hm⟩ | ⟨c2, hm⟩
 ·refine aS (by simp -dsimp) c2 ?_
  refine srs hn ?_
  simp -dsimp [c2]
  refine aV (bz (aX ?_))
  cases hm
  refine ⟨.inr rfl, ?_⟩
  exact EE.here (by simp -dsimp)
 ·refine aR (by simp -dsimp) c2 ?_
  refine srs hn ?_
  obtain ⟨y1, h3, hm⟩ := bnd hm
  simp -dsimp [c2]
  refine b7 (c_pattern_Right p y1 h3) (dkL hn) ?_
  simp -dsimp
  rcases aZ hm with ⟨c4, hm⟩ | ⟨c4, hm⟩
  ·refine aS (by simp -dsimp) c4 ?_
   refine srs hn ?_
   simp -dsimp [c4]
   refine aV (bz (aX ?_))
   cases hm
   refine ⟨.inr rfl, ?_⟩
   exact EE.here (by simp -dsimp)
  ·refine aR (by simp -dsimp) c4 ?_
   refine cy bm mixed (by rw [hn]; kernel_rfl) ?_
   obtain ⟨y2, h5, hm⟩ := bnd hm
   simp -dsimp [c4]
   refine bi (c_pattern_Top p y2 h5) ?_
   simp -dsimp
   rcases aZ hm with ⟨c6, hm⟩ | ⟨c6, hm⟩
   ·refine aS (by simp -dsimp) c6 ?_
    refine srs hn ?_
    simp -dsimp [c6]
    refine aV (bz (aX ?_))
    cases hm
    refine ⟨.inr rfl, ?_⟩
    exact EE.here (by simp -dsimp)
   ·refine aR (by simp -dsimp) c6 ?_
    refine aT ?_
    refine bk ?_
    refine aP ?_
    refine srs hn ?_
    simp -dsimp [c6]
    cases hm
    exact aV ⟨.inr rfl, EE.here (by simp -dsimp)⟩
def dS (cx : Cx) (_t : Tree) (p : List Cell) (_n : Int) (tt : Unit) (ee : Exit) (Z : Env) (O : Sto) : Prop := match tt with
 | _u => ee = .exit 0 /\ EE cx (bp [(1, .u (.one (dR0 p)))] []) Z O
theorem l_direct_Run_1 (cx : Cx) (hn : cx.n = 38) (t : Tree) (p : List Cell) (n : Int) {fu : Nat} {stt : Unit} {tt : Unit} (hh : b0 (b_direct_Run_1 t p n) fu stt = some tt) {Z : Env} {O : Sto}
  (hE : bu (fun _u : Unit => [(1, .u (.one (dR0 p))), (3, vX 3), (23, vI n), (24, vI 0)]) (fun _u : Unit => [(3, .box [dI t.States, dR2 t.Hood, dR1 t.Nodes])]) stt Z O) : Swp Tryz.prog cx (.loop (bL [1, 1, 1, 0, 1, 0, 0] (bn Tryz.f65))) Z O (dS cx t p n tt) := by
 refine bv hE hh (dS cx t p n) ?_
 rintro _u r hm Z O hf
 simp only [Fits, ba, bc, and_true] at hf
 unfold b_direct_Run_1 at hm
 dsimp only at hm
 refine srs hn ?_
 simp -dsimp [hf]
 refine aU ?_
 rcases aZ hm with ⟨c5, hm⟩ | ⟨c5, hm⟩
 ·refine aS (by simp -dsimp) c5 ?_
  refine aT (aP (aU (aW ?_)))
  refine srs hn ?_
  cases hm
 ·refine aR (by simp -dsimp) c5 ?_
  refine b9 ?_
  refine aX ?_
  cases hm
  refine bd nofun ?_
  exact ⟨rfl, EE.here (by simp -dsimp [hf, c5])⟩
theorem c_direct_Run (t : Tree) (p : List Cell) (n : Int) (r : (List Cell) × Int) (hm : m_direct_Run t p n = some r) : PureCall Tryz.prog 65 [.u (.agg [dI t.States, dR2 t.Hood, dR1 t.Nodes]), .u (.one (dR0 p)), vI n] (.tup [.one (dR0 r.1), .one (dI r.2)]) := by
 refine bN Tryz.func65 Tryz.ntmps65 fun cx hn => ?_
 unfold m_direct_Run at hm
 refine srs hn ?_
 simp -dsimp
 refine aU ?_
 refine srs hn ?_
 obtain ⟨y, h1, hm⟩ := bnd hm
 simp -dsimp
 refine b7 (c_direct_check t p y h1) (dkL hn) ?_
 simp -dsimp
 refine srs hn ?_
 simp -dsimp
 rcases aZ hm with ⟨c2, hm⟩ | ⟨c2, hm⟩
 ·refine aS (by simp -dsimp) c2 ?_
  refine srs hn ?_
  simp -dsimp [c2]
  refine aV (aX ?_)
  cases hm
  refine ⟨.inr rfl, ?_⟩
  exact EE.here (by simp -dsimp)
 ·refine aR (by simp -dsimp) c2 ?_
  refine aT (aP (aU ?_))
  obtain ⟨a, j8, hm⟩ := bnd hm
  refine scE [(1, .u (.one (dR0 p))), (2, vI n), (3, vX 3), (22, vT a)] [(3, .box [dI t.States, dR2 t.Hood, dR1 t.Nodes])] ?_ fun Z O hf => ?_
  ·replace hm := j8
   clear j8
   refine sr1 hn ?_
   rcases aZ hm with ⟨c3, hm⟩ | ⟨c3, hm⟩
   ·simp -dsimp [c2, c3]
    cases hm
    exact EE.here (by simp -dsimp)
   ·simp -dsimp [c2, c3]
    cases hm
    exact EE.here (by simp -dsimp)
  ·clear j8
   simp only [Fits, ba, bc, and_true] at hf
   rcases aZ hm with ⟨c4, hm⟩ | ⟨c4, hm⟩
   ·refine aS (by simp -dsimp [hf]) c4 ?_
    refine srs hn ?_
    simp -dsimp
    refine aV (aX ?_)
    cases hm
    refine ⟨.inr rfl, ?_⟩
    exact EE.here (by simp -dsimp)
   ·refine aR (by simp -dsimp [hf]) c4 ?_
    refine aT (aP (aU ?_))
    refine srs hn ?_
    simp -dsimp [hf]
    refine aW ?_
    obtain ⟨_u, g6, hm⟩ := bnd hm
    refine bo (l_direct_Run_1 cx hn t p n g6) (by
      try dsimp only
      exact EE.here (by simp -dsimp [hf])
    ) fun ee Z O x7 => ?_
    unfold dS at x7
    dsimp only at x7
    obtain ⟨rfl, x7⟩ := x7
    refine b8 ?_
    refine aP ?_
    refine see x7 fun Z O hf => ?_
    simp only [Fits, ba, bc, and_true] at hf
    refine srs hn ?_
    simp -dsimp [hf]
    cases hm
    exact aV ⟨.inr rfl, EE.here (by simp -dsimp)⟩
def cC (cx : Cx) (_x : Av) (tt : Bool ⊕ Unit) (ee : Exit) (Z : Env) (O : Sto) : Prop := match tt with
 | .inl r => ee = .ret /\ EE cx (fun Z O => ∃ v, cX tb Z O Tryz.f105.results.toList = some v /\ (v.frz O).free = true /\ (v.frz O).wk (vT r)) Z O
 | .inr _u => ee = .exit 0 /\ EE cx (bp [] []) Z O
theorem l_problem_fits_1 (cx : Cx) (hn : cx.n = 39) (x : Av) {fu : Nat} {stt : Int × (List Bool)} {tt : Bool ⊕ Unit} (hh : b0 (b_problem_fits_1 x) fu stt = some tt) {Z : Env} {O : Sto}
  (hE : bu (fun stt : Int × (List Bool) => match stt with | (a, _seen) => [(1, vX 1), (3, vX 3), (7, .u (.one (dL x.Syms))), (8, vI (aY x.Syms)), (9, vI a)]) (fun stt : Int × (List Bool) => match stt with | (_a, seen) => [(1, .box [dI x.W, dI x.H, dI x.Gens, dI x.DX, dI x.DY, dL x.Syms]), (3, .box (List.map cB seen))]) stt Z O) : Swp Tryz.prog cx (.loop (bL [1, 1, 0, 1, 0, 0] (bn Tryz.f105))) Z O (cC cx x tt) := by
 refine bv hE hh (cC cx x) ?_
 rintro ⟨a, seen⟩ r hm Z O hf
 simp only [Fits, ba, bc, and_true] at hf
 unfold b_problem_fits_1 at hm
 dsimp only at hm
 refine srs hn ?_
 simp -dsimp [hf]
 refine aU ?_
 rcases aZ hm with ⟨c1, hm⟩ | ⟨c1, hm⟩
 ·refine aS (by simp -dsimp) c1 ?_
  refine aT (aP (aU (aW ?_)))
  refine srs hn ?_
  obtain ⟨x1, h2, hm⟩ := bnd hm
  simp -dsimp [hf, c1, h2]
  refine aU ?_
  obtain ⟨a1, j11, hm⟩ := bnd hm
  refine scE [(1, vX 1), (3, vX 3), (5, vI x1), (7, .u (.one (dL x.Syms))), (8, vI (aY x.Syms)), (9, vI a), (35, vT a1)] [(1, .box [dI x.W, dI x.H, dI x.Gens, dI x.DX, dI x.DY, dL x.Syms]), (3, .box (List.map cB seen))] ?_ fun Z O hf => ?_
  ·replace hm := j11
   clear j11
   refine sr1 hn ?_
   rcases aZ hm with ⟨c3, hm⟩ | ⟨c3, hm⟩
   ·simp -dsimp [c3]
    cases hm
    exact EE.here (by simp -dsimp [hf])
   ·rcases aZ hm with ⟨c4, hm⟩ | ⟨c4, hm⟩
    ·simp -dsimp [c3, c4]
     cases hm
     exact EE.here (by simp -dsimp [hf])
    ·obtain ⟨x2, h5, hm⟩ := bnd hm
     rcases aZ hm with ⟨c6, hm⟩ | ⟨c6, hm⟩
     ·simp -dsimp [hf, c3, c4, aidx_ok h5, aidx_get h5, c6]
      cases hm
      exact EE.here (by simp -dsimp [hf])
     ·obtain ⟨n, h7, hm⟩ := bnd hm
      rcases aZ hm with ⟨c8, hm⟩ | ⟨c8, hm⟩
      ·simp -dsimp [hf, c3, c4, aidx_ok h5, aidx_get h5, c6, h7, c8]
       cases hm
       exact EE.here (by simp -dsimp [hf])
      ·simp -dsimp [hf, c3, c4, aidx_ok h5, aidx_get h5, c6, h7, c8]
       cases hm
       exact EE.here (by simp -dsimp [hf])
  ·clear j11
   simp only [Fits, ba, bc, and_true] at hf
   rcases aZ hm with ⟨c9, hm⟩ | ⟨c9, hm⟩
   ·refine aS (by simp -dsimp [hf]) c9 ?_
    refine srs hn ?_
    simp -dsimp
    refine aV (aX (bz (aX ?_)))
    cases hm
    refine bd nofun ?_
    exact ⟨rfl, EE.here (by simp -dsimp [Tryz.results105])⟩
   ·refine aR (by simp -dsimp [hf]) c9 ?_
    refine aT (aP ?_)
    refine sr1 hn ?_
    obtain ⟨x2, h10, hm⟩ := bnd hm
    simp -dsimp [hf, aidx_ok h10, aidx_lt2 h10, asetB h10 true]
    refine bk ?_
    refine aP ?_
    refine sr1 hn ?_
    simp -dsimp [hf]
    cases hm
    refine bh ?_
    exact EE.here (by simp -dsimp [hf])
 ·refine aR (by simp -dsimp) c1 ?_
  refine b9 ?_
  refine aX ?_
  cases hm
  refine bd nofun ?_
  exact ⟨rfl, EE.here (by simp -dsimp [c1])⟩
theorem c_problem_fits (x : Av) (r : Bool) (hm : m_problem_fits x = some r) : PureCall Tryz.prog 105 [.u (.agg [dI x.W, dI x.H, dI x.Gens, dI x.DX, dI x.DY, dL x.Syms])] (vT r) := by
 refine bN Tryz.func105 Tryz.ntmps105 fun cx hn => ?_
 unfold m_problem_fits at hm
 refine srs hn ?_
 simp -dsimp
 refine srs hn ?_
 simp -dsimp
 refine aU ?_
 refine srs hn ?_
 simp -dsimp
 refine aW ?_
 obtain ⟨o_, g12, hm⟩ := bnd hm
 refine bo (l_problem_fits_1 cx hn x g12) (by
   try dsimp only
   exact eeh
 ) fun ee Z O x13 => ?_
 rcases o_ with r | _u
 ·unfold cC at x13
  dsimp only at x13
  obtain ⟨rfl, x13⟩ := x13
  refine bz (aX ?_)
  cases hm
  exact ⟨.inr rfl, x13⟩
 ·unfold cC at x13
  dsimp only at x13
  obtain ⟨rfl, x13⟩ := x13
  refine b8 ?_
  refine aP ?_
  refine see x13 fun Z O hf => ?_
  simp only [Fits, ba, bc, and_true] at hf
  refine srs hn ?_
  simp -dsimp
  cases hm
  exact aV ⟨.inr rfl, EE.here (by simp -dsimp)⟩
theorem c_problem_first (x : Av) (r : Int) (hm : m_problem_first x = some r) : PureCall Tryz.prog 66 [.u (.agg [dI x.W, dI x.H, dI x.Gens, dI x.DX, dI x.DY, dL x.Syms])] (vI r) := by
 refine bN Tryz.func66 Tryz.ntmps66 fun cx hn => ?_
 unfold m_problem_first at hm
 refine srs hn ?_
 simp -dsimp
 refine aU (aW ?_)
 refine srs hn ?_
 simp -dsimp
 rcases aZ hm with ⟨c1, hm⟩ | ⟨c1, hm⟩
 ·refine sct c1 ?_
  refine srs hn ?_
  simp -dsimp [c1]
  refine aV (bz (aX ?_))
  cases hm
  refine ⟨.inr rfl, ?_⟩
  exact EE.here (by simp -dsimp)
 ·refine scf c1 ?_
  obtain ⟨a, j11, hm⟩ := bnd hm
  refine scE [(1, vX 1), (10, vT a)] [(1, .box [dI x.W, dI x.H, dI x.Gens, dI x.DX, dI x.DY, dL x.Syms])] ?_ fun Z O hf => ?_
  ·replace hm := j11
   clear j11
   refine sr1 hn ?_
   rcases aZ hm with ⟨c2, hm⟩ | ⟨c2, hm⟩
   ·simp -dsimp [c1, c2]
    cases hm
    exact EE.here (by simp -dsimp)
   ·simp -dsimp [c1, c2]
    cases hm
    exact EE.here (by simp -dsimp)
  ·clear j11
   simp only [Fits, ba, bc, and_true] at hf
   rcases aZ hm with ⟨c3, hm⟩ | ⟨c3, hm⟩
   ·refine aS (by simp -dsimp [hf]) c3 ?_
    refine srs hn ?_
    simp -dsimp
    refine aV (bz (aX ?_))
    cases hm
    refine ⟨.inr rfl, ?_⟩
    exact EE.here (by simp -dsimp)
   ·refine aR (by simp -dsimp [hf]) c3 ?_
    obtain ⟨a1, j10, hm⟩ := bnd hm
    refine scE [(25, vT a1)] [] ?_ fun Z O hf => ?_
    ·replace hm := j10
     clear j10
     refine sr1 hn ?_
     rcases aZ hm with ⟨c4, hm⟩ | ⟨c4, hm⟩
     ·simp -dsimp [hf, c4]
      cases hm
      exact EE.here (by simp -dsimp)
     ·rcases aZ hm with ⟨c5, hm⟩ | ⟨c5, hm⟩
      ·simp -dsimp [hf, c4, c5]
       cases hm
       exact EE.here (by simp -dsimp)
      ·rcases aZ hm with ⟨c6, hm⟩ | ⟨c6, hm⟩
       ·simp -dsimp [hf, c4, c5, c6]
        cases hm
        exact EE.here (by simp -dsimp)
       ·rcases aZ hm with ⟨c7, hm⟩ | ⟨c7, hm⟩
        ·simp -dsimp [hf, c4, c5, c6, c7]
         cases hm
         exact EE.here (by simp -dsimp)
        ·obtain ⟨y, h8, hm⟩ := bnd hm
         simp -dsimp [hf, c4, c5, c6, c7]
         refine b7 (c_problem_fits x y h8) (dkL hn) ?_
         simp -dsimp
         cases hm
         exact EE.here (by simp -dsimp)
    ·clear j10
     simp only [Fits, ba, bc, and_true] at hf
     rcases aZ hm with ⟨c9, hm⟩ | ⟨c9, hm⟩
     ·refine aS (by simp -dsimp [hf]) c9 ?_
      refine srs hn ?_
      simp -dsimp
      refine aV (bz (aX ?_))
      cases hm
      refine ⟨.inr rfl, ?_⟩
      exact EE.here (by simp -dsimp)
     ·refine aR (by simp -dsimp [hf]) c9 ?_
      refine aT ?_
      refine bk ?_
      refine aP ?_
      refine srs hn ?_
      simp -dsimp
      cases hm
      exact aV ⟨.inr rfl, EE.here (by simp -dsimp)⟩
theorem eg (t : Tree) (x : Av) (r : Int) (hm : m_problem_Check t x = some r) : PureCall Tryz.prog 23 [.u (.agg [dI t.States, dR2 t.Hood, dR1 t.Nodes]), .u (.agg [dI x.W, dI x.H, dI x.Gens, dI x.DX, dI x.DY, dL x.Syms])] (vI r) := by
 refine bN Tryz.func23 Tryz.ntmps23 fun cx hn => ?_
 unfold m_problem_Check at hm
 refine srs hn ?_
 simp -dsimp
 refine aU ?_
 refine srs hn ?_
 obtain ⟨y, h1, hm⟩ := bnd hm
 simp -dsimp
 refine b7 ((c_direct_Run t [] 0 y h1).wk (by simp [V.wkl])) (dkL hn) ?_
 simp -dsimp
 refine srs hn ?_
 simp -dsimp
 rcases aZ hm with ⟨c2, hm⟩ | ⟨c2, hm⟩
 ·refine aS (by simp -dsimp) c2 ?_
  refine srs hn ?_
  simp -dsimp [c2]
  refine aV (aX ?_)
  cases hm
  refine ⟨.inr rfl, ?_⟩
  exact EE.here (by simp -dsimp)
 ·refine aR (by simp -dsimp) c2 ?_
  refine aT (aP ?_)
  refine srs hn ?_
  obtain ⟨y1, h3, hm⟩ := bnd hm
  simp -dsimp [c2]
  refine b7 (c_problem_first x y1 h3) (dkL hn) ?_
  simp -dsimp
  cases hm
  exact aV ⟨.inr rfl, EE.here (by simp -dsimp)⟩
theorem cw (l r : List Int) (hm : m_slices_Clone_int_int l = some r) : NewFn Tryz.prog 109 [.u (.one (dL l))] (fun o => o = .row 1 3 (List.map (rI .i64) r)) := by
 refine new_S bm _ Tryz.func109 rfl (by kernel_rfl) (by simp [Tryz.ntmps109]) fun cx hn => ?_
 replace hn : cx.n = 8 := hn.trans Tryz.ntmps109
 have ha := (bj hm).1
 have hr : r = l := (bj hm).2
 clear hm
 subst hr
 simp only [List.length_nil, Nat.zero_add] at ha
 refine srs hn ?_
 simp -dsimp
 refine aU ?_
 refine srs hn ?_
 cases r with
 | nil =>
  simp -dsimp
  refine ⟨?_, ?_⟩
  ·refine aS (b := true) (by simp -dsimp) rfl ?_
   refine srs hn ?_
   simp -dsimp
   refine aV (aX ?_)
   refine ⟨.inr rfl, ?_⟩; simp -dsimp
  ·refine aR (b := false) (by simp -dsimp) rfl ?_
   refine aT (aP ?_)
   refine srs hn ?_
   simp -dsimp
   refine aV ?_
   refine ⟨.inr rfl, ?_⟩; simp -dsimp
 | cons x xs =>
  simp -dsimp
  refine aR (b := false) (by simp -dsimp) rfl ?_
  refine aT (aP ?_)
  refine srs hn ?_
  simp only [List.length_cons] at ha
  simp -dsimp [ha]
  refine aV ?_
  refine ⟨.inr rfl, ?_⟩; simp -dsimp
theorem c_reduce_Reduce_1 (x : Int) (next r : List Int) (hm : m_reduce_Reduce_1 x next = some r) : PureCall Tryz.prog 107 [vI x, .u (.one (dL next))] (.u (.one (dL r))) := by
 refine bN Tryz.func107 Tryz.ntmps107 fun cx hn => ?_
 unfold m_reduce_Reduce_1 at hm
 refine srs hn ?_
 simp -dsimp
 refine srs hn ?_
 simp -dsimp
 cases hm
 exact aV ⟨.inr rfl, EE.here (by simp -dsimp)⟩
theorem cN (l : List Int) (n base : Int) (r : List Int) (hm : m_internal_strconv_AppendUint_o l n base = some r) : GFn Tryz.prog 163 [vO 1000000, .u (.one (.d (.int .u64 n))), vI base] [.row 1 5 (List.map (rI .u8) l)] (vO 1000001) [none, some (.row 1 5 (List.map (rI .u8) r))] := appU_g bR rfl tf5 rfl rfl rfl rfl ⟨_, Tryz.func163, by decide, by kernel_rfl⟩ hm
theorem e8 (i base : Int) (r : List Int) (hm : m_internal_strconv_AppendInt_N i base = some r) : GFn Tryz.prog 151 [.u (.one (.d .nil)), vI i, vI base] [] (vO 1000000) [some (.row 1 5 (List.map (rI .u8) r))] := by
 refine bD bm _ Tryz.func151 rfl (by kernel_rfl) (by simp [Tryz.ntmps151]) (by simp) (by first | rfl | simp) (by first | rfl | simp) fun cx hn hk => ?_
 replace hn : cx.n = 21 := hn.trans Tryz.ntmps151
 replace hk : cx.k = 0 := hk
 unfold m_internal_strconv_AppendInt_N at hm
 refine srs hn ?_
 simp -dsimp
 refine srs hn ?_
 simp -dsimp
 obtain ⟨⟨u, dst⟩, j4, hm⟩ := bnd hm
 refine scE [(0, vO 5000), (2, vI base), (7, .u (.one (.d (.int .u64 u))))] [(5000, .row 1 5 (List.map (rI .u8) dst))] ?_ fun Z O hf => ?_
 ·replace hm := j4
  clear j4
  refine srs hn ?_
  simp -dsimp
  rcases aZ hm with ⟨c1, hm⟩ | ⟨c1, hm⟩
  ·refine sct c1 ?_
   refine srs hn ?_
   obtain ⟨l, h2, hm⟩ := bnd hm
   obtain ⟨h2a, h2e⟩ := bj h2
   replace h2e := h2e.symm
   subst h2e
   try simp only [List.length_cons, List.length_nil, Nat.zero_add] at h2a
   try simp only [Nat.mul_one, Nat.reduceLeDiff] at h2a
   simp -dsimp [c1]
   refine sr1 hn ?_
   simp -dsimp
   refine aP ?_
   cases hm
   refine emv 14 5000 ?_
   exact EE.here (by simp -dsimp)
  ·refine scf c1 ?_
   refine aT (aP ?_)
   cases hm
   refine EE.step (Wk.own0 0 5000 1 5 (by simp -dsimp [c1]) (by decide)) ?_
   exact EE.here (by simp -dsimp [c1])
 ·clear j4
  simp only [Fits, ba, bc, and_true] at hf
  refine srs hn ?_
  obtain ⟨y, h3, hm⟩ := bnd hm
  simp -dsimp [hf]
  refine clg (cN dst u base y h3) [5000] [5001] (by simp -dsimp [hf]) (dkL hn) ?_
  simp -dsimp
  refine aV ?_
  cases hm
  refine ⟨.inr rfl, ?_⟩
  refine emr 5001 1000000 hk ?_
  exact EE.here (by simp -dsimp)
theorem g_strconv_AppendInt_N (i base : Int) (r : List Int) (hm : m_strconv_AppendInt_N i base = some r) : GFn Tryz.prog 143 [.u (.one (.d .nil)), vI i, vI base] [] (vO 1000000) [some (.row 1 5 (List.map (rI .u8) r))] := by
 refine bD bm _ Tryz.func143 rfl (by kernel_rfl) (by simp [Tryz.ntmps143]) (by simp) (by first | rfl | simp) (by first | rfl | simp) fun cx hn hk => ?_
 replace hn : cx.n = 11 := hn.trans Tryz.ntmps143
 replace hk : cx.k = 0 := hk
 unfold m_strconv_AppendInt_N at hm
 refine srs hn ?_
 simp -dsimp
 refine srs hn ?_
 obtain ⟨y, h1, hm⟩ := bnd hm
 simp -dsimp
 refine clg (e8 i base y h1) [] [5000] (by simp -dsimp) (dkL hn) ?_
 simp -dsimp
 refine aV ?_
 cases hm
 refine ⟨.inr rfl, ?_⟩
 refine emr 5000 1000000 hk ?_
 exact EE.here (by simp -dsimp)
theorem e6 (dst : List Int) (i base : Int) (r : List Int) (hm : m_internal_strconv_AppendInt_o dst i base = some r) : GFn Tryz.prog 151 [vO 1000000, vI i, vI base] [.row 1 5 (List.map (rI .u8) dst)] (vO 1000001) [none, some (.row 1 5 (List.map (rI .u8) r))] := by
 refine bD bm _ Tryz.func151 rfl (by kernel_rfl) (by simp [Tryz.ntmps151]) (by simp) (by first | rfl | simp) (by first | rfl | simp) fun cx hn hk => ?_
 replace hn : cx.n = 21 := hn.trans Tryz.ntmps151
 replace hk : cx.k = 1 := hk
 unfold m_internal_strconv_AppendInt_o at hm
 refine srs hn ?_
 simp -dsimp
 refine srs hn ?_
 simp -dsimp
 obtain ⟨⟨u, dst1⟩, j4, hm⟩ := bnd hm
 refine scE [(0, vO 5000), (2, vI base), (7, .u (.one (.d (.int .u64 u))))] [(5000, .row 1 5 (List.map (rI .u8) dst1))] ?_ fun Z O hf => ?_
 ·replace hm := j4
  clear j4
  refine srs hn ?_
  simp -dsimp
  rcases aZ hm with ⟨c1, hm⟩ | ⟨c1, hm⟩
  ·refine sct c1 ?_
   refine srs hn ?_
   obtain ⟨l, h2, hm⟩ := bnd hm
   obtain ⟨h2a, h2e⟩ := bj h2
   replace h2e := h2e.symm
   subst h2e
   try simp only [List.length_cons, List.length_nil, Nat.zero_add] at h2a
   try simp only [Nat.mul_one, Nat.reduceLeDiff] at h2a
   simp -dsimp [c1, h2a]
   refine sr1 hn ?_
   simp -dsimp
   refine aP ?_
   cases hm
   refine emv 14 5000 ?_
   exact EE.here (by simp -dsimp)
  ·refine scf c1 ?_
   refine aT (aP ?_)
   cases hm
   refine emv 1000000 5000 ?_
   exact EE.here (by simp -dsimp [c1])
 ·clear j4
  simp only [Fits, ba, bc, and_true] at hf
  refine srs hn ?_
  obtain ⟨y, h3, hm⟩ := bnd hm
  simp -dsimp [hf]
  refine clg (cN dst1 u base y h3) [5000] [5001] (by simp -dsimp [hf]) (dkL hn) ?_
  simp -dsimp
  refine aV ?_
  cases hm
  refine ⟨.inr rfl, ?_⟩
  refine emr 5001 1000001 hk ?_
  exact EE.here (by simp -dsimp)
theorem g_strconv_AppendInt_o (dst : List Int) (i base : Int) (r : List Int) (hm : m_strconv_AppendInt_o dst i base = some r) : GFn Tryz.prog 143 [vO 1000000, vI i, vI base] [.row 1 5 (List.map (rI .u8) dst)] (vO 1000001) [none, some (.row 1 5 (List.map (rI .u8) r))] := by
 refine bD bm _ Tryz.func143 rfl (by kernel_rfl) (by simp [Tryz.ntmps143]) (by simp) (by first | rfl | simp) (by first | rfl | simp) fun cx hn hk => ?_
 replace hn : cx.n = 11 := hn.trans Tryz.ntmps143
 replace hk : cx.k = 1 := hk
 unfold m_strconv_AppendInt_o at hm
 refine srs hn ?_
 simp -dsimp
 refine srs hn ?_
 obtain ⟨y, h1, hm⟩ := bnd hm
 simp -dsimp
 refine clg (e6 dst i base y h1) [1000000] [5000] (by simp -dsimp) (dkL hn) ?_
 simp -dsimp
 refine aV ?_
 cases hm
 refine ⟨.inr rfl, ?_⟩
 refine emr 5000 1000001 hk ?_
 exact EE.here (by simp -dsimp)
def cb (cx : Cx) (aC : List Node) (au : List (List UInt8 × Int)) (level : Int) (next : List Int) (tt : (List Int)) (ee : Exit) (Z : Env) (O : Sto) : Prop := match tt with
 | keyv => ee = .exit 0 /\ EE cx (bp [(0, vX 1000000), (1, vI level), (2, .u (.one (dL next))), (7, vO 5002)] [(5002, .row 1 5 (List.map (rI .u8) keyv)), (1000000, .box [.own 1000001, .map 1000002]), (1000001, .row 2 60 (List.map Node.row aC)), (1000002, mOb .str kS (uL (L.int .i64)) au)]) Z O
theorem eN (cx : Cx) (hn : cx.n = 68) (_hk : cx.k = 3) (aC : List Node) (au : List (List UInt8 × Int)) (level : Int) (next : List Int) {fu : Nat} {stt : Int × (List Int)} {tt : (List Int)} (hh : b0 (b_reduce_builder_node_o_1 aC au level next) fu stt = some tt) {Z : Env} {O : Sto}
  (hE : bu (fun stt : Int × (List Int) => match stt with | (a, _keyv) => [(0, vX 1000000), (1, vI level), (2, .u (.one (dL next))), (7, vO 5002), (14, .u (.one (dL next))), (15, vI (aY next)), (16, vI a)]) (fun stt : Int × (List Int) => match stt with | (_a, keyv) => [(5002, .row 1 5 (List.map (rI .u8) keyv)), (1000000, .box [.own 1000001, .map 1000002]), (1000001, .row 2 60 (List.map Node.row aC)), (1000002, mOb .str kS (uL (L.int .i64)) au)]) stt Z O) : Swp Tryz.prog cx (.loop (bL [1, 1, 0, 1, 0, 0] (bn Tryz.f129))) Z O (cb cx aC au level next tt) := by
 refine bv hE hh (cb cx aC au level next) ?_
 rintro ⟨a, keyv⟩ r hm Z O hf
 simp only [Fits, ba, bc, and_true] at hf
 unfold b_reduce_builder_node_o_1 at hm
 dsimp only at hm
 refine srs hn ?_
 simp -dsimp [hf]
 refine aU ?_
 rcases aZ hm with ⟨c2, hm⟩ | ⟨c2, hm⟩
 ·refine aS (by simp -dsimp) c2 ?_
  refine aT (aP (aU (aW ?_)))
  refine srs hn ?_
  obtain ⟨x, h3, hm⟩ := bnd hm
  simp -dsimp [hf, c2, h3]
  refine sr1 hn ?_
  obtain ⟨l, h4, hm⟩ := bnd hm
  obtain ⟨h4a, h4e⟩ := bj h4
  replace h4e := h4e.symm
  subst h4e
  try simp only [List.length_cons, List.length_nil, Nat.zero_add] at h4a
  try simp only [Nat.mul_one, Nat.reduceLeDiff] at h4a
  obtain ⟨y1, h5, hm⟩ := bnd hm
  simp -dsimp [hf, h4a]
  refine clg (g_strconv_AppendInt_o (keyv ++ [32]) x 10 y1 h5) [22] [5001] (by simp -dsimp) (dkL hn) ?_
  simp -dsimp
  refine bk ?_
  refine aP ?_
  refine sr1 hn ?_
  simp -dsimp [hf]
  cases hm
  refine bh ?_
  refine emv 5001 5002 ?_
  exact EE.here (by simp -dsimp [hf])
 ·refine aR (by simp -dsimp) c2 ?_
  refine b9 ?_
  refine aX ?_
  cases hm
  refine bd nofun ?_
  exact ⟨rfl, EE.here (by simp -dsimp [hf, c2])⟩
theorem f5 (aC : List Node) (au : List (List UInt8 × Int)) (level : Int) (next : List Int) (r : Int × (List (List UInt8 × Int)) × (List Node)) (hm : m_reduce_builder_node_o aC au level next = some r) : GFn Tryz.prog 129 [vX 1000000, vI level, .u (.one (dL next))] [.box [.own 1000001, .map 1000002], .row 2 60 (List.map Node.row aC), mOb .str kS (uL (L.int .i64)) au] (vI r.1) [some (.box [.own 1000003, .map 1000002]), none, some (mOb .str kS (uL (L.int .i64)) r.2.1), some (.row 2 60 (List.map Node.row r.2.2))] := by
 refine bD bm _ Tryz.func129 rfl (by kernel_rfl) (by simp [Tryz.ntmps129]) (by simp) (by first | rfl | simp) (by first | rfl | simp) fun cx hn hk => ?_
 replace hn : cx.n = 68 := hn.trans Tryz.ntmps129
 replace hk : cx.k = 3 := hk
 unfold m_reduce_builder_node_o at hm
 refine srs hn ?_
 simp -dsimp
 refine srs hn ?_
 obtain ⟨y, h1, hm⟩ := bnd hm
 simp -dsimp
 refine clg (g_strconv_AppendInt_N level 10 y h1) [] [5000] (by simp -dsimp) (dkL hn) ?_
 simp -dsimp
 refine aU ?_
 refine srs hn ?_
 simp -dsimp
 refine aW ?_
 obtain ⟨keyv, g6, hm⟩ := bnd hm
 refine bo (eN cx hn hk aC au level next g6) (by
   try dsimp only
   refine emv 5000 5002 ?_
   exact EE.here (by simp -dsimp)
 ) fun ee Z O x7 => ?_
 unfold cb at x7
 dsimp only at x7
 obtain ⟨rfl, x7⟩ := x7
 refine b8 ?_
 refine aP ?_
 refine see x7 fun Z O hf => ?_
 simp only [Fits, ba, bc, and_true] at hf
 refine aU ?_
 refine cy bm mixed (by rw [hn]; kernel_rfl) ?_
 obtain ⟨u, h8, hm⟩ := bnd hm
 simp -dsimp [hf, kckS_len h8, (@id (lkM (fD (mOb .str kS (uL (L.int .i64)) au) (.str (ofBytes keyv))) true (.one (dI 0)) = some (.tup [.one (dI (mgetD au (ofBytes keyv) 0)), .one (.d (.bool (fb au (ofBytes keyv))))])) (lk_two (ofBytes keyv) 0))]
 refine srs hn ?_
 simp -dsimp
 rcases aZ hm with ⟨c9, hm⟩ | ⟨c9, hm⟩
 ·refine aS (b := (fb au (ofBytes keyv))) (by simp -dsimp) c9 ?_
  refine srs hn ?_
  simp -dsimp [c9]
  refine aV (aX ?_)
  cases hm
  refine ⟨.inr rfl, ?_⟩
  refine emr 1000001 1000003 hk ?_
  exact EE.here (by simp -dsimp [hf])
 ·refine aR (b := (fb au (ofBytes keyv))) (by simp -dsimp) c9 ?_
  refine aT (aP ?_)
  refine srs hn ?_
  obtain ⟨l, h10, hm⟩ := bnd hm
  obtain ⟨h10a, h10e⟩ := bj h10
  replace h10e := h10e.symm
  subst h10e
  try simp only [List.length_cons, List.length_nil, Nat.zero_add] at h10a
  simp -dsimp [hf, c9, h10a]
  refine sw_drNs bm mixed 12 (by rw [hn]; kernel_rfl) ?_
  dsimp only [List.take, List.drop]
  simp -dsimp [hf, kckS_len h8, (@id (msetOb (mOb .str kS (uL (L.int .i64)) au) (.str (ofBytes keyv)) (.one (dI (bF .i64 ((aY aC) + 1) 1))) = mOb .str kS (uL (L.int .i64)) (msetL au (ofBytes keyv) (bF .i64 ((aY aC) + 1) 1))) (mset_ob .str kS (uL (L.int .i64)) au (ofBytes keyv) (bF .i64 ((aY aC) + 1) 1)))]
  refine srs hn ?_
  simp -dsimp [hf]
  refine aV ?_
  cases hm
  refine ⟨.inr rfl, ?_⟩
  refine emr 47 1000003 hk ?_
  exact EE.here (by simp -dsimp)
theorem dE (l r : List Point) (hm : m_slices_Clone_api_Point_api_Point l = some r) : PFn Tryz.prog 130 [.u (.one (dR2 l))] (fun v => v.wk (.u (.one (dR2 r)))) := by
 refine pfn_E bm _ Tryz.func130 rfl (by kernel_rfl) (by simp [Tryz.ntmps130]) fun cx hn => ?_
 replace hn : cx.n = 8 := hn.trans Tryz.ntmps130
 have ha := (bj hm).1
 have hr : r = l := (bj hm).2
 clear hm
 subst hr
 simp only [List.length_nil, Nat.zero_add] at ha
 refine srs hn ?_
 simp -dsimp
 refine aU ?_
 refine srs hn ?_
 cases r with
 | nil =>
  simp -dsimp
  refine ⟨?_, ?_⟩
  ·refine aS (b := true) (by simp -dsimp) rfl ?_
   refine srs hn ?_
   simp -dsimp
   refine aV (aX ?_)
   refine ⟨.inr rfl, EE.here ?_⟩; simp -dsimp
  ·refine aR (b := false) (by simp -dsimp) rfl ?_
   refine aT (aP ?_)
   refine srs hn ?_
   simp -dsimp
   refine aV ?_
   refine ⟨.inr rfl, EE.here ?_⟩; simp -dsimp
 | cons x xs =>
  simp -dsimp
  refine aR (b := false) (by simp -dsimp) rfl ?_
  refine aT (aP ?_)
  refine srs hn ?_
  simp only [List.length_cons] at ha
  simp -dsimp [ha]
  refine aV ?_
  refine ⟨.inr rfl, EE.here ?_⟩; simp -dsimp
theorem dF (l r : List Point) (hm : m_slices_Clone_api_Point_api_Point l = some r) : PureCall Tryz.prog 130 [.u (.one (dR2 l))] (.u (.one (dR2 r))) := (dE l r hm).pureW
end Go.Proofs.YtjfjmdmdkbpdfaaGreatDoor
