/- That the code does what the functions say (made by cc.py). -/
import Derived.Test.YtjfjmdmdkbpdfaaGreatDoorMdx1
import Derived.Test.YtjfjmdmdkbpdfaaGreatDoorTb
namespace Go.Proofs.YtjfjmdmdkbpdfaaGreatDoor
open Go.AM Go.Proofs
set_option maxRecDepth 100000
attribute [-simp] qlookup ct d7 Ob.wipe Ob.ren Ob.frz1
def d6 (cx : Cx) (_t : Tree) (x : Av) (tt : Bool ⊕ Unit) (ee : Exit) (Z : Env) (O : Sto) : Prop := match tt with
 | .inl r => ee = .ret /\ EE cx (fun Z O => ∃ v, cX tb Z O Tryz.f7.results.toList = some v /\ (v.frz O).free = true /\ (v.frz O).wk (vT r)) Z O
 | .inr _u => ee = .exit 0 /\ EE cx (bp [(3, vX 3)] [(3, .box [dI x.W, dI x.H, dI x.Gens, dI x.DX, dI x.DY, dL x.Syms])]) Z O
theorem l_L45_Small_1 (cx : Cx) (hn : cx.n = 81) (t : Tree) (x : Av) {fu : Nat} {stt : Int} {tt : Bool ⊕ Unit} (hh : b0 (b_L45_Small_1 t x) fu stt = some tt) {Z : Env} {O : Sto}
  (hE : bu (fun a1 : Int => [(2, vX 2), (3, vX 3), (34, vI (aY t.Nodes)), (35, vI a1)]) (fun _a1 : Int => [(2, .box [dI t.States, dR2 t.Hood, dR1 t.Nodes]), (3, .box [dI x.W, dI x.H, dI x.Gens, dI x.DX, dI x.DY, dL x.Syms])]) stt Z O) : Swp Tryz.prog cx (.loop (bL [1, 1, 0, 1, 0, 0] (bn Tryz.f7))) Z O (d6 cx t x tt) := by
 refine bv hE hh (d6 cx t x) ?_
 rintro a1 r hm Z O hf
 simp only [Fits, ba, bc, and_true] at hf
 unfold b_L45_Small_1 at hm
 dsimp only at hm
 refine srs hn ?_
 simp -dsimp [hf]
 refine aU ?_
 rcases aZ hm with ⟨c6, hm⟩ | ⟨c6, hm⟩
 ·refine aS (by simp -dsimp) c6 ?_
  refine aT (aP (aU (aW ?_)))
  refine srs hn ?_
  simp -dsimp [hf, c6]
  refine srs hn ?_
  obtain ⟨x1, h7, hm⟩ := bnd hm
  simp -dsimp [hf, h7]
  rcases aZ hm with ⟨c8, hm⟩ | ⟨c8, hm⟩
  ·refine aS (by simp -dsimp) c8 ?_
   refine srs hn ?_
   simp -dsimp [c8]
   refine aV (bz (aX ?_))
   cases hm
   refine bd nofun ?_
   exact ⟨rfl, EE.here (by simp -dsimp [Tryz.results7])⟩
  ·refine aR (by simp -dsimp) c8 ?_
   refine aT ?_
   refine bk ?_
   refine aP ?_
   refine sr1 hn ?_
   simp -dsimp [hf, c8]
   cases hm
   refine bh ?_
   exact EE.here (by simp -dsimp [hf])
 ·refine aR (by simp -dsimp) c6 ?_
  refine b9 ?_
  refine aX ?_
  cases hm
  refine bd nofun ?_
  exact ⟨rfl, EE.here (by simp -dsimp [hf, c6])⟩
theorem c_L45_Small (t : Tree) (x : Av) (r : Bool) (hm : m_L45_Small t x = some r) : PureCall Tryz.prog 7 [.u (.agg [dI t.States, dR2 t.Hood, dR1 t.Nodes]), .u (.agg [dI x.W, dI x.H, dI x.Gens, dI x.DX, dI x.DY, dL x.Syms])] (vT r) := by
 refine bN Tryz.func7 Tryz.ntmps7 fun cx hn => ?_
 unfold m_L45_Small at hm
 refine srs hn ?_
 simp -dsimp
 refine aU ?_
 obtain ⟨a, j17, hm⟩ := bnd hm
 refine scE [(2, vX 2), (3, vX 3), (31, vT a)] [(2, .box [dI t.States, dR2 t.Hood, dR1 t.Nodes]), (3, .box [dI x.W, dI x.H, dI x.Gens, dI x.DX, dI x.DY, dL x.Syms])] ?_ fun Z O hf => ?_
 ·replace hm := j17
  clear j17
  refine sr1 hn ?_
  rcases aZ hm with ⟨c1, hm⟩ | ⟨c1, hm⟩
  ·simp -dsimp [c1]
   cases hm
   exact EE.here (by simp -dsimp)
  ·rcases aZ hm with ⟨c2, hm⟩ | ⟨c2, hm⟩
   ·simp -dsimp [c1, c2]
    cases hm
    exact EE.here (by simp -dsimp)
   ·rcases aZ hm with ⟨c3, hm⟩ | ⟨c3, hm⟩
    ·simp -dsimp [c1, c2, c3]
     cases hm
     exact EE.here (by simp -dsimp)
    ·rcases aZ hm with ⟨c4, hm⟩ | ⟨c4, hm⟩
     ·simp -dsimp [c1, c2, c3, c4]
      cases hm
      exact EE.here (by simp -dsimp)
     ·simp -dsimp [c1, c2, c3, c4]
      cases hm
      exact EE.here (by simp -dsimp)
 ·clear j17
  simp only [Fits, ba, bc, and_true] at hf
  rcases aZ hm with ⟨c5, hm⟩ | ⟨c5, hm⟩
  ·refine aS (by simp -dsimp [hf]) c5 ?_
   refine srs hn ?_
   simp -dsimp
   refine aV (aX ?_)
   cases hm
   refine ⟨.inr rfl, ?_⟩
   exact EE.here (by simp -dsimp)
  ·refine aR (by simp -dsimp [hf]) c5 ?_
   refine aT (aP (aU ?_))
   refine srs hn ?_
   simp -dsimp [hf]
   refine aW ?_
   obtain ⟨o_, g9, hm⟩ := bnd hm
   refine bo (l_L45_Small_1 cx hn t x g9) (by
     try dsimp only
     exact EE.here (by simp -dsimp [hf])
   ) fun ee Z O x10 => ?_
   rcases o_ with r | _u
   ·unfold d6 at x10
    dsimp only at x10
    obtain ⟨rfl, x10⟩ := x10
    refine bz (aX ?_)
    cases hm
    exact ⟨.inr rfl, x10⟩
   ·unfold d6 at x10
    dsimp only at x10
    obtain ⟨rfl, x10⟩ := x10
    refine b8 ?_
    refine aP ?_
    refine see x10 fun Z O hf => ?_
    simp only [Fits, ba, bc, and_true] at hf
    obtain ⟨a1, j16, hm⟩ := bnd hm
    refine scE [(4, vT a1)] [] ?_ fun Z O hf => ?_
    ·replace hm := j16
     clear j16
     refine sr1 hn ?_
     rcases aZ hm with ⟨c11, hm⟩ | ⟨c11, hm⟩
     ·simp -dsimp [hf, c11]
      cases hm
      exact EE.here (by simp -dsimp)
     ·rcases aZ hm with ⟨c12, hm⟩ | ⟨c12, hm⟩
      ·simp -dsimp [hf, c11, c12]
       cases hm
       exact EE.here (by simp -dsimp)
      ·rcases aZ hm with ⟨c13, hm⟩ | ⟨c13, hm⟩
       ·simp -dsimp [hf, c11, c12, c13]
        cases hm
        exact EE.here (by simp -dsimp)
       ·rcases aZ hm with ⟨c14, hm⟩ | ⟨c14, hm⟩
        ·simp -dsimp [hf, c11, c12, c13, c14]
         cases hm
         exact EE.here (by simp -dsimp)
        ·rcases aZ hm with ⟨c15, hm⟩ | ⟨c15, hm⟩
         ·simp -dsimp [hf, c11, c12, c13, c14, c15]
          cases hm
          exact EE.here (by simp -dsimp)
         ·simp -dsimp [hf, c11, c12, c13, c14, c15]
          cases hm
          exact EE.here (by simp -dsimp)
    ·clear j16
     simp only [Fits, ba, bc, and_true] at hf
     cases hm
     exact aV ⟨.inr rfl, EE.here (by simp -dsimp [hf])⟩
theorem ey (r : Tree) (hm : m_L45_keep = some r) : PureCall Tryz.prog 20 [] (.u (.agg [dI r.States, dR2 r.Hood, dR1 r.Nodes])) := by
 refine bN Tryz.func20 Tryz.ntmps20 fun cx hn => ?_
 unfold m_L45_keep at hm
 refine srs hn ?_
 simp -dsimp
 refine srs hn ?_
 simp -dsimp
 cases hm
 exact aV ⟨.inr rfl, EE.here (by simp -dsimp)⟩
theorem c_cmp_isNaN_int (x : Int) (r : Bool) (hm : m_cmp_isNaN_int x = some r) : PureCall Tryz.prog 145 [vI x] (vT r) := by
 refine bN Tryz.func145 Tryz.ntmps145 fun cx hn => ?_
 unfold m_cmp_isNaN_int at hm
 refine srs hn ?_
 simp -dsimp
 refine srs hn ?_
 simp -dsimp
 cases hm
 exact aV ⟨.inr rfl, EE.here (by simp -dsimp)⟩
theorem eS (x y r : Int) (hm : m_cmp_Compare_int x y = some r) : PureCall Tryz.prog 133 [vI x, vI y] (vI r) := by
 refine bN Tryz.func133 Tryz.ntmps133 fun cx hn => ?_
 unfold m_cmp_Compare_int at hm
 refine srs hn ?_
 simp -dsimp
 refine srs hn ?_
 obtain ⟨y1, h1, hm⟩ := bnd hm
 simp -dsimp
 refine b7 (c_cmp_isNaN_int x y1 h1) (dkL hn) ?_
 simp -dsimp
 refine srs hn ?_
 obtain ⟨y2, h2, hm⟩ := bnd hm
 simp -dsimp
 refine b7 (c_cmp_isNaN_int y y2 h2) (dkL hn) ?_
 simp -dsimp
 refine aU ?_
 refine srs hn ?_
 simp -dsimp
 rcases aZ hm with ⟨c3, hm⟩ | ⟨c3, hm⟩
 ·refine aS (by simp -dsimp) c3 ?_
  refine aU ?_
  refine srs hn ?_
  simp -dsimp [c3]
  rcases aZ hm with ⟨c4, hm⟩ | ⟨c4, hm⟩
  ·refine aS (by simp -dsimp) c4 ?_
   refine srs hn ?_
   simp -dsimp [c4]
   refine aV (aX (aX ?_))
   cases hm
   refine ⟨.inr rfl, ?_⟩
   exact EE.here (by simp -dsimp)
  ·refine aR (by simp -dsimp) c4 ?_
   refine aT (aP ?_)
   refine srs hn ?_
   simp -dsimp [c4]
   refine aV (aX ?_)
   cases hm
   refine ⟨.inr rfl, ?_⟩
   exact EE.here (by simp -dsimp)
 ·refine aR (by simp -dsimp) c3 ?_
  refine aT (aP (aU ?_))
  refine srs hn ?_
  simp -dsimp [c3]
  rcases aZ hm with ⟨c5, hm⟩ | ⟨c5, hm⟩
  ·refine aS (by simp -dsimp) c5 ?_
   refine srs hn ?_
   simp -dsimp [c5]
   refine aV (aX ?_)
   cases hm
   refine ⟨.inr rfl, ?_⟩
   exact EE.here (by simp -dsimp)
  ·refine aR (by simp -dsimp) c5 ?_
   refine aT (aP (aU ?_))
   refine srs hn ?_
   simp -dsimp [c5]
   rcases aZ hm with ⟨c6, hm⟩ | ⟨c6, hm⟩
   ·refine aS (by simp -dsimp) c6 ?_
    refine srs hn ?_
    simp -dsimp [c6]
    refine aV (aX ?_)
    cases hm
    refine ⟨.inr rfl, ?_⟩
    exact EE.here (by simp -dsimp)
   ·refine aR (by simp -dsimp) c6 ?_
    refine aT (aP (aU ?_))
    refine srs hn ?_
    simp -dsimp [c6]
    rcases aZ hm with ⟨c7, hm⟩ | ⟨c7, hm⟩
    ·refine aS (by simp -dsimp) c7 ?_
     refine srs hn ?_
     simp -dsimp [c7]
     refine aV (aX ?_)
     cases hm
     refine ⟨.inr rfl, ?_⟩
     exact EE.here (by simp -dsimp)
    ·refine aR (by simp -dsimp) c7 ?_
     refine aT (aP ?_)
     refine srs hn ?_
     simp -dsimp [c7]
     cases hm
     exact aV ⟨.inr rfl, EE.here (by simp -dsimp)⟩
def cQ (cx : Cx) (_vals : List Int) (tt : Int ⊕ Unit) (ee : Exit) (Z : Env) (O : Sto) : Prop := match tt with
 | .inl r => ee = .ret /\ EE cx (fun Z O => ∃ v, cX tb Z O Tryz.f132.results.toList = some v /\ (v.frz O).free = true /\ (v.frz O).wk (vI r)) Z O
 | .inr _u => ee = .exit 0 /\ EE cx (bp [(3, vI 0)] []) Z O
theorem l_cmp_Or_int_1 (cx : Cx) (hn : cx.n = 18) (vals : List Int) {fu : Nat} {stt : Int} {tt : Int ⊕ Unit} (hh : b0 (b_cmp_Or_int_1 vals) fu stt = some tt) {Z : Env} {O : Sto}
  (hE : bu (fun a : Int => [(3, vI 0), (6, .u (.one (dL vals))), (7, vI (aY vals)), (8, vI a)]) (fun _a : Int => []) stt Z O) : Swp Tryz.prog cx (.loop (bL [1, 1, 0, 1, 0, 0] (bn Tryz.f132))) Z O (cQ cx vals tt) := by
 refine bv hE hh (cQ cx vals) ?_
 rintro a r hm Z O hf
 simp only [Fits, ba, bc, and_true] at hf
 unfold b_cmp_Or_int_1 at hm
 dsimp only at hm
 refine srs hn ?_
 simp -dsimp [hf]
 refine aU ?_
 rcases aZ hm with ⟨c1, hm⟩ | ⟨c1, hm⟩
 ·refine aS (by simp -dsimp) c1 ?_
  refine aT (aP (aU (aW ?_)))
  refine srs hn ?_
  obtain ⟨x, h2, hm⟩ := bnd hm
  simp -dsimp [hf, c1, h2]
  refine srs hn ?_
  simp -dsimp [hf]
  rcases aZ hm with ⟨c3, hm⟩ | ⟨c3, hm⟩
  ·refine aS (by simp -dsimp) c3 ?_
   refine srs hn ?_
   simp -dsimp [c3]
   refine aV (bz (aX ?_))
   cases hm
   refine bd nofun ?_
   exact ⟨rfl, EE.here (by simp -dsimp [Tryz.results132])⟩
  ·refine aR (by simp -dsimp) c3 ?_
   refine aT ?_
   refine bk ?_
   refine aP ?_
   refine sr1 hn ?_
   simp -dsimp [hf, c3]
   cases hm
   refine bh ?_
   exact EE.here (by simp -dsimp [hf])
 ·refine aR (by simp -dsimp) c1 ?_
  refine b9 ?_
  refine aX ?_
  cases hm
  refine bd nofun ?_
  exact ⟨rfl, EE.here (by simp -dsimp [hf, c1])⟩
theorem c_cmp_Or_int (vals : List Int) (r : Int) (hm : m_cmp_Or_int vals = some r) : PureCall Tryz.prog 132 [.u (.one (dL vals))] (vI r) := by
 refine bN Tryz.func132 Tryz.ntmps132 fun cx hn => ?_
 unfold m_cmp_Or_int at hm
 refine srs hn ?_
 simp -dsimp
 refine srs hn ?_
 simp -dsimp
 refine aU ?_
 refine srs hn ?_
 simp -dsimp
 refine aW ?_
 obtain ⟨o_, g4, hm⟩ := bnd hm
 refine bo (l_cmp_Or_int_1 cx hn vals g4) (by
   try dsimp only
   exact eeh
 ) fun ee Z O x5 => ?_
 rcases o_ with r | _u
 ·unfold cQ at x5
  dsimp only at x5
  obtain ⟨rfl, x5⟩ := x5
  refine bz (aX ?_)
  cases hm
  exact ⟨.inr rfl, x5⟩
 ·unfold cQ at x5
  dsimp only at x5
  obtain ⟨rfl, x5⟩ := x5
  refine b8 ?_
  refine aP ?_
  refine see x5 fun Z O hf => ?_
  simp only [Fits, ba, bc, and_true] at hf
  refine srs hn ?_
  simp -dsimp [hf]
  cases hm
  exact aV ⟨.inr rfl, EE.here (by simp -dsimp)⟩
theorem c_point_Compare (a b : Point) (r : Int) (hm : m_point_Compare a b = some r) : PureCall Tryz.prog 108 [.u (.agg [dI a.X, dI a.Y]), .u (.agg [dI b.X, dI b.Y])] (vI r) := by
 refine bN Tryz.func108 Tryz.ntmps108 fun cx hn => ?_
 unfold m_point_Compare at hm
 refine srs hn ?_
 simp -dsimp
 refine cy bm mixed (by rw [hn]; kernel_rfl) ?_
 obtain ⟨y, h1, hm⟩ := bnd hm
 simp -dsimp
 refine bi (eS a.Y b.Y y h1) ?_
 obtain ⟨y1, h2, hm⟩ := bnd hm
 simp -dsimp
 refine bi (eS a.X b.X y1 h2) ?_
 obtain ⟨y2, h3, hm⟩ := bnd hm
 simp -dsimp
 refine bi (c_cmp_Or_int [y, y1] y2 h3) ?_
 simp -dsimp
 cases hm
 exact aV ⟨.inr rfl, EE.here (by simp -dsimp)⟩
def cR (cx : Cx) (_l : List Point) (tt : Bool ⊕ Unit) (ee : Exit) (Z : Env) (O : Sto) : Prop := match tt with
 | .inl r => ee = .ret /\ EE cx (fun Z O => ∃ v, cX tb Z O Tryz.f68.results.toList = some v /\ (v.frz O).free = true /\ (v.frz O).wk (vT r)) Z O
 | .inr _u => ee = .exit 0 /\ EE cx (bp [] []) Z O
theorem l_hood_Right_1 (cx : Cx) (hn : cx.n = 53) (l : List Point) {fu : Nat} {stt : Int} {tt : Bool ⊕ Unit} (hh : b0 (b_hood_Right_1 l) fu stt = some tt) {Z : Env} {O : Sto}
  (hE : bu (fun a1 : Int => [(0, .u (.one (dR2 l))), (13, .u (.one (dR2 l))), (14, vI (aY l)), (15, vI a1)]) (fun _a1 : Int => []) stt Z O) : Swp Tryz.prog cx (.loop (bL [1, 1, 0, 1, 0, 0] (bn Tryz.f68))) Z O (cR cx l tt) := by
 refine bv hE hh (cR cx l) ?_
 rintro a1 r hm Z O hf
 simp only [Fits, ba, bc, and_true] at hf
 unfold b_hood_Right_1 at hm
 dsimp only at hm
 refine srs hn ?_
 simp -dsimp [hf]
 refine aU ?_
 rcases aZ hm with ⟨c3, hm⟩ | ⟨c3, hm⟩
 ·refine aS (by simp -dsimp) c3 ?_
  refine aT (aP (aU (aW ?_)))
  refine srs hn ?_
  obtain ⟨x, h4, hm⟩ := bnd hm
  simp -dsimp [hf, c3, h4]
  obtain ⟨a2, j13, hm⟩ := bnd hm
  refine scE [(0, .u (.one (dR2 l))), (13, .u (.one (dR2 l))), (14, vI (aY l)), (15, vI a1), (51, vT a2)] [] ?_ fun Z O hf => ?_
  ·replace hm := j13
   clear j13
   refine sw_qt bm mixed (by rw [hn]; kernel_rfl) ?_
   rcases aZ hm with ⟨c5, hm⟩ | ⟨c5, hm⟩
   ·simp -dsimp [c5]
    cases hm
    exact EE.here (by simp -dsimp [hf])
   ·rcases aZ hm with ⟨c6, hm⟩ | ⟨c6, hm⟩
    ·simp -dsimp [c5, c6]
     cases hm
     exact EE.here (by simp -dsimp [hf])
    ·rcases aZ hm with ⟨c7, hm⟩ | ⟨c7, hm⟩
     ·simp -dsimp [c5, c6, c7]
      cases hm
      exact EE.here (by simp -dsimp [hf])
     ·rcases aZ hm with ⟨c8, hm⟩ | ⟨c8, hm⟩
      ·simp -dsimp [c5, c6, c7, c8]
       cases hm
       exact EE.here (by simp -dsimp [hf])
      ·rcases aZ hm with ⟨c9, hm⟩ | ⟨c9, hm⟩
       ·obtain ⟨x1, h10, hm⟩ := bnd hm
        obtain ⟨y, h11, hm⟩ := bnd hm
        simp -dsimp [hf, c5, c6, c7, c8, c9, h10]
        refine bi (c_point_Compare x1 x y h11) ?_
        simp -dsimp
        cases hm
        exact EE.here (by simp -dsimp [hf])
       ·simp -dsimp [c5, c6, c7, c8, c9]
        cases hm
        exact EE.here (by simp -dsimp [hf])
  ·clear j13
   simp only [Fits, ba, bc, and_true] at hf
   rcases aZ hm with ⟨c12, hm⟩ | ⟨c12, hm⟩
   ·refine aS (by simp -dsimp [hf]) c12 ?_
    refine srs hn ?_
    simp -dsimp
    refine aV (bz (aX ?_))
    cases hm
    refine bd nofun ?_
    exact ⟨rfl, EE.here (by simp -dsimp [Tryz.results68])⟩
   ·refine aR (by simp -dsimp [hf]) c12 ?_
    refine aT ?_
    refine bk ?_
    refine aP ?_
    refine sr1 hn ?_
    simp -dsimp [hf]
    cases hm
    refine bh ?_
    exact EE.here (by simp -dsimp [hf])
 ·refine aR (by simp -dsimp) c3 ?_
  refine b9 ?_
  refine aX ?_
  cases hm
  refine bd nofun ?_
  exact ⟨rfl, EE.here (by simp -dsimp [c3])⟩
theorem c_hood_Right (l : List Point) (r : Bool) (hm : m_hood_Right l = some r) : PureCall Tryz.prog 68 [.u (.one (dR2 l))] (vT r) := by
 refine bN Tryz.func68 Tryz.ntmps68 fun cx hn => ?_
 unfold m_hood_Right at hm
 refine srs hn ?_
 simp -dsimp
 refine aU ?_
 obtain ⟨a, j16, hm⟩ := bnd hm
 refine scE [(0, .u (.one (dR2 l))), (12, vT a)] [] ?_ fun Z O hf => ?_
 ·replace hm := j16
  clear j16
  refine sr1 hn ?_
  rcases aZ hm with ⟨c1, hm⟩ | ⟨c1, hm⟩
  ·simp -dsimp [c1]
   cases hm
   exact EE.here (by simp -dsimp)
  ·simp -dsimp [c1]
   cases hm
   exact EE.here (by simp -dsimp)
 ·clear j16
  simp only [Fits, ba, bc, and_true] at hf
  rcases aZ hm with ⟨c2, hm⟩ | ⟨c2, hm⟩
  ·refine aS (by simp -dsimp [hf]) c2 ?_
   refine srs hn ?_
   simp -dsimp
   refine aV (aX ?_)
   cases hm
   refine ⟨.inr rfl, ?_⟩
   exact EE.here (by simp -dsimp)
  ·refine aR (by simp -dsimp [hf]) c2 ?_
   refine aT (aP (aU ?_))
   refine srs hn ?_
   simp -dsimp [hf]
   refine aW ?_
   obtain ⟨o_, g14, hm⟩ := bnd hm
   refine bo (l_hood_Right_1 cx hn l g14) (by
     try dsimp only
     exact EE.here (by simp -dsimp [hf])
   ) fun ee Z O x15 => ?_
   rcases o_ with r | _u
   ·unfold cR at x15
    dsimp only at x15
    obtain ⟨rfl, x15⟩ := x15
    refine bz (aX ?_)
    cases hm
    exact ⟨.inr rfl, x15⟩
   ·unfold cR at x15
    dsimp only at x15
    obtain ⟨rfl, x15⟩ := x15
    refine b8 ?_
    refine aP ?_
    refine see x15 fun Z O hf => ?_
    simp only [Fits, ba, bc, and_true] at hf
    refine srs hn ?_
    simp -dsimp
    cases hm
    exact aV ⟨.inr rfl, EE.here (by simp -dsimp)⟩
def cP (cx : Cx) (t : Tree) (a1 : Int) (_x : Node) (tt : Bool ⊕ Unit) (ee : Exit) (Z : Env) (O : Sto) : Prop := match tt with
 | .inl r => ee = .ret /\ EE cx (fun Z O => ∃ v, cX tb Z O Tryz.f41.results.toList = some v /\ (v.frz O).free = true /\ (v.frz O).wk (vT r)) Z O
 | .inr _u => ee = .exit 2 /\ EE cx (bp [(1, vX 1), (47, .u (.one (dR1 t.Nodes))), (48, vI (aY t.Nodes)), (49, vI a1)] [(1, .box [dI t.States, dR2 t.Hood, dR1 t.Nodes])]) Z O
theorem l_tree_Right_2 (cx : Cx) (hn : cx.n = 117) (t : Tree) (a1 : Int) (x : Node) {fu : Nat} {stt : Int} {tt : Bool ⊕ Unit} (hh : b0 (b_tree_Right_2 t a1 x) fu stt = some tt) {Z : Env} {O : Sto}
  (hE : bu (fun a3 : Int => [(1, vX 1), (4, vI a1), (5, vX 5), (47, .u (.one (dR1 t.Nodes))), (48, vI (aY t.Nodes)), (49, vI a1), (74, .u (.one (dL x.Next))), (75, vI (aY x.Next)), (76, vI a3)]) (fun _a3 : Int => [(1, .box [dI t.States, dR2 t.Hood, dR1 t.Nodes]), (5, .box [dI x.Level, dL x.Next])]) stt Z O) : Swp Tryz.prog cx (.loop (bL [1, 1, 1, 0, 1, 0, 0, 1, 1, 0, 0, 1, 1, 1, 0, 0] (bn Tryz.f41))) Z O (cP cx t a1 x tt) := by
 refine bv hE hh (cP cx t a1 x) ?_
 rintro a3 r hm Z O hf
 simp only [Fits, ba, bc, and_true] at hf
 unfold b_tree_Right_2 at hm
 dsimp only at hm
 refine srs hn ?_
 simp -dsimp [hf]
 refine aU ?_
 rcases aZ hm with ⟨c14, hm⟩ | ⟨c14, hm⟩
 ·refine aS (by simp -dsimp) c14 ?_
  refine aT (aP (aU (aW ?_)))
  refine srs hn ?_
  obtain ⟨x1, h15, hm⟩ := bnd hm
  simp -dsimp [hf, c14, h15]
  obtain ⟨a4, j26, hm⟩ := bnd hm
  refine scE [(1, vX 1), (4, vI a1), (5, vX 5), (47, .u (.one (dR1 t.Nodes))), (48, vI (aY t.Nodes)), (49, vI a1), (74, .u (.one (dL x.Next))), (75, vI (aY x.Next)), (76, vI a3), (114, vT a4)] [(1, .box [dI t.States, dR2 t.Hood, dR1 t.Nodes]), (5, .box [dI x.Level, dL x.Next])] ?_ fun Z O hf => ?_
  ·replace hm := j26
   clear j26
   refine sw_qt bm mixed (by rw [hn]; kernel_rfl) ?_
   rcases aZ hm with ⟨c16, hm⟩ | ⟨c16, hm⟩
   ·simp -dsimp [c16]
    cases hm
    exact EE.here (by simp -dsimp [hf])
   ·rcases aZ hm with ⟨c17, hm⟩ | ⟨c17, hm⟩
    ·rcases aZ hm with ⟨c18, hm⟩ | ⟨c18, hm⟩
     ·simp -dsimp [hf, c16, c17, c18]
      cases hm
      exact EE.here (by simp -dsimp [hf])
     ·rcases aZ hm with ⟨c19, hm⟩ | ⟨c19, hm⟩
      ·rcases aZ hm with ⟨c20, hm⟩ | ⟨c20, hm⟩
       ·simp -dsimp [hf, c16, c17, c18, c19, c20]
        cases hm
        exact EE.here (by simp -dsimp [hf])
       ·obtain ⟨x2, h21, hm⟩ := bnd hm
        simp -dsimp [hf, c16, c17, c18, c19, c20, h21]
        cases hm
        exact EE.here (by simp -dsimp [hf])
      ·simp -dsimp [hf, c16, c17, c18, c19]
       cases hm
       exact EE.here (by simp -dsimp [hf])
    ·rcases aZ hm with ⟨c22, hm⟩ | ⟨c22, hm⟩
     ·rcases aZ hm with ⟨c23, hm⟩ | ⟨c23, hm⟩
      ·simp -dsimp [hf, c16, c17, c22, c23]
       cases hm
       exact EE.here (by simp -dsimp [hf])
      ·obtain ⟨x2, h24, hm⟩ := bnd hm
       simp -dsimp [hf, c16, c17, c22, c23, h24]
       cases hm
       exact EE.here (by simp -dsimp [hf])
     ·simp -dsimp [hf, c16, c17, c22]
      cases hm
      exact EE.here (by simp -dsimp [hf])
  ·clear j26
   simp only [Fits, ba, bc, and_true] at hf
   rcases aZ hm with ⟨c25, hm⟩ | ⟨c25, hm⟩
   ·refine aS (by simp -dsimp [hf]) c25 ?_
    refine srs hn ?_
    simp -dsimp
    refine aV (bz (aX ?_))
    cases hm
    refine bd nofun ?_
    exact ⟨rfl, EE.here (by simp -dsimp [Tryz.results41])⟩
   ·refine aR (by simp -dsimp [hf]) c25 ?_
    refine aT ?_
    refine bk ?_
    refine aP ?_
    refine sr1 hn ?_
    simp -dsimp [hf]
    cases hm
    refine bh ?_
    exact EE.here (by simp -dsimp [hf])
 ·refine aR (by simp -dsimp) c14 ?_
  refine b9 ?_
  refine aX ?_
  cases hm
  refine bd nofun ?_
  exact ⟨rfl, EE.here (by simp -dsimp [hf, c14])⟩
def cG (cx : Cx) (_t : Tree) (tt : Bool ⊕ Unit) (ee : Exit) (Z : Env) (O : Sto) : Prop := match tt with
 | .inl r => ee = .ret /\ EE cx (fun Z O => ∃ v, cX tb Z O Tryz.f41.results.toList = some v /\ (v.frz O).free = true /\ (v.frz O).wk (vT r)) Z O
 | .inr _u => ee = .exit 0 /\ EE cx (bp [] []) Z O
theorem l_tree_Right_1 (cx : Cx) (hn : cx.n = 117) (t : Tree) {fu : Nat} {stt : Int} {tt : Bool ⊕ Unit} (hh : b0 (b_tree_Right_1 t) fu stt = some tt) {Z : Env} {O : Sto}
  (hE : bu (fun a1 : Int => [(1, vX 1), (47, .u (.one (dR1 t.Nodes))), (48, vI (aY t.Nodes)), (49, vI a1)]) (fun _a1 : Int => [(1, .box [dI t.States, dR2 t.Hood, dR1 t.Nodes])]) stt Z O) : Swp Tryz.prog cx (.loop (bL [1, 1, 1, 0, 1, 0, 0] (bn Tryz.f41))) Z O (cG cx t tt) := by
 refine bv hE hh (cG cx t) ?_
 rintro a1 r hm Z O hf
 simp only [Fits, ba, bc, and_true] at hf
 unfold b_tree_Right_1 at hm
 dsimp only at hm
 refine srs hn ?_
 simp -dsimp [hf]
 refine aU ?_
 rcases aZ hm with ⟨c9, hm⟩ | ⟨c9, hm⟩
 ·refine aS (by simp -dsimp) c9 ?_
  refine aT (aP (aU (aW ?_)))
  refine srs hn ?_
  obtain ⟨x, h10, hm⟩ := bnd hm
  simp -dsimp [hf, c9, h10]
  refine aU ?_
  obtain ⟨a2, j29, hm⟩ := bnd hm
  refine scE [(1, vX 1), (4, vI a1), (5, vX 5), (47, .u (.one (dR1 t.Nodes))), (48, vI (aY t.Nodes)), (49, vI a1), (72, vT a2)] [(1, .box [dI t.States, dR2 t.Hood, dR1 t.Nodes]), (5, .box [dI x.Level, dL x.Next])] ?_ fun Z O hf => ?_
  ·replace hm := j29
   clear j29
   refine sr1 hn ?_
   rcases aZ hm with ⟨c11, hm⟩ | ⟨c11, hm⟩
   ·simp -dsimp [c11]
    cases hm
    exact EE.here (by simp -dsimp [hf])
   ·rcases aZ hm with ⟨c12, hm⟩ | ⟨c12, hm⟩
    ·simp -dsimp [hf, c11, c12]
     cases hm
     exact EE.here (by simp -dsimp [hf])
    ·simp -dsimp [hf, c11, c12]
     cases hm
     exact EE.here (by simp -dsimp [hf])
  ·clear j29
   simp only [Fits, ba, bc, and_true] at hf
   rcases aZ hm with ⟨c13, hm⟩ | ⟨c13, hm⟩
   ·refine aS (by simp -dsimp [hf]) c13 ?_
    refine srs hn ?_
    simp -dsimp
    refine aV (aX (bz (aX ?_)))
    cases hm
    refine bd nofun ?_
    exact ⟨rfl, EE.here (by simp -dsimp [Tryz.results41])⟩
   ·refine aR (by simp -dsimp [hf]) c13 ?_
    refine aT (aP ?_)
    refine srs hn ?_
    simp -dsimp [hf]
    refine aW ?_
    obtain ⟨o_, g27, hm⟩ := bnd hm
    refine bo (l_tree_Right_2 cx hn t a1 x g27) (by
      try dsimp only
      exact EE.here (by simp -dsimp [hf])
    ) fun ee Z O x28 => ?_
    rcases o_ with r | _u
    ·unfold cP at x28
     dsimp only at x28
     obtain ⟨rfl, x28⟩ := x28
     refine bz (bz (aX ?_))
     cases hm
     refine bd nofun ?_
     unfold cG
     dsimp only
     refine ⟨rfl, ?_⟩
     exact x28
    ·unfold cP at x28
     dsimp only at x28
     obtain ⟨rfl, x28⟩ := x28
     refine b8 ?_
     refine bk ?_
     refine aP ?_
     refine see x28 fun Z O hf => ?_
     simp only [Fits, ba, bc, and_true] at hf
     refine sr1 hn ?_
     simp -dsimp [hf]
     cases hm
     refine bh ?_
     exact EE.here (by simp -dsimp [hf])
 ·refine aR (by simp -dsimp) c9 ?_
  refine b9 ?_
  refine aX ?_
  cases hm
  refine bd nofun ?_
  exact ⟨rfl, EE.here (by simp -dsimp [c9])⟩
theorem ft (t : Tree) (r : Bool) (hm : m_tree_Right t = some r) : PureCall Tryz.prog 41 [.u (.agg [dI t.States, dR2 t.Hood, dR1 t.Nodes])] (vT r) := by
 refine bN Tryz.func41 Tryz.ntmps41 fun cx hn => ?_
 unfold m_tree_Right at hm
 refine srs hn ?_
 simp -dsimp
 refine srs hn ?_
 simp -dsimp
 refine aU ?_
 obtain ⟨a, j32, hm⟩ := bnd hm
 refine scE [(1, vX 1), (45, vT a)] [(1, .box [dI t.States, dR2 t.Hood, dR1 t.Nodes])] ?_ fun Z O hf => ?_
 ·replace hm := j32
  clear j32
  refine sw_qt bm mixed (by rw [hn]; kernel_rfl) ?_
  rcases aZ hm with ⟨c1, hm⟩ | ⟨c1, hm⟩
  ·simp -dsimp [c1]
   cases hm
   exact EE.here (by simp -dsimp)
  ·rcases aZ hm with ⟨c2, hm⟩ | ⟨c2, hm⟩
   ·simp -dsimp [c1, c2]
    cases hm
    exact EE.here (by simp -dsimp)
   ·obtain ⟨y, h3, hm⟩ := bnd hm
    simp -dsimp [c1, c2]
    refine bi (c_hood_Right t.Hood y h3) ?_
    rcases aZ hm with ⟨c4, hm⟩ | ⟨c4, hm⟩
    ·simp -dsimp [c4]
     cases hm
     exact EE.here (by simp -dsimp)
    ·rcases aZ hm with ⟨c5, hm⟩ | ⟨c5, hm⟩
     ·simp -dsimp [c4, c5]
      cases hm
      exact EE.here (by simp -dsimp)
     ·rcases aZ hm with ⟨c6, hm⟩ | ⟨c6, hm⟩
      ·simp -dsimp [c4, c5, c6]
       cases hm
       exact EE.here (by simp -dsimp)
      ·obtain ⟨x, h7, hm⟩ := bnd hm
       simp -dsimp [c4, c5, c6, h7]
       cases hm
       exact EE.here (by simp -dsimp)
 ·clear j32
  simp only [Fits, ba, bc, and_true] at hf
  rcases aZ hm with ⟨c8, hm⟩ | ⟨c8, hm⟩
  ·refine aS (by simp -dsimp [hf]) c8 ?_
   refine srs hn ?_
   simp -dsimp
   refine aV (aX ?_)
   cases hm
   refine ⟨.inr rfl, ?_⟩
   exact EE.here (by simp -dsimp)
  ·refine aR (by simp -dsimp [hf]) c8 ?_
   refine aT (aP (aU ?_))
   refine srs hn ?_
   simp -dsimp [hf]
   refine aW ?_
   obtain ⟨o_, g30, hm⟩ := bnd hm
   refine bo (l_tree_Right_1 cx hn t g30) (by
     try dsimp only
     exact EE.here (by simp -dsimp [hf])
   ) fun ee Z O x31 => ?_
   rcases o_ with r | _u
   ·unfold cG at x31
    dsimp only at x31
    obtain ⟨rfl, x31⟩ := x31
    refine bz (aX ?_)
    cases hm
    exact ⟨.inr rfl, x31⟩
   ·unfold cG at x31
    dsimp only at x31
    obtain ⟨rfl, x31⟩ := x31
    refine b8 ?_
    refine aP ?_
    refine see x31 fun Z O hf => ?_
    simp only [Fits, ba, bc, and_true] at hf
    refine srs hn ?_
    simp -dsimp
    cases hm
    exact aV ⟨.inr rfl, EE.here (by simp -dsimp)⟩
def dU (cx : Cx) (_t : Tree) (_in_ : List Int) (tt : Int) (ee : Exit) (Z : Env) (O : Sto) : Prop := match tt with
 | k => ee = .exit 0 /\ EE cx (bp [(5, vI k)] []) Z O
theorem l_tree_value_1 (cx : Cx) (hn : cx.n = 29) (t : Tree) (in_ : List Int) {fu : Nat} {stt : Int × Int} {tt : Int} (hh : b0 (b_tree_value_1 t in_) fu stt = some tt) {Z : Env} {O : Sto}
  (hE : bu (fun stt : Int × Int => match stt with | (k, a) => [(2, vX 2), (5, vI k), (12, .u (.one (dL in_))), (13, vI (aY in_)), (14, vI a)]) (fun stt : Int × Int => match stt with | (_k, _a) => [(2, .box [dI t.States, dR2 t.Hood, dR1 t.Nodes])]) stt Z O) : Swp Tryz.prog cx (.loop (bL [1, 1, 0, 1, 0, 0] (bn Tryz.f141))) Z O (dU cx t in_ tt) := by
 refine bv hE hh (dU cx t in_) ?_
 rintro ⟨k, a⟩ r hm Z O hf
 simp only [Fits, ba, bc, and_true] at hf
 unfold b_tree_value_1 at hm
 dsimp only at hm
 refine srs hn ?_
 simp -dsimp [hf]
 refine aU ?_
 rcases aZ hm with ⟨c1, hm⟩ | ⟨c1, hm⟩
 ·refine aS (by simp -dsimp) c1 ?_
  refine aT (aP (aU (aW ?_)))
  refine srs hn ?_
  obtain ⟨x, h2, hm⟩ := bnd hm
  simp -dsimp [hf, c1, h2]
  refine sr1 hn ?_
  obtain ⟨x1, h3, hm⟩ := bnd hm
  obtain ⟨x2, h4, hm⟩ := bnd hm
  simp -dsimp [hf, h3, h4]
  refine bk ?_
  refine aP ?_
  refine sr1 hn ?_
  simp -dsimp [hf]
  cases hm
  refine bh ?_
  exact EE.here (by simp -dsimp [hf])
 ·refine aR (by simp -dsimp) c1 ?_
  refine b9 ?_
  refine aX ?_
  cases hm
  refine bd nofun ?_
  exact ⟨rfl, EE.here (by simp -dsimp [hf, c1])⟩
theorem c_tree_value (t : Tree) (in_ : List Int) (r : Int) (hm : m_tree_value t in_ = some r) : PureCall Tryz.prog 141 [.u (.agg [dI t.States, dR2 t.Hood, dR1 t.Nodes]), .u (.one (dL in_))] (vI r) := by
 refine bN Tryz.func141 Tryz.ntmps141 fun cx hn => ?_
 unfold m_tree_value at hm
 refine srs hn ?_
 simp -dsimp
 refine srs hn ?_
 simp -dsimp
 refine aU ?_
 refine srs hn ?_
 simp -dsimp
 refine aW ?_
 obtain ⟨k, g5, hm⟩ := bnd hm
 refine bo (l_tree_value_1 cx hn t in_ g5) (by
   try dsimp only
   exact eeh
 ) fun ee Z O x6 => ?_
 unfold dU at x6
 dsimp only at x6
 obtain ⟨rfl, x6⟩ := x6
 refine b8 ?_
 refine aP ?_
 refine see x6 fun Z O hf => ?_
 simp only [Fits, ba, bc, and_true] at hf
 refine srs hn ?_
 simp -dsimp [hf]
 cases hm
 exact aV ⟨.inr rfl, EE.here (by simp -dsimp)⟩
theorem c_tree_Quiet (t : Tree) (r : Bool) (hm : m_tree_Quiet t = some r) : PureCall Tryz.prog 124 [.u (.agg [dI t.States, dR2 t.Hood, dR1 t.Nodes])] (vT r) := by
 refine bN Tryz.func124 Tryz.ntmps124 fun cx hn => ?_
 unfold m_tree_Quiet at hm
 refine srs hn ?_
 simp -dsimp
 obtain ⟨a, j5, hm⟩ := bnd hm
 refine scE [(2, vT a)] [] ?_ fun Z O hf => ?_
 ·replace hm := j5
  clear j5
  refine sw_midc bm mixed 7 8 8 0 [[3]] [[10]] [] none (by rw [hn]; kernel_rfl) bY ?_
  dsimp only [List.take, List.drop, cM, cO, dp, pk, List.cons_append, List.nil_append, List.flatten_cons, List.flatten_nil, bV, bU, List.append_nil]
  obtain ⟨y, h1, hm⟩ := bnd hm
  simp -dsimp
  refine bi (ft t y h1) ?_
  rcases aZ hm with ⟨c2, hm⟩ | ⟨c2, hm⟩
  ·obtain ⟨l, h3, hm⟩ := bnd hm
   obtain ⟨⟨h3a, h3b, h3c⟩, rfl⟩ := mkL_some h3
   obtain ⟨y1, h4, hm⟩ := bnd hm
   simp -dsimp [c2, h3a, h3c]
   refine dH (us' := [.u (.agg [dI t.States, dR2 t.Hood, dR1 t.Nodes]), .u (.one (dL (List.replicate (aY t.Hood).toNat 0)))]) (c_tree_value t (List.replicate (aY t.Hood).toNat 0) y1 h4) (by simp -dsimp) rfl (dkL hn) ?_
   simp -dsimp
   cases hm
   exact EE.here (by simp -dsimp)
  ·simp -dsimp [c2]
   cases hm
   exact EE.here (by simp -dsimp)
 ·clear j5
  simp only [Fits, ba, bc, and_true] at hf
  cases hm
  exact aV ⟨.inr rfl, EE.here (by simp -dsimp [hf])⟩
theorem fB (cv : Cell) (r : Point) (hm : m_pattern_at cv = some r) : PureCall Tryz.prog 94 [.u (.agg [dI cv.X, dI cv.Y, dI cv.S])] (.u (.agg [dI r.X, dI r.Y])) := by
 refine bN Tryz.func94 Tryz.ntmps94 fun cx hn => ?_
 unfold m_pattern_at at hm
 refine srs hn ?_
 simp -dsimp
 refine srs hn ?_
 simp -dsimp
 cases hm
 exact aV ⟨.inr rfl, EE.here (by simp -dsimp)⟩
theorem c_pattern_placed (p : Point) (r : Bool) (hm : m_pattern_placed p = some r) : PureCall Tryz.prog 93 [.u (.agg [dI p.X, dI p.Y])] (vT r) := by
 refine bN Tryz.func93 Tryz.ntmps93 fun cx hn => ?_
 unfold m_pattern_placed at hm
 refine srs hn ?_
 simp -dsimp
 obtain ⟨a, j2, hm⟩ := bnd hm
 refine scE [(2, vT a)] [] ?_ fun Z O hf => ?_
 ·replace hm := j2
  clear j2
  refine sr1 hn ?_
  rcases aZ hm with ⟨c1, hm⟩ | ⟨c1, hm⟩
  ·simp -dsimp [c1]
   cases hm
   exact EE.here (by simp -dsimp)
  ·simp -dsimp [c1]
   cases hm
   exact EE.here (by simp -dsimp)
 ·clear j2
  simp only [Fits, ba, bc, and_true] at hf
  cases hm
  exact aV ⟨.inr rfl, EE.here (by simp -dsimp [hf])⟩
theorem c_pattern_order (a b : Cell) (r : Int) (hm : m_pattern_order a b = some r) : PureCall Tryz.prog 95 [.u (.agg [dI a.X, dI a.Y, dI a.S]), .u (.agg [dI b.X, dI b.Y, dI b.S])] (vI r) := by
 refine bN Tryz.func95 Tryz.ntmps95 fun cx hn => ?_
 unfold m_pattern_order at hm
 refine srs hn ?_
 simp -dsimp
 refine cy bm mixed (by rw [hn]; kernel_rfl) ?_
 obtain ⟨y, h1, hm⟩ := bnd hm
 simp -dsimp
 refine bi (fB a y h1) ?_
 obtain ⟨y1, h2, hm⟩ := bnd hm
 simp -dsimp
 refine bi (fB b y1 h2) ?_
 obtain ⟨y2, h3, hm⟩ := bnd hm
 simp -dsimp
 refine bi (c_point_Compare y y1 y2 h3) ?_
 simp -dsimp
 cases hm
 exact aV ⟨.inr rfl, EE.here (by simp -dsimp)⟩
def cm (cx : Cx) (_p : List Cell) (tt : Bool ⊕ Unit) (ee : Exit) (Z : Env) (O : Sto) : Prop := match tt with
 | .inl r => ee = .ret /\ EE cx (fun Z O => ∃ v, cX tb Z O Tryz.f51.results.toList = some v /\ (v.frz O).free = true /\ (v.frz O).wk (vT r)) Z O
 | .inr _u => ee = .exit 0 /\ EE cx (bp [] []) Z O
theorem l_pattern_Right_1 (cx : Cx) (hn : cx.n = 44) (p : List Cell) {fu : Nat} {stt : Int} {tt : Bool ⊕ Unit} (hh : b0 (b_pattern_Right_1 p) fu stt = some tt) {Z : Env} {O : Sto}
  (hE : bu (fun a : Int => [(0, .u (.one (dR0 p))), (8, .u (.one (dR0 p))), (9, vI (aY p)), (10, vI a)]) (fun _a : Int => []) stt Z O) : Swp Tryz.prog cx (.loop (bL [1, 1, 0, 1, 0, 0] (bn Tryz.f51))) Z O (cm cx p tt) := by
 refine bv hE hh (cm cx p) ?_
 rintro a r hm Z O hf
 simp only [Fits, ba, bc, and_true] at hf
 unfold b_pattern_Right_1 at hm
 dsimp only at hm
 refine srs hn ?_
 simp -dsimp [hf]
 refine aU ?_
 rcases aZ hm with ⟨c2, hm⟩ | ⟨c2, hm⟩
 ·refine aS (by simp -dsimp) c2 ?_
  refine aT (aP (aU (aW ?_)))
  refine srs hn ?_
  obtain ⟨x, h3, hm⟩ := bnd hm
  simp -dsimp [hf, c2, h3]
  obtain ⟨a1, j13, hm⟩ := bnd hm
  refine scE [(0, .u (.one (dR0 p))), (8, .u (.one (dR0 p))), (9, vI (aY p)), (10, vI a), (42, vT a1)] [] ?_ fun Z O hf => ?_
  ·replace hm := j13
   clear j13
   refine sw_qt bm mixed (by rw [hn]; kernel_rfl) ?_
   obtain ⟨y, h4, hm⟩ := bnd hm
   simp -dsimp
   refine bi (fB x y h4) ?_
   obtain ⟨y1, h5, hm⟩ := bnd hm
   simp -dsimp
   refine bi (c_pattern_placed y y1 h5) ?_
   rcases aZ hm with ⟨c6, hm⟩ | ⟨c6, hm⟩
   ·simp -dsimp [c6]
    cases hm
    exact EE.here (by simp -dsimp [hf])
   ·rcases aZ hm with ⟨c7, hm⟩ | ⟨c7, hm⟩
    ·simp -dsimp [c6, c7]
     cases hm
     exact EE.here (by simp -dsimp [hf])
    ·rcases aZ hm with ⟨c8, hm⟩ | ⟨c8, hm⟩
     ·simp -dsimp [c6, c7, c8]
      cases hm
      exact EE.here (by simp -dsimp [hf])
     ·rcases aZ hm with ⟨c9, hm⟩ | ⟨c9, hm⟩
      ·obtain ⟨x1, h10, hm⟩ := bnd hm
       obtain ⟨y2, h11, hm⟩ := bnd hm
       simp -dsimp [hf, c6, c7, c8, c9, h10]
       refine bi (c_pattern_order x1 x y2 h11) ?_
       simp -dsimp
       cases hm
       exact EE.here (by simp -dsimp [hf])
      ·simp -dsimp [c6, c7, c8, c9]
       cases hm
       exact EE.here (by simp -dsimp [hf])
  ·clear j13
   simp only [Fits, ba, bc, and_true] at hf
   rcases aZ hm with ⟨c12, hm⟩ | ⟨c12, hm⟩
   ·refine aS (by simp -dsimp [hf]) c12 ?_
    refine srs hn ?_
    simp -dsimp
    refine aV (bz (aX ?_))
    cases hm
    refine bd nofun ?_
    exact ⟨rfl, EE.here (by simp -dsimp [Tryz.results51])⟩
   ·refine aR (by simp -dsimp [hf]) c12 ?_
    refine aT ?_
    refine bk ?_
    refine aP ?_
    refine sr1 hn ?_
    simp -dsimp [hf]
    cases hm
    refine bh ?_
    exact EE.here (by simp -dsimp [hf])
 ·refine aR (by simp -dsimp) c2 ?_
  refine b9 ?_
  refine aX ?_
  cases hm
  refine bd nofun ?_
  exact ⟨rfl, EE.here (by simp -dsimp [c2])⟩
theorem c_pattern_Right (p : List Cell) (r : Bool) (hm : m_pattern_Right p = some r) : PureCall Tryz.prog 51 [.u (.one (dR0 p))] (vT r) := by
 refine bN Tryz.func51 Tryz.ntmps51 fun cx hn => ?_
 unfold m_pattern_Right at hm
 refine srs hn ?_
 simp -dsimp
 refine aU ?_
 refine srs hn ?_
 simp -dsimp
 rcases aZ hm with ⟨c1, hm⟩ | ⟨c1, hm⟩
 ·refine sct c1 ?_
  refine srs hn ?_
  simp -dsimp [c1]
  refine aV (aX ?_)
  cases hm
  refine ⟨.inr rfl, ?_⟩
  exact EE.here (by simp -dsimp)
 ·refine scf c1 ?_
  refine aT (aP (aU ?_))
  refine srs hn ?_
  simp -dsimp [c1]
  refine aW ?_
  obtain ⟨o_, g14, hm⟩ := bnd hm
  refine bo (l_pattern_Right_1 cx hn p g14) (by
    try dsimp only
    exact EE.here (by simp -dsimp)
  ) fun ee Z O x15 => ?_
  rcases o_ with r | _u
  ·unfold cm at x15
   dsimp only at x15
   obtain ⟨rfl, x15⟩ := x15
   refine bz (aX ?_)
   cases hm
   exact ⟨.inr rfl, x15⟩
  ·unfold cm at x15
   dsimp only at x15
   obtain ⟨rfl, x15⟩ := x15
   refine b8 ?_
   refine aP ?_
   refine see x15 fun Z O hf => ?_
   simp only [Fits, ba, bc, and_true] at hf
   refine srs hn ?_
   simp -dsimp
   cases hm
   exact aV ⟨.inr rfl, EE.here (by simp -dsimp)⟩
end Go.Proofs.YtjfjmdmdkbpdfaaGreatDoor
