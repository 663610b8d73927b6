/- That the code does what the functions say (made by cc.py). -/
import Derived.Test.YtjfjmdmdkbpdfaaGreatDoorWa9
namespace Go.Proofs.YtjfjmdmdkbpdfaaGreatDoor
open Go.AM Go.Proofs
set_option maxRecDepth 100000
attribute [-simp] qlookup ct d7 Ob.wipe Ob.ren Ob.frz1
def F_R12_Right_2 (cx : Cx) (t : Tree) (i : Int) (_x : Node) (tt : Bool ⊕ Unit) (ee : Exit) (Z : Env) (O : Sto) : Prop := match tt with
 | .inl r => ee = .ret /\ EE cx (fun Z O => ∃ v, cX tb Z O Tryz.f88.results.toList = some v /\ (v.frz O).free = true /\ (v.frz O).wk (vT r)) Z O
 | .inr _u => ee = .exit 2 /\ EE cx (bp [(1, vX 1), (3, vI (aY t.Nodes)), (4, vI i)] [(1, .box [dI t.States, dR2 t.Hood, dR1 t.Nodes])]) Z O
theorem l_R12_Right_2 (cx : Cx) (hn : cx.n = 115) (t : Tree) (i : Int) (x : Node) {fu : Nat} {stt : Int} {tt : Bool ⊕ Unit} (hh : b0 (b_R12_Right_2 t i x) fu stt = some tt) {Z : Env} {O : Sto}
  (hE : bu (fun s : Int => [(1, vX 1), (3, vI (aY t.Nodes)), (4, vI i), (5, vX 5), (6, vI s)]) (fun _s : Int => [(1, .box [dI t.States, dR2 t.Hood, dR1 t.Nodes]), (5, .box [dI x.Level, dL x.Next])]) stt Z O) : Swp Tryz.prog cx (.loop (bL [1, 1, 1, 0, 1, 0, 0, 1, 0, 0, 1, 1, 1, 0, 0] (bn Tryz.f88))) Z O (F_R12_Right_2 cx t i x tt) := by
 refine bv hE hh (F_R12_Right_2 cx t i x) ?_
 rintro s r hm Z O hf
 simp only [Fits, ba, bc, and_true] at hf
 unfold b_R12_Right_2 at hm
 dsimp only at hm
 refine aU ?_
 refine srs hn ?_
 simp -dsimp [hf]
 rcases aZ hm with ⟨c12, hm⟩ | ⟨c12, hm⟩
 ·refine aS (by simp -dsimp) c12 ?_
  refine aT (aP (aU (aW ?_)))
  refine srs hn ?_
  obtain ⟨x1, h13, hm⟩ := bnd hm
  simp -dsimp [hf, c12, h13]
  refine aU ?_
  refine srs hn ?_
  simp -dsimp
  rcases aZ hm with ⟨c14, hm⟩ | ⟨c14, hm⟩
  ·refine aS (by simp -dsimp) c14 ?_
   refine srs hn ?_
   simp -dsimp [c14]
   refine aV (aX (bz (aX ?_)))
   cases hm
   refine bd nofun ?_
   exact ⟨rfl, EE.here (by simp -dsimp [Tryz.results88])⟩
  ·refine aR (by simp -dsimp) c14 ?_
   refine aT (aP (aU ?_))
   obtain ⟨a2, j22, hm⟩ := bnd hm
   refine scE [(1, vX 1), (3, vI (aY t.Nodes)), (4, vI i), (5, vX 5), (6, vI s), (7, vI x1), (83, vT a2)] [(1, .box [dI t.States, dR2 t.Hood, dR1 t.Nodes]), (5, .box [dI x.Level, dL x.Next])] ?_ fun Z O hf => ?_
   ·replace hm := j22
    clear j22
    refine sr1 hn ?_
    rcases aZ hm with ⟨c15, hm⟩ | ⟨c15, hm⟩
    ·simp -dsimp [hf, c14, c15]
     cases hm
     exact EE.here (by simp -dsimp [hf])
    ·simp -dsimp [hf, c14, c15]
     cases hm
     exact EE.here (by simp -dsimp [hf])
   ·clear j22
    simp only [Fits, ba, bc, and_true] at hf
    rcases aZ hm with ⟨c16, hm⟩ | ⟨c16, hm⟩
    ·refine aS (by simp -dsimp [hf]) c16 ?_
     refine srs hn ?_
     simp -dsimp
     refine aV (aX (bz (aX ?_)))
     cases hm
     refine bd nofun ?_
     exact ⟨rfl, EE.here (by simp -dsimp [Tryz.results88])⟩
    ·refine aR (by simp -dsimp [hf]) c16 ?_
     refine aT (aP ?_)
     obtain ⟨a3, j21, hm⟩ := bnd hm
     refine scE [(1, vX 1), (3, vI (aY t.Nodes)), (4, vI i), (5, vX 5), (6, vI s), (103, vT a3)] [(1, .box [dI t.States, dR2 t.Hood, dR1 t.Nodes]), (5, .box [dI x.Level, dL x.Next])] ?_ fun Z O hf => ?_
     ·replace hm := j21
      clear j21
      refine sw_qt bm mixed (by rw [hn]; kernel_rfl) ?_
      rcases aZ hm with ⟨c17, hm⟩ | ⟨c17, hm⟩
      ·rcases aZ hm with ⟨c18, hm⟩ | ⟨c18, hm⟩
       ·simp -dsimp [hf, c17, c18]
        cases hm
        exact EE.here (by simp -dsimp [hf])
       ·obtain ⟨x2, h19, hm⟩ := bnd hm
        simp -dsimp [hf, c17, c18, h19]
        cases hm
        exact EE.here (by simp -dsimp [hf])
      ·simp -dsimp [hf, c17]
       cases hm
       exact EE.here (by simp -dsimp [hf])
     ·clear j21
      simp only [Fits, ba, bc, and_true] at hf
      rcases aZ hm with ⟨c20, hm⟩ | ⟨c20, hm⟩
      ·refine aS (by simp -dsimp [hf]) c20 ?_
       refine srs hn ?_
       simp -dsimp
       refine aV (bz (aX ?_))
       cases hm
       refine bd nofun ?_
       exact ⟨rfl, EE.here (by simp -dsimp [Tryz.results88])⟩
      ·refine aR (by simp -dsimp [hf]) c20 ?_
       refine aT ?_
       refine bk ?_
       refine aP ?_
       refine sr1 hn ?_
       simp -dsimp [hf]
       cases hm
       refine bh ?_
       exact EE.here (by simp -dsimp [hf])
 ·refine aR (by simp -dsimp) c12 ?_
  refine b9 ?_
  refine aX ?_
  cases hm
  refine bd nofun ?_
  exact ⟨rfl, EE.here (by simp -dsimp [hf, c12])⟩
def F_R12_Right_1 (cx : Cx) (t : Tree) (tt : Bool ⊕ Unit) (ee : Exit) (Z : Env) (O : Sto) : Prop := match tt with
 | .inl r => ee = .ret /\ EE cx (fun Z O => ∃ v, cX tb Z O Tryz.f88.results.toList = some v /\ (v.frz O).free = true /\ (v.frz O).wk (vT r)) Z O
 | .inr _u => ee = .exit 0 /\ EE cx (bp [(1, vX 1), (3, vI (aY t.Nodes))] [(1, .box [dI t.States, dR2 t.Hood, dR1 t.Nodes])]) Z O
theorem l_R12_Right_1 (cx : Cx) (hn : cx.n = 115) (t : Tree) {fu : Nat} {stt : Int} {tt : Bool ⊕ Unit} (hh : b0 (b_R12_Right_1 t) fu stt = some tt) {Z : Env} {O : Sto}
  (hE : bu (fun i : Int => [(1, vX 1), (3, vI (aY t.Nodes)), (4, vI i)]) (fun _i : Int => [(1, .box [dI t.States, dR2 t.Hood, dR1 t.Nodes])]) stt Z O) : Swp Tryz.prog cx (.loop (bL [1, 1, 1, 0, 1, 0, 0] (bn Tryz.f88))) Z O (F_R12_Right_1 cx t tt) := by
 refine bv hE hh (F_R12_Right_1 cx t) ?_
 rintro i r hm Z O hf
 simp only [Fits, ba, bc, and_true] at hf
 unfold b_R12_Right_1 at hm
 dsimp only at hm
 refine aU ?_
 refine srs hn ?_
 simp -dsimp [hf]
 rcases aZ hm with ⟨c7, hm⟩ | ⟨c7, hm⟩
 ·refine aS (by simp -dsimp) c7 ?_
  refine aT (aP (aU (aW ?_)))
  refine srs hn ?_
  obtain ⟨x, h8, hm⟩ := bnd hm
  simp -dsimp [hf, c7, h8]
  refine aU ?_
  obtain ⟨a1, j25, hm⟩ := bnd hm
  refine scE [(1, vX 1), (3, vI (aY t.Nodes)), (4, vI i), (5, vX 5), (61, vT a1)] [(1, .box [dI t.States, dR2 t.Hood, dR1 t.Nodes]), (5, .box [dI x.Level, dL x.Next])] ?_ fun Z O hf => ?_
  ·replace hm := j25
   clear j25
   refine sr1 hn ?_
   rcases aZ hm with ⟨c9, hm⟩ | ⟨c9, hm⟩
   ·simp -dsimp [c9]
    cases hm
    exact EE.here (by simp -dsimp [hf])
   ·rcases aZ hm with ⟨c10, hm⟩ | ⟨c10, hm⟩
    ·simp -dsimp [hf, c9, c10]
     cases hm
     exact EE.here (by simp -dsimp [hf])
    ·simp -dsimp [hf, c9, c10]
     cases hm
     exact EE.here (by simp -dsimp [hf])
  ·clear j25
   simp only [Fits, ba, bc, and_true] at hf
   rcases aZ hm with ⟨c11, hm⟩ | ⟨c11, hm⟩
   ·refine aS (by simp -dsimp [hf]) c11 ?_
    refine srs hn ?_
    simp -dsimp
    refine aV (aX (bz (aX ?_)))
    cases hm
    refine bd nofun ?_
    exact ⟨rfl, EE.here (by simp -dsimp [Tryz.results88])⟩
   ·refine aR (by simp -dsimp [hf]) c11 ?_
    refine aT (aP ?_)
    refine srs hn ?_
    simp -dsimp
    refine aW ?_
    obtain ⟨o_, g23, hm⟩ := bnd hm
    refine bo (l_R12_Right_2 cx hn t i x g23) (by
      try dsimp only
      exact EE.here (by simp -dsimp [hf])
    ) fun ee Z O x24 => ?_
    rcases o_ with r | _u
    ·unfold F_R12_Right_2 at x24
     dsimp only at x24
     obtain ⟨rfl, x24⟩ := x24
     refine bz (bz (aX ?_))
     cases hm
     refine bd nofun ?_
     unfold F_R12_Right_1
     dsimp only
     refine ⟨rfl, ?_⟩
     exact x24
    ·unfold F_R12_Right_2 at x24
     dsimp only at x24
     obtain ⟨rfl, x24⟩ := x24
     refine b8 ?_
     refine bk ?_
     refine aP ?_
     refine see x24 fun Z O hf => ?_
     simp only [Fits, ba, bc, and_true] at hf
     refine sr1 hn ?_
     simp -dsimp [hf]
     cases hm
     refine bh ?_
     exact EE.here (by simp -dsimp [hf])
 ·refine aR (by simp -dsimp) c7 ?_
  refine b9 ?_
  refine aX ?_
  cases hm
  refine bd nofun ?_
  exact ⟨rfl, EE.here (by simp -dsimp [hf, c7])⟩
theorem c_R12_Right (t : Tree) (r : Bool) (hm : m_R12_Right t = some r) : PureCall Tryz.prog 88 [.u (.agg [dI t.States, dR2 t.Hood, dR1 t.Nodes])] (vT r) := by
 refine bN Tryz.func88 Tryz.ntmps88 fun cx hn => ?_
 unfold m_R12_Right at hm
 refine srs hn ?_
 simp -dsimp
 refine srs hn ?_
 simp -dsimp
 refine aU ?_
 obtain ⟨a, j29, hm⟩ := bnd hm
 refine scE [(1, vX 1), (3, vI (aY t.Nodes)), (32, vT a)] [(1, .box [dI t.States, dR2 t.Hood, dR1 t.Nodes])] ?_ fun Z O hf => ?_
 ·replace hm := j29
  clear j29
  refine sr1 hn ?_
  rcases aZ hm with ⟨c1, hm⟩ | ⟨c1, hm⟩
  ·simp -dsimp [c1]
   cases hm
   exact EE.here (by simp -dsimp)
  ·rcases aZ hm with ⟨c2, hm⟩ | ⟨c2, hm⟩
   ·simp -dsimp [c1, c2]
    cases hm
    exact EE.here (by simp -dsimp)
   ·obtain ⟨y, h3, hm⟩ := bnd hm
    simp -dsimp [c1, c2]
    refine b7 (c_R07_Right t.Hood y h3) (dkL hn) ?_
    rcases aZ hm with ⟨c4, hm⟩ | ⟨c4, hm⟩
    ·simp -dsimp [c4]
     cases hm
     exact EE.here (by simp -dsimp)
    ·rcases aZ hm with ⟨c5, hm⟩ | ⟨c5, hm⟩
     ·simp -dsimp [c4, c5]
      cases hm
      exact EE.here (by simp -dsimp)
     ·simp -dsimp [c4, c5]
      cases hm
      exact EE.here (by simp -dsimp)
 ·clear j29
  simp only [Fits, ba, bc, and_true] at hf
  rcases aZ hm with ⟨c6, hm⟩ | ⟨c6, hm⟩
  ·refine aS (by simp -dsimp [hf]) c6 ?_
   refine srs hn ?_
   simp -dsimp
   refine aV (aX ?_)
   cases hm
   refine ⟨.inr rfl, ?_⟩
   exact EE.here (by simp -dsimp)
  ·refine aR (by simp -dsimp [hf]) c6 ?_
   refine aT (aP (aU ?_))
   refine srs hn ?_
   simp -dsimp
   refine aW ?_
   obtain ⟨o_, g26, hm⟩ := bnd hm
   refine bo (l_R12_Right_1 cx hn t g26) (by
     try dsimp only
     exact EE.here (by simp -dsimp [hf])
   ) fun ee Z O x27 => ?_
   rcases o_ with r | _u
   ·unfold F_R12_Right_1 at x27
    dsimp only at x27
    obtain ⟨rfl, x27⟩ := x27
    refine bz (aX ?_)
    cases hm
    exact ⟨.inr rfl, x27⟩
   ·unfold F_R12_Right_1 at x27
    dsimp only at x27
    obtain ⟨rfl, x27⟩ := x27
    refine b8 ?_
    refine aP ?_
    refine see x27 fun Z O hf => ?_
    simp only [Fits, ba, bc, and_true] at hf
    refine cy bm mixed (by rw [hn]; kernel_rfl) ?_
    obtain ⟨x, h28, hm⟩ := bnd hm
    simp -dsimp [hf, h28]
    cases hm
    exact aV ⟨.inr rfl, EE.here (by simp -dsimp)⟩
theorem c_R21_Size (w hv aO : Int) (r : Bool) (hm : m_R21_Size w hv aO = some r) : PureCall Tryz.prog 118 [vI w, vI hv, vI aO] (vT r) := by
 refine bN Tryz.func118 Tryz.ntmps118 fun cx hn => ?_
 unfold m_R21_Size at hm
 refine srs hn ?_
 simp -dsimp
 obtain ⟨a, j7, hm⟩ := bnd hm
 refine scE [(6, vT a)] [] ?_ fun Z O hf => ?_
 ·replace hm := j7
  clear j7
  refine sr1 hn ?_
  rcases aZ hm with ⟨c1, hm⟩ | ⟨c1, hm⟩
  ·rcases aZ hm with ⟨c2, hm⟩ | ⟨c2, hm⟩
   ·rcases aZ hm with ⟨c3, hm⟩ | ⟨c3, hm⟩
    ·rcases aZ hm with ⟨c4, hm⟩ | ⟨c4, hm⟩
     ·rcases aZ hm with ⟨c5, hm⟩ | ⟨c5, hm⟩
      ·rcases aZ hm with ⟨c6, hm⟩ | ⟨c6, hm⟩
       ·simp -dsimp [c1, c2, c3, c4, c5, c6]
        cases hm
        exact EE.here (by simp -dsimp)
       ·simp -dsimp [c1, c2, c3, c4, c5, c6]
        cases hm
        exact EE.here (by simp -dsimp)
      ·simp -dsimp [c1, c2, c3, c4, c5]
       cases hm
       exact EE.here (by simp -dsimp)
     ·simp -dsimp [c1, c2, c3, c4]
      cases hm
      exact EE.here (by simp -dsimp)
    ·simp -dsimp [c1, c2, c3]
     cases hm
     exact EE.here (by simp -dsimp)
   ·simp -dsimp [c1, c2]
    cases hm
    exact EE.here (by simp -dsimp)
  ·simp -dsimp [c1]
   cases hm
   exact EE.here (by simp -dsimp)
 ·clear j7
  simp only [Fits, ba, bc, and_true] at hf
  cases hm
  exact aV ⟨.inr rfl, EE.here (by simp -dsimp [hf])⟩
def F_R21_Right_1 (cx : Cx) (_gv : Grid) (tt : Bool ⊕ Unit) (ee : Exit) (Z : Env) (O : Sto) : Prop := match tt with
 | .inl r => ee = .ret /\ EE cx (fun Z O => ∃ v, cX tb Z O Tryz.f89.results.toList = some v /\ (v.frz O).free = true /\ (v.frz O).wk (vT r)) Z O
 | .inr _u => ee = .exit 0 /\ EE cx (bp [] []) Z O
theorem l_R21_Right_1 (cx : Cx) (hn : cx.n = 44) (gv : Grid) {fu : Nat} {stt : Int} {tt : Bool ⊕ Unit} (hh : b0 (b_R21_Right_1 gv) fu stt = some tt) {Z : Env} {O : Sto}
  (hE : bu (fun i : Int => [(1, vX 1), (3, vI i)]) (fun _i : Int => [(1, .box [dI gv.W, dI gv.H, dI gv.Edge, dL gv.Cells])]) stt Z O) : Swp Tryz.prog cx (.loop (bL [1, 1, 0, 1, 0, 0] (bn Tryz.f89))) Z O (F_R21_Right_1 cx gv tt) := by
 refine bv hE hh (F_R21_Right_1 cx gv) ?_
 rintro i r hm Z O hf
 simp only [Fits, ba, bc, and_true] at hf
 unfold b_R21_Right_1 at hm
 dsimp only at hm
 refine aU ?_
 refine srs hn ?_
 simp -dsimp [hf]
 rcases aZ hm with ⟨c4, hm⟩ | ⟨c4, hm⟩
 ·refine aS (by simp -dsimp) c4 ?_
  refine aT (aP (aU (aW ?_)))
  obtain ⟨a1, j8, hm⟩ := bnd hm
  refine scE [(1, vX 1), (3, vI i), (43, vT a1)] [(1, .box [dI gv.W, dI gv.H, dI gv.Edge, dL gv.Cells])] ?_ fun Z O hf => ?_
  ·replace hm := j8
   clear j8
   refine sr1 hn ?_
   obtain ⟨x, h5, hm⟩ := bnd hm
   rcases aZ hm with ⟨c6, hm⟩ | ⟨c6, hm⟩
   ·simp -dsimp [hf, c4, h5, c6]
    cases hm
    exact EE.here (by simp -dsimp [hf])
   ·simp -dsimp [hf, c4, h5, c6]
    cases hm
    exact EE.here (by simp -dsimp [hf])
  ·clear j8
   simp only [Fits, ba, bc, and_true] at hf
   rcases aZ hm with ⟨c7, hm⟩ | ⟨c7, hm⟩
   ·refine aS (by simp -dsimp [hf]) c7 ?_
    refine srs hn ?_
    simp -dsimp
    refine aV (bz (aX ?_))
    cases hm
    refine bd nofun ?_
    exact ⟨rfl, EE.here (by simp -dsimp [Tryz.results89])⟩
   ·refine aR (by simp -dsimp [hf]) c7 ?_
    refine aT ?_
    refine bk ?_
    refine aP ?_
    refine sr1 hn ?_
    simp -dsimp [hf]
    cases hm
    refine bh ?_
    exact EE.here (by simp -dsimp [hf])
 ·refine aR (by simp -dsimp) c4 ?_
  refine b9 ?_
  refine aX ?_
  cases hm
  refine bd nofun ?_
  exact ⟨rfl, EE.here (by simp -dsimp [c4])⟩
theorem c_R21_Right (gv : Grid) (r : Bool) (hm : m_R21_Right gv = some r) : PureCall Tryz.prog 89 [.u (.agg [dI gv.W, dI gv.H, dI gv.Edge, dL gv.Cells])] (vT r) := by
 refine bN Tryz.func89 Tryz.ntmps89 fun cx hn => ?_
 unfold m_R21_Right at hm
 refine srs hn ?_
 simp -dsimp
 refine aU ?_
 obtain ⟨a, j11, hm⟩ := bnd hm
 refine scE [(1, vX 1), (22, vT a)] [(1, .box [dI gv.W, dI gv.H, dI gv.Edge, dL gv.Cells])] ?_ fun Z O hf => ?_
 ·replace hm := j11
  clear j11
  refine sr1 hn ?_
  obtain ⟨y, h1, hm⟩ := bnd hm
  simp -dsimp
  refine b7 (c_R21_Size gv.W gv.H gv.Edge y h1) (dkL hn) ?_
  rcases aZ hm with ⟨c2, hm⟩ | ⟨c2, hm⟩
  ·simp -dsimp [c2]
   cases hm
   exact EE.here (by simp -dsimp)
  ·simp -dsimp [c2]
   cases hm
   exact EE.here (by simp -dsimp)
 ·clear j11
  simp only [Fits, ba, bc, and_true] at hf
  rcases aZ hm with ⟨c3, hm⟩ | ⟨c3, hm⟩
  ·refine aS (by simp -dsimp [hf]) c3 ?_
   refine srs hn ?_
   simp -dsimp
   refine aV (aX ?_)
   cases hm
   refine ⟨.inr rfl, ?_⟩
   exact EE.here (by simp -dsimp)
  ·refine aR (by simp -dsimp [hf]) c3 ?_
   refine aT (aP (aU ?_))
   refine srs hn ?_
   simp -dsimp
   refine aW ?_
   obtain ⟨o_, g9, hm⟩ := bnd hm
   refine bo (l_R21_Right_1 cx hn gv g9) (by
     try dsimp only
     exact EE.here (by simp -dsimp [hf])
   ) fun ee Z O x10 => ?_
   rcases o_ with r | _u
   ·unfold F_R21_Right_1 at x10
    dsimp only at x10
    obtain ⟨rfl, x10⟩ := x10
    refine bz (aX ?_)
    cases hm
    exact ⟨.inr rfl, x10⟩
   ·unfold F_R21_Right_1 at x10
    dsimp only at x10
    obtain ⟨rfl, x10⟩ := x10
    refine b8 ?_
    refine aP ?_
    refine see x10 fun Z O hf => ?_
    simp only [Fits, ba, bc, and_true] at hf
    refine srs hn ?_
    simp -dsimp
    cases hm
    exact aV ⟨.inr rfl, EE.here (by simp -dsimp)⟩
theorem c_R07_Abs (n r : Int) (hm : m_R07_Abs n = some r) : PureCall Tryz.prog 62 [vI n] (vI r) := by
 refine bN Tryz.func62 Tryz.ntmps62 fun cx hn => ?_
 unfold m_R07_Abs at hm
 refine srs hn ?_
 simp -dsimp
 refine srs hn ?_
 simp -dsimp
 cases hm
 exact aV ⟨.inr rfl, EE.here (by simp -dsimp)⟩
def F_R07_Radius_1 (cx : Cx) (_l : List Point) (tt : Int) (ee : Exit) (Z : Env) (O : Sto) : Prop := match tt with
 | n => ee = .exit 0 /\ EE cx (bp [(3, vI n)] []) Z O
theorem l_R07_Radius_1 (cx : Cx) (hn : cx.n = 29) (l : List Point) {fu : Nat} {stt : Int × Int} {tt : Int} (hh : b0 (b_R07_Radius_1 l) fu stt = some tt) {Z : Env} {O : Sto}
  (hE : bu (fun stt : Int × Int => match stt with | (n, i) => [(0, .u (.one (dR2 l))), (3, vI n), (4, vI i)]) (fun stt : Int × Int => match stt with | (_n, _i) => []) stt Z O) : Swp Tryz.prog cx (.loop (bL [1, 1, 1, 0, 1, 0, 0] (bn Tryz.f18))) Z O (F_R07_Radius_1 cx l tt) := by
 refine bv hE hh (F_R07_Radius_1 cx l) ?_
 rintro ⟨n, i⟩ r hm Z O hf
 simp only [Fits, ba, bc, and_true] at hf
 unfold b_R07_Radius_1 at hm
 dsimp only at hm
 refine aU ?_
 refine srs hn ?_
 simp -dsimp [hf]
 rcases aZ hm with ⟨c3, hm⟩ | ⟨c3, hm⟩
 ·refine aS (by simp -dsimp) c3 ?_
  refine aT (aP (aU (aW ?_)))
  refine sw_qt bm mixed (by rw [hn]; kernel_rfl) ?_
  obtain ⟨x, h4, hm⟩ := bnd hm
  obtain ⟨y1, h5, hm⟩ := bnd hm
  simp -dsimp [hf, c3, h4]
  refine bi (c_R07_Abs x.X y1 h5) ?_
  obtain ⟨y2, h6, hm⟩ := bnd hm
  simp -dsimp [hf, h4]
  refine bi (c_R07_Abs x.Y y2 h6) ?_
  simp -dsimp
  refine bk ?_
  refine aP ?_
  refine sr1 hn ?_
  simp -dsimp [hf]
  cases hm
  refine bh ?_
  exact EE.here (by simp -dsimp [hf])
 ·refine aR (by simp -dsimp) c3 ?_
  refine b9 ?_
  refine aX ?_
  cases hm
  refine bd nofun ?_
  exact ⟨rfl, EE.here (by simp -dsimp [hf, c3])⟩
theorem c_R07_Radius (l : List Point) (r : Int) (hm : m_R07_Radius l = some r) : PureCall Tryz.prog 18 [.u (.one (dR2 l))] (vI r) := by
 refine bN Tryz.func18 Tryz.ntmps18 fun cx hn => ?_
 unfold m_R07_Radius at hm
 refine srs hn ?_
 simp -dsimp
 refine aU ?_
 refine srs hn ?_
 obtain ⟨y, h1, hm⟩ := bnd hm
 simp -dsimp
 refine b7 (c_R07_Right l y h1) (dkL hn) ?_
 simp -dsimp
 rcases aZ hm with ⟨c2, hm⟩ | ⟨c2, hm⟩
 ·refine aS (by simp -dsimp) c2 ?_
  refine srs hn ?_
  simp -dsimp [c2]
  refine aV (aX ?_)
  cases hm
  refine ⟨.inr rfl, ?_⟩
  exact EE.here (by simp -dsimp)
 ·refine aR (by simp -dsimp) c2 ?_
  refine aT (aP ?_)
  refine srs hn ?_
  simp -dsimp [c2]
  refine aU ?_
  refine srs hn ?_
  simp -dsimp
  refine aW ?_
  obtain ⟨n, g7, hm⟩ := bnd hm
  refine bo (l_R07_Radius_1 cx hn l g7) (by
    try dsimp only
    exact EE.here (by simp -dsimp)
  ) fun ee Z O x8 => ?_
  unfold F_R07_Radius_1 at x8
  dsimp only at x8
  obtain ⟨rfl, x8⟩ := x8
  refine b8 ?_
  refine aP ?_
  refine see x8 fun Z O hf => ?_
  simp only [Fits, ba, bc, and_true] at hf
  refine srs hn ?_
  simp -dsimp [hf]
  cases hm
  exact aV ⟨.inr rfl, EE.here (by simp -dsimp)⟩
def F_R45_Check_1 (cx : Cx) (t : Tree) (gv : Grid) (tt : Int ⊕ Unit) (ee : Exit) (Z : Env) (O : Sto) : Prop := match tt with
 | .inl r => ee = .ret /\ EE cx (fun Z O => ∃ v, cX tb Z O Tryz.f46.results.toList = some v /\ (v.frz O).free = true /\ (v.frz O).wk (vI r)) Z O
 | .inr _u => ee = .exit 0 /\ EE cx (bp [(2, vX 2), (3, vX 3)] [(2, .box [dI t.States, dR2 t.Hood, dR1 t.Nodes]), (3, .box [dI gv.W, dI gv.H, dI gv.Edge, dL gv.Cells])]) Z O
theorem l_R45_Check_1 (cx : Cx) (hn : cx.n = 43) (t : Tree) (gv : Grid) {fu : Nat} {stt : Int} {tt : Int ⊕ Unit} (hh : b0 (b_R45_Check_1 t gv) fu stt = some tt) {Z : Env} {O : Sto}
  (hE : bu (fun i : Int => [(2, vX 2), (3, vX 3), (5, vI i)]) (fun _i : Int => [(2, .box [dI t.States, dR2 t.Hood, dR1 t.Nodes]), (3, .box [dI gv.W, dI gv.H, dI gv.Edge, dL gv.Cells])]) stt Z O) : Swp Tryz.prog cx (.loop (bL [1, 1, 1, 0, 1, 0, 0] (bn Tryz.f46))) Z O (F_R45_Check_1 cx t gv tt) := by
 refine bv hE hh (F_R45_Check_1 cx t gv) ?_
 rintro i r hm Z O hf
 simp only [Fits, ba, bc, and_true] at hf
 unfold b_R45_Check_1 at hm
 dsimp only at hm
 refine aU ?_
 refine srs hn ?_
 simp -dsimp [hf]
 rcases aZ hm with ⟨c5, hm⟩ | ⟨c5, hm⟩
 ·refine aS (by simp -dsimp) c5 ?_
  refine aT (aP (aU (aW ?_)))
  refine cy bm mixed (by rw [hn]; kernel_rfl) ?_
  obtain ⟨x, h6, hm⟩ := bnd hm
  simp -dsimp [hf, c5, h6]
  rcases aZ hm with ⟨c7, hm⟩ | ⟨c7, hm⟩
  ·refine aS (by simp -dsimp) c7 ?_
   refine srs hn ?_
   simp -dsimp [c7]
   refine aV (bz (aX ?_))
   cases hm
   refine bd nofun ?_
   exact ⟨rfl, EE.here (by simp -dsimp [Tryz.results46])⟩
  ·refine aR (by simp -dsimp) c7 ?_
   refine aT ?_
   refine bk ?_
   refine aP ?_
   refine sr1 hn ?_
   simp -dsimp [hf, c7]
   cases hm
   refine bh ?_
   exact EE.here (by simp -dsimp [hf])
 ·refine aR (by simp -dsimp) c5 ?_
  refine b9 ?_
  refine aX ?_
  cases hm
  refine bd nofun ?_
  exact ⟨rfl, EE.here (by simp -dsimp [hf, c5])⟩
theorem c_R45_Check (t : Tree) (gv : Grid) (r : Int) (hm : m_R45_Check t gv = some r) : PureCall Tryz.prog 46 [.u (.agg [dI t.States, dR2 t.Hood, dR1 t.Nodes]), .u (.agg [dI gv.W, dI gv.H, dI gv.Edge, dL gv.Cells])] (vI r) := by
 refine bN Tryz.func46 Tryz.ntmps46 fun cx hn => ?_
 unfold m_R45_Check at hm
 refine srs hn ?_
 simp -dsimp
 refine aU ?_
 refine srs hn ?_
 obtain ⟨y, h1, hm⟩ := bnd hm
 simp -dsimp
 refine b7 (c_R12_Right t y h1) (dkL hn) ?_
 simp -dsimp
 rcases aZ hm with ⟨c2, hm⟩ | ⟨c2, hm⟩
 ·refine aS (by simp -dsimp) c2 ?_
  refine srs hn ?_
  simp -dsimp [c2]
  refine aV (aX ?_)
  cases hm
  refine ⟨.inr rfl, ?_⟩
  exact EE.here (by simp -dsimp)
 ·refine aR (by simp -dsimp) c2 ?_
  refine aT (aP (aU ?_))
  refine srs hn ?_
  obtain ⟨y1, h3, hm⟩ := bnd hm
  simp -dsimp [c2]
  refine b7 (c_R21_Right gv y1 h3) (dkL hn) ?_
  simp -dsimp
  rcases aZ hm with ⟨c4, hm⟩ | ⟨c4, hm⟩
  ·refine aS (by simp -dsimp) c4 ?_
   refine srs hn ?_
   simp -dsimp [c4]
   refine aV (aX ?_)
   cases hm
   refine ⟨.inr rfl, ?_⟩
   exact EE.here (by simp -dsimp)
  ·refine aR (by simp -dsimp) c4 ?_
   refine aT (aP (aU ?_))
   refine srs hn ?_
   simp -dsimp [c4]
   refine aW ?_
   obtain ⟨o_, g8, hm⟩ := bnd hm
   refine bo (l_R45_Check_1 cx hn t gv g8) (by
     try dsimp only
     exact EE.here (by simp -dsimp)
   ) fun ee Z O x9 => ?_
   rcases o_ with r | _u
   ·unfold F_R45_Check_1 at x9
    dsimp only at x9
    obtain ⟨rfl, x9⟩ := x9
    refine bz (aX ?_)
    cases hm
    exact ⟨.inr rfl, x9⟩
   ·unfold F_R45_Check_1 at x9
    dsimp only at x9
    obtain ⟨rfl, x9⟩ := x9
    refine b8 ?_
    refine aP ?_
    refine see x9 fun Z O hf => ?_
    simp only [Fits, ba, bc, and_true] at hf
    refine srs hn ?_
    obtain ⟨y2, h10, hm⟩ := bnd hm
    simp -dsimp [hf]
    refine b7 (c_R07_Radius t.Hood y2 h10) (dkL hn) ?_
    simp -dsimp
    refine aU ?_
    refine srs hn ?_
    simp -dsimp [hf]
    rcases aZ hm with ⟨c11, hm⟩ | ⟨c11, hm⟩
    ·refine aS (by simp -dsimp) c11 ?_
     refine srs hn ?_
     simp -dsimp [c11]
     refine aV (aX ?_)
     cases hm
     refine ⟨.inr rfl, ?_⟩
     exact EE.here (by simp -dsimp)
    ·refine aR (by simp -dsimp) c11 ?_
     refine aT (aP ?_)
     refine srs hn ?_
     simp -dsimp [c11]
     cases hm
     exact aV ⟨.inr rfl, EE.here (by simp -dsimp)⟩
theorem c_R18_Bits (states r : Int) (hm : m_R18_Bits states = some r) : PureCall Tryz.prog 17 [vI states] (vI r) := by
 refine bN Tryz.func17 Tryz.ntmps17 fun cx hn => ?_
 unfold m_R18_Bits at hm
 refine srs hn ?_
 simp -dsimp
 refine aU ?_
 refine srs hn ?_
 simp -dsimp
 rcases aZ hm with ⟨c1, hm⟩ | ⟨c1, hm⟩
 ·refine sct c1 ?_
  refine srs hn ?_
  simp -dsimp [c1]
  refine aV (aX ?_)
  cases hm
  refine ⟨.inr rfl, ?_⟩
  exact EE.here (by simp -dsimp)
 ·refine scf c1 ?_
  refine aT (aP (aU ?_))
  obtain ⟨a, j7, hm⟩ := bnd hm
  refine scE [(0, vI states), (10, vT a)] [] ?_ fun Z O hf => ?_
  ·replace hm := j7
   clear j7
   refine sr1 hn ?_
   rcases aZ hm with ⟨c2, hm⟩ | ⟨c2, hm⟩
   ·simp -dsimp [c1, c2]
    cases hm
    exact EE.here (by simp -dsimp)
   ·simp -dsimp [c1, c2]
    cases hm
    exact EE.here (by simp -dsimp)
  ·clear j7
   simp only [Fits, ba, bc, and_true] at hf
   rcases aZ hm with ⟨c3, hm⟩ | ⟨c3, hm⟩
   ·refine aS (by simp -dsimp [hf]) c3 ?_
    refine srs hn ?_
    simp -dsimp
    refine aV (aX ?_)
    cases hm
    refine ⟨.inr rfl, ?_⟩
    exact EE.here (by simp -dsimp)
   ·refine aR (by simp -dsimp [hf]) c3 ?_
    refine aT (aP (aU ?_))
    obtain ⟨a1, j6, hm⟩ := bnd hm
    refine scE [(16, vT a1)] [] ?_ fun Z O hf => ?_
    ·replace hm := j6
     clear j6
     refine sr1 hn ?_
     rcases aZ hm with ⟨c4, hm⟩ | ⟨c4, hm⟩
     ·simp -dsimp [hf, c4]
      cases hm
      exact EE.here (by simp -dsimp)
     ·simp -dsimp [hf, c4]
      cases hm
      exact EE.here (by simp -dsimp)
    ·clear j6
     simp only [Fits, ba, bc, and_true] at hf
     rcases aZ hm with ⟨c5, hm⟩ | ⟨c5, hm⟩
     ·refine aS (by simp -dsimp [hf]) c5 ?_
      refine srs hn ?_
      simp -dsimp
      refine aV (aX ?_)
      cases hm
      refine ⟨.inr rfl, ?_⟩
      exact EE.here (by simp -dsimp)
     ·refine aR (by simp -dsimp [hf]) c5 ?_
      refine aT (aP ?_)
      refine srs hn ?_
      simp -dsimp
      cases hm
      exact aV ⟨.inr rfl, EE.here (by simp -dsimp)⟩
theorem c_R45_bit (n k r : Int) (hm : m_R45_bit n k = some r) : PureCall Tryz.prog 92 [vI n, vI k] (vI r) := by
 refine bN Tryz.func92 Tryz.ntmps92 fun cx hn => ?_
 unfold m_R45_bit at hm
 refine srs hn ?_
 simp -dsimp
 refine srs hn ?_
 obtain ⟨n1, h1, hm⟩ := bnd hm
 simp -dsimp [h1]
 cases hm
 exact aV ⟨.inr rfl, EE.here (by simp -dsimp)⟩
def F_R45_against_1 (cx : Cx) (_p : List Int) (_cv : Int) (tt : (List Int)) (ee : Exit) (Z : Env) (O : Sto) : Prop := match tt with
 | out => ee = .exit 0 /\ EE cx (bp [(5, vO 5000)] [(5000, .row 1 3 (List.map (rI .i64) out))]) Z O
theorem l_R45_against_1 (cx : Cx) (hn : cx.n = 33) (p : List Int) (cv : Int) {fu : Nat} {stt : Int × (List Int)} {tt : (List Int)} (hh : b0 (b_R45_against_1 p cv) fu stt = some tt) {Z : Env} {O : Sto}
  (hE : bu (fun stt : Int × (List Int) => match stt with | (jv, _out) => [(0, .u (.one (dL p))), (1, vI cv), (5, vO 5000), (6, vI jv)]) (fun stt : Int × (List Int) => match stt with | (_jv, out) => [(5000, .row 1 3 (List.map (rI .i64) out))]) stt Z O) : Swp Tryz.prog cx (.loop (bL [1, 1, 0, 1, 0, 0] (bn Tryz.f78))) Z O (F_R45_against_1 cx p cv tt) := by
 refine bv hE hh (F_R45_against_1 cx p cv) ?_
 rintro ⟨jv, out⟩ r hm Z O hf
 simp only [Fits, ba, bc, and_true] at hf
 unfold b_R45_against_1 at hm
 dsimp only at hm
 refine aU ?_
 refine srs hn ?_
 simp -dsimp [hf]
 rcases aZ hm with ⟨c1, hm⟩ | ⟨c1, hm⟩
 ·refine aS (by simp -dsimp) c1 ?_
  refine aT (aP ?_)
  obtain ⟨aF, j8, hm⟩ := bnd hm
  refine scE [(0, .u (.one (dL p))), (1, vI cv), (5, vO 5000), (6, vI jv)] [(5000, .row 1 3 (List.map (rI .i64) aF))] ?_ fun Z O hf => ?_
  ·replace hm := j8
   clear j8
   refine aW ?_
   refine srs hn ?_
   obtain ⟨y, h2, hm⟩ := bnd hm
   simp -dsimp [hf, c1]
   refine b7 (c_R45_bit cv jv y h2) (dkL hn) ?_
   simp -dsimp
   rcases aZ hm with ⟨c3, hm⟩ | ⟨c3, hm⟩
   ·refine aS (by simp -dsimp) c3 ?_
    refine sr1 hn ?_
    obtain ⟨x, h4, hm⟩ := bnd hm
    obtain ⟨l, h5, hm⟩ := bnd hm
    obtain ⟨h5a, h5e⟩ := bj h5
    replace h5e := h5e.symm
    subst h5e
    try simp only [List.length_cons, List.length_nil, Nat.zero_add] at h5a
    simp -dsimp [hf, c3, h4, h5a]
    refine bk ?_
    refine aP ?_
    cases hm
    refine emv 24 5000 ?_
    exact EE.here (by simp -dsimp [hf])
   ·refine aR (by simp -dsimp) c3 ?_
    refine sr1 hn ?_
    obtain ⟨x, h6, hm⟩ := bnd hm
    obtain ⟨l, h7, hm⟩ := bnd hm
    obtain ⟨h7a, h7e⟩ := bj h7
    replace h7e := h7e.symm
    subst h7e
    try simp only [List.length_cons, List.length_nil, Nat.zero_add] at h7a
    simp -dsimp [hf, c3, h6, h7a]
    refine bk ?_
    refine aP ?_
    cases hm
    refine emv 31 5000 ?_
    exact EE.here (by simp -dsimp [hf])
  ·clear j8
   simp only [Fits, ba, bc, and_true] at hf
   refine sr1 hn ?_
   simp -dsimp [hf]
   cases hm
   refine bh ?_
   exact EE.here (by simp -dsimp [hf])
 ·refine aR (by simp -dsimp) c1 ?_
  refine b9 ?_
  refine aX ?_
  cases hm
  refine bd nofun ?_
  exact ⟨rfl, EE.here (by simp -dsimp [hf, c1])⟩
theorem c_R45_against (p : List Int) (cv : Int) (r : List Int) (hm : m_R45_against p cv = some r) : PureCall Tryz.prog 78 [.u (.one (dL p)), vI cv] (.u (.one (dL r))) := by
 refine bN Tryz.func78 Tryz.ntmps78 fun cx hn => ?_
 unfold m_R45_against at hm
 refine srs hn ?_
 simp -dsimp
 refine srs hn ?_
 simp -dsimp
 refine aU ?_
 refine srs hn ?_
 simp -dsimp
 refine aW ?_
 obtain ⟨out, g9, hm⟩ := bnd hm
 refine bo (l_R45_against_1 cx hn p cv g9) (by
   try dsimp only
   refine EE.step (Wk.own0 5 5000 1 3 (by simp -dsimp) (by decide)) ?_
   exact eeh
 ) fun ee Z O x10 => ?_
 unfold F_R45_against_1 at x10
 dsimp only at x10
 obtain ⟨rfl, x10⟩ := x10
 refine b8 ?_
 refine aP ?_
 refine see x10 fun Z O hf => ?_
 simp only [Fits, ba, bc, and_true] at hf
 refine srs hn ?_
 simp -dsimp [hf]
 cases hm
 exact aV ⟨.inr rfl, EE.here (by simp -dsimp [hf])⟩
theorem g_R45_clause_o_N (aw : Int) (az : List (List Int)) (l : List Int) (r : Unit) (hm : m_R45_clause_o_N aw az l = some r) : GFn Tryz.prog 50 [.u (.agg [dI aw, .own 1000000]), .u (.one (dL l)), .u (.one (.d .nil))] [.row 1 26 (List.map (rS 1 (rI .i64)) az)] (.u (.agg [dI aw, .own 1000001])) [none, some (.row 1 26 (List.map (rS 1 (rI .i64)) (az ++ [(([] ++ l) ++ [])])))] := by
 refine bD bm _ Tryz.func50 rfl (by kernel_rfl) (by simp [Tryz.ntmps50]) (by simp) (by first | rfl | simp) (by first | rfl | simp) fun cx hn hk => ?_
 replace hn : cx.n = 22 := hn.trans Tryz.ntmps50
 replace hk : cx.k = 1 := hk
 unfold m_R45_clause_o_N at hm
 refine srs hn ?_
 simp -dsimp
 refine srs hn ?_
 simp -dsimp
 refine srs hn ?_
 obtain ⟨l1, h1, hm⟩ := bnd hm
 obtain ⟨h1a, h1e⟩ := bj h1
 replace h1e := h1e.symm
 subst h1e
 try simp only [List.length_nil, Nat.zero_add] at h1a
 simp -dsimp [h1a]
 refine srs hn ?_
 obtain ⟨l2, h2, hm⟩ := bnd hm
 obtain ⟨h2a, h2e⟩ := bj h2
 replace h2e := h2e.symm
 subst h2e
 try simp only [List.length_nil, List.nil_append] at h2a
 simp -dsimp [h1a]
 refine Swp.pre (Wk.frz 13 1 3 (List.map (rI .i64) (([] ++ l) ++ [])) (by simp -dsimp)) ?_
 refine dd bm mixed 6 7 7 0 [[0, 1]] [[20]] [] none (by rw [hn]; kernel_rfl) bY ?_
 dsimp only [List.take, List.drop, cM, cO, dp, pk, List.cons_append, List.nil_append, List.flatten_cons, List.flatten_nil, bV, bU, List.append_nil]
 obtain ⟨l3, h3, hm⟩ := bnd hm
 obtain ⟨h3a, h3e⟩ := bj h3
 replace h3e := h3e.symm
 subst h3e
 try simp only [List.length_cons, List.length_nil, Nat.zero_add, List.nil_append] at h3a
 simp -dsimp [h3a]
 refine aV ?_
 cases hm
 refine ⟨.inr rfl, ?_⟩
 refine emr 20 1000001 hk ?_
 exact EE.here (by simp -dsimp)
end Go.Proofs.YtjfjmdmdkbpdfaaGreatDoor
