/- That the code does what the functions say (made by cc.py). -/
import Derived.Test.YtjfjmdmdkbpdfaaGreatDoorWa11
namespace Go.Proofs.YtjfjmdmdkbpdfaaGreatDoor
open Go.AM Go.Proofs
set_option maxRecDepth 100000
attribute [-simp] qlookup ct d7 Ob.wipe Ob.ren Ob.frz1
def F_R13_reduced_1 (cx : Cx) (l : List Node) (y : List Int) (tt : (List Int)) (ee : Exit) (Z : Env) (O : Sto) : Prop := match tt with
 | done => ee = .exit 0 /\ EE cx (bp [(0, .u (.one (dR1 l))), (3, .u (.one (dL y))), (4, vO 5000)] [(5000, .row 1 3 (List.map (rI .i64) done))]) Z O
theorem l_R13_reduced_1 (cx : Cx) (hn : cx.n = 27) (l : List Node) (y : List Int) {fu : Nat} {stt : Int × (List Int)} {tt : (List Int)} (hh : b0 (b_R13_reduced_1 l y) fu stt = some tt) {Z : Env} {O : Sto}
  (hE : bu (fun stt : Int × (List Int) => match stt with | (i, _done) => [(0, .u (.one (dR1 l))), (3, .u (.one (dL y))), (4, vO 5000), (5, vI i)]) (fun stt : Int × (List Int) => match stt with | (_i, done) => [(5000, .row 1 3 (List.map (rI .i64) done))]) stt Z O) : Swp Tryz.prog cx (.loop (bL [1, 1, 1, 0, 1, 0, 0] (bn Tryz.f90))) Z O (F_R13_reduced_1 cx l y tt) := by
 refine bv hE hh (F_R13_reduced_1 cx l y) ?_
 rintro ⟨i, done⟩ r hm Z O hf
 simp only [Fits, ba, bc, and_true] at hf
 unfold b_R13_reduced_1 at hm
 dsimp only at hm
 refine aU ?_
 refine srs hn ?_
 simp -dsimp [hf]
 rcases aZ hm with ⟨c2, hm⟩ | ⟨c2, hm⟩
 ·refine aS (by simp -dsimp) c2 ?_
  refine aT (aP (aU (aW ?_)))
  refine sr1 hn ?_
  obtain ⟨l1, h3, hm⟩ := bnd hm
  obtain ⟨h3a, h3e⟩ := bj h3
  replace h3e := h3e.symm
  subst h3e
  try simp only [List.length_cons, List.length_nil, Nat.zero_add] at h3a
  simp -dsimp [hf, c2, h3a]
  refine bk ?_
  refine aP ?_
  refine sr1 hn ?_
  simp -dsimp [hf]
  cases hm
  refine bh ?_
  refine emv 16 5000 ?_
  exact EE.here (by simp -dsimp [hf])
 ·refine aR (by simp -dsimp) c2 ?_
  refine b9 ?_
  refine aX ?_
  cases hm
  refine bd nofun ?_
  exact ⟨rfl, EE.here (by simp -dsimp [hf, c2])⟩
theorem c_R13_reduced (l r : List Node) (hm : m_R13_reduced l = some r) : PureCall Tryz.prog 90 [.u (.one (dR1 l))] (.u (.one (dR1 r))) := by
 refine bN Tryz.func90 Tryz.ntmps90 fun cx hn => ?_
 unfold m_R13_reduced at hm
 refine srs hn ?_
 simp -dsimp
 refine srs hn ?_
 obtain ⟨y, h1, hm⟩ := bnd hm
 simp -dsimp
 refine b7 (c_R13_classes l y h1) (dkL hn) ?_
 simp -dsimp
 refine srs hn ?_
 simp -dsimp
 refine aU ?_
 refine srs hn ?_
 simp -dsimp
 refine aW ?_
 obtain ⟨done, g4, hm⟩ := bnd hm
 refine bo (l_R13_reduced_1 cx hn l y g4) (by
   try dsimp only
   refine EE.step (Wk.own0 4 5000 1 3 (by simp -dsimp) (by decide)) ?_
   exact EE.here (by simp -dsimp)
 ) fun ee Z O x5 => ?_
 unfold F_R13_reduced_1 at x5
 dsimp only at x5
 obtain ⟨rfl, x5⟩ := x5
 refine b8 ?_
 refine aP ?_
 refine see x5 fun Z O hf => ?_
 simp only [Fits, ba, bc, and_true] at hf
 refine srs hn ?_
 obtain ⟨x, h6, hm⟩ := bnd hm
 obtain ⟨y1, h7, hm⟩ := bnd hm
 simp -dsimp [hf, h6]
 refine clg (g_R13_walk_o_N l y x done y1 h7) [5000] [5001] (by simp -dsimp [hf]) (dkL hn) ?_
 simp -dsimp
 cases hm
 exact aV ⟨.inr rfl, EE.here (by simp -dsimp)⟩
theorem c_R13_Reduce (t r : Tree) (hm : m_R13_Reduce t = some r) : PureCall Tryz.prog 47 [.u (.agg [dI t.States, dR2 t.Hood, dR1 t.Nodes])] (.u (.agg [dI r.States, dR2 r.Hood, dR1 r.Nodes])) := by
 refine bN Tryz.func47 Tryz.ntmps47 fun cx hn => ?_
 unfold m_R13_Reduce at hm
 refine srs hn ?_
 simp -dsimp
 refine aU ?_
 refine srs hn ?_
 obtain ⟨y, h1, hm⟩ := bnd hm
 simp -dsimp
 refine b7 (c_R12_Right t y h1) (dkL hn) ?_
 simp -dsimp
 rcases aZ hm with ⟨c2, hm⟩ | ⟨c2, hm⟩
 ·refine aS (by simp -dsimp) c2 ?_
  refine srs hn ?_
  simp -dsimp [c2]
  refine aV (aX ?_)
  cases hm
  refine ⟨.inr rfl, ?_⟩
  exact EE.here (by simp -dsimp)
 ·refine aR (by simp -dsimp) c2 ?_
  refine aT (aP ?_)
  refine sw_drNs bm mixed 7 (by rw [hn]; kernel_rfl) ?_
  dsimp only [List.take, List.drop]
  obtain ⟨y1, h3, hm⟩ := bnd hm
  simp -dsimp [c2]
  refine bi (c_R13_reduced t.Nodes y1 h3) ?_
  simp -dsimp
  cases hm
  exact aV ⟨.inr rfl, EE.here (by simp -dsimp)⟩
theorem c_R45_fits (f : Aw) (r : Bool) (hm : m_R45_fits f = some r) : PureCall Tryz.prog 38 [.u (.agg [dI f.Vars, .d (.sl 1 (List.map (rS 1 (rI .i64)) f.Clauses))])] (vT r) := by
 refine bN Tryz.func38 Tryz.ntmps38 fun cx hn => ?_
 unfold m_R45_fits at hm
 refine srs hn ?_
 simp -dsimp
 obtain ⟨a, j2, hm⟩ := bnd hm
 refine scE [(2, vT a)] [] ?_ fun Z O hf => ?_
 ·replace hm := j2
  clear j2
  refine sr1 hn ?_
  rcases aZ hm with ⟨c1, hm⟩ | ⟨c1, hm⟩
  ·simp -dsimp [c1]
   cases hm
   exact EE.here (by simp -dsimp)
  ·simp -dsimp [c1]
   cases hm
   exact EE.here (by simp -dsimp)
 ·clear j2
  simp only [Fits, ba, bc, and_true] at hf
  cases hm
  exact aV ⟨.inr rfl, EE.here (by simp -dsimp [hf])⟩
def F_R45_equal_1 (cx : Cx) (_l : List Int) (tt : Bool ⊕ Unit) (ee : Exit) (Z : Env) (O : Sto) : Prop := match tt with
 | .inl r => ee = .ret /\ EE cx (fun Z O => ∃ v, cX tb Z O Tryz.f91.results.toList = some v /\ (v.frz O).free = true /\ (v.frz O).wk (vT r)) Z O
 | .inr _u => ee = .exit 0 /\ EE cx (bp [] []) Z O
theorem l_R45_equal_1 (cx : Cx) (hn : cx.n = 18) (l : List Int) {fu : Nat} {stt : Int} {tt : Bool ⊕ Unit} (hh : b0 (b_R45_equal_1 l) fu stt = some tt) {Z : Env} {O : Sto}
  (hE : bu (fun i : Int => [(0, .u (.one (dL l))), (3, vI i)]) (fun _i : Int => []) stt Z O) : Swp Tryz.prog cx (.loop (bL [1, 0, 1, 0, 0] (bn Tryz.f91))) Z O (F_R45_equal_1 cx l tt) := by
 refine bv hE hh (F_R45_equal_1 cx l) ?_
 rintro i r hm Z O hf
 simp only [Fits, ba, bc, and_true] at hf
 unfold b_R45_equal_1 at hm
 dsimp only at hm
 refine aU ?_
 refine srs hn ?_
 simp -dsimp [hf]
 rcases aZ hm with ⟨c1, hm⟩ | ⟨c1, hm⟩
 ·refine aS (by simp -dsimp) c1 ?_
  refine aT (aP (aU (aW ?_)))
  refine cy bm mixed (by rw [hn]; kernel_rfl) ?_
  obtain ⟨x, h2, hm⟩ := bnd hm
  obtain ⟨x1, h3, hm⟩ := bnd hm
  simp -dsimp [hf, c1, h2, h3]
  rcases aZ hm with ⟨c4, hm⟩ | ⟨c4, hm⟩
  ·refine aS (by simp -dsimp) c4 ?_
   refine srs hn ?_
   simp -dsimp [c4]
   refine aV (bz (aX ?_))
   cases hm
   refine bd nofun ?_
   exact ⟨rfl, EE.here (by simp -dsimp [Tryz.results91])⟩
  ·refine aR (by simp -dsimp) c4 ?_
   refine aT ?_
   refine bk ?_
   refine aP ?_
   refine sr1 hn ?_
   simp -dsimp [hf, c4]
   cases hm
   refine bh ?_
   exact EE.here (by simp -dsimp [hf])
 ·refine aR (by simp -dsimp) c1 ?_
  refine b9 ?_
  refine aX ?_
  cases hm
  refine bd nofun ?_
  exact ⟨rfl, EE.here (by simp -dsimp [c1])⟩
theorem c_R45_equal (l : List Int) (r : Bool) (hm : m_R45_equal l = some r) : PureCall Tryz.prog 91 [.u (.one (dL l))] (vT r) := by
 refine bN Tryz.func91 Tryz.ntmps91 fun cx hn => ?_
 unfold m_R45_equal at hm
 refine srs hn ?_
 simp -dsimp
 refine aU ?_
 refine srs hn ?_
 simp -dsimp
 refine aW ?_
 obtain ⟨o_, g5, hm⟩ := bnd hm
 refine bo (l_R45_equal_1 cx hn l g5) (by
   try dsimp only
   exact eeh
 ) fun ee Z O x6 => ?_
 rcases o_ with r | _u
 ·unfold F_R45_equal_1 at x6
  dsimp only at x6
  obtain ⟨rfl, x6⟩ := x6
  refine bz (aX ?_)
  cases hm
  exact ⟨.inr rfl, x6⟩
 ·unfold F_R45_equal_1 at x6
  dsimp only at x6
  obtain ⟨rfl, x6⟩ := x6
  refine b8 ?_
  refine aP ?_
  refine see x6 fun Z O hf => ?_
  simp only [Fits, ba, bc, and_true] at hf
  refine srs hn ?_
  simp -dsimp
  cases hm
  exact aV ⟨.inr rfl, EE.here (by simp -dsimp)⟩
theorem g_R45_clause_o (aw : Int) (az : List (List Int)) (l more : List Int) (r : Unit) (hm : m_R45_clause_o aw az l more = some r) : GFn Tryz.prog 50 [.u (.agg [dI aw, .own 1000000]), .u (.one (dL l)), .u (.one (dL more))] [.row 1 26 (List.map (rS 1 (rI .i64)) az)] (.u (.agg [dI aw, .own 1000001])) [none, some (.row 1 26 (List.map (rS 1 (rI .i64)) (az ++ [(([] ++ l) ++ more)])))] := by
 refine bD bm _ Tryz.func50 rfl (by kernel_rfl) (by simp [Tryz.ntmps50]) (by simp) (by first | rfl | simp) (by first | rfl | simp) fun cx hn hk => ?_
 replace hn : cx.n = 22 := hn.trans Tryz.ntmps50
 replace hk : cx.k = 1 := hk
 unfold m_R45_clause_o at hm
 refine srs hn ?_
 simp -dsimp
 refine srs hn ?_
 simp -dsimp
 refine srs hn ?_
 obtain ⟨l1, h1, hm⟩ := bnd hm
 obtain ⟨h1a, h1e⟩ := bj h1
 replace h1e := h1e.symm
 subst h1e
 try simp only [List.length_nil, Nat.zero_add] at h1a
 simp -dsimp [h1a]
 refine srs hn ?_
 obtain ⟨l2, h2, hm⟩ := bnd hm
 obtain ⟨h2a, h2e⟩ := bj h2
 replace h2e := h2e.symm
 subst h2e
 try simp only [List.nil_append] at h2a
 simp -dsimp [h2a]
 refine Swp.pre (Wk.frz 13 1 3 (List.map (rI .i64) (([] ++ l) ++ more)) (by simp -dsimp)) ?_
 refine dd bm mixed 6 7 7 0 [[0, 1]] [[20]] [] none (by rw [hn]; kernel_rfl) bY ?_
 dsimp only [List.take, List.drop, cM, cO, dp, pk, List.cons_append, List.nil_append, List.flatten_cons, List.flatten_nil, bV, bU, List.append_nil]
 obtain ⟨l3, h3, hm⟩ := bnd hm
 obtain ⟨h3a, h3e⟩ := bj h3
 replace h3e := h3e.symm
 subst h3e
 try simp only [List.length_cons, List.length_nil, Nat.zero_add, List.nil_append] at h3a
 simp -dsimp [h3a]
 refine aV ?_
 cases hm
 refine ⟨.inr rfl, ?_⟩
 refine emr 20 1000001 hk ?_
 exact EE.here (by simp -dsimp)
def F_R45_tree_o_o_2 (cx : Cx) (t : Tree) (in_ : List Az) (y i aA : Int) (l : List (List Int)) (of_ : List Az) (x : Node) (tt : (List Az)) (ee : Exit) (Z : Env) (O : Sto) : Prop := match tt with
 | kids => ee = .exit 2 /\ EE cx (bp [(2, vO 1000001), (3, vX 3), (4, vX 4), (6, vX 6), (7, vX 7), (8, vI y), (9, vO 5007), (10, vI i), (11, vX 11), (12, vO 5000)] [(3, .box [dI aA, .own 5006]), (4, .box [dI t.States, dR2 t.Hood, dR1 t.Nodes]), (6, .box [dI 0, .d .nil]), (7, .box [dI 0, .d .nil]), (11, .box [dI x.Level, dL x.Next]), (5000, .row 2 93 (List.map Az.row kids)), (5006, .row 1 26 (List.map (rS 1 (rI .i64)) l)), (5007, .row 2 93 (List.map Az.row of_)), (1000001, .row 2 93 (List.map Az.row in_))]) Z O
theorem l_R45_tree_o_o_2 (cx : Cx) (hn : cx.n = 204) (_hk : cx.k = 2) (t : Tree) (in_ : List Az) (y i aA : Int) (l : List (List Int)) (of_ : List Az) (x : Node) {fu : Nat} {stt : Int × (List Az)} {tt : (List Az)} (hh : b0 (b_R45_tree_o_o_2 t in_ y i aA l of_ x) fu stt = some tt) {Z : Env} {O : Sto}
  (hE : bu (fun stt : Int × (List Az) => match stt with | (s, _kids) => [(2, vO 1000001), (3, vX 3), (4, vX 4), (6, vX 6), (7, vX 7), (8, vI y), (9, vO 5007), (10, vI i), (11, vX 11), (12, vO 5000), (13, vI s)]) (fun stt : Int × (List Az) => match stt with | (_s, kids) => [(3, .box [dI aA, .own 5006]), (4, .box [dI t.States, dR2 t.Hood, dR1 t.Nodes]), (6, .box [dI 0, .d .nil]), (7, .box [dI 0, .d .nil]), (11, .box [dI x.Level, dL x.Next]), (5000, .row 2 93 (List.map Az.row kids)), (5006, .row 1 26 (List.map (rS 1 (rI .i64)) l)), (5007, .row 2 93 (List.map Az.row of_)), (1000001, .row 2 93 (List.map Az.row in_))]) stt Z O) : Swp Tryz.prog cx (.loop (bL [1, 1, 1, 0, 1, 0, 0, 1, 0, 0, 1, 1, 0, 1, 0, 0] (bn Tryz.f48))) Z O (F_R45_tree_o_o_2 cx t in_ y i aA l of_ x tt) := by
 refine bv hE hh (F_R45_tree_o_o_2 cx t in_ y i aA l of_ x) ?_
 rintro ⟨s, kids⟩ r hm Z O hf
 simp only [Fits, ba, bc, and_true] at hf
 unfold b_R45_tree_o_o_2 at hm
 dsimp only at hm
 refine aU ?_
 refine srs hn ?_
 simp -dsimp [hf]
 rcases aZ hm with ⟨c6, hm⟩ | ⟨c6, hm⟩
 ·refine aS (by simp -dsimp) c6 ?_
  refine aT (aP ?_)
  obtain ⟨kids1, j13, hm⟩ := bnd hm
  refine scE [(2, vO 1000001), (3, vX 3), (4, vX 4), (6, vX 6), (7, vX 7), (8, vI y), (9, vO 5007), (10, vI i), (11, vX 11), (12, vO 5000), (13, vI s)] [(3, .box [dI aA, .own 5006]), (4, .box [dI t.States, dR2 t.Hood, dR1 t.Nodes]), (6, .box [dI 0, .d .nil]), (7, .box [dI 0, .d .nil]), (11, .box [dI x.Level, dL x.Next]), (5000, .row 2 93 (List.map Az.row kids1)), (5006, .row 1 26 (List.map (rS 1 (rI .i64)) l)), (5007, .row 2 93 (List.map Az.row of_)), (1000001, .row 2 93 (List.map Az.row in_))] ?_ fun Z O hf => ?_
  ·replace hm := j13
   clear j13
   refine aW ?_
   refine srs hn ?_
   simp -dsimp [hf, c6]
   rcases aZ hm with ⟨c7, hm⟩ | ⟨c7, hm⟩
   ·refine aS (by simp -dsimp) c7 ?_
    refine sr1 hn ?_
    obtain ⟨x1, h8, hm⟩ := bnd hm
    obtain ⟨l1, h9, hm⟩ := bnd hm
    obtain ⟨h9a, h9e⟩ := bj h9
    replace h9e := h9e.symm
    subst h9e
    try simp only [List.length_cons, List.length_nil, Nat.zero_add] at h9a
    simp -dsimp [hf, c7, h8, h9a]
    refine bk ?_
    refine aP ?_
    cases hm
    refine emv 55 5000 ?_
    exact EE.here (by simp -dsimp [hf])
   ·refine aR (by simp -dsimp) c7 ?_
    refine sr1 hn ?_
    obtain ⟨x1, h10, hm⟩ := bnd hm
    obtain ⟨x2, h11, hm⟩ := bnd hm
    obtain ⟨l1, h12, hm⟩ := bnd hm
    obtain ⟨h12a, h12e⟩ := bj h12
    replace h12e := h12e.symm
    subst h12e
    try simp only [List.length_cons, List.length_nil, Nat.zero_add] at h12a
    simp -dsimp [hf, c7, h10, h11, bC h11, h12a]
    refine bk ?_
    refine aP ?_
    cases hm
    refine emv 66 5000 ?_
    exact EE.here (by simp -dsimp [hf])
  ·clear j13
   simp only [Fits, ba, bc, and_true] at hf
   refine sr1 hn ?_
   simp -dsimp [hf]
   cases hm
   refine bh ?_
   exact EE.here (by simp -dsimp [hf])
 ·refine aR (by simp -dsimp) c6 ?_
  refine b9 ?_
  refine aX ?_
  cases hm
  refine bd nofun ?_
  exact ⟨rfl, EE.here (by simp -dsimp [hf, c6])⟩
def F_R45_tree_o_o_3 (cx : Cx) (t : Tree) (in_ : List Az) (y i : Int) (l : List (List Int)) (of_ : List Az) (x : Node) (kids : List Az) (tt : (Int × (List Int))) (ee : Exit) (Z : Env) (O : Sto) : Prop := match tt with
 | (ay, l1) => ee = .exit 4 /\ EE cx (bp [(2, vO 1000001), (3, vX 3), (4, vX 4), (6, vX 6), (7, vX 7), (8, vI y), (9, vO 5007), (10, vI i), (11, vX 11), (12, vO 5000), (14, vX 14)] [(3, .box [dI ay, .own 5006]), (4, .box [dI t.States, dR2 t.Hood, dR1 t.Nodes]), (6, .box [dI 0, .d .nil]), (7, .box [dI 0, .d .nil]), (11, .box [dI x.Level, dL x.Next]), (14, .box [dI 0, .own 5001]), (5000, .row 2 93 (List.map Az.row kids)), (5001, .row 1 3 (List.map (rI .i64) l1)), (5006, .row 1 26 (List.map (rS 1 (rI .i64)) l)), (5007, .row 2 93 (List.map Az.row of_)), (1000001, .row 2 93 (List.map Az.row in_))]) Z O
theorem l_R45_tree_o_o_3 (cx : Cx) (hn : cx.n = 204) (_hk : cx.k = 2) (t : Tree) (in_ : List Az) (y i : Int) (l : List (List Int)) (of_ : List Az) (x : Node) (kids : List Az) {fu : Nat} {stt : Int × Int × (List Int)} {tt : (Int × (List Int))} (hh : b0 (b_R45_tree_o_o_3 t in_ y i l of_ x kids) fu stt = some tt) {Z : Env} {O : Sto}
  (hE : bu (fun stt : Int × Int × (List Int) => match stt with | (k, _ay, _l1) => [(2, vO 1000001), (3, vX 3), (4, vX 4), (6, vX 6), (7, vX 7), (8, vI y), (9, vO 5007), (10, vI i), (11, vX 11), (12, vO 5000), (14, vX 14), (15, vI k)]) (fun stt : Int × Int × (List Int) => match stt with | (_k, ay, l1) => [(3, .box [dI ay, .own 5006]), (4, .box [dI t.States, dR2 t.Hood, dR1 t.Nodes]), (6, .box [dI 0, .d .nil]), (7, .box [dI 0, .d .nil]), (11, .box [dI x.Level, dL x.Next]), (14, .box [dI 0, .own 5001]), (5000, .row 2 93 (List.map Az.row kids)), (5001, .row 1 3 (List.map (rI .i64) l1)), (5006, .row 1 26 (List.map (rS 1 (rI .i64)) l)), (5007, .row 2 93 (List.map Az.row of_)), (1000001, .row 2 93 (List.map Az.row in_))]) stt Z O) : Swp Tryz.prog cx (.loop (bL [1, 1, 1, 0, 1, 0, 0, 1, 0, 0, 1, 1, 1, 1, 1, 0, 1, 0, 0] (bn Tryz.f48))) Z O (F_R45_tree_o_o_3 cx t in_ y i l of_ x kids tt) := by
 refine bv hE hh (F_R45_tree_o_o_3 cx t in_ y i l of_ x kids) ?_
 rintro ⟨k, ay, l1⟩ r hm Z O hf
 simp only [Fits, ba, bc, and_true] at hf
 unfold b_R45_tree_o_o_3 at hm
 dsimp only at hm
 refine aU ?_
 refine srs hn ?_
 simp -dsimp [hf]
 rcases aZ hm with ⟨c20, hm⟩ | ⟨c20, hm⟩
 ·refine aS (by simp -dsimp) c20 ?_
  refine aT (aP (aU (aW ?_)))
  refine srs hn ?_
  simp -dsimp [hf, c20]
  refine sr1 hn ?_
  obtain ⟨l2, h21, hm⟩ := bnd hm
  obtain ⟨h21a, h21e⟩ := bj h21
  replace h21e := h21e.symm
  subst h21e
  try simp only [List.length_cons, List.length_nil, Nat.zero_add] at h21a
  simp -dsimp [hf, h21a]
  refine bk ?_
  refine aP ?_
  refine sr1 hn ?_
  simp -dsimp [hf]
  cases hm
  refine bh ?_
  refine emv 91 5001 ?_
  exact EE.here (by simp -dsimp [hf])
 ·refine aR (by simp -dsimp) c20 ?_
  refine b9 ?_
  refine aX ?_
  cases hm
  refine bd nofun ?_
  exact ⟨rfl, EE.here (by simp -dsimp [hf, c20])⟩
def F_R45_tree_o_o_5 (cx : Cx) (t : Tree) (in_ : List Az) (y i : Int) (of_ : List Az) (x : Node) (kids : List Az) (ay : Int) (l1 : List Int) (s : Int) (_y2 : List Int) (tt : (List (List Int))) (ee : Exit) (Z : Env) (O : Sto) : Prop := match tt with
 | l4 => ee = .exit 8 /\ EE cx (bp [(2, vO 1000001), (3, vX 3), (4, vX 4), (6, vX 6), (7, vX 7), (8, vI y), (9, vO 96), (10, vI i), (11, vX 11), (12, vO 5000), (14, vX 14), (16, vI s)] [(3, .box [dI ay, .own 5006]), (4, .box [dI t.States, dR2 t.Hood, dR1 t.Nodes]), (6, .box [dI 0, .d .nil]), (7, .box [dI 0, .d .nil]), (11, .box [dI x.Level, dL x.Next]), (14, .box [dI 0, dL l1]), (96, .row 2 93 (List.map Az.row (of_ ++ [(⟨0, l1⟩ : Az)]))), (5000, .row 2 93 (List.map Az.row kids)), (5006, .row 1 26 (List.map (rS 1 (rI .i64)) l4)), (1000001, .row 2 93 (List.map Az.row in_))]) Z O
theorem l_R45_tree_o_o_5 (cx : Cx) (hn : cx.n = 204) (_hk : cx.k = 2) (t : Tree) (in_ : List Az) (y i : Int) (of_ : List Az) (x : Node) (kids : List Az) (ay : Int) (l1 : List Int) (s : Int) (y2 : List Int) {fu : Nat} {stt : Int × (List (List Int))} {tt : (List (List Int))} (hh : b0 (b_R45_tree_o_o_5 t in_ y i of_ x kids ay l1 s y2) fu stt = some tt) {Z : Env} {O : Sto}
  (hE : bu (fun stt : Int × (List (List Int)) => match stt with | (k, _l4) => [(2, vO 1000001), (3, vX 3), (4, vX 4), (6, vX 6), (7, vX 7), (8, vI y), (9, vO 96), (10, vI i), (11, vX 11), (12, vO 5000), (14, vX 14), (16, vI s), (17, .u (.one (dL y2))), (18, vI k)]) (fun stt : Int × (List (List Int)) => match stt with | (_k, l4) => [(3, .box [dI ay, .own 5006]), (4, .box [dI t.States, dR2 t.Hood, dR1 t.Nodes]), (6, .box [dI 0, .d .nil]), (7, .box [dI 0, .d .nil]), (11, .box [dI x.Level, dL x.Next]), (14, .box [dI 0, dL l1]), (96, .row 2 93 (List.map Az.row (of_ ++ [(⟨0, l1⟩ : Az)]))), (5000, .row 2 93 (List.map Az.row kids)), (5006, .row 1 26 (List.map (rS 1 (rI .i64)) l4)), (1000001, .row 2 93 (List.map Az.row in_))]) stt Z O) : Swp Tryz.prog cx (.loop (bL [1, 1, 1, 0, 1, 0, 0, 1, 0, 0, 1, 1, 1, 1, 1, 1, 1, 1, 0, 0, 1, 0, 0, 1, 1, 0, 0] (bn Tryz.f48))) Z O (F_R45_tree_o_o_5 cx t in_ y i of_ x kids ay l1 s y2 tt) := by
 refine bv hE hh (F_R45_tree_o_o_5 cx t in_ y i of_ x kids ay l1 s y2) ?_
 rintro ⟨k, l4⟩ r hm Z O hf
 simp only [Fits, ba, bc, and_true] at hf
 unfold b_R45_tree_o_o_5 at hm
 dsimp only at hm
 refine aU ?_
 refine srs hn ?_
 simp -dsimp [hf]
 rcases aZ hm with ⟨c28, hm⟩ | ⟨c28, hm⟩
 ·refine aS (by simp -dsimp) c28 ?_
  refine aT (aP ?_)
  obtain ⟨l5, j41, hm⟩ := bnd hm
  refine scE [(2, vO 1000001), (3, vX 3), (4, vX 4), (6, vX 6), (7, vX 7), (8, vI y), (9, vO 96), (10, vI i), (11, vX 11), (12, vO 5000), (14, vX 14), (16, vI s), (17, .u (.one (dL y2))), (18, vI k)] [(3, .box [dI ay, .own 5006]), (4, .box [dI t.States, dR2 t.Hood, dR1 t.Nodes]), (6, .box [dI 0, .d .nil]), (7, .box [dI 0, .d .nil]), (11, .box [dI x.Level, dL x.Next]), (14, .box [dI 0, dL l1]), (96, .row 2 93 (List.map Az.row (of_ ++ [(⟨0, l1⟩ : Az)]))), (5000, .row 2 93 (List.map Az.row kids)), (5006, .row 1 26 (List.map (rS 1 (rI .i64)) l5)), (1000001, .row 2 93 (List.map Az.row in_))] ?_ fun Z O hf => ?_
  ·replace hm := j41
   clear j41
   refine aW (aW ?_)
   refine srs hn ?_
   obtain ⟨x2, h29, hm⟩ := bnd hm
   simp -dsimp [hf, c28, h29, bC h29]
   rcases aZ hm with ⟨c30, hm⟩ | ⟨c30, hm⟩
   ·refine aS (by simp -dsimp) c30 ?_
    refine sw_drNs bm mixed 17 (by rw [hn]; kernel_rfl) ?_
    dsimp only [List.take, List.drop]
    obtain ⟨x3, h31, hm⟩ := bnd hm
    obtain ⟨x4, h32, hm⟩ := bnd hm
    obtain ⟨y3, h33, hm⟩ := bnd hm
    simp -dsimp [hf, h29, bC h29, c30, h31, h32]
    refine clg (g_R45_clause_o ay l4 y2 [(bE .i64 x3), x4] y3 h33) [5006] [5002] (by simp -dsimp [hf]) (dkL hn) ?_
    simp -dsimp [hf]
    refine dV bm mixed 17 (by rw [hn]; kernel_rfl) ?_
    dsimp only [List.take, List.drop]
    obtain ⟨y4, h34, hm⟩ := bnd hm
    simp -dsimp [hf, h29, bC h29, h31, h32]
    refine clg (g_R45_clause_o ay (l4 ++ [(([] ++ y2) ++ [(bE .i64 x3), x4])]) y2 [x3, (bE .i64 x4)] y4 h34) [5002] [5003] (by simp -dsimp) (dkL hn) ?_
    simp -dsimp [hf]
    refine bk ?_
    refine bk ?_
    refine aP ?_
    cases hm
    refine emv 5003 5006 ?_
    exact EE.here (by simp -dsimp [hf])
   ·refine aR (by simp -dsimp) c30 ?_
    refine srs hn ?_
    obtain ⟨y3, h35, hm⟩ := bnd hm
    simp -dsimp [hf, h29, bC h29, c30]
    refine b7 (c_R45_bit x2.State k y3 h35) (dkL hn) ?_
    simp -dsimp
    rcases aZ hm with ⟨c36, hm⟩ | ⟨c36, hm⟩
    ·refine aS (by simp -dsimp) c36 ?_
     refine dV bm mixed 8 (by rw [hn]; kernel_rfl) ?_
     dsimp only [List.take, List.drop]
     obtain ⟨x3, h37, hm⟩ := bnd hm
     obtain ⟨y4, h38, hm⟩ := bnd hm
     simp -dsimp [hf, c36, h37]
     refine clg (g_R45_clause_o ay l4 y2 [x3] y4 h38) [5006] [5004] (by simp -dsimp [hf]) (dkL hn) ?_
     simp -dsimp [hf]
     refine bk ?_
     refine bk ?_
     refine aP ?_
     cases hm
     refine emv 5004 5006 ?_
     exact EE.here (by simp -dsimp [hf])
    ·refine aR (by simp -dsimp) c36 ?_
     refine dV bm mixed 9 (by rw [hn]; kernel_rfl) ?_
     dsimp only [List.take, List.drop]
     obtain ⟨x3, h39, hm⟩ := bnd hm
     obtain ⟨y4, h40, hm⟩ := bnd hm
     simp -dsimp [hf, c36, h39]
     refine clg (g_R45_clause_o ay l4 y2 [(bE .i64 x3)] y4 h40) [5006] [5005] (by simp -dsimp [hf]) (dkL hn) ?_
     simp -dsimp [hf]
     refine bk ?_
     refine bk ?_
     refine aP ?_
     cases hm
     refine emv 5005 5006 ?_
     exact EE.here (by simp -dsimp [hf])
  ·clear j41
   simp only [Fits, ba, bc, and_true] at hf
   refine sr1 hn ?_
   simp -dsimp [hf]
   cases hm
   refine bh ?_
   exact EE.here (by simp -dsimp [hf])
 ·refine aR (by simp -dsimp) c28 ?_
  refine b9 ?_
  refine aX ?_
  cases hm
  refine bd nofun ?_
  exact ⟨rfl, EE.here (by simp -dsimp [hf, c28])⟩
def F_R45_tree_o_o_4 (cx : Cx) (t : Tree) (in_ : List Az) (y i : Int) (of_ : List Az) (_x : Node) (_kids : List Az) (ay : Int) (l1 : List Int) (tt : (List (List Int))) (ee : Exit) (Z : Env) (O : Sto) : Prop := match tt with
 | l3 => ee = .exit 6 /\ EE cx (bp [(2, vO 1000001), (3, vX 3), (4, vX 4), (6, vX 6), (7, vX 7), (8, vI y), (9, vO 96), (10, vI i)] [(3, .box [dI ay, .own 5006]), (4, .box [dI t.States, dR2 t.Hood, dR1 t.Nodes]), (6, .box [dI 0, .d .nil]), (7, .box [dI 0, .d .nil]), (96, .row 2 93 (List.map Az.row (of_ ++ [(⟨0, l1⟩ : Az)]))), (5006, .row 1 26 (List.map (rS 1 (rI .i64)) l3)), (1000001, .row 2 93 (List.map Az.row in_))]) Z O
theorem l_R45_tree_o_o_4 (cx : Cx) (hn : cx.n = 204) (hk : cx.k = 2) (t : Tree) (in_ : List Az) (y i : Int) (of_ : List Az) (x : Node) (kids : List Az) (ay : Int) (l1 : List Int) {fu : Nat} {stt : Int × (List (List Int))} {tt : (List (List Int))} (hh : b0 (b_R45_tree_o_o_4 t in_ y i of_ x kids ay l1) fu stt = some tt) {Z : Env} {O : Sto}
  (hE : bu (fun stt : Int × (List (List Int)) => match stt with | (s, _l3) => [(2, vO 1000001), (3, vX 3), (4, vX 4), (6, vX 6), (7, vX 7), (8, vI y), (9, vO 96), (10, vI i), (11, vX 11), (12, vO 5000), (14, vX 14), (16, vI s)]) (fun stt : Int × (List (List Int)) => match stt with | (_s, l3) => [(3, .box [dI ay, .own 5006]), (4, .box [dI t.States, dR2 t.Hood, dR1 t.Nodes]), (6, .box [dI 0, .d .nil]), (7, .box [dI 0, .d .nil]), (11, .box [dI x.Level, dL x.Next]), (14, .box [dI 0, dL l1]), (96, .row 2 93 (List.map Az.row (of_ ++ [(⟨0, l1⟩ : Az)]))), (5000, .row 2 93 (List.map Az.row kids)), (5006, .row 1 26 (List.map (rS 1 (rI .i64)) l3)), (1000001, .row 2 93 (List.map Az.row in_))]) stt Z O) : Swp Tryz.prog cx (.loop (bL [1, 1, 1, 0, 1, 0, 0, 1, 0, 0, 1, 1, 1, 1, 1, 1, 1, 1, 0, 0] (bn Tryz.f48))) Z O (F_R45_tree_o_o_4 cx t in_ y i of_ x kids ay l1 tt) := by
 refine bv hE hh (F_R45_tree_o_o_4 cx t in_ y i of_ x kids ay l1) ?_
 rintro ⟨s, l3⟩ r hm Z O hf
 simp only [Fits, ba, bc, and_true] at hf
 unfold b_R45_tree_o_o_4 at hm
 dsimp only at hm
 refine aU ?_
 refine srs hn ?_
 simp -dsimp [hf]
 rcases aZ hm with ⟨c25, hm⟩ | ⟨c25, hm⟩
 ·refine aS (by simp -dsimp) c25 ?_
  refine aT (aP (aU (aW ?_)))
  refine srs hn ?_
  obtain ⟨x1, h26, hm⟩ := bnd hm
  obtain ⟨y2, h27, hm⟩ := bnd hm
  simp -dsimp [hf, c25, h26, bC h26]
  refine b7 (c_R45_against x1.Vars s y2 h27) (dkL hn) ?_
  simp -dsimp
  refine srs hn ?_
  simp -dsimp
  refine aW ?_
  obtain ⟨l4, g42, hm⟩ := bnd hm
  refine bo (l_R45_tree_o_o_5 cx hn hk t in_ y i of_ x kids ay l1 s y2 g42) (by
    try dsimp only
    exact EE.here (by simp -dsimp [hf])
  ) fun ee Z O x43 => ?_
  unfold F_R45_tree_o_o_5 at x43
  dsimp only at x43
  obtain ⟨rfl, x43⟩ := x43
  refine b8 ?_
  refine bk ?_
  refine aP ?_
  refine see x43 fun Z O hf => ?_
  simp only [Fits, ba, bc, and_true] at hf
  refine sr1 hn ?_
  simp -dsimp [hf]
  cases hm
  refine bh ?_
  exact EE.here (by simp -dsimp [hf])
 ·refine aR (by simp -dsimp) c25 ?_
  refine b9 ?_
  refine aX ?_
  cases hm
  refine bd nofun ?_
  exact ⟨rfl, EE.here (by simp -dsimp [hf, c25])⟩
def F_R45_tree_o_o_1 (cx : Cx) (_t : Tree) (in_ : List Az) (_y : Int) (tt : (Int × (List (List Int)) × (List Az))) (ee : Exit) (Z : Env) (O : Sto) : Prop := match tt with
 | (aA, l, of_) => ee = .exit 0 /\ EE cx (bp [(3, vX 3), (6, vX 6), (7, vX 7), (9, vO 5007)] [(3, .box [dI aA, .own 5006]), (6, .box [dI 0, .d .nil]), (7, .box [dI 0, .d .nil]), (5006, .row 1 26 (List.map (rS 1 (rI .i64)) l)), (5007, .row 2 93 (List.map Az.row of_)), (1000001, .row 2 93 (List.map Az.row in_))]) Z O
theorem l_R45_tree_o_o_1 (cx : Cx) (hn : cx.n = 204) (hk : cx.k = 2) (t : Tree) (in_ : List Az) (y : Int) {fu : Nat} {stt : Int × Int × (List (List Int)) × (List Az)} {tt : (Int × (List (List Int)) × (List Az))} (hh : b0 (b_R45_tree_o_o_1 t in_ y) fu stt = some tt) {Z : Env} {O : Sto}
  (hE : bu (fun stt : Int × Int × (List (List Int)) × (List Az) => match stt with | (i, _aA, _l, _of_) => [(2, vO 1000001), (3, vX 3), (4, vX 4), (6, vX 6), (7, vX 7), (8, vI y), (9, vO 5007), (10, vI i)]) (fun stt : Int × Int × (List (List Int)) × (List Az) => match stt with | (_i, aA, l, of_) => [(3, .box [dI aA, .own 5006]), (4, .box [dI t.States, dR2 t.Hood, dR1 t.Nodes]), (6, .box [dI 0, .d .nil]), (7, .box [dI 0, .d .nil]), (5006, .row 1 26 (List.map (rS 1 (rI .i64)) l)), (5007, .row 2 93 (List.map Az.row of_)), (1000001, .row 2 93 (List.map Az.row in_))]) stt Z O) : Swp Tryz.prog cx (.loop (bL [1, 1, 1, 0, 1, 0, 0] (bn Tryz.f48))) Z O (F_R45_tree_o_o_1 cx t in_ y tt) := by
 refine bv hE hh (F_R45_tree_o_o_1 cx t in_ y) ?_
 rintro ⟨i, aA, l, of_⟩ r hm Z O hf
 simp only [Fits, ba, bc, and_true] at hf
 unfold b_R45_tree_o_o_1 at hm
 dsimp only at hm
 refine aU ?_
 obtain ⟨a, j46, hm⟩ := bnd hm
 refine scE [(2, vO 1000001), (3, vX 3), (4, vX 4), (6, vX 6), (7, vX 7), (8, vI y), (9, vO 5007), (10, vI i), (30, vT a)] [(3, .box [dI aA, .own 5006]), (4, .box [dI t.States, dR2 t.Hood, dR1 t.Nodes]), (6, .box [dI 0, .d .nil]), (7, .box [dI 0, .d .nil]), (5006, .row 1 26 (List.map (rS 1 (rI .i64)) l)), (5007, .row 2 93 (List.map Az.row of_)), (1000001, .row 2 93 (List.map Az.row in_))] ?_ fun Z O hf => ?_
 ·replace hm := j46
  clear j46
  refine sr1 hn ?_
  rcases aZ hm with ⟨c2, hm⟩ | ⟨c2, hm⟩
  ·obtain ⟨y1, h3, hm⟩ := bnd hm
   simp -dsimp [hf, c2]
   refine dH (us' := [.u (.agg [dI ((⟨aA, l⟩ : Aw).Vars), .d (.sl 1 (List.map (rS 1 (rI .i64)) ((⟨aA, l⟩ : Aw).Clauses)))])]) (c_R45_fits (⟨aA, l⟩ : Aw) y1 h3) (by simp -dsimp [hf]) rfl (dkL hn) ?_
   simp -dsimp
   cases hm
   exact EE.here (by simp -dsimp [hf])
  ·simp -dsimp [hf, c2]
   cases hm
   exact EE.here (by simp -dsimp [hf])
 ·clear j46
  simp only [Fits, ba, bc, and_true] at hf
  rcases aZ hm with ⟨c4, hm⟩ | ⟨c4, hm⟩
  ·refine aS (by simp -dsimp [hf]) c4 ?_
   refine aT (aP (aU (aW ?_)))
   refine srs hn ?_
   obtain ⟨x, h5, hm⟩ := bnd hm
   simp -dsimp [hf, h5]
   refine srs hn ?_
   simp -dsimp
   refine aU ?_
   refine srs hn ?_
   simp -dsimp
   refine aW ?_
   obtain ⟨kids, g14, hm⟩ := bnd hm
   refine bo (l_R45_tree_o_o_2 cx hn hk t in_ y i aA l of_ x g14) (by
     try dsimp only
     refine EE.step (Wk.own0 12 5000 2 93 (by simp -dsimp) (by decide)) ?_
     exact EE.here (by simp -dsimp [hf])
   ) fun ee Z O x15 => ?_
   unfold F_R45_tree_o_o_2 at x15
   dsimp only at x15
   obtain ⟨rfl, x15⟩ := x15
   refine b8 ?_
   refine aP ?_
   refine see x15 fun Z O hf => ?_
   simp only [Fits, ba, bc, and_true] at hf
   refine aU ?_
   refine srs hn ?_
   obtain ⟨y1, h16, hm⟩ := bnd hm
   simp -dsimp [hf]
   refine b7 (c_R45_equal x.Next y1 h16) (dkL hn) ?_
   simp -dsimp
   rcases aZ hm with ⟨c17, hm⟩ | ⟨c17, hm⟩
   ·refine aS (by simp -dsimp) c17 ?_
    refine srs hn ?_
    obtain ⟨x1, h18, hm⟩ := bnd hm
    obtain ⟨l1, h19, hm⟩ := bnd hm
    obtain ⟨h19a, h19e⟩ := bj h19
    replace h19e := h19e.symm
    subst h19e
    try simp only [List.length_cons, List.length_nil, Nat.zero_add] at h19a
    simp -dsimp [hf, c17, h18, idx_gn 0 h18, h19a]
    refine b9 ?_
    refine aX ?_
    refine b8 ?_
    refine aP ?_
    refine sr1 hn ?_
    simp -dsimp [hf]
    cases hm
    refine bh ?_
    refine emv 75 5007 ?_
    exact EE.here (by simp -dsimp [hf])
   ·refine aR (by simp -dsimp) c17 ?_
    refine aT (aP ?_)
    refine srs hn ?_
    simp -dsimp [c17]
    refine aU ?_
    refine srs hn ?_
    simp -dsimp
    refine aW ?_
    obtain ⟨⟨ay, l1⟩, g22, hm⟩ := bnd hm
    refine bo (l_R45_tree_o_o_3 cx hn hk t in_ y i l of_ x kids g22) (by
      try dsimp only
      refine EE.step (Wk.own0b 14 1 5001 1 3 [dI 0, .d .nil] (by simp -dsimp) (by rfl) (by decide) (by decide)) ?_
      exact EE.here (by simp -dsimp [hf])
    ) fun ee Z O x23 => ?_
    unfold F_R45_tree_o_o_3 at x23
    dsimp only at x23
    obtain ⟨rfl, x23⟩ := x23
    refine b8 ?_
    refine aP ?_
    refine see x23 fun Z O hf => ?_
    simp only [Fits, ba, bc, and_true] at hf
    refine Swp.pre (Wk.frz 5001 1 3 (List.map (rI .i64) l1) (by simp -dsimp [hf])) ?_
    refine srs hn ?_
    obtain ⟨l2, h24, hm⟩ := bnd hm
    obtain ⟨h24a, h24e⟩ := bj h24
    replace h24e := h24e.symm
    subst h24e
    try simp only [List.length_cons, List.length_nil, Nat.zero_add] at h24a
    simp -dsimp [hf, h24a]
    refine srs hn ?_
    simp -dsimp
    refine aW ?_
    obtain ⟨l3, g44, hm⟩ := bnd hm
    refine bo (l_R45_tree_o_o_4 cx hn hk t in_ y i of_ x kids ay l1 g44) (by
      try dsimp only
      exact EE.here (by simp -dsimp [hf])
    ) fun ee Z O x45 => ?_
    unfold F_R45_tree_o_o_4 at x45
    dsimp only at x45
    obtain ⟨rfl, x45⟩ := x45
    refine b8 ?_
    refine bk ?_
    refine aP ?_
    refine see x45 fun Z O hf => ?_
    simp only [Fits, ba, bc, and_true] at hf
    refine sr1 hn ?_
    simp -dsimp [hf]
    cases hm
    refine bh ?_
    refine emv 96 5007 ?_
    exact EE.here (by simp -dsimp [hf])
  ·refine aR (by simp -dsimp [hf]) c4 ?_
   refine b9 ?_
   refine aX ?_
   cases hm
   refine bd nofun ?_
   exact ⟨rfl, EE.here (by simp -dsimp [hf])⟩
theorem g_R45_tree_o_o (aw : Int) (az : List (List Int)) (t : Tree) (in_ : List Az) (r : Int × Int × (List Int) × (List (List Int))) (hm : m_R45_tree_o_o aw az t in_ = some r) : GFn Tryz.prog 48 [.u (.agg [dI aw, .own 1000000]), .u (.agg [dI t.States, dR2 t.Hood, dR1 t.Nodes]), vO 1000001] [.row 1 26 (List.map (rS 1 (rI .i64)) az), .row 2 93 (List.map Az.row in_)] (.tup [.agg [dI r.1, .own 1000002], .agg [dI r.2.1, dL r.2.2.1]]) [none, some (.row 2 93 (List.map Az.row in_)), some (.row 1 26 (List.map (rS 1 (rI .i64)) r.2.2.2))] := by
 refine bD bm _ Tryz.func48 rfl (by kernel_rfl) (by simp [Tryz.ntmps48]) (by simp) (by first | rfl | simp) (by first | rfl | simp) fun cx hn hk => ?_
 replace hn : cx.n = 204 := hn.trans Tryz.ntmps48
 replace hk : cx.k = 2 := hk
 unfold m_R45_tree_o_o at hm
 refine srs hn ?_
 simp -dsimp
 refine srs hn ?_
 obtain ⟨y, h1, hm⟩ := bnd hm
 simp -dsimp
 refine b7 (c_R18_Bits t.States y h1) (dkL hn) ?_
 simp -dsimp
 refine srs hn ?_
 simp -dsimp
 refine aU ?_
 refine srs hn ?_
 simp -dsimp
 refine aW ?_
 obtain ⟨⟨aA, l, of_⟩, g47, hm⟩ := bnd hm
 refine bo (l_R45_tree_o_o_1 cx hn hk t in_ y g47) (by
   try dsimp only
   refine emv 1000000 5006 ?_
   refine EE.step (Wk.own0 9 5007 2 93 (by simp -dsimp) (by decide)) ?_
   exact EE.here (by simp -dsimp)
 ) fun ee Z O x48 => ?_
 unfold F_R45_tree_o_o_1 at x48
 dsimp only at x48
 obtain ⟨rfl, x48⟩ := x48
 refine b8 ?_
 refine aP ?_
 refine see x48 fun Z O hf => ?_
 simp only [Fits, ba, bc, and_true] at hf
 refine aU ?_
 refine srs hn ?_
 obtain ⟨y1, h49, hm⟩ := bnd hm
 simp -dsimp [hf]
 refine dH (us' := [.u (.agg [dI ((⟨aA, l⟩ : Aw).Vars), .d (.sl 1 (List.map (rS 1 (rI .i64)) ((⟨aA, l⟩ : Aw).Clauses)))])]) (c_R45_fits (⟨aA, l⟩ : Aw) y1 h49) (by simp -dsimp [hf]) rfl (dkL hn) ?_
 simp -dsimp
 rcases aZ hm with ⟨c50, hm⟩ | ⟨c50, hm⟩
 ·refine aS (by simp -dsimp) c50 ?_
  refine srs hn ?_
  simp -dsimp [hf, c50]
  refine aV (aX ?_)
  cases hm
  refine ⟨.inr rfl, ?_⟩
  refine emr 5006 1000002 hk ?_
  exact EE.here (by simp -dsimp [hf])
 ·refine aR (by simp -dsimp) c50 ?_
  refine aT (aP ?_)
  refine dd bm mixed 7 8 8 0 [[1, 2, 3, 4, 5, 6]] [[]] [] none (by rw [hn]; kernel_rfl) bY ?_
  dsimp only [List.take, List.drop, cM, cO, dp, pk, List.cons_append, List.nil_append, List.flatten_cons, List.flatten_nil, bV, bU, List.append_nil]
  obtain ⟨x, h51, hm⟩ := bnd hm
  simp -dsimp [hf, c50, h51, bC h51]
  refine aV ?_
  cases hm
  refine ⟨.inr rfl, ?_⟩
  refine emr 5006 1000002 hk ?_
  exact EE.here (by simp -dsimp [hf])
end Go.Proofs.YtjfjmdmdkbpdfaaGreatDoor
