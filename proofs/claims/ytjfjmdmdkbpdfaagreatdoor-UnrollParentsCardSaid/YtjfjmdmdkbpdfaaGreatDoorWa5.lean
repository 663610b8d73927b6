/- That the code does what the functions say (made by cc.py). -/
import Derived.Test.YtjfjmdmdkbpdfaaGreatDoorWa4
namespace Go.Proofs.YtjfjmdmdkbpdfaaGreatDoor
open Go.AM Go.Proofs
set_option maxRecDepth 100000
attribute [-simp] qlookup ct d7 Ob.wipe Ob.ren Ob.frz1
def F_unroll_builder_select1_o_1 (cx : Cx) (ab a8 : Int) (ae : List Point) (aa : List Node) (aj : Int) (ah : List (List UInt8 × Tree)) (_aD _own : List Int) (_v : Ax) (tt : (List (List Int))) (ee : Exit) (Z : Env) (O : Sto) : Prop := match tt with
 | l => ee = .exit 0 /\ EE cx (bp [] [(5004, .row 1 26 (List.map (rS 1 (rI .i64)) l)), (1000000, .box [dI ab, .own 5004, dI a8, dR2 ae, dR1 aa, dI aj, .map 1000002]), (1000002, mOb .str kS (uA Tree.row) ah)]) Z O
theorem l_unroll_builder_select1_o_1 (cx : Cx) (hn : cx.n = 60) (_hk : cx.k = 3) (ab a8 : Int) (ae : List Point) (aa : List Node) (aj : Int) (ah : List (List UInt8 × Tree)) (aD own : List Int) (v : Ax) {fu : Nat} {stt : Int × (List (List Int))} {tt : (List (List Int))} (hh : b0 (b_unroll_builder_select1_o_1 ab a8 ae aa aj ah aD own v) fu stt = some tt) {Z : Env} {O : Sto}
  (hE : bu (fun stt : Int × (List (List Int)) => match stt with | (a, _l) => [(4, vX 4), (5, vX 5), (7, vX 7), (11, .u (.one (dL own))), (12, vI (aY own)), (13, vI a)]) (fun stt : Int × (List (List Int)) => match stt with | (_a, l) => [(4, .box [.box 1000000 0]), (5, .box [dL aD]), (7, .box [dI v.constant, .d (pnil 1 (List.map (rI .i64) v.vars))]), (5004, .row 1 26 (List.map (rS 1 (rI .i64)) l)), (1000000, .box [dI ab, .own 5004, dI a8, dR2 ae, dR1 aa, dI aj, .map 1000002]), (1000002, mOb .str kS (uA Tree.row) ah)]) stt Z O) : Swp Tryz.prog cx (.loop (bL [1, 1, 0, 0] (bn Tryz.f114))) Z O (F_unroll_builder_select1_o_1 cx ab a8 ae aa aj ah aD own v tt) := by
 refine bv hE hh (F_unroll_builder_select1_o_1 cx ab a8 ae aa aj ah aD own v) ?_
 rintro ⟨a, l⟩ r hm Z O hf
 simp only [Fits, ba, bc, and_true] at hf
 unfold b_unroll_builder_select1_o_1 at hm
 dsimp only at hm
 refine srs hn ?_
 simp -dsimp [hf]
 refine aU ?_
 rcases aZ hm with ⟨c1, hm⟩ | ⟨c1, hm⟩
 ·refine aS (by simp -dsimp) c1 ?_
  refine aT (aP ?_)
  obtain ⟨l1, j12, hm⟩ := bnd hm
  refine scE [(4, vX 4), (5, vX 5), (7, vX 7), (11, .u (.one (dL own))), (12, vI (aY own)), (13, vI a)] [(4, .box [.box 1000000 0]), (5, .box [dL aD]), (7, .box [dI v.constant, .d (pnil 1 (List.map (rI .i64) v.vars))]), (5004, .row 1 26 (List.map (rS 1 (rI .i64)) l1)), (1000000, .box [dI ab, .own 5004, dI a8, dR2 ae, dR1 aa, dI aj, .map 1000002]), (1000002, mOb .str kS (uA Tree.row) ah)] ?_ fun Z O hf => ?_
  ·replace hm := j12
   clear j12
   refine aW ?_
   refine srs hn ?_
   obtain ⟨x, h2, hm⟩ := bnd hm
   simp -dsimp [hf, c1, h2]
   refine srs hn ?_
   simp -dsimp [hf]
   refine aW ?_
   refine srs hn ?_
   simp -dsimp [hf]
   rcases aZ hm with ⟨c3, hm⟩ | ⟨c3, hm⟩
   ·refine aS (by simp -dsimp) c3 ?_
    refine srs hn ?_
    obtain ⟨u, h4, hm⟩ := bnd hm
    obtain ⟨x1, h5, hm⟩ := bnd hm
    obtain ⟨y, h6, hm⟩ := bnd hm
    simp -dsimp [hf, c3, cu h4 1 (rI .i64), h5]
    refine clg (g_unroll_builder_select1_1_o_o [(bE .i64 x), x1] ab l a8 ae aa aj ah aD y h6) [4, 1000000, 5004, 1000002, 5] [5000] (by simp -dsimp [hf]) (dkL hn) ?_
    simp -dsimp [cu h4 1 (rI .i64)]
    refine sr1 hn ?_
    obtain ⟨y1, h7, hm⟩ := bnd hm
    simp -dsimp [hf, cu h4 1 (rI .i64), h5]
    refine clg (g_unroll_builder_select1_1_o_o [x, (bE .i64 x1)] ab y a8 ae aa aj ah aD y1 h7) [4, 1000000, 5000, 1000002, 5] [5001] (by simp -dsimp) (dkL hn) ?_
    simp -dsimp
    refine bk ?_
    refine bk ?_
    refine aP ?_
    cases hm
    refine emv 5001 5004 ?_
    exact EE.here (by simp -dsimp [hf, cu h4 1 (rI .i64)])
   ·refine aR (by simp -dsimp) c3 ?_
    refine srs hn ?_
    obtain ⟨n, h8, hm⟩ := bnd hm
    simp -dsimp [hf, c3, h8]
    rcases aZ hm with ⟨c9, hm⟩ | ⟨c9, hm⟩
    ·refine aS (by simp -dsimp) c9 ?_
     refine sr1 hn ?_
     obtain ⟨y, h10, hm⟩ := bnd hm
     simp -dsimp [c9]
     refine clg (g_unroll_builder_select1_1_o_o [x] ab l a8 ae aa aj ah aD y h10) [4, 1000000, 5004, 1000002, 5] [5002] (by simp -dsimp [hf]) (dkL hn) ?_
     simp -dsimp
     refine bk ?_
     refine bk ?_
     refine aP ?_
     cases hm
     refine emv 5002 5004 ?_
     exact EE.here (by simp -dsimp [hf])
    ·refine aR (by simp -dsimp) c9 ?_
     refine sr1 hn ?_
     obtain ⟨y, h11, hm⟩ := bnd hm
     simp -dsimp [c9]
     refine clg (g_unroll_builder_select1_1_o_o [(bE .i64 x)] ab l a8 ae aa aj ah aD y h11) [4, 1000000, 5004, 1000002, 5] [5003] (by simp -dsimp [hf]) (dkL hn) ?_
     simp -dsimp
     refine bk ?_
     refine bk ?_
     refine aP ?_
     cases hm
     refine emv 5003 5004 ?_
     exact EE.here (by simp -dsimp [hf])
  ·clear j12
   simp only [Fits, ba, bc, and_true] at hf
   refine sr1 hn ?_
   simp -dsimp [hf]
   cases hm
   refine bh ?_
   exact EE.here (by simp -dsimp [hf])
 ·refine aR (by simp -dsimp) c1 ?_
  refine b9 ?_
  refine aX ?_
  cases hm
  refine bd nofun ?_
  exact ⟨rfl, EE.here (by simp -dsimp [hf, c1])⟩
theorem g_unroll_builder_select1_o (ab : Int) (ag : List (List Int)) (a8 : Int) (ae : List Point) (aa : List Node) (aj : Int) (ah : List (List UInt8 × Tree)) (aD own : List Int) (v : Ax) (r : List (List Int)) (hm : m_unroll_builder_select1_o ab ag a8 ae aa aj ah aD own v = some r) : GFn Tryz.prog 114 [vX 1000000, .u (.one (dL aD)), .u (.one (dL own)), .u (.agg [dI v.constant, .d (pnil 1 (List.map (rI .i64) v.vars))])] [.box [dI ab, .own 1000001, dI a8, dR2 ae, dR1 aa, dI aj, .map 1000002], .row 1 26 (List.map (rS 1 (rI .i64)) ag), mOb .str kS (uA Tree.row) ah] (.tup []) [some (.box [dI ab, .own 1000003, dI a8, dR2 ae, dR1 aa, dI aj, .map 1000002]), none, some (mOb .str kS (uA Tree.row) ah), some (.row 1 26 (List.map (rS 1 (rI .i64)) r))] := by
 refine bD bm _ Tryz.func114 rfl (by kernel_rfl) (by simp [Tryz.ntmps114]) (by simp) (by first | rfl | simp) (by first | rfl | simp) fun cx hn hk => ?_
 replace hn : cx.n = 60 := hn.trans Tryz.ntmps114
 replace hk : cx.k = 3 := hk
 unfold m_unroll_builder_select1_o at hm
 refine srs hn ?_
 simp -dsimp
 refine srs hn ?_
 simp -dsimp
 refine aW ?_
 obtain ⟨l, g13, hm⟩ := bnd hm
 refine bo (l_unroll_builder_select1_o_1 cx hn hk ab a8 ae aa aj ah aD own v g13) (by
   try dsimp only
   refine emv 1000001 5004 ?_
   exact eeh
 ) fun ee Z O x14 => ?_
 unfold F_unroll_builder_select1_o_1 at x14
 dsimp only at x14
 obtain ⟨rfl, x14⟩ := x14
 refine b8 ?_
 cases hm
 try refine ⟨.inl rfl, ?_⟩
 refine ee_bind (by rfl) (by rfl) x14 fun Z O hf => ?_
 simp only [Fits, ba, bc, and_true, true_and] at hf
 refine emr 5004 1000003 hk ?_
 exact EE.here (by simp -dsimp [hf])
def F_unroll_builder_tree_o_o_2 (cx : Cx) (a8 : Int) (ae : List Point) (aa : List Node) (aj : Int) (ah : List (List UInt8 × Tree)) (t : Tree) (in_ : List Ax) (a : Int) (l1 : List Ax) (_x : Node) (_x1 : Ax) (y1 : (List Int) × Int) (x2 : Ax) (_u : Unit) (tt : (List (List Int))) (ee : Exit) (Z : Env) (O : Sto) : Prop := match tt with
 | l3 => ee = .exit 2 /\ EE cx (bp [(0, vX 1000000), (2, vO 1000003), (4, vX 4), (6, vX 6), (7, vX 7), (19, .u (.one (dR1 t.Nodes))), (20, vI (aY t.Nodes)), (21, vI a)] [(4, .box [dI t.States, dR2 t.Hood, dR1 t.Nodes]), (6, .box [dI 0, .d .nil]), (7, .box [.own 17]), (17, .row 2 80 (List.map Ax.row (l1.set a.toNat (⟨x2.constant, y1.1⟩ : Ax)))), (5001, .row 1 26 (List.map (rS 1 (rI .i64)) l3)), (1000000, .box [dI y1.2, .own 5001, dI a8, dR2 ae, dR1 aa, dI aj, .map 1000002]), (1000002, mOb .str kS (uA Tree.row) ah), (1000003, .row 2 80 (List.map Ax.row in_))]) Z O
theorem l_unroll_builder_tree_o_o_2 (cx : Cx) (hn : cx.n = 77) (_hk : cx.k = 4) (a8 : Int) (ae : List Point) (aa : List Node) (aj : Int) (ah : List (List UInt8 × Tree)) (t : Tree) (in_ : List Ax) (a : Int) (l1 : List Ax) (x : Node) (x1 : Ax) (y1 : (List Int) × Int) (x2 : Ax) (u : Unit) {fu : Nat} {stt : Int × (List (List Int))} {tt : (List (List Int))} (hh : b0 (b_unroll_builder_tree_o_o_2 a8 ae aa aj ah t in_ a l1 x x1 y1 x2 u) fu stt = some tt) {Z : Env} {O : Sto}
  (hE : bu (fun stt : Int × (List (List Int)) => match stt with | (a1, _l3) => [(0, vX 1000000), (2, vO 1000003), (4, vX 4), (6, vX 6), (7, vX 7), (10, .u (.one (.fn 112 [.box 9 0, .box 7 0]))), (11, .u (.one (.d (pnil 1 (List.map (rI .i64) x1.vars))))), (12, .u (.one (dL y1.1))), (19, .u (.one (dR1 t.Nodes))), (20, vI (aY t.Nodes)), (21, vI a), (56, vI (aY x.Next)), (57, vI a1)]) (fun stt : Int × (List (List Int)) => match stt with | (_a1, l3) => [(4, .box [dI t.States, dR2 t.Hood, dR1 t.Nodes]), (6, .box [dI 0, .d .nil]), (7, .box [.own 17]), (9, .box [dI x.Level, dL x.Next]), (17, .row 2 80 (List.map Ax.row (l1.set a.toNat (⟨x2.constant, y1.1⟩ : Ax)))), (5001, .row 1 26 (List.map (rS 1 (rI .i64)) l3)), (1000000, .box [dI y1.2, .own 5001, dI a8, dR2 ae, dR1 aa, dI aj, .map 1000002]), (1000002, mOb .str kS (uA Tree.row) ah), (1000003, .row 2 80 (List.map Ax.row in_))]) stt Z O) : Swp Tryz.prog cx (.loop (bL [1, 1, 0, 1, 0, 0, 1, 1, 0, 0, 1, 1, 1, 1, 1, 1, 1, 0, 0] (bn Tryz.f75))) Z O (F_unroll_builder_tree_o_o_2 cx a8 ae aa aj ah t in_ a l1 x x1 y1 x2 u tt) := by
 refine bv hE hh (F_unroll_builder_tree_o_o_2 cx a8 ae aa aj ah t in_ a l1 x x1 y1 x2 u) ?_
 rintro ⟨a1, l3⟩ r hm Z O hf
 simp only [Fits, ba, bc, and_true] at hf
 unfold b_unroll_builder_tree_o_o_2 at hm
 dsimp only at hm
 refine srs hn ?_
 simp -dsimp [hf]
 refine aU ?_
 rcases aZ hm with ⟨c12, hm⟩ | ⟨c12, hm⟩
 ·refine aS (by simp -dsimp) c12 ?_
  refine aT (aP (aU (aW ?_)))
  refine srs hn ?_
  simp -dsimp [hf, c12]
  refine sr1 hn ?_
  obtain ⟨u1, h13, hm⟩ := bnd hm
  obtain ⟨y2, h14, hm⟩ := bnd hm
  simp -dsimp [hf, cu h13 1 (rI .i64)]
  refine b7 (fh x1.vars a1 y2 h14) (dkL hn) ?_
  obtain ⟨y3, h15, hm⟩ := bnd hm
  simp -dsimp [hf]
  refine clg (g_unroll_builder_tree_1_o_o a1 x.Level x.Next (l1.set a.toNat (⟨x2.constant, y1.1⟩ : Ax)) y3 h15) [9, 7, 17] [] (by simp -dsimp [hf]) (dkL hn) ?_
  obtain ⟨y4, h16, hm⟩ := bnd hm
  simp -dsimp
  refine clg (g_unroll_builder_select1_o y1.2 l3 a8 ae aa aj ah y2 y1.1 (⟨y3.1, y3.2⟩ : Ax) y4 h16) [1000000, 5001, 1000002] [5000] (by simp -dsimp [hf]) (dkL hn) ?_
  simp -dsimp [cu h13 1 (rI .i64)]
  refine bk ?_
  refine aP ?_
  refine sr1 hn ?_
  simp -dsimp [hf]
  cases hm
  refine bh ?_
  refine emv 5000 5001 ?_
  exact EE.here (by simp -dsimp [hf, cu h13 1 (rI .i64)])
 ·refine aR (by simp -dsimp) c12 ?_
  refine b9 ?_
  refine aX ?_
  cases hm
  refine bd nofun ?_
  exact ⟨rfl, EE.here (by simp -dsimp [hf, c12])⟩
def F_unroll_builder_tree_o_o_1 (cx : Cx) (a8 : Int) (ae : List Point) (aa : List Node) (aj : Int) (ah : List (List UInt8 × Tree)) (_t : Tree) (in_ : List Ax) (tt : ((List Ax) × (List (List Int)) × Int)) (ee : Exit) (Z : Env) (O : Sto) : Prop := match tt with
 | (l1, l2, ai) => ee = .exit 0 /\ EE cx (bp [(6, vX 6), (7, vX 7)] [(6, .box [dI 0, .d .nil]), (7, .box [.own 17]), (17, .row 2 80 (List.map Ax.row l1)), (5001, .row 1 26 (List.map (rS 1 (rI .i64)) l2)), (1000000, .box [dI ai, .own 5001, dI a8, dR2 ae, dR1 aa, dI aj, .map 1000002]), (1000002, mOb .str kS (uA Tree.row) ah), (1000003, .row 2 80 (List.map Ax.row in_))]) Z O
theorem l_unroll_builder_tree_o_o_1 (cx : Cx) (hn : cx.n = 77) (hk : cx.k = 4) (a8 : Int) (ae : List Point) (aa : List Node) (aj : Int) (ah : List (List UInt8 × Tree)) (t : Tree) (in_ : List Ax) {fu : Nat} {stt : Int × (List Ax) × (List (List Int)) × Int} {tt : ((List Ax) × (List (List Int)) × Int)} (hh : b0 (b_unroll_builder_tree_o_o_1 a8 ae aa aj ah t in_) fu stt = some tt) {Z : Env} {O : Sto}
  (hE : bu (fun stt : Int × (List Ax) × (List (List Int)) × Int => match stt with | (a, _l1, _l2, _ai) => [(0, vX 1000000), (2, vO 1000003), (4, vX 4), (6, vX 6), (7, vX 7), (19, .u (.one (dR1 t.Nodes))), (20, vI (aY t.Nodes)), (21, vI a)]) (fun stt : Int × (List Ax) × (List (List Int)) × Int => match stt with | (_a, l1, l2, ai) => [(4, .box [dI t.States, dR2 t.Hood, dR1 t.Nodes]), (6, .box [dI 0, .d .nil]), (7, .box [.own 17]), (17, .row 2 80 (List.map Ax.row l1)), (5001, .row 1 26 (List.map (rS 1 (rI .i64)) l2)), (1000000, .box [dI ai, .own 5001, dI a8, dR2 ae, dR1 aa, dI aj, .map 1000002]), (1000002, mOb .str kS (uA Tree.row) ah), (1000003, .row 2 80 (List.map Ax.row in_))]) stt Z O) : Swp Tryz.prog cx (.loop (bL [1, 1, 0, 1, 0, 0] (bn Tryz.f75))) Z O (F_unroll_builder_tree_o_o_1 cx a8 ae aa aj ah t in_ tt) := by
 refine bv hE hh (F_unroll_builder_tree_o_o_1 cx a8 ae aa aj ah t in_) ?_
 rintro ⟨a, l1, l2, ai⟩ r hm Z O hf
 simp only [Fits, ba, bc, and_true] at hf
 unfold b_unroll_builder_tree_o_o_1 at hm
 dsimp only at hm
 refine srs hn ?_
 simp -dsimp [hf]
 refine aU ?_
 rcases aZ hm with ⟨c2, hm⟩ | ⟨c2, hm⟩
 ·refine aS (by simp -dsimp) c2 ?_
  refine aT (aP (aU (aW ?_)))
  refine srs hn ?_
  obtain ⟨x, h3, hm⟩ := bnd hm
  simp -dsimp [hf, c2, h3]
  refine srs hn ?_
  simp -dsimp [hf]
  refine aU ?_
  refine srs hn ?_
  obtain ⟨y, h4, hm⟩ := bnd hm
  simp -dsimp
  refine dH (us' := [.u (.one (dL x.Next)), .u (.one (.fn 113 [.ref (Node.row x) 0]))]) (c_slices_ContainsFunc_int_int_unroll_builder_tree_2 x.Next x y h4) (by simp -dsimp) rfl (dkL hn) ?_
  simp -dsimp
  rcases aZ hm with ⟨c5, hm⟩ | ⟨c5, hm⟩
  ·refine aS (by simp -dsimp) c5 ?_
   refine dd bm mixed 3 4 4 0 [[0, 1]] [[]] [] none (by rw [hn]; kernel_rfl) bY ?_
   dsimp only [List.take, List.drop, cM, cO, dp, pk, List.cons_append, List.nil_append, List.flatten_cons, List.flatten_nil, bV, bU, List.append_nil]
   obtain ⟨y1, h6, hm⟩ := bnd hm
   simp -dsimp [hf, c5]
   refine fy (g_unroll_builder_tree_1_o_o 0 x.Level x.Next l1 y1 h6) [9, 7, 17] [] rfl rfl rfl (by simp -dsimp) rfl (by simp -dsimp [hf]) (by first | rfl | simp) rfl (dkL hn) rfl rfl (by simp) nofun (by simp) ?_
   obtain ⟨x1, h7, hm⟩ := bnd hm
   simp -dsimp [hf, h7, bC h7]
   refine b9 ?_
   refine aX ?_
   refine b8 ?_
   refine aP ?_
   refine sr1 hn ?_
   simp -dsimp [hf]
   cases hm
   refine bh ?_
   exact EE.here (by simp -dsimp [hf])
  ·refine aR (by simp -dsimp) c5 ?_
   refine aT (aP ?_)
   refine srs hn ?_
   obtain ⟨x1, h8, hm⟩ := bnd hm
   simp -dsimp [hf, c5, h8, bC h8]
   refine srs hn ?_
   obtain ⟨y1, h9, hm⟩ := bnd hm
   simp -dsimp [hf]
   refine clg (dw ai l2 a8 ae aa aj ah y1 h9) [1000000, 5001, 1000002] [] (by simp -dsimp [hf]) (dkL hn) ?_
   simp -dsimp
   refine srs hn ?_
   obtain ⟨x2, h10, hm⟩ := bnd hm
   obtain ⟨u, h11, hm⟩ := bnd hm
   simp -dsimp [hf, h10, bC h10]
   refine srs hn ?_
   simp -dsimp
   refine aW ?_
   obtain ⟨l3, g17, hm⟩ := bnd hm
   refine bo (l_unroll_builder_tree_o_o_2 cx hn hk a8 ae aa aj ah t in_ a l1 x x1 y1 x2 u g17) (by
     try dsimp only
     exact EE.here (by simp -dsimp [hf, cu h11 1 (rI .i64)])
   ) fun ee Z O x18 => ?_
   unfold F_unroll_builder_tree_o_o_2 at x18
   dsimp only at x18
   obtain ⟨rfl, x18⟩ := x18
   refine b8 ?_
   refine bk ?_
   refine aP ?_
   refine see x18 fun Z O hf => ?_
   simp only [Fits, ba, bc, and_true] at hf
   refine sr1 hn ?_
   simp -dsimp [hf]
   cases hm
   refine bh ?_
   exact EE.here (by simp -dsimp [hf, cu h11 1 (rI .i64)])
 ·refine aR (by simp -dsimp) c2 ?_
  refine b9 ?_
  refine aX ?_
  cases hm
  refine bd nofun ?_
  exact ⟨rfl, EE.here (by simp -dsimp [hf, c2])⟩
theorem g_unroll_builder_tree_o_o (ab : Int) (ag : List (List Int)) (a8 : Int) (ae : List Point) (aa : List Node) (aj : Int) (ah : List (List UInt8 × Tree)) (t : Tree) (in_ : List Ax) (r : Int × (List Int) × (List (List Int)) × Int) (hm : m_unroll_builder_tree_o_o ab ag a8 ae aa aj ah t in_ = some r) : GFn Tryz.prog 75 [vX 1000000, .u (.agg [dI t.States, dR2 t.Hood, dR1 t.Nodes]), vO 1000003] [.box [dI ab, .own 1000001, dI a8, dR2 ae, dR1 aa, dI aj, .map 1000002], .row 1 26 (List.map (rS 1 (rI .i64)) ag), mOb .str kS (uA Tree.row) ah, .row 2 80 (List.map Ax.row in_)] (.u (.agg [dI r.1, .d (pnil 1 (List.map (rI .i64) r.2.1))])) [some (.box [dI r.2.2.2, .own 1000004, dI a8, dR2 ae, dR1 aa, dI aj, .map 1000002]), none, some (mOb .str kS (uA Tree.row) ah), some (.row 2 80 (List.map Ax.row in_)), some (.row 1 26 (List.map (rS 1 (rI .i64)) r.2.2.1))] := by
 refine bD bm _ Tryz.func75 rfl (by kernel_rfl) (by simp [Tryz.ntmps75]) (by simp) (by first | rfl | simp) (by first | rfl | simp) fun cx hn hk => ?_
 replace hn : cx.n = 77 := hn.trans Tryz.ntmps75
 replace hk : cx.k = 4 := hk
 unfold m_unroll_builder_tree_o_o at hm
 refine srs hn ?_
 simp -dsimp
 refine srs hn ?_
 obtain ⟨l, h1, hm⟩ := bnd hm
 obtain ⟨⟨h1a, h1b, h1c⟩, rfl⟩ := mkL_some h1
 simp -dsimp [h1a, h1c]
 refine aU ?_
 refine srs hn ?_
 simp -dsimp
 refine aW ?_
 obtain ⟨⟨l1, l2, ai⟩, g19, hm⟩ := bnd hm
 refine bo (l_unroll_builder_tree_o_o_1 cx hn hk a8 ae aa aj ah t in_ g19) (by
   try dsimp only
   refine emv 1000001 5001 ?_
   exact EE.here (by simp -dsimp)
 ) fun ee Z O x20 => ?_
 unfold F_unroll_builder_tree_o_o_1 at x20
 dsimp only at x20
 obtain ⟨rfl, x20⟩ := x20
 refine b8 ?_
 refine aP ?_
 refine see x20 fun Z O hf => ?_
 simp only [Fits, ba, bc, and_true] at hf
 refine srs hn ?_
 obtain ⟨x, h21, hm⟩ := bnd hm
 simp -dsimp [hf, h21, bC h21]
 refine aV ?_
 cases hm
 refine ⟨.inr rfl, ?_⟩
 refine emr 5001 1000004 hk ?_
 exact EE.here (by simp -dsimp [hf])
theorem g_unroll_builder_large_o (ab : Int) (ag : List (List Int)) (a8 : Int) (ae : List Point) (aa : List Node) (aj : Int) (ah : List (List UInt8 × Tree)) (r : Bool) (hm : m_unroll_builder_large_o ab ag a8 ae aa aj ah = some r) : GFn Tryz.prog 33 [vX 1000000] [.box [dI ab, .own 1000001, dI a8, dR2 ae, dR1 aa, dI aj, .map 1000002], .row 1 26 (List.map (rS 1 (rI .i64)) ag), mOb .str kS (uA Tree.row) ah] (vT r) [some (.box [dI ab, .own 1000001, dI a8, dR2 ae, dR1 aa, dI aj, .map 1000002]), some (.row 1 26 (List.map (rS 1 (rI .i64)) ag)), some (mOb .str kS (uA Tree.row) ah)] := by
 refine bD bm _ Tryz.func33 rfl (by kernel_rfl) (by simp [Tryz.ntmps33]) (by simp) (by first | rfl | simp) (by first | rfl | simp) fun cx hn hk => ?_
 replace hn : cx.n = 18 := hn.trans Tryz.ntmps33
 replace hk : cx.k = 3 := hk
 unfold m_unroll_builder_large_o at hm
 refine srs hn ?_
 simp -dsimp
 obtain ⟨a, j2, hm⟩ := bnd hm
 refine scE [(2, vT a)] [(1000000, .box [dI ab, .own 1000001, dI a8, dR2 ae, dR1 aa, dI aj, .map 1000002]), (1000001, .row 1 26 (List.map (rS 1 (rI .i64)) ag)), (1000002, mOb .str kS (uA Tree.row) ah)] ?_ fun Z O hf => ?_
 ·replace hm := j2
  clear j2
  refine sr1 hn ?_
  rcases aZ hm with ⟨c1, hm⟩ | ⟨c1, hm⟩
  ·simp -dsimp [c1]
   cases hm
   exact EE.here (by simp -dsimp)
  ·simp -dsimp [c1]
   cases hm
   exact EE.here (by simp -dsimp)
 ·clear j2
  simp only [Fits, ba, bc, and_true] at hf
  cases hm
  exact aV ⟨.inr rfl, EE.here (by simp -dsimp [hf])⟩
def F_unroll_builder_next_o_3 (cx : Cx) (a8 : Int) (ae : List Point) (aa : List Node) (aj : Int) (f : Ay) (box : Box) (fixed : Bool) (y x : Int) (l2 : List Ax) (l3 : List (List Int)) (am : Int) (mp1 : List (List UInt8 × Tree)) (tt : (List Ax)) (ee : Exit) (Z : Env) (O : Sto) : Prop := match tt with
 | in_ => ee = .exit 4 /\ EE cx (bp [(0, vX 1000000), (3, vT fixed), (5, vX 5), (6, vX 6), (8, vX 8), (10, vX 10), (11, vI y), (12, vI x), (13, vO 5000)] [(5, .box [dI f.box.X, dI f.box.Y, dI f.box.W, dI f.box.H, dR4 f.values]), (6, .box [dI box.X, dI box.Y, dI box.W, dI box.H]), (8, .box [dI 0, dI 0, dI 0, dI 0, .d .nil]), (10, .box [dI box.X, dI box.Y, dI box.W, dI box.H, .own 5002]), (5000, .row 2 80 (List.map Ax.row in_)), (5002, .row 2 80 (List.map Ax.row l2)), (5003, .row 1 26 (List.map (rS 1 (rI .i64)) l3)), (1000000, .box [dI am, .own 5003, dI a8, dR2 ae, dR1 aa, dI aj, .map 1000002]), (1000002, mOb .str kS (uA Tree.row) mp1)]) Z O
theorem l_unroll_builder_next_o_3 (cx : Cx) (hn : cx.n = 86) (_hk : cx.k = 3) (a8 : Int) (ae : List Point) (aa : List Node) (aj : Int) (f : Ay) (box : Box) (fixed : Bool) (y x : Int) (l2 : List Ax) (l3 : List (List Int)) (am : Int) (mp1 : List (List UInt8 × Tree)) {fu : Nat} {stt : Int × (List Ax)} {tt : (List Ax)} (hh : b0 (b_unroll_builder_next_o_3 a8 ae aa aj f box fixed y x l2 l3 am mp1) fu stt = some tt) {Z : Env} {O : Sto}
  (hE : bu (fun stt : Int × (List Ax) => match stt with | (a, _in_) => [(0, vX 1000000), (3, vT fixed), (5, vX 5), (6, vX 6), (8, vX 8), (10, vX 10), (11, vI y), (12, vI x), (13, vO 5000), (45, .u (.one (dR2 ae))), (46, vI (aY ae)), (47, vI a)]) (fun stt : Int × (List Ax) => match stt with | (_a, in_) => [(5, .box [dI f.box.X, dI f.box.Y, dI f.box.W, dI f.box.H, dR4 f.values]), (6, .box [dI box.X, dI box.Y, dI box.W, dI box.H]), (8, .box [dI 0, dI 0, dI 0, dI 0, .d .nil]), (10, .box [dI box.X, dI box.Y, dI box.W, dI box.H, .own 5002]), (5000, .row 2 80 (List.map Ax.row in_)), (5002, .row 2 80 (List.map Ax.row l2)), (5003, .row 1 26 (List.map (rS 1 (rI .i64)) l3)), (1000000, .box [dI am, .own 5003, dI a8, dR2 ae, dR1 aa, dI aj, .map 1000002]), (1000002, mOb .str kS (uA Tree.row) mp1)]) stt Z O) : Swp Tryz.prog cx (.loop (bL [1, 1, 0, 1, 0, 0, 1, 0, 0, 1, 0, 0, 1, 0, 0, 1, 0, 1, 0, 0] (bn Tryz.f30))) Z O (F_unroll_builder_next_o_3 cx a8 ae aa aj f box fixed y x l2 l3 am mp1 tt) := by
 refine bv hE hh (F_unroll_builder_next_o_3 cx a8 ae aa aj f box fixed y x l2 l3 am mp1) ?_
 rintro ⟨a, in_⟩ r hm Z O hf
 simp only [Fits, ba, bc, and_true] at hf
 unfold b_unroll_builder_next_o_3 at hm
 dsimp only at hm
 refine srs hn ?_
 simp -dsimp [hf]
 refine aU ?_
 rcases aZ hm with ⟨c3, hm⟩ | ⟨c3, hm⟩
 ·refine aS (by simp -dsimp) c3 ?_
  refine aT (aP (aU (aW ?_)))
  refine srs hn ?_
  obtain ⟨x1, h4, hm⟩ := bnd hm
  simp -dsimp [hf, c3, h4]
  refine sr1 hn ?_
  obtain ⟨y1, h5, hm⟩ := bnd hm
  simp -dsimp [hf]
  refine b7 (dO f (bf .i64 x x1.X) (bf .i64 y x1.Y) y1 h5) (dkL hn) ?_
  obtain ⟨l4, h6, hm⟩ := bnd hm
  obtain ⟨h6a, h6e⟩ := bj h6
  replace h6e := h6e.symm
  subst h6e
  try simp only [List.length_cons, List.length_nil, Nat.zero_add] at h6a
  simp -dsimp [hf, h6a]
  refine bk ?_
  refine aP ?_
  refine sr1 hn ?_
  simp -dsimp [hf]
  cases hm
  refine bh ?_
  refine emv 63 5000 ?_
  exact EE.here (by simp -dsimp [hf])
 ·refine aR (by simp -dsimp) c3 ?_
  refine b9 ?_
  refine aX ?_
  cases hm
  refine bd nofun ?_
  exact ⟨rfl, EE.here (by simp -dsimp [hf, c3])⟩
def F_unroll_builder_next_o_2 (cx : Cx) (a8 : Int) (ae : List Point) (aa : List Node) (aj : Int) (f : Ay) (box : Box) (fixed : Bool) (y : Int) (tt : (Int × Int × Int × Int × (List Ax) × Bool × Int × (List (List UInt8 × Tree)) × (List (List Int))) ⊕ ((List Ax) × (List (List Int)) × Int × (List (List UInt8 × Tree)))) (ee : Exit) (Z : Env) (O : Sto) : Prop := match tt with
 | .inl r => ee = .ret /\ EE cx (fun Z O => ∃ v, cX tb Z O Tryz.f30.results.toList = some v /\ (v.frzL O).wk (.tup [.agg [dI r.1, dI r.2.1, dI r.2.2.1, dI r.2.2.2.1, dR4 r.2.2.2.2.1], .one (.d (.bool r.2.2.2.2.2.1))]) /\ goutL inBase [some (.box [dI r.2.2.2.2.2.2.1, .own 1000003, dI a8, dR2 ae, dR1 aa, dI aj, .map 1000002]), none, some (mOb .str kS (uA Tree.row) r.2.2.2.2.2.2.2.1), some (.row 1 26 (List.map (rS 1 (rI .i64)) r.2.2.2.2.2.2.2.2))] O) Z O
 | .inr (l2, l3, am, mp1) => ee = .exit 2 /\ EE cx (bp [(0, vX 1000000), (3, vT fixed), (5, vX 5), (6, vX 6), (8, vX 8), (10, vX 10), (11, vI y)] [(5, .box [dI f.box.X, dI f.box.Y, dI f.box.W, dI f.box.H, dR4 f.values]), (6, .box [dI box.X, dI box.Y, dI box.W, dI box.H]), (8, .box [dI 0, dI 0, dI 0, dI 0, .d .nil]), (10, .box [dI box.X, dI box.Y, dI box.W, dI box.H, .own 5002]), (5002, .row 2 80 (List.map Ax.row l2)), (5003, .row 1 26 (List.map (rS 1 (rI .i64)) l3)), (1000000, .box [dI am, .own 5003, dI a8, dR2 ae, dR1 aa, dI aj, .map 1000002]), (1000002, mOb .str kS (uA Tree.row) mp1)]) Z O
theorem l_unroll_builder_next_o_2 (cx : Cx) (hn : cx.n = 86) (hk : cx.k = 3) (a8 : Int) (ae : List Point) (aa : List Node) (aj : Int) (f : Ay) (box : Box) (fixed : Bool) (y : Int) {fu : Nat} {stt : Int × (List Ax) × (List (List Int)) × Int × (List (List UInt8 × Tree))} {tt : (Int × Int × Int × Int × (List Ax) × Bool × Int × (List (List UInt8 × Tree)) × (List (List Int))) ⊕ ((List Ax) × (List (List Int)) × Int × (List (List UInt8 × Tree)))} (hh : b0 (b_unroll_builder_next_o_2 a8 ae aa aj f box fixed y) fu stt = some tt) {Z : Env} {O : Sto}
  (hE : bu (fun stt : Int × (List Ax) × (List (List Int)) × Int × (List (List UInt8 × Tree)) => match stt with | (x, _l2, _l3, _am, _mp1) => [(0, vX 1000000), (3, vT fixed), (5, vX 5), (6, vX 6), (8, vX 8), (10, vX 10), (11, vI y), (12, vI x)]) (fun stt : Int × (List Ax) × (List (List Int)) × Int × (List (List UInt8 × Tree)) => match stt with | (_x, l2, l3, am, mp1) => [(5, .box [dI f.box.X, dI f.box.Y, dI f.box.W, dI f.box.H, dR4 f.values]), (6, .box [dI box.X, dI box.Y, dI box.W, dI box.H]), (8, .box [dI 0, dI 0, dI 0, dI 0, .d .nil]), (10, .box [dI box.X, dI box.Y, dI box.W, dI box.H, .own 5002]), (5002, .row 2 80 (List.map Ax.row l2)), (5003, .row 1 26 (List.map (rS 1 (rI .i64)) l3)), (1000000, .box [dI am, .own 5003, dI a8, dR2 ae, dR1 aa, dI aj, .map 1000002]), (1000002, mOb .str kS (uA Tree.row) mp1)]) stt Z O) : Swp Tryz.prog cx (.loop (bL [1, 1, 0, 1, 0, 0, 1, 0, 0, 1, 0, 0] (bn Tryz.f30))) Z O (F_unroll_builder_next_o_2 cx a8 ae aa aj f box fixed y tt) := by
 refine bv hE hh (F_unroll_builder_next_o_2 cx a8 ae aa aj f box fixed y) ?_
 rintro ⟨x, l2, l3, am, mp1⟩ r hm Z O hf
 simp only [Fits, ba, bc, and_true] at hf
 unfold b_unroll_builder_next_o_2 at hm
 dsimp only at hm
 refine aU ?_
 refine srs hn ?_
 simp -dsimp [hf]
 rcases aZ hm with ⟨c2, hm⟩ | ⟨c2, hm⟩
 ·refine aS (by simp -dsimp) c2 ?_
  refine aT (aP (aU (aW ?_)))
  refine srs hn ?_
  simp -dsimp [c2]
  refine aU ?_
  refine srs hn ?_
  simp -dsimp [hf]
  refine aW ?_
  obtain ⟨in_, g7, hm⟩ := bnd hm
  refine bo (l_unroll_builder_next_o_3 cx hn hk a8 ae aa aj f box fixed y x l2 l3 am mp1 g7) (by
    try dsimp only
    refine EE.step (Wk.own0 13 5000 2 80 (by simp -dsimp) (by decide)) ?_
    exact EE.here (by simp -dsimp [hf])
  ) fun ee Z O x8 => ?_
  unfold F_unroll_builder_next_o_3 at x8
  dsimp only at x8
  obtain ⟨rfl, x8⟩ := x8
  refine b8 ?_
  refine aP ?_
  refine see x8 fun Z O hf => ?_
  simp only [Fits, ba, bc, and_true] at hf
  refine srs hn ?_
  simp -dsimp [hf]
  obtain ⟨⟨aL, tHood, tNodes, mp2⟩, j15, hm⟩ := bnd hm
  refine scE [(0, vX 1000000), (3, vT fixed), (5, vX 5), (6, vX 6), (8, vX 8), (10, vX 10), (11, vI y), (12, vI x), (13, vO 5000), (16, vX 16)] [(5, .box [dI f.box.X, dI f.box.Y, dI f.box.W, dI f.box.H, dR4 f.values]), (6, .box [dI box.X, dI box.Y, dI box.W, dI box.H]), (8, .box [dI 0, dI 0, dI 0, dI 0, .d .nil]), (10, .box [dI box.X, dI box.Y, dI box.W, dI box.H, .own 5002]), (16, .box [dI aL, dR2 tHood, dR1 tNodes]), (5000, .row 2 80 (List.map Ax.row in_)), (5002, .row 2 80 (List.map Ax.row l2)), (5003, .row 1 26 (List.map (rS 1 (rI .i64)) l3)), (1000000, .box [dI am, .own 5003, dI a8, dR2 ae, dR1 aa, dI aj, .map 1000002]), (1000002, mOb .str kS (uA Tree.row) mp2)] ?_ fun Z O hf => ?_
  ·replace hm := j15
   clear j15
   refine srs hn ?_
   simp -dsimp [hf]
   rcases aZ hm with ⟨c9, hm⟩ | ⟨c9, hm⟩
   ·refine aS (by simp -dsimp) c9 ?_
    refine sr1 hn ?_
    obtain ⟨y1, h10, hm⟩ := bnd hm
    simp -dsimp [hf, c9]
    refine clg (g_unroll_builder_fixed_o_o am l3 a8 ae aa aj mp1 in_ y1 h10) [1000000, 5003, 1000002, 5000] [] (by simp -dsimp [hf]) (dkL hn) ?_
    simp -dsimp [c9]
    cases hm
    exact EE.here (by simp -dsimp [hf, c9])
   ·refine aR (by simp -dsimp) c9 ?_
    refine aT (aP ?_)
    cases hm
    exact EE.here (by simp -dsimp [hf, c9])
  ·clear j15
   simp only [Fits, ba, bc, and_true] at hf
   refine dd bm mixed 5 6 7 0 [[0, 1]] [[5001]] [true] none (by rw [hn]; kernel_rfl) bY ?_
   dsimp only [List.take, List.drop, cM, cO, dp, pk, List.cons_append, List.nil_append, List.flatten_cons, List.flatten_nil, bV, bU, List.append_nil]
   obtain ⟨y1, h11, hm⟩ := bnd hm
   simp -dsimp [hf]
   refine fy (g_unroll_builder_tree_o_o am l3 a8 ae aa aj mp2 (⟨aL, tHood, tNodes⟩ : Tree) in_ y1 h11) [1000000, 5003, 1000002, 5000] [5001] rfl rfl rfl (by simp -dsimp) rfl (by simp -dsimp [hf]) (by first | rfl | simp) rfl (dkL hn) rfl rfl (by simp) nofun (by simp) ?_
   obtain ⟨l4, h12, hm⟩ := bnd hm
   obtain ⟨h12a, h12e⟩ := bj h12
   replace h12e := h12e.symm
   subst h12e
   try simp only [List.length_cons, List.length_nil, Nat.zero_add] at h12a
   simp -dsimp [hf, h12a]
   refine srs hn ?_
   obtain ⟨y2, h13, hm⟩ := bnd hm
   simp -dsimp [hf]
   refine clg (g_unroll_builder_large_o y1.2.2.2 y1.2.2.1 a8 ae aa aj mp2 y2 h13) [1000000, 5001, 1000002] [] (by simp -dsimp) (dkL hn) ?_
   simp -dsimp
   rcases aZ hm with ⟨c14, hm⟩ | ⟨c14, hm⟩
   ·refine aS (by simp -dsimp) c14 ?_
    refine srs hn ?_
    simp -dsimp [hf, c14]
    refine aV (bz (aX ?_))
    cases hm
    refine bd nofun ?_
    unfold F_unroll_builder_next_o_2
    dsimp only
    refine ⟨rfl, ?_⟩
    refine emr 5001 1000003 hk ?_
    exact EE.here (by simp -dsimp [hf, Tryz.results30])
   ·refine aR (by simp -dsimp) c14 ?_
    refine aT ?_
    refine bk ?_
    refine aP ?_
    refine sr1 hn ?_
    simp -dsimp [hf, c14]
    cases hm
    refine bh ?_
    refine emv 80 5002 ?_
    refine emv 5001 5003 ?_
    exact EE.here (by simp -dsimp [hf])
 ·refine aR (by simp -dsimp) c2 ?_
  refine b9 ?_
  refine aX ?_
  cases hm
  refine bd nofun ?_
  exact ⟨rfl, EE.here (by simp -dsimp [hf, c2])⟩
def F_unroll_builder_next_o_1 (cx : Cx) (a8 : Int) (ae : List Point) (aa : List Node) (aj : Int) (_f : Ay) (box : Box) (_fixed : Bool) (tt : (Int × Int × Int × Int × (List Ax) × Bool × Int × (List (List UInt8 × Tree)) × (List (List Int))) ⊕ ((List Ax) × (List (List Int)) × Int × (List (List UInt8 × Tree)))) (ee : Exit) (Z : Env) (O : Sto) : Prop := match tt with
 | .inl r => ee = .ret /\ EE cx (fun Z O => ∃ v, cX tb Z O Tryz.f30.results.toList = some v /\ (v.frzL O).wk (.tup [.agg [dI r.1, dI r.2.1, dI r.2.2.1, dI r.2.2.2.1, dR4 r.2.2.2.2.1], .one (.d (.bool r.2.2.2.2.2.1))]) /\ goutL inBase [some (.box [dI r.2.2.2.2.2.2.1, .own 1000003, dI a8, dR2 ae, dR1 aa, dI aj, .map 1000002]), none, some (mOb .str kS (uA Tree.row) r.2.2.2.2.2.2.2.1), some (.row 1 26 (List.map (rS 1 (rI .i64)) r.2.2.2.2.2.2.2.2))] O) Z O
 | .inr (l, l1, ai, mp) => ee = .exit 0 /\ EE cx (bp [(8, vX 8), (10, vX 10)] [(8, .box [dI 0, dI 0, dI 0, dI 0, .d .nil]), (10, .box [dI box.X, dI box.Y, dI box.W, dI box.H, .own 5002]), (5002, .row 2 80 (List.map Ax.row l)), (5003, .row 1 26 (List.map (rS 1 (rI .i64)) l1)), (1000000, .box [dI ai, .own 5003, dI a8, dR2 ae, dR1 aa, dI aj, .map 1000002]), (1000002, mOb .str kS (uA Tree.row) mp)]) Z O
theorem l_unroll_builder_next_o_1 (cx : Cx) (hn : cx.n = 86) (hk : cx.k = 3) (a8 : Int) (ae : List Point) (aa : List Node) (aj : Int) (f : Ay) (box : Box) (fixed : Bool) {fu : Nat} {stt : Int × (List Ax) × (List (List Int)) × Int × (List (List UInt8 × Tree))} {tt : (Int × Int × Int × Int × (List Ax) × Bool × Int × (List (List UInt8 × Tree)) × (List (List Int))) ⊕ ((List Ax) × (List (List Int)) × Int × (List (List UInt8 × Tree)))} (hh : b0 (b_unroll_builder_next_o_1 a8 ae aa aj f box fixed) fu stt = some tt) {Z : Env} {O : Sto}
  (hE : bu (fun stt : Int × (List Ax) × (List (List Int)) × Int × (List (List UInt8 × Tree)) => match stt with | (y, _l, _l1, _ai, _mp) => [(0, vX 1000000), (3, vT fixed), (5, vX 5), (6, vX 6), (8, vX 8), (10, vX 10), (11, vI y)]) (fun stt : Int × (List Ax) × (List (List Int)) × Int × (List (List UInt8 × Tree)) => match stt with | (_y, l, l1, ai, mp) => [(5, .box [dI f.box.X, dI f.box.Y, dI f.box.W, dI f.box.H, dR4 f.values]), (6, .box [dI box.X, dI box.Y, dI box.W, dI box.H]), (8, .box [dI 0, dI 0, dI 0, dI 0, .d .nil]), (10, .box [dI box.X, dI box.Y, dI box.W, dI box.H, .own 5002]), (5002, .row 2 80 (List.map Ax.row l)), (5003, .row 1 26 (List.map (rS 1 (rI .i64)) l1)), (1000000, .box [dI ai, .own 5003, dI a8, dR2 ae, dR1 aa, dI aj, .map 1000002]), (1000002, mOb .str kS (uA Tree.row) mp)]) stt Z O) : Swp Tryz.prog cx (.loop (bL [1, 1, 0, 1, 0, 0] (bn Tryz.f30))) Z O (F_unroll_builder_next_o_1 cx a8 ae aa aj f box fixed tt) := by
 refine bv hE hh (F_unroll_builder_next_o_1 cx a8 ae aa aj f box fixed) ?_
 rintro ⟨y, l, l1, ai, mp⟩ r hm Z O hf
 simp only [Fits, ba, bc, and_true] at hf
 unfold b_unroll_builder_next_o_1 at hm
 dsimp only at hm
 refine aU ?_
 refine srs hn ?_
 simp -dsimp [hf]
 rcases aZ hm with ⟨c1, hm⟩ | ⟨c1, hm⟩
 ·refine aS (by simp -dsimp) c1 ?_
  refine aT (aP (aU (aW ?_)))
  refine srs hn ?_
  simp -dsimp [hf, c1]
  refine aW ?_
  obtain ⟨o_, g16, hm⟩ := bnd hm
  refine bo (l_unroll_builder_next_o_2 cx hn hk a8 ae aa aj f box fixed y g16) (by
    try dsimp only
    exact EE.here (by simp -dsimp [hf])
  ) fun ee Z O x17 => ?_
  rcases o_ with r | ⟨l2, l3, am, mp1⟩
  ·unfold F_unroll_builder_next_o_2 at x17
   dsimp only at x17
   obtain ⟨rfl, x17⟩ := x17
   refine bz (bz (aX ?_))
   cases hm
   refine bd nofun ?_
   unfold F_unroll_builder_next_o_1
   dsimp only
   refine ⟨rfl, ?_⟩
   exact x17
  ·unfold F_unroll_builder_next_o_2 at x17
   dsimp only at x17
   obtain ⟨rfl, x17⟩ := x17
   refine b8 ?_
   refine bk ?_
   refine aP ?_
   refine see x17 fun Z O hf => ?_
   simp only [Fits, ba, bc, and_true] at hf
   refine sr1 hn ?_
   simp -dsimp [hf]
   cases hm
   refine bh ?_
   exact EE.here (by simp -dsimp [hf])
 ·refine aR (by simp -dsimp) c1 ?_
  refine b9 ?_
  refine aX ?_
  cases hm
  refine bd nofun ?_
  exact ⟨rfl, EE.here (by simp -dsimp [hf, c1])⟩
theorem g_unroll_builder_next_o (ab : Int) (ag : List (List Int)) (a8 : Int) (ae : List Point) (aa : List Node) (aj : Int) (ah : List (List UInt8 × Tree)) (f : Ay) (box : Box) (fixed : Bool) (r : Int × Int × Int × Int × (List Ax) × Bool × Int × (List (List UInt8 × Tree)) × (List (List Int))) (hm : m_unroll_builder_next_o ab ag a8 ae aa aj ah f box fixed = some r) : GFn Tryz.prog 30 [vX 1000000, .u (.agg [dI f.box.X, dI f.box.Y, dI f.box.W, dI f.box.H, dR4 f.values]), .u (.agg [dI box.X, dI box.Y, dI box.W, dI box.H]), vT fixed] [.box [dI ab, .own 1000001, dI a8, dR2 ae, dR1 aa, dI aj, .map 1000002], .row 1 26 (List.map (rS 1 (rI .i64)) ag), mOb .str kS (uA Tree.row) ah] (.tup [.agg [dI r.1, dI r.2.1, dI r.2.2.1, dI r.2.2.2.1, dR4 r.2.2.2.2.1], .one (.d (.bool r.2.2.2.2.2.1))]) [some (.box [dI r.2.2.2.2.2.2.1, .own 1000003, dI a8, dR2 ae, dR1 aa, dI aj, .map 1000002]), none, some (mOb .str kS (uA Tree.row) r.2.2.2.2.2.2.2.1), some (.row 1 26 (List.map (rS 1 (rI .i64)) r.2.2.2.2.2.2.2.2))] := by
 refine bD bm _ Tryz.func30 rfl (by kernel_rfl) (by simp [Tryz.ntmps30]) (by simp) (by first | rfl | simp) (by first | rfl | simp) fun cx hn hk => ?_
 replace hn : cx.n = 86 := hn.trans Tryz.ntmps30
 replace hk : cx.k = 3 := hk
 unfold m_unroll_builder_next_o at hm
 refine srs hn ?_
 simp -dsimp
 refine srs hn ?_
 simp -dsimp
 refine aU ?_
 refine srs hn ?_
 simp -dsimp
 refine aW ?_
 obtain ⟨o_, g18, hm⟩ := bnd hm
 refine bo (l_unroll_builder_next_o_1 cx hn hk a8 ae aa aj f box fixed g18) (by
   try dsimp only
   refine emv 1000001 5003 ?_
   refine EE.step (Wk.own0b 10 4 5002 2 80 [dI box.X, dI box.Y, dI box.W, dI box.H, .d .nil] (by simp -dsimp) (by rfl) (by decide) (by decide)) ?_
   exact eeh
 ) fun ee Z O x19 => ?_
 rcases o_ with r | ⟨l, l1, ai, mp⟩
 ·unfold F_unroll_builder_next_o_1 at x19
  dsimp only at x19
  obtain ⟨rfl, x19⟩ := x19
  refine bz (aX ?_)
  cases hm
  refine ⟨.inr rfl, ?_⟩
  first | exact x19 | exact x19.mono fun Z O h => by simpa -dsimp using h
 ·unfold F_unroll_builder_next_o_1 at x19
  dsimp only at x19
  obtain ⟨rfl, x19⟩ := x19
  refine b8 ?_
  refine aP ?_
  refine see x19 fun Z O hf => ?_
  simp only [Fits, ba, bc, and_true] at hf
  refine Swp.pre (Wk.frz 5002 2 80 (List.map Ax.row l) (by simp -dsimp [hf])) ?_
  refine srs hn ?_
  simp -dsimp [hf]
  refine aV ?_
  cases hm
  refine ⟨.inr rfl, ?_⟩
  refine emr 5003 1000003 hk ?_
  exact EE.here (by simp -dsimp [hf])
end Go.Proofs.YtjfjmdmdkbpdfaaGreatDoor
