/- That the code does what the functions say (made by cc.py). -/
import Derived.Test.YtjfjmdmdkbpdfaaGreatDoorWa3
namespace Go.Proofs.YtjfjmdmdkbpdfaaGreatDoor
open Go.AM Go.Proofs
set_option maxRecDepth 100000
attribute [-simp] qlookup ct d7 Ob.wipe Ob.ren Ob.frz1
def bZ (cx : Cx) (ag : List (List Int)) (a8 : Int) (ae : List Point) (aa : List Node) (aj : Int) (ah : List (List UInt8 × Tree)) (box : Box) (tt : ((List Ax) × Int)) (ee : Exit) (Z : Env) (O : Sto) : Prop := match tt with
 | (l, ai) => ee = .exit 0 /\ EE cx (bp [(0, vX 1000000), (4, vX 4), (5, vX 5)] [(4, .box [dI 0, dI 0, dI 0, dI 0, .d .nil]), (5, .box [dI box.X, dI box.Y, dI box.W, dI box.H, .own 5000]), (5000, .row 2 80 (List.map Ax.row l)), (1000000, .box [dI ai, .own 1000001, dI a8, dR2 ae, dR1 aa, dI aj, .map 1000002]), (1000001, .row 1 26 (List.map (rS 1 (rI .i64)) ag)), (1000002, mOb .str kS (uA Tree.row) ah)]) Z O
theorem eM (cx : Cx) (hn : cx.n = 56) (_hk : cx.k = 3) (ag : List (List Int)) (a8 : Int) (ae : List Point) (aa : List Node) (aj : Int) (ah : List (List UInt8 × Tree)) (box : Box) {fu : Nat} {stt : Int × (List Ax) × Int} {tt : ((List Ax) × Int)} (hh : b0 (b_unroll_builder_free_o_1 ag a8 ae aa aj ah box) fu stt = some tt) {Z : Env} {O : Sto}
  (hE : bu (fun stt : Int × (List Ax) × Int => match stt with | (a, _l, _ai) => [(0, vX 1000000), (4, vX 4), (5, vX 5), (15, vI (bq .i64 box.W box.H)), (16, vI a)]) (fun stt : Int × (List Ax) × Int => match stt with | (_a, l, ai) => [(4, .box [dI 0, dI 0, dI 0, dI 0, .d .nil]), (5, .box [dI box.X, dI box.Y, dI box.W, dI box.H, .own 5000]), (5000, .row 2 80 (List.map Ax.row l)), (1000000, .box [dI ai, .own 1000001, dI a8, dR2 ae, dR1 aa, dI aj, .map 1000002]), (1000001, .row 1 26 (List.map (rS 1 (rI .i64)) ag)), (1000002, mOb .str kS (uA Tree.row) ah)]) stt Z O) : Swp Tryz.prog cx (.loop (bL [1, 1, 0, 1, 0, 0] (bn Tryz.f26))) Z O (bZ cx ag a8 ae aa aj ah box tt) := by
 refine bv hE hh (bZ cx ag a8 ae aa aj ah box) ?_
 rintro ⟨a, l, ai⟩ r hm Z O hf
 simp only [Fits, ba, bc, and_true] at hf
 unfold b_unroll_builder_free_o_1 at hm
 dsimp only at hm
 refine srs hn ?_
 simp -dsimp [hf]
 refine aU ?_
 rcases aZ hm with ⟨c1, hm⟩ | ⟨c1, hm⟩
 ·refine aS (by simp -dsimp) c1 ?_
  refine aT (aP (aU (aW ?_)))
  refine sw_midc bm mixed 3 4 6 0 [[0, 1]] [[]] [true, true] none (by rw [hn]; kernel_rfl) bY ?_
  dsimp only [List.take, List.drop, cM, cO, dp, pk, List.cons_append, List.nil_append, List.flatten_cons, List.flatten_nil, bV, bU, List.append_nil]
  obtain ⟨y, h2, hm⟩ := bnd hm
  simp -dsimp [hf, c1]
  refine fy (dw ai ag a8 ae aa aj ah y h2) [1000000, 1000001, 1000002] [] rfl rfl rfl (by simp -dsimp) rfl (by simp -dsimp [hf]) (by first | rfl | simp) rfl (dkL hn) rfl rfl (by simp) nofun (by simp) ?_
  obtain ⟨u, h3, hm⟩ := bnd hm
  obtain ⟨l1, h4, hm⟩ := bnd hm
  obtain ⟨h4a, h4e⟩ := bj h4
  replace h4e := h4e.symm
  subst h4e
  try simp only [List.length_cons, List.length_nil, Nat.zero_add] at h4a
  simp -dsimp [hf, h4a]
  refine bk ?_
  refine aP ?_
  refine sr1 hn ?_
  simp -dsimp [hf]
  cases hm
  refine bh ?_
  refine emv 24 5000 ?_
  exact EE.here (by simp -dsimp [hf, cu h3 1 (rI .i64)])
 ·refine aR (by simp -dsimp) c1 ?_
  refine b9 ?_
  refine aX ?_
  cases hm
  refine bd nofun ?_
  exact ⟨rfl, EE.here (by simp -dsimp [hf, c1])⟩
def ca (cx : Cx) (a8 : Int) (ae : List Point) (aa : List Node) (aj : Int) (ah : List (List UInt8 × Tree)) (box : Box) (l : List Ax) (ai a : Int) (_x : Ax) (tt : (List (List Int))) (ee : Exit) (Z : Env) (O : Sto) : Prop := match tt with
 | l2 => ee = .exit 4 /\ EE cx (bp [(0, vX 1000000), (4, vX 4), (5, vX 5), (28, vO 5000), (29, vI (aY l)), (30, vI a)] [(4, .box [dI 0, dI 0, dI 0, dI 0, .d .nil]), (5, .box [dI box.X, dI box.Y, dI box.W, dI box.H, .own 5000]), (5000, .row 2 80 (List.map Ax.row l)), (5002, .row 1 26 (List.map (rS 1 (rI .i64)) l2)), (1000000, .box [dI ai, .own 5002, dI a8, dR2 ae, dR1 aa, dI aj, .map 1000002]), (1000002, mOb .str kS (uA Tree.row) ah)]) Z O
theorem eL (cx : Cx) (hn : cx.n = 56) (_hk : cx.k = 3) (a8 : Int) (ae : List Point) (aa : List Node) (aj : Int) (ah : List (List UInt8 × Tree)) (box : Box) (l : List Ax) (ai a : Int) (x : Ax) {fu : Nat} {stt : Int × (List (List Int))} {tt : (List (List Int))} (hh : b0 (b_unroll_builder_free_o_3 a8 ae aa aj ah box l ai a x) fu stt = some tt) {Z : Env} {O : Sto}
  (hE : bu (fun stt : Int × (List (List Int)) => match stt with | (cv, _l2) => [(0, vX 1000000), (4, vX 4), (5, vX 5), (7, vX 7), (8, vI cv), (28, vO 5000), (29, vI (aY l)), (30, vI a)]) (fun stt : Int × (List (List Int)) => match stt with | (_cv, l2) => [(4, .box [dI 0, dI 0, dI 0, dI 0, .d .nil]), (5, .box [dI box.X, dI box.Y, dI box.W, dI box.H, .own 5000]), (7, .box [dI x.constant, .d (pnil 1 (List.map (rI .i64) x.vars))]), (5000, .row 2 80 (List.map Ax.row l)), (5002, .row 1 26 (List.map (rS 1 (rI .i64)) l2)), (1000000, .box [dI ai, .own 5002, dI a8, dR2 ae, dR1 aa, dI aj, .map 1000002]), (1000002, mOb .str kS (uA Tree.row) ah)]) stt Z O) : Swp Tryz.prog cx (.loop (bL [1, 1, 1, 0, 1, 0, 0, 1, 1, 0, 0, 1, 1, 0, 0] (bn Tryz.f26))) Z O (ca cx a8 ae aa aj ah box l ai a x tt) := by
 refine bv hE hh (ca cx a8 ae aa aj ah box l ai a x) ?_
 rintro ⟨cv, l2⟩ r hm Z O hf
 simp only [Fits, ba, bc, and_true] at hf
 unfold b_unroll_builder_free_o_3 at hm
 dsimp only at hm
 refine aU ?_
 refine srs hn ?_
 obtain ⟨n, h9, hm⟩ := bnd hm
 simp -dsimp [hf, h9]
 rcases aZ hm with ⟨c10, hm⟩ | ⟨c10, hm⟩
 ·refine aS (by simp -dsimp) c10 ?_
  refine aT (aP (aU (aW ?_)))
  refine sr1 hn ?_
  obtain ⟨u, h11, hm⟩ := bnd hm
  obtain ⟨y, h12, hm⟩ := bnd hm
  simp -dsimp [hf, c10, cu h11 1 (rI .i64)]
  refine b7 (fh x.vars cv y h12) (dkL hn) ?_
  obtain ⟨y1, h13, hm⟩ := bnd hm
  simp -dsimp
  refine clg (cf ai l2 a8 ae aa aj ah y y1 h13) [1000000, 5002, 1000002] [5001] (by simp -dsimp [hf]) (dkL hn) ?_
  simp -dsimp [cu h11 1 (rI .i64)]
  refine bk ?_
  refine aP ?_
  refine sr1 hn ?_
  simp -dsimp [hf]
  cases hm
  refine bh ?_
  refine emv 5001 5002 ?_
  exact EE.here (by simp -dsimp [hf, cu h11 1 (rI .i64)])
 ·refine aR (by simp -dsimp) c10 ?_
  refine b9 ?_
  refine aX ?_
  cases hm
  refine bd nofun ?_
  exact ⟨rfl, EE.here (by simp -dsimp [hf, c10])⟩
def cg (cx : Cx) (a8 : Int) (ae : List Point) (aa : List Node) (aj : Int) (ah : List (List UInt8 × Tree)) (box : Box) (l : List Ax) (ai : Int) (tt : (List (List Int))) (ee : Exit) (Z : Env) (O : Sto) : Prop := match tt with
 | l1 => ee = .exit 2 /\ EE cx (bp [(4, vX 4), (5, vX 5)] [(4, .box [dI 0, dI 0, dI 0, dI 0, .d .nil]), (5, .box [dI box.X, dI box.Y, dI box.W, dI box.H, .own 5000]), (5000, .row 2 80 (List.map Ax.row l)), (5002, .row 1 26 (List.map (rS 1 (rI .i64)) l1)), (1000000, .box [dI ai, .own 5002, dI a8, dR2 ae, dR1 aa, dI aj, .map 1000002]), (1000002, mOb .str kS (uA Tree.row) ah)]) Z O
theorem eO (cx : Cx) (hn : cx.n = 56) (hk : cx.k = 3) (a8 : Int) (ae : List Point) (aa : List Node) (aj : Int) (ah : List (List UInt8 × Tree)) (box : Box) (l : List Ax) (ai : Int) {fu : Nat} {stt : Int × (List (List Int))} {tt : (List (List Int))} (hh : b0 (b_unroll_builder_free_o_2 a8 ae aa aj ah box l ai) fu stt = some tt) {Z : Env} {O : Sto}
  (hE : bu (fun stt : Int × (List (List Int)) => match stt with | (a, _l1) => [(0, vX 1000000), (4, vX 4), (5, vX 5), (28, vO 5000), (29, vI (aY l)), (30, vI a)]) (fun stt : Int × (List (List Int)) => match stt with | (_a, l1) => [(4, .box [dI 0, dI 0, dI 0, dI 0, .d .nil]), (5, .box [dI box.X, dI box.Y, dI box.W, dI box.H, .own 5000]), (5000, .row 2 80 (List.map Ax.row l)), (5002, .row 1 26 (List.map (rS 1 (rI .i64)) l1)), (1000000, .box [dI ai, .own 5002, dI a8, dR2 ae, dR1 aa, dI aj, .map 1000002]), (1000002, mOb .str kS (uA Tree.row) ah)]) stt Z O) : Swp Tryz.prog cx (.loop (bL [1, 1, 1, 0, 1, 0, 0] (bn Tryz.f26))) Z O (cg cx a8 ae aa aj ah box l ai tt) := by
 refine bv hE hh (cg cx a8 ae aa aj ah box l ai) ?_
 rintro ⟨a, l1⟩ r hm Z O hf
 simp only [Fits, ba, bc, and_true] at hf
 unfold b_unroll_builder_free_o_2 at hm
 dsimp only at hm
 refine srs hn ?_
 simp -dsimp [hf]
 refine aU ?_
 rcases aZ hm with ⟨c7, hm⟩ | ⟨c7, hm⟩
 ·refine aS (by simp -dsimp) c7 ?_
  refine aT (aP (aU (aW ?_)))
  refine srs hn ?_
  obtain ⟨x, h8, hm⟩ := bnd hm
  simp -dsimp [hf, c7, h8, bC h8]
  refine srs hn ?_
  simp -dsimp [hf]
  refine aW ?_
  obtain ⟨l2, g14, hm⟩ := bnd hm
  refine bo (eL cx hn hk a8 ae aa aj ah box l ai a x g14) (by
    try dsimp only
    exact EE.here (by simp -dsimp [hf])
  ) fun ee Z O x15 => ?_
  unfold ca at x15
  dsimp only at x15
  obtain ⟨rfl, x15⟩ := x15
  refine b8 ?_
  refine bk ?_
  refine aP ?_
  refine see x15 fun Z O hf => ?_
  simp only [Fits, ba, bc, and_true] at hf
  refine sr1 hn ?_
  simp -dsimp [hf]
  cases hm
  refine bh ?_
  exact EE.here (by simp -dsimp [hf])
 ·refine aR (by simp -dsimp) c7 ?_
  refine b9 ?_
  refine aX ?_
  cases hm
  refine bd nofun ?_
  exact ⟨rfl, EE.here (by simp -dsimp [hf, c7])⟩
theorem dJ (ab : Int) (ag : List (List Int)) (a8 : Int) (ae : List Point) (aa : List Node) (aj : Int) (ah : List (List UInt8 × Tree)) (box : Box) (r : (List Ax) × (List (List Int)) × Int) (hm : m_unroll_builder_free_o ab ag a8 ae aa aj ah box = some r) : GFn Tryz.prog 26 [vX 1000000, .u (.agg [dI box.X, dI box.Y, dI box.W, dI box.H])] [.box [dI ab, .own 1000001, dI a8, dR2 ae, dR1 aa, dI aj, .map 1000002], .row 1 26 (List.map (rS 1 (rI .i64)) ag), mOb .str kS (uA Tree.row) ah] (.u (.agg [dI box.X, dI box.Y, dI box.W, dI box.H, dR4 r.1])) [some (.box [dI r.2.2, .own 1000003, dI a8, dR2 ae, dR1 aa, dI aj, .map 1000002]), none, some (mOb .str kS (uA Tree.row) ah), some (.row 1 26 (List.map (rS 1 (rI .i64)) r.2.1))] := by
 refine bD bm _ Tryz.func26 rfl (by kernel_rfl) (by simp [Tryz.ntmps26]) (by simp) (by first | rfl | simp) (by first | rfl | simp) fun cx hn hk => ?_
 replace hn : cx.n = 56 := hn.trans Tryz.ntmps26
 replace hk : cx.k = 3 := hk
 unfold m_unroll_builder_free_o at hm
 refine srs hn ?_
 simp -dsimp
 refine srs hn ?_
 simp -dsimp
 refine aU ?_
 refine srs hn ?_
 simp -dsimp
 refine aW ?_
 obtain ⟨⟨l, ai⟩, g5, hm⟩ := bnd hm
 refine bo (eM cx hn hk ag a8 ae aa aj ah box g5) (by
   try dsimp only
   refine EE.step (Wk.own0b 5 4 5000 2 80 [dI box.X, dI box.Y, dI box.W, dI box.H, .d .nil] (by simp -dsimp) (by rfl) (by decide) (by decide)) ?_
   exact eeh
 ) fun ee Z O x6 => ?_
 unfold bZ at x6
 dsimp only at x6
 obtain ⟨rfl, x6⟩ := x6
 refine b8 ?_
 refine aP ?_
 refine see x6 fun Z O hf => ?_
 simp only [Fits, ba, bc, and_true] at hf
 refine aU ?_
 refine srs hn ?_
 simp -dsimp [hf]
 refine aW ?_
 obtain ⟨l1, g16, hm⟩ := bnd hm
 refine bo (eO cx hn hk a8 ae aa aj ah box l ai g16) (by
   try dsimp only
   refine emv 1000001 5002 ?_
   exact EE.here (by simp -dsimp [hf])
 ) fun ee Z O x17 => ?_
 unfold cg at x17
 dsimp only at x17
 obtain ⟨rfl, x17⟩ := x17
 refine b8 ?_
 refine aP ?_
 refine see x17 fun Z O hf => ?_
 simp only [Fits, ba, bc, and_true] at hf
 refine Swp.pre (Wk.frz 5000 2 80 (List.map Ax.row l) (by simp -dsimp [hf])) ?_
 refine srs hn ?_
 simp -dsimp [hf]
 refine aV ?_
 cases hm
 refine ⟨.inr rfl, ?_⟩
 refine emr 5002 1000003 hk ?_
 exact EE.here (by simp -dsimp [hf])
theorem dO (f : Ay) (x y : Int) (r : Ax) (hm : m_unroll_field_at f x y = some r) : PureCall Tryz.prog 29 [.u (.agg [dI f.box.X, dI f.box.Y, dI f.box.W, dI f.box.H, dR4 f.values]), vI x, vI y] (.u (.agg [dI r.constant, .d (pnil 1 (List.map (rI .i64) r.vars))])) := by
 refine bN Tryz.func29 Tryz.ntmps29 fun cx hn => ?_
 unfold m_unroll_field_at at hm
 refine srs hn ?_
 simp -dsimp
 refine cy bm mixed (by rw [hn]; kernel_rfl) ?_
 simp -dsimp
 refine aU ?_
 obtain ⟨a, j6, hm⟩ := bnd hm
 refine scE [(1, vI (bF .i64 x f.box.X)), (2, vI (bF .i64 y f.box.Y)), (3, vX 3), (6, vX 6), (36, vT a)] [(3, .box [dI f.box.X, dI f.box.Y, dI f.box.W, dI f.box.H, dR4 f.values]), (6, .box [dI 0, .d .nil])] ?_ fun Z O hf => ?_
 ·replace hm := j6
  clear j6
  refine sr1 hn ?_
  rcases aZ hm with ⟨c1, hm⟩ | ⟨c1, hm⟩
  ·simp -dsimp [c1]
   cases hm
   exact EE.here (by simp -dsimp)
  ·rcases aZ hm with ⟨c2, hm⟩ | ⟨c2, hm⟩
   ·simp -dsimp [c1, c2]
    cases hm
    exact EE.here (by simp -dsimp)
   ·rcases aZ hm with ⟨c3, hm⟩ | ⟨c3, hm⟩
    ·simp -dsimp [c1, c2, c3]
     cases hm
     exact EE.here (by simp -dsimp)
    ·simp -dsimp [c1, c2, c3]
     cases hm
     exact EE.here (by simp -dsimp)
 ·clear j6
  simp only [Fits, ba, bc, and_true] at hf
  rcases aZ hm with ⟨c4, hm⟩ | ⟨c4, hm⟩
  ·refine aS (by simp -dsimp [hf]) c4 ?_
   refine srs hn ?_
   simp -dsimp [hf]
   refine aV (aX ?_)
   cases hm
   refine ⟨.inr rfl, ?_⟩
   exact EE.here (by simp -dsimp [hf])
  ·refine aR (by simp -dsimp [hf]) c4 ?_
   refine aT (aP ?_)
   refine srs hn ?_
   obtain ⟨x1, h5, hm⟩ := bnd hm
   simp -dsimp [hf, h5]
   cases hm
   exact aV ⟨.inr rfl, EE.here (by simp -dsimp [hf])⟩
def F_unroll_builder_fixed_o_o_1 (cx : Cx) (ab : Int) (ag : List (List Int)) (a8 : Int) (ae : List Point) (aa : List Node) (aj : Int) (ah : List (List UInt8 × Tree)) (in_ : List Ax) (tt : (List Int)) (ee : Exit) (Z : Env) (O : Sto) : Prop := match tt with
 | keyv => ee = .exit 0 /\ EE cx (bp [(0, vX 1000000), (1, vO 1000003), (4, vX 4), (5, vO 5000)] [(4, .box [dI 0, .d .nil, .d .nil]), (5000, .row 1 5 (List.map (rI .u8) keyv)), (1000000, .box [dI ab, .own 1000001, dI a8, dR2 ae, dR1 aa, dI aj, .map 1000002]), (1000001, .row 1 26 (List.map (rS 1 (rI .i64)) ag)), (1000002, mOb .str kS (uA Tree.row) ah), (1000003, .row 2 80 (List.map Ax.row in_))]) Z O
theorem l_unroll_builder_fixed_o_o_1 (cx : Cx) (hn : cx.n = 73) (_hk : cx.k = 4) (ab : Int) (ag : List (List Int)) (a8 : Int) (ae : List Point) (aa : List Node) (aj : Int) (ah : List (List UInt8 × Tree)) (in_ : List Ax) {fu : Nat} {stt : Int × (List Int)} {tt : (List Int)} (hh : b0 (b_unroll_builder_fixed_o_o_1 ab ag a8 ae aa aj ah in_) fu stt = some tt) {Z : Env} {O : Sto}
  (hE : bu (fun stt : Int × (List Int) => match stt with | (a, _keyv) => [(0, vX 1000000), (1, vO 1000003), (4, vX 4), (5, vO 5000), (13, vO 1000003), (14, vI (aY in_)), (15, vI a)]) (fun stt : Int × (List Int) => match stt with | (_a, keyv) => [(4, .box [dI 0, .d .nil, .d .nil]), (5000, .row 1 5 (List.map (rI .u8) keyv)), (1000000, .box [dI ab, .own 1000001, dI a8, dR2 ae, dR1 aa, dI aj, .map 1000002]), (1000001, .row 1 26 (List.map (rS 1 (rI .i64)) ag)), (1000002, mOb .str kS (uA Tree.row) ah), (1000003, .row 2 80 (List.map Ax.row in_))]) stt Z O) : Swp Tryz.prog cx (.loop (bL [1, 1, 0, 1, 0, 0] (bn Tryz.f74))) Z O (F_unroll_builder_fixed_o_o_1 cx ab ag a8 ae aa aj ah in_ tt) := by
 refine bv hE hh (F_unroll_builder_fixed_o_o_1 cx ab ag a8 ae aa aj ah in_) ?_
 rintro ⟨a, keyv⟩ r hm Z O hf
 simp only [Fits, ba, bc, and_true] at hf
 unfold b_unroll_builder_fixed_o_o_1 at hm
 dsimp only at hm
 refine srs hn ?_
 simp -dsimp [hf]
 refine aU ?_
 rcases aZ hm with ⟨c1, hm⟩ | ⟨c1, hm⟩
 ·refine aS (by simp -dsimp) c1 ?_
  refine aT (aP (aU (aW ?_)))
  refine srs hn ?_
  obtain ⟨x, h2, hm⟩ := bnd hm
  simp -dsimp [hf, c1, h2, bC h2]
  refine srs hn ?_
  simp -dsimp
  obtain ⟨k, j5, hm⟩ := bnd hm
  refine scE [(0, vX 1000000), (1, vO 1000003), (4, vX 4), (5, vO 5000), (8, .u (.one (.d (.int .u8 k)))), (13, vO 1000003), (14, vI (aY in_)), (15, vI a)] [(4, .box [dI 0, .d .nil, .d .nil]), (5000, .row 1 5 (List.map (rI .u8) keyv)), (1000000, .box [dI ab, .own 1000001, dI a8, dR2 ae, dR1 aa, dI aj, .map 1000002]), (1000001, .row 1 26 (List.map (rS 1 (rI .i64)) ag)), (1000002, mOb .str kS (uA Tree.row) ah), (1000003, .row 2 80 (List.map Ax.row in_))] ?_ fun Z O hf => ?_
  ·replace hm := j5
   clear j5
   refine srs hn ?_
   simp -dsimp
   rcases aZ hm with ⟨c3, hm⟩ | ⟨c3, hm⟩
   ·refine aS (by simp -dsimp) c3 ?_
    refine sr1 hn ?_
    simp -dsimp [c3]
    cases hm
    exact EE.here (by simp -dsimp [hf])
   ·refine aR (by simp -dsimp) c3 ?_
    refine aT (aP ?_)
    cases hm
    exact EE.here (by simp -dsimp [hf, c3])
  ·clear j5
   simp only [Fits, ba, bc, and_true] at hf
   refine sr1 hn ?_
   obtain ⟨l, h4, hm⟩ := bnd hm
   obtain ⟨h4a, h4e⟩ := bj h4
   replace h4e := h4e.symm
   subst h4e
   try simp only [List.length_cons, List.length_nil, Nat.zero_add] at h4a
   try simp only [Nat.mul_one, Nat.reduceLeDiff] at h4a
   simp -dsimp [hf, h4a]
   refine bk ?_
   refine aP ?_
   refine sr1 hn ?_
   simp -dsimp [hf]
   cases hm
   refine bh ?_
   refine emv 28 5000 ?_
   exact EE.here (by simp -dsimp [hf])
 ·refine aR (by simp -dsimp) c1 ?_
  refine b9 ?_
  refine aX ?_
  cases hm
  refine bd nofun ?_
  exact ⟨rfl, EE.here (by simp -dsimp [hf, c1])⟩
def F_unroll_builder_fixed_o_o_2 (cx : Cx) (ab : Int) (ag : List (List Int)) (a8 : Int) (ae : List Point) (aa : List Node) (aj : Int) (ah : List (List UInt8 × Tree)) (in_ : List Ax) (keyv : List Int) (_u tt : Unit) (ee : Exit) (Z : Env) (O : Sto) : Prop := match tt with
 | _u => ee = .exit 2 /\ EE cx (bp [(0, vX 1000000), (4, vX 4), (5, vO 5000), (9, vX 9)] [(4, .box [dI 0, .d .nil, .d .nil]), (9, .box [dI a8, dR2 ae, dR1 aa]), (5000, .row 1 5 (List.map (rI .u8) keyv)), (1000000, .box [dI ab, .own 1000001, dI a8, dR2 ae, dR1 aa, dI aj, .map 1000002]), (1000001, .row 1 26 (List.map (rS 1 (rI .i64)) ag)), (1000002, mOb .str kS (uA Tree.row) ah), (1000003, .row 2 80 (List.map Ax.row in_))]) Z O
theorem l_unroll_builder_fixed_o_o_2 (cx : Cx) (hn : cx.n = 73) (_hk : cx.k = 4) (ab : Int) (ag : List (List Int)) (a8 : Int) (ae : List Point) (aa : List Node) (aj : Int) (ah : List (List UInt8 × Tree)) (in_ : List Ax) (keyv : List Int) (u : Unit) {fu : Nat} {stt : Int} {tt : Unit} (hh : b0 (b_unroll_builder_fixed_o_o_2 ab ag a8 ae aa aj ah in_ keyv u) fu stt = some tt) {Z : Env} {O : Sto}
  (hE : bu (fun a : Int => [(0, vX 1000000), (4, vX 4), (5, vO 5000), (9, vX 9), (46, vO 1000003), (47, vI (aY in_)), (48, vI a)]) (fun _a : Int => [(4, .box [dI 0, .d .nil, .d .nil]), (9, .box [dI a8, dR2 ae, dR1 aa]), (5000, .row 1 5 (List.map (rI .u8) keyv)), (1000000, .box [dI ab, .own 1000001, dI a8, dR2 ae, dR1 aa, dI aj, .map 1000002]), (1000001, .row 1 26 (List.map (rS 1 (rI .i64)) ag)), (1000002, mOb .str kS (uA Tree.row) ah), (1000003, .row 2 80 (List.map Ax.row in_))]) stt Z O) : Swp Tryz.prog cx (.loop (bL [1, 1, 1, 1, 0, 1, 0, 1, 0, 1, 0, 0] (bn Tryz.f74))) Z O (F_unroll_builder_fixed_o_o_2 cx ab ag a8 ae aa aj ah in_ keyv u tt) := by
 refine bv hE hh (F_unroll_builder_fixed_o_o_2 cx ab ag a8 ae aa aj ah in_ keyv u) ?_
 rintro a r hm Z O hf
 simp only [Fits, ba, bc, and_true] at hf
 unfold b_unroll_builder_fixed_o_o_2 at hm
 dsimp only at hm
 refine srs hn ?_
 simp -dsimp [hf]
 refine aU ?_
 rcases aZ hm with ⟨c11, hm⟩ | ⟨c11, hm⟩
 ·refine aS (by simp -dsimp) c11 ?_
  refine aT (aP (aU (aW ?_)))
  refine srs hn ?_
  obtain ⟨x, h12, hm⟩ := bnd hm
  simp -dsimp [hf, c11, h12, bC h12]
  refine srs hn ?_
  simp -dsimp
  rcases aZ hm with ⟨c13, hm⟩ | ⟨c13, hm⟩
  ·refine aS (by simp -dsimp) c13 ?_
   refine sr1 hn ?_
   cases hm
  ·refine aR (by simp -dsimp) c13 ?_
   refine aT ?_
   refine bk ?_
   refine aP ?_
   refine sr1 hn ?_
   simp -dsimp [hf, c13]
   cases hm
   refine bh ?_
   exact EE.here (by simp -dsimp [hf])
 ·refine aR (by simp -dsimp) c11 ?_
  refine b9 ?_
  refine aX ?_
  cases hm
  refine bd nofun ?_
  exact ⟨rfl, EE.here (by simp -dsimp [hf, c11])⟩
theorem g_unroll_builder_fixed_o_o (ab : Int) (ag : List (List Int)) (a8 : Int) (ae : List Point) (aa : List Node) (aj : Int) (ah : List (List UInt8 × Tree)) (in_ : List Ax) (r : Int × (List Point) × (List Node) × (List (List UInt8 × Tree))) (hm : m_unroll_builder_fixed_o_o ab ag a8 ae aa aj ah in_ = some r) : GFn Tryz.prog 74 [vX 1000000, vO 1000003] [.box [dI ab, .own 1000001, dI a8, dR2 ae, dR1 aa, dI aj, .map 1000002], .row 1 26 (List.map (rS 1 (rI .i64)) ag), mOb .str kS (uA Tree.row) ah, .row 2 80 (List.map Ax.row in_)] (.u (.agg [dI r.1, dR2 r.2.1, dR1 r.2.2.1])) [some (.box [dI ab, .own 1000001, dI a8, dR2 ae, dR1 aa, dI aj, .map 1000002]), some (.row 1 26 (List.map (rS 1 (rI .i64)) ag)), some (mOb .str kS (uA Tree.row) r.2.2.2), some (.row 2 80 (List.map Ax.row in_))] := by
 refine bD bm _ Tryz.func74 rfl (by kernel_rfl) (by simp [Tryz.ntmps74]) (by simp) (by first | rfl | simp) (by first | rfl | simp) fun cx hn hk => ?_
 replace hn : cx.n = 73 := hn.trans Tryz.ntmps74
 replace hk : cx.k = 4 := hk
 unfold m_unroll_builder_fixed_o_o at hm
 refine srs hn ?_
 simp -dsimp
 refine srs hn ?_
 simp -dsimp
 refine aU ?_
 refine srs hn ?_
 simp -dsimp
 refine aW ?_
 obtain ⟨keyv, g6, hm⟩ := bnd hm
 refine bo (l_unroll_builder_fixed_o_o_1 cx hn hk ab ag a8 ae aa aj ah in_ g6) (by
   try dsimp only
   refine EE.step (Wk.own0 5 5000 1 5 (by simp -dsimp) (by decide)) ?_
   exact eeh
 ) fun ee Z O x7 => ?_
 unfold F_unroll_builder_fixed_o_o_1 at x7
 dsimp only at x7
 obtain ⟨rfl, x7⟩ := x7
 refine b8 ?_
 refine aP ?_
 refine see x7 fun Z O hf => ?_
 simp only [Fits, ba, bc, and_true] at hf
 refine dd bm mixed 10 12 12 0 [[0, 1, 2, 3, 4, 5, 6, 7, 8, 9], [9]] [[9], []] [] none (by rw [hn]; kernel_rfl) bY ?_
 dsimp only [List.take, List.drop, cM, cO, dp, pk, List.cons_append, List.nil_append, List.flatten_cons, List.flatten_nil, bV, bU, List.append_nil]
 obtain ⟨u, h8, hm⟩ := bnd hm
 rcases aZ hm with ⟨c9, hm⟩ | ⟨c9, hm⟩
 ·obtain ⟨v, h10, hm⟩ := bnd hm
  simp -dsimp [hf, kckS_len h8, (@id (lkM (fD (mOb .str kS (uA Tree.row) ah) (.str (ofBytes keyv))) true (.agg [dI 0, .d .nil, .d .nil]) = some (.tup [.agg [dI v.States, dR2 v.Hood, dR1 v.Nodes], .one (.d (.bool true))])) (lk_some (kf := kS) (vf := (uA Tree.row)) _ h10))]
  refine aU ?_
  refine srs hn ?_
  simp -dsimp
  refine aR (b := false) (by simp -dsimp) rfl ?_
  refine aT (aP ?_)
  refine srs hn ?_
  simp -dsimp [hf]
  cases hm
  exact aV ⟨.inr rfl, EE.here (by simp -dsimp [hf])⟩
 ·simp -dsimp [hf, kckS_len h8, (@id (lkM (fD (mOb .str kS (uA Tree.row) ah) (.str (ofBytes keyv))) true (.agg [dI 0, .d .nil, .d .nil]) = some (.tup [.agg [dI 0, .d .nil, .d .nil], .one (.d (.bool false))])) (lk_none (kf := kS) (vf := (uA Tree.row)) _ c9))]
  refine aU ?_
  refine srs hn ?_
  simp -dsimp
  refine aS (b := true) (by simp -dsimp) rfl ?_
  refine srs hn ?_
  simp -dsimp [hf]
  refine aU ?_
  refine srs hn ?_
  simp -dsimp [hf]
  refine aW ?_
  obtain ⟨_u, g14, hm⟩ := bnd hm
  refine bo (l_unroll_builder_fixed_o_o_2 cx hn hk ab ag a8 ae aa aj ah in_ keyv u g14) (by
    try dsimp only
    exact EE.here (by simp -dsimp [hf])
  ) fun ee Z O x15 => ?_
  unfold F_unroll_builder_fixed_o_o_2 at x15
  dsimp only at x15
  obtain ⟨rfl, x15⟩ := x15
  refine b8 ?_
  refine aP ?_
  refine see x15 fun Z O hf => ?_
  simp only [Fits, ba, bc, and_true] at hf
  refine dV bm mixed 7 (by rw [hn]; kernel_rfl) ?_
  dsimp only [List.take, List.drop]
  simp -dsimp [hf, kckS_len h8, (@id (msetOb (mOb .str kS (uA Tree.row) ah) (.str (ofBytes keyv)) (.agg [dI a8, dR2 ae, dR1 aa]) = mOb .str kS (uA Tree.row) (msetL ah (ofBytes keyv) (⟨a8, ae, aa⟩ : Tree))) (mset_ob .str kS (uA Tree.row) ah (ofBytes keyv) (⟨a8, ae, aa⟩ : Tree)))]
  refine aP ?_
  refine srs hn ?_
  simp -dsimp [hf]
  cases hm
  exact aV ⟨.inr rfl, EE.here (by simp -dsimp [hf])⟩
theorem c_unroll_builder_tree_2 (n : Int) (a : Node) (r : Bool) (hm : m_unroll_builder_tree_2 n a = some r) : PureCall Tryz.prog 113 [vI n, .u (.one (.ref (Node.row a) 0))] (vT r) := by
 refine bN Tryz.func113 Tryz.ntmps113 fun cx hn => ?_
 unfold m_unroll_builder_tree_2 at hm
 refine srs hn ?_
 simp -dsimp
 refine srs hn ?_
 obtain ⟨x, h1, hm⟩ := bnd hm
 simp -dsimp [h1]
 cases hm
 exact aV ⟨.inr rfl, EE.here (by simp -dsimp)⟩
def F_slices_IndexFunc_int_int_unroll_builder_tree_2_1 (cx : Cx) (_s : List Int) (_cv : Node) (tt : Int ⊕ Unit) (ee : Exit) (Z : Env) (O : Sto) : Prop := match tt with
 | .inl r => ee = .ret /\ EE cx (fun Z O => ∃ v, cX tb Z O Tryz.f87.results.toList = some v /\ (v.frz O).free = true /\ (v.frz O).wk (vI r)) Z O
 | .inr _u => ee = .exit 0 /\ EE cx (bp [] []) Z O
theorem l_slices_IndexFunc_int_int_unroll_builder_tree_2_1 (cx : Cx) (hn : cx.n = 19) (s : List Int) (cv : Node) {fu : Nat} {stt : Int} {tt : Int ⊕ Unit} (hh : b0 (b_slices_IndexFunc_int_int_unroll_builder_tree_2_1 s cv) fu stt = some tt) {Z : Env} {O : Sto}
  (hE : bu (fun a : Int => [(0, .u (.one (dL s))), (1, .u (.one (.fn 113 [.ref (Node.row cv) 0]))), (7, vI (aY s)), (8, vI a)]) (fun _a : Int => []) stt Z O) : Swp Tryz.prog cx (.loop (bL [1, 0, 1, 0, 0] (bn Tryz.f87))) Z O (F_slices_IndexFunc_int_int_unroll_builder_tree_2_1 cx s cv tt) := by
 refine bv hE hh (F_slices_IndexFunc_int_int_unroll_builder_tree_2_1 cx s cv) ?_
 rintro a r hm Z O hf
 simp only [Fits, ba, bc, and_true] at hf
 unfold b_slices_IndexFunc_int_int_unroll_builder_tree_2_1 at hm
 dsimp only at hm
 refine srs hn ?_
 simp -dsimp [hf]
 refine aU ?_
 rcases aZ hm with ⟨c1, hm⟩ | ⟨c1, hm⟩
 ·refine aS (by simp -dsimp) c1 ?_
  refine aT (aP (aU (aW ?_)))
  refine srs hn ?_
  simp -dsimp [hf, c1]
  refine srs hn ?_
  obtain ⟨x, h2, hm⟩ := bnd hm
  obtain ⟨y, h3, hm⟩ := bnd hm
  simp -dsimp [hf, h2]
  refine b7 (c_unroll_builder_tree_2 x cv y h3) (dkL hn) ?_
  simp -dsimp
  rcases aZ hm with ⟨c4, hm⟩ | ⟨c4, hm⟩
  ·refine aS (by simp -dsimp) c4 ?_
   refine srs hn ?_
   simp -dsimp [c4]
   refine aV (bz (aX ?_))
   cases hm
   refine bd nofun ?_
   exact ⟨rfl, EE.here (by simp -dsimp [Tryz.results87])⟩
  ·refine aR (by simp -dsimp) c4 ?_
   refine aT ?_
   refine bk ?_
   refine aP ?_
   refine sr1 hn ?_
   simp -dsimp [hf, c4]
   cases hm
   refine bh ?_
   exact EE.here (by simp -dsimp [hf])
 ·refine aR (by simp -dsimp) c1 ?_
  refine b9 ?_
  refine aX ?_
  cases hm
  refine bd nofun ?_
  exact ⟨rfl, EE.here (by simp -dsimp [c1])⟩
theorem c_slices_IndexFunc_int_int_unroll_builder_tree_2 (s : List Int) (cv : Node) (r : Int) (hm : m_slices_IndexFunc_int_int_unroll_builder_tree_2 s cv = some r) : PureCall Tryz.prog 87 [.u (.one (dL s)), .u (.one (.fn 113 [.ref (Node.row cv) 0]))] (vI r) := by
 refine bN Tryz.func87 Tryz.ntmps87 fun cx hn => ?_
 unfold m_slices_IndexFunc_int_int_unroll_builder_tree_2 at hm
 refine srs hn ?_
 simp -dsimp
 refine aU ?_
 refine srs hn ?_
 simp -dsimp
 refine aW ?_
 obtain ⟨o_, g5, hm⟩ := bnd hm
 refine bo (l_slices_IndexFunc_int_int_unroll_builder_tree_2_1 cx hn s cv g5) (by
   try dsimp only
   exact eeh
 ) fun ee Z O x6 => ?_
 rcases o_ with r | _u
 ·unfold F_slices_IndexFunc_int_int_unroll_builder_tree_2_1 at x6
  dsimp only at x6
  obtain ⟨rfl, x6⟩ := x6
  refine bz (aX ?_)
  cases hm
  exact ⟨.inr rfl, x6⟩
 ·unfold F_slices_IndexFunc_int_int_unroll_builder_tree_2_1 at x6
  dsimp only at x6
  obtain ⟨rfl, x6⟩ := x6
  refine b8 ?_
  refine aP ?_
  refine see x6 fun Z O hf => ?_
  simp only [Fits, ba, bc, and_true] at hf
  refine srs hn ?_
  simp -dsimp
  cases hm
  exact aV ⟨.inr rfl, EE.here (by simp -dsimp)⟩
theorem c_slices_ContainsFunc_int_int_unroll_builder_tree_2 (s : List Int) (cv : Node) (r : Bool) (hm : m_slices_ContainsFunc_int_int_unroll_builder_tree_2 s cv = some r) : PureCall Tryz.prog 43 [.u (.one (dL s)), .u (.one (.fn 113 [.ref (Node.row cv) 0]))] (vT r) := by
 refine bN Tryz.func43 Tryz.ntmps43 fun cx hn => ?_
 unfold m_slices_ContainsFunc_int_int_unroll_builder_tree_2 at hm
 refine srs hn ?_
 simp -dsimp
 refine srs hn ?_
 obtain ⟨y, h1, hm⟩ := bnd hm
 simp -dsimp
 refine b7 (c_slices_IndexFunc_int_int_unroll_builder_tree_2 s cv y h1) (dkL hn) ?_
 simp -dsimp
 cases hm
 exact aV ⟨.inr rfl, EE.here (by simp -dsimp)⟩
theorem g_unroll_builder_tree_1_o_o (s aN : Int) (aNext : List Int) (a : List Ax) (r : Int × (List Int)) (hm : m_unroll_builder_tree_1_o_o s aN aNext a = some r) : GFn Tryz.prog 112 [vI s, vX 1000000, vX 1000001] [.box [dI aN, dL aNext], .box [.own 1000002], .row 2 80 (List.map Ax.row a)] (.u (.agg [dI r.1, .d (pnil 1 (List.map (rI .i64) r.2))])) [some (.box [dI aN, dL aNext]), some (.box [.own 1000002]), some (.row 2 80 (List.map Ax.row a))] := by
 refine bD bm _ Tryz.func112 rfl (by kernel_rfl) (by simp [Tryz.ntmps112]) (by simp) (by first | rfl | simp) (by first | rfl | simp) fun cx hn hk => ?_
 replace hn : cx.n = 22 := hn.trans Tryz.ntmps112
 replace hk : cx.k = 3 := hk
 unfold m_unroll_builder_tree_1_o_o at hm
 refine srs hn ?_
 simp -dsimp
 refine aU ?_
 refine srs hn ?_
 simp -dsimp
 rcases aZ hm with ⟨c1, hm⟩ | ⟨c1, hm⟩
 ·refine sct c1 ?_
  refine srs hn ?_
  obtain ⟨x, h2, hm⟩ := bnd hm
  simp -dsimp [c1, h2]
  refine aV (aX ?_)
  cases hm
  refine ⟨.inr rfl, ?_⟩
  exact EE.here (by simp -dsimp)
 ·refine scf c1 ?_
  refine aT (aP ?_)
  refine sw_drNs bm mixed 6 (by rw [hn]; kernel_rfl) ?_
  dsimp only [List.take, List.drop]
  obtain ⟨x, h3, hm⟩ := bnd hm
  obtain ⟨x1, h4, hm⟩ := bnd hm
  simp -dsimp [c1, h3, h4, bC h4]
  cases hm
  exact aV ⟨.inr rfl, EE.here (by simp -dsimp)⟩
theorem g_unroll_builder_clause_o_o (ab : Int) (ag : List (List Int)) (a8 : Int) (ae : List Point) (aa : List Node) (aj : Int) (ah : List (List UInt8 × Tree)) (l : List Int) (r : Unit) (hm : m_unroll_builder_clause_o_o ab ag a8 ae aa aj ah l = some r) : GFn Tryz.prog 45 [vX 1000000, vO 1000003] [.box [dI ab, .own 1000001, dI a8, dR2 ae, dR1 aa, dI aj, .map 1000002], .row 1 26 (List.map (rS 1 (rI .i64)) ag), mOb .str kS (uA Tree.row) ah, .row 1 3 (List.map (rI .i64) l)] (.tup []) [some (.box [dI ab, .own 1000004, dI a8, dR2 ae, dR1 aa, dI aj, .map 1000002]), none, some (mOb .str kS (uA Tree.row) ah), none, some (.row 1 26 (List.map (rS 1 (rI .i64)) (ag ++ [l])))] := by
 refine bD bm _ Tryz.func45 rfl (by kernel_rfl) (by simp [Tryz.ntmps45]) (by simp) (by first | rfl | simp) (by first | rfl | simp) fun cx hn hk => ?_
 replace hn : cx.n = 16 := hn.trans Tryz.ntmps45
 replace hk : cx.k = 4 := hk
 unfold m_unroll_builder_clause_o_o at hm
 refine Swp.pre (Wk.frz 1000003 1 3 (List.map (rI .i64) l) (by simp -dsimp)) ?_
 refine sr1 hn ?_
 obtain ⟨l1, h1, hm⟩ := bnd hm
 obtain ⟨h1a, h1e⟩ := bj h1
 replace h1e := h1e.symm
 subst h1e
 try simp only [List.length_cons, List.length_nil, Nat.zero_add] at h1a
 simp -dsimp [h1a]
 cases hm
 try refine ⟨.inl rfl, ?_⟩
 refine emr 12 1000004 hk ?_
 exact EE.here (by simp -dsimp)
theorem g_unroll_builder_select1_1_o_o (l : List Int) (aG : Int) (aE : List (List Int)) (aH : Int) (aJ : List Point) (aI : List Node) (abits : Int) (aK : List (List UInt8 × Tree)) (a : List Int) (r : List (List Int)) (hm : m_unroll_builder_select1_1_o_o l aG aE aH aJ aI abits aK a = some r) : GFn Tryz.prog 135 [.u (.one (dL l)), vX 1000000, vX 1000004] [.box [.box 1000001 0], .box [dI aG, .own 1000002, dI aH, dR2 aJ, dR1 aI, dI abits, .map 1000003], .row 1 26 (List.map (rS 1 (rI .i64)) aE), mOb .str kS (uA Tree.row) aK, .box [dL a]] (.tup []) [some (.box [.box 1000001 0]), some (.box [dI aG, .own 1000005, dI aH, dR2 aJ, dR1 aI, dI abits, .map 1000003]), none, some (mOb .str kS (uA Tree.row) aK), some (.box [dL a]), some (.row 1 26 (List.map (rS 1 (rI .i64)) r))] := by
 refine bD bm _ Tryz.func135 rfl (by kernel_rfl) (by simp [Tryz.ntmps135]) (by simp) (by first | rfl | simp) (by first | rfl | simp) fun cx hn hk => ?_
 replace hn : cx.n = 10 := hn.trans Tryz.ntmps135
 replace hk : cx.k = 5 := hk
 unfold m_unroll_builder_select1_1_o_o at hm
 refine sw_midp bm mixed [] [0, 1, 3, 2, 4, 5] [0, 1, 3, 2, 4, 5] 3 5 5 0 [[0, 2], [0]] [[6], [8]] [] none (by rw [hn]; kernel_rfl) (by dsimp only [d9, eK, adO, rnL, pmL, pk, rnO, rnG, dr, List.cons_append, List.nil_append] <;> exact rfl) bY ?_
 dsimp only [List.take, List.drop, cM, cO, dp, pk, List.cons_append, List.nil_append, List.flatten_cons, List.flatten_nil, bV, bU, List.append_nil]
 obtain ⟨y, h1, hm⟩ := bnd hm
 simp -dsimp
 refine callE_new (cw a y h1) (dkL hn) (by decide) rfl rfl (by simp) nofun (by simp) ?_
 obtain ⟨l1, h2, hm⟩ := bnd hm
 obtain ⟨h2a, h2e⟩ := bj h2
 replace h2e := h2e.symm
 subst h2e
 try simp only [List.length_cons, List.length_nil, Nat.zero_add, List.nil_append, List.length_append, List.length_map, List.length_replicate] at h2a
 obtain ⟨y1, h3, hm⟩ := bnd hm
 simp -dsimp [h2a]
 refine clg (g_unroll_builder_clause_o_o aG aE aH aJ aI abits aK (y ++ l) y1 h3) [1000001, 1000002, 1000003, 8] [5000] (by simp -dsimp) (dkL hn) ?_
 simp -dsimp
 cases hm
 try refine ⟨.inl rfl, ?_⟩
 refine emr 5000 1000005 hk ?_
 exact EE.here (by simp -dsimp)
end Go.Proofs.YtjfjmdmdkbpdfaaGreatDoor
