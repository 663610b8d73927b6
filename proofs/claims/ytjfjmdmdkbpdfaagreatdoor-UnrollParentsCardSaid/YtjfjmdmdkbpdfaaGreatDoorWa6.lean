/- That the code does what the functions say (made by cc.py). -/
import Derived.Test.YtjfjmdmdkbpdfaaGreatDoorWa3
namespace Go.Proofs.YtjfjmdmdkbpdfaaGreatDoor
open Go.AM Go.Proofs
set_option maxRecDepth 100000
attribute [-simp] qlookup ct d7 Ob.wipe Ob.ren Ob.frz1
theorem c_unroll_field_in (f : Ay) (x y : Int) (r : Bool) (hm : m_unroll_field_in f x y = some r) : PureCall Tryz.prog 31 [.u (.agg [dI f.box.X, dI f.box.Y, dI f.box.W, dI f.box.H, dR4 f.values]), vI x, vI y] (vT r) := by
 refine bN Tryz.func31 Tryz.ntmps31 fun cx hn => ?_
 unfold m_unroll_field_in at hm
 refine srs hn ?_
 simp -dsimp
 obtain ⟨a, j4, hm⟩ := bnd hm
 refine scE [(6, vT a)] [] ?_ fun Z O hf => ?_
 ·replace hm := j4
  clear j4
  refine sr1 hn ?_
  rcases aZ hm with ⟨c1, hm⟩ | ⟨c1, hm⟩
  ·rcases aZ hm with ⟨c2, hm⟩ | ⟨c2, hm⟩
   ·rcases aZ hm with ⟨c3, hm⟩ | ⟨c3, hm⟩
    ·simp -dsimp [c1, c2, c3]
     cases hm
     exact EE.here (by simp -dsimp)
    ·simp -dsimp [c1, c2, c3]
     cases hm
     exact EE.here (by simp -dsimp)
   ·simp -dsimp [c1, c2]
    cases hm
    exact EE.here (by simp -dsimp)
  ·simp -dsimp [c1]
   cases hm
   exact EE.here (by simp -dsimp)
 ·clear j4
  simp only [Fits, ba, bc, and_true] at hf
  cases hm
  exact aV ⟨.inr rfl, EE.here (by simp -dsimp [hf])⟩
def ch (cx : Cx) (ab a8 : Int) (ae : List Point) (aa : List Node) (aj : Int) (ah : List (List UInt8 × Tree)) (_x _y : List Int) (tt : (List (List Int))) (ee : Exit) (Z : Env) (O : Sto) : Prop := match tt with
 | l => ee = .exit 0 /\ EE cx (bp [] [(5002, .row 1 26 (List.map (rS 1 (rI .i64)) l)), (1000000, .box [dI ab, .own 5002, dI a8, dR2 ae, dR1 aa, dI aj, .map 1000002]), (1000002, mOb .str kS (uA Tree.row) ah)]) Z O
theorem eP (cx : Cx) (hn : cx.n = 37) (_hk : cx.k = 3) (ab a8 : Int) (ae : List Point) (aa : List Node) (aj : Int) (ah : List (List UInt8 × Tree)) (x y : List Int) {fu : Nat} {stt : Int × (List (List Int))} {tt : (List (List Int))} (hh : b0 (b_unroll_builder_same_o_1 ab a8 ae aa aj ah x y) fu stt = some tt) {Z : Env} {O : Sto}
  (hE : bu (fun stt : Int × (List (List Int)) => match stt with | (a, _l) => [(0, vX 1000000), (1, .u (.one (dL x))), (2, .u (.one (dL y))), (8, vI (aY x)), (9, vI a)]) (fun stt : Int × (List (List Int)) => match stt with | (_a, l) => [(5002, .row 1 26 (List.map (rS 1 (rI .i64)) l)), (1000000, .box [dI ab, .own 5002, dI a8, dR2 ae, dR1 aa, dI aj, .map 1000002]), (1000002, mOb .str kS (uA Tree.row) ah)]) stt Z O) : Swp Tryz.prog cx (.loop (bL [1, 0, 0] (bn Tryz.f28))) Z O (ch cx ab a8 ae aa aj ah x y tt) := by
 refine bv hE hh (ch cx ab a8 ae aa aj ah x y) ?_
 rintro ⟨a, l⟩ r hm Z O hf
 simp only [Fits, ba, bc, and_true] at hf
 unfold b_unroll_builder_same_o_1 at hm
 dsimp only at hm
 refine srs hn ?_
 simp -dsimp [hf]
 refine aU ?_
 rcases aZ hm with ⟨c1, hm⟩ | ⟨c1, hm⟩
 ·refine aS (by simp -dsimp) c1 ?_
  refine aT (aP (aU (aW ?_)))
  refine srs hn ?_
  simp -dsimp [hf, c1]
  refine sw_drNs bm mixed 11 (by rw [hn]; kernel_rfl) ?_
  dsimp only [List.take, List.drop]
  obtain ⟨x1, h2, hm⟩ := bnd hm
  obtain ⟨x2, h3, hm⟩ := bnd hm
  obtain ⟨y1, h4, hm⟩ := bnd hm
  simp -dsimp [hf, h2, h3]
  refine clg (cf ab l a8 ae aa aj ah [(bE .i64 x1), x2] y1 h4) [1000000, 5002, 1000002] [5000] (by simp -dsimp [hf]) (dkL hn) ?_
  simp -dsimp
  refine dV bm mixed 11 (by rw [hn]; kernel_rfl) ?_
  dsimp only [List.take, List.drop]
  obtain ⟨y2, h5, hm⟩ := bnd hm
  simp -dsimp [hf, h2, h3]
  refine clg (cf ab (l ++ [[(bE .i64 x1), x2]]) a8 ae aa aj ah [x1, (bE .i64 x2)] y2 h5) [1000000, 5000, 1000002] [5001] (by simp -dsimp) (dkL hn) ?_
  simp -dsimp
  refine bk ?_
  refine aP ?_
  refine sr1 hn ?_
  simp -dsimp [hf]
  cases hm
  refine bh ?_
  refine emv 5001 5002 ?_
  exact EE.here (by simp -dsimp [hf])
 ·refine aR (by simp -dsimp) c1 ?_
  refine b9 ?_
  refine aX ?_
  cases hm
  refine bd nofun ?_
  exact ⟨rfl, EE.here (by simp -dsimp [hf, c1])⟩
theorem f8 (ab : Int) (ag : List (List Int)) (a8 : Int) (ae : List Point) (aa : List Node) (aj : Int) (ah : List (List UInt8 × Tree)) (x y : List Int) (r : List (List Int)) (hm : m_unroll_builder_same_o ab ag a8 ae aa aj ah x y = some r) : GFn Tryz.prog 28 [vX 1000000, .u (.one (dL x)), .u (.one (dL y))] [.box [dI ab, .own 1000001, dI a8, dR2 ae, dR1 aa, dI aj, .map 1000002], .row 1 26 (List.map (rS 1 (rI .i64)) ag), mOb .str kS (uA Tree.row) ah] (.tup []) [some (.box [dI ab, .own 1000003, dI a8, dR2 ae, dR1 aa, dI aj, .map 1000002]), none, some (mOb .str kS (uA Tree.row) ah), some (.row 1 26 (List.map (rS 1 (rI .i64)) r))] := by
 refine bD bm _ Tryz.func28 rfl (by kernel_rfl) (by simp [Tryz.ntmps28]) (by simp) (by first | rfl | simp) (by first | rfl | simp) fun cx hn hk => ?_
 replace hn : cx.n = 37 := hn.trans Tryz.ntmps28
 replace hk : cx.k = 3 := hk
 unfold m_unroll_builder_same_o at hm
 refine srs hn ?_
 simp -dsimp
 refine aW ?_
 obtain ⟨l, g6, hm⟩ := bnd hm
 refine bo (eP cx hn hk ab a8 ae aa aj ah x y g6) (by
   try dsimp only
   refine emv 1000001 5002 ?_
   exact eeh
 ) fun ee Z O x7 => ?_
 unfold ch at x7
 dsimp only at x7
 obtain ⟨rfl, x7⟩ := x7
 refine b8 ?_
 cases hm
 try refine ⟨.inl rfl, ?_⟩
 refine ee_bind (by rfl) (by rfl) x7 fun Z O hf => ?_
 simp only [Fits, ba, bc, and_true, true_and] at hf
 refine emr 5002 1000003 hk ?_
 exact EE.here (by simp -dsimp [hf])
def F_unroll_builder_fix_o_1 (cx : Cx) (ab a8 : Int) (ae : List Point) (aa : List Node) (aj : Int) (ah : List (List UInt8 × Tree)) (_vars : List Int) (_cv : Int) (tt : (List (List Int))) (ee : Exit) (Z : Env) (O : Sto) : Prop := match tt with
 | l => ee = .exit 0 /\ EE cx (bp [] [(5001, .row 1 26 (List.map (rS 1 (rI .i64)) l)), (1000000, .box [dI ab, .own 5001, dI a8, dR2 ae, dR1 aa, dI aj, .map 1000002]), (1000002, mOb .str kS (uA Tree.row) ah)]) Z O
theorem l_unroll_builder_fix_o_1 (cx : Cx) (hn : cx.n = 27) (_hk : cx.k = 3) (ab a8 : Int) (ae : List Point) (aa : List Node) (aj : Int) (ah : List (List UInt8 × Tree)) (vars : List Int) (cv : Int) {fu : Nat} {stt : Int × (List (List Int))} {tt : (List (List Int))} (hh : b0 (b_unroll_builder_fix_o_1 ab a8 ae aa aj ah vars cv) fu stt = some tt) {Z : Env} {O : Sto}
  (hE : bu (fun stt : Int × (List (List Int)) => match stt with | (a, _l) => [(0, vX 1000000), (2, vI cv), (8, .u (.one (dL vars))), (9, vI (aY vars)), (10, vI a)]) (fun stt : Int × (List (List Int)) => match stt with | (_a, l) => [(5001, .row 1 26 (List.map (rS 1 (rI .i64)) l)), (1000000, .box [dI ab, .own 5001, dI a8, dR2 ae, dR1 aa, dI aj, .map 1000002]), (1000002, mOb .str kS (uA Tree.row) ah)]) stt Z O) : Swp Tryz.prog cx (.loop (bL [1, 0, 0] (bn Tryz.f32))) Z O (F_unroll_builder_fix_o_1 cx ab a8 ae aa aj ah vars cv tt) := by
 refine bv hE hh (F_unroll_builder_fix_o_1 cx ab a8 ae aa aj ah vars cv) ?_
 rintro ⟨a, l⟩ r hm Z O hf
 simp only [Fits, ba, bc, and_true] at hf
 unfold b_unroll_builder_fix_o_1 at hm
 dsimp only at hm
 refine srs hn ?_
 simp -dsimp [hf]
 refine aU ?_
 rcases aZ hm with ⟨c1, hm⟩ | ⟨c1, hm⟩
 ·refine aS (by simp -dsimp) c1 ?_
  refine aT (aP (aU (aW ?_)))
  refine srs hn ?_
  obtain ⟨x, h2, hm⟩ := bnd hm
  simp -dsimp [hf, c1, h2]
  obtain ⟨v, j6, hm⟩ := bnd hm
  refine scE [(0, vX 1000000), (2, vI cv), (7, vI v), (8, .u (.one (dL vars))), (9, vI (aY vars)), (10, vI a)] [(5001, .row 1 26 (List.map (rS 1 (rI .i64)) l)), (1000000, .box [dI ab, .own 5001, dI a8, dR2 ae, dR1 aa, dI aj, .map 1000002]), (1000002, mOb .str kS (uA Tree.row) ah)] ?_ fun Z O hf => ?_
  ·replace hm := j6
   clear j6
   refine srs hn ?_
   obtain ⟨n, h3, hm⟩ := bnd hm
   simp -dsimp [hf, h3]
   rcases aZ hm with ⟨c4, hm⟩ | ⟨c4, hm⟩
   ·refine aS (by simp -dsimp) c4 ?_
    refine sr1 hn ?_
    simp -dsimp [c4]
    cases hm
    exact EE.here (by simp -dsimp [hf])
   ·refine aR (by simp -dsimp) c4 ?_
    refine aT (aP ?_)
    cases hm
    exact EE.here (by simp -dsimp [hf, c4])
  ·clear j6
   simp only [Fits, ba, bc, and_true] at hf
   refine sr1 hn ?_
   obtain ⟨y, h5, hm⟩ := bnd hm
   simp -dsimp [hf]
   refine clg (cf ab l a8 ae aa aj ah [v] y h5) [1000000, 5001, 1000002] [5000] (by simp -dsimp [hf]) (dkL hn) ?_
   simp -dsimp
   refine bk ?_
   refine aP ?_
   refine sr1 hn ?_
   simp -dsimp [hf]
   cases hm
   refine bh ?_
   refine emv 5000 5001 ?_
   exact EE.here (by simp -dsimp [hf])
 ·refine aR (by simp -dsimp) c1 ?_
  refine b9 ?_
  refine aX ?_
  cases hm
  refine bd nofun ?_
  exact ⟨rfl, EE.here (by simp -dsimp [hf, c1])⟩
theorem g_unroll_builder_fix_o (ab : Int) (ag : List (List Int)) (a8 : Int) (ae : List Point) (aa : List Node) (aj : Int) (ah : List (List UInt8 × Tree)) (vars : List Int) (cv : Int) (r : List (List Int)) (hm : m_unroll_builder_fix_o ab ag a8 ae aa aj ah vars cv = some r) : GFn Tryz.prog 32 [vX 1000000, .u (.one (dL vars)), vI cv] [.box [dI ab, .own 1000001, dI a8, dR2 ae, dR1 aa, dI aj, .map 1000002], .row 1 26 (List.map (rS 1 (rI .i64)) ag), mOb .str kS (uA Tree.row) ah] (.tup []) [some (.box [dI ab, .own 1000003, dI a8, dR2 ae, dR1 aa, dI aj, .map 1000002]), none, some (mOb .str kS (uA Tree.row) ah), some (.row 1 26 (List.map (rS 1 (rI .i64)) r))] := by
 refine bD bm _ Tryz.func32 rfl (by kernel_rfl) (by simp [Tryz.ntmps32]) (by simp) (by first | rfl | simp) (by first | rfl | simp) fun cx hn hk => ?_
 replace hn : cx.n = 27 := hn.trans Tryz.ntmps32
 replace hk : cx.k = 3 := hk
 unfold m_unroll_builder_fix_o at hm
 refine srs hn ?_
 simp -dsimp
 refine aW ?_
 obtain ⟨l, g7, hm⟩ := bnd hm
 refine bo (l_unroll_builder_fix_o_1 cx hn hk ab a8 ae aa aj ah vars cv g7) (by
   try dsimp only
   refine emv 1000001 5001 ?_
   exact eeh
 ) fun ee Z O x8 => ?_
 unfold F_unroll_builder_fix_o_1 at x8
 dsimp only at x8
 obtain ⟨rfl, x8⟩ := x8
 refine b8 ?_
 cases hm
 try refine ⟨.inl rfl, ?_⟩
 refine ee_bind (by rfl) (by rfl) x8 fun Z O hf => ?_
 simp only [Fits, ba, bc, and_true, true_and] at hf
 refine emr 5001 1000003 hk ?_
 exact EE.here (by simp -dsimp [hf])
end Go.Proofs.YtjfjmdmdkbpdfaaGreatDoor
