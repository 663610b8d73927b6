/- That the code does what the functions say (made by cc.py). -/
import Derived.Test.YtjfjmdmdkbpdfaaGreatDoorWa7
namespace Go.Proofs.YtjfjmdmdkbpdfaaGreatDoor
open Go.AM Go.Proofs
set_option maxRecDepth 100000
attribute [-simp] qlookup ct d7 Ob.wipe Ob.ren Ob.frz1
theorem c_unroll_Parents_1 (s : Int) (a : Tree) (r : Bool) (hm : m_unroll_Parents_1 s a = some r) : PureCall Tryz.prog 44 [vI s, .u (.one (.ref (Tree.row a) 0))] (vT r) := by
 refine bN Tryz.func44 Tryz.ntmps44 fun cx hn => ?_
 unfold m_unroll_Parents_1 at hm
 refine srs hn ?_
 simp -dsimp
 refine srs hn ?_
 simp -dsimp
 cases hm
 exact aV ⟨.inr rfl, EE.here (by simp -dsimp)⟩
def F_slices_IndexFunc_int_int_unroll_Parents_1_1 (cx : Cx) (_s : List Int) (_cv : Tree) (tt : Int ⊕ Unit) (ee : Exit) (Z : Env) (O : Sto) : Prop := match tt with
 | .inl r => ee = .ret /\ EE cx (fun Z O => ∃ v, cX tb Z O Tryz.f87.results.toList = some v /\ (v.frz O).free = true /\ (v.frz O).wk (vI r)) Z O
 | .inr _u => ee = .exit 0 /\ EE cx (bp [] []) Z O
theorem l_slices_IndexFunc_int_int_unroll_Parents_1_1 (cx : Cx) (hn : cx.n = 19) (s : List Int) (cv : Tree) {fu : Nat} {stt : Int} {tt : Int ⊕ Unit} (hh : b0 (b_slices_IndexFunc_int_int_unroll_Parents_1_1 s cv) fu stt = some tt) {Z : Env} {O : Sto}
  (hE : bu (fun a : Int => [(0, .u (.one (dL s))), (1, .u (.one (.fn 44 [.ref (Tree.row cv) 0]))), (7, vI (aY s)), (8, vI a)]) (fun _a : Int => []) stt Z O) : Swp Tryz.prog cx (.loop (bL [1, 0, 1, 0, 0] (bn Tryz.f87))) Z O (F_slices_IndexFunc_int_int_unroll_Parents_1_1 cx s cv tt) := by
 refine bv hE hh (F_slices_IndexFunc_int_int_unroll_Parents_1_1 cx s cv) ?_
 rintro a r hm Z O hf
 simp only [Fits, ba, bc, and_true] at hf
 unfold b_slices_IndexFunc_int_int_unroll_Parents_1_1 at hm
 dsimp only at hm
 refine srs hn ?_
 simp -dsimp [hf]
 refine aU ?_
 rcases aZ hm with ⟨c1, hm⟩ | ⟨c1, hm⟩
 ·refine aS (by simp -dsimp) c1 ?_
  refine aT (aP (aU (aW ?_)))
  refine srs hn ?_
  simp -dsimp [hf, c1]
  refine srs hn ?_
  obtain ⟨x, h2, hm⟩ := bnd hm
  obtain ⟨y, h3, hm⟩ := bnd hm
  simp -dsimp [hf, h2]
  refine b7 (c_unroll_Parents_1 x cv y h3) (dkL hn) ?_
  simp -dsimp
  rcases aZ hm with ⟨c4, hm⟩ | ⟨c4, hm⟩
  ·refine aS (by simp -dsimp) c4 ?_
   refine srs hn ?_
   simp -dsimp [c4]
   refine aV (bz (aX ?_))
   cases hm
   refine bd nofun ?_
   exact ⟨rfl, EE.here (by simp -dsimp [Tryz.results87])⟩
  ·refine aR (by simp -dsimp) c4 ?_
   refine aT ?_
   refine bk ?_
   refine aP ?_
   refine sr1 hn ?_
   simp -dsimp [hf, c4]
   cases hm
   refine bh ?_
   exact EE.here (by simp -dsimp [hf])
 ·refine aR (by simp -dsimp) c1 ?_
  refine b9 ?_
  refine aX ?_
  cases hm
  refine bd nofun ?_
  exact ⟨rfl, EE.here (by simp -dsimp [c1])⟩
theorem c_slices_IndexFunc_int_int_unroll_Parents_1 (s : List Int) (cv : Tree) (r : Int) (hm : m_slices_IndexFunc_int_int_unroll_Parents_1 s cv = some r) : PureCall Tryz.prog 87 [.u (.one (dL s)), .u (.one (.fn 44 [.ref (Tree.row cv) 0]))] (vI r) := by
 refine bN Tryz.func87 Tryz.ntmps87 fun cx hn => ?_
 unfold m_slices_IndexFunc_int_int_unroll_Parents_1 at hm
 refine srs hn ?_
 simp -dsimp
 refine aU ?_
 refine srs hn ?_
 simp -dsimp
 refine aW ?_
 obtain ⟨o_, g5, hm⟩ := bnd hm
 refine bo (l_slices_IndexFunc_int_int_unroll_Parents_1_1 cx hn s cv g5) (by
   try dsimp only
   exact eeh
 ) fun ee Z O x6 => ?_
 rcases o_ with r | _u
 ·unfold F_slices_IndexFunc_int_int_unroll_Parents_1_1 at x6
  dsimp only at x6
  obtain ⟨rfl, x6⟩ := x6
  refine bz (aX ?_)
  cases hm
  exact ⟨.inr rfl, x6⟩
 ·unfold F_slices_IndexFunc_int_int_unroll_Parents_1_1 at x6
  dsimp only at x6
  obtain ⟨rfl, x6⟩ := x6
  refine b8 ?_
  refine aP ?_
  refine see x6 fun Z O hf => ?_
  simp only [Fits, ba, bc, and_true] at hf
  refine srs hn ?_
  simp -dsimp
  cases hm
  exact aV ⟨.inr rfl, EE.here (by simp -dsimp)⟩
theorem c_slices_ContainsFunc_int_int_unroll_Parents_1 (s : List Int) (cv : Tree) (r : Bool) (hm : m_slices_ContainsFunc_int_int_unroll_Parents_1 s cv = some r) : PureCall Tryz.prog 43 [.u (.one (dL s)), .u (.one (.fn 44 [.ref (Tree.row cv) 0]))] (vT r) := by
 refine bN Tryz.func43 Tryz.ntmps43 fun cx hn => ?_
 unfold m_slices_ContainsFunc_int_int_unroll_Parents_1 at hm
 refine srs hn ?_
 simp -dsimp
 refine srs hn ?_
 obtain ⟨y, h1, hm⟩ := bnd hm
 simp -dsimp
 refine b7 (c_slices_IndexFunc_int_int_unroll_Parents_1 s cv y h1) (dkL hn) ?_
 simp -dsimp
 cases hm
 exact aV ⟨.inr rfl, EE.here (by simp -dsimp)⟩
theorem g_unroll_builder_clause_o_N (ab : Int) (ag : List (List Int)) (a8 : Int) (ae : List Point) (aa : List Node) (aj : Int) (ah : List (List UInt8 × Tree)) (r : Unit) (hm : m_unroll_builder_clause_o_N ab ag a8 ae aa aj ah = some r) : GFn Tryz.prog 45 [vX 1000000, .u (.one (.d .nil))] [.box [dI ab, .own 1000001, dI a8, dR2 ae, dR1 aa, dI aj, .map 1000002], .row 1 26 (List.map (rS 1 (rI .i64)) ag), mOb .str kS (uA Tree.row) ah] (.tup []) [some (.box [dI ab, .own 1000003, dI a8, dR2 ae, dR1 aa, dI aj, .map 1000002]), none, some (mOb .str kS (uA Tree.row) ah), some (.row 1 26 (List.map (rS 1 (rI .i64)) (ag ++ [[]])))] := by
 refine bD bm _ Tryz.func45 rfl (by kernel_rfl) (by simp [Tryz.ntmps45]) (by simp) (by first | rfl | simp) (by first | rfl | simp) fun cx hn hk => ?_
 replace hn : cx.n = 16 := hn.trans Tryz.ntmps45
 replace hk : cx.k = 3 := hk
 unfold m_unroll_builder_clause_o_N at hm
 refine sr1 hn ?_
 obtain ⟨l, h1, hm⟩ := bnd hm
 obtain ⟨h1a, h1e⟩ := bj h1
 replace h1e := h1e.symm
 subst h1e
 try simp only [List.length_cons, List.length_nil, Nat.zero_add] at h1a
 simp -dsimp [h1a]
 cases hm
 try refine ⟨.inl rfl, ?_⟩
 refine emr 12 1000003 hk ?_
 exact EE.here (by simp -dsimp)
def F_unroll_Parents_1 (cx : Cx) (_gv : Grid) (_y3 : Int) (y4 : Int × (List Point) × (List Node) × Int) (y5 : (List Ax) × (List (List Int)) × Int) (tt : (Aw × Int × Int) ⊕ ((List (List UInt8 × Tree)) × Int × (List (List Int)))) (ee : Exit) (Z : Env) (O : Sto) : Prop := match tt with
 | .inl r => ee = .ret /\ EE cx (fun Z O => ∃ v, cX tb Z O Tryz.f12.results.toList = some v /\ (v.frz O).free = true /\ (v.frz O).wk (.tup [.agg [dI r.1.Vars, .d (.sl 1 (List.map (rS 1 (rI .i64)) r.1.Clauses))], .one (dI r.2.1), .one (dI r.2.2)])) Z O
 | .inr (mp, ab, l) => ee = .exit 1 /\ EE cx (bp [(4, vX 4), (5, vI y5.2.2), (9, vX 5001)] [(4, .box [dI 0, .d .nil]), (5000, mOb .str kS (uA Tree.row) mp), (5001, .box [dI ab, .own 5002, dI y4.1, dR2 y4.2.1, dR1 y4.2.2.1, dI y4.2.2.2, .map 5000]), (5002, .row 1 26 (List.map (rS 1 (rI .i64)) l))]) Z O
theorem l_unroll_Parents_1 (cx : Cx) (hn : cx.n = 122) (gv : Grid) (y3 : Int) (y4 : Int × (List Point) × (List Node) × Int) (y5 : (List Ax) × (List (List Int)) × Int) {fu : Nat} {stt : Int × (List (List UInt8 × Tree)) × Int × (List (List Int))} {tt : (Aw × Int × Int) ⊕ ((List (List UInt8 × Tree)) × Int × (List (List Int)))} (hh : b0 (b_unroll_Parents_1 gv y3 y4 y5) fu stt = some tt) {Z : Env} {O : Sto}
  (hE : bu (fun stt : Int × (List (List UInt8 × Tree)) × Int × (List (List Int)) => match stt with | (a, _mp, _ab, _l) => [(3, vX 3), (4, vX 4), (5, vI y5.2.2), (9, vX 5001), (10, vX 10), (68, .u (.one (dL gv.Cells))), (69, vI (aY gv.Cells)), (70, vI a)]) (fun stt : Int × (List (List UInt8 × Tree)) × Int × (List (List Int)) => match stt with | (_a, mp, ab, l) => [(3, .box [dI gv.W, dI gv.H, dI gv.Edge, dL gv.Cells]), (4, .box [dI 0, .d .nil]), (10, .box [dI ((⟨(bE .i64 y3), (bE .i64 y3), (bf .i64 gv.W (bq .i64 2 y3)), (bf .i64 gv.H (bq .i64 2 y3))⟩ : Box).X), dI ((⟨(bE .i64 y3), (bE .i64 y3), (bf .i64 gv.W (bq .i64 2 y3)), (bf .i64 gv.H (bq .i64 2 y3))⟩ : Box).Y), dI ((⟨(bE .i64 y3), (bE .i64 y3), (bf .i64 gv.W (bq .i64 2 y3)), (bf .i64 gv.H (bq .i64 2 y3))⟩ : Box).W), dI ((⟨(bE .i64 y3), (bE .i64 y3), (bf .i64 gv.W (bq .i64 2 y3)), (bf .i64 gv.H (bq .i64 2 y3))⟩ : Box).H), dR4 y5.1]), (5000, mOb .str kS (uA Tree.row) mp), (5001, .box [dI ab, .own 5002, dI y4.1, dR2 y4.2.1, dR1 y4.2.2.1, dI y4.2.2.2, .map 5000]), (5002, .row 1 26 (List.map (rS 1 (rI .i64)) l))]) stt Z O) : Swp Tryz.prog cx (.loop (bL [1, 1, 1, 1, 1, 1, 1, 1, 0, 1, 0, 0] (bn Tryz.f12))) Z O (F_unroll_Parents_1 cx gv y3 y4 y5 tt) := by
 refine bv hE hh (F_unroll_Parents_1 cx gv y3 y4 y5) ?_
 rintro ⟨a, mp, ab, l⟩ r hm Z O hf
 simp only [Fits, ba, bc, and_true] at hf
 unfold b_unroll_Parents_1 at hm
 dsimp only at hm
 refine srs hn ?_
 simp -dsimp [hf]
 refine aU ?_
 rcases aZ hm with ⟨c11, hm⟩ | ⟨c11, hm⟩
 ·refine aS (by simp -dsimp) c11 ?_
  refine aT (aP (aU (aW ?_)))
  refine srs hn ?_
  obtain ⟨x, h12, hm⟩ := bnd hm
  simp -dsimp [hf, c11, h12]
  refine sw_midps bm mixed [(13, 14), (14, 16)] [0, 1, 2, 3, 4, 5, 6, 7, 8, 9, 10, 11, 15, 12, 13, 14, 16, 17] [0, 1, 2, 3, 4, 5, 6, 7, 8, 9, 10, 11, 13, 14, 15, 12, 16, 17] 11 12 16 12 [[]] [[5004]] [false, true, true, true] (some (13, .box [dI 0, dI 0, dI 0, dI 0, .d .nil])) (by rw [hn]; kernel_rfl) (by dsimp only [d9, eK, adO, rnL, pmL, pk, rnO, rnG, dr, List.cons_append, List.nil_append] <;> exact rfl) (fltT_some 74 _ (by kernel_rfl) rfl rfl rfl (by simp [C.wipe])) ?_
  dsimp only [List.take, List.drop, cM, cO, dp, pk, List.cons_append, List.nil_append, List.flatten_cons, List.flatten_nil, bV, bU, List.append_nil]
  obtain ⟨n, h13, hm⟩ := bnd hm
  obtain ⟨n1, h14, hm⟩ := bnd hm
  obtain ⟨y6, h15, hm⟩ := bnd hm
  simp -dsimp [hf, h13, h14]
  refine fy (g_unroll_builder_next_o ab l y4.1 y4.2.1 y4.2.2.1 y4.2.2.2 mp (⟨⟨(⟨(bE .i64 y3), (bE .i64 y3), (bf .i64 gv.W (bq .i64 2 y3)), (bf .i64 gv.H (bq .i64 2 y3))⟩ : Box).X, (⟨(bE .i64 y3), (bE .i64 y3), (bf .i64 gv.W (bq .i64 2 y3)), (bf .i64 gv.H (bq .i64 2 y3))⟩ : Box).Y, (⟨(bE .i64 y3), (bE .i64 y3), (bf .i64 gv.W (bq .i64 2 y3)), (bf .i64 gv.H (bq .i64 2 y3))⟩ : Box).W, (⟨(bE .i64 y3), (bE .i64 y3), (bf .i64 gv.W (bq .i64 2 y3)), (bf .i64 gv.H (bq .i64 2 y3))⟩ : Box).H⟩, y5.1⟩ : Ay) (⟨n, n1, 1, 1⟩ : Box) false y6 h15) [5001, 5002, 5000] [5004] rfl rfl rfl (by simp -dsimp) rfl (by simp -dsimp [hf]) (by first | rfl | simp) rfl (dkL hn) rfl rfl (by simp) (by rintro _ _ ⟨⟩; simp [C.wipe]) (by simp) ?_
  simp -dsimp
  refine aU ?_
  refine srs hn ?_
  simp -dsimp
  rcases aZ hm with ⟨c16, hm⟩ | ⟨c16, hm⟩
  ·refine aS (by simp -dsimp) c16 ?_
   refine srs hn ?_
   simp -dsimp [hf, c16]
   refine aV (aX (bz (aX ?_)))
   cases hm
   refine bd nofun ?_
   exact ⟨rfl, EE.here (by simp -dsimp [hf, Tryz.results12])⟩
  ·refine aR (by simp -dsimp) c16 ?_
   refine aT (aP ?_)
   refine srs hn ?_
   obtain ⟨x1, h17, hm⟩ := bnd hm
   simp -dsimp [c16, h17]
   refine aW ?_
   refine srs hn ?_
   simp -dsimp
   rcases aZ hm with ⟨c18, hm⟩ | ⟨c18, hm⟩
   ·refine aS (by simp -dsimp) c18 ?_
    refine sr1 hn ?_
    obtain ⟨u, h19, hm⟩ := bnd hm
    obtain ⟨y7, h20, hm⟩ := bnd hm
    simp -dsimp [hf, c18, cu h19 1 (rI .i64)]
    refine clg (g_unroll_builder_fix_o y6.2.2.2.2.2.2.1 y6.2.2.2.2.2.2.2.2 y4.1 y4.2.1 y4.2.2.1 y4.2.2.2 y6.2.2.2.2.2.2.2.1 x1.vars x y7 h20) [5001, 5004, 5000] [5005] (by simp -dsimp) (dkL hn) ?_
    simp -dsimp
    refine bk ?_
    refine bk ?_
    refine aP ?_
    refine sr1 hn ?_
    simp -dsimp [hf]
    cases hm
    refine bh ?_
    refine emv 5005 5002 ?_
    exact EE.here (by simp -dsimp [hf])
   ·refine aR (by simp -dsimp) c18 ?_
    refine srs hn ?_
    simp -dsimp [c18]
    rcases aZ hm with ⟨c21, hm⟩ | ⟨c21, hm⟩
    ·refine aS (by simp -dsimp) c21 ?_
     refine sr1 hn ?_
     obtain ⟨y7, h22, hm⟩ := bnd hm
     simp -dsimp [hf, c21]
     refine clg (g_unroll_builder_clause_o_N y6.2.2.2.2.2.2.1 y6.2.2.2.2.2.2.2.2 y4.1 y4.2.1 y4.2.2.1 y4.2.2.2 y6.2.2.2.2.2.2.2.1 y7 h22) [5001, 5004, 5000] [5006] (by simp -dsimp) (dkL hn) ?_
     simp -dsimp
     refine bk ?_
     refine bk ?_
     refine aP ?_
     refine sr1 hn ?_
     simp -dsimp [hf]
     cases hm
     refine bh ?_
     refine emv 5006 5002 ?_
     exact EE.here (by simp -dsimp [hf])
    ·refine aR (by simp -dsimp) c21 ?_
     refine aT ?_
     refine bk ?_
     refine bk ?_
     refine aP ?_
     refine sr1 hn ?_
     simp -dsimp [hf, c21]
     cases hm
     refine bh ?_
     refine emv 5004 5002 ?_
     exact EE.here (by simp -dsimp [hf])
 ·refine aR (by simp -dsimp) c11 ?_
  refine b9 ?_
  refine aX ?_
  cases hm
  refine bd nofun ?_
  exact ⟨rfl, EE.here (by simp -dsimp [hf, c11])⟩
theorem c_unroll_Parents (t : Tree) (gv : Grid) (r : Aw × Int × Int) (hm : m_unroll_Parents t gv = some r) : PureCall Tryz.prog 12 [.u (.agg [dI t.States, dR2 t.Hood, dR1 t.Nodes]), .u (.agg [dI gv.W, dI gv.H, dI gv.Edge, dL gv.Cells])] (.tup [.agg [dI r.1.Vars, .d (.sl 1 (List.map (rS 1 (rI .i64)) r.1.Clauses))], .one (dI r.2.1), .one (dI r.2.2)]) := by
 refine bN Tryz.func12 Tryz.ntmps12 fun cx hn => ?_
 unfold m_unroll_Parents at hm
 refine srs hn ?_
 simp -dsimp
 refine aU (aW ?_)
 refine srs hn ?_
 obtain ⟨y, h1, hm⟩ := bnd hm
 simp -dsimp
 refine b7 (ft t y h1) (dkL hn) ?_
 simp -dsimp
 rcases aZ hm with ⟨c2, hm⟩ | ⟨c2, hm⟩
 ·refine aS (by simp -dsimp) c2 ?_
  refine srs hn ?_
  simp -dsimp [c2]
  refine aV (bz (aX ?_))
  cases hm
  refine ⟨.inr rfl, ?_⟩
  exact EE.here (by simp -dsimp)
 ·refine aR (by simp -dsimp) c2 ?_
  refine srs hn ?_
  obtain ⟨y1, h3, hm⟩ := bnd hm
  simp -dsimp [c2]
  refine b7 (c_grid_Right gv y1 h3) (dkL hn) ?_
  simp -dsimp
  rcases aZ hm with ⟨c4, hm⟩ | ⟨c4, hm⟩
  ·refine aS (by simp -dsimp) c4 ?_
   refine srs hn ?_
   simp -dsimp [c4]
   refine aV (bz (aX ?_))
   cases hm
   refine ⟨.inr rfl, ?_⟩
   exact EE.here (by simp -dsimp)
  ·refine aR (by simp -dsimp) c4 ?_
   refine srs hn ?_
   obtain ⟨y2, h5, hm⟩ := bnd hm
   simp -dsimp [c4]
   refine dH (us' := [.u (.one (dL gv.Cells)), .u (.one (.fn 44 [.ref (Tree.row t) 0]))]) (c_slices_ContainsFunc_int_int_unroll_Parents_1 gv.Cells t y2 h5) (by simp -dsimp) rfl (dkL hn) ?_
   simp -dsimp
   rcases aZ hm with ⟨c6, hm⟩ | ⟨c6, hm⟩
   ·refine aS (by simp -dsimp) c6 ?_
    refine srs hn ?_
    simp -dsimp [c6]
    refine aV (bz (aX ?_))
    cases hm
    refine ⟨.inr rfl, ?_⟩
    exact EE.here (by simp -dsimp)
   ·refine aR (by simp -dsimp) c6 ?_
    refine aT ?_
    refine bk ?_
    refine aP ?_
    refine srs hn ?_
    obtain ⟨y3, h7, hm⟩ := bnd hm
    simp -dsimp [c6]
    refine b7 (c_hood_Radius t.Hood y3 h7) (dkL hn) ?_
    simp -dsimp
    refine srs hn ?_
    simp -dsimp
    refine aU ?_
    refine srs hn ?_
    simp -dsimp
    rcases aZ hm with ⟨c8, hm⟩ | ⟨c8, hm⟩
    ·refine aS (by simp -dsimp) c8 ?_
     refine srs hn ?_
     simp -dsimp [c8]
     refine aV (aX ?_)
     cases hm
     refine ⟨.inr rfl, ?_⟩
     exact EE.here (by simp -dsimp)
    ·refine aR (by simp -dsimp) c8 ?_
     refine aT (aP ?_)
     refine srs hn ?_
     obtain ⟨y4, h9, hm⟩ := bnd hm
     simp -dsimp [c8]
     refine clg (g_unroll_start t y4 h9) [] [5000, 5001] (by simp -dsimp) (dkL hn) ?_
     simp -dsimp
     refine Swp.pre (Wk.own0b 5001 1 5002 1 26 [dI 0, .d .nil, dI y4.1, dR2 y4.2.1, dR1 y4.2.2.1, dI y4.2.2.2, .map 5000] (by simp -dsimp) (by rfl) (by decide) (by decide)) ?_
     refine srs hn ?_
     obtain ⟨y5, h10, hm⟩ := bnd hm
     simp -dsimp
     refine clg (dJ 0 [] y4.1 y4.2.1 y4.2.2.1 y4.2.2.2 [] (⟨(bE .i64 y3), (bE .i64 y3), (bf .i64 gv.W (bq .i64 2 y3)), (bf .i64 gv.H (bq .i64 2 y3))⟩ : Box) y5 h10) [5001, 5002, 5000] [5003] (by simp -dsimp) (dkL hn) ?_
     simp -dsimp
     refine srs hn ?_
     simp -dsimp
     refine aU ?_
     refine srs hn ?_
     simp -dsimp
     refine aW ?_
     obtain ⟨o_, g23, hm⟩ := bnd hm
     refine bo (l_unroll_Parents_1 cx hn gv y3 y4 y5 g23) (by
       try dsimp only
       refine emv 5003 5002 ?_
       exact EE.here (by simp -dsimp)
     ) fun ee Z O x24 => ?_
     rcases o_ with r | ⟨mp, ab, l⟩
     ·unfold F_unroll_Parents_1 at x24
      dsimp only at x24
      obtain ⟨rfl, x24⟩ := x24
      refine bz (aX ?_)
      cases hm
      exact ⟨.inr rfl, x24⟩
     ·unfold F_unroll_Parents_1 at x24
      dsimp only at x24
      obtain ⟨rfl, x24⟩ := x24
      refine b8 ?_
      refine aP ?_
      refine see x24 fun Z O hf => ?_
      simp only [Fits, ba, bc, and_true] at hf
      refine aU ?_
      refine srs hn ?_
      obtain ⟨y6, h25, hm⟩ := bnd hm
      simp -dsimp [hf]
      refine clg (g_unroll_builder_large_o ab l y4.1 y4.2.1 y4.2.2.1 y4.2.2.2 mp y6 h25) [5001, 5002, 5000] [] (by simp -dsimp [hf]) (dkL hn) ?_
      simp -dsimp
      rcases aZ hm with ⟨c26, hm⟩ | ⟨c26, hm⟩
      ·refine aS (by simp -dsimp) c26 ?_
       refine srs hn ?_
       simp -dsimp [hf, c26]
       refine aV (aX ?_)
       cases hm
       refine ⟨.inr rfl, ?_⟩
       exact EE.here (by simp -dsimp [hf])
      ·refine aR (by simp -dsimp) c26 ?_
       refine aT (aP ?_)
       refine srs hn ?_
       simp -dsimp [hf, c26]
       cases hm
       exact aV ⟨.inr rfl, EE.here (by simp -dsimp [hf])⟩
theorem c_unroll_Bits_1 (cv : Cell) (a : Av) (r : Bool) (hm : m_unroll_Bits_1 cv a = some r) : PureCall Tryz.prog 53 [.u (.agg [dI cv.X, dI cv.Y, dI cv.S]), .u (.one (.ref (Av.row a) 0))] (vT r) := by
 refine bN Tryz.func53 Tryz.ntmps53 fun cx hn => ?_
 unfold m_unroll_Bits_1 at hm
 refine srs hn ?_
 simp -dsimp
 obtain ⟨a1, j4, hm⟩ := bnd hm
 refine scE [(3, vT a1)] [] ?_ fun Z O hf => ?_
 ·replace hm := j4
  clear j4
  refine sr1 hn ?_
  rcases aZ hm with ⟨c1, hm⟩ | ⟨c1, hm⟩
  ·simp -dsimp [c1]
   cases hm
   exact EE.here (by simp -dsimp)
  ·rcases aZ hm with ⟨c2, hm⟩ | ⟨c2, hm⟩
   ·simp -dsimp [c1, c2]
    cases hm
    exact EE.here (by simp -dsimp)
   ·rcases aZ hm with ⟨c3, hm⟩ | ⟨c3, hm⟩
    ·simp -dsimp [c1, c2, c3]
     cases hm
     exact EE.here (by simp -dsimp)
    ·simp -dsimp [c1, c2, c3]
     cases hm
     exact EE.here (by simp -dsimp)
 ·clear j4
  simp only [Fits, ba, bc, and_true] at hf
  cases hm
  exact aV ⟨.inr rfl, EE.here (by simp -dsimp [hf])⟩
def F_slices_IndexFunc_api_Pattern_api_Cell_unroll_Bits_1_1 (cx : Cx) (_s : List Cell) (_cv : Av) (tt : Int ⊕ Unit) (ee : Exit) (Z : Env) (O : Sto) : Prop := match tt with
 | .inl r => ee = .ret /\ EE cx (fun Z O => ∃ v, cX tb Z O Tryz.f96.results.toList = some v /\ (v.frz O).free = true /\ (v.frz O).wk (vI r)) Z O
 | .inr _u => ee = .exit 0 /\ EE cx (bp [] []) Z O
theorem l_slices_IndexFunc_api_Pattern_api_Cell_unroll_Bits_1_1 (cx : Cx) (hn : cx.n = 19) (s : List Cell) (cv : Av) {fu : Nat} {stt : Int} {tt : Int ⊕ Unit} (hh : b0 (b_slices_IndexFunc_api_Pattern_api_Cell_unroll_Bits_1_1 s cv) fu stt = some tt) {Z : Env} {O : Sto}
  (hE : bu (fun a : Int => [(0, .u (.one (dR0 s))), (1, .u (.one (.fn 53 [.ref (Av.row cv) 0]))), (7, vI (aY s)), (8, vI a)]) (fun _a : Int => []) stt Z O) : Swp Tryz.prog cx (.loop (bL [1, 0, 1, 0, 0] (bn Tryz.f96))) Z O (F_slices_IndexFunc_api_Pattern_api_Cell_unroll_Bits_1_1 cx s cv tt) := by
 refine bv hE hh (F_slices_IndexFunc_api_Pattern_api_Cell_unroll_Bits_1_1 cx s cv) ?_
 rintro a r hm Z O hf
 simp only [Fits, ba, bc, and_true] at hf
 unfold b_slices_IndexFunc_api_Pattern_api_Cell_unroll_Bits_1_1 at hm
 dsimp only at hm
 refine srs hn ?_
 simp -dsimp [hf]
 refine aU ?_
 rcases aZ hm with ⟨c1, hm⟩ | ⟨c1, hm⟩
 ·refine aS (by simp -dsimp) c1 ?_
  refine aT (aP (aU (aW ?_)))
  refine srs hn ?_
  simp -dsimp [hf, c1]
  refine srs hn ?_
  obtain ⟨x, h2, hm⟩ := bnd hm
  obtain ⟨y, h3, hm⟩ := bnd hm
  simp -dsimp [hf, h2]
  refine b7 (c_unroll_Bits_1 x cv y h3) (dkL hn) ?_
  simp -dsimp
  rcases aZ hm with ⟨c4, hm⟩ | ⟨c4, hm⟩
  ·refine aS (by simp -dsimp) c4 ?_
   refine srs hn ?_
   simp -dsimp [c4]
   refine aV (bz (aX ?_))
   cases hm
   refine bd nofun ?_
   exact ⟨rfl, EE.here (by simp -dsimp [Tryz.results96])⟩
  ·refine aR (by simp -dsimp) c4 ?_
   refine aT ?_
   refine bk ?_
   refine aP ?_
   refine sr1 hn ?_
   simp -dsimp [hf, c4]
   cases hm
   refine bh ?_
   exact EE.here (by simp -dsimp [hf])
 ·refine aR (by simp -dsimp) c1 ?_
  refine b9 ?_
  refine aX ?_
  cases hm
  refine bd nofun ?_
  exact ⟨rfl, EE.here (by simp -dsimp [c1])⟩
theorem c_slices_IndexFunc_api_Pattern_api_Cell_unroll_Bits_1 (s : List Cell) (cv : Av) (r : Int) (hm : m_slices_IndexFunc_api_Pattern_api_Cell_unroll_Bits_1 s cv = some r) : PureCall Tryz.prog 96 [.u (.one (dR0 s)), .u (.one (.fn 53 [.ref (Av.row cv) 0]))] (vI r) := by
 refine bN Tryz.func96 Tryz.ntmps96 fun cx hn => ?_
 unfold m_slices_IndexFunc_api_Pattern_api_Cell_unroll_Bits_1 at hm
 refine srs hn ?_
 simp -dsimp
 refine aU ?_
 refine srs hn ?_
 simp -dsimp
 refine aW ?_
 obtain ⟨o_, g5, hm⟩ := bnd hm
 refine bo (l_slices_IndexFunc_api_Pattern_api_Cell_unroll_Bits_1_1 cx hn s cv g5) (by
   try dsimp only
   exact eeh
 ) fun ee Z O x6 => ?_
 rcases o_ with r | _u
 ·unfold F_slices_IndexFunc_api_Pattern_api_Cell_unroll_Bits_1_1 at x6
  dsimp only at x6
  obtain ⟨rfl, x6⟩ := x6
  refine bz (aX ?_)
  cases hm
  exact ⟨.inr rfl, x6⟩
 ·unfold F_slices_IndexFunc_api_Pattern_api_Cell_unroll_Bits_1_1 at x6
  dsimp only at x6
  obtain ⟨rfl, x6⟩ := x6
  refine b8 ?_
  refine aP ?_
  refine see x6 fun Z O hf => ?_
  simp only [Fits, ba, bc, and_true] at hf
  refine srs hn ?_
  simp -dsimp
  cases hm
  exact aV ⟨.inr rfl, EE.here (by simp -dsimp)⟩
theorem c_slices_ContainsFunc_api_Pattern_api_Cell_unroll_Bits_1 (s : List Cell) (cv : Av) (r : Bool) (hm : m_slices_ContainsFunc_api_Pattern_api_Cell_unroll_Bits_1 s cv = some r) : PureCall Tryz.prog 52 [.u (.one (dR0 s)), .u (.one (.fn 53 [.ref (Av.row cv) 0]))] (vT r) := by
 refine bN Tryz.func52 Tryz.ntmps52 fun cx hn => ?_
 unfold m_slices_ContainsFunc_api_Pattern_api_Cell_unroll_Bits_1 at hm
 refine srs hn ?_
 simp -dsimp
 refine srs hn ?_
 obtain ⟨y, h1, hm⟩ := bnd hm
 simp -dsimp
 refine b7 (c_slices_IndexFunc_api_Pattern_api_Cell_unroll_Bits_1 s cv y h1) (dkL hn) ?_
 simp -dsimp
 cases hm
 exact aV ⟨.inr rfl, EE.here (by simp -dsimp)⟩
section
attribute [-simp] List.map_set List.set_set
def F_unroll_Bits_2 (cx : Cx) (x : Av) (p : List Cell) (y2 a1 : Int) (_out : List Bool) (_x1 : Cell) (tt : (List Bool)) (ee : Exit) (Z : Env) (O : Sto) : Prop := match tt with
 | aF => ee = .exit 2 /\ EE cx (bp [(4, vX 4), (9, vI y2), (10, vO 43), (44, .u (.one (dR0 p))), (45, vI (aY p)), (46, vI a1)] [(4, .box [dI x.W, dI x.H, dI x.Gens, dI x.DX, dI x.DY, dL x.Syms]), (43, .row 1 4 (List.map rB aF))]) Z O
theorem l_unroll_Bits_2 (cx : Cx) (hn : cx.n = 77) (x : Av) (p : List Cell) (y2 a1 : Int) (out : List Bool) (x1 : Cell) {fu : Nat} {stt : Int × (List Bool)} {tt : (List Bool)} (hh : b0 (b_unroll_Bits_2 x p y2 a1 out x1) fu stt = some tt) {Z : Env} {O : Sto}
  (hE : bu (fun stt : Int × (List Bool) => match stt with | (a2, _aF) => [(4, vX 4), (9, vI y2), (10, vO 43), (12, vX 12), (44, .u (.one (dR0 p))), (45, vI (aY p)), (46, vI a1), (50, vI y2), (51, vI a2)]) (fun stt : Int × (List Bool) => match stt with | (_a2, aF) => [(4, .box [dI x.W, dI x.H, dI x.Gens, dI x.DX, dI x.DY, dL x.Syms]), (12, .box [dI x1.X, dI x1.Y, dI x1.S]), (43, .row 1 4 (List.map rB aF))]) stt Z O) : Swp Tryz.prog cx (.loop (bL [1, 1, 1, 1, 1, 1, 0, 1, 0, 0, 1, 1, 0, 0, 1, 1, 0, 0] (bn Tryz.f14))) Z O (F_unroll_Bits_2 cx x p y2 a1 out x1 tt) := by
 refine bv hE hh (F_unroll_Bits_2 cx x p y2 a1 out x1) ?_
 rintro ⟨a2, aF⟩ r hm Z O hf
 simp only [Fits, ba, bc, and_true] at hf
 unfold b_unroll_Bits_2 at hm
 dsimp only at hm
 refine srs hn ?_
 simp -dsimp [hf]
 refine aU ?_
 rcases aZ hm with ⟨c13, hm⟩ | ⟨c13, hm⟩
 ·refine aS (by simp -dsimp) c13 ?_
  refine aT (aP (aU (aW ?_)))
  refine srs hn ?_
  simp -dsimp [hf, c13]
  refine dV bm mixed 19 (by rw [hn]; kernel_rfl) ?_
  dsimp only [List.take, List.drop]
  obtain ⟨n, h14, hm⟩ := bnd hm
  obtain ⟨x2, h15, hm⟩ := bnd hm
  simp -dsimp [hf, h14, h15, bC h15, rsetB aF (bf .i64 (bq .i64 (bf .i64 (bq .i64 x1.Y x.W) x1.X) y2) a2).toNat (eqB (iand .i64 n 1) 1)]
  refine bk ?_
  refine aP ?_
  refine sr1 hn ?_
  simp -dsimp [hf]
  cases hm
  refine bh ?_
  exact EE.here (by simp -dsimp [hf])
 ·refine aR (by simp -dsimp) c13 ?_
  refine b9 ?_
  refine aX ?_
  cases hm
  refine bd nofun ?_
  exact ⟨rfl, EE.here (by simp -dsimp [hf, c13])⟩
def F_unroll_Bits_1 (cx : Cx) (_x : Av) (_p : List Cell) (_y2 : Int) (tt : (List Bool)) (ee : Exit) (Z : Env) (O : Sto) : Prop := match tt with
 | out => ee = .exit 0 /\ EE cx (bp [(10, vO 43)] [(43, .row 1 4 (List.map rB out))]) Z O
theorem l_unroll_Bits_1 (cx : Cx) (hn : cx.n = 77) (x : Av) (p : List Cell) (y2 : Int) {fu : Nat} {stt : Int × (List Bool)} {tt : (List Bool)} (hh : b0 (b_unroll_Bits_1 x p y2) fu stt = some tt) {Z : Env} {O : Sto}
  (hE : bu (fun stt : Int × (List Bool) => match stt with | (a1, _out) => [(4, vX 4), (9, vI y2), (10, vO 43), (44, .u (.one (dR0 p))), (45, vI (aY p)), (46, vI a1)]) (fun stt : Int × (List Bool) => match stt with | (_a1, out) => [(4, .box [dI x.W, dI x.H, dI x.Gens, dI x.DX, dI x.DY, dL x.Syms]), (43, .row 1 4 (List.map rB out))]) stt Z O) : Swp Tryz.prog cx (.loop (bL [1, 1, 1, 1, 1, 1, 0, 1, 0, 0] (bn Tryz.f14))) Z O (F_unroll_Bits_1 cx x p y2 tt) := by
 refine bv hE hh (F_unroll_Bits_1 cx x p y2) ?_
 rintro ⟨a1, out⟩ r hm Z O hf
 simp only [Fits, ba, bc, and_true] at hf
 unfold b_unroll_Bits_1 at hm
 dsimp only at hm
 refine srs hn ?_
 simp -dsimp [hf]
 refine aU ?_
 rcases aZ hm with ⟨c11, hm⟩ | ⟨c11, hm⟩
 ·refine aS (by simp -dsimp) c11 ?_
  refine aT (aP (aU (aW ?_)))
  refine srs hn ?_
  obtain ⟨x1, h12, hm⟩ := bnd hm
  simp -dsimp [hf, c11, h12]
  refine srs hn ?_
  simp -dsimp [hf]
  refine aW ?_
  obtain ⟨aF, g16, hm⟩ := bnd hm
  refine bo (l_unroll_Bits_2 cx hn x p y2 a1 out x1 g16) (by
    try dsimp only
    exact EE.here (by simp -dsimp [hf])
  ) fun ee Z O x17 => ?_
  unfold F_unroll_Bits_2 at x17
  dsimp only at x17
  obtain ⟨rfl, x17⟩ := x17
  refine b8 ?_
  refine bk ?_
  refine aP ?_
  refine see x17 fun Z O hf => ?_
  simp only [Fits, ba, bc, and_true] at hf
  refine sr1 hn ?_
  simp -dsimp [hf]
  cases hm
  refine bh ?_
  exact EE.here (by simp -dsimp [hf])
 ·refine aR (by simp -dsimp) c11 ?_
  refine b9 ?_
  refine aX ?_
  cases hm
  refine bd nofun ?_
  exact ⟨rfl, EE.here (by simp -dsimp [hf, c11])⟩
theorem c_unroll_Bits (t : Tree) (x : Av) (p : List Cell) (r : (List Bool) × Int) (hm : m_unroll_Bits t x p = some r) : PureCall Tryz.prog 14 [.u (.agg [dI t.States, dR2 t.Hood, dR1 t.Nodes]), .u (.agg [dI x.W, dI x.H, dI x.Gens, dI x.DX, dI x.DY, dL x.Syms]), .u (.one (dR0 p))] (.tup [.one (.d (.sl 1 (List.map rB r.1))), .one (dI r.2)]) := by
 refine bN Tryz.func14 Tryz.ntmps14 fun cx hn => ?_
 unfold m_unroll_Bits at hm
 refine srs hn ?_
 simp -dsimp
 refine aU ?_
 refine srs hn ?_
 obtain ⟨y, h1, hm⟩ := bnd hm
 simp -dsimp
 refine b7 (eg t x y h1) (dkL hn) ?_
 simp -dsimp
 refine srs hn ?_
 simp -dsimp
 rcases aZ hm with ⟨c2, hm⟩ | ⟨c2, hm⟩
 ·refine aS (by simp -dsimp) c2 ?_
  refine srs hn ?_
  simp -dsimp [c2]
  refine aV (aX ?_)
  cases hm
  refine ⟨.inr rfl, ?_⟩
  exact EE.here (by simp -dsimp)
 ·refine aR (by simp -dsimp) c2 ?_
  refine aT (aP (aU ?_))
  obtain ⟨a, j20, hm⟩ := bnd hm
  refine scE [(2, .u (.one (dR0 p))), (3, vX 3), (4, vX 4), (27, vT a)] [(3, .box [dI t.States, dR2 t.Hood, dR1 t.Nodes]), (4, .box [dI x.W, dI x.H, dI x.Gens, dI x.DX, dI x.DY, dL x.Syms])] ?_ fun Z O hf => ?_
  ·replace hm := j20
   clear j20
   refine sr1 hn ?_
   obtain ⟨y1, h3, hm⟩ := bnd hm
   simp -dsimp [c2]
   refine b7 (c_pattern_Right p y1 h3) (dkL hn) ?_
   rcases aZ hm with ⟨c4, hm⟩ | ⟨c4, hm⟩
   ·simp -dsimp [c4]
    cases hm
    exact EE.here (by simp -dsimp)
   ·obtain ⟨y2, h5, hm⟩ := bnd hm
    simp -dsimp [c4]
    refine dH (us' := [.u (.one (dR0 p)), .u (.one (.fn 53 [.ref (Av.row x) 0]))]) (c_slices_ContainsFunc_api_Pattern_api_Cell_unroll_Bits_1 p x y2 h5) (by simp -dsimp) rfl (dkL hn) ?_
    simp -dsimp
    cases hm
    exact EE.here (by simp -dsimp)
  ·clear j20
   simp only [Fits, ba, bc, and_true] at hf
   rcases aZ hm with ⟨c6, hm⟩ | ⟨c6, hm⟩
   ·refine aS (by simp -dsimp [hf]) c6 ?_
    refine srs hn ?_
    simp -dsimp
    refine aV (aX ?_)
    cases hm
    refine ⟨.inr rfl, ?_⟩
    exact EE.here (by simp -dsimp)
   ·refine aR (by simp -dsimp [hf]) c6 ?_
    refine aT (aP (aU ?_))
    refine cy bm mixed (by rw [hn]; kernel_rfl) ?_
    obtain ⟨y1, h7, hm⟩ := bnd hm
    simp -dsimp [hf]
    refine bi (c_pattern_Top p y1 h7) ?_
    simp -dsimp [hf]
    rcases aZ hm with ⟨c8, hm⟩ | ⟨c8, hm⟩
    ·refine aS (by simp -dsimp) c8 ?_
     refine srs hn ?_
     simp -dsimp [c8]
     refine aV (aX ?_)
     cases hm
     refine ⟨.inr rfl, ?_⟩
     exact EE.here (by simp -dsimp)
    ·refine aR (by simp -dsimp) c8 ?_
     refine aT (aP ?_)
     refine srs hn ?_
     obtain ⟨y2, h9, hm⟩ := bnd hm
     simp -dsimp [hf, c8]
     refine b7 (ev t.States y2 h9) (dkL hn) ?_
     simp -dsimp
     refine srs hn ?_
     obtain ⟨l, h10, hm⟩ := bnd hm
     obtain ⟨⟨h10a, h10b, h10c⟩, rfl⟩ := mkL_some h10
     rw [Int.mul_one] at h10c
     simp -dsimp [hf, h10a, h10c]
     refine aU ?_
     refine srs hn ?_
     simp -dsimp [hf]
     refine aW ?_
     obtain ⟨out, g18, hm⟩ := bnd hm
     refine bo (l_unroll_Bits_1 cx hn x p y2 g18) (by
       try dsimp only
       exact EE.here (by simp -dsimp [hf])
     ) fun ee Z O x19 => ?_
     unfold F_unroll_Bits_1 at x19
     dsimp only at x19
     obtain ⟨rfl, x19⟩ := x19
     refine b8 ?_
     refine aP ?_
     refine see x19 fun Z O hf => ?_
     simp only [Fits, ba, bc, and_true] at hf
     refine srs hn ?_
     simp -dsimp [hf]
     cases hm
     exact aV ⟨.inr rfl, EE.here (by simp -dsimp [hf])⟩
end
def F_lower_State_1 (cx : Cx) (_l : List Bool) (tt : Int) (ee : Exit) (Z : Env) (O : Sto) : Prop := match tt with
 | n => ee = .exit 0 /\ EE cx (bp [(3, vI n)] []) Z O
theorem l_lower_State_1 (cx : Cx) (hn : cx.n = 23) (l : List Bool) {fu : Nat} {stt : Int × Int} {tt : Int} (hh : b0 (b_lower_State_1 l) fu stt = some tt) {Z : Env} {O : Sto}
  (hE : bu (fun stt : Int × Int => match stt with | (n, a) => [(3, vI n), (9, .u (.one (.d (.sl 1 (List.map rB l))))), (10, vI (aY l)), (11, vI a)]) (fun stt : Int × Int => match stt with | (_n, _a) => []) stt Z O) : Swp Tryz.prog cx (.loop (bL [1, 1, 1, 0, 1, 0, 0] (bn Tryz.f63))) Z O (F_lower_State_1 cx l tt) := by
 refine bv hE hh (F_lower_State_1 cx l) ?_
 rintro ⟨n, a⟩ r hm Z O hf
 simp only [Fits, ba, bc, and_true] at hf
 unfold b_lower_State_1 at hm
 dsimp only at hm
 refine srs hn ?_
 simp -dsimp [hf]
 refine aU ?_
 rcases aZ hm with ⟨c2, hm⟩ | ⟨c2, hm⟩
 ·refine aS (by simp -dsimp) c2 ?_
  refine aT (aP ?_)
  obtain ⟨n1, j6, hm⟩ := bnd hm
  refine scE [(3, vI n1), (9, .u (.one (.d (.sl 1 (List.map rB l))))), (10, vI (aY l)), (11, vI a)] [] ?_ fun Z O hf => ?_
  ·replace hm := j6
   clear j6
   refine aW ?_
   refine srs hn ?_
   obtain ⟨x, h3, hm⟩ := bnd hm
   simp -dsimp [hf, c2, h3]
   refine srs hn ?_
   simp -dsimp
   rcases aZ hm with ⟨c4, hm⟩ | ⟨c4, hm⟩
   ·refine aS (by simp -dsimp) c4 ?_
    refine sr1 hn ?_
    obtain ⟨n1, h5, hm⟩ := bnd hm
    simp -dsimp [hf, c4, h5]
    refine bk ?_
    cases hm
    exact EE.here (by simp -dsimp [hf])
   ·refine aR (by simp -dsimp) c4 ?_
    refine aT ?_
    refine bk ?_
    cases hm
    exact EE.here (by simp -dsimp [hf, c4])
  ·clear j6
   simp only [Fits, ba, bc, and_true] at hf
   refine sr1 hn ?_
   simp -dsimp [hf]
   cases hm
   refine bh ?_
   exact EE.here (by simp -dsimp [hf])
 ·refine aR (by simp -dsimp) c2 ?_
  refine b9 ?_
  refine aX ?_
  cases hm
  refine bd nofun ?_
  exact ⟨rfl, EE.here (by simp -dsimp [hf, c2])⟩
theorem c_lower_State (l : List Bool) (r : Int) (hm : m_lower_State l = some r) : PureCall Tryz.prog 63 [.u (.one (.d (.sl 1 (List.map rB l))))] (vI r) := by
 refine bN Tryz.func63 Tryz.ntmps63 fun cx hn => ?_
 unfold m_lower_State at hm
 refine srs hn ?_
 simp -dsimp
 refine aU ?_
 refine srs hn ?_
 simp -dsimp
 rcases aZ hm with ⟨c1, hm⟩ | ⟨c1, hm⟩
 ·refine sct c1 ?_
  refine srs hn ?_
  simp -dsimp [c1]
  refine aV (aX ?_)
  cases hm
  refine ⟨.inr rfl, ?_⟩
  exact EE.here (by simp -dsimp)
 ·refine scf c1 ?_
  refine aT (aP ?_)
  refine srs hn ?_
  simp -dsimp [c1]
  refine aU ?_
  refine srs hn ?_
  simp -dsimp
  refine aW ?_
  obtain ⟨n, g7, hm⟩ := bnd hm
  refine bo (l_lower_State_1 cx hn l g7) (by
    try dsimp only
    exact EE.here (by simp -dsimp)
  ) fun ee Z O x8 => ?_
  unfold F_lower_State_1 at x8
  dsimp only at x8
  obtain ⟨rfl, x8⟩ := x8
  refine b8 ?_
  refine aP ?_
  refine see x8 fun Z O hf => ?_
  simp only [Fits, ba, bc, and_true] at hf
  refine srs hn ?_
  simp -dsimp [hf]
  cases hm
  exact aV ⟨.inr rfl, EE.here (by simp -dsimp)⟩
end Go.Proofs.YtjfjmdmdkbpdfaaGreatDoor
