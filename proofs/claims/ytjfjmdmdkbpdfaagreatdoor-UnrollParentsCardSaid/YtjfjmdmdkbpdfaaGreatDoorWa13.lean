/- That the code does what the functions say (made by cc.py). -/
import Derived.Test.YtjfjmdmdkbpdfaaGreatDoorWa12
namespace Go.Proofs.YtjfjmdmdkbpdfaaGreatDoor
open Go.AM Go.Proofs
set_option maxRecDepth 100000
attribute [-simp] qlookup ct d7 Ob.wipe Ob.ren Ob.frz1
def F_R45_fix_o_1 (cx : Cx) (aw : Int) (_l : List Int) (_n : Int) (tt : (List (List Int))) (ee : Exit) (Z : Env) (O : Sto) : Prop := match tt with
 | l1 => ee = .exit 0 /\ EE cx (bp [(3, vX 3), (6, vX 6)] [(3, .box [dI aw, .own 5002]), (6, .box [dI 0, .d .nil]), (5002, .row 1 26 (List.map (rS 1 (rI .i64)) l1))]) Z O
theorem l_R45_fix_o_1 (cx : Cx) (hn : cx.n = 34) (_hk : cx.k = 1) (aw : Int) (l : List Int) (n : Int) {fu : Nat} {stt : Int × (List (List Int))} {tt : (List (List Int))} (hh : b0 (b_R45_fix_o_1 aw l n) fu stt = some tt) {Z : Env} {O : Sto}
  (hE : bu (fun stt : Int × (List (List Int)) => match stt with | (k, _l1) => [(1, .u (.one (dL l))), (2, vI n), (3, vX 3), (6, vX 6), (7, vI k)]) (fun stt : Int × (List (List Int)) => match stt with | (_k, l1) => [(3, .box [dI aw, .own 5002]), (6, .box [dI 0, .d .nil]), (5002, .row 1 26 (List.map (rS 1 (rI .i64)) l1))]) stt Z O) : Swp Tryz.prog cx (.loop (bL [1, 0, 1, 0, 0] (bn Tryz.f49))) Z O (F_R45_fix_o_1 cx aw l n tt) := by
 refine bv hE hh (F_R45_fix_o_1 cx aw l n) ?_
 rintro ⟨k, l1⟩ r hm Z O hf
 simp only [Fits, ba, bc, and_true] at hf
 unfold b_R45_fix_o_1 at hm
 dsimp only at hm
 refine aU ?_
 refine srs hn ?_
 simp -dsimp [hf]
 rcases aZ hm with ⟨c1, hm⟩ | ⟨c1, hm⟩
 ·refine aS (by simp -dsimp) c1 ?_
  refine aT (aP ?_)
  obtain ⟨l2, j8, hm⟩ := bnd hm
  refine scE [(1, .u (.one (dL l))), (2, vI n), (3, vX 3), (6, vX 6), (7, vI k)] [(3, .box [dI aw, .own 5002]), (6, .box [dI 0, .d .nil]), (5002, .row 1 26 (List.map (rS 1 (rI .i64)) l2))] ?_ fun Z O hf => ?_
  ·replace hm := j8
   clear j8
   refine aW ?_
   refine srs hn ?_
   obtain ⟨y, h2, hm⟩ := bnd hm
   simp -dsimp [hf, c1]
   refine b7 (c_R45_bit n k y h2) (dkL hn) ?_
   simp -dsimp
   rcases aZ hm with ⟨c3, hm⟩ | ⟨c3, hm⟩
   ·refine aS (by simp -dsimp) c3 ?_
    refine dV bm mixed 6 (by rw [hn]; kernel_rfl) ?_
    dsimp only [List.take, List.drop]
    obtain ⟨x, h4, hm⟩ := bnd hm
    obtain ⟨y1, h5, hm⟩ := bnd hm
    simp -dsimp [hf, c3, h4]
    refine clg (g_R45_clause_o_N aw l1 [x] y1 h5) [5002] [5000] (by simp -dsimp [hf]) (dkL hn) ?_
    simp -dsimp [hf]
    refine bk ?_
    refine aP ?_
    cases hm
    refine emv 5000 5002 ?_
    exact EE.here (by simp -dsimp [hf])
   ·refine aR (by simp -dsimp) c3 ?_
    refine dV bm mixed 7 (by rw [hn]; kernel_rfl) ?_
    dsimp only [List.take, List.drop]
    obtain ⟨x, h6, hm⟩ := bnd hm
    obtain ⟨y1, h7, hm⟩ := bnd hm
    simp -dsimp [hf, c3, h6]
    refine clg (g_R45_clause_o_N aw l1 [(bE .i64 x)] y1 h7) [5002] [5001] (by simp -dsimp [hf]) (dkL hn) ?_
    simp -dsimp [hf]
    refine bk ?_
    refine aP ?_
    cases hm
    refine emv 5001 5002 ?_
    exact EE.here (by simp -dsimp [hf])
  ·clear j8
   simp only [Fits, ba, bc, and_true] at hf
   refine sr1 hn ?_
   simp -dsimp [hf]
   cases hm
   refine bh ?_
   exact EE.here (by simp -dsimp [hf])
 ·refine aR (by simp -dsimp) c1 ?_
  refine b9 ?_
  refine aX ?_
  cases hm
  refine bd nofun ?_
  exact ⟨rfl, EE.here (by simp -dsimp [hf, c1])⟩
theorem g_R45_fix_o (aw : Int) (az : List (List Int)) (l : List Int) (n : Int) (r : List (List Int)) (hm : m_R45_fix_o aw az l n = some r) : GFn Tryz.prog 49 [.u (.agg [dI aw, .own 1000000]), .u (.one (dL l)), vI n] [.row 1 26 (List.map (rS 1 (rI .i64)) az)] (.u (.agg [dI aw, .own 1000001])) [none, some (.row 1 26 (List.map (rS 1 (rI .i64)) r))] := by
 refine bD bm _ Tryz.func49 rfl (by kernel_rfl) (by simp [Tryz.ntmps49]) (by simp) (by first | rfl | simp) (by first | rfl | simp) fun cx hn hk => ?_
 replace hn : cx.n = 34 := hn.trans Tryz.ntmps49
 replace hk : cx.k = 1 := hk
 unfold m_R45_fix_o at hm
 refine srs hn ?_
 simp -dsimp
 refine aU ?_
 refine srs hn ?_
 simp -dsimp
 refine aW ?_
 obtain ⟨l1, g9, hm⟩ := bnd hm
 refine bo (l_R45_fix_o_1 cx hn hk aw l n g9) (by
   try dsimp only
   refine emv 1000000 5002 ?_
   exact eeh
 ) fun ee Z O x10 => ?_
 unfold F_R45_fix_o_1 at x10
 dsimp only at x10
 obtain ⟨rfl, x10⟩ := x10
 refine b8 ?_
 refine aP ?_
 refine see x10 fun Z O hf => ?_
 simp only [Fits, ba, bc, and_true] at hf
 refine srs hn ?_
 simp -dsimp [hf]
 refine aV ?_
 cases hm
 refine ⟨.inr rfl, ?_⟩
 refine emr 5002 1000001 hk ?_
 exact EE.here (by simp -dsimp [hf])
theorem g_R45_clause_o_N_N (aw : Int) (az : List (List Int)) (r : Unit) (hm : m_R45_clause_o_N_N aw az = some r) : GFn Tryz.prog 50 [.u (.agg [dI aw, .own 1000000]), .u (.one (.d .nil)), .u (.one (.d .nil))] [.row 1 26 (List.map (rS 1 (rI .i64)) az)] (.u (.agg [dI aw, .own 1000001])) [none, some (.row 1 26 (List.map (rS 1 (rI .i64)) (az ++ [((([] : List Int) ++ []) ++ [])])))] := by
 refine bD bm _ Tryz.func50 rfl (by kernel_rfl) (by simp [Tryz.ntmps50]) (by simp) (by first | rfl | simp) (by first | rfl | simp) fun cx hn hk => ?_
 replace hn : cx.n = 22 := hn.trans Tryz.ntmps50
 replace hk : cx.k = 1 := hk
 unfold m_R45_clause_o_N_N at hm
 refine srs hn ?_
 simp -dsimp
 refine srs hn ?_
 simp -dsimp
 refine srs hn ?_
 obtain ⟨l, h1, hm⟩ := bnd hm
 obtain ⟨h1a, h1e⟩ := bj h1
 replace h1e := h1e.symm
 subst h1e
 try simp only [List.length_nil, Nat.zero_add] at h1a
 simp -dsimp [h1a]
 refine srs hn ?_
 obtain ⟨l1, h2, hm⟩ := bnd hm
 obtain ⟨h2a, h2e⟩ := bj h2
 replace h2e := h2e.symm
 subst h2e
 try simp only [List.length_nil, Nat.zero_add, List.nil_append] at h2a
 simp -dsimp [h1a]
 refine Swp.pre (Wk.frz 13 1 3 (List.map (rI .i64) ((([] : List Int) ++ []) ++ [])) (by simp -dsimp)) ?_
 refine dd bm mixed 6 7 7 0 [[0, 1]] [[20]] [] none (by rw [hn]; kernel_rfl) bY ?_
 dsimp only [List.take, List.drop, cM, cO, dp, pk, List.cons_append, List.nil_append, List.flatten_cons, List.flatten_nil, bV, bU, List.append_nil]
 obtain ⟨l2, h3, hm⟩ := bnd hm
 obtain ⟨h3a, h3e⟩ := bj h3
 replace h3e := h3e.symm
 subst h3e
 try simp only [List.length_cons, List.length_nil, Nat.zero_add, List.nil_append] at h3a
 simp -dsimp [h3a]
 refine aV ?_
 cases hm
 refine ⟨.inr rfl, ?_⟩
 refine emr 20 1000001 hk ?_
 exact EE.here (by simp -dsimp)
def F_R45_Parents_2 (cx : Cx) (gv : Grid) (y1 : Int) (y2 : Int × (List Az) × (List (List Int))) (y3 : Tree) (i aw : Int) (l : List (List Int)) (_n _n1 : Int) (tt : (List Az)) (ee : Exit) (Z : Env) (O : Sto) : Prop := match tt with
 | in_ => ee = .exit 2 /\ EE cx (bp [(3, vX 3), (4, vX 4), (8, vI y1), (9, vI (bf .i64 gv.W (bq .i64 2 y1))), (10, vX 10), (11, .u (.one (dR3 y2.2.1))), (12, vI y2.1), (13, vX 13), (14, vI i), (17, vO 5001)] [(3, .box [dI gv.W, dI gv.H, dI gv.Edge, dL gv.Cells]), (4, .box [dI 0, .d .nil]), (10, .box [dI aw, .own 5005]), (13, .box [dI y3.States, dR2 y3.Hood, dR1 y3.Nodes]), (5001, .row 2 93 (List.map Az.row in_)), (5005, .row 1 26 (List.map (rS 1 (rI .i64)) l))]) Z O
theorem l_R45_Parents_2 (cx : Cx) (hn : cx.n = 145) (gv : Grid) (y1 : Int) (y2 : Int × (List Az) × (List (List Int))) (y3 : Tree) (i aw : Int) (l : List (List Int)) (n n1 : Int) {fu : Nat} {stt : Int × (List Az)} {tt : (List Az)} (hh : b0 (b_R45_Parents_2 gv y1 y2 y3 i aw l n n1) fu stt = some tt) {Z : Env} {O : Sto}
  (hE : bu (fun stt : Int × (List Az) => match stt with | (k, _in_) => [(3, vX 3), (4, vX 4), (8, vI y1), (9, vI (bf .i64 gv.W (bq .i64 2 y1))), (10, vX 10), (11, .u (.one (dR3 y2.2.1))), (12, vI y2.1), (13, vX 13), (14, vI i), (15, vI (bf .i64 n y1)), (16, vI (bf .i64 n1 y1)), (17, vO 5001), (18, vI k)]) (fun stt : Int × (List Az) => match stt with | (_k, in_) => [(3, .box [dI gv.W, dI gv.H, dI gv.Edge, dL gv.Cells]), (4, .box [dI 0, .d .nil]), (10, .box [dI aw, .own 5005]), (13, .box [dI y3.States, dR2 y3.Hood, dR1 y3.Nodes]), (5001, .row 2 93 (List.map Az.row in_)), (5005, .row 1 26 (List.map (rS 1 (rI .i64)) l))]) stt Z O) : Swp Tryz.prog cx (.loop (bL [1, 1, 1, 1, 1, 1, 1, 0, 1, 0, 0, 1, 0, 0, 1, 1, 0, 1, 0, 0] (bn Tryz.f13))) Z O (F_R45_Parents_2 cx gv y1 y2 y3 i aw l n n1 tt) := by
 refine bv hE hh (F_R45_Parents_2 cx gv y1 y2 y3 i aw l n n1) ?_
 rintro ⟨k, in_⟩ r hm Z O hf
 simp only [Fits, ba, bc, and_true] at hf
 unfold b_R45_Parents_2 at hm
 dsimp only at hm
 refine aU ?_
 refine srs hn ?_
 simp -dsimp [hf]
 rcases aZ hm with ⟨c11, hm⟩ | ⟨c11, hm⟩
 ·refine aS (by simp -dsimp) c11 ?_
  refine aT (aP (aU (aW ?_)))
  refine dV bm mixed 24 (by rw [hn]; kernel_rfl) ?_
  dsimp only [List.take, List.drop]
  obtain ⟨x, h12, hm⟩ := bnd hm
  obtain ⟨x1, h13, hm⟩ := bnd hm
  obtain ⟨l1, h14, hm⟩ := bnd hm
  obtain ⟨h14a, h14e⟩ := bj h14
  replace h14e := h14e.symm
  subst h14e
  try simp only [List.length_cons, List.length_nil, Nat.zero_add] at h14a
  simp -dsimp [hf, c11, h12, h13, h14a]
  refine bk ?_
  refine aP ?_
  refine sr1 hn ?_
  simp -dsimp [hf]
  cases hm
  refine bh ?_
  refine emv 107 5001 ?_
  exact EE.here (by simp -dsimp [hf])
 ·refine aR (by simp -dsimp) c11 ?_
  refine b9 ?_
  refine aX ?_
  cases hm
  refine bd nofun ?_
  exact ⟨rfl, EE.here (by simp -dsimp [hf, c11])⟩
def F_R45_Parents_1 (cx : Cx) (_gv : Grid) (_y1 : Int) (y2 : Int × (List Az) × (List (List Int))) (_y3 : Tree) (tt : (Int × (List (List Int)))) (ee : Exit) (Z : Env) (O : Sto) : Prop := match tt with
 | (aw, l) => ee = .exit 0 /\ EE cx (bp [(4, vX 4), (10, vX 10), (12, vI y2.1)] [(4, .box [dI 0, .d .nil]), (10, .box [dI aw, .own 5005]), (5005, .row 1 26 (List.map (rS 1 (rI .i64)) l))]) Z O
theorem l_R45_Parents_1 (cx : Cx) (hn : cx.n = 145) (gv : Grid) (y1 : Int) (y2 : Int × (List Az) × (List (List Int))) (y3 : Tree) {fu : Nat} {stt : Int × Int × (List (List Int))} {tt : (Int × (List (List Int)))} (hh : b0 (b_R45_Parents_1 gv y1 y2 y3) fu stt = some tt) {Z : Env} {O : Sto}
  (hE : bu (fun stt : Int × Int × (List (List Int)) => match stt with | (i, _aw, _l) => [(3, vX 3), (4, vX 4), (8, vI y1), (9, vI (bf .i64 gv.W (bq .i64 2 y1))), (10, vX 10), (11, .u (.one (dR3 y2.2.1))), (12, vI y2.1), (13, vX 13), (14, vI i)]) (fun stt : Int × Int × (List (List Int)) => match stt with | (_i, aw, l) => [(3, .box [dI gv.W, dI gv.H, dI gv.Edge, dL gv.Cells]), (4, .box [dI 0, .d .nil]), (10, .box [dI aw, .own 5005]), (13, .box [dI y3.States, dR2 y3.Hood, dR1 y3.Nodes]), (5005, .row 1 26 (List.map (rS 1 (rI .i64)) l))]) stt Z O) : Swp Tryz.prog cx (.loop (bL [1, 1, 1, 1, 1, 1, 1, 0, 1, 0, 0] (bn Tryz.f13))) Z O (F_R45_Parents_1 cx gv y1 y2 y3 tt) := by
 refine bv hE hh (F_R45_Parents_1 cx gv y1 y2 y3) ?_
 rintro ⟨i, aw, l⟩ r hm Z O hf
 simp only [Fits, ba, bc, and_true] at hf
 unfold b_R45_Parents_1 at hm
 dsimp only at hm
 refine aU ?_
 obtain ⟨a, j24, hm⟩ := bnd hm
 refine scE [(3, vX 3), (4, vX 4), (8, vI y1), (9, vI (bf .i64 gv.W (bq .i64 2 y1))), (10, vX 10), (11, .u (.one (dR3 y2.2.1))), (12, vI y2.1), (13, vX 13), (14, vI i), (61, vT a)] [(3, .box [dI gv.W, dI gv.H, dI gv.Edge, dL gv.Cells]), (4, .box [dI 0, .d .nil]), (10, .box [dI aw, .own 5005]), (13, .box [dI y3.States, dR2 y3.Hood, dR1 y3.Nodes]), (5005, .row 1 26 (List.map (rS 1 (rI .i64)) l))] ?_ fun Z O hf => ?_
 ·replace hm := j24
  clear j24
  refine sr1 hn ?_
  rcases aZ hm with ⟨c6, hm⟩ | ⟨c6, hm⟩
  ·obtain ⟨y4, h7, hm⟩ := bnd hm
   simp -dsimp [hf, c6]
   refine dH (us' := [.u (.agg [dI ((⟨aw, l⟩ : Aw).Vars), .d (.sl 1 (List.map (rS 1 (rI .i64)) ((⟨aw, l⟩ : Aw).Clauses)))])]) (c_R45_fits (⟨aw, l⟩ : Aw) y4 h7) (by simp -dsimp [hf]) rfl (dkL hn) ?_
   simp -dsimp
   cases hm
   exact EE.here (by simp -dsimp [hf])
  ·simp -dsimp [hf, c6]
   cases hm
   exact EE.here (by simp -dsimp [hf])
 ·clear j24
  simp only [Fits, ba, bc, and_true] at hf
  rcases aZ hm with ⟨c8, hm⟩ | ⟨c8, hm⟩
  ·refine aS (by simp -dsimp [hf]) c8 ?_
   refine aT (aP (aU (aW ?_)))
   refine cy bm mixed (by rw [hn]; kernel_rfl) ?_
   obtain ⟨n, h9, hm⟩ := bnd hm
   obtain ⟨n1, h10, hm⟩ := bnd hm
   simp -dsimp [hf, h9, h10]
   refine srs hn ?_
   simp -dsimp
   refine aU ?_
   refine srs hn ?_
   simp -dsimp
   refine aW ?_
   obtain ⟨in_, g15, hm⟩ := bnd hm
   refine bo (l_R45_Parents_2 cx hn gv y1 y2 y3 i aw l n n1 g15) (by
     try dsimp only
     refine EE.step (Wk.own0 17 5001 2 93 (by simp -dsimp) (by decide)) ?_
     exact EE.here (by simp -dsimp [hf])
   ) fun ee Z O x16 => ?_
   unfold F_R45_Parents_2 at x16
   dsimp only at x16
   obtain ⟨rfl, x16⟩ := x16
   refine b8 ?_
   refine aP ?_
   refine see x16 fun Z O hf => ?_
   simp only [Fits, ba, bc, and_true] at hf
   refine srs hn ?_
   obtain ⟨y4, h17, hm⟩ := bnd hm
   simp -dsimp [hf]
   refine clg (g_R45_tree_o_o aw l y3 in_ y4 h17) [5005, 5001] [5002] (by simp -dsimp [hf]) (dkL hn) ?_
   simp -dsimp
   refine srs hn ?_
   simp -dsimp [hf]
   refine srs hn ?_
   simp -dsimp
   rcases aZ hm with ⟨c18, hm⟩ | ⟨c18, hm⟩
   ·refine aS (by simp -dsimp) c18 ?_
    refine dV bm mixed 8 (by rw [hn]; kernel_rfl) ?_
    dsimp only [List.take, List.drop]
    obtain ⟨x, h19, hm⟩ := bnd hm
    obtain ⟨y5, h20, hm⟩ := bnd hm
    simp -dsimp [hf, c18, h19]
    refine clg (g_R45_fix_o y4.1 y4.2.2.2 y4.2.2.1 x y5 h20) [5002] [5003] (by simp -dsimp) (dkL hn) ?_
    simp -dsimp [hf]
    refine bk ?_
    refine aP ?_
    refine sr1 hn ?_
    simp -dsimp [hf]
    cases hm
    refine bh ?_
    refine emv 5003 5005 ?_
    exact EE.here (by simp -dsimp [hf])
   ·refine aR (by simp -dsimp) c18 ?_
    refine cy bm mixed (by rw [hn]; kernel_rfl) ?_
    obtain ⟨x, h21, hm⟩ := bnd hm
    simp -dsimp [hf, c18, h21]
    rcases aZ hm with ⟨c22, hm⟩ | ⟨c22, hm⟩
    ·refine aS (by simp -dsimp) c22 ?_
     refine sr1 hn ?_
     obtain ⟨y5, h23, hm⟩ := bnd hm
     simp -dsimp [hf, c22]
     refine clg (g_R45_clause_o_N_N y4.1 y4.2.2.2 y5 h23) [5002] [5004] (by simp -dsimp) (dkL hn) ?_
     simp -dsimp [hf]
     refine bk ?_
     refine aP ?_
     refine sr1 hn ?_
     simp -dsimp [hf]
     cases hm
     refine bh ?_
     refine emv 5004 5005 ?_
     exact EE.here (by simp -dsimp [hf])
    ·refine aR (by simp -dsimp) c22 ?_
     refine aT ?_
     refine bk ?_
     refine aP ?_
     refine sr1 hn ?_
     simp -dsimp [hf, c22]
     cases hm
     refine bh ?_
     refine emv 5002 5005 ?_
     exact EE.here (by simp -dsimp [hf])
  ·refine aR (by simp -dsimp [hf]) c8 ?_
   refine b9 ?_
   refine aX ?_
   cases hm
   refine bd nofun ?_
   exact ⟨rfl, EE.here (by simp -dsimp [hf])⟩
theorem c_R45_Parents (t : Tree) (gv : Grid) (r : Aw × Int × Int) (hm : m_R45_Parents t gv = some r) : PureCall Tryz.prog 13 [.u (.agg [dI t.States, dR2 t.Hood, dR1 t.Nodes]), .u (.agg [dI gv.W, dI gv.H, dI gv.Edge, dL gv.Cells])] (.tup [.agg [dI r.1.Vars, .d (.sl 1 (List.map (rS 1 (rI .i64)) r.1.Clauses))], .one (dI r.2.1), .one (dI r.2.2)]) := by
 refine bN Tryz.func13 Tryz.ntmps13 fun cx hn => ?_
 unfold m_R45_Parents at hm
 refine srs hn ?_
 simp -dsimp
 refine aU ?_
 refine srs hn ?_
 obtain ⟨y, h1, hm⟩ := bnd hm
 simp -dsimp
 refine b7 (c_R45_Check t gv y h1) (dkL hn) ?_
 simp -dsimp
 refine srs hn ?_
 simp -dsimp
 rcases aZ hm with ⟨c2, hm⟩ | ⟨c2, hm⟩
 ·refine aS (by simp -dsimp) c2 ?_
  refine srs hn ?_
  simp -dsimp [c2]
  refine aV (aX ?_)
  cases hm
  refine ⟨.inr rfl, ?_⟩
  exact EE.here (by simp -dsimp)
 ·refine aR (by simp -dsimp) c2 ?_
  refine aT (aP ?_)
  refine srs hn ?_
  obtain ⟨y1, h3, hm⟩ := bnd hm
  simp -dsimp [c2]
  refine b7 (c_R07_Radius t.Hood y1 h3) (dkL hn) ?_
  simp -dsimp
  refine srs hn ?_
  simp -dsimp
  refine srs hn ?_
  obtain ⟨y2, h4, hm⟩ := bnd hm
  simp -dsimp
  refine clg (g_R45_cells (bq .i64 (bf .i64 gv.W (bq .i64 2 y1)) (bf .i64 gv.H (bq .i64 2 y1))) t.States y2 h4) [] [5000] (by simp -dsimp) (dkL hn) ?_
  simp -dsimp
  refine srs hn ?_
  simp -dsimp
  refine srs hn ?_
  obtain ⟨y3, h5, hm⟩ := bnd hm
  simp -dsimp
  refine b7 (c_R13_Reduce t y3 h5) (dkL hn) ?_
  simp -dsimp
  refine aU ?_
  refine srs hn ?_
  simp -dsimp
  refine aW ?_
  obtain ⟨⟨aw, l⟩, g25, hm⟩ := bnd hm
  refine bo (l_R45_Parents_1 cx hn gv y1 y2 y3 g25) (by
    try dsimp only
    refine emv 5000 5005 ?_
    exact EE.here (by simp -dsimp)
  ) fun ee Z O x26 => ?_
  unfold F_R45_Parents_1 at x26
  dsimp only at x26
  obtain ⟨rfl, x26⟩ := x26
  refine b8 ?_
  refine aP ?_
  refine see x26 fun Z O hf => ?_
  simp only [Fits, ba, bc, and_true] at hf
  refine aU ?_
  refine srs hn ?_
  obtain ⟨y4, h27, hm⟩ := bnd hm
  simp -dsimp [hf]
  refine dH (us' := [.u (.agg [dI ((⟨aw, l⟩ : Aw).Vars), .d (.sl 1 (List.map (rS 1 (rI .i64)) ((⟨aw, l⟩ : Aw).Clauses)))])]) (c_R45_fits (⟨aw, l⟩ : Aw) y4 h27) (by simp -dsimp [hf]) rfl (dkL hn) ?_
  simp -dsimp
  rcases aZ hm with ⟨c28, hm⟩ | ⟨c28, hm⟩
  ·refine aS (by simp -dsimp) c28 ?_
   refine srs hn ?_
   simp -dsimp [hf, c28]
   refine aV (aX ?_)
   cases hm
   refine ⟨.inr rfl, ?_⟩
   exact EE.here (by simp -dsimp [hf])
  ·refine aR (by simp -dsimp) c28 ?_
   refine aT (aP ?_)
   refine srs hn ?_
   simp -dsimp [hf, c28]
   cases hm
   exact aV ⟨.inr rfl, EE.here (by simp -dsimp [hf])⟩
theorem c_L45_UnrollParents (t : Tree) (gv : Grid) (r : Bool) (hm : m_L45_UnrollParents t gv = some r) : PureCall Tryz.prog 4 [.u (.agg [dI t.States, dR2 t.Hood, dR1 t.Nodes]), .u (.agg [dI gv.W, dI gv.H, dI gv.Edge, dL gv.Cells])] (vT r) := by
 refine bN Tryz.func4 Tryz.ntmps4 fun cx hn => ?_
 unfold m_L45_UnrollParents at hm
 refine srs hn ?_
 simp -dsimp
 refine aU ?_
 obtain ⟨a, j13, hm⟩ := bnd hm
 refine scE [(2, vX 2), (3, vX 3), (20, vT a)] [(2, .box [dI t.States, dR2 t.Hood, dR1 t.Nodes]), (3, .box [dI gv.W, dI gv.H, dI gv.Edge, dL gv.Cells])] ?_ fun Z O hf => ?_
 ·replace hm := j13
  clear j13
  refine sr1 hn ?_
  obtain ⟨y, h1, hm⟩ := bnd hm
  simp -dsimp
  refine b7 ((c_L45_Small t (⟨0, 0, 0, 0, 0, []⟩ : Av) y h1).wk (by simp [V.wkl])) (dkL hn) ?_
  rcases aZ hm with ⟨c2, hm⟩ | ⟨c2, hm⟩
  ·simp -dsimp [c2]
   cases hm
   exact EE.here (by simp -dsimp)
  ·simp -dsimp [c2]
   cases hm
   exact EE.here (by simp -dsimp)
 ·clear j13
  simp only [Fits, ba, bc, and_true] at hf
  rcases aZ hm with ⟨c3, hm⟩ | ⟨c3, hm⟩
  ·refine aS (by simp -dsimp [hf]) c3 ?_
   refine srs hn ?_
   obtain ⟨y, h4, hm⟩ := bnd hm
   simp -dsimp
   refine b7 (c_L45_alive y h4) (dkL hn) ?_
   simp -dsimp
   refine aV (aX ?_)
   cases hm
   refine ⟨.inr rfl, ?_⟩
   exact EE.here (by simp -dsimp)
  ·refine aR (by simp -dsimp [hf]) c3 ?_
   refine aT (aP ?_)
   refine srs hn ?_
   obtain ⟨y, h5, hm⟩ := bnd hm
   simp -dsimp [hf]
   refine b7 (c_unroll_Parents t gv y h5) (dkL hn) ?_
   simp -dsimp
   refine srs hn ?_
   obtain ⟨y1, h6, hm⟩ := bnd hm
   simp -dsimp [hf]
   refine b7 (c_R45_Parents t gv y1 h6) (dkL hn) ?_
   simp -dsimp
   obtain ⟨a1, j12, hm⟩ := bnd hm
   refine scE [(4, vT a1)] [] ?_ fun Z O hf => ?_
   ·replace hm := j12
    clear j12
    refine sr1 hn ?_
    obtain ⟨y2, h7, hm⟩ := bnd hm
    simp -dsimp
    refine b7 (c_R41_Equal y.1 y1.1 y2 h7) (dkL hn) ?_
    rcases aZ hm with ⟨c8, hm⟩ | ⟨c8, hm⟩
    ·rcases aZ hm with ⟨c9, hm⟩ | ⟨c9, hm⟩
     ·rcases aZ hm with ⟨c10, hm⟩ | ⟨c10, hm⟩
      ·obtain ⟨y3, h11, hm⟩ := bnd hm
       simp -dsimp [c8, c9, c10]
       refine b7 (c_L45_alive y3 h11) (dkL hn) ?_
       simp -dsimp
       cases hm
       exact EE.here (by simp -dsimp)
      ·simp -dsimp [c8, c9, c10]
       cases hm
       exact EE.here (by simp -dsimp)
     ·simp -dsimp [c8, c9]
      cases hm
      exact EE.here (by simp -dsimp)
    ·simp -dsimp [c8]
     cases hm
     exact EE.here (by simp -dsimp)
   ·clear j12
    simp only [Fits, ba, bc, and_true] at hf
    cases hm
    exact aV ⟨.inr rfl, EE.here (by simp -dsimp [hf])⟩
end Go.Proofs.YtjfjmdmdkbpdfaaGreatDoor
