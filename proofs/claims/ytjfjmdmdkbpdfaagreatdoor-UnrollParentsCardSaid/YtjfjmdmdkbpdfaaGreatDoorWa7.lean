/- That the code does what the functions say (made by cc.py). -/
import Derived.Test.YtjfjmdmdkbpdfaaGreatDoorWa5
import Derived.Test.YtjfjmdmdkbpdfaaGreatDoorWa6
namespace Go.Proofs.YtjfjmdmdkbpdfaaGreatDoor
open Go.AM Go.Proofs
set_option maxRecDepth 100000
attribute [-simp] qlookup ct d7 Ob.wipe Ob.ren Ob.frz1
def F_unroll_Formula_2 (cx : Cx) (x : Av) (y1 : Int × (List Point) × (List Node) × Int) (y2 : Int) (y3 : (List Ax) × (List (List Int)) × Int) (a _x1 : Int) (tt : Unit) (ee : Exit) (Z : Env) (O : Sto) : Prop := match tt with
 | _u => ee = .exit 2 /\ EE cx (bp [(3, vX 3), (4, vX 4), (5, vI y3.2.2), (8, vX 5001), (9, vI y2), (10, vX 10), (53, .u (.one (dL x.Syms))), (54, vI (aY x.Syms)), (55, vI a)] [(3, .box [dI x.W, dI x.H, dI x.Gens, dI x.DX, dI x.DY, dL x.Syms]), (4, .box [dI 0, .d .nil]), (10, .box [dI ((⟨0, 0, x.W, x.H⟩ : Box).X), dI ((⟨0, 0, x.W, x.H⟩ : Box).Y), dI ((⟨0, 0, x.W, x.H⟩ : Box).W), dI ((⟨0, 0, x.W, x.H⟩ : Box).H), dR4 y3.1]), (5000, mOb .str kS (uA Tree.row) []), (5001, .box [dI y3.2.2, .own 5003, dI y1.1, dR2 y1.2.1, dR1 y1.2.2.1, dI y1.2.2.2, .map 5000]), (5003, .row 1 26 (List.map (rS 1 (rI .i64)) y3.2.1))]) Z O
theorem l_unroll_Formula_2 (cx : Cx) (hn : cx.n = 242) (x : Av) (y1 : Int × (List Point) × (List Node) × Int) (y2 : Int) (y3 : (List Ax) × (List (List Int)) × Int) (a x1 : Int) {fu : Nat} {stt : Unit} {tt : Unit} (hh : b0 (b_unroll_Formula_2 x y1 y2 y3 a x1) fu stt = some tt) {Z : Env} {O : Sto}
  (hE : bu (fun _u : Unit => [(3, vX 3), (4, vX 4), (5, vI y3.2.2), (8, vX 5001), (9, vI y2), (10, vX 10), (12, vI x1), (53, .u (.one (dL x.Syms))), (54, vI (aY x.Syms)), (55, vI a), (60, .u (.one (dR4 y3.1))), (61, vI (aY y3.1)), (62, vI 0)]) (fun _u : Unit => [(3, .box [dI x.W, dI x.H, dI x.Gens, dI x.DX, dI x.DY, dL x.Syms]), (4, .box [dI 0, .d .nil]), (10, .box [dI ((⟨0, 0, x.W, x.H⟩ : Box).X), dI ((⟨0, 0, x.W, x.H⟩ : Box).Y), dI ((⟨0, 0, x.W, x.H⟩ : Box).W), dI ((⟨0, 0, x.W, x.H⟩ : Box).H), dR4 y3.1]), (5000, mOb .str kS (uA Tree.row) []), (5001, .box [dI y3.2.2, .own 5003, dI y1.1, dR2 y1.2.1, dR1 y1.2.2.1, dI y1.2.2.2, .map 5000]), (5003, .row 1 26 (List.map (rS 1 (rI .i64)) y3.2.1))]) stt Z O) : Swp Tryz.prog cx (.loop (bL [1, 1, 1, 1, 1, 0, 1, 0, 0, 1, 1, 0, 0, 1, 1, 0, 0] (bn Tryz.f9))) Z O (F_unroll_Formula_2 cx x y1 y2 y3 a x1 tt) := by
 refine bv hE hh (F_unroll_Formula_2 cx x y1 y2 y3 a x1) ?_
 rintro _u r hm Z O hf
 simp only [Fits, ba, bc, and_true] at hf
 unfold b_unroll_Formula_2 at hm
 dsimp only at hm
 refine srs hn ?_
 simp -dsimp [hf]
 refine aU ?_
 rcases aZ hm with ⟨c8, hm⟩ | ⟨c8, hm⟩
 ·refine aS (by simp -dsimp) c8 ?_
  refine aT (aP (aU (aW ?_)))
  refine srs hn ?_
  obtain ⟨x2, h9, hm⟩ := bnd hm
  simp -dsimp [hf, c8, h9]
  refine dd bm mixed 13 14 14 0 [[0, 1, 2, 3, 4, 5, 6, 7, 8, 9, 10, 11, 12]] [[15]] [] none (by rw [hn]; kernel_rfl) bY ?_
  dsimp only [List.take, List.drop, cM, cO, dp, pk, List.cons_append, List.nil_append, List.flatten_cons, List.flatten_nil, bV, bU, List.append_nil]
  obtain ⟨n, h10, hm⟩ := bnd hm
  obtain ⟨n1, h11, hm⟩ := bnd hm
  cases hm
 ·refine aR (by simp -dsimp) c8 ?_
  refine b9 ?_
  refine aX ?_
  cases hm
  refine bd nofun ?_
  exact ⟨rfl, EE.here (by simp -dsimp [hf, c8])⟩
def F_unroll_Formula_1 (cx : Cx) (x : Av) (y1 : Int × (List Point) × (List Node) × Int) (y2 : Int) (y3 : (List Ax) × (List (List Int)) × Int) (tt : Unit) (ee : Exit) (Z : Env) (O : Sto) : Prop := match tt with
 | _u => ee = .exit 0 /\ EE cx (bp [(3, vX 3), (4, vX 4), (5, vI y3.2.2), (8, vX 5001), (9, vI y2), (10, vX 10)] [(3, .box [dI x.W, dI x.H, dI x.Gens, dI x.DX, dI x.DY, dL x.Syms]), (4, .box [dI 0, .d .nil]), (10, .box [dI ((⟨0, 0, x.W, x.H⟩ : Box).X), dI ((⟨0, 0, x.W, x.H⟩ : Box).Y), dI ((⟨0, 0, x.W, x.H⟩ : Box).W), dI ((⟨0, 0, x.W, x.H⟩ : Box).H), dR4 y3.1]), (5000, mOb .str kS (uA Tree.row) []), (5001, .box [dI y3.2.2, .own 5003, dI y1.1, dR2 y1.2.1, dR1 y1.2.2.1, dI y1.2.2.2, .map 5000]), (5003, .row 1 26 (List.map (rS 1 (rI .i64)) y3.2.1))]) Z O
theorem l_unroll_Formula_1 (cx : Cx) (hn : cx.n = 242) (x : Av) (y1 : Int × (List Point) × (List Node) × Int) (y2 : Int) (y3 : (List Ax) × (List (List Int)) × Int) {fu : Nat} {stt : Int} {tt : Unit} (hh : b0 (b_unroll_Formula_1 x y1 y2 y3) fu stt = some tt) {Z : Env} {O : Sto}
  (hE : bu (fun a : Int => [(3, vX 3), (4, vX 4), (5, vI y3.2.2), (8, vX 5001), (9, vI y2), (10, vX 10), (53, .u (.one (dL x.Syms))), (54, vI (aY x.Syms)), (55, vI a)]) (fun _a : Int => [(3, .box [dI x.W, dI x.H, dI x.Gens, dI x.DX, dI x.DY, dL x.Syms]), (4, .box [dI 0, .d .nil]), (10, .box [dI ((⟨0, 0, x.W, x.H⟩ : Box).X), dI ((⟨0, 0, x.W, x.H⟩ : Box).Y), dI ((⟨0, 0, x.W, x.H⟩ : Box).W), dI ((⟨0, 0, x.W, x.H⟩ : Box).H), dR4 y3.1]), (5000, mOb .str kS (uA Tree.row) []), (5001, .box [dI y3.2.2, .own 5003, dI y1.1, dR2 y1.2.1, dR1 y1.2.2.1, dI y1.2.2.2, .map 5000]), (5003, .row 1 26 (List.map (rS 1 (rI .i64)) y3.2.1))]) stt Z O) : Swp Tryz.prog cx (.loop (bL [1, 1, 1, 1, 1, 0, 1, 0, 0] (bn Tryz.f9))) Z O (F_unroll_Formula_1 cx x y1 y2 y3 tt) := by
 refine bv hE hh (F_unroll_Formula_1 cx x y1 y2 y3) ?_
 rintro a r hm Z O hf
 simp only [Fits, ba, bc, and_true] at hf
 unfold b_unroll_Formula_1 at hm
 dsimp only at hm
 refine srs hn ?_
 simp -dsimp [hf]
 refine aU ?_
 rcases aZ hm with ⟨c6, hm⟩ | ⟨c6, hm⟩
 ·refine aS (by simp -dsimp) c6 ?_
  refine aT (aP (aU (aW ?_)))
  refine srs hn ?_
  obtain ⟨x1, h7, hm⟩ := bnd hm
  simp -dsimp [hf, c6, h7]
  refine srs hn ?_
  simp -dsimp [hf]
  refine aW ?_
  obtain ⟨_u, g12, hm⟩ := bnd hm
  refine bo (l_unroll_Formula_2 cx hn x y1 y2 y3 a x1 g12) (by
    try dsimp only
    exact EE.here (by simp -dsimp [hf])
  ) fun ee Z O x13 => ?_
  unfold F_unroll_Formula_2 at x13
  dsimp only at x13
  obtain ⟨rfl, x13⟩ := x13
  refine b8 ?_
  refine bk ?_
  refine aP ?_
  refine see x13 fun Z O hf => ?_
  simp only [Fits, ba, bc, and_true] at hf
  refine sr1 hn ?_
  simp -dsimp [hf]
  cases hm
  refine bh ?_
  exact EE.here (by simp -dsimp [hf])
 ·refine aR (by simp -dsimp) c6 ?_
  refine b9 ?_
  refine aX ?_
  cases hm
  refine bd nofun ?_
  exact ⟨rfl, EE.here (by simp -dsimp [hf, c6])⟩
def F_unroll_Formula_3 (cx : Cx) (x : Av) (y1 : Int × (List Point) × (List Node) × Int) (_y2 : Int) (y3 : (List Ax) × (List (List Int)) × Int) (tt : (Aw × Int × Int) ⊕ (Int × Int × Int × Int × (List Ax) × (List (List UInt8 × Tree)) × Int × (List (List Int)))) (ee : Exit) (Z : Env) (O : Sto) : Prop := match tt with
 | .inl r => ee = .ret /\ EE cx (fun Z O => ∃ v, cX tb Z O Tryz.f9.results.toList = some v /\ (v.frz O).free = true /\ (v.frz O).wk (.tup [.agg [dI r.1.Vars, .d (.sl 1 (List.map (rS 1 (rI .i64)) r.1.Clauses))], .one (dI r.2.1), .one (dI r.2.2)])) Z O
 | .inr (aq, ar, av, ax, al, mp, ab, l) => ee = .exit 4 /\ EE cx (bp [(3, vX 3), (4, vX 4), (5, vI y3.2.2), (8, vX 5001), (10, vX 10), (16, vX 16)] [(3, .box [dI x.W, dI x.H, dI x.Gens, dI x.DX, dI x.DY, dL x.Syms]), (4, .box [dI 0, .d .nil]), (10, .box [dI ((⟨0, 0, x.W, x.H⟩ : Box).X), dI ((⟨0, 0, x.W, x.H⟩ : Box).Y), dI ((⟨0, 0, x.W, x.H⟩ : Box).W), dI ((⟨0, 0, x.W, x.H⟩ : Box).H), dR4 y3.1]), (16, .box [dI aq, dI ar, dI av, dI ax, dR4 al]), (5000, mOb .str kS (uA Tree.row) mp), (5001, .box [dI ab, .own 5002, dI y1.1, dR2 y1.2.1, dR1 y1.2.2.1, dI y1.2.2.2, .map 5000]), (5002, .row 1 26 (List.map (rS 1 (rI .i64)) l))]) Z O
theorem l_unroll_Formula_3 (cx : Cx) (hn : cx.n = 242) (x : Av) (y1 : Int × (List Point) × (List Node) × Int) (y2 : Int) (y3 : (List Ax) × (List (List Int)) × Int) {fu : Nat} {stt : Int × Int × Int × Int × Int × (List Ax) × (List (List UInt8 × Tree)) × Int × (List (List Int))} {tt : (Aw × Int × Int) ⊕ (Int × Int × Int × Int × (List Ax) × (List (List UInt8 × Tree)) × Int × (List (List Int)))} (hh : b0 (b_unroll_Formula_3 x y1 y2 y3) fu stt = some tt) {Z : Env} {O : Sto}
  (hE : bu (fun stt : Int × Int × Int × Int × Int × (List Ax) × (List (List UInt8 × Tree)) × Int × (List (List Int)) => match stt with | (gv, _aq, _ar, _av, _ax, _al, _mp, _ab, _l) => [(3, vX 3), (4, vX 4), (5, vI y3.2.2), (8, vX 5001), (9, vI y2), (10, vX 10), (16, vX 16), (17, vI gv)]) (fun stt : Int × Int × Int × Int × Int × (List Ax) × (List (List UInt8 × Tree)) × Int × (List (List Int)) => match stt with | (_gv, aq, ar, av, ax, al, mp, ab, l) => [(3, .box [dI x.W, dI x.H, dI x.Gens, dI x.DX, dI x.DY, dL x.Syms]), (4, .box [dI 0, .d .nil]), (10, .box [dI ((⟨0, 0, x.W, x.H⟩ : Box).X), dI ((⟨0, 0, x.W, x.H⟩ : Box).Y), dI ((⟨0, 0, x.W, x.H⟩ : Box).W), dI ((⟨0, 0, x.W, x.H⟩ : Box).H), dR4 y3.1]), (16, .box [dI aq, dI ar, dI av, dI ax, dR4 al]), (5000, mOb .str kS (uA Tree.row) mp), (5001, .box [dI ab, .own 5002, dI y1.1, dR2 y1.2.1, dR1 y1.2.2.1, dI y1.2.2.2, .map 5000]), (5002, .row 1 26 (List.map (rS 1 (rI .i64)) l))]) stt Z O) : Swp Tryz.prog cx (.loop (bL [1, 1, 1, 1, 1, 1, 1, 0, 1, 0, 0] (bn Tryz.f9))) Z O (F_unroll_Formula_3 cx x y1 y2 y3 tt) := by
 refine bv hE hh (F_unroll_Formula_3 cx x y1 y2 y3) ?_
 rintro ⟨gv, aq, ar, av, ax, al, mp, ab, l⟩ r hm Z O hf
 simp only [Fits, ba, bc, and_true] at hf
 unfold b_unroll_Formula_3 at hm
 dsimp only at hm
 refine aU ?_
 refine srs hn ?_
 simp -dsimp [hf]
 rcases aZ hm with ⟨c16, hm⟩ | ⟨c16, hm⟩
 ·refine aS (by simp -dsimp) c16 ?_
  refine aT (aP (aU (aW ?_)))
  refine srs hn ?_
  simp -dsimp [hf, c16]
  refine srs hn ?_
  obtain ⟨y4, h17, hm⟩ := bnd hm
  simp -dsimp [hf]
  refine clg (g_unroll_builder_next_o ab l y1.1 y1.2.1 y1.2.2.1 y1.2.2.2 mp (⟨⟨aq, ar, av, ax⟩, al⟩ : Ay) (⟨(bq .i64 (bE .i64 gv) y2), (bq .i64 (bE .i64 gv) y2), (bf .i64 x.W (bq .i64 (bq .i64 2 gv) y2)), (bf .i64 x.H (bq .i64 (bq .i64 2 gv) y2))⟩ : Box) true y4 h17) [5001, 5002, 5000] [5004] (by simp -dsimp [hf]) (dkL hn) ?_
  simp -dsimp
  refine aU ?_
  refine srs hn ?_
  simp -dsimp
  rcases aZ hm with ⟨c18, hm⟩ | ⟨c18, hm⟩
  ·refine aS (by simp -dsimp) c18 ?_
   refine srs hn ?_
   simp -dsimp [hf, c18]
   refine aV (aX (bz (aX ?_)))
   cases hm
   refine bd nofun ?_
   exact ⟨rfl, EE.here (by simp -dsimp [hf, Tryz.results9])⟩
  ·refine aR (by simp -dsimp) c18 ?_
   refine aT (aP ?_)
   refine sr1 hn ?_
   simp -dsimp [hf, c18]
   refine bk ?_
   refine aP ?_
   refine sr1 hn ?_
   simp -dsimp [hf]
   cases hm
   refine bh ?_
   refine emv 5004 5002 ?_
   exact EE.here (by simp -dsimp [hf])
 ·refine aR (by simp -dsimp) c16 ?_
  refine b9 ?_
  refine aX ?_
  cases hm
  refine bd nofun ?_
  exact ⟨rfl, EE.here (by simp -dsimp [hf, c16])⟩
def F_unroll_Formula_4 (cx : Cx) (x : Av) (y1 : Int × (List Point) × (List Node) × Int) (y3 : (List Ax) × (List (List Int)) × Int) (aq ar av ax : Int) (al : List Ax) (mp : List (List UInt8 × Tree)) (ab : Int) (tt : (List (List Int))) (ee : Exit) (Z : Env) (O : Sto) : Prop := match tt with
 | l1 => ee = .exit 6 /\ EE cx (bp [(3, vX 3), (4, vX 4), (5, vI y3.2.2), (8, vX 5001), (10, vX 10), (16, vX 16)] [(3, .box [dI x.W, dI x.H, dI x.Gens, dI x.DX, dI x.DY, dL x.Syms]), (4, .box [dI 0, .d .nil]), (10, .box [dI ((⟨0, 0, x.W, x.H⟩ : Box).X), dI ((⟨0, 0, x.W, x.H⟩ : Box).Y), dI ((⟨0, 0, x.W, x.H⟩ : Box).W), dI ((⟨0, 0, x.W, x.H⟩ : Box).H), dR4 y3.1]), (16, .box [dI aq, dI ar, dI av, dI ax, dR4 al]), (5000, mOb .str kS (uA Tree.row) mp), (5001, .box [dI ab, .own 5002, dI y1.1, dR2 y1.2.1, dR1 y1.2.2.1, dI y1.2.2.2, .map 5000]), (5002, .row 1 26 (List.map (rS 1 (rI .i64)) l1))]) Z O
theorem l_unroll_Formula_4 (cx : Cx) (hn : cx.n = 242) (x : Av) (y1 : Int × (List Point) × (List Node) × Int) (y3 : (List Ax) × (List (List Int)) × Int) (aq ar av ax : Int) (al : List Ax) (mp : List (List UInt8 × Tree)) (ab : Int) {fu : Nat} {stt : Int × (List (List Int))} {tt : (List (List Int))} (hh : b0 (b_unroll_Formula_4 x y1 y3 aq ar av ax al mp ab) fu stt = some tt) {Z : Env} {O : Sto}
  (hE : bu (fun stt : Int × (List (List Int)) => match stt with | (a, _l1) => [(3, vX 3), (4, vX 4), (5, vI y3.2.2), (8, vX 5001), (10, vX 10), (16, vX 16), (135, .u (.one (dR4 al))), (136, vI (aY al)), (137, vI a)]) (fun stt : Int × (List (List Int)) => match stt with | (_a, l1) => [(3, .box [dI x.W, dI x.H, dI x.Gens, dI x.DX, dI x.DY, dL x.Syms]), (4, .box [dI 0, .d .nil]), (10, .box [dI ((⟨0, 0, x.W, x.H⟩ : Box).X), dI ((⟨0, 0, x.W, x.H⟩ : Box).Y), dI ((⟨0, 0, x.W, x.H⟩ : Box).W), dI ((⟨0, 0, x.W, x.H⟩ : Box).H), dR4 y3.1]), (16, .box [dI aq, dI ar, dI av, dI ax, dR4 al]), (5000, mOb .str kS (uA Tree.row) mp), (5001, .box [dI ab, .own 5002, dI y1.1, dR2 y1.2.1, dR1 y1.2.2.1, dI y1.2.2.2, .map 5000]), (5002, .row 1 26 (List.map (rS 1 (rI .i64)) l1))]) stt Z O) : Swp Tryz.prog cx (.loop (bL [1, 1, 1, 1, 1, 1, 1, 1, 0, 1, 0, 0] (bn Tryz.f9))) Z O (F_unroll_Formula_4 cx x y1 y3 aq ar av ax al mp ab tt) := by
 refine bv hE hh (F_unroll_Formula_4 cx x y1 y3 aq ar av ax al mp ab) ?_
 rintro ⟨a, l1⟩ r hm Z O hf
 simp only [Fits, ba, bc, and_true] at hf
 unfold b_unroll_Formula_4 at hm
 dsimp only at hm
 refine srs hn ?_
 simp -dsimp [hf]
 refine aU ?_
 rcases aZ hm with ⟨c21, hm⟩ | ⟨c21, hm⟩
 ·refine aS (by simp -dsimp) c21 ?_
  refine aT (aP ?_)
  obtain ⟨l2, j40, hm⟩ := bnd hm
  refine scE [(3, vX 3), (4, vX 4), (5, vI y3.2.2), (8, vX 5001), (10, vX 10), (16, vX 16), (135, .u (.one (dR4 al))), (136, vI (aY al)), (137, vI a)] [(3, .box [dI x.W, dI x.H, dI x.Gens, dI x.DX, dI x.DY, dL x.Syms]), (4, .box [dI 0, .d .nil]), (10, .box [dI ((⟨0, 0, x.W, x.H⟩ : Box).X), dI ((⟨0, 0, x.W, x.H⟩ : Box).Y), dI ((⟨0, 0, x.W, x.H⟩ : Box).W), dI ((⟨0, 0, x.W, x.H⟩ : Box).H), dR4 y3.1]), (16, .box [dI aq, dI ar, dI av, dI ax, dR4 al]), (5000, mOb .str kS (uA Tree.row) mp), (5001, .box [dI ab, .own 5002, dI y1.1, dR2 y1.2.1, dR1 y1.2.2.1, dI y1.2.2.2, .map 5000]), (5002, .row 1 26 (List.map (rS 1 (rI .i64)) l2))] ?_ fun Z O hf => ?_
  ·replace hm := j40
   clear j40
   refine aW ?_
   refine srs hn ?_
   obtain ⟨x1, h22, hm⟩ := bnd hm
   simp -dsimp [hf, c21, h22]
   refine cy bm mixed (by rw [hn]; kernel_rfl) ?_
   obtain ⟨n, h23, hm⟩ := bnd hm
   obtain ⟨n1, h24, hm⟩ := bnd hm
   simp -dsimp [hf, h23, h24]
   refine srs hn ?_
   obtain ⟨y4, h25, hm⟩ := bnd hm
   simp -dsimp [hf]
   refine b7 (c_unroll_field_in (⟨⟨(⟨0, 0, x.W, x.H⟩ : Box).X, (⟨0, 0, x.W, x.H⟩ : Box).Y, (⟨0, 0, x.W, x.H⟩ : Box).W, (⟨0, 0, x.W, x.H⟩ : Box).H⟩, y3.1⟩ : Ay) (bF .i64 (bf .i64 aq n) x.DX) (bF .i64 (bf .i64 ar n1) x.DY) y4 h25) (dkL hn) ?_
   simp -dsimp
   refine aW ?_
   obtain ⟨a1, j39, hm⟩ := bnd hm
   refine scE [(3, vX 3), (4, vX 4), (5, vI y3.2.2), (8, vX 5001), (10, vX 10), (16, vX 16), (22, vX 22), (23, vI (bF .i64 (bf .i64 aq n) x.DX)), (24, vI (bF .i64 (bf .i64 ar n1) x.DY)), (25, vT y4), (135, .u (.one (dR4 al))), (136, vI (aY al)), (137, vI a), (170, vT a1)] [(3, .box [dI x.W, dI x.H, dI x.Gens, dI x.DX, dI x.DY, dL x.Syms]), (4, .box [dI 0, .d .nil]), (10, .box [dI ((⟨0, 0, x.W, x.H⟩ : Box).X), dI ((⟨0, 0, x.W, x.H⟩ : Box).Y), dI ((⟨0, 0, x.W, x.H⟩ : Box).W), dI ((⟨0, 0, x.W, x.H⟩ : Box).H), dR4 y3.1]), (16, .box [dI aq, dI ar, dI av, dI ax, dR4 al]), (22, .box [dI x1.constant, .d (pnil 1 (List.map (rI .i64) x1.vars))]), (5000, mOb .str kS (uA Tree.row) mp), (5001, .box [dI ab, .own 5002, dI y1.1, dR2 y1.2.1, dR1 y1.2.2.1, dI y1.2.2.2, .map 5000]), (5002, .row 1 26 (List.map (rS 1 (rI .i64)) l1))] ?_ fun Z O hf => ?_
   ·replace hm := j39
    clear j39
    refine sr1 hn ?_
    rcases aZ hm with ⟨c26, hm⟩ | ⟨c26, hm⟩
    ·simp -dsimp [c26]
     cases hm
     exact EE.here (by simp -dsimp [hf])
    ·simp -dsimp [c26]
     cases hm
     exact EE.here (by simp -dsimp [hf])
   ·clear j39
    simp only [Fits, ba, bc, and_true] at hf
    rcases aZ hm with ⟨c27, hm⟩ | ⟨c27, hm⟩
    ·refine aS (by simp -dsimp [hf]) c27 ?_
     refine dV bm mixed 8 (by rw [hn]; kernel_rfl) ?_
     dsimp only [List.take, List.drop]
     obtain ⟨y5, h28, hm⟩ := bnd hm
     simp -dsimp [hf]
     refine bi (dO (⟨⟨(⟨0, 0, x.W, x.H⟩ : Box).X, (⟨0, 0, x.W, x.H⟩ : Box).Y, (⟨0, 0, x.W, x.H⟩ : Box).W, (⟨0, 0, x.W, x.H⟩ : Box).H⟩, y3.1⟩ : Ay) (bF .i64 (bf .i64 aq n) x.DX) (bF .i64 (bf .i64 ar n1) x.DY) y5 h28) ?_
     obtain ⟨u, h29, hm⟩ := bnd hm
     obtain ⟨u1, h30, hm⟩ := bnd hm
     obtain ⟨y6, h31, hm⟩ := bnd hm
     simp -dsimp [cu h29 1 (rI .i64), cu h30 1 (rI .i64)]
     refine clg (f8 ab l1 y1.1 y1.2.1 y1.2.2.1 y1.2.2.2 mp x1.vars y5.vars y6 h31) [5001, 5002, 5000] [5005] (by simp -dsimp [hf]) (dkL hn) ?_
     simp -dsimp
     refine bk ?_
     refine bk ?_
     refine aP ?_
     cases hm
     refine emv 5005 5002 ?_
     exact EE.here (by simp -dsimp [hf])
    ·refine aR (by simp -dsimp [hf]) c27 ?_
     refine srs hn ?_
     simp -dsimp [hf]
     rcases aZ hm with ⟨c32, hm⟩ | ⟨c32, hm⟩
     ·refine aS (by simp -dsimp) c32 ?_
      refine sr1 hn ?_
      obtain ⟨u, h33, hm⟩ := bnd hm
      obtain ⟨y5, h34, hm⟩ := bnd hm
      simp -dsimp [hf, c32, cu h33 1 (rI .i64)]
      refine clg (g_unroll_builder_fix_o ab l1 y1.1 y1.2.1 y1.2.2.1 y1.2.2.2 mp x1.vars 0 y5 h34) [5001, 5002, 5000] [5006] (by simp -dsimp [hf]) (dkL hn) ?_
      simp -dsimp
      refine bk ?_
      refine bk ?_
      refine aP ?_
      cases hm
      refine emv 5006 5002 ?_
      exact EE.here (by simp -dsimp [hf])
     ·refine aR (by simp -dsimp) c32 ?_
      refine srs hn ?_
      simp -dsimp [hf, c32]
      rcases aZ hm with ⟨c35, hm⟩ | ⟨c35, hm⟩
      ·refine aS (by simp -dsimp) c35 ?_
       refine sr1 hn ?_
       obtain ⟨y5, h36, hm⟩ := bnd hm
       simp -dsimp [hf, c35]
       refine b7 (dO (⟨⟨(⟨0, 0, x.W, x.H⟩ : Box).X, (⟨0, 0, x.W, x.H⟩ : Box).Y, (⟨0, 0, x.W, x.H⟩ : Box).W, (⟨0, 0, x.W, x.H⟩ : Box).H⟩, y3.1⟩ : Ay) (bF .i64 (bf .i64 aq n) x.DX) (bF .i64 (bf .i64 ar n1) x.DY) y5 h36) (dkL hn) ?_
       obtain ⟨u, h37, hm⟩ := bnd hm
       obtain ⟨y6, h38, hm⟩ := bnd hm
       simp -dsimp [cu h37 1 (rI .i64)]
       refine clg (g_unroll_builder_fix_o ab l1 y1.1 y1.2.1 y1.2.2.1 y1.2.2.2 mp y5.vars 0 y6 h38) [5001, 5002, 5000] [5007] (by simp -dsimp [hf]) (dkL hn) ?_
       simp -dsimp
       refine bk ?_
       refine bk ?_
       refine aP ?_
       cases hm
       refine emv 5007 5002 ?_
       exact EE.here (by simp -dsimp [hf])
      ·refine aR (by simp -dsimp) c35 ?_
       refine aT ?_
       refine bk ?_
       refine bk ?_
       cases hm
       exact EE.here (by simp -dsimp [hf, c35])
  ·clear j40
   simp only [Fits, ba, bc, and_true] at hf
   refine sr1 hn ?_
   simp -dsimp [hf]
   cases hm
   refine bh ?_
   exact EE.here (by simp -dsimp [hf])
 ·refine aR (by simp -dsimp) c21 ?_
  refine b9 ?_
  refine aX ?_
  cases hm
  refine bd nofun ?_
  exact ⟨rfl, EE.here (by simp -dsimp [hf, c21])⟩
def F_unroll_Formula_5 (cx : Cx) (_x : Av) (y1 : Int × (List Point) × (List Node) × Int) (y3 : (List Ax) × (List (List Int)) × Int) (_aq _ar _av _ax : Int) (_al : List Ax) (mp : List (List UInt8 × Tree)) (ab : Int) (tt : (List (List Int))) (ee : Exit) (Z : Env) (O : Sto) : Prop := match tt with
 | l2 => ee = .exit 9 /\ EE cx (bp [(4, vX 4), (5, vI y3.2.2), (8, vX 5001)] [(4, .box [dI 0, .d .nil]), (5000, mOb .str kS (uA Tree.row) mp), (5001, .box [dI ab, .own 5002, dI y1.1, dR2 y1.2.1, dR1 y1.2.2.1, dI y1.2.2.2, .map 5000]), (5002, .row 1 26 (List.map (rS 1 (rI .i64)) l2))]) Z O
theorem l_unroll_Formula_5 (cx : Cx) (hn : cx.n = 242) (x : Av) (y1 : Int × (List Point) × (List Node) × Int) (y3 : (List Ax) × (List (List Int)) × Int) (aq ar av ax : Int) (al : List Ax) (mp : List (List UInt8 × Tree)) (ab : Int) {fu : Nat} {stt : Int × (List (List Int))} {tt : (List (List Int))} (hh : b0 (b_unroll_Formula_5 x y1 y3 aq ar av ax al mp ab) fu stt = some tt) {Z : Env} {O : Sto}
  (hE : bu (fun stt : Int × (List (List Int)) => match stt with | (a, _l2) => [(3, vX 3), (4, vX 4), (5, vI y3.2.2), (8, vX 5001), (16, vX 16), (205, .u (.one (dR4 y3.1))), (206, vI (aY y3.1)), (207, vI a)]) (fun stt : Int × (List (List Int)) => match stt with | (_a, l2) => [(3, .box [dI x.W, dI x.H, dI x.Gens, dI x.DX, dI x.DY, dL x.Syms]), (4, .box [dI 0, .d .nil]), (16, .box [dI aq, dI ar, dI av, dI ax, dR4 al]), (5000, mOb .str kS (uA Tree.row) mp), (5001, .box [dI ab, .own 5002, dI y1.1, dR2 y1.2.1, dR1 y1.2.2.1, dI y1.2.2.2, .map 5000]), (5002, .row 1 26 (List.map (rS 1 (rI .i64)) l2))]) stt Z O) : Swp Tryz.prog cx (.loop (bL [1, 1, 1, 1, 1, 1, 1, 1, 1, 0, 1, 0, 0] (bn Tryz.f9))) Z O (F_unroll_Formula_5 cx x y1 y3 aq ar av ax al mp ab tt) := by
 refine bv hE hh (F_unroll_Formula_5 cx x y1 y3 aq ar av ax al mp ab) ?_
 rintro ⟨a, l2⟩ r hm Z O hf
 simp only [Fits, ba, bc, and_true] at hf
 unfold b_unroll_Formula_5 at hm
 dsimp only at hm
 refine srs hn ?_
 simp -dsimp [hf]
 refine aU ?_
 rcases aZ hm with ⟨c43, hm⟩ | ⟨c43, hm⟩
 ·refine aS (by simp -dsimp) c43 ?_
  refine aT (aP ?_)
  obtain ⟨l3, j51, hm⟩ := bnd hm
  refine scE [(3, vX 3), (4, vX 4), (5, vI y3.2.2), (8, vX 5001), (16, vX 16), (205, .u (.one (dR4 y3.1))), (206, vI (aY y3.1)), (207, vI a)] [(3, .box [dI x.W, dI x.H, dI x.Gens, dI x.DX, dI x.DY, dL x.Syms]), (4, .box [dI 0, .d .nil]), (16, .box [dI aq, dI ar, dI av, dI ax, dR4 al]), (5000, mOb .str kS (uA Tree.row) mp), (5001, .box [dI ab, .own 5002, dI y1.1, dR2 y1.2.1, dR1 y1.2.2.1, dI y1.2.2.2, .map 5000]), (5002, .row 1 26 (List.map (rS 1 (rI .i64)) l3))] ?_ fun Z O hf => ?_
  ·replace hm := j51
   clear j51
   refine aW ?_
   refine srs hn ?_
   obtain ⟨x1, h44, hm⟩ := bnd hm
   simp -dsimp [hf, c43, h44]
   refine cy bm mixed (by rw [hn]; kernel_rfl) ?_
   obtain ⟨n, h45, hm⟩ := bnd hm
   obtain ⟨n1, h46, hm⟩ := bnd hm
   obtain ⟨y4, h47, hm⟩ := bnd hm
   simp -dsimp [hf, h45, h46]
   refine bi (c_unroll_field_in (⟨⟨aq, ar, av, ax⟩, al⟩ : Ay) (bf .i64 n x.DX) (bf .i64 n1 x.DY) y4 h47) ?_
   simp -dsimp
   rcases aZ hm with ⟨c48, hm⟩ | ⟨c48, hm⟩
   ·refine aS (by simp -dsimp) c48 ?_
    refine sr1 hn ?_
    obtain ⟨u, h49, hm⟩ := bnd hm
    obtain ⟨y5, h50, hm⟩ := bnd hm
    simp -dsimp [hf, c48, cu h49 1 (rI .i64)]
    refine clg (g_unroll_builder_fix_o ab l2 y1.1 y1.2.1 y1.2.2.1 y1.2.2.2 mp x1.vars 0 y5 h50) [5001, 5002, 5000] [5008] (by simp -dsimp [hf]) (dkL hn) ?_
    simp -dsimp
    refine bk ?_
    refine aP ?_
    cases hm
    refine emv 5008 5002 ?_
    exact EE.here (by simp -dsimp [hf])
   ·refine aR (by simp -dsimp) c48 ?_
    refine aT ?_
    refine bk ?_
    cases hm
    exact EE.here (by simp -dsimp [hf, c48])
  ·clear j51
   simp only [Fits, ba, bc, and_true] at hf
   refine sr1 hn ?_
   simp -dsimp [hf]
   cases hm
   refine bh ?_
   exact EE.here (by simp -dsimp [hf])
 ·refine aR (by simp -dsimp) c43 ?_
  refine b9 ?_
  refine aX ?_
  cases hm
  refine bd nofun ?_
  exact ⟨rfl, EE.here (by simp -dsimp [hf, c43])⟩
theorem c_unroll_Formula (t : Tree) (x : Av) (r : Aw × Int × Int) (hm : m_unroll_Formula t x = some r) : PureCall Tryz.prog 9 [.u (.agg [dI t.States, dR2 t.Hood, dR1 t.Nodes]), .u (.agg [dI x.W, dI x.H, dI x.Gens, dI x.DX, dI x.DY, dL x.Syms])] (.tup [.agg [dI r.1.Vars, .d (.sl 1 (List.map (rS 1 (rI .i64)) r.1.Clauses))], .one (dI r.2.1), .one (dI r.2.2)]) := by
 refine bN Tryz.func9 Tryz.ntmps9 fun cx hn => ?_
 unfold m_unroll_Formula at hm
 refine srs hn ?_
 simp -dsimp
 refine aU ?_
 refine srs hn ?_
 obtain ⟨y, h1, hm⟩ := bnd hm
 simp -dsimp
 refine b7 (eg t x y h1) (dkL hn) ?_
 simp -dsimp
 refine srs hn ?_
 simp -dsimp
 rcases aZ hm with ⟨c2, hm⟩ | ⟨c2, hm⟩
 ·refine aS (by simp -dsimp) c2 ?_
  refine srs hn ?_
  simp -dsimp [c2]
  refine aV (aX ?_)
  cases hm
  refine ⟨.inr rfl, ?_⟩
  exact EE.here (by simp -dsimp)
 ·refine aR (by simp -dsimp) c2 ?_
  refine aT (aP ?_)
  refine sw_midps bm mixed [] [0, 2, 3, 1, 4, 5, 6] [0, 3, 1, 2, 4, 5, 6] 3 4 4 0 [[1, 2]] [[5000, 5001]] [] none (by rw [hn]; kernel_rfl) (by dsimp only [d9, eK, adO, rnL, pmL, pk, rnO, rnG, dr, List.cons_append, List.nil_append] <;> exact rfl) bY ?_
  dsimp only [List.take, List.drop, cM, cO, dp, pk, List.cons_append, List.nil_append, List.flatten_cons, List.flatten_nil, bV, bU, List.append_nil]
  obtain ⟨y1, h3, hm⟩ := bnd hm
  simp -dsimp [c2]
  refine fy (g_unroll_start t y1 h3) [] [5000, 5001] rfl rfl rfl (by simp -dsimp) rfl (by simp -dsimp) (by first | rfl | simp) rfl (dkL hn) rfl rfl (by simp) nofun (by simp) ?_
  obtain ⟨y2, h4, hm⟩ := bnd hm
  simp -dsimp
  refine b7 (c_hood_Radius t.Hood y2 h4) (dkL hn) ?_
  simp -dsimp
  refine Swp.pre (Wk.own0b 5001 1 5002 1 26 [dI 0, .d .nil, dI y1.1, dR2 y1.2.1, dR1 y1.2.2.1, dI y1.2.2.2, .map 5000] (by simp -dsimp) (by rfl) (by decide) (by decide)) ?_
  refine srs hn ?_
  obtain ⟨y3, h5, hm⟩ := bnd hm
  simp -dsimp
  refine clg (dJ 0 [] y1.1 y1.2.1 y1.2.2.1 y1.2.2.2 [] (⟨0, 0, x.W, x.H⟩ : Box) y3 h5) [5001, 5002, 5000] [5003] (by simp -dsimp) (dkL hn) ?_
  simp -dsimp
  refine srs hn ?_
  simp -dsimp
  refine aU ?_
  refine srs hn ?_
  simp -dsimp
  refine aW ?_
  obtain ⟨_u, g14, hm⟩ := bnd hm
  refine bo (l_unroll_Formula_1 cx hn x y1 y2 y3 g14) (by
    try dsimp only
    exact EE.here (by simp -dsimp)
  ) fun ee Z O x15 => ?_
  unfold F_unroll_Formula_1 at x15
  dsimp only at x15
  obtain ⟨rfl, x15⟩ := x15
  refine b8 ?_
  refine aP ?_
  refine see x15 fun Z O hf => ?_
  simp only [Fits, ba, bc, and_true] at hf
  refine srs hn ?_
  simp -dsimp [hf]
  refine aU ?_
  refine srs hn ?_
  simp -dsimp
  refine aW ?_
  obtain ⟨o_1, g19, hm⟩ := bnd hm
  refine bo (l_unroll_Formula_3 cx hn x y1 y2 y3 g19) (by
    try dsimp only
    refine emv 5003 5002 ?_
    exact EE.here (by simp -dsimp [hf])
  ) fun ee Z O x20 => ?_
  rcases o_1 with r | ⟨aq, ar, av, ax, al, mp, ab, l⟩
  ·unfold F_unroll_Formula_3 at x20
   dsimp only at x20
   obtain ⟨rfl, x20⟩ := x20
   refine bz (aX ?_)
   cases hm
   exact ⟨.inr rfl, x20⟩
  ·unfold F_unroll_Formula_3 at x20
   dsimp only at x20
   obtain ⟨rfl, x20⟩ := x20
   refine b8 ?_
   refine aP ?_
   refine see x20 fun Z O hf => ?_
   simp only [Fits, ba, bc, and_true] at hf
   refine aU ?_
   refine srs hn ?_
   simp -dsimp [hf]
   refine aW ?_
   obtain ⟨l1, g41, hm⟩ := bnd hm
   refine bo (l_unroll_Formula_4 cx hn x y1 y3 aq ar av ax al mp ab g41) (by
     try dsimp only
     exact EE.here (by simp -dsimp [hf])
   ) fun ee Z O x42 => ?_
   unfold F_unroll_Formula_4 at x42
   dsimp only at x42
   obtain ⟨rfl, x42⟩ := x42
   refine b8 ?_
   refine aP ?_
   refine see x42 fun Z O hf => ?_
   simp only [Fits, ba, bc, and_true] at hf
   refine aU ?_
   refine srs hn ?_
   simp -dsimp [hf]
   refine aW ?_
   obtain ⟨l2, g52, hm⟩ := bnd hm
   refine bo (l_unroll_Formula_5 cx hn x y1 y3 aq ar av ax al mp ab g52) (by
     try dsimp only
     exact EE.here (by simp -dsimp [hf])
   ) fun ee Z O x53 => ?_
   unfold F_unroll_Formula_5 at x53
   dsimp only at x53
   obtain ⟨rfl, x53⟩ := x53
   refine b8 ?_
   refine aP ?_
   refine see x53 fun Z O hf => ?_
   simp only [Fits, ba, bc, and_true] at hf
   refine aU ?_
   refine srs hn ?_
   obtain ⟨y4, h54, hm⟩ := bnd hm
   simp -dsimp [hf]
   refine clg (g_unroll_builder_large_o ab l2 y1.1 y1.2.1 y1.2.2.1 y1.2.2.2 mp y4 h54) [5001, 5002, 5000] [] (by simp -dsimp [hf]) (dkL hn) ?_
   simp -dsimp
   rcases aZ hm with ⟨c55, hm⟩ | ⟨c55, hm⟩
   ·refine aS (by simp -dsimp) c55 ?_
    refine srs hn ?_
    simp -dsimp [hf, c55]
    refine aV (aX ?_)
    cases hm
    refine ⟨.inr rfl, ?_⟩
    exact EE.here (by simp -dsimp [hf])
   ·refine aR (by simp -dsimp) c55 ?_
    refine aT (aP ?_)
    refine srs hn ?_
    simp -dsimp [hf, c55]
    cases hm
    exact aV ⟨.inr rfl, EE.here (by simp -dsimp [hf])⟩
theorem c_grid_sized (w hv aO : Int) (r : Bool) (hm : m_grid_sized w hv aO = some r) : PureCall Tryz.prog 85 [vI w, vI hv, vI aO] (vT r) := by
 refine bN Tryz.func85 Tryz.ntmps85 fun cx hn => ?_
 unfold m_grid_sized at hm
 refine srs hn ?_
 simp -dsimp
 obtain ⟨a, j7, hm⟩ := bnd hm
 refine scE [(6, vT a)] [] ?_ fun Z O hf => ?_
 ·replace hm := j7
  clear j7
  refine sr1 hn ?_
  rcases aZ hm with ⟨c1, hm⟩ | ⟨c1, hm⟩
  ·rcases aZ hm with ⟨c2, hm⟩ | ⟨c2, hm⟩
   ·rcases aZ hm with ⟨c3, hm⟩ | ⟨c3, hm⟩
    ·rcases aZ hm with ⟨c4, hm⟩ | ⟨c4, hm⟩
     ·rcases aZ hm with ⟨c5, hm⟩ | ⟨c5, hm⟩
      ·rcases aZ hm with ⟨c6, hm⟩ | ⟨c6, hm⟩
       ·simp -dsimp [c1, c2, c3, c4, c5, c6]
        cases hm
        exact EE.here (by simp -dsimp)
       ·simp -dsimp [c1, c2, c3, c4, c5, c6]
        cases hm
        exact EE.here (by simp -dsimp)
      ·simp -dsimp [c1, c2, c3, c4, c5]
       cases hm
       exact EE.here (by simp -dsimp)
     ·simp -dsimp [c1, c2, c3, c4]
      cases hm
      exact EE.here (by simp -dsimp)
    ·simp -dsimp [c1, c2, c3]
     cases hm
     exact EE.here (by simp -dsimp)
   ·simp -dsimp [c1, c2]
    cases hm
    exact EE.here (by simp -dsimp)
  ·simp -dsimp [c1]
   cases hm
   exact EE.here (by simp -dsimp)
 ·clear j7
  simp only [Fits, ba, bc, and_true] at hf
  cases hm
  exact aV ⟨.inr rfl, EE.here (by simp -dsimp [hf])⟩
theorem c_grid_Right_1 (s : Int) (r : Bool) (hm : m_grid_Right_1 s = some r) : PureCall Tryz.prog 86 [vI s] (vT r) := by
 refine bN Tryz.func86 Tryz.ntmps86 fun cx hn => ?_
 unfold m_grid_Right_1 at hm
 refine srs hn ?_
 simp -dsimp
 obtain ⟨a, j2, hm⟩ := bnd hm
 refine scE [(2, vT a)] [] ?_ fun Z O hf => ?_
 ·replace hm := j2
  clear j2
  refine sr1 hn ?_
  rcases aZ hm with ⟨c1, hm⟩ | ⟨c1, hm⟩
  ·simp -dsimp [c1]
   cases hm
   exact EE.here (by simp -dsimp)
  ·simp -dsimp [c1]
   cases hm
   exact EE.here (by simp -dsimp)
 ·clear j2
  simp only [Fits, ba, bc, and_true] at hf
  cases hm
  exact aV ⟨.inr rfl, EE.here (by simp -dsimp [hf])⟩
def F_slices_IndexFunc_int_int_grid_Right_1_1 (cx : Cx) (_s : List Int) (tt : Int ⊕ Unit) (ee : Exit) (Z : Env) (O : Sto) : Prop := match tt with
 | .inl r => ee = .ret /\ EE cx (fun Z O => ∃ v, cX tb Z O Tryz.f87.results.toList = some v /\ (v.frz O).free = true /\ (v.frz O).wk (vI r)) Z O
 | .inr _u => ee = .exit 0 /\ EE cx (bp [] []) Z O
theorem l_slices_IndexFunc_int_int_grid_Right_1_1 (cx : Cx) (hn : cx.n = 19) (s : List Int) {fu : Nat} {stt : Int} {tt : Int ⊕ Unit} (hh : b0 (b_slices_IndexFunc_int_int_grid_Right_1_1 s) fu stt = some tt) {Z : Env} {O : Sto}
  (hE : bu (fun a : Int => [(0, .u (.one (dL s))), (1, .u (.one (.fn 86 []))), (7, vI (aY s)), (8, vI a)]) (fun _a : Int => []) stt Z O) : Swp Tryz.prog cx (.loop (bL [1, 0, 1, 0, 0] (bn Tryz.f87))) Z O (F_slices_IndexFunc_int_int_grid_Right_1_1 cx s tt) := by
 refine bv hE hh (F_slices_IndexFunc_int_int_grid_Right_1_1 cx s) ?_
 rintro a r hm Z O hf
 simp only [Fits, ba, bc, and_true] at hf
 unfold b_slices_IndexFunc_int_int_grid_Right_1_1 at hm
 dsimp only at hm
 refine srs hn ?_
 simp -dsimp [hf]
 refine aU ?_
 rcases aZ hm with ⟨c1, hm⟩ | ⟨c1, hm⟩
 ·refine aS (by simp -dsimp) c1 ?_
  refine aT (aP (aU (aW ?_)))
  refine srs hn ?_
  simp -dsimp [hf, c1]
  refine srs hn ?_
  obtain ⟨x, h2, hm⟩ := bnd hm
  obtain ⟨y, h3, hm⟩ := bnd hm
  simp -dsimp [hf, h2]
  refine b7 (c_grid_Right_1 x y h3) (dkL hn) ?_
  simp -dsimp
  rcases aZ hm with ⟨c4, hm⟩ | ⟨c4, hm⟩
  ·refine aS (by simp -dsimp) c4 ?_
   refine srs hn ?_
   simp -dsimp [c4]
   refine aV (bz (aX ?_))
   cases hm
   refine bd nofun ?_
   exact ⟨rfl, EE.here (by simp -dsimp [Tryz.results87])⟩
  ·refine aR (by simp -dsimp) c4 ?_
   refine aT ?_
   refine bk ?_
   refine aP ?_
   refine sr1 hn ?_
   simp -dsimp [hf, c4]
   cases hm
   refine bh ?_
   exact EE.here (by simp -dsimp [hf])
 ·refine aR (by simp -dsimp) c1 ?_
  refine b9 ?_
  refine aX ?_
  cases hm
  refine bd nofun ?_
  exact ⟨rfl, EE.here (by simp -dsimp [c1])⟩
theorem c_slices_IndexFunc_int_int_grid_Right_1 (s : List Int) (r : Int) (hm : m_slices_IndexFunc_int_int_grid_Right_1 s = some r) : PureCall Tryz.prog 87 [.u (.one (dL s)), .u (.one (.fn 86 []))] (vI r) := by
 refine bN Tryz.func87 Tryz.ntmps87 fun cx hn => ?_
 unfold m_slices_IndexFunc_int_int_grid_Right_1 at hm
 refine srs hn ?_
 simp -dsimp
 refine aU ?_
 refine srs hn ?_
 simp -dsimp
 refine aW ?_
 obtain ⟨o_, g5, hm⟩ := bnd hm
 refine bo (l_slices_IndexFunc_int_int_grid_Right_1_1 cx hn s g5) (by
   try dsimp only
   exact eeh
 ) fun ee Z O x6 => ?_
 rcases o_ with r | _u
 ·unfold F_slices_IndexFunc_int_int_grid_Right_1_1 at x6
  dsimp only at x6
  obtain ⟨rfl, x6⟩ := x6
  refine bz (aX ?_)
  cases hm
  exact ⟨.inr rfl, x6⟩
 ·unfold F_slices_IndexFunc_int_int_grid_Right_1_1 at x6
  dsimp only at x6
  obtain ⟨rfl, x6⟩ := x6
  refine b8 ?_
  refine aP ?_
  refine see x6 fun Z O hf => ?_
  simp only [Fits, ba, bc, and_true] at hf
  refine srs hn ?_
  simp -dsimp
  cases hm
  exact aV ⟨.inr rfl, EE.here (by simp -dsimp)⟩
theorem c_slices_ContainsFunc_int_int_grid_Right_1 (s : List Int) (r : Bool) (hm : m_slices_ContainsFunc_int_int_grid_Right_1 s = some r) : PureCall Tryz.prog 43 [.u (.one (dL s)), .u (.one (.fn 86 []))] (vT r) := by
 refine bN Tryz.func43 Tryz.ntmps43 fun cx hn => ?_
 unfold m_slices_ContainsFunc_int_int_grid_Right_1 at hm
 refine srs hn ?_
 simp -dsimp
 refine srs hn ?_
 obtain ⟨y, h1, hm⟩ := bnd hm
 simp -dsimp
 refine b7 (c_slices_IndexFunc_int_int_grid_Right_1 s y h1) (dkL hn) ?_
 simp -dsimp
 cases hm
 exact aV ⟨.inr rfl, EE.here (by simp -dsimp)⟩
theorem c_grid_Right (gv : Grid) (r : Bool) (hm : m_grid_Right gv = some r) : PureCall Tryz.prog 42 [.u (.agg [dI gv.W, dI gv.H, dI gv.Edge, dL gv.Cells])] (vT r) := by
 refine bN Tryz.func42 Tryz.ntmps42 fun cx hn => ?_
 unfold m_grid_Right at hm
 refine srs hn ?_
 simp -dsimp
 obtain ⟨a, j5, hm⟩ := bnd hm
 refine scE [(2, vT a)] [] ?_ fun Z O hf => ?_
 ·replace hm := j5
  clear j5
  refine sr1 hn ?_
  obtain ⟨y, h1, hm⟩ := bnd hm
  simp -dsimp
  refine b7 (c_grid_sized gv.W gv.H gv.Edge y h1) (dkL hn) ?_
  rcases aZ hm with ⟨c2, hm⟩ | ⟨c2, hm⟩
  ·rcases aZ hm with ⟨c3, hm⟩ | ⟨c3, hm⟩
   ·obtain ⟨y1, h4, hm⟩ := bnd hm
    simp -dsimp [c2, c3]
    refine b7 (c_slices_ContainsFunc_int_int_grid_Right_1 gv.Cells y1 h4) (dkL hn) ?_
    simp -dsimp
    cases hm
    exact EE.here (by simp -dsimp)
   ·simp -dsimp [c2, c3]
    cases hm
    exact EE.here (by simp -dsimp)
  ·simp -dsimp [c2]
   cases hm
   exact EE.here (by simp -dsimp)
 ·clear j5
  simp only [Fits, ba, bc, and_true] at hf
  cases hm
  exact aV ⟨.inr rfl, EE.here (by simp -dsimp [hf])⟩
end Go.Proofs.YtjfjmdmdkbpdfaaGreatDoor
