/- That the code does what the functions say (made by cc.py). -/
import Derived.Test.YtjfjmdmdkbpdfaaGreatDoorWa10
namespace Go.Proofs.YtjfjmdmdkbpdfaaGreatDoor
open Go.AM Go.Proofs
set_option maxRecDepth 100000
attribute [-simp] qlookup ct d7 Ob.wipe Ob.ren Ob.frz1
def F_R45_cells_2 (cx : Cx) (n states y i : Int) (l : List (List Int)) (out : List Az) (tt : (List Int)) (ee : Exit) (Z : Env) (O : Sto) : Prop := match tt with
 | l1 => ee = .exit 2 /\ EE cx (bp [(0, vI n), (1, vI states), (4, vX 4), (6, vI y), (7, vX 7), (8, vO 5004), (9, vI i), (10, vX 10)] [(4, .box [dI 0, .own 5001]), (7, .box [dI (bq .i64 n y), .own 5002]), (10, .box [dI 0, .own 5000]), (5000, .row 1 3 (List.map (rI .i64) l1)), (5001, .row 1 26 (List.map (rS 1 (rI .i64)) [])), (5002, .row 1 26 (List.map (rS 1 (rI .i64)) l)), (5004, .row 2 93 (List.map Az.row out))]) Z O
theorem l_R45_cells_2 (cx : Cx) (hn : cx.n = 60) (_hk : cx.k = 0) (n states y i : Int) (l : List (List Int)) (out : List Az) {fu : Nat} {stt : Int × (List Int)} {tt : (List Int)} (hh : b0 (b_R45_cells_2 n states y i l out) fu stt = some tt) {Z : Env} {O : Sto}
  (hE : bu (fun stt : Int × (List Int) => match stt with | (k, _l1) => [(0, vI n), (1, vI states), (4, vX 4), (6, vI y), (7, vX 7), (8, vO 5004), (9, vI i), (10, vX 10), (11, vI k)]) (fun stt : Int × (List Int) => match stt with | (_k, l1) => [(4, .box [dI 0, .own 5001]), (7, .box [dI (bq .i64 n y), .own 5002]), (10, .box [dI 0, .own 5000]), (5000, .row 1 3 (List.map (rI .i64) l1)), (5001, .row 1 26 (List.map (rS 1 (rI .i64)) [])), (5002, .row 1 26 (List.map (rS 1 (rI .i64)) l)), (5004, .row 2 93 (List.map Az.row out))]) stt Z O) : Swp Tryz.prog cx (.loop (bL [1, 1, 1, 1, 0, 1, 0, 0, 1, 0, 0, 1, 0, 1, 0, 0] (bn Tryz.f35))) Z O (F_R45_cells_2 cx n states y i l out tt) := by
 refine bv hE hh (F_R45_cells_2 cx n states y i l out) ?_
 rintro ⟨k, l1⟩ r hm Z O hf
 simp only [Fits, ba, bc, and_true] at hf
 unfold b_R45_cells_2 at hm
 dsimp only at hm
 refine aU ?_
 refine srs hn ?_
 simp -dsimp [hf]
 rcases aZ hm with ⟨c3, hm⟩ | ⟨c3, hm⟩
 ·refine aS (by simp -dsimp) c3 ?_
  refine aT (aP (aU (aW ?_)))
  refine sr1 hn ?_
  obtain ⟨l2, h4, hm⟩ := bnd hm
  obtain ⟨h4a, h4e⟩ := bj h4
  replace h4e := h4e.symm
  subst h4e
  try simp only [List.length_cons, List.length_nil, Nat.zero_add] at h4a
  simp -dsimp [hf, c3, h4a]
  refine bk ?_
  refine aP ?_
  refine sr1 hn ?_
  simp -dsimp [hf]
  cases hm
  refine bh ?_
  refine emv 38 5000 ?_
  exact EE.here (by simp -dsimp [hf])
 ·refine aR (by simp -dsimp) c3 ?_
  refine b9 ?_
  refine aX ?_
  cases hm
  refine bd nofun ?_
  exact ⟨rfl, EE.here (by simp -dsimp [hf, c3])⟩
def F_R45_cells_3 (cx : Cx) (n states y i : Int) (out : List Az) (l1 : List Int) (tt : (List (List Int))) (ee : Exit) (Z : Env) (O : Sto) : Prop := match tt with
 | l2 => ee = .exit 4 /\ EE cx (bp [(0, vI n), (1, vI states), (4, vX 4), (6, vI y), (7, vX 7), (8, vO 5004), (9, vI i), (10, vX 10)] [(4, .box [dI 0, .own 5001]), (7, .box [dI (bq .i64 n y), .own 5002]), (10, .box [dI 0, dL l1]), (5001, .row 1 26 (List.map (rS 1 (rI .i64)) [])), (5002, .row 1 26 (List.map (rS 1 (rI .i64)) l2)), (5004, .row 2 93 (List.map Az.row out))]) Z O
theorem l_R45_cells_3 (cx : Cx) (hn : cx.n = 60) (_hk : cx.k = 0) (n states y i : Int) (out : List Az) (l1 : List Int) {fu : Nat} {stt : Int × (List (List Int))} {tt : (List (List Int))} (hh : b0 (b_R45_cells_3 n states y i out l1) fu stt = some tt) {Z : Env} {O : Sto}
  (hE : bu (fun stt : Int × (List (List Int)) => match stt with | (cv, _l2) => [(0, vI n), (1, vI states), (4, vX 4), (6, vI y), (7, vX 7), (8, vO 5004), (9, vI i), (10, vX 10), (12, vI cv)]) (fun stt : Int × (List (List Int)) => match stt with | (_cv, l2) => [(4, .box [dI 0, .own 5001]), (7, .box [dI (bq .i64 n y), .own 5002]), (10, .box [dI 0, dL l1]), (5001, .row 1 26 (List.map (rS 1 (rI .i64)) [])), (5002, .row 1 26 (List.map (rS 1 (rI .i64)) l2)), (5004, .row 2 93 (List.map Az.row out))]) stt Z O) : Swp Tryz.prog cx (.loop (bL [1, 1, 1, 1, 0, 1, 0, 0, 1, 0, 0, 1, 1, 0, 1, 0, 0] (bn Tryz.f35))) Z O (F_R45_cells_3 cx n states y i out l1 tt) := by
 refine bv hE hh (F_R45_cells_3 cx n states y i out l1) ?_
 rintro ⟨cv, l2⟩ r hm Z O hf
 simp only [Fits, ba, bc, and_true] at hf
 unfold b_R45_cells_3 at hm
 dsimp only at hm
 refine aU ?_
 refine srs hn ?_
 obtain ⟨n1, h7, hm⟩ := bnd hm
 simp -dsimp [hf, h7]
 rcases aZ hm with ⟨c8, hm⟩ | ⟨c8, hm⟩
 ·refine aS (by simp -dsimp) c8 ?_
  refine aT (aP (aU (aW ?_)))
  refine dV bm mixed 5 (by rw [hn]; kernel_rfl) ?_
  dsimp only [List.take, List.drop]
  obtain ⟨y1, h9, hm⟩ := bnd hm
  simp -dsimp [hf, c8]
  refine bi (c_R45_against l1 cv y1 h9) ?_
  obtain ⟨y2, h10, hm⟩ := bnd hm
  simp -dsimp
  refine clg (g_R45_clause_o_N (bq .i64 n y) l2 y1 y2 h10) [5002] [5003] (by simp -dsimp [hf]) (dkL hn) ?_
  simp -dsimp [hf]
  refine bk ?_
  refine aP ?_
  refine sr1 hn ?_
  simp -dsimp [hf]
  cases hm
  refine bh ?_
  refine emv 5003 5002 ?_
  exact EE.here (by simp -dsimp [hf])
 ·refine aR (by simp -dsimp) c8 ?_
  refine b9 ?_
  refine aX ?_
  cases hm
  refine bd nofun ?_
  exact ⟨rfl, EE.here (by simp -dsimp [hf, c8])⟩
def F_R45_cells_1 (cx : Cx) (n _states y : Int) (tt : ((List (List Int)) × (List Az))) (ee : Exit) (Z : Env) (O : Sto) : Prop := match tt with
 | (l, out) => ee = .exit 0 /\ EE cx (bp [(4, vX 4), (7, vX 7), (8, vO 5004)] [(4, .box [dI 0, .own 5001]), (7, .box [dI (bq .i64 n y), .own 5002]), (5001, .row 1 26 (List.map (rS 1 (rI .i64)) [])), (5002, .row 1 26 (List.map (rS 1 (rI .i64)) l)), (5004, .row 2 93 (List.map Az.row out))]) Z O
theorem l_R45_cells_1 (cx : Cx) (hn : cx.n = 60) (hk : cx.k = 0) (n states y : Int) {fu : Nat} {stt : Int × (List (List Int)) × (List Az)} {tt : ((List (List Int)) × (List Az))} (hh : b0 (b_R45_cells_1 n states y) fu stt = some tt) {Z : Env} {O : Sto}
  (hE : bu (fun stt : Int × (List (List Int)) × (List Az) => match stt with | (i, _l, _out) => [(0, vI n), (1, vI states), (4, vX 4), (6, vI y), (7, vX 7), (8, vO 5004), (9, vI i)]) (fun stt : Int × (List (List Int)) × (List Az) => match stt with | (_i, l, out) => [(4, .box [dI 0, .own 5001]), (7, .box [dI (bq .i64 n y), .own 5002]), (5001, .row 1 26 (List.map (rS 1 (rI .i64)) [])), (5002, .row 1 26 (List.map (rS 1 (rI .i64)) l)), (5004, .row 2 93 (List.map Az.row out))]) stt Z O) : Swp Tryz.prog cx (.loop (bL [1, 1, 1, 1, 0, 1, 0, 0] (bn Tryz.f35))) Z O (F_R45_cells_1 cx n states y tt) := by
 refine bv hE hh (F_R45_cells_1 cx n states y) ?_
 rintro ⟨i, l, out⟩ r hm Z O hf
 simp only [Fits, ba, bc, and_true] at hf
 unfold b_R45_cells_1 at hm
 dsimp only at hm
 refine aU ?_
 refine srs hn ?_
 simp -dsimp [hf]
 rcases aZ hm with ⟨c2, hm⟩ | ⟨c2, hm⟩
 ·refine aS (by simp -dsimp) c2 ?_
  refine aT (aP (aU (aW ?_)))
  refine srs hn ?_
  simp -dsimp [c2]
  refine aU ?_
  refine srs hn ?_
  simp -dsimp
  refine aW ?_
  obtain ⟨l1, g5, hm⟩ := bnd hm
  refine bo (l_R45_cells_2 cx hn hk n states y i l out g5) (by
    try dsimp only
    refine EE.step (Wk.own0b 10 1 5000 1 3 [dI 0, .d .nil] (by simp -dsimp) (by rfl) (by decide) (by decide)) ?_
    exact EE.here (by simp -dsimp [hf])
  ) fun ee Z O x6 => ?_
  unfold F_R45_cells_2 at x6
  dsimp only at x6
  obtain ⟨rfl, x6⟩ := x6
  refine b8 ?_
  refine aP ?_
  refine see x6 fun Z O hf => ?_
  simp only [Fits, ba, bc, and_true] at hf
  refine aU ?_
  refine srs hn ?_
  simp -dsimp [hf]
  refine aW ?_
  obtain ⟨l2, g11, hm⟩ := bnd hm
  refine bo (l_R45_cells_3 cx hn hk n states y i out l1 g11) (by
    try dsimp only
    refine EE.step (Wk.frz 5000 1 3 (List.map (rI .i64) l1) (by simp -dsimp [hf])) ?_
    exact EE.here (by simp -dsimp [hf])
  ) fun ee Z O x12 => ?_
  unfold F_R45_cells_3 at x12
  dsimp only at x12
  obtain ⟨rfl, x12⟩ := x12
  refine b8 ?_
  refine aP ?_
  refine see x12 fun Z O hf => ?_
  simp only [Fits, ba, bc, and_true] at hf
  refine sr1 hn ?_
  obtain ⟨l3, h13, hm⟩ := bnd hm
  obtain ⟨h13a, h13e⟩ := bj h13
  replace h13e := h13e.symm
  subst h13e
  try simp only [List.length_cons, List.length_nil, Nat.zero_add] at h13a
  simp -dsimp [hf, h13a]
  refine bk ?_
  refine aP ?_
  refine sr1 hn ?_
  simp -dsimp [hf]
  cases hm
  refine bh ?_
  refine emv 57 5004 ?_
  exact EE.here (by simp -dsimp [hf])
 ·refine aR (by simp -dsimp) c2 ?_
  refine b9 ?_
  refine aX ?_
  cases hm
  refine bd nofun ?_
  exact ⟨rfl, EE.here (by simp -dsimp [hf, c2])⟩
theorem g_R45_cells (n states : Int) (r : Int × (List Az) × (List (List Int))) (hm : m_R45_cells n states = some r) : GFn Tryz.prog 35 [vI n, vI states] [] (.tup [.agg [dI r.1, .own 1000000], .one (dR3 r.2.1)]) [some (.row 1 26 (List.map (rS 1 (rI .i64)) r.2.2))] := by
 refine bD bm _ Tryz.func35 rfl (by kernel_rfl) (by simp [Tryz.ntmps35]) (by simp) (by first | rfl | simp) (by first | rfl | simp) fun cx hn hk => ?_
 replace hn : cx.n = 60 := hn.trans Tryz.ntmps35
 replace hk : cx.k = 0 := hk
 unfold m_R45_cells at hm
 refine srs hn ?_
 simp -dsimp
 refine srs hn ?_
 obtain ⟨y, h1, hm⟩ := bnd hm
 simp -dsimp
 refine b7 (c_R18_Bits states y h1) (dkL hn) ?_
 simp -dsimp
 refine srs hn ?_
 simp -dsimp
 refine srs hn ?_
 simp -dsimp
 refine aU ?_
 refine srs hn ?_
 simp -dsimp
 refine aW ?_
 obtain ⟨⟨l, out⟩, g14, hm⟩ := bnd hm
 refine bo (l_R45_cells_1 cx hn hk n states y g14) (by
   try dsimp only
   refine EE.step (Wk.own0 8 5004 2 93 (by simp -dsimp) (by decide)) ?_
   refine EE.step (Wk.own0b 4 1 5001 1 26 [dI 0, .d .nil] (by simp -dsimp) (by rfl) (by decide) (by decide)) ?_
   refine EE.step (Wk.own0b 7 1 5002 1 26 [dI (bq .i64 n y), .d .nil] (by simp -dsimp) (by rfl) (by decide) (by decide)) ?_
   exact EE.here (by simp -dsimp)
 ) fun ee Z O x15 => ?_
 unfold F_R45_cells_1 at x15
 dsimp only at x15
 obtain ⟨rfl, x15⟩ := x15
 refine b8 ?_
 refine aP ?_
 refine see x15 fun Z O hf => ?_
 simp only [Fits, ba, bc, and_true] at hf
 refine srs hn ?_
 simp -dsimp [hf]
 refine aV ?_
 cases hm
 refine ⟨.inr rfl, ?_⟩
 refine emr 5002 1000000 hk ?_
 exact EE.here (by simp -dsimp [hf])
def F_R13_same_1 (cx : Cx) (_a _b : List Int) (tt : Bool ⊕ Unit) (ee : Exit) (Z : Env) (O : Sto) : Prop := match tt with
 | .inl r => ee = .ret /\ EE cx (fun Z O => ∃ v, cX tb Z O Tryz.f136.results.toList = some v /\ (v.frz O).free = true /\ (v.frz O).wk (vT r)) Z O
 | .inr _u => ee = .exit 0 /\ EE cx (bp [] []) Z O
theorem l_R13_same_1 (cx : Cx) (hn : cx.n = 26) (a b : List Int) {fu : Nat} {stt : Int} {tt : Bool ⊕ Unit} (hh : b0 (b_R13_same_1 a b) fu stt = some tt) {Z : Env} {O : Sto}
  (hE : bu (fun i : Int => [(0, .u (.one (dL a))), (1, .u (.one (dL b))), (5, vI i)]) (fun _i : Int => []) stt Z O) : Swp Tryz.prog cx (.loop (bL [1, 1, 0, 1, 0, 0] (bn Tryz.f136))) Z O (F_R13_same_1 cx a b tt) := by
 refine bv hE hh (F_R13_same_1 cx a b) ?_
 rintro i r hm Z O hf
 simp only [Fits, ba, bc, and_true] at hf
 unfold b_R13_same_1 at hm
 dsimp only at hm
 refine aU ?_
 refine srs hn ?_
 simp -dsimp [hf]
 rcases aZ hm with ⟨c2, hm⟩ | ⟨c2, hm⟩
 ·refine aS (by simp -dsimp) c2 ?_
  refine aT (aP (aU (aW ?_)))
  refine cy bm mixed (by rw [hn]; kernel_rfl) ?_
  obtain ⟨x, h3, hm⟩ := bnd hm
  obtain ⟨x1, h4, hm⟩ := bnd hm
  simp -dsimp [hf, c2, h3, h4]
  rcases aZ hm with ⟨c5, hm⟩ | ⟨c5, hm⟩
  ·refine aS (by simp -dsimp) c5 ?_
   refine srs hn ?_
   simp -dsimp [c5]
   refine aV (bz (aX ?_))
   cases hm
   refine bd nofun ?_
   exact ⟨rfl, EE.here (by simp -dsimp [Tryz.results136])⟩
  ·refine aR (by simp -dsimp) c5 ?_
   refine aT ?_
   refine bk ?_
   refine aP ?_
   refine sr1 hn ?_
   simp -dsimp [hf, c5]
   cases hm
   refine bh ?_
   exact EE.here (by simp -dsimp [hf])
 ·refine aR (by simp -dsimp) c2 ?_
  refine b9 ?_
  refine aX ?_
  cases hm
  refine bd nofun ?_
  exact ⟨rfl, EE.here (by simp -dsimp [c2])⟩
theorem c_R13_same (a b : List Int) (r : Bool) (hm : m_R13_same a b = some r) : PureCall Tryz.prog 136 [.u (.one (dL a)), .u (.one (dL b))] (vT r) := by
 refine bN Tryz.func136 Tryz.ntmps136 fun cx hn => ?_
 unfold m_R13_same at hm
 refine srs hn ?_
 simp -dsimp
 refine aU ?_
 refine srs hn ?_
 simp -dsimp
 rcases aZ hm with ⟨c1, hm⟩ | ⟨c1, hm⟩
 ·refine sct c1 ?_
  refine srs hn ?_
  simp -dsimp [c1]
  refine aV (aX ?_)
  cases hm
  refine ⟨.inr rfl, ?_⟩
  exact EE.here (by simp -dsimp)
 ·refine scf c1 ?_
  refine aT (aP (aU ?_))
  refine srs hn ?_
  simp -dsimp [c1]
  refine aW ?_
  obtain ⟨o_, g6, hm⟩ := bnd hm
  refine bo (l_R13_same_1 cx hn a b g6) (by
    try dsimp only
    exact EE.here (by simp -dsimp)
  ) fun ee Z O x7 => ?_
  rcases o_ with r | _u
  ·unfold F_R13_same_1 at x7
   dsimp only at x7
   obtain ⟨rfl, x7⟩ := x7
   refine bz (aX ?_)
   cases hm
   exact ⟨.inr rfl, x7⟩
  ·unfold F_R13_same_1 at x7
   dsimp only at x7
   obtain ⟨rfl, x7⟩ := x7
   refine b8 ?_
   refine aP ?_
   refine see x7 fun Z O hf => ?_
   simp only [Fits, ba, bc, and_true] at hf
   refine srs hn ?_
   simp -dsimp
   cases hm
   exact aV ⟨.inr rfl, EE.here (by simp -dsimp)⟩
def F_R13_classes_2 (cx : Cx) (l : List Node) (i : Int) (ak : List Int) (nexts : List (List Int)) (tt : (List Int)) (ee : Exit) (Z : Env) (O : Sto) : Prop := match tt with
 | next => ee = .exit 2 /\ EE cx (bp [(0, .u (.one (dR1 l))), (3, vO 5001), (4, vO 5002), (5, vI i), (6, vO 5000)] [(5000, .row 1 3 (List.map (rI .i64) next)), (5001, .row 1 3 (List.map (rI .i64) ak)), (5002, .row 1 26 (List.map (rS 1 (rI .i64)) nexts))]) Z O
theorem l_R13_classes_2 (cx : Cx) (hn : cx.n = 85) (l : List Node) (i : Int) (ak : List Int) (nexts : List (List Int)) {fu : Nat} {stt : Int × (List Int)} {tt : (List Int)} (hh : b0 (b_R13_classes_2 l i ak nexts) fu stt = some tt) {Z : Env} {O : Sto}
  (hE : bu (fun stt : Int × (List Int) => match stt with | (s, _next) => [(0, .u (.one (dR1 l))), (3, vO 5001), (4, vO 5002), (5, vI i), (6, vO 5000), (7, vI s)]) (fun stt : Int × (List Int) => match stt with | (_s, next) => [(5000, .row 1 3 (List.map (rI .i64) next)), (5001, .row 1 3 (List.map (rI .i64) ak)), (5002, .row 1 26 (List.map (rS 1 (rI .i64)) nexts))]) stt Z O) : Swp Tryz.prog cx (.loop (bL [1, 1, 1, 0, 1, 0, 0, 1, 0, 0, 1, 0, 1, 0, 0] (bn Tryz.f119))) Z O (F_R13_classes_2 cx l i ak nexts tt) := by
 refine bv hE hh (F_R13_classes_2 cx l i ak nexts) ?_
 rintro ⟨s, next⟩ r hm Z O hf
 simp only [Fits, ba, bc, and_true] at hf
 unfold b_R13_classes_2 at hm
 dsimp only at hm
 refine aU ?_
 refine srs hn ?_
 obtain ⟨x, h2, hm⟩ := bnd hm
 simp -dsimp [hf, h2]
 rcases aZ hm with ⟨c3, hm⟩ | ⟨c3, hm⟩
 ·refine aS (by simp -dsimp) c3 ?_
  refine aT (aP (aU (aW ?_)))
  refine srs hn ?_
  obtain ⟨x1, h4, hm⟩ := bnd hm
  simp -dsimp [hf, h2, c3, h4]
  obtain ⟨k, j8, hm⟩ := bnd hm
  refine scE [(0, .u (.one (dR1 l))), (3, vO 5001), (4, vO 5002), (5, vI i), (6, vO 5000), (7, vI s), (8, vI k)] [(5000, .row 1 3 (List.map (rI .i64) next)), (5001, .row 1 3 (List.map (rI .i64) ak)), (5002, .row 1 26 (List.map (rS 1 (rI .i64)) nexts))] ?_ fun Z O hf => ?_
  ·replace hm := j8
   clear j8
   refine srs hn ?_
   simp -dsimp [hf, h2]
   rcases aZ hm with ⟨c5, hm⟩ | ⟨c5, hm⟩
   ·refine aS (by simp -dsimp) c5 ?_
    refine sr1 hn ?_
    obtain ⟨x2, h6, hm⟩ := bnd hm
    simp -dsimp [hf, c5, h6, bC h6]
    cases hm
    exact EE.here (by simp -dsimp [hf])
   ·refine aR (by simp -dsimp) c5 ?_
    refine aT (aP ?_)
    cases hm
    exact EE.here (by simp -dsimp [hf, c5])
  ·clear j8
   simp only [Fits, ba, bc, and_true] at hf
   refine sr1 hn ?_
   obtain ⟨l1, h7, hm⟩ := bnd hm
   obtain ⟨h7a, h7e⟩ := bj h7
   replace h7e := h7e.symm
   subst h7e
   try simp only [List.length_cons, List.length_nil, Nat.zero_add] at h7a
   simp -dsimp [hf, h7a]
   refine bk ?_
   refine aP ?_
   refine sr1 hn ?_
   simp -dsimp [hf]
   cases hm
   refine bh ?_
   refine emv 48 5000 ?_
   exact EE.here (by simp -dsimp [hf])
 ·refine aR (by simp -dsimp) c3 ?_
  refine b9 ?_
  refine aX ?_
  cases hm
  refine bd nofun ?_
  exact ⟨rfl, EE.here (by simp -dsimp [hf, c3])⟩
def F_R13_classes_3 (cx : Cx) (l : List Node) (i : Int) (ak : List Int) (nexts : List (List Int)) (next : List Int) (tt : Int) (ee : Exit) (Z : Env) (O : Sto) : Prop := match tt with
 | first => ee = .exit 4 /\ EE cx (bp [(0, .u (.one (dR1 l))), (3, vO 5001), (4, vO 5002), (5, vI i), (6, vO 5000), (9, vI first)] [(5000, .row 1 3 (List.map (rI .i64) next)), (5001, .row 1 3 (List.map (rI .i64) ak)), (5002, .row 1 26 (List.map (rS 1 (rI .i64)) nexts))]) Z O
theorem l_R13_classes_3 (cx : Cx) (hn : cx.n = 85) (l : List Node) (i : Int) (ak : List Int) (nexts : List (List Int)) (next : List Int) {fu : Nat} {stt : Int × Int} {tt : Int} (hh : b0 (b_R13_classes_3 l i ak nexts next) fu stt = some tt) {Z : Env} {O : Sto}
  (hE : bu (fun stt : Int × Int => match stt with | (first, jv) => [(0, .u (.one (dR1 l))), (3, vO 5001), (4, vO 5002), (5, vI i), (6, vO 5000), (9, vI first), (10, vI jv)]) (fun stt : Int × Int => match stt with | (_first, _jv) => [(5000, .row 1 3 (List.map (rI .i64) next)), (5001, .row 1 3 (List.map (rI .i64) ak)), (5002, .row 1 26 (List.map (rS 1 (rI .i64)) nexts))]) stt Z O) : Swp Tryz.prog cx (.loop (bL [1, 1, 1, 0, 1, 0, 0, 1, 0, 0, 1, 1, 1, 0, 1, 0, 0] (bn Tryz.f119))) Z O (F_R13_classes_3 cx l i ak nexts next tt) := by
 refine bv hE hh (F_R13_classes_3 cx l i ak nexts next) ?_
 rintro ⟨first, jv⟩ r hm Z O hf
 simp only [Fits, ba, bc, and_true] at hf
 unfold b_R13_classes_3 at hm
 dsimp only at hm
 refine aU ?_
 refine srs hn ?_
 simp -dsimp [hf]
 rcases aZ hm with ⟨c11, hm⟩ | ⟨c11, hm⟩
 ·refine aS (by simp -dsimp) c11 ?_
  refine aT (aP ?_)
  obtain ⟨first1, j19, hm⟩ := bnd hm
  refine scE [(0, .u (.one (dR1 l))), (3, vO 5001), (4, vO 5002), (5, vI i), (6, vO 5000), (9, vI first1), (10, vI jv)] [(5000, .row 1 3 (List.map (rI .i64) next)), (5001, .row 1 3 (List.map (rI .i64) ak)), (5002, .row 1 26 (List.map (rS 1 (rI .i64)) nexts))] ?_ fun Z O hf => ?_
  ·replace hm := j19
   clear j19
   refine aW ?_
   obtain ⟨a, j18, hm⟩ := bnd hm
   refine scE [(0, .u (.one (dR1 l))), (3, vO 5001), (4, vO 5002), (5, vI i), (6, vO 5000), (9, vI first), (10, vI jv), (74, vT a)] [(5000, .row 1 3 (List.map (rI .i64) next)), (5001, .row 1 3 (List.map (rI .i64) ak)), (5002, .row 1 26 (List.map (rS 1 (rI .i64)) nexts))] ?_ fun Z O hf => ?_
   ·replace hm := j18
    clear j18
    refine sw_qt bm mixed (by rw [hn]; kernel_rfl) ?_
    obtain ⟨x, h12, hm⟩ := bnd hm
    obtain ⟨x1, h13, hm⟩ := bnd hm
    rcases aZ hm with ⟨c14, hm⟩ | ⟨c14, hm⟩
    ·obtain ⟨x2, h15, hm⟩ := bnd hm
     obtain ⟨y, h16, hm⟩ := bnd hm
     simp -dsimp [hf, c11, h12, h13, c14, h15, bC h15]
     refine qcallL_brw (us' := [.u (.one (dL x2)), .u (.one (dL next))]) (c_R13_same x2 next y h16) (by simp -dsimp [hf]) rfl ?_
     simp -dsimp
     cases hm
     exact EE.here (by simp -dsimp [hf])
    ·simp -dsimp [hf, c11, h12, h13, c14]
     cases hm
     exact EE.here (by simp -dsimp [hf])
   ·clear j18
    simp only [Fits, ba, bc, and_true] at hf
    rcases aZ hm with ⟨c17, hm⟩ | ⟨c17, hm⟩
    ·refine aS (by simp -dsimp [hf]) c17 ?_
     refine sr1 hn ?_
     simp -dsimp [hf]
     refine bk ?_
     cases hm
     exact EE.here (by simp -dsimp [hf])
    ·refine aR (by simp -dsimp [hf]) c17 ?_
     refine aT ?_
     refine bk ?_
     cases hm
     exact EE.here (by simp -dsimp [hf])
  ·clear j19
   simp only [Fits, ba, bc, and_true] at hf
   refine sr1 hn ?_
   simp -dsimp [hf]
   cases hm
   refine bh ?_
   exact EE.here (by simp -dsimp [hf])
 ·refine aR (by simp -dsimp) c11 ?_
  refine b9 ?_
  refine aX ?_
  cases hm
  refine bd nofun ?_
  exact ⟨rfl, EE.here (by simp -dsimp [hf, c11])⟩
def F_R13_classes_1 (cx : Cx) (_l : List Node) (tt : (List Int)) (ee : Exit) (Z : Env) (O : Sto) : Prop := match tt with
 | ak => ee = .exit 0 /\ EE cx (bp [(3, vO 5001)] [(5001, .row 1 3 (List.map (rI .i64) ak))]) Z O
theorem l_R13_classes_1 (cx : Cx) (hn : cx.n = 85) (l : List Node) {fu : Nat} {stt : Int × (List Int) × (List (List Int))} {tt : (List Int)} (hh : b0 (b_R13_classes_1 l) fu stt = some tt) {Z : Env} {O : Sto}
  (hE : bu (fun stt : Int × (List Int) × (List (List Int)) => match stt with | (i, _ak, _nexts) => [(0, .u (.one (dR1 l))), (3, vO 5001), (4, vO 5002), (5, vI i)]) (fun stt : Int × (List Int) × (List (List Int)) => match stt with | (_i, ak, nexts) => [(5001, .row 1 3 (List.map (rI .i64) ak)), (5002, .row 1 26 (List.map (rS 1 (rI .i64)) nexts))]) stt Z O) : Swp Tryz.prog cx (.loop (bL [1, 1, 1, 0, 1, 0, 0] (bn Tryz.f119))) Z O (F_R13_classes_1 cx l tt) := by
 refine bv hE hh (F_R13_classes_1 cx l) ?_
 rintro ⟨i, ak, nexts⟩ r hm Z O hf
 simp only [Fits, ba, bc, and_true] at hf
 unfold b_R13_classes_1 at hm
 dsimp only at hm
 refine aU ?_
 refine srs hn ?_
 simp -dsimp [hf]
 rcases aZ hm with ⟨c1, hm⟩ | ⟨c1, hm⟩
 ·refine aS (by simp -dsimp) c1 ?_
  refine aT (aP (aU (aW ?_)))
  refine srs hn ?_
  simp -dsimp [c1]
  refine aU ?_
  refine srs hn ?_
  simp -dsimp
  refine aW ?_
  obtain ⟨next, g9, hm⟩ := bnd hm
  refine bo (l_R13_classes_2 cx hn l i ak nexts g9) (by
    try dsimp only
    refine EE.step (Wk.own0 6 5000 1 3 (by simp -dsimp) (by decide)) ?_
    exact EE.here (by simp -dsimp [hf])
  ) fun ee Z O x10 => ?_
  unfold F_R13_classes_2 at x10
  dsimp only at x10
  obtain ⟨rfl, x10⟩ := x10
  refine b8 ?_
  refine aP ?_
  refine see x10 fun Z O hf => ?_
  simp only [Fits, ba, bc, and_true] at hf
  refine srs hn ?_
  simp -dsimp [hf]
  refine aU ?_
  refine srs hn ?_
  simp -dsimp [hf]
  refine aW ?_
  obtain ⟨first, g20, hm⟩ := bnd hm
  refine bo (l_R13_classes_3 cx hn l i ak nexts next g20) (by
    try dsimp only
    exact EE.here (by simp -dsimp [hf])
  ) fun ee Z O x21 => ?_
  unfold F_R13_classes_3 at x21
  dsimp only at x21
  obtain ⟨rfl, x21⟩ := x21
  refine b8 ?_
  refine aP ?_
  refine see x21 fun Z O hf => ?_
  simp only [Fits, ba, bc, and_true] at hf
  refine srs hn ?_
  obtain ⟨l1, h22, hm⟩ := bnd hm
  obtain ⟨h22a, h22e⟩ := bj h22
  replace h22e := h22e.symm
  subst h22e
  try simp only [List.length_cons, List.length_nil, Nat.zero_add] at h22a
  simp -dsimp [hf, h22a]
  refine Swp.pre (Wk.frz 5000 1 3 (List.map (rI .i64) next) (by simp -dsimp [hf])) ?_
  refine sr1 hn ?_
  obtain ⟨l2, h23, hm⟩ := bnd hm
  obtain ⟨h23a, h23e⟩ := bj h23
  replace h23e := h23e.symm
  subst h23e
  try simp only [List.length_cons, List.length_nil, Nat.zero_add] at h23a
  simp -dsimp [hf, h23a]
  refine bk ?_
  refine aP ?_
  refine sr1 hn ?_
  simp -dsimp [hf]
  cases hm
  refine bh ?_
  refine emv 79 5001 ?_
  refine emv 83 5002 ?_
  exact EE.here (by simp -dsimp [hf])
 ·refine aR (by simp -dsimp) c1 ?_
  refine b9 ?_
  refine aX ?_
  cases hm
  refine bd nofun ?_
  exact ⟨rfl, EE.here (by simp -dsimp [hf, c1])⟩
theorem c_R13_classes (l : List Node) (r : List Int) (hm : m_R13_classes l = some r) : PureCall Tryz.prog 119 [.u (.one (dR1 l))] (.u (.one (dL r))) := by
 refine bN Tryz.func119 Tryz.ntmps119 fun cx hn => ?_
 unfold m_R13_classes at hm
 refine srs hn ?_
 simp -dsimp
 refine srs hn ?_
 simp -dsimp
 refine srs hn ?_
 simp -dsimp
 refine aU ?_
 refine srs hn ?_
 simp -dsimp
 refine aW ?_
 obtain ⟨ak, g24, hm⟩ := bnd hm
 refine bo (l_R13_classes_1 cx hn l g24) (by
   try dsimp only
   refine EE.step (Wk.own0 3 5001 1 3 (by simp -dsimp) (by decide)) ?_
   refine EE.step (Wk.own0 4 5002 1 26 (by simp -dsimp) (by decide)) ?_
   exact eeh
 ) fun ee Z O x25 => ?_
 unfold F_R13_classes_1 at x25
 dsimp only at x25
 obtain ⟨rfl, x25⟩ := x25
 refine b8 ?_
 refine aP ?_
 refine see x25 fun Z O hf => ?_
 simp only [Fits, ba, bc, and_true] at hf
 refine srs hn ?_
 simp -dsimp [hf]
 cases hm
 exact aV ⟨.inr rfl, EE.here (by simp -dsimp [hf])⟩
section
attribute [-simp] List.map_set List.set_set
def H_R13_walk_o_o (rcv : ((List Node) -> (List Int) -> Int -> (List Int) -> (List Node) -> Option ((List Int) × (List Node)))) : Prop := ∀ (l : List Node) (ak : List Int) (i : Int) (done : List Int) (out : List Node) (r : (List Int) × (List Node)), rcv l ak i done out = some r -> GFn Tryz.prog 120 [.u (.one (dR1 l)), .u (.one (dL ak)), vI i, vO 1000000, vO 1000001] [.row 1 3 (List.map (rI .i64) done), .row 2 60 (List.map Node.row out)] (vO 1000002) [some (.row 1 3 (List.map (rI .i64) r.1)), none, some (.row 2 60 (List.map Node.row r.2))]
def F_R13_walk_o_o_1 (cx : Cx) (_rcv : ((List Node) -> (List Int) -> Int -> (List Int) -> (List Node) -> Option ((List Int) × (List Node)))) (_l : List Node) (_ak : List Int) (i : Int) (_out : List Node) (x1 : Node) (tt : ((List Int) × (List Node) × (List Int))) (ee : Exit) (Z : Env) (O : Sto) : Prop := match tt with
 | (l1, aF, aB) => ee = .exit 0 /\ EE cx (bp [(2, vI i), (3, vO 1000000), (4, vO 5003), (11, vX 11)] [(11, .box [dI x1.Level, .own 5000]), (5000, .row 1 3 (List.map (rI .i64) l1)), (5003, .row 2 60 (List.map Node.row aF)), (1000000, .row 1 3 (List.map (rI .i64) aB))]) Z O
theorem l_R13_walk_o_o_1 (cx : Cx) (hn : cx.n = 76) (_hk : cx.k = 2) (rcv : ((List Node) -> (List Int) -> Int -> (List Int) -> (List Node) -> Option ((List Int) × (List Node)))) (l : List Node) (ak : List Int) (i : Int) (out : List Node) (x1 : Node) (hrcv : H_R13_walk_o_o rcv) {fu : Nat} {stt : Int × (List Int) × (List Node) × (List Int)} {tt : ((List Int) × (List Node) × (List Int))} (hh : b0 (b_R13_walk_o_o_1 rcv l ak i out x1) fu stt = some tt) {Z : Env} {O : Sto}
  (hE : bu (fun stt : Int × (List Int) × (List Node) × (List Int) => match stt with | (s, _l1, _aF, _aB) => [(0, .u (.one (dR1 l))), (1, .u (.one (dL ak))), (2, vI i), (3, vO 1000000), (4, vO 5003), (11, vX 11), (12, vI s)]) (fun stt : Int × (List Int) × (List Node) × (List Int) => match stt with | (_s, l1, aF, aB) => [(11, .box [dI x1.Level, .own 5000]), (5000, .row 1 3 (List.map (rI .i64) l1)), (5003, .row 2 60 (List.map Node.row aF)), (1000000, .row 1 3 (List.map (rI .i64) aB))]) stt Z O) : Swp Tryz.prog cx (.loop (bL [1, 1, 1, 0, 1, 0, 0] (bn Tryz.f120))) Z O (F_R13_walk_o_o_1 cx rcv l ak i out x1 tt) := by
 refine bv hE hh (F_R13_walk_o_o_1 cx rcv l ak i out x1) ?_
 rintro ⟨s, l1, aF, aB⟩ r hm Z O hf
 simp only [Fits, ba, bc, and_true] at hf
 unfold b_R13_walk_o_o_1 at hm
 dsimp only at hm
 refine aU ?_
 refine srs hn ?_
 obtain ⟨x2, h4, hm⟩ := bnd hm
 simp -dsimp [hf, h4]
 rcases aZ hm with ⟨c5, hm⟩ | ⟨c5, hm⟩
 ·refine aS (by simp -dsimp) c5 ?_
  refine aT (aP (aU (aW ?_)))
  refine srs hn ?_
  obtain ⟨x3, h6, hm⟩ := bnd hm
  simp -dsimp [hf, h4, c5, h6]
  obtain ⟨⟨k, out2, aM⟩, j12, hm⟩ := bnd hm
  refine scE [(0, .u (.one (dR1 l))), (1, .u (.one (dL ak))), (2, vI i), (3, vO 1000000), (4, vO 5003), (11, vX 11), (12, vI s), (13, vI k)] [(11, .box [dI x1.Level, .own 5000]), (5000, .row 1 3 (List.map (rI .i64) l1)), (5003, .row 2 60 (List.map Node.row out2)), (1000000, .row 1 3 (List.map (rI .i64) aM))] ?_ fun Z O hf => ?_
  ·replace hm := j12
   clear j12
   refine srs hn ?_
   simp -dsimp [hf]
   rcases aZ hm with ⟨c7, hm⟩ | ⟨c7, hm⟩
   ·refine aS (by simp -dsimp) c7 ?_
    refine srs hn ?_
    obtain ⟨x4, h8, hm⟩ := bnd hm
    simp -dsimp [hf, c7, h8]
    refine srs hn ?_
    obtain ⟨y, h9, hm⟩ := bnd hm
    simp -dsimp [hf]
    refine clg (hrcv l ak x4 aB aF y h9) [1000000, 5003] [5002] (by simp -dsimp [hf]) (dkL hn) ?_
    simp -dsimp
    refine sr1 hn ?_
    obtain ⟨x5, h10, hm⟩ := bnd hm
    simp -dsimp [hf, h10, bC h10]
    refine aP ?_
    cases hm
    refine emv 5002 5003 ?_
    exact EE.here (by simp -dsimp [hf])
   ·refine aR (by simp -dsimp) c7 ?_
    refine aT (aP ?_)
    cases hm
    exact EE.here (by simp -dsimp [hf, c7])
  ·clear j12
   simp only [Fits, ba, bc, and_true] at hf
   refine sr1 hn ?_
   obtain ⟨l2, h11, hm⟩ := bnd hm
   obtain ⟨h11a, h11e⟩ := bj h11
   replace h11e := h11e.symm
   subst h11e
   try simp only [List.length_cons, List.length_nil, Nat.zero_add] at h11a
   simp -dsimp [hf, h11a]
   refine bk ?_
   refine aP ?_
   refine sr1 hn ?_
   simp -dsimp [hf]
   cases hm
   refine bh ?_
   refine emv 65 5000 ?_
   exact EE.here (by simp -dsimp [hf])
 ·refine aR (by simp -dsimp) c5 ?_
  refine b9 ?_
  refine aX ?_
  cases hm
  refine bd nofun ?_
  exact ⟨rfl, EE.here (by simp -dsimp [hf, c5])⟩
theorem fb_R13_walk_o_o (rcv : ((List Node) -> (List Int) -> Int -> (List Int) -> (List Node) -> Option ((List Int) × (List Node)))) (hrcv : H_R13_walk_o_o rcv) (l : List Node) (ak : List Int) (i : Int) (done : List Int) (out : List Node) (r : (List Int) × (List Node)) (hm : mb_R13_walk_o_o rcv l ak i done out = some r) : GFn Tryz.prog 120 [.u (.one (dR1 l)), .u (.one (dL ak)), vI i, vO 1000000, vO 1000001] [.row 1 3 (List.map (rI .i64) done), .row 2 60 (List.map Node.row out)] (vO 1000002) [some (.row 1 3 (List.map (rI .i64) r.1)), none, some (.row 2 60 (List.map Node.row r.2))] := by
 refine bD bm _ Tryz.func120 rfl (by kernel_rfl) (by simp [Tryz.ntmps120]) (by simp) (by first | rfl | simp) (by first | rfl | simp) fun cx hn hk => ?_
 replace hn : cx.n = 76 := hn.trans Tryz.ntmps120
 replace hk : cx.k = 2 := hk
 unfold mb_R13_walk_o_o at hm
 refine srs hn ?_
 simp -dsimp
 refine aU ?_
 refine srs hn ?_
 obtain ⟨x, h1, hm⟩ := bnd hm
 simp -dsimp [h1, bC h1]
 rcases aZ hm with ⟨c2, hm⟩ | ⟨c2, hm⟩
 ·refine aS (by simp -dsimp) c2 ?_
  refine srs hn ?_
  simp -dsimp [c2]
  refine aV (aX ?_)
  cases hm
  refine ⟨.inr rfl, ?_⟩
  refine emr 1000001 1000002 hk ?_
  exact EE.here (by simp -dsimp)
 ·refine aR (by simp -dsimp) c2 ?_
  refine aT (aP ?_)
  refine srs hn ?_
  obtain ⟨x1, h3, hm⟩ := bnd hm
  simp -dsimp [c2, h3]
  refine aU ?_
  refine srs hn ?_
  simp -dsimp
  refine aW ?_
  obtain ⟨⟨l1, aF, aB⟩, g13, hm⟩ := bnd hm
  refine bo (l_R13_walk_o_o_1 cx hn hk rcv l ak i out x1 hrcv g13) (by
    try dsimp only
    refine emv 1000001 5003 ?_
    refine EE.step (Wk.own0b 11 1 5000 1 3 [dI x1.Level, .d .nil] (by simp -dsimp) (by rfl) (by decide) (by decide)) ?_
    exact EE.here (by simp -dsimp)
  ) fun ee Z O x14 => ?_
  unfold F_R13_walk_o_o_1 at x14
  dsimp only at x14
  obtain ⟨rfl, x14⟩ := x14
  refine b8 ?_
  refine aP ?_
  refine see x14 fun Z O hf => ?_
  simp only [Fits, ba, bc, and_true] at hf
  refine srs hn ?_
  obtain ⟨x2, h15, hm⟩ := bnd hm
  simp -dsimp [hf, h15, bC h15, rsetI .i64 aB i.toNat (aY aF)]
  refine Swp.pre (Wk.frz 5000 1 3 (List.map (rI .i64) l1) (by simp -dsimp [hf])) ?_
  refine srs hn ?_
  obtain ⟨l2, h16, hm⟩ := bnd hm
  obtain ⟨h16a, h16e⟩ := bj h16
  replace h16e := h16e.symm
  subst h16e
  try simp only [List.length_cons, List.length_nil, Nat.zero_add] at h16a
  simp -dsimp [hf, h16a]
  refine aV ?_
  cases hm
  refine ⟨.inr rfl, ?_⟩
  refine emr 75 1000002 hk ?_
  exact EE.here (by simp -dsimp)
theorem g_R13_walk_o_o (l : List Node) (ak : List Int) (i : Int) (done : List Int) (out : List Node) (r : (List Int) × (List Node)) (hm : m_R13_walk_o_o l ak i done out = some r) : GFn Tryz.prog 120 [.u (.one (dR1 l)), .u (.one (dL ak)), vI i, vO 1000000, vO 1000001] [.row 1 3 (List.map (rI .i64) done), .row 2 60 (List.map Node.row out)] (vO 1000002) [some (.row 1 3 (List.map (rI .i64) r.1)), none, some (.row 2 60 (List.map Node.row r.2))] := recN_ind H_R13_walk_o_o (by intro _; intro _; intro _; intro _; intro _; intro _; intro hm; cases hm) fb_R13_walk_o_o recF l ak i done out r hm
end
section
attribute [-simp] List.map_set List.set_set
def H_R13_walk_o_N (rcv : ((List Node) -> (List Int) -> Int -> (List Int) -> Option ((List Int) × (List Node)))) : Prop := ∀ (l : List Node) (ak : List Int) (i : Int) (done : List Int) (r : (List Int) × (List Node)), rcv l ak i done = some r -> GFn Tryz.prog 120 [.u (.one (dR1 l)), .u (.one (dL ak)), vI i, vO 1000000, .u (.one (.d .nil))] [.row 1 3 (List.map (rI .i64) done)] (vO 1000001) [some (.row 1 3 (List.map (rI .i64) r.1)), some (.row 2 60 (List.map Node.row r.2))]
def F_R13_walk_o_N_1 (cx : Cx) (_l : List Node) (_ak : List Int) (i : Int) (x1 : Node) (tt : ((List Int) × (List Node) × (List Int))) (ee : Exit) (Z : Env) (O : Sto) : Prop := match tt with
 | (l1, out, aB) => ee = .exit 0 /\ EE cx (bp [(2, vI i), (3, vO 1000000), (4, vO 5003), (11, vX 11)] [(11, .box [dI x1.Level, .own 5000]), (5000, .row 1 3 (List.map (rI .i64) l1)), (5003, .row 2 60 (List.map Node.row out)), (1000000, .row 1 3 (List.map (rI .i64) aB))]) Z O
theorem l_R13_walk_o_N_1 (cx : Cx) (hn : cx.n = 76) (_hk : cx.k = 1) (l : List Node) (ak : List Int) (i : Int) (x1 : Node) {fu : Nat} {stt : Int × (List Int) × (List Node) × (List Int)} {tt : ((List Int) × (List Node) × (List Int))} (hh : b0 (b_R13_walk_o_N_1 l ak i x1) fu stt = some tt) {Z : Env} {O : Sto}
  (hE : bu (fun stt : Int × (List Int) × (List Node) × (List Int) => match stt with | (s, _l1, _out, _aB) => [(0, .u (.one (dR1 l))), (1, .u (.one (dL ak))), (2, vI i), (3, vO 1000000), (4, vO 5003), (11, vX 11), (12, vI s)]) (fun stt : Int × (List Int) × (List Node) × (List Int) => match stt with | (_s, l1, out, aB) => [(11, .box [dI x1.Level, .own 5000]), (5000, .row 1 3 (List.map (rI .i64) l1)), (5003, .row 2 60 (List.map Node.row out)), (1000000, .row 1 3 (List.map (rI .i64) aB))]) stt Z O) : Swp Tryz.prog cx (.loop (bL [1, 1, 1, 0, 1, 0, 0] (bn Tryz.f120))) Z O (F_R13_walk_o_N_1 cx l ak i x1 tt) := by
 refine bv hE hh (F_R13_walk_o_N_1 cx l ak i x1) ?_
 rintro ⟨s, l1, out, aB⟩ r hm Z O hf
 simp only [Fits, ba, bc, and_true] at hf
 unfold b_R13_walk_o_N_1 at hm
 dsimp only at hm
 refine aU ?_
 refine srs hn ?_
 obtain ⟨x2, h4, hm⟩ := bnd hm
 simp -dsimp [hf, h4]
 rcases aZ hm with ⟨c5, hm⟩ | ⟨c5, hm⟩
 ·refine aS (by simp -dsimp) c5 ?_
  refine aT (aP (aU (aW ?_)))
  refine srs hn ?_
  obtain ⟨x3, h6, hm⟩ := bnd hm
  simp -dsimp [hf, h4, c5, h6]
  obtain ⟨⟨k, aF, aM⟩, j12, hm⟩ := bnd hm
  refine scE [(0, .u (.one (dR1 l))), (1, .u (.one (dL ak))), (2, vI i), (3, vO 1000000), (4, vO 5003), (11, vX 11), (12, vI s), (13, vI k)] [(11, .box [dI x1.Level, .own 5000]), (5000, .row 1 3 (List.map (rI .i64) l1)), (5003, .row 2 60 (List.map Node.row aF)), (1000000, .row 1 3 (List.map (rI .i64) aM))] ?_ fun Z O hf => ?_
  ·replace hm := j12
   clear j12
   refine srs hn ?_
   simp -dsimp [hf]
   rcases aZ hm with ⟨c7, hm⟩ | ⟨c7, hm⟩
   ·refine aS (by simp -dsimp) c7 ?_
    refine srs hn ?_
    obtain ⟨x4, h8, hm⟩ := bnd hm
    simp -dsimp [hf, c7, h8]
    refine srs hn ?_
    obtain ⟨y, h9, hm⟩ := bnd hm
    simp -dsimp [hf]
    refine clg (g_R13_walk_o_o l ak x4 aB out y h9) [1000000, 5003] [5002] (by simp -dsimp [hf]) (dkL hn) ?_
    simp -dsimp
    refine sr1 hn ?_
    obtain ⟨x5, h10, hm⟩ := bnd hm
    simp -dsimp [hf, h10, bC h10]
    refine aP ?_
    cases hm
    refine emv 5002 5003 ?_
    exact EE.here (by simp -dsimp [hf])
   ·refine aR (by simp -dsimp) c7 ?_
    refine aT (aP ?_)
    cases hm
    exact EE.here (by simp -dsimp [hf, c7])
  ·clear j12
   simp only [Fits, ba, bc, and_true] at hf
   refine sr1 hn ?_
   obtain ⟨l2, h11, hm⟩ := bnd hm
   obtain ⟨h11a, h11e⟩ := bj h11
   replace h11e := h11e.symm
   subst h11e
   try simp only [List.length_cons, List.length_nil, Nat.zero_add] at h11a
   simp -dsimp [hf, h11a]
   refine bk ?_
   refine aP ?_
   refine sr1 hn ?_
   simp -dsimp [hf]
   cases hm
   refine bh ?_
   refine emv 65 5000 ?_
   exact EE.here (by simp -dsimp [hf])
 ·refine aR (by simp -dsimp) c5 ?_
  refine b9 ?_
  refine aX ?_
  cases hm
  refine bd nofun ?_
  exact ⟨rfl, EE.here (by simp -dsimp [hf, c5])⟩
theorem fb_R13_walk_o_N (rcv : ((List Node) -> (List Int) -> Int -> (List Int) -> Option ((List Int) × (List Node)))) (_hrcv : H_R13_walk_o_N rcv) (l : List Node) (ak : List Int) (i : Int) (done : List Int) (r : (List Int) × (List Node)) (hm : mb_R13_walk_o_N rcv l ak i done = some r) : GFn Tryz.prog 120 [.u (.one (dR1 l)), .u (.one (dL ak)), vI i, vO 1000000, .u (.one (.d .nil))] [.row 1 3 (List.map (rI .i64) done)] (vO 1000001) [some (.row 1 3 (List.map (rI .i64) r.1)), some (.row 2 60 (List.map Node.row r.2))] := by
 refine bD bm _ Tryz.func120 rfl (by kernel_rfl) (by simp [Tryz.ntmps120]) (by simp) (by first | rfl | simp) (by first | rfl | simp) fun cx hn hk => ?_
 replace hn : cx.n = 76 := hn.trans Tryz.ntmps120
 replace hk : cx.k = 1 := hk
 unfold mb_R13_walk_o_N at hm
 refine srs hn ?_
 simp -dsimp
 refine aU ?_
 refine srs hn ?_
 obtain ⟨x, h1, hm⟩ := bnd hm
 simp -dsimp [h1, bC h1]
 rcases aZ hm with ⟨c2, hm⟩ | ⟨c2, hm⟩
 ·refine aS (by simp -dsimp) c2 ?_
  refine srs hn ?_
  simp -dsimp [c2]
  refine aV (aX ?_)
  cases hm
  refine ⟨.inr rfl, ?_⟩
  refine emr 5001 1000001 hk ?_
  refine EE.step (Wk.own0 10 5001 2 60 (by simp -dsimp) (by decide)) ?_
  refine emr 5001 1000001 hk ?_
  exact EE.here (by simp -dsimp)
 ·refine aR (by simp -dsimp) c2 ?_
  refine aT (aP ?_)
  refine srs hn ?_
  obtain ⟨x1, h3, hm⟩ := bnd hm
  simp -dsimp [c2, h3]
  refine aU ?_
  refine srs hn ?_
  simp -dsimp
  refine aW ?_
  obtain ⟨⟨l1, out, aB⟩, g13, hm⟩ := bnd hm
  refine bo (l_R13_walk_o_N_1 cx hn hk l ak i x1 g13) (by
    try dsimp only
    refine EE.step (Wk.own0 4 5003 2 60 (by simp -dsimp) (by decide)) ?_
    refine EE.step (Wk.own0b 11 1 5000 1 3 [dI x1.Level, .d .nil] (by simp -dsimp) (by rfl) (by decide) (by decide)) ?_
    exact EE.here (by simp -dsimp)
  ) fun ee Z O x14 => ?_
  unfold F_R13_walk_o_N_1 at x14
  dsimp only at x14
  obtain ⟨rfl, x14⟩ := x14
  refine b8 ?_
  refine aP ?_
  refine see x14 fun Z O hf => ?_
  simp only [Fits, ba, bc, and_true] at hf
  refine srs hn ?_
  obtain ⟨x2, h15, hm⟩ := bnd hm
  simp -dsimp [hf, h15, bC h15, rsetI .i64 aB i.toNat (aY out)]
  refine Swp.pre (Wk.frz 5000 1 3 (List.map (rI .i64) l1) (by simp -dsimp [hf])) ?_
  refine srs hn ?_
  obtain ⟨l2, h16, hm⟩ := bnd hm
  obtain ⟨h16a, h16e⟩ := bj h16
  replace h16e := h16e.symm
  subst h16e
  try simp only [List.length_cons, List.length_nil, Nat.zero_add] at h16a
  simp -dsimp [hf, h16a]
  refine aV ?_
  cases hm
  refine ⟨.inr rfl, ?_⟩
  refine emr 75 1000001 hk ?_
  exact EE.here (by simp -dsimp)
theorem g_R13_walk_o_N (l : List Node) (ak : List Int) (i : Int) (done : List Int) (r : (List Int) × (List Node)) (hm : m_R13_walk_o_N l ak i done = some r) : GFn Tryz.prog 120 [.u (.one (dR1 l)), .u (.one (dL ak)), vI i, vO 1000000, .u (.one (.d .nil))] [.row 1 3 (List.map (rI .i64) done)] (vO 1000001) [some (.row 1 3 (List.map (rI .i64) r.1)), some (.row 2 60 (List.map Node.row r.2))] := recN_ind H_R13_walk_o_N (by intro _; intro _; intro _; intro _; intro _; intro hm; cases hm) fb_R13_walk_o_N recF l ak i done r hm
end
end Go.Proofs.YtjfjmdmdkbpdfaaGreatDoor
