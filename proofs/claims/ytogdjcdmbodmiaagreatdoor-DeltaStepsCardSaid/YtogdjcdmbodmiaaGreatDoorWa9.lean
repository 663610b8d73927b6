/- That the code does what the functions say (made by cc.py). -/
import Derived.Test.YtogdjcdmbodmiaaGreatDoorWa8
namespace Go.Proofs.YtogdjcdmbodmiaaGreatDoor
open Go.AM Go.Proofs
attribute [-simp] qlookup cJ cG Ob.wipe Ob.ren Ob.frz1 bX dz dJ fw Prod.forall Key.u
def F_pattern_From_1 (cx : Cx) (_l : List Cell) (tt : ((List Cell) × Int) ⊕ (List Cell)) (ee : Exit) (ρ : Env) (σ : Sto) : Prop := match tt with
 | .inl r => ee = .ret ∧ EE cx (fun ρ σ => ∃ v, eH tb ρ σ Tryz.f39.results.toList = some v ∧ (v.frz σ).free = true ∧ (v.frz σ).wk (.tup [.one (.d (.sl 3 (List.map Cell.row r.1))), .one (.d (.int .i64 r.2))])) ρ σ
 | .inr out => ee = .exit 0 ∧ EE cx (b4 [(4, .u (.one (.own 5000)))] [(5000, .row 3 71 (List.map Cell.row out))]) ρ σ
theorem l_pattern_From_1 (cx : Cx) (hn : cx.n = 61) (l : List Cell) {fu : Nat} {stt : Int × (List Cell)} {tt : ((List Cell) × Int) ⊕ (List Cell)} (hh : am (cp l) fu stt = some tt) {ρ : Env} {σ : Sto}
  (hE : bT (fun stt : Int × (List Cell) => match stt with | (a, _out) => [(4, .u (.one (.own 5000))), (8, .u (.one (.d (.sl 3 (List.map Cell.row l))))), (9, .u (.one (.d (.int .i64 (ak l))))), (10, .u (.one (.d (.int .i64 a))))]) (fun stt : Int × (List Cell) => match stt with | (_a, out) => [(5000, .row 3 71 (List.map Cell.row out))]) stt ρ σ) : Swp Tryz.prog cx (.loop (d4 [1, 1, 0, 1, 0, 0] (aZ Tryz.f39))) ρ σ (F_pattern_From_1 cx l tt) := by
 refine cd hE hh (F_pattern_From_1 cx l) ?_
 rintro ⟨a, out⟩ r hm ρ σ hf
 simp only [Fits, ap, ar, and_true] at hf
 unfold cp at hm
 dsimp only at hm
 refine srs hn ?_
 simp -dsimp [hf]
 refine ae ?_
 rcases ai hm with ⟨c1, hm⟩ | ⟨c1, hm⟩
 ·refine a8 (by simp -dsimp) c1 ?_
  refine ab (a6 (ae (ah ?_)))
  refine srs hn ?_
  obtain ⟨x, h2, hm⟩ := bnd hm
  simp -dsimp [hf, c1, h2]
  refine ah ?_
  refine srs hn ?_
  obtain ⟨y, h3, hm⟩ := bnd hm
  simp -dsimp
  refine aa (c_pattern_at x y h3) (dkL hn) ?_
  obtain ⟨y1, h4, hm⟩ := bnd hm
  simp -dsimp
  refine aa (c_pattern_placed y y1 h4) (dkL hn) ?_
  simp -dsimp
  rcases ai hm with ⟨c5, hm⟩ | ⟨c5, hm⟩
  ·refine a8 (by simp -dsimp) c5 ?_
   refine srs hn ?_
   simp -dsimp [c5]
   refine ac (aK (aK (ag ?_)))
   cases hm
   refine aB nofun ?_
   unfold F_pattern_From_1
   dsimp only
   refine ⟨rfl, ?_⟩
   exact EE.here (by simp -dsimp [Tryz.results39])
  ·refine a7 (by simp -dsimp) c5 ?_
   obtain ⟨a1, j10, hm⟩ := bnd hm
   refine au [(4, .u (.one (.own 5000))), (6, .u (.one (.box 6 0))), (8, .u (.one (.d (.sl 3 (List.map Cell.row l))))), (9, .u (.one (.d (.int .i64 (ak l))))), (10, .u (.one (.d (.int .i64 a)))), (19, .u (.one (.d (.bool a1))))] [(6, .box [.d (.int .i64 x.X), .d (.int .i64 x.Y), .d (.int .i64 x.S)]), (5000, .row 3 71 (List.map Cell.row out))] (by rfl) (by rfl) ?_ fun ρ σ hf => ?_
   ·replace hm := j10
    clear j10
    refine sr1 hn ?_
    rcases ai hm with ⟨c6, hm⟩ | ⟨c6, hm⟩
    ·simp -dsimp [c5, c6]
     refine a6 ?_
     cases hm
     exact EE.here (by simp -dsimp [hf])
    ·simp -dsimp [c5, c6]
     refine a6 ?_
     cases hm
     exact EE.here (by simp -dsimp [hf])
   ·clear j10
    simp only [Fits, ap, ar, and_true] at hf
    rcases ai hm with ⟨c7, hm⟩ | ⟨c7, hm⟩
    ·refine a8 (by simp -dsimp [hf]) c7 ?_
     refine srs hn ?_
     simp -dsimp
     refine ac (aK (aK (ag ?_)))
     cases hm
     refine aB nofun ?_
     unfold F_pattern_From_1
     dsimp only
     refine ⟨rfl, ?_⟩
     exact EE.here (by simp -dsimp [Tryz.results39])
    ·refine a7 (by simp -dsimp [hf]) c7 ?_
     refine srs hn ?_
     simp -dsimp [hf]
     rcases ai hm with ⟨c8, hm⟩ | ⟨c8, hm⟩
     ·refine a8 (by simp -dsimp) c8 ?_
      refine sr1 hn ?_
      obtain ⟨l1, h9, hm⟩ := bnd hm
      obtain ⟨h9a, h9e⟩ := aQ h9
      replace h9e := h9e.symm
      subst h9e
      try simp only [List.length_cons, List.length_nil, Nat.zero_add] at h9a
      simp -dsimp [hf, c8, h9a]
      refine aV ?_
      refine aV ?_
      refine a6 ?_
      refine sr1 hn ?_
      simp -dsimp [hf]
      cases hm
      refine aI ?_
      refine EE.step (Wk.move 35 5000 (by decide) (.inl (by decide))) ?_
      exact EE.here (by simp -dsimp [hf])
     ·refine a7 (by simp -dsimp) c8 ?_
      refine ab ?_
      refine aV ?_
      refine aV ?_
      refine a6 ?_
      refine sr1 hn ?_
      simp -dsimp [hf, c8]
      cases hm
      refine aI ?_
      exact EE.here (by simp -dsimp [hf])
 ·refine a7 (by simp -dsimp) c1 ?_
  refine aC ?_
  refine ag ?_
  cases hm
  refine aB nofun ?_
  unfold F_pattern_From_1
  dsimp only
  refine ⟨rfl, ?_⟩
  exact EE.here (by simp -dsimp [hf, c1])
def F_pattern_From_2 (cx : Cx) (_out : List Cell) (y : List Cell) (tt : ((List Cell) × Int) ⊕ Unit) (ee : Exit) (ρ : Env) (σ : Sto) : Prop := match tt with
 | .inl r => ee = .ret ∧ EE cx (fun ρ σ => ∃ v, eH tb ρ σ Tryz.f39.results.toList = some v ∧ (v.frz σ).free = true ∧ (v.frz σ).wk (.tup [.one (.d (.sl 3 (List.map Cell.row r.1))), .one (.d (.int .i64 r.2))])) ρ σ
 | .inr _u => ee = .exit 3 ∧ EE cx (b4 [(4, .u (.one (.own 5000)))] [(5000, .row 3 71 (List.map Cell.row y))]) ρ σ
theorem l_pattern_From_2 (cx : Cx) (hn : cx.n = 61) (out : List Cell) (y : List Cell) {fu : Nat} {stt : Int} {tt : ((List Cell) × Int) ⊕ Unit} (hh : am (co out y) fu stt = some tt) {ρ : Env} {σ : Sto}
  (hE : bT (fun i : Int => [(4, .u (.one (.own 5000))), (7, .u (.one (.d (.int .i64 i))))]) (fun _i : Int => [(5000, .row 3 71 (List.map Cell.row y))]) stt ρ σ) : Swp Tryz.prog cx (.loop (d4 [1, 1, 1, 1, 0, 1, 0, 0] (aZ Tryz.f39))) ρ σ (F_pattern_From_2 cx out y tt) := by
 refine cd hE hh (F_pattern_From_2 cx out y) ?_
 rintro i r hm ρ σ hf
 simp only [Fits, ap, ar, and_true] at hf
 unfold co at hm
 dsimp only at hm
 refine ae ?_
 refine srs hn ?_
 simp -dsimp [hf]
 rcases ai hm with ⟨c14, hm⟩ | ⟨c14, hm⟩
 ·refine a8 (by simp -dsimp) c14 ?_
  refine ab (a6 (ae (ah ?_)))
  refine ek aW mixed (by rw [hn]; kernel_rfl) ?_
  obtain ⟨x, h15, hm⟩ := bnd hm
  obtain ⟨y1, h16, hm⟩ := bnd hm
  simp -dsimp [hf, c14, h15, idx_get h15]
  refine aw (c_pattern_at x y1 h16) ?_
  obtain ⟨x1, h17, hm⟩ := bnd hm
  obtain ⟨y2, h18, hm⟩ := bnd hm
  simp -dsimp [hf, h17, idx_get h17]
  refine aw (c_pattern_at x1 y2 h18) ?_
  simp -dsimp
  rcases ai hm with ⟨c19, hm⟩ | ⟨c19, hm⟩
  ·refine a8 (by simp -dsimp) c19 ?_
   refine srs hn ?_
   simp -dsimp [c19]
   refine ac (aK (ag ?_))
   cases hm
   refine aB nofun ?_
   unfold F_pattern_From_2
   dsimp only
   refine ⟨rfl, ?_⟩
   exact EE.here (by simp -dsimp [Tryz.results39])
  ·refine a7 (by simp -dsimp) c19 ?_
   refine ab ?_
   refine aV ?_
   refine a6 ?_
   refine sr1 hn ?_
   simp -dsimp [hf, c19]
   cases hm
   refine aI ?_
   exact EE.here (by simp -dsimp [hf])
 ·refine a7 (by simp -dsimp) c14 ?_
  refine aC ?_
  refine ag ?_
  cases hm
  refine aB nofun ?_
  unfold F_pattern_From_2
  dsimp only
  refine ⟨rfl, ?_⟩
  exact EE.here (by simp -dsimp [hf, c14])
theorem f_pattern_From (l : List Cell) (r : (List Cell) × Int) (hm : ba l = some r) : PFn Tryz.prog 39 [.u (.one (.d (.sl 3 (List.map Cell.row l))))] (fun v => v.wk (.tup [.one (.d (.sl 3 (List.map Cell.row r.1))), .one (.d (.int .i64 r.2))])) := by
 refine bv Tryz.func39 Tryz.ntmps39 rfl (by kernel_rfl) (by simp) fun cx hn => ?_
 unfold ba at hm
 refine srs hn ?_
 simp -dsimp
 refine srs hn ?_
 simp -dsimp
 refine ae ?_
 refine srs hn ?_
 simp -dsimp
 refine ah ?_
 obtain ⟨o_, g11, hm⟩ := bnd hm
 refine bf (l_pattern_From_1 cx hn l g11) (by
   try dsimp only
   refine EE.step (Wk.own0 4 5000 3 71 (by simp -dsimp) (by decide)) ?_
   exact EE.here (by simp -dsimp)
 ) fun ee ρ σ x12 => ?_
 rcases o_ with r | out
 ·unfold F_pattern_From_1 at x12
  dsimp only at x12
  obtain ⟨rfl, x12⟩ := x12
  refine aK (ag ?_)
  cases hm
  exact ⟨.inr rfl, x12⟩
 ·unfold F_pattern_From_1 at x12
  dsimp only at x12
  obtain ⟨rfl, x12⟩ := x12
  refine aD ?_
  refine a6 ?_
  refine bN (by rfl) (by rfl) x12 fun ρ σ hf => ?_
  simp only [Fits, ap, ar, and_true] at hf
  refine srs hn ?_
  obtain ⟨y, h13, hm⟩ := bnd hm
  simp -dsimp [hf]
  refine bA (g_slices_SortFunc_api_Pattern_api_Cell_o_pattern_order out y h13) [5000] [] rfl rfl rfl (by simp -dsimp) rfl (by simp -dsimp [hf]) (by first | rfl | simp) rfl (dkL hn) ?_
  simp -dsimp
  refine ae ?_
  refine srs hn ?_
  simp -dsimp
  refine ah ?_
  obtain ⟨o_1, g20, hm⟩ := bnd hm
  refine bf (l_pattern_From_2 cx hn out y g20) (by
    try dsimp only
    exact EE.here (by simp -dsimp [hf])
  ) fun ee ρ σ x21 => ?_
  rcases o_1 with r | _u
  ·unfold F_pattern_From_2 at x21
   dsimp only at x21
   obtain ⟨rfl, x21⟩ := x21
   refine aK (ag ?_)
   cases hm
   exact ⟨.inr rfl, x21⟩
  ·unfold F_pattern_From_2 at x21
   dsimp only at x21
   obtain ⟨rfl, x21⟩ := x21
   refine aD ?_
   refine a6 ?_
   refine bN (by rfl) (by rfl) x21 fun ρ σ hf => ?_
   simp only [Fits, ap, ar, and_true] at hf
   refine ae ?_
   refine srs hn ?_
   simp -dsimp [hf]
   rcases ai hm with ⟨c22, hm⟩ | ⟨c22, hm⟩
   ·refine a8 (by simp -dsimp) c22 ?_
    refine srs hn ?_
    simp -dsimp [c22]
    refine ac (ag ?_)
    cases hm
    refine ⟨.inr rfl, ?_⟩
    exact EE.here (by simp -dsimp)
   ·refine a7 (by simp -dsimp) c22 ?_
    refine ab (a6 ?_)
    refine srs hn ?_
    simp -dsimp [hf, c22]
    refine ac ?_
    cases hm
    refine ⟨.inr rfl, ?_⟩
    exact EE.here (by simp -dsimp [hf])
theorem c_pattern_From (l : List Cell) (r : (List Cell) × Int) (hm : ba l = some r) : PureCall Tryz.prog 39 [.u (.one (.d (.sl 3 (List.map Cell.row l))))] (.tup [.one (.d (.sl 3 (List.map Cell.row r.1))), .one (.d (.int .i64 r.2))]) := (f_pattern_From l r hm).pureW
def F_direct_step_2 (cx : Cx) (t : Tree) (p : List Cell) (y : List (Point × Int)) (a : Int) (_x : Cell) (tt : ((List Cell) × Int) ⊕ ((List (Point × Bool)) × (List Cell))) (ee : Exit) (ρ : Env) (σ : Sto) : Prop := match tt with
 | .inl r => ee = .ret ∧ EE cx (fun ρ σ => ∃ v, eH tb ρ σ Tryz.f28.results.toList = some v ∧ (v.frz σ).free = true ∧ (v.frz σ).wk (.tup [.one (.d (.sl 3 (List.map Cell.row r.1))), .one (.d (.int .i64 r.2))])) ρ σ
 | .inr (done1, l1) => ee = .exit 2 ∧ EE cx (b4 [(2, .u (.one (.box 2 0))), (6, .u (.one (.map 5000))), (7, .u (.one (.map 17))), (8, .u (.one (.own 5001))), (18, .u (.one (.d (.sl 3 (List.map Cell.row p))))), (19, .u (.one (.d (.int .i64 (ak p))))), (20, .u (.one (.d (.int .i64 a))))] [(2, .box [.d (.int .i64 t.States), .d (.sl 2 (List.map Point.row t.Hood)), .d (.sl 2 (List.map Node.row t.Nodes))]), (17, mOb (.ints 2) Point.key (uL L.bool) done1), (5000, mOb (.ints 2) Point.key (uL (L.int .i64)) y), (5001, .row 3 71 (List.map Cell.row l1))]) ρ σ
theorem l_direct_step_2 (cx : Cx) (hn : cx.n = 71) (t : Tree) (p : List Cell) (y : List (Point × Int)) (a : Int) (x : Cell) {fu : Nat} {stt : Int × (List (Point × Bool)) × (List Cell)} {tt : ((List Cell) × Int) ⊕ ((List (Point × Bool)) × (List Cell))} (hh : am (b9 t p y a x) fu stt = some tt) {ρ : Env} {σ : Sto}
  (hE : bT (fun stt : Int × (List (Point × Bool)) × (List Cell) => match stt with | (a1, _done1, _l1) => [(2, .u (.one (.box 2 0))), (6, .u (.one (.map 5000))), (7, .u (.one (.map 17))), (8, .u (.one (.own 5001))), (10, .u (.one (.box 10 0))), (18, .u (.one (.d (.sl 3 (List.map Cell.row p))))), (19, .u (.one (.d (.int .i64 (ak p))))), (20, .u (.one (.d (.int .i64 a)))), (25, .u (.one (.d (.sl 2 (List.map Point.row t.Hood))))), (26, .u (.one (.d (.int .i64 (ak t.Hood))))), (27, .u (.one (.d (.int .i64 a1))))]) (fun stt : Int × (List (Point × Bool)) × (List Cell) => match stt with | (_a1, done1, l1) => [(2, .box [.d (.int .i64 t.States), .d (.sl 2 (List.map Point.row t.Hood)), .d (.sl 2 (List.map Node.row t.Nodes))]), (10, .box [.d (.int .i64 x.X), .d (.int .i64 x.Y), .d (.int .i64 x.S)]), (17, mOb (.ints 2) Point.key (uL L.bool) done1), (5000, mOb (.ints 2) Point.key (uL (L.int .i64)) y), (5001, .row 3 71 (List.map Cell.row l1))]) stt ρ σ) : Swp Tryz.prog cx (.loop (d4 [1, 1, 1, 1, 0, 1, 0, 0, 1, 1, 0, 0, 1, 1, 0, 0] (aZ Tryz.f28))) ρ σ (F_direct_step_2 cx t p y a x tt) := by
 refine cd hE hh (F_direct_step_2 cx t p y a x) ?_
 rintro ⟨a1, done1, l1⟩ r hm ρ σ hf
 simp only [Fits, ap, ar, and_true] at hf
 unfold b9 at hm
 dsimp only at hm
 refine srs hn ?_
 simp -dsimp [hf]
 refine ae ?_
 rcases ai hm with ⟨c4, hm⟩ | ⟨c4, hm⟩
 ·refine a8 (by simp -dsimp) c4 ?_
  refine ab (a6 (ae (ah ?_)))
  refine srs hn ?_
  obtain ⟨x1, h5, hm⟩ := bnd hm
  simp -dsimp [hf, c4, h5]
  refine srs hn ?_
  simp -dsimp [hf]
  refine ae ?_
  refine srs hn ?_
  obtain ⟨u, h6, hm⟩ := bnd hm
  simp -dsimp [hf, aJ h6 (.head _), aJ h6 (.tail _ (.head _)), (@id (lkM (eo (mOb (.ints 2) Point.key (uL L.bool) done1) (.ints [(aO .i64 x.X x1.X), (aO .i64 x.Y x1.Y)])) false (.one (.d (.bool false))) = some (.u (.one (.d (.bool (aL done1 (⟨(aO .i64 x.X x1.X), (aO .i64 x.Y x1.Y)⟩ : Point) false)))))) (lk_val (⟨(aO .i64 x.X x1.X), (aO .i64 x.Y x1.Y)⟩ : Point) false))]
  rcases ai hm with ⟨c7, hm⟩ | ⟨c7, hm⟩
  ·refine a8 (b := (aL done1 (⟨(aO .i64 x.X x1.X), (aO .i64 x.Y x1.Y)⟩ : Point) false)) (by simp -dsimp) c7 ?_
   refine aC ?_
   refine ag ?_
   refine aD ?_
   refine a6 ?_
   refine sr1 hn ?_
   simp -dsimp [hf, c7]
   cases hm
   refine aI ?_
   exact EE.here (by simp -dsimp [hf])
  ·refine a7 (b := (aL done1 (⟨(aO .i64 x.X x1.X), (aO .i64 x.Y x1.Y)⟩ : Point) false)) (by simp -dsimp) c7 ?_
   refine ab (a6 ?_)
   refine srs hn ?_
   simp -dsimp [hf, aJ h6 (.head _), aJ h6 (.tail _ (.head _)), c7, (@id (fB (mOb (.ints 2) Point.key (uL L.bool) done1) (.ints [(aO .i64 x.X x1.X), (aO .i64 x.Y x1.Y)]) (.one (.d (.bool true))) = mOb (.ints 2) Point.key (uL L.bool) (bD done1 (⟨(aO .i64 x.X x1.X), (aO .i64 x.Y x1.Y)⟩ : Point) true)) (ff (.ints 2) Point.key (uL L.bool) done1 (⟨(aO .i64 x.X x1.X), (aO .i64 x.Y x1.Y)⟩ : Point) true))]
   refine srs hn ?_
   obtain ⟨y1, h8, hm⟩ := bnd hm
   simp -dsimp [hf]
   refine bA (g_direct_cells_next_o y t (⟨(aO .i64 x.X x1.X), (aO .i64 x.Y x1.Y)⟩ : Point) y1 h8) [5000] [] rfl rfl rfl (by simp -dsimp) rfl (by simp -dsimp [hf]) (by first | rfl | simp) rfl (dkL hn) ?_
   simp -dsimp
   refine srs hn ?_
   simp -dsimp
   rcases ai hm with ⟨c9, hm⟩ | ⟨c9, hm⟩
   ·refine a8 (b := (gtB y1 0)) (by simp -dsimp) c9 ?_
    refine ae ?_
    refine srs hn ?_
    obtain ⟨y2, h10, hm⟩ := bnd hm
    simp -dsimp [c9]
    refine aa (c_direct_place (⟨(aO .i64 x.X x1.X), (aO .i64 x.Y x1.Y)⟩ : Point) y2 h10) (dkL hn) ?_
    simp -dsimp
    rcases ai hm with ⟨c11, hm⟩ | ⟨c11, hm⟩
    ·refine a8 (b := (br y2)) (by simp -dsimp) c11 ?_
     refine srs hn ?_
     simp -dsimp [c11]
     refine ac (ag (aK (ag ?_)))
     cases hm
     refine aB nofun ?_
     unfold F_direct_step_2
     dsimp only
     refine ⟨rfl, ?_⟩
     exact EE.here (by simp -dsimp [Tryz.results28])
    ·refine a7 (b := (br y2)) (by simp -dsimp) c11 ?_
     refine ab (a6 ?_)
     refine sr1 hn ?_
     obtain ⟨l2, h12, hm⟩ := bnd hm
     obtain ⟨h12a, h12e⟩ := aQ h12
     replace h12e := h12e.symm
     subst h12e
     try simp only [List.length_cons, List.length_nil, Nat.zero_add] at h12a
     simp -dsimp [hf, c11, h12a]
     refine aV ?_
     refine a6 ?_
     refine sr1 hn ?_
     simp -dsimp [hf]
     cases hm
     refine aI ?_
     refine EE.step (Wk.move 64 5001 (by decide) (.inl (by decide))) ?_
     exact EE.here (by simp -dsimp [hf])
   ·refine a7 (b := (gtB y1 0)) (by simp -dsimp) c9 ?_
    refine ab ?_
    refine aV ?_
    refine a6 ?_
    refine sr1 hn ?_
    simp -dsimp [hf, c9]
    cases hm
    refine aI ?_
    exact EE.here (by simp -dsimp [hf])
 ·refine a7 (by simp -dsimp) c4 ?_
  refine aC ?_
  refine ag ?_
  cases hm
  refine aB nofun ?_
  unfold F_direct_step_2
  dsimp only
  refine ⟨rfl, ?_⟩
  exact EE.here (by simp -dsimp [hf, c4])
def F_direct_step_1 (cx : Cx) (_t : Tree) (_p : List Cell) (_y : List (Point × Int)) (tt : ((List Cell) × Int) ⊕ (List Cell)) (ee : Exit) (ρ : Env) (σ : Sto) : Prop := match tt with
 | .inl r => ee = .ret ∧ EE cx (fun ρ σ => ∃ v, eH tb ρ σ Tryz.f28.results.toList = some v ∧ (v.frz σ).free = true ∧ (v.frz σ).wk (.tup [.one (.d (.sl 3 (List.map Cell.row r.1))), .one (.d (.int .i64 r.2))])) ρ σ
 | .inr l => ee = .exit 0 ∧ EE cx (b4 [(8, .u (.one (.own 5001)))] [(5001, .row 3 71 (List.map Cell.row l))]) ρ σ
theorem l_direct_step_1 (cx : Cx) (hn : cx.n = 71) (t : Tree) (p : List Cell) (y : List (Point × Int)) {fu : Nat} {stt : Int × (List (Point × Bool)) × (List Cell)} {tt : ((List Cell) × Int) ⊕ (List Cell)} (hh : am (bM t p y) fu stt = some tt) {ρ : Env} {σ : Sto}
  (hE : bT (fun stt : Int × (List (Point × Bool)) × (List Cell) => match stt with | (a, _done, _l) => [(2, .u (.one (.box 2 0))), (6, .u (.one (.map 5000))), (7, .u (.one (.map 17))), (8, .u (.one (.own 5001))), (18, .u (.one (.d (.sl 3 (List.map Cell.row p))))), (19, .u (.one (.d (.int .i64 (ak p))))), (20, .u (.one (.d (.int .i64 a))))]) (fun stt : Int × (List (Point × Bool)) × (List Cell) => match stt with | (_a, done, l) => [(2, .box [.d (.int .i64 t.States), .d (.sl 2 (List.map Point.row t.Hood)), .d (.sl 2 (List.map Node.row t.Nodes))]), (17, mOb (.ints 2) Point.key (uL L.bool) done), (5000, mOb (.ints 2) Point.key (uL (L.int .i64)) y), (5001, .row 3 71 (List.map Cell.row l))]) stt ρ σ) : Swp Tryz.prog cx (.loop (d4 [1, 1, 1, 1, 0, 1, 0, 0] (aZ Tryz.f28))) ρ σ (F_direct_step_1 cx t p y tt) := by
 refine cd hE hh (F_direct_step_1 cx t p y) ?_
 rintro ⟨a, done, l⟩ r hm ρ σ hf
 simp only [Fits, ap, ar, and_true] at hf
 unfold bM at hm
 dsimp only at hm
 refine srs hn ?_
 simp -dsimp [hf]
 refine ae ?_
 rcases ai hm with ⟨c2, hm⟩ | ⟨c2, hm⟩
 ·refine a8 (by simp -dsimp) c2 ?_
  refine ab (a6 (ae (ah ?_)))
  refine srs hn ?_
  obtain ⟨x, h3, hm⟩ := bnd hm
  simp -dsimp [hf, c2, h3]
  refine srs hn ?_
  simp -dsimp [hf]
  refine ah ?_
  obtain ⟨o_, g13, hm⟩ := bnd hm
  refine bf (l_direct_step_2 cx hn t p y a x g13) (by
    try dsimp only
    exact EE.here (by simp -dsimp [hf])
  ) fun ee ρ σ x14 => ?_
  rcases o_ with r | ⟨done1, l1⟩
  ·unfold F_direct_step_2 at x14
   dsimp only at x14
   obtain ⟨rfl, x14⟩ := x14
   refine aK (aK (ag ?_))
   cases hm
   refine aB nofun ?_
   unfold F_direct_step_1
   dsimp only
   refine ⟨rfl, ?_⟩
   exact x14
  ·unfold F_direct_step_2 at x14
   dsimp only at x14
   obtain ⟨rfl, x14⟩ := x14
   refine aD ?_
   refine aV ?_
   refine a6 ?_
   refine bN (by rfl) (by rfl) x14 fun ρ σ hf => ?_
   simp only [Fits, ap, ar, and_true] at hf
   refine sr1 hn ?_
   simp -dsimp [hf]
   cases hm
   refine aI ?_
   exact EE.here (by simp -dsimp [hf])
 ·refine a7 (by simp -dsimp) c2 ?_
  refine aC ?_
  refine ag ?_
  cases hm
  refine aB nofun ?_
  unfold F_direct_step_1
  dsimp only
  refine ⟨rfl, ?_⟩
  exact EE.here (by simp -dsimp [hf, c2])
theorem f_direct_step (t : Tree) (p : List Cell) (r : (List Cell) × Int) (hm : dV t p = some r) : PFn Tryz.prog 28 [.u (.agg [.d (.int .i64 t.States), .d (.sl 2 (List.map Point.row t.Hood)), .d (.sl 2 (List.map Node.row t.Nodes))]), .u (.one (.d (.sl 3 (List.map Cell.row p))))] (fun v => v.wk (.tup [.one (.d (.sl 3 (List.map Cell.row r.1))), .one (.d (.int .i64 r.2))])) := by
 refine bv Tryz.func28 Tryz.ntmps28 rfl (by kernel_rfl) (by simp) fun cx hn => ?_
 unfold dV at hm
 refine srs hn ?_
 simp -dsimp
 refine srs hn ?_
 obtain ⟨y, h1, hm⟩ := bnd hm
 simp -dsimp
 refine bA (g_direct_of p y h1) [] [5000] rfl rfl rfl (by simp -dsimp) rfl (by simp -dsimp) (by first | rfl | simp) rfl (dkL hn) ?_
 simp -dsimp
 refine srs hn ?_
 simp -dsimp [(@id (Ob.map (.ints 2) [] = mOb (.ints 2) Point.key (uL L.bool) ([] : List (Point × Bool))) (gJ (.ints 2) Point.key (uL L.bool)))]
 refine srs hn ?_
 simp -dsimp
 refine ae ?_
 refine srs hn ?_
 simp -dsimp
 refine ah ?_
 obtain ⟨o_, g15, hm⟩ := bnd hm
 refine bf (l_direct_step_1 cx hn t p y g15) (by
   try dsimp only
   refine EE.step (Wk.own0 8 5001 3 71 (by simp -dsimp) (by decide)) ?_
   exact EE.here (by simp -dsimp)
 ) fun ee ρ σ x16 => ?_
 rcases o_ with r | l
 ·unfold F_direct_step_1 at x16
  dsimp only at x16
  obtain ⟨rfl, x16⟩ := x16
  refine aK (ag ?_)
  cases hm
  exact ⟨.inr rfl, x16⟩
 ·unfold F_direct_step_1 at x16
  dsimp only at x16
  obtain ⟨rfl, x16⟩ := x16
  refine aD ?_
  refine a6 ?_
  refine bN (by rfl) (by rfl) x16 fun ρ σ hf => ?_
  simp only [Fits, ap, ar, and_true] at hf
  refine Swp.pre (Wk.frz 5001 3 71 (List.map Cell.row l) (by simp -dsimp [hf])) ?_
  refine srs hn ?_
  obtain ⟨y1, h17, hm⟩ := bnd hm
  simp -dsimp [hf]
  refine aa (c_pattern_From l y1 h17) (dkL hn) ?_
  simp -dsimp
  refine ac ?_
  cases hm
  refine ⟨.inr rfl, ?_⟩
  exact EE.here (by simp -dsimp)
theorem c_direct_step (t : Tree) (p : List Cell) (r : (List Cell) × Int) (hm : dV t p = some r) : PureCall Tryz.prog 28 [.u (.agg [.d (.int .i64 t.States), .d (.sl 2 (List.map Point.row t.Hood)), .d (.sl 2 (List.map Node.row t.Nodes))]), .u (.one (.d (.sl 3 (List.map Cell.row p))))] (.tup [.one (.d (.sl 3 (List.map Cell.row r.1))), .one (.d (.int .i64 r.2))]) := (f_direct_step t p r hm).pureW
theorem f_direct_Step (t : Tree) (p : List Cell) (r : (List Cell) × Int) (hm : bS t p = some r) : PFn Tryz.prog 6 [.u (.agg [.d (.int .i64 t.States), .d (.sl 2 (List.map Point.row t.Hood)), .d (.sl 2 (List.map Node.row t.Nodes))]), .u (.one (.d (.sl 3 (List.map Cell.row p))))] (fun v => v.wk (.tup [.one (.d (.sl 3 (List.map Cell.row r.1))), .one (.d (.int .i64 r.2))])) := by
 refine bv Tryz.func6 Tryz.ntmps6 rfl (by kernel_rfl) (by simp) fun cx hn => ?_
 unfold bS at hm
 refine srs hn ?_
 simp -dsimp
 refine ae ?_
 refine srs hn ?_
 obtain ⟨y, h1, hm⟩ := bnd hm
 simp -dsimp
 refine aa (c_direct_check t p y h1) (dkL hn) ?_
 simp -dsimp
 refine srs hn ?_
 simp -dsimp
 rcases ai hm with ⟨c2, hm⟩ | ⟨c2, hm⟩
 ·refine a8 (by simp -dsimp) c2 ?_
  refine srs hn ?_
  simp -dsimp [c2]
  refine ac (ag ?_)
  cases hm
  refine ⟨.inr rfl, ?_⟩
  exact EE.here (by simp -dsimp)
 ·refine a7 (by simp -dsimp) c2 ?_
  refine ab (a6 ?_)
  refine srs hn ?_
  obtain ⟨y1, h3, hm⟩ := bnd hm
  simp -dsimp [c2]
  refine aa (c_direct_step t p y1 h3) (dkL hn) ?_
  simp -dsimp
  refine ac ?_
  cases hm
  refine ⟨.inr rfl, ?_⟩
  exact EE.here (by simp -dsimp)
theorem c_direct_Step (t : Tree) (p : List Cell) (r : (List Cell) × Int) (hm : bS t p = some r) : PureCall Tryz.prog 6 [.u (.agg [.d (.int .i64 t.States), .d (.sl 2 (List.map Point.row t.Hood)), .d (.sl 2 (List.map Node.row t.Nodes))]), .u (.one (.d (.sl 3 (List.map Cell.row p))))] (.tup [.one (.d (.sl 3 (List.map Cell.row r.1))), .one (.d (.int .i64 r.2))]) := (f_direct_Step t p r hm).pureW
def F_delta_cells_1 (cx : Cx) (_p : List Cell) (tt : (List (Point × Int))) (ee : Exit) (ρ : Env) (σ : Sto) : Prop := match tt with
 | m => ee = .exit 0 ∧ EE cx (b4 [(3, .u (.one (.map 8)))] [(8, mOb (.ints 2) Point.key (uL (L.int .i64)) m)]) ρ σ
theorem l_delta_cells_1 (cx : Cx) (hn : cx.n = 25) (_hk : cx.k = 0) (p : List Cell) {fu : Nat} {stt : Int × (List (Point × Int))} {tt : (List (Point × Int))} (hh : am (d8 p) fu stt = some tt) {ρ : Env} {σ : Sto}
  (hE : bT (fun stt : Int × (List (Point × Int)) => match stt with | (a, _m) => [(3, .u (.one (.map 8))), (9, .u (.one (.d (.sl 3 (List.map Cell.row p))))), (10, .u (.one (.d (.int .i64 (ak p))))), (11, .u (.one (.d (.int .i64 a))))]) (fun stt : Int × (List (Point × Int)) => match stt with | (_a, m) => [(8, mOb (.ints 2) Point.key (uL (L.int .i64)) m)]) stt ρ σ) : Swp Tryz.prog cx (.loop (d4 [1, 1, 0, 1, 0, 0] (aZ Tryz.f35))) ρ σ (F_delta_cells_1 cx p tt) := by
 refine cd hE hh (F_delta_cells_1 cx p) ?_
 rintro ⟨a, m⟩ r hm ρ σ hf
 simp only [Fits, ap, ar, and_true] at hf
 unfold d8 at hm
 dsimp only at hm
 refine srs hn ?_
 simp -dsimp [hf]
 refine ae ?_
 rcases ai hm with ⟨c1, hm⟩ | ⟨c1, hm⟩
 ·refine a8 (by simp -dsimp) c1 ?_
  refine ab (a6 (ae (ah ?_)))
  refine srs hn ?_
  obtain ⟨x, h2, hm⟩ := bnd hm
  simp -dsimp [hf, c1, h2]
  refine sr1 hn ?_
  obtain ⟨u, h3, hm⟩ := bnd hm
  simp -dsimp [hf, aJ h3 (.head _), aJ h3 (.tail _ (.head _)), (@id (fB (mOb (.ints 2) Point.key (uL (L.int .i64)) m) (.ints [x.X, x.Y]) (.one (.d (.int .i64 x.S))) = mOb (.ints 2) Point.key (uL (L.int .i64)) (bD m (⟨x.X, x.Y⟩ : Point) x.S)) (ff (.ints 2) Point.key (uL (L.int .i64)) m (⟨x.X, x.Y⟩ : Point) x.S))]
  refine aV ?_
  refine a6 ?_
  refine sr1 hn ?_
  simp -dsimp [hf]
  cases hm
  refine aI ?_
  exact EE.here (by simp -dsimp [hf])
 ·refine a7 (by simp -dsimp) c1 ?_
  refine aC ?_
  refine ag ?_
  cases hm
  refine aB nofun ?_
  unfold F_delta_cells_1
  dsimp only
  refine ⟨rfl, ?_⟩
  exact EE.here (by simp -dsimp [hf, c1])
theorem g_delta_cells (p : List Cell) (r : List (Point × Int)) (hm : dY p = some r) : GFn Tryz.prog 35 [.u (.one (.d (.sl 3 (List.map Cell.row p))))] [] (.u (.one (.map 1000000))) [some (mOb (.ints 2) Point.key (uL (L.int .i64)) r)] := by
 refine cg aW _ Tryz.func35 rfl (by kernel_rfl) (by simp [Tryz.ntmps35]) (by simp) (by first | rfl | simp) (by first | rfl | simp) fun cx hn hk => ?_
 replace hn : cx.n = 25 := hn.trans Tryz.ntmps35
 replace hk : cx.k = 0 := hk
 unfold dY at hm
 refine srs hn ?_
 simp -dsimp
 refine srs hn ?_
 simp -dsimp [(@id (Ob.map (.ints 2) [] = mOb (.ints 2) Point.key (uL (L.int .i64)) ([] : List (Point × Int))) (gJ (.ints 2) Point.key (uL (L.int .i64))))]
 refine ae ?_
 refine srs hn ?_
 simp -dsimp
 refine ah ?_
 obtain ⟨m, g4, hm⟩ := bnd hm
 refine bf (l_delta_cells_1 cx hn hk p g4) (by
   try dsimp only
   exact EE.here (by simp -dsimp)
 ) fun ee ρ σ x5 => ?_
 unfold F_delta_cells_1 at x5
 dsimp only at x5
 obtain ⟨rfl, x5⟩ := x5
 refine aD ?_
 refine a6 ?_
 refine bN (by rfl) (by rfl) x5 fun ρ σ hf => ?_
 simp only [Fits, ap, ar, and_true] at hf
 refine srs hn ?_
 simp -dsimp [hf]
 refine ac ?_
 cases hm
 refine ⟨.inr rfl, ?_⟩
 refine EE.step (Wk.move 8 1000000 (by decide) (.inr (by rw [hk]; decide))) ?_
 exact EE.here (by simp -dsimp [hf])
theorem f_delta_at (cv : Change) (r : Point) (hm : cU cv = some r) : PFn Tryz.prog 38 [.u (.agg [.d (.int .i64 cv.X), .d (.int .i64 cv.Y), .d (.int .i64 cv.From), .d (.int .i64 cv.To)])] (fun v => v.wk (.u (.agg [.d (.int .i64 r.X), .d (.int .i64 r.Y)]))) := by
 refine bv Tryz.func38 Tryz.ntmps38 rfl (by kernel_rfl) (by simp) fun cx hn => ?_
 unfold cU at hm
 refine srs hn ?_
 simp -dsimp
 refine srs hn ?_
 simp -dsimp
 refine ac ?_
 cases hm
 refine ⟨.inr rfl, ?_⟩
 exact EE.here (by simp -dsimp)
theorem c_delta_at (cv : Change) (r : Point) (hm : cU cv = some r) : PureCall Tryz.prog 38 [.u (.agg [.d (.int .i64 cv.X), .d (.int .i64 cv.Y), .d (.int .i64 cv.From), .d (.int .i64 cv.To)])] (.u (.agg [.d (.int .i64 r.X), .d (.int .i64 r.Y)])) := (f_delta_at cv r hm).pureW
theorem f_delta_order (a : Change) (b : Change) (r : Int) (hm : di a b = some r) : PFn Tryz.prog 37 [.u (.agg [.d (.int .i64 a.X), .d (.int .i64 a.Y), .d (.int .i64 a.From), .d (.int .i64 a.To)]), .u (.agg [.d (.int .i64 b.X), .d (.int .i64 b.Y), .d (.int .i64 b.From), .d (.int .i64 b.To)])] (fun v => v.wk (.u (.one (.d (.int .i64 r))))) := by
 refine bv Tryz.func37 Tryz.ntmps37 rfl (by kernel_rfl) (by simp) fun cx hn => ?_
 unfold di at hm
 refine srs hn ?_
 simp -dsimp
 refine ek aW mixed (by rw [hn]; kernel_rfl) ?_
 obtain ⟨y, h1, hm⟩ := bnd hm
 simp -dsimp
 refine aw (c_delta_at a y h1) ?_
 obtain ⟨y1, h2, hm⟩ := bnd hm
 simp -dsimp
 refine aw (c_delta_at b y1 h2) ?_
 obtain ⟨y2, h3, hm⟩ := bnd hm
 simp -dsimp
 refine aw (fW y y1 y2 h3) ?_
 simp -dsimp
 refine ac ?_
 cases hm
 refine ⟨.inr rfl, ?_⟩
 exact EE.here (by simp -dsimp)
theorem c_delta_order (a : Change) (b : Change) (r : Int) (hm : di a b = some r) : PureCall Tryz.prog 37 [.u (.agg [.d (.int .i64 a.X), .d (.int .i64 a.Y), .d (.int .i64 a.From), .d (.int .i64 a.To)]), .u (.agg [.d (.int .i64 b.X), .d (.int .i64 b.Y), .d (.int .i64 b.From), .d (.int .i64 b.To)])] (.u (.one (.d (.int .i64 r)))) := (f_delta_order a b r hm).pureW
end Go.Proofs.YtogdjcdmbodmiaaGreatDoor
