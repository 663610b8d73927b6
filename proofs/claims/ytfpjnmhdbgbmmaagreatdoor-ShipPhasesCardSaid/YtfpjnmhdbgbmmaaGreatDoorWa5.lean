/- That the code does what the functions say (made by cc.py). -/
import Derived.Test.YtfpjnmhdbgbmmaaGreatDoorWa4
namespace Go.Proofs.YtfpjnmhdbgbmmaaGreatDoor
open Go.AM Go.Proofs
attribute [-simp] qlookup du fQ Ob.wipe Ob.ren Ob.frz1
def ct (cx : Cx) (_l : List Cell) (tt : ((List Cell) × Int) ⊕ (List Cell)) (ee : Exit) (ρ : Env) (σ : Sto) : Prop := match tt with
 | .inl r => ee = .ret ∧ EE cx (fun ρ σ => ∃ v, resV tb ρ σ Tryz.f114.results.toList = some v ∧ (v.frz σ).free = true ∧ (v.frz σ).wk (.tup [.one (.d (.sl 3 (List.map Cell.row r.1))), .one (.d (.int .i64 r.2))])) ρ σ
 | .inr out => ee = .exit 0 ∧ EE cx (aS [(4, .u (.one (.own 5000)))] [(5000, .row 3 57 (List.map Cell.row out))]) ρ σ
theorem l_pattern_From_1 (cx : Cx) (hn : cx.n = 61) (l : List Cell) {fu : Nat} {stt : Int × (List Cell)} {tt : ((List Cell) × Int) ⊕ (List Cell)} (hh : ak (co l) fu stt = some tt) {ρ : Env} {σ : Sto}
  (hE : aW (fun stt : Int × (List Cell) => match stt with | (a, _out) => [(4, .u (.one (.own 5000))), (8, .u (.one (.d (.sl 3 (List.map Cell.row l))))), (9, .u (.one (.d (.int .i64 (ah l))))), (10, .u (.one (.d (.int .i64 a))))]) (fun stt : Int × (List Cell) => match stt with | (_a, out) => [(5000, .row 3 57 (List.map Cell.row out))]) stt ρ σ) : Swp Tryz.prog cx (.loop (bg [1, 1, 0, 1, 0, 0] (aK Tryz.f114))) ρ σ (ct cx l tt) := by
 refine aY hE hh (ct cx l) ?_
 rintro ⟨a, out⟩ r hm ρ σ hf
 simp only [Fits, ar, ap, and_true] at hf
 unfold co at hm
 dsimp only at hm
 refine srs hn ?_
 simp -dsimp [hf]
 refine ac ?_
 rcases aj hm with ⟨c1, hm⟩ | ⟨c1, hm⟩
 ·refine a8 (b := (ltB a (ah l))) (by simp -dsimp) c1 ?_
  refine aa (a6 (ac (ai ?_)))
  refine srs hn ?_
  obtain ⟨x, h2, hm⟩ := bnd hm
  simp -dsimp [hf, c1, h2]
  refine ai ?_
  refine srs hn ?_
  obtain ⟨y, h3, hm⟩ := bnd hm
  simp -dsimp
  refine ag (eE x y h3) (dkL hn) ?_
  obtain ⟨y1, h4, hm⟩ := bnd hm
  simp -dsimp
  refine ag (iB y y1 h4) (dkL hn) ?_
  simp -dsimp
  rcases aj hm with ⟨c5, hm⟩ | ⟨c5, hm⟩
  ·refine a8 (b := (aD y1)) (by simp -dsimp) c5 ?_
   refine srs hn ?_
   simp -dsimp [c5]
   refine ab (aH (aH (ae ?_)))
   cases hm
   refine am nofun ?_
   unfold ct
   dsimp only
   refine ⟨rfl, ?_⟩
   exact EE.here (by simp -dsimp [Tryz.results114])
  ·refine a7 (b := (aD y1)) (by simp -dsimp) c5 ?_
   obtain ⟨a1, j10, hm⟩ := bnd hm
   refine au [(4, .u (.one (.own 5000))), (6, .u (.one (.box 6 0))), (8, .u (.one (.d (.sl 3 (List.map Cell.row l))))), (9, .u (.one (.d (.int .i64 (ah l))))), (10, .u (.one (.d (.int .i64 a)))), (19, .u (.one (.d (.bool a1))))] [(6, .box [.d (.int .i64 x.X), .d (.int .i64 x.Y), .d (.int .i64 x.S)]), (5000, .row 3 57 (List.map Cell.row out))] (by rfl) (by rfl) ?_ fun ρ σ hf => ?_
   ·replace hm := j10
    clear j10
    refine sr1 hn ?_
    rcases aj hm with ⟨c6, hm⟩ | ⟨c6, hm⟩
    ·simp -dsimp [c5, c6]
     refine a6 ?_
     cases hm
     exact EE.here (by simp -dsimp [hf])
    ·simp -dsimp [c5, c6]
     refine a6 ?_
     cases hm
     exact EE.here (by simp -dsimp [hf])
   ·clear j10
    simp only [Fits, ar, ap, and_true] at hf
    rcases aj hm with ⟨c7, hm⟩ | ⟨c7, hm⟩
    ·refine a8 (by simp -dsimp [hf]) c7 ?_
     refine srs hn ?_
     simp -dsimp
     refine ab (aH (aH (ae ?_)))
     cases hm
     refine am nofun ?_
     unfold ct
     dsimp only
     refine ⟨rfl, ?_⟩
     exact EE.here (by simp -dsimp [Tryz.results114])
    ·refine a7 (by simp -dsimp [hf]) c7 ?_
     refine srs hn ?_
     simp -dsimp [hf]
     rcases aj hm with ⟨c8, hm⟩ | ⟨c8, hm⟩
     ·refine a8 (b := (gtB x.S 0)) (by simp -dsimp) c8 ?_
      refine sr1 hn ?_
      obtain ⟨l1, h9, hm⟩ := bnd hm
      obtain ⟨h9a, h9e⟩ := aN h9
      replace h9e := h9e.symm
      subst h9e
      try simp only [List.length_cons, List.length_nil, Nat.zero_add] at h9a
      simp -dsimp [hf, c8, h9a]
      refine aM ?_
      refine aM ?_
      refine a6 ?_
      refine sr1 hn ?_
      simp -dsimp [hf]
      cases hm
      refine az ?_
      refine EE.step (Wk.move 35 5000 (by decide) (.inl (by decide))) ?_
      exact EE.here (by simp -dsimp [hf])
     ·refine a7 (b := (gtB x.S 0)) (by simp -dsimp) c8 ?_
      refine aa ?_
      refine aM ?_
      refine aM ?_
      refine a6 ?_
      refine sr1 hn ?_
      simp -dsimp [hf, c8]
      cases hm
      refine az ?_
      exact EE.here (by simp -dsimp [hf])
 ·refine a7 (b := (ltB a (ah l))) (by simp -dsimp) c1 ?_
  refine aw ?_
  refine ae ?_
  cases hm
  refine am nofun ?_
  unfold ct
  dsimp only
  refine ⟨rfl, ?_⟩
  exact EE.here (by simp -dsimp [hf, c1])
def db (cx : Cx) (_out : List Cell) (y : List Cell) (tt : ((List Cell) × Int) ⊕ Unit) (ee : Exit) (ρ : Env) (σ : Sto) : Prop := match tt with
 | .inl r => ee = .ret ∧ EE cx (fun ρ σ => ∃ v, resV tb ρ σ Tryz.f114.results.toList = some v ∧ (v.frz σ).free = true ∧ (v.frz σ).wk (.tup [.one (.d (.sl 3 (List.map Cell.row r.1))), .one (.d (.int .i64 r.2))])) ρ σ
 | .inr _u => ee = .exit 3 ∧ EE cx (aS [(4, .u (.one (.own 5000)))] [(5000, .row 3 57 (List.map Cell.row y))]) ρ σ
theorem l_pattern_From_2 (cx : Cx) (hn : cx.n = 61) (out : List Cell) (y : List Cell) {fu : Nat} {stt : Int} {tt : ((List Cell) × Int) ⊕ Unit} (hh : ak (cn out y) fu stt = some tt) {ρ : Env} {σ : Sto}
  (hE : aW (fun i : Int => [(4, .u (.one (.own 5000))), (7, .u (.one (.d (.int .i64 i))))]) (fun _i : Int => [(5000, .row 3 57 (List.map Cell.row y))]) stt ρ σ) : Swp Tryz.prog cx (.loop (bg [1, 1, 1, 1, 0, 1, 0, 0] (aK Tryz.f114))) ρ σ (db cx out y tt) := by
 refine aY hE hh (db cx out y) ?_
 rintro i r hm ρ σ hf
 simp only [Fits, ar, ap, and_true] at hf
 unfold cn at hm
 dsimp only at hm
 refine ac ?_
 refine srs hn ?_
 simp -dsimp [hf]
 rcases aj hm with ⟨c14, hm⟩ | ⟨c14, hm⟩
 ·refine a8 (b := (ltB i (ah y))) (by simp -dsimp) c14 ?_
  refine aa (a6 (ac (ai ?_)))
  refine bF aL mixed (by rw [hn]; kernel_rfl) ?_
  obtain ⟨x, h15, hm⟩ := bnd hm
  obtain ⟨y1, h16, hm⟩ := bnd hm
  simp -dsimp [hf, c14, h15, bX h15]
  refine al (eE x y1 h16) ?_
  obtain ⟨x1, h17, hm⟩ := bnd hm
  obtain ⟨y2, h18, hm⟩ := bnd hm
  simp -dsimp [hf, h17, bX h17]
  refine al (eE x1 y2 h18) ?_
  simp -dsimp
  rcases aj hm with ⟨c19, hm⟩ | ⟨c19, hm⟩
  ·refine a8 (b := (bY (eqB y1.X y2.X) (bY (eqB y1.Y y2.Y) true))) (by simp -dsimp) c19 ?_
   refine srs hn ?_
   simp -dsimp [c19]
   refine ab (aH (ae ?_))
   cases hm
   refine am nofun ?_
   unfold db
   dsimp only
   refine ⟨rfl, ?_⟩
   exact EE.here (by simp -dsimp [Tryz.results114])
  ·refine a7 (b := (bY (eqB y1.X y2.X) (bY (eqB y1.Y y2.Y) true))) (by simp -dsimp) c19 ?_
   refine aa ?_
   refine aM ?_
   refine a6 ?_
   refine sr1 hn ?_
   simp -dsimp [hf, c19]
   cases hm
   refine az ?_
   exact EE.here (by simp -dsimp [hf])
 ·refine a7 (b := (ltB i (ah y))) (by simp -dsimp) c14 ?_
  refine aw ?_
  refine ae ?_
  cases hm
  refine am nofun ?_
  unfold db
  dsimp only
  refine ⟨rfl, ?_⟩
  exact EE.here (by simp -dsimp [hf, c14])
theorem f_pattern_From (l : List Cell) (r : (List Cell) × Int) (hm : dY l = some r) : PFn Tryz.prog 114 [.u (.one (.d (.sl 3 (List.map Cell.row l))))] (fun v => v.wk (.tup [.one (.d (.sl 3 (List.map Cell.row r.1))), .one (.d (.int .i64 r.2))])) := by
 refine aV Tryz.func114 Tryz.ntmps114 rfl (by kernel_rfl) (by simp) fun cx hn => ?_
 unfold dY at hm
 refine srs hn ?_
 simp -dsimp
 refine srs hn ?_
 simp -dsimp
 refine ac ?_
 refine srs hn ?_
 simp -dsimp
 refine ai ?_
 obtain ⟨o_, g11, hm⟩ := bnd hm
 refine aJ (l_pattern_From_1 cx hn l g11) (by
   try dsimp only
   refine EE.step (Wk.own0 4 5000 3 57 (by simp -dsimp) (by decide)) ?_
   exact EE.here (by simp -dsimp)
 ) fun ee ρ σ x12 => ?_
 rcases o_ with r | out
 ·unfold ct at x12
  dsimp only at x12
  obtain ⟨rfl, x12⟩ := x12
  refine aH (ae ?_)
  cases hm
  exact ⟨.inr rfl, x12⟩
 ·unfold ct at x12
  dsimp only at x12
  obtain ⟨rfl, x12⟩ := x12
  refine av ?_
  refine a6 ?_
  refine aX (by rfl) (by rfl) x12 fun ρ σ hf => ?_
  simp only [Fits, ar, ap, and_true] at hf
  refine srs hn ?_
  obtain ⟨y, h13, hm⟩ := bnd hm
  simp -dsimp [hf]
  refine d3 (cL out y h13) [5000] [] rfl rfl rfl (by simp -dsimp) rfl (by simp -dsimp [hf]) (by first | rfl | simp) rfl (dkL hn) ?_
  simp -dsimp
  refine ac ?_
  refine srs hn ?_
  simp -dsimp
  refine ai ?_
  obtain ⟨o_1, g20, hm⟩ := bnd hm
  refine aJ (l_pattern_From_2 cx hn out y g20) (by
    try dsimp only
    exact EE.here (by simp -dsimp [hf])
  ) fun ee ρ σ x21 => ?_
  rcases o_1 with r | _u
  ·unfold db at x21
   dsimp only at x21
   obtain ⟨rfl, x21⟩ := x21
   refine aH (ae ?_)
   cases hm
   exact ⟨.inr rfl, x21⟩
  ·unfold db at x21
   dsimp only at x21
   obtain ⟨rfl, x21⟩ := x21
   refine av ?_
   refine a6 ?_
   refine aX (by rfl) (by rfl) x21 fun ρ σ hf => ?_
   simp only [Fits, ar, ap, and_true] at hf
   refine ac ?_
   refine srs hn ?_
   simp -dsimp [hf]
   rcases aj hm with ⟨c22, hm⟩ | ⟨c22, hm⟩
   ·refine a8 (b := (gtB (ah y) 5000)) (by simp -dsimp) c22 ?_
    refine srs hn ?_
    simp -dsimp [c22]
    refine ab (ae ?_)
    cases hm
    refine ⟨.inr rfl, ?_⟩
    exact EE.here (by simp -dsimp)
   ·refine a7 (b := (gtB (ah y) 5000)) (by simp -dsimp) c22 ?_
    refine aa (a6 ?_)
    refine srs hn ?_
    simp -dsimp [hf, c22]
    refine ab ?_
    cases hm
    refine ⟨.inr rfl, ?_⟩
    exact EE.here (by simp -dsimp [hf])
theorem c_pattern_From (l : List Cell) (r : (List Cell) × Int) (hm : dY l = some r) : PureCall Tryz.prog 114 [.u (.one (.d (.sl 3 (List.map Cell.row l))))] (.tup [.one (.d (.sl 3 (List.map Cell.row r.1))), .one (.d (.int .i64 r.2))]) := (f_pattern_From l r hm).pureW
def dF (cx : Cx) (t : Tree) (p : List Cell) (y : List (Point × Int)) (a : Int) (_x : Cell) (tt : ((List Cell) × Int) ⊕ ((List (Point × Bool)) × (List Cell))) (ee : Exit) (ρ : Env) (σ : Sto) : Prop := match tt with
 | .inl r => ee = .ret ∧ EE cx (fun ρ σ => ∃ v, resV tb ρ σ Tryz.f53.results.toList = some v ∧ (v.frz σ).free = true ∧ (v.frz σ).wk (.tup [.one (.d (.sl 3 (List.map Cell.row r.1))), .one (.d (.int .i64 r.2))])) ρ σ
 | .inr (done1, l1) => ee = .exit 2 ∧ EE cx (aS [(2, .u (.one (.box 2 0))), (6, .u (.one (.map 5000))), (7, .u (.one (.map 17))), (8, .u (.one (.own 5001))), (18, .u (.one (.d (.sl 3 (List.map Cell.row p))))), (19, .u (.one (.d (.int .i64 (ah p))))), (20, .u (.one (.d (.int .i64 a))))] [(2, .box [.d (.int .i64 t.States), .d (.sl 2 (List.map Point.row t.Hood)), .d (.sl 2 (List.map Node.row t.Nodes))]), (17, mOb (.ints 2) Point.key (uL L.bool) done1), (5000, mOb (.ints 2) Point.key (uL (L.int .i64)) y), (5001, .row 3 57 (List.map Cell.row l1))]) ρ σ
theorem l_direct_step_2 (cx : Cx) (hn : cx.n = 71) (t : Tree) (p : List Cell) (y : List (Point × Int)) (a : Int) (x : Cell) {fu : Nat} {stt : Int × (List (Point × Bool)) × (List Cell)} {tt : ((List Cell) × Int) ⊕ ((List (Point × Bool)) × (List Cell))} (hh : ak (be t p y a x) fu stt = some tt) {ρ : Env} {σ : Sto}
  (hE : aW (fun stt : Int × (List (Point × Bool)) × (List Cell) => match stt with | (a1, _done1, _l1) => [(2, .u (.one (.box 2 0))), (6, .u (.one (.map 5000))), (7, .u (.one (.map 17))), (8, .u (.one (.own 5001))), (10, .u (.one (.box 10 0))), (18, .u (.one (.d (.sl 3 (List.map Cell.row p))))), (19, .u (.one (.d (.int .i64 (ah p))))), (20, .u (.one (.d (.int .i64 a)))), (25, .u (.one (.d (.sl 2 (List.map Point.row t.Hood))))), (26, .u (.one (.d (.int .i64 (ah t.Hood))))), (27, .u (.one (.d (.int .i64 a1))))]) (fun stt : Int × (List (Point × Bool)) × (List Cell) => match stt with | (_a1, done1, l1) => [(2, .box [.d (.int .i64 t.States), .d (.sl 2 (List.map Point.row t.Hood)), .d (.sl 2 (List.map Node.row t.Nodes))]), (10, .box [.d (.int .i64 x.X), .d (.int .i64 x.Y), .d (.int .i64 x.S)]), (17, mOb (.ints 2) Point.key (uL L.bool) done1), (5000, mOb (.ints 2) Point.key (uL (L.int .i64)) y), (5001, .row 3 57 (List.map Cell.row l1))]) stt ρ σ) : Swp Tryz.prog cx (.loop (bg [1, 1, 1, 1, 0, 1, 0, 0, 1, 1, 0, 0, 1, 1, 0, 0] (aK Tryz.f53))) ρ σ (dF cx t p y a x tt) := by
 refine aY hE hh (dF cx t p y a x) ?_
 rintro ⟨a1, done1, l1⟩ r hm ρ σ hf
 simp only [Fits, ar, ap, and_true] at hf
 unfold be at hm
 dsimp only at hm
 refine srs hn ?_
 simp -dsimp [hf]
 refine ac ?_
 rcases aj hm with ⟨c4, hm⟩ | ⟨c4, hm⟩
 ·refine a8 (b := (ltB a1 (ah t.Hood))) (by simp -dsimp) c4 ?_
  refine aa (a6 (ac (ai ?_)))
  refine srs hn ?_
  obtain ⟨x1, h5, hm⟩ := bnd hm
  simp -dsimp [hf, c4, h5]
  refine srs hn ?_
  simp -dsimp [hf]
  refine ac ?_
  refine srs hn ?_
  obtain ⟨u, h6, hm⟩ := bnd hm
  simp -dsimp [hf, f7 h6 (.head _), f7 h6 (.tail _ (.head _)), (@id (lkM (jY (mOb (.ints 2) Point.key (uL L.bool) done1) (.ints [(aC .i64 x.X x1.X), (aC .i64 x.Y x1.Y)])) false (.one (.d (.bool false))) = some (.u (.one (.d (.bool (dV done1 (⟨(aC .i64 x.X x1.X), (aC .i64 x.Y x1.Y)⟩ : Point) false)))))) (lk_val (⟨(aC .i64 x.X x1.X), (aC .i64 x.Y x1.Y)⟩ : Point) false))]
  rcases aj hm with ⟨c7, hm⟩ | ⟨c7, hm⟩
  ·refine a8 (b := (dV done1 (⟨(aC .i64 x.X x1.X), (aC .i64 x.Y x1.Y)⟩ : Point) false)) (by simp -dsimp) c7 ?_
   refine aw ?_
   refine ae ?_
   refine av ?_
   refine a6 ?_
   refine sr1 hn ?_
   simp -dsimp [hf, c7]
   cases hm
   refine az ?_
   exact EE.here (by simp -dsimp [hf])
  ·refine a7 (b := (dV done1 (⟨(aC .i64 x.X x1.X), (aC .i64 x.Y x1.Y)⟩ : Point) false)) (by simp -dsimp) c7 ?_
   refine aa (a6 ?_)
   refine srs hn ?_
   simp -dsimp [hf, f7 h6 (.head _), f7 h6 (.tail _ (.head _)), c7, (@id (msetOb (mOb (.ints 2) Point.key (uL L.bool) done1) (.ints [(aC .i64 x.X x1.X), (aC .i64 x.Y x1.Y)]) (.one (.d (.bool true))) = mOb (.ints 2) Point.key (uL L.bool) (io done1 (⟨(aC .i64 x.X x1.X), (aC .i64 x.Y x1.Y)⟩ : Point) true)) (mset_ob (.ints 2) Point.key (uL L.bool) done1 (⟨(aC .i64 x.X x1.X), (aC .i64 x.Y x1.Y)⟩ : Point) true))]
   refine srs hn ?_
   obtain ⟨y1, h8, hm⟩ := bnd hm
   simp -dsimp [hf]
   refine d3 (g_direct_cells_next_o y t (⟨(aC .i64 x.X x1.X), (aC .i64 x.Y x1.Y)⟩ : Point) y1 h8) [5000] [] rfl rfl rfl (by simp -dsimp) rfl (by simp -dsimp [hf]) (by first | rfl | simp) rfl (dkL hn) ?_
   simp -dsimp
   refine srs hn ?_
   simp -dsimp
   rcases aj hm with ⟨c9, hm⟩ | ⟨c9, hm⟩
   ·refine a8 (b := (gtB y1 0)) (by simp -dsimp) c9 ?_
    refine ac ?_
    refine srs hn ?_
    obtain ⟨y2, h10, hm⟩ := bnd hm
    simp -dsimp [c9]
    refine ag (c_direct_place (⟨(aC .i64 x.X x1.X), (aC .i64 x.Y x1.Y)⟩ : Point) y2 h10) (dkL hn) ?_
    simp -dsimp
    rcases aj hm with ⟨c11, hm⟩ | ⟨c11, hm⟩
    ·refine a8 (b := (aD y2)) (by simp -dsimp) c11 ?_
     refine srs hn ?_
     simp -dsimp [c11]
     refine ab (ae (aH (ae ?_)))
     cases hm
     refine am nofun ?_
     unfold dF
     dsimp only
     refine ⟨rfl, ?_⟩
     exact EE.here (by simp -dsimp [Tryz.results53])
    ·refine a7 (b := (aD y2)) (by simp -dsimp) c11 ?_
     refine aa (a6 ?_)
     refine sr1 hn ?_
     obtain ⟨l2, h12, hm⟩ := bnd hm
     obtain ⟨h12a, h12e⟩ := aN h12
     replace h12e := h12e.symm
     subst h12e
     try simp only [List.length_cons, List.length_nil, Nat.zero_add] at h12a
     simp -dsimp [hf, c11, h12a]
     refine aM ?_
     refine a6 ?_
     refine sr1 hn ?_
     simp -dsimp [hf]
     cases hm
     refine az ?_
     refine EE.step (Wk.move 64 5001 (by decide) (.inl (by decide))) ?_
     exact EE.here (by simp -dsimp [hf])
   ·refine a7 (b := (gtB y1 0)) (by simp -dsimp) c9 ?_
    refine aa ?_
    refine aM ?_
    refine a6 ?_
    refine sr1 hn ?_
    simp -dsimp [hf, c9]
    cases hm
    refine az ?_
    exact EE.here (by simp -dsimp [hf])
 ·refine a7 (b := (ltB a1 (ah t.Hood))) (by simp -dsimp) c4 ?_
  refine aw ?_
  refine ae ?_
  cases hm
  refine am nofun ?_
  unfold dF
  dsimp only
  refine ⟨rfl, ?_⟩
  exact EE.here (by simp -dsimp [hf, c4])
def dD (cx : Cx) (_t : Tree) (_p : List Cell) (_y : List (Point × Int)) (tt : ((List Cell) × Int) ⊕ (List Cell)) (ee : Exit) (ρ : Env) (σ : Sto) : Prop := match tt with
 | .inl r => ee = .ret ∧ EE cx (fun ρ σ => ∃ v, resV tb ρ σ Tryz.f53.results.toList = some v ∧ (v.frz σ).free = true ∧ (v.frz σ).wk (.tup [.one (.d (.sl 3 (List.map Cell.row r.1))), .one (.d (.int .i64 r.2))])) ρ σ
 | .inr l => ee = .exit 0 ∧ EE cx (aS [(8, .u (.one (.own 5001)))] [(5001, .row 3 57 (List.map Cell.row l))]) ρ σ
theorem l_direct_step_1 (cx : Cx) (hn : cx.n = 71) (t : Tree) (p : List Cell) (y : List (Point × Int)) {fu : Nat} {stt : Int × (List (Point × Bool)) × (List Cell)} {tt : ((List Cell) × Int) ⊕ (List Cell)} (hh : ak (bN t p y) fu stt = some tt) {ρ : Env} {σ : Sto}
  (hE : aW (fun stt : Int × (List (Point × Bool)) × (List Cell) => match stt with | (a, _done, _l) => [(2, .u (.one (.box 2 0))), (6, .u (.one (.map 5000))), (7, .u (.one (.map 17))), (8, .u (.one (.own 5001))), (18, .u (.one (.d (.sl 3 (List.map Cell.row p))))), (19, .u (.one (.d (.int .i64 (ah p))))), (20, .u (.one (.d (.int .i64 a))))]) (fun stt : Int × (List (Point × Bool)) × (List Cell) => match stt with | (_a, done, l) => [(2, .box [.d (.int .i64 t.States), .d (.sl 2 (List.map Point.row t.Hood)), .d (.sl 2 (List.map Node.row t.Nodes))]), (17, mOb (.ints 2) Point.key (uL L.bool) done), (5000, mOb (.ints 2) Point.key (uL (L.int .i64)) y), (5001, .row 3 57 (List.map Cell.row l))]) stt ρ σ) : Swp Tryz.prog cx (.loop (bg [1, 1, 1, 1, 0, 1, 0, 0] (aK Tryz.f53))) ρ σ (dD cx t p y tt) := by
 refine aY hE hh (dD cx t p y) ?_
 rintro ⟨a, done, l⟩ r hm ρ σ hf
 simp only [Fits, ar, ap, and_true] at hf
 unfold bN at hm
 dsimp only at hm
 refine srs hn ?_
 simp -dsimp [hf]
 refine ac ?_
 rcases aj hm with ⟨c2, hm⟩ | ⟨c2, hm⟩
 ·refine a8 (b := (ltB a (ah p))) (by simp -dsimp) c2 ?_
  refine aa (a6 (ac (ai ?_)))
  refine srs hn ?_
  obtain ⟨x, h3, hm⟩ := bnd hm
  simp -dsimp [hf, c2, h3]
  refine srs hn ?_
  simp -dsimp [hf]
  refine ai ?_
  obtain ⟨o_, g13, hm⟩ := bnd hm
  refine aJ (l_direct_step_2 cx hn t p y a x g13) (by
    try dsimp only
    exact EE.here (by simp -dsimp [hf])
  ) fun ee ρ σ x14 => ?_
  rcases o_ with r | ⟨done1, l1⟩
  ·unfold dF at x14
   dsimp only at x14
   obtain ⟨rfl, x14⟩ := x14
   refine aH (aH (ae ?_))
   cases hm
   refine am nofun ?_
   unfold dD
   dsimp only
   refine ⟨rfl, ?_⟩
   exact x14
  ·unfold dF at x14
   dsimp only at x14
   obtain ⟨rfl, x14⟩ := x14
   refine av ?_
   refine aM ?_
   refine a6 ?_
   refine aX (by rfl) (by rfl) x14 fun ρ σ hf => ?_
   simp only [Fits, ar, ap, and_true] at hf
   refine sr1 hn ?_
   simp -dsimp [hf]
   cases hm
   refine az ?_
   exact EE.here (by simp -dsimp [hf])
 ·refine a7 (b := (ltB a (ah p))) (by simp -dsimp) c2 ?_
  refine aw ?_
  refine ae ?_
  cases hm
  refine am nofun ?_
  unfold dD
  dsimp only
  refine ⟨rfl, ?_⟩
  exact EE.here (by simp -dsimp [hf, c2])
theorem f_direct_step (t : Tree) (p : List Cell) (r : (List Cell) × Int) (hm : cz t p = some r) : PFn Tryz.prog 53 [.u (.agg [.d (.int .i64 t.States), .d (.sl 2 (List.map Point.row t.Hood)), .d (.sl 2 (List.map Node.row t.Nodes))]), .u (.one (.d (.sl 3 (List.map Cell.row p))))] (fun v => v.wk (.tup [.one (.d (.sl 3 (List.map Cell.row r.1))), .one (.d (.int .i64 r.2))])) := by
 refine aV Tryz.func53 Tryz.ntmps53 rfl (by kernel_rfl) (by simp) fun cx hn => ?_
 unfold cz at hm
 refine srs hn ?_
 simp -dsimp
 refine srs hn ?_
 obtain ⟨y, h1, hm⟩ := bnd hm
 simp -dsimp
 refine d3 (g_direct_of p y h1) [] [5000] rfl rfl rfl (by simp -dsimp) rfl (by simp -dsimp) (by first | rfl | simp) rfl (dkL hn) ?_
 simp -dsimp
 refine srs hn ?_
 simp -dsimp [(@id (Ob.map (.ints 2) [] = mOb (.ints 2) Point.key (uL L.bool) ([] : List (Point × Bool))) (mOb_nil (.ints 2) Point.key (uL L.bool)))]
 refine srs hn ?_
 simp -dsimp
 refine ac ?_
 refine srs hn ?_
 simp -dsimp
 refine ai ?_
 obtain ⟨o_, g15, hm⟩ := bnd hm
 refine aJ (l_direct_step_1 cx hn t p y g15) (by
   try dsimp only
   refine EE.step (Wk.own0 8 5001 3 57 (by simp -dsimp) (by decide)) ?_
   exact EE.here (by simp -dsimp)
 ) fun ee ρ σ x16 => ?_
 rcases o_ with r | l
 ·unfold dD at x16
  dsimp only at x16
  obtain ⟨rfl, x16⟩ := x16
  refine aH (ae ?_)
  cases hm
  exact ⟨.inr rfl, x16⟩
 ·unfold dD at x16
  dsimp only at x16
  obtain ⟨rfl, x16⟩ := x16
  refine av ?_
  refine a6 ?_
  refine aX (by rfl) (by rfl) x16 fun ρ σ hf => ?_
  simp only [Fits, ar, ap, and_true] at hf
  refine Swp.pre (Wk.frz 5001 3 57 (List.map Cell.row l) (by simp -dsimp [hf])) ?_
  refine srs hn ?_
  obtain ⟨y1, h17, hm⟩ := bnd hm
  simp -dsimp [hf]
  refine ag (c_pattern_From l y1 h17) (dkL hn) ?_
  simp -dsimp
  refine ab ?_
  cases hm
  refine ⟨.inr rfl, ?_⟩
  exact EE.here (by simp -dsimp)
theorem c_direct_step (t : Tree) (p : List Cell) (r : (List Cell) × Int) (hm : cz t p = some r) : PureCall Tryz.prog 53 [.u (.agg [.d (.int .i64 t.States), .d (.sl 2 (List.map Point.row t.Hood)), .d (.sl 2 (List.map Node.row t.Nodes))]), .u (.one (.d (.sl 3 (List.map Cell.row p))))] (.tup [.one (.d (.sl 3 (List.map Cell.row r.1))), .one (.d (.int .i64 r.2))]) := (f_direct_step t p r hm).pureW
def eb (cx : Cx) (_t : Tree) (_n : Int) (tt : ((List Cell) × Int) ⊕ (List Cell)) (ee : Exit) (ρ : Env) (σ : Sto) : Prop := match tt with
 | .inl r => ee = .ret ∧ EE cx (fun ρ σ => ∃ v, resV tb ρ σ Tryz.f22.results.toList = some v ∧ (v.frz σ).free = true ∧ (v.frz σ).wk (.tup [.one (.d (.sl 3 (List.map Cell.row r.1))), .one (.d (.int .i64 r.2))])) ρ σ
 | .inr p1 => ee = .exit 0 ∧ EE cx (aS [(1, .u (.one (.d (.sl 3 (List.map Cell.row p1)))))] []) ρ σ
theorem l_direct_Run_1 (cx : Cx) (hn : cx.n = 38) (t : Tree) (n : Int) {fu : Nat} {stt : (List Cell) × Int} {tt : ((List Cell) × Int) ⊕ (List Cell)} (hh : ak (cG t n) fu stt = some tt) {ρ : Env} {σ : Sto}
  (hE : aW (fun stt : (List Cell) × Int => match stt with | (p1, a1) => [(1, .u (.one (.d (.sl 3 (List.map Cell.row p1))))), (3, .u (.one (.box 3 0))), (23, .u (.one (.d (.int .i64 n)))), (24, .u (.one (.d (.int .i64 a1))))]) (fun stt : (List Cell) × Int => match stt with | (_p1, _a1) => [(3, .box [.d (.int .i64 t.States), .d (.sl 2 (List.map Point.row t.Hood)), .d (.sl 2 (List.map Node.row t.Nodes))])]) stt ρ σ) : Swp Tryz.prog cx (.loop (bg [1, 1, 1, 0, 1, 0, 0] (aK Tryz.f22))) ρ σ (eb cx t n tt) := by
 refine aY hE hh (eb cx t n) ?_
 rintro ⟨p1, a1⟩ r hm ρ σ hf
 simp only [Fits, ar, ap, and_true] at hf
 unfold cG at hm
 dsimp only at hm
 refine srs hn ?_
 simp -dsimp [hf]
 refine ac ?_
 rcases aj hm with ⟨c5, hm⟩ | ⟨c5, hm⟩
 ·refine a8 (b := (ltB a1 n)) (by simp -dsimp) c5 ?_
  refine aa (a6 (ac (ai ?_)))
  refine srs hn ?_
  obtain ⟨y1, h6, hm⟩ := bnd hm
  simp -dsimp [hf, c5]
  refine ag (c_direct_step t p1 y1 h6) (dkL hn) ?_
  simp -dsimp
  refine ac ?_
  refine srs hn ?_
  simp -dsimp
  rcases aj hm with ⟨c7, hm⟩ | ⟨c7, hm⟩
  ·refine a8 (b := (neB y1.2 0)) (by simp -dsimp) c7 ?_
   refine srs hn ?_
   simp -dsimp [c7]
   refine ab (ae (aH (ae ?_)))
   cases hm
   refine am nofun ?_
   unfold eb
   dsimp only
   refine ⟨rfl, ?_⟩
   exact EE.here (by simp -dsimp [Tryz.results22])
  ·refine a7 (b := (neB y1.2 0)) (by simp -dsimp) c7 ?_
   refine aa (a6 ?_)
   refine sr1 hn ?_
   simp -dsimp [c7]
   refine aM ?_
   refine a6 ?_
   refine sr1 hn ?_
   simp -dsimp [hf]
   cases hm
   refine az ?_
   exact EE.here (by simp -dsimp [hf])
 ·refine a7 (b := (ltB a1 n)) (by simp -dsimp) c5 ?_
  refine aw ?_
  refine ae ?_
  cases hm
  refine am nofun ?_
  unfold eb
  dsimp only
  refine ⟨rfl, ?_⟩
  exact EE.here (by simp -dsimp [hf, c5])
theorem f_direct_Run (t : Tree) (p : List Cell) (n : Int) (r : (List Cell) × Int) (hm : cy t p n = some r) : PFn Tryz.prog 22 [.u (.agg [.d (.int .i64 t.States), .d (.sl 2 (List.map Point.row t.Hood)), .d (.sl 2 (List.map Node.row t.Nodes))]), .u (.one (.d (.sl 3 (List.map Cell.row p)))), .u (.one (.d (.int .i64 n)))] (fun v => v.wk (.tup [.one (.d (.sl 3 (List.map Cell.row r.1))), .one (.d (.int .i64 r.2))])) := by
 refine aV Tryz.func22 Tryz.ntmps22 rfl (by kernel_rfl) (by simp) fun cx hn => ?_
 unfold cy at hm
 refine srs hn ?_
 simp -dsimp
 refine ac ?_
 refine srs hn ?_
 obtain ⟨y, h1, hm⟩ := bnd hm
 simp -dsimp
 refine ag (c_direct_check t p y h1) (dkL hn) ?_
 simp -dsimp
 refine srs hn ?_
 simp -dsimp
 rcases aj hm with ⟨c2, hm⟩ | ⟨c2, hm⟩
 ·refine a8 (b := (neB y 0)) (by simp -dsimp) c2 ?_
  refine srs hn ?_
  simp -dsimp [c2]
  refine ab (ae ?_)
  cases hm
  refine ⟨.inr rfl, ?_⟩
  exact EE.here (by simp -dsimp)
 ·refine a7 (b := (neB y 0)) (by simp -dsimp) c2 ?_
  refine aa (a6 (ac ?_))
  obtain ⟨a, j10, hm⟩ := bnd hm
  refine au [(1, .u (.one (.d (.sl 3 (List.map Cell.row p))))), (2, .u (.one (.d (.int .i64 n)))), (3, .u (.one (.box 3 0))), (22, .u (.one (.d (.bool a))))] [(3, .box [.d (.int .i64 t.States), .d (.sl 2 (List.map Point.row t.Hood)), .d (.sl 2 (List.map Node.row t.Nodes))])] (by rfl) (by rfl) ?_ fun ρ σ hf => ?_
  ·replace hm := j10
   clear j10
   refine sr1 hn ?_
   rcases aj hm with ⟨c3, hm⟩ | ⟨c3, hm⟩
   ·simp -dsimp [c2, c3]
    refine a6 ?_
    cases hm
    exact EE.here (by simp -dsimp)
   ·simp -dsimp [c2, c3]
    refine a6 ?_
    cases hm
    exact EE.here (by simp -dsimp)
  ·clear j10
   simp only [Fits, ar, ap, and_true] at hf
   rcases aj hm with ⟨c4, hm⟩ | ⟨c4, hm⟩
   ·refine a8 (by simp -dsimp [hf]) c4 ?_
    refine srs hn ?_
    simp -dsimp
    refine ab (ae ?_)
    cases hm
    refine ⟨.inr rfl, ?_⟩
    exact EE.here (by simp -dsimp)
   ·refine a7 (by simp -dsimp [hf]) c4 ?_
    refine aa (a6 (ac ?_))
    refine srs hn ?_
    simp -dsimp [hf]
    refine ai ?_
    obtain ⟨o_, g8, hm⟩ := bnd hm
    refine aJ (l_direct_Run_1 cx hn t n g8) (by
      try dsimp only
      exact EE.here (by simp -dsimp [hf])
    ) fun ee ρ σ x9 => ?_
    rcases o_ with r | p1
    ·unfold eb at x9
     dsimp only at x9
     obtain ⟨rfl, x9⟩ := x9
     refine aH (ae ?_)
     cases hm
     exact ⟨.inr rfl, x9⟩
    ·unfold eb at x9
     dsimp only at x9
     obtain ⟨rfl, x9⟩ := x9
     refine av ?_
     refine a6 ?_
     refine aX (by rfl) (by rfl) x9 fun ρ σ hf => ?_
     simp only [Fits, ar, ap, and_true] at hf
     refine srs hn ?_
     simp -dsimp [hf]
     refine ab ?_
     cases hm
     refine ⟨.inr rfl, ?_⟩
     exact EE.here (by simp -dsimp)
theorem kE (t : Tree) (p : List Cell) (n : Int) (r : (List Cell) × Int) (hm : cy t p n = some r) : PureCall Tryz.prog 22 [.u (.agg [.d (.int .i64 t.States), .d (.sl 2 (List.map Point.row t.Hood)), .d (.sl 2 (List.map Node.row t.Nodes))]), .u (.one (.d (.sl 3 (List.map Cell.row p)))), .u (.one (.d (.int .i64 n)))] (.tup [.one (.d (.sl 3 (List.map Cell.row r.1))), .one (.d (.int .i64 r.2))]) := (f_direct_Run t p n r hm).pureW
theorem f_period_proper (n : Int) (r : Bool) (hm : dE n = some r) : PFn Tryz.prog 121 [.u (.one (.d (.int .i64 n)))] (fun v => v.wk (.u (.one (.d (.bool r))))) := by
 refine aV Tryz.func121 Tryz.ntmps121 rfl (by kernel_rfl) (by simp) fun cx hn => ?_
 unfold dE at hm
 refine srs hn ?_
 simp -dsimp
 obtain ⟨a, j2, hm⟩ := bnd hm
 refine au [(2, .u (.one (.d (.bool a))))] [] (by rfl) (by rfl) ?_ fun ρ σ hf => ?_
 ·replace hm := j2
  clear j2
  refine sr1 hn ?_
  rcases aj hm with ⟨c1, hm⟩ | ⟨c1, hm⟩
  ·simp -dsimp [c1]
   refine a6 ?_
   cases hm
   exact EE.here (by simp -dsimp)
  ·simp -dsimp [c1]
   refine a6 ?_
   cases hm
   exact EE.here (by simp -dsimp)
 ·clear j2
  simp only [Fits, ar, ap, and_true] at hf
  refine ab ?_
  cases hm
  refine ⟨.inr rfl, ?_⟩
  exact EE.here (by simp -dsimp [hf])
theorem c_period_proper (n : Int) (r : Bool) (hm : dE n = some r) : PureCall Tryz.prog 121 [.u (.one (.d (.int .i64 n)))] (.u (.one (.d (.bool r)))) := (f_period_proper n r hm).pureW
theorem f_direct_Step (t : Tree) (p : List Cell) (r : (List Cell) × Int) (hm : bK t p = some r) : PFn Tryz.prog 122 [.u (.agg [.d (.int .i64 t.States), .d (.sl 2 (List.map Point.row t.Hood)), .d (.sl 2 (List.map Node.row t.Nodes))]), .u (.one (.d (.sl 3 (List.map Cell.row p))))] (fun v => v.wk (.tup [.one (.d (.sl 3 (List.map Cell.row r.1))), .one (.d (.int .i64 r.2))])) := by
 refine aV Tryz.func122 Tryz.ntmps122 rfl (by kernel_rfl) (by simp) fun cx hn => ?_
 unfold bK at hm
 refine srs hn ?_
 simp -dsimp
 refine ac ?_
 refine srs hn ?_
 obtain ⟨y, h1, hm⟩ := bnd hm
 simp -dsimp
 refine ag (c_direct_check t p y h1) (dkL hn) ?_
 simp -dsimp
 refine srs hn ?_
 simp -dsimp
 rcases aj hm with ⟨c2, hm⟩ | ⟨c2, hm⟩
 ·refine a8 (b := (neB y 0)) (by simp -dsimp) c2 ?_
  refine srs hn ?_
  simp -dsimp [c2]
  refine ab (ae ?_)
  cases hm
  refine ⟨.inr rfl, ?_⟩
  exact EE.here (by simp -dsimp)
 ·refine a7 (b := (neB y 0)) (by simp -dsimp) c2 ?_
  refine aa (a6 ?_)
  refine srs hn ?_
  obtain ⟨y1, h3, hm⟩ := bnd hm
  simp -dsimp [c2]
  refine ag (c_direct_step t p y1 h3) (dkL hn) ?_
  simp -dsimp
  refine ab ?_
  cases hm
  refine ⟨.inr rfl, ?_⟩
  exact EE.here (by simp -dsimp)
theorem c_direct_Step (t : Tree) (p : List Cell) (r : (List Cell) × Int) (hm : bK t p = some r) : PureCall Tryz.prog 122 [.u (.agg [.d (.int .i64 t.States), .d (.sl 2 (List.map Point.row t.Hood)), .d (.sl 2 (List.map Node.row t.Nodes))]), .u (.one (.d (.sl 3 (List.map Cell.row p))))] (.tup [.one (.d (.sl 3 (List.map Cell.row r.1))), .one (.d (.int .i64 r.2))]) := (f_direct_Step t p r hm).pureW
def d9 (cx : Cx) (_a : List Cell) (_b : List Cell) (x : Cell) (x1 : Cell) (tt : (Int × Int × Bool) ⊕ Unit) (ee : Exit) (ρ : Env) (σ : Sto) : Prop := match tt with
 | .inl r => ee = .ret ∧ EE cx (fun ρ σ => ∃ v, resV tb ρ σ Tryz.f123.results.toList = some v ∧ (v.frz σ).free = true ∧ (v.frz σ).wk (.tup [.one (.d (.int .i64 r.1)), .one (.d (.int .i64 r.2.1)), .one (.d (.bool r.2.2))])) ρ σ
 | .inr _u => ee = .exit 0 ∧ EE cx (aS [(4, .u (.one (.d (.int .i64 (aC .i64 x.X x1.X))))), (5, .u (.one (.d (.int .i64 (aC .i64 x.Y x1.Y)))))] []) ρ σ
theorem l_period_moved_1 (cx : Cx) (hn : cx.n = 69) (a : List Cell) (b : List Cell) (x : Cell) (x1 : Cell) {fu : Nat} {stt : Int} {tt : (Int × Int × Bool) ⊕ Unit} (hh : ak (cr a b x x1) fu stt = some tt) {ρ : Env} {σ : Sto}
  (hE : aW (fun a2 : Int => [(0, .u (.one (.d (.sl 3 (List.map Cell.row a))))), (1, .u (.one (.d (.sl 3 (List.map Cell.row b))))), (4, .u (.one (.d (.int .i64 (aC .i64 x.X x1.X))))), (5, .u (.one (.d (.int .i64 (aC .i64 x.Y x1.Y))))), (37, .u (.one (.d (.int .i64 (ah a))))), (38, .u (.one (.d (.int .i64 a2))))]) (fun _a2 : Int => []) stt ρ σ) : Swp Tryz.prog cx (.loop (bg [1, 1, 1, 0, 1, 0, 0] (aK Tryz.f123))) ρ σ (d9 cx a b x x1 tt) := by
 refine aY hE hh (d9 cx a b x x1) ?_
 rintro a2 r hm ρ σ hf
 simp only [Fits, ar, ap, and_true] at hf
 unfold cr at hm
 dsimp only at hm
 refine srs hn ?_
 simp -dsimp [hf]
 refine ac ?_
 rcases aj hm with ⟨c5, hm⟩ | ⟨c5, hm⟩
 ·refine a8 (b := (ltB a2 (ah a))) (by simp -dsimp) c5 ?_
  refine aa (a6 (ac (ai ?_)))
  refine srs hn ?_
  simp -dsimp [hf, c5]
  refine bF aL mixed (by rw [hn]; kernel_rfl) ?_
  obtain ⟨x2, h6, hm⟩ := bnd hm
  obtain ⟨x3, h7, hm⟩ := bnd hm
  simp -dsimp [hf, h6, h7]
  rcases aj hm with ⟨c8, hm⟩ | ⟨c8, hm⟩
  ·refine a8 (b := (aD (bY (eqB x2.X (aG .i64 x3.X (aC .i64 x.X x1.X))) (bY (eqB x2.Y (aG .i64 x3.Y (aC .i64 x.Y x1.Y))) (bY (eqB x2.S x3.S) true))))) (by simp -dsimp) c8 ?_
   refine srs hn ?_
   simp -dsimp [c8]
   refine ab (aH (ae ?_))
   cases hm
   refine am nofun ?_
   unfold d9
   dsimp only
   refine ⟨rfl, ?_⟩
   exact EE.here (by simp -dsimp [Tryz.results123])
  ·refine a7 (b := (aD (bY (eqB x2.X (aG .i64 x3.X (aC .i64 x.X x1.X))) (bY (eqB x2.Y (aG .i64 x3.Y (aC .i64 x.Y x1.Y))) (bY (eqB x2.S x3.S) true))))) (by simp -dsimp) c8 ?_
   refine aa ?_
   refine aM ?_
   refine a6 ?_
   refine sr1 hn ?_
   simp -dsimp [hf, c8]
   cases hm
   refine az ?_
   exact EE.here (by simp -dsimp [hf])
 ·refine a7 (b := (ltB a2 (ah a))) (by simp -dsimp) c5 ?_
  refine aw ?_
  refine ae ?_
  cases hm
  refine am nofun ?_
  unfold d9
  dsimp only
  refine ⟨rfl, ?_⟩
  exact EE.here (by simp -dsimp [hf, c5])
set_option maxRecDepth 20000 in
theorem f_period_moved (a : List Cell) (b : List Cell) (r : Int × Int × Bool) (hm : ed a b = some r) : PFn Tryz.prog 123 [.u (.one (.d (.sl 3 (List.map Cell.row a)))), .u (.one (.d (.sl 3 (List.map Cell.row b))))] (fun v => v.wk (.tup [.one (.d (.int .i64 r.1)), .one (.d (.int .i64 r.2.1)), .one (.d (.bool r.2.2))])) := by
 refine aV Tryz.func123 Tryz.ntmps123 rfl (by kernel_rfl) (by simp) fun cx hn => ?_
 unfold ed at hm
 refine srs hn ?_
 simp -dsimp
 refine ac ?_
 obtain ⟨a1, j11, hm⟩ := bnd hm
 refine au [(0, .u (.one (.d (.sl 3 (List.map Cell.row a))))), (1, .u (.one (.d (.sl 3 (List.map Cell.row b))))), (17, .u (.one (.d (.bool a1))))] [] (by rfl) (by rfl) ?_ fun ρ σ hf => ?_
 ·replace hm := j11
  clear j11
  refine sr1 hn ?_
  rcases aj hm with ⟨c1, hm⟩ | ⟨c1, hm⟩
  ·simp -dsimp [c1]
   refine a6 ?_
   cases hm
   exact EE.here (by simp -dsimp)
  ·simp -dsimp [c1]
   refine a6 ?_
   cases hm
   exact EE.here (by simp -dsimp)
 ·clear j11
  simp only [Fits, ar, ap, and_true] at hf
  rcases aj hm with ⟨c2, hm⟩ | ⟨c2, hm⟩
  ·refine a8 (by simp -dsimp [hf]) c2 ?_
   refine srs hn ?_
   simp -dsimp
   refine ab (ae ?_)
   cases hm
   refine ⟨.inr rfl, ?_⟩
   exact EE.here (by simp -dsimp)
  ·refine a7 (by simp -dsimp [hf]) c2 ?_
   refine aa (a6 ?_)
   refine bF aL mixed (by rw [hn]; kernel_rfl) ?_
   obtain ⟨x, h3, hm⟩ := bnd hm
   obtain ⟨x1, h4, hm⟩ := bnd hm
   simp -dsimp [hf, h3, h4]
   refine ac ?_
   refine srs hn ?_
   simp -dsimp [hf]
   refine ai ?_
   obtain ⟨o_, g9, hm⟩ := bnd hm
   refine aJ (l_period_moved_1 cx hn a b x x1 g9) (by
     try dsimp only
     exact EE.here (by simp -dsimp [hf])
   ) fun ee ρ σ x10 => ?_
   rcases o_ with r | _u
   ·unfold d9 at x10
    dsimp only at x10
    obtain ⟨rfl, x10⟩ := x10
    refine aH (ae ?_)
    cases hm
    exact ⟨.inr rfl, x10⟩
   ·unfold d9 at x10
    dsimp only at x10
    obtain ⟨rfl, x10⟩ := x10
    refine av ?_
    refine a6 ?_
    refine aX (by rfl) (by rfl) x10 fun ρ σ hf => ?_
    simp only [Fits, ar, ap, and_true] at hf
    refine srs hn ?_
    simp -dsimp [hf]
    refine ab ?_
    cases hm
    refine ⟨.inr rfl, ?_⟩
    exact EE.here (by simp -dsimp)
theorem c_period_moved (a : List Cell) (b : List Cell) (r : Int × Int × Bool) (hm : ed a b = some r) : PureCall Tryz.prog 123 [.u (.one (.d (.sl 3 (List.map Cell.row a)))), .u (.one (.d (.sl 3 (List.map Cell.row b))))] (.tup [.one (.d (.int .i64 r.1)), .one (.d (.int .i64 r.2.1)), .one (.d (.bool r.2.2))]) := (f_period_moved a b r hm).pureW
def cM (cx : Cx) (_t : Tree) (_p : List Cell) (_most : Int) (tt : (Motion × Bool × Int) ⊕ Unit) (ee : Exit) (ρ : Env) (σ : Sto) : Prop := match tt with
 | .inl r => ee = .ret ∧ EE cx (fun ρ σ => ∃ v, resV tb ρ σ Tryz.f59.results.toList = some v ∧ (v.frz σ).free = true ∧ (v.frz σ).wk (.tup [.agg [.d (.int .i64 r.1.Period), .d (.int .i64 r.1.DX), .d (.int .i64 r.1.DY)], .one (.d (.bool r.2.1)), .one (.d (.int .i64 r.2.2))])) ρ σ
 | .inr _u => ee = .exit 0 ∧ EE cx (aS [(6, .u (.one (.box 6 0)))] [(6, .box [.d (.int .i64 0), .d (.int .i64 0), .d (.int .i64 0)])]) ρ σ
theorem l_period_Find_1 (cx : Cx) (hn : cx.n = 67) (t : Tree) (p : List Cell) (most : Int) {fu : Nat} {stt : (List Cell) × Int} {tt : (Motion × Bool × Int) ⊕ Unit} (hh : ak (cQ t p most) fu stt = some tt) {ρ : Env} {σ : Sto}
  (hE : aW (fun stt : (List Cell) × Int => match stt with | (q, gv) => [(1, .u (.one (.d (.sl 3 (List.map Cell.row p))))), (2, .u (.one (.d (.int .i64 most)))), (3, .u (.one (.box 3 0))), (6, .u (.one (.box 6 0))), (11, .u (.one (.d (.sl 3 (List.map Cell.row q))))), (12, .u (.one (.d (.int .i64 gv))))]) (fun stt : (List Cell) × Int => match stt with | (_q, _gv) => [(3, .box [.d (.int .i64 t.States), .d (.sl 2 (List.map Point.row t.Hood)), .d (.sl 2 (List.map Node.row t.Nodes))]), (6, .box [.d (.int .i64 0), .d (.int .i64 0), .d (.int .i64 0)])]) stt ρ σ) : Swp Tryz.prog cx (.loop (bg [1, 1, 1, 1, 0, 1, 0, 0] (aK Tryz.f59))) ρ σ (cM cx t p most tt) := by
 refine aY hE hh (cM cx t p most) ?_
 rintro ⟨q, gv⟩ r hm ρ σ hf
 simp only [Fits, ar, ap, and_true] at hf
 unfold cQ at hm
 dsimp only at hm
 refine ac ?_
 obtain ⟨a, j11, hm⟩ := bnd hm
 refine au [(1, .u (.one (.d (.sl 3 (List.map Cell.row p))))), (2, .u (.one (.d (.int .i64 most)))), (3, .u (.one (.box 3 0))), (6, .u (.one (.box 6 0))), (11, .u (.one (.d (.sl 3 (List.map Cell.row q))))), (12, .u (.one (.d (.int .i64 gv)))), (40, .u (.one (.d (.bool a))))] [(3, .box [.d (.int .i64 t.States), .d (.sl 2 (List.map Point.row t.Hood)), .d (.sl 2 (List.map Node.row t.Nodes))]), (6, .box [.d (.int .i64 0), .d (.int .i64 0), .d (.int .i64 0)])] (by rfl) (by rfl) ?_ fun ρ σ hf => ?_
 ·replace hm := j11
  clear j11
  refine sr1 hn ?_
  rcases aj hm with ⟨c5, hm⟩ | ⟨c5, hm⟩
  ·simp -dsimp [hf, c5]
   refine a6 ?_
   cases hm
   exact EE.here (by simp -dsimp [hf])
  ·simp -dsimp [hf, c5]
   refine a6 ?_
   cases hm
   exact EE.here (by simp -dsimp [hf])
 ·clear j11
  simp only [Fits, ar, ap, and_true] at hf
  rcases aj hm with ⟨c6, hm⟩ | ⟨c6, hm⟩
  ·refine a8 (by simp -dsimp [hf]) c6 ?_
   refine aa (a6 (ac (ai ?_)))
   refine srs hn ?_
   obtain ⟨y2, h7, hm⟩ := bnd hm
   simp -dsimp [hf]
   refine ag (c_direct_Step t q y2 h7) (dkL hn) ?_
   simp -dsimp
   refine ac ?_
   refine srs hn ?_
   simp -dsimp
   rcases aj hm with ⟨c8, hm⟩ | ⟨c8, hm⟩
   ·refine a8 (b := (neB y2.2 0)) (by simp -dsimp) c8 ?_
    refine srs hn ?_
    simp -dsimp [hf, c8]
    refine ab (ae (aH (ae ?_)))
    cases hm
    refine am nofun ?_
    unfold cM
    dsimp only
    refine ⟨rfl, ?_⟩
    exact EE.here (by simp -dsimp [hf, Tryz.results59])
   ·refine a7 (b := (neB y2.2 0)) (by simp -dsimp) c8 ?_
    refine aa (a6 ?_)
    refine srs hn ?_
    simp -dsimp [c8]
    refine srs hn ?_
    obtain ⟨y3, h9, hm⟩ := bnd hm
    simp -dsimp [hf]
    refine ag (c_period_moved p y2.1 y3 h9) (dkL hn) ?_
    simp -dsimp
    refine srs hn ?_
    simp -dsimp
    rcases aj hm with ⟨c10, hm⟩ | ⟨c10, hm⟩
    ·refine a8 (b := y3.2.2) (by simp -dsimp) c10 ?_
     refine srs hn ?_
     simp -dsimp [hf, c10]
     refine ab (aH (ae ?_))
     cases hm
     refine am nofun ?_
     unfold cM
     dsimp only
     refine ⟨rfl, ?_⟩
     exact EE.here (by simp -dsimp [hf, Tryz.results59])
    ·refine a7 (b := y3.2.2) (by simp -dsimp) c10 ?_
     refine aa ?_
     refine aM ?_
     refine a6 ?_
     refine sr1 hn ?_
     simp -dsimp [hf, c10]
     cases hm
     refine az ?_
     exact EE.here (by simp -dsimp [hf])
  ·refine a7 (by simp -dsimp [hf]) c6 ?_
   refine aw ?_
   refine ae ?_
   cases hm
   refine am nofun ?_
   unfold cM
   dsimp only
   refine ⟨rfl, ?_⟩
   exact EE.here (by simp -dsimp [hf])
theorem f_period_Find (t : Tree) (p : List Cell) (most : Int) (r : Motion × Bool × Int) (hm : eS t p most = some r) : PFn Tryz.prog 59 [.u (.agg [.d (.int .i64 t.States), .d (.sl 2 (List.map Point.row t.Hood)), .d (.sl 2 (List.map Node.row t.Nodes))]), .u (.one (.d (.sl 3 (List.map Cell.row p)))), .u (.one (.d (.int .i64 most)))] (fun v => v.wk (.tup [.agg [.d (.int .i64 r.1.Period), .d (.int .i64 r.1.DX), .d (.int .i64 r.1.DY)], .one (.d (.bool r.2.1)), .one (.d (.int .i64 r.2.2))])) := by
 refine aV Tryz.func59 Tryz.ntmps59 rfl (by kernel_rfl) (by simp) fun cx hn => ?_
 unfold eS at hm
 refine srs hn ?_
 simp -dsimp
 refine ac ?_
 refine srs hn ?_
 obtain ⟨y, h1, hm⟩ := bnd hm
 simp -dsimp
 refine ag (kE t p 0 y h1) (dkL hn) ?_
 simp -dsimp
 refine srs hn ?_
 simp -dsimp
 rcases aj hm with ⟨c2, hm⟩ | ⟨c2, hm⟩
 ·refine a8 (b := (neB y.2 0)) (by simp -dsimp) c2 ?_
  refine srs hn ?_
  simp -dsimp [c2]
  refine ab (ae ?_)
  cases hm
  refine ⟨.inr rfl, ?_⟩
  exact EE.here (by simp -dsimp)
 ·refine a7 (b := (neB y.2 0)) (by simp -dsimp) c2 ?_
  refine aa (a6 (ac ?_))
  refine srs hn ?_
  obtain ⟨y1, h3, hm⟩ := bnd hm
  simp -dsimp [c2]
  refine ag (c_period_proper most y1 h3) (dkL hn) ?_
  simp -dsimp
  rcases aj hm with ⟨c4, hm⟩ | ⟨c4, hm⟩
  ·refine a8 (b := (aD y1)) (by simp -dsimp) c4 ?_
   refine srs hn ?_
   simp -dsimp [c4]
   refine ab (ae ?_)
   cases hm
   refine ⟨.inr rfl, ?_⟩
   exact EE.here (by simp -dsimp)
  ·refine a7 (b := (aD y1)) (by simp -dsimp) c4 ?_
   refine aa (a6 ?_)
   refine srs hn ?_
   simp -dsimp [c4]
   refine ac ?_
   refine srs hn ?_
   simp -dsimp
   refine ai ?_
   obtain ⟨o_, g12, hm⟩ := bnd hm
   refine aJ (l_period_Find_1 cx hn t p most g12) (by
     try dsimp only
     exact EE.here (by simp -dsimp)
   ) fun ee ρ σ x13 => ?_
   rcases o_ with r | _u
   ·unfold cM at x13
    dsimp only at x13
    obtain ⟨rfl, x13⟩ := x13
    refine aH (ae ?_)
    cases hm
    exact ⟨.inr rfl, x13⟩
   ·unfold cM at x13
    dsimp only at x13
    obtain ⟨rfl, x13⟩ := x13
    refine av ?_
    refine a6 ?_
    refine aX (by rfl) (by rfl) x13 fun ρ σ hf => ?_
    simp only [Fits, ar, ap, and_true] at hf
    refine srs hn ?_
    simp -dsimp [hf]
    refine ab ?_
    cases hm
    refine ⟨.inr rfl, ?_⟩
    exact EE.here (by simp -dsimp [hf])
theorem c_period_Find (t : Tree) (p : List Cell) (most : Int) (r : Motion × Bool × Int) (hm : eS t p most = some r) : PureCall Tryz.prog 59 [.u (.agg [.d (.int .i64 t.States), .d (.sl 2 (List.map Point.row t.Hood)), .d (.sl 2 (List.map Node.row t.Nodes))]), .u (.one (.d (.sl 3 (List.map Cell.row p)))), .u (.one (.d (.int .i64 most)))] (.tup [.agg [.d (.int .i64 r.1.Period), .d (.int .i64 r.1.DX), .d (.int .i64 r.1.DY)], .one (.d (.bool r.2.1)), .one (.d (.int .i64 r.2.2))]) := (f_period_Find t p most r hm).pureW
theorem f_period_Has (t : Tree) (p : List Cell) (m : Motion) (r : Bool × Int) (hm : fP t p m = some r) : PFn Tryz.prog 28 [.u (.agg [.d (.int .i64 t.States), .d (.sl 2 (List.map Point.row t.Hood)), .d (.sl 2 (List.map Node.row t.Nodes))]), .u (.one (.d (.sl 3 (List.map Cell.row p)))), .u (.agg [.d (.int .i64 m.Period), .d (.int .i64 m.DX), .d (.int .i64 m.DY)])] (fun v => v.wk (.tup [.one (.d (.bool r.1)), .one (.d (.int .i64 r.2))])) := by
 refine aV Tryz.func28 Tryz.ntmps28 rfl (by kernel_rfl) (by simp) fun cx hn => ?_
 unfold fP at hm
 refine srs hn ?_
 simp -dsimp
 refine srs hn ?_
 obtain ⟨y, h1, hm⟩ := bnd hm
 simp -dsimp
 refine ag (c_period_Find t p m.Period y h1) (dkL hn) ?_
 simp -dsimp
 obtain ⟨a, j3, hm⟩ := bnd hm
 refine au [(6, .u (.one (.d (.bool a)))), (7, .u (.one (.d (.int .i64 y.2.2))))] [] (by rfl) (by rfl) ?_ fun ρ σ hf => ?_
 ·replace hm := j3
  clear j3
  refine sr1 hn ?_
  rcases aj hm with ⟨c2, hm⟩ | ⟨c2, hm⟩
  ·simp -dsimp [c2]
   refine a6 ?_
   cases hm
   exact EE.here (by simp -dsimp)
  ·simp -dsimp [c2]
   refine a6 ?_
   cases hm
   exact EE.here (by simp -dsimp)
 ·clear j3
  simp only [Fits, ar, ap, and_true] at hf
  refine ab ?_
  cases hm
  refine ⟨.inr rfl, ?_⟩
  exact EE.here (by simp -dsimp [hf])
theorem c_period_Has (t : Tree) (p : List Cell) (m : Motion) (r : Bool × Int) (hm : fP t p m = some r) : PureCall Tryz.prog 28 [.u (.agg [.d (.int .i64 t.States), .d (.sl 2 (List.map Point.row t.Hood)), .d (.sl 2 (List.map Node.row t.Nodes))]), .u (.one (.d (.sl 3 (List.map Cell.row p)))), .u (.agg [.d (.int .i64 m.Period), .d (.int .i64 m.DX), .d (.int .i64 m.DY)])] (.tup [.one (.d (.bool r.1)), .one (.d (.int .i64 r.2))]) := (f_period_Has t p m r hm).pureW
theorem f_ship_Right (t : Tree) (s : Ship) (r : Bool) (hm : dN t s = some r) : PFn Tryz.prog 9 [.u (.agg [.d (.int .i64 t.States), .d (.sl 2 (List.map Point.row t.Hood)), .d (.sl 2 (List.map Node.row t.Nodes))]), .u (.agg [.d (.sl 3 (List.map Cell.row s.Cells)), .d (.int .i64 s.Motion.Period), .d (.int .i64 s.Motion.DX), .d (.int .i64 s.Motion.DY)])] (fun v => v.wk (.u (.one (.d (.bool r))))) := by
 refine aV Tryz.func9 Tryz.ntmps9 rfl (by kernel_rfl) (by simp) fun cx hn => ?_
 unfold dN at hm
 refine srs hn ?_
 simp -dsimp
 refine srs hn ?_
 obtain ⟨y, h1, hm⟩ := bnd hm
 simp -dsimp
 refine ag (k3 s.Cells y h1) (dkL hn) ?_
 simp -dsimp
 refine ac ?_
 obtain ⟨a, j8, hm⟩ := bnd hm
 refine au [(2, .u (.one (.box 2 0))), (3, .u (.one (.box 3 0))), (26, .u (.one (.d (.bool a))))] [(2, .box [.d (.int .i64 t.States), .d (.sl 2 (List.map Point.row t.Hood)), .d (.sl 2 (List.map Node.row t.Nodes))]), (3, .box [.d (.sl 3 (List.map Cell.row s.Cells)), .d (.int .i64 s.Motion.Period), .d (.int .i64 s.Motion.DX), .d (.int .i64 s.Motion.DY)])] (by rfl) (by rfl) ?_ fun ρ σ hf => ?_
 ·replace hm := j8
  clear j8
  refine sr1 hn ?_
  rcases aj hm with ⟨c2, hm⟩ | ⟨c2, hm⟩
  ·simp -dsimp [c2]
   refine a6 ?_
   cases hm
   exact EE.here (by simp -dsimp)
  ·rcases aj hm with ⟨c3, hm⟩ | ⟨c3, hm⟩
   ·simp -dsimp [c2, c3]
    refine a6 ?_
    cases hm
    exact EE.here (by simp -dsimp)
   ·simp -dsimp [c2, c3]
    refine a6 ?_
    cases hm
    exact EE.here (by simp -dsimp)
 ·clear j8
  simp only [Fits, ar, ap, and_true] at hf
  rcases aj hm with ⟨c4, hm⟩ | ⟨c4, hm⟩
  ·refine a8 (by simp -dsimp [hf]) c4 ?_
   refine srs hn ?_
   simp -dsimp
   refine ab (ae ?_)
   cases hm
   refine ⟨.inr rfl, ?_⟩
   exact EE.here (by simp -dsimp)
  ·refine a7 (by simp -dsimp [hf]) c4 ?_
   refine aa (a6 ?_)
   refine srs hn ?_
   obtain ⟨y1, h5, hm⟩ := bnd hm
   simp -dsimp [hf]
   refine ag (c_period_Has t s.Cells s.Motion y1 h5) (dkL hn) ?_
   simp -dsimp
   obtain ⟨a1, j7, hm⟩ := bnd hm
   refine au [(4, .u (.one (.d (.bool a1))))] [] (by rfl) (by rfl) ?_ fun ρ σ hf => ?_
   ·replace hm := j7
    clear j7
    refine sr1 hn ?_
    rcases aj hm with ⟨c6, hm⟩ | ⟨c6, hm⟩
    ·simp -dsimp [c6]
     refine a6 ?_
     cases hm
     exact EE.here (by simp -dsimp)
    ·simp -dsimp [c6]
     refine a6 ?_
     cases hm
     exact EE.here (by simp -dsimp)
   ·clear j7
    simp only [Fits, ar, ap, and_true] at hf
    refine ab ?_
    cases hm
    refine ⟨.inr rfl, ?_⟩
    exact EE.here (by simp -dsimp [hf])
theorem kC (t : Tree) (s : Ship) (r : Bool) (hm : dN t s = some r) : PureCall Tryz.prog 9 [.u (.agg [.d (.int .i64 t.States), .d (.sl 2 (List.map Point.row t.Hood)), .d (.sl 2 (List.map Node.row t.Nodes))]), .u (.agg [.d (.sl 3 (List.map Cell.row s.Cells)), .d (.int .i64 s.Motion.Period), .d (.int .i64 s.Motion.DX), .d (.int .i64 s.Motion.DY)])] (.u (.one (.d (.bool r)))) := (f_ship_Right t s r hm).pureW
def fU (cx : Cx) (_p : List Cell) (_y : Box × Bool) (tt : (List Cell)) (ee : Exit) (ρ : Env) (σ : Sto) : Prop := match tt with
 | out => ee = .exit 0 ∧ EE cx (aS [(5, .u (.one (.own 5000)))] [(5000, .row 3 57 (List.map Cell.row out))]) ρ σ
theorem l_algebra_Home_1 (cx : Cx) (hn : cx.n = 48) (p : List Cell) (y : Box × Bool) {fu : Nat} {stt : Int × (List Cell)} {tt : (List Cell)} (hh : ak (fM p y) fu stt = some tt) {ρ : Env} {σ : Sto}
  (hE : aW (fun stt : Int × (List Cell) => match stt with | (a1, _out) => [(3, .u (.one (.box 3 0))), (5, .u (.one (.own 5000))), (24, .u (.one (.d (.sl 3 (List.map Cell.row p))))), (25, .u (.one (.d (.int .i64 (ah p))))), (26, .u (.one (.d (.int .i64 a1))))]) (fun stt : Int × (List Cell) => match stt with | (_a1, out) => [(3, .box [.d (.int .i64 y.1.X), .d (.int .i64 y.1.Y), .d (.int .i64 y.1.W), .d (.int .i64 y.1.H)]), (5000, .row 3 57 (List.map Cell.row out))]) stt ρ σ) : Swp Tryz.prog cx (.loop (bg [1, 1, 1, 1, 0, 1, 0, 0] (aK Tryz.f23))) ρ σ (fU cx p y tt) := by
 refine aY hE hh (fU cx p y) ?_
 rintro ⟨a1, out⟩ r hm ρ σ hf
 simp only [Fits, ar, ap, and_true] at hf
 unfold fM at hm
 dsimp only at hm
 refine srs hn ?_
 simp -dsimp [hf]
 refine ac ?_
 rcases aj hm with ⟨c6, hm⟩ | ⟨c6, hm⟩
 ·refine a8 (b := (ltB a1 (ah p))) (by simp -dsimp) c6 ?_
  refine aa (a6 (ac (ai ?_)))
  refine srs hn ?_
  obtain ⟨x, h7, hm⟩ := bnd hm
  simp -dsimp [hf, c6, h7]
  refine sr1 hn ?_
  obtain ⟨l1, h8, hm⟩ := bnd hm
  obtain ⟨h8a, h8e⟩ := aN h8
  replace h8e := h8e.symm
  subst h8e
  try simp only [List.length_cons, List.length_nil, Nat.zero_add] at h8a
  simp -dsimp [hf, h8a]
  refine aM ?_
  refine a6 ?_
  refine sr1 hn ?_
  simp -dsimp [hf]
  cases hm
  refine az ?_
  refine EE.step (Wk.move 45 5000 (by decide) (.inl (by decide))) ?_
  exact EE.here (by simp -dsimp [hf])
 ·refine a7 (b := (ltB a1 (ah p))) (by simp -dsimp) c6 ?_
  refine aw ?_
  refine ae ?_
  cases hm
  refine am nofun ?_
  unfold fU
  dsimp only
  refine ⟨rfl, ?_⟩
  exact EE.here (by simp -dsimp [hf, c6])
theorem f_algebra_Home (p : List Cell) (r : List Cell) (hm : dh p = some r) : PFn Tryz.prog 23 [.u (.one (.d (.sl 3 (List.map Cell.row p))))] (fun v => v.wk (.u (.one (.d (.sl 3 (List.map Cell.row r)))))) := by
 refine aV Tryz.func23 Tryz.ntmps23 rfl (by kernel_rfl) (by simp) fun cx hn => ?_
 unfold dh at hm
 refine srs hn ?_
 simp -dsimp
 refine srs hn ?_
 obtain ⟨y, h1, hm⟩ := bnd hm
 simp -dsimp
 refine ag (k3 p y h1) (dkL hn) ?_
 simp -dsimp
 refine ac ?_
 obtain ⟨a, j11, hm⟩ := bnd hm
 refine au [(0, .u (.one (.d (.sl 3 (List.map Cell.row p))))), (3, .u (.one (.box 3 0))), (19, .u (.one (.d (.bool a))))] [(3, .box [.d (.int .i64 y.1.X), .d (.int .i64 y.1.Y), .d (.int .i64 y.1.W), .d (.int .i64 y.1.H)])] (by rfl) (by rfl) ?_ fun ρ σ hf => ?_
 ·replace hm := j11
  clear j11
  refine sr1 hn ?_
  rcases aj hm with ⟨c2, hm⟩ | ⟨c2, hm⟩
  ·simp -dsimp [c2]
   refine a6 ?_
   cases hm
   exact EE.here (by simp -dsimp)
  ·obtain ⟨y1, h3, hm⟩ := bnd hm
   simp -dsimp [c2]
   refine ag (eN p y1 h3) (dkL hn) ?_
   simp -dsimp
   refine a6 ?_
   cases hm
   exact EE.here (by simp -dsimp)
 ·clear j11
  simp only [Fits, ar, ap, and_true] at hf
  rcases aj hm with ⟨c4, hm⟩ | ⟨c4, hm⟩
  ·refine a8 (by simp -dsimp [hf]) c4 ?_
   refine srs hn ?_
   simp -dsimp [hf]
   refine ab (ae ?_)
   cases hm
   refine ⟨.inr rfl, ?_⟩
   exact EE.here (by simp -dsimp)
  ·refine a7 (by simp -dsimp [hf]) c4 ?_
   refine aa (a6 ?_)
   refine srs hn ?_
   obtain ⟨l, h5, hm⟩ := bnd hm
   obtain ⟨⟨h5a, h5b, h5c⟩, rfl⟩ := ka h5
   simp -dsimp [hf, h5b, h5c]
   refine ac ?_
   refine srs hn ?_
   simp -dsimp [hf]
   refine ai ?_
   obtain ⟨out, g9, hm⟩ := bnd hm
   refine aJ (l_algebra_Home_1 cx hn p y g9) (by
     try dsimp only
     refine EE.step (Wk.move 23 5000 (by decide) (.inl (by decide))) ?_
     exact EE.here (by simp -dsimp [hf])
   ) fun ee ρ σ x10 => ?_
   unfold fU at x10
   dsimp only at x10
   obtain ⟨rfl, x10⟩ := x10
   refine av ?_
   refine a6 ?_
   refine aX (by rfl) (by rfl) x10 fun ρ σ hf => ?_
   simp only [Fits, ar, ap, and_true] at hf
   refine srs hn ?_
   simp -dsimp [hf]
   refine ab ?_
   cases hm
   refine ⟨.inr rfl, ?_⟩
   exact EE.here (by simp -dsimp [hf])
theorem c_algebra_Home (p : List Cell) (r : List Cell) (hm : dh p = some r) : PureCall Tryz.prog 23 [.u (.one (.d (.sl 3 (List.map Cell.row p))))] (.u (.one (.d (.sl 3 (List.map Cell.row r))))) := (f_algebra_Home p r hm).pureW
theorem f_ship_Phase (t : Tree) (s : Ship) (n : Int) (r : (List Cell) × Int) (hm : dK t s n = some r) : PFn Tryz.prog 7 [.u (.agg [.d (.int .i64 t.States), .d (.sl 2 (List.map Point.row t.Hood)), .d (.sl 2 (List.map Node.row t.Nodes))]), .u (.agg [.d (.sl 3 (List.map Cell.row s.Cells)), .d (.int .i64 s.Motion.Period), .d (.int .i64 s.Motion.DX), .d (.int .i64 s.Motion.DY)]), .u (.one (.d (.int .i64 n)))] (fun v => v.wk (.tup [.one (.d (.sl 3 (List.map Cell.row r.1))), .one (.d (.int .i64 r.2))])) := by
 refine aV Tryz.func7 Tryz.ntmps7 rfl (by kernel_rfl) (by simp) fun cx hn => ?_
 unfold dK at hm
 refine srs hn ?_
 simp -dsimp
 refine ac (ai ?_)
 refine srs hn ?_
 obtain ⟨y, h1, hm⟩ := bnd hm
 simp -dsimp
 refine ag (kj t y h1) (dkL hn) ?_
 simp -dsimp
 rcases aj hm with ⟨c2, hm⟩ | ⟨c2, hm⟩
 ·refine a8 (b := (aD y)) (by simp -dsimp) c2 ?_
  refine srs hn ?_
  simp -dsimp [c2]
  refine ab (aH (ae ?_))
  cases hm
  refine ⟨.inr rfl, ?_⟩
  exact EE.here (by simp -dsimp)
 ·refine a7 (b := (aD y)) (by simp -dsimp) c2 ?_
  obtain ⟨a, j10, hm⟩ := bnd hm
  refine au [(2, .u (.one (.d (.int .i64 n)))), (3, .u (.one (.box 3 0))), (4, .u (.one (.box 4 0))), (14, .u (.one (.d (.bool a))))] [(3, .box [.d (.int .i64 t.States), .d (.sl 2 (List.map Point.row t.Hood)), .d (.sl 2 (List.map Node.row t.Nodes))]), (4, .box [.d (.sl 3 (List.map Cell.row s.Cells)), .d (.int .i64 s.Motion.Period), .d (.int .i64 s.Motion.DX), .d (.int .i64 s.Motion.DY)])] (by rfl) (by rfl) ?_ fun ρ σ hf => ?_
  ·replace hm := j10
   clear j10
   refine sr1 hn ?_
   rcases aj hm with ⟨c3, hm⟩ | ⟨c3, hm⟩
   ·simp -dsimp [c2, c3]
    refine a6 ?_
    cases hm
    exact EE.here (by simp -dsimp)
   ·rcases aj hm with ⟨c4, hm⟩ | ⟨c4, hm⟩
    ·simp -dsimp [c2, c3, c4]
     refine a6 ?_
     cases hm
     exact EE.here (by simp -dsimp)
    ·obtain ⟨y1, h5, hm⟩ := bnd hm
     simp -dsimp [c2, c3, c4]
     refine ag (kC t s y1 h5) (dkL hn) ?_
     simp -dsimp
     refine a6 ?_
     cases hm
     exact EE.here (by simp -dsimp)
  ·clear j10
   simp only [Fits, ar, ap, and_true] at hf
   rcases aj hm with ⟨c6, hm⟩ | ⟨c6, hm⟩
   ·refine a8 (by simp -dsimp [hf]) c6 ?_
    refine srs hn ?_
    simp -dsimp
    refine ab (aH (ae ?_))
    cases hm
    refine ⟨.inr rfl, ?_⟩
    exact EE.here (by simp -dsimp)
   ·refine a7 (by simp -dsimp [hf]) c6 ?_
    refine aa ?_
    refine aM ?_
    refine a6 ?_
    refine bF aL mixed (by rw [hn]; kernel_rfl) ?_
    obtain ⟨n1, h7, hm⟩ := bnd hm
    obtain ⟨y1, h8, hm⟩ := bnd hm
    simp -dsimp [hf, h7]
    refine al (kE t s.Cells n1 y1 h8) ?_
    simp -dsimp
    refine srs hn ?_
    obtain ⟨y2, h9, hm⟩ := bnd hm
    simp -dsimp
    refine ag (c_algebra_Home y1.1 y2 h9) (dkL hn) ?_
    simp -dsimp
    refine ab ?_
    cases hm
    refine ⟨.inr rfl, ?_⟩
    exact EE.here (by simp -dsimp)
theorem ku (t : Tree) (s : Ship) (n : Int) (r : (List Cell) × Int) (hm : dK t s n = some r) : PureCall Tryz.prog 7 [.u (.agg [.d (.int .i64 t.States), .d (.sl 2 (List.map Point.row t.Hood)), .d (.sl 2 (List.map Node.row t.Nodes))]), .u (.agg [.d (.sl 3 (List.map Cell.row s.Cells)), .d (.int .i64 s.Motion.Period), .d (.int .i64 s.Motion.DX), .d (.int .i64 s.Motion.DY)]), .u (.one (.d (.int .i64 n)))] (.tup [.one (.d (.sl 3 (List.map Cell.row r.1))), .one (.d (.int .i64 r.2))]) := (f_ship_Phase t s n r hm).pureW
theorem f_symmetry_Apply (k : Int) (p : Point) (r : Point) (hm : df k p = some r) : PFn Tryz.prog 34 [.u (.one (.d (.int .i64 k))), .u (.agg [.d (.int .i64 p.X), .d (.int .i64 p.Y)])] (fun v => v.wk (.u (.agg [.d (.int .i64 r.X), .d (.int .i64 r.Y)]))) := by
 refine aV Tryz.func34 Tryz.ntmps34 rfl (by kernel_rfl) (by simp) fun cx hn => ?_
 unfold df at hm
 refine srs hn ?_
 simp -dsimp
 refine srs hn ?_
 obtain ⟨x, h1, hm⟩ := bnd hm
 simp -dsimp [aidx_ok h1, g0_get h1]
 refine srs hn ?_
 simp -dsimp [(@id (aok 4 0 = true) rfl), (@id (aok 4 1 = true) rfl), (@id (aok 4 2 = true) rfl), (@id (aok 4 3 = true) rfl)]
 refine ab ?_
 cases hm
 refine ⟨.inr rfl, ?_⟩
 exact EE.here (by simp -dsimp)
theorem iC (k : Int) (p : Point) (r : Point) (hm : df k p = some r) : PureCall Tryz.prog 34 [.u (.one (.d (.int .i64 k))), .u (.agg [.d (.int .i64 p.X), .d (.int .i64 p.Y)])] (.u (.agg [.d (.int .i64 r.X), .d (.int .i64 r.Y)])) := (f_symmetry_Apply k p r hm).pureW
end Go.Proofs.YtfpjnmhdbgbmmaaGreatDoor
