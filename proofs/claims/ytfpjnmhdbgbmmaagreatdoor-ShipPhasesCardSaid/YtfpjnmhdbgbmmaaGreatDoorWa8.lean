/- That the code does what the functions say (made by cc.py). -/
import Derived.Test.YtfpjnmhdbgbmmaaGreatDoorWa2
import Derived.Test.YtfpjnmhdbgbmmaaGreatDoorWa5
import Derived.Test.YtfpjnmhdbgbmmaaGreatDoorWa7
namespace Go.Proofs.YtfpjnmhdbgbmmaaGreatDoor
open Go.AM Go.Proofs
attribute [-simp] qlookup du fQ Ob.wipe Ob.ren Ob.frz1
def F_algebra_Turn_1 (cx : Cx) (_k : Int) (_p : List Cell) (tt : (List Cell)) (ee : Exit) (ρ : Env) (σ : Sto) : Prop := match tt with
 | out => ee = .exit 0 ∧ EE cx (aS [(6, .u (.one (.own 5000)))] [(5000, .row 3 57 (List.map Cell.row out))]) ρ σ
theorem l_algebra_Turn_1 (cx : Cx) (hn : cx.n = 43) (k : Int) (p : List Cell) {fu : Nat} {stt : Int × (List Cell)} {tt : (List Cell)} (hh : ak (iu k p) fu stt = some tt) {ρ : Env} {σ : Sto}
  (hE : aW (fun stt : Int × (List Cell) => match stt with | (a, _out) => [(0, .u (.one (.d (.int .i64 k)))), (6, .u (.one (.own 5000))), (16, .u (.one (.d (.sl 3 (List.map Cell.row p))))), (17, .u (.one (.d (.int .i64 (ah p))))), (18, .u (.one (.d (.int .i64 a))))]) (fun stt : Int × (List Cell) => match stt with | (_a, out) => [(5000, .row 3 57 (List.map Cell.row out))]) stt ρ σ) : Swp Tryz.prog cx (.loop (bg [1, 1, 1, 0, 1, 0, 0] (aK Tryz.f45))) ρ σ (F_algebra_Turn_1 cx k p tt) := by
 refine aY hE hh (F_algebra_Turn_1 cx k p) ?_
 rintro ⟨a, out⟩ r hm ρ σ hf
 simp only [Fits, ar, ap, and_true] at hf
 unfold iu at hm
 dsimp only at hm
 refine srs hn ?_
 simp -dsimp [hf]
 refine ac ?_
 rcases aj hm with ⟨c4, hm⟩ | ⟨c4, hm⟩
 ·refine a8 (b := (ltB a (ah p))) (by simp -dsimp) c4 ?_
  refine aa (a6 (ac (ai ?_)))
  refine srs hn ?_
  obtain ⟨x, h5, hm⟩ := bnd hm
  simp -dsimp [hf, c4, h5]
  refine srs hn ?_
  obtain ⟨y1, h6, hm⟩ := bnd hm
  simp -dsimp [hf]
  refine ag (iC k (⟨x.X, x.Y⟩ : Point) y1 h6) (dkL hn) ?_
  simp -dsimp
  refine sr1 hn ?_
  obtain ⟨l1, h7, hm⟩ := bnd hm
  obtain ⟨h7a, h7e⟩ := aN h7
  replace h7e := h7e.symm
  subst h7e
  try simp only [List.length_cons, List.length_nil, Nat.zero_add] at h7a
  simp -dsimp [hf, h7a]
  refine aM ?_
  refine a6 ?_
  refine sr1 hn ?_
  simp -dsimp [hf]
  cases hm
  refine az ?_
  refine EE.step (Wk.move 38 5000 (by decide) (.inl (by decide))) ?_
  exact EE.here (by simp -dsimp [hf])
 ·refine a7 (b := (ltB a (ah p))) (by simp -dsimp) c4 ?_
  refine aw ?_
  refine ae ?_
  cases hm
  refine am nofun ?_
  unfold F_algebra_Turn_1
  dsimp only
  refine ⟨rfl, ?_⟩
  exact EE.here (by simp -dsimp [hf, c4])
theorem f_algebra_Turn (k : Int) (p : List Cell) (r : (List Cell) × Int) (hm : fg k p = some r) : PFn Tryz.prog 45 [.u (.one (.d (.int .i64 k))), .u (.one (.d (.sl 3 (List.map Cell.row p))))] (fun v => v.wk (.tup [.one (.d (.sl 3 (List.map Cell.row r.1))), .one (.d (.int .i64 r.2))])) := by
 refine aV Tryz.func45 Tryz.ntmps45 rfl (by kernel_rfl) (by simp) fun cx hn => ?_
 unfold fg at hm
 refine srs hn ?_
 simp -dsimp
 refine ac ?_
 refine srs hn ?_
 obtain ⟨y, h1, hm⟩ := bnd hm
 simp -dsimp
 refine ag (eN p y h1) (dkL hn) ?_
 simp -dsimp
 rcases aj hm with ⟨c2, hm⟩ | ⟨c2, hm⟩
 ·refine a8 (b := (aD y)) (by simp -dsimp) c2 ?_
  refine srs hn ?_
  simp -dsimp [c2]
  refine ab (ae ?_)
  cases hm
  refine ⟨.inr rfl, ?_⟩
  exact EE.here (by simp -dsimp)
 ·refine a7 (b := (aD y)) (by simp -dsimp) c2 ?_
  refine aa (a6 ?_)
  refine srs hn ?_
  obtain ⟨l, h3, hm⟩ := bnd hm
  obtain ⟨⟨h3a, h3b, h3c⟩, rfl⟩ := ka h3
  simp -dsimp [c2, h3b, h3c]
  refine ac ?_
  refine srs hn ?_
  simp -dsimp
  refine ai ?_
  obtain ⟨out, g8, hm⟩ := bnd hm
  refine aJ (l_algebra_Turn_1 cx hn k p g8) (by
    try dsimp only
    refine EE.step (Wk.move 15 5000 (by decide) (.inl (by decide))) ?_
    exact EE.here (by simp -dsimp)
  ) fun ee ρ σ x9 => ?_
  unfold F_algebra_Turn_1 at x9
  dsimp only at x9
  obtain ⟨rfl, x9⟩ := x9
  refine av ?_
  refine a6 ?_
  refine aX (by rfl) (by rfl) x9 fun ρ σ hf => ?_
  simp only [Fits, ar, ap, and_true] at hf
  refine srs hn ?_
  obtain ⟨y1, h10, hm⟩ := bnd hm
  simp -dsimp [hf]
  refine d3 (cT out y1 h10) [5000] [] rfl rfl rfl (by simp -dsimp) rfl (by simp -dsimp [hf]) (by first | rfl | simp) rfl (dkL hn) ?_
  simp -dsimp
  refine srs hn ?_
  simp -dsimp [hf]
  refine ab ?_
  cases hm
  refine ⟨.inr rfl, ?_⟩
  exact EE.here (by simp -dsimp)
theorem c_algebra_Turn (k : Int) (p : List Cell) (r : (List Cell) × Int) (hm : fg k p = some r) : PureCall Tryz.prog 45 [.u (.one (.d (.int .i64 k))), .u (.one (.d (.sl 3 (List.map Cell.row p))))] (.tup [.one (.d (.sl 3 (List.map Cell.row r.1))), .one (.d (.int .i64 r.2))]) := (f_algebra_Turn k p r hm).pureW
theorem n_slices_Clone_api_Pattern_api_Cell (l : List Cell) (r : List Cell) (hm : d8 l = some r) : NewFn Tryz.prog 100 [.u (.one (.d (.sl 3 (List.map Cell.row l))))] (fun o => o = .row 3 57 (List.map Cell.row r)) := by
 refine new_S aL _ Tryz.func100 rfl (by kernel_rfl) (by simp [Tryz.ntmps100]) fun cx hn => ?_
 replace hn : cx.n = 8 := hn.trans Tryz.ntmps100
 have ha := (aN hm).1
 have hr : r = l := (aN hm).2
 clear hm
 subst hr
 simp only [List.length_nil, Nat.zero_add] at ha
 refine srs hn ?_
 simp -dsimp
 refine ac ?_
 refine srs hn ?_
 cases r with
 | nil =>
  simp -dsimp
  refine ⟨?_, ?_⟩
  ·refine a8 (b := true) (by simp -dsimp) rfl ?_
   refine srs hn ?_
   simp -dsimp
   refine ab (ae ?_)
   refine ⟨.inr rfl, ?_⟩; simp -dsimp
  ·refine a7 (b := false) (by simp -dsimp) rfl ?_
   refine aa (a6 ?_)
   refine srs hn ?_
   simp -dsimp
   refine ab ?_
   refine ⟨.inr rfl, ?_⟩; simp -dsimp
 | cons x xs =>
  simp -dsimp
  refine a7 (b := false) (by simp -dsimp) rfl ?_
  refine aa (a6 ?_)
  refine srs hn ?_
  simp only [List.length_cons] at ha
  simp -dsimp [ha]
  refine ab ?_
  refine ⟨.inr rfl, ?_⟩; simp -dsimp
section
attribute [-simp] List.map_set List.set_set
def F_pattern_Shift_1 (cx : Cx) (_dx : Int) (_dy : Int) (_y1 : List Cell) (tt : ((List Cell) × Int) ⊕ (List Cell)) (ee : Exit) (ρ : Env) (σ : Sto) : Prop := match tt with
 | .inl r => ee = .ret ∧ EE cx (fun ρ σ => ∃ v, resV tb ρ σ Tryz.f46.results.toList = some v ∧ (v.frz σ).free = true ∧ (v.frz σ).wk (.tup [.one (.d (.sl 3 (List.map Cell.row r.1))), .one (.d (.int .i64 r.2))])) ρ σ
 | .inr out => ee = .exit 0 ∧ EE cx (aS [(8, .u (.one (.own 24)))] [(24, .row 3 57 (List.map Cell.row out))]) ρ σ
theorem l_pattern_Shift_1 (cx : Cx) (hn : cx.n = 57) (dx : Int) (dy : Int) (y1 : List Cell) {fu : Nat} {stt : Int × (List Cell)} {tt : ((List Cell) × Int) ⊕ (List Cell)} (hh : ak (hD dx dy y1) fu stt = some tt) {ρ : Env} {σ : Sto}
  (hE : aW (fun stt : Int × (List Cell) => match stt with | (a1, _out) => [(1, .u (.one (.d (.int .i64 dx)))), (2, .u (.one (.d (.int .i64 dy)))), (8, .u (.one (.own 24))), (26, .u (.one (.d (.int .i64 (ah y1))))), (27, .u (.one (.d (.int .i64 a1))))]) (fun stt : Int × (List Cell) => match stt with | (_a1, out) => [(24, .row 3 57 (List.map Cell.row out))]) stt ρ σ) : Swp Tryz.prog cx (.loop (bg [1, 1, 1, 1, 0, 1, 0, 0] (aK Tryz.f46))) ρ σ (F_pattern_Shift_1 cx dx dy y1 tt) := by
 refine aY hE hh (F_pattern_Shift_1 cx dx dy y1) ?_
 rintro ⟨a1, out⟩ r hm ρ σ hf
 simp only [Fits, ar, ap, and_true] at hf
 unfold hD at hm
 dsimp only at hm
 refine srs hn ?_
 simp -dsimp [hf]
 refine ac ?_
 rcases aj hm with ⟨c6, hm⟩ | ⟨c6, hm⟩
 ·refine a8 (b := (ltB a1 (ah y1))) (by simp -dsimp) c6 ?_
  refine aa (a6 (ac (ai ?_)))
  refine srs hn ?_
  simp -dsimp [hf, c6]
  refine srs hn ?_
  obtain ⟨x, h7, hm⟩ := bnd hm
  simp -dsimp [hf, h7, bX h7, Cell.rset out a1.toNat (aG .i64 x.X dx) x.Y x.S]
  refine srs hn ?_
  obtain ⟨x1, h8, hm⟩ := bnd hm
  simp -dsimp [hf, h8, bX h8, Cell.rset (out.set a1.toNat (⟨(aG .i64 x.X dx), x.Y, x.S⟩ : Cell)) a1.toNat x1.X (aG .i64 x1.Y dy) x1.S]
  refine srs hn ?_
  obtain ⟨x2, h9, hm⟩ := bnd hm
  obtain ⟨y2, h10, hm⟩ := bnd hm
  simp -dsimp [hf, h9, bX h9]
  refine ag (eE x2 y2 h10) (dkL hn) ?_
  obtain ⟨y3, h11, hm⟩ := bnd hm
  simp -dsimp
  refine ag (iB y2 y3 h11) (dkL hn) ?_
  simp -dsimp
  rcases aj hm with ⟨c12, hm⟩ | ⟨c12, hm⟩
  ·refine a8 (b := (aD y3)) (by simp -dsimp) c12 ?_
   refine srs hn ?_
   simp -dsimp [c12]
   refine ab (aH (ae ?_))
   cases hm
   refine am nofun ?_
   unfold F_pattern_Shift_1
   dsimp only
   refine ⟨rfl, ?_⟩
   exact EE.here (by simp -dsimp [Tryz.results46])
  ·refine a7 (b := (aD y3)) (by simp -dsimp) c12 ?_
   refine aa ?_
   refine aM ?_
   refine a6 ?_
   refine sr1 hn ?_
   simp -dsimp [hf, c12]
   cases hm
   refine az ?_
   exact EE.here (by simp -dsimp [hf])
 ·refine a7 (b := (ltB a1 (ah y1))) (by simp -dsimp) c6 ?_
  refine aw ?_
  refine ae ?_
  cases hm
  refine am nofun ?_
  unfold F_pattern_Shift_1
  dsimp only
  refine ⟨rfl, ?_⟩
  exact EE.here (by simp -dsimp [hf, c6])
theorem f_pattern_Shift (p : List Cell) (dx : Int) (dy : Int) (r : (List Cell) × Int) (hm : gr p dx dy = some r) : PFn Tryz.prog 46 [.u (.one (.d (.sl 3 (List.map Cell.row p)))), .u (.one (.d (.int .i64 dx))), .u (.one (.d (.int .i64 dy)))] (fun v => v.wk (.tup [.one (.d (.sl 3 (List.map Cell.row r.1))), .one (.d (.int .i64 r.2))])) := by
 refine aV Tryz.func46 Tryz.ntmps46 rfl (by kernel_rfl) (by simp) fun cx hn => ?_
 unfold gr at hm
 refine srs hn ?_
 simp -dsimp
 refine ac ?_
 refine srs hn ?_
 obtain ⟨y, h1, hm⟩ := bnd hm
 simp -dsimp
 refine ag (eN p y h1) (dkL hn) ?_
 simp -dsimp
 rcases aj hm with ⟨c2, hm⟩ | ⟨c2, hm⟩
 ·refine a8 (b := (aD y)) (by simp -dsimp) c2 ?_
  refine srs hn ?_
  simp -dsimp [c2]
  refine ab (ae ?_)
  cases hm
  refine ⟨.inr rfl, ?_⟩
  exact EE.here (by simp -dsimp)
 ·refine a7 (b := (aD y)) (by simp -dsimp) c2 ?_
  refine aa (a6 (ac ?_))
  obtain ⟨a, j15, hm⟩ := bnd hm
  refine au [(0, .u (.one (.d (.sl 3 (List.map Cell.row p))))), (1, .u (.one (.d (.int .i64 dx)))), (2, .u (.one (.d (.int .i64 dy)))), (22, .u (.one (.d (.bool a))))] [] (by rfl) (by rfl) ?_ fun ρ σ hf => ?_
  ·replace hm := j15
   clear j15
   refine sr1 hn ?_
   rcases aj hm with ⟨c3, hm⟩ | ⟨c3, hm⟩
   ·simp -dsimp [c2, c3]
    refine a6 ?_
    cases hm
    exact EE.here (by simp -dsimp)
   ·simp -dsimp [c2, c3]
    refine a6 ?_
    cases hm
    exact EE.here (by simp -dsimp)
  ·clear j15
   simp only [Fits, ar, ap, and_true] at hf
   rcases aj hm with ⟨c4, hm⟩ | ⟨c4, hm⟩
   ·refine a8 (by simp -dsimp [hf]) c4 ?_
    refine srs hn ?_
    simp -dsimp
    refine ab (ae ?_)
    cases hm
    refine ⟨.inr rfl, ?_⟩
    exact EE.here (by simp -dsimp)
   ·refine a7 (by simp -dsimp [hf]) c4 ?_
    refine aa (a6 ?_)
    refine srs hn ?_
    obtain ⟨y1, h5, hm⟩ := bnd hm
    simp -dsimp [hf]
    refine callL_new (n_slices_Clone_api_Pattern_api_Cell p y1 h5) (dkL hn) (by decide) ?_
    simp -dsimp
    refine ac ?_
    refine srs hn ?_
    simp -dsimp
    refine ai ?_
    obtain ⟨o_, g13, hm⟩ := bnd hm
    refine aJ (l_pattern_Shift_1 cx hn dx dy y1 g13) (by
      try dsimp only
      exact EE.here (by simp -dsimp [hf])
    ) fun ee ρ σ x14 => ?_
    rcases o_ with r | out
    ·unfold F_pattern_Shift_1 at x14
     dsimp only at x14
     obtain ⟨rfl, x14⟩ := x14
     refine aH (ae ?_)
     cases hm
     exact ⟨.inr rfl, x14⟩
    ·unfold F_pattern_Shift_1 at x14
     dsimp only at x14
     obtain ⟨rfl, x14⟩ := x14
     refine av ?_
     refine a6 ?_
     refine aX (by rfl) (by rfl) x14 fun ρ σ hf => ?_
     simp only [Fits, ar, ap, and_true] at hf
     refine srs hn ?_
     simp -dsimp [hf]
     refine ab ?_
     cases hm
     refine ⟨.inr rfl, ?_⟩
     exact EE.here (by simp -dsimp [hf])
theorem c_pattern_Shift (p : List Cell) (dx : Int) (dy : Int) (r : (List Cell) × Int) (hm : gr p dx dy = some r) : PureCall Tryz.prog 46 [.u (.one (.d (.sl 3 (List.map Cell.row p)))), .u (.one (.d (.int .i64 dx))), .u (.one (.d (.int .i64 dy)))] (.tup [.one (.d (.sl 3 (List.map Cell.row r.1))), .one (.d (.int .i64 r.2))]) := (f_pattern_Shift p dx dy r hm).pureW
end
theorem f_ship_Place (t : Tree) (ships : List Ship) (x : Shot) (r : (List Cell) × Int) (hm : fN t ships x = some r) : PFn Tryz.prog 19 [.u (.agg [.d (.int .i64 t.States), .d (.sl 2 (List.map Point.row t.Hood)), .d (.sl 2 (List.map Node.row t.Nodes))]), .u (.one (.d (.sl 4 (List.map Ship.row ships)))), .u (.agg [.d (.int .i64 x.Ship), .d (.int .i64 x.Phase), .d (.int .i64 x.Sym), .d (.int .i64 x.X), .d (.int .i64 x.Y)])] (fun v => v.wk (.tup [.one (.d (.sl 3 (List.map Cell.row r.1))), .one (.d (.int .i64 r.2))])) := by
 refine aV Tryz.func19 Tryz.ntmps19 rfl (by kernel_rfl) (by simp) fun cx hn => ?_
 unfold fN at hm
 refine srs hn ?_
 simp -dsimp
 refine ac (ai ?_)
 refine srs hn ?_
 obtain ⟨y, h1, hm⟩ := bnd hm
 simp -dsimp
 refine ag (kj t y h1) (dkL hn) ?_
 simp -dsimp
 rcases aj hm with ⟨c2, hm⟩ | ⟨c2, hm⟩
 ·refine a8 (b := (aD y)) (by simp -dsimp) c2 ?_
  refine srs hn ?_
  simp -dsimp [c2]
  refine ab (aH (ae ?_))
  cases hm
  refine ⟨.inr rfl, ?_⟩
  exact EE.here (by simp -dsimp)
 ·refine a7 (b := (aD y)) (by simp -dsimp) c2 ?_
  obtain ⟨a, j15, hm⟩ := bnd hm
  refine au [(1, .u (.one (.d (.sl 4 (List.map Ship.row ships))))), (3, .u (.one (.box 3 0))), (5, .u (.one (.box 5 0))), (14, .u (.one (.d (.bool a))))] [(3, .box [.d (.int .i64 t.States), .d (.sl 2 (List.map Point.row t.Hood)), .d (.sl 2 (List.map Node.row t.Nodes))]), (5, .box [.d (.int .i64 x.Ship), .d (.int .i64 x.Phase), .d (.int .i64 x.Sym), .d (.int .i64 x.X), .d (.int .i64 x.Y)])] (by rfl) (by rfl) ?_ fun ρ σ hf => ?_
  ·replace hm := j15
   clear j15
   refine sr1 hn ?_
   rcases aj hm with ⟨c3, hm⟩ | ⟨c3, hm⟩
   ·simp -dsimp [c2, c3]
    refine a6 ?_
    cases hm
    exact EE.here (by simp -dsimp)
   ·simp -dsimp [c2, c3]
    refine a6 ?_
    cases hm
    exact EE.here (by simp -dsimp)
  ·clear j15
   simp only [Fits, ar, ap, and_true] at hf
   rcases aj hm with ⟨c4, hm⟩ | ⟨c4, hm⟩
   ·refine a8 (by simp -dsimp [hf]) c4 ?_
    refine srs hn ?_
    simp -dsimp
    refine ab (aH (ae ?_))
    cases hm
    refine ⟨.inr rfl, ?_⟩
    exact EE.here (by simp -dsimp)
   ·refine a7 (by simp -dsimp [hf]) c4 ?_
    obtain ⟨a1, j14, hm⟩ := bnd hm
    refine au [(1, .u (.one (.d (.sl 4 (List.map Ship.row ships))))), (3, .u (.one (.box 3 0))), (5, .u (.one (.box 5 0))), (25, .u (.one (.d (.bool a1))))] [(3, .box [.d (.int .i64 t.States), .d (.sl 2 (List.map Point.row t.Hood)), .d (.sl 2 (List.map Node.row t.Nodes))]), (5, .box [.d (.int .i64 x.Ship), .d (.int .i64 x.Phase), .d (.int .i64 x.Sym), .d (.int .i64 x.X), .d (.int .i64 x.Y)])] (by rfl) (by rfl) ?_ fun ρ σ hf => ?_
    ·replace hm := j14
     clear j14
     refine sr1 hn ?_
     rcases aj hm with ⟨c5, hm⟩ | ⟨c5, hm⟩
     ·simp -dsimp [hf, c5]
      refine a6 ?_
      cases hm
      exact EE.here (by simp -dsimp [hf])
     ·simp -dsimp [hf, c5]
      refine a6 ?_
      cases hm
      exact EE.here (by simp -dsimp [hf])
    ·clear j14
     simp only [Fits, ar, ap, and_true] at hf
     rcases aj hm with ⟨c6, hm⟩ | ⟨c6, hm⟩
     ·refine a8 (by simp -dsimp [hf]) c6 ?_
      refine srs hn ?_
      simp -dsimp
      refine ab (aH (ae ?_))
      cases hm
      refine ⟨.inr rfl, ?_⟩
      exact EE.here (by simp -dsimp)
     ·refine a7 (by simp -dsimp [hf]) c6 ?_
      refine aa ?_
      refine aM ?_
      refine a6 ?_
      refine bF aL mixed (by rw [hn]; kernel_rfl) ?_
      obtain ⟨x1, h7, hm⟩ := bnd hm
      obtain ⟨y1, h8, hm⟩ := bnd hm
      simp -dsimp [hf, h7]
      refine al (ku t x1 x.Phase y1 h8) ?_
      simp -dsimp
      refine ac ?_
      refine srs hn ?_
      simp -dsimp
      rcases aj hm with ⟨c9, hm⟩ | ⟨c9, hm⟩
      ·refine a8 (b := (neB y1.2 0)) (by simp -dsimp) c9 ?_
       refine srs hn ?_
       simp -dsimp [c9]
       refine ab (ae ?_)
       cases hm
       refine ⟨.inr rfl, ?_⟩
       exact EE.here (by simp -dsimp)
      ·refine a7 (b := (neB y1.2 0)) (by simp -dsimp) c9 ?_
       refine aa (a6 (ac ?_))
       refine srs hn ?_
       obtain ⟨y2, h10, hm⟩ := bnd hm
       simp -dsimp [hf, c9]
       refine ag (c_algebra_Turn x.Sym y1.1 y2 h10) (dkL hn) ?_
       simp -dsimp
       refine srs hn ?_
       simp -dsimp
       rcases aj hm with ⟨c11, hm⟩ | ⟨c11, hm⟩
       ·refine a8 (b := (neB y2.2 0)) (by simp -dsimp) c11 ?_
        refine srs hn ?_
        simp -dsimp [c11]
        refine ab (ae ?_)
        cases hm
        refine ⟨.inr rfl, ?_⟩
        exact EE.here (by simp -dsimp)
       ·refine a7 (b := (neB y2.2 0)) (by simp -dsimp) c11 ?_
        refine aa (a6 ?_)
        refine bF aL mixed (by rw [hn]; kernel_rfl) ?_
        obtain ⟨y3, h12, hm⟩ := bnd hm
        simp -dsimp [c11]
        refine al (c_algebra_Home y2.1 y3 h12) ?_
        obtain ⟨y4, h13, hm⟩ := bnd hm
        simp -dsimp [hf]
        refine al (c_pattern_Shift y3 x.X x.Y y4 h13) ?_
        simp -dsimp
        refine ab ?_
        cases hm
        refine ⟨.inr rfl, ?_⟩
        exact EE.here (by simp -dsimp)
theorem c_ship_Place (t : Tree) (ships : List Ship) (x : Shot) (r : (List Cell) × Int) (hm : fN t ships x = some r) : PureCall Tryz.prog 19 [.u (.agg [.d (.int .i64 t.States), .d (.sl 2 (List.map Point.row t.Hood)), .d (.sl 2 (List.map Node.row t.Nodes))]), .u (.one (.d (.sl 4 (List.map Ship.row ships)))), .u (.agg [.d (.int .i64 x.Ship), .d (.int .i64 x.Phase), .d (.int .i64 x.Sym), .d (.int .i64 x.X), .d (.int .i64 x.Y)])] (.tup [.one (.d (.sl 3 (List.map Cell.row r.1))), .one (.d (.int .i64 r.2))]) := (f_ship_Place t ships x r hm).pureW
theorem n_slices_Clone_int_int (l : List Int) (r : List Int) (hm : cX l = some r) : NewFn Tryz.prog 217 [.u (.one (.d (.sl 1 (List.map (rI .i64) l))))] (fun o => o = .row 1 3 (List.map (rI .i64) r)) := by
 refine new_S aL _ Tryz.func217 rfl (by kernel_rfl) (by simp [Tryz.ntmps217]) fun cx hn => ?_
 replace hn : cx.n = 8 := hn.trans Tryz.ntmps217
 have ha := (aN hm).1
 have hr : r = l := (aN hm).2
 clear hm
 subst hr
 simp only [List.length_nil, Nat.zero_add] at ha
 refine srs hn ?_
 simp -dsimp
 refine ac ?_
 refine srs hn ?_
 cases r with
 | nil =>
  simp -dsimp
  refine ⟨?_, ?_⟩
  ·refine a8 (b := true) (by simp -dsimp) rfl ?_
   refine srs hn ?_
   simp -dsimp
   refine ab (ae ?_)
   refine ⟨.inr rfl, ?_⟩; simp -dsimp
  ·refine a7 (b := false) (by simp -dsimp) rfl ?_
   refine aa (a6 ?_)
   refine srs hn ?_
   simp -dsimp
   refine ab ?_
   refine ⟨.inr rfl, ?_⟩; simp -dsimp
 | cons x xs =>
  simp -dsimp
  refine a7 (b := false) (by simp -dsimp) rfl ?_
  refine aa (a6 ?_)
  refine srs hn ?_
  simp only [List.length_cons] at ha
  simp -dsimp [ha]
  refine ab ?_
  refine ⟨.inr rfl, ?_⟩; simp -dsimp
theorem f_reduce_Reduce_1 (x : Int) (next : List Int) (r : List Int) (hm : dH x next = some r) : PFn Tryz.prog 166 [.u (.one (.d (.int .i64 x))), .u (.one (.d (.sl 1 (List.map (rI .i64) next))))] (fun v => v.wk (.u (.one (.d (.sl 1 (List.map (rI .i64) r)))))) := by
 refine aV Tryz.func166 Tryz.ntmps166 rfl (by kernel_rfl) (by simp) fun cx hn => ?_
 unfold dH at hm
 refine srs hn ?_
 simp -dsimp
 refine srs hn ?_
 simp -dsimp
 refine ab ?_
 cases hm
 refine ⟨.inr rfl, ?_⟩
 exact EE.here (by simp -dsimp)
theorem c_reduce_Reduce_1 (x : Int) (next : List Int) (r : List Int) (hm : dH x next = some r) : PureCall Tryz.prog 166 [.u (.one (.d (.int .i64 x))), .u (.one (.d (.sl 1 (List.map (rI .i64) next))))] (.u (.one (.d (.sl 1 (List.map (rI .i64) r))))) := (f_reduce_Reduce_1 x next r hm).pureW
theorem g_internal_strconv_AppendInt_N (i : Int) (base : Int) (r : List Int) (hm : cu i base = some r) : GFn Tryz.prog 189 [.u (.one (.d .nil)), .u (.one (.d (.int .i64 i))), .u (.one (.d (.int .i64 base)))] [] (.u (.one (.own 1000000))) [some (.row 1 5 (List.map (rI .u8) r))] := by
 refine cV aL _ Tryz.func189 rfl (by kernel_rfl) (by simp [Tryz.ntmps189]) (by simp) (by first | rfl | simp) (by first | rfl | simp) fun cx hn hk => ?_
 replace hn : cx.n = 21 := hn.trans Tryz.ntmps189
 replace hk : cx.k = 0 := hk
 unfold cu at hm
 refine srs hn ?_
 simp -dsimp
 refine srs hn ?_
 simp -dsimp
 obtain ⟨⟨u, dst⟩, j4, hm⟩ := bnd hm
 refine au [(0, .u (.one (.own 5000))), (2, .u (.one (.d (.int .i64 base)))), (7, .u (.one (.d (.int .u64 u))))] [(5000, .row 1 5 (List.map (rI .u8) dst))] (by rfl) (by rfl) ?_ fun ρ σ hf => ?_
 ·replace hm := j4
  clear j4
  refine srs hn ?_
  simp -dsimp
  rcases aj hm with ⟨c1, hm⟩ | ⟨c1, hm⟩
  ·refine a8 (by simp -dsimp) c1 ?_
   refine srs hn ?_
   obtain ⟨l, h2, hm⟩ := bnd hm
   obtain ⟨h2a, h2e⟩ := aN h2
   replace h2e := h2e.symm
   subst h2e
   try simp only [List.length_cons, List.length_nil, Nat.zero_add] at h2a
   try simp only [Nat.mul_one, Nat.reduceLeDiff] at h2a
   simp -dsimp [c1]
   refine sr1 hn ?_
   simp -dsimp
   refine a6 ?_
   cases hm
   refine EE.step (Wk.move 14 5000 (by decide) (.inl (by decide))) ?_
   exact EE.here (by simp -dsimp)
  ·refine a7 (by simp -dsimp) c1 ?_
   refine aa (a6 ?_)
   cases hm
   refine EE.step (Wk.own0 0 5000 1 5 (by simp -dsimp [c1]) (by decide)) ?_
   exact EE.here (by simp -dsimp [c1])
 ·clear j4
  simp only [Fits, ar, ap, and_true] at hf
  refine srs hn ?_
  obtain ⟨y, h3, hm⟩ := bnd hm
  simp -dsimp [hf]
  refine d3 (g_internal_strconv_AppendUint_o dst u base y h3) [5000] [5001] rfl rfl rfl (by simp -dsimp) rfl (by simp -dsimp [hf]) (by first | rfl | simp) rfl (dkL hn) ?_
  simp -dsimp
  refine ab ?_
  cases hm
  refine ⟨.inr rfl, ?_⟩
  refine EE.step (Wk.move 5001 1000000 (by decide) (.inr (by rw [hk]; decide))) ?_
  exact EE.here (by simp -dsimp)
theorem g_strconv_AppendInt_N (i : Int) (base : Int) (r : List Int) (hm : f6 i base = some r) : GFn Tryz.prog 143 [.u (.one (.d .nil)), .u (.one (.d (.int .i64 i))), .u (.one (.d (.int .i64 base)))] [] (.u (.one (.own 1000000))) [some (.row 1 5 (List.map (rI .u8) r))] := by
 refine cV aL _ Tryz.func143 rfl (by kernel_rfl) (by simp [Tryz.ntmps143]) (by simp) (by first | rfl | simp) (by first | rfl | simp) fun cx hn hk => ?_
 replace hn : cx.n = 11 := hn.trans Tryz.ntmps143
 replace hk : cx.k = 0 := hk
 unfold f6 at hm
 refine srs hn ?_
 simp -dsimp
 refine srs hn ?_
 obtain ⟨y, h1, hm⟩ := bnd hm
 simp -dsimp
 refine d3 (g_internal_strconv_AppendInt_N i base y h1) [] [5000] rfl rfl rfl (by simp -dsimp) rfl (by simp -dsimp) (by first | rfl | simp) rfl (dkL hn) ?_
 simp -dsimp
 refine ab ?_
 cases hm
 refine ⟨.inr rfl, ?_⟩
 refine EE.step (Wk.move 5000 1000000 (by decide) (.inr (by rw [hk]; decide))) ?_
 exact EE.here (by simp -dsimp)
def F_reduce_builder_node_o_1 (cx : Cx) (bnodes : List Node) (bknown : List (List UInt8 × Int)) (level : Int) (next : List Int) (tt : (List Int)) (ee : Exit) (ρ : Env) (σ : Sto) : Prop := match tt with
 | keyv => ee = .exit 0 ∧ EE cx (aS [(0, .u (.one (.box 1000000 0))), (1, .u (.one (.d (.int .i64 level)))), (2, .u (.one (.d (.sl 1 (List.map (rI .i64) next))))), (7, .u (.one (.own 5002)))] [(5002, .row 1 5 (List.map (rI .u8) keyv)), (1000000, .box [.own 1000001, .map 1000002]), (1000001, .row 2 75 (List.map Node.row bnodes)), (1000002, mOb .str kS (uL (L.int .i64)) bknown)]) ρ σ
theorem l_reduce_builder_node_o_1 (cx : Cx) (hn : cx.n = 68) (_hk : cx.k = 3) (bnodes : List Node) (bknown : List (List UInt8 × Int)) (level : Int) (next : List Int) {fu : Nat} {stt : Int × (List Int)} {tt : (List Int)} (hh : ak (dw bnodes bknown level next) fu stt = some tt) {ρ : Env} {σ : Sto}
  (hE : aW (fun stt : Int × (List Int) => match stt with | (a, _keyv) => [(0, .u (.one (.box 1000000 0))), (1, .u (.one (.d (.int .i64 level)))), (2, .u (.one (.d (.sl 1 (List.map (rI .i64) next))))), (7, .u (.one (.own 5002))), (14, .u (.one (.d (.sl 1 (List.map (rI .i64) next))))), (15, .u (.one (.d (.int .i64 (ah next))))), (16, .u (.one (.d (.int .i64 a))))]) (fun stt : Int × (List Int) => match stt with | (_a, keyv) => [(5002, .row 1 5 (List.map (rI .u8) keyv)), (1000000, .box [.own 1000001, .map 1000002]), (1000001, .row 2 75 (List.map Node.row bnodes)), (1000002, mOb .str kS (uL (L.int .i64)) bknown)]) stt ρ σ) : Swp Tryz.prog cx (.loop (bg [1, 1, 0, 1, 0, 0] (aK Tryz.f167))) ρ σ (F_reduce_builder_node_o_1 cx bnodes bknown level next tt) := by
 refine aY hE hh (F_reduce_builder_node_o_1 cx bnodes bknown level next) ?_
 rintro ⟨a, keyv⟩ r hm ρ σ hf
 simp only [Fits, ar, ap, and_true] at hf
 unfold dw at hm
 dsimp only at hm
 refine srs hn ?_
 simp -dsimp [hf]
 refine ac ?_
 rcases aj hm with ⟨c2, hm⟩ | ⟨c2, hm⟩
 ·refine a8 (b := (ltB a (ah next))) (by simp -dsimp) c2 ?_
  refine aa (a6 (ac (ai ?_)))
  refine srs hn ?_
  obtain ⟨x, h3, hm⟩ := bnd hm
  simp -dsimp [hf, c2, h3]
  refine sr1 hn ?_
  obtain ⟨l, h4, hm⟩ := bnd hm
  obtain ⟨h4a, h4e⟩ := aN h4
  replace h4e := h4e.symm
  subst h4e
  try simp only [List.length_cons, List.length_nil, Nat.zero_add] at h4a
  try simp only [Nat.mul_one, Nat.reduceLeDiff] at h4a
  obtain ⟨y1, h5, hm⟩ := bnd hm
  simp -dsimp [hf, h4a]
  refine d3 (g_strconv_AppendInt_o (keyv ++ [32]) x 10 y1 h5) [22] [5001] rfl rfl rfl (by simp -dsimp) rfl (by simp -dsimp) (by first | rfl | simp) rfl (dkL hn) ?_
  simp -dsimp
  refine aM ?_
  refine a6 ?_
  refine sr1 hn ?_
  simp -dsimp [hf]
  cases hm
  refine az ?_
  refine EE.step (Wk.move 5001 5002 (by decide) (.inl (by decide))) ?_
  exact EE.here (by simp -dsimp [hf])
 ·refine a7 (b := (ltB a (ah next))) (by simp -dsimp) c2 ?_
  refine aw ?_
  refine ae ?_
  cases hm
  refine am nofun ?_
  unfold F_reduce_builder_node_o_1
  dsimp only
  refine ⟨rfl, ?_⟩
  exact EE.here (by simp -dsimp [hf, c2])
theorem g_reduce_builder_node_o (bnodes : List Node) (bknown : List (List UInt8 × Int)) (level : Int) (next : List Int) (r : Int × (List (List UInt8 × Int)) × (List Node)) (hm : cH bnodes bknown level next = some r) : GFn Tryz.prog 167 [.u (.one (.box 1000000 0)), .u (.one (.d (.int .i64 level))), .u (.one (.d (.sl 1 (List.map (rI .i64) next))))] [.box [.own 1000001, .map 1000002], .row 2 75 (List.map Node.row bnodes), mOb .str kS (uL (L.int .i64)) bknown] (.u (.one (.d (.int .i64 r.1)))) [some (.box [.own 1000003, .map 1000002]), none, some (mOb .str kS (uL (L.int .i64)) r.2.1), some (.row 2 75 (List.map Node.row r.2.2))] := by
 refine cV aL _ Tryz.func167 rfl (by kernel_rfl) (by simp [Tryz.ntmps167]) (by simp) (by first | rfl | simp) (by first | rfl | simp) fun cx hn hk => ?_
 replace hn : cx.n = 68 := hn.trans Tryz.ntmps167
 replace hk : cx.k = 3 := hk
 unfold cH at hm
 refine srs hn ?_
 simp -dsimp
 refine srs hn ?_
 obtain ⟨y, h1, hm⟩ := bnd hm
 simp -dsimp
 refine d3 (g_strconv_AppendInt_N level 10 y h1) [] [5000] rfl rfl rfl (by simp -dsimp) rfl (by simp -dsimp) (by first | rfl | simp) rfl (dkL hn) ?_
 simp -dsimp
 refine ac ?_
 refine srs hn ?_
 simp -dsimp
 refine ai ?_
 obtain ⟨keyv, g6, hm⟩ := bnd hm
 refine aJ (l_reduce_builder_node_o_1 cx hn hk bnodes bknown level next g6) (by
   try dsimp only
   refine EE.step (Wk.move 5000 5002 (by decide) (.inl (by decide))) ?_
   exact EE.here (by simp -dsimp)
 ) fun ee ρ σ x7 => ?_
 unfold F_reduce_builder_node_o_1 at x7
 dsimp only at x7
 obtain ⟨rfl, x7⟩ := x7
 refine av ?_
 refine a6 ?_
 refine aX (by rfl) (by rfl) x7 fun ρ σ hf => ?_
 simp only [Fits, ar, ap, and_true] at hf
 refine ac ?_
 refine bF aL mixed (by rw [hn]; kernel_rfl) ?_
 obtain ⟨u, h8, hm⟩ := bnd hm
 simp -dsimp [hf, kckS_len h8, (@id (lkM (jY (mOb .str kS (uL (L.int .i64)) bknown) (.str (ofBytes keyv))) true (.one (.d (.int .i64 0))) = some (.tup [.one (.d (.int .i64 (dV bknown (ofBytes keyv) 0))), .one (.d (.bool (jS bknown (ofBytes keyv))))])) (lk_two (ofBytes keyv) 0))]
 refine srs hn ?_
 simp -dsimp
 rcases aj hm with ⟨c9, hm⟩ | ⟨c9, hm⟩
 ·refine a8 (b := (jS bknown (ofBytes keyv))) (by simp -dsimp) c9 ?_
  refine srs hn ?_
  simp -dsimp [c9]
  refine ab (ae ?_)
  cases hm
  refine ⟨.inr rfl, ?_⟩
  refine EE.step (Wk.move 1000001 1000003 (by decide) (.inr (by rw [hk]; decide))) ?_
  exact EE.here (by simp -dsimp [hf])
 ·refine a7 (b := (jS bknown (ofBytes keyv))) (by simp -dsimp) c9 ?_
  refine aa (a6 ?_)
  refine srs hn ?_
  obtain ⟨l, h10, hm⟩ := bnd hm
  obtain ⟨h10a, h10e⟩ := aN h10
  replace h10e := h10e.symm
  subst h10e
  try simp only [List.length_cons, List.length_nil, Nat.zero_add] at h10a
  simp -dsimp [hf, c9, h10a]
  refine sw_drNs aL mixed 12 (by rw [hn]; kernel_rfl) ?_
  dsimp only [List.take, List.drop]
  simp -dsimp [hf, kckS_len h8, (@id (msetOb (mOb .str kS (uL (L.int .i64)) bknown) (.str (ofBytes keyv)) (.one (.d (.int .i64 (aC .i64 ((ah bnodes) + 1) 1)))) = mOb .str kS (uL (L.int .i64)) (io bknown (ofBytes keyv) (aC .i64 ((ah bnodes) + 1) 1))) (mset_ob .str kS (uL (L.int .i64)) bknown (ofBytes keyv) (aC .i64 ((ah bnodes) + 1) 1)))]
  refine srs hn ?_
  simp -dsimp [hf]
  refine ab ?_
  cases hm
  refine ⟨.inr rfl, ?_⟩
  refine EE.step (Wk.move 47 1000003 (by decide) (.inr (by rw [hk]; decide))) ?_
  exact EE.here (by simp -dsimp)
section
attribute [-simp] List.map_set List.set_set
def H_reduce_ordered_1_o_o_o_o (rcv : (Int → (List Int) → (List Node) → (List Node) → Option (Int × (List Int) × (List Node)))) : Prop := ∀ (k : Int) (a : List Int) (a1 : List Node) (cv : List Node) (r : Int × (List Int) × (List Node)), rcv k a a1 cv = some r → GFn Tryz.prog 218 [.u (.one (.d (.int .i64 k))), .u (.one (.box 1000000 0)), .u (.one (.box 1000002 0)), .u (.one (.box 1000003 0)), .u (.one (.box 1000004 0))] [.box [.own 1000001], .row 1 3 (List.map (rI .i64) a), .box [.d (.sl 2 (List.map Node.row a1))], .box [.fn 218 [.box 1000000 0, .box 1000002 0, .box 1000003 0, .box 1000004 0]], .box [.own 1000005], .row 2 75 (List.map Node.row cv)] (.u (.one (.d (.int .i64 r.1)))) [some (.box [.own 1000001]), some (.row 1 3 (List.map (rI .i64) r.2.1)), some (.box [.d (.sl 2 (List.map Node.row a1))]), some (.box [.fn 218 [.box 1000000 0, .box 1000002 0, .box 1000003 0, .box 1000004 0]]), some (.box [.own 1000006]), none, some (.row 2 75 (List.map Node.row r.2.2))]
def F_reduce_ordered_1_o_o_o_o_1 (cx : Cx) (_rcv : (Int → (List Int) → (List Node) → (List Node) → Option (Int × (List Int) × (List Node)))) (k : Int) (a1 : List Node) (x1 : Node) (_y : List Int) (tt : ((List Int) × (List Node) × (List Int))) (ee : Exit) (ρ : Env) (σ : Sto) : Prop := match tt with
 | (l, l1, l2) => ee = .exit 0 ∧ EE cx (aS [(0, .u (.one (.d (.int .i64 k)))), (1, .u (.one (.box 1000000 0))), (4, .u (.one (.box 1000004 0))), (7, .u (.one (.box 7 0)))] [(7, .box [.d (.int .i64 x1.Level), .own 30]), (30, .row 1 3 (List.map (rI .i64) l)), (5000, .row 2 75 (List.map Node.row l1)), (1000000, .box [.own 1000001]), (1000001, .row 1 3 (List.map (rI .i64) l2)), (1000002, .box [.d (.sl 2 (List.map Node.row a1))]), (1000003, .box [.fn 218 [.box 1000000 0, .box 1000002 0, .box 1000003 0, .box 1000004 0]]), (1000004, .box [.own 5000])]) ρ σ
theorem l_reduce_ordered_1_o_o_o_o_1 (cx : Cx) (hn : cx.n = 63) (_hk : cx.k = 6) (rcv : (Int → (List Int) → (List Node) → (List Node) → Option (Int × (List Int) × (List Node)))) (k : Int) (a1 : List Node) (x1 : Node) (y : List Int) (hrcv : H_reduce_ordered_1_o_o_o_o rcv) {fu : Nat} {stt : Int × (List Int) × (List Node) × (List Int)} {tt : ((List Int) × (List Node) × (List Int))} (hh : ak (cR rcv k a1 x1 y) fu stt = some tt) {ρ : Env} {σ : Sto}
  (hE : aW (fun stt : Int × (List Int) × (List Node) × (List Int) => match stt with | (a2, _l, _l2, _l1) => [(0, .u (.one (.d (.int .i64 k)))), (1, .u (.one (.box 1000000 0))), (3, .u (.one (.box 1000003 0))), (4, .u (.one (.box 1000004 0))), (7, .u (.one (.box 7 0))), (33, .u (.one (.own 30))), (34, .u (.one (.d (.int .i64 (ah y))))), (35, .u (.one (.d (.int .i64 a2))))]) (fun stt : Int × (List Int) × (List Node) × (List Int) => match stt with | (_a2, l, l2, l1) => [(7, .box [.d (.int .i64 x1.Level), .own 30]), (30, .row 1 3 (List.map (rI .i64) l)), (5000, .row 2 75 (List.map Node.row l2)), (1000000, .box [.own 1000001]), (1000001, .row 1 3 (List.map (rI .i64) l1)), (1000002, .box [.d (.sl 2 (List.map Node.row a1))]), (1000003, .box [.fn 218 [.box 1000000 0, .box 1000002 0, .box 1000003 0, .box 1000004 0]]), (1000004, .box [.own 5000])]) stt ρ σ) : Swp Tryz.prog cx (.loop (bg [1, 1, 1, 0, 1, 0, 0] (aK Tryz.f218))) ρ σ (F_reduce_ordered_1_o_o_o_o_1 cx rcv k a1 x1 y tt) := by
 refine aY hE hh (F_reduce_ordered_1_o_o_o_o_1 cx rcv k a1 x1 y) ?_
 rintro ⟨a2, l, l2, l1⟩ r hm ρ σ hf
 simp only [Fits, ar, ap, and_true] at hf
 unfold cR at hm
 dsimp only at hm
 refine srs hn ?_
 simp -dsimp [hf]
 refine ac ?_
 rcases aj hm with ⟨c5, hm⟩ | ⟨c5, hm⟩
 ·refine a8 (b := (ltB a2 (ah y))) (by simp -dsimp) c5 ?_
  refine aa (a6 ?_)
  obtain ⟨⟨l3, l4, l5⟩, j9, hm⟩ := bnd hm
  refine au [(0, .u (.one (.d (.int .i64 k)))), (1, .u (.one (.box 1000000 0))), (3, .u (.one (.box 1000003 0))), (4, .u (.one (.box 1000004 0))), (7, .u (.one (.box 7 0))), (33, .u (.one (.own 30))), (34, .u (.one (.d (.int .i64 (ah y))))), (35, .u (.one (.d (.int .i64 a2))))] [(7, .box [.d (.int .i64 x1.Level), .own 30]), (30, .row 1 3 (List.map (rI .i64) l3)), (5000, .row 2 75 (List.map Node.row l5)), (1000000, .box [.own 1000001]), (1000001, .row 1 3 (List.map (rI .i64) l4)), (1000002, .box [.d (.sl 2 (List.map Node.row a1))]), (1000003, .box [.fn 218 [.box 1000000 0, .box 1000002 0, .box 1000003 0, .box 1000004 0]]), (1000004, .box [.own 5000])] (by rfl) (by rfl) ?_ fun ρ σ hf => ?_
  ·replace hm := j9
   clear j9
   refine ai ?_
   refine srs hn ?_
   obtain ⟨x2, h6, hm⟩ := bnd hm
   simp -dsimp [hf, c5, h6, bX h6]
   refine srs hn ?_
   simp -dsimp [hf]
   rcases aj hm with ⟨c7, hm⟩ | ⟨c7, hm⟩
   ·refine a8 (b := (gtB x1.Level 1)) (by simp -dsimp) c7 ?_
    refine sw_midc aL mixed 5 6 6 0 [[0, 1, 2]] [[5001]] [] none (by rw [hn]; kernel_rfl) gI ?_
    dsimp only [List.take, List.drop, iq, iQ, jT, pk, List.cons_append, List.nil_append, List.flatten_cons, List.flatten_nil, ff, fv, List.append_nil]
    obtain ⟨y1, h8, hm⟩ := bnd hm
    simp -dsimp [hf, c7]
    refine callE_g (hrcv x2 l1 a1 l2 y1 h8) [1000000, 1000001, 1000002, 1000003, 1000004, 5000] [5001] rfl rfl rfl (by simp -dsimp) rfl (by simp -dsimp [hf]) (by first | rfl | simp) rfl (dkL hn) rfl rfl (by simp) nofun (by simp) ?_
    simp -dsimp [hf, h6, bX h6, rsetI .i64 l a2.toNat y1.1]
    refine aM ?_
    refine a6 ?_
    cases hm
    refine EE.step (Wk.move 5001 5000 (by decide) (.inl (by decide))) ?_
    exact EE.here (by simp -dsimp [hf])
   ·refine a7 (b := (gtB x1.Level 1)) (by simp -dsimp) c7 ?_
    refine aa ?_
    refine aM ?_
    refine a6 ?_
    cases hm
    exact EE.here (by simp -dsimp [hf, c7])
  ·clear j9
   simp only [Fits, ar, ap, and_true] at hf
   refine sr1 hn ?_
   simp -dsimp [hf]
   cases hm
   refine az ?_
   exact EE.here (by simp -dsimp [hf])
 ·refine a7 (b := (ltB a2 (ah y))) (by simp -dsimp) c5 ?_
  refine aw ?_
  refine ae ?_
  cases hm
  refine am nofun ?_
  unfold F_reduce_ordered_1_o_o_o_o_1
  dsimp only
  refine ⟨rfl, ?_⟩
  exact EE.here (by simp -dsimp [hf, c5])
theorem fb_reduce_ordered_1_o_o_o_o (rcv : (Int → (List Int) → (List Node) → (List Node) → Option (Int × (List Int) × (List Node)))) (hrcv : H_reduce_ordered_1_o_o_o_o rcv) (k : Int) (a : List Int) (a1 : List Node) (cv : List Node) (r : Int × (List Int) × (List Node)) (hm : cZ rcv k a a1 cv = some r) : GFn Tryz.prog 218 [.u (.one (.d (.int .i64 k))), .u (.one (.box 1000000 0)), .u (.one (.box 1000002 0)), .u (.one (.box 1000003 0)), .u (.one (.box 1000004 0))] [.box [.own 1000001], .row 1 3 (List.map (rI .i64) a), .box [.d (.sl 2 (List.map Node.row a1))], .box [.fn 218 [.box 1000000 0, .box 1000002 0, .box 1000003 0, .box 1000004 0]], .box [.own 1000005], .row 2 75 (List.map Node.row cv)] (.u (.one (.d (.int .i64 r.1)))) [some (.box [.own 1000001]), some (.row 1 3 (List.map (rI .i64) r.2.1)), some (.box [.d (.sl 2 (List.map Node.row a1))]), some (.box [.fn 218 [.box 1000000 0, .box 1000002 0, .box 1000003 0, .box 1000004 0]]), some (.box [.own 1000006]), none, some (.row 2 75 (List.map Node.row r.2.2))] := by
 refine cV aL _ Tryz.func218 rfl (by kernel_rfl) (by simp [Tryz.ntmps218]) (by simp) (by first | rfl | simp) (by first | rfl | simp) fun cx hn hk => ?_
 replace hn : cx.n = 63 := hn.trans Tryz.ntmps218
 replace hk : cx.k = 6 := hk
 unfold cZ at hm
 refine srs hn ?_
 simp -dsimp
 refine ac ?_
 refine srs hn ?_
 obtain ⟨x, h1, hm⟩ := bnd hm
 simp -dsimp [h1, bX h1]
 rcases aj hm with ⟨c2, hm⟩ | ⟨c2, hm⟩
 ·refine a8 (b := (gtB x 0)) (by simp -dsimp) c2 ?_
  refine srs hn ?_
  simp -dsimp [h1, bX h1, c2]
  refine ab (ae ?_)
  cases hm
  refine ⟨.inr rfl, ?_⟩
  refine EE.step (Wk.move 1000005 1000006 (by decide) (.inr (by rw [hk]; decide))) ?_
  exact EE.here (by simp -dsimp)
 ·refine a7 (b := (gtB x 0)) (by simp -dsimp) c2 ?_
  refine aa (a6 ?_)
  refine k7 aL mixed 10 11 13 12 [[0, 1, 2, 3, 4]] [[30]] [true, false] (some (7, .box [.d (.int .i64 0), .d .nil])) (by rw [hn]; kernel_rfl) (fltT_some 75 _ (by kernel_rfl) rfl rfl rfl (by simp [C.wipe])) ?_
  dsimp only [List.take, List.drop, iq, iQ, jT, pk, List.cons_append, List.nil_append, List.flatten_cons, List.flatten_nil, ff, fv, List.append_nil]
  obtain ⟨x1, h3, hm⟩ := bnd hm
  obtain ⟨y, h4, hm⟩ := bnd hm
  simp -dsimp [c2, h3]
  refine callE_new (n_slices_Clone_int_int x1.Next y h4) (dkL hn) (by decide) rfl rfl (by simp) (by rintro _ _ ⟨⟩; simp [C.wipe]) (by simp) ?_
  simp -dsimp [h3]
  refine ac ?_
  refine srs hn ?_
  simp -dsimp
  refine ai ?_
  obtain ⟨⟨l, l1, l2⟩, g10, hm⟩ := bnd hm
  refine aJ (l_reduce_ordered_1_o_o_o_o_1 cx hn hk rcv k a1 x1 y hrcv g10) (by
    try dsimp only
    refine EE.step (Wk.move 1000005 5000 (by decide) (.inl (by decide))) ?_
    exact EE.here (by simp -dsimp)
  ) fun ee ρ σ x11 => ?_
  unfold F_reduce_ordered_1_o_o_o_o_1 at x11
  dsimp only at x11
  obtain ⟨rfl, x11⟩ := x11
  refine av ?_
  refine a6 ?_
  refine aX (by rfl) (by rfl) x11 fun ρ σ hf => ?_
  simp only [Fits, ar, ap, and_true] at hf
  refine Swp.pre (Wk.frz 30 1 3 (List.map (rI .i64) l) (by simp -dsimp [hf])) ?_
  refine srs hn ?_
  obtain ⟨l3, h12, hm⟩ := bnd hm
  obtain ⟨h12a, h12e⟩ := aN h12
  replace h12e := h12e.symm
  subst h12e
  try simp only [List.length_cons, List.length_nil, Nat.zero_add] at h12a
  simp -dsimp [hf, h12a]
  refine srs hn ?_
  obtain ⟨x2, h13, hm⟩ := bnd hm
  simp -dsimp [hf, h13, bX h13, rsetI .i64 l2 k.toNat ((ah l1) + 1)]
  refine srs hn ?_
  simp -dsimp [hf]
  refine ab ?_
  cases hm
  refine ⟨.inr rfl, ?_⟩
  refine EE.step (Wk.move 54 1000006 (by decide) (.inr (by rw [hk]; decide))) ?_
  exact EE.here (by simp -dsimp [hf])
theorem g_reduce_ordered_1_o_o_o_o (k : Int) (a : List Int) (a1 : List Node) (cv : List Node) (r : Int × (List Int) × (List Node)) (hm : fo k a a1 cv = some r) : GFn Tryz.prog 218 [.u (.one (.d (.int .i64 k))), .u (.one (.box 1000000 0)), .u (.one (.box 1000002 0)), .u (.one (.box 1000003 0)), .u (.one (.box 1000004 0))] [.box [.own 1000001], .row 1 3 (List.map (rI .i64) a), .box [.d (.sl 2 (List.map Node.row a1))], .box [.fn 218 [.box 1000000 0, .box 1000002 0, .box 1000003 0, .box 1000004 0]], .box [.own 1000005], .row 2 75 (List.map Node.row cv)] (.u (.one (.d (.int .i64 r.1)))) [some (.box [.own 1000001]), some (.row 1 3 (List.map (rI .i64) r.2.1)), some (.box [.d (.sl 2 (List.map Node.row a1))]), some (.box [.fn 218 [.box 1000000 0, .box 1000002 0, .box 1000003 0, .box 1000004 0]]), some (.box [.own 1000006]), none, some (.row 2 75 (List.map Node.row r.2.2))] := recN_ind H_reduce_ordered_1_o_o_o_o (by intro _; intro _; intro _; intro _; intro _; intro hm; cases hm) fb_reduce_ordered_1_o_o_o_o recF k a a1 cv r hm
end
theorem f_reduce_ordered (nodes : List Node) (root : Int) (r : List Node) (hm : e8 nodes root = some r) : PFn Tryz.prog 168 [.u (.one (.d (.sl 2 (List.map Node.row nodes)))), .u (.one (.d (.int .i64 root)))] (fun v => v.wk (.u (.one (.d (.sl 2 (List.map Node.row r)))))) := by
 refine aV Tryz.func168 Tryz.ntmps168 rfl (by kernel_rfl) (by simp) fun cx hn => ?_
 unfold e8 at hm
 refine srs hn ?_
 simp -dsimp
 refine srs hn ?_
 obtain ⟨l, h1, hm⟩ := bnd hm
 obtain ⟨⟨h1a, h1b, h1c⟩, rfl⟩ := ka h1
 simp -dsimp [h1a, h1c]
 refine srs hn ?_
 simp -dsimp
 refine srs hn ?_
 simp -dsimp
 refine srs hn ?_
 simp -dsimp
 refine Swp.pre (Wk.own0b 6 0 5000 2 75 [.d .nil] (by simp -dsimp) (by rfl) (by decide) (by decide)) ?_
 refine srs hn ?_
 obtain ⟨y, h2, hm⟩ := bnd hm
 simp -dsimp
 refine d3 (g_reduce_ordered_1_o_o_o_o root (List.replicate (ah nodes).toNat 0) nodes [] y h2) [5, 10, 2, 7, 6, 5000] [5001] rfl rfl rfl (by simp -dsimp) rfl (by simp -dsimp) (by first | rfl | simp) rfl (dkL hn) ?_
 simp -dsimp
 refine srs hn ?_
 simp -dsimp
 refine ab ?_
 cases hm
 refine ⟨.inr rfl, ?_⟩
 exact EE.here (by simp -dsimp)
theorem c_reduce_ordered (nodes : List Node) (root : Int) (r : List Node) (hm : e8 nodes root = some r) : PureCall Tryz.prog 168 [.u (.one (.d (.sl 2 (List.map Node.row nodes)))), .u (.one (.d (.int .i64 root)))] (.u (.one (.d (.sl 2 (List.map Node.row r))))) := (f_reduce_ordered nodes root r hm).pureW
section
attribute [-simp] List.map_set List.set_set
def F_reduce_rebuilt_reduce_Reduce_1_w_2 (cx : Cx) (t : Tree) (a : Int) (mp : List (List UInt8 × Int)) (l : List Node) (to_ : List Int) (x : Node) (_y : List Int) (tt : (List Int)) (ee : Exit) (ρ : Env) (σ : Sto) : Prop := match tt with
 | next => ee = .exit 2 ∧ EE cx (aS [(1, .u (.one (.fn 166 []))), (2, .u (.one (.box 2 0))), (4, .u (.one (.box 4 0))), (5, .u (.one (.box 5 0))), (6, .u (.one (.own 5002))), (8, .u (.one (.box 8 0))), (9, .u (.one (.own 23))), (15, .u (.one (.d (.sl 2 (List.map Node.row t.Nodes))))), (16, .u (.one (.d (.int .i64 (ah t.Nodes))))), (17, .u (.one (.d (.int .i64 a))))] [(2, .box [.d (.int .i64 t.States), .d (.sl 2 (List.map Point.row t.Hood)), .d (.sl 2 (List.map Node.row t.Nodes))]), (4, .box [.d (.int .i64 0), .d .nil, .d .nil]), (5, .box [.own 5000, .map 12]), (8, .box [.d (.int .i64 x.Level), .d (.sl 1 (List.map (rI .i64) x.Next))]), (12, mOb .str kS (uL (L.int .i64)) mp), (23, .row 1 3 (List.map (rI .i64) next)), (5000, .row 2 75 (List.map Node.row l)), (5002, .row 1 3 (List.map (rI .i64) to_))]) ρ σ
theorem l_reduce_rebuilt_reduce_Reduce_1_w_2 (cx : Cx) (hn : cx.n = 69) (_hk : cx.k = 0) (t : Tree) (a : Int) (mp : List (List UInt8 × Int)) (l : List Node) (to_ : List Int) (x : Node) (y : List Int) {fu : Nat} {stt : Int × (List Int)} {tt : (List Int)} (hh : ak (bE t a mp l to_ x y) fu stt = some tt) {ρ : Env} {σ : Sto}
  (hE : aW (fun stt : Int × (List Int) => match stt with | (a1, _next) => [(1, .u (.one (.fn 166 []))), (2, .u (.one (.box 2 0))), (4, .u (.one (.box 4 0))), (5, .u (.one (.box 5 0))), (6, .u (.one (.own 5002))), (8, .u (.one (.box 8 0))), (9, .u (.one (.own 23))), (15, .u (.one (.d (.sl 2 (List.map Node.row t.Nodes))))), (16, .u (.one (.d (.int .i64 (ah t.Nodes))))), (17, .u (.one (.d (.int .i64 a)))), (24, .u (.one (.own 23))), (25, .u (.one (.d (.int .i64 (ah y))))), (26, .u (.one (.d (.int .i64 a1))))]) (fun stt : Int × (List Int) => match stt with | (_a1, next) => [(2, .box [.d (.int .i64 t.States), .d (.sl 2 (List.map Point.row t.Hood)), .d (.sl 2 (List.map Node.row t.Nodes))]), (4, .box [.d (.int .i64 0), .d .nil, .d .nil]), (5, .box [.own 5000, .map 12]), (8, .box [.d (.int .i64 x.Level), .d (.sl 1 (List.map (rI .i64) x.Next))]), (12, mOb .str kS (uL (L.int .i64)) mp), (23, .row 1 3 (List.map (rI .i64) next)), (5000, .row 2 75 (List.map Node.row l)), (5002, .row 1 3 (List.map (rI .i64) to_))]) stt ρ σ) : Swp Tryz.prog cx (.loop (bg [1, 1, 1, 0, 1, 0, 0, 1, 1, 0, 0, 1, 1, 0, 1, 0, 0] (aK Tryz.f165))) ρ σ (F_reduce_rebuilt_reduce_Reduce_1_w_2 cx t a mp l to_ x y tt) := by
 refine aY hE hh (F_reduce_rebuilt_reduce_Reduce_1_w_2 cx t a mp l to_ x y) ?_
 rintro ⟨a1, next⟩ r hm ρ σ hf
 simp only [Fits, ar, ap, and_true] at hf
 unfold bE at hm
 dsimp only at hm
 refine srs hn ?_
 simp -dsimp [hf]
 refine ac ?_
 rcases aj hm with ⟨c4, hm⟩ | ⟨c4, hm⟩
 ·refine a8 (b := (ltB a1 (ah y))) (by simp -dsimp) c4 ?_
  refine aa (a6 ?_)
  obtain ⟨next1, j8, hm⟩ := bnd hm
  refine au [(1, .u (.one (.fn 166 []))), (2, .u (.one (.box 2 0))), (4, .u (.one (.box 4 0))), (5, .u (.one (.box 5 0))), (6, .u (.one (.own 5002))), (8, .u (.one (.box 8 0))), (9, .u (.one (.own 23))), (15, .u (.one (.d (.sl 2 (List.map Node.row t.Nodes))))), (16, .u (.one (.d (.int .i64 (ah t.Nodes))))), (17, .u (.one (.d (.int .i64 a)))), (24, .u (.one (.own 23))), (25, .u (.one (.d (.int .i64 (ah y))))), (26, .u (.one (.d (.int .i64 a1))))] [(2, .box [.d (.int .i64 t.States), .d (.sl 2 (List.map Point.row t.Hood)), .d (.sl 2 (List.map Node.row t.Nodes))]), (4, .box [.d (.int .i64 0), .d .nil, .d .nil]), (5, .box [.own 5000, .map 12]), (8, .box [.d (.int .i64 x.Level), .d (.sl 1 (List.map (rI .i64) x.Next))]), (12, mOb .str kS (uL (L.int .i64)) mp), (23, .row 1 3 (List.map (rI .i64) next1)), (5000, .row 2 75 (List.map Node.row l)), (5002, .row 1 3 (List.map (rI .i64) to_))] (by rfl) (by rfl) ?_ fun ρ σ hf => ?_
  ·replace hm := j8
   clear j8
   refine ai ?_
   refine srs hn ?_
   obtain ⟨x1, h5, hm⟩ := bnd hm
   simp -dsimp [hf, c4, h5, bX h5]
   refine srs hn ?_
   simp -dsimp [hf]
   rcases aj hm with ⟨c6, hm⟩ | ⟨c6, hm⟩
   ·refine a8 (b := (gtB x.Level 1)) (by simp -dsimp) c6 ?_
    refine sr1 hn ?_
    obtain ⟨x2, h7, hm⟩ := bnd hm
    simp -dsimp [hf, h5, bX h5, c6, h7, bX h7, rsetI .i64 next a1.toNat x2]
    refine aM ?_
    refine a6 ?_
    cases hm
    exact EE.here (by simp -dsimp [hf])
   ·refine a7 (b := (gtB x.Level 1)) (by simp -dsimp) c6 ?_
    refine aa ?_
    refine aM ?_
    refine a6 ?_
    cases hm
    exact EE.here (by simp -dsimp [hf, c6])
  ·clear j8
   simp only [Fits, ar, ap, and_true] at hf
   refine sr1 hn ?_
   simp -dsimp [hf]
   cases hm
   refine az ?_
   exact EE.here (by simp -dsimp [hf])
 ·refine a7 (b := (ltB a1 (ah y))) (by simp -dsimp) c4 ?_
  refine aw ?_
  refine ae ?_
  cases hm
  refine am nofun ?_
  unfold F_reduce_rebuilt_reduce_Reduce_1_w_2
  dsimp only
  refine ⟨rfl, ?_⟩
  exact EE.here (by simp -dsimp [hf, c4])
def F_reduce_rebuilt_reduce_Reduce_1_w_1 (cx : Cx) (t : Tree) (tt : ((List (List UInt8 × Int)) × (List Node) × (List Int))) (ee : Exit) (ρ : Env) (σ : Sto) : Prop := match tt with
 | (mp, l, to_) => ee = .exit 0 ∧ EE cx (aS [(2, .u (.one (.box 2 0))), (4, .u (.one (.box 4 0))), (5, .u (.one (.box 5 0))), (6, .u (.one (.own 5002)))] [(2, .box [.d (.int .i64 t.States), .d (.sl 2 (List.map Point.row t.Hood)), .d (.sl 2 (List.map Node.row t.Nodes))]), (4, .box [.d (.int .i64 0), .d .nil, .d .nil]), (5, .box [.own 5000, .map 12]), (12, mOb .str kS (uL (L.int .i64)) mp), (5000, .row 2 75 (List.map Node.row l)), (5002, .row 1 3 (List.map (rI .i64) to_))]) ρ σ
theorem l_reduce_rebuilt_reduce_Reduce_1_w_1 (cx : Cx) (hn : cx.n = 69) (hk : cx.k = 0) (t : Tree) {fu : Nat} {stt : Int × (List (List UInt8 × Int)) × (List Node) × (List Int)} {tt : ((List (List UInt8 × Int)) × (List Node) × (List Int))} (hh : ak (bG t) fu stt = some tt) {ρ : Env} {σ : Sto}
  (hE : aW (fun stt : Int × (List (List UInt8 × Int)) × (List Node) × (List Int) => match stt with | (a, _mp, _l, _to_) => [(1, .u (.one (.fn 166 []))), (2, .u (.one (.box 2 0))), (4, .u (.one (.box 4 0))), (5, .u (.one (.box 5 0))), (6, .u (.one (.own 5002))), (15, .u (.one (.d (.sl 2 (List.map Node.row t.Nodes))))), (16, .u (.one (.d (.int .i64 (ah t.Nodes))))), (17, .u (.one (.d (.int .i64 a))))]) (fun stt : Int × (List (List UInt8 × Int)) × (List Node) × (List Int) => match stt with | (_a, mp, l, to_) => [(2, .box [.d (.int .i64 t.States), .d (.sl 2 (List.map Point.row t.Hood)), .d (.sl 2 (List.map Node.row t.Nodes))]), (4, .box [.d (.int .i64 0), .d .nil, .d .nil]), (5, .box [.own 5000, .map 12]), (12, mOb .str kS (uL (L.int .i64)) mp), (5000, .row 2 75 (List.map Node.row l)), (5002, .row 1 3 (List.map (rI .i64) to_))]) stt ρ σ) : Swp Tryz.prog cx (.loop (bg [1, 1, 1, 0, 1, 0, 0] (aK Tryz.f165))) ρ σ (F_reduce_rebuilt_reduce_Reduce_1_w_1 cx t tt) := by
 refine aY hE hh (F_reduce_rebuilt_reduce_Reduce_1_w_1 cx t) ?_
 rintro ⟨a, mp, l, to_⟩ r hm ρ σ hf
 simp only [Fits, ar, ap, and_true] at hf
 unfold bG at hm
 dsimp only at hm
 refine srs hn ?_
 simp -dsimp [hf]
 refine ac ?_
 rcases aj hm with ⟨c1, hm⟩ | ⟨c1, hm⟩
 ·refine a8 (b := (ltB a (ah t.Nodes))) (by simp -dsimp) c1 ?_
  refine aa (a6 (ac (ai ?_)))
  refine srs hn ?_
  obtain ⟨x, h2, hm⟩ := bnd hm
  simp -dsimp [hf, c1, h2]
  refine srs hn ?_
  obtain ⟨y, h3, hm⟩ := bnd hm
  simp -dsimp
  refine callL_new (n_slices_Clone_int_int x.Next y h3) (dkL hn) (by decide) ?_
  simp -dsimp
  refine ac ?_
  refine srs hn ?_
  simp -dsimp
  refine ai ?_
  obtain ⟨next, g9, hm⟩ := bnd hm
  refine aJ (l_reduce_rebuilt_reduce_Reduce_1_w_2 cx hn hk t a mp l to_ x y g9) (by
    try dsimp only
    exact EE.here (by simp -dsimp [hf])
  ) fun ee ρ σ x10 => ?_
  unfold F_reduce_rebuilt_reduce_Reduce_1_w_2 at x10
  dsimp only at x10
  obtain ⟨rfl, x10⟩ := x10
  refine av ?_
  refine a6 ?_
  refine aX (by rfl) (by rfl) x10 fun ρ σ hf => ?_
  simp only [Fits, ar, ap, and_true] at hf
  refine Swp.pre (Wk.frz 23 1 3 (List.map (rI .i64) next) (by simp -dsimp [hf])) ?_
  refine sw_midc aL mixed 8 9 10 0 [[0]] [[5001]] [true] none (by rw [hn]; kernel_rfl) gI ?_
  dsimp only [List.take, List.drop, iq, iQ, jT, pk, List.cons_append, List.nil_append, List.flatten_cons, List.flatten_nil, ff, fv, List.append_nil]
  obtain ⟨y1, h11, hm⟩ := bnd hm
  simp -dsimp [hf]
  refine al (c_reduce_Reduce_1 x.Level next y1 h11) ?_
  obtain ⟨y2, h12, hm⟩ := bnd hm
  simp -dsimp [hf]
  refine callE_g (g_reduce_builder_node_o l mp x.Level y1 y2 h12) [5, 5000, 12] [5001] rfl rfl rfl (by simp -dsimp) rfl (by simp -dsimp [hf]) (by first | rfl | simp) rfl (dkL hn) rfl rfl (by simp) nofun (by simp) ?_
  obtain ⟨l1, h13, hm⟩ := bnd hm
  obtain ⟨h13a, h13e⟩ := aN h13
  replace h13e := h13e.symm
  subst h13e
  try simp only [List.length_cons, List.length_nil, Nat.zero_add] at h13a
  simp -dsimp [hf, h13a]
  refine aM ?_
  refine a6 ?_
  refine sr1 hn ?_
  simp -dsimp [hf]
  cases hm
  refine az ?_
  refine EE.step (Wk.move 52 5002 (by decide) (.inl (by decide))) ?_
  refine EE.step (Wk.move 5001 5000 (by decide) (.inl (by decide))) ?_
  exact EE.here (by simp -dsimp [hf])
 ·refine a7 (b := (ltB a (ah t.Nodes))) (by simp -dsimp) c1 ?_
  refine aw ?_
  refine ae ?_
  cases hm
  refine am nofun ?_
  unfold F_reduce_rebuilt_reduce_Reduce_1_w_1
  dsimp only
  refine ⟨rfl, ?_⟩
  exact EE.here (by simp -dsimp [hf, c1])
theorem g_reduce_rebuilt_reduce_Reduce_1_w (t : Tree) (r : List Node) (hm : bR t = some r) : GFn Tryz.prog 165 [.u (.agg [.d (.int .i64 t.States), .d (.sl 2 (List.map Point.row t.Hood)), .d (.sl 2 (List.map Node.row t.Nodes))]), .u (.one (.fn 166 []))] [] (.u (.agg [.d (.int .i64 t.States), .own 1000000, .d (.sl 2 (List.map Node.row r))])) [some (.row 2 71 (List.map Point.row t.Hood))] := by
 refine cV aL _ Tryz.func165 rfl (by kernel_rfl) (by simp [Tryz.ntmps165]) (by simp) (by first | rfl | simp) (by first | rfl | simp) fun cx hn hk => ?_
 replace hn : cx.n = 69 := hn.trans Tryz.ntmps165
 replace hk : cx.k = 0 := hk
 unfold bR at hm
 refine srs hn ?_
 simp -dsimp
 refine srs hn ?_
 simp -dsimp [(@id (Ob.map .str [] = mOb .str kS (uL (L.int .i64)) ([] : List (List UInt8 × Int))) (mOb_nil .str kS (uL (L.int .i64))))]
 refine srs hn ?_
 simp -dsimp
 refine ac ?_
 refine srs hn ?_
 simp -dsimp
 refine ai ?_
 obtain ⟨⟨mp, l, to_⟩, g14, hm⟩ := bnd hm
 refine aJ (l_reduce_rebuilt_reduce_Reduce_1_w_1 cx hn hk t g14) (by
   try dsimp only
   refine EE.step (Wk.own0 6 5002 1 3 (by simp -dsimp) (by decide)) ?_
   refine EE.step (Wk.own0b 5 0 5000 2 75 [.d .nil, .map 12] (by simp -dsimp) (by rfl) (by decide) (by decide)) ?_
   exact EE.here (by simp -dsimp)
 ) fun ee ρ σ x15 => ?_
 unfold F_reduce_rebuilt_reduce_Reduce_1_w_1 at x15
 dsimp only at x15
 obtain ⟨rfl, x15⟩ := x15
 refine av ?_
 refine a6 ?_
 refine aX (by rfl) (by rfl) x15 fun ρ σ hf => ?_
 simp only [Fits, ar, ap, and_true] at hf
 refine Swp.pre (Wk.frz 5000 2 75 (List.map Node.row l) (by simp -dsimp [hf])) ?_
 refine k7 aL mixed 0 0 14 4 [] [] [true, true, true, true, true, true, true, true, true, true, true, true, true, true] (some (58, .row 2 71 (List.map Point.row t.Hood))) (by rw [hn]; kernel_rfl) fltT_row ?_
 dsimp only [List.take, List.drop, iq, iQ, jT, pk, List.cons_append, List.nil_append, List.flatten_cons, List.flatten_nil, ff, fv, List.append_nil]
 obtain ⟨l1, h16, hm⟩ := bnd hm
 obtain rfl := e_slices_Clone_api_Point_api_Point _ _ h16
 simp -dsimp [hf]
 refine callE_flt (n_slices_Clone_api_Point_api_Point _ _ h16) (dkL hn) (by decide) rfl rfl ?_
 obtain ⟨x, h17, hm⟩ := bnd hm
 obtain ⟨y, h18, hm⟩ := bnd hm
 simp -dsimp [hf, h17, bX h17]
 refine al (c_reduce_ordered l x y h18) ?_
 simp -dsimp [hf]
 refine ab ?_
 cases hm
 refine ⟨.inr rfl, ?_⟩
 refine EE.step (Wk.move 58 1000000 (by decide) (.inr (by rw [hk]; decide))) ?_
 exact EE.here (by simp -dsimp [hf])
end
theorem g_reduce_Reduce_w (t : Tree) (r : Int × (List Node) × (List Point)) (hm : i0 t = some r) : GFn Tryz.prog 103 [.u (.agg [.d (.int .i64 t.States), .d (.sl 2 (List.map Point.row t.Hood)), .d (.sl 2 (List.map Node.row t.Nodes))])] [] (.u (.agg [.d (.int .i64 r.1), .own 1000000, .d (.sl 2 (List.map Node.row r.2.1))])) [some (.row 2 71 (List.map Point.row r.2.2))] := by
 refine cV aL _ Tryz.func103 rfl (by kernel_rfl) (by simp [Tryz.ntmps103]) (by simp) (by first | rfl | simp) (by first | rfl | simp) fun cx hn hk => ?_
 replace hn : cx.n = 9 := hn.trans Tryz.ntmps103
 replace hk : cx.k = 0 := hk
 unfold i0 at hm
 refine srs hn ?_
 simp -dsimp
 refine ac ?_
 refine srs hn ?_
 obtain ⟨y, h1, hm⟩ := bnd hm
 simp -dsimp
 refine ag (fC t y h1) (dkL hn) ?_
 simp -dsimp
 rcases aj hm with ⟨c2, hm⟩ | ⟨c2, hm⟩
 ·refine a8 (b := (aD y)) (by simp -dsimp) c2 ?_
  refine srs hn ?_
  simp -dsimp [c2]
  refine ab (ae ?_)
  cases hm
  refine ⟨.inr rfl, ?_⟩
  refine EE.step (Wk.move 5001 1000000 (by decide) (.inr (by rw [hk]; decide))) ?_
  refine EE.step (Wk.own0b 2 1 5001 2 71 [.d (.int .i64 0), .d .nil, .d .nil] (by simp -dsimp) (by rfl) (by decide) (by decide)) ?_
  refine EE.step (Wk.move 5001 1000000 (by decide) (.inr (by rw [hk]; decide))) ?_
  exact EE.here (by simp -dsimp)
 ·refine a7 (b := (aD y)) (by simp -dsimp) c2 ?_
  refine aa (a6 ?_)
  refine srs hn ?_
  obtain ⟨y1, h3, hm⟩ := bnd hm
  simp -dsimp [c2]
  refine d3 (g_reduce_rebuilt_reduce_Reduce_1_w t y1 h3) [] [5000] rfl rfl rfl (by simp -dsimp) rfl (by simp -dsimp) (by first | rfl | simp) rfl (dkL hn) ?_
  simp -dsimp
  refine ab ?_
  cases hm
  refine ⟨.inr rfl, ?_⟩
  refine EE.step (Wk.move 5000 1000000 (by decide) (.inr (by rw [hk]; decide))) ?_
  exact EE.here (by simp -dsimp)
theorem f_reduce_sized (t : Tree) (r : Tree × Int) (hm : ij t = some r) : PFn Tryz.prog 106 [.u (.agg [.d (.int .i64 t.States), .d (.sl 2 (List.map Point.row t.Hood)), .d (.sl 2 (List.map Node.row t.Nodes))])] (fun v => v.wk (.tup [.agg [.d (.int .i64 r.1.States), .d (.sl 2 (List.map Point.row r.1.Hood)), .d (.sl 2 (List.map Node.row r.1.Nodes))], .one (.d (.int .i64 r.2))])) := by
 refine aV Tryz.func106 Tryz.ntmps106 rfl (by kernel_rfl) (by simp) fun cx hn => ?_
 unfold ij at hm
 refine srs hn ?_
 simp -dsimp
 refine ac ?_
 refine srs hn ?_
 simp -dsimp
 rcases aj hm with ⟨c1, hm⟩ | ⟨c1, hm⟩
 ·refine a8 (by simp -dsimp) c1 ?_
  refine srs hn ?_
  simp -dsimp [c1]
  refine ab (ae ?_)
  cases hm
  refine ⟨.inr rfl, ?_⟩
  exact EE.here (by simp -dsimp)
 ·refine a7 (by simp -dsimp) c1 ?_
  refine aa (a6 ?_)
  refine srs hn ?_
  simp -dsimp [c1]
  refine ab ?_
  cases hm
  refine ⟨.inr rfl, ?_⟩
  exact EE.here (by simp -dsimp)
theorem c_reduce_sized (t : Tree) (r : Tree × Int) (hm : ij t = some r) : PureCall Tryz.prog 106 [.u (.agg [.d (.int .i64 t.States), .d (.sl 2 (List.map Point.row t.Hood)), .d (.sl 2 (List.map Node.row t.Nodes))])] (.tup [.agg [.d (.int .i64 r.1.States), .d (.sl 2 (List.map Point.row r.1.Hood)), .d (.sl 2 (List.map Node.row r.1.Nodes))], .one (.d (.int .i64 r.2))]) := (f_reduce_sized t r hm).pureW
end Go.Proofs.YtfpjnmhdbgbmmaaGreatDoor
