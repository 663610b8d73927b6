/- That the code does what the functions say (made by cc.py). -/
import Derived.Test.YtfpjnmhdbgbmmaaGreatDoorWa11
namespace Go.Proofs.YtfpjnmhdbgbmmaaGreatDoor
open Go.AM Go.Proofs
attribute [-simp] qlookup du fQ Ob.wipe Ob.ren Ob.frz1
def eI (cx : Cx) (_t : Tree) (_p : List Cell) (_most : Int) (tt : (Motion × Bool × Int) ⊕ Unit) (ee : Exit) (ρ : Env) (σ : Sto) : Prop := match tt with
 | .inl r => ee = .ret ∧ EE cx (fun ρ σ => ∃ v, resV tb ρ σ Tryz.f60.results.toList = some v ∧ (v.frz σ).free = true ∧ (v.frz σ).wk (.tup [.agg [.d (.int .i64 r.1.Period), .d (.int .i64 r.1.DX), .d (.int .i64 r.1.DY)], .one (.d (.bool r.2.1)), .one (.d (.int .i64 r.2.2))])) ρ σ
 | .inr _u => ee = .exit 0 ∧ EE cx (aS [(6, .u (.one (.box 6 0)))] [(6, .box [.d (.int .i64 0), .d (.int .i64 0), .d (.int .i64 0)])]) ρ σ
theorem l_R34_Find_1 (cx : Cx) (hn : cx.n = 81) (t : Tree) (p : List Cell) (most : Int) {fu : Nat} {stt : (List Cell) × Int} {tt : (Motion × Bool × Int) ⊕ Unit} (hh : ak (eG t p most) fu stt = some tt) {ρ : Env} {σ : Sto}
  (hE : aW (fun stt : (List Cell) × Int => match stt with | (q, n) => [(1, .u (.one (.d (.sl 3 (List.map Cell.row p))))), (2, .u (.one (.d (.int .i64 most)))), (3, .u (.one (.box 3 0))), (6, .u (.one (.box 6 0))), (11, .u (.one (.d (.sl 3 (List.map Cell.row q))))), (12, .u (.one (.d (.int .i64 n))))]) (fun stt : (List Cell) × Int => match stt with | (_q, _n) => [(3, .box [.d (.int .i64 t.States), .d (.sl 2 (List.map Point.row t.Hood)), .d (.sl 2 (List.map Node.row t.Nodes))]), (6, .box [.d (.int .i64 0), .d (.int .i64 0), .d (.int .i64 0)])]) stt ρ σ) : Swp Tryz.prog cx (.loop (bg [1, 1, 1, 1, 1, 1, 0, 1, 0, 0] (aK Tryz.f60))) ρ σ (eI cx t p most tt) := by
 refine aY hE hh (eI cx t p most) ?_
 rintro ⟨q, n⟩ r hm ρ σ hf
 simp only [Fits, ar, ap, and_true] at hf
 unfold eG at hm
 dsimp only at hm
 refine ac ?_
 refine srs hn ?_
 simp -dsimp [hf]
 rcases aj hm with ⟨c6, hm⟩ | ⟨c6, hm⟩
 ·refine a8 (b := (leB n most)) (by simp -dsimp) c6 ?_
  refine aa (a6 (ac (ai ?_)))
  refine srs hn ?_
  obtain ⟨y1, h7, hm⟩ := bnd hm
  simp -dsimp [hf, c6]
  refine ag (c_R20_Step t q y1 h7) (dkL hn) ?_
  simp -dsimp
  refine ac ?_
  refine srs hn ?_
  simp -dsimp
  rcases aj hm with ⟨c8, hm⟩ | ⟨c8, hm⟩
  ·refine a8 (b := (neB y1.2 0)) (by simp -dsimp) c8 ?_
   refine srs hn ?_
   simp -dsimp [hf, c8]
   refine ab (ae (aH (ae ?_)))
   cases hm
   refine am nofun ?_
   unfold eI
   dsimp only
   refine ⟨rfl, ?_⟩
   exact EE.here (by simp -dsimp [hf, Tryz.results60])
  ·refine a7 (b := (neB y1.2 0)) (by simp -dsimp) c8 ?_
   refine aa (a6 ?_)
   obtain ⟨a1, j16, hm⟩ := bnd hm
   refine au [(1, .u (.one (.d (.sl 3 (List.map Cell.row p))))), (2, .u (.one (.d (.int .i64 most)))), (3, .u (.one (.box 3 0))), (6, .u (.one (.box 6 0))), (11, .u (.one (.d (.sl 3 (List.map Cell.row y1.1))))), (12, .u (.one (.d (.int .i64 n)))), (59, .u (.one (.d (.bool a1))))] [(3, .box [.d (.int .i64 t.States), .d (.sl 2 (List.map Point.row t.Hood)), .d (.sl 2 (List.map Node.row t.Nodes))]), (6, .box [.d (.int .i64 0), .d (.int .i64 0), .d (.int .i64 0)])] (by rfl) (by rfl) ?_ fun ρ σ hf => ?_
   ·replace hm := j16
    clear j16
    refine sr1 hn ?_
    rcases aj hm with ⟨c9, hm⟩ | ⟨c9, hm⟩
    ·obtain ⟨y2, h10, hm⟩ := bnd hm
     simp -dsimp [c8, c9]
     refine ag (c_R34_home y1.1 y2 h10) (dkL hn) ?_
     obtain ⟨y3, h11, hm⟩ := bnd hm
     simp -dsimp [hf]
     refine ag (c_R34_home p y3 h11) (dkL hn) ?_
     obtain ⟨y4, h12, hm⟩ := bnd hm
     simp -dsimp
     refine ag (c_R05_Same y2 y3 y4 h12) (dkL hn) ?_
     simp -dsimp
     refine a6 ?_
     cases hm
     exact EE.here (by simp -dsimp [hf])
    ·simp -dsimp [c8, c9]
     refine a6 ?_
     cases hm
     exact EE.here (by simp -dsimp [hf])
   ·clear j16
    simp only [Fits, ar, ap, and_true] at hf
    rcases aj hm with ⟨c13, hm⟩ | ⟨c13, hm⟩
    ·refine a8 (by simp -dsimp [hf]) c13 ?_
     refine sw_drNs aL mixed 19 (by rw [hn]; kernel_rfl) ?_
     dsimp only [List.take, List.drop]
     obtain ⟨x, h14, hm⟩ := bnd hm
     obtain ⟨x1, h15, hm⟩ := bnd hm
     simp -dsimp [hf, h14, h15]
     refine ab (aH (ae ?_))
     cases hm
     refine am nofun ?_
     unfold eI
     dsimp only
     refine ⟨rfl, ?_⟩
     exact EE.here (by simp -dsimp [hf, Tryz.results60])
    ·refine a7 (by simp -dsimp [hf]) c13 ?_
     refine aa ?_
     refine aM ?_
     refine a6 ?_
     refine sr1 hn ?_
     simp -dsimp [hf]
     cases hm
     refine az ?_
     exact EE.here (by simp -dsimp [hf])
 ·refine a7 (b := (leB n most)) (by simp -dsimp) c6 ?_
  refine aw ?_
  refine ae ?_
  cases hm
  refine am nofun ?_
  unfold eI
  dsimp only
  refine ⟨rfl, ?_⟩
  exact EE.here (by simp -dsimp [hf, c6])
theorem f_R34_Find (t : Tree) (p : List Cell) (most : Int) (r : Motion × Bool × Int) (hm : iE t p most = some r) : PFn Tryz.prog 60 [.u (.agg [.d (.int .i64 t.States), .d (.sl 2 (List.map Point.row t.Hood)), .d (.sl 2 (List.map Node.row t.Nodes))]), .u (.one (.d (.sl 3 (List.map Cell.row p)))), .u (.one (.d (.int .i64 most)))] (fun v => v.wk (.tup [.agg [.d (.int .i64 r.1.Period), .d (.int .i64 r.1.DX), .d (.int .i64 r.1.DY)], .one (.d (.bool r.2.1)), .one (.d (.int .i64 r.2.2))])) := by
 refine aV Tryz.func60 Tryz.ntmps60 rfl (by kernel_rfl) (by simp) fun cx hn => ?_
 unfold iE at hm
 refine srs hn ?_
 simp -dsimp
 refine srs hn ?_
 obtain ⟨y, h1, hm⟩ := bnd hm
 simp -dsimp
 refine ag (c_R20_Run t p 0 y h1) (dkL hn) ?_
 simp -dsimp
 refine ac ?_
 refine srs hn ?_
 simp -dsimp
 rcases aj hm with ⟨c2, hm⟩ | ⟨c2, hm⟩
 ·refine a8 (b := (neB y.2 0)) (by simp -dsimp) c2 ?_
  refine srs hn ?_
  simp -dsimp [c2]
  refine ab (ae ?_)
  cases hm
  refine ⟨.inr rfl, ?_⟩
  exact EE.here (by simp -dsimp)
 ·refine a7 (b := (neB y.2 0)) (by simp -dsimp) c2 ?_
  refine aa (a6 (ac ?_))
  obtain ⟨a, j19, hm⟩ := bnd hm
  refine au [(1, .u (.one (.d (.sl 3 (List.map Cell.row p))))), (2, .u (.one (.d (.int .i64 most)))), (3, .u (.one (.box 3 0))), (6, .u (.one (.box 6 0))), (28, .u (.one (.d (.bool a))))] [(3, .box [.d (.int .i64 t.States), .d (.sl 2 (List.map Point.row t.Hood)), .d (.sl 2 (List.map Node.row t.Nodes))]), (6, .box [.d (.int .i64 0), .d (.int .i64 0), .d (.int .i64 0)])] (by rfl) (by rfl) ?_ fun ρ σ hf => ?_
  ·replace hm := j19
   clear j19
   refine sr1 hn ?_
   rcases aj hm with ⟨c3, hm⟩ | ⟨c3, hm⟩
   ·simp -dsimp [c2, c3]
    refine a6 ?_
    cases hm
    exact EE.here (by simp -dsimp)
   ·simp -dsimp [c2, c3]
    refine a6 ?_
    cases hm
    exact EE.here (by simp -dsimp)
  ·clear j19
   simp only [Fits, ar, ap, and_true] at hf
   rcases aj hm with ⟨c4, hm⟩ | ⟨c4, hm⟩
   ·refine a8 (by simp -dsimp [hf]) c4 ?_
    refine srs hn ?_
    simp -dsimp [hf]
    refine ab (ae ?_)
    cases hm
    refine ⟨.inr rfl, ?_⟩
    exact EE.here (by simp -dsimp [hf])
   ·refine a7 (by simp -dsimp [hf]) c4 ?_
    refine aa (a6 (ac ?_))
    refine srs hn ?_
    simp -dsimp [hf]
    rcases aj hm with ⟨c5, hm⟩ | ⟨c5, hm⟩
    ·refine a8 (b := (eqB (ah p) 0)) (by simp -dsimp) c5 ?_
     refine srs hn ?_
     simp -dsimp [hf, c5]
     refine ab (ae ?_)
     cases hm
     refine ⟨.inr rfl, ?_⟩
     exact EE.here (by simp -dsimp [hf])
    ·refine a7 (b := (eqB (ah p) 0)) (by simp -dsimp) c5 ?_
     refine aa (a6 ?_)
     refine srs hn ?_
     simp -dsimp [hf, c5]
     refine ac ?_
     refine srs hn ?_
     simp -dsimp
     refine ai ?_
     obtain ⟨o_, g17, hm⟩ := bnd hm
     refine aJ (l_R34_Find_1 cx hn t p most g17) (by
       try dsimp only
       exact EE.here (by simp -dsimp [hf])
     ) fun ee ρ σ x18 => ?_
     rcases o_ with r | _u
     ·unfold eI at x18
      dsimp only at x18
      obtain ⟨rfl, x18⟩ := x18
      refine aH (ae ?_)
      cases hm
      exact ⟨.inr rfl, x18⟩
     ·unfold eI at x18
      dsimp only at x18
      obtain ⟨rfl, x18⟩ := x18
      refine av ?_
      refine a6 ?_
      refine aX (by rfl) (by rfl) x18 fun ρ σ hf => ?_
      simp only [Fits, ar, ap, and_true] at hf
      refine srs hn ?_
      simp -dsimp [hf]
      refine ab ?_
      cases hm
      refine ⟨.inr rfl, ?_⟩
      exact EE.here (by simp -dsimp [hf])
theorem c_R34_Find (t : Tree) (p : List Cell) (most : Int) (r : Motion × Bool × Int) (hm : iE t p most = some r) : PureCall Tryz.prog 60 [.u (.agg [.d (.int .i64 t.States), .d (.sl 2 (List.map Point.row t.Hood)), .d (.sl 2 (List.map Node.row t.Nodes))]), .u (.one (.d (.sl 3 (List.map Cell.row p)))), .u (.one (.d (.int .i64 most)))] (.tup [.agg [.d (.int .i64 r.1.Period), .d (.int .i64 r.1.DX), .d (.int .i64 r.1.DY)], .one (.d (.bool r.2.1)), .one (.d (.int .i64 r.2.2))]) := (f_R34_Find t p most r hm).pureW
theorem f_R34_Has (t : Tree) (p : List Cell) (m : Motion) (r : Bool × Int) (hm : jy t p m = some r) : PFn Tryz.prog 29 [.u (.agg [.d (.int .i64 t.States), .d (.sl 2 (List.map Point.row t.Hood)), .d (.sl 2 (List.map Node.row t.Nodes))]), .u (.one (.d (.sl 3 (List.map Cell.row p)))), .u (.agg [.d (.int .i64 m.Period), .d (.int .i64 m.DX), .d (.int .i64 m.DY)])] (fun v => v.wk (.tup [.one (.d (.bool r.1)), .one (.d (.int .i64 r.2))])) := by
 refine aV Tryz.func29 Tryz.ntmps29 rfl (by kernel_rfl) (by simp) fun cx hn => ?_
 unfold jy at hm
 refine srs hn ?_
 simp -dsimp
 refine srs hn ?_
 obtain ⟨y, h1, hm⟩ := bnd hm
 simp -dsimp
 refine ag (c_R34_Find t p m.Period y h1) (dkL hn) ?_
 simp -dsimp
 refine ac ?_
 refine srs hn ?_
 simp -dsimp
 rcases aj hm with ⟨c2, hm⟩ | ⟨c2, hm⟩
 ·refine a8 (b := (neB y.2.2 0)) (by simp -dsimp) c2 ?_
  refine srs hn ?_
  simp -dsimp [c2]
  refine ab (ae ?_)
  cases hm
  refine ⟨.inr rfl, ?_⟩
  exact EE.here (by simp -dsimp)
 ·refine a7 (b := (neB y.2.2 0)) (by simp -dsimp) c2 ?_
  refine aa (a6 ?_)
  obtain ⟨a, j4, hm⟩ := bnd hm
  refine au [(6, .u (.one (.d (.bool a)))), (7, .u (.one (.d (.int .i64 0))))] [] (by rfl) (by rfl) ?_ fun ρ σ hf => ?_
  ·replace hm := j4
   clear j4
   refine sr1 hn ?_
   rcases aj hm with ⟨c3, hm⟩ | ⟨c3, hm⟩
   ·simp -dsimp [c2, c3]
    refine a6 ?_
    cases hm
    exact EE.here (by simp -dsimp)
   ·simp -dsimp [c2, c3]
    refine a6 ?_
    cases hm
    exact EE.here (by simp -dsimp)
  ·clear j4
   simp only [Fits, ar, ap, and_true] at hf
   refine ab ?_
   cases hm
   refine ⟨.inr rfl, ?_⟩
   exact EE.here (by simp -dsimp [hf])
theorem c_R34_Has (t : Tree) (p : List Cell) (m : Motion) (r : Bool × Int) (hm : jy t p m = some r) : PureCall Tryz.prog 29 [.u (.agg [.d (.int .i64 t.States), .d (.sl 2 (List.map Point.row t.Hood)), .d (.sl 2 (List.map Node.row t.Nodes))]), .u (.one (.d (.sl 3 (List.map Cell.row p)))), .u (.agg [.d (.int .i64 m.Period), .d (.int .i64 m.DX), .d (.int .i64 m.DY)])] (.tup [.one (.d (.bool r.1)), .one (.d (.int .i64 r.2))]) := (f_R34_Has t p m r hm).pureW
theorem f_R50_Right (t : Tree) (s : Ship) (r : Bool) (hm : fh t s = some r) : PFn Tryz.prog 10 [.u (.agg [.d (.int .i64 t.States), .d (.sl 2 (List.map Point.row t.Hood)), .d (.sl 2 (List.map Node.row t.Nodes))]), .u (.agg [.d (.sl 3 (List.map Cell.row s.Cells)), .d (.int .i64 s.Motion.Period), .d (.int .i64 s.Motion.DX), .d (.int .i64 s.Motion.DY)])] (fun v => v.wk (.u (.one (.d (.bool r))))) := by
 refine aV Tryz.func10 Tryz.ntmps10 rfl (by kernel_rfl) (by simp) fun cx hn => ?_
 unfold fh at hm
 refine srs hn ?_
 simp -dsimp
 refine srs hn ?_
 obtain ⟨y, h1, hm⟩ := bnd hm
 simp -dsimp
 refine ag (c_R34_Has t s.Cells s.Motion y h1) (dkL hn) ?_
 simp -dsimp
 refine srs hn ?_
 obtain ⟨y1, h2, hm⟩ := bnd hm
 simp -dsimp
 refine ag (c_R05_Box s.Cells y1 h2) (dkL hn) ?_
 simp -dsimp
 obtain ⟨a, j7, hm⟩ := bnd hm
 refine au [(4, .u (.one (.d (.bool a))))] [] (by rfl) (by rfl) ?_ fun ρ σ hf => ?_
 ·replace hm := j7
  clear j7
  refine sr1 hn ?_
  rcases aj hm with ⟨c3, hm⟩ | ⟨c3, hm⟩
  ·rcases aj hm with ⟨c4, hm⟩ | ⟨c4, hm⟩
   ·rcases aj hm with ⟨c5, hm⟩ | ⟨c5, hm⟩
    ·rcases aj hm with ⟨c6, hm⟩ | ⟨c6, hm⟩
     ·simp -dsimp [c3, c4, c5, c6]
      refine a6 ?_
      cases hm
      exact EE.here (by simp -dsimp)
     ·simp -dsimp [c3, c4, c5, c6]
      refine a6 ?_
      cases hm
      exact EE.here (by simp -dsimp)
    ·simp -dsimp [c3, c4, c5]
     refine a6 ?_
     cases hm
     exact EE.here (by simp -dsimp)
   ·simp -dsimp [c3, c4]
    refine a6 ?_
    cases hm
    exact EE.here (by simp -dsimp)
  ·simp -dsimp [c3]
   refine a6 ?_
   cases hm
   exact EE.here (by simp -dsimp)
 ·clear j7
  simp only [Fits, ar, ap, and_true] at hf
  refine ab ?_
  cases hm
  refine ⟨.inr rfl, ?_⟩
  exact EE.here (by simp -dsimp [hf])
theorem c_R50_Right (t : Tree) (s : Ship) (r : Bool) (hm : fh t s = some r) : PureCall Tryz.prog 10 [.u (.agg [.d (.int .i64 t.States), .d (.sl 2 (List.map Point.row t.Hood)), .d (.sl 2 (List.map Node.row t.Nodes))]), .u (.agg [.d (.sl 3 (List.map Cell.row s.Cells)), .d (.int .i64 s.Motion.Period), .d (.int .i64 s.Motion.DX), .d (.int .i64 s.Motion.DY)])] (.u (.one (.d (.bool r)))) := (f_R50_Right t s r hm).pureW
theorem f_R50_evolved (t : Tree) (s : Ship) (n : Int) (r : List Cell) (hm : gj t s n = some r) : PFn Tryz.prog 26 [.u (.agg [.d (.int .i64 t.States), .d (.sl 2 (List.map Point.row t.Hood)), .d (.sl 2 (List.map Node.row t.Nodes))]), .u (.agg [.d (.sl 3 (List.map Cell.row s.Cells)), .d (.int .i64 s.Motion.Period), .d (.int .i64 s.Motion.DX), .d (.int .i64 s.Motion.DY)]), .u (.one (.d (.int .i64 n)))] (fun v => v.wk (.u (.one (.d (.sl 3 (List.map Cell.row r)))))) := by
 refine aV Tryz.func26 Tryz.ntmps26 rfl (by kernel_rfl) (by simp) fun cx hn => ?_
 unfold gj at hm
 refine srs hn ?_
 simp -dsimp
 refine srs hn ?_
 obtain ⟨y, h1, hm⟩ := bnd hm
 simp -dsimp
 refine ag (c_R20_Run t s.Cells n y h1) (dkL hn) ?_
 simp -dsimp
 refine srs hn ?_
 simp -dsimp
 refine ab ?_
 cases hm
 refine ⟨.inr rfl, ?_⟩
 exact EE.here (by simp -dsimp)
theorem c_R50_evolved (t : Tree) (s : Ship) (n : Int) (r : List Cell) (hm : gj t s n = some r) : PureCall Tryz.prog 26 [.u (.agg [.d (.int .i64 t.States), .d (.sl 2 (List.map Point.row t.Hood)), .d (.sl 2 (List.map Node.row t.Nodes))]), .u (.agg [.d (.sl 3 (List.map Cell.row s.Cells)), .d (.int .i64 s.Motion.Period), .d (.int .i64 s.Motion.DX), .d (.int .i64 s.Motion.DY)]), .u (.one (.d (.int .i64 n)))] (.u (.one (.d (.sl 3 (List.map Cell.row r))))) := (f_R50_evolved t s n r hm).pureW
def jg (cx : Cx) (p : List Cell) (tt : (Int × Int)) (ee : Exit) (ρ : Env) (σ : Sto) : Prop := match tt with
 | (x1, y) => ee = .exit 0 ∧ EE cx (aS [(0, .u (.one (.d (.sl 3 (List.map Cell.row p))))), (3, .u (.one (.d (.int .i64 x1)))), (4, .u (.one (.d (.int .i64 y))))] []) ρ σ
theorem l_R06_Home_1 (cx : Cx) (hn : cx.n = 75) (p : List Cell) {fu : Nat} {stt : Int × Int × Int} {tt : (Int × Int)} (hh : ak (ez p) fu stt = some tt) {ρ : Env} {σ : Sto}
  (hE : aW (fun stt : Int × Int × Int => match stt with | (x1, y, i) => [(0, .u (.one (.d (.sl 3 (List.map Cell.row p))))), (3, .u (.one (.d (.int .i64 x1)))), (4, .u (.one (.d (.int .i64 y)))), (5, .u (.one (.d (.int .i64 i))))]) (fun stt : Int × Int × Int => match stt with | (_x1, _y, _i) => []) stt ρ σ) : Swp Tryz.prog cx (.loop (bg [1, 1, 1, 0, 1, 0, 0] (aK Tryz.f25))) ρ σ (jg cx p tt) := by
 refine aY hE hh (jg cx p) ?_
 rintro ⟨x1, y, i⟩ r hm ρ σ hf
 simp only [Fits, ar, ap, and_true] at hf
 unfold ez at hm
 dsimp only at hm
 refine ac ?_
 refine srs hn ?_
 simp -dsimp [hf]
 rcases aj hm with ⟨c5, hm⟩ | ⟨c5, hm⟩
 ·refine a8 (b := (ltB i (ah p))) (by simp -dsimp) c5 ?_
  refine aa (a6 (ac (ai ?_)))
  refine iR aL mixed (by rw [hn]; kernel_rfl) ?_
  obtain ⟨x2, h6, hm⟩ := bnd hm
  simp -dsimp [hf, c5, h6]
  refine aM ?_
  refine a6 ?_
  refine sr1 hn ?_
  simp -dsimp [hf]
  cases hm
  refine az ?_
  exact EE.here (by simp -dsimp [hf])
 ·refine a7 (b := (ltB i (ah p))) (by simp -dsimp) c5 ?_
  refine aw ?_
  refine ae ?_
  cases hm
  refine am nofun ?_
  unfold jg
  dsimp only
  refine ⟨rfl, ?_⟩
  exact EE.here (by simp -dsimp [hf, c5])
def jn (cx : Cx) (_p : List Cell) (_x1 : Int) (_y : Int) (tt : (List Cell)) (ee : Exit) (ρ : Env) (σ : Sto) : Prop := match tt with
 | out => ee = .exit 2 ∧ EE cx (aS [(6, .u (.one (.own 5000)))] [(5000, .row 3 57 (List.map Cell.row out))]) ρ σ
theorem l_R06_Home_2 (cx : Cx) (hn : cx.n = 75) (p : List Cell) (x1 : Int) (y : Int) {fu : Nat} {stt : Int × (List Cell)} {tt : (List Cell)} (hh : ak (dL p x1 y) fu stt = some tt) {ρ : Env} {σ : Sto}
  (hE : aW (fun stt : Int × (List Cell) => match stt with | (i, _out) => [(0, .u (.one (.d (.sl 3 (List.map Cell.row p))))), (3, .u (.one (.d (.int .i64 x1)))), (4, .u (.one (.d (.int .i64 y)))), (6, .u (.one (.own 5000))), (7, .u (.one (.d (.int .i64 i))))]) (fun stt : Int × (List Cell) => match stt with | (_i, out) => [(5000, .row 3 57 (List.map Cell.row out))]) stt ρ σ) : Swp Tryz.prog cx (.loop (bg [1, 1, 1, 1, 1, 0, 1, 0, 0] (aK Tryz.f25))) ρ σ (jn cx p x1 y tt) := by
 refine aY hE hh (jn cx p x1 y) ?_
 rintro ⟨i, out⟩ r hm ρ σ hf
 simp only [Fits, ar, ap, and_true] at hf
 unfold dL at hm
 dsimp only at hm
 refine ac ?_
 refine srs hn ?_
 simp -dsimp [hf]
 rcases aj hm with ⟨c9, hm⟩ | ⟨c9, hm⟩
 ·refine a8 (b := (ltB i (ah p))) (by simp -dsimp) c9 ?_
  refine aa (a6 (ac (ai ?_)))
  refine sw_drN aL mixed 22 (by rw [hn]; kernel_rfl) ?_
  dsimp only [List.take, List.drop]
  obtain ⟨x2, h10, hm⟩ := bnd hm
  obtain ⟨l, h11, hm⟩ := bnd hm
  obtain ⟨h11a, h11e⟩ := aN h11
  replace h11e := h11e.symm
  subst h11e
  try simp only [List.length_cons, List.length_nil, Nat.zero_add] at h11a
  simp -dsimp [hf, c9, h10, h11a]
  refine aM ?_
  refine a6 ?_
  refine sr1 hn ?_
  simp -dsimp [hf]
  cases hm
  refine az ?_
  refine EE.step (Wk.move 73 5000 (by decide) (.inl (by decide))) ?_
  exact EE.here (by simp -dsimp [hf])
 ·refine a7 (b := (ltB i (ah p))) (by simp -dsimp) c9 ?_
  refine aw ?_
  refine ae ?_
  cases hm
  refine am nofun ?_
  unfold jn
  dsimp only
  refine ⟨rfl, ?_⟩
  exact EE.here (by simp -dsimp [hf, c9])
theorem f_R06_Home (p : List Cell) (r : List Cell) (hm : iw p = some r) : PFn Tryz.prog 25 [.u (.one (.d (.sl 3 (List.map Cell.row p))))] (fun v => v.wk (.u (.one (.d (.sl 3 (List.map Cell.row r)))))) := by
 refine aV Tryz.func25 Tryz.ntmps25 rfl (by kernel_rfl) (by simp) fun cx hn => ?_
 unfold iw at hm
 refine srs hn ?_
 simp -dsimp
 refine ac ?_
 obtain ⟨a, j14, hm⟩ := bnd hm
 refine au [(0, .u (.one (.d (.sl 3 (List.map Cell.row p))))), (15, .u (.one (.d (.bool a))))] [] (by rfl) (by rfl) ?_ fun ρ σ hf => ?_
 ·replace hm := j14
  clear j14
  refine sr1 hn ?_
  obtain ⟨y, h1, hm⟩ := bnd hm
  simp -dsimp
  refine ag (c_R05_Right p y h1) (dkL hn) ?_
  rcases aj hm with ⟨c2, hm⟩ | ⟨c2, hm⟩
  ·simp -dsimp [c2]
   refine a6 ?_
   cases hm
   exact EE.here (by simp -dsimp)
  ·simp -dsimp [c2]
   refine a6 ?_
   cases hm
   exact EE.here (by simp -dsimp)
 ·clear j14
  simp only [Fits, ar, ap, and_true] at hf
  rcases aj hm with ⟨c3, hm⟩ | ⟨c3, hm⟩
  ·refine a8 (by simp -dsimp [hf]) c3 ?_
   refine srs hn ?_
   simp -dsimp [hf]
   refine ab (ae ?_)
   cases hm
   refine ⟨.inr rfl, ?_⟩
   exact EE.here (by simp -dsimp)
  ·refine a7 (by simp -dsimp [hf]) c3 ?_
   refine aa (a6 ?_)
   refine bF aL mixed (by rw [hn]; kernel_rfl) ?_
   obtain ⟨x, h4, hm⟩ := bnd hm
   simp -dsimp [hf, h4]
   refine ac ?_
   refine srs hn ?_
   simp -dsimp
   refine ai ?_
   obtain ⟨⟨x1, y⟩, g7, hm⟩ := bnd hm
   refine aJ (l_R06_Home_1 cx hn p g7) (by
     try dsimp only
     exact EE.here (by simp -dsimp [hf])
   ) fun ee ρ σ x8 => ?_
   unfold jg at x8
   dsimp only at x8
   obtain ⟨rfl, x8⟩ := x8
   refine av ?_
   refine a6 ?_
   refine aX (by rfl) (by rfl) x8 fun ρ σ hf => ?_
   simp only [Fits, ar, ap, and_true] at hf
   refine srs hn ?_
   simp -dsimp
   refine ac ?_
   refine srs hn ?_
   simp -dsimp
   refine ai ?_
   obtain ⟨out, g12, hm⟩ := bnd hm
   refine aJ (l_R06_Home_2 cx hn p x1 y g12) (by
     try dsimp only
     refine EE.step (Wk.own0 6 5000 3 57 (by simp -dsimp) (by decide)) ?_
     exact EE.here (by simp -dsimp [hf])
   ) fun ee ρ σ x13 => ?_
   unfold jn at x13
   dsimp only at x13
   obtain ⟨rfl, x13⟩ := x13
   refine av ?_
   refine a6 ?_
   refine aX (by rfl) (by rfl) x13 fun ρ σ hf => ?_
   simp only [Fits, ar, ap, and_true] at hf
   refine srs hn ?_
   simp -dsimp [hf]
   refine ab ?_
   cases hm
   refine ⟨.inr rfl, ?_⟩
   exact EE.here (by simp -dsimp [hf])
theorem c_R06_Home (p : List Cell) (r : List Cell) (hm : iw p = some r) : PureCall Tryz.prog 25 [.u (.one (.d (.sl 3 (List.map Cell.row p))))] (.u (.one (.d (.sl 3 (List.map Cell.row r))))) := (f_R06_Home p r hm).pureW
theorem f_R50_Phase (t : Tree) (s : Ship) (n : Int) (r : (List Cell) × Int) (hm : gO t s n = some r) : PFn Tryz.prog 8 [.u (.agg [.d (.int .i64 t.States), .d (.sl 2 (List.map Point.row t.Hood)), .d (.sl 2 (List.map Node.row t.Nodes))]), .u (.agg [.d (.sl 3 (List.map Cell.row s.Cells)), .d (.int .i64 s.Motion.Period), .d (.int .i64 s.Motion.DX), .d (.int .i64 s.Motion.DY)]), .u (.one (.d (.int .i64 n)))] (fun v => v.wk (.tup [.one (.d (.sl 3 (List.map Cell.row r.1))), .one (.d (.int .i64 r.2))])) := by
 refine aV Tryz.func8 Tryz.ntmps8 rfl (by kernel_rfl) (by simp) fun cx hn => ?_
 unfold gO at hm
 refine srs hn ?_
 simp -dsimp
 refine ac ?_
 refine srs hn ?_
 obtain ⟨y, h1, hm⟩ := bnd hm
 simp -dsimp
 refine ag (c_R12_Quiet t y h1) (dkL hn) ?_
 simp -dsimp
 rcases aj hm with ⟨c2, hm⟩ | ⟨c2, hm⟩
 ·refine a8 (b := (aD y)) (by simp -dsimp) c2 ?_
  refine srs hn ?_
  simp -dsimp [c2]
  refine ab (ae ?_)
  cases hm
  refine ⟨.inr rfl, ?_⟩
  exact EE.here (by simp -dsimp)
 ·refine a7 (b := (aD y)) (by simp -dsimp) c2 ?_
  refine aa (a6 (ac ?_))
  obtain ⟨a, j10, hm⟩ := bnd hm
  refine au [(2, .u (.one (.d (.int .i64 n)))), (3, .u (.one (.box 3 0))), (4, .u (.one (.box 4 0))), (22, .u (.one (.d (.bool a))))] [(3, .box [.d (.int .i64 t.States), .d (.sl 2 (List.map Point.row t.Hood)), .d (.sl 2 (List.map Node.row t.Nodes))]), (4, .box [.d (.sl 3 (List.map Cell.row s.Cells)), .d (.int .i64 s.Motion.Period), .d (.int .i64 s.Motion.DX), .d (.int .i64 s.Motion.DY)])] (by rfl) (by rfl) ?_ fun ρ σ hf => ?_
  ·replace hm := j10
   clear j10
   refine sr1 hn ?_
   obtain ⟨y1, h3, hm⟩ := bnd hm
   simp -dsimp [c2]
   refine ag (c_R50_Right t s y1 h3) (dkL hn) ?_
   rcases aj hm with ⟨c4, hm⟩ | ⟨c4, hm⟩
   ·simp -dsimp [c4]
    refine a6 ?_
    cases hm
    exact EE.here (by simp -dsimp)
   ·rcases aj hm with ⟨c5, hm⟩ | ⟨c5, hm⟩
    ·simp -dsimp [c4, c5]
     refine a6 ?_
     cases hm
     exact EE.here (by simp -dsimp)
    ·simp -dsimp [c4, c5]
     refine a6 ?_
     cases hm
     exact EE.here (by simp -dsimp)
  ·clear j10
   simp only [Fits, ar, ap, and_true] at hf
   rcases aj hm with ⟨c6, hm⟩ | ⟨c6, hm⟩
   ·refine a8 (by simp -dsimp [hf]) c6 ?_
    refine srs hn ?_
    simp -dsimp
    refine ab (ae ?_)
    cases hm
    refine ⟨.inr rfl, ?_⟩
    exact EE.here (by simp -dsimp)
   ·refine a7 (by simp -dsimp [hf]) c6 ?_
    refine aa (a6 ?_)
    refine bF aL mixed (by rw [hn]; kernel_rfl) ?_
    obtain ⟨n1, h7, hm⟩ := bnd hm
    obtain ⟨y1, h8, hm⟩ := bnd hm
    simp -dsimp [hf, h7]
    refine al (c_R50_evolved t s n1 y1 h8) ?_
    obtain ⟨y2, h9, hm⟩ := bnd hm
    simp -dsimp
    refine al (c_R06_Home y1 y2 h9) ?_
    simp -dsimp
    refine ab ?_
    cases hm
    refine ⟨.inr rfl, ?_⟩
    exact EE.here (by simp -dsimp)
theorem c_R50_Phase (t : Tree) (s : Ship) (n : Int) (r : (List Cell) × Int) (hm : gO t s n = some r) : PureCall Tryz.prog 8 [.u (.agg [.d (.int .i64 t.States), .d (.sl 2 (List.map Point.row t.Hood)), .d (.sl 2 (List.map Node.row t.Nodes))]), .u (.agg [.d (.sl 3 (List.map Cell.row s.Cells)), .d (.int .i64 s.Motion.Period), .d (.int .i64 s.Motion.DX), .d (.int .i64 s.Motion.DY)]), .u (.one (.d (.int .i64 n)))] (.tup [.one (.d (.sl 3 (List.map Cell.row r.1))), .one (.d (.int .i64 r.2))]) := (f_R50_Phase t s n r hm).pureW
theorem f_L50_ShipPhases (t : Tree) (s : Ship) (n : Int) (r : Bool) (hm : e7 t s n = some r) : PFn Tryz.prog 3 [.u (.agg [.d (.int .i64 t.States), .d (.sl 2 (List.map Point.row t.Hood)), .d (.sl 2 (List.map Node.row t.Nodes))]), .u (.agg [.d (.sl 3 (List.map Cell.row s.Cells)), .d (.int .i64 s.Motion.Period), .d (.int .i64 s.Motion.DX), .d (.int .i64 s.Motion.DY)]), .u (.one (.d (.int .i64 n)))] (fun v => v.wk (.u (.one (.d (.bool r))))) := by
 refine aV Tryz.func3 Tryz.ntmps3 rfl (by kernel_rfl) (by simp) fun cx hn => ?_
 unfold e7 at hm
 refine srs hn ?_
 simp -dsimp
 refine ac ?_
 refine srs hn ?_
 obtain ⟨y, h1, hm⟩ := bnd hm
 simp -dsimp
 refine ag (c_L50_small t [s] y h1) (dkL hn) ?_
 simp -dsimp
 rcases aj hm with ⟨c2, hm⟩ | ⟨c2, hm⟩
 ·refine a8 (b := (aD y)) (by simp -dsimp) c2 ?_
  refine srs hn ?_
  obtain ⟨y1, h3, hm⟩ := bnd hm
  simp -dsimp [c2]
  refine ag (c_L50_awake y1 h3) (dkL hn) ?_
  simp -dsimp
  refine ab (ae ?_)
  cases hm
  refine ⟨.inr rfl, ?_⟩
  exact EE.here (by simp -dsimp)
 ·refine a7 (b := (aD y)) (by simp -dsimp) c2 ?_
  refine aa (a6 ?_)
  refine srs hn ?_
  obtain ⟨y1, h4, hm⟩ := bnd hm
  simp -dsimp [c2]
  refine ag (ku t s n y1 h4) (dkL hn) ?_
  simp -dsimp
  refine srs hn ?_
  obtain ⟨y2, h5, hm⟩ := bnd hm
  simp -dsimp
  refine ag (c_R50_Phase t s n y2 h5) (dkL hn) ?_
  simp -dsimp
  obtain ⟨a, j13, hm⟩ := bnd hm
  refine au [(6, .u (.one (.d (.bool a))))] [] (by rfl) (by rfl) ?_ fun ρ σ hf => ?_
  ·replace hm := j13
   clear j13
   refine iR aL mixed (by rw [hn]; kernel_rfl) ?_
   obtain ⟨y3, h6, hm⟩ := bnd hm
   simp -dsimp
   refine al (kC t s y3 h6) ?_
   obtain ⟨y4, h7, hm⟩ := bnd hm
   simp -dsimp
   refine al (c_R50_Right t s y4 h7) ?_
   rcases aj hm with ⟨c8, hm⟩ | ⟨c8, hm⟩
   ·obtain ⟨y5, h9, hm⟩ := bnd hm
    simp -dsimp [c8]
    refine al (c_R05_Same y1.1 y2.1 y5 h9) ?_
    rcases aj hm with ⟨c10, hm⟩ | ⟨c10, hm⟩
    ·rcases aj hm with ⟨c11, hm⟩ | ⟨c11, hm⟩
     ·obtain ⟨y6, h12, hm⟩ := bnd hm
      simp -dsimp [c10, c11]
      refine al (c_L50_awake y6 h12) ?_
      simp -dsimp
      refine a6 ?_
      cases hm
      exact EE.here (by simp -dsimp)
     ·simp -dsimp [c10, c11]
      refine a6 ?_
      cases hm
      exact EE.here (by simp -dsimp)
    ·simp -dsimp [c10]
     refine a6 ?_
     cases hm
     exact EE.here (by simp -dsimp)
   ·simp -dsimp [c8]
    refine a6 ?_
    cases hm
    exact EE.here (by simp -dsimp)
  ·clear j13
   simp only [Fits, ar, ap, and_true] at hf
   refine ab ?_
   cases hm
   refine ⟨.inr rfl, ?_⟩
   exact EE.here (by simp -dsimp [hf])
theorem c_L50_ShipPhases (t : Tree) (s : Ship) (n : Int) (r : Bool) (hm : e7 t s n = some r) : PureCall Tryz.prog 3 [.u (.agg [.d (.int .i64 t.States), .d (.sl 2 (List.map Point.row t.Hood)), .d (.sl 2 (List.map Node.row t.Nodes))]), .u (.agg [.d (.sl 3 (List.map Cell.row s.Cells)), .d (.int .i64 s.Motion.Period), .d (.int .i64 s.Motion.DX), .d (.int .i64 s.Motion.DY)]), .u (.one (.d (.int .i64 n)))] (.u (.one (.d (.bool r)))) := (f_L50_ShipPhases t s n r hm).pureW
end Go.Proofs.YtfpjnmhdbgbmmaaGreatDoor
