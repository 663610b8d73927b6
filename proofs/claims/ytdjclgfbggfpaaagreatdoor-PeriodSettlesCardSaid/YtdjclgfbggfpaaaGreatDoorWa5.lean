/-
  That the code does what the functions say (made by cc.py).
-/
import Derived.Test.YtdjclgfbggfpaaaGreatDoorMd1
import Derived.Test.YtdjclgfbggfpaaaGreatDoorTb
import Derived.Test.YtdjclgfbggfpaaaGreatDoorWa4
namespace Go.Proofs.YtdjclgfbggfpaaaGreatDoor
open Go.AM Go.Proofs
attribute [-simp] qlookup cn dG Ob.wipe Ob.ren Ob.frz1
def cE (cx : Cx) (_a : List Cell) (_b : List Cell) (x : Cell) (x1 : Cell) (tt : (Int × Int × Bool) ⊕ Unit) (ee : Exit) (ρ : Env) (σ : Sto) : Prop := match tt with
 | .inl r => ee = .ret ∧ EE cx (fun ρ σ => ∃ v, resV tb ρ σ Tryz.f30.results.toList = some v ∧ (v.frz σ).free = true ∧ (v.frz σ).wk (.tup [.one (.d (.int .i64 r.1)), .one (.d (.int .i64 r.2.1)), .one (.d (.bool r.2.2))])) ρ σ
 | .inr _u => ee = .exit 0 ∧ EE cx (b6 [(4, .u (.one (.d (.int .i64 (aM .i64 x.X x1.X))))), (5, .u (.one (.d (.int .i64 (aM .i64 x.Y x1.Y)))))] []) ρ σ
theorem l_period_moved_1 (cx : Cx) (hn : cx.n = 69) (a : List Cell) (b : List Cell) (x : Cell) (x1 : Cell) {fu : Nat} {stt : Int} {tt : (Int × Int × Bool) ⊕ Unit} (hh : ar (bY a b x x1) fu stt = some tt) {ρ : Env} {σ : Sto}
  (hE : bn (fun a2 : Int => [(0, .u (.one (.d (.sl 3 (List.map Cell.row a))))), (1, .u (.one (.d (.sl 3 (List.map Cell.row b))))), (4, .u (.one (.d (.int .i64 (aM .i64 x.X x1.X))))), (5, .u (.one (.d (.int .i64 (aM .i64 x.Y x1.Y))))), (37, .u (.one (.d (.int .i64 (ak a))))), (38, .u (.one (.d (.int .i64 a2))))]) (fun _a2 : Int => []) stt ρ σ) : Swp Tryz.prog cx (.loop (cj [1, 1, 1, 0, 1, 0, 0] (aX Tryz.f30))) ρ σ (cE cx a b x x1 tt) := by
 refine bo hE hh (cE cx a b x x1) (fun _ => by rfl) (fun _ => by rfl) ?_
 rintro a2 r hm ρ σ hf
 simp only [Fits, az, aA, and_true] at hf
 unfold bY at hm
 dsimp only at hm
 refine srs hn (by kernel_rfl) ?_
 simp -dsimp [hf]
 refine ai ?_
 rcases am hm with ⟨c5, hm⟩ | ⟨c5, hm⟩
 ·refine ab (b := (ltB a2 (ak a))) (by simp -dsimp) c5 ?_
  refine ae (a7 (ai (ap ?_)))
  refine srs hn (by kernel_rfl) ?_
  simp -dsimp [hf, c5]
  refine cZ bj mixed (by rw [hn]; kernel_rfl) ?_
  obtain ⟨x2, h6, hm⟩ := bnd hm
  obtain ⟨x3, h7, hm⟩ := bnd hm
  simp -dsimp [hf, h6, h7]
  rcases am hm with ⟨c8, hm⟩ | ⟨c8, hm⟩
  ·refine ab (b := (aR (bu (eqB x2.X (aQ .i64 x3.X (aM .i64 x.X x1.X))) (bu (eqB x2.Y (aQ .i64 x3.Y (aM .i64 x.Y x1.Y))) (bu (eqB x2.S x3.S) true))))) (by simp -dsimp) c8 ?_
   refine srs hn (by kernel_rfl) ?_
   simp -dsimp [c8]
   refine ah (aN (aj ?_))
   cases hm
   refine au nofun ?_
   unfold cE
   dsimp only
   refine ⟨rfl, ?_⟩
   refine EE.here ?_
   simp -dsimp [Tryz.results30]
  ·refine aa (b := (aR (bu (eqB x2.X (aQ .i64 x3.X (aM .i64 x.X x1.X))) (bu (eqB x2.Y (aQ .i64 x3.Y (aM .i64 x.Y x1.Y))) (bu (eqB x2.S x3.S) true))))) (by simp -dsimp) c8 ?_
   refine ae ?_
   refine aY ?_
   refine a7 ?_
   refine sr1 hn (by kernel_rfl) ?_
   simp -dsimp [hf, c8]
   cases hm
   refine aJ ?_
   refine EE.here ?_
   simp -dsimp [hf]
 ·refine aa (b := (ltB a2 (ak a))) (by simp -dsimp) c5 ?_
  refine aD ?_
  refine aj ?_
  cases hm
  refine au nofun ?_
  unfold cE
  dsimp only
  refine ⟨rfl, ?_⟩
  refine EE.here ?_
  simp -dsimp [hf, c5]
theorem f_period_moved (a : List Cell) (b : List Cell) (r : Int × Int × Bool) (hm : df a b = some r) : PFn Tryz.prog 30 [.u (.one (.d (.sl 3 (List.map Cell.row a)))), .u (.one (.d (.sl 3 (List.map Cell.row b))))] (fun v => v.wk (.tup [.one (.d (.int .i64 r.1)), .one (.d (.int .i64 r.2.1)), .one (.d (.bool r.2.2))])) := by
 refine bv Tryz.func30 Tryz.ntmps30 rfl (by kernel_rfl) (by simp) fun cx hn => ?_
 unfold df at hm
 refine srs hn (by kernel_rfl) ?_
 simp -dsimp []
 refine ai ?_
 obtain ⟨a1, j11, hm⟩ := bnd hm
 refine av [(0, .u (.one (.d (.sl 3 (List.map Cell.row a))))), (1, .u (.one (.d (.sl 3 (List.map Cell.row b))))), (17, .u (.one (.d (.bool a1))))] [] (by rfl) (by rfl) ?_ fun ρ σ hf => ?_
 ·replace hm := j11
  clear j11
  refine sr1 hn (by kernel_rfl) ?_
  rcases am hm with ⟨c1, hm⟩ | ⟨c1, hm⟩
  ·simp -dsimp [c1]
   refine a7 ?_
   cases hm
   refine EE.here ?_
   simp -dsimp
  ·simp -dsimp [c1]
   refine a7 ?_
   cases hm
   refine EE.here ?_
   simp -dsimp
 ·clear j11
  simp only [Fits, az, aA, and_true] at hf
  rcases am hm with ⟨c2, hm⟩ | ⟨c2, hm⟩
  ·refine ab (b := a1) (by simp -dsimp [hf]) c2 ?_
   refine srs hn (by kernel_rfl) ?_
   simp -dsimp
   refine ah (aj ?_)
   cases hm
   refine ⟨.inr rfl, ?_⟩
   refine EE.here ?_
   simp -dsimp
  ·refine aa (b := a1) (by simp -dsimp [hf]) c2 ?_
   refine ae (a7 ?_)
   refine cZ bj mixed (by rw [hn]; kernel_rfl) ?_
   obtain ⟨x, h3, hm⟩ := bnd hm
   obtain ⟨x1, h4, hm⟩ := bnd hm
   simp -dsimp [hf, h3, h4]
   refine ai ?_
   refine srs hn (by kernel_rfl) ?_
   simp -dsimp [hf]
   refine ap ?_
   obtain ⟨o_, g9, hm⟩ := bnd hm
   refine aW [(0, .u (.one (.d (.sl 3 (List.map Cell.row a))))), (1, .u (.one (.d (.sl 3 (List.map Cell.row b))))), (4, .u (.one (.d (.int .i64 (aM .i64 x.X x1.X))))), (5, .u (.one (.d (.int .i64 (aM .i64 x.Y x1.Y))))), (37, .u (.one (.d (.int .i64 (ak a))))), (38, .u (.one (.d (.int .i64 0))))] [] (by rfl) (by rfl) (by
     refine EE.here ?_
     simp -dsimp [hf]
   ) fun ρ σ hf => ?_
   refine (l_period_moved_1 cx hn a b x x1 g9 hf).mono fun ee ρ σ x10 => ?_
   rcases o_ with r | _u
   ·unfold cE at x10
    dsimp only at x10
    obtain ⟨rfl, x10⟩ := x10
    refine aN (aj ?_)
    cases hm
    exact ⟨.inr rfl, x10⟩
   ·unfold cE at x10
    dsimp only at x10
    obtain ⟨rfl, x10⟩ := x10
    refine aF ?_
    refine a7 ?_
    refine bl (by rfl) (by rfl) x10 fun ρ σ hf => ?_
    simp only [Fits, az, aA, and_true] at hf
    refine srs hn (by kernel_rfl) ?_
    simp -dsimp [hf]
    refine ah ?_
    cases hm
    refine ⟨.inr rfl, ?_⟩
    refine EE.here ?_
    simp -dsimp
theorem c_period_moved (a : List Cell) (b : List Cell) (r : Int × Int × Bool) (hm : df a b = some r) : PureCall Tryz.prog 30 [.u (.one (.d (.sl 3 (List.map Cell.row a)))), .u (.one (.d (.sl 3 (List.map Cell.row b))))] (.tup [.one (.d (.int .i64 r.1)), .one (.d (.int .i64 r.2.1)), .one (.d (.bool r.2.2))]) := (f_period_moved a b r hm).pureW
def cw (cx : Cx) (_t : Tree) (_p : List Cell) (_most : Int) (tt : (Motion × Bool × Int) ⊕ Unit) (ee : Exit) (ρ : Env) (σ : Sto) : Prop := match tt with
 | .inl r => ee = .ret ∧ EE cx (fun ρ σ => ∃ v, resV tb ρ σ Tryz.f12.results.toList = some v ∧ (v.frz σ).free = true ∧ (v.frz σ).wk (.tup [.agg [.d (.int .i64 r.1.Period), .d (.int .i64 r.1.DX), .d (.int .i64 r.1.DY)], .one (.d (.bool r.2.1)), .one (.d (.int .i64 r.2.2))])) ρ σ
 | .inr _u => ee = .exit 0 ∧ EE cx (b6 [(6, .u (.one (.box 6 0)))] [(6, .box [.d (.int .i64 0), .d (.int .i64 0), .d (.int .i64 0)])]) ρ σ
theorem l_period_Find_1 (cx : Cx) (hn : cx.n = 67) (t : Tree) (p : List Cell) (most : Int) {fu : Nat} {stt : (List Cell) × Int} {tt : (Motion × Bool × Int) ⊕ Unit} (hh : ar (cy t p most) fu stt = some tt) {ρ : Env} {σ : Sto}
  (hE : bn (fun stt : (List Cell) × Int => match stt with | (q, g) => [(1, .u (.one (.d (.sl 3 (List.map Cell.row p))))), (2, .u (.one (.d (.int .i64 most)))), (3, .u (.one (.box 3 0))), (6, .u (.one (.box 6 0))), (11, .u (.one (.d (.sl 3 (List.map Cell.row q))))), (12, .u (.one (.d (.int .i64 g))))]) (fun stt : (List Cell) × Int => match stt with | (_q, _g) => [(3, .box [.d (.int .i64 t.States), .d (.sl 2 (List.map Point.row t.Hood)), .d (.sl 2 (List.map Node.row t.Nodes))]), (6, .box [.d (.int .i64 0), .d (.int .i64 0), .d (.int .i64 0)])]) stt ρ σ) : Swp Tryz.prog cx (.loop (cj [1, 1, 1, 1, 0, 1, 0, 0] (aX Tryz.f12))) ρ σ (cw cx t p most tt) := by
 refine bo hE hh (cw cx t p most) (fun _ => by rfl) (fun _ => by rfl) ?_
 rintro ⟨q, g⟩ r hm ρ σ hf
 simp only [Fits, az, aA, and_true] at hf
 unfold cy at hm
 dsimp only at hm
 refine ai ?_
 obtain ⟨a, j11, hm⟩ := bnd hm
 refine av [(1, .u (.one (.d (.sl 3 (List.map Cell.row p))))), (2, .u (.one (.d (.int .i64 most)))), (3, .u (.one (.box 3 0))), (6, .u (.one (.box 6 0))), (11, .u (.one (.d (.sl 3 (List.map Cell.row q))))), (12, .u (.one (.d (.int .i64 g)))), (40, .u (.one (.d (.bool a))))] [(3, .box [.d (.int .i64 t.States), .d (.sl 2 (List.map Point.row t.Hood)), .d (.sl 2 (List.map Node.row t.Nodes))]), (6, .box [.d (.int .i64 0), .d (.int .i64 0), .d (.int .i64 0)])] (by rfl) (by rfl) ?_ fun ρ σ hf => ?_
 ·replace hm := j11
  clear j11
  refine sr1 hn (by kernel_rfl) ?_
  rcases am hm with ⟨c5, hm⟩ | ⟨c5, hm⟩
  ·simp -dsimp [hf, c5]
   refine a7 ?_
   cases hm
   refine EE.here ?_
   simp -dsimp [hf]
  ·simp -dsimp [hf, c5]
   refine a7 ?_
   cases hm
   refine EE.here ?_
   simp -dsimp [hf]
 ·clear j11
  simp only [Fits, az, aA, and_true] at hf
  rcases am hm with ⟨c6, hm⟩ | ⟨c6, hm⟩
  ·refine ab (b := a) (by simp -dsimp [hf]) c6 ?_
   refine ae (a7 (ai (ap ?_)))
   refine srs hn (by kernel_rfl) ?_
   obtain ⟨y2, h7, hm⟩ := bnd hm
   simp -dsimp [hf]
   refine ag (gY t q y2 h7) (by rw [hn]; decide) ?_
   simp -dsimp
   refine ai ?_
   refine srs hn (by kernel_rfl) ?_
   simp -dsimp
   rcases am hm with ⟨c8, hm⟩ | ⟨c8, hm⟩
   ·refine ab (b := (neB y2.2 0)) (by simp -dsimp) c8 ?_
    refine srs hn (by kernel_rfl) ?_
    simp -dsimp [hf, c8]
    refine ah (aj (aN (aj ?_)))
    cases hm
    refine au nofun ?_
    unfold cw
    dsimp only
    refine ⟨rfl, ?_⟩
    refine EE.here ?_
    simp -dsimp [hf, Tryz.results12]
   ·refine aa (b := (neB y2.2 0)) (by simp -dsimp) c8 ?_
    refine ae (a7 ?_)
    refine srs hn (by kernel_rfl) ?_
    simp -dsimp [c8]
    refine srs hn (by kernel_rfl) ?_
    obtain ⟨y3, h9, hm⟩ := bnd hm
    simp -dsimp [hf]
    refine ag (c_period_moved p y2.1 y3 h9) (by rw [hn]; decide) ?_
    simp -dsimp
    refine srs hn (by kernel_rfl) ?_
    simp -dsimp
    rcases am hm with ⟨c10, hm⟩ | ⟨c10, hm⟩
    ·refine ab (b := y3.2.2) (by simp -dsimp) c10 ?_
     refine srs hn (by kernel_rfl) ?_
     simp -dsimp [hf, c10]
     refine ah (aN (aj ?_))
     cases hm
     refine au nofun ?_
     unfold cw
     dsimp only
     refine ⟨rfl, ?_⟩
     refine EE.here ?_
     simp -dsimp [hf, Tryz.results12]
    ·refine aa (b := y3.2.2) (by simp -dsimp) c10 ?_
     refine ae ?_
     refine aY ?_
     refine a7 ?_
     refine sr1 hn (by kernel_rfl) ?_
     simp -dsimp [hf, c10]
     cases hm
     refine aJ ?_
     refine EE.here ?_
     simp -dsimp [hf]
  ·refine aa (b := a) (by simp -dsimp [hf]) c6 ?_
   refine aD ?_
   refine aj ?_
   cases hm
   refine au nofun ?_
   unfold cw
   dsimp only
   refine ⟨rfl, ?_⟩
   refine EE.here ?_
   simp -dsimp [hf]
theorem f_period_Find (t : Tree) (p : List Cell) (most : Int) (r : Motion × Bool × Int) (hm : b9 t p most = some r) : PFn Tryz.prog 12 [.u (.agg [.d (.int .i64 t.States), .d (.sl 2 (List.map Point.row t.Hood)), .d (.sl 2 (List.map Node.row t.Nodes))]), .u (.one (.d (.sl 3 (List.map Cell.row p)))), .u (.one (.d (.int .i64 most)))] (fun v => v.wk (.tup [.agg [.d (.int .i64 r.1.Period), .d (.int .i64 r.1.DX), .d (.int .i64 r.1.DY)], .one (.d (.bool r.2.1)), .one (.d (.int .i64 r.2.2))])) := by
 refine bv Tryz.func12 Tryz.ntmps12 rfl (by kernel_rfl) (by simp) fun cx hn => ?_
 unfold b9 at hm
 refine srs hn (by kernel_rfl) ?_
 simp -dsimp []
 refine ai ?_
 refine srs hn (by kernel_rfl) ?_
 obtain ⟨y, h1, hm⟩ := bnd hm
 simp -dsimp []
 refine ag (eu t p 0 y h1) (by rw [hn]; decide) ?_
 simp -dsimp
 refine srs hn (by kernel_rfl) ?_
 simp -dsimp
 rcases am hm with ⟨c2, hm⟩ | ⟨c2, hm⟩
 ·refine ab (b := (neB y.2 0)) (by simp -dsimp) c2 ?_
  refine srs hn (by kernel_rfl) ?_
  simp -dsimp [c2]
  refine ah (aj ?_)
  cases hm
  refine ⟨.inr rfl, ?_⟩
  refine EE.here ?_
  simp -dsimp
 ·refine aa (b := (neB y.2 0)) (by simp -dsimp) c2 ?_
  refine ae (a7 (ai ?_))
  refine srs hn (by kernel_rfl) ?_
  obtain ⟨y1, h3, hm⟩ := bnd hm
  simp -dsimp [c2]
  refine ag (eU most y1 h3) (by rw [hn]; decide) ?_
  simp -dsimp
  rcases am hm with ⟨c4, hm⟩ | ⟨c4, hm⟩
  ·refine ab (b := (aR y1)) (by simp -dsimp) c4 ?_
   refine srs hn (by kernel_rfl) ?_
   simp -dsimp [c4]
   refine ah (aj ?_)
   cases hm
   refine ⟨.inr rfl, ?_⟩
   refine EE.here ?_
   simp -dsimp
  ·refine aa (b := (aR y1)) (by simp -dsimp) c4 ?_
   refine ae (a7 ?_)
   refine srs hn (by kernel_rfl) ?_
   simp -dsimp [c4]
   refine ai ?_
   refine srs hn (by kernel_rfl) ?_
   simp -dsimp
   refine ap ?_
   obtain ⟨o_, g12, hm⟩ := bnd hm
   refine aW [(1, .u (.one (.d (.sl 3 (List.map Cell.row p))))), (2, .u (.one (.d (.int .i64 most)))), (3, .u (.one (.box 3 0))), (6, .u (.one (.box 6 0))), (11, .u (.one (.d (.sl 3 (List.map Cell.row p))))), (12, .u (.one (.d (.int .i64 1))))] [(3, .box [.d (.int .i64 t.States), .d (.sl 2 (List.map Point.row t.Hood)), .d (.sl 2 (List.map Node.row t.Nodes))]), (6, .box [.d (.int .i64 0), .d (.int .i64 0), .d (.int .i64 0)])] (by rfl) (by rfl) (by
     refine EE.here ?_
     simp -dsimp
   ) fun ρ σ hf => ?_
   refine (l_period_Find_1 cx hn t p most g12 hf).mono fun ee ρ σ x13 => ?_
   rcases o_ with r | _u
   ·unfold cw at x13
    dsimp only at x13
    obtain ⟨rfl, x13⟩ := x13
    refine aN (aj ?_)
    cases hm
    exact ⟨.inr rfl, x13⟩
   ·unfold cw at x13
    dsimp only at x13
    obtain ⟨rfl, x13⟩ := x13
    refine aF ?_
    refine a7 ?_
    refine bl (by rfl) (by rfl) x13 fun ρ σ hf => ?_
    simp only [Fits, az, aA, and_true] at hf
    refine srs hn (by kernel_rfl) ?_
    simp -dsimp [hf]
    refine ah ?_
    cases hm
    refine ⟨.inr rfl, ?_⟩
    refine EE.here ?_
    simp -dsimp [hf]
theorem cd (t : Tree) (p : List Cell) (most : Int) (r : Motion × Bool × Int) (hm : b9 t p most = some r) : PureCall Tryz.prog 12 [.u (.agg [.d (.int .i64 t.States), .d (.sl 2 (List.map Point.row t.Hood)), .d (.sl 2 (List.map Node.row t.Nodes))]), .u (.one (.d (.sl 3 (List.map Cell.row p)))), .u (.one (.d (.int .i64 most)))] (.tup [.agg [.d (.int .i64 r.1.Period), .d (.int .i64 r.1.DX), .d (.int .i64 r.1.DY)], .one (.d (.bool r.2.1)), .one (.d (.int .i64 r.2.2))]) := (f_period_Find t p most r hm).pureW
theorem f_period_Has (t : Tree) (p : List Cell) (m : Motion) (r : Bool × Int) (hm : bc t p m = some r) : PFn Tryz.prog 14 [.u (.agg [.d (.int .i64 t.States), .d (.sl 2 (List.map Point.row t.Hood)), .d (.sl 2 (List.map Node.row t.Nodes))]), .u (.one (.d (.sl 3 (List.map Cell.row p)))), .u (.agg [.d (.int .i64 m.Period), .d (.int .i64 m.DX), .d (.int .i64 m.DY)])] (fun v => v.wk (.tup [.one (.d (.bool r.1)), .one (.d (.int .i64 r.2))])) := by
 refine bv Tryz.func14 Tryz.ntmps14 rfl (by kernel_rfl) (by simp) fun cx hn => ?_
 unfold bc at hm
 refine srs hn (by kernel_rfl) ?_
 simp -dsimp []
 refine srs hn (by kernel_rfl) ?_
 obtain ⟨y, h1, hm⟩ := bnd hm
 simp -dsimp []
 refine ag (cd t p m.Period y h1) (by rw [hn]; decide) ?_
 simp -dsimp
 obtain ⟨a, j3, hm⟩ := bnd hm
 refine av [(6, .u (.one (.d (.bool a)))), (7, .u (.one (.d (.int .i64 y.2.2))))] [] (by rfl) (by rfl) ?_ fun ρ σ hf => ?_
 ·replace hm := j3
  clear j3
  refine sr1 hn (by kernel_rfl) ?_
  rcases am hm with ⟨c2, hm⟩ | ⟨c2, hm⟩
  ·simp -dsimp [c2]
   refine a7 ?_
   cases hm
   refine EE.here ?_
   simp -dsimp
  ·simp -dsimp [c2]
   refine a7 ?_
   cases hm
   refine EE.here ?_
   simp -dsimp
 ·clear j3
  simp only [Fits, az, aA, and_true] at hf
  refine ah ?_
  cases hm
  refine ⟨.inr rfl, ?_⟩
  refine EE.here ?_
  simp -dsimp [hf]
theorem gj (t : Tree) (p : List Cell) (m : Motion) (r : Bool × Int) (hm : bc t p m = some r) : PureCall Tryz.prog 14 [.u (.agg [.d (.int .i64 t.States), .d (.sl 2 (List.map Point.row t.Hood)), .d (.sl 2 (List.map Node.row t.Nodes))]), .u (.one (.d (.sl 3 (List.map Cell.row p)))), .u (.agg [.d (.int .i64 m.Period), .d (.int .i64 m.DX), .d (.int .i64 m.DY)])] (.tup [.one (.d (.bool r.1)), .one (.d (.int .i64 r.2))]) := (f_period_Has t p m r hm).pureW
def ba (cx : Cx) (_t : Tree) (_gens : Int) (_most : Int) (tt : (Int × Motion × Int) ⊕ Unit) (ee : Exit) (ρ : Env) (σ : Sto) : Prop := match tt with
 | .inl r => ee = .ret ∧ EE cx (fun ρ σ => ∃ v, resV tb ρ σ Tryz.f20.results.toList = some v ∧ (v.frz σ).free = true ∧ (v.frz σ).wk (.tup [.one (.d (.int .i64 r.1)), .agg [.d (.int .i64 r.2.1.Period), .d (.int .i64 r.2.1.DX), .d (.int .i64 r.2.1.DY)], .one (.d (.int .i64 r.2.2))])) ρ σ
 | .inr _u => ee = .exit 0 ∧ EE cx (b6 [(9, .u (.one (.box 9 0)))] [(9, .box [.d (.int .i64 0), .d (.int .i64 0), .d (.int .i64 0)])]) ρ σ
theorem l_period_Settles_1 (cx : Cx) (hn : cx.n = 78) (t : Tree) (gens : Int) (most : Int) {fu : Nat} {stt : (List Cell) × Int} {tt : (Int × Motion × Int) ⊕ Unit} (hh : ar (bF t gens most) fu stt = some tt) {ρ : Env} {σ : Sto}
  (hE : bn (fun stt : (List Cell) × Int => match stt with | (p1, g) => [(1, .u (.one (.d (.sl 3 (List.map Cell.row p1))))), (2, .u (.one (.d (.int .i64 gens)))), (3, .u (.one (.d (.int .i64 most)))), (4, .u (.one (.box 4 0))), (9, .u (.one (.box 9 0))), (13, .u (.one (.d (.int .i64 g))))]) (fun stt : (List Cell) × Int => match stt with | (_p1, _g) => [(4, .box [.d (.int .i64 t.States), .d (.sl 2 (List.map Point.row t.Hood)), .d (.sl 2 (List.map Node.row t.Nodes))]), (9, .box [.d (.int .i64 0), .d (.int .i64 0), .d (.int .i64 0)])]) stt ρ σ) : Swp Tryz.prog cx (.loop (cj [1, 1, 1, 0, 1, 0, 0] (aX Tryz.f20))) ρ σ (ba cx t gens most tt) := by
 refine bo hE hh (ba cx t gens most) (fun _ => by rfl) (fun _ => by rfl) ?_
 rintro ⟨p1, g⟩ r hm ρ σ hf
 simp only [Fits, az, aA, and_true] at hf
 unfold bF at hm
 dsimp only at hm
 refine ai ?_
 refine srs hn (by kernel_rfl) ?_
 simp -dsimp [hf]
 rcases am hm with ⟨c7, hm⟩ | ⟨c7, hm⟩
 ·refine ab (b := (leB g gens)) (by simp -dsimp) c7 ?_
  refine ae (a7 (ai (ap (ai ?_))))
  refine srs hn (by kernel_rfl) ?_
  simp -dsimp [hf, c7]
  rcases am hm with ⟨c8, hm⟩ | ⟨c8, hm⟩
  ·refine ab (b := (eqB (ak p1) 0)) (by simp -dsimp) c8 ?_
   refine srs hn (by kernel_rfl) ?_
   simp -dsimp [hf, c8]
   refine ah (aj (aN (aj ?_)))
   cases hm
   refine au nofun ?_
   unfold ba
   dsimp only
   refine ⟨rfl, ?_⟩
   refine EE.here ?_
   simp -dsimp [hf, Tryz.results20]
  ·refine aa (b := (eqB (ak p1) 0)) (by simp -dsimp) c8 ?_
   refine ae (a7 ?_)
   refine srs hn (by kernel_rfl) ?_
   obtain ⟨y1, h9, hm⟩ := bnd hm
   simp -dsimp [hf, c8]
   refine ag (cd t p1 most y1 h9) (by rw [hn]; decide) ?_
   simp -dsimp
   refine ai ?_
   refine srs hn (by kernel_rfl) ?_
   simp -dsimp
   rcases am hm with ⟨c10, hm⟩ | ⟨c10, hm⟩
   ·refine ab (b := (neB y1.2.2 0)) (by simp -dsimp) c10 ?_
    refine srs hn (by kernel_rfl) ?_
    simp -dsimp [hf, c10]
    refine ah (aj (aN (aj ?_)))
    cases hm
    refine au nofun ?_
    unfold ba
    dsimp only
    refine ⟨rfl, ?_⟩
    refine EE.here ?_
    simp -dsimp [hf, Tryz.results20]
   ·refine aa (b := (neB y1.2.2 0)) (by simp -dsimp) c10 ?_
    refine ae (a7 (ai ?_))
    refine srs hn (by kernel_rfl) ?_
    simp -dsimp [c10]
    rcases am hm with ⟨c11, hm⟩ | ⟨c11, hm⟩
    ·refine ab (b := y1.2.1) (by simp -dsimp) c11 ?_
     refine sw_drNs bj mixed 3 (by rw [hn]; kernel_rfl) ?_
     dsimp only [List.take, List.drop]
     simp -dsimp [hf, c11]
     refine ah (aj (aN (aj ?_)))
     cases hm
     refine au nofun ?_
     unfold ba
     dsimp only
     refine ⟨rfl, ?_⟩
     refine EE.here ?_
     simp -dsimp [hf, Tryz.results20]
    ·refine aa (b := y1.2.1) (by simp -dsimp) c11 ?_
     refine ae (a7 ?_)
     refine srs hn (by kernel_rfl) ?_
     simp -dsimp [hf, c11]
     rcases am hm with ⟨c12, hm⟩ | ⟨c12, hm⟩
     ·refine ab (b := (ltB g gens)) (by simp -dsimp) c12 ?_
      refine srs hn (by kernel_rfl) ?_
      obtain ⟨y2, h13, hm⟩ := bnd hm
      simp -dsimp [hf, c12]
      refine ag (gY t p1 y2 h13) (by rw [hn]; decide) ?_
      simp -dsimp
      refine srs hn (by kernel_rfl) ?_
      simp -dsimp
      rcases am hm with ⟨c14, hm⟩ | ⟨c14, hm⟩
      ·refine ab (b := (neB y2.2 0)) (by simp -dsimp) c14 ?_
       refine srs hn (by kernel_rfl) ?_
       simp -dsimp [hf, c14]
       refine ah (aN (aj ?_))
       cases hm
       refine au nofun ?_
       unfold ba
       dsimp only
       refine ⟨rfl, ?_⟩
       refine EE.here ?_
       simp -dsimp [hf, Tryz.results20]
      ·refine aa (b := (neB y2.2 0)) (by simp -dsimp) c14 ?_
       refine ae ?_
       refine aY ?_
       refine a7 ?_
       refine sr1 hn (by kernel_rfl) ?_
       simp -dsimp [hf, c14]
       cases hm
       refine aJ ?_
       refine EE.here ?_
       simp -dsimp [hf]
     ·refine aa (b := (ltB g gens)) (by simp -dsimp) c12 ?_
      refine ae ?_
      refine aY ?_
      refine a7 ?_
      refine sr1 hn (by kernel_rfl) ?_
      simp -dsimp [hf, c12]
      cases hm
      refine aJ ?_
      refine EE.here ?_
      simp -dsimp [hf]
 ·refine aa (b := (leB g gens)) (by simp -dsimp) c7 ?_
  refine aD ?_
  refine aj ?_
  cases hm
  refine au nofun ?_
  unfold ba
  dsimp only
  refine ⟨rfl, ?_⟩
  refine EE.here ?_
  simp -dsimp [hf, c7]
theorem f_period_Settles (t : Tree) (p : List Cell) (gens : Int) (most : Int) (r : Int × Motion × Int) (hm : bq t p gens most = some r) : PFn Tryz.prog 20 [.u (.agg [.d (.int .i64 t.States), .d (.sl 2 (List.map Point.row t.Hood)), .d (.sl 2 (List.map Node.row t.Nodes))]), .u (.one (.d (.sl 3 (List.map Cell.row p)))), .u (.one (.d (.int .i64 gens))), .u (.one (.d (.int .i64 most)))] (fun v => v.wk (.tup [.one (.d (.int .i64 r.1)), .agg [.d (.int .i64 r.2.1.Period), .d (.int .i64 r.2.1.DX), .d (.int .i64 r.2.1.DY)], .one (.d (.int .i64 r.2.2))])) := by
 refine bv Tryz.func20 Tryz.ntmps20 rfl (by kernel_rfl) (by simp) fun cx hn => ?_
 unfold bq at hm
 refine srs hn (by kernel_rfl) ?_
 simp -dsimp []
 refine ai ?_
 refine srs hn (by kernel_rfl) ?_
 obtain ⟨y, h1, hm⟩ := bnd hm
 simp -dsimp []
 refine ag (eu t p 0 y h1) (by rw [hn]; decide) ?_
 simp -dsimp
 refine srs hn (by kernel_rfl) ?_
 simp -dsimp
 rcases am hm with ⟨c2, hm⟩ | ⟨c2, hm⟩
 ·refine ab (b := (neB y.2 0)) (by simp -dsimp) c2 ?_
  refine srs hn (by kernel_rfl) ?_
  simp -dsimp [c2]
  refine ah (aj ?_)
  cases hm
  refine ⟨.inr rfl, ?_⟩
  refine EE.here ?_
  simp -dsimp
 ·refine aa (b := (neB y.2 0)) (by simp -dsimp) c2 ?_
  refine ae (a7 (ai ?_))
  obtain ⟨a, j17, hm⟩ := bnd hm
  refine av [(1, .u (.one (.d (.sl 3 (List.map Cell.row p))))), (2, .u (.one (.d (.int .i64 gens)))), (3, .u (.one (.d (.int .i64 most)))), (4, .u (.one (.box 4 0))), (9, .u (.one (.box 9 0))), (37, .u (.one (.d (.bool a))))] [(4, .box [.d (.int .i64 t.States), .d (.sl 2 (List.map Point.row t.Hood)), .d (.sl 2 (List.map Node.row t.Nodes))]), (9, .box [.d (.int .i64 0), .d (.int .i64 0), .d (.int .i64 0)])] (by rfl) (by rfl) ?_ fun ρ σ hf => ?_
  ·replace hm := j17
   clear j17
   refine sr1 hn (by kernel_rfl) ?_
   rcases am hm with ⟨c3, hm⟩ | ⟨c3, hm⟩
   ·simp -dsimp [c2, c3]
    refine a7 ?_
    cases hm
    refine EE.here ?_
    simp -dsimp
   ·rcases am hm with ⟨c4, hm⟩ | ⟨c4, hm⟩
    ·simp -dsimp [c2, c3, c4]
     refine a7 ?_
     cases hm
     refine EE.here ?_
     simp -dsimp
    ·obtain ⟨y1, h5, hm⟩ := bnd hm
     simp -dsimp [c2, c3, c4]
     refine ag (eU most y1 h5) (by rw [hn]; decide) ?_
     simp -dsimp
     refine a7 ?_
     cases hm
     refine EE.here ?_
     simp -dsimp
  ·clear j17
   simp only [Fits, az, aA, and_true] at hf
   rcases am hm with ⟨c6, hm⟩ | ⟨c6, hm⟩
   ·refine ab (b := a) (by simp -dsimp [hf]) c6 ?_
    refine srs hn (by kernel_rfl) ?_
    simp -dsimp [hf]
    refine ah (aj ?_)
    cases hm
    refine ⟨.inr rfl, ?_⟩
    refine EE.here ?_
    simp -dsimp [hf]
   ·refine aa (b := a) (by simp -dsimp [hf]) c6 ?_
    refine ae (a7 (ai ?_))
    refine srs hn (by kernel_rfl) ?_
    simp -dsimp
    refine ap ?_
    obtain ⟨o_, g15, hm⟩ := bnd hm
    refine aW [(1, .u (.one (.d (.sl 3 (List.map Cell.row p))))), (2, .u (.one (.d (.int .i64 gens)))), (3, .u (.one (.d (.int .i64 most)))), (4, .u (.one (.box 4 0))), (9, .u (.one (.box 9 0))), (13, .u (.one (.d (.int .i64 0))))] [(4, .box [.d (.int .i64 t.States), .d (.sl 2 (List.map Point.row t.Hood)), .d (.sl 2 (List.map Node.row t.Nodes))]), (9, .box [.d (.int .i64 0), .d (.int .i64 0), .d (.int .i64 0)])] (by rfl) (by rfl) (by
      refine EE.here ?_
      simp -dsimp [hf]
    ) fun ρ σ hf => ?_
    refine (l_period_Settles_1 cx hn t gens most g15 hf).mono fun ee ρ σ x16 => ?_
    rcases o_ with r | _u
    ·unfold ba at x16
     dsimp only at x16
     obtain ⟨rfl, x16⟩ := x16
     refine aN (aj ?_)
     cases hm
     exact ⟨.inr rfl, x16⟩
    ·unfold ba at x16
     dsimp only at x16
     obtain ⟨rfl, x16⟩ := x16
     refine aF ?_
     refine a7 ?_
     refine bl (by rfl) (by rfl) x16 fun ρ σ hf => ?_
     simp only [Fits, az, aA, and_true] at hf
     refine srs hn (by kernel_rfl) ?_
     simp -dsimp [hf]
     refine ah ?_
     cases hm
     refine ⟨.inr rfl, ?_⟩
     refine EE.here ?_
     simp -dsimp [hf]
theorem eI (t : Tree) (p : List Cell) (gens : Int) (most : Int) (r : Int × Motion × Int) (hm : bq t p gens most = some r) : PureCall Tryz.prog 20 [.u (.agg [.d (.int .i64 t.States), .d (.sl 2 (List.map Point.row t.Hood)), .d (.sl 2 (List.map Node.row t.Nodes))]), .u (.one (.d (.sl 3 (List.map Cell.row p)))), .u (.one (.d (.int .i64 gens))), .u (.one (.d (.int .i64 most)))] (.tup [.one (.d (.int .i64 r.1)), .agg [.d (.int .i64 r.2.1.Period), .d (.int .i64 r.2.1.DX), .d (.int .i64 r.2.1.DY)], .one (.d (.int .i64 r.2.2))]) := (f_period_Settles t p gens most r hm).pureW
theorem f_period_After (m : Motion) (n : Int) (r : Motion × Int) (hm : cF m n = some r) : PFn Tryz.prog 16 [.u (.agg [.d (.int .i64 m.Period), .d (.int .i64 m.DX), .d (.int .i64 m.DY)]), .u (.one (.d (.int .i64 n)))] (fun v => v.wk (.tup [.agg [.d (.int .i64 r.1.Period), .d (.int .i64 r.1.DX), .d (.int .i64 r.1.DY)], .one (.d (.int .i64 r.2))])) := by
 refine bv Tryz.func16 Tryz.ntmps16 rfl (by kernel_rfl) (by simp) fun cx hn => ?_
 unfold cF at hm
 refine srs hn (by kernel_rfl) ?_
 simp -dsimp []
 refine ai ?_
 obtain ⟨a, j11, hm⟩ := bnd hm
 refine av [(1, .u (.one (.d (.int .i64 n)))), (2, .u (.one (.box 2 0))), (4, .u (.one (.box 4 0))), (34, .u (.one (.d (.bool a))))] [(2, .box [.d (.int .i64 m.Period), .d (.int .i64 m.DX), .d (.int .i64 m.DY)]), (4, .box [.d (.int .i64 0), .d (.int .i64 0), .d (.int .i64 0)])] (by rfl) (by rfl) ?_ fun ρ σ hf => ?_
 ·replace hm := j11
  clear j11
  refine sr1 hn (by kernel_rfl) ?_
  obtain ⟨y, h1, hm⟩ := bnd hm
  simp -dsimp []
  refine ag (eU m.Period y h1) (by rw [hn]; decide) ?_
  rcases am hm with ⟨c2, hm⟩ | ⟨c2, hm⟩
  ·simp -dsimp [c2]
   refine a7 ?_
   cases hm
   refine EE.here ?_
   simp -dsimp
  ·rcases am hm with ⟨c3, hm⟩ | ⟨c3, hm⟩
   ·simp -dsimp [c2, c3]
    refine a7 ?_
    cases hm
    refine EE.here ?_
    simp -dsimp
   ·rcases am hm with ⟨c4, hm⟩ | ⟨c4, hm⟩
    ·simp -dsimp [c2, c3, c4]
     refine a7 ?_
     cases hm
     refine EE.here ?_
     simp -dsimp
    ·rcases am hm with ⟨c5, hm⟩ | ⟨c5, hm⟩
     ·simp -dsimp [c2, c3, c4, c5]
      refine a7 ?_
      cases hm
      refine EE.here ?_
      simp -dsimp
     ·simp -dsimp [c2, c3, c4, c5]
      refine a7 ?_
      cases hm
      refine EE.here ?_
      simp -dsimp
 ·clear j11
  simp only [Fits, az, aA, and_true] at hf
  rcases am hm with ⟨c6, hm⟩ | ⟨c6, hm⟩
  ·refine ab (b := a) (by simp -dsimp [hf]) c6 ?_
   refine srs hn (by kernel_rfl) ?_
   simp -dsimp [hf]
   refine ah (aj ?_)
   cases hm
   refine ⟨.inr rfl, ?_⟩
   refine EE.here ?_
   simp -dsimp [hf]
  ·refine aa (b := a) (by simp -dsimp [hf]) c6 ?_
   refine ae (a7 ?_)
   refine srs hn (by kernel_rfl) ?_
   simp -dsimp [hf]
   refine ai ?_
   obtain ⟨a1, j10, hm⟩ := bnd hm
   refine av [(4, .u (.one (.box 4 0))), (6, .u (.one (.box 6 0))), (67, .u (.one (.d (.bool a1))))] [(4, .box [.d (.int .i64 0), .d (.int .i64 0), .d (.int .i64 0)]), (6, .box [.d (.int .i64 (eY .i64 m.Period n)), .d (.int .i64 (eY .i64 m.DX n)), .d (.int .i64 (eY .i64 m.DY n))])] (by rfl) (by rfl) ?_ fun ρ σ hf => ?_
   ·replace hm := j10
    clear j10
    refine sr1 hn (by kernel_rfl) ?_
    rcases am hm with ⟨c7, hm⟩ | ⟨c7, hm⟩
    ·simp -dsimp [c7]
     refine a7 ?_
     cases hm
     refine EE.here ?_
     simp -dsimp [hf]
    ·rcases am hm with ⟨c8, hm⟩ | ⟨c8, hm⟩
     ·simp -dsimp [c7, c8]
      refine a7 ?_
      cases hm
      refine EE.here ?_
      simp -dsimp [hf]
     ·simp -dsimp [c7, c8]
      refine a7 ?_
      cases hm
      refine EE.here ?_
      simp -dsimp [hf]
   ·clear j10
    simp only [Fits, az, aA, and_true] at hf
    rcases am hm with ⟨c9, hm⟩ | ⟨c9, hm⟩
    ·refine ab (b := a1) (by simp -dsimp [hf]) c9 ?_
     refine srs hn (by kernel_rfl) ?_
     simp -dsimp [hf]
     refine ah (aj ?_)
     cases hm
     refine ⟨.inr rfl, ?_⟩
     refine EE.here ?_
     simp -dsimp [hf]
    ·refine aa (b := a1) (by simp -dsimp [hf]) c9 ?_
     refine ae (a7 ?_)
     refine srs hn (by kernel_rfl) ?_
     simp -dsimp [hf]
     refine ah ?_
     cases hm
     refine ⟨.inr rfl, ?_⟩
     refine EE.here ?_
     simp -dsimp [hf]
theorem c_period_After (m : Motion) (n : Int) (r : Motion × Int) (hm : cF m n = some r) : PureCall Tryz.prog 16 [.u (.agg [.d (.int .i64 m.Period), .d (.int .i64 m.DX), .d (.int .i64 m.DY)]), .u (.one (.d (.int .i64 n)))] (.tup [.agg [.d (.int .i64 r.1.Period), .d (.int .i64 r.1.DX), .d (.int .i64 r.1.DY)], .one (.d (.int .i64 r.2))]) := (f_period_After m n r hm).pureW
theorem f_period_Kind (m : Motion) (r : Int) (hm : eJ m = some r) : PFn Tryz.prog 18 [.u (.agg [.d (.int .i64 m.Period), .d (.int .i64 m.DX), .d (.int .i64 m.DY)])] (fun v => v.wk (.u (.one (.d (.int .i64 r))))) := by
 refine bv Tryz.func18 Tryz.ntmps18 rfl (by kernel_rfl) (by simp) fun cx hn => ?_
 unfold eJ at hm
 refine srs hn (by kernel_rfl) ?_
 simp -dsimp []
 refine ai (ap ?_)
 refine srs hn (by kernel_rfl) ?_
 obtain ⟨y, h1, hm⟩ := bnd hm
 simp -dsimp []
 refine ag (eU m.Period y h1) (by rw [hn]; decide) ?_
 simp -dsimp
 rcases am hm with ⟨c2, hm⟩ | ⟨c2, hm⟩
 ·refine ab (b := (aR y)) (by simp -dsimp) c2 ?_
  refine srs hn (by kernel_rfl) ?_
  simp -dsimp [c2]
  refine ah (aN (aj ?_))
  cases hm
  refine ⟨.inr rfl, ?_⟩
  refine EE.here ?_
  simp -dsimp
 ·refine aa (b := (aR y)) (by simp -dsimp) c2 ?_
  obtain ⟨a, j6, hm⟩ := bnd hm
  refine av [(1, .u (.one (.box 1 0))), (8, .u (.one (.d (.bool a))))] [(1, .box [.d (.int .i64 m.Period), .d (.int .i64 m.DX), .d (.int .i64 m.DY)])] (by rfl) (by rfl) ?_ fun ρ σ hf => ?_
  ·replace hm := j6
   clear j6
   refine sr1 hn (by kernel_rfl) ?_
   rcases am hm with ⟨c3, hm⟩ | ⟨c3, hm⟩
   ·simp -dsimp [c2, c3]
    refine a7 ?_
    cases hm
    refine EE.here ?_
    simp -dsimp
   ·simp -dsimp [c2, c3]
    refine a7 ?_
    cases hm
    refine EE.here ?_
    simp -dsimp
  ·clear j6
   simp only [Fits, az, aA, and_true] at hf
   rcases am hm with ⟨c4, hm⟩ | ⟨c4, hm⟩
   ·refine ab (b := a) (by simp -dsimp [hf]) c4 ?_
    refine srs hn (by kernel_rfl) ?_
    simp -dsimp
    refine ah (aN (aj ?_))
    cases hm
    refine ⟨.inr rfl, ?_⟩
    refine EE.here ?_
    simp -dsimp
   ·refine aa (b := a) (by simp -dsimp [hf]) c4 ?_
    refine srs hn (by kernel_rfl) ?_
    simp -dsimp [hf]
    rcases am hm with ⟨c5, hm⟩ | ⟨c5, hm⟩
    ·refine ab (b := (gtB m.Period 1)) (by simp -dsimp) c5 ?_
     refine srs hn (by kernel_rfl) ?_
     simp -dsimp [c5]
     refine ah (aN (aj ?_))
     cases hm
     refine ⟨.inr rfl, ?_⟩
     refine EE.here ?_
     simp -dsimp
    ·refine aa (b := (gtB m.Period 1)) (by simp -dsimp) c5 ?_
     refine ae ?_
     refine aY ?_
     refine a7 ?_
     refine srs hn (by kernel_rfl) ?_
     simp -dsimp [c5]
     refine ah ?_
     cases hm
     refine ⟨.inr rfl, ?_⟩
     refine EE.here ?_
     simp -dsimp
theorem c_period_Kind (m : Motion) (r : Int) (hm : eJ m = some r) : PureCall Tryz.prog 18 [.u (.agg [.d (.int .i64 m.Period), .d (.int .i64 m.DX), .d (.int .i64 m.DY)])] (.u (.one (.d (.int .i64 r)))) := (f_period_Kind m r hm).pureW
end Go.Proofs.YtdjclgfbggfpaaaGreatDoor
