/-
  That the code does what the functions say (made by cc.py).
-/
import Derived.Test.YtfpjnmhdbgbmmaaGreatDoorMd1
import Derived.Test.YtfpjnmhdbgbmmaaGreatDoorTb
import Derived.Test.YtfpjnmhdbgbmmaaGreatDoorWa3
import Derived.Test.YtfpjnmhdbgbmmaaGreatDoorWa5
import Derived.Test.YtfpjnmhdbgbmmaaGreatDoorWa7
namespace Go.Proofs.YtfpjnmhdbgbmmaaGreatDoor
open Go.AM Go.Proofs
attribute [-simp] qlookup cC dS Ob.wipe Ob.ren Ob.frz1
def cQ (cx : Cx) (_a : List Cell) (_b : List Cell) (x : Cell) (x1 : Cell) (tt : (Int × Int × Bool) ⊕ Unit) (ee : Exit) (ρ : Env) (σ : Sto) : Prop := match tt with
 | .inl r => ee = .ret ∧ EE cx (fun ρ σ => ∃ v, resV tb ρ σ Tryz.f123.results.toList = some v ∧ (v.frz σ).free = true ∧ (v.frz σ).wk (.tup [.one (.d (.int .i64 r.1)), .one (.d (.int .i64 r.2.1)), .one (.d (.bool r.2.2))])) ρ σ
 | .inr _u => ee = .exit 0 ∧ EE cx (aU [(4, .u (.one (.d (.int .i64 (aA .i64 x.X x1.X))))), (5, .u (.one (.d (.int .i64 (aA .i64 x.Y x1.Y)))))] []) ρ σ
theorem l_period_moved_1 (cx : Cx) (hn : cx.n = 69) (a : List Cell) (b : List Cell) (x : Cell) (x1 : Cell) {fu : Nat} {stt : Int} {tt : (Int × Int × Bool) ⊕ Unit} (hh : al (fG a b x x1) fu stt = some tt) {ρ : Env} {σ : Sto}
  (hE : b4 (fun a2 : Int => [(0, .u (.one (.d (.sl 3 (List.map Cell.row a))))), (1, .u (.one (.d (.sl 3 (List.map Cell.row b))))), (4, .u (.one (.d (.int .i64 (aA .i64 x.X x1.X))))), (5, .u (.one (.d (.int .i64 (aA .i64 x.Y x1.Y))))), (37, .u (.one (.d (.int .i64 (ah a))))), (38, .u (.one (.d (.int .i64 a2))))]) (fun _a2 : Int => []) stt ρ σ) : Swp Tryz.prog cx (.loop (bQ [1, 1, 1, 0, 1, 0, 0] (aP Tryz.f123))) ρ σ (cQ cx a b x x1 tt) := by
 refine b8 hE hh (cQ cx a b x x1) (fun _ => by rfl) (fun _ => by rfl) ?_
 rintro a2 r hm ρ σ hf
 simp only [Fits, am, ap, and_true] at hf
 unfold fG at hm
 dsimp only at hm
 refine srs hn (by kernel_rfl) ?_
 simp -dsimp [hf]
 refine ac ?_
 rcases aj hm with ⟨c5, hm⟩ | ⟨c5, hm⟩
 ·refine a8 (b := (ltB a2 (ah a))) (by simp -dsimp) c5 ?_
  refine ab (a6 (ac (ai ?_)))
  refine srs hn (by kernel_rfl) ?_
  simp -dsimp [hf, c5]
  refine ck aK mixed (by rw [hn]; kernel_rfl) ?_
  obtain ⟨x2, h6, hm⟩ := bnd hm
  obtain ⟨x3, h7, hm⟩ := bnd hm
  simp -dsimp [hf, h6, h7]
  rcases aj hm with ⟨c8, hm⟩ | ⟨c8, hm⟩
  ·refine a8 (b := (aM (bA (eqB x2.X (aH .i64 x3.X (aA .i64 x.X x1.X))) (bA (eqB x2.Y (aH .i64 x3.Y (aA .i64 x.Y x1.Y))) (bA (eqB x2.S x3.S) true))))) (by simp -dsimp) c8 ?_
   refine srs hn (by kernel_rfl) ?_
   simp -dsimp [c8]
   refine aa (aN (ag ?_))
   cases hm
   refine ar nofun ?_
   unfold cQ
   dsimp only
   refine ⟨rfl, ?_⟩
   refine EE.here ?_
   simp -dsimp [Tryz.results123]
  ·refine a7 (b := (aM (bA (eqB x2.X (aH .i64 x3.X (aA .i64 x.X x1.X))) (bA (eqB x2.Y (aH .i64 x3.Y (aA .i64 x.Y x1.Y))) (bA (eqB x2.S x3.S) true))))) (by simp -dsimp) c8 ?_
   refine ab ?_
   refine aJ ?_
   refine a6 ?_
   refine sr1 hn (by kernel_rfl) ?_
   simp -dsimp [hf, c8]
   cases hm
   refine aB ?_
   refine EE.here ?_
   simp -dsimp [hf]
 ·refine a7 (b := (ltB a2 (ah a))) (by simp -dsimp) c5 ?_
  refine av ?_
  refine ag ?_
  cases hm
  refine ar nofun ?_
  unfold cQ
  dsimp only
  refine ⟨rfl, ?_⟩
  refine EE.here ?_
  simp -dsimp [hf, c5]
set_option maxRecDepth 20000 in
theorem f_period_moved (a : List Cell) (b : List Cell) (r : Int × Int × Bool) (hm : eY a b = some r) : PFn Tryz.prog 123 [.u (.one (.d (.sl 3 (List.map Cell.row a)))), .u (.one (.d (.sl 3 (List.map Cell.row b))))] (fun v => v.wk (.tup [.one (.d (.int .i64 r.1)), .one (.d (.int .i64 r.2.1)), .one (.d (.bool r.2.2))])) := by
 refine aX Tryz.func123 Tryz.ntmps123 rfl (by kernel_rfl) (by simp) fun cx hn => ?_
 unfold eY at hm
 refine srs hn (by kernel_rfl) ?_
 simp -dsimp []
 refine ac ?_
 obtain ⟨a1, j11, hm⟩ := bnd hm
 refine aw [(0, .u (.one (.d (.sl 3 (List.map Cell.row a))))), (1, .u (.one (.d (.sl 3 (List.map Cell.row b))))), (17, .u (.one (.d (.bool a1))))] [] (by rfl) (by rfl) ?_ fun ρ σ hf => ?_
 ·replace hm := j11
  clear j11
  refine sr1 hn (by kernel_rfl) ?_
  rcases aj hm with ⟨c1, hm⟩ | ⟨c1, hm⟩
  ·simp -dsimp [c1]
   refine a6 ?_
   cases hm
   refine EE.here ?_
   simp -dsimp
  ·simp -dsimp [c1]
   refine a6 ?_
   cases hm
   refine EE.here ?_
   simp -dsimp
 ·clear j11
  simp only [Fits, am, ap, and_true] at hf
  rcases aj hm with ⟨c2, hm⟩ | ⟨c2, hm⟩
  ·refine a8 (b := a1) (by simp -dsimp [hf]) c2 ?_
   refine srs hn (by kernel_rfl) ?_
   simp -dsimp
   refine aa (ag ?_)
   cases hm
   refine ⟨.inr rfl, ?_⟩
   refine EE.here ?_
   simp -dsimp
  ·refine a7 (b := a1) (by simp -dsimp [hf]) c2 ?_
   refine ab (a6 ?_)
   refine ck aK mixed (by rw [hn]; kernel_rfl) ?_
   obtain ⟨x, h3, hm⟩ := bnd hm
   obtain ⟨x1, h4, hm⟩ := bnd hm
   simp -dsimp [hf, h3, h4]
   refine ac ?_
   refine srs hn (by kernel_rfl) ?_
   simp -dsimp [hf]
   refine ai ?_
   obtain ⟨o_, g9, hm⟩ := bnd hm
   refine aO [(0, .u (.one (.d (.sl 3 (List.map Cell.row a))))), (1, .u (.one (.d (.sl 3 (List.map Cell.row b))))), (4, .u (.one (.d (.int .i64 (aA .i64 x.X x1.X))))), (5, .u (.one (.d (.int .i64 (aA .i64 x.Y x1.Y))))), (37, .u (.one (.d (.int .i64 (ah a))))), (38, .u (.one (.d (.int .i64 0))))] [] (by rfl) (by rfl) (by
     refine EE.here ?_
     simp -dsimp [hf]
   ) fun ρ σ hf => ?_
   refine (l_period_moved_1 cx hn a b x x1 g9 hf).mono fun ee ρ σ x10 => ?_
   rcases o_ with r | _u
   ·unfold cQ at x10
    dsimp only at x10
    obtain ⟨rfl, x10⟩ := x10
    refine aN (ag ?_)
    cases hm
    exact ⟨.inr rfl, x10⟩
   ·unfold cQ at x10
    dsimp only at x10
    obtain ⟨rfl, x10⟩ := x10
    refine au ?_
    refine a6 ?_
    refine b5 (by rfl) (by rfl) x10 fun ρ σ hf => ?_
    simp only [Fits, am, ap, and_true] at hf
    refine srs hn (by kernel_rfl) ?_
    simp -dsimp [hf]
    refine aa ?_
    cases hm
    refine ⟨.inr rfl, ?_⟩
    refine EE.here ?_
    simp -dsimp
theorem c_period_moved (a : List Cell) (b : List Cell) (r : Int × Int × Bool) (hm : eY a b = some r) : PureCall Tryz.prog 123 [.u (.one (.d (.sl 3 (List.map Cell.row a)))), .u (.one (.d (.sl 3 (List.map Cell.row b))))] (.tup [.one (.d (.int .i64 r.1)), .one (.d (.int .i64 r.2.1)), .one (.d (.bool r.2.2))]) := (f_period_moved a b r hm).pureW
def cr (cx : Cx) (_t : Tree) (_p : List Cell) (_most : Int) (tt : (Motion × Bool × Int) ⊕ Unit) (ee : Exit) (ρ : Env) (σ : Sto) : Prop := match tt with
 | .inl r => ee = .ret ∧ EE cx (fun ρ σ => ∃ v, resV tb ρ σ Tryz.f59.results.toList = some v ∧ (v.frz σ).free = true ∧ (v.frz σ).wk (.tup [.agg [.d (.int .i64 r.1.Period), .d (.int .i64 r.1.DX), .d (.int .i64 r.1.DY)], .one (.d (.bool r.2.1)), .one (.d (.int .i64 r.2.2))])) ρ σ
 | .inr _u => ee = .exit 0 ∧ EE cx (aU [(6, .u (.one (.box 6 0)))] [(6, .box [.d (.int .i64 0), .d (.int .i64 0), .d (.int .i64 0)])]) ρ σ
theorem l_period_Find_1 (cx : Cx) (hn : cx.n = 67) (t : Tree) (p : List Cell) (most : Int) {fu : Nat} {stt : (List Cell) × Int} {tt : (Motion × Bool × Int) ⊕ Unit} (hh : al (gh t p most) fu stt = some tt) {ρ : Env} {σ : Sto}
  (hE : b4 (fun stt : (List Cell) × Int => match stt with | (q, gv) => [(1, .u (.one (.d (.sl 3 (List.map Cell.row p))))), (2, .u (.one (.d (.int .i64 most)))), (3, .u (.one (.box 3 0))), (6, .u (.one (.box 6 0))), (11, .u (.one (.d (.sl 3 (List.map Cell.row q))))), (12, .u (.one (.d (.int .i64 gv))))]) (fun stt : (List Cell) × Int => match stt with | (_q, _gv) => [(3, .box [.d (.int .i64 t.States), .d (.sl 2 (List.map Point.row t.Hood)), .d (.sl 2 (List.map Node.row t.Nodes))]), (6, .box [.d (.int .i64 0), .d (.int .i64 0), .d (.int .i64 0)])]) stt ρ σ) : Swp Tryz.prog cx (.loop (bQ [1, 1, 1, 1, 0, 1, 0, 0] (aP Tryz.f59))) ρ σ (cr cx t p most tt) := by
 refine b8 hE hh (cr cx t p most) (fun _ => by rfl) (fun _ => by rfl) ?_
 rintro ⟨q, gv⟩ r hm ρ σ hf
 simp only [Fits, am, ap, and_true] at hf
 unfold gh at hm
 dsimp only at hm
 refine ac ?_
 obtain ⟨a, j11, hm⟩ := bnd hm
 refine aw [(1, .u (.one (.d (.sl 3 (List.map Cell.row p))))), (2, .u (.one (.d (.int .i64 most)))), (3, .u (.one (.box 3 0))), (6, .u (.one (.box 6 0))), (11, .u (.one (.d (.sl 3 (List.map Cell.row q))))), (12, .u (.one (.d (.int .i64 gv)))), (40, .u (.one (.d (.bool a))))] [(3, .box [.d (.int .i64 t.States), .d (.sl 2 (List.map Point.row t.Hood)), .d (.sl 2 (List.map Node.row t.Nodes))]), (6, .box [.d (.int .i64 0), .d (.int .i64 0), .d (.int .i64 0)])] (by rfl) (by rfl) ?_ fun ρ σ hf => ?_
 ·replace hm := j11
  clear j11
  refine sr1 hn (by kernel_rfl) ?_
  rcases aj hm with ⟨c5, hm⟩ | ⟨c5, hm⟩
  ·simp -dsimp [hf, c5]
   refine a6 ?_
   cases hm
   refine EE.here ?_
   simp -dsimp [hf]
  ·simp -dsimp [hf, c5]
   refine a6 ?_
   cases hm
   refine EE.here ?_
   simp -dsimp [hf]
 ·clear j11
  simp only [Fits, am, ap, and_true] at hf
  rcases aj hm with ⟨c6, hm⟩ | ⟨c6, hm⟩
  ·refine a8 (b := a) (by simp -dsimp [hf]) c6 ?_
   refine ab (a6 (ac (ai ?_)))
   refine srs hn (by kernel_rfl) ?_
   obtain ⟨y2, h7, hm⟩ := bnd hm
   simp -dsimp [hf]
   refine ae (c_direct_Step t q y2 h7) (by rw [hn]; decide) ?_
   simp -dsimp
   refine ac ?_
   refine srs hn (by kernel_rfl) ?_
   simp -dsimp
   rcases aj hm with ⟨c8, hm⟩ | ⟨c8, hm⟩
   ·refine a8 (b := (neB y2.2 0)) (by simp -dsimp) c8 ?_
    refine srs hn (by kernel_rfl) ?_
    simp -dsimp [hf, c8]
    refine aa (ag (aN (ag ?_)))
    cases hm
    refine ar nofun ?_
    unfold cr
    dsimp only
    refine ⟨rfl, ?_⟩
    refine EE.here ?_
    simp -dsimp [hf, Tryz.results59]
   ·refine a7 (b := (neB y2.2 0)) (by simp -dsimp) c8 ?_
    refine ab (a6 ?_)
    refine srs hn (by kernel_rfl) ?_
    simp -dsimp [c8]
    refine srs hn (by kernel_rfl) ?_
    obtain ⟨y3, h9, hm⟩ := bnd hm
    simp -dsimp [hf]
    refine ae (c_period_moved p y2.1 y3 h9) (by rw [hn]; decide) ?_
    simp -dsimp
    refine srs hn (by kernel_rfl) ?_
    simp -dsimp
    rcases aj hm with ⟨c10, hm⟩ | ⟨c10, hm⟩
    ·refine a8 (b := y3.2.2) (by simp -dsimp) c10 ?_
     refine srs hn (by kernel_rfl) ?_
     simp -dsimp [hf, c10]
     refine aa (aN (ag ?_))
     cases hm
     refine ar nofun ?_
     unfold cr
     dsimp only
     refine ⟨rfl, ?_⟩
     refine EE.here ?_
     simp -dsimp [hf, Tryz.results59]
    ·refine a7 (b := y3.2.2) (by simp -dsimp) c10 ?_
     refine ab ?_
     refine aJ ?_
     refine a6 ?_
     refine sr1 hn (by kernel_rfl) ?_
     simp -dsimp [hf, c10]
     cases hm
     refine aB ?_
     refine EE.here ?_
     simp -dsimp [hf]
  ·refine a7 (b := a) (by simp -dsimp [hf]) c6 ?_
   refine av ?_
   refine ag ?_
   cases hm
   refine ar nofun ?_
   unfold cr
   dsimp only
   refine ⟨rfl, ?_⟩
   refine EE.here ?_
   simp -dsimp [hf]
theorem f_period_Find (t : Tree) (p : List Cell) (most : Int) (r : Motion × Bool × Int) (hm : fN t p most = some r) : PFn Tryz.prog 59 [.u (.agg [.d (.int .i64 t.States), .d (.sl 2 (List.map Point.row t.Hood)), .d (.sl 2 (List.map Node.row t.Nodes))]), .u (.one (.d (.sl 3 (List.map Cell.row p)))), .u (.one (.d (.int .i64 most)))] (fun v => v.wk (.tup [.agg [.d (.int .i64 r.1.Period), .d (.int .i64 r.1.DX), .d (.int .i64 r.1.DY)], .one (.d (.bool r.2.1)), .one (.d (.int .i64 r.2.2))])) := by
 refine aX Tryz.func59 Tryz.ntmps59 rfl (by kernel_rfl) (by simp) fun cx hn => ?_
 unfold fN at hm
 refine srs hn (by kernel_rfl) ?_
 simp -dsimp []
 refine ac ?_
 refine srs hn (by kernel_rfl) ?_
 obtain ⟨y, h1, hm⟩ := bnd hm
 simp -dsimp []
 refine ae (iD t p 0 y h1) (by rw [hn]; decide) ?_
 simp -dsimp
 refine srs hn (by kernel_rfl) ?_
 simp -dsimp
 rcases aj hm with ⟨c2, hm⟩ | ⟨c2, hm⟩
 ·refine a8 (b := (neB y.2 0)) (by simp -dsimp) c2 ?_
  refine srs hn (by kernel_rfl) ?_
  simp -dsimp [c2]
  refine aa (ag ?_)
  cases hm
  refine ⟨.inr rfl, ?_⟩
  refine EE.here ?_
  simp -dsimp
 ·refine a7 (b := (neB y.2 0)) (by simp -dsimp) c2 ?_
  refine ab (a6 (ac ?_))
  refine srs hn (by kernel_rfl) ?_
  obtain ⟨y1, h3, hm⟩ := bnd hm
  simp -dsimp [c2]
  refine ae (c_period_proper most y1 h3) (by rw [hn]; decide) ?_
  simp -dsimp
  rcases aj hm with ⟨c4, hm⟩ | ⟨c4, hm⟩
  ·refine a8 (b := (aM y1)) (by simp -dsimp) c4 ?_
   refine srs hn (by kernel_rfl) ?_
   simp -dsimp [c4]
   refine aa (ag ?_)
   cases hm
   refine ⟨.inr rfl, ?_⟩
   refine EE.here ?_
   simp -dsimp
  ·refine a7 (b := (aM y1)) (by simp -dsimp) c4 ?_
   refine ab (a6 ?_)
   refine srs hn (by kernel_rfl) ?_
   simp -dsimp [c4]
   refine ac ?_
   refine srs hn (by kernel_rfl) ?_
   simp -dsimp
   refine ai ?_
   obtain ⟨o_, g12, hm⟩ := bnd hm
   refine aO [(1, .u (.one (.d (.sl 3 (List.map Cell.row p))))), (2, .u (.one (.d (.int .i64 most)))), (3, .u (.one (.box 3 0))), (6, .u (.one (.box 6 0))), (11, .u (.one (.d (.sl 3 (List.map Cell.row p))))), (12, .u (.one (.d (.int .i64 1))))] [(3, .box [.d (.int .i64 t.States), .d (.sl 2 (List.map Point.row t.Hood)), .d (.sl 2 (List.map Node.row t.Nodes))]), (6, .box [.d (.int .i64 0), .d (.int .i64 0), .d (.int .i64 0)])] (by rfl) (by rfl) (by
     refine EE.here ?_
     simp -dsimp
   ) fun ρ σ hf => ?_
   refine (l_period_Find_1 cx hn t p most g12 hf).mono fun ee ρ σ x13 => ?_
   rcases o_ with r | _u
   ·unfold cr at x13
    dsimp only at x13
    obtain ⟨rfl, x13⟩ := x13
    refine aN (ag ?_)
    cases hm
    exact ⟨.inr rfl, x13⟩
   ·unfold cr at x13
    dsimp only at x13
    obtain ⟨rfl, x13⟩ := x13
    refine au ?_
    refine a6 ?_
    refine b5 (by rfl) (by rfl) x13 fun ρ σ hf => ?_
    simp only [Fits, am, ap, and_true] at hf
    refine srs hn (by kernel_rfl) ?_
    simp -dsimp [hf]
    refine aa ?_
    cases hm
    refine ⟨.inr rfl, ?_⟩
    refine EE.here ?_
    simp -dsimp [hf]
theorem c_period_Find (t : Tree) (p : List Cell) (most : Int) (r : Motion × Bool × Int) (hm : fN t p most = some r) : PureCall Tryz.prog 59 [.u (.agg [.d (.int .i64 t.States), .d (.sl 2 (List.map Point.row t.Hood)), .d (.sl 2 (List.map Node.row t.Nodes))]), .u (.one (.d (.sl 3 (List.map Cell.row p)))), .u (.one (.d (.int .i64 most)))] (.tup [.agg [.d (.int .i64 r.1.Period), .d (.int .i64 r.1.DX), .d (.int .i64 r.1.DY)], .one (.d (.bool r.2.1)), .one (.d (.int .i64 r.2.2))]) := (f_period_Find t p most r hm).pureW
theorem f_period_Has (t : Tree) (p : List Cell) (m : Motion) (r : Bool × Int) (hm : gH t p m = some r) : PFn Tryz.prog 28 [.u (.agg [.d (.int .i64 t.States), .d (.sl 2 (List.map Point.row t.Hood)), .d (.sl 2 (List.map Node.row t.Nodes))]), .u (.one (.d (.sl 3 (List.map Cell.row p)))), .u (.agg [.d (.int .i64 m.Period), .d (.int .i64 m.DX), .d (.int .i64 m.DY)])] (fun v => v.wk (.tup [.one (.d (.bool r.1)), .one (.d (.int .i64 r.2))])) := by
 refine aX Tryz.func28 Tryz.ntmps28 rfl (by kernel_rfl) (by simp) fun cx hn => ?_
 unfold gH at hm
 refine srs hn (by kernel_rfl) ?_
 simp -dsimp []
 refine srs hn (by kernel_rfl) ?_
 obtain ⟨y, h1, hm⟩ := bnd hm
 simp -dsimp []
 refine ae (c_period_Find t p m.Period y h1) (by rw [hn]; decide) ?_
 simp -dsimp
 obtain ⟨a, j3, hm⟩ := bnd hm
 refine aw [(6, .u (.one (.d (.bool a)))), (7, .u (.one (.d (.int .i64 y.2.2))))] [] (by rfl) (by rfl) ?_ fun ρ σ hf => ?_
 ·replace hm := j3
  clear j3
  refine sr1 hn (by kernel_rfl) ?_
  rcases aj hm with ⟨c2, hm⟩ | ⟨c2, hm⟩
  ·simp -dsimp [c2]
   refine a6 ?_
   cases hm
   refine EE.here ?_
   simp -dsimp
  ·simp -dsimp [c2]
   refine a6 ?_
   cases hm
   refine EE.here ?_
   simp -dsimp
 ·clear j3
  simp only [Fits, am, ap, and_true] at hf
  refine aa ?_
  cases hm
  refine ⟨.inr rfl, ?_⟩
  refine EE.here ?_
  simp -dsimp [hf]
theorem c_period_Has (t : Tree) (p : List Cell) (m : Motion) (r : Bool × Int) (hm : gH t p m = some r) : PureCall Tryz.prog 28 [.u (.agg [.d (.int .i64 t.States), .d (.sl 2 (List.map Point.row t.Hood)), .d (.sl 2 (List.map Node.row t.Nodes))]), .u (.one (.d (.sl 3 (List.map Cell.row p)))), .u (.agg [.d (.int .i64 m.Period), .d (.int .i64 m.DX), .d (.int .i64 m.DY)])] (.tup [.one (.d (.bool r.1)), .one (.d (.int .i64 r.2))]) := (f_period_Has t p m r hm).pureW
theorem f_ship_Right (t : Tree) (s : Ship) (r : Bool) (hm : eT t s = some r) : PFn Tryz.prog 9 [.u (.agg [.d (.int .i64 t.States), .d (.sl 2 (List.map Point.row t.Hood)), .d (.sl 2 (List.map Node.row t.Nodes))]), .u (.agg [.d (.sl 3 (List.map Cell.row s.Cells)), .d (.int .i64 s.Motion.Period), .d (.int .i64 s.Motion.DX), .d (.int .i64 s.Motion.DY)])] (fun v => v.wk (.u (.one (.d (.bool r))))) := by
 refine aX Tryz.func9 Tryz.ntmps9 rfl (by kernel_rfl) (by simp) fun cx hn => ?_
 unfold eT at hm
 refine srs hn (by kernel_rfl) ?_
 simp -dsimp []
 refine srs hn (by kernel_rfl) ?_
 obtain ⟨y, h1, hm⟩ := bnd hm
 simp -dsimp []
 refine ae (ig s.Cells y h1) (by rw [hn]; decide) ?_
 simp -dsimp
 refine ac ?_
 obtain ⟨a, j8, hm⟩ := bnd hm
 refine aw [(2, .u (.one (.box 2 0))), (3, .u (.one (.box 3 0))), (26, .u (.one (.d (.bool a))))] [(2, .box [.d (.int .i64 t.States), .d (.sl 2 (List.map Point.row t.Hood)), .d (.sl 2 (List.map Node.row t.Nodes))]), (3, .box [.d (.sl 3 (List.map Cell.row s.Cells)), .d (.int .i64 s.Motion.Period), .d (.int .i64 s.Motion.DX), .d (.int .i64 s.Motion.DY)])] (by rfl) (by rfl) ?_ fun ρ σ hf => ?_
 ·replace hm := j8
  clear j8
  refine sr1 hn (by kernel_rfl) ?_
  rcases aj hm with ⟨c2, hm⟩ | ⟨c2, hm⟩
  ·simp -dsimp [c2]
   refine a6 ?_
   cases hm
   refine EE.here ?_
   simp -dsimp
  ·rcases aj hm with ⟨c3, hm⟩ | ⟨c3, hm⟩
   ·simp -dsimp [c2, c3]
    refine a6 ?_
    cases hm
    refine EE.here ?_
    simp -dsimp
   ·simp -dsimp [c2, c3]
    refine a6 ?_
    cases hm
    refine EE.here ?_
    simp -dsimp
 ·clear j8
  simp only [Fits, am, ap, and_true] at hf
  rcases aj hm with ⟨c4, hm⟩ | ⟨c4, hm⟩
  ·refine a8 (b := a) (by simp -dsimp [hf]) c4 ?_
   refine srs hn (by kernel_rfl) ?_
   simp -dsimp
   refine aa (ag ?_)
   cases hm
   refine ⟨.inr rfl, ?_⟩
   refine EE.here ?_
   simp -dsimp
  ·refine a7 (b := a) (by simp -dsimp [hf]) c4 ?_
   refine ab (a6 ?_)
   refine srs hn (by kernel_rfl) ?_
   obtain ⟨y1, h5, hm⟩ := bnd hm
   simp -dsimp [hf]
   refine ae (c_period_Has t s.Cells s.Motion y1 h5) (by rw [hn]; decide) ?_
   simp -dsimp
   obtain ⟨a1, j7, hm⟩ := bnd hm
   refine aw [(4, .u (.one (.d (.bool a1))))] [] (by rfl) (by rfl) ?_ fun ρ σ hf => ?_
   ·replace hm := j7
    clear j7
    refine sr1 hn (by kernel_rfl) ?_
    rcases aj hm with ⟨c6, hm⟩ | ⟨c6, hm⟩
    ·simp -dsimp [c6]
     refine a6 ?_
     cases hm
     refine EE.here ?_
     simp -dsimp
    ·simp -dsimp [c6]
     refine a6 ?_
     cases hm
     refine EE.here ?_
     simp -dsimp
   ·clear j7
    simp only [Fits, am, ap, and_true] at hf
    refine aa ?_
    cases hm
    refine ⟨.inr rfl, ?_⟩
    refine EE.here ?_
    simp -dsimp [hf]
theorem c_ship_Right (t : Tree) (s : Ship) (r : Bool) (hm : eT t s = some r) : PureCall Tryz.prog 9 [.u (.agg [.d (.int .i64 t.States), .d (.sl 2 (List.map Point.row t.Hood)), .d (.sl 2 (List.map Node.row t.Nodes))]), .u (.agg [.d (.sl 3 (List.map Cell.row s.Cells)), .d (.int .i64 s.Motion.Period), .d (.int .i64 s.Motion.DX), .d (.int .i64 s.Motion.DY)])] (.u (.one (.d (.bool r)))) := (f_ship_Right t s r hm).pureW
def ed (cx : Cx) (_p : List Cell) (_y : Box × Bool) (tt : (List Cell)) (ee : Exit) (ρ : Env) (σ : Sto) : Prop := match tt with
 | out => ee = .exit 0 ∧ EE cx (aU [(5, .u (.one (.own 5000)))] [(5000, .row 3 57 (List.map Cell.row out))]) ρ σ
theorem l_algebra_Home_1 (cx : Cx) (hn : cx.n = 48) (p : List Cell) (y : Box × Bool) {fu : Nat} {stt : Int × (List Cell)} {tt : (List Cell)} (hh : al (fz p y) fu stt = some tt) {ρ : Env} {σ : Sto}
  (hE : b4 (fun stt : Int × (List Cell) => match stt with | (a1, _out) => [(3, .u (.one (.box 3 0))), (5, .u (.one (.own 5000))), (24, .u (.one (.d (.sl 3 (List.map Cell.row p))))), (25, .u (.one (.d (.int .i64 (ah p))))), (26, .u (.one (.d (.int .i64 a1))))]) (fun stt : Int × (List Cell) => match stt with | (_a1, out) => [(3, .box [.d (.int .i64 y.1.X), .d (.int .i64 y.1.Y), .d (.int .i64 y.1.W), .d (.int .i64 y.1.H)]), (5000, .row 3 57 (List.map Cell.row out))]) stt ρ σ) : Swp Tryz.prog cx (.loop (bQ [1, 1, 1, 1, 0, 1, 0, 0] (aP Tryz.f23))) ρ σ (ed cx p y tt) := by
 refine b8 hE hh (ed cx p y) (fun _ => by rfl) (fun _ => by rfl) ?_
 rintro ⟨a1, out⟩ r hm ρ σ hf
 simp only [Fits, am, ap, and_true] at hf
 unfold fz at hm
 dsimp only at hm
 refine srs hn (by kernel_rfl) ?_
 simp -dsimp [hf]
 refine ac ?_
 rcases aj hm with ⟨c6, hm⟩ | ⟨c6, hm⟩
 ·refine a8 (b := (ltB a1 (ah p))) (by simp -dsimp) c6 ?_
  refine ab (a6 (ac (ai ?_)))
  refine srs hn (by kernel_rfl) ?_
  obtain ⟨x, h7, hm⟩ := bnd hm
  simp -dsimp [hf, c6, h7]
  refine sr1 hn (by kernel_rfl) ?_
  obtain ⟨l1, h8, hm⟩ := bnd hm
  obtain ⟨h8a, h8e⟩ := aL h8
  replace h8e := h8e.symm
  subst h8e
  try simp only [List.length_cons, List.length_nil, Nat.zero_add] at h8a
  simp -dsimp [hf, h8a]
  refine aJ ?_
  refine a6 ?_
  refine sr1 hn (by kernel_rfl) ?_
  simp -dsimp [hf]
  cases hm
  refine aB ?_
  refine EE.step (Wk.move 45 5000 (by decide) (.inl (by decide))) ?_
  refine EE.here ?_
  simp -dsimp [hf]
 ·refine a7 (b := (ltB a1 (ah p))) (by simp -dsimp) c6 ?_
  refine av ?_
  refine ag ?_
  cases hm
  refine ar nofun ?_
  unfold ed
  dsimp only
  refine ⟨rfl, ?_⟩
  refine EE.here ?_
  simp -dsimp [hf, c6]
theorem f_algebra_Home (p : List Cell) (r : List Cell) (hm : e9 p = some r) : PFn Tryz.prog 23 [.u (.one (.d (.sl 3 (List.map Cell.row p))))] (fun v => v.wk (.u (.one (.d (.sl 3 (List.map Cell.row r)))))) := by
 refine aX Tryz.func23 Tryz.ntmps23 rfl (by kernel_rfl) (by simp) fun cx hn => ?_
 unfold e9 at hm
 refine srs hn (by kernel_rfl) ?_
 simp -dsimp []
 refine srs hn (by kernel_rfl) ?_
 obtain ⟨y, h1, hm⟩ := bnd hm
 simp -dsimp []
 refine ae (ig p y h1) (by rw [hn]; decide) ?_
 simp -dsimp
 refine ac ?_
 obtain ⟨a, j11, hm⟩ := bnd hm
 refine aw [(0, .u (.one (.d (.sl 3 (List.map Cell.row p))))), (3, .u (.one (.box 3 0))), (19, .u (.one (.d (.bool a))))] [(3, .box [.d (.int .i64 y.1.X), .d (.int .i64 y.1.Y), .d (.int .i64 y.1.W), .d (.int .i64 y.1.H)])] (by rfl) (by rfl) ?_ fun ρ σ hf => ?_
 ·replace hm := j11
  clear j11
  refine sr1 hn (by kernel_rfl) ?_
  rcases aj hm with ⟨c2, hm⟩ | ⟨c2, hm⟩
  ·simp -dsimp [c2]
   refine a6 ?_
   cases hm
   refine EE.here ?_
   simp -dsimp
  ·obtain ⟨y1, h3, hm⟩ := bnd hm
   simp -dsimp [c2]
   refine ae (dJ p y1 h3) (by rw [hn]; decide) ?_
   simp -dsimp
   refine a6 ?_
   cases hm
   refine EE.here ?_
   simp -dsimp
 ·clear j11
  simp only [Fits, am, ap, and_true] at hf
  rcases aj hm with ⟨c4, hm⟩ | ⟨c4, hm⟩
  ·refine a8 (b := a) (by simp -dsimp [hf]) c4 ?_
   refine srs hn (by kernel_rfl) ?_
   simp -dsimp [hf]
   refine aa (ag ?_)
   cases hm
   refine ⟨.inr rfl, ?_⟩
   refine EE.here ?_
   simp -dsimp
  ·refine a7 (b := a) (by simp -dsimp [hf]) c4 ?_
   refine ab (a6 ?_)
   refine srs hn (by kernel_rfl) ?_
   obtain ⟨l, h5, hm⟩ := bnd hm
   obtain ⟨⟨h5a, h5b, h5c⟩, rfl⟩ := gV h5
   simp -dsimp [hf, h5b, h5c]
   refine ac ?_
   refine srs hn (by kernel_rfl) ?_
   simp -dsimp [hf]
   refine ai ?_
   obtain ⟨out, g9, hm⟩ := bnd hm
   refine aO [(3, .u (.one (.box 3 0))), (5, .u (.one (.own 5000))), (24, .u (.one (.d (.sl 3 (List.map Cell.row p))))), (25, .u (.one (.d (.int .i64 (ah p))))), (26, .u (.one (.d (.int .i64 0))))] [(3, .box [.d (.int .i64 y.1.X), .d (.int .i64 y.1.Y), .d (.int .i64 y.1.W), .d (.int .i64 y.1.H)]), (5000, .row 3 57 (List.map Cell.row []))] (by rfl) (by rfl) (by
     refine EE.step (Wk.move 23 5000 (by decide) (.inl (by decide))) ?_
     refine EE.here ?_
     simp -dsimp [hf]
   ) fun ρ σ hf => ?_
   refine (l_algebra_Home_1 cx hn p y g9 hf).mono fun ee ρ σ x10 => ?_
   unfold ed at x10
   dsimp only at x10
   obtain ⟨rfl, x10⟩ := x10
   refine au ?_
   refine a6 ?_
   refine b5 (by rfl) (by rfl) x10 fun ρ σ hf => ?_
   simp only [Fits, am, ap, and_true] at hf
   refine srs hn (by kernel_rfl) ?_
   simp -dsimp [hf]
   refine aa ?_
   cases hm
   refine ⟨.inr rfl, ?_⟩
   refine EE.here ?_
   simp -dsimp [hf]
theorem c_algebra_Home (p : List Cell) (r : List Cell) (hm : e9 p = some r) : PureCall Tryz.prog 23 [.u (.one (.d (.sl 3 (List.map Cell.row p))))] (.u (.one (.d (.sl 3 (List.map Cell.row r))))) := (f_algebra_Home p r hm).pureW
theorem f_ship_Phase (t : Tree) (s : Ship) (n : Int) (r : (List Cell) × Int) (hm : fp t s n = some r) : PFn Tryz.prog 7 [.u (.agg [.d (.int .i64 t.States), .d (.sl 2 (List.map Point.row t.Hood)), .d (.sl 2 (List.map Node.row t.Nodes))]), .u (.agg [.d (.sl 3 (List.map Cell.row s.Cells)), .d (.int .i64 s.Motion.Period), .d (.int .i64 s.Motion.DX), .d (.int .i64 s.Motion.DY)]), .u (.one (.d (.int .i64 n)))] (fun v => v.wk (.tup [.one (.d (.sl 3 (List.map Cell.row r.1))), .one (.d (.int .i64 r.2))])) := by
 refine aX Tryz.func7 Tryz.ntmps7 rfl (by kernel_rfl) (by simp) fun cx hn => ?_
 unfold fp at hm
 refine srs hn (by kernel_rfl) ?_
 simp -dsimp []
 refine ac (ai ?_)
 refine srs hn (by kernel_rfl) ?_
 obtain ⟨y, h1, hm⟩ := bnd hm
 simp -dsimp []
 refine ae (iA t y h1) (by rw [hn]; decide) ?_
 simp -dsimp
 rcases aj hm with ⟨c2, hm⟩ | ⟨c2, hm⟩
 ·refine a8 (b := (aM y)) (by simp -dsimp) c2 ?_
  refine srs hn (by kernel_rfl) ?_
  simp -dsimp [c2]
  refine aa (aN (ag ?_))
  cases hm
  refine ⟨.inr rfl, ?_⟩
  refine EE.here ?_
  simp -dsimp
 ·refine a7 (b := (aM y)) (by simp -dsimp) c2 ?_
  obtain ⟨a, j10, hm⟩ := bnd hm
  refine aw [(2, .u (.one (.d (.int .i64 n)))), (3, .u (.one (.box 3 0))), (4, .u (.one (.box 4 0))), (14, .u (.one (.d (.bool a))))] [(3, .box [.d (.int .i64 t.States), .d (.sl 2 (List.map Point.row t.Hood)), .d (.sl 2 (List.map Node.row t.Nodes))]), (4, .box [.d (.sl 3 (List.map Cell.row s.Cells)), .d (.int .i64 s.Motion.Period), .d (.int .i64 s.Motion.DX), .d (.int .i64 s.Motion.DY)])] (by rfl) (by rfl) ?_ fun ρ σ hf => ?_
  ·replace hm := j10
   clear j10
   refine sr1 hn (by kernel_rfl) ?_
   rcases aj hm with ⟨c3, hm⟩ | ⟨c3, hm⟩
   ·simp -dsimp [c2, c3]
    refine a6 ?_
    cases hm
    refine EE.here ?_
    simp -dsimp
   ·rcases aj hm with ⟨c4, hm⟩ | ⟨c4, hm⟩
    ·simp -dsimp [c2, c3, c4]
     refine a6 ?_
     cases hm
     refine EE.here ?_
     simp -dsimp
    ·obtain ⟨y1, h5, hm⟩ := bnd hm
     simp -dsimp [c2, c3, c4]
     refine ae (c_ship_Right t s y1 h5) (by rw [hn]; decide) ?_
     simp -dsimp
     refine a6 ?_
     cases hm
     refine EE.here ?_
     simp -dsimp
  ·clear j10
   simp only [Fits, am, ap, and_true] at hf
   rcases aj hm with ⟨c6, hm⟩ | ⟨c6, hm⟩
   ·refine a8 (b := a) (by simp -dsimp [hf]) c6 ?_
    refine srs hn (by kernel_rfl) ?_
    simp -dsimp
    refine aa (aN (ag ?_))
    cases hm
    refine ⟨.inr rfl, ?_⟩
    refine EE.here ?_
    simp -dsimp
   ·refine a7 (b := a) (by simp -dsimp [hf]) c6 ?_
    refine ab ?_
    refine aJ ?_
    refine a6 ?_
    refine ck aK mixed (by rw [hn]; kernel_rfl) ?_
    obtain ⟨n1, h7, hm⟩ := bnd hm
    obtain ⟨y1, h8, hm⟩ := bnd hm
    simp -dsimp [hf, h7]
    refine ak (iD t s.Cells n1 y1 h8) ?_
    simp -dsimp
    refine srs hn (by kernel_rfl) ?_
    obtain ⟨y2, h9, hm⟩ := bnd hm
    simp -dsimp
    refine ae (c_algebra_Home y1.1 y2 h9) (by rw [hn]; decide) ?_
    simp -dsimp
    refine aa ?_
    cases hm
    refine ⟨.inr rfl, ?_⟩
    refine EE.here ?_
    simp -dsimp
theorem c_ship_Phase (t : Tree) (s : Ship) (n : Int) (r : (List Cell) × Int) (hm : fp t s n = some r) : PureCall Tryz.prog 7 [.u (.agg [.d (.int .i64 t.States), .d (.sl 2 (List.map Point.row t.Hood)), .d (.sl 2 (List.map Node.row t.Nodes))]), .u (.agg [.d (.sl 3 (List.map Cell.row s.Cells)), .d (.int .i64 s.Motion.Period), .d (.int .i64 s.Motion.DX), .d (.int .i64 s.Motion.DY)]), .u (.one (.d (.int .i64 n)))] (.tup [.one (.d (.sl 3 (List.map Cell.row r.1))), .one (.d (.int .i64 r.2))]) := (f_ship_Phase t s n r hm).pureW
theorem f_algebra_order (a : Cell) (b : Cell) (r : Int) (hm : dN a b = some r) : PFn Tryz.prog 99 [.u (.agg [.d (.int .i64 a.X), .d (.int .i64 a.Y), .d (.int .i64 a.S)]), .u (.agg [.d (.int .i64 b.X), .d (.int .i64 b.Y), .d (.int .i64 b.S)])] (fun v => v.wk (.u (.one (.d (.int .i64 r))))) := by
 refine aX Tryz.func99 Tryz.ntmps99 rfl (by kernel_rfl) (by simp) fun cx hn => ?_
 unfold dN at hm
 refine srs hn (by kernel_rfl) ?_
 simp -dsimp []
 refine ck aK mixed (by rw [hn]; kernel_rfl) ?_
 obtain ⟨y, h1, hm⟩ := bnd hm
 simp -dsimp []
 refine ak (dT a.Y b.Y y h1) ?_
 obtain ⟨y1, h2, hm⟩ := bnd hm
 simp -dsimp
 refine ak (dT a.X b.X y1 h2) ?_
 obtain ⟨y2, h3, hm⟩ := bnd hm
 simp -dsimp
 refine ak (c_cmp_Or_int [y, y1] y2 h3) ?_
 simp -dsimp
 refine aa ?_
 cases hm
 refine ⟨.inr rfl, ?_⟩
 refine EE.here ?_
 simp -dsimp
theorem c_algebra_order (a : Cell) (b : Cell) (r : Int) (hm : dN a b = some r) : PureCall Tryz.prog 99 [.u (.agg [.d (.int .i64 a.X), .d (.int .i64 a.Y), .d (.int .i64 a.S)]), .u (.agg [.d (.int .i64 b.X), .d (.int .i64 b.Y), .d (.int .i64 b.S)])] (.u (.one (.d (.int .i64 r)))) := (f_algebra_order a b r hm).pureW
end Go.Proofs.YtfpjnmhdbgbmmaaGreatDoor
