/-
  That the code does what the functions say (made by cc.py).
-/
import Derived.Test.YtdjclgfbggfpaaaGreatDoorMd1
import Derived.Test.YtdjclgfbggfpaaaGreatDoorTb
import Derived.Test.YtdjclgfbggfpaaaGreatDoorWa1
import Derived.Test.YtdjclgfbggfpaaaGreatDoorWa4
import Derived.Test.YtdjclgfbggfpaaaGreatDoorWa5
import Derived.Test.YtdjclgfbggfpaaaGreatDoorWa6
namespace Go.Proofs.YtdjclgfbggfpaaaGreatDoor
open Go.AM Go.Proofs
attribute [-simp] qlookup cn dG Ob.wipe Ob.ren Ob.frz1
def fe (cx : Cx) (_t : Tree) (tt : Bool ⊕ Unit) (ee : Exit) (ρ : Env) (σ : Sto) : Prop := match tt with
 | .inl r => ee = .ret ∧ EE cx (fun ρ σ => ∃ v, resV tb ρ σ Tryz.f27.results.toList = some v ∧ (v.frz σ).free = true ∧ (v.frz σ).wk (.u (.one (.d (.bool r))))) ρ σ
 | .inr _u => ee = .exit 0 ∧ EE cx (b6 [] []) ρ σ
theorem l_L12_Few_1 (cx : Cx) (hn : cx.n = 29) (t : Tree) {fu : Nat} {stt : Int} {tt : Bool ⊕ Unit} (hh : ar (fU t) fu stt = some tt) {ρ : Env} {σ : Sto}
  (hE : bn (fun a1 : Int => [(1, .u (.one (.box 1 0))), (16, .u (.one (.d (.int .i64 (ak t.Nodes))))), (17, .u (.one (.d (.int .i64 a1))))]) (fun _a1 : Int => [(1, .box [.d (.int .i64 t.States), .d (.sl 2 (List.map Point.row t.Hood)), .d (.sl 2 (List.map Node.row t.Nodes))])]) stt ρ σ) : Swp Tryz.prog cx (.loop (cj [1, 1, 0, 1, 0, 0] (aX Tryz.f27))) ρ σ (fe cx t tt) := by
 refine bo hE hh (fe cx t) (fun _ => by rfl) (fun _ => by rfl) ?_
 rintro a1 r hm ρ σ hf
 simp only [Fits, az, aA, and_true] at hf
 unfold fU at hm
 dsimp only at hm
 refine srs hn (by kernel_rfl) ?_
 simp -dsimp [hf]
 refine ai ?_
 rcases am hm with ⟨c3, hm⟩ | ⟨c3, hm⟩
 ·refine ab (b := (ltB a1 (ak t.Nodes))) (by simp -dsimp) c3 ?_
  refine ae (a7 (ai (ap ?_)))
  refine srs hn (by kernel_rfl) ?_
  simp -dsimp [hf, c3]
  refine srs hn (by kernel_rfl) ?_
  obtain ⟨x, h4, hm⟩ := bnd hm
  simp -dsimp [hf, h4]
  rcases am hm with ⟨c5, hm⟩ | ⟨c5, hm⟩
  ·refine ab (b := (gtB (ak x.Next) 20)) (by simp -dsimp) c5 ?_
   refine srs hn (by kernel_rfl) ?_
   simp -dsimp [c5]
   refine ah (aN (aj ?_))
   cases hm
   refine au nofun ?_
   unfold fe
   dsimp only
   refine ⟨rfl, ?_⟩
   refine EE.here ?_
   simp -dsimp [Tryz.results27]
  ·refine aa (b := (gtB (ak x.Next) 20)) (by simp -dsimp) c5 ?_
   refine ae ?_
   refine aY ?_
   refine a7 ?_
   refine sr1 hn (by kernel_rfl) ?_
   simp -dsimp [hf, c5]
   cases hm
   refine aJ ?_
   refine EE.here ?_
   simp -dsimp [hf]
 ·refine aa (b := (ltB a1 (ak t.Nodes))) (by simp -dsimp) c3 ?_
  refine aD ?_
  refine aj ?_
  cases hm
  refine au nofun ?_
  unfold fe
  dsimp only
  refine ⟨rfl, ?_⟩
  refine EE.here ?_
  simp -dsimp [c3]
theorem f_L12_Few (t : Tree) (r : Bool) (hm : ic t = some r) : PFn Tryz.prog 27 [.u (.agg [.d (.int .i64 t.States), .d (.sl 2 (List.map Point.row t.Hood)), .d (.sl 2 (List.map Node.row t.Nodes))])] (fun v => v.wk (.u (.one (.d (.bool r))))) := by
 refine bv Tryz.func27 Tryz.ntmps27 rfl (by kernel_rfl) (by simp) fun cx hn => ?_
 unfold ic at hm
 refine srs hn (by kernel_rfl) ?_
 simp -dsimp []
 refine ai ?_
 obtain ⟨a, j8, hm⟩ := bnd hm
 refine av [(1, .u (.one (.box 1 0))), (13, .u (.one (.d (.bool a))))] [(1, .box [.d (.int .i64 t.States), .d (.sl 2 (List.map Point.row t.Hood)), .d (.sl 2 (List.map Node.row t.Nodes))])] (by rfl) (by rfl) ?_ fun ρ σ hf => ?_
 ·replace hm := j8
  clear j8
  refine sr1 hn (by kernel_rfl) ?_
  rcases am hm with ⟨c1, hm⟩ | ⟨c1, hm⟩
  ·simp -dsimp [c1]
   refine a7 ?_
   cases hm
   refine EE.here ?_
   simp -dsimp
  ·simp -dsimp [c1]
   refine a7 ?_
   cases hm
   refine EE.here ?_
   simp -dsimp
 ·clear j8
  simp only [Fits, az, aA, and_true] at hf
  rcases am hm with ⟨c2, hm⟩ | ⟨c2, hm⟩
  ·refine ab (b := a) (by simp -dsimp [hf]) c2 ?_
   refine srs hn (by kernel_rfl) ?_
   simp -dsimp
   refine ah (aj ?_)
   cases hm
   refine ⟨.inr rfl, ?_⟩
   refine EE.here ?_
   simp -dsimp
  ·refine aa (b := a) (by simp -dsimp [hf]) c2 ?_
   refine ae (a7 (ai ?_))
   refine srs hn (by kernel_rfl) ?_
   simp -dsimp [hf]
   refine ap ?_
   obtain ⟨o_, g6, hm⟩ := bnd hm
   refine aW [(1, .u (.one (.box 1 0))), (16, .u (.one (.d (.int .i64 (ak t.Nodes))))), (17, .u (.one (.d (.int .i64 0))))] [(1, .box [.d (.int .i64 t.States), .d (.sl 2 (List.map Point.row t.Hood)), .d (.sl 2 (List.map Node.row t.Nodes))])] (by rfl) (by rfl) (by
     refine EE.here ?_
     simp -dsimp [hf]
   ) fun ρ σ hf => ?_
   refine (l_L12_Few_1 cx hn t g6 hf).mono fun ee ρ σ x7 => ?_
   rcases o_ with r | _u
   ·unfold fe at x7
    dsimp only at x7
    obtain ⟨rfl, x7⟩ := x7
    refine aN (aj ?_)
    cases hm
    exact ⟨.inr rfl, x7⟩
   ·unfold fe at x7
    dsimp only at x7
    obtain ⟨rfl, x7⟩ := x7
    refine aF ?_
    refine a7 ?_
    refine bl (by rfl) (by rfl) x7 fun ρ σ hf => ?_
    simp only [Fits, az, aA, and_true] at hf
    refine srs hn (by kernel_rfl) ?_
    simp -dsimp
    refine ah ?_
    cases hm
    refine ⟨.inr rfl, ?_⟩
    refine EE.here ?_
    simp -dsimp
theorem c_L12_Few (t : Tree) (r : Bool) (hm : ic t = some r) : PureCall Tryz.prog 27 [.u (.agg [.d (.int .i64 t.States), .d (.sl 2 (List.map Point.row t.Hood)), .d (.sl 2 (List.map Node.row t.Nodes))])] (.u (.one (.d (.bool r)))) := (f_L12_Few t r hm).pureW
theorem f_L34_small (t : Tree) (p : List Cell) (r : Bool) (hm : cg t p = some r) : PFn Tryz.prog 10 [.u (.agg [.d (.int .i64 t.States), .d (.sl 2 (List.map Point.row t.Hood)), .d (.sl 2 (List.map Node.row t.Nodes))]), .u (.one (.d (.sl 3 (List.map Cell.row p))))] (fun v => v.wk (.u (.one (.d (.bool r))))) := by
 refine bv Tryz.func10 Tryz.ntmps10 rfl (by kernel_rfl) (by simp) fun cx hn => ?_
 unfold cg at hm
 refine srs hn (by kernel_rfl) ?_
 simp -dsimp []
 obtain ⟨a, j4, hm⟩ := bnd hm
 refine av [(4, .u (.one (.d (.bool a))))] [] (by rfl) (by rfl) ?_ fun ρ σ hf => ?_
 ·replace hm := j4
  clear j4
  refine sr1 hn (by kernel_rfl) ?_
  obtain ⟨y, h1, hm⟩ := bnd hm
  simp -dsimp []
  refine ag (c_L12_Few t y h1) (by rw [hn]; decide) ?_
  rcases am hm with ⟨c2, hm⟩ | ⟨c2, hm⟩
  ·rcases am hm with ⟨c3, hm⟩ | ⟨c3, hm⟩
   ·simp -dsimp [c2, c3]
    refine a7 ?_
    cases hm
    refine EE.here ?_
    simp -dsimp
   ·simp -dsimp [c2, c3]
    refine a7 ?_
    cases hm
    refine EE.here ?_
    simp -dsimp
  ·simp -dsimp [c2]
   refine a7 ?_
   cases hm
   refine EE.here ?_
   simp -dsimp
 ·clear j4
  simp only [Fits, az, aA, and_true] at hf
  refine ah ?_
  cases hm
  refine ⟨.inr rfl, ?_⟩
  refine EE.here ?_
  simp -dsimp [hf]
theorem fm (t : Tree) (p : List Cell) (r : Bool) (hm : cg t p = some r) : PureCall Tryz.prog 10 [.u (.agg [.d (.int .i64 t.States), .d (.sl 2 (List.map Point.row t.Hood)), .d (.sl 2 (List.map Node.row t.Nodes))]), .u (.one (.d (.sl 3 (List.map Cell.row p))))] (.u (.one (.d (.bool r)))) := (f_L34_small t p r hm).pureW
section
attribute [-simp] List.map_set List.set_set
end
theorem f_R05_order (a : Int) (b : Int) (r : Int) (hm : bO a b = some r) : PFn Tryz.prog 64 [.u (.one (.d (.int .i64 a))), .u (.one (.d (.int .i64 b)))] (fun v => v.wk (.u (.one (.d (.int .i64 r))))) := by
 refine bv Tryz.func64 Tryz.ntmps64 rfl (by kernel_rfl) (by simp) fun cx hn => ?_
 unfold bO at hm
 refine srs hn (by kernel_rfl) ?_
 simp -dsimp []
 refine ai ?_
 refine srs hn (by kernel_rfl) ?_
 simp -dsimp []
 rcases am hm with ⟨c1, hm⟩ | ⟨c1, hm⟩
 ·refine ab (b := (ltB a b)) (by simp -dsimp []) c1 ?_
  refine srs hn (by kernel_rfl) ?_
  simp -dsimp [c1]
  refine ah (aj ?_)
  cases hm
  refine ⟨.inr rfl, ?_⟩
  refine EE.here ?_
  simp -dsimp
 ·refine aa (b := (ltB a b)) (by simp -dsimp []) c1 ?_
  refine ae (a7 (ai ?_))
  refine srs hn (by kernel_rfl) ?_
  simp -dsimp [c1]
  rcases am hm with ⟨c2, hm⟩ | ⟨c2, hm⟩
  ·refine ab (b := (gtB a b)) (by simp -dsimp) c2 ?_
   refine srs hn (by kernel_rfl) ?_
   simp -dsimp [c2]
   refine ah (aj ?_)
   cases hm
   refine ⟨.inr rfl, ?_⟩
   refine EE.here ?_
   simp -dsimp
  ·refine aa (b := (gtB a b)) (by simp -dsimp) c2 ?_
   refine ae (a7 ?_)
   refine srs hn (by kernel_rfl) ?_
   simp -dsimp [c2]
   refine ah ?_
   cases hm
   refine ⟨.inr rfl, ?_⟩
   refine EE.here ?_
   simp -dsimp
theorem gU (a : Int) (b : Int) (r : Int) (hm : bO a b = some r) : PureCall Tryz.prog 64 [.u (.one (.d (.int .i64 a))), .u (.one (.d (.int .i64 b)))] (.u (.one (.d (.int .i64 r)))) := (f_R05_order a b r hm).pureW
def bP (cx : Cx) (a : List Cell) (b : List Cell) (tt : Int ⊕ Unit) (ee : Exit) (ρ : Env) (σ : Sto) : Prop := match tt with
 | .inl r => ee = .ret ∧ EE cx (fun ρ σ => ∃ v, resV tb ρ σ Tryz.f41.results.toList = some v ∧ (v.frz σ).free = true ∧ (v.frz σ).wk (.u (.one (.d (.int .i64 r))))) ρ σ
 | .inr _u => ee = .exit 0 ∧ EE cx (b6 [(0, .u (.one (.d (.sl 3 (List.map Cell.row a))))), (1, .u (.one (.d (.sl 3 (List.map Cell.row b)))))] []) ρ σ
theorem l_R05_Compare_1 (cx : Cx) (hn : cx.n = 89) (a : List Cell) (b : List Cell) {fu : Nat} {stt : Int} {tt : Int ⊕ Unit} (hh : ar (cv a b) fu stt = some tt) {ρ : Env} {σ : Sto}
  (hE : bn (fun i : Int => [(0, .u (.one (.d (.sl 3 (List.map Cell.row a))))), (1, .u (.one (.d (.sl 3 (List.map Cell.row b))))), (5, .u (.one (.d (.int .i64 i))))]) (fun _i : Int => []) stt ρ σ) : Swp Tryz.prog cx (.loop (cj [1, 0, 1, 0, 0] (aX Tryz.f41))) ρ σ (bP cx a b tt) := by
 refine bo hE hh (bP cx a b) (fun _ => by rfl) (fun _ => by rfl) ?_
 rintro i r hm ρ σ hf
 simp only [Fits, az, aA, and_true] at hf
 unfold cv at hm
 dsimp only at hm
 refine ai ?_
 obtain ⟨a1, j11, hm⟩ := bnd hm
 refine av [(0, .u (.one (.d (.sl 3 (List.map Cell.row a))))), (1, .u (.one (.d (.sl 3 (List.map Cell.row b))))), (5, .u (.one (.d (.int .i64 i)))), (15, .u (.one (.d (.bool a1))))] [] (by rfl) (by rfl) ?_ fun ρ σ hf => ?_
 ·replace hm := j11
  clear j11
  refine sr1 hn (by kernel_rfl) ?_
  rcases am hm with ⟨c1, hm⟩ | ⟨c1, hm⟩
  ·simp -dsimp [hf, c1]
   refine a7 ?_
   cases hm
   refine EE.here ?_
   simp -dsimp [hf]
  ·simp -dsimp [hf, c1]
   refine a7 ?_
   cases hm
   refine EE.here ?_
   simp -dsimp [hf]
 ·clear j11
  simp only [Fits, az, aA, and_true] at hf
  rcases am hm with ⟨c2, hm⟩ | ⟨c2, hm⟩
  ·refine ab (b := a1) (by simp -dsimp [hf]) c2 ?_
   refine ae (a7 (ai (ap (ai ?_))))
   refine cZ bj mixed (by rw [hn]; kernel_rfl) ?_
   obtain ⟨x, h3, hm⟩ := bnd hm
   obtain ⟨x1, h4, hm⟩ := bnd hm
   simp -dsimp [hf, h3, h4]
   rcases am hm with ⟨c5, hm⟩ | ⟨c5, hm⟩
   ·refine ab (b := (neB x.Y x1.Y)) (by simp -dsimp) c5 ?_
    refine cZ bj mixed (by rw [hn]; kernel_rfl) ?_
    obtain ⟨y, h6, hm⟩ := bnd hm
    simp -dsimp [hf, h3, h4, c5]
    refine aK (gU x.Y x1.Y y h6) ?_
    simp -dsimp
    refine ah (aj (aN (aj ?_)))
    cases hm
    refine au nofun ?_
    unfold bP
    dsimp only
    refine ⟨rfl, ?_⟩
    refine EE.here ?_
    simp -dsimp [Tryz.results41]
   ·refine aa (b := (neB x.Y x1.Y)) (by simp -dsimp) c5 ?_
    refine ae (a7 (ai ?_))
    refine cZ bj mixed (by rw [hn]; kernel_rfl) ?_
    simp -dsimp [hf, h3, h4, c5]
    rcases am hm with ⟨c7, hm⟩ | ⟨c7, hm⟩
    ·refine ab (b := (neB x.X x1.X)) (by simp -dsimp) c7 ?_
     refine cZ bj mixed (by rw [hn]; kernel_rfl) ?_
     obtain ⟨y, h8, hm⟩ := bnd hm
     simp -dsimp [hf, h3, h4, c7]
     refine aK (gU x.X x1.X y h8) ?_
     simp -dsimp
     refine ah (aj (aN (aj ?_)))
     cases hm
     refine au nofun ?_
     unfold bP
     dsimp only
     refine ⟨rfl, ?_⟩
     refine EE.here ?_
     simp -dsimp [Tryz.results41]
    ·refine aa (b := (neB x.X x1.X)) (by simp -dsimp) c7 ?_
     refine ae (a7 ?_)
     refine cZ bj mixed (by rw [hn]; kernel_rfl) ?_
     simp -dsimp [hf, h3, h4, c7]
     rcases am hm with ⟨c9, hm⟩ | ⟨c9, hm⟩
     ·refine ab (b := (neB x.S x1.S)) (by simp -dsimp) c9 ?_
      refine cZ bj mixed (by rw [hn]; kernel_rfl) ?_
      obtain ⟨y, h10, hm⟩ := bnd hm
      simp -dsimp [hf, h3, h4, c9]
      refine aK (gU x.S x1.S y h10) ?_
      simp -dsimp
      refine ah (aN (aj ?_))
      cases hm
      refine au nofun ?_
      unfold bP
      dsimp only
      refine ⟨rfl, ?_⟩
      refine EE.here ?_
      simp -dsimp [Tryz.results41]
     ·refine aa (b := (neB x.S x1.S)) (by simp -dsimp) c9 ?_
      refine ae ?_
      refine aY ?_
      refine a7 ?_
      refine sr1 hn (by kernel_rfl) ?_
      simp -dsimp [hf, c9]
      cases hm
      refine aJ ?_
      refine EE.here ?_
      simp -dsimp [hf]
  ·refine aa (b := a1) (by simp -dsimp [hf]) c2 ?_
   refine aD ?_
   refine aj ?_
   cases hm
   refine au nofun ?_
   unfold bP
   dsimp only
   refine ⟨rfl, ?_⟩
   refine EE.here ?_
   simp -dsimp [hf]
theorem f_R05_Compare (a : List Cell) (b : List Cell) (r : Int) (hm : dR a b = some r) : PFn Tryz.prog 41 [.u (.one (.d (.sl 3 (List.map Cell.row a)))), .u (.one (.d (.sl 3 (List.map Cell.row b))))] (fun v => v.wk (.u (.one (.d (.int .i64 r))))) := by
 refine bv Tryz.func41 Tryz.ntmps41 rfl (by kernel_rfl) (by simp) fun cx hn => ?_
 unfold dR at hm
 refine srs hn (by kernel_rfl) ?_
 simp -dsimp []
 refine ai ?_
 refine srs hn (by kernel_rfl) ?_
 simp -dsimp []
 refine ap ?_
 obtain ⟨o_, g12, hm⟩ := bnd hm
 refine aW [(0, .u (.one (.d (.sl 3 (List.map Cell.row a))))), (1, .u (.one (.d (.sl 3 (List.map Cell.row b))))), (5, .u (.one (.d (.int .i64 0))))] [] (by rfl) (by rfl) (by
   refine EE.here ?_
   simp -dsimp []
 ) fun ρ σ hf => ?_
 refine (l_R05_Compare_1 cx hn a b g12 hf).mono fun ee ρ σ x13 => ?_
 rcases o_ with r | _u
 ·unfold bP at x13
  dsimp only at x13
  obtain ⟨rfl, x13⟩ := x13
  refine aN (aj ?_)
  cases hm
  exact ⟨.inr rfl, x13⟩
 ·unfold bP at x13
  dsimp only at x13
  obtain ⟨rfl, x13⟩ := x13
  refine aF ?_
  refine a7 ?_
  refine bl (by rfl) (by rfl) x13 fun ρ σ hf => ?_
  simp only [Fits, az, aA, and_true] at hf
  refine srs hn (by kernel_rfl) ?_
  obtain ⟨y, h14, hm⟩ := bnd hm
  simp -dsimp [hf]
  refine ag (gU (ak a) (ak b) y h14) (by rw [hn]; decide) ?_
  simp -dsimp
  refine ah ?_
  cases hm
  refine ⟨.inr rfl, ?_⟩
  refine EE.here ?_
  simp -dsimp
theorem c_R05_Compare (a : List Cell) (b : List Cell) (r : Int) (hm : dR a b = some r) : PureCall Tryz.prog 41 [.u (.one (.d (.sl 3 (List.map Cell.row a)))), .u (.one (.d (.sl 3 (List.map Cell.row b))))] (.u (.one (.d (.int .i64 r)))) := (f_R05_Compare a b r hm).pureW
theorem f_R05_Same (a : List Cell) (b : List Cell) (r : Bool) (hm : eb a b = some r) : PFn Tryz.prog 25 [.u (.one (.d (.sl 3 (List.map Cell.row a)))), .u (.one (.d (.sl 3 (List.map Cell.row b))))] (fun v => v.wk (.u (.one (.d (.bool r))))) := by
 refine bv Tryz.func25 Tryz.ntmps25 rfl (by kernel_rfl) (by simp) fun cx hn => ?_
 unfold eb at hm
 refine srs hn (by kernel_rfl) ?_
 simp -dsimp []
 refine srs hn (by kernel_rfl) ?_
 obtain ⟨y, h1, hm⟩ := bnd hm
 simp -dsimp []
 refine ag (c_R05_Compare a b y h1) (by rw [hn]; decide) ?_
 simp -dsimp
 refine ah ?_
 cases hm
 refine ⟨.inr rfl, ?_⟩
 refine EE.here ?_
 simp -dsimp
theorem c_R05_Same (a : List Cell) (b : List Cell) (r : Bool) (hm : eb a b = some r) : PureCall Tryz.prog 25 [.u (.one (.d (.sl 3 (List.map Cell.row a)))), .u (.one (.d (.sl 3 (List.map Cell.row b))))] (.u (.one (.d (.bool r)))) := (f_R05_Same a b r hm).pureW
end Go.Proofs.YtdjclgfbggfpaaaGreatDoor
