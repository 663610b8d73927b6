/-
  That the code does what the functions say (made by cc.py).
-/
import Derived.Test.YtdjclgfbggfpaaaGreatDoorMd1
import Derived.Test.YtdjclgfbggfpaaaGreatDoorTb
import Derived.Test.YtdjclgfbggfpaaaGreatDoorMxD1
namespace Go.Proofs.YtdjclgfbggfpaaaGreatDoor
open Go.AM Go.Proofs
attribute [-simp] qlookup cn dG Ob.wipe Ob.ren Ob.frz1
theorem c_notation_Parse (r : Tree × Int) (hm : ii = some r) : PureCall Tryz.prog 28 [.u (.one (.d (.str ⟨#[66, 51, 47, 83, 50, 51]⟩)))] (.tup [.agg [.d (.int .i64 r.1.States), .d (.sl 2 (List.map Point.row r.1.Hood)), .d (.sl 2 (List.map Node.row r.1.Nodes))], .one (.d (.int .i64 r.2))]) := by
 cases hm
 exact parse_life_pure
theorem f_cmp_isNaN_int (x : Int) (r : Bool) (hm : cQ x = some r) : PFn Tryz.prog 194 [.u (.one (.d (.int .i64 x)))] (fun v => v.wk (.u (.one (.d (.bool r))))) := by
 refine bv Tryz.func194 Tryz.ntmps194 rfl (by kernel_rfl) (by simp) fun cx hn => ?_
 unfold cQ at hm
 refine srs hn (by kernel_rfl) ?_
 simp -dsimp []
 refine srs hn (by kernel_rfl) ?_
 simp -dsimp []
 refine ah ?_
 cases hm
 refine ⟨.inr rfl, ?_⟩
 refine EE.here ?_
 simp -dsimp
theorem c_cmp_isNaN_int (x : Int) (r : Bool) (hm : cQ x = some r) : PureCall Tryz.prog 194 [.u (.one (.d (.int .i64 x)))] (.u (.one (.d (.bool r)))) := (f_cmp_isNaN_int x r hm).pureW
theorem f_cmp_Compare_int (x : Int) (y : Int) (r : Int) (hm : bK x y = some r) : PFn Tryz.prog 155 [.u (.one (.d (.int .i64 x))), .u (.one (.d (.int .i64 y)))] (fun v => v.wk (.u (.one (.d (.int .i64 r))))) := by
 refine bv Tryz.func155 Tryz.ntmps155 rfl (by kernel_rfl) (by simp) fun cx hn => ?_
 unfold bK at hm
 refine srs hn (by kernel_rfl) ?_
 simp -dsimp []
 refine srs hn (by kernel_rfl) ?_
 obtain ⟨y1, h1, hm⟩ := bnd hm
 simp -dsimp []
 refine ag (c_cmp_isNaN_int x y1 h1) (by rw [hn]; decide) ?_
 simp -dsimp
 refine srs hn (by kernel_rfl) ?_
 obtain ⟨y2, h2, hm⟩ := bnd hm
 simp -dsimp
 refine ag (c_cmp_isNaN_int y y2 h2) (by rw [hn]; decide) ?_
 simp -dsimp
 refine ai ?_
 refine srs hn (by kernel_rfl) ?_
 simp -dsimp
 rcases am hm with ⟨c3, hm⟩ | ⟨c3, hm⟩
 ·refine ab (b := y1) (by simp -dsimp) c3 ?_
  refine ai ?_
  refine srs hn (by kernel_rfl) ?_
  simp -dsimp [c3]
  rcases am hm with ⟨c4, hm⟩ | ⟨c4, hm⟩
  ·refine ab (b := y2) (by simp -dsimp) c4 ?_
   refine srs hn (by kernel_rfl) ?_
   simp -dsimp [c4]
   refine ah (aj (aj ?_))
   cases hm
   refine ⟨.inr rfl, ?_⟩
   refine EE.here ?_
   simp -dsimp
  ·refine aa (b := y2) (by simp -dsimp) c4 ?_
   refine ae (a7 ?_)
   refine srs hn (by kernel_rfl) ?_
   simp -dsimp [c4]
   refine ah (aj ?_)
   cases hm
   refine ⟨.inr rfl, ?_⟩
   refine EE.here ?_
   simp -dsimp
 ·refine aa (b := y1) (by simp -dsimp) c3 ?_
  refine ae (a7 (ai ?_))
  refine srs hn (by kernel_rfl) ?_
  simp -dsimp [c3]
  rcases am hm with ⟨c5, hm⟩ | ⟨c5, hm⟩
  ·refine ab (b := y2) (by simp -dsimp) c5 ?_
   refine srs hn (by kernel_rfl) ?_
   simp -dsimp [c5]
   refine ah (aj ?_)
   cases hm
   refine ⟨.inr rfl, ?_⟩
   refine EE.here ?_
   simp -dsimp
  ·refine aa (b := y2) (by simp -dsimp) c5 ?_
   refine ae (a7 (ai ?_))
   refine srs hn (by kernel_rfl) ?_
   simp -dsimp [c5]
   rcases am hm with ⟨c6, hm⟩ | ⟨c6, hm⟩
   ·refine ab (b := (ltB x y)) (by simp -dsimp) c6 ?_
    refine srs hn (by kernel_rfl) ?_
    simp -dsimp [c6]
    refine ah (aj ?_)
    cases hm
    refine ⟨.inr rfl, ?_⟩
    refine EE.here ?_
    simp -dsimp
   ·refine aa (b := (ltB x y)) (by simp -dsimp) c6 ?_
    refine ae (a7 (ai ?_))
    refine srs hn (by kernel_rfl) ?_
    simp -dsimp [c6]
    rcases am hm with ⟨c7, hm⟩ | ⟨c7, hm⟩
    ·refine ab (b := (gtB x y)) (by simp -dsimp) c7 ?_
     refine srs hn (by kernel_rfl) ?_
     simp -dsimp [c7]
     refine ah (aj ?_)
     cases hm
     refine ⟨.inr rfl, ?_⟩
     refine EE.here ?_
     simp -dsimp
    ·refine aa (b := (gtB x y)) (by simp -dsimp) c7 ?_
     refine ae (a7 ?_)
     refine srs hn (by kernel_rfl) ?_
     simp -dsimp [c7]
     refine ah ?_
     cases hm
     refine ⟨.inr rfl, ?_⟩
     refine EE.here ?_
     simp -dsimp
theorem gL (x : Int) (y : Int) (r : Int) (hm : bK x y = some r) : PureCall Tryz.prog 155 [.u (.one (.d (.int .i64 x))), .u (.one (.d (.int .i64 y)))] (.u (.one (.d (.int .i64 r)))) := (f_cmp_Compare_int x y r hm).pureW
def da (cx : Cx) (_vals : List Int) (tt : Int ⊕ Unit) (ee : Exit) (ρ : Env) (σ : Sto) : Prop := match tt with
 | .inl r => ee = .ret ∧ EE cx (fun ρ σ => ∃ v, resV tb ρ σ Tryz.f154.results.toList = some v ∧ (v.frz σ).free = true ∧ (v.frz σ).wk (.u (.one (.d (.int .i64 r))))) ρ σ
 | .inr _u => ee = .exit 0 ∧ EE cx (b6 [(3, .u (.one (.d (.int .i64 0))))] []) ρ σ
theorem l_cmp_Or_int_1 (cx : Cx) (hn : cx.n = 18) (vals : List Int) {fu : Nat} {stt : Int} {tt : Int ⊕ Unit} (hh : ar (d8 vals) fu stt = some tt) {ρ : Env} {σ : Sto}
  (hE : bn (fun a : Int => [(3, .u (.one (.d (.int .i64 0)))), (6, .u (.one (.d (.sl 1 (List.map (rI .i64) vals))))), (7, .u (.one (.d (.int .i64 (ak vals))))), (8, .u (.one (.d (.int .i64 a))))]) (fun _a : Int => []) stt ρ σ) : Swp Tryz.prog cx (.loop (cj [1, 1, 0, 1, 0, 0] (aX Tryz.f154))) ρ σ (da cx vals tt) := by
 refine bo hE hh (da cx vals) (fun _ => by rfl) (fun _ => by rfl) ?_
 rintro a r hm ρ σ hf
 simp only [Fits, az, aA, and_true] at hf
 unfold d8 at hm
 dsimp only at hm
 refine srs hn (by kernel_rfl) ?_
 simp -dsimp [hf]
 refine ai ?_
 rcases am hm with ⟨c1, hm⟩ | ⟨c1, hm⟩
 ·refine ab (b := (ltB a (ak vals))) (by simp -dsimp) c1 ?_
  refine ae (a7 (ai (ap ?_)))
  refine srs hn (by kernel_rfl) ?_
  obtain ⟨x, h2, hm⟩ := bnd hm
  simp -dsimp [hf, c1, h2]
  refine srs hn (by kernel_rfl) ?_
  simp -dsimp [hf]
  rcases am hm with ⟨c3, hm⟩ | ⟨c3, hm⟩
  ·refine ab (b := (neB x 0)) (by simp -dsimp) c3 ?_
   refine srs hn (by kernel_rfl) ?_
   simp -dsimp [c3]
   refine ah (aN (aj ?_))
   cases hm
   refine au nofun ?_
   unfold da
   dsimp only
   refine ⟨rfl, ?_⟩
   refine EE.here ?_
   simp -dsimp [Tryz.results154]
  ·refine aa (b := (neB x 0)) (by simp -dsimp) c3 ?_
   refine ae ?_
   refine aY ?_
   refine a7 ?_
   refine sr1 hn (by kernel_rfl) ?_
   simp -dsimp [hf, c3]
   cases hm
   refine aJ ?_
   refine EE.here ?_
   simp -dsimp [hf]
 ·refine aa (b := (ltB a (ak vals))) (by simp -dsimp) c1 ?_
  refine aD ?_
  refine aj ?_
  cases hm
  refine au nofun ?_
  unfold da
  dsimp only
  refine ⟨rfl, ?_⟩
  refine EE.here ?_
  simp -dsimp [hf, c1]
theorem f_cmp_Or_int (vals : List Int) (r : Int) (hm : eA vals = some r) : PFn Tryz.prog 154 [.u (.one (.d (.sl 1 (List.map (rI .i64) vals))))] (fun v => v.wk (.u (.one (.d (.int .i64 r))))) := by
 refine bv Tryz.func154 Tryz.ntmps154 rfl (by kernel_rfl) (by simp) fun cx hn => ?_
 unfold eA at hm
 refine srs hn (by kernel_rfl) ?_
 simp -dsimp []
 refine srs hn (by kernel_rfl) ?_
 simp -dsimp []
 refine ai ?_
 refine srs hn (by kernel_rfl) ?_
 simp -dsimp []
 refine ap ?_
 obtain ⟨o_, g4, hm⟩ := bnd hm
 refine aW [(3, .u (.one (.d (.int .i64 0)))), (6, .u (.one (.d (.sl 1 (List.map (rI .i64) vals))))), (7, .u (.one (.d (.int .i64 (ak vals))))), (8, .u (.one (.d (.int .i64 0))))] [] (by rfl) (by rfl) (by
   refine EE.here ?_
   simp -dsimp []
 ) fun ρ σ hf => ?_
 refine (l_cmp_Or_int_1 cx hn vals g4 hf).mono fun ee ρ σ x5 => ?_
 rcases o_ with r | _u
 ·unfold da at x5
  dsimp only at x5
  obtain ⟨rfl, x5⟩ := x5
  refine aN (aj ?_)
  cases hm
  exact ⟨.inr rfl, x5⟩
 ·unfold da at x5
  dsimp only at x5
  obtain ⟨rfl, x5⟩ := x5
  refine aF ?_
  refine a7 ?_
  refine bl (by rfl) (by rfl) x5 fun ρ σ hf => ?_
  simp only [Fits, az, aA, and_true] at hf
  refine srs hn (by kernel_rfl) ?_
  simp -dsimp [hf]
  refine ah ?_
  cases hm
  refine ⟨.inr rfl, ?_⟩
  refine EE.here ?_
  simp -dsimp
theorem c_cmp_Or_int (vals : List Int) (r : Int) (hm : eA vals = some r) : PureCall Tryz.prog 154 [.u (.one (.d (.sl 1 (List.map (rI .i64) vals))))] (.u (.one (.d (.int .i64 r)))) := (f_cmp_Or_int vals r hm).pureW
theorem f_point_Compare (a : Point) (b : Point) (r : Int) (hm : bR a b = some r) : PFn Tryz.prog 112 [.u (.agg [.d (.int .i64 a.X), .d (.int .i64 a.Y)]), .u (.agg [.d (.int .i64 b.X), .d (.int .i64 b.Y)])] (fun v => v.wk (.u (.one (.d (.int .i64 r))))) := by
 refine bv Tryz.func112 Tryz.ntmps112 rfl (by kernel_rfl) (by simp) fun cx hn => ?_
 unfold bR at hm
 refine srs hn (by kernel_rfl) ?_
 simp -dsimp []
 refine cZ bj mixed (by rw [hn]; kernel_rfl) ?_
 obtain ⟨y, h1, hm⟩ := bnd hm
 simp -dsimp []
 refine aK (gL a.Y b.Y y h1) ?_
 obtain ⟨y1, h2, hm⟩ := bnd hm
 simp -dsimp
 refine aK (gL a.X b.X y1 h2) ?_
 obtain ⟨y2, h3, hm⟩ := bnd hm
 simp -dsimp
 refine aK (c_cmp_Or_int [y, y1] y2 h3) ?_
 simp -dsimp
 refine ah ?_
 cases hm
 refine ⟨.inr rfl, ?_⟩
 refine EE.here ?_
 simp -dsimp
theorem c_point_Compare (a : Point) (b : Point) (r : Int) (hm : bR a b = some r) : PureCall Tryz.prog 112 [.u (.agg [.d (.int .i64 a.X), .d (.int .i64 a.Y)]), .u (.agg [.d (.int .i64 b.X), .d (.int .i64 b.Y)])] (.u (.one (.d (.int .i64 r)))) := (f_point_Compare a b r hm).pureW
def d6 (cx : Cx) (_l : List Point) (tt : Bool ⊕ Unit) (ee : Exit) (ρ : Env) (σ : Sto) : Prop := match tt with
 | .inl r => ee = .ret ∧ EE cx (fun ρ σ => ∃ v, resV tb ρ σ Tryz.f127.results.toList = some v ∧ (v.frz σ).free = true ∧ (v.frz σ).wk (.u (.one (.d (.bool r))))) ρ σ
 | .inr _u => ee = .exit 0 ∧ EE cx (b6 [] []) ρ σ
theorem l_hood_Right_1 (cx : Cx) (hn : cx.n = 53) (l : List Point) {fu : Nat} {stt : Int} {tt : Bool ⊕ Unit} (hh : ar (dZ l) fu stt = some tt) {ρ : Env} {σ : Sto}
  (hE : bn (fun a1 : Int => [(0, .u (.one (.d (.sl 2 (List.map Point.row l))))), (13, .u (.one (.d (.sl 2 (List.map Point.row l))))), (14, .u (.one (.d (.int .i64 (ak l))))), (15, .u (.one (.d (.int .i64 a1))))]) (fun _a1 : Int => []) stt ρ σ) : Swp Tryz.prog cx (.loop (cj [1, 1, 0, 1, 0, 0] (aX Tryz.f127))) ρ σ (d6 cx l tt) := by
 refine bo hE hh (d6 cx l) (fun _ => by rfl) (fun _ => by rfl) ?_
 rintro a1 r hm ρ σ hf
 simp only [Fits, az, aA, and_true] at hf
 unfold dZ at hm
 dsimp only at hm
 refine srs hn (by kernel_rfl) ?_
 simp -dsimp [hf]
 refine ai ?_
 rcases am hm with ⟨c3, hm⟩ | ⟨c3, hm⟩
 ·refine ab (b := (ltB a1 (ak l))) (by simp -dsimp) c3 ?_
  refine ae (a7 (ai (ap ?_)))
  refine srs hn (by kernel_rfl) ?_
  obtain ⟨x, h4, hm⟩ := bnd hm
  simp -dsimp [hf, c3, h4]
  obtain ⟨a2, j13, hm⟩ := bnd hm
  refine av [(0, .u (.one (.d (.sl 2 (List.map Point.row l))))), (13, .u (.one (.d (.sl 2 (List.map Point.row l))))), (14, .u (.one (.d (.int .i64 (ak l))))), (15, .u (.one (.d (.int .i64 a1)))), (51, .u (.one (.d (.bool a2))))] [] (by rfl) (by rfl) ?_ fun ρ σ hf => ?_
  ·replace hm := j13
   clear j13
   refine sw_qt bj mixed (by rw [hn]; kernel_rfl) ?_
   rcases am hm with ⟨c5, hm⟩ | ⟨c5, hm⟩
   ·simp -dsimp [c5]
    refine a7 ?_
    cases hm
    refine EE.here ?_
    simp -dsimp [hf]
   ·rcases am hm with ⟨c6, hm⟩ | ⟨c6, hm⟩
    ·simp -dsimp [c5, c6]
     refine a7 ?_
     cases hm
     refine EE.here ?_
     simp -dsimp [hf]
    ·rcases am hm with ⟨c7, hm⟩ | ⟨c7, hm⟩
     ·simp -dsimp [c5, c6, c7]
      refine a7 ?_
      cases hm
      refine EE.here ?_
      simp -dsimp [hf]
     ·rcases am hm with ⟨c8, hm⟩ | ⟨c8, hm⟩
      ·simp -dsimp [c5, c6, c7, c8]
       refine a7 ?_
       cases hm
       refine EE.here ?_
       simp -dsimp [hf]
      ·rcases am hm with ⟨c9, hm⟩ | ⟨c9, hm⟩
       ·obtain ⟨x1, h10, hm⟩ := bnd hm
        obtain ⟨y, h11, hm⟩ := bnd hm
        simp -dsimp [hf, c5, c6, c7, c8, c9, h10]
        refine aK (c_point_Compare x1 x y h11) ?_
        simp -dsimp
        refine a7 ?_
        cases hm
        refine EE.here ?_
        simp -dsimp [hf]
       ·simp -dsimp [c5, c6, c7, c8, c9]
        refine a7 ?_
        cases hm
        refine EE.here ?_
        simp -dsimp [hf]
  ·clear j13
   simp only [Fits, az, aA, and_true] at hf
   rcases am hm with ⟨c12, hm⟩ | ⟨c12, hm⟩
   ·refine ab (b := a2) (by simp -dsimp [hf]) c12 ?_
    refine srs hn (by kernel_rfl) ?_
    simp -dsimp
    refine ah (aN (aj ?_))
    cases hm
    refine au nofun ?_
    unfold d6
    dsimp only
    refine ⟨rfl, ?_⟩
    refine EE.here ?_
    simp -dsimp [Tryz.results127]
   ·refine aa (b := a2) (by simp -dsimp [hf]) c12 ?_
    refine ae ?_
    refine aY ?_
    refine a7 ?_
    refine sr1 hn (by kernel_rfl) ?_
    simp -dsimp [hf]
    cases hm
    refine aJ ?_
    refine EE.here ?_
    simp -dsimp [hf]
 ·refine aa (b := (ltB a1 (ak l))) (by simp -dsimp) c3 ?_
  refine aD ?_
  refine aj ?_
  cases hm
  refine au nofun ?_
  unfold d6
  dsimp only
  refine ⟨rfl, ?_⟩
  refine EE.here ?_
  simp -dsimp [c3]
theorem f_hood_Right (l : List Point) (r : Bool) (hm : eq l = some r) : PFn Tryz.prog 127 [.u (.one (.d (.sl 2 (List.map Point.row l))))] (fun v => v.wk (.u (.one (.d (.bool r))))) := by
 refine bv Tryz.func127 Tryz.ntmps127 rfl (by kernel_rfl) (by simp) fun cx hn => ?_
 unfold eq at hm
 refine srs hn (by kernel_rfl) ?_
 simp -dsimp []
 refine ai ?_
 obtain ⟨a, j16, hm⟩ := bnd hm
 refine av [(0, .u (.one (.d (.sl 2 (List.map Point.row l))))), (12, .u (.one (.d (.bool a))))] [] (by rfl) (by rfl) ?_ fun ρ σ hf => ?_
 ·replace hm := j16
  clear j16
  refine sr1 hn (by kernel_rfl) ?_
  rcases am hm with ⟨c1, hm⟩ | ⟨c1, hm⟩
  ·simp -dsimp [c1]
   refine a7 ?_
   cases hm
   refine EE.here ?_
   simp -dsimp
  ·simp -dsimp [c1]
   refine a7 ?_
   cases hm
   refine EE.here ?_
   simp -dsimp
 ·clear j16
  simp only [Fits, az, aA, and_true] at hf
  rcases am hm with ⟨c2, hm⟩ | ⟨c2, hm⟩
  ·refine ab (b := a) (by simp -dsimp [hf]) c2 ?_
   refine srs hn (by kernel_rfl) ?_
   simp -dsimp
   refine ah (aj ?_)
   cases hm
   refine ⟨.inr rfl, ?_⟩
   refine EE.here ?_
   simp -dsimp
  ·refine aa (b := a) (by simp -dsimp [hf]) c2 ?_
   refine ae (a7 (ai ?_))
   refine srs hn (by kernel_rfl) ?_
   simp -dsimp [hf]
   refine ap ?_
   obtain ⟨o_, g14, hm⟩ := bnd hm
   refine aW [(0, .u (.one (.d (.sl 2 (List.map Point.row l))))), (13, .u (.one (.d (.sl 2 (List.map Point.row l))))), (14, .u (.one (.d (.int .i64 (ak l))))), (15, .u (.one (.d (.int .i64 0))))] [] (by rfl) (by rfl) (by
     refine EE.here ?_
     simp -dsimp [hf]
   ) fun ρ σ hf => ?_
   refine (l_hood_Right_1 cx hn l g14 hf).mono fun ee ρ σ x15 => ?_
   rcases o_ with r | _u
   ·unfold d6 at x15
    dsimp only at x15
    obtain ⟨rfl, x15⟩ := x15
    refine aN (aj ?_)
    cases hm
    exact ⟨.inr rfl, x15⟩
   ·unfold d6 at x15
    dsimp only at x15
    obtain ⟨rfl, x15⟩ := x15
    refine aF ?_
    refine a7 ?_
    refine bl (by rfl) (by rfl) x15 fun ρ σ hf => ?_
    simp only [Fits, az, aA, and_true] at hf
    refine srs hn (by kernel_rfl) ?_
    simp -dsimp
    refine ah ?_
    cases hm
    refine ⟨.inr rfl, ?_⟩
    refine EE.here ?_
    simp -dsimp
theorem c_hood_Right (l : List Point) (r : Bool) (hm : eq l = some r) : PureCall Tryz.prog 127 [.u (.one (.d (.sl 2 (List.map Point.row l))))] (.u (.one (.d (.bool r)))) := (f_hood_Right l r hm).pureW
def d9 (cx : Cx) (t : Tree) (a1 : Int) (_x : Node) (tt : Bool ⊕ Unit) (ee : Exit) (ρ : Env) (σ : Sto) : Prop := match tt with
 | .inl r => ee = .ret ∧ EE cx (fun ρ σ => ∃ v, resV tb ρ σ Tryz.f109.results.toList = some v ∧ (v.frz σ).free = true ∧ (v.frz σ).wk (.u (.one (.d (.bool r))))) ρ σ
 | .inr _u => ee = .exit 2 ∧ EE cx (b6 [(1, .u (.one (.box 1 0))), (47, .u (.one (.d (.sl 2 (List.map Node.row t.Nodes))))), (48, .u (.one (.d (.int .i64 (ak t.Nodes))))), (49, .u (.one (.d (.int .i64 a1))))] [(1, .box [.d (.int .i64 t.States), .d (.sl 2 (List.map Point.row t.Hood)), .d (.sl 2 (List.map Node.row t.Nodes))])]) ρ σ
theorem l_tree_Right_2 (cx : Cx) (hn : cx.n = 117) (t : Tree) (a1 : Int) (x : Node) {fu : Nat} {stt : Int} {tt : Bool ⊕ Unit} (hh : ar (di t a1 x) fu stt = some tt) {ρ : Env} {σ : Sto}
  (hE : bn (fun a3 : Int => [(1, .u (.one (.box 1 0))), (4, .u (.one (.d (.int .i64 a1)))), (5, .u (.one (.box 5 0))), (47, .u (.one (.d (.sl 2 (List.map Node.row t.Nodes))))), (48, .u (.one (.d (.int .i64 (ak t.Nodes))))), (49, .u (.one (.d (.int .i64 a1)))), (74, .u (.one (.d (.sl 1 (List.map (rI .i64) x.Next))))), (75, .u (.one (.d (.int .i64 (ak x.Next))))), (76, .u (.one (.d (.int .i64 a3))))]) (fun _a3 : Int => [(1, .box [.d (.int .i64 t.States), .d (.sl 2 (List.map Point.row t.Hood)), .d (.sl 2 (List.map Node.row t.Nodes))]), (5, .box [.d (.int .i64 x.Level), .d (.sl 1 (List.map (rI .i64) x.Next))])]) stt ρ σ) : Swp Tryz.prog cx (.loop (cj [1, 1, 1, 0, 1, 0, 0, 1, 1, 0, 0, 1, 1, 1, 0, 0] (aX Tryz.f109))) ρ σ (d9 cx t a1 x tt) := by
 refine bo hE hh (d9 cx t a1 x) (fun _ => by rfl) (fun _ => by rfl) ?_
 rintro a3 r hm ρ σ hf
 simp only [Fits, az, aA, and_true] at hf
 unfold di at hm
 dsimp only at hm
 refine srs hn (by kernel_rfl) ?_
 simp -dsimp [hf]
 refine ai ?_
 rcases am hm with ⟨c14, hm⟩ | ⟨c14, hm⟩
 ·refine ab (b := (ltB a3 (ak x.Next))) (by simp -dsimp) c14 ?_
  refine ae (a7 (ai (ap ?_)))
  refine srs hn (by kernel_rfl) ?_
  obtain ⟨x1, h15, hm⟩ := bnd hm
  simp -dsimp [hf, c14, h15]
  obtain ⟨a4, j26, hm⟩ := bnd hm
  refine av [(1, .u (.one (.box 1 0))), (4, .u (.one (.d (.int .i64 a1)))), (5, .u (.one (.box 5 0))), (47, .u (.one (.d (.sl 2 (List.map Node.row t.Nodes))))), (48, .u (.one (.d (.int .i64 (ak t.Nodes))))), (49, .u (.one (.d (.int .i64 a1)))), (74, .u (.one (.d (.sl 1 (List.map (rI .i64) x.Next))))), (75, .u (.one (.d (.int .i64 (ak x.Next))))), (76, .u (.one (.d (.int .i64 a3)))), (114, .u (.one (.d (.bool a4))))] [(1, .box [.d (.int .i64 t.States), .d (.sl 2 (List.map Point.row t.Hood)), .d (.sl 2 (List.map Node.row t.Nodes))]), (5, .box [.d (.int .i64 x.Level), .d (.sl 1 (List.map (rI .i64) x.Next))])] (by rfl) (by rfl) ?_ fun ρ σ hf => ?_
  ·replace hm := j26
   clear j26
   refine sw_qt bj mixed (by rw [hn]; kernel_rfl) ?_
   rcases am hm with ⟨c16, hm⟩ | ⟨c16, hm⟩
   ·simp -dsimp [c16]
    refine a7 ?_
    cases hm
    refine EE.here ?_
    simp -dsimp [hf]
   ·rcases am hm with ⟨c17, hm⟩ | ⟨c17, hm⟩
    ·rcases am hm with ⟨c18, hm⟩ | ⟨c18, hm⟩
     ·simp -dsimp [hf, c16, c17, c18]
      refine a7 ?_
      cases hm
      refine EE.here ?_
      simp -dsimp [hf]
     ·rcases am hm with ⟨c19, hm⟩ | ⟨c19, hm⟩
      ·rcases am hm with ⟨c20, hm⟩ | ⟨c20, hm⟩
       ·simp -dsimp [hf, c16, c17, c18, c19, c20]
        refine a7 ?_
        cases hm
        refine EE.here ?_
        simp -dsimp [hf]
       ·obtain ⟨x2, h21, hm⟩ := bnd hm
        simp -dsimp [hf, c16, c17, c18, c19, c20, h21]
        refine a7 ?_
        cases hm
        refine EE.here ?_
        simp -dsimp [hf]
      ·simp -dsimp [hf, c16, c17, c18, c19]
       refine a7 ?_
       cases hm
       refine EE.here ?_
       simp -dsimp [hf]
    ·rcases am hm with ⟨c22, hm⟩ | ⟨c22, hm⟩
     ·rcases am hm with ⟨c23, hm⟩ | ⟨c23, hm⟩
      ·simp -dsimp [hf, c16, c17, c22, c23]
       refine a7 ?_
       cases hm
       refine EE.here ?_
       simp -dsimp [hf]
      ·obtain ⟨x2, h24, hm⟩ := bnd hm
       simp -dsimp [hf, c16, c17, c22, c23, h24]
       refine a7 ?_
       cases hm
       refine EE.here ?_
       simp -dsimp [hf]
     ·simp -dsimp [hf, c16, c17, c22]
      refine a7 ?_
      cases hm
      refine EE.here ?_
      simp -dsimp [hf]
  ·clear j26
   simp only [Fits, az, aA, and_true] at hf
   rcases am hm with ⟨c25, hm⟩ | ⟨c25, hm⟩
   ·refine ab (b := a4) (by simp -dsimp [hf]) c25 ?_
    refine srs hn (by kernel_rfl) ?_
    simp -dsimp
    refine ah (aN (aj ?_))
    cases hm
    refine au nofun ?_
    unfold d9
    dsimp only
    refine ⟨rfl, ?_⟩
    refine EE.here ?_
    simp -dsimp [Tryz.results109]
   ·refine aa (b := a4) (by simp -dsimp [hf]) c25 ?_
    refine ae ?_
    refine aY ?_
    refine a7 ?_
    refine sr1 hn (by kernel_rfl) ?_
    simp -dsimp [hf]
    cases hm
    refine aJ ?_
    refine EE.here ?_
    simp -dsimp [hf]
 ·refine aa (b := (ltB a3 (ak x.Next))) (by simp -dsimp) c14 ?_
  refine aD ?_
  refine aj ?_
  cases hm
  refine au nofun ?_
  unfold d9
  dsimp only
  refine ⟨rfl, ?_⟩
  refine EE.here ?_
  simp -dsimp [hf, c14]
def cH (cx : Cx) (_t : Tree) (tt : Bool ⊕ Unit) (ee : Exit) (ρ : Env) (σ : Sto) : Prop := match tt with
 | .inl r => ee = .ret ∧ EE cx (fun ρ σ => ∃ v, resV tb ρ σ Tryz.f109.results.toList = some v ∧ (v.frz σ).free = true ∧ (v.frz σ).wk (.u (.one (.d (.bool r))))) ρ σ
 | .inr _u => ee = .exit 0 ∧ EE cx (b6 [] []) ρ σ
theorem l_tree_Right_1 (cx : Cx) (hn : cx.n = 117) (t : Tree) {fu : Nat} {stt : Int} {tt : Bool ⊕ Unit} (hh : ar (d7 t) fu stt = some tt) {ρ : Env} {σ : Sto}
  (hE : bn (fun a1 : Int => [(1, .u (.one (.box 1 0))), (47, .u (.one (.d (.sl 2 (List.map Node.row t.Nodes))))), (48, .u (.one (.d (.int .i64 (ak t.Nodes))))), (49, .u (.one (.d (.int .i64 a1))))]) (fun _a1 : Int => [(1, .box [.d (.int .i64 t.States), .d (.sl 2 (List.map Point.row t.Hood)), .d (.sl 2 (List.map Node.row t.Nodes))])]) stt ρ σ) : Swp Tryz.prog cx (.loop (cj [1, 1, 1, 0, 1, 0, 0] (aX Tryz.f109))) ρ σ (cH cx t tt) := by
 refine bo hE hh (cH cx t) (fun _ => by rfl) (fun _ => by rfl) ?_
 rintro a1 r hm ρ σ hf
 simp only [Fits, az, aA, and_true] at hf
 unfold d7 at hm
 dsimp only at hm
 refine srs hn (by kernel_rfl) ?_
 simp -dsimp [hf]
 refine ai ?_
 rcases am hm with ⟨c9, hm⟩ | ⟨c9, hm⟩
 ·refine ab (b := (ltB a1 (ak t.Nodes))) (by simp -dsimp) c9 ?_
  refine ae (a7 (ai (ap ?_)))
  refine srs hn (by kernel_rfl) ?_
  obtain ⟨x, h10, hm⟩ := bnd hm
  simp -dsimp [hf, c9, h10]
  refine ai ?_
  obtain ⟨a2, j29, hm⟩ := bnd hm
  refine av [(1, .u (.one (.box 1 0))), (4, .u (.one (.d (.int .i64 a1)))), (5, .u (.one (.box 5 0))), (47, .u (.one (.d (.sl 2 (List.map Node.row t.Nodes))))), (48, .u (.one (.d (.int .i64 (ak t.Nodes))))), (49, .u (.one (.d (.int .i64 a1)))), (72, .u (.one (.d (.bool a2))))] [(1, .box [.d (.int .i64 t.States), .d (.sl 2 (List.map Point.row t.Hood)), .d (.sl 2 (List.map Node.row t.Nodes))]), (5, .box [.d (.int .i64 x.Level), .d (.sl 1 (List.map (rI .i64) x.Next))])] (by rfl) (by rfl) ?_ fun ρ σ hf => ?_
  ·replace hm := j29
   clear j29
   refine sr1 hn (by kernel_rfl) ?_
   rcases am hm with ⟨c11, hm⟩ | ⟨c11, hm⟩
   ·simp -dsimp [c11]
    refine a7 ?_
    cases hm
    refine EE.here ?_
    simp -dsimp [hf]
   ·rcases am hm with ⟨c12, hm⟩ | ⟨c12, hm⟩
    ·simp -dsimp [hf, c11, c12]
     refine a7 ?_
     cases hm
     refine EE.here ?_
     simp -dsimp [hf]
    ·simp -dsimp [hf, c11, c12]
     refine a7 ?_
     cases hm
     refine EE.here ?_
     simp -dsimp [hf]
  ·clear j29
   simp only [Fits, az, aA, and_true] at hf
   rcases am hm with ⟨c13, hm⟩ | ⟨c13, hm⟩
   ·refine ab (b := a2) (by simp -dsimp [hf]) c13 ?_
    refine srs hn (by kernel_rfl) ?_
    simp -dsimp
    refine ah (aj (aN (aj ?_)))
    cases hm
    refine au nofun ?_
    unfold cH
    dsimp only
    refine ⟨rfl, ?_⟩
    refine EE.here ?_
    simp -dsimp [Tryz.results109]
   ·refine aa (b := a2) (by simp -dsimp [hf]) c13 ?_
    refine ae (a7 ?_)
    refine srs hn (by kernel_rfl) ?_
    simp -dsimp [hf]
    refine ap ?_
    obtain ⟨o_, g27, hm⟩ := bnd hm
    refine aW [(1, .u (.one (.box 1 0))), (4, .u (.one (.d (.int .i64 a1)))), (5, .u (.one (.box 5 0))), (47, .u (.one (.d (.sl 2 (List.map Node.row t.Nodes))))), (48, .u (.one (.d (.int .i64 (ak t.Nodes))))), (49, .u (.one (.d (.int .i64 a1)))), (74, .u (.one (.d (.sl 1 (List.map (rI .i64) x.Next))))), (75, .u (.one (.d (.int .i64 (ak x.Next))))), (76, .u (.one (.d (.int .i64 0))))] [(1, .box [.d (.int .i64 t.States), .d (.sl 2 (List.map Point.row t.Hood)), .d (.sl 2 (List.map Node.row t.Nodes))]), (5, .box [.d (.int .i64 x.Level), .d (.sl 1 (List.map (rI .i64) x.Next))])] (by rfl) (by rfl) (by
      refine EE.here ?_
      simp -dsimp [hf]
    ) fun ρ σ hf => ?_
    refine (l_tree_Right_2 cx hn t a1 x g27 hf).mono fun ee ρ σ x28 => ?_
    rcases o_ with r | _u
    ·unfold d9 at x28
     dsimp only at x28
     obtain ⟨rfl, x28⟩ := x28
     refine aN (aN (aj ?_))
     cases hm
     refine au nofun ?_
     unfold cH
     dsimp only
     refine ⟨rfl, ?_⟩
     exact x28
    ·unfold d9 at x28
     dsimp only at x28
     obtain ⟨rfl, x28⟩ := x28
     refine aF ?_
     refine aY ?_
     refine a7 ?_
     refine bl (by rfl) (by rfl) x28 fun ρ σ hf => ?_
     simp only [Fits, az, aA, and_true] at hf
     refine sr1 hn (by kernel_rfl) ?_
     simp -dsimp [hf]
     cases hm
     refine aJ ?_
     refine EE.here ?_
     simp -dsimp [hf]
 ·refine aa (b := (ltB a1 (ak t.Nodes))) (by simp -dsimp) c9 ?_
  refine aD ?_
  refine aj ?_
  cases hm
  refine au nofun ?_
  unfold cH
  dsimp only
  refine ⟨rfl, ?_⟩
  refine EE.here ?_
  simp -dsimp [c9]
theorem f_tree_Right (t : Tree) (r : Bool) (hm : eo t = some r) : PFn Tryz.prog 109 [.u (.agg [.d (.int .i64 t.States), .d (.sl 2 (List.map Point.row t.Hood)), .d (.sl 2 (List.map Node.row t.Nodes))])] (fun v => v.wk (.u (.one (.d (.bool r))))) := by
 refine bv Tryz.func109 Tryz.ntmps109 rfl (by kernel_rfl) (by simp) fun cx hn => ?_
 unfold eo at hm
 refine srs hn (by kernel_rfl) ?_
 simp -dsimp []
 refine srs hn (by kernel_rfl) ?_
 simp -dsimp []
 refine ai ?_
 obtain ⟨a, j32, hm⟩ := bnd hm
 refine av [(1, .u (.one (.box 1 0))), (45, .u (.one (.d (.bool a))))] [(1, .box [.d (.int .i64 t.States), .d (.sl 2 (List.map Point.row t.Hood)), .d (.sl 2 (List.map Node.row t.Nodes))])] (by rfl) (by rfl) ?_ fun ρ σ hf => ?_
 ·replace hm := j32
  clear j32
  refine sw_qt bj mixed (by rw [hn]; kernel_rfl) ?_
  rcases am hm with ⟨c1, hm⟩ | ⟨c1, hm⟩
  ·simp -dsimp [c1]
   refine a7 ?_
   cases hm
   refine EE.here ?_
   simp -dsimp
  ·rcases am hm with ⟨c2, hm⟩ | ⟨c2, hm⟩
   ·simp -dsimp [c1, c2]
    refine a7 ?_
    cases hm
    refine EE.here ?_
    simp -dsimp
   ·obtain ⟨y, h3, hm⟩ := bnd hm
    simp -dsimp [c1, c2]
    refine aK (c_hood_Right t.Hood y h3) ?_
    rcases am hm with ⟨c4, hm⟩ | ⟨c4, hm⟩
    ·simp -dsimp [c4]
     refine a7 ?_
     cases hm
     refine EE.here ?_
     simp -dsimp
    ·rcases am hm with ⟨c5, hm⟩ | ⟨c5, hm⟩
     ·simp -dsimp [c4, c5]
      refine a7 ?_
      cases hm
      refine EE.here ?_
      simp -dsimp
     ·rcases am hm with ⟨c6, hm⟩ | ⟨c6, hm⟩
      ·simp -dsimp [c4, c5, c6]
       refine a7 ?_
       cases hm
       refine EE.here ?_
       simp -dsimp
      ·obtain ⟨x, h7, hm⟩ := bnd hm
       simp -dsimp [c4, c5, c6, h7]
       refine a7 ?_
       cases hm
       refine EE.here ?_
       simp -dsimp
 ·clear j32
  simp only [Fits, az, aA, and_true] at hf
  rcases am hm with ⟨c8, hm⟩ | ⟨c8, hm⟩
  ·refine ab (b := a) (by simp -dsimp [hf]) c8 ?_
   refine srs hn (by kernel_rfl) ?_
   simp -dsimp
   refine ah (aj ?_)
   cases hm
   refine ⟨.inr rfl, ?_⟩
   refine EE.here ?_
   simp -dsimp
  ·refine aa (b := a) (by simp -dsimp [hf]) c8 ?_
   refine ae (a7 (ai ?_))
   refine srs hn (by kernel_rfl) ?_
   simp -dsimp [hf]
   refine ap ?_
   obtain ⟨o_, g30, hm⟩ := bnd hm
   refine aW [(1, .u (.one (.box 1 0))), (47, .u (.one (.d (.sl 2 (List.map Node.row t.Nodes))))), (48, .u (.one (.d (.int .i64 (ak t.Nodes))))), (49, .u (.one (.d (.int .i64 0))))] [(1, .box [.d (.int .i64 t.States), .d (.sl 2 (List.map Point.row t.Hood)), .d (.sl 2 (List.map Node.row t.Nodes))])] (by rfl) (by rfl) (by
     refine EE.here ?_
     simp -dsimp [hf]
   ) fun ρ σ hf => ?_
   refine (l_tree_Right_1 cx hn t g30 hf).mono fun ee ρ σ x31 => ?_
   rcases o_ with r | _u
   ·unfold cH at x31
    dsimp only at x31
    obtain ⟨rfl, x31⟩ := x31
    refine aN (aj ?_)
    cases hm
    exact ⟨.inr rfl, x31⟩
   ·unfold cH at x31
    dsimp only at x31
    obtain ⟨rfl, x31⟩ := x31
    refine aF ?_
    refine a7 ?_
    refine bl (by rfl) (by rfl) x31 fun ρ σ hf => ?_
    simp only [Fits, az, aA, and_true] at hf
    refine srs hn (by kernel_rfl) ?_
    simp -dsimp
    refine ah ?_
    cases hm
    refine ⟨.inr rfl, ?_⟩
    refine EE.here ?_
    simp -dsimp
theorem c_tree_Right (t : Tree) (r : Bool) (hm : eo t = some r) : PureCall Tryz.prog 109 [.u (.agg [.d (.int .i64 t.States), .d (.sl 2 (List.map Point.row t.Hood)), .d (.sl 2 (List.map Node.row t.Nodes))])] (.u (.one (.d (.bool r)))) := (f_tree_Right t r hm).pureW
def fE (cx : Cx) (_t : Tree) (_in_ : List Int) (tt : Int) (ee : Exit) (ρ : Env) (σ : Sto) : Prop := match tt with
 | k => ee = .exit 0 ∧ EE cx (b6 [(5, .u (.one (.d (.int .i64 k))))] []) ρ σ
theorem l_tree_value_1 (cx : Cx) (hn : cx.n = 29) (t : Tree) (in_ : List Int) {fu : Nat} {stt : Int × Int} {tt : Int} (hh : ar (db t in_) fu stt = some tt) {ρ : Env} {σ : Sto}
  (hE : bn (fun stt : Int × Int => match stt with | (k, a) => [(2, .u (.one (.box 2 0))), (5, .u (.one (.d (.int .i64 k)))), (12, .u (.one (.d (.sl 1 (List.map (rI .i64) in_))))), (13, .u (.one (.d (.int .i64 (ak in_))))), (14, .u (.one (.d (.int .i64 a))))]) (fun stt : Int × Int => match stt with | (_k, _a) => [(2, .box [.d (.int .i64 t.States), .d (.sl 2 (List.map Point.row t.Hood)), .d (.sl 2 (List.map Node.row t.Nodes))])]) stt ρ σ) : Swp Tryz.prog cx (.loop (cj [1, 1, 0, 1, 0, 0] (aX Tryz.f110))) ρ σ (fE cx t in_ tt) := by
 refine bo hE hh (fE cx t in_) (fun _ => by rfl) (fun _ => by rfl) ?_
 rintro ⟨k, a⟩ r hm ρ σ hf
 simp only [Fits, az, aA, and_true] at hf
 unfold db at hm
 dsimp only at hm
 refine srs hn (by kernel_rfl) ?_
 simp -dsimp [hf]
 refine ai ?_
 rcases am hm with ⟨c1, hm⟩ | ⟨c1, hm⟩
 ·refine ab (b := (ltB a (ak in_))) (by simp -dsimp) c1 ?_
  refine ae (a7 (ai (ap ?_)))
  refine srs hn (by kernel_rfl) ?_
  obtain ⟨x, h2, hm⟩ := bnd hm
  simp -dsimp [hf, c1, h2]
  refine sr1 hn (by kernel_rfl) ?_
  obtain ⟨x1, h3, hm⟩ := bnd hm
  obtain ⟨x2, h4, hm⟩ := bnd hm
  simp -dsimp [hf, h3, h4]
  refine aY ?_
  refine a7 ?_
  refine sr1 hn (by kernel_rfl) ?_
  simp -dsimp [hf]
  cases hm
  refine aJ ?_
  refine EE.here ?_
  simp -dsimp [hf]
 ·refine aa (b := (ltB a (ak in_))) (by simp -dsimp) c1 ?_
  refine aD ?_
  refine aj ?_
  cases hm
  refine au nofun ?_
  unfold fE
  dsimp only
  refine ⟨rfl, ?_⟩
  refine EE.here ?_
  simp -dsimp [hf, c1]
theorem f_tree_value (t : Tree) (in_ : List Int) (r : Int) (hm : eG t in_ = some r) : PFn Tryz.prog 110 [.u (.agg [.d (.int .i64 t.States), .d (.sl 2 (List.map Point.row t.Hood)), .d (.sl 2 (List.map Node.row t.Nodes))]), .u (.one (.d (.sl 1 (List.map (rI .i64) in_))))] (fun v => v.wk (.u (.one (.d (.int .i64 r))))) := by
 refine bv Tryz.func110 Tryz.ntmps110 rfl (by kernel_rfl) (by simp) fun cx hn => ?_
 unfold eG at hm
 refine srs hn (by kernel_rfl) ?_
 simp -dsimp []
 refine srs hn (by kernel_rfl) ?_
 simp -dsimp []
 refine ai ?_
 refine srs hn (by kernel_rfl) ?_
 simp -dsimp []
 refine ap ?_
 obtain ⟨k, g5, hm⟩ := bnd hm
 refine aW [(2, .u (.one (.box 2 0))), (5, .u (.one (.d (.int .i64 (aM .i64 (ak t.Nodes) 1))))), (12, .u (.one (.d (.sl 1 (List.map (rI .i64) in_))))), (13, .u (.one (.d (.int .i64 (ak in_))))), (14, .u (.one (.d (.int .i64 0))))] [(2, .box [.d (.int .i64 t.States), .d (.sl 2 (List.map Point.row t.Hood)), .d (.sl 2 (List.map Node.row t.Nodes))])] (by rfl) (by rfl) (by
   refine EE.here ?_
   simp -dsimp []
 ) fun ρ σ hf => ?_
 refine (l_tree_value_1 cx hn t in_ g5 hf).mono fun ee ρ σ x6 => ?_
 unfold fE at x6
 dsimp only at x6
 obtain ⟨rfl, x6⟩ := x6
 refine aF ?_
 refine a7 ?_
 refine bl (by rfl) (by rfl) x6 fun ρ σ hf => ?_
 simp only [Fits, az, aA, and_true] at hf
 refine srs hn (by kernel_rfl) ?_
 simp -dsimp [hf]
 refine ah ?_
 cases hm
 refine ⟨.inr rfl, ?_⟩
 refine EE.here ?_
 simp -dsimp
theorem c_tree_value (t : Tree) (in_ : List Int) (r : Int) (hm : eG t in_ = some r) : PureCall Tryz.prog 110 [.u (.agg [.d (.int .i64 t.States), .d (.sl 2 (List.map Point.row t.Hood)), .d (.sl 2 (List.map Node.row t.Nodes))]), .u (.one (.d (.sl 1 (List.map (rI .i64) in_))))] (.u (.one (.d (.int .i64 r)))) := (f_tree_value t in_ r hm).pureW
theorem f_tree_Quiet (t : Tree) (r : Bool) (hm : eC t = some r) : PFn Tryz.prog 57 [.u (.agg [.d (.int .i64 t.States), .d (.sl 2 (List.map Point.row t.Hood)), .d (.sl 2 (List.map Node.row t.Nodes))])] (fun v => v.wk (.u (.one (.d (.bool r))))) := by
 refine bv Tryz.func57 Tryz.ntmps57 rfl (by kernel_rfl) (by simp) fun cx hn => ?_
 unfold eC at hm
 refine srs hn (by kernel_rfl) ?_
 simp -dsimp []
 obtain ⟨a, j5, hm⟩ := bnd hm
 refine av [(2, .u (.one (.d (.bool a))))] [] (by rfl) (by rfl) ?_ fun ρ σ hf => ?_
 ·replace hm := j5
  clear j5
  refine sw_mid bj mixed 7 8 8 [[3]] [10] (by rw [hn]; kernel_rfl) ?_
  dsimp only [List.take, List.drop, midsD, uopsD, pk, List.cons_append, List.nil_append]
  obtain ⟨y, h1, hm⟩ := bnd hm
  simp -dsimp []
  refine aK (c_tree_Right t y h1) ?_
  rcases am hm with ⟨c2, hm⟩ | ⟨c2, hm⟩
  ·obtain ⟨l, h3, hm⟩ := bnd hm
   obtain ⟨⟨h3a, h3b, h3c⟩, rfl⟩ := mkL_some h3
   obtain ⟨y1, h4, hm⟩ := bnd hm
   simp -dsimp [c2, h3a, h3c]
   refine callL_brw (us' := [.u (.agg [.d (.int .i64 t.States), .d (.sl 2 (List.map Point.row t.Hood)), .d (.sl 2 (List.map Node.row t.Nodes))]), .u (.one (.d (.sl 1 (List.map (rI .i64) (List.replicate (ak t.Hood).toNat 0)))))]) (c_tree_value t (List.replicate (ak t.Hood).toNat 0) y1 h4) (by simp -dsimp) rfl (by rw [hn]; decide) ?_
   simp -dsimp
   refine a7 ?_
   cases hm
   refine EE.here ?_
   simp -dsimp
  ·simp -dsimp [c2]
   refine a7 ?_
   cases hm
   refine EE.here ?_
   simp -dsimp
 ·clear j5
  simp only [Fits, az, aA, and_true] at hf
  refine ah ?_
  cases hm
  refine ⟨.inr rfl, ?_⟩
  refine EE.here ?_
  simp -dsimp [hf]
theorem c_tree_Quiet (t : Tree) (r : Bool) (hm : eC t = some r) : PureCall Tryz.prog 57 [.u (.agg [.d (.int .i64 t.States), .d (.sl 2 (List.map Point.row t.Hood)), .d (.sl 2 (List.map Node.row t.Nodes))])] (.u (.one (.d (.bool r)))) := (f_tree_Quiet t r hm).pureW
theorem f_pattern_at (c : Cell) (r : Point) (hm : b7 c = some r) : PFn Tryz.prog 40 [.u (.agg [.d (.int .i64 c.X), .d (.int .i64 c.Y), .d (.int .i64 c.S)])] (fun v => v.wk (.u (.agg [.d (.int .i64 r.X), .d (.int .i64 r.Y)]))) := by
 refine bv Tryz.func40 Tryz.ntmps40 rfl (by kernel_rfl) (by simp) fun cx hn => ?_
 unfold b7 at hm
 refine srs hn (by kernel_rfl) ?_
 simp -dsimp []
 refine srs hn (by kernel_rfl) ?_
 simp -dsimp []
 refine ah ?_
 cases hm
 refine ⟨.inr rfl, ?_⟩
 refine EE.here ?_
 simp -dsimp
theorem dp (c : Cell) (r : Point) (hm : b7 c = some r) : PureCall Tryz.prog 40 [.u (.agg [.d (.int .i64 c.X), .d (.int .i64 c.Y), .d (.int .i64 c.S)])] (.u (.agg [.d (.int .i64 r.X), .d (.int .i64 r.Y)])) := (f_pattern_at c r hm).pureW
theorem f_pattern_placed (p : Point) (r : Bool) (hm : bJ p = some r) : PFn Tryz.prog 39 [.u (.agg [.d (.int .i64 p.X), .d (.int .i64 p.Y)])] (fun v => v.wk (.u (.one (.d (.bool r))))) := by
 refine bv Tryz.func39 Tryz.ntmps39 rfl (by kernel_rfl) (by simp) fun cx hn => ?_
 unfold bJ at hm
 refine srs hn (by kernel_rfl) ?_
 simp -dsimp []
 obtain ⟨a, j2, hm⟩ := bnd hm
 refine av [(2, .u (.one (.d (.bool a))))] [] (by rfl) (by rfl) ?_ fun ρ σ hf => ?_
 ·replace hm := j2
  clear j2
  refine sr1 hn (by kernel_rfl) ?_
  rcases am hm with ⟨c1, hm⟩ | ⟨c1, hm⟩
  ·simp -dsimp [c1]
   refine a7 ?_
   cases hm
   refine EE.here ?_
   simp -dsimp
  ·simp -dsimp [c1]
   refine a7 ?_
   cases hm
   refine EE.here ?_
   simp -dsimp
 ·clear j2
  simp only [Fits, az, aA, and_true] at hf
  refine ah ?_
  cases hm
  refine ⟨.inr rfl, ?_⟩
  refine EE.here ?_
  simp -dsimp [hf]
theorem fH (p : Point) (r : Bool) (hm : bJ p = some r) : PureCall Tryz.prog 39 [.u (.agg [.d (.int .i64 p.X), .d (.int .i64 p.Y)])] (.u (.one (.d (.bool r)))) := (f_pattern_placed p r hm).pureW
theorem f_pattern_order (a : Cell) (b : Cell) (r : Int) (hm : bQ a b = some r) : PFn Tryz.prog 63 [.u (.agg [.d (.int .i64 a.X), .d (.int .i64 a.Y), .d (.int .i64 a.S)]), .u (.agg [.d (.int .i64 b.X), .d (.int .i64 b.Y), .d (.int .i64 b.S)])] (fun v => v.wk (.u (.one (.d (.int .i64 r))))) := by
 refine bv Tryz.func63 Tryz.ntmps63 rfl (by kernel_rfl) (by simp) fun cx hn => ?_
 unfold bQ at hm
 refine srs hn (by kernel_rfl) ?_
 simp -dsimp []
 refine cZ bj mixed (by rw [hn]; kernel_rfl) ?_
 obtain ⟨y, h1, hm⟩ := bnd hm
 simp -dsimp []
 refine aK (dp a y h1) ?_
 obtain ⟨y1, h2, hm⟩ := bnd hm
 simp -dsimp
 refine aK (dp b y1 h2) ?_
 obtain ⟨y2, h3, hm⟩ := bnd hm
 simp -dsimp
 refine aK (c_point_Compare y y1 y2 h3) ?_
 simp -dsimp
 refine ah ?_
 cases hm
 refine ⟨.inr rfl, ?_⟩
 refine EE.here ?_
 simp -dsimp
theorem c_pattern_order (a : Cell) (b : Cell) (r : Int) (hm : bQ a b = some r) : PureCall Tryz.prog 63 [.u (.agg [.d (.int .i64 a.X), .d (.int .i64 a.Y), .d (.int .i64 a.S)]), .u (.agg [.d (.int .i64 b.X), .d (.int .i64 b.Y), .d (.int .i64 b.S)])] (.u (.one (.d (.int .i64 r)))) := (f_pattern_order a b r hm).pureW
def co (cx : Cx) (_p : List Cell) (tt : Bool ⊕ Unit) (ee : Exit) (ρ : Env) (σ : Sto) : Prop := match tt with
 | .inl r => ee = .ret ∧ EE cx (fun ρ σ => ∃ v, resV tb ρ σ Tryz.f37.results.toList = some v ∧ (v.frz σ).free = true ∧ (v.frz σ).wk (.u (.one (.d (.bool r))))) ρ σ
 | .inr _u => ee = .exit 0 ∧ EE cx (b6 [] []) ρ σ
theorem l_pattern_Right_1 (cx : Cx) (hn : cx.n = 44) (p : List Cell) {fu : Nat} {stt : Int} {tt : Bool ⊕ Unit} (hh : ar (cV p) fu stt = some tt) {ρ : Env} {σ : Sto}
  (hE : bn (fun a : Int => [(0, .u (.one (.d (.sl 3 (List.map Cell.row p))))), (8, .u (.one (.d (.sl 3 (List.map Cell.row p))))), (9, .u (.one (.d (.int .i64 (ak p))))), (10, .u (.one (.d (.int .i64 a))))]) (fun _a : Int => []) stt ρ σ) : Swp Tryz.prog cx (.loop (cj [1, 1, 0, 1, 0, 0] (aX Tryz.f37))) ρ σ (co cx p tt) := by
 refine bo hE hh (co cx p) (fun _ => by rfl) (fun _ => by rfl) ?_
 rintro a r hm ρ σ hf
 simp only [Fits, az, aA, and_true] at hf
 unfold cV at hm
 dsimp only at hm
 refine srs hn (by kernel_rfl) ?_
 simp -dsimp [hf]
 refine ai ?_
 rcases am hm with ⟨c2, hm⟩ | ⟨c2, hm⟩
 ·refine ab (b := (ltB a (ak p))) (by simp -dsimp) c2 ?_
  refine ae (a7 (ai (ap ?_)))
  refine srs hn (by kernel_rfl) ?_
  obtain ⟨x, h3, hm⟩ := bnd hm
  simp -dsimp [hf, c2, h3]
  obtain ⟨a1, j13, hm⟩ := bnd hm
  refine av [(0, .u (.one (.d (.sl 3 (List.map Cell.row p))))), (8, .u (.one (.d (.sl 3 (List.map Cell.row p))))), (9, .u (.one (.d (.int .i64 (ak p))))), (10, .u (.one (.d (.int .i64 a)))), (42, .u (.one (.d (.bool a1))))] [] (by rfl) (by rfl) ?_ fun ρ σ hf => ?_
  ·replace hm := j13
   clear j13
   refine sw_qt bj mixed (by rw [hn]; kernel_rfl) ?_
   obtain ⟨y, h4, hm⟩ := bnd hm
   simp -dsimp
   refine aK (dp x y h4) ?_
   obtain ⟨y1, h5, hm⟩ := bnd hm
   simp -dsimp
   refine aK (fH y y1 h5) ?_
   rcases am hm with ⟨c6, hm⟩ | ⟨c6, hm⟩
   ·simp -dsimp [c6]
    refine a7 ?_
    cases hm
    refine EE.here ?_
    simp -dsimp [hf]
   ·rcases am hm with ⟨c7, hm⟩ | ⟨c7, hm⟩
    ·simp -dsimp [c6, c7]
     refine a7 ?_
     cases hm
     refine EE.here ?_
     simp -dsimp [hf]
    ·rcases am hm with ⟨c8, hm⟩ | ⟨c8, hm⟩
     ·simp -dsimp [c6, c7, c8]
      refine a7 ?_
      cases hm
      refine EE.here ?_
      simp -dsimp [hf]
     ·rcases am hm with ⟨c9, hm⟩ | ⟨c9, hm⟩
      ·obtain ⟨x1, h10, hm⟩ := bnd hm
       obtain ⟨y2, h11, hm⟩ := bnd hm
       simp -dsimp [hf, c6, c7, c8, c9, h10]
       refine aK (c_pattern_order x1 x y2 h11) ?_
       simp -dsimp
       refine a7 ?_
       cases hm
       refine EE.here ?_
       simp -dsimp [hf]
      ·simp -dsimp [c6, c7, c8, c9]
       refine a7 ?_
       cases hm
       refine EE.here ?_
       simp -dsimp [hf]
  ·clear j13
   simp only [Fits, az, aA, and_true] at hf
   rcases am hm with ⟨c12, hm⟩ | ⟨c12, hm⟩
   ·refine ab (b := a1) (by simp -dsimp [hf]) c12 ?_
    refine srs hn (by kernel_rfl) ?_
    simp -dsimp
    refine ah (aN (aj ?_))
    cases hm
    refine au nofun ?_
    unfold co
    dsimp only
    refine ⟨rfl, ?_⟩
    refine EE.here ?_
    simp -dsimp [Tryz.results37]
   ·refine aa (b := a1) (by simp -dsimp [hf]) c12 ?_
    refine ae ?_
    refine aY ?_
    refine a7 ?_
    refine sr1 hn (by kernel_rfl) ?_
    simp -dsimp [hf]
    cases hm
    refine aJ ?_
    refine EE.here ?_
    simp -dsimp [hf]
 ·refine aa (b := (ltB a (ak p))) (by simp -dsimp) c2 ?_
  refine aD ?_
  refine aj ?_
  cases hm
  refine au nofun ?_
  unfold co
  dsimp only
  refine ⟨rfl, ?_⟩
  refine EE.here ?_
  simp -dsimp [c2]
theorem f_pattern_Right (p : List Cell) (r : Bool) (hm : ct p = some r) : PFn Tryz.prog 37 [.u (.one (.d (.sl 3 (List.map Cell.row p))))] (fun v => v.wk (.u (.one (.d (.bool r))))) := by
 refine bv Tryz.func37 Tryz.ntmps37 rfl (by kernel_rfl) (by simp) fun cx hn => ?_
 unfold ct at hm
 refine srs hn (by kernel_rfl) ?_
 simp -dsimp []
 refine ai ?_
 refine srs hn (by kernel_rfl) ?_
 simp -dsimp []
 rcases am hm with ⟨c1, hm⟩ | ⟨c1, hm⟩
 ·refine ab (b := (gtB (ak p) 5000)) (by simp -dsimp []) c1 ?_
  refine srs hn (by kernel_rfl) ?_
  simp -dsimp [c1]
  refine ah (aj ?_)
  cases hm
  refine ⟨.inr rfl, ?_⟩
  refine EE.here ?_
  simp -dsimp
 ·refine aa (b := (gtB (ak p) 5000)) (by simp -dsimp []) c1 ?_
  refine ae (a7 (ai ?_))
  refine srs hn (by kernel_rfl) ?_
  simp -dsimp [c1]
  refine ap ?_
  obtain ⟨o_, g14, hm⟩ := bnd hm
  refine aW [(0, .u (.one (.d (.sl 3 (List.map Cell.row p))))), (8, .u (.one (.d (.sl 3 (List.map Cell.row p))))), (9, .u (.one (.d (.int .i64 (ak p))))), (10, .u (.one (.d (.int .i64 0))))] [] (by rfl) (by rfl) (by
    refine EE.here ?_
    simp -dsimp
  ) fun ρ σ hf => ?_
  refine (l_pattern_Right_1 cx hn p g14 hf).mono fun ee ρ σ x15 => ?_
  rcases o_ with r | _u
  ·unfold co at x15
   dsimp only at x15
   obtain ⟨rfl, x15⟩ := x15
   refine aN (aj ?_)
   cases hm
   exact ⟨.inr rfl, x15⟩
  ·unfold co at x15
   dsimp only at x15
   obtain ⟨rfl, x15⟩ := x15
   refine aF ?_
   refine a7 ?_
   refine bl (by rfl) (by rfl) x15 fun ρ σ hf => ?_
   simp only [Fits, az, aA, and_true] at hf
   refine srs hn (by kernel_rfl) ?_
   simp -dsimp
   refine ah ?_
   cases hm
   refine ⟨.inr rfl, ?_⟩
   refine EE.here ?_
   simp -dsimp
theorem c_pattern_Right (p : List Cell) (r : Bool) (hm : ct p = some r) : PureCall Tryz.prog 37 [.u (.one (.d (.sl 3 (List.map Cell.row p))))] (.u (.one (.d (.bool r)))) := (f_pattern_Right p r hm).pureW
def eT (cx : Cx) (_p : List Cell) (tt : Int) (ee : Exit) (ρ : Env) (σ : Sto) : Prop := match tt with
 | n => ee = .exit 0 ∧ EE cx (b6 [(3, .u (.one (.d (.int .i64 n))))] []) ρ σ
theorem l_pattern_Top_1 (cx : Cx) (hn : cx.n = 19) (p : List Cell) {fu : Nat} {stt : Int × Int} {tt : Int} (hh : ar (cR p) fu stt = some tt) {ρ : Env} {σ : Sto}
  (hE : bn (fun stt : Int × Int => match stt with | (n, a) => [(0, .u (.one (.d (.sl 3 (List.map Cell.row p))))), (3, .u (.one (.d (.int .i64 n)))), (6, .u (.one (.d (.int .i64 (ak p))))), (7, .u (.one (.d (.int .i64 a))))]) (fun stt : Int × Int => match stt with | (_n, _a) => []) stt ρ σ) : Swp Tryz.prog cx (.loop (cj [1, 1, 0, 1, 0, 0] (aX Tryz.f58))) ρ σ (eT cx p tt) := by
 refine bo hE hh (eT cx p) (fun _ => by rfl) (fun _ => by rfl) ?_
 rintro ⟨n, a⟩ r hm ρ σ hf
 simp only [Fits, az, aA, and_true] at hf
 unfold cR at hm
 dsimp only at hm
 refine srs hn (by kernel_rfl) ?_
 simp -dsimp [hf]
 refine ai ?_
 rcases am hm with ⟨c1, hm⟩ | ⟨c1, hm⟩
 ·refine ab (b := (ltB a (ak p))) (by simp -dsimp) c1 ?_
  refine ae (a7 (ai (ap ?_)))
  refine srs hn (by kernel_rfl) ?_
  simp -dsimp [hf, c1]
  refine sr1 hn (by kernel_rfl) ?_
  obtain ⟨x, h2, hm⟩ := bnd hm
  simp -dsimp [hf, h2]
  refine aY ?_
  refine a7 ?_
  refine sr1 hn (by kernel_rfl) ?_
  simp -dsimp [hf]
  cases hm
  refine aJ ?_
  refine EE.here ?_
  simp -dsimp [hf]
 ·refine aa (b := (ltB a (ak p))) (by simp -dsimp) c1 ?_
  refine aD ?_
  refine aj ?_
  cases hm
  refine au nofun ?_
  unfold eT
  dsimp only
  refine ⟨rfl, ?_⟩
  refine EE.here ?_
  simp -dsimp [hf, c1]
theorem f_pattern_Top (p : List Cell) (r : Int) (hm : dN p = some r) : PFn Tryz.prog 58 [.u (.one (.d (.sl 3 (List.map Cell.row p))))] (fun v => v.wk (.u (.one (.d (.int .i64 r))))) := by
 refine bv Tryz.func58 Tryz.ntmps58 rfl (by kernel_rfl) (by simp) fun cx hn => ?_
 unfold dN at hm
 refine srs hn (by kernel_rfl) ?_
 simp -dsimp []
 refine srs hn (by kernel_rfl) ?_
 simp -dsimp []
 refine ai ?_
 refine srs hn (by kernel_rfl) ?_
 simp -dsimp []
 refine ap ?_
 obtain ⟨n, g3, hm⟩ := bnd hm
 refine aW [(0, .u (.one (.d (.sl 3 (List.map Cell.row p))))), (3, .u (.one (.d (.int .i64 0)))), (6, .u (.one (.d (.int .i64 (ak p))))), (7, .u (.one (.d (.int .i64 0))))] [] (by rfl) (by rfl) (by
   refine EE.here ?_
   simp -dsimp []
 ) fun ρ σ hf => ?_
 refine (l_pattern_Top_1 cx hn p g3 hf).mono fun ee ρ σ x4 => ?_
 unfold eT at x4
 dsimp only at x4
 obtain ⟨rfl, x4⟩ := x4
 refine aF ?_
 refine a7 ?_
 refine bl (by rfl) (by rfl) x4 fun ρ σ hf => ?_
 simp only [Fits, az, aA, and_true] at hf
 refine srs hn (by kernel_rfl) ?_
 simp -dsimp [hf]
 refine ah ?_
 cases hm
 refine ⟨.inr rfl, ?_⟩
 refine EE.here ?_
 simp -dsimp
theorem c_pattern_Top (p : List Cell) (r : Int) (hm : dN p = some r) : PureCall Tryz.prog 58 [.u (.one (.d (.sl 3 (List.map Cell.row p))))] (.u (.one (.d (.int .i64 r)))) := (f_pattern_Top p r hm).pureW
theorem f_direct_check (t : Tree) (p : List Cell) (r : Int) (hm : cK t p = some r) : PFn Tryz.prog 35 [.u (.agg [.d (.int .i64 t.States), .d (.sl 2 (List.map Point.row t.Hood)), .d (.sl 2 (List.map Node.row t.Nodes))]), .u (.one (.d (.sl 3 (List.map Cell.row p))))] (fun v => v.wk (.u (.one (.d (.int .i64 r))))) := by
 refine bv Tryz.func35 Tryz.ntmps35 rfl (by kernel_rfl) (by simp) fun cx hn => ?_
 unfold cK at hm
 refine srs hn (by kernel_rfl) ?_
 simp -dsimp []
 refine ai (ap ?_)
 refine srs hn (by kernel_rfl) ?_
 obtain ⟨y, h1, hm⟩ := bnd hm
 simp -dsimp []
 refine ag (c_tree_Quiet t y h1) (by rw [hn]; decide) ?_
 simp -dsimp
 rcases am hm with ⟨c2, hm⟩ | ⟨c2, hm⟩
 ·refine ab (b := (aR y)) (by simp -dsimp) c2 ?_
  refine srs hn (by kernel_rfl) ?_
  simp -dsimp [c2]
  refine ah (aN (aj ?_))
  cases hm
  refine ⟨.inr rfl, ?_⟩
  refine EE.here ?_
  simp -dsimp
 ·refine aa (b := (aR y)) (by simp -dsimp) c2 ?_
  refine srs hn (by kernel_rfl) ?_
  obtain ⟨y1, h3, hm⟩ := bnd hm
  simp -dsimp [c2]
  refine ag (c_pattern_Right p y1 h3) (by rw [hn]; decide) ?_
  simp -dsimp
  rcases am hm with ⟨c4, hm⟩ | ⟨c4, hm⟩
  ·refine ab (b := (aR y1)) (by simp -dsimp) c4 ?_
   refine srs hn (by kernel_rfl) ?_
   simp -dsimp [c4]
   refine ah (aN (aj ?_))
   cases hm
   refine ⟨.inr rfl, ?_⟩
   refine EE.here ?_
   simp -dsimp
  ·refine aa (b := (aR y1)) (by simp -dsimp) c4 ?_
   refine cZ bj mixed (by rw [hn]; kernel_rfl) ?_
   obtain ⟨y2, h5, hm⟩ := bnd hm
   simp -dsimp [c4]
   refine aK (c_pattern_Top p y2 h5) ?_
   simp -dsimp
   rcases am hm with ⟨c6, hm⟩ | ⟨c6, hm⟩
   ·refine ab (b := (geB y2 t.States)) (by simp -dsimp) c6 ?_
    refine srs hn (by kernel_rfl) ?_
    simp -dsimp [c6]
    refine ah (aN (aj ?_))
    cases hm
    refine ⟨.inr rfl, ?_⟩
    refine EE.here ?_
    simp -dsimp
   ·refine aa (b := (geB y2 t.States)) (by simp -dsimp) c6 ?_
    refine ae ?_
    refine aY ?_
    refine a7 ?_
    refine srs hn (by kernel_rfl) ?_
    simp -dsimp [c6]
    refine ah ?_
    cases hm
    refine ⟨.inr rfl, ?_⟩
    refine EE.here ?_
    simp -dsimp
theorem c_direct_check (t : Tree) (p : List Cell) (r : Int) (hm : cK t p = some r) : PureCall Tryz.prog 35 [.u (.agg [.d (.int .i64 t.States), .d (.sl 2 (List.map Point.row t.Hood)), .d (.sl 2 (List.map Node.row t.Nodes))]), .u (.one (.d (.sl 3 (List.map Cell.row p))))] (.u (.one (.d (.int .i64 r)))) := (f_direct_check t p r hm).pureW
end Go.Proofs.YtdjclgfbggfpaaaGreatDoor
