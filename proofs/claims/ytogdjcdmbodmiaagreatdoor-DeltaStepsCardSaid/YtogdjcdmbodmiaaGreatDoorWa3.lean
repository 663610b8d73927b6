/- That the code does what the functions say (made by cc.py). -/
import Derived.Test.YtogdjcdmbodmiaaGreatDoorWa2
namespace Go.Proofs.YtogdjcdmbodmiaaGreatDoor
open Go.AM Go.Proofs
attribute [-simp] qlookup cJ cG Ob.wipe Ob.ren Ob.frz1 bX dz dJ fw Prod.forall Key.u
theorem f_cmp_Compare_int (x : Int) (y : Int) (r : Int) (hm : bU x y = some r) : PFn Tryz.prog 158 [.u (.one (.d (.int .i64 x))), .u (.one (.d (.int .i64 y)))] (fun v => v.wk (.u (.one (.d (.int .i64 r))))) := by
 refine bv Tryz.func158 Tryz.ntmps158 rfl (by kernel_rfl) (by simp) fun cx hn => ?_
 unfold bU at hm
 refine srs hn ?_
 simp -dsimp
 refine srs hn ?_
 obtain ⟨y1, h1, hm⟩ := bnd hm
 simp -dsimp
 refine aa (c_cmp_isNaN_int x y1 h1) (dkL hn) ?_
 simp -dsimp
 refine srs hn ?_
 obtain ⟨y2, h2, hm⟩ := bnd hm
 simp -dsimp
 refine aa (c_cmp_isNaN_int y y2 h2) (dkL hn) ?_
 simp -dsimp
 refine ae ?_
 refine srs hn ?_
 simp -dsimp
 rcases ai hm with ⟨c3, hm⟩ | ⟨c3, hm⟩
 ·refine a8 (by simp -dsimp) c3 ?_
  refine ae ?_
  refine srs hn ?_
  simp -dsimp [c3]
  rcases ai hm with ⟨c4, hm⟩ | ⟨c4, hm⟩
  ·refine a8 (by simp -dsimp) c4 ?_
   refine srs hn ?_
   simp -dsimp [c4]
   refine ac (ag (ag ?_))
   cases hm
   refine ⟨.inr rfl, ?_⟩
   exact EE.here (by simp -dsimp)
  ·refine a7 (by simp -dsimp) c4 ?_
   refine ab (a6 ?_)
   refine srs hn ?_
   simp -dsimp [c4]
   refine ac (ag ?_)
   cases hm
   refine ⟨.inr rfl, ?_⟩
   exact EE.here (by simp -dsimp)
 ·refine a7 (by simp -dsimp) c3 ?_
  refine ab (a6 (ae ?_))
  refine srs hn ?_
  simp -dsimp [c3]
  rcases ai hm with ⟨c5, hm⟩ | ⟨c5, hm⟩
  ·refine a8 (by simp -dsimp) c5 ?_
   refine srs hn ?_
   simp -dsimp [c5]
   refine ac (ag ?_)
   cases hm
   refine ⟨.inr rfl, ?_⟩
   exact EE.here (by simp -dsimp)
  ·refine a7 (by simp -dsimp) c5 ?_
   refine ab (a6 (ae ?_))
   refine srs hn ?_
   simp -dsimp [c5]
   rcases ai hm with ⟨c6, hm⟩ | ⟨c6, hm⟩
   ·refine a8 (by simp -dsimp) c6 ?_
    refine srs hn ?_
    simp -dsimp [c6]
    refine ac (ag ?_)
    cases hm
    refine ⟨.inr rfl, ?_⟩
    exact EE.here (by simp -dsimp)
   ·refine a7 (by simp -dsimp) c6 ?_
    refine ab (a6 (ae ?_))
    refine srs hn ?_
    simp -dsimp [c6]
    rcases ai hm with ⟨c7, hm⟩ | ⟨c7, hm⟩
    ·refine a8 (by simp -dsimp) c7 ?_
     refine srs hn ?_
     simp -dsimp [c7]
     refine ac (ag ?_)
     cases hm
     refine ⟨.inr rfl, ?_⟩
     exact EE.here (by simp -dsimp)
    ·refine a7 (by simp -dsimp) c7 ?_
     refine ab (a6 ?_)
     refine srs hn ?_
     simp -dsimp [c7]
     refine ac ?_
     cases hm
     refine ⟨.inr rfl, ?_⟩
     exact EE.here (by simp -dsimp)
theorem gI (x : Int) (y : Int) (r : Int) (hm : bU x y = some r) : PureCall Tryz.prog 158 [.u (.one (.d (.int .i64 x))), .u (.one (.d (.int .i64 y)))] (.u (.one (.d (.int .i64 r)))) := (f_cmp_Compare_int x y r hm).pureW
def dv (cx : Cx) (_vals : List Int) (tt : Int ⊕ Unit) (ee : Exit) (ρ : Env) (σ : Sto) : Prop := match tt with
 | .inl r => ee = .ret ∧ EE cx (fun ρ σ => ∃ v, eH tb ρ σ Tryz.f157.results.toList = some v ∧ (v.frz σ).free = true ∧ (v.frz σ).wk (.u (.one (.d (.int .i64 r))))) ρ σ
 | .inr _u => ee = .exit 0 ∧ EE cx (b4 [(3, .u (.one (.d (.int .i64 0))))] []) ρ σ
theorem l_cmp_Or_int_1 (cx : Cx) (hn : cx.n = 18) (vals : List Int) {fu : Nat} {stt : Int} {tt : Int ⊕ Unit} (hh : am (dA vals) fu stt = some tt) {ρ : Env} {σ : Sto}
  (hE : bT (fun a : Int => [(3, .u (.one (.d (.int .i64 0)))), (6, .u (.one (.d (.sl 1 (List.map (rI .i64) vals))))), (7, .u (.one (.d (.int .i64 (ak vals))))), (8, .u (.one (.d (.int .i64 a))))]) (fun _a : Int => []) stt ρ σ) : Swp Tryz.prog cx (.loop (d4 [1, 1, 0, 1, 0, 0] (aZ Tryz.f157))) ρ σ (dv cx vals tt) := by
 refine cd hE hh (dv cx vals) ?_
 rintro a r hm ρ σ hf
 simp only [Fits, ap, ar, and_true] at hf
 unfold dA at hm
 dsimp only at hm
 refine srs hn ?_
 simp -dsimp [hf]
 refine ae ?_
 rcases ai hm with ⟨c1, hm⟩ | ⟨c1, hm⟩
 ·refine a8 (by simp -dsimp) c1 ?_
  refine ab (a6 (ae (ah ?_)))
  refine srs hn ?_
  obtain ⟨x, h2, hm⟩ := bnd hm
  simp -dsimp [hf, c1, h2]
  refine srs hn ?_
  simp -dsimp [hf]
  rcases ai hm with ⟨c3, hm⟩ | ⟨c3, hm⟩
  ·refine a8 (by simp -dsimp) c3 ?_
   refine srs hn ?_
   simp -dsimp [c3]
   refine ac (aK (ag ?_))
   cases hm
   refine aB nofun ?_
   unfold dv
   dsimp only
   refine ⟨rfl, ?_⟩
   exact EE.here (by simp -dsimp [Tryz.results157])
  ·refine a7 (by simp -dsimp) c3 ?_
   refine ab ?_
   refine aV ?_
   refine a6 ?_
   refine sr1 hn ?_
   simp -dsimp [hf, c3]
   cases hm
   refine aI ?_
   exact EE.here (by simp -dsimp [hf])
 ·refine a7 (by simp -dsimp) c1 ?_
  refine aC ?_
  refine ag ?_
  cases hm
  refine aB nofun ?_
  unfold dv
  dsimp only
  refine ⟨rfl, ?_⟩
  exact EE.here (by simp -dsimp [hf, c1])
theorem f_cmp_Or_int (vals : List Int) (r : Int) (hm : eq vals = some r) : PFn Tryz.prog 157 [.u (.one (.d (.sl 1 (List.map (rI .i64) vals))))] (fun v => v.wk (.u (.one (.d (.int .i64 r))))) := by
 refine bv Tryz.func157 Tryz.ntmps157 rfl (by kernel_rfl) (by simp) fun cx hn => ?_
 unfold eq at hm
 refine srs hn ?_
 simp -dsimp
 refine srs hn ?_
 simp -dsimp
 refine ae ?_
 refine srs hn ?_
 simp -dsimp
 refine ah ?_
 obtain ⟨o_, g4, hm⟩ := bnd hm
 refine bf (l_cmp_Or_int_1 cx hn vals g4) (by
   try dsimp only
   exact EE.here (by simp -dsimp)
 ) fun ee ρ σ x5 => ?_
 rcases o_ with r | _u
 ·unfold dv at x5
  dsimp only at x5
  obtain ⟨rfl, x5⟩ := x5
  refine aK (ag ?_)
  cases hm
  exact ⟨.inr rfl, x5⟩
 ·unfold dv at x5
  dsimp only at x5
  obtain ⟨rfl, x5⟩ := x5
  refine aD ?_
  refine a6 ?_
  refine bN (by rfl) (by rfl) x5 fun ρ σ hf => ?_
  simp only [Fits, ap, ar, and_true] at hf
  refine srs hn ?_
  simp -dsimp [hf]
  refine ac ?_
  cases hm
  refine ⟨.inr rfl, ?_⟩
  exact EE.here (by simp -dsimp)
theorem c_cmp_Or_int (vals : List Int) (r : Int) (hm : eq vals = some r) : PureCall Tryz.prog 157 [.u (.one (.d (.sl 1 (List.map (rI .i64) vals))))] (.u (.one (.d (.int .i64 r)))) := (f_cmp_Or_int vals r hm).pureW
theorem f_point_Compare (a : Point) (b : Point) (r : Int) (hm : bq a b = some r) : PFn Tryz.prog 97 [.u (.agg [.d (.int .i64 a.X), .d (.int .i64 a.Y)]), .u (.agg [.d (.int .i64 b.X), .d (.int .i64 b.Y)])] (fun v => v.wk (.u (.one (.d (.int .i64 r))))) := by
 refine bv Tryz.func97 Tryz.ntmps97 rfl (by kernel_rfl) (by simp) fun cx hn => ?_
 unfold bq at hm
 refine srs hn ?_
 simp -dsimp
 refine ek aW mixed (by rw [hn]; kernel_rfl) ?_
 obtain ⟨y, h1, hm⟩ := bnd hm
 simp -dsimp
 refine aw (gI a.Y b.Y y h1) ?_
 obtain ⟨y1, h2, hm⟩ := bnd hm
 simp -dsimp
 refine aw (gI a.X b.X y1 h2) ?_
 obtain ⟨y2, h3, hm⟩ := bnd hm
 simp -dsimp
 refine aw (c_cmp_Or_int [y, y1] y2 h3) ?_
 simp -dsimp
 refine ac ?_
 cases hm
 refine ⟨.inr rfl, ?_⟩
 exact EE.here (by simp -dsimp)
theorem fW (a : Point) (b : Point) (r : Int) (hm : bq a b = some r) : PureCall Tryz.prog 97 [.u (.agg [.d (.int .i64 a.X), .d (.int .i64 a.Y)]), .u (.agg [.d (.int .i64 b.X), .d (.int .i64 b.Y)])] (.u (.one (.d (.int .i64 r)))) := (f_point_Compare a b r hm).pureW
def dC (cx : Cx) (_l : List Point) (tt : Bool ⊕ Unit) (ee : Exit) (ρ : Env) (σ : Sto) : Prop := match tt with
 | .inl r => ee = .ret ∧ EE cx (fun ρ σ => ∃ v, eH tb ρ σ Tryz.f101.results.toList = some v ∧ (v.frz σ).free = true ∧ (v.frz σ).wk (.u (.one (.d (.bool r))))) ρ σ
 | .inr _u => ee = .exit 0 ∧ EE cx (b4 [] []) ρ σ
theorem l_hood_Right_1 (cx : Cx) (hn : cx.n = 53) (l : List Point) {fu : Nat} {stt : Int} {tt : Bool ⊕ Unit} (hh : am (ec l) fu stt = some tt) {ρ : Env} {σ : Sto}
  (hE : bT (fun a1 : Int => [(0, .u (.one (.d (.sl 2 (List.map Point.row l))))), (13, .u (.one (.d (.sl 2 (List.map Point.row l))))), (14, .u (.one (.d (.int .i64 (ak l))))), (15, .u (.one (.d (.int .i64 a1))))]) (fun _a1 : Int => []) stt ρ σ) : Swp Tryz.prog cx (.loop (d4 [1, 1, 0, 1, 0, 0] (aZ Tryz.f101))) ρ σ (dC cx l tt) := by
 refine cd hE hh (dC cx l) ?_
 rintro a1 r hm ρ σ hf
 simp only [Fits, ap, ar, and_true] at hf
 unfold ec at hm
 dsimp only at hm
 refine srs hn ?_
 simp -dsimp [hf]
 refine ae ?_
 rcases ai hm with ⟨c3, hm⟩ | ⟨c3, hm⟩
 ·refine a8 (by simp -dsimp) c3 ?_
  refine ab (a6 (ae (ah ?_)))
  refine srs hn ?_
  obtain ⟨x, h4, hm⟩ := bnd hm
  simp -dsimp [hf, c3, h4]
  obtain ⟨a2, j13, hm⟩ := bnd hm
  refine au [(0, .u (.one (.d (.sl 2 (List.map Point.row l))))), (13, .u (.one (.d (.sl 2 (List.map Point.row l))))), (14, .u (.one (.d (.int .i64 (ak l))))), (15, .u (.one (.d (.int .i64 a1)))), (51, .u (.one (.d (.bool a2))))] [] (by rfl) (by rfl) ?_ fun ρ σ hf => ?_
  ·replace hm := j13
   clear j13
   refine sw_qt aW mixed (by rw [hn]; kernel_rfl) ?_
   rcases ai hm with ⟨c5, hm⟩ | ⟨c5, hm⟩
   ·simp -dsimp [c5]
    refine a6 ?_
    cases hm
    exact EE.here (by simp -dsimp [hf])
   ·rcases ai hm with ⟨c6, hm⟩ | ⟨c6, hm⟩
    ·simp -dsimp [c5, c6]
     refine a6 ?_
     cases hm
     exact EE.here (by simp -dsimp [hf])
    ·rcases ai hm with ⟨c7, hm⟩ | ⟨c7, hm⟩
     ·simp -dsimp [c5, c6, c7]
      refine a6 ?_
      cases hm
      exact EE.here (by simp -dsimp [hf])
     ·rcases ai hm with ⟨c8, hm⟩ | ⟨c8, hm⟩
      ·simp -dsimp [c5, c6, c7, c8]
       refine a6 ?_
       cases hm
       exact EE.here (by simp -dsimp [hf])
      ·rcases ai hm with ⟨c9, hm⟩ | ⟨c9, hm⟩
       ·obtain ⟨x1, h10, hm⟩ := bnd hm
        obtain ⟨y, h11, hm⟩ := bnd hm
        simp -dsimp [hf, c5, c6, c7, c8, c9, h10]
        refine aw (fW x1 x y h11) ?_
        simp -dsimp
        refine a6 ?_
        cases hm
        exact EE.here (by simp -dsimp [hf])
       ·simp -dsimp [c5, c6, c7, c8, c9]
        refine a6 ?_
        cases hm
        exact EE.here (by simp -dsimp [hf])
  ·clear j13
   simp only [Fits, ap, ar, and_true] at hf
   rcases ai hm with ⟨c12, hm⟩ | ⟨c12, hm⟩
   ·refine a8 (by simp -dsimp [hf]) c12 ?_
    refine srs hn ?_
    simp -dsimp
    refine ac (aK (ag ?_))
    cases hm
    refine aB nofun ?_
    unfold dC
    dsimp only
    refine ⟨rfl, ?_⟩
    exact EE.here (by simp -dsimp [Tryz.results101])
   ·refine a7 (by simp -dsimp [hf]) c12 ?_
    refine ab ?_
    refine aV ?_
    refine a6 ?_
    refine sr1 hn ?_
    simp -dsimp [hf]
    cases hm
    refine aI ?_
    exact EE.here (by simp -dsimp [hf])
 ·refine a7 (by simp -dsimp) c3 ?_
  refine aC ?_
  refine ag ?_
  cases hm
  refine aB nofun ?_
  unfold dC
  dsimp only
  refine ⟨rfl, ?_⟩
  exact EE.here (by simp -dsimp [c3])
set_option maxRecDepth 20000 in
theorem f_hood_Right (l : List Point) (r : Bool) (hm : dK l = some r) : PFn Tryz.prog 101 [.u (.one (.d (.sl 2 (List.map Point.row l))))] (fun v => v.wk (.u (.one (.d (.bool r))))) := by
 refine bv Tryz.func101 Tryz.ntmps101 rfl (by kernel_rfl) (by simp) fun cx hn => ?_
 unfold dK at hm
 refine srs hn ?_
 simp -dsimp
 refine ae ?_
 obtain ⟨a, j16, hm⟩ := bnd hm
 refine au [(0, .u (.one (.d (.sl 2 (List.map Point.row l))))), (12, .u (.one (.d (.bool a))))] [] (by rfl) (by rfl) ?_ fun ρ σ hf => ?_
 ·replace hm := j16
  clear j16
  refine sr1 hn ?_
  rcases ai hm with ⟨c1, hm⟩ | ⟨c1, hm⟩
  ·simp -dsimp [c1]
   refine a6 ?_
   cases hm
   exact EE.here (by simp -dsimp)
  ·simp -dsimp [c1]
   refine a6 ?_
   cases hm
   exact EE.here (by simp -dsimp)
 ·clear j16
  simp only [Fits, ap, ar, and_true] at hf
  rcases ai hm with ⟨c2, hm⟩ | ⟨c2, hm⟩
  ·refine a8 (by simp -dsimp [hf]) c2 ?_
   refine srs hn ?_
   simp -dsimp
   refine ac (ag ?_)
   cases hm
   refine ⟨.inr rfl, ?_⟩
   exact EE.here (by simp -dsimp)
  ·refine a7 (by simp -dsimp [hf]) c2 ?_
   refine ab (a6 (ae ?_))
   refine srs hn ?_
   simp -dsimp [hf]
   refine ah ?_
   obtain ⟨o_, g14, hm⟩ := bnd hm
   refine bf (l_hood_Right_1 cx hn l g14) (by
     try dsimp only
     exact EE.here (by simp -dsimp [hf])
   ) fun ee ρ σ x15 => ?_
   rcases o_ with r | _u
   ·unfold dC at x15
    dsimp only at x15
    obtain ⟨rfl, x15⟩ := x15
    refine aK (ag ?_)
    cases hm
    exact ⟨.inr rfl, x15⟩
   ·unfold dC at x15
    dsimp only at x15
    obtain ⟨rfl, x15⟩ := x15
    refine aD ?_
    refine a6 ?_
    refine bN (by rfl) (by rfl) x15 fun ρ σ hf => ?_
    simp only [Fits, ap, ar, and_true] at hf
    refine srs hn ?_
    simp -dsimp
    refine ac ?_
    cases hm
    refine ⟨.inr rfl, ?_⟩
    exact EE.here (by simp -dsimp)
theorem c_hood_Right (l : List Point) (r : Bool) (hm : dK l = some r) : PureCall Tryz.prog 101 [.u (.one (.d (.sl 2 (List.map Point.row l))))] (.u (.one (.d (.bool r)))) := (f_hood_Right l r hm).pureW
def aG (cx : Cx) (_s : List Point) (_v : Point) (tt : Int ⊕ Unit) (ee : Exit) (ρ : Env) (σ : Sto) : Prop := match tt with
 | .inl r => ee = .ret ∧ EE cx (fun ρ σ => ∃ v, eH tb ρ σ Tryz.f126.results.toList = some v ∧ (v.frz σ).free = true ∧ (v.frz σ).wk (.u (.one (.d (.int .i64 r))))) ρ σ
 | .inr _u => ee = .exit 0 ∧ EE cx (b4 [] []) ρ σ
theorem eJ (cx : Cx) (hn : cx.n = 19) (s : List Point) (v : Point) {fu : Nat} {stt : Int} {tt : Int ⊕ Unit} (hh : am (bE s v) fu stt = some tt) {ρ : Env} {σ : Sto}
  (hE : bT (fun a : Int => [(0, .u (.one (.d (.sl 2 (List.map Point.row s))))), (3, .u (.one (.box 3 0))), (7, .u (.one (.d (.int .i64 (ak s))))), (8, .u (.one (.d (.int .i64 a))))]) (fun _a : Int => [(3, .box [.d (.int .i64 v.X), .d (.int .i64 v.Y)])]) stt ρ σ) : Swp Tryz.prog cx (.loop (d4 [1, 0, 1, 0, 0] (aZ Tryz.f126))) ρ σ (aG cx s v tt) := by
 refine cd hE hh (aG cx s v) ?_
 rintro a r hm ρ σ hf
 simp only [Fits, ap, ar, and_true] at hf
 unfold bE at hm
 dsimp only at hm
 refine srs hn ?_
 simp -dsimp [hf]
 refine ae ?_
 rcases ai hm with ⟨c1, hm⟩ | ⟨c1, hm⟩
 ·refine a8 (by simp -dsimp) c1 ?_
  refine ab (a6 (ae (ah ?_)))
  refine srs hn ?_
  simp -dsimp [hf, c1]
  refine ek aW mixed (by rw [hn]; kernel_rfl) ?_
  obtain ⟨x, h2, hm⟩ := bnd hm
  simp -dsimp [hf, h2]
  rcases ai hm with ⟨c3, hm⟩ | ⟨c3, hm⟩
  ·refine a8 (by simp -dsimp) c3 ?_
   refine srs hn ?_
   simp -dsimp [c3]
   refine ac (aK (ag ?_))
   cases hm
   refine aB nofun ?_
   unfold aG
   dsimp only
   refine ⟨rfl, ?_⟩
   exact EE.here (by simp -dsimp [Tryz.results126])
  ·refine a7 (by simp -dsimp) c3 ?_
   refine ab ?_
   refine aV ?_
   refine a6 ?_
   refine sr1 hn ?_
   simp -dsimp [hf, c3]
   cases hm
   refine aI ?_
   exact EE.here (by simp -dsimp [hf])
 ·refine a7 (by simp -dsimp) c1 ?_
  refine aC ?_
  refine ag ?_
  cases hm
  refine aB nofun ?_
  unfold aG
  dsimp only
  refine ⟨rfl, ?_⟩
  exact EE.here (by simp -dsimp [c1])
theorem eZ (s : List Point) (v : Point) (r : Int) (hm : b7 s v = some r) : PFn Tryz.prog 126 [.u (.one (.d (.sl 2 (List.map Point.row s)))), .u (.agg [.d (.int .i64 v.X), .d (.int .i64 v.Y)])] (fun v => v.wk (.u (.one (.d (.int .i64 r))))) := by
 refine bv Tryz.func126 Tryz.ntmps126 rfl (by kernel_rfl) (by simp) fun cx hn => ?_
 unfold b7 at hm
 refine srs hn ?_
 simp -dsimp
 refine ae ?_
 refine srs hn ?_
 simp -dsimp
 refine ah ?_
 obtain ⟨o_, g4, hm⟩ := bnd hm
 refine bf (eJ cx hn s v g4) (by
   try dsimp only
   exact EE.here (by simp -dsimp)
 ) fun ee ρ σ x5 => ?_
 rcases o_ with r | _u
 ·unfold aG at x5
  dsimp only at x5
  obtain ⟨rfl, x5⟩ := x5
  refine aK (ag ?_)
  cases hm
  exact ⟨.inr rfl, x5⟩
 ·unfold aG at x5
  dsimp only at x5
  obtain ⟨rfl, x5⟩ := x5
  refine aD ?_
  refine a6 ?_
  refine bN (by rfl) (by rfl) x5 fun ρ σ hf => ?_
  simp only [Fits, ap, ar, and_true] at hf
  refine srs hn ?_
  simp -dsimp
  refine ac ?_
  cases hm
  refine ⟨.inr rfl, ?_⟩
  exact EE.here (by simp -dsimp)
theorem eW (s : List Point) (v : Point) (r : Int) (hm : b7 s v = some r) : PureCall Tryz.prog 126 [.u (.one (.d (.sl 2 (List.map Point.row s)))), .u (.agg [.d (.int .i64 v.X), .d (.int .i64 v.Y)])] (.u (.one (.d (.int .i64 r)))) := (eZ s v r hm).pureW
theorem f_hood_Centre (l : List Point) (r : Int) (hm : fO l = some r) : PFn Tryz.prog 63 [.u (.one (.d (.sl 2 (List.map Point.row l))))] (fun v => v.wk (.u (.one (.d (.int .i64 r))))) := by
 refine bv Tryz.func63 Tryz.ntmps63 rfl (by kernel_rfl) (by simp) fun cx hn => ?_
 unfold fO at hm
 refine srs hn ?_
 simp -dsimp
 refine ae ?_
 refine srs hn ?_
 obtain ⟨y, h1, hm⟩ := bnd hm
 simp -dsimp
 refine aa (c_hood_Right l y h1) (dkL hn) ?_
 simp -dsimp
 rcases ai hm with ⟨c2, hm⟩ | ⟨c2, hm⟩
 ·refine a8 (by simp -dsimp) c2 ?_
  refine srs hn ?_
  simp -dsimp [c2]
  refine ac (ag ?_)
  cases hm
  refine ⟨.inr rfl, ?_⟩
  exact EE.here (by simp -dsimp)
 ·refine a7 (by simp -dsimp) c2 ?_
  refine ab (a6 ?_)
  refine srs hn ?_
  obtain ⟨y1, h3, hm⟩ := bnd hm
  simp -dsimp [c2]
  refine aa (eW l (⟨0, 0⟩ : Point) y1 h3) (dkL hn) ?_
  simp -dsimp
  refine ac ?_
  cases hm
  refine ⟨.inr rfl, ?_⟩
  exact EE.here (by simp -dsimp)
theorem c_hood_Centre (l : List Point) (r : Int) (hm : fO l = some r) : PureCall Tryz.prog 63 [.u (.one (.d (.sl 2 (List.map Point.row l))))] (.u (.one (.d (.int .i64 r)))) := (f_hood_Centre l r hm).pureW
theorem eU (l : List Point) (r : List Point) (hm : bO l = some r) : PFn Tryz.prog 68 [.u (.one (.d (.sl 2 (List.map Point.row l))))] (fun v => v.wk (.u (.one (.d (.sl 2 (List.map Point.row r)))))) := by
 refine pfn_E aW _ Tryz.func68 rfl (by kernel_rfl) (by simp [Tryz.ntmps68]) fun cx hn => ?_
 replace hn : cx.n = 8 := hn.trans Tryz.ntmps68
 have ha := (aQ hm).1
 have hr : r = l := (aQ hm).2
 clear hm
 subst hr
 simp only [List.length_nil, Nat.zero_add] at ha
 refine srs hn ?_
 simp -dsimp
 refine ae ?_
 refine srs hn ?_
 cases r with
 | nil =>
  simp -dsimp
  refine ⟨?_, ?_⟩
  ·refine a8 (b := true) (by simp -dsimp) rfl ?_
   refine srs hn ?_
   simp -dsimp
   refine ac (ag ?_)
   refine ⟨.inr rfl, EE.here ?_⟩; simp -dsimp
  ·refine a7 (b := false) (by simp -dsimp) rfl ?_
   refine ab (a6 ?_)
   refine srs hn ?_
   simp -dsimp
   refine ac ?_
   refine ⟨.inr rfl, EE.here ?_⟩; simp -dsimp
 | cons x xs =>
  simp -dsimp
  refine a7 (b := false) (by simp -dsimp) rfl ?_
  refine ab (a6 ?_)
  refine srs hn ?_
  simp only [List.length_cons] at ha
  simp -dsimp [ha]
  refine ac ?_
  refine ⟨.inr rfl, EE.here ?_⟩; simp -dsimp
theorem eT (l : List Point) (r : List Point) (hm : bO l = some r) : PureCall Tryz.prog 68 [.u (.one (.d (.sl 2 (List.map Point.row l))))] (.u (.one (.d (.sl 2 (List.map Point.row r))))) := (eU l r hm).pureW
def bc (cx : Cx) (_s : List Int) (_v : Int) (tt : Int ⊕ Unit) (ee : Exit) (ρ : Env) (σ : Sto) : Prop := match tt with
 | .inl r => ee = .ret ∧ EE cx (fun ρ σ => ∃ v, eH tb ρ σ Tryz.f127.results.toList = some v ∧ (v.frz σ).free = true ∧ (v.frz σ).wk (.u (.one (.d (.int .i64 r))))) ρ σ
 | .inr _u => ee = .exit 0 ∧ EE cx (b4 [] []) ρ σ
theorem gO (cx : Cx) (hn : cx.n = 19) (s : List Int) (v : Int) {fu : Nat} {stt : Int} {tt : Int ⊕ Unit} (hh : am (dn s v) fu stt = some tt) {ρ : Env} {σ : Sto}
  (hE : bT (fun a : Int => [(0, .u (.one (.d (.sl 1 (List.map (rI .i64) s))))), (1, .u (.one (.d (.int .i64 v)))), (7, .u (.one (.d (.int .i64 (ak s))))), (8, .u (.one (.d (.int .i64 a))))]) (fun _a : Int => []) stt ρ σ) : Swp Tryz.prog cx (.loop (d4 [1, 0, 1, 0, 0] (aZ Tryz.f127))) ρ σ (bc cx s v tt) := by
 refine cd hE hh (bc cx s v) ?_
 rintro a r hm ρ σ hf
 simp only [Fits, ap, ar, and_true] at hf
 unfold dn at hm
 dsimp only at hm
 refine srs hn ?_
 simp -dsimp [hf]
 refine ae ?_
 rcases ai hm with ⟨c1, hm⟩ | ⟨c1, hm⟩
 ·refine a8 (by simp -dsimp) c1 ?_
  refine ab (a6 (ae (ah ?_)))
  refine srs hn ?_
  simp -dsimp [hf, c1]
  refine srs hn ?_
  obtain ⟨x, h2, hm⟩ := bnd hm
  simp -dsimp [hf, h2]
  rcases ai hm with ⟨c3, hm⟩ | ⟨c3, hm⟩
  ·refine a8 (by simp -dsimp) c3 ?_
   refine srs hn ?_
   simp -dsimp [c3]
   refine ac (aK (ag ?_))
   cases hm
   refine aB nofun ?_
   unfold bc
   dsimp only
   refine ⟨rfl, ?_⟩
   exact EE.here (by simp -dsimp [Tryz.results127])
  ·refine a7 (by simp -dsimp) c3 ?_
   refine ab ?_
   refine aV ?_
   refine a6 ?_
   refine sr1 hn ?_
   simp -dsimp [hf, c3]
   cases hm
   refine aI ?_
   exact EE.here (by simp -dsimp [hf])
 ·refine a7 (by simp -dsimp) c1 ?_
  refine aC ?_
  refine ag ?_
  cases hm
  refine aB nofun ?_
  unfold bc
  dsimp only
  refine ⟨rfl, ?_⟩
  exact EE.here (by simp -dsimp [c1])
theorem i5 (s : List Int) (v : Int) (r : Int) (hm : cL s v = some r) : PFn Tryz.prog 127 [.u (.one (.d (.sl 1 (List.map (rI .i64) s)))), .u (.one (.d (.int .i64 v)))] (fun v => v.wk (.u (.one (.d (.int .i64 r))))) := by
 refine bv Tryz.func127 Tryz.ntmps127 rfl (by kernel_rfl) (by simp) fun cx hn => ?_
 unfold cL at hm
 refine srs hn ?_
 simp -dsimp
 refine ae ?_
 refine srs hn ?_
 simp -dsimp
 refine ah ?_
 obtain ⟨o_, g4, hm⟩ := bnd hm
 refine bf (gO cx hn s v g4) (by
   try dsimp only
   exact EE.here (by simp -dsimp)
 ) fun ee ρ σ x5 => ?_
 rcases o_ with r | _u
 ·unfold bc at x5
  dsimp only at x5
  obtain ⟨rfl, x5⟩ := x5
  refine aK (ag ?_)
  cases hm
  exact ⟨.inr rfl, x5⟩
 ·unfold bc at x5
  dsimp only at x5
  obtain ⟨rfl, x5⟩ := x5
  refine aD ?_
  refine a6 ?_
  refine bN (by rfl) (by rfl) x5 fun ρ σ hf => ?_
  simp only [Fits, ap, ar, and_true] at hf
  refine srs hn ?_
  simp -dsimp
  refine ac ?_
  cases hm
  refine ⟨.inr rfl, ?_⟩
  exact EE.here (by simp -dsimp)
theorem ic (s : List Int) (v : Int) (r : Int) (hm : cL s v = some r) : PureCall Tryz.prog 127 [.u (.one (.d (.sl 1 (List.map (rI .i64) s)))), .u (.one (.d (.int .i64 v)))] (.u (.one (.d (.int .i64 r)))) := (i5 s v r hm).pureW
theorem gF (s : List Int) (v : Int) (r : Bool) (hm : bC s v = some r) : PFn Tryz.prog 66 [.u (.one (.d (.sl 1 (List.map (rI .i64) s)))), .u (.one (.d (.int .i64 v)))] (fun v => v.wk (.u (.one (.d (.bool r))))) := by
 refine bv Tryz.func66 Tryz.ntmps66 rfl (by kernel_rfl) (by simp) fun cx hn => ?_
 unfold bC at hm
 refine srs hn ?_
 simp -dsimp
 refine srs hn ?_
 obtain ⟨y, h1, hm⟩ := bnd hm
 simp -dsimp
 refine aa (ic s v y h1) (dkL hn) ?_
 simp -dsimp
 refine ac ?_
 cases hm
 refine ⟨.inr rfl, ?_⟩
 exact EE.here (by simp -dsimp)
theorem eD (s : List Int) (v : Int) (r : Bool) (hm : bC s v = some r) : PureCall Tryz.prog 66 [.u (.one (.d (.sl 1 (List.map (rI .i64) s)))), .u (.one (.d (.int .i64 v)))] (.u (.one (.d (.bool r)))) := (gF s v r hm).pureW
theorem f_totaltree_Totals_2 (s : totaltree_sum) (a : Totals) (r : Int) (hm : df s a = some r) : PFn Tryz.prog 65 [.u (.agg [.d (.int .i64 s.ones), .d (.int .i64 s.centre)]), .u (.one (.ref (Totals.row a) 0))] (fun v => v.wk (.u (.one (.d (.int .i64 r))))) := by
 refine bv Tryz.func65 Tryz.ntmps65 rfl (by kernel_rfl) (by simp) fun cx hn => ?_
 unfold df at hm
 refine srs hn ?_
 simp -dsimp
 refine srs hn ?_
 simp -dsimp
 refine ae (ah ?_)
 refine srs hn ?_
 simp -dsimp
 rcases ai hm with ⟨c1, hm⟩ | ⟨c1, hm⟩
 ·refine a8 (by simp -dsimp) c1 ?_
  obtain ⟨next, j4, hm⟩ := bnd hm
  refine au [(4, .u (.one (.d (.int .i64 next))))] [] (by rfl) (by rfl) ?_ fun ρ σ hf => ?_
  ·replace hm := j4
   clear j4
   refine srs hn ?_
   obtain ⟨y, h2, hm⟩ := bnd hm
   simp -dsimp [c1]
   refine aa (eD a.Birth s.ones y h2) (dkL hn) ?_
   simp -dsimp
   rcases ai hm with ⟨c3, hm⟩ | ⟨c3, hm⟩
   ·refine a8 (by simp -dsimp) c3 ?_
    refine sr1 hn ?_
    simp -dsimp [c3]
    refine a6 ?_
    cases hm
    exact EE.here (by simp -dsimp)
   ·refine a7 (by simp -dsimp) c3 ?_
    refine ab (a6 ?_)
    cases hm
    exact EE.here (by simp -dsimp [c3])
  ·clear j4
   simp only [Fits, ap, ar, and_true] at hf
   refine srs hn ?_
   simp -dsimp [hf]
   refine ac (aK (ag ?_))
   cases hm
   refine ⟨.inr rfl, ?_⟩
   exact EE.here (by simp -dsimp)
 ·refine a7 (by simp -dsimp) c1 ?_
  obtain ⟨a1, j9, hm⟩ := bnd hm
  refine au [(1, .u (.one (.ref (Totals.row a) 0))), (4, .u (.one (.d (.int .i64 s.centre)))), (17, .u (.one (.d (.bool a1))))] [] (by rfl) (by rfl) ?_ fun ρ σ hf => ?_
  ·replace hm := j9
   clear j9
   refine sr1 hn ?_
   rcases ai hm with ⟨c5, hm⟩ | ⟨c5, hm⟩
   ·obtain ⟨y, h6, hm⟩ := bnd hm
    simp -dsimp [c1, c5]
    refine aa (eD a.Survive s.ones y h6) (dkL hn) ?_
    simp -dsimp
    refine a6 ?_
    cases hm
    exact EE.here (by simp -dsimp)
   ·simp -dsimp [c1, c5]
    refine a6 ?_
    cases hm
    exact EE.here (by simp -dsimp)
  ·clear j9
   simp only [Fits, ap, ar, and_true] at hf
   rcases ai hm with ⟨c7, hm⟩ | ⟨c7, hm⟩
   ·refine a8 (by simp -dsimp [hf]) c7 ?_
    refine srs hn ?_
    simp -dsimp
    refine ac (aK (ag ?_))
    cases hm
    refine ⟨.inr rfl, ?_⟩
    exact EE.here (by simp -dsimp)
   ·refine a7 (by simp -dsimp [hf]) c7 ?_
    refine ab ?_
    refine aV ?_
    refine a6 ?_
    refine srs hn ?_
    obtain ⟨n, h8, hm⟩ := bnd hm
    simp -dsimp [hf, h8]
    refine ac ?_
    cases hm
    refine ⟨.inr rfl, ?_⟩
    exact EE.here (by simp -dsimp)
theorem c_totaltree_Totals_2 (s : totaltree_sum) (a : Totals) (r : Int) (hm : df s a = some r) : PureCall Tryz.prog 65 [.u (.agg [.d (.int .i64 s.ones), .d (.int .i64 s.centre)]), .u (.one (.ref (Totals.row a) 0))] (.u (.one (.d (.int .i64 r)))) := (f_totaltree_Totals_2 s a r hm).pureW
theorem i3 (s : totaltree_sum) (at_ : Int) (state : Int) (a : Int) (r : Int × Int) (hm : dL s at_ state a = some r) : GFn Tryz.prog 64 [.u (.agg [.d (.int .i64 s.ones), .d (.int .i64 s.centre)]), .u (.one (.d (.int .i64 at_))), .u (.one (.d (.int .i64 state))), .u (.one (.box 1000000 0))] [.box [.d (.int .i64 a)]] (.u (.agg [.d (.int .i64 r.1), .d (.int .i64 r.2)])) [some (.box [.d (.int .i64 a)])] := by
 refine cg aW _ Tryz.func64 rfl (by kernel_rfl) (by simp [Tryz.ntmps64]) (by simp) (by first | rfl | simp) (by first | rfl | simp) fun cx hn hk => ?_
 replace hn : cx.n = 22 := hn.trans Tryz.ntmps64
 replace hk : cx.k = 1 := hk
 unfold dL at hm
 refine srs hn ?_
 simp -dsimp
 obtain ⟨⟨sones, scentre⟩, j3, hm⟩ := bnd hm
 refine au [(4, .u (.one (.box 4 0))), (7, .u (.one (.box 7 0)))] [(4, .box [.d (.int .i64 sones), .d (.int .i64 scentre)]), (7, .box [.d (.int .i64 0), .d (.int .i64 0)]), (1000000, .box [.d (.int .i64 a)])] (by rfl) (by rfl) ?_ fun ρ σ hf => ?_
 ·replace hm := j3
  clear j3
  refine ah ?_
  refine srs hn ?_
  simp -dsimp
  rcases ai hm with ⟨c1, hm⟩ | ⟨c1, hm⟩
  ·refine a8 (by simp -dsimp) c1 ?_
   refine sr1 hn ?_
   simp -dsimp [c1]
   refine aV ?_
   refine a6 ?_
   cases hm
   exact EE.here (by simp -dsimp)
  ·refine a7 (by simp -dsimp) c1 ?_
   refine srs hn ?_
   simp -dsimp [c1]
   rcases ai hm with ⟨c2, hm⟩ | ⟨c2, hm⟩
   ·refine a8 (by simp -dsimp) c2 ?_
    refine sr1 hn ?_
    simp -dsimp [c2]
    refine aV ?_
    refine a6 ?_
    cases hm
    exact EE.here (by simp -dsimp)
   ·refine a7 (by simp -dsimp) c2 ?_
    refine ab ?_
    refine aV ?_
    refine a6 ?_
    cases hm
    exact EE.here (by simp -dsimp [c2])
 ·clear j3
  simp only [Fits, ap, ar, and_true] at hf
  refine srs hn ?_
  simp -dsimp [hf]
  refine ac ?_
  cases hm
  refine ⟨.inr rfl, ?_⟩
  exact EE.here (by simp -dsimp [hf])
theorem gQ (i : Int) (r : List UInt8) (hm : ct i = some r) : PFn Tryz.prog 250 [.u (.one (.d (.int .i64 i)))] (fun v => v.wk (.u (.one (.d (.str (bs r)))))) := by
 refine bv Tryz.func250 Tryz.ntmps250 rfl (by kernel_rfl) (by simp) fun cx hn => ?_
 unfold ct at hm
 refine srs hn ?_
 simp -dsimp
 refine ae ?_
 refine srs hn ?_
 simp -dsimp
 rcases ai hm with ⟨c1, hm⟩ | ⟨c1, hm⟩
 ·refine a8 (by simp -dsimp) c1 ?_
  refine srs hn ?_
  obtain ⟨s, h2, hm⟩ := bnd hm
  simp -dsimp [c1, h2]
  refine ac (ag ?_)
  cases hm
  refine ⟨.inr rfl, ?_⟩
  exact EE.here (by simp -dsimp)
 ·refine a7 (by simp -dsimp) c1 ?_
  refine ab (a6 ?_)
  refine srs hn ?_
  obtain ⟨s, h3, hm⟩ := bnd hm
  simp -dsimp [c1, h3]
  refine ac ?_
  cases hm
  refine ⟨.inr rfl, ?_⟩
  exact EE.here (by simp -dsimp)
theorem gP (i : Int) (r : List UInt8) (hm : ct i = some r) : PureCall Tryz.prog 250 [.u (.one (.d (.int .i64 i)))] (.u (.one (.d (.str (bs r))))) := (gQ i r hm).pureW
theorem fC (dst : List Int) (i : Int) (base : Int) (r : List Int) (hm : cb dst i base = some r) : GFn Tryz.prog 228 [.u (.one (.own 1000000)), .u (.one (.d (.int .u64 i))), .u (.one (.d (.int .i64 base)))] [.row 1 5 (List.map (rI .u8) dst)] (.u (.one (.own 1000001))) [none, some (.row 1 5 (List.map (rI .u8) r))] := by
 refine cg aW _ Tryz.func228 rfl (by kernel_rfl) (by simp [Tryz.ntmps228]) (by simp) (by first | rfl | simp) (by first | rfl | simp) fun cx hn hk => ?_
 replace hn : cx.n = 36 := hn.trans Tryz.ntmps228
 replace hk : cx.k = 1 := hk
 unfold cb at hm
 refine srs hn ?_
 simp -dsimp
 refine ae ?_
 refine srs hn ?_
 simp -dsimp
 rcases ai hm with ⟨c1, hm⟩ | ⟨c1, hm⟩
 ·refine a8 (by simp -dsimp) c1 ?_
  refine ae ?_
  refine srs hn ?_
  simp -dsimp [c1]
  rcases ai hm with ⟨c2, hm⟩ | ⟨c2, hm⟩
  ·refine a8 (by simp -dsimp) c2 ?_
   refine srs hn ?_
   obtain ⟨y, h3, hm⟩ := bnd hm
   simp -dsimp [c2]
   refine aa (gP (d5 .i64 i) y h3) (dkL hn) ?_
   obtain ⟨l, h4, hm⟩ := bnd hm
   obtain ⟨h4a, h4e⟩ := aQ h4
   replace h4e := h4e.symm
   subst h4e
   try simp only [List.length_cons, List.length_nil, Nat.zero_add, List.nil_append, List.length_append, List.length_map, List.length_replicate] at h4a
   try simp only [Nat.mul_one, toB_len] at h4a
   simp -dsimp [h4a]
   refine ac (ag (ag ?_))
   cases hm
   refine ⟨.inr rfl, ?_⟩
   refine EE.step (Wk.move 17 1000001 (by decide) (.inr (by rw [hk]; decide))) ?_
   exact EE.here (by simp -dsimp)
  ·refine a7 (by simp -dsimp) c2 ?_
   refine ab (a6 ?_)
   refine srs hn ?_
   simp -dsimp [c2]
   refine srs hn ?_
   cases hm
 ·refine a7 (by simp -dsimp) c1 ?_
  refine ab (a6 ?_)
  refine srs hn ?_
  cases hm
theorem fK (dst : List Int) (i : Int) (base : Int) (r : List Int) (hm : cm dst i base = some r) : GFn Tryz.prog 184 [.u (.one (.own 1000000)), .u (.one (.d (.int .i64 i))), .u (.one (.d (.int .i64 base)))] [.row 1 5 (List.map (rI .u8) dst)] (.u (.one (.own 1000001))) [none, some (.row 1 5 (List.map (rI .u8) r))] := by
 refine cg aW _ Tryz.func184 rfl (by kernel_rfl) (by simp [Tryz.ntmps184]) (by simp) (by first | rfl | simp) (by first | rfl | simp) fun cx hn hk => ?_
 replace hn : cx.n = 21 := hn.trans Tryz.ntmps184
 replace hk : cx.k = 1 := hk
 unfold cm at hm
 refine srs hn ?_
 simp -dsimp
 refine srs hn ?_
 simp -dsimp
 obtain ⟨⟨u, dst1⟩, j4, hm⟩ := bnd hm
 refine au [(0, .u (.one (.own 5000))), (2, .u (.one (.d (.int .i64 base)))), (7, .u (.one (.d (.int .u64 u))))] [(5000, .row 1 5 (List.map (rI .u8) dst1))] (by rfl) (by rfl) ?_ fun ρ σ hf => ?_
 ·replace hm := j4
  clear j4
  refine srs hn ?_
  simp -dsimp
  rcases ai hm with ⟨c1, hm⟩ | ⟨c1, hm⟩
  ·refine a8 (by simp -dsimp) c1 ?_
   refine srs hn ?_
   obtain ⟨l, h2, hm⟩ := bnd hm
   obtain ⟨h2a, h2e⟩ := aQ h2
   replace h2e := h2e.symm
   subst h2e
   try simp only [List.length_cons, List.length_nil, Nat.zero_add] at h2a
   try simp only [Nat.mul_one, Nat.reduceLeDiff] at h2a
   simp -dsimp [c1, h2a]
   refine sr1 hn ?_
   simp -dsimp
   refine a6 ?_
   cases hm
   refine EE.step (Wk.move 14 5000 (by decide) (.inl (by decide))) ?_
   exact EE.here (by simp -dsimp)
  ·refine a7 (by simp -dsimp) c1 ?_
   refine ab (a6 ?_)
   cases hm
   refine EE.step (Wk.move 1000000 5000 (by decide) (.inl (by decide))) ?_
   exact EE.here (by simp -dsimp [c1])
 ·clear j4
  simp only [Fits, ap, ar, and_true] at hf
  refine srs hn ?_
  obtain ⟨y, h3, hm⟩ := bnd hm
  simp -dsimp [hf]
  refine bA (fC dst1 u base y h3) [5000] [5001] rfl rfl rfl (by simp -dsimp) rfl (by simp -dsimp [hf]) (by first | rfl | simp) rfl (dkL hn) ?_
  simp -dsimp
  refine ac ?_
  cases hm
  refine ⟨.inr rfl, ?_⟩
  refine EE.step (Wk.move 5001 1000001 (by decide) (.inr (by rw [hk]; decide))) ?_
  exact EE.here (by simp -dsimp)
theorem e7 (dst : List Int) (i : Int) (base : Int) (r : List Int) (hm : ci dst i base = some r) : GFn Tryz.prog 129 [.u (.one (.own 1000000)), .u (.one (.d (.int .i64 i))), .u (.one (.d (.int .i64 base)))] [.row 1 5 (List.map (rI .u8) dst)] (.u (.one (.own 1000001))) [none, some (.row 1 5 (List.map (rI .u8) r))] := by
 refine cg aW _ Tryz.func129 rfl (by kernel_rfl) (by simp [Tryz.ntmps129]) (by simp) (by first | rfl | simp) (by first | rfl | simp) fun cx hn hk => ?_
 replace hn : cx.n = 11 := hn.trans Tryz.ntmps129
 replace hk : cx.k = 1 := hk
 unfold ci at hm
 refine srs hn ?_
 simp -dsimp
 refine srs hn ?_
 obtain ⟨y, h1, hm⟩ := bnd hm
 simp -dsimp
 refine bA (fK dst i base y h1) [1000000] [5000] rfl rfl rfl (by simp -dsimp) rfl (by simp -dsimp) (by first | rfl | simp) rfl (dkL hn) ?_
 simp -dsimp
 refine ac ?_
 cases hm
 refine ⟨.inr rfl, ?_⟩
 refine EE.step (Wk.move 5000 1000001 (by decide) (.inr (by rw [hk]; decide))) ?_
 exact EE.here (by simp -dsimp)
end Go.Proofs.YtogdjcdmbodmiaaGreatDoor
