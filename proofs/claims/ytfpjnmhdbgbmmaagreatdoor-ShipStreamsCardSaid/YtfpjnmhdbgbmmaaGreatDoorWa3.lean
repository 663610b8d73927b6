/-
  That the code does what the functions say (made by cc.py).
-/
import Derived.Test.YtfpjnmhdbgbmmaaGreatDoorMd1
import Derived.Test.YtfpjnmhdbgbmmaaGreatDoorTb
import Derived.Test.YtfpjnmhdbgbmmaaGreatDoorWa2
namespace Go.Proofs.YtfpjnmhdbgbmmaaGreatDoor
open Go.AM Go.Proofs
attribute [-simp] qlookup cC dS Ob.wipe Ob.ren Ob.frz1
theorem f_cmp_Compare_int (x : Int) (y : Int) (r : Int) (hm : bc x y = some r) : PFn Tryz.prog 164 [.u (.one (.d (.int .i64 x))), .u (.one (.d (.int .i64 y)))] (fun v => v.wk (.u (.one (.d (.int .i64 r))))) := by
 refine aX Tryz.func164 Tryz.ntmps164 rfl (by kernel_rfl) (by simp) fun cx hn => ?_
 unfold bc at hm
 refine srs hn (by kernel_rfl) ?_
 simp -dsimp []
 refine srs hn (by kernel_rfl) ?_
 obtain ⟨y1, h1, hm⟩ := bnd hm
 simp -dsimp []
 refine ae (c_cmp_isNaN_int x y1 h1) (by rw [hn]; decide) ?_
 simp -dsimp
 refine srs hn (by kernel_rfl) ?_
 obtain ⟨y2, h2, hm⟩ := bnd hm
 simp -dsimp
 refine ae (c_cmp_isNaN_int y y2 h2) (by rw [hn]; decide) ?_
 simp -dsimp
 refine ac ?_
 refine srs hn (by kernel_rfl) ?_
 simp -dsimp
 rcases aj hm with ⟨c3, hm⟩ | ⟨c3, hm⟩
 ·refine a8 (b := y1) (by simp -dsimp) c3 ?_
  refine ac ?_
  refine srs hn (by kernel_rfl) ?_
  simp -dsimp [c3]
  rcases aj hm with ⟨c4, hm⟩ | ⟨c4, hm⟩
  ·refine a8 (b := y2) (by simp -dsimp) c4 ?_
   refine srs hn (by kernel_rfl) ?_
   simp -dsimp [c4]
   refine aa (ag (ag ?_))
   cases hm
   refine ⟨.inr rfl, ?_⟩
   refine EE.here ?_
   simp -dsimp
  ·refine a7 (b := y2) (by simp -dsimp) c4 ?_
   refine ab (a6 ?_)
   refine srs hn (by kernel_rfl) ?_
   simp -dsimp [c4]
   refine aa (ag ?_)
   cases hm
   refine ⟨.inr rfl, ?_⟩
   refine EE.here ?_
   simp -dsimp
 ·refine a7 (b := y1) (by simp -dsimp) c3 ?_
  refine ab (a6 (ac ?_))
  refine srs hn (by kernel_rfl) ?_
  simp -dsimp [c3]
  rcases aj hm with ⟨c5, hm⟩ | ⟨c5, hm⟩
  ·refine a8 (b := y2) (by simp -dsimp) c5 ?_
   refine srs hn (by kernel_rfl) ?_
   simp -dsimp [c5]
   refine aa (ag ?_)
   cases hm
   refine ⟨.inr rfl, ?_⟩
   refine EE.here ?_
   simp -dsimp
  ·refine a7 (b := y2) (by simp -dsimp) c5 ?_
   refine ab (a6 (ac ?_))
   refine srs hn (by kernel_rfl) ?_
   simp -dsimp [c5]
   rcases aj hm with ⟨c6, hm⟩ | ⟨c6, hm⟩
   ·refine a8 (b := (ltB x y)) (by simp -dsimp) c6 ?_
    refine srs hn (by kernel_rfl) ?_
    simp -dsimp [c6]
    refine aa (ag ?_)
    cases hm
    refine ⟨.inr rfl, ?_⟩
    refine EE.here ?_
    simp -dsimp
   ·refine a7 (b := (ltB x y)) (by simp -dsimp) c6 ?_
    refine ab (a6 (ac ?_))
    refine srs hn (by kernel_rfl) ?_
    simp -dsimp [c6]
    rcases aj hm with ⟨c7, hm⟩ | ⟨c7, hm⟩
    ·refine a8 (b := (gtB x y)) (by simp -dsimp) c7 ?_
     refine srs hn (by kernel_rfl) ?_
     simp -dsimp [c7]
     refine aa (ag ?_)
     cases hm
     refine ⟨.inr rfl, ?_⟩
     refine EE.here ?_
     simp -dsimp
    ·refine a7 (b := (gtB x y)) (by simp -dsimp) c7 ?_
     refine ab (a6 ?_)
     refine srs hn (by kernel_rfl) ?_
     simp -dsimp [c7]
     refine aa ?_
     cases hm
     refine ⟨.inr rfl, ?_⟩
     refine EE.here ?_
     simp -dsimp
theorem dT (x : Int) (y : Int) (r : Int) (hm : bc x y = some r) : PureCall Tryz.prog 164 [.u (.one (.d (.int .i64 x))), .u (.one (.d (.int .i64 y)))] (.u (.one (.d (.int .i64 r)))) := (f_cmp_Compare_int x y r hm).pureW
def dn (cx : Cx) (_vals : List Int) (tt : Int ⊕ Unit) (ee : Exit) (ρ : Env) (σ : Sto) : Prop := match tt with
 | .inl r => ee = .ret ∧ EE cx (fun ρ σ => ∃ v, resV tb ρ σ Tryz.f163.results.toList = some v ∧ (v.frz σ).free = true ∧ (v.frz σ).wk (.u (.one (.d (.int .i64 r))))) ρ σ
 | .inr _u => ee = .exit 0 ∧ EE cx (aU [(3, .u (.one (.d (.int .i64 0))))] []) ρ σ
theorem l_cmp_Or_int_1 (cx : Cx) (hn : cx.n = 18) (vals : List Int) {fu : Nat} {stt : Int} {tt : Int ⊕ Unit} (hh : al (du vals) fu stt = some tt) {ρ : Env} {σ : Sto}
  (hE : b4 (fun a : Int => [(3, .u (.one (.d (.int .i64 0)))), (6, .u (.one (.d (.sl 1 (List.map (rI .i64) vals))))), (7, .u (.one (.d (.int .i64 (ah vals))))), (8, .u (.one (.d (.int .i64 a))))]) (fun _a : Int => []) stt ρ σ) : Swp Tryz.prog cx (.loop (bQ [1, 1, 0, 1, 0, 0] (aP Tryz.f163))) ρ σ (dn cx vals tt) := by
 refine b8 hE hh (dn cx vals) (fun _ => by rfl) (fun _ => by rfl) ?_
 rintro a r hm ρ σ hf
 simp only [Fits, am, ap, and_true] at hf
 unfold du at hm
 dsimp only at hm
 refine srs hn (by kernel_rfl) ?_
 simp -dsimp [hf]
 refine ac ?_
 rcases aj hm with ⟨c1, hm⟩ | ⟨c1, hm⟩
 ·refine a8 (b := (ltB a (ah vals))) (by simp -dsimp) c1 ?_
  refine ab (a6 (ac (ai ?_)))
  refine srs hn (by kernel_rfl) ?_
  obtain ⟨x, h2, hm⟩ := bnd hm
  simp -dsimp [hf, c1, h2]
  refine srs hn (by kernel_rfl) ?_
  simp -dsimp [hf]
  rcases aj hm with ⟨c3, hm⟩ | ⟨c3, hm⟩
  ·refine a8 (b := (neB x 0)) (by simp -dsimp) c3 ?_
   refine srs hn (by kernel_rfl) ?_
   simp -dsimp [c3]
   refine aa (aN (ag ?_))
   cases hm
   refine ar nofun ?_
   unfold dn
   dsimp only
   refine ⟨rfl, ?_⟩
   refine EE.here ?_
   simp -dsimp [Tryz.results163]
  ·refine a7 (b := (neB x 0)) (by simp -dsimp) c3 ?_
   refine ab ?_
   refine aJ ?_
   refine a6 ?_
   refine sr1 hn (by kernel_rfl) ?_
   simp -dsimp [hf, c3]
   cases hm
   refine aB ?_
   refine EE.here ?_
   simp -dsimp [hf]
 ·refine a7 (b := (ltB a (ah vals))) (by simp -dsimp) c1 ?_
  refine av ?_
  refine ag ?_
  cases hm
  refine ar nofun ?_
  unfold dn
  dsimp only
  refine ⟨rfl, ?_⟩
  refine EE.here ?_
  simp -dsimp [hf, c1]
theorem f_cmp_Or_int (vals : List Int) (r : Int) (hm : dC vals = some r) : PFn Tryz.prog 163 [.u (.one (.d (.sl 1 (List.map (rI .i64) vals))))] (fun v => v.wk (.u (.one (.d (.int .i64 r))))) := by
 refine aX Tryz.func163 Tryz.ntmps163 rfl (by kernel_rfl) (by simp) fun cx hn => ?_
 unfold dC at hm
 refine srs hn (by kernel_rfl) ?_
 simp -dsimp []
 refine srs hn (by kernel_rfl) ?_
 simp -dsimp []
 refine ac ?_
 refine srs hn (by kernel_rfl) ?_
 simp -dsimp []
 refine ai ?_
 obtain ⟨o_, g4, hm⟩ := bnd hm
 refine aO [(3, .u (.one (.d (.int .i64 0)))), (6, .u (.one (.d (.sl 1 (List.map (rI .i64) vals))))), (7, .u (.one (.d (.int .i64 (ah vals))))), (8, .u (.one (.d (.int .i64 0))))] [] (by rfl) (by rfl) (by
   refine EE.here ?_
   simp -dsimp []
 ) fun ρ σ hf => ?_
 refine (l_cmp_Or_int_1 cx hn vals g4 hf).mono fun ee ρ σ x5 => ?_
 rcases o_ with r | _u
 ·unfold dn at x5
  dsimp only at x5
  obtain ⟨rfl, x5⟩ := x5
  refine aN (ag ?_)
  cases hm
  exact ⟨.inr rfl, x5⟩
 ·unfold dn at x5
  dsimp only at x5
  obtain ⟨rfl, x5⟩ := x5
  refine au ?_
  refine a6 ?_
  refine b5 (by rfl) (by rfl) x5 fun ρ σ hf => ?_
  simp only [Fits, am, ap, and_true] at hf
  refine srs hn (by kernel_rfl) ?_
  simp -dsimp [hf]
  refine aa ?_
  cases hm
  refine ⟨.inr rfl, ?_⟩
  refine EE.here ?_
  simp -dsimp
theorem c_cmp_Or_int (vals : List Int) (r : Int) (hm : dC vals = some r) : PureCall Tryz.prog 163 [.u (.one (.d (.sl 1 (List.map (rI .i64) vals))))] (.u (.one (.d (.int .i64 r)))) := (f_cmp_Or_int vals r hm).pureW
theorem f_point_Compare (a : Point) (b : Point) (r : Int) (hm : cu a b = some r) : PFn Tryz.prog 104 [.u (.agg [.d (.int .i64 a.X), .d (.int .i64 a.Y)]), .u (.agg [.d (.int .i64 b.X), .d (.int .i64 b.Y)])] (fun v => v.wk (.u (.one (.d (.int .i64 r))))) := by
 refine aX Tryz.func104 Tryz.ntmps104 rfl (by kernel_rfl) (by simp) fun cx hn => ?_
 unfold cu at hm
 refine srs hn (by kernel_rfl) ?_
 simp -dsimp []
 refine ck aK mixed (by rw [hn]; kernel_rfl) ?_
 obtain ⟨y, h1, hm⟩ := bnd hm
 simp -dsimp []
 refine ak (dT a.Y b.Y y h1) ?_
 obtain ⟨y1, h2, hm⟩ := bnd hm
 simp -dsimp
 refine ak (dT a.X b.X y1 h2) ?_
 obtain ⟨y2, h3, hm⟩ := bnd hm
 simp -dsimp
 refine ak (c_cmp_Or_int [y, y1] y2 h3) ?_
 simp -dsimp
 refine aa ?_
 cases hm
 refine ⟨.inr rfl, ?_⟩
 refine EE.here ?_
 simp -dsimp
theorem gj (a : Point) (b : Point) (r : Int) (hm : cu a b = some r) : PureCall Tryz.prog 104 [.u (.agg [.d (.int .i64 a.X), .d (.int .i64 a.Y)]), .u (.agg [.d (.int .i64 b.X), .d (.int .i64 b.Y)])] (.u (.one (.d (.int .i64 r)))) := (f_point_Compare a b r hm).pureW
def dq (cx : Cx) (_l : List Point) (tt : Bool ⊕ Unit) (ee : Exit) (ρ : Env) (σ : Sto) : Prop := match tt with
 | .inl r => ee = .ret ∧ EE cx (fun ρ σ => ∃ v, resV tb ρ σ Tryz.f109.results.toList = some v ∧ (v.frz σ).free = true ∧ (v.frz σ).wk (.u (.one (.d (.bool r))))) ρ σ
 | .inr _u => ee = .exit 0 ∧ EE cx (aU [] []) ρ σ
theorem l_hood_Right_1 (cx : Cx) (hn : cx.n = 53) (l : List Point) {fu : Nat} {stt : Int} {tt : Bool ⊕ Unit} (hh : al (gY l) fu stt = some tt) {ρ : Env} {σ : Sto}
  (hE : b4 (fun a1 : Int => [(0, .u (.one (.d (.sl 2 (List.map Point.row l))))), (13, .u (.one (.d (.sl 2 (List.map Point.row l))))), (14, .u (.one (.d (.int .i64 (ah l))))), (15, .u (.one (.d (.int .i64 a1))))]) (fun _a1 : Int => []) stt ρ σ) : Swp Tryz.prog cx (.loop (bQ [1, 1, 0, 1, 0, 0] (aP Tryz.f109))) ρ σ (dq cx l tt) := by
 refine b8 hE hh (dq cx l) (fun _ => by rfl) (fun _ => by rfl) ?_
 rintro a1 r hm ρ σ hf
 simp only [Fits, am, ap, and_true] at hf
 unfold gY at hm
 dsimp only at hm
 refine srs hn (by kernel_rfl) ?_
 simp -dsimp [hf]
 refine ac ?_
 rcases aj hm with ⟨c3, hm⟩ | ⟨c3, hm⟩
 ·refine a8 (b := (ltB a1 (ah l))) (by simp -dsimp) c3 ?_
  refine ab (a6 (ac (ai ?_)))
  refine srs hn (by kernel_rfl) ?_
  obtain ⟨x, h4, hm⟩ := bnd hm
  simp -dsimp [hf, c3, h4]
  obtain ⟨a2, j13, hm⟩ := bnd hm
  refine aw [(0, .u (.one (.d (.sl 2 (List.map Point.row l))))), (13, .u (.one (.d (.sl 2 (List.map Point.row l))))), (14, .u (.one (.d (.int .i64 (ah l))))), (15, .u (.one (.d (.int .i64 a1)))), (51, .u (.one (.d (.bool a2))))] [] (by rfl) (by rfl) ?_ fun ρ σ hf => ?_
  ·replace hm := j13
   clear j13
   refine sw_qt aK mixed (by rw [hn]; kernel_rfl) ?_
   rcases aj hm with ⟨c5, hm⟩ | ⟨c5, hm⟩
   ·simp -dsimp [c5]
    refine a6 ?_
    cases hm
    refine EE.here ?_
    simp -dsimp [hf]
   ·rcases aj hm with ⟨c6, hm⟩ | ⟨c6, hm⟩
    ·simp -dsimp [c5, c6]
     refine a6 ?_
     cases hm
     refine EE.here ?_
     simp -dsimp [hf]
    ·rcases aj hm with ⟨c7, hm⟩ | ⟨c7, hm⟩
     ·simp -dsimp [c5, c6, c7]
      refine a6 ?_
      cases hm
      refine EE.here ?_
      simp -dsimp [hf]
     ·rcases aj hm with ⟨c8, hm⟩ | ⟨c8, hm⟩
      ·simp -dsimp [c5, c6, c7, c8]
       refine a6 ?_
       cases hm
       refine EE.here ?_
       simp -dsimp [hf]
      ·rcases aj hm with ⟨c9, hm⟩ | ⟨c9, hm⟩
       ·obtain ⟨x1, h10, hm⟩ := bnd hm
        obtain ⟨y, h11, hm⟩ := bnd hm
        simp -dsimp [hf, c5, c6, c7, c8, c9, h10]
        refine ak (gj x1 x y h11) ?_
        simp -dsimp
        refine a6 ?_
        cases hm
        refine EE.here ?_
        simp -dsimp [hf]
       ·simp -dsimp [c5, c6, c7, c8, c9]
        refine a6 ?_
        cases hm
        refine EE.here ?_
        simp -dsimp [hf]
  ·clear j13
   simp only [Fits, am, ap, and_true] at hf
   rcases aj hm with ⟨c12, hm⟩ | ⟨c12, hm⟩
   ·refine a8 (b := a2) (by simp -dsimp [hf]) c12 ?_
    refine srs hn (by kernel_rfl) ?_
    simp -dsimp
    refine aa (aN (ag ?_))
    cases hm
    refine ar nofun ?_
    unfold dq
    dsimp only
    refine ⟨rfl, ?_⟩
    refine EE.here ?_
    simp -dsimp [Tryz.results109]
   ·refine a7 (b := a2) (by simp -dsimp [hf]) c12 ?_
    refine ab ?_
    refine aJ ?_
    refine a6 ?_
    refine sr1 hn (by kernel_rfl) ?_
    simp -dsimp [hf]
    cases hm
    refine aB ?_
    refine EE.here ?_
    simp -dsimp [hf]
 ·refine a7 (b := (ltB a1 (ah l))) (by simp -dsimp) c3 ?_
  refine av ?_
  refine ag ?_
  cases hm
  refine ar nofun ?_
  unfold dq
  dsimp only
  refine ⟨rfl, ?_⟩
  refine EE.here ?_
  simp -dsimp [c3]
set_option maxRecDepth 20000 in
theorem f_hood_Right (l : List Point) (r : Bool) (hm : eX l = some r) : PFn Tryz.prog 109 [.u (.one (.d (.sl 2 (List.map Point.row l))))] (fun v => v.wk (.u (.one (.d (.bool r))))) := by
 refine aX Tryz.func109 Tryz.ntmps109 rfl (by kernel_rfl) (by simp) fun cx hn => ?_
 unfold eX at hm
 refine srs hn (by kernel_rfl) ?_
 simp -dsimp []
 refine ac ?_
 obtain ⟨a, j16, hm⟩ := bnd hm
 refine aw [(0, .u (.one (.d (.sl 2 (List.map Point.row l))))), (12, .u (.one (.d (.bool a))))] [] (by rfl) (by rfl) ?_ fun ρ σ hf => ?_
 ·replace hm := j16
  clear j16
  refine sr1 hn (by kernel_rfl) ?_
  rcases aj hm with ⟨c1, hm⟩ | ⟨c1, hm⟩
  ·simp -dsimp [c1]
   refine a6 ?_
   cases hm
   refine EE.here ?_
   simp -dsimp
  ·simp -dsimp [c1]
   refine a6 ?_
   cases hm
   refine EE.here ?_
   simp -dsimp
 ·clear j16
  simp only [Fits, am, ap, and_true] at hf
  rcases aj hm with ⟨c2, hm⟩ | ⟨c2, hm⟩
  ·refine a8 (b := a) (by simp -dsimp [hf]) c2 ?_
   refine srs hn (by kernel_rfl) ?_
   simp -dsimp
   refine aa (ag ?_)
   cases hm
   refine ⟨.inr rfl, ?_⟩
   refine EE.here ?_
   simp -dsimp
  ·refine a7 (b := a) (by simp -dsimp [hf]) c2 ?_
   refine ab (a6 (ac ?_))
   refine srs hn (by kernel_rfl) ?_
   simp -dsimp [hf]
   refine ai ?_
   obtain ⟨o_, g14, hm⟩ := bnd hm
   refine aO [(0, .u (.one (.d (.sl 2 (List.map Point.row l))))), (13, .u (.one (.d (.sl 2 (List.map Point.row l))))), (14, .u (.one (.d (.int .i64 (ah l))))), (15, .u (.one (.d (.int .i64 0))))] [] (by rfl) (by rfl) (by
     refine EE.here ?_
     simp -dsimp [hf]
   ) fun ρ σ hf => ?_
   refine (l_hood_Right_1 cx hn l g14 hf).mono fun ee ρ σ x15 => ?_
   rcases o_ with r | _u
   ·unfold dq at x15
    dsimp only at x15
    obtain ⟨rfl, x15⟩ := x15
    refine aN (ag ?_)
    cases hm
    exact ⟨.inr rfl, x15⟩
   ·unfold dq at x15
    dsimp only at x15
    obtain ⟨rfl, x15⟩ := x15
    refine au ?_
    refine a6 ?_
    refine b5 (by rfl) (by rfl) x15 fun ρ σ hf => ?_
    simp only [Fits, am, ap, and_true] at hf
    refine srs hn (by kernel_rfl) ?_
    simp -dsimp
    refine aa ?_
    cases hm
    refine ⟨.inr rfl, ?_⟩
    refine EE.here ?_
    simp -dsimp
theorem c_hood_Right (l : List Point) (r : Bool) (hm : eX l = some r) : PureCall Tryz.prog 109 [.u (.one (.d (.sl 2 (List.map Point.row l))))] (.u (.one (.d (.bool r)))) := (f_hood_Right l r hm).pureW
def aI (cx : Cx) (_s : List Point) (_v : Point) (tt : Int ⊕ Unit) (ee : Exit) (ρ : Env) (σ : Sto) : Prop := match tt with
 | .inl r => ee = .ret ∧ EE cx (fun ρ σ => ∃ v, resV tb ρ σ Tryz.f140.results.toList = some v ∧ (v.frz σ).free = true ∧ (v.frz σ).wk (.u (.one (.d (.int .i64 r))))) ρ σ
 | .inr _u => ee = .exit 0 ∧ EE cx (aU [] []) ρ σ
theorem eq (cx : Cx) (hn : cx.n = 19) (s : List Point) (v : Point) {fu : Nat} {stt : Int} {tt : Int ⊕ Unit} (hh : al (br s v) fu stt = some tt) {ρ : Env} {σ : Sto}
  (hE : b4 (fun a : Int => [(0, .u (.one (.d (.sl 2 (List.map Point.row s))))), (3, .u (.one (.box 3 0))), (7, .u (.one (.d (.int .i64 (ah s))))), (8, .u (.one (.d (.int .i64 a))))]) (fun _a : Int => [(3, .box [.d (.int .i64 v.X), .d (.int .i64 v.Y)])]) stt ρ σ) : Swp Tryz.prog cx (.loop (bQ [1, 0, 1, 0, 0] (aP Tryz.f140))) ρ σ (aI cx s v tt) := by
 refine b8 hE hh (aI cx s v) (fun _ => by rfl) (fun _ => by rfl) ?_
 rintro a r hm ρ σ hf
 simp only [Fits, am, ap, and_true] at hf
 unfold br at hm
 dsimp only at hm
 refine srs hn (by kernel_rfl) ?_
 simp -dsimp [hf]
 refine ac ?_
 rcases aj hm with ⟨c1, hm⟩ | ⟨c1, hm⟩
 ·refine a8 (b := (ltB a (ah s))) (by simp -dsimp) c1 ?_
  refine ab (a6 (ac (ai ?_)))
  refine srs hn (by kernel_rfl) ?_
  simp -dsimp [hf, c1]
  refine ck aK mixed (by rw [hn]; kernel_rfl) ?_
  obtain ⟨x, h2, hm⟩ := bnd hm
  simp -dsimp [hf, h2]
  rcases aj hm with ⟨c3, hm⟩ | ⟨c3, hm⟩
  ·refine a8 (b := (bA (eqB v.X x.X) (bA (eqB v.Y x.Y) true))) (by simp -dsimp) c3 ?_
   refine srs hn (by kernel_rfl) ?_
   simp -dsimp [c3]
   refine aa (aN (ag ?_))
   cases hm
   refine ar nofun ?_
   unfold aI
   dsimp only
   refine ⟨rfl, ?_⟩
   refine EE.here ?_
   simp -dsimp [Tryz.results140]
  ·refine a7 (b := (bA (eqB v.X x.X) (bA (eqB v.Y x.Y) true))) (by simp -dsimp) c3 ?_
   refine ab ?_
   refine aJ ?_
   refine a6 ?_
   refine sr1 hn (by kernel_rfl) ?_
   simp -dsimp [hf, c3]
   cases hm
   refine aB ?_
   refine EE.here ?_
   simp -dsimp [hf]
 ·refine a7 (b := (ltB a (ah s))) (by simp -dsimp) c1 ?_
  refine av ?_
  refine ag ?_
  cases hm
  refine ar nofun ?_
  unfold aI
  dsimp only
  refine ⟨rfl, ?_⟩
  refine EE.here ?_
  simp -dsimp [c1]
theorem eI (s : List Point) (v : Point) (r : Int) (hm : b6 s v = some r) : PFn Tryz.prog 140 [.u (.one (.d (.sl 2 (List.map Point.row s)))), .u (.agg [.d (.int .i64 v.X), .d (.int .i64 v.Y)])] (fun v => v.wk (.u (.one (.d (.int .i64 r))))) := by
 refine aX Tryz.func140 Tryz.ntmps140 rfl (by kernel_rfl) (by simp) fun cx hn => ?_
 unfold b6 at hm
 refine srs hn (by kernel_rfl) ?_
 simp -dsimp []
 refine ac ?_
 refine srs hn (by kernel_rfl) ?_
 simp -dsimp []
 refine ai ?_
 obtain ⟨o_, g4, hm⟩ := bnd hm
 refine aO [(0, .u (.one (.d (.sl 2 (List.map Point.row s))))), (3, .u (.one (.box 3 0))), (7, .u (.one (.d (.int .i64 (ah s))))), (8, .u (.one (.d (.int .i64 0))))] [(3, .box [.d (.int .i64 v.X), .d (.int .i64 v.Y)])] (by rfl) (by rfl) (by
   refine EE.here ?_
   simp -dsimp []
 ) fun ρ σ hf => ?_
 refine (eq cx hn s v g4 hf).mono fun ee ρ σ x5 => ?_
 rcases o_ with r | _u
 ·unfold aI at x5
  dsimp only at x5
  obtain ⟨rfl, x5⟩ := x5
  refine aN (ag ?_)
  cases hm
  exact ⟨.inr rfl, x5⟩
 ·unfold aI at x5
  dsimp only at x5
  obtain ⟨rfl, x5⟩ := x5
  refine au ?_
  refine a6 ?_
  refine b5 (by rfl) (by rfl) x5 fun ρ σ hf => ?_
  simp only [Fits, am, ap, and_true] at hf
  refine srs hn (by kernel_rfl) ?_
  simp -dsimp
  refine aa ?_
  cases hm
  refine ⟨.inr rfl, ?_⟩
  refine EE.here ?_
  simp -dsimp
theorem eH (s : List Point) (v : Point) (r : Int) (hm : b6 s v = some r) : PureCall Tryz.prog 140 [.u (.one (.d (.sl 2 (List.map Point.row s)))), .u (.agg [.d (.int .i64 v.X), .d (.int .i64 v.Y)])] (.u (.one (.d (.int .i64 r)))) := (eI s v r hm).pureW
theorem f_hood_Centre (l : List Point) (r : Int) (hm : fQ l = some r) : PFn Tryz.prog 77 [.u (.one (.d (.sl 2 (List.map Point.row l))))] (fun v => v.wk (.u (.one (.d (.int .i64 r))))) := by
 refine aX Tryz.func77 Tryz.ntmps77 rfl (by kernel_rfl) (by simp) fun cx hn => ?_
 unfold fQ at hm
 refine srs hn (by kernel_rfl) ?_
 simp -dsimp []
 refine ac ?_
 refine srs hn (by kernel_rfl) ?_
 obtain ⟨y, h1, hm⟩ := bnd hm
 simp -dsimp []
 refine ae (c_hood_Right l y h1) (by rw [hn]; decide) ?_
 simp -dsimp
 rcases aj hm with ⟨c2, hm⟩ | ⟨c2, hm⟩
 ·refine a8 (b := (aM y)) (by simp -dsimp) c2 ?_
  refine srs hn (by kernel_rfl) ?_
  simp -dsimp [c2]
  refine aa (ag ?_)
  cases hm
  refine ⟨.inr rfl, ?_⟩
  refine EE.here ?_
  simp -dsimp
 ·refine a7 (b := (aM y)) (by simp -dsimp) c2 ?_
  refine ab (a6 ?_)
  refine srs hn (by kernel_rfl) ?_
  obtain ⟨y1, h3, hm⟩ := bnd hm
  simp -dsimp [c2]
  refine ae (eH l (⟨0, 0⟩ : Point) y1 h3) (by rw [hn]; decide) ?_
  simp -dsimp
  refine aa ?_
  cases hm
  refine ⟨.inr rfl, ?_⟩
  refine EE.here ?_
  simp -dsimp
theorem c_hood_Centre (l : List Point) (r : Int) (hm : fQ l = some r) : PureCall Tryz.prog 77 [.u (.one (.d (.sl 2 (List.map Point.row l))))] (.u (.one (.d (.int .i64 r)))) := (f_hood_Centre l r hm).pureW
theorem e_slices_Clone_api_Point_api_Point (l : List Point) (r : List Point) (hm : aF l = some r) : r = l := (aL hm).2
theorem f_slices_Clone_api_Point_api_Point (l : List Point) (r : List Point) (hm : aF l = some r) : PFn Tryz.prog 82 [.u (.one (.d (.sl 2 (List.map Point.row l))))] (fun v => v.wk (.u (.one (.d (.sl 2 (List.map Point.row r)))))) := by
 refine pfn_E aK _ Tryz.func82 rfl (by kernel_rfl) (by simp [Tryz.ntmps82]) fun cx hn => ?_
 replace hn : cx.n = 8 := hn.trans Tryz.ntmps82
 have ha := (aL hm).1
 have hr : r = l := (aL hm).2
 clear hm
 subst hr
 simp only [List.length_nil, Nat.zero_add] at ha
 refine srs hn (by kernel_rfl) ?_
 simp -dsimp []
 refine ac ?_
 refine srs hn (by kernel_rfl) ?_
 cases r with
 | nil =>
  simp -dsimp []
  refine ⟨?_, ?_⟩
  ·refine a8 (b := true) (by simp -dsimp []) rfl ?_
   refine srs hn (by kernel_rfl) ?_
   simp -dsimp []
   refine aa (ag ?_)
   refine ⟨.inr rfl, EE.here ?_⟩; simp -dsimp
  ·refine a7 (b := false) (by simp -dsimp []) rfl ?_
   refine ab (a6 ?_)
   refine srs hn (by kernel_rfl) ?_
   simp -dsimp []
   refine aa ?_
   refine ⟨.inr rfl, EE.here ?_⟩; simp -dsimp
 | cons x xs =>
  simp -dsimp []
  refine a7 (b := false) (by simp -dsimp []) rfl ?_
  refine ab (a6 ?_)
  refine srs hn (by kernel_rfl) ?_
  simp only [List.length_cons] at ha
  simp -dsimp [ha]
  refine aa ?_
  refine ⟨.inr rfl, EE.here ?_⟩; simp -dsimp
theorem c_slices_Clone_api_Point_api_Point (l : List Point) (r : List Point) (hm : aF l = some r) : PureCall Tryz.prog 82 [.u (.one (.d (.sl 2 (List.map Point.row l))))] (.u (.one (.d (.sl 2 (List.map Point.row r))))) := (f_slices_Clone_api_Point_api_Point l r hm).pureW
theorem n_slices_Clone_api_Point_api_Point (l : List Point) (r : List Point) (hm : aF l = some r) : NewFn Tryz.prog 82 [.u (.one (.d (.sl 2 (List.map Point.row l))))] (fun o => o = .row 2 71 (List.map Point.row r)) := by
 refine new_S aK _ Tryz.func82 rfl (by kernel_rfl) (by simp [Tryz.ntmps82]) fun cx hn => ?_
 replace hn : cx.n = 8 := hn.trans Tryz.ntmps82
 have ha := (aL hm).1
 have hr : r = l := (aL hm).2
 clear hm
 subst hr
 simp only [List.length_nil, Nat.zero_add] at ha
 refine srs hn (by kernel_rfl) ?_
 simp -dsimp []
 refine ac ?_
 refine srs hn (by kernel_rfl) ?_
 cases r with
 | nil =>
  simp -dsimp []
  refine ⟨?_, ?_⟩
  ·refine a8 (b := true) (by simp -dsimp []) rfl ?_
   refine srs hn (by kernel_rfl) ?_
   simp -dsimp []
   refine aa (ag ?_)
   refine ⟨.inr rfl, ?_⟩; simp -dsimp
  ·refine a7 (b := false) (by simp -dsimp []) rfl ?_
   refine ab (a6 ?_)
   refine srs hn (by kernel_rfl) ?_
   simp -dsimp []
   refine aa ?_
   refine ⟨.inr rfl, ?_⟩; simp -dsimp
 | cons x xs =>
  simp -dsimp []
  refine a7 (b := false) (by simp -dsimp []) rfl ?_
  refine ab (a6 ?_)
  refine srs hn (by kernel_rfl) ?_
  simp only [List.length_cons] at ha
  simp -dsimp [ha]
  refine aa ?_
  refine ⟨.inr rfl, ?_⟩; simp -dsimp
def bb (cx : Cx) (_s : List Int) (_v : Int) (tt : Int ⊕ Unit) (ee : Exit) (ρ : Env) (σ : Sto) : Prop := match tt with
 | .inl r => ee = .ret ∧ EE cx (fun ρ σ => ∃ v, resV tb ρ σ Tryz.f141.results.toList = some v ∧ (v.frz σ).free = true ∧ (v.frz σ).wk (.u (.one (.d (.int .i64 r))))) ρ σ
 | .inr _u => ee = .exit 0 ∧ EE cx (aU [] []) ρ σ
theorem ie (cx : Cx) (hn : cx.n = 19) (s : List Int) (v : Int) {fu : Nat} {stt : Int} {tt : Int ⊕ Unit} (hh : al (df s v) fu stt = some tt) {ρ : Env} {σ : Sto}
  (hE : b4 (fun a : Int => [(0, .u (.one (.d (.sl 1 (List.map (rI .i64) s))))), (1, .u (.one (.d (.int .i64 v)))), (7, .u (.one (.d (.int .i64 (ah s))))), (8, .u (.one (.d (.int .i64 a))))]) (fun _a : Int => []) stt ρ σ) : Swp Tryz.prog cx (.loop (bQ [1, 0, 1, 0, 0] (aP Tryz.f141))) ρ σ (bb cx s v tt) := by
 refine b8 hE hh (bb cx s v) (fun _ => by rfl) (fun _ => by rfl) ?_
 rintro a r hm ρ σ hf
 simp only [Fits, am, ap, and_true] at hf
 unfold df at hm
 dsimp only at hm
 refine srs hn (by kernel_rfl) ?_
 simp -dsimp [hf]
 refine ac ?_
 rcases aj hm with ⟨c1, hm⟩ | ⟨c1, hm⟩
 ·refine a8 (b := (ltB a (ah s))) (by simp -dsimp) c1 ?_
  refine ab (a6 (ac (ai ?_)))
  refine srs hn (by kernel_rfl) ?_
  simp -dsimp [hf, c1]
  refine srs hn (by kernel_rfl) ?_
  obtain ⟨x, h2, hm⟩ := bnd hm
  simp -dsimp [hf, h2]
  rcases aj hm with ⟨c3, hm⟩ | ⟨c3, hm⟩
  ·refine a8 (b := (eqB v x)) (by simp -dsimp) c3 ?_
   refine srs hn (by kernel_rfl) ?_
   simp -dsimp [c3]
   refine aa (aN (ag ?_))
   cases hm
   refine ar nofun ?_
   unfold bb
   dsimp only
   refine ⟨rfl, ?_⟩
   refine EE.here ?_
   simp -dsimp [Tryz.results141]
  ·refine a7 (b := (eqB v x)) (by simp -dsimp) c3 ?_
   refine ab ?_
   refine aJ ?_
   refine a6 ?_
   refine sr1 hn (by kernel_rfl) ?_
   simp -dsimp [hf, c3]
   cases hm
   refine aB ?_
   refine EE.here ?_
   simp -dsimp [hf]
 ·refine a7 (b := (ltB a (ah s))) (by simp -dsimp) c1 ?_
  refine av ?_
  refine ag ?_
  cases hm
  refine ar nofun ?_
  unfold bb
  dsimp only
  refine ⟨rfl, ?_⟩
  refine EE.here ?_
  simp -dsimp [c1]
theorem ix (s : List Int) (v : Int) (r : Int) (hm : cF s v = some r) : PFn Tryz.prog 141 [.u (.one (.d (.sl 1 (List.map (rI .i64) s)))), .u (.one (.d (.int .i64 v)))] (fun v => v.wk (.u (.one (.d (.int .i64 r))))) := by
 refine aX Tryz.func141 Tryz.ntmps141 rfl (by kernel_rfl) (by simp) fun cx hn => ?_
 unfold cF at hm
 refine srs hn (by kernel_rfl) ?_
 simp -dsimp []
 refine ac ?_
 refine srs hn (by kernel_rfl) ?_
 simp -dsimp []
 refine ai ?_
 obtain ⟨o_, g4, hm⟩ := bnd hm
 refine aO [(0, .u (.one (.d (.sl 1 (List.map (rI .i64) s))))), (1, .u (.one (.d (.int .i64 v)))), (7, .u (.one (.d (.int .i64 (ah s))))), (8, .u (.one (.d (.int .i64 0))))] [] (by rfl) (by rfl) (by
   refine EE.here ?_
   simp -dsimp []
 ) fun ρ σ hf => ?_
 refine (ie cx hn s v g4 hf).mono fun ee ρ σ x5 => ?_
 rcases o_ with r | _u
 ·unfold bb at x5
  dsimp only at x5
  obtain ⟨rfl, x5⟩ := x5
  refine aN (ag ?_)
  cases hm
  exact ⟨.inr rfl, x5⟩
 ·unfold bb at x5
  dsimp only at x5
  obtain ⟨rfl, x5⟩ := x5
  refine au ?_
  refine a6 ?_
  refine b5 (by rfl) (by rfl) x5 fun ρ σ hf => ?_
  simp only [Fits, am, ap, and_true] at hf
  refine srs hn (by kernel_rfl) ?_
  simp -dsimp
  refine aa ?_
  cases hm
  refine ⟨.inr rfl, ?_⟩
  refine EE.here ?_
  simp -dsimp
theorem iw (s : List Int) (v : Int) (r : Int) (hm : cF s v = some r) : PureCall Tryz.prog 141 [.u (.one (.d (.sl 1 (List.map (rI .i64) s)))), .u (.one (.d (.int .i64 v)))] (.u (.one (.d (.int .i64 r)))) := (ix s v r hm).pureW
theorem i1 (s : List Int) (v : Int) (r : Bool) (hm : bo s v = some r) : PFn Tryz.prog 80 [.u (.one (.d (.sl 1 (List.map (rI .i64) s)))), .u (.one (.d (.int .i64 v)))] (fun v => v.wk (.u (.one (.d (.bool r))))) := by
 refine aX Tryz.func80 Tryz.ntmps80 rfl (by kernel_rfl) (by simp) fun cx hn => ?_
 unfold bo at hm
 refine srs hn (by kernel_rfl) ?_
 simp -dsimp []
 refine srs hn (by kernel_rfl) ?_
 obtain ⟨y, h1, hm⟩ := bnd hm
 simp -dsimp []
 refine ae (iw s v y h1) (by rw [hn]; decide) ?_
 simp -dsimp
 refine aa ?_
 cases hm
 refine ⟨.inr rfl, ?_⟩
 refine EE.here ?_
 simp -dsimp
theorem ep (s : List Int) (v : Int) (r : Bool) (hm : bo s v = some r) : PureCall Tryz.prog 80 [.u (.one (.d (.sl 1 (List.map (rI .i64) s)))), .u (.one (.d (.int .i64 v)))] (.u (.one (.d (.bool r)))) := (i1 s v r hm).pureW
theorem f_totaltree_Totals_2 (s : totaltree_sum) (a : Totals) (r : Int) (hm : d9 s a = some r) : PFn Tryz.prog 79 [.u (.agg [.d (.int .i64 s.ones), .d (.int .i64 s.centre)]), .u (.one (.ref (Totals.row a) 0))] (fun v => v.wk (.u (.one (.d (.int .i64 r))))) := by
 refine aX Tryz.func79 Tryz.ntmps79 rfl (by kernel_rfl) (by simp) fun cx hn => ?_
 unfold d9 at hm
 refine srs hn (by kernel_rfl) ?_
 simp -dsimp []
 refine srs hn (by kernel_rfl) ?_
 simp -dsimp []
 refine ac (ai ?_)
 refine srs hn (by kernel_rfl) ?_
 simp -dsimp []
 rcases aj hm with ⟨c1, hm⟩ | ⟨c1, hm⟩
 ·refine a8 (b := (eqB s.centre 0)) (by simp -dsimp []) c1 ?_
  obtain ⟨next, j4, hm⟩ := bnd hm
  refine aw [(4, .u (.one (.d (.int .i64 next))))] [] (by rfl) (by rfl) ?_ fun ρ σ hf => ?_
  ·replace hm := j4
   clear j4
   refine srs hn (by kernel_rfl) ?_
   obtain ⟨y, h2, hm⟩ := bnd hm
   simp -dsimp [c1]
   refine ae (ep a.Birth s.ones y h2) (by rw [hn]; decide) ?_
   simp -dsimp
   rcases aj hm with ⟨c3, hm⟩ | ⟨c3, hm⟩
   ·refine a8 (b := y) (by simp -dsimp) c3 ?_
    refine sr1 hn (by kernel_rfl) ?_
    simp -dsimp [c3]
    refine a6 ?_
    cases hm
    refine EE.here ?_
    simp -dsimp
   ·refine a7 (b := y) (by simp -dsimp) c3 ?_
    refine ab (a6 ?_)
    cases hm
    refine EE.here ?_
    simp -dsimp [c3]
  ·clear j4
   simp only [Fits, am, ap, and_true] at hf
   refine srs hn (by kernel_rfl) ?_
   simp -dsimp [hf]
   refine aa (aN (ag ?_))
   cases hm
   refine ⟨.inr rfl, ?_⟩
   refine EE.here ?_
   simp -dsimp
 ·refine a7 (b := (eqB s.centre 0)) (by simp -dsimp []) c1 ?_
  obtain ⟨a1, j9, hm⟩ := bnd hm
  refine aw [(1, .u (.one (.ref (Totals.row a) 0))), (4, .u (.one (.d (.int .i64 s.centre)))), (17, .u (.one (.d (.bool a1))))] [] (by rfl) (by rfl) ?_ fun ρ σ hf => ?_
  ·replace hm := j9
   clear j9
   refine sr1 hn (by kernel_rfl) ?_
   rcases aj hm with ⟨c5, hm⟩ | ⟨c5, hm⟩
   ·obtain ⟨y, h6, hm⟩ := bnd hm
    simp -dsimp [c1, c5]
    refine ae (ep a.Survive s.ones y h6) (by rw [hn]; decide) ?_
    simp -dsimp
    refine a6 ?_
    cases hm
    refine EE.here ?_
    simp -dsimp
   ·simp -dsimp [c1, c5]
    refine a6 ?_
    cases hm
    refine EE.here ?_
    simp -dsimp
  ·clear j9
   simp only [Fits, am, ap, and_true] at hf
   rcases aj hm with ⟨c7, hm⟩ | ⟨c7, hm⟩
   ·refine a8 (b := a1) (by simp -dsimp [hf]) c7 ?_
    refine srs hn (by kernel_rfl) ?_
    simp -dsimp
    refine aa (aN (ag ?_))
    cases hm
    refine ⟨.inr rfl, ?_⟩
    refine EE.here ?_
    simp -dsimp
   ·refine a7 (b := a1) (by simp -dsimp [hf]) c7 ?_
    refine ab ?_
    refine aJ ?_
    refine a6 ?_
    refine srs hn (by kernel_rfl) ?_
    obtain ⟨n, h8, hm⟩ := bnd hm
    simp -dsimp [hf, h8]
    refine aa ?_
    cases hm
    refine ⟨.inr rfl, ?_⟩
    refine EE.here ?_
    simp -dsimp
theorem c_totaltree_Totals_2 (s : totaltree_sum) (a : Totals) (r : Int) (hm : d9 s a = some r) : PureCall Tryz.prog 79 [.u (.agg [.d (.int .i64 s.ones), .d (.int .i64 s.centre)]), .u (.one (.ref (Totals.row a) 0))] (.u (.one (.d (.int .i64 r)))) := (f_totaltree_Totals_2 s a r hm).pureW
theorem iG (s : totaltree_sum) (at_ : Int) (state : Int) (a : Int) (r : Int × Int) (hm : dG s at_ state a = some r) : GFn Tryz.prog 78 [.u (.agg [.d (.int .i64 s.ones), .d (.int .i64 s.centre)]), .u (.one (.d (.int .i64 at_))), .u (.one (.d (.int .i64 state))), .u (.one (.box 1000000 0))] [.box [.d (.int .i64 a)]] (.u (.agg [.d (.int .i64 r.1), .d (.int .i64 r.2)])) [some (.box [.d (.int .i64 a)])] := by
 refine bL aK _ Tryz.func78 rfl (by kernel_rfl) (by simp [Tryz.ntmps78]) (by simp) (by first | rfl | simp) (by first | rfl | simp) fun cx hn hk => ?_
 replace hn : cx.n = 22 := hn.trans Tryz.ntmps78
 replace hk : cx.k = 1 := hk
 unfold dG at hm
 refine srs hn (by kernel_rfl) ?_
 simp -dsimp []
 obtain ⟨⟨sones, scentre⟩, j3, hm⟩ := bnd hm
 refine aw [(4, .u (.one (.box 4 0))), (7, .u (.one (.box 7 0)))] [(4, .box [.d (.int .i64 sones), .d (.int .i64 scentre)]), (7, .box [.d (.int .i64 0), .d (.int .i64 0)]), (1000000, .box [.d (.int .i64 a)])] (by rfl) (by rfl) ?_ fun ρ σ hf => ?_
 ·replace hm := j3
  clear j3
  refine ai ?_
  refine srs hn (by kernel_rfl) ?_
  simp -dsimp []
  rcases aj hm with ⟨c1, hm⟩ | ⟨c1, hm⟩
  ·refine a8 (b := (eqB at_ a)) (by simp -dsimp []) c1 ?_
   refine sr1 hn (by kernel_rfl) ?_
   simp -dsimp [c1]
   refine aJ ?_
   refine a6 ?_
   cases hm
   refine EE.here ?_
   simp -dsimp
  ·refine a7 (b := (eqB at_ a)) (by simp -dsimp []) c1 ?_
   refine srs hn (by kernel_rfl) ?_
   simp -dsimp [c1]
   rcases aj hm with ⟨c2, hm⟩ | ⟨c2, hm⟩
   ·refine a8 (b := (eqB state 1)) (by simp -dsimp) c2 ?_
    refine sr1 hn (by kernel_rfl) ?_
    simp -dsimp [c2]
    refine aJ ?_
    refine a6 ?_
    cases hm
    refine EE.here ?_
    simp -dsimp
   ·refine a7 (b := (eqB state 1)) (by simp -dsimp) c2 ?_
    refine ab ?_
    refine aJ ?_
    refine a6 ?_
    cases hm
    refine EE.here ?_
    simp -dsimp [c2]
 ·clear j3
  simp only [Fits, am, ap, and_true] at hf
  refine srs hn (by kernel_rfl) ?_
  simp -dsimp [hf]
  refine aa ?_
  cases hm
  refine ⟨.inr rfl, ?_⟩
  refine EE.here ?_
  simp -dsimp [hf]
theorem f_internal_strconv_small (i : Int) (r : List UInt8) (hm : cd i = some r) : PFn Tryz.prog 257 [.u (.one (.d (.int .i64 i)))] (fun v => v.wk (.u (.one (.d (.str (bs r)))))) := by
 refine aX Tryz.func257 Tryz.ntmps257 rfl (by kernel_rfl) (by simp) fun cx hn => ?_
 unfold cd at hm
 refine srs hn (by kernel_rfl) ?_
 simp -dsimp []
 refine ac ?_
 refine srs hn (by kernel_rfl) ?_
 simp -dsimp []
 rcases aj hm with ⟨c1, hm⟩ | ⟨c1, hm⟩
 ·refine a8 (b := (ltB i 10)) (by simp -dsimp []) c1 ?_
  refine srs hn (by kernel_rfl) ?_
  obtain ⟨s, h2, hm⟩ := bnd hm
  simp -dsimp [c1, h2]
  refine aa (ag ?_)
  cases hm
  refine ⟨.inr rfl, ?_⟩
  refine EE.here ?_
  simp -dsimp
 ·refine a7 (b := (ltB i 10)) (by simp -dsimp []) c1 ?_
  refine ab (a6 ?_)
  refine srs hn (by kernel_rfl) ?_
  obtain ⟨s, h3, hm⟩ := bnd hm
  simp -dsimp [c1, h3]
  refine aa ?_
  cases hm
  refine ⟨.inr rfl, ?_⟩
  refine EE.here ?_
  simp -dsimp
theorem c_internal_strconv_small (i : Int) (r : List UInt8) (hm : cd i = some r) : PureCall Tryz.prog 257 [.u (.one (.d (.int .i64 i)))] (.u (.one (.d (.str (bs r))))) := (f_internal_strconv_small i r hm).pureW
theorem g_internal_strconv_AppendUint_o (dst : List Int) (i : Int) (base : Int) (r : List Int) (hm : bk dst i base = some r) : GFn Tryz.prog 233 [.u (.one (.own 1000000)), .u (.one (.d (.int .u64 i))), .u (.one (.d (.int .i64 base)))] [.row 1 5 (List.map (rI .u8) dst)] (.u (.one (.own 1000001))) [none, some (.row 1 5 (List.map (rI .u8) r))] := by
 refine bL aK _ Tryz.func233 rfl (by kernel_rfl) (by simp [Tryz.ntmps233]) (by simp) (by first | rfl | simp) (by first | rfl | simp) fun cx hn hk => ?_
 replace hn : cx.n = 36 := hn.trans Tryz.ntmps233
 replace hk : cx.k = 1 := hk
 unfold bk at hm
 refine srs hn (by kernel_rfl) ?_
 simp -dsimp []
 refine ac ?_
 refine srs hn (by kernel_rfl) ?_
 simp -dsimp []
 rcases aj hm with ⟨c1, hm⟩ | ⟨c1, hm⟩
 ·refine a8 (b := (eqB base 10)) (by simp -dsimp []) c1 ?_
  refine ac ?_
  refine srs hn (by kernel_rfl) ?_
  simp -dsimp [c1]
  rcases aj hm with ⟨c2, hm⟩ | ⟨c2, hm⟩
  ·refine a8 (b := (ltB i 100)) (by simp -dsimp) c2 ?_
   refine srs hn (by kernel_rfl) ?_
   obtain ⟨y, h3, hm⟩ := bnd hm
   simp -dsimp [c2]
   refine ae (c_internal_strconv_small (fZ .i64 i) y h3) (by rw [hn]; decide) ?_
   obtain ⟨l, h4, hm⟩ := bnd hm
   obtain ⟨h4a, h4e⟩ := aL h4
   replace h4e := h4e.symm
   subst h4e
   try simp only [List.length_cons, List.length_nil, Nat.zero_add, List.nil_append, List.length_append, List.length_map, List.length_replicate] at h4a
   try simp only [Nat.mul_one, toB_len] at h4a
   simp -dsimp [h4a]
   refine aa (ag (ag ?_))
   cases hm
   refine ⟨.inr rfl, ?_⟩
   refine EE.step (Wk.move 17 1000001 (by decide) (.inr (by rw [hk]; decide))) ?_
   refine EE.here ?_
   simp -dsimp
  ·refine a7 (b := (ltB i 100)) (by simp -dsimp) c2 ?_
   refine ab (a6 ?_)
   refine srs hn (by kernel_rfl) ?_
   simp -dsimp [c2]
   refine srs hn (by kernel_rfl) ?_
   cases hm
 ·refine a7 (b := (eqB base 10)) (by simp -dsimp []) c1 ?_
  refine ab (a6 ?_)
  refine srs hn (by kernel_rfl) ?_
  cases hm
theorem g_internal_strconv_AppendInt_o (dst : List Int) (i : Int) (base : Int) (r : List Int) (hm : ca dst i base = some r) : GFn Tryz.prog 189 [.u (.one (.own 1000000)), .u (.one (.d (.int .i64 i))), .u (.one (.d (.int .i64 base)))] [.row 1 5 (List.map (rI .u8) dst)] (.u (.one (.own 1000001))) [none, some (.row 1 5 (List.map (rI .u8) r))] := by
 refine bL aK _ Tryz.func189 rfl (by kernel_rfl) (by simp [Tryz.ntmps189]) (by simp) (by first | rfl | simp) (by first | rfl | simp) fun cx hn hk => ?_
 replace hn : cx.n = 21 := hn.trans Tryz.ntmps189
 replace hk : cx.k = 1 := hk
 unfold ca at hm
 refine srs hn (by kernel_rfl) ?_
 simp -dsimp []
 refine srs hn (by kernel_rfl) ?_
 simp -dsimp []
 obtain ⟨⟨u, dst1⟩, j4, hm⟩ := bnd hm
 refine aw [(0, .u (.one (.own 5000))), (2, .u (.one (.d (.int .i64 base)))), (7, .u (.one (.d (.int .u64 u))))] [(5000, .row 1 5 (List.map (rI .u8) dst1))] (by rfl) (by rfl) ?_ fun ρ σ hf => ?_
 ·replace hm := j4
  clear j4
  refine srs hn (by kernel_rfl) ?_
  simp -dsimp []
  rcases aj hm with ⟨c1, hm⟩ | ⟨c1, hm⟩
  ·refine a8 (b := (ltB i 0)) (by simp -dsimp []) c1 ?_
   refine srs hn (by kernel_rfl) ?_
   obtain ⟨l, h2, hm⟩ := bnd hm
   obtain ⟨h2a, h2e⟩ := aL h2
   replace h2e := h2e.symm
   subst h2e
   try simp only [List.length_cons, List.length_nil, Nat.zero_add] at h2a
   try simp only [Nat.mul_one, Nat.reduceLeDiff] at h2a
   simp -dsimp [c1, h2a]
   refine sr1 hn (by kernel_rfl) ?_
   simp -dsimp
   refine a6 ?_
   cases hm
   refine EE.step (Wk.move 14 5000 (by decide) (.inl (by decide))) ?_
   refine EE.here ?_
   simp -dsimp
  ·refine a7 (b := (ltB i 0)) (by simp -dsimp []) c1 ?_
   refine ab (a6 ?_)
   cases hm
   refine EE.step (Wk.move 1000000 5000 (by decide) (.inl (by decide))) ?_
   refine EE.here ?_
   simp -dsimp [c1]
 ·clear j4
  simp only [Fits, am, ap, and_true] at hf
  refine srs hn (by kernel_rfl) ?_
  obtain ⟨y, h3, hm⟩ := bnd hm
  simp -dsimp [hf]
  refine bB (g_internal_strconv_AppendUint_o dst1 u base y h3) [5000] [5001] rfl rfl rfl (by simp -dsimp []) rfl (by simp -dsimp [hf]) (by first | rfl | simp) rfl (by rw [hn]; decide) ?_
  simp -dsimp
  refine aa ?_
  cases hm
  refine ⟨.inr rfl, ?_⟩
  refine EE.step (Wk.move 5001 1000001 (by decide) (.inr (by rw [hk]; decide))) ?_
  refine EE.here ?_
  simp -dsimp
theorem g_strconv_AppendInt_o (dst : List Int) (i : Int) (base : Int) (r : List Int) (hm : bV dst i base = some r) : GFn Tryz.prog 143 [.u (.one (.own 1000000)), .u (.one (.d (.int .i64 i))), .u (.one (.d (.int .i64 base)))] [.row 1 5 (List.map (rI .u8) dst)] (.u (.one (.own 1000001))) [none, some (.row 1 5 (List.map (rI .u8) r))] := by
 refine bL aK _ Tryz.func143 rfl (by kernel_rfl) (by simp [Tryz.ntmps143]) (by simp) (by first | rfl | simp) (by first | rfl | simp) fun cx hn hk => ?_
 replace hn : cx.n = 11 := hn.trans Tryz.ntmps143
 replace hk : cx.k = 1 := hk
 unfold bV at hm
 refine srs hn (by kernel_rfl) ?_
 simp -dsimp []
 refine srs hn (by kernel_rfl) ?_
 obtain ⟨y, h1, hm⟩ := bnd hm
 simp -dsimp []
 refine bB (g_internal_strconv_AppendInt_o dst i base y h1) [1000000] [5000] rfl rfl rfl (by simp -dsimp []) rfl (by simp -dsimp []) (by first | rfl | simp) rfl (by rw [hn]; decide) ?_
 simp -dsimp
 refine aa ?_
 cases hm
 refine ⟨.inr rfl, ?_⟩
 refine EE.step (Wk.move 5000 1000001 (by decide) (.inr (by rw [hk]; decide))) ?_
 refine EE.here ?_
 simp -dsimp
end Go.Proofs.YtfpjnmhdbgbmmaaGreatDoor
