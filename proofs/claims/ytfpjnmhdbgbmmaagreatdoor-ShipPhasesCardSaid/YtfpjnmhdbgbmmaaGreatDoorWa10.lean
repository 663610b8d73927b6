/- That the code does what the functions say (made by cc.py). -/
import Derived.Test.YtfpjnmhdbgbmmaaGreatDoorWa9
namespace Go.Proofs.YtfpjnmhdbgbmmaaGreatDoor
open Go.AM Go.Proofs
attribute [-simp] qlookup du fQ Ob.wipe Ob.ren Ob.frz1
set_option maxRecDepth 20000 in
theorem f_L50_awake (r : Bool) (hm : gH = some r) : PFn Tryz.prog 6 [] (fun v => v.wk (.u (.one (.d (.bool r))))) := by
 refine aV Tryz.func6 Tryz.ntmps6 rfl (by kernel_rfl) (by simp) fun cx hn => ?_
 unfold gH at hm
 refine srs hn ?_
 simp -dsimp
 refine srs hn ?_
 obtain ⟨y, h1, hm⟩ := bnd hm
 simp -dsimp
 refine ag (c_notation_Parse ([66, 51, 47, 83, 50, 51] : List UInt8) y h1) (dkL hn) ?_
 simp -dsimp
 refine srs hn ?_
 obtain ⟨y1, h2, hm⟩ := bnd hm
 simp -dsimp
 refine ag (c_L50_glider y1 h2) (dkL hn) ?_
 simp -dsimp
 refine srs hn ?_
 obtain ⟨y2, h3, hm⟩ := bnd hm
 simp -dsimp
 refine ag (c_ship_Place y.1 [y1] (⟨0, 0, 0, 0, 0⟩ : Shot) y2 h3) (dkL hn) ?_
 simp -dsimp
 refine bF aL mixed (by rw [hn]; kernel_rfl) ?_
 obtain ⟨x, h4, hm⟩ := bnd hm
 obtain ⟨y3, h5, hm⟩ := bnd hm
 simp -dsimp [(@id (idx [[(.sl 3 (List.map Cell.row y1.Cells)), (.int .i64 y1.Motion.Period), (.int .i64 y1.Motion.DX), (.int .i64 y1.Motion.DY)]] 0 = some (Ship.row x)) (idx_rows Ship.row h4))]
 refine al (ku y.1 x 1 y3 h5) ?_
 simp -dsimp
 refine srs hn ?_
 obtain ⟨y4, h6, hm⟩ := bnd hm
 simp -dsimp
 refine ag (c_ship_Later y.1 [y1] (⟨0, 0, 0, 5, 5⟩ : Shot) 6 y4 h6) (dkL hn) ?_
 simp -dsimp
 refine srs hn ?_
 obtain ⟨y5, h7, hm⟩ := bnd hm
 simp -dsimp [(@id (idx [[(.sl 3 (List.map Cell.row y1.Cells)), (.int .i64 y1.Motion.Period), (.int .i64 y1.Motion.DX), (.int .i64 y1.Motion.DY)]] 0 = some (Ship.row x)) (idx_rows Ship.row h4))]
 refine ag (c_ship_Stream (⟨0, 0, 0, 0, 0⟩ : Shot) x.Motion 3 5 y5 h7) (dkL hn) ?_
 simp -dsimp
 refine ac ?_
 obtain ⟨a, j25, hm⟩ := bnd hm
 refine au [(1, .u (.one (.box 1 0))), (3, .u (.one (.d (.sl 4 (List.map Ship.row [y1]))))), (4, .u (.one (.d (.sl 3 (List.map Cell.row y2.1))))), (6, .u (.one (.d (.sl 3 (List.map Cell.row y3.1))))), (8, .u (.one (.box 8 0))), (10, .u (.one (.d (.sl 5 (List.map Shot.row y5.1))))), (71, .u (.one (.d (.bool a))))] [(1, .box [.d (.int .i64 y.1.States), .d (.sl 2 (List.map Point.row y.1.Hood)), .d (.sl 2 (List.map Node.row y.1.Nodes))]), (8, .box [.d (.int .i64 y4.1.Ship), .d (.int .i64 y4.1.Phase), .d (.int .i64 y4.1.Sym), .d (.int .i64 y4.1.X), .d (.int .i64 y4.1.Y)])] (by rfl) (by rfl) ?_ fun ρ σ hf => ?_
 ·replace hm := j25
  clear j25
  refine sr1 hn ?_
  rcases aj hm with ⟨c8, hm⟩ | ⟨c8, hm⟩
  ·simp -dsimp [c8]
   refine a6 ?_
   cases hm
   exact EE.here (by simp -dsimp)
  ·rcases aj hm with ⟨c9, hm⟩ | ⟨c9, hm⟩
   ·simp -dsimp [c8, c9]
    refine a6 ?_
    cases hm
    exact EE.here (by simp -dsimp)
   ·rcases aj hm with ⟨c10, hm⟩ | ⟨c10, hm⟩
    ·simp -dsimp [c8, c9, c10]
     refine a6 ?_
     cases hm
     exact EE.here (by simp -dsimp)
    ·rcases aj hm with ⟨c11, hm⟩ | ⟨c11, hm⟩
     ·simp -dsimp [c8, c9, c10, c11]
      refine a6 ?_
      cases hm
      exact EE.here (by simp -dsimp)
     ·rcases aj hm with ⟨c12, hm⟩ | ⟨c12, hm⟩
      ·simp -dsimp [c8, c9, c10, c11, c12]
       refine a6 ?_
       cases hm
       exact EE.here (by simp -dsimp)
      ·simp -dsimp [c8, c9, c10, c11, c12]
       refine a6 ?_
       cases hm
       exact EE.here (by simp -dsimp)
 ·clear j25
  simp only [Fits, ar, ap, and_true] at hf
  rcases aj hm with ⟨c13, hm⟩ | ⟨c13, hm⟩
  ·refine a8 (by simp -dsimp [hf]) c13 ?_
   refine srs hn ?_
   simp -dsimp
   refine ab (ae ?_)
   cases hm
   refine ⟨.inr rfl, ?_⟩
   exact EE.here (by simp -dsimp)
  ·refine a7 (by simp -dsimp [hf]) c13 ?_
   refine aa (a6 ?_)
   obtain ⟨a1, j24, hm⟩ := bnd hm
   refine au [(0, .u (.one (.d (.bool a1))))] [] (by rfl) (by rfl) ?_ fun ρ σ hf => ?_
   ·replace hm := j24
    clear j24
    refine iR aL mixed (by rw [hn]; kernel_rfl) ?_
    obtain ⟨y6, h14, hm⟩ := bnd hm
    simp -dsimp [hf, (@id (idx [[(.sl 3 (List.map Cell.row y1.Cells)), (.int .i64 y1.Motion.Period), (.int .i64 y1.Motion.DX), (.int .i64 y1.Motion.DY)]] 0 = some (Ship.row x)) (idx_rows Ship.row h4))]
    refine al (kC y.1 x y6 h14) ?_
    rcases aj hm with ⟨c15, hm⟩ | ⟨c15, hm⟩
    ·obtain ⟨y7, h16, hm⟩ := bnd hm
     simp -dsimp [hf, (@id (idx [[(.sl 3 (List.map Cell.row y1.Cells)), (.int .i64 y1.Motion.Period), (.int .i64 y1.Motion.DX), (.int .i64 y1.Motion.DY)]] 0 = some (Ship.row x)) (idx_rows Ship.row h4)), c15]
     refine al (c_R05_Same y2.1 x.Cells y7 h16) ?_
     rcases aj hm with ⟨c17, hm⟩ | ⟨c17, hm⟩
     ·obtain ⟨y8, h18, hm⟩ := bnd hm
      simp -dsimp [hf, c17]
      refine al (c_R05_Same y3.1 [(⟨0, 0, 1⟩ : Cell), (⟨2, 0, 1⟩ : Cell), (⟨1, 1, 1⟩ : Cell), (⟨2, 1, 1⟩ : Cell), (⟨1, 2, 1⟩ : Cell)] y8 h18) ?_
      rcases aj hm with ⟨c19, hm⟩ | ⟨c19, hm⟩
      ·rcases aj hm with ⟨c20, hm⟩ | ⟨c20, hm⟩
       ·obtain ⟨x1, h21, hm⟩ := bnd hm
        rcases aj hm with ⟨c22, hm⟩ | ⟨c22, hm⟩
        ·obtain ⟨y9, h23, hm⟩ := bnd hm
         simp -dsimp [hf, (@id (idx [[(.sl 3 (List.map Cell.row y1.Cells)), (.int .i64 y1.Motion.Period), (.int .i64 y1.Motion.DX), (.int .i64 y1.Motion.DY)]] 0 = some (Ship.row x)) (idx_rows Ship.row h4)), c19, c20, h21, c22]
         refine al (c_ship_Turned 1 x.Motion y9 h23) ?_
         simp -dsimp
         refine a6 ?_
         cases hm
         exact EE.here (by simp -dsimp)
        ·simp -dsimp [hf, c19, c20, h21, c22]
         refine a6 ?_
         cases hm
         exact EE.here (by simp -dsimp)
       ·simp -dsimp [hf, c19, c20]
        refine a6 ?_
        cases hm
        exact EE.here (by simp -dsimp)
      ·simp -dsimp [c19]
       refine a6 ?_
       cases hm
       exact EE.here (by simp -dsimp)
     ·simp -dsimp [c17]
      refine a6 ?_
      cases hm
      exact EE.here (by simp -dsimp)
    ·simp -dsimp [c15]
     refine a6 ?_
     cases hm
     exact EE.here (by simp -dsimp)
   ·clear j24
    simp only [Fits, ar, ap, and_true] at hf
    refine ab ?_
    cases hm
    refine ⟨.inr rfl, ?_⟩
    exact EE.here (by simp -dsimp [hf])
theorem c_L50_awake (r : Bool) (hm : gH = some r) : PureCall Tryz.prog 6 [] (.u (.one (.d (.bool r)))) := (f_L50_awake r hm).pureW
theorem f_R07_before (a : Point) (b : Point) (r : Bool) (hm : fL a b = some r) : PFn Tryz.prog 173 [.u (.agg [.d (.int .i64 a.X), .d (.int .i64 a.Y)]), .u (.agg [.d (.int .i64 b.X), .d (.int .i64 b.Y)])] (fun v => v.wk (.u (.one (.d (.bool r))))) := by
 refine aV Tryz.func173 Tryz.ntmps173 rfl (by kernel_rfl) (by simp) fun cx hn => ?_
 unfold fL at hm
 refine srs hn ?_
 simp -dsimp
 obtain ⟨a1, j3, hm⟩ := bnd hm
 refine au [(4, .u (.one (.d (.bool a1))))] [] (by rfl) (by rfl) ?_ fun ρ σ hf => ?_
 ·replace hm := j3
  clear j3
  refine sr1 hn ?_
  rcases aj hm with ⟨c1, hm⟩ | ⟨c1, hm⟩
  ·simp -dsimp [c1]
   refine a6 ?_
   cases hm
   exact EE.here (by simp -dsimp)
  ·rcases aj hm with ⟨c2, hm⟩ | ⟨c2, hm⟩
   ·simp -dsimp [c1, c2]
    refine a6 ?_
    cases hm
    exact EE.here (by simp -dsimp)
   ·simp -dsimp [c1, c2]
    refine a6 ?_
    cases hm
    exact EE.here (by simp -dsimp)
 ·clear j3
  simp only [Fits, ar, ap, and_true] at hf
  refine ab ?_
  cases hm
  refine ⟨.inr rfl, ?_⟩
  exact EE.here (by simp -dsimp [hf])
theorem c_R07_before (a : Point) (b : Point) (r : Bool) (hm : fL a b = some r) : PureCall Tryz.prog 173 [.u (.agg [.d (.int .i64 a.X), .d (.int .i64 a.Y)]), .u (.agg [.d (.int .i64 b.X), .d (.int .i64 b.Y)])] (.u (.one (.d (.bool r)))) := (f_R07_before a b r hm).pureW
def eX (cx : Cx) (_l : List Point) (tt : Bool ⊕ Unit) (ee : Exit) (ρ : Env) (σ : Sto) : Prop := match tt with
 | .inl r => ee = .ret ∧ EE cx (fun ρ σ => ∃ v, resV tb ρ σ Tryz.f116.results.toList = some v ∧ (v.frz σ).free = true ∧ (v.frz σ).wk (.u (.one (.d (.bool r))))) ρ σ
 | .inr _u => ee = .exit 0 ∧ EE cx (aS [] []) ρ σ
theorem l_R07_Right_1 (cx : Cx) (hn : cx.n = 55) (l : List Point) {fu : Nat} {stt : Int} {tt : Bool ⊕ Unit} (hh : ak (gh l) fu stt = some tt) {ρ : Env} {σ : Sto}
  (hE : aW (fun i : Int => [(0, .u (.one (.d (.sl 2 (List.map Point.row l))))), (3, .u (.one (.d (.int .i64 i))))]) (fun _i : Int => []) stt ρ σ) : Swp Tryz.prog cx (.loop (bg [1, 1, 0, 1, 0, 0] (aK Tryz.f116))) ρ σ (eX cx l tt) := by
 refine aY hE hh (eX cx l) ?_
 rintro i r hm ρ σ hf
 simp only [Fits, ar, ap, and_true] at hf
 unfold gh at hm
 dsimp only at hm
 refine ac ?_
 refine srs hn ?_
 simp -dsimp [hf]
 rcases aj hm with ⟨c3, hm⟩ | ⟨c3, hm⟩
 ·refine a8 (b := (ltB i (ah l))) (by simp -dsimp) c3 ?_
  refine aa (a6 (ac (ai ?_)))
  refine srs hn ?_
  obtain ⟨x, h4, hm⟩ := bnd hm
  simp -dsimp [hf, c3, h4]
  obtain ⟨a1, j13, hm⟩ := bnd hm
  refine au [(0, .u (.one (.d (.sl 2 (List.map Point.row l))))), (3, .u (.one (.d (.int .i64 i)))), (54, .u (.one (.d (.bool a1))))] [] (by rfl) (by rfl) ?_ fun ρ σ hf => ?_
  ·replace hm := j13
   clear j13
   refine iR aL mixed (by rw [hn]; kernel_rfl) ?_
   rcases aj hm with ⟨c5, hm⟩ | ⟨c5, hm⟩
   ·simp -dsimp [c5]
    refine a6 ?_
    cases hm
    exact EE.here (by simp -dsimp [hf])
   ·rcases aj hm with ⟨c6, hm⟩ | ⟨c6, hm⟩
    ·simp -dsimp [c5, c6]
     refine a6 ?_
     cases hm
     exact EE.here (by simp -dsimp [hf])
    ·rcases aj hm with ⟨c7, hm⟩ | ⟨c7, hm⟩
     ·simp -dsimp [c5, c6, c7]
      refine a6 ?_
      cases hm
      exact EE.here (by simp -dsimp [hf])
     ·rcases aj hm with ⟨c8, hm⟩ | ⟨c8, hm⟩
      ·simp -dsimp [c5, c6, c7, c8]
       refine a6 ?_
       cases hm
       exact EE.here (by simp -dsimp [hf])
      ·rcases aj hm with ⟨c9, hm⟩ | ⟨c9, hm⟩
       ·obtain ⟨x1, h10, hm⟩ := bnd hm
        obtain ⟨y, h11, hm⟩ := bnd hm
        simp -dsimp [hf, c5, c6, c7, c8, c9, h10]
        refine al (c_R07_before x1 x y h11) ?_
        simp -dsimp
        refine a6 ?_
        cases hm
        exact EE.here (by simp -dsimp [hf])
       ·simp -dsimp [hf, c5, c6, c7, c8, c9]
        refine a6 ?_
        cases hm
        exact EE.here (by simp -dsimp [hf])
  ·clear j13
   simp only [Fits, ar, ap, and_true] at hf
   rcases aj hm with ⟨c12, hm⟩ | ⟨c12, hm⟩
   ·refine a8 (by simp -dsimp [hf]) c12 ?_
    refine srs hn ?_
    simp -dsimp
    refine ab (aH (ae ?_))
    cases hm
    refine am nofun ?_
    unfold eX
    dsimp only
    refine ⟨rfl, ?_⟩
    exact EE.here (by simp -dsimp [Tryz.results116])
   ·refine a7 (by simp -dsimp [hf]) c12 ?_
    refine aa ?_
    refine aM ?_
    refine a6 ?_
    refine sr1 hn ?_
    simp -dsimp [hf]
    cases hm
    refine az ?_
    exact EE.here (by simp -dsimp [hf])
 ·refine a7 (b := (ltB i (ah l))) (by simp -dsimp) c3 ?_
  refine aw ?_
  refine ae ?_
  cases hm
  refine am nofun ?_
  unfold eX
  dsimp only
  refine ⟨rfl, ?_⟩
  exact EE.here (by simp -dsimp [c3])
set_option maxRecDepth 20000 in
theorem f_R07_Right (l : List Point) (r : Bool) (hm : gG l = some r) : PFn Tryz.prog 116 [.u (.one (.d (.sl 2 (List.map Point.row l))))] (fun v => v.wk (.u (.one (.d (.bool r))))) := by
 refine aV Tryz.func116 Tryz.ntmps116 rfl (by kernel_rfl) (by simp) fun cx hn => ?_
 unfold gG at hm
 refine srs hn ?_
 simp -dsimp
 refine ac ?_
 obtain ⟨a, j16, hm⟩ := bnd hm
 refine au [(0, .u (.one (.d (.sl 2 (List.map Point.row l))))), (12, .u (.one (.d (.bool a))))] [] (by rfl) (by rfl) ?_ fun ρ σ hf => ?_
 ·replace hm := j16
  clear j16
  refine sr1 hn ?_
  rcases aj hm with ⟨c1, hm⟩ | ⟨c1, hm⟩
  ·simp -dsimp [c1]
   refine a6 ?_
   cases hm
   exact EE.here (by simp -dsimp)
  ·simp -dsimp [c1]
   refine a6 ?_
   cases hm
   exact EE.here (by simp -dsimp)
 ·clear j16
  simp only [Fits, ar, ap, and_true] at hf
  rcases aj hm with ⟨c2, hm⟩ | ⟨c2, hm⟩
  ·refine a8 (by simp -dsimp [hf]) c2 ?_
   refine srs hn ?_
   simp -dsimp
   refine ab (ae ?_)
   cases hm
   refine ⟨.inr rfl, ?_⟩
   exact EE.here (by simp -dsimp)
  ·refine a7 (by simp -dsimp [hf]) c2 ?_
   refine aa (a6 (ac ?_))
   refine srs hn ?_
   simp -dsimp
   refine ai ?_
   obtain ⟨o_, g14, hm⟩ := bnd hm
   refine aJ (l_R07_Right_1 cx hn l g14) (by
     try dsimp only
     exact EE.here (by simp -dsimp [hf])
   ) fun ee ρ σ x15 => ?_
   rcases o_ with r | _u
   ·unfold eX at x15
    dsimp only at x15
    obtain ⟨rfl, x15⟩ := x15
    refine aH (ae ?_)
    cases hm
    exact ⟨.inr rfl, x15⟩
   ·unfold eX at x15
    dsimp only at x15
    obtain ⟨rfl, x15⟩ := x15
    refine av ?_
    refine a6 ?_
    refine aX (by rfl) (by rfl) x15 fun ρ σ hf => ?_
    simp only [Fits, ar, ap, and_true] at hf
    refine srs hn ?_
    simp -dsimp
    refine ab ?_
    cases hm
    refine ⟨.inr rfl, ?_⟩
    exact EE.here (by simp -dsimp)
theorem c_R07_Right (l : List Point) (r : Bool) (hm : gG l = some r) : PureCall Tryz.prog 116 [.u (.one (.d (.sl 2 (List.map Point.row l))))] (.u (.one (.d (.bool r)))) := (f_R07_Right l r hm).pureW
def d7 (cx : Cx) (t : Tree) (i : Int) (_x : Node) (tt : Bool ⊕ Unit) (ee : Exit) (ρ : Env) (σ : Sto) : Prop := match tt with
 | .inl r => ee = .ret ∧ EE cx (fun ρ σ => ∃ v, resV tb ρ σ Tryz.f55.results.toList = some v ∧ (v.frz σ).free = true ∧ (v.frz σ).wk (.u (.one (.d (.bool r))))) ρ σ
 | .inr _u => ee = .exit 2 ∧ EE cx (aS [(1, .u (.one (.box 1 0))), (3, .u (.one (.d (.int .i64 (ah t.Nodes))))), (4, .u (.one (.d (.int .i64 i))))] [(1, .box [.d (.int .i64 t.States), .d (.sl 2 (List.map Point.row t.Hood)), .d (.sl 2 (List.map Node.row t.Nodes))])]) ρ σ
theorem l_R12_Right_2 (cx : Cx) (hn : cx.n = 115) (t : Tree) (i : Int) (x : Node) {fu : Nat} {stt : Int} {tt : Bool ⊕ Unit} (hh : ak (eW t i x) fu stt = some tt) {ρ : Env} {σ : Sto}
  (hE : aW (fun s : Int => [(1, .u (.one (.box 1 0))), (3, .u (.one (.d (.int .i64 (ah t.Nodes))))), (4, .u (.one (.d (.int .i64 i)))), (5, .u (.one (.box 5 0))), (6, .u (.one (.d (.int .i64 s))))]) (fun _s : Int => [(1, .box [.d (.int .i64 t.States), .d (.sl 2 (List.map Point.row t.Hood)), .d (.sl 2 (List.map Node.row t.Nodes))]), (5, .box [.d (.int .i64 x.Level), .d (.sl 1 (List.map (rI .i64) x.Next))])]) stt ρ σ) : Swp Tryz.prog cx (.loop (bg [1, 1, 1, 0, 1, 0, 0, 1, 0, 0, 1, 1, 1, 0, 0] (aK Tryz.f55))) ρ σ (d7 cx t i x tt) := by
 refine aY hE hh (d7 cx t i x) ?_
 rintro s r hm ρ σ hf
 simp only [Fits, ar, ap, and_true] at hf
 unfold eW at hm
 dsimp only at hm
 refine ac ?_
 refine srs hn ?_
 simp -dsimp [hf]
 rcases aj hm with ⟨c12, hm⟩ | ⟨c12, hm⟩
 ·refine a8 (b := (ltB s t.States)) (by simp -dsimp) c12 ?_
  refine aa (a6 (ac (ai ?_)))
  refine srs hn ?_
  obtain ⟨x1, h13, hm⟩ := bnd hm
  simp -dsimp [hf, c12, h13]
  refine ac ?_
  refine srs hn ?_
  simp -dsimp
  rcases aj hm with ⟨c14, hm⟩ | ⟨c14, hm⟩
  ·refine a8 (b := (ltB x1 0)) (by simp -dsimp) c14 ?_
   refine srs hn ?_
   simp -dsimp [c14]
   refine ab (ae (aH (ae ?_)))
   cases hm
   refine am nofun ?_
   unfold d7
   dsimp only
   refine ⟨rfl, ?_⟩
   exact EE.here (by simp -dsimp [Tryz.results55])
  ·refine a7 (b := (ltB x1 0)) (by simp -dsimp) c14 ?_
   refine aa (a6 (ac ?_))
   obtain ⟨a2, j22, hm⟩ := bnd hm
   refine au [(1, .u (.one (.box 1 0))), (3, .u (.one (.d (.int .i64 (ah t.Nodes))))), (4, .u (.one (.d (.int .i64 i)))), (5, .u (.one (.box 5 0))), (6, .u (.one (.d (.int .i64 s)))), (7, .u (.one (.d (.int .i64 x1)))), (83, .u (.one (.d (.bool a2))))] [(1, .box [.d (.int .i64 t.States), .d (.sl 2 (List.map Point.row t.Hood)), .d (.sl 2 (List.map Node.row t.Nodes))]), (5, .box [.d (.int .i64 x.Level), .d (.sl 1 (List.map (rI .i64) x.Next))])] (by rfl) (by rfl) ?_ fun ρ σ hf => ?_
   ·replace hm := j22
    clear j22
    refine sr1 hn ?_
    rcases aj hm with ⟨c15, hm⟩ | ⟨c15, hm⟩
    ·simp -dsimp [hf, c14, c15]
     refine a6 ?_
     cases hm
     exact EE.here (by simp -dsimp [hf])
    ·simp -dsimp [hf, c14, c15]
     refine a6 ?_
     cases hm
     exact EE.here (by simp -dsimp [hf])
   ·clear j22
    simp only [Fits, ar, ap, and_true] at hf
    rcases aj hm with ⟨c16, hm⟩ | ⟨c16, hm⟩
    ·refine a8 (by simp -dsimp [hf]) c16 ?_
     refine srs hn ?_
     simp -dsimp
     refine ab (ae (aH (ae ?_)))
     cases hm
     refine am nofun ?_
     unfold d7
     dsimp only
     refine ⟨rfl, ?_⟩
     exact EE.here (by simp -dsimp [Tryz.results55])
    ·refine a7 (by simp -dsimp [hf]) c16 ?_
     refine aa (a6 ?_)
     obtain ⟨a3, j21, hm⟩ := bnd hm
     refine au [(1, .u (.one (.box 1 0))), (3, .u (.one (.d (.int .i64 (ah t.Nodes))))), (4, .u (.one (.d (.int .i64 i)))), (5, .u (.one (.box 5 0))), (6, .u (.one (.d (.int .i64 s)))), (103, .u (.one (.d (.bool a3))))] [(1, .box [.d (.int .i64 t.States), .d (.sl 2 (List.map Point.row t.Hood)), .d (.sl 2 (List.map Node.row t.Nodes))]), (5, .box [.d (.int .i64 x.Level), .d (.sl 1 (List.map (rI .i64) x.Next))])] (by rfl) (by rfl) ?_ fun ρ σ hf => ?_
     ·replace hm := j21
      clear j21
      refine iR aL mixed (by rw [hn]; kernel_rfl) ?_
      rcases aj hm with ⟨c17, hm⟩ | ⟨c17, hm⟩
      ·rcases aj hm with ⟨c18, hm⟩ | ⟨c18, hm⟩
       ·simp -dsimp [hf, c17, c18]
        refine a6 ?_
        cases hm
        exact EE.here (by simp -dsimp [hf])
       ·obtain ⟨x2, h19, hm⟩ := bnd hm
        simp -dsimp [hf, c17, c18, h19]
        refine a6 ?_
        cases hm
        exact EE.here (by simp -dsimp [hf])
      ·simp -dsimp [hf, c17]
       refine a6 ?_
       cases hm
       exact EE.here (by simp -dsimp [hf])
     ·clear j21
      simp only [Fits, ar, ap, and_true] at hf
      rcases aj hm with ⟨c20, hm⟩ | ⟨c20, hm⟩
      ·refine a8 (by simp -dsimp [hf]) c20 ?_
       refine srs hn ?_
       simp -dsimp
       refine ab (aH (ae ?_))
       cases hm
       refine am nofun ?_
       unfold d7
       dsimp only
       refine ⟨rfl, ?_⟩
       exact EE.here (by simp -dsimp [Tryz.results55])
      ·refine a7 (by simp -dsimp [hf]) c20 ?_
       refine aa ?_
       refine aM ?_
       refine a6 ?_
       refine sr1 hn ?_
       simp -dsimp [hf]
       cases hm
       refine az ?_
       exact EE.here (by simp -dsimp [hf])
 ·refine a7 (b := (ltB s t.States)) (by simp -dsimp) c12 ?_
  refine aw ?_
  refine ae ?_
  cases hm
  refine am nofun ?_
  unfold d7
  dsimp only
  refine ⟨rfl, ?_⟩
  exact EE.here (by simp -dsimp [hf, c12])
def dR (cx : Cx) (t : Tree) (tt : Bool ⊕ Unit) (ee : Exit) (ρ : Env) (σ : Sto) : Prop := match tt with
 | .inl r => ee = .ret ∧ EE cx (fun ρ σ => ∃ v, resV tb ρ σ Tryz.f55.results.toList = some v ∧ (v.frz σ).free = true ∧ (v.frz σ).wk (.u (.one (.d (.bool r))))) ρ σ
 | .inr _u => ee = .exit 0 ∧ EE cx (aS [(1, .u (.one (.box 1 0))), (3, .u (.one (.d (.int .i64 (ah t.Nodes)))))] [(1, .box [.d (.int .i64 t.States), .d (.sl 2 (List.map Point.row t.Hood)), .d (.sl 2 (List.map Node.row t.Nodes))])]) ρ σ
theorem l_R12_Right_1 (cx : Cx) (hn : cx.n = 115) (t : Tree) {fu : Nat} {stt : Int} {tt : Bool ⊕ Unit} (hh : ak (f4 t) fu stt = some tt) {ρ : Env} {σ : Sto}
  (hE : aW (fun i : Int => [(1, .u (.one (.box 1 0))), (3, .u (.one (.d (.int .i64 (ah t.Nodes))))), (4, .u (.one (.d (.int .i64 i))))]) (fun _i : Int => [(1, .box [.d (.int .i64 t.States), .d (.sl 2 (List.map Point.row t.Hood)), .d (.sl 2 (List.map Node.row t.Nodes))])]) stt ρ σ) : Swp Tryz.prog cx (.loop (bg [1, 1, 1, 0, 1, 0, 0] (aK Tryz.f55))) ρ σ (dR cx t tt) := by
 refine aY hE hh (dR cx t) ?_
 rintro i r hm ρ σ hf
 simp only [Fits, ar, ap, and_true] at hf
 unfold f4 at hm
 dsimp only at hm
 refine ac ?_
 refine srs hn ?_
 simp -dsimp [hf]
 rcases aj hm with ⟨c7, hm⟩ | ⟨c7, hm⟩
 ·refine a8 (b := (ltB i (ah t.Nodes))) (by simp -dsimp) c7 ?_
  refine aa (a6 (ac (ai ?_)))
  refine srs hn ?_
  obtain ⟨x, h8, hm⟩ := bnd hm
  simp -dsimp [hf, c7, h8]
  refine ac ?_
  obtain ⟨a1, j25, hm⟩ := bnd hm
  refine au [(1, .u (.one (.box 1 0))), (3, .u (.one (.d (.int .i64 (ah t.Nodes))))), (4, .u (.one (.d (.int .i64 i)))), (5, .u (.one (.box 5 0))), (61, .u (.one (.d (.bool a1))))] [(1, .box [.d (.int .i64 t.States), .d (.sl 2 (List.map Point.row t.Hood)), .d (.sl 2 (List.map Node.row t.Nodes))]), (5, .box [.d (.int .i64 x.Level), .d (.sl 1 (List.map (rI .i64) x.Next))])] (by rfl) (by rfl) ?_ fun ρ σ hf => ?_
  ·replace hm := j25
   clear j25
   refine sr1 hn ?_
   rcases aj hm with ⟨c9, hm⟩ | ⟨c9, hm⟩
   ·simp -dsimp [c9]
    refine a6 ?_
    cases hm
    exact EE.here (by simp -dsimp [hf])
   ·rcases aj hm with ⟨c10, hm⟩ | ⟨c10, hm⟩
    ·simp -dsimp [hf, c9, c10]
     refine a6 ?_
     cases hm
     exact EE.here (by simp -dsimp [hf])
    ·simp -dsimp [hf, c9, c10]
     refine a6 ?_
     cases hm
     exact EE.here (by simp -dsimp [hf])
  ·clear j25
   simp only [Fits, ar, ap, and_true] at hf
   rcases aj hm with ⟨c11, hm⟩ | ⟨c11, hm⟩
   ·refine a8 (by simp -dsimp [hf]) c11 ?_
    refine srs hn ?_
    simp -dsimp
    refine ab (ae (aH (ae ?_)))
    cases hm
    refine am nofun ?_
    unfold dR
    dsimp only
    refine ⟨rfl, ?_⟩
    exact EE.here (by simp -dsimp [Tryz.results55])
   ·refine a7 (by simp -dsimp [hf]) c11 ?_
    refine aa (a6 ?_)
    refine srs hn ?_
    simp -dsimp
    refine ai ?_
    obtain ⟨o_, g23, hm⟩ := bnd hm
    refine aJ (l_R12_Right_2 cx hn t i x g23) (by
      try dsimp only
      exact EE.here (by simp -dsimp [hf])
    ) fun ee ρ σ x24 => ?_
    rcases o_ with r | _u
    ·unfold d7 at x24
     dsimp only at x24
     obtain ⟨rfl, x24⟩ := x24
     refine aH (aH (ae ?_))
     cases hm
     refine am nofun ?_
     unfold dR
     dsimp only
     refine ⟨rfl, ?_⟩
     exact x24
    ·unfold d7 at x24
     dsimp only at x24
     obtain ⟨rfl, x24⟩ := x24
     refine av ?_
     refine aM ?_
     refine a6 ?_
     refine aX (by rfl) (by rfl) x24 fun ρ σ hf => ?_
     simp only [Fits, ar, ap, and_true] at hf
     refine sr1 hn ?_
     simp -dsimp [hf]
     cases hm
     refine az ?_
     exact EE.here (by simp -dsimp [hf])
 ·refine a7 (b := (ltB i (ah t.Nodes))) (by simp -dsimp) c7 ?_
  refine aw ?_
  refine ae ?_
  cases hm
  refine am nofun ?_
  unfold dR
  dsimp only
  refine ⟨rfl, ?_⟩
  exact EE.here (by simp -dsimp [hf, c7])
theorem f_R12_Right (t : Tree) (r : Bool) (hm : fm t = some r) : PFn Tryz.prog 55 [.u (.agg [.d (.int .i64 t.States), .d (.sl 2 (List.map Point.row t.Hood)), .d (.sl 2 (List.map Node.row t.Nodes))])] (fun v => v.wk (.u (.one (.d (.bool r))))) := by
 refine aV Tryz.func55 Tryz.ntmps55 rfl (by kernel_rfl) (by simp) fun cx hn => ?_
 unfold fm at hm
 refine srs hn ?_
 simp -dsimp
 refine srs hn ?_
 simp -dsimp
 refine ac ?_
 obtain ⟨a, j29, hm⟩ := bnd hm
 refine au [(1, .u (.one (.box 1 0))), (3, .u (.one (.d (.int .i64 (ah t.Nodes))))), (32, .u (.one (.d (.bool a))))] [(1, .box [.d (.int .i64 t.States), .d (.sl 2 (List.map Point.row t.Hood)), .d (.sl 2 (List.map Node.row t.Nodes))])] (by rfl) (by rfl) ?_ fun ρ σ hf => ?_
 ·replace hm := j29
  clear j29
  refine sr1 hn ?_
  rcases aj hm with ⟨c1, hm⟩ | ⟨c1, hm⟩
  ·simp -dsimp [c1]
   refine a6 ?_
   cases hm
   exact EE.here (by simp -dsimp)
  ·rcases aj hm with ⟨c2, hm⟩ | ⟨c2, hm⟩
   ·simp -dsimp [c1, c2]
    refine a6 ?_
    cases hm
    exact EE.here (by simp -dsimp)
   ·obtain ⟨y, h3, hm⟩ := bnd hm
    simp -dsimp [c1, c2]
    refine ag (c_R07_Right t.Hood y h3) (dkL hn) ?_
    rcases aj hm with ⟨c4, hm⟩ | ⟨c4, hm⟩
    ·simp -dsimp [c4]
     refine a6 ?_
     cases hm
     exact EE.here (by simp -dsimp)
    ·rcases aj hm with ⟨c5, hm⟩ | ⟨c5, hm⟩
     ·simp -dsimp [c4, c5]
      refine a6 ?_
      cases hm
      exact EE.here (by simp -dsimp)
     ·simp -dsimp [c4, c5]
      refine a6 ?_
      cases hm
      exact EE.here (by simp -dsimp)
 ·clear j29
  simp only [Fits, ar, ap, and_true] at hf
  rcases aj hm with ⟨c6, hm⟩ | ⟨c6, hm⟩
  ·refine a8 (by simp -dsimp [hf]) c6 ?_
   refine srs hn ?_
   simp -dsimp
   refine ab (ae ?_)
   cases hm
   refine ⟨.inr rfl, ?_⟩
   exact EE.here (by simp -dsimp)
  ·refine a7 (by simp -dsimp [hf]) c6 ?_
   refine aa (a6 (ac ?_))
   refine srs hn ?_
   simp -dsimp
   refine ai ?_
   obtain ⟨o_, g26, hm⟩ := bnd hm
   refine aJ (l_R12_Right_1 cx hn t g26) (by
     try dsimp only
     exact EE.here (by simp -dsimp [hf])
   ) fun ee ρ σ x27 => ?_
   rcases o_ with r | _u
   ·unfold dR at x27
    dsimp only at x27
    obtain ⟨rfl, x27⟩ := x27
    refine aH (ae ?_)
    cases hm
    exact ⟨.inr rfl, x27⟩
   ·unfold dR at x27
    dsimp only at x27
    obtain ⟨rfl, x27⟩ := x27
    refine av ?_
    refine a6 ?_
    refine aX (by rfl) (by rfl) x27 fun ρ σ hf => ?_
    simp only [Fits, ar, ap, and_true] at hf
    refine bF aL mixed (by rw [hn]; kernel_rfl) ?_
    obtain ⟨x, h28, hm⟩ := bnd hm
    simp -dsimp [hf, h28]
    refine ab ?_
    cases hm
    refine ⟨.inr rfl, ?_⟩
    exact EE.here (by simp -dsimp)
theorem c_R12_Right (t : Tree) (r : Bool) (hm : fm t = some r) : PureCall Tryz.prog 55 [.u (.agg [.d (.int .i64 t.States), .d (.sl 2 (List.map Point.row t.Hood)), .d (.sl 2 (List.map Node.row t.Nodes))])] (.u (.one (.d (.bool r)))) := (f_R12_Right t r hm).pureW
def iK (cx : Cx) (_t : Tree) (_in_ : List Int) (tt : Int) (ee : Exit) (ρ : Env) (σ : Sto) : Prop := match tt with
 | k => ee = .exit 0 ∧ EE cx (aS [(5, .u (.one (.d (.int .i64 k))))] []) ρ σ
theorem l_R12_Value_1 (cx : Cx) (hn : cx.n = 30) (t : Tree) (in_ : List Int) {fu : Nat} {stt : Int × Int} {tt : Int} (hh : ak (eZ t in_) fu stt = some tt) {ρ : Env} {σ : Sto}
  (hE : aW (fun stt : Int × Int => match stt with | (k, i) => [(1, .u (.one (.d (.sl 1 (List.map (rI .i64) in_))))), (2, .u (.one (.box 2 0))), (5, .u (.one (.d (.int .i64 k)))), (6, .u (.one (.d (.int .i64 i))))]) (fun stt : Int × Int => match stt with | (_k, _i) => [(2, .box [.d (.int .i64 t.States), .d (.sl 2 (List.map Point.row t.Hood)), .d (.sl 2 (List.map Node.row t.Nodes))])]) stt ρ σ) : Swp Tryz.prog cx (.loop (bg [1, 1, 0, 1, 0, 0] (aK Tryz.f117))) ρ σ (iK cx t in_ tt) := by
 refine aY hE hh (iK cx t in_) ?_
 rintro ⟨k, i⟩ r hm ρ σ hf
 simp only [Fits, ar, ap, and_true] at hf
 unfold eZ at hm
 dsimp only at hm
 refine ac ?_
 refine srs hn ?_
 simp -dsimp [hf]
 rcases aj hm with ⟨c1, hm⟩ | ⟨c1, hm⟩
 ·refine a8 (b := (ltB i (ah in_))) (by simp -dsimp) c1 ?_
  refine aa (a6 (ac (ai ?_)))
  refine iR aL mixed (by rw [hn]; kernel_rfl) ?_
  obtain ⟨x, h2, hm⟩ := bnd hm
  obtain ⟨x1, h3, hm⟩ := bnd hm
  obtain ⟨x2, h4, hm⟩ := bnd hm
  simp -dsimp [hf, c1, h2, h3, h4]
  refine aM ?_
  refine a6 ?_
  refine sr1 hn ?_
  simp -dsimp [hf]
  cases hm
  refine az ?_
  exact EE.here (by simp -dsimp [hf])
 ·refine a7 (b := (ltB i (ah in_))) (by simp -dsimp) c1 ?_
  refine aw ?_
  refine ae ?_
  cases hm
  refine am nofun ?_
  unfold iK
  dsimp only
  refine ⟨rfl, ?_⟩
  exact EE.here (by simp -dsimp [hf, c1])
theorem f_R12_Value (t : Tree) (in_ : List Int) (r : Int) (hm : fk t in_ = some r) : PFn Tryz.prog 117 [.u (.agg [.d (.int .i64 t.States), .d (.sl 2 (List.map Point.row t.Hood)), .d (.sl 2 (List.map Node.row t.Nodes))]), .u (.one (.d (.sl 1 (List.map (rI .i64) in_))))] (fun v => v.wk (.u (.one (.d (.int .i64 r))))) := by
 refine aV Tryz.func117 Tryz.ntmps117 rfl (by kernel_rfl) (by simp) fun cx hn => ?_
 unfold fk at hm
 refine srs hn ?_
 simp -dsimp
 refine srs hn ?_
 simp -dsimp
 refine ac ?_
 refine srs hn ?_
 simp -dsimp
 refine ai ?_
 obtain ⟨k, g5, hm⟩ := bnd hm
 refine aJ (l_R12_Value_1 cx hn t in_ g5) (by
   try dsimp only
   exact EE.here (by simp -dsimp)
 ) fun ee ρ σ x6 => ?_
 unfold iK at x6
 dsimp only at x6
 obtain ⟨rfl, x6⟩ := x6
 refine av ?_
 refine a6 ?_
 refine aX (by rfl) (by rfl) x6 fun ρ σ hf => ?_
 simp only [Fits, ar, ap, and_true] at hf
 refine srs hn ?_
 simp -dsimp [hf]
 refine ab ?_
 cases hm
 refine ⟨.inr rfl, ?_⟩
 exact EE.here (by simp -dsimp)
theorem c_R12_Value (t : Tree) (in_ : List Int) (r : Int) (hm : fk t in_ = some r) : PureCall Tryz.prog 117 [.u (.agg [.d (.int .i64 t.States), .d (.sl 2 (List.map Point.row t.Hood)), .d (.sl 2 (List.map Node.row t.Nodes))]), .u (.one (.d (.sl 1 (List.map (rI .i64) in_))))] (.u (.one (.d (.int .i64 r)))) := (f_R12_Value t in_ r hm).pureW
def fH (cx : Cx) (t : Tree) (in_ : List Int) (tt : (Int × Int) ⊕ Unit) (ee : Exit) (ρ : Env) (σ : Sto) : Prop := match tt with
 | .inl r => ee = .ret ∧ EE cx (fun ρ σ => ∃ v, resV tb ρ σ Tryz.f56.results.toList = some v ∧ (v.frz σ).free = true ∧ (v.frz σ).wk (.tup [.one (.d (.int .i64 r.1)), .one (.d (.int .i64 r.2))])) ρ σ
 | .inr _u => ee = .exit 0 ∧ EE cx (aS [(1, .u (.one (.d (.sl 1 (List.map (rI .i64) in_))))), (2, .u (.one (.box 2 0)))] [(2, .box [.d (.int .i64 t.States), .d (.sl 2 (List.map Point.row t.Hood)), .d (.sl 2 (List.map Node.row t.Nodes))])]) ρ σ
theorem l_R12_Eval_1 (cx : Cx) (hn : cx.n = 39) (t : Tree) (in_ : List Int) {fu : Nat} {stt : Int} {tt : (Int × Int) ⊕ Unit} (hh : ak (gV t in_) fu stt = some tt) {ρ : Env} {σ : Sto}
  (hE : aW (fun i : Int => [(1, .u (.one (.d (.sl 1 (List.map (rI .i64) in_))))), (2, .u (.one (.box 2 0))), (6, .u (.one (.d (.int .i64 i))))]) (fun _i : Int => [(2, .box [.d (.int .i64 t.States), .d (.sl 2 (List.map Point.row t.Hood)), .d (.sl 2 (List.map Node.row t.Nodes))])]) stt ρ σ) : Swp Tryz.prog cx (.loop (bg [1, 1, 1, 0, 1, 0, 0] (aK Tryz.f56))) ρ σ (fH cx t in_ tt) := by
 refine aY hE hh (fH cx t in_) ?_
 rintro i r hm ρ σ hf
 simp only [Fits, ar, ap, and_true] at hf
 unfold gV at hm
 dsimp only at hm
 refine ac ?_
 refine srs hn ?_
 simp -dsimp [hf]
 rcases aj hm with ⟨c4, hm⟩ | ⟨c4, hm⟩
 ·refine a8 (b := (ltB i (ah in_))) (by simp -dsimp) c4 ?_
  refine aa (a6 (ac (ai ?_)))
  obtain ⟨a, j8, hm⟩ := bnd hm
  refine au [(1, .u (.one (.d (.sl 1 (List.map (rI .i64) in_))))), (2, .u (.one (.box 2 0))), (6, .u (.one (.d (.int .i64 i)))), (35, .u (.one (.d (.bool a))))] [(2, .box [.d (.int .i64 t.States), .d (.sl 2 (List.map Point.row t.Hood)), .d (.sl 2 (List.map Node.row t.Nodes))])] (by rfl) (by rfl) ?_ fun ρ σ hf => ?_
  ·replace hm := j8
   clear j8
   refine iR aL mixed (by rw [hn]; kernel_rfl) ?_
   obtain ⟨x, h5, hm⟩ := bnd hm
   rcases aj hm with ⟨c6, hm⟩ | ⟨c6, hm⟩
   ·simp -dsimp [hf, c4, h5, c6]
    refine a6 ?_
    cases hm
    exact EE.here (by simp -dsimp [hf])
   ·simp -dsimp [hf, c4, h5, c6]
    refine a6 ?_
    cases hm
    exact EE.here (by simp -dsimp [hf])
  ·clear j8
   simp only [Fits, ar, ap, and_true] at hf
   rcases aj hm with ⟨c7, hm⟩ | ⟨c7, hm⟩
   ·refine a8 (by simp -dsimp [hf]) c7 ?_
    refine srs hn ?_
    simp -dsimp
    refine ab (aH (ae ?_))
    cases hm
    refine am nofun ?_
    unfold fH
    dsimp only
    refine ⟨rfl, ?_⟩
    exact EE.here (by simp -dsimp [Tryz.results56])
   ·refine a7 (by simp -dsimp [hf]) c7 ?_
    refine aa ?_
    refine aM ?_
    refine a6 ?_
    refine sr1 hn ?_
    simp -dsimp [hf]
    cases hm
    refine az ?_
    exact EE.here (by simp -dsimp [hf])
 ·refine a7 (b := (ltB i (ah in_))) (by simp -dsimp) c4 ?_
  refine aw ?_
  refine ae ?_
  cases hm
  refine am nofun ?_
  unfold fH
  dsimp only
  refine ⟨rfl, ?_⟩
  exact EE.here (by simp -dsimp [hf, c4])
theorem f_R12_Eval (t : Tree) (in_ : List Int) (r : Int × Int) (hm : jG t in_ = some r) : PFn Tryz.prog 56 [.u (.agg [.d (.int .i64 t.States), .d (.sl 2 (List.map Point.row t.Hood)), .d (.sl 2 (List.map Node.row t.Nodes))]), .u (.one (.d (.sl 1 (List.map (rI .i64) in_))))] (fun v => v.wk (.tup [.one (.d (.int .i64 r.1)), .one (.d (.int .i64 r.2))])) := by
 refine aV Tryz.func56 Tryz.ntmps56 rfl (by kernel_rfl) (by simp) fun cx hn => ?_
 unfold jG at hm
 refine srs hn ?_
 simp -dsimp
 refine ac ?_
 refine srs hn ?_
 obtain ⟨y, h1, hm⟩ := bnd hm
 simp -dsimp
 refine ag (c_R12_Right t y h1) (dkL hn) ?_
 simp -dsimp
 rcases aj hm with ⟨c2, hm⟩ | ⟨c2, hm⟩
 ·refine a8 (b := (aD y)) (by simp -dsimp) c2 ?_
  refine srs hn ?_
  simp -dsimp [c2]
  refine ab (ae ?_)
  cases hm
  refine ⟨.inr rfl, ?_⟩
  exact EE.here (by simp -dsimp)
 ·refine a7 (b := (aD y)) (by simp -dsimp) c2 ?_
  refine aa (a6 (ac ?_))
  refine srs hn ?_
  simp -dsimp [c2]
  rcases aj hm with ⟨c3, hm⟩ | ⟨c3, hm⟩
  ·refine a8 (b := (neB (ah in_) (ah t.Hood))) (by simp -dsimp) c3 ?_
   refine srs hn ?_
   simp -dsimp [c3]
   refine ab (ae ?_)
   cases hm
   refine ⟨.inr rfl, ?_⟩
   exact EE.here (by simp -dsimp)
  ·refine a7 (b := (neB (ah in_) (ah t.Hood))) (by simp -dsimp) c3 ?_
   refine aa (a6 (ac ?_))
   refine srs hn ?_
   simp -dsimp [c3]
   refine ai ?_
   obtain ⟨o_, g9, hm⟩ := bnd hm
   refine aJ (l_R12_Eval_1 cx hn t in_ g9) (by
     try dsimp only
     exact EE.here (by simp -dsimp)
   ) fun ee ρ σ x10 => ?_
   rcases o_ with r | _u
   ·unfold fH at x10
    dsimp only at x10
    obtain ⟨rfl, x10⟩ := x10
    refine aH (ae ?_)
    cases hm
    exact ⟨.inr rfl, x10⟩
   ·unfold fH at x10
    dsimp only at x10
    obtain ⟨rfl, x10⟩ := x10
    refine av ?_
    refine a6 ?_
    refine aX (by rfl) (by rfl) x10 fun ρ σ hf => ?_
    simp only [Fits, ar, ap, and_true] at hf
    refine srs hn ?_
    obtain ⟨y1, h11, hm⟩ := bnd hm
    simp -dsimp [hf]
    refine ag (c_R12_Value t in_ y1 h11) (dkL hn) ?_
    simp -dsimp
    refine ab ?_
    cases hm
    refine ⟨.inr rfl, ?_⟩
    exact EE.here (by simp -dsimp)
theorem c_R12_Eval (t : Tree) (in_ : List Int) (r : Int × Int) (hm : jG t in_ = some r) : PureCall Tryz.prog 56 [.u (.agg [.d (.int .i64 t.States), .d (.sl 2 (List.map Point.row t.Hood)), .d (.sl 2 (List.map Node.row t.Nodes))]), .u (.one (.d (.sl 1 (List.map (rI .i64) in_))))] (.tup [.one (.d (.int .i64 r.1)), .one (.d (.int .i64 r.2))]) := (f_R12_Eval t in_ r hm).pureW
theorem f_R12_Quiet (t : Tree) (r : Bool) (hm : ft t = some r) : PFn Tryz.prog 24 [.u (.agg [.d (.int .i64 t.States), .d (.sl 2 (List.map Point.row t.Hood)), .d (.sl 2 (List.map Node.row t.Nodes))])] (fun v => v.wk (.u (.one (.d (.bool r))))) := by
 refine aV Tryz.func24 Tryz.ntmps24 rfl (by kernel_rfl) (by simp) fun cx hn => ?_
 unfold ft at hm
 refine srs hn ?_
 simp -dsimp
 refine ac ?_
 refine srs hn ?_
 obtain ⟨y, h1, hm⟩ := bnd hm
 simp -dsimp
 refine ag (c_R12_Right t y h1) (dkL hn) ?_
 simp -dsimp
 rcases aj hm with ⟨c2, hm⟩ | ⟨c2, hm⟩
 ·refine a8 (b := (aD y)) (by simp -dsimp) c2 ?_
  refine srs hn ?_
  simp -dsimp [c2]
  refine ab (ae ?_)
  cases hm
  refine ⟨.inr rfl, ?_⟩
  exact EE.here (by simp -dsimp)
 ·refine a7 (b := (aD y)) (by simp -dsimp) c2 ?_
  refine aa (a6 ?_)
  refine k7 aL mixed 4 5 10 0 [[0]] [[13]] [true, true, true, true, true] none (by rw [hn]; kernel_rfl) gI ?_
  dsimp only [List.take, List.drop, iq, iQ, jT, pk, List.cons_append, List.nil_append, List.flatten_cons, List.flatten_nil, ff, fv, List.append_nil]
  obtain ⟨l, h3, hm⟩ := bnd hm
  obtain ⟨⟨h3a, h3b, h3c⟩, rfl⟩ := ka h3
  obtain ⟨y1, h4, hm⟩ := bnd hm
  simp -dsimp [c2, h3a, h3c]
  refine qcallL_brw (us' := [.u (.agg [.d (.int .i64 t.States), .d (.sl 2 (List.map Point.row t.Hood)), .d (.sl 2 (List.map Node.row t.Nodes))]), .u (.one (.d (.sl 1 (List.map (rI .i64) (List.replicate (ah t.Hood).toNat 0)))))]) (c_R12_Eval t (List.replicate (ah t.Hood).toNat 0) y1 h4) (by simp -dsimp) rfl ?_
  simp -dsimp
  refine srs hn ?_
  simp -dsimp
  refine ab ?_
  cases hm
  refine ⟨.inr rfl, ?_⟩
  exact EE.here (by simp -dsimp)
theorem c_R12_Quiet (t : Tree) (r : Bool) (hm : ft t = some r) : PureCall Tryz.prog 24 [.u (.agg [.d (.int .i64 t.States), .d (.sl 2 (List.map Point.row t.Hood)), .d (.sl 2 (List.map Node.row t.Nodes))])] (.u (.one (.d (.bool r)))) := (f_R12_Quiet t r hm).pureW
theorem f_R05_Place (x : Int) (y : Int) (r : Bool) (hm : fx x y = some r) : PFn Tryz.prog 118 [.u (.one (.d (.int .i64 x))), .u (.one (.d (.int .i64 y)))] (fun v => v.wk (.u (.one (.d (.bool r))))) := by
 refine aV Tryz.func118 Tryz.ntmps118 rfl (by kernel_rfl) (by simp) fun cx hn => ?_
 unfold fx at hm
 refine srs hn ?_
 simp -dsimp
 obtain ⟨a, j4, hm⟩ := bnd hm
 refine au [(4, .u (.one (.d (.bool a))))] [] (by rfl) (by rfl) ?_ fun ρ σ hf => ?_
 ·replace hm := j4
  clear j4
  refine sr1 hn ?_
  rcases aj hm with ⟨c1, hm⟩ | ⟨c1, hm⟩
  ·rcases aj hm with ⟨c2, hm⟩ | ⟨c2, hm⟩
   ·rcases aj hm with ⟨c3, hm⟩ | ⟨c3, hm⟩
    ·simp -dsimp [c1, c2, c3]
     refine a6 ?_
     cases hm
     exact EE.here (by simp -dsimp)
    ·simp -dsimp [c1, c2, c3]
     refine a6 ?_
     cases hm
     exact EE.here (by simp -dsimp)
   ·simp -dsimp [c1, c2]
    refine a6 ?_
    cases hm
    exact EE.here (by simp -dsimp)
  ·simp -dsimp [c1]
   refine a6 ?_
   cases hm
   exact EE.here (by simp -dsimp)
 ·clear j4
  simp only [Fits, ar, ap, and_true] at hf
  refine ab ?_
  cases hm
  refine ⟨.inr rfl, ?_⟩
  exact EE.here (by simp -dsimp [hf])
theorem c_R05_Place (x : Int) (y : Int) (r : Bool) (hm : fx x y = some r) : PureCall Tryz.prog 118 [.u (.one (.d (.int .i64 x))), .u (.one (.d (.int .i64 y)))] (.u (.one (.d (.bool r)))) := (f_R05_Place x y r hm).pureW
theorem f_R05_before (a : Cell) (b : Cell) (r : Bool) (hm : dJ a b = some r) : PFn Tryz.prog 119 [.u (.agg [.d (.int .i64 a.X), .d (.int .i64 a.Y), .d (.int .i64 a.S)]), .u (.agg [.d (.int .i64 b.X), .d (.int .i64 b.Y), .d (.int .i64 b.S)])] (fun v => v.wk (.u (.one (.d (.bool r))))) := by
 refine aV Tryz.func119 Tryz.ntmps119 rfl (by kernel_rfl) (by simp) fun cx hn => ?_
 unfold dJ at hm
 refine srs hn ?_
 simp -dsimp
 obtain ⟨a1, j3, hm⟩ := bnd hm
 refine au [(4, .u (.one (.d (.bool a1))))] [] (by rfl) (by rfl) ?_ fun ρ σ hf => ?_
 ·replace hm := j3
  clear j3
  refine sr1 hn ?_
  rcases aj hm with ⟨c1, hm⟩ | ⟨c1, hm⟩
  ·simp -dsimp [c1]
   refine a6 ?_
   cases hm
   exact EE.here (by simp -dsimp)
  ·rcases aj hm with ⟨c2, hm⟩ | ⟨c2, hm⟩
   ·simp -dsimp [c1, c2]
    refine a6 ?_
    cases hm
    exact EE.here (by simp -dsimp)
   ·simp -dsimp [c1, c2]
    refine a6 ?_
    cases hm
    exact EE.here (by simp -dsimp)
 ·clear j3
  simp only [Fits, ar, ap, and_true] at hf
  refine ab ?_
  cases hm
  refine ⟨.inr rfl, ?_⟩
  exact EE.here (by simp -dsimp [hf])
theorem ky (a : Cell) (b : Cell) (r : Bool) (hm : dJ a b = some r) : PureCall Tryz.prog 119 [.u (.agg [.d (.int .i64 a.X), .d (.int .i64 a.Y), .d (.int .i64 a.S)]), .u (.agg [.d (.int .i64 b.X), .d (.int .i64 b.Y), .d (.int .i64 b.S)])] (.u (.one (.d (.bool r)))) := (f_R05_before a b r hm).pureW
def eV (cx : Cx) (p : List Cell) (tt : Bool ⊕ Unit) (ee : Exit) (ρ : Env) (σ : Sto) : Prop := match tt with
 | .inl r => ee = .ret ∧ EE cx (fun ρ σ => ∃ v, resV tb ρ σ Tryz.f57.results.toList = some v ∧ (v.frz σ).free = true ∧ (v.frz σ).wk (.u (.one (.d (.bool r))))) ρ σ
 | .inr _u => ee = .exit 0 ∧ EE cx (aS [(0, .u (.one (.d (.sl 3 (List.map Cell.row p)))))] []) ρ σ
theorem l_R05_Right_1 (cx : Cx) (hn : cx.n = 58) (p : List Cell) {fu : Nat} {stt : Int} {tt : Bool ⊕ Unit} (hh : ak (gk p) fu stt = some tt) {ρ : Env} {σ : Sto}
  (hE : aW (fun i : Int => [(0, .u (.one (.d (.sl 3 (List.map Cell.row p))))), (3, .u (.one (.d (.int .i64 i))))]) (fun _i : Int => []) stt ρ σ) : Swp Tryz.prog cx (.loop (bg [1, 0, 1, 0, 0] (aK Tryz.f57))) ρ σ (eV cx p tt) := by
 refine aY hE hh (eV cx p) ?_
 rintro i r hm ρ σ hf
 simp only [Fits, ar, ap, and_true] at hf
 unfold gk at hm
 dsimp only at hm
 refine ac ?_
 refine srs hn ?_
 simp -dsimp [hf]
 rcases aj hm with ⟨c1, hm⟩ | ⟨c1, hm⟩
 ·refine a8 (b := (ltB i (ah p))) (by simp -dsimp) c1 ?_
  refine aa (a6 (ac (ai ?_)))
  obtain ⟨a, j11, hm⟩ := bnd hm
  refine au [(0, .u (.one (.d (.sl 3 (List.map Cell.row p))))), (3, .u (.one (.d (.int .i64 i)))), (54, .u (.one (.d (.bool a))))] [] (by rfl) (by rfl) ?_ fun ρ σ hf => ?_
  ·replace hm := j11
   clear j11
   refine iR aL mixed (by rw [hn]; kernel_rfl) ?_
   obtain ⟨x, h2, hm⟩ := bnd hm
   obtain ⟨y, h3, hm⟩ := bnd hm
   simp -dsimp [hf, c1, h2]
   refine al (c_R05_Place x.X x.Y y h3) ?_
   rcases aj hm with ⟨c4, hm⟩ | ⟨c4, hm⟩
   ·simp -dsimp [c4]
    refine a6 ?_
    cases hm
    exact EE.here (by simp -dsimp [hf])
   ·rcases aj hm with ⟨c5, hm⟩ | ⟨c5, hm⟩
    ·simp -dsimp [hf, h2, c4, c5]
     refine a6 ?_
     cases hm
     exact EE.here (by simp -dsimp [hf])
    ·rcases aj hm with ⟨c6, hm⟩ | ⟨c6, hm⟩
     ·simp -dsimp [hf, h2, c4, c5, c6]
      refine a6 ?_
      cases hm
      exact EE.here (by simp -dsimp [hf])
     ·rcases aj hm with ⟨c7, hm⟩ | ⟨c7, hm⟩
      ·obtain ⟨x1, h8, hm⟩ := bnd hm
       obtain ⟨y1, h9, hm⟩ := bnd hm
       simp -dsimp [hf, h2, c4, c5, c6, c7, h8]
       refine al (ky x1 x y1 h9) ?_
       simp -dsimp
       refine a6 ?_
       cases hm
       exact EE.here (by simp -dsimp [hf])
      ·simp -dsimp [hf, h2, c4, c5, c6, c7]
       refine a6 ?_
       cases hm
       exact EE.here (by simp -dsimp [hf])
  ·clear j11
   simp only [Fits, ar, ap, and_true] at hf
   rcases aj hm with ⟨c10, hm⟩ | ⟨c10, hm⟩
   ·refine a8 (by simp -dsimp [hf]) c10 ?_
    refine srs hn ?_
    simp -dsimp
    refine ab (aH (ae ?_))
    cases hm
    refine am nofun ?_
    unfold eV
    dsimp only
    refine ⟨rfl, ?_⟩
    exact EE.here (by simp -dsimp [Tryz.results57])
   ·refine a7 (by simp -dsimp [hf]) c10 ?_
    refine aa ?_
    refine aM ?_
    refine a6 ?_
    refine sr1 hn ?_
    simp -dsimp [hf]
    cases hm
    refine az ?_
    exact EE.here (by simp -dsimp [hf])
 ·refine a7 (b := (ltB i (ah p))) (by simp -dsimp) c1 ?_
  refine aw ?_
  refine ae ?_
  cases hm
  refine am nofun ?_
  unfold eV
  dsimp only
  refine ⟨rfl, ?_⟩
  exact EE.here (by simp -dsimp [hf, c1])
set_option maxRecDepth 20000 in
theorem f_R05_Right (p : List Cell) (r : Bool) (hm : eo p = some r) : PFn Tryz.prog 57 [.u (.one (.d (.sl 3 (List.map Cell.row p))))] (fun v => v.wk (.u (.one (.d (.bool r))))) := by
 refine aV Tryz.func57 Tryz.ntmps57 rfl (by kernel_rfl) (by simp) fun cx hn => ?_
 unfold eo at hm
 refine srs hn ?_
 simp -dsimp
 refine ac ?_
 refine srs hn ?_
 simp -dsimp
 refine ai ?_
 obtain ⟨o_, g12, hm⟩ := bnd hm
 refine aJ (l_R05_Right_1 cx hn p g12) (by
   try dsimp only
   exact EE.here (by simp -dsimp)
 ) fun ee ρ σ x13 => ?_
 rcases o_ with r | _u
 ·unfold eV at x13
  dsimp only at x13
  obtain ⟨rfl, x13⟩ := x13
  refine aH (ae ?_)
  cases hm
  exact ⟨.inr rfl, x13⟩
 ·unfold eV at x13
  dsimp only at x13
  obtain ⟨rfl, x13⟩ := x13
  refine av ?_
  refine a6 ?_
  refine aX (by rfl) (by rfl) x13 fun ρ σ hf => ?_
  simp only [Fits, ar, ap, and_true] at hf
  refine srs hn ?_
  simp -dsimp [hf]
  refine ab ?_
  cases hm
  refine ⟨.inr rfl, ?_⟩
  exact EE.here (by simp -dsimp)
theorem c_R05_Right (p : List Cell) (r : Bool) (hm : eo p = some r) : PureCall Tryz.prog 57 [.u (.one (.d (.sl 3 (List.map Cell.row p))))] (.u (.one (.d (.bool r)))) := (f_R05_Right p r hm).pureW
def fG (cx : Cx) (_t : Tree) (_p : List Cell) (tt : Int ⊕ Unit) (ee : Exit) (ρ : Env) (σ : Sto) : Prop := match tt with
 | .inl r => ee = .ret ∧ EE cx (fun ρ σ => ∃ v, resV tb ρ σ Tryz.f174.results.toList = some v ∧ (v.frz σ).free = true ∧ (v.frz σ).wk (.u (.one (.d (.int .i64 r))))) ρ σ
 | .inr _u => ee = .exit 0 ∧ EE cx (aS [] []) ρ σ
theorem l_R20_Fits_1 (cx : Cx) (hn : cx.n = 26) (t : Tree) (p : List Cell) {fu : Nat} {stt : Int} {tt : Int ⊕ Unit} (hh : ak (ie t p) fu stt = some tt) {ρ : Env} {σ : Sto}
  (hE : aW (fun i : Int => [(1, .u (.one (.d (.sl 3 (List.map Cell.row p))))), (2, .u (.one (.box 2 0))), (5, .u (.one (.d (.int .i64 i))))]) (fun _i : Int => [(2, .box [.d (.int .i64 t.States), .d (.sl 2 (List.map Point.row t.Hood)), .d (.sl 2 (List.map Node.row t.Nodes))])]) stt ρ σ) : Swp Tryz.prog cx (.loop (bg [1, 1, 1, 0, 1, 0, 0] (aK Tryz.f174))) ρ σ (fG cx t p tt) := by
 refine aY hE hh (fG cx t p) ?_
 rintro i r hm ρ σ hf
 simp only [Fits, ar, ap, and_true] at hf
 unfold ie at hm
 dsimp only at hm
 refine ac ?_
 refine srs hn ?_
 simp -dsimp [hf]
 rcases aj hm with ⟨c5, hm⟩ | ⟨c5, hm⟩
 ·refine a8 (b := (ltB i (ah p))) (by simp -dsimp) c5 ?_
  refine aa (a6 (ac (ai ?_)))
  refine bF aL mixed (by rw [hn]; kernel_rfl) ?_
  obtain ⟨x, h6, hm⟩ := bnd hm
  simp -dsimp [hf, c5, h6]
  rcases aj hm with ⟨c7, hm⟩ | ⟨c7, hm⟩
  ·refine a8 (b := (geB x.S t.States)) (by simp -dsimp) c7 ?_
   refine srs hn ?_
   simp -dsimp [c7]
   refine ab (aH (ae ?_))
   cases hm
   refine am nofun ?_
   unfold fG
   dsimp only
   refine ⟨rfl, ?_⟩
   exact EE.here (by simp -dsimp [Tryz.results174])
  ·refine a7 (b := (geB x.S t.States)) (by simp -dsimp) c7 ?_
   refine aa ?_
   refine aM ?_
   refine a6 ?_
   refine sr1 hn ?_
   simp -dsimp [hf, c7]
   cases hm
   refine az ?_
   exact EE.here (by simp -dsimp [hf])
 ·refine a7 (b := (ltB i (ah p))) (by simp -dsimp) c5 ?_
  refine aw ?_
  refine ae ?_
  cases hm
  refine am nofun ?_
  unfold fG
  dsimp only
  refine ⟨rfl, ?_⟩
  exact EE.here (by simp -dsimp [c5])
theorem f_R20_Fits (t : Tree) (p : List Cell) (r : Int) (hm : gu t p = some r) : PFn Tryz.prog 174 [.u (.agg [.d (.int .i64 t.States), .d (.sl 2 (List.map Point.row t.Hood)), .d (.sl 2 (List.map Node.row t.Nodes))]), .u (.one (.d (.sl 3 (List.map Cell.row p))))] (fun v => v.wk (.u (.one (.d (.int .i64 r))))) := by
 refine aV Tryz.func174 Tryz.ntmps174 rfl (by kernel_rfl) (by simp) fun cx hn => ?_
 unfold gu at hm
 refine srs hn ?_
 simp -dsimp
 refine ac ?_
 refine srs hn ?_
 obtain ⟨y, h1, hm⟩ := bnd hm
 simp -dsimp
 refine ag (c_R12_Quiet t y h1) (dkL hn) ?_
 simp -dsimp
 rcases aj hm with ⟨c2, hm⟩ | ⟨c2, hm⟩
 ·refine a8 (b := (aD y)) (by simp -dsimp) c2 ?_
  refine srs hn ?_
  simp -dsimp [c2]
  refine ab (ae ?_)
  cases hm
  refine ⟨.inr rfl, ?_⟩
  exact EE.here (by simp -dsimp)
 ·refine a7 (b := (aD y)) (by simp -dsimp) c2 ?_
  refine aa (a6 (ac ?_))
  refine srs hn ?_
  obtain ⟨y1, h3, hm⟩ := bnd hm
  simp -dsimp [c2]
  refine ag (c_R05_Right p y1 h3) (dkL hn) ?_
  simp -dsimp
  rcases aj hm with ⟨c4, hm⟩ | ⟨c4, hm⟩
  ·refine a8 (b := (aD y1)) (by simp -dsimp) c4 ?_
   refine srs hn ?_
   simp -dsimp [c4]
   refine ab (ae ?_)
   cases hm
   refine ⟨.inr rfl, ?_⟩
   exact EE.here (by simp -dsimp)
  ·refine a7 (b := (aD y1)) (by simp -dsimp) c4 ?_
   refine aa (a6 (ac ?_))
   refine srs hn ?_
   simp -dsimp [c4]
   refine ai ?_
   obtain ⟨o_, g8, hm⟩ := bnd hm
   refine aJ (l_R20_Fits_1 cx hn t p g8) (by
     try dsimp only
     exact EE.here (by simp -dsimp)
   ) fun ee ρ σ x9 => ?_
   rcases o_ with r | _u
   ·unfold fG at x9
    dsimp only at x9
    obtain ⟨rfl, x9⟩ := x9
    refine aH (ae ?_)
    cases hm
    exact ⟨.inr rfl, x9⟩
   ·unfold fG at x9
    dsimp only at x9
    obtain ⟨rfl, x9⟩ := x9
    refine av ?_
    refine a6 ?_
    refine aX (by rfl) (by rfl) x9 fun ρ σ hf => ?_
    simp only [Fits, ar, ap, and_true] at hf
    refine srs hn ?_
    simp -dsimp
    refine ab ?_
    cases hm
    refine ⟨.inr rfl, ?_⟩
    exact EE.here (by simp -dsimp)
theorem c_R20_Fits (t : Tree) (p : List Cell) (r : Int) (hm : gu t p = some r) : PureCall Tryz.prog 174 [.u (.agg [.d (.int .i64 t.States), .d (.sl 2 (List.map Point.row t.Hood)), .d (.sl 2 (List.map Node.row t.Nodes))]), .u (.one (.d (.sl 3 (List.map Cell.row p))))] (.u (.one (.d (.int .i64 r)))) := (f_R20_Fits t p r hm).pureW
def jQ (cx : Cx) (_p : List Cell) (tt : (Int × Int × Int × Int)) (ee : Exit) (ρ : Env) (σ : Sto) : Prop := match tt with
 | (x1, y, right, bottom) => ee = .exit 0 ∧ EE cx (aS [(2, .u (.one (.box 2 0))), (4, .u (.one (.d (.int .i64 x1)))), (5, .u (.one (.d (.int .i64 y)))), (6, .u (.one (.d (.int .i64 right)))), (7, .u (.one (.d (.int .i64 bottom))))] [(2, .box [.d (.int .i64 0), .d (.int .i64 0), .d (.int .i64 0), .d (.int .i64 0)])]) ρ σ
theorem l_R05_Box_1 (cx : Cx) (hn : cx.n = 79) (p : List Cell) {fu : Nat} {stt : Int × Int × Int × Int × Int} {tt : (Int × Int × Int × Int)} (hh : ak (cF p) fu stt = some tt) {ρ : Env} {σ : Sto}
  (hE : aW (fun stt : Int × Int × Int × Int × Int => match stt with | (x1, y, right, bottom, i) => [(0, .u (.one (.d (.sl 3 (List.map Cell.row p))))), (2, .u (.one (.box 2 0))), (4, .u (.one (.d (.int .i64 x1)))), (5, .u (.one (.d (.int .i64 y)))), (6, .u (.one (.d (.int .i64 right)))), (7, .u (.one (.d (.int .i64 bottom)))), (8, .u (.one (.d (.int .i64 i))))]) (fun stt : Int × Int × Int × Int × Int => match stt with | (_x1, _y, _right, _bottom, _i) => [(2, .box [.d (.int .i64 0), .d (.int .i64 0), .d (.int .i64 0), .d (.int .i64 0)])]) stt ρ σ) : Swp Tryz.prog cx (.loop (bg [1, 1, 1, 0, 1, 0, 0] (aK Tryz.f30))) ρ σ (jQ cx p tt) := by
 refine aY hE hh (jQ cx p) ?_
 rintro ⟨x1, y, right, bottom, i⟩ r hm ρ σ hf
 simp only [Fits, ar, ap, and_true] at hf
 unfold cF at hm
 dsimp only at hm
 refine ac ?_
 refine srs hn ?_
 simp -dsimp [hf]
 rcases aj hm with ⟨c5, hm⟩ | ⟨c5, hm⟩
 ·refine a8 (b := (ltB i (ah p))) (by simp -dsimp) c5 ?_
  refine aa (a6 (ac (ai ?_)))
  refine srs hn ?_
  obtain ⟨x2, h6, hm⟩ := bnd hm
  simp -dsimp [hf, c5, h6]
  refine srs hn ?_
  simp -dsimp [hf, h6]
  refine srs hn ?_
  simp -dsimp [hf, h6]
  refine sr1 hn ?_
  simp -dsimp [hf, h6]
  refine aM ?_
  refine a6 ?_
  refine sr1 hn ?_
  simp -dsimp [hf]
  cases hm
  refine az ?_
  exact EE.here (by simp -dsimp [hf])
 ·refine a7 (b := (ltB i (ah p))) (by simp -dsimp) c5 ?_
  refine aw ?_
  refine ae ?_
  cases hm
  refine am nofun ?_
  unfold jQ
  dsimp only
  refine ⟨rfl, ?_⟩
  exact EE.here (by simp -dsimp [hf, c5])
theorem f_R05_Box (p : List Cell) (r : Box × Bool) (hm : fB p = some r) : PFn Tryz.prog 30 [.u (.one (.d (.sl 3 (List.map Cell.row p))))] (fun v => v.wk (.tup [.agg [.d (.int .i64 r.1.X), .d (.int .i64 r.1.Y), .d (.int .i64 r.1.W), .d (.int .i64 r.1.H)], .one (.d (.bool r.2))])) := by
 refine aV Tryz.func30 Tryz.ntmps30 rfl (by kernel_rfl) (by simp) fun cx hn => ?_
 unfold fB at hm
 refine srs hn ?_
 simp -dsimp
 refine ac ?_
 obtain ⟨a, j9, hm⟩ := bnd hm
 refine au [(0, .u (.one (.d (.sl 3 (List.map Cell.row p))))), (2, .u (.one (.box 2 0))), (16, .u (.one (.d (.bool a))))] [(2, .box [.d (.int .i64 0), .d (.int .i64 0), .d (.int .i64 0), .d (.int .i64 0)])] (by rfl) (by rfl) ?_ fun ρ σ hf => ?_
 ·replace hm := j9
  clear j9
  refine sr1 hn ?_
  rcases aj hm with ⟨c1, hm⟩ | ⟨c1, hm⟩
  ·simp -dsimp [c1]
   refine a6 ?_
   cases hm
   exact EE.here (by simp -dsimp)
  ·obtain ⟨y, h2, hm⟩ := bnd hm
   simp -dsimp [c1]
   refine ag (c_R05_Right p y h2) (dkL hn) ?_
   simp -dsimp
   refine a6 ?_
   cases hm
   exact EE.here (by simp -dsimp)
 ·clear j9
  simp only [Fits, ar, ap, and_true] at hf
  rcases aj hm with ⟨c3, hm⟩ | ⟨c3, hm⟩
  ·refine a8 (by simp -dsimp [hf]) c3 ?_
   refine srs hn ?_
   simp -dsimp [hf]
   refine ab (ae ?_)
   cases hm
   refine ⟨.inr rfl, ?_⟩
   exact EE.here (by simp -dsimp [hf])
  ·refine a7 (by simp -dsimp [hf]) c3 ?_
   refine aa (a6 ?_)
   refine bF aL mixed (by rw [hn]; kernel_rfl) ?_
   obtain ⟨x, h4, hm⟩ := bnd hm
   simp -dsimp [hf, h4]
   refine ac ?_
   refine srs hn ?_
   simp -dsimp
   refine ai ?_
   obtain ⟨⟨x1, y, right, bottom⟩, g7, hm⟩ := bnd hm
   refine aJ (l_R05_Box_1 cx hn p g7) (by
     try dsimp only
     exact EE.here (by simp -dsimp [hf])
   ) fun ee ρ σ x8 => ?_
   unfold jQ at x8
   dsimp only at x8
   obtain ⟨rfl, x8⟩ := x8
   refine av ?_
   refine a6 ?_
   refine aX (by rfl) (by rfl) x8 fun ρ σ hf => ?_
   simp only [Fits, ar, ap, and_true] at hf
   refine srs hn ?_
   simp -dsimp [hf]
   refine ab ?_
   cases hm
   refine ⟨.inr rfl, ?_⟩
   exact EE.here (by simp -dsimp [hf])
theorem c_R05_Box (p : List Cell) (r : Box × Bool) (hm : fB p = some r) : PureCall Tryz.prog 30 [.u (.one (.d (.sl 3 (List.map Cell.row p))))] (.tup [.agg [.d (.int .i64 r.1.X), .d (.int .i64 r.1.Y), .d (.int .i64 r.1.W), .d (.int .i64 r.1.H)], .one (.d (.bool r.2))]) := (f_R05_Box p r hm).pureW
section
attribute [-simp] List.map_set List.set_set
def i3 (cx : Cx) (p : List Cell) (y : Box × Bool) (tt : (List Int)) (ee : Exit) (ρ : Env) (σ : Sto) : Prop := match tt with
 | l1 => ee = .exit 0 ∧ EE cx (aS [(2, .u (.one (.box 2 0))), (5, .u (.one (.box 5 0)))] [(2, .box [.d (.bool false), .d (.int .i64 0), .d (.int .i64 0), .d (.int .i64 0), .d (.int .i64 0), .d .nil, .d .nil]), (5, .box [.d (.bool (leB (dW .i64 y.1.W y.1.H) 40000)), .d (.int .i64 y.1.X), .d (.int .i64 y.1.Y), .d (.int .i64 y.1.W), .d (.int .i64 y.1.H), .own 30, .d (.sl 3 (List.map Cell.row p))]), (30, .row 1 3 (List.map (rI .i64) l1))]) ρ σ
theorem l_R20_states_1 (cx : Cx) (hn : cx.n = 67) (p : List Cell) (y : Box × Bool) {fu : Nat} {stt : Int × (List Int)} {tt : (List Int)} (hh : ak (di p y) fu stt = some tt) {ρ : Env} {σ : Sto}
  (hE : aW (fun stt : Int × (List Int) => match stt with | (i, _l1) => [(0, .u (.one (.d (.sl 3 (List.map Cell.row p))))), (2, .u (.one (.box 2 0))), (3, .u (.one (.box 3 0))), (5, .u (.one (.box 5 0))), (6, .u (.one (.d (.int .i64 i))))]) (fun stt : Int × (List Int) => match stt with | (_i, l1) => [(2, .box [.d (.bool false), .d (.int .i64 0), .d (.int .i64 0), .d (.int .i64 0), .d (.int .i64 0), .d .nil, .d .nil]), (3, .box [.d (.int .i64 y.1.X), .d (.int .i64 y.1.Y), .d (.int .i64 y.1.W), .d (.int .i64 y.1.H)]), (5, .box [.d (.bool (leB (dW .i64 y.1.W y.1.H) 40000)), .d (.int .i64 y.1.X), .d (.int .i64 y.1.Y), .d (.int .i64 y.1.W), .d (.int .i64 y.1.H), .own 30, .d (.sl 3 (List.map Cell.row p))]), (30, .row 1 3 (List.map (rI .i64) l1))]) stt ρ σ) : Swp Tryz.prog cx (.loop (bg [1, 1, 1, 1, 1, 0, 1, 0, 0] (aK Tryz.f175))) ρ σ (i3 cx p y tt) := by
 refine aY hE hh (i3 cx p y) ?_
 rintro ⟨i, l1⟩ r hm ρ σ hf
 simp only [Fits, ar, ap, and_true] at hf
 unfold di at hm
 dsimp only at hm
 refine ac ?_
 refine srs hn ?_
 simp -dsimp [hf]
 rcases aj hm with ⟨c4, hm⟩ | ⟨c4, hm⟩
 ·refine a8 (b := (ltB i (ah p))) (by simp -dsimp) c4 ?_
  refine aa (a6 (ac (ai ?_)))
  refine sw_drN aL mixed 27 (by rw [hn]; kernel_rfl) ?_
  dsimp only [List.take, List.drop]
  obtain ⟨x, h5, hm⟩ := bnd hm
  obtain ⟨x1, h6, hm⟩ := bnd hm
  simp -dsimp [hf, c4, h5, h6, bX h6, rsetI .i64 l1 (aC .i64 (aG .i64 (dW .i64 (aC .i64 x.Y y.1.Y) y.1.W) x.X) y.1.X).toNat x.S]
  refine aM ?_
  refine a6 ?_
  refine sr1 hn ?_
  simp -dsimp [hf]
  cases hm
  refine az ?_
  exact EE.here (by simp -dsimp [hf])
 ·refine a7 (b := (ltB i (ah p))) (by simp -dsimp) c4 ?_
  refine aw ?_
  refine ae ?_
  cases hm
  refine am nofun ?_
  unfold i3
  dsimp only
  refine ⟨rfl, ?_⟩
  exact EE.here (by simp -dsimp [hf, c4])
set_option maxRecDepth 20000 in
theorem f_R20_states (p : List Cell) (r : cellularref20_field) (hm : fK p = some r) : PFn Tryz.prog 175 [.u (.one (.d (.sl 3 (List.map Cell.row p))))] (fun v => v.wk (.u (.agg [.d (.bool r.flat), .d (.int .i64 r.box.X), .d (.int .i64 r.box.Y), .d (.int .i64 r.box.W), .d (.int .i64 r.box.H), .d (.sl 1 (List.map (rI .i64) r.cells)), .d (.sl 3 (List.map Cell.row r.list))]))) := by
 refine aV Tryz.func175 Tryz.ntmps175 rfl (by kernel_rfl) (by simp) fun cx hn => ?_
 unfold fK at hm
 refine srs hn ?_
 simp -dsimp
 refine srs hn ?_
 obtain ⟨y, h1, hm⟩ := bnd hm
 simp -dsimp
 refine ag (c_R05_Box p y h1) (dkL hn) ?_
 simp -dsimp
 refine srs hn ?_
 simp -dsimp
 refine ac ?_
 refine srs hn ?_
 simp -dsimp
 rcases aj hm with ⟨c2, hm⟩ | ⟨c2, hm⟩
 ·refine a8 (b := (aD (leB (dW .i64 y.1.W y.1.H) 40000))) (by simp -dsimp) c2 ?_
  refine srs hn ?_
  simp -dsimp [c2]
  refine ab (ae ?_)
  cases hm
  refine ⟨.inr rfl, ?_⟩
  exact EE.here (by simp -dsimp)
 ·refine a7 (b := (aD (leB (dW .i64 y.1.W y.1.H) 40000))) (by simp -dsimp) c2 ?_
  refine aa (a6 ?_)
  refine srs hn ?_
  obtain ⟨l, h3, hm⟩ := bnd hm
  obtain ⟨⟨h3a, h3b, h3c⟩, rfl⟩ := ka h3
  simp -dsimp [c2, h3a, h3c]
  refine ac ?_
  refine srs hn ?_
  simp -dsimp
  refine ai ?_
  obtain ⟨l1, g7, hm⟩ := bnd hm
  refine aJ (l_R20_states_1 cx hn p y g7) (by
    try dsimp only
    exact EE.here (by simp -dsimp)
  ) fun ee ρ σ x8 => ?_
  unfold i3 at x8
  dsimp only at x8
  obtain ⟨rfl, x8⟩ := x8
  refine av ?_
  refine a6 ?_
  refine aX (by rfl) (by rfl) x8 fun ρ σ hf => ?_
  simp only [Fits, ar, ap, and_true] at hf
  refine srs hn ?_
  simp -dsimp [hf]
  refine ab ?_
  cases hm
  refine ⟨.inr rfl, ?_⟩
  exact EE.here (by simp -dsimp [hf])
theorem c_R20_states (p : List Cell) (r : cellularref20_field) (hm : fK p = some r) : PureCall Tryz.prog 175 [.u (.one (.d (.sl 3 (List.map Cell.row p))))] (.u (.agg [.d (.bool r.flat), .d (.int .i64 r.box.X), .d (.int .i64 r.box.Y), .d (.int .i64 r.box.W), .d (.int .i64 r.box.H), .d (.sl 1 (List.map (rI .i64) r.cells)), .d (.sl 3 (List.map Cell.row r.list))])) := (f_R20_states p r hm).pureW
end
def bJ (cx : Cx) (_f : cellularref20_field) (_n : Int) (_q : Point) (tt : Bool ⊕ Unit) (ee : Exit) (ρ : Env) (σ : Sto) : Prop := match tt with
 | .inl r => ee = .ret ∧ EE cx (fun ρ σ => ∃ v, resV tb ρ σ Tryz.f219.results.toList = some v ∧ (v.frz σ).free = true ∧ (v.frz σ).wk (.u (.one (.d (.bool r))))) ρ σ
 | .inr _u => ee = .exit 0 ∧ EE cx (aS [] []) ρ σ
theorem l_R20_field_earlier_1 (cx : Cx) (hn : cx.n = 45) (f : cellularref20_field) (n : Int) (q : Point) {fu : Nat} {stt : Int} {tt : Bool ⊕ Unit} (hh : ak (bh f n q) fu stt = some tt) {ρ : Env} {σ : Sto}
  (hE : aW (fun i : Int => [(1, .u (.one (.d (.int .i64 n)))), (3, .u (.one (.box 3 0))), (5, .u (.one (.box 5 0))), (7, .u (.one (.d (.int .i64 i))))]) (fun _i : Int => [(3, .box [.d (.bool f.flat), .d (.int .i64 f.box.X), .d (.int .i64 f.box.Y), .d (.int .i64 f.box.W), .d (.int .i64 f.box.H), .d (.sl 1 (List.map (rI .i64) f.cells)), .d (.sl 3 (List.map Cell.row f.list))]), (5, .box [.d (.int .i64 q.X), .d (.int .i64 q.Y)])]) stt ρ σ) : Swp Tryz.prog cx (.loop (bg [1, 0, 1, 0, 0] (aK Tryz.f219))) ρ σ (bJ cx f n q tt) := by
 refine aY hE hh (bJ cx f n q) ?_
 rintro i r hm ρ σ hf
 simp only [Fits, ar, ap, and_true] at hf
 unfold bh at hm
 dsimp only at hm
 refine ac ?_
 refine srs hn ?_
 simp -dsimp [hf]
 rcases aj hm with ⟨c1, hm⟩ | ⟨c1, hm⟩
 ·refine a8 (b := (ltB i n)) (by simp -dsimp) c1 ?_
  refine aa (a6 (ac (ai ?_)))
  refine bF aL mixed (by rw [hn]; kernel_rfl) ?_
  obtain ⟨x, h2, hm⟩ := bnd hm
  simp -dsimp [hf, c1, h2]
  obtain ⟨a, j5, hm⟩ := bnd hm
  refine au [(1, .u (.one (.d (.int .i64 n)))), (3, .u (.one (.box 3 0))), (5, .u (.one (.box 5 0))), (7, .u (.one (.d (.int .i64 i)))), (44, .u (.one (.d (.bool a))))] [(3, .box [.d (.bool f.flat), .d (.int .i64 f.box.X), .d (.int .i64 f.box.Y), .d (.int .i64 f.box.W), .d (.int .i64 f.box.H), .d (.sl 1 (List.map (rI .i64) f.cells)), .d (.sl 3 (List.map Cell.row f.list))]), (5, .box [.d (.int .i64 q.X), .d (.int .i64 q.Y)])] (by rfl) (by rfl) ?_ fun ρ σ hf => ?_
  ·replace hm := j5
   clear j5
   refine sr1 hn ?_
   rcases aj hm with ⟨c3, hm⟩ | ⟨c3, hm⟩
   ·simp -dsimp [c3]
    refine a6 ?_
    cases hm
    exact EE.here (by simp -dsimp [hf])
   ·simp -dsimp [c3]
    refine a6 ?_
    cases hm
    exact EE.here (by simp -dsimp [hf])
  ·clear j5
   simp only [Fits, ar, ap, and_true] at hf
   rcases aj hm with ⟨c4, hm⟩ | ⟨c4, hm⟩
   ·refine a8 (by simp -dsimp [hf]) c4 ?_
    refine srs hn ?_
    simp -dsimp
    refine ab (aH (ae ?_))
    cases hm
    refine am nofun ?_
    unfold bJ
    dsimp only
    refine ⟨rfl, ?_⟩
    exact EE.here (by simp -dsimp [Tryz.results219])
   ·refine a7 (by simp -dsimp [hf]) c4 ?_
    refine aa ?_
    refine aM ?_
    refine a6 ?_
    refine sr1 hn ?_
    simp -dsimp [hf]
    cases hm
    refine az ?_
    exact EE.here (by simp -dsimp [hf])
 ·refine a7 (b := (ltB i n)) (by simp -dsimp) c1 ?_
  refine aw ?_
  refine ae ?_
  cases hm
  refine am nofun ?_
  unfold bJ
  dsimp only
  refine ⟨rfl, ?_⟩
  exact EE.here (by simp -dsimp [c1])
theorem f_R20_field_earlier (f : cellularref20_field) (n : Int) (q : Point) (r : Bool) (hm : cb f n q = some r) : PFn Tryz.prog 219 [.u (.agg [.d (.bool f.flat), .d (.int .i64 f.box.X), .d (.int .i64 f.box.Y), .d (.int .i64 f.box.W), .d (.int .i64 f.box.H), .d (.sl 1 (List.map (rI .i64) f.cells)), .d (.sl 3 (List.map Cell.row f.list))]), .u (.one (.d (.int .i64 n))), .u (.agg [.d (.int .i64 q.X), .d (.int .i64 q.Y)])] (fun v => v.wk (.u (.one (.d (.bool r))))) := by
 refine aV Tryz.func219 Tryz.ntmps219 rfl (by kernel_rfl) (by simp) fun cx hn => ?_
 unfold cb at hm
 refine srs hn ?_
 simp -dsimp
 refine ac ?_
 refine srs hn ?_
 simp -dsimp
 refine ai ?_
 obtain ⟨o_, g6, hm⟩ := bnd hm
 refine aJ (l_R20_field_earlier_1 cx hn f n q g6) (by
   try dsimp only
   exact EE.here (by simp -dsimp)
 ) fun ee ρ σ x7 => ?_
 rcases o_ with r | _u
 ·unfold bJ at x7
  dsimp only at x7
  obtain ⟨rfl, x7⟩ := x7
  refine aH (ae ?_)
  cases hm
  exact ⟨.inr rfl, x7⟩
 ·unfold bJ at x7
  dsimp only at x7
  obtain ⟨rfl, x7⟩ := x7
  refine av ?_
  refine a6 ?_
  refine aX (by rfl) (by rfl) x7 fun ρ σ hf => ?_
  simp only [Fits, ar, ap, and_true] at hf
  refine srs hn ?_
  simp -dsimp
  refine ab ?_
  cases hm
  refine ⟨.inr rfl, ?_⟩
  exact EE.here (by simp -dsimp)
theorem c_R20_field_earlier (f : cellularref20_field) (n : Int) (q : Point) (r : Bool) (hm : cb f n q = some r) : PureCall Tryz.prog 219 [.u (.agg [.d (.bool f.flat), .d (.int .i64 f.box.X), .d (.int .i64 f.box.Y), .d (.int .i64 f.box.W), .d (.int .i64 f.box.H), .d (.sl 1 (List.map (rI .i64) f.cells)), .d (.sl 3 (List.map Cell.row f.list))]), .u (.one (.d (.int .i64 n))), .u (.agg [.d (.int .i64 q.X), .d (.int .i64 q.Y)])] (.u (.one (.d (.bool r)))) := (f_R20_field_earlier f n q r hm).pureW
end Go.Proofs.YtfpjnmhdbgbmmaaGreatDoor
