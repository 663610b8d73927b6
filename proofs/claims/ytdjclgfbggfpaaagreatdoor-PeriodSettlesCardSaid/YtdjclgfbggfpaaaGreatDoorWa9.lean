/-
  That the code does what the functions say (made by cc.py).
-/
import Derived.Test.YtdjclgfbggfpaaaGreatDoorMd1
import Derived.Test.YtdjclgfbggfpaaaGreatDoorTb
namespace Go.Proofs.YtdjclgfbggfpaaaGreatDoor
open Go.AM Go.Proofs
attribute [-simp] qlookup cn dG Ob.wipe Ob.ren Ob.frz1
theorem f_R07_before (a : Point) (b : Point) (r : Bool) (hm : er a b = some r) : PFn Tryz.prog 220 [.u (.agg [.d (.int .i64 a.X), .d (.int .i64 a.Y)]), .u (.agg [.d (.int .i64 b.X), .d (.int .i64 b.Y)])] (fun v => v.wk (.u (.one (.d (.bool r))))) := by
 refine bv Tryz.func220 Tryz.ntmps220 rfl (by kernel_rfl) (by simp) fun cx hn => ?_
 unfold er at hm
 refine srs hn (by kernel_rfl) ?_
 simp -dsimp []
 obtain ⟨a1, j3, hm⟩ := bnd hm
 refine av [(4, .u (.one (.d (.bool a1))))] [] (by rfl) (by rfl) ?_ fun ρ σ hf => ?_
 ·replace hm := j3
  clear j3
  refine sr1 hn (by kernel_rfl) ?_
  rcases am hm with ⟨c1, hm⟩ | ⟨c1, hm⟩
  ·simp -dsimp [c1]
   refine a7 ?_
   cases hm
   refine EE.here ?_
   simp -dsimp
  ·rcases am hm with ⟨c2, hm⟩ | ⟨c2, hm⟩
   ·simp -dsimp [c1, c2]
    refine a7 ?_
    cases hm
    refine EE.here ?_
    simp -dsimp
   ·simp -dsimp [c1, c2]
    refine a7 ?_
    cases hm
    refine EE.here ?_
    simp -dsimp
 ·clear j3
  simp only [Fits, az, aA, and_true] at hf
  refine ah ?_
  cases hm
  refine ⟨.inr rfl, ?_⟩
  refine EE.here ?_
  simp -dsimp [hf]
theorem c_R07_before (a : Point) (b : Point) (r : Bool) (hm : er a b = some r) : PureCall Tryz.prog 220 [.u (.agg [.d (.int .i64 a.X), .d (.int .i64 a.Y)]), .u (.agg [.d (.int .i64 b.X), .d (.int .i64 b.Y)])] (.u (.one (.d (.bool r)))) := (f_R07_before a b r hm).pureW
def dO (cx : Cx) (_l : List Point) (tt : Bool ⊕ Unit) (ee : Exit) (ρ : Env) (σ : Sto) : Prop := match tt with
 | .inl r => ee = .ret ∧ EE cx (fun ρ σ => ∃ v, resV tb ρ σ Tryz.f183.results.toList = some v ∧ (v.frz σ).free = true ∧ (v.frz σ).wk (.u (.one (.d (.bool r))))) ρ σ
 | .inr _u => ee = .exit 0 ∧ EE cx (b6 [] []) ρ σ
theorem l_R07_Right_1 (cx : Cx) (hn : cx.n = 55) (l : List Point) {fu : Nat} {stt : Int} {tt : Bool ⊕ Unit} (hh : ar (eO l) fu stt = some tt) {ρ : Env} {σ : Sto}
  (hE : bn (fun i : Int => [(0, .u (.one (.d (.sl 2 (List.map Point.row l))))), (3, .u (.one (.d (.int .i64 i))))]) (fun _i : Int => []) stt ρ σ) : Swp Tryz.prog cx (.loop (cj [1, 1, 0, 1, 0, 0] (aX Tryz.f183))) ρ σ (dO cx l tt) := by
 refine bo hE hh (dO cx l) (fun _ => by rfl) (fun _ => by rfl) ?_
 rintro i r hm ρ σ hf
 simp only [Fits, az, aA, and_true] at hf
 unfold eO at hm
 dsimp only at hm
 refine ai ?_
 refine srs hn (by kernel_rfl) ?_
 simp -dsimp [hf]
 rcases am hm with ⟨c3, hm⟩ | ⟨c3, hm⟩
 ·refine ab (b := (ltB i (ak l))) (by simp -dsimp) c3 ?_
  refine ae (a7 (ai (ap ?_)))
  refine srs hn (by kernel_rfl) ?_
  obtain ⟨x, h4, hm⟩ := bnd hm
  simp -dsimp [hf, c3, h4]
  obtain ⟨a1, j13, hm⟩ := bnd hm
  refine av [(0, .u (.one (.d (.sl 2 (List.map Point.row l))))), (3, .u (.one (.d (.int .i64 i)))), (54, .u (.one (.d (.bool a1))))] [] (by rfl) (by rfl) ?_ fun ρ σ hf => ?_
  ·replace hm := j13
   clear j13
   refine sw_qt bj mixed (by rw [hn]; kernel_rfl) ?_
   rcases am hm with ⟨c5, hm⟩ | ⟨c5, hm⟩
   ·simp -dsimp [c5]
    refine a7 ?_
    cases hm
    refine EE.here ?_
    simp -dsimp [hf]
   ·rcases am hm with ⟨c6, hm⟩ | ⟨c6, hm⟩
    ·simp -dsimp [c5, c6]
     refine a7 ?_
     cases hm
     refine EE.here ?_
     simp -dsimp [hf]
    ·rcases am hm with ⟨c7, hm⟩ | ⟨c7, hm⟩
     ·simp -dsimp [c5, c6, c7]
      refine a7 ?_
      cases hm
      refine EE.here ?_
      simp -dsimp [hf]
     ·rcases am hm with ⟨c8, hm⟩ | ⟨c8, hm⟩
      ·simp -dsimp [c5, c6, c7, c8]
       refine a7 ?_
       cases hm
       refine EE.here ?_
       simp -dsimp [hf]
      ·rcases am hm with ⟨c9, hm⟩ | ⟨c9, hm⟩
       ·obtain ⟨x1, h10, hm⟩ := bnd hm
        obtain ⟨y, h11, hm⟩ := bnd hm
        simp -dsimp [hf, c5, c6, c7, c8, c9, h10]
        refine aK (c_R07_before x1 x y h11) ?_
        simp -dsimp
        refine a7 ?_
        cases hm
        refine EE.here ?_
        simp -dsimp [hf]
       ·simp -dsimp [hf, c5, c6, c7, c8, c9]
        refine a7 ?_
        cases hm
        refine EE.here ?_
        simp -dsimp [hf]
  ·clear j13
   simp only [Fits, az, aA, and_true] at hf
   rcases am hm with ⟨c12, hm⟩ | ⟨c12, hm⟩
   ·refine ab (b := a1) (by simp -dsimp [hf]) c12 ?_
    refine srs hn (by kernel_rfl) ?_
    simp -dsimp
    refine ah (aN (aj ?_))
    cases hm
    refine au nofun ?_
    unfold dO
    dsimp only
    refine ⟨rfl, ?_⟩
    refine EE.here ?_
    simp -dsimp [Tryz.results183]
   ·refine aa (b := a1) (by simp -dsimp [hf]) c12 ?_
    refine ae ?_
    refine aY ?_
    refine a7 ?_
    refine sr1 hn (by kernel_rfl) ?_
    simp -dsimp [hf]
    cases hm
    refine aJ ?_
    refine EE.here ?_
    simp -dsimp [hf]
 ·refine aa (b := (ltB i (ak l))) (by simp -dsimp) c3 ?_
  refine aD ?_
  refine aj ?_
  cases hm
  refine au nofun ?_
  unfold dO
  dsimp only
  refine ⟨rfl, ?_⟩
  refine EE.here ?_
  simp -dsimp [c3]
theorem f_R07_Right (l : List Point) (r : Bool) (hm : fq l = some r) : PFn Tryz.prog 183 [.u (.one (.d (.sl 2 (List.map Point.row l))))] (fun v => v.wk (.u (.one (.d (.bool r))))) := by
 refine bv Tryz.func183 Tryz.ntmps183 rfl (by kernel_rfl) (by simp) fun cx hn => ?_
 unfold fq at hm
 refine srs hn (by kernel_rfl) ?_
 simp -dsimp []
 refine ai ?_
 obtain ⟨a, j16, hm⟩ := bnd hm
 refine av [(0, .u (.one (.d (.sl 2 (List.map Point.row l))))), (12, .u (.one (.d (.bool a))))] [] (by rfl) (by rfl) ?_ fun ρ σ hf => ?_
 ·replace hm := j16
  clear j16
  refine sr1 hn (by kernel_rfl) ?_
  rcases am hm with ⟨c1, hm⟩ | ⟨c1, hm⟩
  ·simp -dsimp [c1]
   refine a7 ?_
   cases hm
   refine EE.here ?_
   simp -dsimp
  ·simp -dsimp [c1]
   refine a7 ?_
   cases hm
   refine EE.here ?_
   simp -dsimp
 ·clear j16
  simp only [Fits, az, aA, and_true] at hf
  rcases am hm with ⟨c2, hm⟩ | ⟨c2, hm⟩
  ·refine ab (b := a) (by simp -dsimp [hf]) c2 ?_
   refine srs hn (by kernel_rfl) ?_
   simp -dsimp
   refine ah (aj ?_)
   cases hm
   refine ⟨.inr rfl, ?_⟩
   refine EE.here ?_
   simp -dsimp
  ·refine aa (b := a) (by simp -dsimp [hf]) c2 ?_
   refine ae (a7 (ai ?_))
   refine srs hn (by kernel_rfl) ?_
   simp -dsimp
   refine ap ?_
   obtain ⟨o_, g14, hm⟩ := bnd hm
   refine aW [(0, .u (.one (.d (.sl 2 (List.map Point.row l))))), (3, .u (.one (.d (.int .i64 0))))] [] (by rfl) (by rfl) (by
     refine EE.here ?_
     simp -dsimp [hf]
   ) fun ρ σ hf => ?_
   refine (l_R07_Right_1 cx hn l g14 hf).mono fun ee ρ σ x15 => ?_
   rcases o_ with r | _u
   ·unfold dO at x15
    dsimp only at x15
    obtain ⟨rfl, x15⟩ := x15
    refine aN (aj ?_)
    cases hm
    exact ⟨.inr rfl, x15⟩
   ·unfold dO at x15
    dsimp only at x15
    obtain ⟨rfl, x15⟩ := x15
    refine aF ?_
    refine a7 ?_
    refine bl (by rfl) (by rfl) x15 fun ρ σ hf => ?_
    simp only [Fits, az, aA, and_true] at hf
    refine srs hn (by kernel_rfl) ?_
    simp -dsimp
    refine ah ?_
    cases hm
    refine ⟨.inr rfl, ?_⟩
    refine EE.here ?_
    simp -dsimp
theorem c_R07_Right (l : List Point) (r : Bool) (hm : fq l = some r) : PureCall Tryz.prog 183 [.u (.one (.d (.sl 2 (List.map Point.row l))))] (.u (.one (.d (.bool r)))) := (f_R07_Right l r hm).pureW
def cA (cx : Cx) (t : Tree) (i : Int) (_x : Node) (tt : Bool ⊕ Unit) (ee : Exit) (ρ : Env) (σ : Sto) : Prop := match tt with
 | .inl r => ee = .ret ∧ EE cx (fun ρ σ => ∃ v, resV tb ρ σ Tryz.f149.results.toList = some v ∧ (v.frz σ).free = true ∧ (v.frz σ).wk (.u (.one (.d (.bool r))))) ρ σ
 | .inr _u => ee = .exit 2 ∧ EE cx (b6 [(1, .u (.one (.box 1 0))), (3, .u (.one (.d (.int .i64 (ak t.Nodes))))), (4, .u (.one (.d (.int .i64 i))))] [(1, .box [.d (.int .i64 t.States), .d (.sl 2 (List.map Point.row t.Hood)), .d (.sl 2 (List.map Node.row t.Nodes))])]) ρ σ
theorem l_R12_Right_2 (cx : Cx) (hn : cx.n = 115) (t : Tree) (i : Int) (x : Node) {fu : Nat} {stt : Int} {tt : Bool ⊕ Unit} (hh : ar (dL t i x) fu stt = some tt) {ρ : Env} {σ : Sto}
  (hE : bn (fun s : Int => [(1, .u (.one (.box 1 0))), (3, .u (.one (.d (.int .i64 (ak t.Nodes))))), (4, .u (.one (.d (.int .i64 i)))), (5, .u (.one (.box 5 0))), (6, .u (.one (.d (.int .i64 s))))]) (fun _s : Int => [(1, .box [.d (.int .i64 t.States), .d (.sl 2 (List.map Point.row t.Hood)), .d (.sl 2 (List.map Node.row t.Nodes))]), (5, .box [.d (.int .i64 x.Level), .d (.sl 1 (List.map (rI .i64) x.Next))])]) stt ρ σ) : Swp Tryz.prog cx (.loop (cj [1, 1, 1, 0, 1, 0, 0, 1, 0, 0, 1, 1, 1, 0, 0] (aX Tryz.f149))) ρ σ (cA cx t i x tt) := by
 refine bo hE hh (cA cx t i x) (fun _ => by rfl) (fun _ => by rfl) ?_
 rintro s r hm ρ σ hf
 simp only [Fits, az, aA, and_true] at hf
 unfold dL at hm
 dsimp only at hm
 refine ai ?_
 refine srs hn (by kernel_rfl) ?_
 simp -dsimp [hf]
 rcases am hm with ⟨c12, hm⟩ | ⟨c12, hm⟩
 ·refine ab (b := (ltB s t.States)) (by simp -dsimp) c12 ?_
  refine ae (a7 (ai (ap ?_)))
  refine srs hn (by kernel_rfl) ?_
  obtain ⟨x1, h13, hm⟩ := bnd hm
  simp -dsimp [hf, c12, h13]
  refine ai ?_
  refine srs hn (by kernel_rfl) ?_
  simp -dsimp
  rcases am hm with ⟨c14, hm⟩ | ⟨c14, hm⟩
  ·refine ab (b := (ltB x1 0)) (by simp -dsimp) c14 ?_
   refine srs hn (by kernel_rfl) ?_
   simp -dsimp [c14]
   refine ah (aj (aN (aj ?_)))
   cases hm
   refine au nofun ?_
   unfold cA
   dsimp only
   refine ⟨rfl, ?_⟩
   refine EE.here ?_
   simp -dsimp [Tryz.results149]
  ·refine aa (b := (ltB x1 0)) (by simp -dsimp) c14 ?_
   refine ae (a7 (ai ?_))
   obtain ⟨a2, j22, hm⟩ := bnd hm
   refine av [(1, .u (.one (.box 1 0))), (3, .u (.one (.d (.int .i64 (ak t.Nodes))))), (4, .u (.one (.d (.int .i64 i)))), (5, .u (.one (.box 5 0))), (6, .u (.one (.d (.int .i64 s)))), (7, .u (.one (.d (.int .i64 x1)))), (83, .u (.one (.d (.bool a2))))] [(1, .box [.d (.int .i64 t.States), .d (.sl 2 (List.map Point.row t.Hood)), .d (.sl 2 (List.map Node.row t.Nodes))]), (5, .box [.d (.int .i64 x.Level), .d (.sl 1 (List.map (rI .i64) x.Next))])] (by rfl) (by rfl) ?_ fun ρ σ hf => ?_
   ·replace hm := j22
    clear j22
    refine sr1 hn (by kernel_rfl) ?_
    rcases am hm with ⟨c15, hm⟩ | ⟨c15, hm⟩
    ·simp -dsimp [hf, c14, c15]
     refine a7 ?_
     cases hm
     refine EE.here ?_
     simp -dsimp [hf]
    ·simp -dsimp [hf, c14, c15]
     refine a7 ?_
     cases hm
     refine EE.here ?_
     simp -dsimp [hf]
   ·clear j22
    simp only [Fits, az, aA, and_true] at hf
    rcases am hm with ⟨c16, hm⟩ | ⟨c16, hm⟩
    ·refine ab (b := a2) (by simp -dsimp [hf]) c16 ?_
     refine srs hn (by kernel_rfl) ?_
     simp -dsimp
     refine ah (aj (aN (aj ?_)))
     cases hm
     refine au nofun ?_
     unfold cA
     dsimp only
     refine ⟨rfl, ?_⟩
     refine EE.here ?_
     simp -dsimp [Tryz.results149]
    ·refine aa (b := a2) (by simp -dsimp [hf]) c16 ?_
     refine ae (a7 ?_)
     obtain ⟨a3, j21, hm⟩ := bnd hm
     refine av [(1, .u (.one (.box 1 0))), (3, .u (.one (.d (.int .i64 (ak t.Nodes))))), (4, .u (.one (.d (.int .i64 i)))), (5, .u (.one (.box 5 0))), (6, .u (.one (.d (.int .i64 s)))), (103, .u (.one (.d (.bool a3))))] [(1, .box [.d (.int .i64 t.States), .d (.sl 2 (List.map Point.row t.Hood)), .d (.sl 2 (List.map Node.row t.Nodes))]), (5, .box [.d (.int .i64 x.Level), .d (.sl 1 (List.map (rI .i64) x.Next))])] (by rfl) (by rfl) ?_ fun ρ σ hf => ?_
     ·replace hm := j21
      clear j21
      refine sw_qt bj mixed (by rw [hn]; kernel_rfl) ?_
      rcases am hm with ⟨c17, hm⟩ | ⟨c17, hm⟩
      ·rcases am hm with ⟨c18, hm⟩ | ⟨c18, hm⟩
       ·simp -dsimp [hf, c17, c18]
        refine a7 ?_
        cases hm
        refine EE.here ?_
        simp -dsimp [hf]
       ·obtain ⟨x2, h19, hm⟩ := bnd hm
        simp -dsimp [hf, c17, c18, h19]
        refine a7 ?_
        cases hm
        refine EE.here ?_
        simp -dsimp [hf]
      ·simp -dsimp [hf, c17]
       refine a7 ?_
       cases hm
       refine EE.here ?_
       simp -dsimp [hf]
     ·clear j21
      simp only [Fits, az, aA, and_true] at hf
      rcases am hm with ⟨c20, hm⟩ | ⟨c20, hm⟩
      ·refine ab (b := a3) (by simp -dsimp [hf]) c20 ?_
       refine srs hn (by kernel_rfl) ?_
       simp -dsimp
       refine ah (aN (aj ?_))
       cases hm
       refine au nofun ?_
       unfold cA
       dsimp only
       refine ⟨rfl, ?_⟩
       refine EE.here ?_
       simp -dsimp [Tryz.results149]
      ·refine aa (b := a3) (by simp -dsimp [hf]) c20 ?_
       refine ae ?_
       refine aY ?_
       refine a7 ?_
       refine sr1 hn (by kernel_rfl) ?_
       simp -dsimp [hf]
       cases hm
       refine aJ ?_
       refine EE.here ?_
       simp -dsimp [hf]
 ·refine aa (b := (ltB s t.States)) (by simp -dsimp) c12 ?_
  refine aD ?_
  refine aj ?_
  cases hm
  refine au nofun ?_
  unfold cA
  dsimp only
  refine ⟨rfl, ?_⟩
  refine EE.here ?_
  simp -dsimp [hf, c12]
def d5 (cx : Cx) (t : Tree) (tt : Bool ⊕ Unit) (ee : Exit) (ρ : Env) (σ : Sto) : Prop := match tt with
 | .inl r => ee = .ret ∧ EE cx (fun ρ σ => ∃ v, resV tb ρ σ Tryz.f149.results.toList = some v ∧ (v.frz σ).free = true ∧ (v.frz σ).wk (.u (.one (.d (.bool r))))) ρ σ
 | .inr _u => ee = .exit 0 ∧ EE cx (b6 [(1, .u (.one (.box 1 0))), (3, .u (.one (.d (.int .i64 (ak t.Nodes)))))] [(1, .box [.d (.int .i64 t.States), .d (.sl 2 (List.map Point.row t.Hood)), .d (.sl 2 (List.map Node.row t.Nodes))])]) ρ σ
theorem l_R12_Right_1 (cx : Cx) (hn : cx.n = 115) (t : Tree) {fu : Nat} {stt : Int} {tt : Bool ⊕ Unit} (hh : ar (dS t) fu stt = some tt) {ρ : Env} {σ : Sto}
  (hE : bn (fun i : Int => [(1, .u (.one (.box 1 0))), (3, .u (.one (.d (.int .i64 (ak t.Nodes))))), (4, .u (.one (.d (.int .i64 i))))]) (fun _i : Int => [(1, .box [.d (.int .i64 t.States), .d (.sl 2 (List.map Point.row t.Hood)), .d (.sl 2 (List.map Node.row t.Nodes))])]) stt ρ σ) : Swp Tryz.prog cx (.loop (cj [1, 1, 1, 0, 1, 0, 0] (aX Tryz.f149))) ρ σ (d5 cx t tt) := by
 refine bo hE hh (d5 cx t) (fun _ => by rfl) (fun _ => by rfl) ?_
 rintro i r hm ρ σ hf
 simp only [Fits, az, aA, and_true] at hf
 unfold dS at hm
 dsimp only at hm
 refine ai ?_
 refine srs hn (by kernel_rfl) ?_
 simp -dsimp [hf]
 rcases am hm with ⟨c7, hm⟩ | ⟨c7, hm⟩
 ·refine ab (b := (ltB i (ak t.Nodes))) (by simp -dsimp) c7 ?_
  refine ae (a7 (ai (ap ?_)))
  refine srs hn (by kernel_rfl) ?_
  obtain ⟨x, h8, hm⟩ := bnd hm
  simp -dsimp [hf, c7, h8]
  refine ai ?_
  obtain ⟨a1, j25, hm⟩ := bnd hm
  refine av [(1, .u (.one (.box 1 0))), (3, .u (.one (.d (.int .i64 (ak t.Nodes))))), (4, .u (.one (.d (.int .i64 i)))), (5, .u (.one (.box 5 0))), (61, .u (.one (.d (.bool a1))))] [(1, .box [.d (.int .i64 t.States), .d (.sl 2 (List.map Point.row t.Hood)), .d (.sl 2 (List.map Node.row t.Nodes))]), (5, .box [.d (.int .i64 x.Level), .d (.sl 1 (List.map (rI .i64) x.Next))])] (by rfl) (by rfl) ?_ fun ρ σ hf => ?_
  ·replace hm := j25
   clear j25
   refine sr1 hn (by kernel_rfl) ?_
   rcases am hm with ⟨c9, hm⟩ | ⟨c9, hm⟩
   ·simp -dsimp [c9]
    refine a7 ?_
    cases hm
    refine EE.here ?_
    simp -dsimp [hf]
   ·rcases am hm with ⟨c10, hm⟩ | ⟨c10, hm⟩
    ·simp -dsimp [hf, c9, c10]
     refine a7 ?_
     cases hm
     refine EE.here ?_
     simp -dsimp [hf]
    ·simp -dsimp [hf, c9, c10]
     refine a7 ?_
     cases hm
     refine EE.here ?_
     simp -dsimp [hf]
  ·clear j25
   simp only [Fits, az, aA, and_true] at hf
   rcases am hm with ⟨c11, hm⟩ | ⟨c11, hm⟩
   ·refine ab (b := a1) (by simp -dsimp [hf]) c11 ?_
    refine srs hn (by kernel_rfl) ?_
    simp -dsimp
    refine ah (aj (aN (aj ?_)))
    cases hm
    refine au nofun ?_
    unfold d5
    dsimp only
    refine ⟨rfl, ?_⟩
    refine EE.here ?_
    simp -dsimp [Tryz.results149]
   ·refine aa (b := a1) (by simp -dsimp [hf]) c11 ?_
    refine ae (a7 ?_)
    refine srs hn (by kernel_rfl) ?_
    simp -dsimp
    refine ap ?_
    obtain ⟨o_, g23, hm⟩ := bnd hm
    refine aW [(1, .u (.one (.box 1 0))), (3, .u (.one (.d (.int .i64 (ak t.Nodes))))), (4, .u (.one (.d (.int .i64 i)))), (5, .u (.one (.box 5 0))), (6, .u (.one (.d (.int .i64 0))))] [(1, .box [.d (.int .i64 t.States), .d (.sl 2 (List.map Point.row t.Hood)), .d (.sl 2 (List.map Node.row t.Nodes))]), (5, .box [.d (.int .i64 x.Level), .d (.sl 1 (List.map (rI .i64) x.Next))])] (by rfl) (by rfl) (by
      refine EE.here ?_
      simp -dsimp [hf]
    ) fun ρ σ hf => ?_
    refine (l_R12_Right_2 cx hn t i x g23 hf).mono fun ee ρ σ x24 => ?_
    rcases o_ with r | _u
    ·unfold cA at x24
     dsimp only at x24
     obtain ⟨rfl, x24⟩ := x24
     refine aN (aN (aj ?_))
     cases hm
     refine au nofun ?_
     unfold d5
     dsimp only
     refine ⟨rfl, ?_⟩
     exact x24
    ·unfold cA at x24
     dsimp only at x24
     obtain ⟨rfl, x24⟩ := x24
     refine aF ?_
     refine aY ?_
     refine a7 ?_
     refine bl (by rfl) (by rfl) x24 fun ρ σ hf => ?_
     simp only [Fits, az, aA, and_true] at hf
     refine sr1 hn (by kernel_rfl) ?_
     simp -dsimp [hf]
     cases hm
     refine aJ ?_
     refine EE.here ?_
     simp -dsimp [hf]
 ·refine aa (b := (ltB i (ak t.Nodes))) (by simp -dsimp) c7 ?_
  refine aD ?_
  refine aj ?_
  cases hm
  refine au nofun ?_
  unfold d5
  dsimp only
  refine ⟨rfl, ?_⟩
  refine EE.here ?_
  simp -dsimp [hf, c7]
theorem f_R12_Right (t : Tree) (r : Bool) (hm : dY t = some r) : PFn Tryz.prog 149 [.u (.agg [.d (.int .i64 t.States), .d (.sl 2 (List.map Point.row t.Hood)), .d (.sl 2 (List.map Node.row t.Nodes))])] (fun v => v.wk (.u (.one (.d (.bool r))))) := by
 refine bv Tryz.func149 Tryz.ntmps149 rfl (by kernel_rfl) (by simp) fun cx hn => ?_
 unfold dY at hm
 refine srs hn (by kernel_rfl) ?_
 simp -dsimp []
 refine srs hn (by kernel_rfl) ?_
 simp -dsimp []
 refine ai ?_
 obtain ⟨a, j29, hm⟩ := bnd hm
 refine av [(1, .u (.one (.box 1 0))), (3, .u (.one (.d (.int .i64 (ak t.Nodes))))), (32, .u (.one (.d (.bool a))))] [(1, .box [.d (.int .i64 t.States), .d (.sl 2 (List.map Point.row t.Hood)), .d (.sl 2 (List.map Node.row t.Nodes))])] (by rfl) (by rfl) ?_ fun ρ σ hf => ?_
 ·replace hm := j29
  clear j29
  refine sr1 hn (by kernel_rfl) ?_
  rcases am hm with ⟨c1, hm⟩ | ⟨c1, hm⟩
  ·simp -dsimp [c1]
   refine a7 ?_
   cases hm
   refine EE.here ?_
   simp -dsimp
  ·rcases am hm with ⟨c2, hm⟩ | ⟨c2, hm⟩
   ·simp -dsimp [c1, c2]
    refine a7 ?_
    cases hm
    refine EE.here ?_
    simp -dsimp
   ·obtain ⟨y, h3, hm⟩ := bnd hm
    simp -dsimp [c1, c2]
    refine ag (c_R07_Right t.Hood y h3) (by rw [hn]; decide) ?_
    rcases am hm with ⟨c4, hm⟩ | ⟨c4, hm⟩
    ·simp -dsimp [c4]
     refine a7 ?_
     cases hm
     refine EE.here ?_
     simp -dsimp
    ·rcases am hm with ⟨c5, hm⟩ | ⟨c5, hm⟩
     ·simp -dsimp [c4, c5]
      refine a7 ?_
      cases hm
      refine EE.here ?_
      simp -dsimp
     ·simp -dsimp [c4, c5]
      refine a7 ?_
      cases hm
      refine EE.here ?_
      simp -dsimp
 ·clear j29
  simp only [Fits, az, aA, and_true] at hf
  rcases am hm with ⟨c6, hm⟩ | ⟨c6, hm⟩
  ·refine ab (b := a) (by simp -dsimp [hf]) c6 ?_
   refine srs hn (by kernel_rfl) ?_
   simp -dsimp
   refine ah (aj ?_)
   cases hm
   refine ⟨.inr rfl, ?_⟩
   refine EE.here ?_
   simp -dsimp
  ·refine aa (b := a) (by simp -dsimp [hf]) c6 ?_
   refine ae (a7 (ai ?_))
   refine srs hn (by kernel_rfl) ?_
   simp -dsimp
   refine ap ?_
   obtain ⟨o_, g26, hm⟩ := bnd hm
   refine aW [(1, .u (.one (.box 1 0))), (3, .u (.one (.d (.int .i64 (ak t.Nodes))))), (4, .u (.one (.d (.int .i64 0))))] [(1, .box [.d (.int .i64 t.States), .d (.sl 2 (List.map Point.row t.Hood)), .d (.sl 2 (List.map Node.row t.Nodes))])] (by rfl) (by rfl) (by
     refine EE.here ?_
     simp -dsimp [hf]
   ) fun ρ σ hf => ?_
   refine (l_R12_Right_1 cx hn t g26 hf).mono fun ee ρ σ x27 => ?_
   rcases o_ with r | _u
   ·unfold d5 at x27
    dsimp only at x27
    obtain ⟨rfl, x27⟩ := x27
    refine aN (aj ?_)
    cases hm
    exact ⟨.inr rfl, x27⟩
   ·unfold d5 at x27
    dsimp only at x27
    obtain ⟨rfl, x27⟩ := x27
    refine aF ?_
    refine a7 ?_
    refine bl (by rfl) (by rfl) x27 fun ρ σ hf => ?_
    simp only [Fits, az, aA, and_true] at hf
    refine cZ bj mixed (by rw [hn]; kernel_rfl) ?_
    obtain ⟨x, h28, hm⟩ := bnd hm
    simp -dsimp [hf, h28]
    refine ah ?_
    cases hm
    refine ⟨.inr rfl, ?_⟩
    refine EE.here ?_
    simp -dsimp
theorem c_R12_Right (t : Tree) (r : Bool) (hm : dY t = some r) : PureCall Tryz.prog 149 [.u (.agg [.d (.int .i64 t.States), .d (.sl 2 (List.map Point.row t.Hood)), .d (.sl 2 (List.map Node.row t.Nodes))])] (.u (.one (.d (.bool r)))) := (f_R12_Right t r hm).pureW
def fQ (cx : Cx) (_t : Tree) (_in_ : List Int) (tt : Int) (ee : Exit) (ρ : Env) (σ : Sto) : Prop := match tt with
 | k => ee = .exit 0 ∧ EE cx (b6 [(5, .u (.one (.d (.int .i64 k))))] []) ρ σ
theorem l_R12_Value_1 (cx : Cx) (hn : cx.n = 30) (t : Tree) (in_ : List Int) {fu : Nat} {stt : Int × Int} {tt : Int} (hh : ar (dQ t in_) fu stt = some tt) {ρ : Env} {σ : Sto}
  (hE : bn (fun stt : Int × Int => match stt with | (k, i) => [(1, .u (.one (.d (.sl 1 (List.map (rI .i64) in_))))), (2, .u (.one (.box 2 0))), (5, .u (.one (.d (.int .i64 k)))), (6, .u (.one (.d (.int .i64 i))))]) (fun stt : Int × Int => match stt with | (_k, _i) => [(2, .box [.d (.int .i64 t.States), .d (.sl 2 (List.map Point.row t.Hood)), .d (.sl 2 (List.map Node.row t.Nodes))])]) stt ρ σ) : Swp Tryz.prog cx (.loop (cj [1, 1, 0, 1, 0, 0] (aX Tryz.f105))) ρ σ (fQ cx t in_ tt) := by
 refine bo hE hh (fQ cx t in_) (fun _ => by rfl) (fun _ => by rfl) ?_
 rintro ⟨k, i⟩ r hm ρ σ hf
 simp only [Fits, az, aA, and_true] at hf
 unfold dQ at hm
 dsimp only at hm
 refine ai ?_
 refine srs hn (by kernel_rfl) ?_
 simp -dsimp [hf]
 rcases am hm with ⟨c1, hm⟩ | ⟨c1, hm⟩
 ·refine ab (b := (ltB i (ak in_))) (by simp -dsimp) c1 ?_
  refine ae (a7 (ai (ap ?_)))
  refine sw_qt bj mixed (by rw [hn]; kernel_rfl) ?_
  obtain ⟨x, h2, hm⟩ := bnd hm
  obtain ⟨x1, h3, hm⟩ := bnd hm
  obtain ⟨x2, h4, hm⟩ := bnd hm
  simp -dsimp [hf, c1, h2, h3, h4]
  refine aY ?_
  refine a7 ?_
  refine sr1 hn (by kernel_rfl) ?_
  simp -dsimp [hf]
  cases hm
  refine aJ ?_
  refine EE.here ?_
  simp -dsimp [hf]
 ·refine aa (b := (ltB i (ak in_))) (by simp -dsimp) c1 ?_
  refine aD ?_
  refine aj ?_
  cases hm
  refine au nofun ?_
  unfold fQ
  dsimp only
  refine ⟨rfl, ?_⟩
  refine EE.here ?_
  simp -dsimp [hf, c1]
theorem f_R12_Value (t : Tree) (in_ : List Int) (r : Int) (hm : ef t in_ = some r) : PFn Tryz.prog 105 [.u (.agg [.d (.int .i64 t.States), .d (.sl 2 (List.map Point.row t.Hood)), .d (.sl 2 (List.map Node.row t.Nodes))]), .u (.one (.d (.sl 1 (List.map (rI .i64) in_))))] (fun v => v.wk (.u (.one (.d (.int .i64 r))))) := by
 refine bv Tryz.func105 Tryz.ntmps105 rfl (by kernel_rfl) (by simp) fun cx hn => ?_
 unfold ef at hm
 refine srs hn (by kernel_rfl) ?_
 simp -dsimp []
 refine srs hn (by kernel_rfl) ?_
 simp -dsimp []
 refine ai ?_
 refine srs hn (by kernel_rfl) ?_
 simp -dsimp []
 refine ap ?_
 obtain ⟨k, g5, hm⟩ := bnd hm
 refine aW [(1, .u (.one (.d (.sl 1 (List.map (rI .i64) in_))))), (2, .u (.one (.box 2 0))), (5, .u (.one (.d (.int .i64 (aM .i64 (ak t.Nodes) 1))))), (6, .u (.one (.d (.int .i64 0))))] [(2, .box [.d (.int .i64 t.States), .d (.sl 2 (List.map Point.row t.Hood)), .d (.sl 2 (List.map Node.row t.Nodes))])] (by rfl) (by rfl) (by
   refine EE.here ?_
   simp -dsimp []
 ) fun ρ σ hf => ?_
 refine (l_R12_Value_1 cx hn t in_ g5 hf).mono fun ee ρ σ x6 => ?_
 unfold fQ at x6
 dsimp only at x6
 obtain ⟨rfl, x6⟩ := x6
 refine aF ?_
 refine a7 ?_
 refine bl (by rfl) (by rfl) x6 fun ρ σ hf => ?_
 simp only [Fits, az, aA, and_true] at hf
 refine srs hn (by kernel_rfl) ?_
 simp -dsimp [hf]
 refine ah ?_
 cases hm
 refine ⟨.inr rfl, ?_⟩
 refine EE.here ?_
 simp -dsimp
theorem c_R12_Value (t : Tree) (in_ : List Int) (r : Int) (hm : ef t in_ = some r) : PureCall Tryz.prog 105 [.u (.agg [.d (.int .i64 t.States), .d (.sl 2 (List.map Point.row t.Hood)), .d (.sl 2 (List.map Node.row t.Nodes))]), .u (.one (.d (.sl 1 (List.map (rI .i64) in_))))] (.u (.one (.d (.int .i64 r)))) := (f_R12_Value t in_ r hm).pureW
def el (cx : Cx) (t : Tree) (in_ : List Int) (tt : (Int × Int) ⊕ Unit) (ee : Exit) (ρ : Env) (σ : Sto) : Prop := match tt with
 | .inl r => ee = .ret ∧ EE cx (fun ρ σ => ∃ v, resV tb ρ σ Tryz.f150.results.toList = some v ∧ (v.frz σ).free = true ∧ (v.frz σ).wk (.tup [.one (.d (.int .i64 r.1)), .one (.d (.int .i64 r.2))])) ρ σ
 | .inr _u => ee = .exit 0 ∧ EE cx (b6 [(1, .u (.one (.d (.sl 1 (List.map (rI .i64) in_))))), (2, .u (.one (.box 2 0)))] [(2, .box [.d (.int .i64 t.States), .d (.sl 2 (List.map Point.row t.Hood)), .d (.sl 2 (List.map Node.row t.Nodes))])]) ρ σ
theorem l_R12_Eval_1 (cx : Cx) (hn : cx.n = 39) (t : Tree) (in_ : List Int) {fu : Nat} {stt : Int} {tt : (Int × Int) ⊕ Unit} (hh : ar (fy t in_) fu stt = some tt) {ρ : Env} {σ : Sto}
  (hE : bn (fun i : Int => [(1, .u (.one (.d (.sl 1 (List.map (rI .i64) in_))))), (2, .u (.one (.box 2 0))), (6, .u (.one (.d (.int .i64 i))))]) (fun _i : Int => [(2, .box [.d (.int .i64 t.States), .d (.sl 2 (List.map Point.row t.Hood)), .d (.sl 2 (List.map Node.row t.Nodes))])]) stt ρ σ) : Swp Tryz.prog cx (.loop (cj [1, 1, 1, 0, 1, 0, 0] (aX Tryz.f150))) ρ σ (el cx t in_ tt) := by
 refine bo hE hh (el cx t in_) (fun _ => by rfl) (fun _ => by rfl) ?_
 rintro i r hm ρ σ hf
 simp only [Fits, az, aA, and_true] at hf
 unfold fy at hm
 dsimp only at hm
 refine ai ?_
 refine srs hn (by kernel_rfl) ?_
 simp -dsimp [hf]
 rcases am hm with ⟨c4, hm⟩ | ⟨c4, hm⟩
 ·refine ab (b := (ltB i (ak in_))) (by simp -dsimp) c4 ?_
  refine ae (a7 (ai (ap ?_)))
  obtain ⟨a, j8, hm⟩ := bnd hm
  refine av [(1, .u (.one (.d (.sl 1 (List.map (rI .i64) in_))))), (2, .u (.one (.box 2 0))), (6, .u (.one (.d (.int .i64 i)))), (35, .u (.one (.d (.bool a))))] [(2, .box [.d (.int .i64 t.States), .d (.sl 2 (List.map Point.row t.Hood)), .d (.sl 2 (List.map Node.row t.Nodes))])] (by rfl) (by rfl) ?_ fun ρ σ hf => ?_
  ·replace hm := j8
   clear j8
   refine sw_qt bj mixed (by rw [hn]; kernel_rfl) ?_
   obtain ⟨x, h5, hm⟩ := bnd hm
   rcases am hm with ⟨c6, hm⟩ | ⟨c6, hm⟩
   ·simp -dsimp [hf, c4, h5, c6]
    refine a7 ?_
    cases hm
    refine EE.here ?_
    simp -dsimp [hf]
   ·simp -dsimp [hf, c4, h5, c6]
    refine a7 ?_
    cases hm
    refine EE.here ?_
    simp -dsimp [hf]
  ·clear j8
   simp only [Fits, az, aA, and_true] at hf
   rcases am hm with ⟨c7, hm⟩ | ⟨c7, hm⟩
   ·refine ab (b := a) (by simp -dsimp [hf]) c7 ?_
    refine srs hn (by kernel_rfl) ?_
    simp -dsimp
    refine ah (aN (aj ?_))
    cases hm
    refine au nofun ?_
    unfold el
    dsimp only
    refine ⟨rfl, ?_⟩
    refine EE.here ?_
    simp -dsimp [Tryz.results150]
   ·refine aa (b := a) (by simp -dsimp [hf]) c7 ?_
    refine ae ?_
    refine aY ?_
    refine a7 ?_
    refine sr1 hn (by kernel_rfl) ?_
    simp -dsimp [hf]
    cases hm
    refine aJ ?_
    refine EE.here ?_
    simp -dsimp [hf]
 ·refine aa (b := (ltB i (ak in_))) (by simp -dsimp) c4 ?_
  refine aD ?_
  refine aj ?_
  cases hm
  refine au nofun ?_
  unfold el
  dsimp only
  refine ⟨rfl, ?_⟩
  refine EE.here ?_
  simp -dsimp [hf, c4]
theorem f_R12_Eval (t : Tree) (in_ : List Int) (r : Int × Int) (hm : gA t in_ = some r) : PFn Tryz.prog 150 [.u (.agg [.d (.int .i64 t.States), .d (.sl 2 (List.map Point.row t.Hood)), .d (.sl 2 (List.map Node.row t.Nodes))]), .u (.one (.d (.sl 1 (List.map (rI .i64) in_))))] (fun v => v.wk (.tup [.one (.d (.int .i64 r.1)), .one (.d (.int .i64 r.2))])) := by
 refine bv Tryz.func150 Tryz.ntmps150 rfl (by kernel_rfl) (by simp) fun cx hn => ?_
 unfold gA at hm
 refine srs hn (by kernel_rfl) ?_
 simp -dsimp []
 refine ai ?_
 refine srs hn (by kernel_rfl) ?_
 obtain ⟨y, h1, hm⟩ := bnd hm
 simp -dsimp []
 refine ag (c_R12_Right t y h1) (by rw [hn]; decide) ?_
 simp -dsimp
 rcases am hm with ⟨c2, hm⟩ | ⟨c2, hm⟩
 ·refine ab (b := (aR y)) (by simp -dsimp) c2 ?_
  refine srs hn (by kernel_rfl) ?_
  simp -dsimp [c2]
  refine ah (aj ?_)
  cases hm
  refine ⟨.inr rfl, ?_⟩
  refine EE.here ?_
  simp -dsimp
 ·refine aa (b := (aR y)) (by simp -dsimp) c2 ?_
  refine ae (a7 (ai ?_))
  refine srs hn (by kernel_rfl) ?_
  simp -dsimp [c2]
  rcases am hm with ⟨c3, hm⟩ | ⟨c3, hm⟩
  ·refine ab (b := (neB (ak in_) (ak t.Hood))) (by simp -dsimp) c3 ?_
   refine srs hn (by kernel_rfl) ?_
   simp -dsimp [c3]
   refine ah (aj ?_)
   cases hm
   refine ⟨.inr rfl, ?_⟩
   refine EE.here ?_
   simp -dsimp
  ·refine aa (b := (neB (ak in_) (ak t.Hood))) (by simp -dsimp) c3 ?_
   refine ae (a7 (ai ?_))
   refine srs hn (by kernel_rfl) ?_
   simp -dsimp [c3]
   refine ap ?_
   obtain ⟨o_, g9, hm⟩ := bnd hm
   refine aW [(1, .u (.one (.d (.sl 1 (List.map (rI .i64) in_))))), (2, .u (.one (.box 2 0))), (6, .u (.one (.d (.int .i64 0))))] [(2, .box [.d (.int .i64 t.States), .d (.sl 2 (List.map Point.row t.Hood)), .d (.sl 2 (List.map Node.row t.Nodes))])] (by rfl) (by rfl) (by
     refine EE.here ?_
     simp -dsimp
   ) fun ρ σ hf => ?_
   refine (l_R12_Eval_1 cx hn t in_ g9 hf).mono fun ee ρ σ x10 => ?_
   rcases o_ with r | _u
   ·unfold el at x10
    dsimp only at x10
    obtain ⟨rfl, x10⟩ := x10
    refine aN (aj ?_)
    cases hm
    exact ⟨.inr rfl, x10⟩
   ·unfold el at x10
    dsimp only at x10
    obtain ⟨rfl, x10⟩ := x10
    refine aF ?_
    refine a7 ?_
    refine bl (by rfl) (by rfl) x10 fun ρ σ hf => ?_
    simp only [Fits, az, aA, and_true] at hf
    refine srs hn (by kernel_rfl) ?_
    obtain ⟨y1, h11, hm⟩ := bnd hm
    simp -dsimp [hf]
    refine ag (c_R12_Value t in_ y1 h11) (by rw [hn]; decide) ?_
    simp -dsimp
    refine ah ?_
    cases hm
    refine ⟨.inr rfl, ?_⟩
    refine EE.here ?_
    simp -dsimp
theorem c_R12_Eval (t : Tree) (in_ : List Int) (r : Int × Int) (hm : gA t in_ = some r) : PureCall Tryz.prog 150 [.u (.agg [.d (.int .i64 t.States), .d (.sl 2 (List.map Point.row t.Hood)), .d (.sl 2 (List.map Node.row t.Nodes))]), .u (.one (.d (.sl 1 (List.map (rI .i64) in_))))] (.tup [.one (.d (.int .i64 r.1)), .one (.d (.int .i64 r.2))]) := (f_R12_Eval t in_ r hm).pureW
theorem f_R12_Quiet (t : Tree) (r : Bool) (hm : fh t = some r) : PFn Tryz.prog 100 [.u (.agg [.d (.int .i64 t.States), .d (.sl 2 (List.map Point.row t.Hood)), .d (.sl 2 (List.map Node.row t.Nodes))])] (fun v => v.wk (.u (.one (.d (.bool r))))) := by
 refine bv Tryz.func100 Tryz.ntmps100 rfl (by kernel_rfl) (by simp) fun cx hn => ?_
 unfold fh at hm
 refine srs hn (by kernel_rfl) ?_
 simp -dsimp []
 refine ai ?_
 refine srs hn (by kernel_rfl) ?_
 obtain ⟨y, h1, hm⟩ := bnd hm
 simp -dsimp []
 refine ag (c_R12_Right t y h1) (by rw [hn]; decide) ?_
 simp -dsimp
 rcases am hm with ⟨c2, hm⟩ | ⟨c2, hm⟩
 ·refine ab (b := (aR y)) (by simp -dsimp) c2 ?_
  refine srs hn (by kernel_rfl) ?_
  simp -dsimp [c2]
  refine ah (aj ?_)
  cases hm
  refine ⟨.inr rfl, ?_⟩
  refine EE.here ?_
  simp -dsimp
 ·refine aa (b := (aR y)) (by simp -dsimp) c2 ?_
  refine ae (a7 ?_)
  refine sw_mids bj mixed 4 5 10 [[0]] [13] (by rw [hn]; kernel_rfl) ?_
  dsimp only [List.take, List.drop, midsD, uopsD, pk, List.cons_append, List.nil_append]
  obtain ⟨l, h3, hm⟩ := bnd hm
  obtain ⟨⟨h3a, h3b, h3c⟩, rfl⟩ := mkL_some h3
  obtain ⟨y1, h4, hm⟩ := bnd hm
  simp -dsimp [c2, h3a, h3c]
  refine qcallL_brw (us' := [.u (.agg [.d (.int .i64 t.States), .d (.sl 2 (List.map Point.row t.Hood)), .d (.sl 2 (List.map Node.row t.Nodes))]), .u (.one (.d (.sl 1 (List.map (rI .i64) (List.replicate (ak t.Hood).toNat 0)))))]) (c_R12_Eval t (List.replicate (ak t.Hood).toNat 0) y1 h4) (by simp -dsimp) rfl ?_
  simp -dsimp
  refine srs hn (by kernel_rfl) ?_
  simp -dsimp
  refine ah ?_
  cases hm
  refine ⟨.inr rfl, ?_⟩
  refine EE.here ?_
  simp -dsimp
theorem c_R12_Quiet (t : Tree) (r : Bool) (hm : fh t = some r) : PureCall Tryz.prog 100 [.u (.agg [.d (.int .i64 t.States), .d (.sl 2 (List.map Point.row t.Hood)), .d (.sl 2 (List.map Node.row t.Nodes))])] (.u (.one (.d (.bool r)))) := (f_R12_Quiet t r hm).pureW
theorem f_R05_Place (x : Int) (y : Int) (r : Bool) (hm : ed x y = some r) : PFn Tryz.prog 106 [.u (.one (.d (.int .i64 x))), .u (.one (.d (.int .i64 y)))] (fun v => v.wk (.u (.one (.d (.bool r))))) := by
 refine bv Tryz.func106 Tryz.ntmps106 rfl (by kernel_rfl) (by simp) fun cx hn => ?_
 unfold ed at hm
 refine srs hn (by kernel_rfl) ?_
 simp -dsimp []
 obtain ⟨a, j4, hm⟩ := bnd hm
 refine av [(4, .u (.one (.d (.bool a))))] [] (by rfl) (by rfl) ?_ fun ρ σ hf => ?_
 ·replace hm := j4
  clear j4
  refine sr1 hn (by kernel_rfl) ?_
  rcases am hm with ⟨c1, hm⟩ | ⟨c1, hm⟩
  ·rcases am hm with ⟨c2, hm⟩ | ⟨c2, hm⟩
   ·rcases am hm with ⟨c3, hm⟩ | ⟨c3, hm⟩
    ·simp -dsimp [c1, c2, c3]
     refine a7 ?_
     cases hm
     refine EE.here ?_
     simp -dsimp
    ·simp -dsimp [c1, c2, c3]
     refine a7 ?_
     cases hm
     refine EE.here ?_
     simp -dsimp
   ·simp -dsimp [c1, c2]
    refine a7 ?_
    cases hm
    refine EE.here ?_
    simp -dsimp
  ·simp -dsimp [c1]
   refine a7 ?_
   cases hm
   refine EE.here ?_
   simp -dsimp
 ·clear j4
  simp only [Fits, az, aA, and_true] at hf
  refine ah ?_
  cases hm
  refine ⟨.inr rfl, ?_⟩
  refine EE.here ?_
  simp -dsimp [hf]
theorem c_R05_Place (x : Int) (y : Int) (r : Bool) (hm : ed x y = some r) : PureCall Tryz.prog 106 [.u (.one (.d (.int .i64 x))), .u (.one (.d (.int .i64 y)))] (.u (.one (.d (.bool r)))) := (f_R05_Place x y r hm).pureW
theorem f_R05_before (a : Cell) (b : Cell) (r : Bool) (hm : cX a b = some r) : PFn Tryz.prog 108 [.u (.agg [.d (.int .i64 a.X), .d (.int .i64 a.Y), .d (.int .i64 a.S)]), .u (.agg [.d (.int .i64 b.X), .d (.int .i64 b.Y), .d (.int .i64 b.S)])] (fun v => v.wk (.u (.one (.d (.bool r))))) := by
 refine bv Tryz.func108 Tryz.ntmps108 rfl (by kernel_rfl) (by simp) fun cx hn => ?_
 unfold cX at hm
 refine srs hn (by kernel_rfl) ?_
 simp -dsimp []
 obtain ⟨a1, j3, hm⟩ := bnd hm
 refine av [(4, .u (.one (.d (.bool a1))))] [] (by rfl) (by rfl) ?_ fun ρ σ hf => ?_
 ·replace hm := j3
  clear j3
  refine sr1 hn (by kernel_rfl) ?_
  rcases am hm with ⟨c1, hm⟩ | ⟨c1, hm⟩
  ·simp -dsimp [c1]
   refine a7 ?_
   cases hm
   refine EE.here ?_
   simp -dsimp
  ·rcases am hm with ⟨c2, hm⟩ | ⟨c2, hm⟩
   ·simp -dsimp [c1, c2]
    refine a7 ?_
    cases hm
    refine EE.here ?_
    simp -dsimp
   ·simp -dsimp [c1, c2]
    refine a7 ?_
    cases hm
    refine EE.here ?_
    simp -dsimp
 ·clear j3
  simp only [Fits, az, aA, and_true] at hf
  refine ah ?_
  cases hm
  refine ⟨.inr rfl, ?_⟩
  refine EE.here ?_
  simp -dsimp [hf]
theorem ij (a : Cell) (b : Cell) (r : Bool) (hm : cX a b = some r) : PureCall Tryz.prog 108 [.u (.agg [.d (.int .i64 a.X), .d (.int .i64 a.Y), .d (.int .i64 a.S)]), .u (.agg [.d (.int .i64 b.X), .d (.int .i64 b.Y), .d (.int .i64 b.S)])] (.u (.one (.d (.bool r)))) := (f_R05_before a b r hm).pureW
def dP (cx : Cx) (p : List Cell) (tt : Bool ⊕ Unit) (ee : Exit) (ρ : Env) (σ : Sto) : Prop := match tt with
 | .inl r => ee = .ret ∧ EE cx (fun ρ σ => ∃ v, resV tb ρ σ Tryz.f101.results.toList = some v ∧ (v.frz σ).free = true ∧ (v.frz σ).wk (.u (.one (.d (.bool r))))) ρ σ
 | .inr _u => ee = .exit 0 ∧ EE cx (b6 [(0, .u (.one (.d (.sl 3 (List.map Cell.row p)))))] []) ρ σ
theorem l_R05_Right_1 (cx : Cx) (hn : cx.n = 58) (p : List Cell) {fu : Nat} {stt : Int} {tt : Bool ⊕ Unit} (hh : ar (eL p) fu stt = some tt) {ρ : Env} {σ : Sto}
  (hE : bn (fun i : Int => [(0, .u (.one (.d (.sl 3 (List.map Cell.row p))))), (3, .u (.one (.d (.int .i64 i))))]) (fun _i : Int => []) stt ρ σ) : Swp Tryz.prog cx (.loop (cj [1, 0, 1, 0, 0] (aX Tryz.f101))) ρ σ (dP cx p tt) := by
 refine bo hE hh (dP cx p) (fun _ => by rfl) (fun _ => by rfl) ?_
 rintro i r hm ρ σ hf
 simp only [Fits, az, aA, and_true] at hf
 unfold eL at hm
 dsimp only at hm
 refine ai ?_
 refine srs hn (by kernel_rfl) ?_
 simp -dsimp [hf]
 rcases am hm with ⟨c1, hm⟩ | ⟨c1, hm⟩
 ·refine ab (b := (ltB i (ak p))) (by simp -dsimp) c1 ?_
  refine ae (a7 (ai (ap ?_)))
  obtain ⟨a, j11, hm⟩ := bnd hm
  refine av [(0, .u (.one (.d (.sl 3 (List.map Cell.row p))))), (3, .u (.one (.d (.int .i64 i)))), (54, .u (.one (.d (.bool a))))] [] (by rfl) (by rfl) ?_ fun ρ σ hf => ?_
  ·replace hm := j11
   clear j11
   refine sw_qt bj mixed (by rw [hn]; kernel_rfl) ?_
   obtain ⟨x, h2, hm⟩ := bnd hm
   obtain ⟨y, h3, hm⟩ := bnd hm
   simp -dsimp [hf, c1, h2]
   refine aK (c_R05_Place x.X x.Y y h3) ?_
   rcases am hm with ⟨c4, hm⟩ | ⟨c4, hm⟩
   ·simp -dsimp [c4]
    refine a7 ?_
    cases hm
    refine EE.here ?_
    simp -dsimp [hf]
   ·rcases am hm with ⟨c5, hm⟩ | ⟨c5, hm⟩
    ·simp -dsimp [hf, h2, c4, c5]
     refine a7 ?_
     cases hm
     refine EE.here ?_
     simp -dsimp [hf]
    ·rcases am hm with ⟨c6, hm⟩ | ⟨c6, hm⟩
     ·simp -dsimp [hf, h2, c4, c5, c6]
      refine a7 ?_
      cases hm
      refine EE.here ?_
      simp -dsimp [hf]
     ·rcases am hm with ⟨c7, hm⟩ | ⟨c7, hm⟩
      ·obtain ⟨x1, h8, hm⟩ := bnd hm
       obtain ⟨y1, h9, hm⟩ := bnd hm
       simp -dsimp [hf, h2, c4, c5, c6, c7, h8]
       refine aK (ij x1 x y1 h9) ?_
       simp -dsimp
       refine a7 ?_
       cases hm
       refine EE.here ?_
       simp -dsimp [hf]
      ·simp -dsimp [hf, h2, c4, c5, c6, c7]
       refine a7 ?_
       cases hm
       refine EE.here ?_
       simp -dsimp [hf]
  ·clear j11
   simp only [Fits, az, aA, and_true] at hf
   rcases am hm with ⟨c10, hm⟩ | ⟨c10, hm⟩
   ·refine ab (b := a) (by simp -dsimp [hf]) c10 ?_
    refine srs hn (by kernel_rfl) ?_
    simp -dsimp
    refine ah (aN (aj ?_))
    cases hm
    refine au nofun ?_
    unfold dP
    dsimp only
    refine ⟨rfl, ?_⟩
    refine EE.here ?_
    simp -dsimp [Tryz.results101]
   ·refine aa (b := a) (by simp -dsimp [hf]) c10 ?_
    refine ae ?_
    refine aY ?_
    refine a7 ?_
    refine sr1 hn (by kernel_rfl) ?_
    simp -dsimp [hf]
    cases hm
    refine aJ ?_
    refine EE.here ?_
    simp -dsimp [hf]
 ·refine aa (b := (ltB i (ak p))) (by simp -dsimp) c1 ?_
  refine aD ?_
  refine aj ?_
  cases hm
  refine au nofun ?_
  unfold dP
  dsimp only
  refine ⟨rfl, ?_⟩
  refine EE.here ?_
  simp -dsimp [hf, c1]
theorem f_R05_Right (p : List Cell) (r : Bool) (hm : dV p = some r) : PFn Tryz.prog 101 [.u (.one (.d (.sl 3 (List.map Cell.row p))))] (fun v => v.wk (.u (.one (.d (.bool r))))) := by
 refine bv Tryz.func101 Tryz.ntmps101 rfl (by kernel_rfl) (by simp) fun cx hn => ?_
 unfold dV at hm
 refine srs hn (by kernel_rfl) ?_
 simp -dsimp []
 refine ai ?_
 refine srs hn (by kernel_rfl) ?_
 simp -dsimp []
 refine ap ?_
 obtain ⟨o_, g12, hm⟩ := bnd hm
 refine aW [(0, .u (.one (.d (.sl 3 (List.map Cell.row p))))), (3, .u (.one (.d (.int .i64 0))))] [] (by rfl) (by rfl) (by
   refine EE.here ?_
   simp -dsimp []
 ) fun ρ σ hf => ?_
 refine (l_R05_Right_1 cx hn p g12 hf).mono fun ee ρ σ x13 => ?_
 rcases o_ with r | _u
 ·unfold dP at x13
  dsimp only at x13
  obtain ⟨rfl, x13⟩ := x13
  refine aN (aj ?_)
  cases hm
  exact ⟨.inr rfl, x13⟩
 ·unfold dP at x13
  dsimp only at x13
  obtain ⟨rfl, x13⟩ := x13
  refine aF ?_
  refine a7 ?_
  refine bl (by rfl) (by rfl) x13 fun ρ σ hf => ?_
  simp only [Fits, az, aA, and_true] at hf
  refine srs hn (by kernel_rfl) ?_
  simp -dsimp [hf]
  refine ah ?_
  cases hm
  refine ⟨.inr rfl, ?_⟩
  refine EE.here ?_
  simp -dsimp
theorem c_R05_Right (p : List Cell) (r : Bool) (hm : dV p = some r) : PureCall Tryz.prog 101 [.u (.one (.d (.sl 3 (List.map Cell.row p))))] (.u (.one (.d (.bool r)))) := (f_R05_Right p r hm).pureW
def ep (cx : Cx) (_t : Tree) (_p : List Cell) (tt : Int ⊕ Unit) (ee : Exit) (ρ : Env) (σ : Sto) : Prop := match tt with
 | .inl r => ee = .ret ∧ EE cx (fun ρ σ => ∃ v, resV tb ρ σ Tryz.f51.results.toList = some v ∧ (v.frz σ).free = true ∧ (v.frz σ).wk (.u (.one (.d (.int .i64 r))))) ρ σ
 | .inr _u => ee = .exit 0 ∧ EE cx (b6 [] []) ρ σ
theorem l_R20_Fits_1 (cx : Cx) (hn : cx.n = 26) (t : Tree) (p : List Cell) {fu : Nat} {stt : Int} {tt : Int ⊕ Unit} (hh : ar (fx t p) fu stt = some tt) {ρ : Env} {σ : Sto}
  (hE : bn (fun i : Int => [(1, .u (.one (.d (.sl 3 (List.map Cell.row p))))), (2, .u (.one (.box 2 0))), (5, .u (.one (.d (.int .i64 i))))]) (fun _i : Int => [(2, .box [.d (.int .i64 t.States), .d (.sl 2 (List.map Point.row t.Hood)), .d (.sl 2 (List.map Node.row t.Nodes))])]) stt ρ σ) : Swp Tryz.prog cx (.loop (cj [1, 1, 1, 0, 1, 0, 0] (aX Tryz.f51))) ρ σ (ep cx t p tt) := by
 refine bo hE hh (ep cx t p) (fun _ => by rfl) (fun _ => by rfl) ?_
 rintro i r hm ρ σ hf
 simp only [Fits, az, aA, and_true] at hf
 unfold fx at hm
 dsimp only at hm
 refine ai ?_
 refine srs hn (by kernel_rfl) ?_
 simp -dsimp [hf]
 rcases am hm with ⟨c5, hm⟩ | ⟨c5, hm⟩
 ·refine ab (b := (ltB i (ak p))) (by simp -dsimp) c5 ?_
  refine ae (a7 (ai (ap ?_)))
  refine cZ bj mixed (by rw [hn]; kernel_rfl) ?_
  obtain ⟨x, h6, hm⟩ := bnd hm
  simp -dsimp [hf, c5, h6]
  rcases am hm with ⟨c7, hm⟩ | ⟨c7, hm⟩
  ·refine ab (b := (geB x.S t.States)) (by simp -dsimp) c7 ?_
   refine srs hn (by kernel_rfl) ?_
   simp -dsimp [c7]
   refine ah (aN (aj ?_))
   cases hm
   refine au nofun ?_
   unfold ep
   dsimp only
   refine ⟨rfl, ?_⟩
   refine EE.here ?_
   simp -dsimp [Tryz.results51]
  ·refine aa (b := (geB x.S t.States)) (by simp -dsimp) c7 ?_
   refine ae ?_
   refine aY ?_
   refine a7 ?_
   refine sr1 hn (by kernel_rfl) ?_
   simp -dsimp [hf, c7]
   cases hm
   refine aJ ?_
   refine EE.here ?_
   simp -dsimp [hf]
 ·refine aa (b := (ltB i (ak p))) (by simp -dsimp) c5 ?_
  refine aD ?_
  refine aj ?_
  cases hm
  refine au nofun ?_
  unfold ep
  dsimp only
  refine ⟨rfl, ?_⟩
  refine EE.here ?_
  simp -dsimp [c5]
theorem f_R20_Fits (t : Tree) (p : List Cell) (r : Int) (hm : eV t p = some r) : PFn Tryz.prog 51 [.u (.agg [.d (.int .i64 t.States), .d (.sl 2 (List.map Point.row t.Hood)), .d (.sl 2 (List.map Node.row t.Nodes))]), .u (.one (.d (.sl 3 (List.map Cell.row p))))] (fun v => v.wk (.u (.one (.d (.int .i64 r))))) := by
 refine bv Tryz.func51 Tryz.ntmps51 rfl (by kernel_rfl) (by simp) fun cx hn => ?_
 unfold eV at hm
 refine srs hn (by kernel_rfl) ?_
 simp -dsimp []
 refine ai ?_
 refine srs hn (by kernel_rfl) ?_
 obtain ⟨y, h1, hm⟩ := bnd hm
 simp -dsimp []
 refine ag (c_R12_Quiet t y h1) (by rw [hn]; decide) ?_
 simp -dsimp
 rcases am hm with ⟨c2, hm⟩ | ⟨c2, hm⟩
 ·refine ab (b := (aR y)) (by simp -dsimp) c2 ?_
  refine srs hn (by kernel_rfl) ?_
  simp -dsimp [c2]
  refine ah (aj ?_)
  cases hm
  refine ⟨.inr rfl, ?_⟩
  refine EE.here ?_
  simp -dsimp
 ·refine aa (b := (aR y)) (by simp -dsimp) c2 ?_
  refine ae (a7 (ai ?_))
  refine srs hn (by kernel_rfl) ?_
  obtain ⟨y1, h3, hm⟩ := bnd hm
  simp -dsimp [c2]
  refine ag (c_R05_Right p y1 h3) (by rw [hn]; decide) ?_
  simp -dsimp
  rcases am hm with ⟨c4, hm⟩ | ⟨c4, hm⟩
  ·refine ab (b := (aR y1)) (by simp -dsimp) c4 ?_
   refine srs hn (by kernel_rfl) ?_
   simp -dsimp [c4]
   refine ah (aj ?_)
   cases hm
   refine ⟨.inr rfl, ?_⟩
   refine EE.here ?_
   simp -dsimp
  ·refine aa (b := (aR y1)) (by simp -dsimp) c4 ?_
   refine ae (a7 (ai ?_))
   refine srs hn (by kernel_rfl) ?_
   simp -dsimp [c4]
   refine ap ?_
   obtain ⟨o_, g8, hm⟩ := bnd hm
   refine aW [(1, .u (.one (.d (.sl 3 (List.map Cell.row p))))), (2, .u (.one (.box 2 0))), (5, .u (.one (.d (.int .i64 0))))] [(2, .box [.d (.int .i64 t.States), .d (.sl 2 (List.map Point.row t.Hood)), .d (.sl 2 (List.map Node.row t.Nodes))])] (by rfl) (by rfl) (by
     refine EE.here ?_
     simp -dsimp
   ) fun ρ σ hf => ?_
   refine (l_R20_Fits_1 cx hn t p g8 hf).mono fun ee ρ σ x9 => ?_
   rcases o_ with r | _u
   ·unfold ep at x9
    dsimp only at x9
    obtain ⟨rfl, x9⟩ := x9
    refine aN (aj ?_)
    cases hm
    exact ⟨.inr rfl, x9⟩
   ·unfold ep at x9
    dsimp only at x9
    obtain ⟨rfl, x9⟩ := x9
    refine aF ?_
    refine a7 ?_
    refine bl (by rfl) (by rfl) x9 fun ρ σ hf => ?_
    simp only [Fits, az, aA, and_true] at hf
    refine srs hn (by kernel_rfl) ?_
    simp -dsimp
    refine ah ?_
    cases hm
    refine ⟨.inr rfl, ?_⟩
    refine EE.here ?_
    simp -dsimp
theorem c_R20_Fits (t : Tree) (p : List Cell) (r : Int) (hm : eV t p = some r) : PureCall Tryz.prog 51 [.u (.agg [.d (.int .i64 t.States), .d (.sl 2 (List.map Point.row t.Hood)), .d (.sl 2 (List.map Node.row t.Nodes))]), .u (.one (.d (.sl 3 (List.map Cell.row p))))] (.u (.one (.d (.int .i64 r)))) := (f_R20_Fits t p r hm).pureW
def gP (cx : Cx) (_p : List Cell) (tt : (Int × Int × Int × Int)) (ee : Exit) (ρ : Env) (σ : Sto) : Prop := match tt with
 | (x1, y, right, bottom) => ee = .exit 0 ∧ EE cx (b6 [(2, .u (.one (.box 2 0))), (4, .u (.one (.d (.int .i64 x1)))), (5, .u (.one (.d (.int .i64 y)))), (6, .u (.one (.d (.int .i64 right)))), (7, .u (.one (.d (.int .i64 bottom))))] [(2, .box [.d (.int .i64 0), .d (.int .i64 0), .d (.int .i64 0), .d (.int .i64 0)])]) ρ σ
theorem l_R05_Box_1 (cx : Cx) (hn : cx.n = 79) (p : List Cell) {fu : Nat} {stt : Int × Int × Int × Int × Int} {tt : (Int × Int × Int × Int)} (hh : ar (dX p) fu stt = some tt) {ρ : Env} {σ : Sto}
  (hE : bn (fun stt : Int × Int × Int × Int × Int => match stt with | (x1, y, right, bottom, i) => [(0, .u (.one (.d (.sl 3 (List.map Cell.row p))))), (2, .u (.one (.box 2 0))), (4, .u (.one (.d (.int .i64 x1)))), (5, .u (.one (.d (.int .i64 y)))), (6, .u (.one (.d (.int .i64 right)))), (7, .u (.one (.d (.int .i64 bottom)))), (8, .u (.one (.d (.int .i64 i))))]) (fun stt : Int × Int × Int × Int × Int => match stt with | (_x1, _y, _right, _bottom, _i) => [(2, .box [.d (.int .i64 0), .d (.int .i64 0), .d (.int .i64 0), .d (.int .i64 0)])]) stt ρ σ) : Swp Tryz.prog cx (.loop (cj [1, 1, 1, 0, 1, 0, 0] (aX Tryz.f102))) ρ σ (gP cx p tt) := by
 refine bo hE hh (gP cx p) (fun _ => by rfl) (fun _ => by rfl) ?_
 rintro ⟨x1, y, right, bottom, i⟩ r hm ρ σ hf
 simp only [Fits, az, aA, and_true] at hf
 unfold dX at hm
 dsimp only at hm
 refine ai ?_
 refine srs hn (by kernel_rfl) ?_
 simp -dsimp [hf]
 rcases am hm with ⟨c5, hm⟩ | ⟨c5, hm⟩
 ·refine ab (b := (ltB i (ak p))) (by simp -dsimp) c5 ?_
  refine ae (a7 (ai (ap ?_)))
  refine srs hn (by kernel_rfl) ?_
  obtain ⟨x2, h6, hm⟩ := bnd hm
  simp -dsimp [hf, c5, h6]
  refine srs hn (by kernel_rfl) ?_
  simp -dsimp [hf, h6]
  refine srs hn (by kernel_rfl) ?_
  simp -dsimp [hf, h6]
  refine sr1 hn (by kernel_rfl) ?_
  simp -dsimp [hf, h6]
  refine aY ?_
  refine a7 ?_
  refine sr1 hn (by kernel_rfl) ?_
  simp -dsimp [hf]
  cases hm
  refine aJ ?_
  refine EE.here ?_
  simp -dsimp [hf]
 ·refine aa (b := (ltB i (ak p))) (by simp -dsimp) c5 ?_
  refine aD ?_
  refine aj ?_
  cases hm
  refine au nofun ?_
  unfold gP
  dsimp only
  refine ⟨rfl, ?_⟩
  refine EE.here ?_
  simp -dsimp [hf, c5]
theorem f_R05_Box (p : List Cell) (r : Box × Bool) (hm : gn p = some r) : PFn Tryz.prog 102 [.u (.one (.d (.sl 3 (List.map Cell.row p))))] (fun v => v.wk (.tup [.agg [.d (.int .i64 r.1.X), .d (.int .i64 r.1.Y), .d (.int .i64 r.1.W), .d (.int .i64 r.1.H)], .one (.d (.bool r.2))])) := by
 refine bv Tryz.func102 Tryz.ntmps102 rfl (by kernel_rfl) (by simp) fun cx hn => ?_
 unfold gn at hm
 refine srs hn (by kernel_rfl) ?_
 simp -dsimp []
 refine ai ?_
 obtain ⟨a, j9, hm⟩ := bnd hm
 refine av [(0, .u (.one (.d (.sl 3 (List.map Cell.row p))))), (2, .u (.one (.box 2 0))), (16, .u (.one (.d (.bool a))))] [(2, .box [.d (.int .i64 0), .d (.int .i64 0), .d (.int .i64 0), .d (.int .i64 0)])] (by rfl) (by rfl) ?_ fun ρ σ hf => ?_
 ·replace hm := j9
  clear j9
  refine sr1 hn (by kernel_rfl) ?_
  rcases am hm with ⟨c1, hm⟩ | ⟨c1, hm⟩
  ·simp -dsimp [c1]
   refine a7 ?_
   cases hm
   refine EE.here ?_
   simp -dsimp
  ·obtain ⟨y, h2, hm⟩ := bnd hm
   simp -dsimp [c1]
   refine ag (c_R05_Right p y h2) (by rw [hn]; decide) ?_
   simp -dsimp
   refine a7 ?_
   cases hm
   refine EE.here ?_
   simp -dsimp
 ·clear j9
  simp only [Fits, az, aA, and_true] at hf
  rcases am hm with ⟨c3, hm⟩ | ⟨c3, hm⟩
  ·refine ab (b := a) (by simp -dsimp [hf]) c3 ?_
   refine srs hn (by kernel_rfl) ?_
   simp -dsimp [hf]
   refine ah (aj ?_)
   cases hm
   refine ⟨.inr rfl, ?_⟩
   refine EE.here ?_
   simp -dsimp [hf]
  ·refine aa (b := a) (by simp -dsimp [hf]) c3 ?_
   refine ae (a7 ?_)
   refine cZ bj mixed (by rw [hn]; kernel_rfl) ?_
   obtain ⟨x, h4, hm⟩ := bnd hm
   simp -dsimp [hf, h4]
   refine ai ?_
   refine srs hn (by kernel_rfl) ?_
   simp -dsimp
   refine ap ?_
   obtain ⟨⟨x1, y, right, bottom⟩, g7, hm⟩ := bnd hm
   refine aW [(0, .u (.one (.d (.sl 3 (List.map Cell.row p))))), (2, .u (.one (.box 2 0))), (4, .u (.one (.d (.int .i64 x.X)))), (5, .u (.one (.d (.int .i64 x.Y)))), (6, .u (.one (.d (.int .i64 x.X)))), (7, .u (.one (.d (.int .i64 x.Y)))), (8, .u (.one (.d (.int .i64 0))))] [(2, .box [.d (.int .i64 0), .d (.int .i64 0), .d (.int .i64 0), .d (.int .i64 0)])] (by rfl) (by rfl) (by
     refine EE.here ?_
     simp -dsimp [hf]
   ) fun ρ σ hf => ?_
   refine (l_R05_Box_1 cx hn p g7 hf).mono fun ee ρ σ x8 => ?_
   unfold gP at x8
   dsimp only at x8
   obtain ⟨rfl, x8⟩ := x8
   refine aF ?_
   refine a7 ?_
   refine bl (by rfl) (by rfl) x8 fun ρ σ hf => ?_
   simp only [Fits, az, aA, and_true] at hf
   refine srs hn (by kernel_rfl) ?_
   simp -dsimp [hf]
   refine ah ?_
   cases hm
   refine ⟨.inr rfl, ?_⟩
   refine EE.here ?_
   simp -dsimp [hf]
theorem c_R05_Box (p : List Cell) (r : Box × Bool) (hm : gn p = some r) : PureCall Tryz.prog 102 [.u (.one (.d (.sl 3 (List.map Cell.row p))))] (.tup [.agg [.d (.int .i64 r.1.X), .d (.int .i64 r.1.Y), .d (.int .i64 r.1.W), .d (.int .i64 r.1.H)], .one (.d (.bool r.2))]) := (f_R05_Box p r hm).pureW
end Go.Proofs.YtdjclgfbggfpaaaGreatDoor
