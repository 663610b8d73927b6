/-
  That the code does what the functions say (made by cc.py).
-/
import Derived.Test.YtdjclgfbggfpaaaGreatDoorMd1
import Derived.Test.YtdjclgfbggfpaaaGreatDoorTb
import Derived.Test.YtdjclgfbggfpaaaGreatDoorWa5
import Derived.Test.YtdjclgfbggfpaaaGreatDoorWa6
import Derived.Test.YtdjclgfbggfpaaaGreatDoorWa7
import Derived.Test.YtdjclgfbggfpaaaGreatDoorWa9
import Derived.Test.YtdjclgfbggfpaaaGreatDoorWa10
namespace Go.Proofs.YtdjclgfbggfpaaaGreatDoor
open Go.AM Go.Proofs
attribute [-simp] qlookup cn dG Ob.wipe Ob.ren Ob.frz1
def dF (cx : Cx) (l : List Cell) (tt : ((List Cell) × Int) ⊕ Unit) (ee : Exit) (ρ : Env) (σ : Sto) : Prop := match tt with
 | .inl r => ee = .ret ∧ EE cx (fun ρ σ => ∃ v, resV tb ρ σ Tryz.f56.results.toList = some v ∧ (v.frz σ).free = true ∧ (v.frz σ).wk (.tup [.one (.d (.sl 3 (List.map Cell.row r.1))), .one (.d (.int .i64 r.2))])) ρ σ
 | .inr _u => ee = .exit 0 ∧ EE cx (b6 [(0, .u (.one (.d (.sl 3 (List.map Cell.row l))))), (4, .u (.one (.d .nil)))] []) ρ σ
theorem l_R05_From_1 (cx : Cx) (hn : cx.n = 79) (l : List Cell) {fu : Nat} {stt : Int} {tt : ((List Cell) × Int) ⊕ Unit} (hh : ar (dB l) fu stt = some tt) {ρ : Env} {σ : Sto}
  (hE : bn (fun i : Int => [(0, .u (.one (.d (.sl 3 (List.map Cell.row l))))), (4, .u (.one (.d .nil))), (5, .u (.one (.d (.int .i64 i))))]) (fun _i : Int => []) stt ρ σ) : Swp Tryz.prog cx (.loop (cj [1, 1, 0, 1, 0, 0] (aX Tryz.f56))) ρ σ (dF cx l tt) := by
 refine bo hE hh (dF cx l) (fun _ => by rfl) (fun _ => by rfl) ?_
 rintro i r hm ρ σ hf
 simp only [Fits, az, aA, and_true] at hf
 unfold dB at hm
 dsimp only at hm
 refine ai ?_
 refine srs hn (by kernel_rfl) ?_
 simp -dsimp [hf]
 rcases am hm with ⟨c1, hm⟩ | ⟨c1, hm⟩
 ·refine ab (b := (ltB i (ak l))) (by simp -dsimp) c1 ?_
  refine ae (a7 (ai (ap (ai ?_))))
  refine cZ bj mixed (by rw [hn]; kernel_rfl) ?_
  obtain ⟨x, h2, hm⟩ := bnd hm
  obtain ⟨y, h3, hm⟩ := bnd hm
  simp -dsimp [hf, c1, h2]
  refine aK (c_R05_Place x.X x.Y y h3) ?_
  simp -dsimp
  rcases am hm with ⟨c4, hm⟩ | ⟨c4, hm⟩
  ·refine ab (b := (aR y)) (by simp -dsimp) c4 ?_
   refine srs hn (by kernel_rfl) ?_
   simp -dsimp [c4]
   refine ah (aj (aN (aj ?_)))
   cases hm
   refine au nofun ?_
   unfold dF
   dsimp only
   refine ⟨rfl, ?_⟩
   refine EE.here ?_
   simp -dsimp [Tryz.results56]
  ·refine aa (b := (aR y)) (by simp -dsimp) c4 ?_
   refine ae (a7 ?_)
   obtain ⟨a, j7, hm⟩ := bnd hm
   refine av [(0, .u (.one (.d (.sl 3 (List.map Cell.row l))))), (4, .u (.one (.d .nil))), (5, .u (.one (.d (.int .i64 i)))), (39, .u (.one (.d (.bool a))))] [] (by rfl) (by rfl) ?_ fun ρ σ hf => ?_
   ·replace hm := j7
    clear j7
    refine sr1 hn (by kernel_rfl) ?_
    rcases am hm with ⟨c5, hm⟩ | ⟨c5, hm⟩
    ·simp -dsimp [hf, h2, c4, c5]
     refine a7 ?_
     cases hm
     refine EE.here ?_
     simp -dsimp [hf]
    ·simp -dsimp [hf, h2, c4, c5]
     refine a7 ?_
     cases hm
     refine EE.here ?_
     simp -dsimp [hf]
   ·clear j7
    simp only [Fits, az, aA, and_true] at hf
    rcases am hm with ⟨c6, hm⟩ | ⟨c6, hm⟩
    ·refine ab (b := a) (by simp -dsimp [hf]) c6 ?_
     refine srs hn (by kernel_rfl) ?_
     simp -dsimp
     refine ah (aN (aj ?_))
     cases hm
     refine au nofun ?_
     unfold dF
     dsimp only
     refine ⟨rfl, ?_⟩
     refine EE.here ?_
     simp -dsimp [Tryz.results56]
    ·refine aa (b := a) (by simp -dsimp [hf]) c6 ?_
     refine ae ?_
     refine aY ?_
     refine a7 ?_
     refine sr1 hn (by kernel_rfl) ?_
     simp -dsimp [hf]
     cases hm
     refine aJ ?_
     refine EE.here ?_
     simp -dsimp [hf]
 ·refine aa (b := (ltB i (ak l))) (by simp -dsimp) c1 ?_
  refine aD ?_
  refine aj ?_
  cases hm
  refine au nofun ?_
  unfold dF
  dsimp only
  refine ⟨rfl, ?_⟩
  refine EE.here ?_
  simp -dsimp [hf, c1]
def ge (cx : Cx) (_l : List Cell) (tt : (List Cell)) (ee : Exit) (ρ : Env) (σ : Sto) : Prop := match tt with
 | p => ee = .exit 2 ∧ EE cx (b6 [(4, .u (.one (.d (.sl 3 (List.map Cell.row p)))))] []) ρ σ
theorem l_R05_From_2 (cx : Cx) (hn : cx.n = 79) (l : List Cell) {fu : Nat} {stt : (List Cell) × Int} {tt : (List Cell)} (hh : ar (dE l) fu stt = some tt) {ρ : Env} {σ : Sto}
  (hE : bn (fun stt : (List Cell) × Int => match stt with | (p, i) => [(0, .u (.one (.d (.sl 3 (List.map Cell.row l))))), (4, .u (.one (.d (.sl 3 (List.map Cell.row p))))), (6, .u (.one (.d (.int .i64 i))))]) (fun stt : (List Cell) × Int => match stt with | (_p, _i) => []) stt ρ σ) : Swp Tryz.prog cx (.loop (cj [1, 1, 1, 0, 1, 0, 0] (aX Tryz.f56))) ρ σ (ge cx l tt) := by
 refine bo hE hh (ge cx l) (fun _ => by rfl) (fun _ => by rfl) ?_
 rintro ⟨p, i⟩ r hm ρ σ hf
 simp only [Fits, az, aA, and_true] at hf
 unfold dE at hm
 dsimp only at hm
 refine ai ?_
 refine srs hn (by kernel_rfl) ?_
 simp -dsimp [hf]
 rcases am hm with ⟨c10, hm⟩ | ⟨c10, hm⟩
 ·refine ab (b := (ltB i (ak l))) (by simp -dsimp) c10 ?_
  refine ae (a7 ?_)
  obtain ⟨p1, j14, hm⟩ := bnd hm
  refine av [(0, .u (.one (.d (.sl 3 (List.map Cell.row l))))), (4, .u (.one (.d (.sl 3 (List.map Cell.row p1))))), (6, .u (.one (.d (.int .i64 i))))] [] (by rfl) (by rfl) ?_ fun ρ σ hf => ?_
  ·replace hm := j14
   clear j14
   refine ap ?_
   refine srs hn (by kernel_rfl) ?_
   obtain ⟨x, h11, hm⟩ := bnd hm
   simp -dsimp [hf, c10, h11]
   rcases am hm with ⟨c12, hm⟩ | ⟨c12, hm⟩
   ·refine ab (b := (neB x.S 0)) (by simp -dsimp) c12 ?_
    refine sr1 hn (by kernel_rfl) ?_
    obtain ⟨y, h13, hm⟩ := bnd hm
    simp -dsimp [hf, h11, c12]
    refine ag (c_R05_insert p x y h13) (by rw [hn]; decide) ?_
    simp -dsimp
    refine aY ?_
    refine a7 ?_
    cases hm
    refine EE.here ?_
    simp -dsimp [hf]
   ·refine aa (b := (neB x.S 0)) (by simp -dsimp) c12 ?_
    refine ae ?_
    refine aY ?_
    refine a7 ?_
    cases hm
    refine EE.here ?_
    simp -dsimp [hf, c12]
  ·clear j14
   simp only [Fits, az, aA, and_true] at hf
   refine sr1 hn (by kernel_rfl) ?_
   simp -dsimp [hf]
   cases hm
   refine aJ ?_
   refine EE.here ?_
   simp -dsimp [hf]
 ·refine aa (b := (ltB i (ak l))) (by simp -dsimp) c10 ?_
  refine aD ?_
  refine aj ?_
  cases hm
  refine au nofun ?_
  unfold ge
  dsimp only
  refine ⟨rfl, ?_⟩
  refine EE.here ?_
  simp -dsimp [hf, c10]
def eD (cx : Cx) (p : List Cell) (tt : ((List Cell) × Int) ⊕ Unit) (ee : Exit) (ρ : Env) (σ : Sto) : Prop := match tt with
 | .inl r => ee = .ret ∧ EE cx (fun ρ σ => ∃ v, resV tb ρ σ Tryz.f56.results.toList = some v ∧ (v.frz σ).free = true ∧ (v.frz σ).wk (.tup [.one (.d (.sl 3 (List.map Cell.row r.1))), .one (.d (.int .i64 r.2))])) ρ σ
 | .inr _u => ee = .exit 4 ∧ EE cx (b6 [(4, .u (.one (.d (.sl 3 (List.map Cell.row p)))))] []) ρ σ
theorem l_R05_From_3 (cx : Cx) (hn : cx.n = 79) (p : List Cell) {fu : Nat} {stt : Int} {tt : ((List Cell) × Int) ⊕ Unit} (hh : ar (dv p) fu stt = some tt) {ρ : Env} {σ : Sto}
  (hE : bn (fun i : Int => [(4, .u (.one (.d (.sl 3 (List.map Cell.row p))))), (7, .u (.one (.d (.int .i64 i))))]) (fun _i : Int => []) stt ρ σ) : Swp Tryz.prog cx (.loop (cj [1, 1, 1, 1, 0, 1, 0, 0] (aX Tryz.f56))) ρ σ (eD cx p tt) := by
 refine bo hE hh (eD cx p) (fun _ => by rfl) (fun _ => by rfl) ?_
 rintro i r hm ρ σ hf
 simp only [Fits, az, aA, and_true] at hf
 unfold dv at hm
 dsimp only at hm
 refine ai ?_
 refine srs hn (by kernel_rfl) ?_
 simp -dsimp [hf]
 rcases am hm with ⟨c17, hm⟩ | ⟨c17, hm⟩
 ·refine ab (b := (ltB i (ak p))) (by simp -dsimp) c17 ?_
  refine ae (a7 (ai (ap ?_)))
  refine cZ bj mixed (by rw [hn]; kernel_rfl) ?_
  obtain ⟨x, h18, hm⟩ := bnd hm
  obtain ⟨x1, h19, hm⟩ := bnd hm
  obtain ⟨y, h20, hm⟩ := bnd hm
  simp -dsimp [hf, c17, h18, h19]
  refine aK (ij x x1 y h20) ?_
  simp -dsimp
  rcases am hm with ⟨c21, hm⟩ | ⟨c21, hm⟩
  ·refine ab (b := (aR y)) (by simp -dsimp) c21 ?_
   refine srs hn (by kernel_rfl) ?_
   simp -dsimp [c21]
   refine ah (aN (aj ?_))
   cases hm
   refine au nofun ?_
   unfold eD
   dsimp only
   refine ⟨rfl, ?_⟩
   refine EE.here ?_
   simp -dsimp [Tryz.results56]
  ·refine aa (b := (aR y)) (by simp -dsimp) c21 ?_
   refine ae ?_
   refine aY ?_
   refine a7 ?_
   refine sr1 hn (by kernel_rfl) ?_
   simp -dsimp [hf, c21]
   cases hm
   refine aJ ?_
   refine EE.here ?_
   simp -dsimp [hf]
 ·refine aa (b := (ltB i (ak p))) (by simp -dsimp) c17 ?_
  refine aD ?_
  refine aj ?_
  cases hm
  refine au nofun ?_
  unfold eD
  dsimp only
  refine ⟨rfl, ?_⟩
  refine EE.here ?_
  simp -dsimp [hf, c17]
theorem f_R05_From (l : List Cell) (r : (List Cell) × Int) (hm : fJ l = some r) : PFn Tryz.prog 56 [.u (.one (.d (.sl 3 (List.map Cell.row l))))] (fun v => v.wk (.tup [.one (.d (.sl 3 (List.map Cell.row r.1))), .one (.d (.int .i64 r.2))])) := by
 refine bv Tryz.func56 Tryz.ntmps56 rfl (by kernel_rfl) (by simp) fun cx hn => ?_
 unfold fJ at hm
 refine srs hn (by kernel_rfl) ?_
 simp -dsimp []
 refine srs hn (by kernel_rfl) ?_
 simp -dsimp []
 refine ai ?_
 refine srs hn (by kernel_rfl) ?_
 simp -dsimp []
 refine ap ?_
 obtain ⟨o_, g8, hm⟩ := bnd hm
 refine aW [(0, .u (.one (.d (.sl 3 (List.map Cell.row l))))), (4, .u (.one (.d .nil))), (5, .u (.one (.d (.int .i64 0))))] [] (by rfl) (by rfl) (by
   refine EE.here ?_
   simp -dsimp []
 ) fun ρ σ hf => ?_
 refine (l_R05_From_1 cx hn l g8 hf).mono fun ee ρ σ x9 => ?_
 rcases o_ with r | _u
 ·unfold dF at x9
  dsimp only at x9
  obtain ⟨rfl, x9⟩ := x9
  refine aN (aj ?_)
  cases hm
  exact ⟨.inr rfl, x9⟩
 ·unfold dF at x9
  dsimp only at x9
  obtain ⟨rfl, x9⟩ := x9
  refine aF ?_
  refine a7 ?_
  refine bl (by rfl) (by rfl) x9 fun ρ σ hf => ?_
  simp only [Fits, az, aA, and_true] at hf
  refine ai ?_
  refine srs hn (by kernel_rfl) ?_
  simp -dsimp
  refine ap ?_
  obtain ⟨p, g15, hm⟩ := bnd hm
  refine aW [(0, .u (.one (.d (.sl 3 (List.map Cell.row l))))), (4, .u (.one (.d (.sl 3 (List.map Cell.row []))))), (6, .u (.one (.d (.int .i64 0))))] [] (by rfl) (by rfl) (by
    refine EE.here ?_
    simp -dsimp [hf]
  ) fun ρ σ hf => ?_
  refine (l_R05_From_2 cx hn l g15 hf).mono fun ee ρ σ x16 => ?_
  unfold ge at x16
  dsimp only at x16
  obtain ⟨rfl, x16⟩ := x16
  refine aF ?_
  refine a7 ?_
  refine bl (by rfl) (by rfl) x16 fun ρ σ hf => ?_
  simp only [Fits, az, aA, and_true] at hf
  refine ai ?_
  refine srs hn (by kernel_rfl) ?_
  simp -dsimp
  refine ap ?_
  obtain ⟨o_2, g22, hm⟩ := bnd hm
  refine aW [(4, .u (.one (.d (.sl 3 (List.map Cell.row p))))), (7, .u (.one (.d (.int .i64 1))))] [] (by rfl) (by rfl) (by
    refine EE.here ?_
    simp -dsimp [hf]
  ) fun ρ σ hf => ?_
  refine (l_R05_From_3 cx hn p g22 hf).mono fun ee ρ σ x23 => ?_
  rcases o_2 with r | _u
  ·unfold eD at x23
   dsimp only at x23
   obtain ⟨rfl, x23⟩ := x23
   refine aN (aj ?_)
   cases hm
   exact ⟨.inr rfl, x23⟩
  ·unfold eD at x23
   dsimp only at x23
   obtain ⟨rfl, x23⟩ := x23
   refine aF ?_
   refine a7 ?_
   refine bl (by rfl) (by rfl) x23 fun ρ σ hf => ?_
   simp only [Fits, az, aA, and_true] at hf
   refine ai ?_
   refine srs hn (by kernel_rfl) ?_
   simp -dsimp [hf]
   rcases am hm with ⟨c24, hm⟩ | ⟨c24, hm⟩
   ·refine ab (b := (gtB (ak p) 5000)) (by simp -dsimp) c24 ?_
    refine srs hn (by kernel_rfl) ?_
    simp -dsimp [c24]
    refine ah (aj ?_)
    cases hm
    refine ⟨.inr rfl, ?_⟩
    refine EE.here ?_
    simp -dsimp
   ·refine aa (b := (gtB (ak p) 5000)) (by simp -dsimp) c24 ?_
    refine ae (a7 ?_)
    refine srs hn (by kernel_rfl) ?_
    simp -dsimp [hf, c24]
    refine ah ?_
    cases hm
    refine ⟨.inr rfl, ?_⟩
    refine EE.here ?_
    simp -dsimp
theorem c_R05_From (l : List Cell) (r : (List Cell) × Int) (hm : fJ l = some r) : PureCall Tryz.prog 56 [.u (.one (.d (.sl 3 (List.map Cell.row l))))] (.tup [.one (.d (.sl 3 (List.map Cell.row r.1))), .one (.d (.int .i64 r.2))]) := (f_R05_From l r hm).pureW
def gk (cx : Cx) (_t : Tree) (_y1 : cellularref20_field) (_y2 : List Point) (tt : (Bool × (List Cell))) (ee : Exit) (ρ : Env) (σ : Sto) : Prop := match tt with
 | (out, l) => ee = .exit 0 ∧ EE cx (b6 [(9, .u (.one (.own 5000))), (10, .u (.one (.d (.bool out))))] [(5000, .row 3 51 (List.map Cell.row l))]) ρ σ
theorem l_R20_Step_1 (cx : Cx) (hn : cx.n = 69) (t : Tree) (y1 : cellularref20_field) (y2 : List Point) {fu : Nat} {stt : Bool × Int × (List Cell)} {tt : (Bool × (List Cell))} (hh : ar (cU t y1 y2) fu stt = some tt) {ρ : Env} {σ : Sto}
  (hE : bn (fun stt : Bool × Int × (List Cell) => match stt with | (out, i, _l) => [(2, .u (.one (.box 2 0))), (7, .u (.one (.box 7 0))), (8, .u (.one (.d (.sl 2 (List.map Point.row y2))))), (9, .u (.one (.own 5000))), (10, .u (.one (.d (.bool out)))), (11, .u (.one (.d (.int .i64 i))))]) (fun stt : Bool × Int × (List Cell) => match stt with | (_out, _i, l) => [(2, .box [.d (.int .i64 t.States), .d (.sl 2 (List.map Point.row t.Hood)), .d (.sl 2 (List.map Node.row t.Nodes))]), (7, .box [.d (.bool y1.flat), .d (.int .i64 y1.box.X), .d (.int .i64 y1.box.Y), .d (.int .i64 y1.box.W), .d (.int .i64 y1.box.H), .d (.sl 1 (List.map (rI .i64) y1.cells)), .d (.sl 3 (List.map Cell.row y1.list))]), (5000, .row 3 51 (List.map Cell.row l))]) stt ρ σ) : Swp Tryz.prog cx (.loop (cj [1, 1, 1, 1, 1, 1, 0, 1, 0, 0] (aX Tryz.f31))) ρ σ (gk cx t y1 y2 tt) := by
 refine bo hE hh (gk cx t y1 y2) (fun _ => by rfl) (fun _ => by rfl) ?_
 rintro ⟨out, i, l⟩ r hm ρ σ hf
 simp only [Fits, az, aA, and_true] at hf
 unfold cU at hm
 dsimp only at hm
 refine ai ?_
 refine srs hn (by kernel_rfl) ?_
 simp -dsimp [hf]
 rcases am hm with ⟨c5, hm⟩ | ⟨c5, hm⟩
 ·refine ab (b := (ltB i (ak y2))) (by simp -dsimp) c5 ?_
  refine ae (a7 ?_)
  obtain ⟨⟨out1, l1⟩, j12, hm⟩ := bnd hm
  refine av [(2, .u (.one (.box 2 0))), (7, .u (.one (.box 7 0))), (8, .u (.one (.d (.sl 2 (List.map Point.row y2))))), (9, .u (.one (.own 5000))), (10, .u (.one (.d (.bool out1)))), (11, .u (.one (.d (.int .i64 i))))] [(2, .box [.d (.int .i64 t.States), .d (.sl 2 (List.map Point.row t.Hood)), .d (.sl 2 (List.map Node.row t.Nodes))]), (7, .box [.d (.bool y1.flat), .d (.int .i64 y1.box.X), .d (.int .i64 y1.box.Y), .d (.int .i64 y1.box.W), .d (.int .i64 y1.box.H), .d (.sl 1 (List.map (rI .i64) y1.cells)), .d (.sl 3 (List.map Cell.row y1.list))]), (5000, .row 3 51 (List.map Cell.row l1))] (by rfl) (by rfl) ?_ fun ρ σ hf => ?_
  ·replace hm := j12
   clear j12
   refine ap ?_
   refine srs hn (by kernel_rfl) ?_
   obtain ⟨x, h6, hm⟩ := bnd hm
   simp -dsimp [hf, c5, h6]
   refine srs hn (by kernel_rfl) ?_
   obtain ⟨y3, h7, hm⟩ := bnd hm
   simp -dsimp [hf]
   refine ag (c_R20_next t y1 x.X x.Y y3 h7) (by rw [hn]; decide) ?_
   simp -dsimp
   refine srs hn (by kernel_rfl) ?_
   simp -dsimp
   rcases am hm with ⟨c8, hm⟩ | ⟨c8, hm⟩
   ·refine ab (b := (neB y3 0)) (by simp -dsimp) c8 ?_
    refine srs hn (by kernel_rfl) ?_
    obtain ⟨l1, h9, hm⟩ := bnd hm
    obtain ⟨h9a, h9e⟩ := cP h9
    replace h9e := h9e.symm
    subst h9e
    try simp only [List.length_cons, List.length_nil, Nat.zero_add] at h9a
    simp -dsimp [hf, c8, h9a]
    refine sr1 hn (by kernel_rfl) ?_
    rcases am hm with ⟨c10, hm⟩ | ⟨c10, hm⟩
    ·simp -dsimp [hf, c10]
     refine aY ?_
     refine a7 ?_
     cases hm
     refine EE.step (Wk.move 51 5000 (by decide) (.inl (by decide))) ?_
     refine EE.here ?_
     simp -dsimp [hf]
    ·obtain ⟨y4, h11, hm⟩ := bnd hm
     simp -dsimp [hf, c10]
     refine ag (c_R20_valid x.X x.Y y4 h11) (by rw [hn]; decide) ?_
     simp -dsimp
     refine aY ?_
     refine a7 ?_
     cases hm
     refine EE.step (Wk.move 51 5000 (by decide) (.inl (by decide))) ?_
     refine EE.here ?_
     simp -dsimp [hf]
   ·refine aa (b := (neB y3 0)) (by simp -dsimp) c8 ?_
    refine ae ?_
    refine aY ?_
    refine a7 ?_
    cases hm
    refine EE.here ?_
    simp -dsimp [hf, c8]
  ·clear j12
   simp only [Fits, az, aA, and_true] at hf
   refine sr1 hn (by kernel_rfl) ?_
   simp -dsimp [hf]
   cases hm
   refine aJ ?_
   refine EE.here ?_
   simp -dsimp [hf]
 ·refine aa (b := (ltB i (ak y2))) (by simp -dsimp) c5 ?_
  refine aD ?_
  refine aj ?_
  cases hm
  refine au nofun ?_
  unfold gk
  dsimp only
  refine ⟨rfl, ?_⟩
  refine EE.here ?_
  simp -dsimp [hf, c5]
theorem f_R20_Step (t : Tree) (p : List Cell) (r : (List Cell) × Int) (hm : cN t p = some r) : PFn Tryz.prog 31 [.u (.agg [.d (.int .i64 t.States), .d (.sl 2 (List.map Point.row t.Hood)), .d (.sl 2 (List.map Node.row t.Nodes))]), .u (.one (.d (.sl 3 (List.map Cell.row p))))] (fun v => v.wk (.tup [.one (.d (.sl 3 (List.map Cell.row r.1))), .one (.d (.int .i64 r.2))])) := by
 refine bv Tryz.func31 Tryz.ntmps31 rfl (by kernel_rfl) (by simp) fun cx hn => ?_
 unfold cN at hm
 refine srs hn (by kernel_rfl) ?_
 simp -dsimp []
 refine ai ?_
 refine srs hn (by kernel_rfl) ?_
 obtain ⟨y, h1, hm⟩ := bnd hm
 simp -dsimp []
 refine ag (c_R20_Fits t p y h1) (by rw [hn]; decide) ?_
 simp -dsimp
 refine srs hn (by kernel_rfl) ?_
 simp -dsimp
 rcases am hm with ⟨c2, hm⟩ | ⟨c2, hm⟩
 ·refine ab (b := (neB y 0)) (by simp -dsimp) c2 ?_
  refine srs hn (by kernel_rfl) ?_
  simp -dsimp [c2]
  refine ah (aj ?_)
  cases hm
  refine ⟨.inr rfl, ?_⟩
  refine EE.here ?_
  simp -dsimp
 ·refine aa (b := (neB y 0)) (by simp -dsimp) c2 ?_
  refine ae (a7 ?_)
  refine srs hn (by kernel_rfl) ?_
  obtain ⟨y1, h3, hm⟩ := bnd hm
  simp -dsimp [c2]
  refine ag (c_R20_states p y1 h3) (by rw [hn]; decide) ?_
  simp -dsimp
  refine srs hn (by kernel_rfl) ?_
  obtain ⟨y2, h4, hm⟩ := bnd hm
  simp -dsimp
  refine ag (c_R20_field_near y1 y2 h4) (by rw [hn]; decide) ?_
  simp -dsimp
  refine srs hn (by kernel_rfl) ?_
  simp -dsimp
  refine srs hn (by kernel_rfl) ?_
  simp -dsimp
  refine ai ?_
  refine srs hn (by kernel_rfl) ?_
  simp -dsimp
  refine ap ?_
  obtain ⟨⟨out, l⟩, g13, hm⟩ := bnd hm
  refine aW [(2, .u (.one (.box 2 0))), (7, .u (.one (.box 7 0))), (8, .u (.one (.d (.sl 2 (List.map Point.row y2))))), (9, .u (.one (.own 5000))), (10, .u (.one (.d (.bool false)))), (11, .u (.one (.d (.int .i64 0))))] [(2, .box [.d (.int .i64 t.States), .d (.sl 2 (List.map Point.row t.Hood)), .d (.sl 2 (List.map Node.row t.Nodes))]), (7, .box [.d (.bool y1.flat), .d (.int .i64 y1.box.X), .d (.int .i64 y1.box.Y), .d (.int .i64 y1.box.W), .d (.int .i64 y1.box.H), .d (.sl 1 (List.map (rI .i64) y1.cells)), .d (.sl 3 (List.map Cell.row y1.list))]), (5000, .row 3 51 (List.map Cell.row []))] (by rfl) (by rfl) (by
    refine EE.step (Wk.own0 9 5000 3 51 (by simp -dsimp) (by decide)) ?_
    refine EE.here ?_
    simp -dsimp
  ) fun ρ σ hf => ?_
  refine (l_R20_Step_1 cx hn t y1 y2 g13 hf).mono fun ee ρ σ x14 => ?_
  unfold gk at x14
  dsimp only at x14
  obtain ⟨rfl, x14⟩ := x14
  refine aF ?_
  refine a7 ?_
  refine bl (by rfl) (by rfl) x14 fun ρ σ hf => ?_
  simp only [Fits, az, aA, and_true] at hf
  refine ai ?_
  refine srs hn (by kernel_rfl) ?_
  simp -dsimp [hf]
  rcases am hm with ⟨c15, hm⟩ | ⟨c15, hm⟩
  ·refine ab (b := out) (by simp -dsimp) c15 ?_
   refine srs hn (by kernel_rfl) ?_
   simp -dsimp [c15]
   refine ah (aj ?_)
   cases hm
   refine ⟨.inr rfl, ?_⟩
   refine EE.here ?_
   simp -dsimp
  ·refine aa (b := out) (by simp -dsimp) c15 ?_
   refine ae (a7 (ai ?_))
   refine srs hn (by kernel_rfl) ?_
   simp -dsimp [hf, c15]
   rcases am hm with ⟨c16, hm⟩ | ⟨c16, hm⟩
   ·refine ab (b := (gtB (ak l) 5000)) (by simp -dsimp) c16 ?_
    refine srs hn (by kernel_rfl) ?_
    simp -dsimp [c16]
    refine ah (aj ?_)
    cases hm
    refine ⟨.inr rfl, ?_⟩
    refine EE.here ?_
    simp -dsimp
   ·refine aa (b := (gtB (ak l) 5000)) (by simp -dsimp) c16 ?_
    refine ae (a7 ?_)
    refine Swp.pre (Wk.frz 5000 3 51 (List.map Cell.row l) (by simp -dsimp [hf])) ?_
    refine srs hn (by kernel_rfl) ?_
    obtain ⟨y3, h17, hm⟩ := bnd hm
    simp -dsimp [hf, c16]
    refine ag (c_R05_From l y3 h17) (by rw [hn]; decide) ?_
    simp -dsimp
    refine ah ?_
    cases hm
    refine ⟨.inr rfl, ?_⟩
    refine EE.here ?_
    simp -dsimp
theorem c_R20_Step (t : Tree) (p : List Cell) (r : (List Cell) × Int) (hm : cN t p = some r) : PureCall Tryz.prog 31 [.u (.agg [.d (.int .i64 t.States), .d (.sl 2 (List.map Point.row t.Hood)), .d (.sl 2 (List.map Node.row t.Nodes))]), .u (.one (.d (.sl 3 (List.map Cell.row p))))] (.tup [.one (.d (.sl 3 (List.map Cell.row r.1))), .one (.d (.int .i64 r.2))]) := (f_R20_Step t p r hm).pureW
def cT (cx : Cx) (_t : Tree) (p : List Cell) (_n : Int) (tt : ((List (List Cell)) × Int) ⊕ Unit) (ee : Exit) (ρ : Env) (σ : Sto) : Prop := match tt with
 | .inl r => ee = .ret ∧ EE cx (fun ρ σ => ∃ v, resV tb ρ σ Tryz.f34.results.toList = some v ∧ (v.frz σ).free = true ∧ (v.frz σ).wk (.tup [.one (.d (.sl 1 (List.map (rS 3 Cell.row) r.1))), .one (.d (.int .i64 r.2))])) ρ σ
 | .inr _u => ee = .exit 0 ∧ EE cx (b6 [(9, .u (.one (.d (.sl 1 (List.map (rS 3 Cell.row) [p])))))] []) ρ σ
theorem l_R20_History_1 (cx : Cx) (hn : cx.n = 49) (t : Tree) (p : List Cell) (n : Int) {fu : Nat} {stt : Unit} {tt : ((List (List Cell)) × Int) ⊕ Unit} (hh : ar (eS t p n) fu stt = some tt) {ρ : Env} {σ : Sto}
  (hE : bn (fun _u : Unit => [(2, .u (.one (.d (.int .i64 n)))), (3, .u (.one (.box 3 0))), (9, .u (.one (.d (.sl 1 (List.map (rS 3 Cell.row) [p]))))), (10, .u (.one (.d (.int .i64 0))))]) (fun _u : Unit => [(3, .box [.d (.int .i64 t.States), .d (.sl 2 (List.map Point.row t.Hood)), .d (.sl 2 (List.map Node.row t.Nodes))])]) stt ρ σ) : Swp Tryz.prog cx (.loop (cj [1, 1, 1, 1, 0, 1, 0, 0] (aX Tryz.f34))) ρ σ (cT cx t p n tt) := by
 refine bo hE hh (cT cx t p n) (fun _ => by rfl) (fun _ => by rfl) ?_
 rintro _u r hm ρ σ hf
 simp only [Fits, az, aA, and_true] at hf
 unfold eS at hm
 dsimp only at hm
 refine ai ?_
 refine srs hn (by kernel_rfl) ?_
 simp -dsimp [hf]
 rcases am hm with ⟨c5, hm⟩ | ⟨c5, hm⟩
 ·refine ab (b := (ltB 0 n)) (by simp -dsimp) c5 ?_
  refine ae (a7 (ai (ap ?_)))
  refine cZ bj mixed (by rw [hn]; kernel_rfl) ?_
  obtain ⟨x, h6, hm⟩ := bnd hm
  obtain ⟨y1, h7, hm⟩ := bnd hm
  simp -dsimp [hf, c5, (@id (idx [[(.sl 3 (List.map Cell.row p))]] 0 = some ((rS 3 Cell.row) x)) (idx_rows (rS 3 Cell.row) h6))]
  refine aK (c_R20_Step t x y1 h7) ?_
  simp -dsimp
  refine ai ?_
  refine srs hn (by kernel_rfl) ?_
  simp -dsimp
  rcases am hm with ⟨c8, hm⟩ | ⟨c8, hm⟩
  ·refine ab (b := (neB y1.2 0)) (by simp -dsimp) c8 ?_
   refine srs hn (by kernel_rfl) ?_
   simp -dsimp [c8]
   refine ah (aj (aN (aj ?_)))
   cases hm
   refine au nofun ?_
   unfold cT
   dsimp only
   refine ⟨rfl, ?_⟩
   refine EE.here ?_
   simp -dsimp [Tryz.results34]
  ·refine aa (b := (neB y1.2 0)) (by simp -dsimp) c8 ?_
   refine ae (a7 ?_)
   refine sr1 hn (by kernel_rfl) ?_
   cases hm
 ·refine aa (b := (ltB 0 n)) (by simp -dsimp) c5 ?_
  refine aD ?_
  refine aj ?_
  cases hm
  refine au nofun ?_
  unfold cT
  dsimp only
  refine ⟨rfl, ?_⟩
  refine EE.here ?_
  simp -dsimp [hf, c5]
theorem f_R20_History (t : Tree) (p : List Cell) (n : Int) (r : (List (List Cell)) × Int) (hm : eQ t p n = some r) : PFn Tryz.prog 34 [.u (.agg [.d (.int .i64 t.States), .d (.sl 2 (List.map Point.row t.Hood)), .d (.sl 2 (List.map Node.row t.Nodes))]), .u (.one (.d (.sl 3 (List.map Cell.row p)))), .u (.one (.d (.int .i64 n)))] (fun v => v.wk (.tup [.one (.d (.sl 1 (List.map (rS 3 Cell.row) r.1))), .one (.d (.int .i64 r.2))])) := by
 refine bv Tryz.func34 Tryz.ntmps34 rfl (by kernel_rfl) (by simp) fun cx hn => ?_
 unfold eQ at hm
 refine srs hn (by kernel_rfl) ?_
 simp -dsimp []
 refine ai ?_
 refine srs hn (by kernel_rfl) ?_
 obtain ⟨y, h1, hm⟩ := bnd hm
 simp -dsimp []
 refine ag (c_R20_Fits t p y h1) (by rw [hn]; decide) ?_
 simp -dsimp
 refine srs hn (by kernel_rfl) ?_
 simp -dsimp
 rcases am hm with ⟨c2, hm⟩ | ⟨c2, hm⟩
 ·refine ab (b := (neB y 0)) (by simp -dsimp) c2 ?_
  refine srs hn (by kernel_rfl) ?_
  simp -dsimp [c2]
  refine ah (aj ?_)
  cases hm
  refine ⟨.inr rfl, ?_⟩
  refine EE.here ?_
  simp -dsimp
 ·refine aa (b := (neB y 0)) (by simp -dsimp) c2 ?_
  refine ae (a7 (ai ?_))
  obtain ⟨a, j11, hm⟩ := bnd hm
  refine av [(1, .u (.one (.d (.sl 3 (List.map Cell.row p))))), (2, .u (.one (.d (.int .i64 n)))), (3, .u (.one (.box 3 0))), (24, .u (.one (.d (.bool a))))] [(3, .box [.d (.int .i64 t.States), .d (.sl 2 (List.map Point.row t.Hood)), .d (.sl 2 (List.map Node.row t.Nodes))])] (by rfl) (by rfl) ?_ fun ρ σ hf => ?_
  ·replace hm := j11
   clear j11
   refine sr1 hn (by kernel_rfl) ?_
   rcases am hm with ⟨c3, hm⟩ | ⟨c3, hm⟩
   ·simp -dsimp [c2, c3]
    refine a7 ?_
    cases hm
    refine EE.here ?_
    simp -dsimp
   ·simp -dsimp [c2, c3]
    refine a7 ?_
    cases hm
    refine EE.here ?_
    simp -dsimp
  ·clear j11
   simp only [Fits, az, aA, and_true] at hf
   rcases am hm with ⟨c4, hm⟩ | ⟨c4, hm⟩
   ·refine ab (b := a) (by simp -dsimp [hf]) c4 ?_
    refine srs hn (by kernel_rfl) ?_
    simp -dsimp
    refine ah (aj ?_)
    cases hm
    refine ⟨.inr rfl, ?_⟩
    refine EE.here ?_
    simp -dsimp
   ·refine aa (b := a) (by simp -dsimp [hf]) c4 ?_
    refine ae (a7 ?_)
    refine srs hn (by kernel_rfl) ?_
    simp -dsimp [hf]
    refine ai ?_
    refine srs hn (by kernel_rfl) ?_
    simp -dsimp
    refine ap ?_
    obtain ⟨o_, g9, hm⟩ := bnd hm
    refine aW [(2, .u (.one (.d (.int .i64 n)))), (3, .u (.one (.box 3 0))), (9, .u (.one (.d (.sl 1 (List.map (rS 3 Cell.row) [p]))))), (10, .u (.one (.d (.int .i64 0))))] [(3, .box [.d (.int .i64 t.States), .d (.sl 2 (List.map Point.row t.Hood)), .d (.sl 2 (List.map Node.row t.Nodes))])] (by rfl) (by rfl) (by
      refine EE.here ?_
      simp -dsimp [hf]
    ) fun ρ σ hf => ?_
    refine (l_R20_History_1 cx hn t p n g9 hf).mono fun ee ρ σ x10 => ?_
    rcases o_ with r | _u
    ·unfold cT at x10
     dsimp only at x10
     obtain ⟨rfl, x10⟩ := x10
     refine aN (aj ?_)
     cases hm
     exact ⟨.inr rfl, x10⟩
    ·unfold cT at x10
     dsimp only at x10
     obtain ⟨rfl, x10⟩ := x10
     refine aF ?_
     refine a7 ?_
     refine bl (by rfl) (by rfl) x10 fun ρ σ hf => ?_
     simp only [Fits, az, aA, and_true] at hf
     refine srs hn (by kernel_rfl) ?_
     simp -dsimp [hf]
     refine ah ?_
     cases hm
     refine ⟨.inr rfl, ?_⟩
     refine EE.here ?_
     simp -dsimp
theorem c_R20_History (t : Tree) (p : List Cell) (n : Int) (r : (List (List Cell)) × Int) (hm : eQ t p n = some r) : PureCall Tryz.prog 34 [.u (.agg [.d (.int .i64 t.States), .d (.sl 2 (List.map Point.row t.Hood)), .d (.sl 2 (List.map Node.row t.Nodes))]), .u (.one (.d (.sl 3 (List.map Cell.row p)))), .u (.one (.d (.int .i64 n)))] (.tup [.one (.d (.sl 1 (List.map (rS 3 Cell.row) r.1))), .one (.d (.int .i64 r.2))]) := (f_R20_History t p n r hm).pureW
theorem f_R20_Run (t : Tree) (p : List Cell) (n : Int) (r : (List Cell) × Int) (hm : f5 t p n = some r) : PFn Tryz.prog 22 [.u (.agg [.d (.int .i64 t.States), .d (.sl 2 (List.map Point.row t.Hood)), .d (.sl 2 (List.map Node.row t.Nodes))]), .u (.one (.d (.sl 3 (List.map Cell.row p)))), .u (.one (.d (.int .i64 n)))] (fun v => v.wk (.tup [.one (.d (.sl 3 (List.map Cell.row r.1))), .one (.d (.int .i64 r.2))])) := by
 refine bv Tryz.func22 Tryz.ntmps22 rfl (by kernel_rfl) (by simp) fun cx hn => ?_
 unfold f5 at hm
 refine srs hn (by kernel_rfl) ?_
 simp -dsimp []
 refine srs hn (by kernel_rfl) ?_
 obtain ⟨y, h1, hm⟩ := bnd hm
 simp -dsimp []
 refine ag (c_R20_History t p n y h1) (by rw [hn]; decide) ?_
 simp -dsimp
 refine ai ?_
 refine srs hn (by kernel_rfl) ?_
 simp -dsimp
 rcases am hm with ⟨c2, hm⟩ | ⟨c2, hm⟩
 ·refine ab (b := (neB y.2 0)) (by simp -dsimp) c2 ?_
  refine srs hn (by kernel_rfl) ?_
  simp -dsimp [c2]
  refine ah (aj ?_)
  cases hm
  refine ⟨.inr rfl, ?_⟩
  refine EE.here ?_
  simp -dsimp
 ·refine aa (b := (neB y.2 0)) (by simp -dsimp) c2 ?_
  refine ae (a7 ?_)
  refine srs hn (by kernel_rfl) ?_
  obtain ⟨x, h3, hm⟩ := bnd hm
  simp -dsimp [c2, h3]
  refine ah ?_
  cases hm
  refine ⟨.inr rfl, ?_⟩
  refine EE.here ?_
  simp -dsimp
theorem c_R20_Run (t : Tree) (p : List Cell) (n : Int) (r : (List Cell) × Int) (hm : f5 t p n = some r) : PureCall Tryz.prog 22 [.u (.agg [.d (.int .i64 t.States), .d (.sl 2 (List.map Point.row t.Hood)), .d (.sl 2 (List.map Node.row t.Nodes))]), .u (.one (.d (.sl 3 (List.map Cell.row p)))), .u (.one (.d (.int .i64 n)))] (.tup [.one (.d (.sl 3 (List.map Cell.row r.1))), .one (.d (.int .i64 r.2))]) := (f_R20_Run t p n r hm).pureW
def gb (cx : Cx) (_p : List Cell) (tt : (List Cell)) (ee : Exit) (ρ : Env) (σ : Sto) : Prop := match tt with
 | out => ee = .exit 0 ∧ EE cx (b6 [(3, .u (.one (.own 5000)))] [(5000, .row 3 51 (List.map Cell.row out))]) ρ σ
theorem l_R34_home_1 (cx : Cx) (hn : cx.n = 41) (p : List Cell) {fu : Nat} {stt : Int × (List Cell)} {tt : (List Cell)} (hh : ar (eH p) fu stt = some tt) {ρ : Env} {σ : Sto}
  (hE : bn (fun stt : Int × (List Cell) => match stt with | (i, _out) => [(0, .u (.one (.d (.sl 3 (List.map Cell.row p))))), (3, .u (.one (.own 5000))), (4, .u (.one (.d (.int .i64 i))))]) (fun stt : Int × (List Cell) => match stt with | (_i, out) => [(5000, .row 3 51 (List.map Cell.row out))]) stt ρ σ) : Swp Tryz.prog cx (.loop (cj [1, 1, 0, 1, 0, 0] (aX Tryz.f32))) ρ σ (gb cx p tt) := by
 refine bo hE hh (gb cx p) (fun _ => by rfl) (fun _ => by rfl) ?_
 rintro ⟨i, out⟩ r hm ρ σ hf
 simp only [Fits, az, aA, and_true] at hf
 unfold eH at hm
 dsimp only at hm
 refine ai ?_
 refine srs hn (by kernel_rfl) ?_
 simp -dsimp [hf]
 rcases am hm with ⟨c1, hm⟩ | ⟨c1, hm⟩
 ·refine ab (b := (ltB i (ak p))) (by simp -dsimp) c1 ?_
  refine ae (a7 (ai (ap ?_)))
  refine sw_drN bj mixed 28 (by rw [hn]; kernel_rfl) ?_
  dsimp only [List.take, List.drop]
  obtain ⟨x, h2, hm⟩ := bnd hm
  obtain ⟨x1, h3, hm⟩ := bnd hm
  obtain ⟨l, h4, hm⟩ := bnd hm
  obtain ⟨h4a, h4e⟩ := cP h4
  replace h4e := h4e.symm
  subst h4e
  try simp only [List.length_cons, List.length_nil, Nat.zero_add] at h4a
  simp -dsimp [hf, c1, h2, h3, h4a]
  refine aY ?_
  refine a7 ?_
  refine sr1 hn (by kernel_rfl) ?_
  simp -dsimp [hf]
  cases hm
  refine aJ ?_
  refine EE.step (Wk.move 39 5000 (by decide) (.inl (by decide))) ?_
  refine EE.here ?_
  simp -dsimp [hf]
 ·refine aa (b := (ltB i (ak p))) (by simp -dsimp) c1 ?_
  refine aD ?_
  refine aj ?_
  cases hm
  refine au nofun ?_
  unfold gb
  dsimp only
  refine ⟨rfl, ?_⟩
  refine EE.here ?_
  simp -dsimp [hf, c1]
theorem f_R34_home (p : List Cell) (r : List Cell) (hm : dW p = some r) : PFn Tryz.prog 32 [.u (.one (.d (.sl 3 (List.map Cell.row p))))] (fun v => v.wk (.u (.one (.d (.sl 3 (List.map Cell.row r)))))) := by
 refine bv Tryz.func32 Tryz.ntmps32 rfl (by kernel_rfl) (by simp) fun cx hn => ?_
 unfold dW at hm
 refine srs hn (by kernel_rfl) ?_
 simp -dsimp []
 refine srs hn (by kernel_rfl) ?_
 simp -dsimp []
 refine ai ?_
 refine srs hn (by kernel_rfl) ?_
 simp -dsimp []
 refine ap ?_
 obtain ⟨out, g5, hm⟩ := bnd hm
 refine aW [(0, .u (.one (.d (.sl 3 (List.map Cell.row p))))), (3, .u (.one (.own 5000))), (4, .u (.one (.d (.int .i64 0))))] [(5000, .row 3 51 (List.map Cell.row []))] (by rfl) (by rfl) (by
   refine EE.step (Wk.own0 3 5000 3 51 (by simp -dsimp []) (by decide)) ?_
   refine EE.here ?_
   simp -dsimp []
 ) fun ρ σ hf => ?_
 refine (l_R34_home_1 cx hn p g5 hf).mono fun ee ρ σ x6 => ?_
 unfold gb at x6
 dsimp only at x6
 obtain ⟨rfl, x6⟩ := x6
 refine aF ?_
 refine a7 ?_
 refine bl (by rfl) (by rfl) x6 fun ρ σ hf => ?_
 simp only [Fits, az, aA, and_true] at hf
 refine srs hn (by kernel_rfl) ?_
 simp -dsimp [hf]
 refine ah ?_
 cases hm
 refine ⟨.inr rfl, ?_⟩
 refine EE.here ?_
 simp -dsimp [hf]
theorem c_R34_home (p : List Cell) (r : List Cell) (hm : dW p = some r) : PureCall Tryz.prog 32 [.u (.one (.d (.sl 3 (List.map Cell.row p))))] (.u (.one (.d (.sl 3 (List.map Cell.row r))))) := (f_R34_home p r hm).pureW
def dD (cx : Cx) (_t : Tree) (_p : List Cell) (_most : Int) (tt : (Motion × Bool × Int) ⊕ Unit) (ee : Exit) (ρ : Env) (σ : Sto) : Prop := match tt with
 | .inl r => ee = .ret ∧ EE cx (fun ρ σ => ∃ v, resV tb ρ σ Tryz.f13.results.toList = some v ∧ (v.frz σ).free = true ∧ (v.frz σ).wk (.tup [.agg [.d (.int .i64 r.1.Period), .d (.int .i64 r.1.DX), .d (.int .i64 r.1.DY)], .one (.d (.bool r.2.1)), .one (.d (.int .i64 r.2.2))])) ρ σ
 | .inr _u => ee = .exit 0 ∧ EE cx (b6 [(6, .u (.one (.box 6 0)))] [(6, .box [.d (.int .i64 0), .d (.int .i64 0), .d (.int .i64 0)])]) ρ σ
theorem l_R34_Find_1 (cx : Cx) (hn : cx.n = 81) (t : Tree) (p : List Cell) (most : Int) {fu : Nat} {stt : (List Cell) × Int} {tt : (Motion × Bool × Int) ⊕ Unit} (hh : ar (dr t p most) fu stt = some tt) {ρ : Env} {σ : Sto}
  (hE : bn (fun stt : (List Cell) × Int => match stt with | (q, n) => [(1, .u (.one (.d (.sl 3 (List.map Cell.row p))))), (2, .u (.one (.d (.int .i64 most)))), (3, .u (.one (.box 3 0))), (6, .u (.one (.box 6 0))), (11, .u (.one (.d (.sl 3 (List.map Cell.row q))))), (12, .u (.one (.d (.int .i64 n))))]) (fun stt : (List Cell) × Int => match stt with | (_q, _n) => [(3, .box [.d (.int .i64 t.States), .d (.sl 2 (List.map Point.row t.Hood)), .d (.sl 2 (List.map Node.row t.Nodes))]), (6, .box [.d (.int .i64 0), .d (.int .i64 0), .d (.int .i64 0)])]) stt ρ σ) : Swp Tryz.prog cx (.loop (cj [1, 1, 1, 1, 1, 1, 0, 1, 0, 0] (aX Tryz.f13))) ρ σ (dD cx t p most tt) := by
 refine bo hE hh (dD cx t p most) (fun _ => by rfl) (fun _ => by rfl) ?_
 rintro ⟨q, n⟩ r hm ρ σ hf
 simp only [Fits, az, aA, and_true] at hf
 unfold dr at hm
 dsimp only at hm
 refine ai ?_
 refine srs hn (by kernel_rfl) ?_
 simp -dsimp [hf]
 rcases am hm with ⟨c6, hm⟩ | ⟨c6, hm⟩
 ·refine ab (b := (leB n most)) (by simp -dsimp) c6 ?_
  refine ae (a7 (ai (ap ?_)))
  refine srs hn (by kernel_rfl) ?_
  obtain ⟨y1, h7, hm⟩ := bnd hm
  simp -dsimp [hf, c6]
  refine ag (c_R20_Step t q y1 h7) (by rw [hn]; decide) ?_
  simp -dsimp
  refine ai ?_
  refine srs hn (by kernel_rfl) ?_
  simp -dsimp
  rcases am hm with ⟨c8, hm⟩ | ⟨c8, hm⟩
  ·refine ab (b := (neB y1.2 0)) (by simp -dsimp) c8 ?_
   refine srs hn (by kernel_rfl) ?_
   simp -dsimp [hf, c8]
   refine ah (aj (aN (aj ?_)))
   cases hm
   refine au nofun ?_
   unfold dD
   dsimp only
   refine ⟨rfl, ?_⟩
   refine EE.here ?_
   simp -dsimp [hf, Tryz.results13]
  ·refine aa (b := (neB y1.2 0)) (by simp -dsimp) c8 ?_
   refine ae (a7 ?_)
   obtain ⟨a1, j16, hm⟩ := bnd hm
   refine av [(1, .u (.one (.d (.sl 3 (List.map Cell.row p))))), (2, .u (.one (.d (.int .i64 most)))), (3, .u (.one (.box 3 0))), (6, .u (.one (.box 6 0))), (11, .u (.one (.d (.sl 3 (List.map Cell.row y1.1))))), (12, .u (.one (.d (.int .i64 n)))), (59, .u (.one (.d (.bool a1))))] [(3, .box [.d (.int .i64 t.States), .d (.sl 2 (List.map Point.row t.Hood)), .d (.sl 2 (List.map Node.row t.Nodes))]), (6, .box [.d (.int .i64 0), .d (.int .i64 0), .d (.int .i64 0)])] (by rfl) (by rfl) ?_ fun ρ σ hf => ?_
   ·replace hm := j16
    clear j16
    refine sr1 hn (by kernel_rfl) ?_
    rcases am hm with ⟨c9, hm⟩ | ⟨c9, hm⟩
    ·obtain ⟨y2, h10, hm⟩ := bnd hm
     simp -dsimp [c8, c9]
     refine ag (c_R34_home y1.1 y2 h10) (by rw [hn]; decide) ?_
     obtain ⟨y3, h11, hm⟩ := bnd hm
     simp -dsimp [hf]
     refine ag (c_R34_home p y3 h11) (by rw [hn]; decide) ?_
     obtain ⟨y4, h12, hm⟩ := bnd hm
     simp -dsimp
     refine ag (c_R05_Same y2 y3 y4 h12) (by rw [hn]; decide) ?_
     simp -dsimp
     refine a7 ?_
     cases hm
     refine EE.here ?_
     simp -dsimp [hf]
    ·simp -dsimp [c8, c9]
     refine a7 ?_
     cases hm
     refine EE.here ?_
     simp -dsimp [hf]
   ·clear j16
    simp only [Fits, az, aA, and_true] at hf
    rcases am hm with ⟨c13, hm⟩ | ⟨c13, hm⟩
    ·refine ab (b := a1) (by simp -dsimp [hf]) c13 ?_
     refine sw_drNs bj mixed 19 (by rw [hn]; kernel_rfl) ?_
     dsimp only [List.take, List.drop]
     obtain ⟨x, h14, hm⟩ := bnd hm
     obtain ⟨x1, h15, hm⟩ := bnd hm
     simp -dsimp [hf, h14, h15]
     refine ah (aN (aj ?_))
     cases hm
     refine au nofun ?_
     unfold dD
     dsimp only
     refine ⟨rfl, ?_⟩
     refine EE.here ?_
     simp -dsimp [hf, Tryz.results13]
    ·refine aa (b := a1) (by simp -dsimp [hf]) c13 ?_
     refine ae ?_
     refine aY ?_
     refine a7 ?_
     refine sr1 hn (by kernel_rfl) ?_
     simp -dsimp [hf]
     cases hm
     refine aJ ?_
     refine EE.here ?_
     simp -dsimp [hf]
 ·refine aa (b := (leB n most)) (by simp -dsimp) c6 ?_
  refine aD ?_
  refine aj ?_
  cases hm
  refine au nofun ?_
  unfold dD
  dsimp only
  refine ⟨rfl, ?_⟩
  refine EE.here ?_
  simp -dsimp [hf, c6]
theorem f_R34_Find (t : Tree) (p : List Cell) (most : Int) (r : Motion × Bool × Int) (hm : ej t p most = some r) : PFn Tryz.prog 13 [.u (.agg [.d (.int .i64 t.States), .d (.sl 2 (List.map Point.row t.Hood)), .d (.sl 2 (List.map Node.row t.Nodes))]), .u (.one (.d (.sl 3 (List.map Cell.row p)))), .u (.one (.d (.int .i64 most)))] (fun v => v.wk (.tup [.agg [.d (.int .i64 r.1.Period), .d (.int .i64 r.1.DX), .d (.int .i64 r.1.DY)], .one (.d (.bool r.2.1)), .one (.d (.int .i64 r.2.2))])) := by
 refine bv Tryz.func13 Tryz.ntmps13 rfl (by kernel_rfl) (by simp) fun cx hn => ?_
 unfold ej at hm
 refine srs hn (by kernel_rfl) ?_
 simp -dsimp []
 refine srs hn (by kernel_rfl) ?_
 obtain ⟨y, h1, hm⟩ := bnd hm
 simp -dsimp []
 refine ag (c_R20_Run t p 0 y h1) (by rw [hn]; decide) ?_
 simp -dsimp
 refine ai ?_
 refine srs hn (by kernel_rfl) ?_
 simp -dsimp
 rcases am hm with ⟨c2, hm⟩ | ⟨c2, hm⟩
 ·refine ab (b := (neB y.2 0)) (by simp -dsimp) c2 ?_
  refine srs hn (by kernel_rfl) ?_
  simp -dsimp [c2]
  refine ah (aj ?_)
  cases hm
  refine ⟨.inr rfl, ?_⟩
  refine EE.here ?_
  simp -dsimp
 ·refine aa (b := (neB y.2 0)) (by simp -dsimp) c2 ?_
  refine ae (a7 (ai ?_))
  obtain ⟨a, j19, hm⟩ := bnd hm
  refine av [(1, .u (.one (.d (.sl 3 (List.map Cell.row p))))), (2, .u (.one (.d (.int .i64 most)))), (3, .u (.one (.box 3 0))), (6, .u (.one (.box 6 0))), (28, .u (.one (.d (.bool a))))] [(3, .box [.d (.int .i64 t.States), .d (.sl 2 (List.map Point.row t.Hood)), .d (.sl 2 (List.map Node.row t.Nodes))]), (6, .box [.d (.int .i64 0), .d (.int .i64 0), .d (.int .i64 0)])] (by rfl) (by rfl) ?_ fun ρ σ hf => ?_
  ·replace hm := j19
   clear j19
   refine sr1 hn (by kernel_rfl) ?_
   rcases am hm with ⟨c3, hm⟩ | ⟨c3, hm⟩
   ·simp -dsimp [c2, c3]
    refine a7 ?_
    cases hm
    refine EE.here ?_
    simp -dsimp
   ·simp -dsimp [c2, c3]
    refine a7 ?_
    cases hm
    refine EE.here ?_
    simp -dsimp
  ·clear j19
   simp only [Fits, az, aA, and_true] at hf
   rcases am hm with ⟨c4, hm⟩ | ⟨c4, hm⟩
   ·refine ab (b := a) (by simp -dsimp [hf]) c4 ?_
    refine srs hn (by kernel_rfl) ?_
    simp -dsimp [hf]
    refine ah (aj ?_)
    cases hm
    refine ⟨.inr rfl, ?_⟩
    refine EE.here ?_
    simp -dsimp [hf]
   ·refine aa (b := a) (by simp -dsimp [hf]) c4 ?_
    refine ae (a7 (ai ?_))
    refine srs hn (by kernel_rfl) ?_
    simp -dsimp [hf]
    rcases am hm with ⟨c5, hm⟩ | ⟨c5, hm⟩
    ·refine ab (b := (eqB (ak p) 0)) (by simp -dsimp) c5 ?_
     refine srs hn (by kernel_rfl) ?_
     simp -dsimp [hf, c5]
     refine ah (aj ?_)
     cases hm
     refine ⟨.inr rfl, ?_⟩
     refine EE.here ?_
     simp -dsimp [hf]
    ·refine aa (b := (eqB (ak p) 0)) (by simp -dsimp) c5 ?_
     refine ae (a7 ?_)
     refine srs hn (by kernel_rfl) ?_
     simp -dsimp [hf, c5]
     refine ai ?_
     refine srs hn (by kernel_rfl) ?_
     simp -dsimp
     refine ap ?_
     obtain ⟨o_, g17, hm⟩ := bnd hm
     refine aW [(1, .u (.one (.d (.sl 3 (List.map Cell.row p))))), (2, .u (.one (.d (.int .i64 most)))), (3, .u (.one (.box 3 0))), (6, .u (.one (.box 6 0))), (11, .u (.one (.d (.sl 3 (List.map Cell.row p))))), (12, .u (.one (.d (.int .i64 1))))] [(3, .box [.d (.int .i64 t.States), .d (.sl 2 (List.map Point.row t.Hood)), .d (.sl 2 (List.map Node.row t.Nodes))]), (6, .box [.d (.int .i64 0), .d (.int .i64 0), .d (.int .i64 0)])] (by rfl) (by rfl) (by
       refine EE.here ?_
       simp -dsimp [hf]
     ) fun ρ σ hf => ?_
     refine (l_R34_Find_1 cx hn t p most g17 hf).mono fun ee ρ σ x18 => ?_
     rcases o_ with r | _u
     ·unfold dD at x18
      dsimp only at x18
      obtain ⟨rfl, x18⟩ := x18
      refine aN (aj ?_)
      cases hm
      exact ⟨.inr rfl, x18⟩
     ·unfold dD at x18
      dsimp only at x18
      obtain ⟨rfl, x18⟩ := x18
      refine aF ?_
      refine a7 ?_
      refine bl (by rfl) (by rfl) x18 fun ρ σ hf => ?_
      simp only [Fits, az, aA, and_true] at hf
      refine srs hn (by kernel_rfl) ?_
      simp -dsimp [hf]
      refine ah ?_
      cases hm
      refine ⟨.inr rfl, ?_⟩
      refine EE.here ?_
      simp -dsimp [hf]
theorem c_R34_Find (t : Tree) (p : List Cell) (most : Int) (r : Motion × Bool × Int) (hm : ej t p most = some r) : PureCall Tryz.prog 13 [.u (.agg [.d (.int .i64 t.States), .d (.sl 2 (List.map Point.row t.Hood)), .d (.sl 2 (List.map Node.row t.Nodes))]), .u (.one (.d (.sl 3 (List.map Cell.row p)))), .u (.one (.d (.int .i64 most)))] (.tup [.agg [.d (.int .i64 r.1.Period), .d (.int .i64 r.1.DX), .d (.int .i64 r.1.DY)], .one (.d (.bool r.2.1)), .one (.d (.int .i64 r.2.2))]) := (f_R34_Find t p most r hm).pureW
end Go.Proofs.YtdjclgfbggfpaaaGreatDoor
