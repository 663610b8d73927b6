/-
  That the code does what the functions say (made by cc.py).
-/
import Derived.Test.YtdjclgfbggfpaaaGreatDoorMd1
import Derived.Test.YtdjclgfbggfpaaaGreatDoorTb
import Derived.Test.YtdjclgfbggfpaaaGreatDoorWa9
namespace Go.Proofs.YtdjclgfbggfpaaaGreatDoor
open Go.AM Go.Proofs
attribute [-simp] qlookup cn dG Ob.wipe Ob.ren Ob.frz1
section
attribute [-simp] List.map_set List.set_set
def fD (cx : Cx) (p : List Cell) (y : Box × Bool) (tt : (List Int)) (ee : Exit) (ρ : Env) (σ : Sto) : Prop := match tt with
 | l1 => ee = .exit 0 ∧ EE cx (b6 [(2, .u (.one (.box 2 0))), (5, .u (.one (.box 5 0)))] [(2, .box [.d (.bool false), .d (.int .i64 0), .d (.int .i64 0), .d (.int .i64 0), .d (.int .i64 0), .d .nil, .d .nil]), (5, .box [.d (.bool (leB (eY .i64 y.1.W y.1.H) 40000)), .d (.int .i64 y.1.X), .d (.int .i64 y.1.Y), .d (.int .i64 y.1.W), .d (.int .i64 y.1.H), .own 30, .d (.sl 3 (List.map Cell.row p))]), (30, .row 1 3 (List.map (rI .i64) l1))]) ρ σ
theorem l_R20_states_1 (cx : Cx) (hn : cx.n = 67) (p : List Cell) (y : Box × Bool) {fu : Nat} {stt : Int × (List Int)} {tt : (List Int)} (hh : ar (cL p y) fu stt = some tt) {ρ : Env} {σ : Sto}
  (hE : bn (fun stt : Int × (List Int) => match stt with | (i, _l1) => [(0, .u (.one (.d (.sl 3 (List.map Cell.row p))))), (2, .u (.one (.box 2 0))), (3, .u (.one (.box 3 0))), (5, .u (.one (.box 5 0))), (6, .u (.one (.d (.int .i64 i))))]) (fun stt : Int × (List Int) => match stt with | (_i, l1) => [(2, .box [.d (.bool false), .d (.int .i64 0), .d (.int .i64 0), .d (.int .i64 0), .d (.int .i64 0), .d .nil, .d .nil]), (3, .box [.d (.int .i64 y.1.X), .d (.int .i64 y.1.Y), .d (.int .i64 y.1.W), .d (.int .i64 y.1.H)]), (5, .box [.d (.bool (leB (eY .i64 y.1.W y.1.H) 40000)), .d (.int .i64 y.1.X), .d (.int .i64 y.1.Y), .d (.int .i64 y.1.W), .d (.int .i64 y.1.H), .own 30, .d (.sl 3 (List.map Cell.row p))]), (30, .row 1 3 (List.map (rI .i64) l1))]) stt ρ σ) : Swp Tryz.prog cx (.loop (cj [1, 1, 1, 1, 1, 0, 1, 0, 0] (aX Tryz.f52))) ρ σ (fD cx p y tt) := by
 refine bo hE hh (fD cx p y) (fun _ => by rfl) (fun _ => by rfl) ?_
 rintro ⟨i, l1⟩ r hm ρ σ hf
 simp only [Fits, az, aA, and_true] at hf
 unfold cL at hm
 dsimp only at hm
 refine ai ?_
 refine srs hn (by kernel_rfl) ?_
 simp -dsimp [hf]
 rcases am hm with ⟨c4, hm⟩ | ⟨c4, hm⟩
 ·refine ab (b := (ltB i (ak p))) (by simp -dsimp) c4 ?_
  refine ae (a7 (ai (ap ?_)))
  refine sw_drN bj mixed 27 (by rw [hn]; kernel_rfl) ?_
  dsimp only [List.take, List.drop]
  obtain ⟨x, h5, hm⟩ := bnd hm
  obtain ⟨x1, h6, hm⟩ := bnd hm
  simp -dsimp [hf, c4, h5, h6, idx_get h6, rsetI .i64 l1 (aM .i64 (aQ .i64 (eY .i64 (aM .i64 x.Y y.1.Y) y.1.W) x.X) y.1.X).toNat x.S]
  refine aY ?_
  refine a7 ?_
  refine sr1 hn (by kernel_rfl) ?_
  simp -dsimp [hf]
  cases hm
  refine aJ ?_
  refine EE.here ?_
  simp -dsimp [hf]
 ·refine aa (b := (ltB i (ak p))) (by simp -dsimp) c4 ?_
  refine aD ?_
  refine aj ?_
  cases hm
  refine au nofun ?_
  unfold fD
  dsimp only
  refine ⟨rfl, ?_⟩
  refine EE.here ?_
  simp -dsimp [hf, c4]
theorem f_R20_states (p : List Cell) (r : cellularref20_field) (hm : eB p = some r) : PFn Tryz.prog 52 [.u (.one (.d (.sl 3 (List.map Cell.row p))))] (fun v => v.wk (.u (.agg [.d (.bool r.flat), .d (.int .i64 r.box.X), .d (.int .i64 r.box.Y), .d (.int .i64 r.box.W), .d (.int .i64 r.box.H), .d (.sl 1 (List.map (rI .i64) r.cells)), .d (.sl 3 (List.map Cell.row r.list))]))) := by
 refine bv Tryz.func52 Tryz.ntmps52 rfl (by kernel_rfl) (by simp) fun cx hn => ?_
 unfold eB at hm
 refine srs hn (by kernel_rfl) ?_
 simp -dsimp []
 refine srs hn (by kernel_rfl) ?_
 obtain ⟨y, h1, hm⟩ := bnd hm
 simp -dsimp []
 refine ag (c_R05_Box p y h1) (by rw [hn]; decide) ?_
 simp -dsimp
 refine srs hn (by kernel_rfl) ?_
 simp -dsimp
 refine ai ?_
 refine srs hn (by kernel_rfl) ?_
 simp -dsimp
 rcases am hm with ⟨c2, hm⟩ | ⟨c2, hm⟩
 ·refine ab (b := (aR (leB (eY .i64 y.1.W y.1.H) 40000))) (by simp -dsimp) c2 ?_
  refine srs hn (by kernel_rfl) ?_
  simp -dsimp [c2]
  refine ah (aj ?_)
  cases hm
  refine ⟨.inr rfl, ?_⟩
  refine EE.here ?_
  simp -dsimp
 ·refine aa (b := (aR (leB (eY .i64 y.1.W y.1.H) 40000))) (by simp -dsimp) c2 ?_
  refine ae (a7 ?_)
  refine srs hn (by kernel_rfl) ?_
  obtain ⟨l, h3, hm⟩ := bnd hm
  obtain ⟨⟨h3a, h3b, h3c⟩, rfl⟩ := mkL_some h3
  simp -dsimp [c2, h3a, h3c]
  refine ai ?_
  refine srs hn (by kernel_rfl) ?_
  simp -dsimp
  refine ap ?_
  obtain ⟨l1, g7, hm⟩ := bnd hm
  refine aW [(0, .u (.one (.d (.sl 3 (List.map Cell.row p))))), (2, .u (.one (.box 2 0))), (3, .u (.one (.box 3 0))), (5, .u (.one (.box 5 0))), (6, .u (.one (.d (.int .i64 0))))] [(2, .box [.d (.bool false), .d (.int .i64 0), .d (.int .i64 0), .d (.int .i64 0), .d (.int .i64 0), .d .nil, .d .nil]), (3, .box [.d (.int .i64 y.1.X), .d (.int .i64 y.1.Y), .d (.int .i64 y.1.W), .d (.int .i64 y.1.H)]), (5, .box [.d (.bool (leB (eY .i64 y.1.W y.1.H) 40000)), .d (.int .i64 y.1.X), .d (.int .i64 y.1.Y), .d (.int .i64 y.1.W), .d (.int .i64 y.1.H), .own 30, .d (.sl 3 (List.map Cell.row p))]), (30, .row 1 3 (List.map (rI .i64) (List.replicate (eY .i64 y.1.W y.1.H).toNat 0)))] (by rfl) (by rfl) (by
    refine EE.here ?_
    simp -dsimp
  ) fun ρ σ hf => ?_
  refine (l_R20_states_1 cx hn p y g7 hf).mono fun ee ρ σ x8 => ?_
  unfold fD at x8
  dsimp only at x8
  obtain ⟨rfl, x8⟩ := x8
  refine aF ?_
  refine a7 ?_
  refine bl (by rfl) (by rfl) x8 fun ρ σ hf => ?_
  simp only [Fits, az, aA, and_true] at hf
  refine srs hn (by kernel_rfl) ?_
  simp -dsimp [hf]
  refine ah ?_
  cases hm
  refine ⟨.inr rfl, ?_⟩
  refine EE.here ?_
  simp -dsimp [hf]
theorem c_R20_states (p : List Cell) (r : cellularref20_field) (hm : eB p = some r) : PureCall Tryz.prog 52 [.u (.one (.d (.sl 3 (List.map Cell.row p))))] (.u (.agg [.d (.bool r.flat), .d (.int .i64 r.box.X), .d (.int .i64 r.box.Y), .d (.int .i64 r.box.W), .d (.int .i64 r.box.H), .d (.sl 1 (List.map (rI .i64) r.cells)), .d (.sl 3 (List.map Cell.row r.list))])) := (f_R20_states p r hm).pureW
end
def bw (cx : Cx) (_f : cellularref20_field) (_n : Int) (_q : Point) (tt : Bool ⊕ Unit) (ee : Exit) (ρ : Env) (σ : Sto) : Prop := match tt with
 | .inl r => ee = .ret ∧ EE cx (fun ρ σ => ∃ v, resV tb ρ σ Tryz.f103.results.toList = some v ∧ (v.frz σ).free = true ∧ (v.frz σ).wk (.u (.one (.d (.bool r))))) ρ σ
 | .inr _u => ee = .exit 0 ∧ EE cx (b6 [] []) ρ σ
theorem l_R20_field_earlier_1 (cx : Cx) (hn : cx.n = 45) (f : cellularref20_field) (n : Int) (q : Point) {fu : Nat} {stt : Int} {tt : Bool ⊕ Unit} (hh : ar (bi f n q) fu stt = some tt) {ρ : Env} {σ : Sto}
  (hE : bn (fun i : Int => [(1, .u (.one (.d (.int .i64 n)))), (3, .u (.one (.box 3 0))), (5, .u (.one (.box 5 0))), (7, .u (.one (.d (.int .i64 i))))]) (fun _i : Int => [(3, .box [.d (.bool f.flat), .d (.int .i64 f.box.X), .d (.int .i64 f.box.Y), .d (.int .i64 f.box.W), .d (.int .i64 f.box.H), .d (.sl 1 (List.map (rI .i64) f.cells)), .d (.sl 3 (List.map Cell.row f.list))]), (5, .box [.d (.int .i64 q.X), .d (.int .i64 q.Y)])]) stt ρ σ) : Swp Tryz.prog cx (.loop (cj [1, 0, 1, 0, 0] (aX Tryz.f103))) ρ σ (bw cx f n q tt) := by
 refine bo hE hh (bw cx f n q) (fun _ => by rfl) (fun _ => by rfl) ?_
 rintro i r hm ρ σ hf
 simp only [Fits, az, aA, and_true] at hf
 unfold bi at hm
 dsimp only at hm
 refine ai ?_
 refine srs hn (by kernel_rfl) ?_
 simp -dsimp [hf]
 rcases am hm with ⟨c1, hm⟩ | ⟨c1, hm⟩
 ·refine ab (b := (ltB i n)) (by simp -dsimp) c1 ?_
  refine ae (a7 (ai (ap ?_)))
  refine cZ bj mixed (by rw [hn]; kernel_rfl) ?_
  obtain ⟨x, h2, hm⟩ := bnd hm
  simp -dsimp [hf, c1, h2]
  obtain ⟨a, j5, hm⟩ := bnd hm
  refine av [(1, .u (.one (.d (.int .i64 n)))), (3, .u (.one (.box 3 0))), (5, .u (.one (.box 5 0))), (7, .u (.one (.d (.int .i64 i)))), (44, .u (.one (.d (.bool a))))] [(3, .box [.d (.bool f.flat), .d (.int .i64 f.box.X), .d (.int .i64 f.box.Y), .d (.int .i64 f.box.W), .d (.int .i64 f.box.H), .d (.sl 1 (List.map (rI .i64) f.cells)), .d (.sl 3 (List.map Cell.row f.list))]), (5, .box [.d (.int .i64 q.X), .d (.int .i64 q.Y)])] (by rfl) (by rfl) ?_ fun ρ σ hf => ?_
  ·replace hm := j5
   clear j5
   refine sr1 hn (by kernel_rfl) ?_
   rcases am hm with ⟨c3, hm⟩ | ⟨c3, hm⟩
   ·simp -dsimp [c3]
    refine a7 ?_
    cases hm
    refine EE.here ?_
    simp -dsimp [hf]
   ·simp -dsimp [c3]
    refine a7 ?_
    cases hm
    refine EE.here ?_
    simp -dsimp [hf]
  ·clear j5
   simp only [Fits, az, aA, and_true] at hf
   rcases am hm with ⟨c4, hm⟩ | ⟨c4, hm⟩
   ·refine ab (b := a) (by simp -dsimp [hf]) c4 ?_
    refine srs hn (by kernel_rfl) ?_
    simp -dsimp
    refine ah (aN (aj ?_))
    cases hm
    refine au nofun ?_
    unfold bw
    dsimp only
    refine ⟨rfl, ?_⟩
    refine EE.here ?_
    simp -dsimp [Tryz.results103]
   ·refine aa (b := a) (by simp -dsimp [hf]) c4 ?_
    refine ae ?_
    refine aY ?_
    refine a7 ?_
    refine sr1 hn (by kernel_rfl) ?_
    simp -dsimp [hf]
    cases hm
    refine aJ ?_
    refine EE.here ?_
    simp -dsimp [hf]
 ·refine aa (b := (ltB i n)) (by simp -dsimp) c1 ?_
  refine aD ?_
  refine aj ?_
  cases hm
  refine au nofun ?_
  unfold bw
  dsimp only
  refine ⟨rfl, ?_⟩
  refine EE.here ?_
  simp -dsimp [c1]
theorem f_R20_field_earlier (f : cellularref20_field) (n : Int) (q : Point) (r : Bool) (hm : bM f n q = some r) : PFn Tryz.prog 103 [.u (.agg [.d (.bool f.flat), .d (.int .i64 f.box.X), .d (.int .i64 f.box.Y), .d (.int .i64 f.box.W), .d (.int .i64 f.box.H), .d (.sl 1 (List.map (rI .i64) f.cells)), .d (.sl 3 (List.map Cell.row f.list))]), .u (.one (.d (.int .i64 n))), .u (.agg [.d (.int .i64 q.X), .d (.int .i64 q.Y)])] (fun v => v.wk (.u (.one (.d (.bool r))))) := by
 refine bv Tryz.func103 Tryz.ntmps103 rfl (by kernel_rfl) (by simp) fun cx hn => ?_
 unfold bM at hm
 refine srs hn (by kernel_rfl) ?_
 simp -dsimp []
 refine ai ?_
 refine srs hn (by kernel_rfl) ?_
 simp -dsimp []
 refine ap ?_
 obtain ⟨o_, g6, hm⟩ := bnd hm
 refine aW [(1, .u (.one (.d (.int .i64 n)))), (3, .u (.one (.box 3 0))), (5, .u (.one (.box 5 0))), (7, .u (.one (.d (.int .i64 0))))] [(3, .box [.d (.bool f.flat), .d (.int .i64 f.box.X), .d (.int .i64 f.box.Y), .d (.int .i64 f.box.W), .d (.int .i64 f.box.H), .d (.sl 1 (List.map (rI .i64) f.cells)), .d (.sl 3 (List.map Cell.row f.list))]), (5, .box [.d (.int .i64 q.X), .d (.int .i64 q.Y)])] (by rfl) (by rfl) (by
   refine EE.here ?_
   simp -dsimp []
 ) fun ρ σ hf => ?_
 refine (l_R20_field_earlier_1 cx hn f n q g6 hf).mono fun ee ρ σ x7 => ?_
 rcases o_ with r | _u
 ·unfold bw at x7
  dsimp only at x7
  obtain ⟨rfl, x7⟩ := x7
  refine aN (aj ?_)
  cases hm
  exact ⟨.inr rfl, x7⟩
 ·unfold bw at x7
  dsimp only at x7
  obtain ⟨rfl, x7⟩ := x7
  refine aF ?_
  refine a7 ?_
  refine bl (by rfl) (by rfl) x7 fun ρ σ hf => ?_
  simp only [Fits, az, aA, and_true] at hf
  refine srs hn (by kernel_rfl) ?_
  simp -dsimp
  refine ah ?_
  cases hm
  refine ⟨.inr rfl, ?_⟩
  refine EE.here ?_
  simp -dsimp
theorem c_R20_field_earlier (f : cellularref20_field) (n : Int) (q : Point) (r : Bool) (hm : bM f n q = some r) : PureCall Tryz.prog 103 [.u (.agg [.d (.bool f.flat), .d (.int .i64 f.box.X), .d (.int .i64 f.box.Y), .d (.int .i64 f.box.W), .d (.int .i64 f.box.H), .d (.sl 1 (List.map (rI .i64) f.cells)), .d (.sl 3 (List.map Cell.row f.list))]), .u (.one (.d (.int .i64 n))), .u (.agg [.d (.int .i64 q.X), .d (.int .i64 q.Y)])] (.u (.one (.d (.bool r)))) := (f_R20_field_earlier f n q r hm).pureW
def dt (cx : Cx) (f : cellularref20_field) (y : Int) (_out : List Point) (tt : (List Point)) (ee : Exit) (ρ : Env) (σ : Sto) : Prop := match tt with
 | out1 => ee = .exit 2 ∧ EE cx (b6 [(1, .u (.one (.box 1 0))), (3, .u (.one (.own 5000))), (4, .u (.one (.d (.int .i64 y))))] [(1, .box [.d (.bool f.flat), .d (.int .i64 f.box.X), .d (.int .i64 f.box.Y), .d (.int .i64 f.box.W), .d (.int .i64 f.box.H), .d (.sl 1 (List.map (rI .i64) f.cells)), .d (.sl 3 (List.map Cell.row f.list))]), (5000, .row 2 72 (List.map Point.row out1))]) ρ σ
theorem l_R20_field_near_2 (cx : Cx) (hn : cx.n = 93) (f : cellularref20_field) (y : Int) (out : List Point) {fu : Nat} {stt : Int × (List Point)} {tt : (List Point)} (hh : ar (bD f y out) fu stt = some tt) {ρ : Env} {σ : Sto}
  (hE : bn (fun stt : Int × (List Point) => match stt with | (x, _out1) => [(1, .u (.one (.box 1 0))), (3, .u (.one (.own 5000))), (4, .u (.one (.d (.int .i64 y)))), (5, .u (.one (.d (.int .i64 x))))]) (fun stt : Int × (List Point) => match stt with | (_x, out1) => [(1, .box [.d (.bool f.flat), .d (.int .i64 f.box.X), .d (.int .i64 f.box.Y), .d (.int .i64 f.box.W), .d (.int .i64 f.box.H), .d (.sl 1 (List.map (rI .i64) f.cells)), .d (.sl 3 (List.map Cell.row f.list))]), (5000, .row 2 72 (List.map Point.row out1))]) stt ρ σ) : Swp Tryz.prog cx (.loop (cj [1, 1, 0, 1, 0, 0, 1, 0, 0, 1, 0, 0, 1, 0, 0] (aX Tryz.f53))) ρ σ (dt cx f y out tt) := by
 refine bo hE hh (dt cx f y out) (fun _ => by rfl) (fun _ => by rfl) ?_
 rintro ⟨x, out1⟩ r hm ρ σ hf
 simp only [Fits, az, aA, and_true] at hf
 unfold bD at hm
 dsimp only at hm
 refine ai ?_
 refine srs hn (by kernel_rfl) ?_
 simp -dsimp [hf]
 rcases am hm with ⟨c3, hm⟩ | ⟨c3, hm⟩
 ·refine ab (b := (ltB x (aQ .i64 (aQ .i64 f.box.X f.box.W) 2))) (by simp -dsimp) c3 ?_
  refine ae (a7 (ai (ap ?_)))
  refine sr1 hn (by kernel_rfl) ?_
  obtain ⟨l, h4, hm⟩ := bnd hm
  obtain ⟨h4a, h4e⟩ := cP h4
  replace h4e := h4e.symm
  subst h4e
  try simp only [List.length_cons, List.length_nil, Nat.zero_add] at h4a
  simp -dsimp [hf, c3, h4a]
  refine aY ?_
  refine a7 ?_
  refine sr1 hn (by kernel_rfl) ?_
  simp -dsimp [hf]
  cases hm
  refine aJ ?_
  refine EE.step (Wk.move 49 5000 (by decide) (.inl (by decide))) ?_
  refine EE.here ?_
  simp -dsimp [hf]
 ·refine aa (b := (ltB x (aQ .i64 (aQ .i64 f.box.X f.box.W) 2))) (by simp -dsimp) c3 ?_
  refine aD ?_
  refine aj ?_
  cases hm
  refine au nofun ?_
  unfold dt
  dsimp only
  refine ⟨rfl, ?_⟩
  refine EE.here ?_
  simp -dsimp [hf, c3]
def dq (cx : Cx) (_f : cellularref20_field) (tt : (List Point)) (ee : Exit) (ρ : Env) (σ : Sto) : Prop := match tt with
 | out => ee = .exit 0 ∧ EE cx (b6 [(3, .u (.one (.own 5000)))] [(5000, .row 2 72 (List.map Point.row out))]) ρ σ
theorem l_R20_field_near_1 (cx : Cx) (hn : cx.n = 93) (f : cellularref20_field) {fu : Nat} {stt : Int × (List Point)} {tt : (List Point)} (hh : ar (bE f) fu stt = some tt) {ρ : Env} {σ : Sto}
  (hE : bn (fun stt : Int × (List Point) => match stt with | (y, _out) => [(1, .u (.one (.box 1 0))), (3, .u (.one (.own 5000))), (4, .u (.one (.d (.int .i64 y))))]) (fun stt : Int × (List Point) => match stt with | (_y, out) => [(1, .box [.d (.bool f.flat), .d (.int .i64 f.box.X), .d (.int .i64 f.box.Y), .d (.int .i64 f.box.W), .d (.int .i64 f.box.H), .d (.sl 1 (List.map (rI .i64) f.cells)), .d (.sl 3 (List.map Cell.row f.list))]), (5000, .row 2 72 (List.map Point.row out))]) stt ρ σ) : Swp Tryz.prog cx (.loop (cj [1, 1, 0, 1, 0, 0, 1, 0, 0] (aX Tryz.f53))) ρ σ (dq cx f tt) := by
 refine bo hE hh (dq cx f) (fun _ => by rfl) (fun _ => by rfl) ?_
 rintro ⟨y, out⟩ r hm ρ σ hf
 simp only [Fits, az, aA, and_true] at hf
 unfold bE at hm
 dsimp only at hm
 refine ai ?_
 refine srs hn (by kernel_rfl) ?_
 simp -dsimp [hf]
 rcases am hm with ⟨c2, hm⟩ | ⟨c2, hm⟩
 ·refine ab (b := (ltB y (aQ .i64 (aQ .i64 f.box.Y f.box.H) 2))) (by simp -dsimp) c2 ?_
  refine ae (a7 (ai (ap ?_)))
  refine srs hn (by kernel_rfl) ?_
  simp -dsimp [hf, c2]
  refine ap ?_
  obtain ⟨out1, g5, hm⟩ := bnd hm
  refine aW [(1, .u (.one (.box 1 0))), (3, .u (.one (.own 5000))), (4, .u (.one (.d (.int .i64 y)))), (5, .u (.one (.d (.int .i64 (aM .i64 f.box.X 2)))))] [(1, .box [.d (.bool f.flat), .d (.int .i64 f.box.X), .d (.int .i64 f.box.Y), .d (.int .i64 f.box.W), .d (.int .i64 f.box.H), .d (.sl 1 (List.map (rI .i64) f.cells)), .d (.sl 3 (List.map Cell.row f.list))]), (5000, .row 2 72 (List.map Point.row out))] (by rfl) (by rfl) (by
    refine EE.here ?_
    simp -dsimp [hf]
  ) fun ρ σ hf => ?_
  refine (l_R20_field_near_2 cx hn f y out g5 hf).mono fun ee ρ σ x6 => ?_
  unfold dt at x6
  dsimp only at x6
  obtain ⟨rfl, x6⟩ := x6
  refine aF ?_
  refine aY ?_
  refine a7 ?_
  refine bl (by rfl) (by rfl) x6 fun ρ σ hf => ?_
  simp only [Fits, az, aA, and_true] at hf
  refine sr1 hn (by kernel_rfl) ?_
  simp -dsimp [hf]
  cases hm
  refine aJ ?_
  refine EE.here ?_
  simp -dsimp [hf]
 ·refine aa (b := (ltB y (aQ .i64 (aQ .i64 f.box.Y f.box.H) 2))) (by simp -dsimp) c2 ?_
  refine aD ?_
  refine aj ?_
  cases hm
  refine au nofun ?_
  unfold dq
  dsimp only
  refine ⟨rfl, ?_⟩
  refine EE.here ?_
  simp -dsimp [hf, c2]
def du (cx : Cx) (f : cellularref20_field) (i : Int) (_out : List Point) (y : Int) (tt : (List Point)) (ee : Exit) (ρ : Env) (σ : Sto) : Prop := match tt with
 | out2 => ee = .exit 8 ∧ EE cx (b6 [(1, .u (.one (.box 1 0))), (3, .u (.one (.own 5000))), (6, .u (.one (.d (.int .i64 i)))), (7, .u (.one (.d (.int .i64 y))))] [(1, .box [.d (.bool f.flat), .d (.int .i64 f.box.X), .d (.int .i64 f.box.Y), .d (.int .i64 f.box.W), .d (.int .i64 f.box.H), .d (.sl 1 (List.map (rI .i64) f.cells)), .d (.sl 3 (List.map Cell.row f.list))]), (5000, .row 2 72 (List.map Point.row out2))]) ρ σ
theorem l_R20_field_near_5 (cx : Cx) (hn : cx.n = 93) (f : cellularref20_field) (i : Int) (out : List Point) (y : Int) {fu : Nat} {stt : Int × (List Point)} {tt : (List Point)} (hh : ar (bp f i out y) fu stt = some tt) {ρ : Env} {σ : Sto}
  (hE : bn (fun stt : Int × (List Point) => match stt with | (x, _out2) => [(1, .u (.one (.box 1 0))), (3, .u (.one (.own 5000))), (6, .u (.one (.d (.int .i64 i)))), (7, .u (.one (.d (.int .i64 y)))), (8, .u (.one (.d (.int .i64 x))))]) (fun stt : Int × (List Point) => match stt with | (_x, out2) => [(1, .box [.d (.bool f.flat), .d (.int .i64 f.box.X), .d (.int .i64 f.box.Y), .d (.int .i64 f.box.W), .d (.int .i64 f.box.H), .d (.sl 1 (List.map (rI .i64) f.cells)), .d (.sl 3 (List.map Cell.row f.list))]), (5000, .row 2 72 (List.map Point.row out2))]) stt ρ σ) : Swp Tryz.prog cx (.loop (cj [1, 1, 1, 0, 1, 0, 0, 1, 0, 0, 1, 0, 0, 1, 0, 0, 1, 0, 0] (aX Tryz.f53))) ρ σ (du cx f i out y tt) := by
 refine bo hE hh (du cx f i out y) (fun _ => by rfl) (fun _ => by rfl) ?_
 rintro ⟨x, out2⟩ r hm ρ σ hf
 simp only [Fits, az, aA, and_true] at hf
 unfold bp at hm
 dsimp only at hm
 refine ai ?_
 refine srs hn (by kernel_rfl) ?_
 simp -dsimp [hf]
 rcases am hm with ⟨c11, hm⟩ | ⟨c11, hm⟩
 ·refine ab (b := (leB x 2)) (by simp -dsimp) c11 ?_
  refine ae (a7 ?_)
  obtain ⟨out3, j16, hm⟩ := bnd hm
  refine av [(1, .u (.one (.box 1 0))), (3, .u (.one (.own 5000))), (6, .u (.one (.d (.int .i64 i)))), (7, .u (.one (.d (.int .i64 y)))), (8, .u (.one (.d (.int .i64 x))))] [(1, .box [.d (.bool f.flat), .d (.int .i64 f.box.X), .d (.int .i64 f.box.Y), .d (.int .i64 f.box.W), .d (.int .i64 f.box.H), .d (.sl 1 (List.map (rI .i64) f.cells)), .d (.sl 3 (List.map Cell.row f.list))]), (5000, .row 2 72 (List.map Point.row out3))] (by rfl) (by rfl) ?_ fun ρ σ hf => ?_
  ·replace hm := j16
   clear j16
   refine ap ?_
   refine sw_mids bj mixed 17 18 18 [[0, 1, 2, 3, 4, 5, 6, 7, 8, 9, 10, 11, 12, 13, 14, 15, 16]] [9] (by rw [hn]; kernel_rfl) ?_
   dsimp only [List.take, List.drop, midsD, uopsD, pk, List.cons_append, List.nil_append]
   obtain ⟨x1, h12, hm⟩ := bnd hm
   simp -dsimp [hf, c11, h12]
   refine srs hn (by kernel_rfl) ?_
   obtain ⟨y1, h13, hm⟩ := bnd hm
   simp -dsimp [hf]
   refine ag (c_R20_field_earlier f i (⟨(aQ .i64 x1.X x), (aQ .i64 x1.Y y)⟩ : Point) y1 h13) (by rw [hn]; decide) ?_
   simp -dsimp
   rcases am hm with ⟨c14, hm⟩ | ⟨c14, hm⟩
   ·refine ab (b := (aR y1)) (by simp -dsimp) c14 ?_
    refine sr1 hn (by kernel_rfl) ?_
    obtain ⟨l, h15, hm⟩ := bnd hm
    obtain ⟨h15a, h15e⟩ := cP h15
    replace h15e := h15e.symm
    subst h15e
    try simp only [List.length_cons, List.length_nil, Nat.zero_add] at h15a
    simp -dsimp [hf, c14, h15a]
    refine aY ?_
    refine a7 ?_
    cases hm
    refine EE.step (Wk.move 91 5000 (by decide) (.inl (by decide))) ?_
    refine EE.here ?_
    simp -dsimp [hf]
   ·refine aa (b := (aR y1)) (by simp -dsimp) c14 ?_
    refine ae ?_
    refine aY ?_
    refine a7 ?_
    cases hm
    refine EE.here ?_
    simp -dsimp [hf, c14]
  ·clear j16
   simp only [Fits, az, aA, and_true] at hf
   refine sr1 hn (by kernel_rfl) ?_
   simp -dsimp [hf]
   cases hm
   refine aJ ?_
   refine EE.here ?_
   simp -dsimp [hf]
 ·refine aa (b := (leB x 2)) (by simp -dsimp) c11 ?_
  refine aD ?_
  refine aj ?_
  cases hm
  refine au nofun ?_
  unfold du
  dsimp only
  refine ⟨rfl, ?_⟩
  refine EE.here ?_
  simp -dsimp [hf, c11]
def dA (cx : Cx) (f : cellularref20_field) (i : Int) (_out : List Point) (tt : (List Point)) (ee : Exit) (ρ : Env) (σ : Sto) : Prop := match tt with
 | out1 => ee = .exit 6 ∧ EE cx (b6 [(1, .u (.one (.box 1 0))), (3, .u (.one (.own 5000))), (6, .u (.one (.d (.int .i64 i))))] [(1, .box [.d (.bool f.flat), .d (.int .i64 f.box.X), .d (.int .i64 f.box.Y), .d (.int .i64 f.box.W), .d (.int .i64 f.box.H), .d (.sl 1 (List.map (rI .i64) f.cells)), .d (.sl 3 (List.map Cell.row f.list))]), (5000, .row 2 72 (List.map Point.row out1))]) ρ σ
theorem l_R20_field_near_4 (cx : Cx) (hn : cx.n = 93) (f : cellularref20_field) (i : Int) (out : List Point) {fu : Nat} {stt : Int × (List Point)} {tt : (List Point)} (hh : ar (bV f i out) fu stt = some tt) {ρ : Env} {σ : Sto}
  (hE : bn (fun stt : Int × (List Point) => match stt with | (y, _out1) => [(1, .u (.one (.box 1 0))), (3, .u (.one (.own 5000))), (6, .u (.one (.d (.int .i64 i)))), (7, .u (.one (.d (.int .i64 y))))]) (fun stt : Int × (List Point) => match stt with | (_y, out1) => [(1, .box [.d (.bool f.flat), .d (.int .i64 f.box.X), .d (.int .i64 f.box.Y), .d (.int .i64 f.box.W), .d (.int .i64 f.box.H), .d (.sl 1 (List.map (rI .i64) f.cells)), .d (.sl 3 (List.map Cell.row f.list))]), (5000, .row 2 72 (List.map Point.row out1))]) stt ρ σ) : Swp Tryz.prog cx (.loop (cj [1, 1, 1, 0, 1, 0, 0, 1, 0, 0, 1, 0, 0] (aX Tryz.f53))) ρ σ (dA cx f i out tt) := by
 refine bo hE hh (dA cx f i out) (fun _ => by rfl) (fun _ => by rfl) ?_
 rintro ⟨y, out1⟩ r hm ρ σ hf
 simp only [Fits, az, aA, and_true] at hf
 unfold bV at hm
 dsimp only at hm
 refine ai ?_
 refine srs hn (by kernel_rfl) ?_
 simp -dsimp [hf]
 rcases am hm with ⟨c10, hm⟩ | ⟨c10, hm⟩
 ·refine ab (b := (leB y 2)) (by simp -dsimp) c10 ?_
  refine ae (a7 (ai (ap ?_)))
  refine srs hn (by kernel_rfl) ?_
  simp -dsimp [c10]
  refine ap ?_
  obtain ⟨out2, g17, hm⟩ := bnd hm
  refine aW [(1, .u (.one (.box 1 0))), (3, .u (.one (.own 5000))), (6, .u (.one (.d (.int .i64 i)))), (7, .u (.one (.d (.int .i64 y)))), (8, .u (.one (.d (.int .i64 (-2)))))] [(1, .box [.d (.bool f.flat), .d (.int .i64 f.box.X), .d (.int .i64 f.box.Y), .d (.int .i64 f.box.W), .d (.int .i64 f.box.H), .d (.sl 1 (List.map (rI .i64) f.cells)), .d (.sl 3 (List.map Cell.row f.list))]), (5000, .row 2 72 (List.map Point.row out1))] (by rfl) (by rfl) (by
    refine EE.here ?_
    simp -dsimp [hf]
  ) fun ρ σ hf => ?_
  refine (l_R20_field_near_5 cx hn f i out y g17 hf).mono fun ee ρ σ x18 => ?_
  unfold du at x18
  dsimp only at x18
  obtain ⟨rfl, x18⟩ := x18
  refine aF ?_
  refine aY ?_
  refine a7 ?_
  refine bl (by rfl) (by rfl) x18 fun ρ σ hf => ?_
  simp only [Fits, az, aA, and_true] at hf
  refine sr1 hn (by kernel_rfl) ?_
  simp -dsimp [hf]
  cases hm
  refine aJ ?_
  refine EE.here ?_
  simp -dsimp [hf]
 ·refine aa (b := (leB y 2)) (by simp -dsimp) c10 ?_
  refine aD ?_
  refine aj ?_
  cases hm
  refine au nofun ?_
  unfold dA
  dsimp only
  refine ⟨rfl, ?_⟩
  refine EE.here ?_
  simp -dsimp [hf, c10]
def dC (cx : Cx) (_f : cellularref20_field) (tt : (List Point)) (ee : Exit) (ρ : Env) (σ : Sto) : Prop := match tt with
 | out => ee = .exit 4 ∧ EE cx (b6 [(3, .u (.one (.own 5000)))] [(5000, .row 2 72 (List.map Point.row out))]) ρ σ
theorem l_R20_field_near_3 (cx : Cx) (hn : cx.n = 93) (f : cellularref20_field) {fu : Nat} {stt : Int × (List Point)} {tt : (List Point)} (hh : ar (bI f) fu stt = some tt) {ρ : Env} {σ : Sto}
  (hE : bn (fun stt : Int × (List Point) => match stt with | (i, _out) => [(1, .u (.one (.box 1 0))), (3, .u (.one (.own 5000))), (6, .u (.one (.d (.int .i64 i))))]) (fun stt : Int × (List Point) => match stt with | (_i, out) => [(1, .box [.d (.bool f.flat), .d (.int .i64 f.box.X), .d (.int .i64 f.box.Y), .d (.int .i64 f.box.W), .d (.int .i64 f.box.H), .d (.sl 1 (List.map (rI .i64) f.cells)), .d (.sl 3 (List.map Cell.row f.list))]), (5000, .row 2 72 (List.map Point.row out))]) stt ρ σ) : Swp Tryz.prog cx (.loop (cj [1, 1, 1, 0, 1, 0, 0] (aX Tryz.f53))) ρ σ (dC cx f tt) := by
 refine bo hE hh (dC cx f) (fun _ => by rfl) (fun _ => by rfl) ?_
 rintro ⟨i, out⟩ r hm ρ σ hf
 simp only [Fits, az, aA, and_true] at hf
 unfold bI at hm
 dsimp only at hm
 refine ai ?_
 refine srs hn (by kernel_rfl) ?_
 simp -dsimp [hf]
 rcases am hm with ⟨c9, hm⟩ | ⟨c9, hm⟩
 ·refine ab (b := (ltB i (ak f.list))) (by simp -dsimp) c9 ?_
  refine ae (a7 (ai (ap ?_)))
  refine srs hn (by kernel_rfl) ?_
  simp -dsimp [c9]
  refine ap ?_
  obtain ⟨out1, g19, hm⟩ := bnd hm
  refine aW [(1, .u (.one (.box 1 0))), (3, .u (.one (.own 5000))), (6, .u (.one (.d (.int .i64 i)))), (7, .u (.one (.d (.int .i64 (-2)))))] [(1, .box [.d (.bool f.flat), .d (.int .i64 f.box.X), .d (.int .i64 f.box.Y), .d (.int .i64 f.box.W), .d (.int .i64 f.box.H), .d (.sl 1 (List.map (rI .i64) f.cells)), .d (.sl 3 (List.map Cell.row f.list))]), (5000, .row 2 72 (List.map Point.row out))] (by rfl) (by rfl) (by
    refine EE.here ?_
    simp -dsimp [hf]
  ) fun ρ σ hf => ?_
  refine (l_R20_field_near_4 cx hn f i out g19 hf).mono fun ee ρ σ x20 => ?_
  unfold dA at x20
  dsimp only at x20
  obtain ⟨rfl, x20⟩ := x20
  refine aF ?_
  refine aY ?_
  refine a7 ?_
  refine bl (by rfl) (by rfl) x20 fun ρ σ hf => ?_
  simp only [Fits, az, aA, and_true] at hf
  refine sr1 hn (by kernel_rfl) ?_
  simp -dsimp [hf]
  cases hm
  refine aJ ?_
  refine EE.here ?_
  simp -dsimp [hf]
 ·refine aa (b := (ltB i (ak f.list))) (by simp -dsimp) c9 ?_
  refine aD ?_
  refine aj ?_
  cases hm
  refine au nofun ?_
  unfold dC
  dsimp only
  refine ⟨rfl, ?_⟩
  refine EE.here ?_
  simp -dsimp [hf, c9]
theorem f_R20_field_near (f : cellularref20_field) (r : List Point) (hm : cC f = some r) : PFn Tryz.prog 53 [.u (.agg [.d (.bool f.flat), .d (.int .i64 f.box.X), .d (.int .i64 f.box.Y), .d (.int .i64 f.box.W), .d (.int .i64 f.box.H), .d (.sl 1 (List.map (rI .i64) f.cells)), .d (.sl 3 (List.map Cell.row f.list))])] (fun v => v.wk (.u (.one (.d (.sl 2 (List.map Point.row r)))))) := by
 refine bv Tryz.func53 Tryz.ntmps53 rfl (by kernel_rfl) (by simp) fun cx hn => ?_
 unfold cC at hm
 refine srs hn (by kernel_rfl) ?_
 simp -dsimp []
 refine srs hn (by kernel_rfl) ?_
 simp -dsimp []
 refine ai ?_
 refine srs hn (by kernel_rfl) ?_
 simp -dsimp []
 rcases am hm with ⟨c1, hm⟩ | ⟨c1, hm⟩
 ·refine ab (b := f.flat) (by simp -dsimp []) c1 ?_
  refine ai ?_
  refine srs hn (by kernel_rfl) ?_
  simp -dsimp [c1]
  refine ap ?_
  obtain ⟨out, g7, hm⟩ := bnd hm
  refine aW [(1, .u (.one (.box 1 0))), (3, .u (.one (.own 5000))), (4, .u (.one (.d (.int .i64 (aM .i64 f.box.Y 2)))))] [(1, .box [.d (.bool f.flat), .d (.int .i64 f.box.X), .d (.int .i64 f.box.Y), .d (.int .i64 f.box.W), .d (.int .i64 f.box.H), .d (.sl 1 (List.map (rI .i64) f.cells)), .d (.sl 3 (List.map Cell.row f.list))]), (5000, .row 2 72 (List.map Point.row []))] (by rfl) (by rfl) (by
    refine EE.step (Wk.own0 3 5000 2 72 (by simp -dsimp) (by decide)) ?_
    refine EE.here ?_
    simp -dsimp [c1]
  ) fun ρ σ hf => ?_
  refine (l_R20_field_near_1 cx hn f g7 hf).mono fun ee ρ σ x8 => ?_
  unfold dq at x8
  dsimp only at x8
  obtain ⟨rfl, x8⟩ := x8
  refine aF ?_
  refine a7 ?_
  refine bl (by rfl) (by rfl) x8 fun ρ σ hf => ?_
  simp only [Fits, az, aA, and_true] at hf
  refine srs hn (by kernel_rfl) ?_
  simp -dsimp [hf]
  refine ah (aj ?_)
  cases hm
  refine ⟨.inr rfl, ?_⟩
  refine EE.here ?_
  simp -dsimp [hf]
 ·refine aa (b := f.flat) (by simp -dsimp []) c1 ?_
  refine ae (a7 (ai ?_))
  refine srs hn (by kernel_rfl) ?_
  simp -dsimp [c1]
  refine ap ?_
  obtain ⟨out, g21, hm⟩ := bnd hm
  refine aW [(1, .u (.one (.box 1 0))), (3, .u (.one (.own 5000))), (6, .u (.one (.d (.int .i64 0))))] [(1, .box [.d (.bool f.flat), .d (.int .i64 f.box.X), .d (.int .i64 f.box.Y), .d (.int .i64 f.box.W), .d (.int .i64 f.box.H), .d (.sl 1 (List.map (rI .i64) f.cells)), .d (.sl 3 (List.map Cell.row f.list))]), (5000, .row 2 72 (List.map Point.row []))] (by rfl) (by rfl) (by
    refine EE.step (Wk.own0 3 5000 2 72 (by simp -dsimp) (by decide)) ?_
    refine EE.here ?_
    simp -dsimp [c1]
  ) fun ρ σ hf => ?_
  refine (l_R20_field_near_3 cx hn f g21 hf).mono fun ee ρ σ x22 => ?_
  unfold dC at x22
  dsimp only at x22
  obtain ⟨rfl, x22⟩ := x22
  refine aF ?_
  refine a7 ?_
  refine bl (by rfl) (by rfl) x22 fun ρ σ hf => ?_
  simp only [Fits, az, aA, and_true] at hf
  refine srs hn (by kernel_rfl) ?_
  simp -dsimp [hf]
  refine ah ?_
  cases hm
  refine ⟨.inr rfl, ?_⟩
  refine EE.here ?_
  simp -dsimp [hf]
theorem c_R20_field_near (f : cellularref20_field) (r : List Point) (hm : cC f = some r) : PureCall Tryz.prog 53 [.u (.agg [.d (.bool f.flat), .d (.int .i64 f.box.X), .d (.int .i64 f.box.Y), .d (.int .i64 f.box.W), .d (.int .i64 f.box.H), .d (.sl 1 (List.map (rI .i64) f.cells)), .d (.sl 3 (List.map Cell.row f.list))])] (.u (.one (.d (.sl 2 (List.map Point.row r))))) := (f_R20_field_near f r hm).pureW
def fo (cx : Cx) (_p : List Cell) (_x : Int) (_y : Int) (tt : Int ⊕ Unit) (ee : Exit) (ρ : Env) (σ : Sto) : Prop := match tt with
 | .inl r => ee = .ret ∧ EE cx (fun ρ σ => ∃ v, resV tb ρ σ Tryz.f151.results.toList = some v ∧ (v.frz σ).free = true ∧ (v.frz σ).wk (.u (.one (.d (.int .i64 r))))) ρ σ
 | .inr _u => ee = .exit 0 ∧ EE cx (b6 [] []) ρ σ
theorem l_R05_Get_1 (cx : Cx) (hn : cx.n = 35) (p : List Cell) (x : Int) (y : Int) {fu : Nat} {stt : Int} {tt : Int ⊕ Unit} (hh : ar (ei p x y) fu stt = some tt) {ρ : Env} {σ : Sto}
  (hE : bn (fun i : Int => [(0, .u (.one (.d (.sl 3 (List.map Cell.row p))))), (1, .u (.one (.d (.int .i64 x)))), (2, .u (.one (.d (.int .i64 y)))), (7, .u (.one (.d (.int .i64 i))))]) (fun _i : Int => []) stt ρ σ) : Swp Tryz.prog cx (.loop (cj [1, 0, 1, 0, 0] (aX Tryz.f151))) ρ σ (fo cx p x y tt) := by
 refine bo hE hh (fo cx p x y) (fun _ => by rfl) (fun _ => by rfl) ?_
 rintro i r hm ρ σ hf
 simp only [Fits, az, aA, and_true] at hf
 unfold ei at hm
 dsimp only at hm
 refine ai ?_
 refine srs hn (by kernel_rfl) ?_
 simp -dsimp [hf]
 rcases am hm with ⟨c1, hm⟩ | ⟨c1, hm⟩
 ·refine ab (b := (ltB i (ak p))) (by simp -dsimp) c1 ?_
  refine ae (a7 (ai (ap ?_)))
  obtain ⟨a, j6, hm⟩ := bnd hm
  refine av [(0, .u (.one (.d (.sl 3 (List.map Cell.row p))))), (1, .u (.one (.d (.int .i64 x)))), (2, .u (.one (.d (.int .i64 y)))), (7, .u (.one (.d (.int .i64 i)))), (29, .u (.one (.d (.bool a))))] [] (by rfl) (by rfl) ?_ fun ρ σ hf => ?_
  ·replace hm := j6
   clear j6
   refine sr1 hn (by kernel_rfl) ?_
   obtain ⟨x1, h2, hm⟩ := bnd hm
   rcases am hm with ⟨c3, hm⟩ | ⟨c3, hm⟩
   ·simp -dsimp [hf, c1, h2, c3]
    refine a7 ?_
    cases hm
    refine EE.here ?_
    simp -dsimp [hf]
   ·simp -dsimp [hf, c1, h2, c3]
    refine a7 ?_
    cases hm
    refine EE.here ?_
    simp -dsimp [hf]
  ·clear j6
   simp only [Fits, az, aA, and_true] at hf
   rcases am hm with ⟨c4, hm⟩ | ⟨c4, hm⟩
   ·refine ab (b := a) (by simp -dsimp [hf]) c4 ?_
    refine srs hn (by kernel_rfl) ?_
    obtain ⟨x1, h5, hm⟩ := bnd hm
    simp -dsimp [hf, h5]
    refine ah (aN (aj ?_))
    cases hm
    refine au nofun ?_
    unfold fo
    dsimp only
    refine ⟨rfl, ?_⟩
    refine EE.here ?_
    simp -dsimp [Tryz.results151]
   ·refine aa (b := a) (by simp -dsimp [hf]) c4 ?_
    refine ae ?_
    refine aY ?_
    refine a7 ?_
    refine sr1 hn (by kernel_rfl) ?_
    simp -dsimp [hf]
    cases hm
    refine aJ ?_
    refine EE.here ?_
    simp -dsimp [hf]
 ·refine aa (b := (ltB i (ak p))) (by simp -dsimp) c1 ?_
  refine aD ?_
  refine aj ?_
  cases hm
  refine au nofun ?_
  unfold fo
  dsimp only
  refine ⟨rfl, ?_⟩
  refine EE.here ?_
  simp -dsimp [c1]
theorem f_R05_Get (p : List Cell) (x : Int) (y : Int) (r : Int) (hm : gq p x y = some r) : PFn Tryz.prog 151 [.u (.one (.d (.sl 3 (List.map Cell.row p)))), .u (.one (.d (.int .i64 x))), .u (.one (.d (.int .i64 y)))] (fun v => v.wk (.u (.one (.d (.int .i64 r))))) := by
 refine bv Tryz.func151 Tryz.ntmps151 rfl (by kernel_rfl) (by simp) fun cx hn => ?_
 unfold gq at hm
 refine srs hn (by kernel_rfl) ?_
 simp -dsimp []
 refine ai ?_
 refine srs hn (by kernel_rfl) ?_
 simp -dsimp []
 refine ap ?_
 obtain ⟨o_, g7, hm⟩ := bnd hm
 refine aW [(0, .u (.one (.d (.sl 3 (List.map Cell.row p))))), (1, .u (.one (.d (.int .i64 x)))), (2, .u (.one (.d (.int .i64 y)))), (7, .u (.one (.d (.int .i64 0))))] [] (by rfl) (by rfl) (by
   refine EE.here ?_
   simp -dsimp []
 ) fun ρ σ hf => ?_
 refine (l_R05_Get_1 cx hn p x y g7 hf).mono fun ee ρ σ x8 => ?_
 rcases o_ with r | _u
 ·unfold fo at x8
  dsimp only at x8
  obtain ⟨rfl, x8⟩ := x8
  refine aN (aj ?_)
  cases hm
  exact ⟨.inr rfl, x8⟩
 ·unfold fo at x8
  dsimp only at x8
  obtain ⟨rfl, x8⟩ := x8
  refine aF ?_
  refine a7 ?_
  refine bl (by rfl) (by rfl) x8 fun ρ σ hf => ?_
  simp only [Fits, az, aA, and_true] at hf
  refine srs hn (by kernel_rfl) ?_
  simp -dsimp
  refine ah ?_
  cases hm
  refine ⟨.inr rfl, ?_⟩
  refine EE.here ?_
  simp -dsimp
theorem c_R05_Get (p : List Cell) (x : Int) (y : Int) (r : Int) (hm : gq p x y = some r) : PureCall Tryz.prog 151 [.u (.one (.d (.sl 3 (List.map Cell.row p)))), .u (.one (.d (.int .i64 x))), .u (.one (.d (.int .i64 y)))] (.u (.one (.d (.int .i64 r)))) := (f_R05_Get p x y r hm).pureW
theorem f_R20_field_at (f : cellularref20_field) (x : Int) (y : Int) (r : Int) (hm : cG f x y = some r) : PFn Tryz.prog 104 [.u (.agg [.d (.bool f.flat), .d (.int .i64 f.box.X), .d (.int .i64 f.box.Y), .d (.int .i64 f.box.W), .d (.int .i64 f.box.H), .d (.sl 1 (List.map (rI .i64) f.cells)), .d (.sl 3 (List.map Cell.row f.list))]), .u (.one (.d (.int .i64 x))), .u (.one (.d (.int .i64 y)))] (fun v => v.wk (.u (.one (.d (.int .i64 r))))) := by
 refine bv Tryz.func104 Tryz.ntmps104 rfl (by kernel_rfl) (by simp) fun cx hn => ?_
 unfold cG at hm
 refine srs hn (by kernel_rfl) ?_
 simp -dsimp []
 refine ai ?_
 refine srs hn (by kernel_rfl) ?_
 simp -dsimp []
 rcases am hm with ⟨c1, hm⟩ | ⟨c1, hm⟩
 ·refine ab (b := (aR f.flat)) (by simp -dsimp []) c1 ?_
  refine srs hn (by kernel_rfl) ?_
  obtain ⟨y1, h2, hm⟩ := bnd hm
  simp -dsimp [c1]
  refine ag (c_R05_Get f.list x y y1 h2) (by rw [hn]; decide) ?_
  simp -dsimp
  refine ah (aj ?_)
  cases hm
  refine ⟨.inr rfl, ?_⟩
  refine EE.here ?_
  simp -dsimp
 ·refine aa (b := (aR f.flat)) (by simp -dsimp []) c1 ?_
  refine ae (a7 (ai ?_))
  obtain ⟨a, j8, hm⟩ := bnd hm
  refine av [(1, .u (.one (.d (.int .i64 x)))), (2, .u (.one (.d (.int .i64 y)))), (3, .u (.one (.box 3 0))), (48, .u (.one (.d (.bool a))))] [(3, .box [.d (.bool f.flat), .d (.int .i64 f.box.X), .d (.int .i64 f.box.Y), .d (.int .i64 f.box.W), .d (.int .i64 f.box.H), .d (.sl 1 (List.map (rI .i64) f.cells)), .d (.sl 3 (List.map Cell.row f.list))])] (by rfl) (by rfl) ?_ fun ρ σ hf => ?_
  ·replace hm := j8
   clear j8
   refine sr1 hn (by kernel_rfl) ?_
   rcases am hm with ⟨c3, hm⟩ | ⟨c3, hm⟩
   ·simp -dsimp [c1, c3]
    refine a7 ?_
    cases hm
    refine EE.here ?_
    simp -dsimp
   ·rcases am hm with ⟨c4, hm⟩ | ⟨c4, hm⟩
    ·simp -dsimp [c1, c3, c4]
     refine a7 ?_
     cases hm
     refine EE.here ?_
     simp -dsimp
    ·rcases am hm with ⟨c5, hm⟩ | ⟨c5, hm⟩
     ·simp -dsimp [c1, c3, c4, c5]
      refine a7 ?_
      cases hm
      refine EE.here ?_
      simp -dsimp
     ·simp -dsimp [c1, c3, c4, c5]
      refine a7 ?_
      cases hm
      refine EE.here ?_
      simp -dsimp
  ·clear j8
   simp only [Fits, az, aA, and_true] at hf
   rcases am hm with ⟨c6, hm⟩ | ⟨c6, hm⟩
   ·refine ab (b := a) (by simp -dsimp [hf]) c6 ?_
    refine srs hn (by kernel_rfl) ?_
    simp -dsimp
    refine ah (aj ?_)
    cases hm
    refine ⟨.inr rfl, ?_⟩
    refine EE.here ?_
    simp -dsimp
   ·refine aa (b := a) (by simp -dsimp [hf]) c6 ?_
    refine ae (a7 ?_)
    refine srs hn (by kernel_rfl) ?_
    obtain ⟨x1, h7, hm⟩ := bnd hm
    simp -dsimp [hf, h7]
    refine ah ?_
    cases hm
    refine ⟨.inr rfl, ?_⟩
    refine EE.here ?_
    simp -dsimp
theorem c_R20_field_at (f : cellularref20_field) (x : Int) (y : Int) (r : Int) (hm : cG f x y = some r) : PureCall Tryz.prog 104 [.u (.agg [.d (.bool f.flat), .d (.int .i64 f.box.X), .d (.int .i64 f.box.Y), .d (.int .i64 f.box.W), .d (.int .i64 f.box.H), .d (.sl 1 (List.map (rI .i64) f.cells)), .d (.sl 3 (List.map Cell.row f.list))]), .u (.one (.d (.int .i64 x))), .u (.one (.d (.int .i64 y)))] (.u (.one (.d (.int .i64 r)))) := (f_R20_field_at f x y r hm).pureW
def gh (cx : Cx) (t : Tree) (_f : cellularref20_field) (_x : Int) (_y : Int) (tt : (List Int)) (ee : Exit) (ρ : Env) (σ : Sto) : Prop := match tt with
 | in_ => ee = .exit 0 ∧ EE cx (b6 [(4, .u (.one (.box 4 0))), (9, .u (.one (.own 5000)))] [(4, .box [.d (.int .i64 t.States), .d (.sl 2 (List.map Point.row t.Hood)), .d (.sl 2 (List.map Node.row t.Nodes))]), (5000, .row 1 3 (List.map (rI .i64) in_))]) ρ σ
theorem l_R20_next_1 (cx : Cx) (hn : cx.n = 42) (t : Tree) (f : cellularref20_field) (x : Int) (y : Int) {fu : Nat} {stt : Int × (List Int)} {tt : (List Int)} (hh : ar (eF t f x y) fu stt = some tt) {ρ : Env} {σ : Sto}
  (hE : bn (fun stt : Int × (List Int) => match stt with | (i, _in_) => [(2, .u (.one (.d (.int .i64 x)))), (3, .u (.one (.d (.int .i64 y)))), (4, .u (.one (.box 4 0))), (5, .u (.one (.box 5 0))), (9, .u (.one (.own 5000))), (10, .u (.one (.d (.int .i64 i))))]) (fun stt : Int × (List Int) => match stt with | (_i, in_) => [(4, .box [.d (.int .i64 t.States), .d (.sl 2 (List.map Point.row t.Hood)), .d (.sl 2 (List.map Node.row t.Nodes))]), (5, .box [.d (.bool f.flat), .d (.int .i64 f.box.X), .d (.int .i64 f.box.Y), .d (.int .i64 f.box.W), .d (.int .i64 f.box.H), .d (.sl 1 (List.map (rI .i64) f.cells)), .d (.sl 3 (List.map Cell.row f.list))]), (5000, .row 1 3 (List.map (rI .i64) in_))]) stt ρ σ) : Swp Tryz.prog cx (.loop (cj [1, 1, 0, 1, 0, 0] (aX Tryz.f54))) ρ σ (gh cx t f x y tt) := by
 refine bo hE hh (gh cx t f x y) (fun _ => by rfl) (fun _ => by rfl) ?_
 rintro ⟨i, in_⟩ r hm ρ σ hf
 simp only [Fits, az, aA, and_true] at hf
 unfold eF at hm
 dsimp only at hm
 refine ai ?_
 refine srs hn (by kernel_rfl) ?_
 simp -dsimp [hf]
 rcases am hm with ⟨c1, hm⟩ | ⟨c1, hm⟩
 ·refine ab (b := (ltB i (ak t.Hood))) (by simp -dsimp) c1 ?_
  refine ae (a7 (ai (ap ?_)))
  refine sw_drN bj mixed 20 (by rw [hn]; kernel_rfl) ?_
  dsimp only [List.take, List.drop]
  obtain ⟨x1, h2, hm⟩ := bnd hm
  obtain ⟨y1, h3, hm⟩ := bnd hm
  simp -dsimp [hf, c1, h2]
  refine aK (c_R20_field_at f (aQ .i64 x x1.X) (aQ .i64 y x1.Y) y1 h3) ?_
  obtain ⟨l, h4, hm⟩ := bnd hm
  obtain ⟨h4a, h4e⟩ := cP h4
  replace h4e := h4e.symm
  subst h4e
  try simp only [List.length_cons, List.length_nil, Nat.zero_add] at h4a
  simp -dsimp [hf, h4a]
  refine aY ?_
  refine a7 ?_
  refine sr1 hn (by kernel_rfl) ?_
  simp -dsimp [hf]
  cases hm
  refine aJ ?_
  refine EE.step (Wk.move 38 5000 (by decide) (.inl (by decide))) ?_
  refine EE.here ?_
  simp -dsimp [hf]
 ·refine aa (b := (ltB i (ak t.Hood))) (by simp -dsimp) c1 ?_
  refine aD ?_
  refine aj ?_
  cases hm
  refine au nofun ?_
  unfold gh
  dsimp only
  refine ⟨rfl, ?_⟩
  refine EE.here ?_
  simp -dsimp [hf, c1]
theorem f_R20_next (t : Tree) (f : cellularref20_field) (x : Int) (y : Int) (r : Int) (hm : fG t f x y = some r) : PFn Tryz.prog 54 [.u (.agg [.d (.int .i64 t.States), .d (.sl 2 (List.map Point.row t.Hood)), .d (.sl 2 (List.map Node.row t.Nodes))]), .u (.agg [.d (.bool f.flat), .d (.int .i64 f.box.X), .d (.int .i64 f.box.Y), .d (.int .i64 f.box.W), .d (.int .i64 f.box.H), .d (.sl 1 (List.map (rI .i64) f.cells)), .d (.sl 3 (List.map Cell.row f.list))]), .u (.one (.d (.int .i64 x))), .u (.one (.d (.int .i64 y)))] (fun v => v.wk (.u (.one (.d (.int .i64 r))))) := by
 refine bv Tryz.func54 Tryz.ntmps54 rfl (by kernel_rfl) (by simp) fun cx hn => ?_
 unfold fG at hm
 refine srs hn (by kernel_rfl) ?_
 simp -dsimp []
 refine srs hn (by kernel_rfl) ?_
 simp -dsimp []
 refine ai ?_
 refine srs hn (by kernel_rfl) ?_
 simp -dsimp []
 refine ap ?_
 obtain ⟨in_, g5, hm⟩ := bnd hm
 refine aW [(2, .u (.one (.d (.int .i64 x)))), (3, .u (.one (.d (.int .i64 y)))), (4, .u (.one (.box 4 0))), (5, .u (.one (.box 5 0))), (9, .u (.one (.own 5000))), (10, .u (.one (.d (.int .i64 0))))] [(4, .box [.d (.int .i64 t.States), .d (.sl 2 (List.map Point.row t.Hood)), .d (.sl 2 (List.map Node.row t.Nodes))]), (5, .box [.d (.bool f.flat), .d (.int .i64 f.box.X), .d (.int .i64 f.box.Y), .d (.int .i64 f.box.W), .d (.int .i64 f.box.H), .d (.sl 1 (List.map (rI .i64) f.cells)), .d (.sl 3 (List.map Cell.row f.list))]), (5000, .row 1 3 (List.map (rI .i64) []))] (by rfl) (by rfl) (by
   refine EE.step (Wk.own0 9 5000 1 3 (by simp -dsimp []) (by decide)) ?_
   refine EE.here ?_
   simp -dsimp []
 ) fun ρ σ hf => ?_
 refine (l_R20_next_1 cx hn t f x y g5 hf).mono fun ee ρ σ x6 => ?_
 unfold gh at x6
 dsimp only at x6
 obtain ⟨rfl, x6⟩ := x6
 refine aF ?_
 refine a7 ?_
 refine bl (by rfl) (by rfl) x6 fun ρ σ hf => ?_
 simp only [Fits, az, aA, and_true] at hf
 refine srs hn (by kernel_rfl) ?_
 obtain ⟨y1, h7, hm⟩ := bnd hm
 simp -dsimp [hf]
 refine callL_brw (us' := [.u (.agg [.d (.int .i64 t.States), .d (.sl 2 (List.map Point.row t.Hood)), .d (.sl 2 (List.map Node.row t.Nodes))]), .u (.one (.d (.sl 1 (List.map (rI .i64) in_))))]) (c_R12_Value t in_ y1 h7) (by simp -dsimp [hf]) rfl (by rw [hn]; decide) ?_
 simp -dsimp
 refine ah ?_
 cases hm
 refine ⟨.inr rfl, ?_⟩
 refine EE.here ?_
 simp -dsimp
theorem c_R20_next (t : Tree) (f : cellularref20_field) (x : Int) (y : Int) (r : Int) (hm : fG t f x y = some r) : PureCall Tryz.prog 54 [.u (.agg [.d (.int .i64 t.States), .d (.sl 2 (List.map Point.row t.Hood)), .d (.sl 2 (List.map Node.row t.Nodes))]), .u (.agg [.d (.bool f.flat), .d (.int .i64 f.box.X), .d (.int .i64 f.box.Y), .d (.int .i64 f.box.W), .d (.int .i64 f.box.H), .d (.sl 1 (List.map (rI .i64) f.cells)), .d (.sl 3 (List.map Cell.row f.list))]), .u (.one (.d (.int .i64 x))), .u (.one (.d (.int .i64 y)))] (.u (.one (.d (.int .i64 r)))) := (f_R20_next t f x y r hm).pureW
theorem f_R20_valid (x : Int) (y : Int) (r : Bool) (hm : fl x y = some r) : PFn Tryz.prog 55 [.u (.one (.d (.int .i64 x))), .u (.one (.d (.int .i64 y)))] (fun v => v.wk (.u (.one (.d (.bool r))))) := by
 refine bv Tryz.func55 Tryz.ntmps55 rfl (by kernel_rfl) (by simp) fun cx hn => ?_
 unfold fl at hm
 refine srs hn (by kernel_rfl) ?_
 simp -dsimp []
 obtain ⟨a, j4, hm⟩ := bnd hm
 refine av [(4, .u (.one (.d (.bool a))))] [] (by rfl) (by rfl) ?_ fun ρ σ hf => ?_
 ·replace hm := j4
  clear j4
  refine sr1 hn (by kernel_rfl) ?_
  rcases am hm with ⟨c1, hm⟩ | ⟨c1, hm⟩
  ·rcases am hm with ⟨c2, hm⟩ | ⟨c2, hm⟩
   ·rcases am hm with ⟨c3, hm⟩ | ⟨c3, hm⟩
    ·simp -dsimp [c1, c2, c3]
     refine a7 ?_
     cases hm
     refine EE.here ?_
     simp -dsimp
    ·simp -dsimp [c1, c2, c3]
     refine a7 ?_
     cases hm
     refine EE.here ?_
     simp -dsimp
   ·simp -dsimp [c1, c2]
    refine a7 ?_
    cases hm
    refine EE.here ?_
    simp -dsimp
  ·simp -dsimp [c1]
   refine a7 ?_
   cases hm
   refine EE.here ?_
   simp -dsimp
 ·clear j4
  simp only [Fits, az, aA, and_true] at hf
  refine ah ?_
  cases hm
  refine ⟨.inr rfl, ?_⟩
  refine EE.here ?_
  simp -dsimp [hf]
theorem c_R20_valid (x : Int) (y : Int) (r : Bool) (hm : fl x y = some r) : PureCall Tryz.prog 55 [.u (.one (.d (.int .i64 x))), .u (.one (.d (.int .i64 y)))] (.u (.one (.d (.bool r)))) := (f_R20_valid x y r hm).pureW
def ft (cx : Cx) (_p : List Cell) (c : Cell) (tt : (Bool × (List Cell))) (ee : Exit) (ρ : Env) (σ : Sto) : Prop := match tt with
 | (done, out) => ee = .exit 0 ∧ EE cx (b6 [(3, .u (.one (.box 3 0))), (5, .u (.one (.own 5000))), (6, .u (.one (.d (.bool done))))] [(3, .box [.d (.int .i64 c.X), .d (.int .i64 c.Y), .d (.int .i64 c.S)]), (5000, .row 3 51 (List.map Cell.row out))]) ρ σ
theorem l_R05_insert_1 (cx : Cx) (hn : cx.n = 42) (p : List Cell) (c : Cell) {fu : Nat} {stt : Bool × Int × (List Cell)} {tt : (Bool × (List Cell))} (hh : ar (cI p c) fu stt = some tt) {ρ : Env} {σ : Sto}
  (hE : bn (fun stt : Bool × Int × (List Cell) => match stt with | (done, i, _out) => [(0, .u (.one (.d (.sl 3 (List.map Cell.row p))))), (3, .u (.one (.box 3 0))), (5, .u (.one (.own 5000))), (6, .u (.one (.d (.bool done)))), (7, .u (.one (.d (.int .i64 i))))]) (fun stt : Bool × Int × (List Cell) => match stt with | (_done, _i, out) => [(3, .box [.d (.int .i64 c.X), .d (.int .i64 c.Y), .d (.int .i64 c.S)]), (5000, .row 3 51 (List.map Cell.row out))]) stt ρ σ) : Swp Tryz.prog cx (.loop (cj [1, 1, 1, 0, 1, 0, 0] (aX Tryz.f107))) ρ σ (ft cx p c tt) := by
 refine bo hE hh (ft cx p c) (fun _ => by rfl) (fun _ => by rfl) ?_
 rintro ⟨done, i, out⟩ r hm ρ σ hf
 simp only [Fits, az, aA, and_true] at hf
 unfold cI at hm
 dsimp only at hm
 refine ai ?_
 refine srs hn (by kernel_rfl) ?_
 simp -dsimp [hf]
 rcases am hm with ⟨c1, hm⟩ | ⟨c1, hm⟩
 ·refine ab (b := (ltB i (ak p))) (by simp -dsimp) c1 ?_
  refine ae (a7 (ai (ap ?_)))
  obtain ⟨⟨done1, out1⟩, j10, hm⟩ := bnd hm
  refine av [(0, .u (.one (.d (.sl 3 (List.map Cell.row p))))), (3, .u (.one (.box 3 0))), (5, .u (.one (.own 5000))), (6, .u (.one (.d (.bool done1)))), (7, .u (.one (.d (.int .i64 i))))] [(3, .box [.d (.int .i64 c.X), .d (.int .i64 c.Y), .d (.int .i64 c.S)]), (5000, .row 3 51 (List.map Cell.row out1))] (by rfl) (by rfl) ?_ fun ρ σ hf => ?_
  ·replace hm := j10
   clear j10
   obtain ⟨a, j7, hm⟩ := bnd hm
   refine av [(0, .u (.one (.d (.sl 3 (List.map Cell.row p))))), (3, .u (.one (.box 3 0))), (5, .u (.one (.own 5000))), (6, .u (.one (.d (.bool done)))), (7, .u (.one (.d (.int .i64 i)))), (23, .u (.one (.d (.bool a))))] [(3, .box [.d (.int .i64 c.X), .d (.int .i64 c.Y), .d (.int .i64 c.S)]), (5000, .row 3 51 (List.map Cell.row out))] (by rfl) (by rfl) ?_ fun ρ σ hf => ?_
   ·replace hm := j7
    clear j7
    refine sw_qt bj mixed (by rw [hn]; kernel_rfl) ?_
    rcases am hm with ⟨c2, hm⟩ | ⟨c2, hm⟩
    ·obtain ⟨x, h3, hm⟩ := bnd hm
     obtain ⟨y, h4, hm⟩ := bnd hm
     simp -dsimp [hf, c1, c2, h3]
     refine aK (ij c x y h4) ?_
     simp -dsimp
     refine a7 ?_
     cases hm
     refine EE.here ?_
     simp -dsimp [hf]
    ·simp -dsimp [hf, c1, c2]
     refine a7 ?_
     cases hm
     refine EE.here ?_
     simp -dsimp [hf]
   ·clear j7
    simp only [Fits, az, aA, and_true] at hf
    rcases am hm with ⟨c5, hm⟩ | ⟨c5, hm⟩
    ·refine ab (b := a) (by simp -dsimp [hf]) c5 ?_
     refine srs hn (by kernel_rfl) ?_
     obtain ⟨l, h6, hm⟩ := bnd hm
     obtain ⟨h6a, h6e⟩ := cP h6
     replace h6e := h6e.symm
     subst h6e
     try simp only [List.length_cons, List.length_nil, Nat.zero_add] at h6a
     simp -dsimp [hf, h6a]
     refine sr1 hn (by kernel_rfl) ?_
     simp -dsimp
     refine a7 ?_
     cases hm
     refine EE.step (Wk.move 27 5000 (by decide) (.inl (by decide))) ?_
     refine EE.here ?_
     simp -dsimp [hf]
    ·refine aa (b := a) (by simp -dsimp [hf]) c5 ?_
     refine ae (a7 ?_)
     cases hm
     refine EE.here ?_
     simp -dsimp [hf]
  ·clear j10
   simp only [Fits, az, aA, and_true] at hf
   refine sr1 hn (by kernel_rfl) ?_
   obtain ⟨x, h8, hm⟩ := bnd hm
   obtain ⟨l, h9, hm⟩ := bnd hm
   obtain ⟨h9a, h9e⟩ := cP h9
   replace h9e := h9e.symm
   subst h9e
   try simp only [List.length_cons, List.length_nil, Nat.zero_add] at h9a
   simp -dsimp [hf, h8, h9a]
   refine aY ?_
   refine a7 ?_
   refine sr1 hn (by kernel_rfl) ?_
   simp -dsimp [hf]
   cases hm
   refine aJ ?_
   refine EE.step (Wk.move 34 5000 (by decide) (.inl (by decide))) ?_
   refine EE.here ?_
   simp -dsimp [hf]
 ·refine aa (b := (ltB i (ak p))) (by simp -dsimp) c1 ?_
  refine aD ?_
  refine aj ?_
  cases hm
  refine au nofun ?_
  unfold ft
  dsimp only
  refine ⟨rfl, ?_⟩
  refine EE.here ?_
  simp -dsimp [hf, c1]
theorem f_R05_insert (p : List Cell) (c : Cell) (r : List Cell) (hm : et p c = some r) : PFn Tryz.prog 107 [.u (.one (.d (.sl 3 (List.map Cell.row p)))), .u (.agg [.d (.int .i64 c.X), .d (.int .i64 c.Y), .d (.int .i64 c.S)])] (fun v => v.wk (.u (.one (.d (.sl 3 (List.map Cell.row r)))))) := by
 refine bv Tryz.func107 Tryz.ntmps107 rfl (by kernel_rfl) (by simp) fun cx hn => ?_
 unfold et at hm
 refine srs hn (by kernel_rfl) ?_
 simp -dsimp []
 refine srs hn (by kernel_rfl) ?_
 simp -dsimp []
 refine srs hn (by kernel_rfl) ?_
 simp -dsimp []
 refine ai ?_
 refine srs hn (by kernel_rfl) ?_
 simp -dsimp []
 refine ap ?_
 obtain ⟨⟨done, out⟩, g11, hm⟩ := bnd hm
 refine aW [(0, .u (.one (.d (.sl 3 (List.map Cell.row p))))), (3, .u (.one (.box 3 0))), (5, .u (.one (.own 5000))), (6, .u (.one (.d (.bool false)))), (7, .u (.one (.d (.int .i64 0))))] [(3, .box [.d (.int .i64 c.X), .d (.int .i64 c.Y), .d (.int .i64 c.S)]), (5000, .row 3 51 (List.map Cell.row []))] (by rfl) (by rfl) (by
   refine EE.step (Wk.own0 5 5000 3 51 (by simp -dsimp []) (by decide)) ?_
   refine EE.here ?_
   simp -dsimp []
 ) fun ρ σ hf => ?_
 refine (l_R05_insert_1 cx hn p c g11 hf).mono fun ee ρ σ x12 => ?_
 unfold ft at x12
 dsimp only at x12
 obtain ⟨rfl, x12⟩ := x12
 refine aF ?_
 refine a7 ?_
 refine bl (by rfl) (by rfl) x12 fun ρ σ hf => ?_
 simp only [Fits, az, aA, and_true] at hf
 obtain ⟨out1, j15, hm⟩ := bnd hm
 refine av [(5, .u (.one (.own 5000)))] [(5000, .row 3 51 (List.map Cell.row out1))] (by rfl) (by rfl) ?_ fun ρ σ hf => ?_
 ·replace hm := j15
  clear j15
  refine srs hn (by kernel_rfl) ?_
  simp -dsimp [hf]
  rcases am hm with ⟨c13, hm⟩ | ⟨c13, hm⟩
  ·refine ab (b := (aR done)) (by simp -dsimp) c13 ?_
   refine sr1 hn (by kernel_rfl) ?_
   obtain ⟨l, h14, hm⟩ := bnd hm
   obtain ⟨h14a, h14e⟩ := cP h14
   replace h14e := h14e.symm
   subst h14e
   try simp only [List.length_cons, List.length_nil, Nat.zero_add] at h14a
   simp -dsimp [hf, c13, h14a]
   refine a7 ?_
   cases hm
   refine EE.step (Wk.move 40 5000 (by decide) (.inl (by decide))) ?_
   refine EE.here ?_
   simp -dsimp
  ·refine aa (b := (aR done)) (by simp -dsimp) c13 ?_
   refine ae (a7 ?_)
   cases hm
   refine EE.here ?_
   simp -dsimp [hf, c13]
 ·clear j15
  simp only [Fits, az, aA, and_true] at hf
  refine srs hn (by kernel_rfl) ?_
  simp -dsimp [hf]
  refine ah ?_
  cases hm
  refine ⟨.inr rfl, ?_⟩
  refine EE.here ?_
  simp -dsimp [hf]
theorem c_R05_insert (p : List Cell) (c : Cell) (r : List Cell) (hm : et p c = some r) : PureCall Tryz.prog 107 [.u (.one (.d (.sl 3 (List.map Cell.row p)))), .u (.agg [.d (.int .i64 c.X), .d (.int .i64 c.Y), .d (.int .i64 c.S)])] (.u (.one (.d (.sl 3 (List.map Cell.row r))))) := (f_R05_insert p c r hm).pureW
end Go.Proofs.YtdjclgfbggfpaaaGreatDoor
