/-
  That the code does what the functions say (made by cc.py).
-/
import Derived.Test.YtdjclgfbggfpaaaGreatDoorMd1
import Derived.Test.YtdjclgfbggfpaaaGreatDoorTb
import Derived.Test.YtdjclgfbggfpaaaGreatDoorWa1
import Derived.Test.YtdjclgfbggfpaaaGreatDoorWa4
import Derived.Test.YtdjclgfbggfpaaaGreatDoorWa5
import Derived.Test.YtdjclgfbggfpaaaGreatDoorWa6
namespace Go.Proofs.YtdjclgfbggfpaaaGreatDoor
open Go.AM Go.Proofs
attribute [-simp] qlookup cr dw Ob.wipe Ob.ren Ob.frz1
def fg (cx : Cx) (_t : Tree) (tt : Bool ⊕ Unit) (ee : Exit) (ρ : Env) (σ : Sto) : Prop := match tt with
 | .inl r => ee = .ret ∧ EE cx (fun ρ σ => ∃ v, resV tb ρ σ Tryz.f27.results.toList = some v ∧ (v.frz σ).free = true ∧ (v.frz σ).wk (.u (.one (.d (.bool r))))) ρ σ
 | .inr _u => ee = .exit 0 ∧ EE cx (b7 [] []) ρ σ
theorem l_L12_Few_1 (cx : Cx) (hn : cx.n = 29) (t : Tree) {fu : Nat} {stt : Int} {tt : Bool ⊕ Unit} (hh : ar (fX t) fu stt = some tt) {ρ : Env} {σ : Sto}
  (hE : bn (fun a1 : Int => [(1, .u (.one (.box 1 0))), (16, .u (.one (.d (.int .i64 (ak t.Nodes))))), (17, .u (.one (.d (.int .i64 a1))))]) (fun _a1 : Int => [(1, .box [.d (.int .i64 t.States), .d (.sl 2 (List.map Point.row t.Hood)), .d (.sl 2 (List.map Node.row t.Nodes))])]) stt ρ σ) : Swp Tryz.prog cx (.loop (ck [1, 1, 0, 1, 0, 0] (aX Tryz.f27))) ρ σ (fg cx t tt) := by
 refine bq hE hh (fg cx t) (fun _ => by rfl) (fun _ => by rfl) ?_
 rintro a1 r hm ρ σ hf
 simp only [Fits, az, aA, and_true] at hf
 unfold fX at hm
 dsimp only at hm
 refine srs hn (by kernel_rfl) ?_
 simp -dsimp [hf]
 refine ai ?_
 rcases am hm with ⟨c3, hm⟩ | ⟨c3, hm⟩
 ·refine ab (b := (ltB a1 (ak t.Nodes))) (by simp -dsimp) c3 ?_
  refine ae ?_
  refine a7 ?_
  refine ai ?_
  refine ap ?_
  refine srs hn (by kernel_rfl) ?_
  simp -dsimp [hf, c3]
  refine srs hn (by kernel_rfl) ?_
  obtain ⟨x, h4, hm⟩ := bnd hm
  simp -dsimp [hf, h4]
  rcases am hm with ⟨c5, hm⟩ | ⟨c5, hm⟩
  ·refine ab (b := (gtB (ak x.Next) 20)) (by simp -dsimp) c5 ?_
   refine srs hn (by kernel_rfl) ?_
   simp -dsimp [c5]
   refine ah ?_
   refine aN ?_
   refine aj ?_
   cases hm
   refine au nofun ?_
   unfold fg
   dsimp only
   refine ⟨rfl, ?_⟩
   refine EE.here ?_
   simp -dsimp [Tryz.results27]
  ·refine aa (b := (gtB (ak x.Next) 20)) (by simp -dsimp) c5 ?_
   refine ae ?_
   refine aY ?_
   refine a7 ?_
   refine sr1 hn (by kernel_rfl) ?_
   simp -dsimp [hf, c5]
   cases hm
   refine aJ ?_
   refine EE.here ?_
   simp -dsimp [hf]
 ·refine aa (b := (ltB a1 (ak t.Nodes))) (by simp -dsimp) c3 ?_
  refine aF ?_
  refine aj ?_
  cases hm
  refine au nofun ?_
  unfold fg
  dsimp only
  refine ⟨rfl, ?_⟩
  refine EE.here ?_
  simp -dsimp [c3]
theorem f_L12_Few (t : Tree) (r : Bool) (hm : im t = some r) : PFn Tryz.prog 27 [.u (.agg [.d (.int .i64 t.States), .d (.sl 2 (List.map Point.row t.Hood)), .d (.sl 2 (List.map Node.row t.Nodes))])] (fun v => v.wk (.u (.one (.d (.bool r))))) := by
 refine bw Tryz.func27 Tryz.ntmps27 rfl (by kernel_rfl) (by simp) fun cx hn => ?_
 unfold im at hm
 refine srs hn (by kernel_rfl) ?_
 simp -dsimp []
 refine ai ?_
 obtain ⟨a, j8, hm⟩ := bnd hm
 refine av [(1, .u (.one (.box 1 0))), (13, .u (.one (.d (.bool a))))] [(1, .box [.d (.int .i64 t.States), .d (.sl 2 (List.map Point.row t.Hood)), .d (.sl 2 (List.map Node.row t.Nodes))])] (by rfl) (by rfl) ?_ fun ρ σ hf => ?_
 ·replace hm := j8
  clear j8
  refine sr1 hn (by kernel_rfl) ?_
  rcases am hm with ⟨c1, hm⟩ | ⟨c1, hm⟩
  ·simp -dsimp [c1]
   refine a7 ?_
   cases hm
   refine EE.here ?_
   simp -dsimp
  ·simp -dsimp [c1]
   refine a7 ?_
   cases hm
   refine EE.here ?_
   simp -dsimp
 ·clear j8
  simp only [Fits, az, aA, and_true] at hf
  rcases am hm with ⟨c2, hm⟩ | ⟨c2, hm⟩
  ·refine ab (b := a) (by simp -dsimp [hf]) c2 ?_
   refine srs hn (by kernel_rfl) ?_
   simp -dsimp
   refine ah ?_
   refine aj ?_
   cases hm
   refine ⟨.inr rfl, ?_⟩
   refine EE.here ?_
   simp -dsimp
  ·refine aa (b := a) (by simp -dsimp [hf]) c2 ?_
   refine ae ?_
   refine a7 ?_
   refine ai ?_
   refine srs hn (by kernel_rfl) ?_
   simp -dsimp [hf]
   refine ap ?_
   obtain ⟨o_, g6, hm⟩ := bnd hm
   refine aW [(1, .u (.one (.box 1 0))), (16, .u (.one (.d (.int .i64 (ak t.Nodes))))), (17, .u (.one (.d (.int .i64 0))))] [(1, .box [.d (.int .i64 t.States), .d (.sl 2 (List.map Point.row t.Hood)), .d (.sl 2 (List.map Node.row t.Nodes))])] (by rfl) (by rfl) (by
     refine EE.here ?_
     simp -dsimp [hf]
   ) fun ρ σ hf => ?_
   refine (l_L12_Few_1 cx hn t g6 hf).mono fun ee ρ σ x7 => ?_
   rcases o_ with r | _u
   ·unfold fg at x7
    dsimp only at x7
    obtain ⟨rfl, x7⟩ := x7
    refine aN ?_
    refine aj ?_
    cases hm
    exact ⟨.inr rfl, x7⟩
   ·unfold fg at x7
    dsimp only at x7
    obtain ⟨rfl, x7⟩ := x7
    refine aD ?_
    refine a7 ?_
    refine bl (by rfl) (by rfl) x7 fun ρ σ hf => ?_
    simp only [Fits, az, aA, and_true] at hf
    refine srs hn (by kernel_rfl) ?_
    simp -dsimp
    refine ah ?_
    cases hm
    refine ⟨.inr rfl, ?_⟩
    refine EE.here ?_
    simp -dsimp
theorem c_L12_Few (t : Tree) (r : Bool) (hm : im t = some r) : PureCall Tryz.prog 27 [.u (.agg [.d (.int .i64 t.States), .d (.sl 2 (List.map Point.row t.Hood)), .d (.sl 2 (List.map Node.row t.Nodes))])] (.u (.one (.d (.bool r)))) := (f_L12_Few t r hm).pureW
theorem f_L34_small (t : Tree) (p : List Cell) (r : Bool) (hm : ci t p = some r) : PFn Tryz.prog 10 [.u (.agg [.d (.int .i64 t.States), .d (.sl 2 (List.map Point.row t.Hood)), .d (.sl 2 (List.map Node.row t.Nodes))]), .u (.one (.d (.sl 3 (List.map Cell.row p))))] (fun v => v.wk (.u (.one (.d (.bool r))))) := by
 refine bw Tryz.func10 Tryz.ntmps10 rfl (by kernel_rfl) (by simp) fun cx hn => ?_
 unfold ci at hm
 refine srs hn (by kernel_rfl) ?_
 simp -dsimp []
 obtain ⟨a, j4, hm⟩ := bnd hm
 refine av [(4, .u (.one (.d (.bool a))))] [] (by rfl) (by rfl) ?_ fun ρ σ hf => ?_
 ·replace hm := j4
  clear j4
  refine sr1 hn (by kernel_rfl) ?_
  obtain ⟨y, h1, hm⟩ := bnd hm
  simp -dsimp []
  refine ag (c_L12_Few t y h1) (by rw [hn]; decide) ?_
  rcases am hm with ⟨c2, hm⟩ | ⟨c2, hm⟩
  ·rcases am hm with ⟨c3, hm⟩ | ⟨c3, hm⟩
   ·simp -dsimp [c2, c3]
    refine a7 ?_
    cases hm
    refine EE.here ?_
    simp -dsimp
   ·simp -dsimp [c2, c3]
    refine a7 ?_
    cases hm
    refine EE.here ?_
    simp -dsimp
  ·simp -dsimp [c2]
   refine a7 ?_
   cases hm
   refine EE.here ?_
   simp -dsimp
 ·clear j4
  simp only [Fits, az, aA, and_true] at hf
  refine ah ?_
  cases hm
  refine ⟨.inr rfl, ?_⟩
  refine EE.here ?_
  simp -dsimp [hf]
theorem ff (t : Tree) (p : List Cell) (r : Bool) (hm : ci t p = some r) : PureCall Tryz.prog 10 [.u (.agg [.d (.int .i64 t.States), .d (.sl 2 (List.map Point.row t.Hood)), .d (.sl 2 (List.map Node.row t.Nodes))]), .u (.one (.d (.sl 3 (List.map Cell.row p))))] (.u (.one (.d (.bool r)))) := (f_L34_small t p r hm).pureW
section
attribute [-simp] List.map_set List.set_set
end
end Go.Proofs.YtdjclgfbggfpaaaGreatDoor
