/-
  That the code does what the functions say (made by cc.py).
-/
import Derived.Test.YtdjclgfbggfpaaaGreatDoorMd1
import Derived.Test.YtdjclgfbggfpaaaGreatDoorTb
import Derived.Test.YtdjclgfbggfpaaaGreatDoorWa1
import Derived.Test.YtdjclgfbggfpaaaGreatDoorWa4
import Derived.Test.YtdjclgfbggfpaaaGreatDoorWa5
import Derived.Test.YtdjclgfbggfpaaaGreatDoorWa6
namespace Go.Proofs.YtdjclgfbggfpaaaGreatDoor
open Go.AM Go.Proofs
attribute [-simp] qlookup bK cL Ob.wipe Ob.ren Ob.frz1
def er (cx : Cx) (_t : Tree) (tt : Bool ⊕ Unit) (ee : Exit) (ρ : Env) (σ : Sto) : Prop := match tt with
 | .inl r => ee = .ret ∧ EE cx (fun ρ σ => ∃ v, resV tb ρ σ Tryz.f27.results.toList = some v ∧ (v.frz σ).free = true ∧ (v.frz σ).wk (.u (.one (.d (.bool r))))) ρ σ
 | .inr _u => ee = .exit 0 ∧ EE cx (aX [] []) ρ σ
theorem l_L12_Few_1 (cx : Cx) (hn : cx.n = 29) (t : Tree) {fu : Nat} {stt : Int} {tt : Bool ⊕ Unit} (hh : ap (fc t) fu stt = some tt) {ρ : Env} {σ : Sto}
  (hE : be (fun a1 : Int => [(1, .u (.one (.box 1 0))), (16, .u (.one (.d (.int .i64 (aj t.Nodes))))), (17, .u (.one (.d (.int .i64 a1))))]) (fun _a1 : Int => [(1, .box [.d (.int .i64 t.States), .d (.sl 2 (List.map Point.row t.Hood)), .d (.sl 2 (List.map Node.row t.Nodes))])]) stt ρ σ) : Swp Tryz.prog cx (.loop (bO [1, 1, 0, 1, 0, 0] (aS Tryz.f27))) ρ σ (er cx t tt) := by
 refine bg hE hh (er cx t) (fun _ => by rfl) (fun _ => by rfl) ?_
 rintro a1 r hm ρ σ hf
 simp only [Fits, aw, av, and_true] at hf
 unfold fc at hm
 dsimp only at hm
 refine srs hn (by kernel_rfl) ?_
 simp -dsimp [hf]
 refine ah ?_
 rcases ak hm with ⟨c3, hm⟩ | ⟨c3, hm⟩
 ·refine aa (b := (ltB a1 (aj t.Nodes))) (by simp -dsimp) c3 ?_
  refine ab ?_
  refine a7 ?_
  refine ah ?_
  refine am ?_
  refine srs hn (by kernel_rfl) ?_
  simp -dsimp [hf, c3]
  refine srs hn (by kernel_rfl) ?_
  obtain ⟨x, h4, hm⟩ := bnd hm
  simp -dsimp [hf, h4]
  rcases ak hm with ⟨c5, hm⟩ | ⟨c5, hm⟩
  ·refine aa (b := (gtB (aj x.Next) 20)) (by simp -dsimp) c5 ?_
   refine srs hn (by kernel_rfl) ?_
   simp -dsimp [c5]
   refine ag ?_
   refine aL ?_
   refine ai ?_
   cases hm
   refine ar nofun ?_
   unfold er
   dsimp only
   refine ⟨rfl, ?_⟩
   refine EE.here ?_
   simp -dsimp [Tryz.results27]
  ·refine a8 (b := (gtB (aj x.Next) 20)) (by simp -dsimp) c5 ?_
   refine ab ?_
   refine aU ?_
   refine a7 ?_
   refine sr1 hn (by kernel_rfl) ?_
   simp -dsimp [hf, c5]
   cases hm
   refine aH ?_
   refine EE.here ?_
   simp -dsimp [hf]
 ·refine a8 (b := (ltB a1 (aj t.Nodes))) (by simp -dsimp) c3 ?_
  refine aC ?_
  refine ai ?_
  cases hm
  refine ar nofun ?_
  unfold er
  dsimp only
  refine ⟨rfl, ?_⟩
  refine EE.here ?_
  simp -dsimp [c3]
theorem f_L12_Few (t : Tree) (r : Bool) (hm : ga t = some r) : PFn Tryz.prog 27 [.u (.agg [.d (.int .i64 t.States), .d (.sl 2 (List.map Point.row t.Hood)), .d (.sl 2 (List.map Node.row t.Nodes))])] (fun v => v.wk (.u (.one (.d (.bool r))))) := by
 refine aQ az _ Tryz.func27 rfl (by kernel_rfl) (by simp [Tryz.ntmps27]) fun cx hn => ?_
 replace hn : cx.n = 29 := hn.trans Tryz.ntmps27
 unfold ga at hm
 refine srs hn (by kernel_rfl) ?_
 simp -dsimp []
 refine ah ?_
 obtain ⟨a, j8, hm⟩ := bnd hm
 refine au [(1, .u (.one (.box 1 0))), (13, .u (.one (.d (.bool a))))] [(1, .box [.d (.int .i64 t.States), .d (.sl 2 (List.map Point.row t.Hood)), .d (.sl 2 (List.map Node.row t.Nodes))])] (by rfl) (by rfl) ?_ fun ρ σ hf => ?_
 ·replace hm := j8
  clear j8
  refine sr1 hn (by kernel_rfl) ?_
  rcases ak hm with ⟨c1, hm⟩ | ⟨c1, hm⟩
  ·simp -dsimp [c1]
   refine a7 ?_
   cases hm
   refine EE.here ?_
   simp -dsimp
  ·simp -dsimp [c1]
   refine a7 ?_
   cases hm
   refine EE.here ?_
   simp -dsimp
 ·clear j8
  simp only [Fits, aw, av, and_true] at hf
  rcases ak hm with ⟨c2, hm⟩ | ⟨c2, hm⟩
  ·refine aa (b := a) (by simp -dsimp [hf]) c2 ?_
   refine srs hn (by kernel_rfl) ?_
   simp -dsimp
   refine ag ?_
   refine ai ?_
   cases hm
   refine ⟨.inr rfl, ?_⟩
   refine EE.here ?_
   simp -dsimp
  ·refine a8 (b := a) (by simp -dsimp [hf]) c2 ?_
   refine ab ?_
   refine a7 ?_
   refine ah ?_
   refine srs hn (by kernel_rfl) ?_
   simp -dsimp [hf]
   refine am ?_
   obtain ⟨o_, g6, hm⟩ := bnd hm
   refine aT [(1, .u (.one (.box 1 0))), (16, .u (.one (.d (.int .i64 (aj t.Nodes))))), (17, .u (.one (.d (.int .i64 0))))] [(1, .box [.d (.int .i64 t.States), .d (.sl 2 (List.map Point.row t.Hood)), .d (.sl 2 (List.map Node.row t.Nodes))])] (by rfl) (by rfl) (by
     refine EE.here ?_
     simp -dsimp [hf]
   ) fun ρ σ hf => ?_
   refine (l_L12_Few_1 cx hn t g6 hf).mono fun ee ρ σ x7 => ?_
   rcases o_ with r | _u
   ·unfold er at x7
    dsimp only at x7
    obtain ⟨rfl, x7⟩ := x7
    refine aL ?_
    refine ai ?_
    cases hm
    exact ⟨.inr rfl, x7⟩
   ·unfold er at x7
    dsimp only at x7
    obtain ⟨rfl, x7⟩ := x7
    refine aD ?_
    refine a7 ?_
    refine bc (by rfl) (by rfl) x7 fun ρ σ hf => ?_
    simp only [Fits, aw, av, and_true] at hf
    refine srs hn (by kernel_rfl) ?_
    simp -dsimp
    refine ag ?_
    cases hm
    refine ⟨.inr rfl, ?_⟩
    refine EE.here ?_
    simp -dsimp
theorem c_L12_Few (t : Tree) (r : Bool) (hm : ga t = some r) : PureCall Tryz.prog 27 [.u (.agg [.d (.int .i64 t.States), .d (.sl 2 (List.map Point.row t.Hood)), .d (.sl 2 (List.map Node.row t.Nodes))])] (.u (.one (.d (.bool r)))) := (f_L12_Few t r hm).pureW
theorem f_L34_small (t : Tree) (p : List Cell) (r : Bool) (hm : bP t p = some r) : PFn Tryz.prog 10 [.u (.agg [.d (.int .i64 t.States), .d (.sl 2 (List.map Point.row t.Hood)), .d (.sl 2 (List.map Node.row t.Nodes))]), .u (.one (.d (.sl 3 (List.map Cell.row p))))] (fun v => v.wk (.u (.one (.d (.bool r))))) := by
 refine aQ az _ Tryz.func10 rfl (by kernel_rfl) (by simp [Tryz.ntmps10]) fun cx hn => ?_
 replace hn : cx.n = 18 := hn.trans Tryz.ntmps10
 unfold bP at hm
 refine srs hn (by kernel_rfl) ?_
 simp -dsimp []
 obtain ⟨a, j4, hm⟩ := bnd hm
 refine au [(4, .u (.one (.d (.bool a))))] [] (by rfl) (by rfl) ?_ fun ρ σ hf => ?_
 ·replace hm := j4
  clear j4
  refine sr1 hn (by kernel_rfl) ?_
  obtain ⟨y, h1, hm⟩ := bnd hm
  simp -dsimp []
  refine ae (c_L12_Few t y h1) (by rw [hn]; decide) ?_
  rcases ak hm with ⟨c2, hm⟩ | ⟨c2, hm⟩
  ·rcases ak hm with ⟨c3, hm⟩ | ⟨c3, hm⟩
   ·simp -dsimp [c2, c3]
    refine a7 ?_
    cases hm
    refine EE.here ?_
    simp -dsimp
   ·simp -dsimp [c2, c3]
    refine a7 ?_
    cases hm
    refine EE.here ?_
    simp -dsimp
  ·simp -dsimp [c2]
   refine a7 ?_
   cases hm
   refine EE.here ?_
   simp -dsimp
 ·clear j4
  simp only [Fits, aw, av, and_true] at hf
  refine ag ?_
  cases hm
  refine ⟨.inr rfl, ?_⟩
  refine EE.here ?_
  simp -dsimp [hf]
theorem eD (t : Tree) (p : List Cell) (r : Bool) (hm : bP t p = some r) : PureCall Tryz.prog 10 [.u (.agg [.d (.int .i64 t.States), .d (.sl 2 (List.map Point.row t.Hood)), .d (.sl 2 (List.map Node.row t.Nodes))]), .u (.one (.d (.sl 3 (List.map Cell.row p))))] (.u (.one (.d (.bool r)))) := (f_L34_small t p r hm).pureW
theorem n_slices_Clone_api_Pattern_api_Cell (l : List Cell) (r : List Cell) (hm : aZ l = some r) : NewFn Tryz.prog 38 [.u (.one (.d (.sl 3 (List.map Cell.row l))))] (fun o => o = .row 3 51 (List.map Cell.row r)) := by
 refine new_S az _ Tryz.func38 rfl (by kernel_rfl) (by simp [Tryz.ntmps38]) fun cx hn => ?_
 replace hn : cx.n = 8 := hn.trans Tryz.ntmps38
 have ha := (cz hm).1
 have hr : r = l := (cz hm).2
 clear hm
 subst hr
 simp only [List.length_nil, Nat.zero_add] at ha
 refine srs hn (by kernel_rfl) ?_
 simp -dsimp []
 refine ah ?_
 refine srs hn (by kernel_rfl) ?_
 cases r with
 | nil =>
  simp -dsimp []
  refine ⟨?_, ?_⟩
  ·refine aa (b := true) (by simp -dsimp []) rfl ?_
   refine srs hn (by kernel_rfl) ?_
   simp -dsimp []
   refine ag ?_
   refine ai ?_
   refine ⟨.inr rfl, ?_⟩; simp -dsimp
  ·refine a8 (b := false) (by simp -dsimp []) rfl ?_
   refine ab ?_
   refine a7 ?_
   refine srs hn (by kernel_rfl) ?_
   simp -dsimp []
   refine ag ?_
   refine ⟨.inr rfl, ?_⟩; simp -dsimp
 | cons x xs =>
  simp -dsimp []
  refine a8 (b := false) (by simp -dsimp []) rfl ?_
  refine ab ?_
  refine a7 ?_
  refine srs hn (by kernel_rfl) ?_
  simp only [List.length_cons] at ha
  simp -dsimp [ha]
  refine ag ?_
  refine ⟨.inr rfl, ?_⟩; simp -dsimp
section
attribute [-simp] List.map_set List.set_set
def F_pattern_Shift_1 (cx : Cx) (_dx : Int) (_dy : Int) (_y1 : List Cell) (tt : ((List Cell) × Int) ⊕ (List Cell)) (ee : Exit) (ρ : Env) (σ : Sto) : Prop := match tt with
 | .inl r => ee = .ret ∧ EE cx (fun ρ σ => ∃ v, resV tb ρ σ Tryz.f24.results.toList = some v ∧ (v.frz σ).free = true ∧ (v.frz σ).wk (.tup [.one (.d (.sl 3 (List.map Cell.row r.1))), .one (.d (.int .i64 r.2))])) ρ σ
 | .inr out => ee = .exit 0 ∧ EE cx (aX [(8, .u (.one (.own 24)))] [(24, .row 3 51 (List.map Cell.row out))]) ρ σ
theorem l_pattern_Shift_1 (cx : Cx) (hn : cx.n = 57) (dx : Int) (dy : Int) (y1 : List Cell) {fu : Nat} {stt : Int × (List Cell)} {tt : ((List Cell) × Int) ⊕ (List Cell)} (hh : ap (ba dx dy y1) fu stt = some tt) {ρ : Env} {σ : Sto}
  (hE : be (fun stt : Int × (List Cell) => match stt with | (a1, _out) => [(1, .u (.one (.d (.int .i64 dx)))), (2, .u (.one (.d (.int .i64 dy)))), (8, .u (.one (.own 24))), (26, .u (.one (.d (.int .i64 (aj y1))))), (27, .u (.one (.d (.int .i64 a1))))]) (fun stt : Int × (List Cell) => match stt with | (_a1, out) => [(24, .row 3 51 (List.map Cell.row out))]) stt ρ σ) : Swp Tryz.prog cx (.loop (bO [1, 1, 1, 1, 0, 1, 0, 0] (aS Tryz.f24))) ρ σ (F_pattern_Shift_1 cx dx dy y1 tt) := by
 refine bg hE hh (F_pattern_Shift_1 cx dx dy y1) (fun _ => by rfl) (fun _ => by rfl) ?_
 rintro ⟨a1, out⟩ r hm ρ σ hf
 simp only [Fits, aw, av, and_true] at hf
 unfold ba at hm
 dsimp only at hm
 refine srs hn (by kernel_rfl) ?_
 simp -dsimp [hf]
 refine ah ?_
 rcases ak hm with ⟨c6, hm⟩ | ⟨c6, hm⟩
 ·refine aa (b := (ltB a1 (aj y1))) (by simp -dsimp) c6 ?_
  refine ab ?_
  refine a7 ?_
  refine ah ?_
  refine am ?_
  refine srs hn (by kernel_rfl) ?_
  simp -dsimp [hf, c6]
  refine srs hn (by kernel_rfl) ?_
  obtain ⟨x, h7, hm⟩ := bnd hm
  simp -dsimp [hf, h7, idx_get h7, Cell.rset out a1.toNat (aM .i64 x.X dx) x.Y x.S]
  refine srs hn (by kernel_rfl) ?_
  obtain ⟨x1, h8, hm⟩ := bnd hm
  simp -dsimp [hf, h8, idx_get h8, Cell.rset (out.set a1.toNat (⟨(aM .i64 x.X dx), x.Y, x.S⟩ : Cell)) a1.toNat x1.X (aM .i64 x1.Y dy) x1.S]
  refine srs hn (by kernel_rfl) ?_
  obtain ⟨x2, h9, hm⟩ := bnd hm
  obtain ⟨y2, h10, hm⟩ := bnd hm
  simp -dsimp [hf, h9, idx_get h9]
  refine ae (cY x2 y2 h10) (by rw [hn]; decide) ?_
  obtain ⟨y3, h11, hm⟩ := bnd hm
  simp -dsimp
  refine ae (eQ y2 y3 h11) (by rw [hn]; decide) ?_
  simp -dsimp
  rcases ak hm with ⟨c12, hm⟩ | ⟨c12, hm⟩
  ·refine aa (b := (aN y3)) (by simp -dsimp) c12 ?_
   refine srs hn (by kernel_rfl) ?_
   simp -dsimp [c12]
   refine ag ?_
   refine aL ?_
   refine ai ?_
   cases hm
   refine ar nofun ?_
   unfold F_pattern_Shift_1
   dsimp only
   refine ⟨rfl, ?_⟩
   refine EE.here ?_
   simp -dsimp [Tryz.results24]
  ·refine a8 (b := (aN y3)) (by simp -dsimp) c12 ?_
   refine ab ?_
   refine aU ?_
   refine a7 ?_
   refine sr1 hn (by kernel_rfl) ?_
   simp -dsimp [hf, c12]
   cases hm
   refine aH ?_
   refine EE.here ?_
   simp -dsimp [hf]
 ·refine a8 (b := (ltB a1 (aj y1))) (by simp -dsimp) c6 ?_
  refine aC ?_
  refine ai ?_
  cases hm
  refine ar nofun ?_
  unfold F_pattern_Shift_1
  dsimp only
  refine ⟨rfl, ?_⟩
  refine EE.here ?_
  simp -dsimp [hf, c6]
theorem f_pattern_Shift (p : List Cell) (dx : Int) (dy : Int) (r : (List Cell) × Int) (hm : bl p dx dy = some r) : PFn Tryz.prog 24 [.u (.one (.d (.sl 3 (List.map Cell.row p)))), .u (.one (.d (.int .i64 dx))), .u (.one (.d (.int .i64 dy)))] (fun v => v.wk (.tup [.one (.d (.sl 3 (List.map Cell.row r.1))), .one (.d (.int .i64 r.2))])) := by
 refine aQ az _ Tryz.func24 rfl (by kernel_rfl) (by simp [Tryz.ntmps24]) fun cx hn => ?_
 replace hn : cx.n = 57 := hn.trans Tryz.ntmps24
 unfold bl at hm
 refine srs hn (by kernel_rfl) ?_
 simp -dsimp []
 refine ah ?_
 refine srs hn (by kernel_rfl) ?_
 obtain ⟨y, h1, hm⟩ := bnd hm
 simp -dsimp []
 refine ae (c_pattern_Right p y h1) (by rw [hn]; decide) ?_
 simp -dsimp
 rcases ak hm with ⟨c2, hm⟩ | ⟨c2, hm⟩
 ·refine aa (b := (aN y)) (by simp -dsimp) c2 ?_
  refine srs hn (by kernel_rfl) ?_
  simp -dsimp [c2]
  refine ag ?_
  refine ai ?_
  cases hm
  refine ⟨.inr rfl, ?_⟩
  refine EE.here ?_
  simp -dsimp
 ·refine a8 (b := (aN y)) (by simp -dsimp) c2 ?_
  refine ab ?_
  refine a7 ?_
  refine ah ?_
  obtain ⟨a, j15, hm⟩ := bnd hm
  refine au [(0, .u (.one (.d (.sl 3 (List.map Cell.row p))))), (1, .u (.one (.d (.int .i64 dx)))), (2, .u (.one (.d (.int .i64 dy)))), (22, .u (.one (.d (.bool a))))] [] (by rfl) (by rfl) ?_ fun ρ σ hf => ?_
  ·replace hm := j15
   clear j15
   refine sr1 hn (by kernel_rfl) ?_
   rcases ak hm with ⟨c3, hm⟩ | ⟨c3, hm⟩
   ·simp -dsimp [c2, c3]
    refine a7 ?_
    cases hm
    refine EE.here ?_
    simp -dsimp
   ·simp -dsimp [c2, c3]
    refine a7 ?_
    cases hm
    refine EE.here ?_
    simp -dsimp
  ·clear j15
   simp only [Fits, aw, av, and_true] at hf
   rcases ak hm with ⟨c4, hm⟩ | ⟨c4, hm⟩
   ·refine aa (b := a) (by simp -dsimp [hf]) c4 ?_
    refine srs hn (by kernel_rfl) ?_
    simp -dsimp
    refine ag ?_
    refine ai ?_
    cases hm
    refine ⟨.inr rfl, ?_⟩
    refine EE.here ?_
    simp -dsimp
   ·refine a8 (b := a) (by simp -dsimp [hf]) c4 ?_
    refine ab ?_
    refine a7 ?_
    refine srs hn (by kernel_rfl) ?_
    obtain ⟨y1, h5, hm⟩ := bnd hm
    simp -dsimp [hf]
    refine callL_new (n_slices_Clone_api_Pattern_api_Cell p y1 h5) (by rw [hn]; decide) (by decide) ?_
    simp -dsimp
    refine ah ?_
    refine srs hn (by kernel_rfl) ?_
    simp -dsimp
    refine am ?_
    obtain ⟨o_, g13, hm⟩ := bnd hm
    refine aT [(1, .u (.one (.d (.int .i64 dx)))), (2, .u (.one (.d (.int .i64 dy)))), (8, .u (.one (.own 24))), (26, .u (.one (.d (.int .i64 (aj y1))))), (27, .u (.one (.d (.int .i64 0))))] [(24, .row 3 51 (List.map Cell.row y1))] (by rfl) (by rfl) (by
      refine EE.here ?_
      simp -dsimp [hf]
    ) fun ρ σ hf => ?_
    refine (l_pattern_Shift_1 cx hn dx dy y1 g13 hf).mono fun ee ρ σ x14 => ?_
    rcases o_ with r | out
    ·unfold F_pattern_Shift_1 at x14
     dsimp only at x14
     obtain ⟨rfl, x14⟩ := x14
     refine aL ?_
     refine ai ?_
     cases hm
     exact ⟨.inr rfl, x14⟩
    ·unfold F_pattern_Shift_1 at x14
     dsimp only at x14
     obtain ⟨rfl, x14⟩ := x14
     refine aD ?_
     refine a7 ?_
     refine bc (by rfl) (by rfl) x14 fun ρ σ hf => ?_
     simp only [Fits, aw, av, and_true] at hf
     refine srs hn (by kernel_rfl) ?_
     simp -dsimp [hf]
     refine ag ?_
     cases hm
     refine ⟨.inr rfl, ?_⟩
     refine EE.here ?_
     simp -dsimp [hf]
theorem c_pattern_Shift (p : List Cell) (dx : Int) (dy : Int) (r : (List Cell) × Int) (hm : bl p dx dy = some r) : PureCall Tryz.prog 24 [.u (.one (.d (.sl 3 (List.map Cell.row p)))), .u (.one (.d (.int .i64 dx))), .u (.one (.d (.int .i64 dy)))] (.tup [.one (.d (.sl 3 (List.map Cell.row r.1))), .one (.d (.int .i64 r.2))]) := (f_pattern_Shift p dx dy r hm).pureW
end
theorem f_R05_order (a : Int) (b : Int) (r : Int) (hm : bB a b = some r) : PFn Tryz.prog 64 [.u (.one (.d (.int .i64 a))), .u (.one (.d (.int .i64 b)))] (fun v => v.wk (.u (.one (.d (.int .i64 r))))) := by
 refine aQ az _ Tryz.func64 rfl (by kernel_rfl) (by simp [Tryz.ntmps64]) fun cx hn => ?_
 replace hn : cx.n = 11 := hn.trans Tryz.ntmps64
 unfold bB at hm
 refine srs hn (by kernel_rfl) ?_
 simp -dsimp []
 refine ah ?_
 refine srs hn (by kernel_rfl) ?_
 simp -dsimp []
 rcases ak hm with ⟨c1, hm⟩ | ⟨c1, hm⟩
 ·refine aa (b := (ltB a b)) (by simp -dsimp []) c1 ?_
  refine srs hn (by kernel_rfl) ?_
  simp -dsimp [c1]
  refine ag ?_
  refine ai ?_
  cases hm
  refine ⟨.inr rfl, ?_⟩
  refine EE.here ?_
  simp -dsimp
 ·refine a8 (b := (ltB a b)) (by simp -dsimp []) c1 ?_
  refine ab ?_
  refine a7 ?_
  refine ah ?_
  refine srs hn (by kernel_rfl) ?_
  simp -dsimp [c1]
  rcases ak hm with ⟨c2, hm⟩ | ⟨c2, hm⟩
  ·refine aa (b := (gtB a b)) (by simp -dsimp) c2 ?_
   refine srs hn (by kernel_rfl) ?_
   simp -dsimp [c2]
   refine ag ?_
   refine ai ?_
   cases hm
   refine ⟨.inr rfl, ?_⟩
   refine EE.here ?_
   simp -dsimp
  ·refine a8 (b := (gtB a b)) (by simp -dsimp) c2 ?_
   refine ab ?_
   refine a7 ?_
   refine srs hn (by kernel_rfl) ?_
   simp -dsimp [c2]
   refine ag ?_
   cases hm
   refine ⟨.inr rfl, ?_⟩
   refine EE.here ?_
   simp -dsimp
theorem c_R05_order (a : Int) (b : Int) (r : Int) (hm : bB a b = some r) : PureCall Tryz.prog 64 [.u (.one (.d (.int .i64 a))), .u (.one (.d (.int .i64 b)))] (.u (.one (.d (.int .i64 r)))) := (f_R05_order a b r hm).pureW
def F_R05_Compare_1 (cx : Cx) (a : List Cell) (b : List Cell) (tt : Int ⊕ Unit) (ee : Exit) (ρ : Env) (σ : Sto) : Prop := match tt with
 | .inl r => ee = .ret ∧ EE cx (fun ρ σ => ∃ v, resV tb ρ σ Tryz.f41.results.toList = some v ∧ (v.frz σ).free = true ∧ (v.frz σ).wk (.u (.one (.d (.int .i64 r))))) ρ σ
 | .inr _u => ee = .exit 0 ∧ EE cx (aX [(0, .u (.one (.d (.sl 3 (List.map Cell.row a))))), (1, .u (.one (.d (.sl 3 (List.map Cell.row b)))))] []) ρ σ
theorem l_R05_Compare_1 (cx : Cx) (hn : cx.n = 89) (a : List Cell) (b : List Cell) {fu : Nat} {stt : Int} {tt : Int ⊕ Unit} (hh : ap (bX a b) fu stt = some tt) {ρ : Env} {σ : Sto}
  (hE : be (fun i : Int => [(0, .u (.one (.d (.sl 3 (List.map Cell.row a))))), (1, .u (.one (.d (.sl 3 (List.map Cell.row b))))), (5, .u (.one (.d (.int .i64 i))))]) (fun _i : Int => []) stt ρ σ) : Swp Tryz.prog cx (.loop (bO [1, 0, 1, 0, 0] (aS Tryz.f41))) ρ σ (F_R05_Compare_1 cx a b tt) := by
 refine bg hE hh (F_R05_Compare_1 cx a b) (fun _ => by rfl) (fun _ => by rfl) ?_
 rintro i r hm ρ σ hf
 simp only [Fits, aw, av, and_true] at hf
 unfold bX at hm
 dsimp only at hm
 refine ah ?_
 obtain ⟨a1, j11, hm⟩ := bnd hm
 refine au [(0, .u (.one (.d (.sl 3 (List.map Cell.row a))))), (1, .u (.one (.d (.sl 3 (List.map Cell.row b))))), (5, .u (.one (.d (.int .i64 i)))), (15, .u (.one (.d (.bool a1))))] [] (by rfl) (by rfl) ?_ fun ρ σ hf => ?_
 ·replace hm := j11
  clear j11
  refine sr1 hn (by kernel_rfl) ?_
  rcases ak hm with ⟨c1, hm⟩ | ⟨c1, hm⟩
  ·simp -dsimp [hf, c1]
   refine a7 ?_
   cases hm
   refine EE.here ?_
   simp -dsimp [hf]
  ·simp -dsimp [hf, c1]
   refine a7 ?_
   cases hm
   refine EE.here ?_
   simp -dsimp [hf]
 ·clear j11
  simp only [Fits, aw, av, and_true] at hf
  rcases ak hm with ⟨c2, hm⟩ | ⟨c2, hm⟩
  ·refine aa (b := a1) (by simp -dsimp [hf]) c2 ?_
   refine ab ?_
   refine a7 ?_
   refine ah ?_
   refine am ?_
   refine ah ?_
   refine cJ az mixed (by rw [hn]; kernel_rfl) ?_
   obtain ⟨x, h3, hm⟩ := bnd hm
   obtain ⟨x1, h4, hm⟩ := bnd hm
   simp -dsimp [hf, h3, h4]
   rcases ak hm with ⟨c5, hm⟩ | ⟨c5, hm⟩
   ·refine aa (b := (neB x.Y x1.Y)) (by simp -dsimp) c5 ?_
    refine cJ az mixed (by rw [hn]; kernel_rfl) ?_
    obtain ⟨y, h6, hm⟩ := bnd hm
    simp -dsimp [hf, h3, h4, c5]
    refine aI (c_R05_order x.Y x1.Y y h6) ?_
    simp -dsimp
    refine ag ?_
    refine ai ?_
    refine aL ?_
    refine ai ?_
    cases hm
    refine ar nofun ?_
    unfold F_R05_Compare_1
    dsimp only
    refine ⟨rfl, ?_⟩
    refine EE.here ?_
    simp -dsimp [Tryz.results41]
   ·refine a8 (b := (neB x.Y x1.Y)) (by simp -dsimp) c5 ?_
    refine ab ?_
    refine a7 ?_
    refine ah ?_
    refine cJ az mixed (by rw [hn]; kernel_rfl) ?_
    simp -dsimp [hf, h3, h4, c5]
    rcases ak hm with ⟨c7, hm⟩ | ⟨c7, hm⟩
    ·refine aa (b := (neB x.X x1.X)) (by simp -dsimp) c7 ?_
     refine cJ az mixed (by rw [hn]; kernel_rfl) ?_
     obtain ⟨y, h8, hm⟩ := bnd hm
     simp -dsimp [hf, h3, h4, c7]
     refine aI (c_R05_order x.X x1.X y h8) ?_
     simp -dsimp
     refine ag ?_
     refine ai ?_
     refine aL ?_
     refine ai ?_
     cases hm
     refine ar nofun ?_
     unfold F_R05_Compare_1
     dsimp only
     refine ⟨rfl, ?_⟩
     refine EE.here ?_
     simp -dsimp [Tryz.results41]
    ·refine a8 (b := (neB x.X x1.X)) (by simp -dsimp) c7 ?_
     refine ab ?_
     refine a7 ?_
     refine cJ az mixed (by rw [hn]; kernel_rfl) ?_
     simp -dsimp [hf, h3, h4, c7]
     rcases ak hm with ⟨c9, hm⟩ | ⟨c9, hm⟩
     ·refine aa (b := (neB x.S x1.S)) (by simp -dsimp) c9 ?_
      refine cJ az mixed (by rw [hn]; kernel_rfl) ?_
      obtain ⟨y, h10, hm⟩ := bnd hm
      simp -dsimp [hf, h3, h4, c9]
      refine aI (c_R05_order x.S x1.S y h10) ?_
      simp -dsimp
      refine ag ?_
      refine aL ?_
      refine ai ?_
      cases hm
      refine ar nofun ?_
      unfold F_R05_Compare_1
      dsimp only
      refine ⟨rfl, ?_⟩
      refine EE.here ?_
      simp -dsimp [Tryz.results41]
     ·refine a8 (b := (neB x.S x1.S)) (by simp -dsimp) c9 ?_
      refine ab ?_
      refine aU ?_
      refine a7 ?_
      refine sr1 hn (by kernel_rfl) ?_
      simp -dsimp [hf, c9]
      cases hm
      refine aH ?_
      refine EE.here ?_
      simp -dsimp [hf]
  ·refine a8 (b := a1) (by simp -dsimp [hf]) c2 ?_
   refine aC ?_
   refine ai ?_
   cases hm
   refine ar nofun ?_
   unfold F_R05_Compare_1
   dsimp only
   refine ⟨rfl, ?_⟩
   refine EE.here ?_
   simp -dsimp [hf]
theorem f_R05_Compare (a : List Cell) (b : List Cell) (r : Int) (hm : dp a b = some r) : PFn Tryz.prog 41 [.u (.one (.d (.sl 3 (List.map Cell.row a)))), .u (.one (.d (.sl 3 (List.map Cell.row b))))] (fun v => v.wk (.u (.one (.d (.int .i64 r))))) := by
 refine aQ az _ Tryz.func41 rfl (by kernel_rfl) (by simp [Tryz.ntmps41]) fun cx hn => ?_
 replace hn : cx.n = 89 := hn.trans Tryz.ntmps41
 unfold dp at hm
 refine srs hn (by kernel_rfl) ?_
 simp -dsimp []
 refine ah ?_
 refine srs hn (by kernel_rfl) ?_
 simp -dsimp []
 refine am ?_
 obtain ⟨o_, g12, hm⟩ := bnd hm
 refine aT [(0, .u (.one (.d (.sl 3 (List.map Cell.row a))))), (1, .u (.one (.d (.sl 3 (List.map Cell.row b))))), (5, .u (.one (.d (.int .i64 0))))] [] (by rfl) (by rfl) (by
   refine EE.here ?_
   simp -dsimp []
 ) fun ρ σ hf => ?_
 refine (l_R05_Compare_1 cx hn a b g12 hf).mono fun ee ρ σ x13 => ?_
 rcases o_ with r | _u
 ·unfold F_R05_Compare_1 at x13
  dsimp only at x13
  obtain ⟨rfl, x13⟩ := x13
  refine aL ?_
  refine ai ?_
  cases hm
  exact ⟨.inr rfl, x13⟩
 ·unfold F_R05_Compare_1 at x13
  dsimp only at x13
  obtain ⟨rfl, x13⟩ := x13
  refine aD ?_
  refine a7 ?_
  refine bc (by rfl) (by rfl) x13 fun ρ σ hf => ?_
  simp only [Fits, aw, av, and_true] at hf
  refine srs hn (by kernel_rfl) ?_
  obtain ⟨y, h14, hm⟩ := bnd hm
  simp -dsimp [hf]
  refine ae (c_R05_order (aj a) (aj b) y h14) (by rw [hn]; decide) ?_
  simp -dsimp
  refine ag ?_
  cases hm
  refine ⟨.inr rfl, ?_⟩
  refine EE.here ?_
  simp -dsimp
theorem c_R05_Compare (a : List Cell) (b : List Cell) (r : Int) (hm : dp a b = some r) : PureCall Tryz.prog 41 [.u (.one (.d (.sl 3 (List.map Cell.row a)))), .u (.one (.d (.sl 3 (List.map Cell.row b))))] (.u (.one (.d (.int .i64 r)))) := (f_R05_Compare a b r hm).pureW
theorem f_R05_Same (a : List Cell) (b : List Cell) (r : Bool) (hm : dC a b = some r) : PFn Tryz.prog 25 [.u (.one (.d (.sl 3 (List.map Cell.row a)))), .u (.one (.d (.sl 3 (List.map Cell.row b))))] (fun v => v.wk (.u (.one (.d (.bool r))))) := by
 refine aQ az _ Tryz.func25 rfl (by kernel_rfl) (by simp [Tryz.ntmps25]) fun cx hn => ?_
 replace hn : cx.n = 9 := hn.trans Tryz.ntmps25
 unfold dC at hm
 refine srs hn (by kernel_rfl) ?_
 simp -dsimp []
 refine srs hn (by kernel_rfl) ?_
 obtain ⟨y, h1, hm⟩ := bnd hm
 simp -dsimp []
 refine ae (c_R05_Compare a b y h1) (by rw [hn]; decide) ?_
 simp -dsimp
 refine ag ?_
 cases hm
 refine ⟨.inr rfl, ?_⟩
 refine EE.here ?_
 simp -dsimp
theorem c_R05_Same (a : List Cell) (b : List Cell) (r : Bool) (hm : dC a b = some r) : PureCall Tryz.prog 25 [.u (.one (.d (.sl 3 (List.map Cell.row a)))), .u (.one (.d (.sl 3 (List.map Cell.row b))))] (.u (.one (.d (.bool r)))) := (f_R05_Same a b r hm).pureW
def bo (cx : Cx) (t : Tree) (p : List Cell) (n : Int) (y1 : Motion × Bool × Int) (tt : Bool ⊕ Unit) (ee : Exit) (ρ : Env) (σ : Sto) : Prop := match tt with
 | .inl r => ee = .ret ∧ EE cx (fun ρ σ => ∃ v, resV tb ρ σ Tryz.f8.results.toList = some v ∧ (v.frz σ).free = true ∧ (v.frz σ).wk (.u (.one (.d (.bool r))))) ρ σ
 | .inr _u => ee = .exit 0 ∧ EE cx (aX [(1, .u (.one (.d (.sl 3 (List.map Cell.row p))))), (2, .u (.one (.d (.int .u8 n)))), (3, .u (.one (.box 3 0))), (7, .u (.one (.box 7 0)))] [(3, .box [.d (.int .i64 t.States), .d (.sl 2 (List.map Point.row t.Hood)), .d (.sl 2 (List.map Node.row t.Nodes))]), (7, .box [.d (.int .i64 y1.1.Period), .d (.int .i64 y1.1.DX), .d (.int .i64 y1.1.DY)])]) ρ σ
theorem l_L34_PeriodTrue_1 (cx : Cx) (hn : cx.n = 152) (t : Tree) (p : List Cell) (n : Int) (y1 : Motion × Bool × Int) {fu : Nat} {stt : Int} {tt : Bool ⊕ Unit} (hh : ap (bp t p n y1) fu stt = some tt) {ρ : Env} {σ : Sto}
  (hE : be (fun g : Int => [(1, .u (.one (.d (.sl 3 (List.map Cell.row p))))), (2, .u (.one (.d (.int .u8 n)))), (3, .u (.one (.box 3 0))), (7, .u (.one (.box 7 0))), (10, .u (.one (.d (.int .i64 g))))]) (fun _g : Int => [(3, .box [.d (.int .i64 t.States), .d (.sl 2 (List.map Point.row t.Hood)), .d (.sl 2 (List.map Node.row t.Nodes))]), (7, .box [.d (.int .i64 y1.1.Period), .d (.int .i64 y1.1.DX), .d (.int .i64 y1.1.DY)])]) stt ρ σ) : Swp Tryz.prog cx (.loop (bO [1, 1, 1, 1, 0, 1, 0, 0] (aS Tryz.f8))) ρ σ (bo cx t p n y1 tt) := by
 refine bg hE hh (bo cx t p n y1) (fun _ => by rfl) (fun _ => by rfl) ?_
 rintro g r hm ρ σ hf
 simp only [Fits, aw, av, and_true] at hf
 unfold bp at hm
 dsimp only at hm
 refine ah ?_
 refine srs hn (by kernel_rfl) ?_
 simp -dsimp [hf]
 rcases ak hm with ⟨c10, hm⟩ | ⟨c10, hm⟩
 ·refine aa (b := (ltB g y1.1.Period)) (by simp -dsimp) c10 ?_
  refine ab ?_
  refine a7 ?_
  refine ah ?_
  refine am ?_
  refine srs hn (by kernel_rfl) ?_
  obtain ⟨y2, h11, hm⟩ := bnd hm
  simp -dsimp [hf, c10]
  refine ae (dR t p g y2 h11) (by rw [hn]; decide) ?_
  simp -dsimp
  refine ah ?_
  refine srs hn (by kernel_rfl) ?_
  simp -dsimp
  rcases ak hm with ⟨c12, hm⟩ | ⟨c12, hm⟩
  ·refine aa (b := (neB y2.2 0)) (by simp -dsimp) c12 ?_
   refine srs hn (by kernel_rfl) ?_
   simp -dsimp [c12]
   refine ag ?_
   refine ai ?_
   refine aL ?_
   refine ai ?_
   cases hm
   refine ar nofun ?_
   unfold bo
   dsimp only
   refine ⟨rfl, ?_⟩
   refine EE.here ?_
   simp -dsimp [Tryz.results8]
  ·refine a8 (b := (neB y2.2 0)) (by simp -dsimp) c12 ?_
   refine ab ?_
   refine a7 ?_
   obtain ⟨a1, j22, hm⟩ := bnd hm
   refine au [(1, .u (.one (.d (.sl 3 (List.map Cell.row p))))), (2, .u (.one (.d (.int .u8 n)))), (3, .u (.one (.box 3 0))), (7, .u (.one (.box 7 0))), (10, .u (.one (.d (.int .i64 g)))), (11, .u (.one (.d (.sl 3 (List.map Cell.row y2.1))))), (67, .u (.one (.d (.bool a1))))] [(3, .box [.d (.int .i64 t.States), .d (.sl 2 (List.map Point.row t.Hood)), .d (.sl 2 (List.map Node.row t.Nodes))]), (7, .box [.d (.int .i64 y1.1.Period), .d (.int .i64 y1.1.DX), .d (.int .i64 y1.1.DY)])] (by rfl) (by rfl) ?_ fun ρ σ hf => ?_
   ·replace hm := j22
    clear j22
    refine sr1 hn (by kernel_rfl) ?_
    rcases ak hm with ⟨c13, hm⟩ | ⟨c13, hm⟩
    ·simp -dsimp [hf, c12, c13]
     refine a7 ?_
     cases hm
     refine EE.here ?_
     simp -dsimp [hf]
    ·simp -dsimp [c12, c13]
     refine a7 ?_
     cases hm
     refine EE.here ?_
     simp -dsimp [hf]
   ·clear j22
    simp only [Fits, aw, av, and_true] at hf
    rcases ak hm with ⟨c14, hm⟩ | ⟨c14, hm⟩
    ·refine aa (b := a1) (by simp -dsimp [hf]) c14 ?_
     refine cJ az mixed (by rw [hn]; kernel_rfl) ?_
     obtain ⟨x, h15, hm⟩ := bnd hm
     obtain ⟨x1, h16, hm⟩ := bnd hm
     obtain ⟨y3, h17, hm⟩ := bnd hm
     simp -dsimp [hf, h15, h16]
     refine aI (c_pattern_Shift p (aK .i64 x.X x1.X) (aK .i64 x.Y x1.Y) y3 h17) ?_
     simp -dsimp
     obtain ⟨a2, j21, hm⟩ := bnd hm
     refine au [(1, .u (.one (.d (.sl 3 (List.map Cell.row p))))), (2, .u (.one (.d (.int .u8 n)))), (3, .u (.one (.box 3 0))), (7, .u (.one (.box 7 0))), (10, .u (.one (.d (.int .i64 g)))), (97, .u (.one (.d (.bool a2))))] [(3, .box [.d (.int .i64 t.States), .d (.sl 2 (List.map Point.row t.Hood)), .d (.sl 2 (List.map Node.row t.Nodes))]), (7, .box [.d (.int .i64 y1.1.Period), .d (.int .i64 y1.1.DX), .d (.int .i64 y1.1.DY)])] (by rfl) (by rfl) ?_ fun ρ σ hf => ?_
     ·replace hm := j21
      clear j21
      refine sr1 hn (by kernel_rfl) ?_
      rcases ak hm with ⟨c18, hm⟩ | ⟨c18, hm⟩
      ·obtain ⟨y4, h19, hm⟩ := bnd hm
       simp -dsimp [hf, c18]
       refine ae (c_R05_Same y3.1 y2.1 y4 h19) (by rw [hn]; decide) ?_
       simp -dsimp
       refine a7 ?_
       cases hm
       refine EE.here ?_
       simp -dsimp [hf]
      ·simp -dsimp [c18]
       refine a7 ?_
       cases hm
       refine EE.here ?_
       simp -dsimp [hf]
     ·clear j21
      simp only [Fits, aw, av, and_true] at hf
      rcases ak hm with ⟨c20, hm⟩ | ⟨c20, hm⟩
      ·refine aa (b := a2) (by simp -dsimp [hf]) c20 ?_
       refine srs hn (by kernel_rfl) ?_
       simp -dsimp
       refine ag ?_
       refine aL ?_
       refine ai ?_
       cases hm
       refine ar nofun ?_
       unfold bo
       dsimp only
       refine ⟨rfl, ?_⟩
       refine EE.here ?_
       simp -dsimp [Tryz.results8]
      ·refine a8 (b := a2) (by simp -dsimp [hf]) c20 ?_
       refine ab ?_
       refine aU ?_
       refine a7 ?_
       refine sr1 hn (by kernel_rfl) ?_
       simp -dsimp [hf]
       cases hm
       refine aH ?_
       refine EE.here ?_
       simp -dsimp [hf]
    ·refine a8 (b := a1) (by simp -dsimp [hf]) c14 ?_
     refine ab ?_
     refine aU ?_
     refine a7 ?_
     refine sr1 hn (by kernel_rfl) ?_
     simp -dsimp [hf]
     cases hm
     refine aH ?_
     refine EE.here ?_
     simp -dsimp [hf]
 ·refine a8 (b := (ltB g y1.1.Period)) (by simp -dsimp) c10 ?_
  refine aC ?_
  refine ai ?_
  cases hm
  refine ar nofun ?_
  unfold bo
  dsimp only
  refine ⟨rfl, ?_⟩
  refine EE.here ?_
  simp -dsimp [hf, c10]
theorem f_L34_PeriodTrue (t : Tree) (p : List Cell) (n : Int) (r : Bool) (hm : cU t p n = some r) : PFn Tryz.prog 8 [.u (.agg [.d (.int .i64 t.States), .d (.sl 2 (List.map Point.row t.Hood)), .d (.sl 2 (List.map Node.row t.Nodes))]), .u (.one (.d (.sl 3 (List.map Cell.row p)))), .u (.one (.d (.int .u8 n)))] (fun v => v.wk (.u (.one (.d (.bool r))))) := by
 refine aQ az _ Tryz.func8 rfl (by kernel_rfl) (by simp [Tryz.ntmps8]) fun cx hn => ?_
 replace hn : cx.n = 152 := hn.trans Tryz.ntmps8
 unfold cU at hm
 refine srs hn (by kernel_rfl) ?_
 simp -dsimp []
 refine ah ?_
 refine srs hn (by kernel_rfl) ?_
 obtain ⟨y, h1, hm⟩ := bnd hm
 simp -dsimp []
 refine ae (eD t p y h1) (by rw [hn]; decide) ?_
 simp -dsimp
 rcases ak hm with ⟨c2, hm⟩ | ⟨c2, hm⟩
 ·refine aa (b := (aN y)) (by simp -dsimp) c2 ?_
  refine srs hn (by kernel_rfl) ?_
  obtain ⟨y1, h3, hm⟩ := bnd hm
  simp -dsimp [c2]
  refine ae (aO y1 h3) (by rw [hn]; decide) ?_
  simp -dsimp
  refine ag ?_
  refine ai ?_
  cases hm
  refine ⟨.inr rfl, ?_⟩
  refine EE.here ?_
  simp -dsimp
 ·refine a8 (b := (aN y)) (by simp -dsimp) c2 ?_
  refine ab ?_
  refine a7 ?_
  refine srs hn (by kernel_rfl) ?_
  obtain ⟨y1, h4, hm⟩ := bnd hm
  simp -dsimp [c2]
  refine ae (bM t p 6 y1 h4) (by rw [hn]; decide) ?_
  simp -dsimp
  refine ah ?_
  obtain ⟨a, j43, hm⟩ := bnd hm
  refine au [(1, .u (.one (.d (.sl 3 (List.map Cell.row p))))), (2, .u (.one (.d (.int .u8 n)))), (3, .u (.one (.box 3 0))), (7, .u (.one (.box 7 0))), (38, .u (.one (.d (.bool a))))] [(3, .box [.d (.int .i64 t.States), .d (.sl 2 (List.map Point.row t.Hood)), .d (.sl 2 (List.map Node.row t.Nodes))]), (7, .box [.d (.int .i64 y1.1.Period), .d (.int .i64 y1.1.DX), .d (.int .i64 y1.1.DY)])] (by rfl) (by rfl) ?_ fun ρ σ hf => ?_
  ·replace hm := j43
   clear j43
   refine sr1 hn (by kernel_rfl) ?_
   rcases ak hm with ⟨c5, hm⟩ | ⟨c5, hm⟩
   ·simp -dsimp [c5]
    refine a7 ?_
    cases hm
    refine EE.here ?_
    simp -dsimp
   ·simp -dsimp [c5]
    refine a7 ?_
    cases hm
    refine EE.here ?_
    simp -dsimp
  ·clear j43
   simp only [Fits, aw, av, and_true] at hf
   rcases ak hm with ⟨c6, hm⟩ | ⟨c6, hm⟩
   ·refine aa (b := a) (by simp -dsimp [hf]) c6 ?_
    obtain ⟨a1, j9, hm⟩ := bnd hm
    refine au [(6, .u (.one (.d (.bool a1))))] [] (by rfl) (by rfl) ?_ fun ρ σ hf => ?_
    ·replace hm := j9
     clear j9
     refine sr1 hn (by kernel_rfl) ?_
     rcases ak hm with ⟨c7, hm⟩ | ⟨c7, hm⟩
     ·obtain ⟨y2, h8, hm⟩ := bnd hm
      simp -dsimp [hf, c7]
      refine ae (aO y2 h8) (by rw [hn]; decide) ?_
      simp -dsimp
      refine a7 ?_
      cases hm
      refine EE.here ?_
      simp -dsimp
     ·simp -dsimp [hf, c7]
      refine a7 ?_
      cases hm
      refine EE.here ?_
      simp -dsimp
    ·clear j9
     simp only [Fits, aw, av, and_true] at hf
     refine ag ?_
     refine ai ?_
     cases hm
     refine ⟨.inr rfl, ?_⟩
     refine EE.here ?_
     simp -dsimp [hf]
   ·refine a8 (b := a) (by simp -dsimp [hf]) c6 ?_
    refine ab ?_
    refine a7 ?_
    refine ah ?_
    refine srs hn (by kernel_rfl) ?_
    simp -dsimp
    refine am ?_
    obtain ⟨o_, g23, hm⟩ := bnd hm
    refine aT [(1, .u (.one (.d (.sl 3 (List.map Cell.row p))))), (2, .u (.one (.d (.int .u8 n)))), (3, .u (.one (.box 3 0))), (7, .u (.one (.box 7 0))), (10, .u (.one (.d (.int .i64 1))))] [(3, .box [.d (.int .i64 t.States), .d (.sl 2 (List.map Point.row t.Hood)), .d (.sl 2 (List.map Node.row t.Nodes))]), (7, .box [.d (.int .i64 y1.1.Period), .d (.int .i64 y1.1.DX), .d (.int .i64 y1.1.DY)])] (by rfl) (by rfl) (by
      refine EE.here ?_
      simp -dsimp [hf]
    ) fun ρ σ hf => ?_
    refine (l_L34_PeriodTrue_1 cx hn t p n y1 g23 hf).mono fun ee ρ σ x24 => ?_
    rcases o_ with r | _u
    ·unfold bo at x24
     dsimp only at x24
     obtain ⟨rfl, x24⟩ := x24
     refine aL ?_
     refine ai ?_
     cases hm
     exact ⟨.inr rfl, x24⟩
    ·unfold bo at x24
     dsimp only at x24
     obtain ⟨rfl, x24⟩ := x24
     refine aD ?_
     refine a7 ?_
     refine bc (by rfl) (by rfl) x24 fun ρ σ hf => ?_
     simp only [Fits, aw, av, and_true] at hf
     refine srs hn (by kernel_rfl) ?_
     obtain ⟨n1, h25, hm⟩ := bnd hm
     obtain ⟨y2, h26, hm⟩ := bnd hm
     simp -dsimp [hf, h25]
     refine ae (c_period_After y1.1 (aM .i64 1 (fC .i64 n1)) y2 h26) (by rw [hn]; decide) ?_
     simp -dsimp
     refine ah ?_
     refine srs hn (by kernel_rfl) ?_
     simp -dsimp
     rcases ak hm with ⟨c27, hm⟩ | ⟨c27, hm⟩
     ·refine aa (b := (neB y2.2 0)) (by simp -dsimp) c27 ?_
      refine srs hn (by kernel_rfl) ?_
      simp -dsimp [c27]
      refine ag ?_
      refine ai ?_
      cases hm
      refine ⟨.inr rfl, ?_⟩
      refine EE.here ?_
      simp -dsimp
     ·refine a8 (b := (neB y2.2 0)) (by simp -dsimp) c27 ?_
      refine ab ?_
      refine a7 ?_
      refine srs hn (by kernel_rfl) ?_
      obtain ⟨y3, h28, hm⟩ := bnd hm
      simp -dsimp [hf, c27]
      refine ae (dR t p y2.1.Period y3 h28) (by rw [hn]; decide) ?_
      simp -dsimp
      refine srs hn (by kernel_rfl) ?_
      obtain ⟨y4, h29, hm⟩ := bnd hm
      simp -dsimp [hf]
      refine ae (c_pattern_Shift p y2.1.DX y2.1.DY y4 h29) (by rw [hn]; decide) ?_
      simp -dsimp
      refine ah ?_
      obtain ⟨a1, j42, hm⟩ := bnd hm
      refine au [(1, .u (.one (.d (.sl 3 (List.map Cell.row p))))), (17, .u (.one (.d (.sl 3 (List.map Cell.row y3.1))))), (18, .u (.one (.d (.int .i64 y3.2)))), (19, .u (.one (.d (.sl 3 (List.map Cell.row y4.1))))), (20, .u (.one (.d (.int .i64 y4.2)))), (131, .u (.one (.d (.bool a1))))] [] (by rfl) (by rfl) ?_ fun ρ σ hf => ?_
      ·replace hm := j42
       clear j42
       refine sr1 hn (by kernel_rfl) ?_
       rcases ak hm with ⟨c30, hm⟩ | ⟨c30, hm⟩
       ·simp -dsimp [c30]
        refine a7 ?_
        cases hm
        refine EE.here ?_
        simp -dsimp [hf]
       ·simp -dsimp [c30]
        refine a7 ?_
        cases hm
        refine EE.here ?_
        simp -dsimp [hf]
      ·clear j42
       simp only [Fits, aw, av, and_true] at hf
       rcases ak hm with ⟨c31, hm⟩ | ⟨c31, hm⟩
       ·refine aa (b := a1) (by simp -dsimp [hf]) c31 ?_
        obtain ⟨a2, j36, hm⟩ := bnd hm
        refine au [(6, .u (.one (.d (.bool a2))))] [] (by rfl) (by rfl) ?_ fun ρ σ hf => ?_
        ·replace hm := j36
         clear j36
         refine sr1 hn (by kernel_rfl) ?_
         rcases ak hm with ⟨c32, hm⟩ | ⟨c32, hm⟩
         ·obtain ⟨y5, h33, hm⟩ := bnd hm
          simp -dsimp [hf, c32]
          refine ae (aO y5 h33) (by rw [hn]; decide) ?_
          simp -dsimp
          refine a7 ?_
          cases hm
          refine EE.here ?_
          simp -dsimp
         ·rcases ak hm with ⟨c34, hm⟩ | ⟨c34, hm⟩
          ·obtain ⟨y5, h35, hm⟩ := bnd hm
           simp -dsimp [hf, c32, c34]
           refine ae (aO y5 h35) (by rw [hn]; decide) ?_
           simp -dsimp
           refine a7 ?_
           cases hm
           refine EE.here ?_
           simp -dsimp
          ·simp -dsimp [hf, c32, c34]
           refine a7 ?_
           cases hm
           refine EE.here ?_
           simp -dsimp
        ·clear j36
         simp only [Fits, aw, av, and_true] at hf
         refine ag ?_
         refine ai ?_
         cases hm
         refine ⟨.inr rfl, ?_⟩
         refine EE.here ?_
         simp -dsimp [hf]
       ·refine a8 (b := a1) (by simp -dsimp [hf]) c31 ?_
        refine ab ?_
        refine a7 ?_
        obtain ⟨a2, j41, hm⟩ := bnd hm
        refine au [(6, .u (.one (.d (.bool a2))))] [] (by rfl) (by rfl) ?_ fun ρ σ hf => ?_
        ·replace hm := j41
         clear j41
         refine sr1 hn (by kernel_rfl) ?_
         rcases ak hm with ⟨c37, hm⟩ | ⟨c37, hm⟩
         ·obtain ⟨y5, h38, hm⟩ := bnd hm
          simp -dsimp [hf, c37]
          refine ae (c_R05_Same y3.1 y4.1 y5 h38) (by rw [hn]; decide) ?_
          rcases ak hm with ⟨c39, hm⟩ | ⟨c39, hm⟩
          ·obtain ⟨y6, h40, hm⟩ := bnd hm
           simp -dsimp [c39]
           refine ae (aO y6 h40) (by rw [hn]; decide) ?_
           simp -dsimp
           refine a7 ?_
           cases hm
           refine EE.here ?_
           simp -dsimp
          ·simp -dsimp [c39]
           refine a7 ?_
           cases hm
           refine EE.here ?_
           simp -dsimp
         ·simp -dsimp [hf, c37]
          refine a7 ?_
          cases hm
          refine EE.here ?_
          simp -dsimp
        ·clear j41
         simp only [Fits, aw, av, and_true] at hf
         refine ag ?_
         cases hm
         refine ⟨.inr rfl, ?_⟩
         refine EE.here ?_
         simp -dsimp [hf]
theorem c_L34_PeriodTrue (t : Tree) (p : List Cell) (n : Int) (r : Bool) (hm : cU t p n = some r) : PureCall Tryz.prog 8 [.u (.agg [.d (.int .i64 t.States), .d (.sl 2 (List.map Point.row t.Hood)), .d (.sl 2 (List.map Node.row t.Nodes))]), .u (.one (.d (.sl 3 (List.map Cell.row p)))), .u (.one (.d (.int .u8 n)))] (.u (.one (.d (.bool r)))) := (f_L34_PeriodTrue t p n r hm).pureW
end Go.Proofs.YtdjclgfbggfpaaaGreatDoor
