/-
  That the code does what the functions say (made by cc.py).
-/
import Derived.Test.YtdjclgfbggfpaaaGreatDoorMd1
import Derived.Test.YtdjclgfbggfpaaaGreatDoorTb
import Derived.Test.YtdjclgfbggfpaaaGreatDoorWa1
namespace Go.Proofs.YtdjclgfbggfpaaaGreatDoor
open Go.AM Go.Proofs
attribute [-simp] qlookup bK cL Ob.wipe Ob.ren Ob.frz1
theorem f_direct_check (t : Tree) (p : List Cell) (r : Int) (hm : cr t p = some r) : PFn Tryz.prog 35 [.u (.agg [.d (.int .i64 t.States), .d (.sl 2 (List.map Point.row t.Hood)), .d (.sl 2 (List.map Node.row t.Nodes))]), .u (.one (.d (.sl 3 (List.map Cell.row p))))] (fun v => v.wk (.u (.one (.d (.int .i64 r))))) := by
 refine aQ az _ Tryz.func35 rfl (by kernel_rfl) (by simp [Tryz.ntmps35]) fun cx hn => ?_
 replace hn : cx.n = 19 := hn.trans Tryz.ntmps35
 unfold cr at hm
 refine srs hn (by kernel_rfl) ?_
 simp -dsimp []
 refine ah ?_
 refine am ?_
 refine srs hn (by kernel_rfl) ?_
 obtain ⟨y, h1, hm⟩ := bnd hm
 simp -dsimp []
 refine ae (c_tree_Quiet t y h1) (by rw [hn]; decide) ?_
 simp -dsimp
 rcases ak hm with ⟨c2, hm⟩ | ⟨c2, hm⟩
 ·refine aa (b := (aN y)) (by simp -dsimp) c2 ?_
  refine srs hn (by kernel_rfl) ?_
  simp -dsimp [c2]
  refine ag ?_
  refine aL ?_
  refine ai ?_
  cases hm
  refine ⟨.inr rfl, ?_⟩
  refine EE.here ?_
  simp -dsimp
 ·refine a8 (b := (aN y)) (by simp -dsimp) c2 ?_
  refine srs hn (by kernel_rfl) ?_
  obtain ⟨y1, h3, hm⟩ := bnd hm
  simp -dsimp [c2]
  refine ae (c_pattern_Right p y1 h3) (by rw [hn]; decide) ?_
  simp -dsimp
  rcases ak hm with ⟨c4, hm⟩ | ⟨c4, hm⟩
  ·refine aa (b := (aN y1)) (by simp -dsimp) c4 ?_
   refine srs hn (by kernel_rfl) ?_
   simp -dsimp [c4]
   refine ag ?_
   refine aL ?_
   refine ai ?_
   cases hm
   refine ⟨.inr rfl, ?_⟩
   refine EE.here ?_
   simp -dsimp
  ·refine a8 (b := (aN y1)) (by simp -dsimp) c4 ?_
   refine cJ az mixed (by rw [hn]; kernel_rfl) ?_
   obtain ⟨y2, h5, hm⟩ := bnd hm
   simp -dsimp [c4]
   refine aI (c_pattern_Top p y2 h5) ?_
   simp -dsimp
   rcases ak hm with ⟨c6, hm⟩ | ⟨c6, hm⟩
   ·refine aa (b := (geB y2 t.States)) (by simp -dsimp) c6 ?_
    refine srs hn (by kernel_rfl) ?_
    simp -dsimp [c6]
    refine ag ?_
    refine aL ?_
    refine ai ?_
    cases hm
    refine ⟨.inr rfl, ?_⟩
    refine EE.here ?_
    simp -dsimp
   ·refine a8 (b := (geB y2 t.States)) (by simp -dsimp) c6 ?_
    refine ab ?_
    refine aU ?_
    refine a7 ?_
    refine srs hn (by kernel_rfl) ?_
    simp -dsimp [c6]
    refine ag ?_
    cases hm
    refine ⟨.inr rfl, ?_⟩
    refine EE.here ?_
    simp -dsimp
theorem c_direct_check (t : Tree) (p : List Cell) (r : Int) (hm : cr t p = some r) : PureCall Tryz.prog 35 [.u (.agg [.d (.int .i64 t.States), .d (.sl 2 (List.map Point.row t.Hood)), .d (.sl 2 (List.map Node.row t.Nodes))]), .u (.one (.d (.sl 3 (List.map Cell.row p))))] (.u (.one (.d (.int .i64 r)))) := (f_direct_check t p r hm).pureW
def eX (cx : Cx) (_p : List Cell) (tt : (List (Point × Int))) (ee : Exit) (ρ : Env) (σ : Sto) : Prop := match tt with
 | m => ee = .exit 0 ∧ EE cx (aX [(3, .u (.one (.map 6)))] [(6, mOb (.ints 2) Point.key (uL (L.int .i64)) m)]) ρ σ
theorem l_direct_of_1 (cx : Cx) (hn : cx.n = 23) (_hk : cx.k = 0) (p : List Cell) {fu : Nat} {stt : Int × (List (Point × Int))} {tt : (List (Point × Int))} (hh : ap (dh p) fu stt = some tt) {ρ : Env} {σ : Sto}
  (hE : be (fun stt : Int × (List (Point × Int)) => match stt with | (a, _m) => [(3, .u (.one (.map 6))), (7, .u (.one (.d (.sl 3 (List.map Cell.row p))))), (8, .u (.one (.d (.int .i64 (aj p))))), (9, .u (.one (.d (.int .i64 a))))]) (fun stt : Int × (List (Point × Int)) => match stt with | (_a, m) => [(6, mOb (.ints 2) Point.key (uL (L.int .i64)) m)]) stt ρ σ) : Swp Tryz.prog cx (.loop (bO [1, 1, 0, 1, 0, 0] (aS Tryz.f59))) ρ σ (eX cx p tt) := by
 refine bg hE hh (eX cx p) (fun _ => by rfl) (fun _ => by rfl) ?_
 rintro ⟨a, m⟩ r hm ρ σ hf
 simp only [Fits, aw, av, and_true] at hf
 unfold dh at hm
 dsimp only at hm
 refine srs hn (by kernel_rfl) ?_
 simp -dsimp [hf]
 refine ah ?_
 rcases ak hm with ⟨c1, hm⟩ | ⟨c1, hm⟩
 ·refine aa (b := (ltB a (aj p))) (by simp -dsimp) c1 ?_
  refine ab ?_
  refine a7 ?_
  refine ah ?_
  refine am ?_
  refine srs hn (by kernel_rfl) ?_
  obtain ⟨x, h2, hm⟩ := bnd hm
  simp -dsimp [hf, c1, h2]
  refine sr1 hn (by kernel_rfl) ?_
  obtain ⟨u, h3, hm⟩ := bnd hm
  simp -dsimp [hf, fI h3 (.head _), fI h3 (.tail _ (.head _)), (@id (msetOb (mOb (.ints 2) Point.key (uL (L.int .i64)) m) (.ints [x.X, x.Y]) (.one (.d (.int .i64 x.S))) = mOb (.ints 2) Point.key (uL (L.int .i64)) (fS m (⟨x.X, x.Y⟩ : Point) x.S)) (mset_ob (.ints 2) Point.key (uL (L.int .i64)) m (⟨x.X, x.Y⟩ : Point) x.S))]
  refine aU ?_
  refine a7 ?_
  refine sr1 hn (by kernel_rfl) ?_
  simp -dsimp [hf]
  cases hm
  refine aH ?_
  refine EE.here ?_
  simp -dsimp [hf]
 ·refine a8 (b := (ltB a (aj p))) (by simp -dsimp) c1 ?_
  refine aC ?_
  refine ai ?_
  cases hm
  refine ar nofun ?_
  unfold eX
  dsimp only
  refine ⟨rfl, ?_⟩
  refine EE.here ?_
  simp -dsimp [hf, c1]
theorem g_direct_of (p : List Cell) (r : List (Point × Int)) (hm : fb p = some r) : GFn Tryz.prog 59 [.u (.one (.d (.sl 3 (List.map Cell.row p))))] [] (.u (.one (.map 1000000))) [some (mOb (.ints 2) Point.key (uL (L.int .i64)) r)] := by
 refine g_intro' az _ Tryz.func59 rfl (by kernel_rfl) (by simp [Tryz.ntmps59]) (by simp) (by first | rfl | simp) (by first | rfl | simp) fun cx hn hk => ?_
 replace hn : cx.n = 23 := hn.trans Tryz.ntmps59
 replace hk : cx.k = 0 := hk
 unfold fb at hm
 refine srs hn (by kernel_rfl) ?_
 simp -dsimp []
 refine srs hn (by kernel_rfl) ?_
 simp -dsimp [(@id (Ob.map (.ints 2) [] = mOb (.ints 2) Point.key (uL (L.int .i64)) ([] : List (Point × Int))) (mOb_nil (.ints 2) Point.key (uL (L.int .i64))))]
 refine ah ?_
 refine srs hn (by kernel_rfl) ?_
 simp -dsimp
 refine am ?_
 obtain ⟨m, g4, hm⟩ := bnd hm
 refine aT [(3, .u (.one (.map 6))), (7, .u (.one (.d (.sl 3 (List.map Cell.row p))))), (8, .u (.one (.d (.int .i64 (aj p))))), (9, .u (.one (.d (.int .i64 0))))] [(6, mOb (.ints 2) Point.key (uL (L.int .i64)) [])] (by rfl) (by rfl) (by
   refine EE.here ?_
   simp -dsimp
 ) fun ρ σ hf => ?_
 refine (l_direct_of_1 cx hn hk p g4 hf).mono fun ee ρ σ x5 => ?_
 unfold eX at x5
 dsimp only at x5
 obtain ⟨rfl, x5⟩ := x5
 refine aD ?_
 refine a7 ?_
 refine bc (by rfl) (by rfl) x5 fun ρ σ hf => ?_
 simp only [Fits, aw, av, and_true] at hf
 refine srs hn (by kernel_rfl) ?_
 simp -dsimp [hf]
 refine ag ?_
 cases hm
 refine ⟨.inr rfl, ?_⟩
 refine EE.step (Wk.move 6 1000000 (by decide) (.inr (by rw [hk]; decide))) ?_
 refine EE.here ?_
 simp -dsimp [hf]
def bS (cx : Cx) (m : List (Point × Int)) (_t : Tree) (_p : Point) (tt : Int) (ee : Exit) (ρ : Env) (σ : Sto) : Prop := match tt with
 | k => ee = .exit 0 ∧ EE cx (aX [(7, .u (.one (.d (.int .i64 k))))] [(1000000, mOb (.ints 2) Point.key (uL (L.int .i64)) m)]) ρ σ
theorem fZ (cx : Cx) (hn : cx.n = 44) (_hk : cx.k = 1) (m : List (Point × Int)) (t : Tree) (p : Point) {fu : Nat} {stt : Int × Int} {tt : Int} (hh : ap (bf m t p) fu stt = some tt) {ρ : Env} {σ : Sto}
  (hE : be (fun stt : Int × Int => match stt with | (k, a) => [(0, .u (.one (.map 1000000))), (4, .u (.one (.box 4 0))), (5, .u (.one (.box 5 0))), (7, .u (.one (.d (.int .i64 k)))), (15, .u (.one (.d (.sl 2 (List.map Point.row t.Hood))))), (16, .u (.one (.d (.int .i64 (aj t.Hood))))), (17, .u (.one (.d (.int .i64 a))))]) (fun stt : Int × Int => match stt with | (_k, _a) => [(4, .box [.d (.int .i64 t.States), .d (.sl 2 (List.map Point.row t.Hood)), .d (.sl 2 (List.map Node.row t.Nodes))]), (5, .box [.d (.int .i64 p.X), .d (.int .i64 p.Y)]), (1000000, mOb (.ints 2) Point.key (uL (L.int .i64)) m)]) stt ρ σ) : Swp Tryz.prog cx (.loop (bO [1, 1, 0, 1, 0, 0] (aS Tryz.f60))) ρ σ (bS cx m t p tt) := by
 refine bg hE hh (bS cx m t p) (fun _ => by rfl) (fun _ => by rfl) ?_
 rintro ⟨k, a⟩ r hm ρ σ hf
 simp only [Fits, aw, av, and_true] at hf
 unfold bf at hm
 dsimp only at hm
 refine srs hn (by kernel_rfl) ?_
 simp -dsimp [hf]
 refine ah ?_
 rcases ak hm with ⟨c1, hm⟩ | ⟨c1, hm⟩
 ·refine aa (b := (ltB a (aj t.Hood))) (by simp -dsimp) c1 ?_
  refine ab ?_
  refine a7 ?_
  refine ah ?_
  refine am ?_
  refine srs hn (by kernel_rfl) ?_
  obtain ⟨x, h2, hm⟩ := bnd hm
  simp -dsimp [hf, c1, h2]
  refine sw_qt az mixed (by rw [hn]; kernel_rfl) ?_
  obtain ⟨x1, h3, hm⟩ := bnd hm
  obtain ⟨u, h4, hm⟩ := bnd hm
  obtain ⟨x2, h5, hm⟩ := bnd hm
  simp -dsimp [hf, h3, fI h4 (.head _), fI h4 (.tail _ (.head _)), (@id (lkM (mgetOb (mOb (.ints 2) Point.key (uL (L.int .i64)) m) (.ints [(aM .i64 p.X x.X), (aM .i64 p.Y x.Y)])) false (.one (.d (.int .i64 0))) = some (.u (.one (.d (.int .i64 (eA m (⟨(aM .i64 p.X x.X), (aM .i64 p.Y x.Y)⟩ : Point) 0)))))) (lk_val (⟨(aM .i64 p.X x.X), (aM .i64 p.Y x.Y)⟩ : Point) 0)), h5]
  refine aU ?_
  refine a7 ?_
  refine sr1 hn (by kernel_rfl) ?_
  simp -dsimp [hf]
  cases hm
  refine aH ?_
  refine EE.here ?_
  simp -dsimp [hf]
 ·refine a8 (b := (ltB a (aj t.Hood))) (by simp -dsimp) c1 ?_
  refine aC ?_
  refine ai ?_
  cases hm
  refine ar nofun ?_
  unfold bS
  dsimp only
  refine ⟨rfl, ?_⟩
  refine EE.here ?_
  simp -dsimp [hf, c1]
theorem g_direct_cells_next_o (m : List (Point × Int)) (t : Tree) (p : Point) (r : Int) (hm : bE m t p = some r) : GFn Tryz.prog 60 [.u (.one (.map 1000000)), .u (.agg [.d (.int .i64 t.States), .d (.sl 2 (List.map Point.row t.Hood)), .d (.sl 2 (List.map Node.row t.Nodes))]), .u (.agg [.d (.int .i64 p.X), .d (.int .i64 p.Y)])] [mOb (.ints 2) Point.key (uL (L.int .i64)) m] (.u (.one (.d (.int .i64 r)))) [some (mOb (.ints 2) Point.key (uL (L.int .i64)) m)] := by
 refine g_intro' az _ Tryz.func60 rfl (by kernel_rfl) (by simp [Tryz.ntmps60]) (by simp) (by first | rfl | simp) (by first | rfl | simp) fun cx hn hk => ?_
 replace hn : cx.n = 44 := hn.trans Tryz.ntmps60
 replace hk : cx.k = 1 := hk
 unfold bE at hm
 refine srs hn (by kernel_rfl) ?_
 simp -dsimp []
 refine srs hn (by kernel_rfl) ?_
 simp -dsimp []
 refine ah ?_
 refine srs hn (by kernel_rfl) ?_
 simp -dsimp []
 refine am ?_
 obtain ⟨k, g6, hm⟩ := bnd hm
 refine aT [(0, .u (.one (.map 1000000))), (4, .u (.one (.box 4 0))), (5, .u (.one (.box 5 0))), (7, .u (.one (.d (.int .i64 (aK .i64 (aj t.Nodes) 1))))), (15, .u (.one (.d (.sl 2 (List.map Point.row t.Hood))))), (16, .u (.one (.d (.int .i64 (aj t.Hood))))), (17, .u (.one (.d (.int .i64 0))))] [(4, .box [.d (.int .i64 t.States), .d (.sl 2 (List.map Point.row t.Hood)), .d (.sl 2 (List.map Node.row t.Nodes))]), (5, .box [.d (.int .i64 p.X), .d (.int .i64 p.Y)]), (1000000, mOb (.ints 2) Point.key (uL (L.int .i64)) m)] (by rfl) (by rfl) (by
   refine EE.here ?_
   simp -dsimp []
 ) fun ρ σ hf => ?_
 refine (fZ cx hn hk m t p g6 hf).mono fun ee ρ σ x7 => ?_
 unfold bS at x7
 dsimp only at x7
 obtain ⟨rfl, x7⟩ := x7
 refine aD ?_
 refine a7 ?_
 refine bc (by rfl) (by rfl) x7 fun ρ σ hf => ?_
 simp only [Fits, aw, av, and_true] at hf
 refine srs hn (by kernel_rfl) ?_
 simp -dsimp [hf]
 refine ag ?_
 cases hm
 refine ⟨.inr rfl, ?_⟩
 refine EE.here ?_
 simp -dsimp [hf]
theorem f_direct_place (p : Point) (r : Bool) (hm : dF p = some r) : PFn Tryz.prog 61 [.u (.agg [.d (.int .i64 p.X), .d (.int .i64 p.Y)])] (fun v => v.wk (.u (.one (.d (.bool r))))) := by
 refine aQ az _ Tryz.func61 rfl (by kernel_rfl) (by simp [Tryz.ntmps61]) fun cx hn => ?_
 replace hn : cx.n = 17 := hn.trans Tryz.ntmps61
 unfold dF at hm
 refine srs hn (by kernel_rfl) ?_
 simp -dsimp []
 obtain ⟨a, j2, hm⟩ := bnd hm
 refine au [(2, .u (.one (.d (.bool a))))] [] (by rfl) (by rfl) ?_ fun ρ σ hf => ?_
 ·replace hm := j2
  clear j2
  refine sr1 hn (by kernel_rfl) ?_
  rcases ak hm with ⟨c1, hm⟩ | ⟨c1, hm⟩
  ·simp -dsimp [c1]
   refine a7 ?_
   cases hm
   refine EE.here ?_
   simp -dsimp
  ·simp -dsimp [c1]
   refine a7 ?_
   cases hm
   refine EE.here ?_
   simp -dsimp
 ·clear j2
  simp only [Fits, aw, av, and_true] at hf
  refine ag ?_
  cases hm
  refine ⟨.inr rfl, ?_⟩
  refine EE.here ?_
  simp -dsimp [hf]
theorem c_direct_place (p : Point) (r : Bool) (hm : dF p = some r) : PureCall Tryz.prog 61 [.u (.agg [.d (.int .i64 p.X), .d (.int .i64 p.Y)])] (.u (.one (.d (.bool r)))) := (f_direct_place p r hm).pureW
end Go.Proofs.YtdjclgfbggfpaaaGreatDoor
