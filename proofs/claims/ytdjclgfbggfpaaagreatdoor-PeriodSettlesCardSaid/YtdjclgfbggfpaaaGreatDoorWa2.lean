/-
  That the code does what the functions say (made by cc.py).
-/
import Derived.Test.YtdjclgfbggfpaaaGreatDoorMd1
import Derived.Test.YtdjclgfbggfpaaaGreatDoorTb
namespace Go.Proofs.YtdjclgfbggfpaaaGreatDoor
open Go.AM Go.Proofs
attribute [-simp] qlookup cn dG Ob.wipe Ob.ren Ob.frz1
def fO (cx : Cx) (_p : List Cell) (tt : (List (Point × Int))) (ee : Exit) (ρ : Env) (σ : Sto) : Prop := match tt with
 | m => ee = .exit 0 ∧ EE cx (b6 [(3, .u (.one (.map 6)))] [(6, mOb (.ints 2) Point.key (uL (L.int .i64)) m)]) ρ σ
theorem l_direct_of_1 (cx : Cx) (hn : cx.n = 23) (_hk : cx.k = 0) (p : List Cell) {fu : Nat} {stt : Int × (List (Point × Int))} {tt : (List (Point × Int))} (hh : ar (dK p) fu stt = some tt) {ρ : Env} {σ : Sto}
  (hE : bn (fun stt : Int × (List (Point × Int)) => match stt with | (a, _m) => [(3, .u (.one (.map 6))), (7, .u (.one (.d (.sl 3 (List.map Cell.row p))))), (8, .u (.one (.d (.int .i64 (ak p))))), (9, .u (.one (.d (.int .i64 a))))]) (fun stt : Int × (List (Point × Int)) => match stt with | (_a, m) => [(6, mOb (.ints 2) Point.key (uL (L.int .i64)) m)]) stt ρ σ) : Swp Tryz.prog cx (.loop (cj [1, 1, 0, 1, 0, 0] (aX Tryz.f59))) ρ σ (fO cx p tt) := by
 refine bo hE hh (fO cx p) (fun _ => by rfl) (fun _ => by rfl) ?_
 rintro ⟨a, m⟩ r hm ρ σ hf
 simp only [Fits, az, aA, and_true] at hf
 unfold dK at hm
 dsimp only at hm
 refine srs hn (by kernel_rfl) ?_
 simp -dsimp [hf]
 refine ai ?_
 rcases am hm with ⟨c1, hm⟩ | ⟨c1, hm⟩
 ·refine ab (b := (ltB a (ak p))) (by simp -dsimp) c1 ?_
  refine ae (a7 (ai (ap ?_)))
  refine srs hn (by kernel_rfl) ?_
  obtain ⟨x, h2, hm⟩ := bnd hm
  simp -dsimp [hf, c1, h2]
  refine sr1 hn (by kernel_rfl) ?_
  obtain ⟨u, h3, hm⟩ := bnd hm
  simp -dsimp [hf, gR h3 (.head _), gR h3 (.tail _ (.head _)), (@id (msetOb (mOb (.ints 2) Point.key (uL (L.int .i64)) m) (.ints [x.X, x.Y]) (.one (.d (.int .i64 x.S))) = mOb (.ints 2) Point.key (uL (L.int .i64)) (i7 m (⟨x.X, x.Y⟩ : Point) x.S)) (mset_ob (.ints 2) Point.key (uL (L.int .i64)) m (⟨x.X, x.Y⟩ : Point) x.S))]
  refine aY ?_
  refine a7 ?_
  refine sr1 hn (by kernel_rfl) ?_
  simp -dsimp [hf]
  cases hm
  refine aJ ?_
  refine EE.here ?_
  simp -dsimp [hf]
 ·refine aa (b := (ltB a (ak p))) (by simp -dsimp) c1 ?_
  refine aD ?_
  refine aj ?_
  cases hm
  refine au nofun ?_
  unfold fO
  dsimp only
  refine ⟨rfl, ?_⟩
  refine EE.here ?_
  simp -dsimp [hf, c1]
theorem g_direct_of (p : List Cell) (r : List (Point × Int)) (hm : fS p = some r) : GFn Tryz.prog 59 [.u (.one (.d (.sl 3 (List.map Cell.row p))))] [] (.u (.one (.map 1000000))) [some (mOb (.ints 2) Point.key (uL (L.int .i64)) r)] := by
 refine g_intro' bj _ Tryz.func59 rfl (by kernel_rfl) (by simp [Tryz.ntmps59]) (by simp) (by first | rfl | simp) (by first | rfl | simp) fun cx hn hk => ?_
 replace hn : cx.n = 23 := hn.trans Tryz.ntmps59
 replace hk : cx.k = 0 := hk
 unfold fS at hm
 refine srs hn (by kernel_rfl) ?_
 simp -dsimp []
 refine srs hn (by kernel_rfl) ?_
 simp -dsimp [(@id (Ob.map (.ints 2) [] = mOb (.ints 2) Point.key (uL (L.int .i64)) ([] : List (Point × Int))) (mOb_nil (.ints 2) Point.key (uL (L.int .i64))))]
 refine ai ?_
 refine srs hn (by kernel_rfl) ?_
 simp -dsimp
 refine ap ?_
 obtain ⟨m, g4, hm⟩ := bnd hm
 refine aW [(3, .u (.one (.map 6))), (7, .u (.one (.d (.sl 3 (List.map Cell.row p))))), (8, .u (.one (.d (.int .i64 (ak p))))), (9, .u (.one (.d (.int .i64 0))))] [(6, mOb (.ints 2) Point.key (uL (L.int .i64)) [])] (by rfl) (by rfl) (by
   refine EE.here ?_
   simp -dsimp
 ) fun ρ σ hf => ?_
 refine (l_direct_of_1 cx hn hk p g4 hf).mono fun ee ρ σ x5 => ?_
 unfold fO at x5
 dsimp only at x5
 obtain ⟨rfl, x5⟩ := x5
 refine aF ?_
 refine a7 ?_
 refine bl (by rfl) (by rfl) x5 fun ρ σ hf => ?_
 simp only [Fits, az, aA, and_true] at hf
 refine srs hn (by kernel_rfl) ?_
 simp -dsimp [hf]
 refine ah ?_
 cases hm
 refine ⟨.inr rfl, ?_⟩
 refine EE.step (Wk.move 6 1000000 (by decide) (.inr (by rw [hk]; decide))) ?_
 refine EE.here ?_
 simp -dsimp [hf]
def ck (cx : Cx) (m : List (Point × Int)) (_t : Tree) (_p : Point) (tt : Int) (ee : Exit) (ρ : Env) (σ : Sto) : Prop := match tt with
 | k => ee = .exit 0 ∧ EE cx (b6 [(7, .u (.one (.d (.int .i64 k))))] [(1000000, mOb (.ints 2) Point.key (uL (L.int .i64)) m)]) ρ σ
theorem hG (cx : Cx) (hn : cx.n = 44) (_hk : cx.k = 1) (m : List (Point × Int)) (t : Tree) (p : Point) {fu : Nat} {stt : Int × Int} {tt : Int} (hh : ar (bm m t p) fu stt = some tt) {ρ : Env} {σ : Sto}
  (hE : bn (fun stt : Int × Int => match stt with | (k, a) => [(0, .u (.one (.map 1000000))), (4, .u (.one (.box 4 0))), (5, .u (.one (.box 5 0))), (7, .u (.one (.d (.int .i64 k)))), (15, .u (.one (.d (.sl 2 (List.map Point.row t.Hood))))), (16, .u (.one (.d (.int .i64 (ak t.Hood))))), (17, .u (.one (.d (.int .i64 a))))]) (fun stt : Int × Int => match stt with | (_k, _a) => [(4, .box [.d (.int .i64 t.States), .d (.sl 2 (List.map Point.row t.Hood)), .d (.sl 2 (List.map Node.row t.Nodes))]), (5, .box [.d (.int .i64 p.X), .d (.int .i64 p.Y)]), (1000000, mOb (.ints 2) Point.key (uL (L.int .i64)) m)]) stt ρ σ) : Swp Tryz.prog cx (.loop (cj [1, 1, 0, 1, 0, 0] (aX Tryz.f60))) ρ σ (ck cx m t p tt) := by
 refine bo hE hh (ck cx m t p) (fun _ => by rfl) (fun _ => by rfl) ?_
 rintro ⟨k, a⟩ r hm ρ σ hf
 simp only [Fits, az, aA, and_true] at hf
 unfold bm at hm
 dsimp only at hm
 refine srs hn (by kernel_rfl) ?_
 simp -dsimp [hf]
 refine ai ?_
 rcases am hm with ⟨c1, hm⟩ | ⟨c1, hm⟩
 ·refine ab (b := (ltB a (ak t.Hood))) (by simp -dsimp) c1 ?_
  refine ae (a7 (ai (ap ?_)))
  refine srs hn (by kernel_rfl) ?_
  obtain ⟨x, h2, hm⟩ := bnd hm
  simp -dsimp [hf, c1, h2]
  refine sw_qt bj mixed (by rw [hn]; kernel_rfl) ?_
  obtain ⟨x1, h3, hm⟩ := bnd hm
  obtain ⟨u, h4, hm⟩ := bnd hm
  obtain ⟨x2, h5, hm⟩ := bnd hm
  simp -dsimp [hf, h3, gR h4 (.head _), gR h4 (.tail _ (.head _)), (@id (lkM (mgetOb (mOb (.ints 2) Point.key (uL (L.int .i64)) m) (.ints [(aQ .i64 p.X x.X), (aQ .i64 p.Y x.Y)])) false (.one (.d (.int .i64 0))) = some (.u (.one (.d (.int .i64 (ff m (⟨(aQ .i64 p.X x.X), (aQ .i64 p.Y x.Y)⟩ : Point) 0)))))) (lk_val (⟨(aQ .i64 p.X x.X), (aQ .i64 p.Y x.Y)⟩ : Point) 0)), h5]
  refine aY ?_
  refine a7 ?_
  refine sr1 hn (by kernel_rfl) ?_
  simp -dsimp [hf]
  cases hm
  refine aJ ?_
  refine EE.here ?_
  simp -dsimp [hf]
 ·refine aa (b := (ltB a (ak t.Hood))) (by simp -dsimp) c1 ?_
  refine aD ?_
  refine aj ?_
  cases hm
  refine au nofun ?_
  unfold ck
  dsimp only
  refine ⟨rfl, ?_⟩
  refine EE.here ?_
  simp -dsimp [hf, c1]
theorem g_direct_cells_next_o (m : List (Point × Int)) (t : Tree) (p : Point) (r : Int) (hm : bT m t p = some r) : GFn Tryz.prog 60 [.u (.one (.map 1000000)), .u (.agg [.d (.int .i64 t.States), .d (.sl 2 (List.map Point.row t.Hood)), .d (.sl 2 (List.map Node.row t.Nodes))]), .u (.agg [.d (.int .i64 p.X), .d (.int .i64 p.Y)])] [mOb (.ints 2) Point.key (uL (L.int .i64)) m] (.u (.one (.d (.int .i64 r)))) [some (mOb (.ints 2) Point.key (uL (L.int .i64)) m)] := by
 refine g_intro' bj _ Tryz.func60 rfl (by kernel_rfl) (by simp [Tryz.ntmps60]) (by simp) (by first | rfl | simp) (by first | rfl | simp) fun cx hn hk => ?_
 replace hn : cx.n = 44 := hn.trans Tryz.ntmps60
 replace hk : cx.k = 1 := hk
 unfold bT at hm
 refine srs hn (by kernel_rfl) ?_
 simp -dsimp []
 refine srs hn (by kernel_rfl) ?_
 simp -dsimp []
 refine ai ?_
 refine srs hn (by kernel_rfl) ?_
 simp -dsimp []
 refine ap ?_
 obtain ⟨k, g6, hm⟩ := bnd hm
 refine aW [(0, .u (.one (.map 1000000))), (4, .u (.one (.box 4 0))), (5, .u (.one (.box 5 0))), (7, .u (.one (.d (.int .i64 (aM .i64 (ak t.Nodes) 1))))), (15, .u (.one (.d (.sl 2 (List.map Point.row t.Hood))))), (16, .u (.one (.d (.int .i64 (ak t.Hood))))), (17, .u (.one (.d (.int .i64 0))))] [(4, .box [.d (.int .i64 t.States), .d (.sl 2 (List.map Point.row t.Hood)), .d (.sl 2 (List.map Node.row t.Nodes))]), (5, .box [.d (.int .i64 p.X), .d (.int .i64 p.Y)]), (1000000, mOb (.ints 2) Point.key (uL (L.int .i64)) m)] (by rfl) (by rfl) (by
   refine EE.here ?_
   simp -dsimp []
 ) fun ρ σ hf => ?_
 refine (hG cx hn hk m t p g6 hf).mono fun ee ρ σ x7 => ?_
 unfold ck at x7
 dsimp only at x7
 obtain ⟨rfl, x7⟩ := x7
 refine aF ?_
 refine a7 ?_
 refine bl (by rfl) (by rfl) x7 fun ρ σ hf => ?_
 simp only [Fits, az, aA, and_true] at hf
 refine srs hn (by kernel_rfl) ?_
 simp -dsimp [hf]
 refine ah ?_
 cases hm
 refine ⟨.inr rfl, ?_⟩
 refine EE.here ?_
 simp -dsimp [hf]
theorem f_direct_place (p : Point) (r : Bool) (hm : ec p = some r) : PFn Tryz.prog 61 [.u (.agg [.d (.int .i64 p.X), .d (.int .i64 p.Y)])] (fun v => v.wk (.u (.one (.d (.bool r))))) := by
 refine bv Tryz.func61 Tryz.ntmps61 rfl (by kernel_rfl) (by simp) fun cx hn => ?_
 unfold ec at hm
 refine srs hn (by kernel_rfl) ?_
 simp -dsimp []
 obtain ⟨a, j2, hm⟩ := bnd hm
 refine av [(2, .u (.one (.d (.bool a))))] [] (by rfl) (by rfl) ?_ fun ρ σ hf => ?_
 ·replace hm := j2
  clear j2
  refine sr1 hn (by kernel_rfl) ?_
  rcases am hm with ⟨c1, hm⟩ | ⟨c1, hm⟩
  ·simp -dsimp [c1]
   refine a7 ?_
   cases hm
   refine EE.here ?_
   simp -dsimp
  ·simp -dsimp [c1]
   refine a7 ?_
   cases hm
   refine EE.here ?_
   simp -dsimp
 ·clear j2
  simp only [Fits, az, aA, and_true] at hf
  refine ah ?_
  cases hm
  refine ⟨.inr rfl, ?_⟩
  refine EE.here ?_
  simp -dsimp [hf]
theorem c_direct_place (p : Point) (r : Bool) (hm : ec p = some r) : PureCall Tryz.prog 61 [.u (.agg [.d (.int .i64 p.X), .d (.int .i64 p.Y)])] (.u (.one (.d (.bool r)))) := (f_direct_place p r hm).pureW
end Go.Proofs.YtdjclgfbggfpaaaGreatDoor
