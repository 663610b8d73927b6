/- That the code does what the functions say (made by cc.py). -/
import Derived.Test.YtfpjnmhdbgbmmaaGreatDoorWa8
namespace Go.Proofs.YtfpjnmhdbgbmmaaGreatDoor
open Go.AM Go.Proofs
attribute [-simp] qlookup du fQ Ob.wipe Ob.ren Ob.frz1
section
attribute [-simp] List.map_set List.set_set
def F_reduce_Turn_1 (cx : Cx) (_k : Int) (y1 : Int × (List Node) × (List Point)) (tt : (List Point)) (ee : Exit) (ρ : Env) (σ : Sto) : Prop := match tt with
 | l => ee = .exit 0 ∧ EE cx (aS [(4, .u (.one (.box 4 0))), (6, .u (.one (.box 6 0)))] [(4, .box [.d (.int .i64 0), .d .nil, .d .nil]), (6, .box [.d (.int .i64 y1.1), .own 5000, .d (.sl 2 (List.map Node.row y1.2.1))]), (5000, .row 2 71 (List.map Point.row l))]) ρ σ
theorem l_reduce_Turn_1 (cx : Cx) (hn : cx.n = 83) (k : Int) (y1 : Int × (List Node) × (List Point)) {fu : Nat} {stt : Int × (List Point)} {tt : (List Point)} (hh : ak (j1 k y1) fu stt = some tt) {ρ : Env} {σ : Sto}
  (hE : aW (fun stt : Int × (List Point) => match stt with | (a, _l) => [(0, .u (.one (.d (.int .i64 k)))), (4, .u (.one (.box 4 0))), (6, .u (.one (.box 6 0))), (18, .u (.one (.own 5000))), (19, .u (.one (.d (.int .i64 (ah y1.2.2))))), (20, .u (.one (.d (.int .i64 a))))]) (fun stt : Int × (List Point) => match stt with | (_a, l) => [(4, .box [.d (.int .i64 0), .d .nil, .d .nil]), (6, .box [.d (.int .i64 y1.1), .own 5000, .d (.sl 2 (List.map Node.row y1.2.1))]), (5000, .row 2 71 (List.map Point.row l))]) stt ρ σ) : Swp Tryz.prog cx (.loop (bg [1, 1, 1, 0, 1, 0, 0] (aK Tryz.f47))) ρ σ (F_reduce_Turn_1 cx k y1 tt) := by
 refine aY hE hh (F_reduce_Turn_1 cx k y1) ?_
 rintro ⟨a, l⟩ r hm ρ σ hf
 simp only [Fits, ar, ap, and_true] at hf
 unfold j1 at hm
 dsimp only at hm
 refine srs hn ?_
 simp -dsimp [hf]
 refine ac ?_
 rcases aj hm with ⟨c4, hm⟩ | ⟨c4, hm⟩
 ·refine a8 (b := (ltB a (ah y1.2.2))) (by simp -dsimp) c4 ?_
  refine aa (a6 (ac (ai ?_)))
  refine srs hn ?_
  obtain ⟨x, h5, hm⟩ := bnd hm
  simp -dsimp [hf, c4, h5, bX h5]
  refine sw_drN aL mixed 6 (by rw [hn]; kernel_rfl) ?_
  dsimp only [List.take, List.drop]
  obtain ⟨y2, h6, hm⟩ := bnd hm
  simp -dsimp [hf]
  refine al (iC k x y2 h6) ?_
  simp -dsimp [hf, h5, bX h5, Point.rset l a.toNat y2.X y2.Y]
  refine aM ?_
  refine a6 ?_
  refine sr1 hn ?_
  simp -dsimp [hf]
  cases hm
  refine az ?_
  exact EE.here (by simp -dsimp [hf])
 ·refine a7 (b := (ltB a (ah y1.2.2))) (by simp -dsimp) c4 ?_
  refine aw ?_
  refine ae ?_
  cases hm
  refine am nofun ?_
  unfold F_reduce_Turn_1
  dsimp only
  refine ⟨rfl, ?_⟩
  exact EE.here (by simp -dsimp [hf, c4])
def F_reduce_Turn_3 (cx : Cx) (y1 : Int × (List Node) × (List Point)) (l : List Point) (tt : Unit) (ee : Exit) (ρ : Env) (σ : Sto) : Prop := match tt with
 | _u => ee = .exit 4 ∧ EE cx (aS [(4, .u (.one (.box 4 0))), (6, .u (.one (.box 6 0))), (9, .u (.one (.d (.bool true))))] [(4, .box [.d (.int .i64 0), .d .nil, .d .nil]), (6, .box [.d (.int .i64 y1.1), .own 5000, .d (.sl 2 (List.map Node.row y1.2.1))]), (5000, .row 2 71 (List.map Point.row l))]) ρ σ
theorem l_reduce_Turn_3 (cx : Cx) (hn : cx.n = 83) (y1 : Int × (List Node) × (List Point)) (l : List Point) {fu : Nat} {stt : Int} {tt : Unit} (hh : ak (iY y1 l) fu stt = some tt) {ρ : Env} {σ : Sto}
  (hE : aW (fun i : Int => [(4, .u (.one (.box 4 0))), (6, .u (.one (.box 6 0))), (9, .u (.one (.d (.bool true)))), (10, .u (.one (.d (.int .i64 i))))]) (fun _i : Int => [(4, .box [.d (.int .i64 0), .d .nil, .d .nil]), (6, .box [.d (.int .i64 y1.1), .own 5000, .d (.sl 2 (List.map Node.row y1.2.1))]), (5000, .row 2 71 (List.map Point.row l))]) stt ρ σ) : Swp Tryz.prog cx (.loop (bg [1, 1, 1, 1, 0, 1, 0, 0, 1, 0, 1, 1, 0, 0] (aK Tryz.f47))) ρ σ (F_reduce_Turn_3 cx y1 l tt) := by
 refine aY hE hh (F_reduce_Turn_3 cx y1 l) ?_
 rintro i r hm ρ σ hf
 simp only [Fits, ar, ap, and_true] at hf
 unfold iY at hm
 dsimp only at hm
 refine ac ?_
 refine srs hn ?_
 simp -dsimp [hf]
 rcases aj hm with ⟨c10, hm⟩ | ⟨c10, hm⟩
 ·refine a8 (b := (ltB i (ah l))) (by simp -dsimp) c10 ?_
  refine aa (a6 (ac (ai ?_)))
  refine bF aL mixed (by rw [hn]; kernel_rfl) ?_
  obtain ⟨x, h11, hm⟩ := bnd hm
  obtain ⟨x1, h12, hm⟩ := bnd hm
  obtain ⟨y2, h13, hm⟩ := bnd hm
  simp -dsimp [hf, c10, h11, bX h11, h12, bX h12]
  refine al (j0 x x1 y2 h13) ?_
  simp -dsimp
  rcases aj hm with ⟨c14, hm⟩ | ⟨c14, hm⟩
  ·refine a8 (b := (gtB y2 0)) (by simp -dsimp) c14 ?_
   refine srs hn ?_
   cases hm
  ·refine a7 (b := (gtB y2 0)) (by simp -dsimp) c14 ?_
   refine aa ?_
   refine aM ?_
   refine a6 ?_
   refine sr1 hn ?_
   simp -dsimp [hf, c14]
   cases hm
   refine az ?_
   exact EE.here (by simp -dsimp [hf])
 ·refine a7 (b := (ltB i (ah l))) (by simp -dsimp) c10 ?_
  refine aw ?_
  refine ae ?_
  cases hm
  refine am nofun ?_
  unfold F_reduce_Turn_3
  dsimp only
  refine ⟨rfl, ?_⟩
  exact EE.here (by simp -dsimp [hf, c10])
def F_reduce_Turn_2 (cx : Cx) (y1 : Int × (List Node) × (List Point)) (l : List Point) (tt : Unit) (ee : Exit) (ρ : Env) (σ : Sto) : Prop := match tt with
 | _u => ee = .exit 2 ∧ EE cx (aS [(4, .u (.one (.box 4 0))), (6, .u (.one (.box 6 0)))] [(4, .box [.d (.int .i64 0), .d .nil, .d .nil]), (6, .box [.d (.int .i64 y1.1), .own 5000, .d (.sl 2 (List.map Node.row y1.2.1))]), (5000, .row 2 71 (List.map Point.row l))]) ρ σ
theorem l_reduce_Turn_2 (cx : Cx) (hn : cx.n = 83) (y1 : Int × (List Node) × (List Point)) (l : List Point) {fu : Nat} {stt : Bool} {tt : Unit} (hh : ak (jb y1 l) fu stt = some tt) {ρ : Env} {σ : Sto}
  (hE : aW (fun sorted : Bool => [(4, .u (.one (.box 4 0))), (6, .u (.one (.box 6 0))), (9, .u (.one (.d (.bool sorted))))]) (fun _sorted : Bool => [(4, .box [.d (.int .i64 0), .d .nil, .d .nil]), (6, .box [.d (.int .i64 y1.1), .own 5000, .d (.sl 2 (List.map Node.row y1.2.1))]), (5000, .row 2 71 (List.map Point.row l))]) stt ρ σ) : Swp Tryz.prog cx (.loop (bg [1, 1, 1, 1, 0, 1, 0, 0] (aK Tryz.f47))) ρ σ (F_reduce_Turn_2 cx y1 l tt) := by
 refine aY hE hh (F_reduce_Turn_2 cx y1 l) ?_
 rintro sorted r hm ρ σ hf
 simp only [Fits, ar, ap, and_true] at hf
 unfold jb at hm
 dsimp only at hm
 refine ac ?_
 refine srs hn ?_
 simp -dsimp [hf]
 rcases aj hm with ⟨c9, hm⟩ | ⟨c9, hm⟩
 ·refine a8 (b := (aD sorted)) (by simp -dsimp) c9 ?_
  refine aa (a6 (ai ?_))
  refine srs hn ?_
  simp -dsimp [c9]
  refine srs hn ?_
  simp -dsimp
  refine ai ?_
  obtain ⟨_u, g15, hm⟩ := bnd hm
  refine aJ (l_reduce_Turn_3 cx hn y1 l g15) (by
    try dsimp only
    exact EE.here (by simp -dsimp [hf])
  ) fun ee ρ σ x16 => ?_
  unfold F_reduce_Turn_3 at x16
  dsimp only at x16
  obtain ⟨rfl, x16⟩ := x16
  refine av ?_
  refine aM ?_
  cases hm
  refine az ?_
  refine ee_bind (by rfl) (by rfl) x16 fun ρ σ hf => ?_
  simp only [Fits, ar, ap, and_true] at hf
  exact EE.here (by simp -dsimp [hf])
 ·refine a7 (b := (aD sorted)) (by simp -dsimp) c9 ?_
  refine aw ?_
  refine ae ?_
  cases hm
  refine am nofun ?_
  unfold F_reduce_Turn_2
  dsimp only
  refine ⟨rfl, ?_⟩
  exact EE.here (by simp -dsimp [hf, c9])
theorem f_reduce_Turn (k : Int) (t : Tree) (r : Tree × Int) (hm : iM k t = some r) : PFn Tryz.prog 47 [.u (.one (.d (.int .i64 k))), .u (.agg [.d (.int .i64 t.States), .d (.sl 2 (List.map Point.row t.Hood)), .d (.sl 2 (List.map Node.row t.Nodes))])] (fun v => v.wk (.tup [.agg [.d (.int .i64 r.1.States), .d (.sl 2 (List.map Point.row r.1.Hood)), .d (.sl 2 (List.map Node.row r.1.Nodes))], .one (.d (.int .i64 r.2))])) := by
 refine aV Tryz.func47 Tryz.ntmps47 rfl (by kernel_rfl) (by simp) fun cx hn => ?_
 unfold iM at hm
 refine srs hn ?_
 simp -dsimp
 refine ac ?_
 refine srs hn ?_
 obtain ⟨y, h1, hm⟩ := bnd hm
 simp -dsimp
 refine ag (fC t y h1) (dkL hn) ?_
 simp -dsimp
 rcases aj hm with ⟨c2, hm⟩ | ⟨c2, hm⟩
 ·refine a8 (b := (aD y)) (by simp -dsimp) c2 ?_
  refine srs hn ?_
  simp -dsimp [c2]
  refine ab (ae ?_)
  cases hm
  refine ⟨.inr rfl, ?_⟩
  exact EE.here (by simp -dsimp)
 ·refine a7 (b := (aD y)) (by simp -dsimp) c2 ?_
  refine aa (a6 ?_)
  refine srs hn ?_
  obtain ⟨y1, h3, hm⟩ := bnd hm
  simp -dsimp [c2]
  refine d3 (g_reduce_Reduce_w t y1 h3) [] [5000] rfl rfl rfl (by simp -dsimp) rfl (by simp -dsimp) (by first | rfl | simp) rfl (dkL hn) ?_
  simp -dsimp
  refine ac ?_
  refine srs hn ?_
  simp -dsimp
  refine ai ?_
  obtain ⟨l, g7, hm⟩ := bnd hm
  refine aJ (l_reduce_Turn_1 cx hn k y1 g7) (by
    try dsimp only
    exact EE.here (by simp -dsimp)
  ) fun ee ρ σ x8 => ?_
  unfold F_reduce_Turn_1 at x8
  dsimp only at x8
  obtain ⟨rfl, x8⟩ := x8
  refine av ?_
  refine a6 ?_
  refine aX (by rfl) (by rfl) x8 fun ρ σ hf => ?_
  simp only [Fits, ar, ap, and_true] at hf
  refine ac ?_
  refine srs hn ?_
  simp -dsimp
  refine ai ?_
  obtain ⟨_u, g17, hm⟩ := bnd hm
  refine aJ (l_reduce_Turn_2 cx hn y1 l g17) (by
    try dsimp only
    exact EE.here (by simp -dsimp [hf])
  ) fun ee ρ σ x18 => ?_
  unfold F_reduce_Turn_2 at x18
  dsimp only at x18
  obtain ⟨rfl, x18⟩ := x18
  refine av ?_
  refine a6 ?_
  refine aX (by rfl) (by rfl) x18 fun ρ σ hf => ?_
  simp only [Fits, ar, ap, and_true] at hf
  refine Swp.pre (Wk.frz 5000 2 71 (List.map Point.row l) (by simp -dsimp [hf])) ?_
  refine srs hn ?_
  obtain ⟨y2, h19, hm⟩ := bnd hm
  simp -dsimp [hf]
  refine ag (c_reduce_sized (⟨y1.1, l, y1.2.1⟩ : Tree) y2 h19) (dkL hn) ?_
  simp -dsimp [hf]
  refine ab ?_
  cases hm
  refine ⟨.inr rfl, ?_⟩
  exact EE.here (by simp -dsimp [hf])
theorem c_reduce_Turn (k : Int) (t : Tree) (r : Tree × Int) (hm : iM k t = some r) : PureCall Tryz.prog 47 [.u (.one (.d (.int .i64 k))), .u (.agg [.d (.int .i64 t.States), .d (.sl 2 (List.map Point.row t.Hood)), .d (.sl 2 (List.map Node.row t.Nodes))])] (.tup [.agg [.d (.int .i64 r.1.States), .d (.sl 2 (List.map Point.row r.1.Hood)), .d (.sl 2 (List.map Node.row r.1.Nodes))], .one (.d (.int .i64 r.2))]) := (f_reduce_Turn k t r hm).pureW
end
section
attribute [-simp] List.map_set List.set_set
def F_reduce_rebuilt_reduce_Reduce_1_2 (cx : Cx) (t : Tree) (a : Int) (mp : List (List UInt8 × Int)) (l : List Node) (to_ : List Int) (x : Node) (_y : List Int) (tt : (List Int)) (ee : Exit) (ρ : Env) (σ : Sto) : Prop := match tt with
 | next => ee = .exit 2 ∧ EE cx (aS [(1, .u (.one (.fn 166 []))), (2, .u (.one (.box 2 0))), (4, .u (.one (.box 4 0))), (5, .u (.one (.box 5 0))), (6, .u (.one (.own 5002))), (8, .u (.one (.box 8 0))), (9, .u (.one (.own 23))), (15, .u (.one (.d (.sl 2 (List.map Node.row t.Nodes))))), (16, .u (.one (.d (.int .i64 (ah t.Nodes))))), (17, .u (.one (.d (.int .i64 a))))] [(2, .box [.d (.int .i64 t.States), .d (.sl 2 (List.map Point.row t.Hood)), .d (.sl 2 (List.map Node.row t.Nodes))]), (4, .box [.d (.int .i64 0), .d .nil, .d .nil]), (5, .box [.own 5000, .map 12]), (8, .box [.d (.int .i64 x.Level), .d (.sl 1 (List.map (rI .i64) x.Next))]), (12, mOb .str kS (uL (L.int .i64)) mp), (23, .row 1 3 (List.map (rI .i64) next)), (5000, .row 2 75 (List.map Node.row l)), (5002, .row 1 3 (List.map (rI .i64) to_))]) ρ σ
theorem l_reduce_rebuilt_reduce_Reduce_1_2 (cx : Cx) (hn : cx.n = 69) (t : Tree) (a : Int) (mp : List (List UInt8 × Int)) (l : List Node) (to_ : List Int) (x : Node) (y : List Int) {fu : Nat} {stt : Int × (List Int)} {tt : (List Int)} (hh : ak (bO t a mp l to_ x y) fu stt = some tt) {ρ : Env} {σ : Sto}
  (hE : aW (fun stt : Int × (List Int) => match stt with | (a1, _next) => [(1, .u (.one (.fn 166 []))), (2, .u (.one (.box 2 0))), (4, .u (.one (.box 4 0))), (5, .u (.one (.box 5 0))), (6, .u (.one (.own 5002))), (8, .u (.one (.box 8 0))), (9, .u (.one (.own 23))), (15, .u (.one (.d (.sl 2 (List.map Node.row t.Nodes))))), (16, .u (.one (.d (.int .i64 (ah t.Nodes))))), (17, .u (.one (.d (.int .i64 a)))), (24, .u (.one (.own 23))), (25, .u (.one (.d (.int .i64 (ah y))))), (26, .u (.one (.d (.int .i64 a1))))]) (fun stt : Int × (List Int) => match stt with | (_a1, next) => [(2, .box [.d (.int .i64 t.States), .d (.sl 2 (List.map Point.row t.Hood)), .d (.sl 2 (List.map Node.row t.Nodes))]), (4, .box [.d (.int .i64 0), .d .nil, .d .nil]), (5, .box [.own 5000, .map 12]), (8, .box [.d (.int .i64 x.Level), .d (.sl 1 (List.map (rI .i64) x.Next))]), (12, mOb .str kS (uL (L.int .i64)) mp), (23, .row 1 3 (List.map (rI .i64) next)), (5000, .row 2 75 (List.map Node.row l)), (5002, .row 1 3 (List.map (rI .i64) to_))]) stt ρ σ) : Swp Tryz.prog cx (.loop (bg [1, 1, 1, 0, 1, 0, 0, 1, 1, 0, 0, 1, 1, 0, 1, 0, 0] (aK Tryz.f165))) ρ σ (F_reduce_rebuilt_reduce_Reduce_1_2 cx t a mp l to_ x y tt) := by
 refine aY hE hh (F_reduce_rebuilt_reduce_Reduce_1_2 cx t a mp l to_ x y) ?_
 rintro ⟨a1, next⟩ r hm ρ σ hf
 simp only [Fits, ar, ap, and_true] at hf
 unfold bO at hm
 dsimp only at hm
 refine srs hn ?_
 simp -dsimp [hf]
 refine ac ?_
 rcases aj hm with ⟨c4, hm⟩ | ⟨c4, hm⟩
 ·refine a8 (b := (ltB a1 (ah y))) (by simp -dsimp) c4 ?_
  refine aa (a6 ?_)
  obtain ⟨next1, j8, hm⟩ := bnd hm
  refine au [(1, .u (.one (.fn 166 []))), (2, .u (.one (.box 2 0))), (4, .u (.one (.box 4 0))), (5, .u (.one (.box 5 0))), (6, .u (.one (.own 5002))), (8, .u (.one (.box 8 0))), (9, .u (.one (.own 23))), (15, .u (.one (.d (.sl 2 (List.map Node.row t.Nodes))))), (16, .u (.one (.d (.int .i64 (ah t.Nodes))))), (17, .u (.one (.d (.int .i64 a)))), (24, .u (.one (.own 23))), (25, .u (.one (.d (.int .i64 (ah y))))), (26, .u (.one (.d (.int .i64 a1))))] [(2, .box [.d (.int .i64 t.States), .d (.sl 2 (List.map Point.row t.Hood)), .d (.sl 2 (List.map Node.row t.Nodes))]), (4, .box [.d (.int .i64 0), .d .nil, .d .nil]), (5, .box [.own 5000, .map 12]), (8, .box [.d (.int .i64 x.Level), .d (.sl 1 (List.map (rI .i64) x.Next))]), (12, mOb .str kS (uL (L.int .i64)) mp), (23, .row 1 3 (List.map (rI .i64) next1)), (5000, .row 2 75 (List.map Node.row l)), (5002, .row 1 3 (List.map (rI .i64) to_))] (by rfl) (by rfl) ?_ fun ρ σ hf => ?_
  ·replace hm := j8
   clear j8
   refine ai ?_
   refine srs hn ?_
   obtain ⟨x1, h5, hm⟩ := bnd hm
   simp -dsimp [hf, c4, h5, bX h5]
   refine srs hn ?_
   simp -dsimp [hf]
   rcases aj hm with ⟨c6, hm⟩ | ⟨c6, hm⟩
   ·refine a8 (b := (gtB x.Level 1)) (by simp -dsimp) c6 ?_
    refine sr1 hn ?_
    obtain ⟨x2, h7, hm⟩ := bnd hm
    simp -dsimp [hf, h5, bX h5, c6, h7, bX h7, rsetI .i64 next a1.toNat x2]
    refine aM ?_
    refine a6 ?_
    cases hm
    exact EE.here (by simp -dsimp [hf])
   ·refine a7 (b := (gtB x.Level 1)) (by simp -dsimp) c6 ?_
    refine aa ?_
    refine aM ?_
    refine a6 ?_
    cases hm
    exact EE.here (by simp -dsimp [hf, c6])
  ·clear j8
   simp only [Fits, ar, ap, and_true] at hf
   refine sr1 hn ?_
   simp -dsimp [hf]
   cases hm
   refine az ?_
   exact EE.here (by simp -dsimp [hf])
 ·refine a7 (b := (ltB a1 (ah y))) (by simp -dsimp) c4 ?_
  refine aw ?_
  refine ae ?_
  cases hm
  refine am nofun ?_
  unfold F_reduce_rebuilt_reduce_Reduce_1_2
  dsimp only
  refine ⟨rfl, ?_⟩
  exact EE.here (by simp -dsimp [hf, c4])
def F_reduce_rebuilt_reduce_Reduce_1_1 (cx : Cx) (t : Tree) (tt : ((List (List UInt8 × Int)) × (List Node) × (List Int))) (ee : Exit) (ρ : Env) (σ : Sto) : Prop := match tt with
 | (mp, l, to_) => ee = .exit 0 ∧ EE cx (aS [(2, .u (.one (.box 2 0))), (4, .u (.one (.box 4 0))), (5, .u (.one (.box 5 0))), (6, .u (.one (.own 5002)))] [(2, .box [.d (.int .i64 t.States), .d (.sl 2 (List.map Point.row t.Hood)), .d (.sl 2 (List.map Node.row t.Nodes))]), (4, .box [.d (.int .i64 0), .d .nil, .d .nil]), (5, .box [.own 5000, .map 12]), (12, mOb .str kS (uL (L.int .i64)) mp), (5000, .row 2 75 (List.map Node.row l)), (5002, .row 1 3 (List.map (rI .i64) to_))]) ρ σ
theorem l_reduce_rebuilt_reduce_Reduce_1_1 (cx : Cx) (hn : cx.n = 69) (t : Tree) {fu : Nat} {stt : Int × (List (List UInt8 × Int)) × (List Node) × (List Int)} {tt : ((List (List UInt8 × Int)) × (List Node) × (List Int))} (hh : ak (bS t) fu stt = some tt) {ρ : Env} {σ : Sto}
  (hE : aW (fun stt : Int × (List (List UInt8 × Int)) × (List Node) × (List Int) => match stt with | (a, _mp, _l, _to_) => [(1, .u (.one (.fn 166 []))), (2, .u (.one (.box 2 0))), (4, .u (.one (.box 4 0))), (5, .u (.one (.box 5 0))), (6, .u (.one (.own 5002))), (15, .u (.one (.d (.sl 2 (List.map Node.row t.Nodes))))), (16, .u (.one (.d (.int .i64 (ah t.Nodes))))), (17, .u (.one (.d (.int .i64 a))))]) (fun stt : Int × (List (List UInt8 × Int)) × (List Node) × (List Int) => match stt with | (_a, mp, l, to_) => [(2, .box [.d (.int .i64 t.States), .d (.sl 2 (List.map Point.row t.Hood)), .d (.sl 2 (List.map Node.row t.Nodes))]), (4, .box [.d (.int .i64 0), .d .nil, .d .nil]), (5, .box [.own 5000, .map 12]), (12, mOb .str kS (uL (L.int .i64)) mp), (5000, .row 2 75 (List.map Node.row l)), (5002, .row 1 3 (List.map (rI .i64) to_))]) stt ρ σ) : Swp Tryz.prog cx (.loop (bg [1, 1, 1, 0, 1, 0, 0] (aK Tryz.f165))) ρ σ (F_reduce_rebuilt_reduce_Reduce_1_1 cx t tt) := by
 refine aY hE hh (F_reduce_rebuilt_reduce_Reduce_1_1 cx t) ?_
 rintro ⟨a, mp, l, to_⟩ r hm ρ σ hf
 simp only [Fits, ar, ap, and_true] at hf
 unfold bS at hm
 dsimp only at hm
 refine srs hn ?_
 simp -dsimp [hf]
 refine ac ?_
 rcases aj hm with ⟨c1, hm⟩ | ⟨c1, hm⟩
 ·refine a8 (b := (ltB a (ah t.Nodes))) (by simp -dsimp) c1 ?_
  refine aa (a6 (ac (ai ?_)))
  refine srs hn ?_
  obtain ⟨x, h2, hm⟩ := bnd hm
  simp -dsimp [hf, c1, h2]
  refine srs hn ?_
  obtain ⟨y, h3, hm⟩ := bnd hm
  simp -dsimp
  refine callL_new (n_slices_Clone_int_int x.Next y h3) (dkL hn) (by decide) ?_
  simp -dsimp
  refine ac ?_
  refine srs hn ?_
  simp -dsimp
  refine ai ?_
  obtain ⟨next, g9, hm⟩ := bnd hm
  refine aJ (l_reduce_rebuilt_reduce_Reduce_1_2 cx hn t a mp l to_ x y g9) (by
    try dsimp only
    exact EE.here (by simp -dsimp [hf])
  ) fun ee ρ σ x10 => ?_
  unfold F_reduce_rebuilt_reduce_Reduce_1_2 at x10
  dsimp only at x10
  obtain ⟨rfl, x10⟩ := x10
  refine av ?_
  refine a6 ?_
  refine aX (by rfl) (by rfl) x10 fun ρ σ hf => ?_
  simp only [Fits, ar, ap, and_true] at hf
  refine Swp.pre (Wk.frz 23 1 3 (List.map (rI .i64) next) (by simp -dsimp [hf])) ?_
  refine sw_midc aL mixed 8 9 10 0 [[0]] [[5001]] [true] none (by rw [hn]; kernel_rfl) gI ?_
  dsimp only [List.take, List.drop, iq, iQ, jT, pk, List.cons_append, List.nil_append, List.flatten_cons, List.flatten_nil, ff, fv, List.append_nil]
  obtain ⟨y1, h11, hm⟩ := bnd hm
  simp -dsimp [hf]
  refine al (c_reduce_Reduce_1 x.Level next y1 h11) ?_
  obtain ⟨y2, h12, hm⟩ := bnd hm
  simp -dsimp [hf]
  refine callE_g (g_reduce_builder_node_o l mp x.Level y1 y2 h12) [5, 5000, 12] [5001] rfl rfl rfl (by simp -dsimp) rfl (by simp -dsimp [hf]) (by first | rfl | simp) rfl (dkL hn) rfl rfl (by simp) nofun (by simp) ?_
  obtain ⟨l1, h13, hm⟩ := bnd hm
  obtain ⟨h13a, h13e⟩ := aN h13
  replace h13e := h13e.symm
  subst h13e
  try simp only [List.length_cons, List.length_nil, Nat.zero_add] at h13a
  simp -dsimp [hf, h13a]
  refine aM ?_
  refine a6 ?_
  refine sr1 hn ?_
  simp -dsimp [hf]
  cases hm
  refine az ?_
  refine EE.step (Wk.move 52 5002 (by decide) (.inl (by decide))) ?_
  refine EE.step (Wk.move 5001 5000 (by decide) (.inl (by decide))) ?_
  exact EE.here (by simp -dsimp [hf])
 ·refine a7 (b := (ltB a (ah t.Nodes))) (by simp -dsimp) c1 ?_
  refine aw ?_
  refine ae ?_
  cases hm
  refine am nofun ?_
  unfold F_reduce_rebuilt_reduce_Reduce_1_1
  dsimp only
  refine ⟨rfl, ?_⟩
  exact EE.here (by simp -dsimp [hf, c1])
theorem f_reduce_rebuilt_reduce_Reduce_1 (t : Tree) (r : Tree) (hm : bm t = some r) : PFn Tryz.prog 165 [.u (.agg [.d (.int .i64 t.States), .d (.sl 2 (List.map Point.row t.Hood)), .d (.sl 2 (List.map Node.row t.Nodes))]), .u (.one (.fn 166 []))] (fun v => v.wk (.u (.agg [.d (.int .i64 r.States), .d (.sl 2 (List.map Point.row r.Hood)), .d (.sl 2 (List.map Node.row r.Nodes))]))) := by
 refine aV Tryz.func165 Tryz.ntmps165 rfl (by kernel_rfl) (by simp) fun cx hn => ?_
 unfold bm at hm
 refine srs hn ?_
 simp -dsimp
 refine srs hn ?_
 simp -dsimp [(@id (Ob.map .str [] = mOb .str kS (uL (L.int .i64)) ([] : List (List UInt8 × Int))) (mOb_nil .str kS (uL (L.int .i64))))]
 refine srs hn ?_
 simp -dsimp
 refine ac ?_
 refine srs hn ?_
 simp -dsimp
 refine ai ?_
 obtain ⟨⟨mp, l, to_⟩, g14, hm⟩ := bnd hm
 refine aJ (l_reduce_rebuilt_reduce_Reduce_1_1 cx hn t g14) (by
   try dsimp only
   refine EE.step (Wk.own0 6 5002 1 3 (by simp -dsimp) (by decide)) ?_
   refine EE.step (Wk.own0b 5 0 5000 2 75 [.d .nil, .map 12] (by simp -dsimp) (by rfl) (by decide) (by decide)) ?_
   exact EE.here (by simp -dsimp)
 ) fun ee ρ σ x15 => ?_
 unfold F_reduce_rebuilt_reduce_Reduce_1_1 at x15
 dsimp only at x15
 obtain ⟨rfl, x15⟩ := x15
 refine av ?_
 refine a6 ?_
 refine aX (by rfl) (by rfl) x15 fun ρ σ hf => ?_
 simp only [Fits, ar, ap, and_true] at hf
 refine Swp.pre (Wk.frz 5000 2 75 (List.map Node.row l) (by simp -dsimp [hf])) ?_
 refine sw_drNs aL mixed 14 (by rw [hn]; kernel_rfl) ?_
 dsimp only [List.take, List.drop]
 obtain ⟨y, h16, hm⟩ := bnd hm
 simp -dsimp [hf]
 refine al (c_slices_Clone_api_Point_api_Point t.Hood y h16) ?_
 obtain ⟨x, h17, hm⟩ := bnd hm
 obtain ⟨y1, h18, hm⟩ := bnd hm
 simp -dsimp [hf, h17, bX h17]
 refine al (c_reduce_ordered l x y1 h18) ?_
 simp -dsimp [hf]
 refine ab ?_
 cases hm
 refine ⟨.inr rfl, ?_⟩
 exact EE.here (by simp -dsimp [hf])
theorem c_reduce_rebuilt_reduce_Reduce_1 (t : Tree) (r : Tree) (hm : bm t = some r) : PureCall Tryz.prog 165 [.u (.agg [.d (.int .i64 t.States), .d (.sl 2 (List.map Point.row t.Hood)), .d (.sl 2 (List.map Node.row t.Nodes))]), .u (.one (.fn 166 []))] (.u (.agg [.d (.int .i64 r.States), .d (.sl 2 (List.map Point.row r.Hood)), .d (.sl 2 (List.map Node.row r.Nodes))])) := (f_reduce_rebuilt_reduce_Reduce_1 t r hm).pureW
end
theorem f_reduce_Reduce (t : Tree) (r : Tree) (hm : eO t = some r) : PFn Tryz.prog 103 [.u (.agg [.d (.int .i64 t.States), .d (.sl 2 (List.map Point.row t.Hood)), .d (.sl 2 (List.map Node.row t.Nodes))])] (fun v => v.wk (.u (.agg [.d (.int .i64 r.States), .d (.sl 2 (List.map Point.row r.Hood)), .d (.sl 2 (List.map Node.row r.Nodes))]))) := by
 refine aV Tryz.func103 Tryz.ntmps103 rfl (by kernel_rfl) (by simp) fun cx hn => ?_
 unfold eO at hm
 refine srs hn ?_
 simp -dsimp
 refine ac ?_
 refine srs hn ?_
 obtain ⟨y, h1, hm⟩ := bnd hm
 simp -dsimp
 refine ag (fC t y h1) (dkL hn) ?_
 simp -dsimp
 rcases aj hm with ⟨c2, hm⟩ | ⟨c2, hm⟩
 ·refine a8 (b := (aD y)) (by simp -dsimp) c2 ?_
  refine srs hn ?_
  simp -dsimp [c2]
  refine ab (ae ?_)
  cases hm
  refine ⟨.inr rfl, ?_⟩
  exact EE.here (by simp -dsimp)
 ·refine a7 (b := (aD y)) (by simp -dsimp) c2 ?_
  refine aa (a6 ?_)
  refine srs hn ?_
  obtain ⟨y1, h3, hm⟩ := bnd hm
  simp -dsimp [c2]
  refine ag (c_reduce_rebuilt_reduce_Reduce_1 t y1 h3) (dkL hn) ?_
  simp -dsimp
  refine ab ?_
  cases hm
  refine ⟨.inr rfl, ?_⟩
  exact EE.here (by simp -dsimp)
theorem c_reduce_Reduce (t : Tree) (r : Tree) (hm : eO t = some r) : PureCall Tryz.prog 103 [.u (.agg [.d (.int .i64 t.States), .d (.sl 2 (List.map Point.row t.Hood)), .d (.sl 2 (List.map Node.row t.Nodes))])] (.u (.agg [.d (.int .i64 r.States), .d (.sl 2 (List.map Point.row r.Hood)), .d (.sl 2 (List.map Node.row r.Nodes))])) := (f_reduce_Reduce t r hm).pureW
def F_slices_Equal_int_int_1 (cx : Cx) (_s1 : List Int) (_s2 : List Int) (tt : Bool ⊕ Unit) (ee : Exit) (ρ : Env) (σ : Sto) : Prop := match tt with
 | .inl r => ee = .ret ∧ EE cx (fun ρ σ => ∃ v, resV tb ρ σ Tryz.f172.results.toList = some v ∧ (v.frz σ).free = true ∧ (v.frz σ).wk (.u (.one (.d (.bool r))))) ρ σ
 | .inr _u => ee = .exit 0 ∧ EE cx (aS [] []) ρ σ
theorem l_slices_Equal_int_int_1 (cx : Cx) (hn : cx.n = 26) (s1 : List Int) (s2 : List Int) {fu : Nat} {stt : Int} {tt : Bool ⊕ Unit} (hh : ak (dQ s1 s2) fu stt = some tt) {ρ : Env} {σ : Sto}
  (hE : aW (fun a : Int => [(0, .u (.one (.d (.sl 1 (List.map (rI .i64) s1))))), (1, .u (.one (.d (.sl 1 (List.map (rI .i64) s2))))), (12, .u (.one (.d (.int .i64 (ah s1))))), (13, .u (.one (.d (.int .i64 a))))]) (fun _a : Int => []) stt ρ σ) : Swp Tryz.prog cx (.loop (bg [1, 1, 0, 1, 0, 0] (aK Tryz.f172))) ρ σ (F_slices_Equal_int_int_1 cx s1 s2 tt) := by
 refine aY hE hh (F_slices_Equal_int_int_1 cx s1 s2) ?_
 rintro a r hm ρ σ hf
 simp only [Fits, ar, ap, and_true] at hf
 unfold dQ at hm
 dsimp only at hm
 refine srs hn ?_
 simp -dsimp [hf]
 refine ac ?_
 rcases aj hm with ⟨c2, hm⟩ | ⟨c2, hm⟩
 ·refine a8 (b := (ltB a (ah s1))) (by simp -dsimp) c2 ?_
  refine aa (a6 (ac (ai ?_)))
  refine srs hn ?_
  simp -dsimp [hf, c2]
  refine bF aL mixed (by rw [hn]; kernel_rfl) ?_
  obtain ⟨x, h3, hm⟩ := bnd hm
  obtain ⟨x1, h4, hm⟩ := bnd hm
  simp -dsimp [hf, h3, h4]
  rcases aj hm with ⟨c5, hm⟩ | ⟨c5, hm⟩
  ·refine a8 (b := (neB x x1)) (by simp -dsimp) c5 ?_
   refine srs hn ?_
   simp -dsimp [c5]
   refine ab (aH (ae ?_))
   cases hm
   refine am nofun ?_
   unfold F_slices_Equal_int_int_1
   dsimp only
   refine ⟨rfl, ?_⟩
   exact EE.here (by simp -dsimp [Tryz.results172])
  ·refine a7 (b := (neB x x1)) (by simp -dsimp) c5 ?_
   refine aa ?_
   refine aM ?_
   refine a6 ?_
   refine sr1 hn ?_
   simp -dsimp [hf, c5]
   cases hm
   refine az ?_
   exact EE.here (by simp -dsimp [hf])
 ·refine a7 (b := (ltB a (ah s1))) (by simp -dsimp) c2 ?_
  refine aw ?_
  refine ae ?_
  cases hm
  refine am nofun ?_
  unfold F_slices_Equal_int_int_1
  dsimp only
  refine ⟨rfl, ?_⟩
  exact EE.here (by simp -dsimp [c2])
theorem f_slices_Equal_int_int (s1 : List Int) (s2 : List Int) (r : Bool) (hm : d4 s1 s2 = some r) : PFn Tryz.prog 172 [.u (.one (.d (.sl 1 (List.map (rI .i64) s1)))), .u (.one (.d (.sl 1 (List.map (rI .i64) s2))))] (fun v => v.wk (.u (.one (.d (.bool r))))) := by
 refine aV Tryz.func172 Tryz.ntmps172 rfl (by kernel_rfl) (by simp) fun cx hn => ?_
 unfold d4 at hm
 refine srs hn ?_
 simp -dsimp
 refine ac ?_
 refine srs hn ?_
 simp -dsimp
 rcases aj hm with ⟨c1, hm⟩ | ⟨c1, hm⟩
 ·refine a8 (by simp -dsimp) c1 ?_
  refine srs hn ?_
  simp -dsimp [c1]
  refine ab (ae ?_)
  cases hm
  refine ⟨.inr rfl, ?_⟩
  exact EE.here (by simp -dsimp)
 ·refine a7 (by simp -dsimp) c1 ?_
  refine aa (a6 (ac ?_))
  refine srs hn ?_
  simp -dsimp [c1]
  refine ai ?_
  obtain ⟨o_, g6, hm⟩ := bnd hm
  refine aJ (l_slices_Equal_int_int_1 cx hn s1 s2 g6) (by
    try dsimp only
    exact EE.here (by simp -dsimp)
  ) fun ee ρ σ x7 => ?_
  rcases o_ with r | _u
  ·unfold F_slices_Equal_int_int_1 at x7
   dsimp only at x7
   obtain ⟨rfl, x7⟩ := x7
   refine aH (ae ?_)
   cases hm
   exact ⟨.inr rfl, x7⟩
  ·unfold F_slices_Equal_int_int_1 at x7
   dsimp only at x7
   obtain ⟨rfl, x7⟩ := x7
   refine av ?_
   refine a6 ?_
   refine aX (by rfl) (by rfl) x7 fun ρ σ hf => ?_
   simp only [Fits, ar, ap, and_true] at hf
   refine srs hn ?_
   simp -dsimp
   refine ab ?_
   cases hm
   refine ⟨.inr rfl, ?_⟩
   exact EE.here (by simp -dsimp)
theorem c_slices_Equal_int_int (s1 : List Int) (s2 : List Int) (r : Bool) (hm : d4 s1 s2 = some r) : PureCall Tryz.prog 172 [.u (.one (.d (.sl 1 (List.map (rI .i64) s1)))), .u (.one (.d (.sl 1 (List.map (rI .i64) s2))))] (.u (.one (.d (.bool r)))) := (f_slices_Equal_int_int s1 s2 r hm).pureW
theorem f_tree_Same_1 (x : Node) (y : Node) (r : Bool) (hm : iN x y = some r) : PFn Tryz.prog 171 [.u (.agg [.d (.int .i64 x.Level), .d (.sl 1 (List.map (rI .i64) x.Next))]), .u (.agg [.d (.int .i64 y.Level), .d (.sl 1 (List.map (rI .i64) y.Next))])] (fun v => v.wk (.u (.one (.d (.bool r))))) := by
 refine aV Tryz.func171 Tryz.ntmps171 rfl (by kernel_rfl) (by simp) fun cx hn => ?_
 unfold iN at hm
 refine srs hn ?_
 simp -dsimp
 obtain ⟨a, j3, hm⟩ := bnd hm
 refine au [(4, .u (.one (.d (.bool a))))] [] (by rfl) (by rfl) ?_ fun ρ σ hf => ?_
 ·replace hm := j3
  clear j3
  refine sr1 hn ?_
  rcases aj hm with ⟨c1, hm⟩ | ⟨c1, hm⟩
  ·obtain ⟨y1, h2, hm⟩ := bnd hm
   simp -dsimp [c1]
   refine ag (c_slices_Equal_int_int x.Next y.Next y1 h2) (dkL hn) ?_
   simp -dsimp
   refine a6 ?_
   cases hm
   exact EE.here (by simp -dsimp)
  ·simp -dsimp [c1]
   refine a6 ?_
   cases hm
   exact EE.here (by simp -dsimp)
 ·clear j3
  simp only [Fits, ar, ap, and_true] at hf
  refine ab ?_
  cases hm
  refine ⟨.inr rfl, ?_⟩
  exact EE.here (by simp -dsimp [hf])
theorem c_tree_Same_1 (x : Node) (y : Node) (r : Bool) (hm : iN x y = some r) : PureCall Tryz.prog 171 [.u (.agg [.d (.int .i64 x.Level), .d (.sl 1 (List.map (rI .i64) x.Next))]), .u (.agg [.d (.int .i64 y.Level), .d (.sl 1 (List.map (rI .i64) y.Next))])] (.u (.one (.d (.bool r)))) := (f_tree_Same_1 x y r hm).pureW
def F_slices_EqualFunc_api_Node_api_Node_api_Node_api_Node_tree_Same_1_1 (cx : Cx) (_s1 : List Node) (_s2 : List Node) (tt : Bool ⊕ Unit) (ee : Exit) (ρ : Env) (σ : Sto) : Prop := match tt with
 | .inl r => ee = .ret ∧ EE cx (fun ρ σ => ∃ v, resV tb ρ σ Tryz.f170.results.toList = some v ∧ (v.frz σ).free = true ∧ (v.frz σ).wk (.u (.one (.d (.bool r))))) ρ σ
 | .inr _u => ee = .exit 0 ∧ EE cx (aS [] []) ρ σ
theorem l_slices_EqualFunc_api_Node_api_Node_api_Node_api_Node_tree_Same_1_1 (cx : Cx) (hn : cx.n = 32) (s1 : List Node) (s2 : List Node) {fu : Nat} {stt : Int} {tt : Bool ⊕ Unit} (hh : ak (aO s1 s2) fu stt = some tt) {ρ : Env} {σ : Sto}
  (hE : aW (fun a : Int => [(1, .u (.one (.d (.sl 2 (List.map Node.row s2))))), (2, .u (.one (.fn 171 []))), (15, .u (.one (.d (.sl 2 (List.map Node.row s1))))), (16, .u (.one (.d (.int .i64 (ah s1))))), (17, .u (.one (.d (.int .i64 a))))]) (fun _a : Int => []) stt ρ σ) : Swp Tryz.prog cx (.loop (bg [1, 1, 0, 1, 0, 0] (aK Tryz.f170))) ρ σ (F_slices_EqualFunc_api_Node_api_Node_api_Node_api_Node_tree_Same_1_1 cx s1 s2 tt) := by
 refine aY hE hh (F_slices_EqualFunc_api_Node_api_Node_api_Node_api_Node_tree_Same_1_1 cx s1 s2) ?_
 rintro a r hm ρ σ hf
 simp only [Fits, ar, ap, and_true] at hf
 unfold aO at hm
 dsimp only at hm
 refine srs hn ?_
 simp -dsimp [hf]
 refine ac ?_
 rcases aj hm with ⟨c2, hm⟩ | ⟨c2, hm⟩
 ·refine a8 (b := (ltB a (ah s1))) (by simp -dsimp) c2 ?_
  refine aa (a6 (ac (ai ?_)))
  refine srs hn ?_
  obtain ⟨x, h3, hm⟩ := bnd hm
  simp -dsimp [hf, c2, h3]
  refine srs hn ?_
  obtain ⟨x1, h4, hm⟩ := bnd hm
  simp -dsimp [hf, h4]
  refine srs hn ?_
  obtain ⟨y, h5, hm⟩ := bnd hm
  simp -dsimp [hf]
  refine ag (c_tree_Same_1 x x1 y h5) (dkL hn) ?_
  simp -dsimp
  rcases aj hm with ⟨c6, hm⟩ | ⟨c6, hm⟩
  ·refine a8 (b := (aD y)) (by simp -dsimp) c6 ?_
   refine srs hn ?_
   simp -dsimp [c6]
   refine ab (aH (ae ?_))
   cases hm
   refine am nofun ?_
   unfold F_slices_EqualFunc_api_Node_api_Node_api_Node_api_Node_tree_Same_1_1
   dsimp only
   refine ⟨rfl, ?_⟩
   exact EE.here (by simp -dsimp [Tryz.results170])
  ·refine a7 (b := (aD y)) (by simp -dsimp) c6 ?_
   refine aa ?_
   refine aM ?_
   refine a6 ?_
   refine sr1 hn ?_
   simp -dsimp [hf, c6]
   cases hm
   refine az ?_
   exact EE.here (by simp -dsimp [hf])
 ·refine a7 (b := (ltB a (ah s1))) (by simp -dsimp) c2 ?_
  refine aw ?_
  refine ae ?_
  cases hm
  refine am nofun ?_
  unfold F_slices_EqualFunc_api_Node_api_Node_api_Node_api_Node_tree_Same_1_1
  dsimp only
  refine ⟨rfl, ?_⟩
  exact EE.here (by simp -dsimp [c2])
theorem f_slices_EqualFunc_api_Node_api_Node_api_Node_api_Node_tree_Same_1 (s1 : List Node) (s2 : List Node) (r : Bool) (hm : aF s1 s2 = some r) : PFn Tryz.prog 170 [.u (.one (.d (.sl 2 (List.map Node.row s1)))), .u (.one (.d (.sl 2 (List.map Node.row s2)))), .u (.one (.fn 171 []))] (fun v => v.wk (.u (.one (.d (.bool r))))) := by
 refine aV Tryz.func170 Tryz.ntmps170 rfl (by kernel_rfl) (by simp) fun cx hn => ?_
 unfold aF at hm
 refine srs hn ?_
 simp -dsimp
 refine ac ?_
 refine srs hn ?_
 simp -dsimp
 rcases aj hm with ⟨c1, hm⟩ | ⟨c1, hm⟩
 ·refine a8 (by simp -dsimp) c1 ?_
  refine srs hn ?_
  simp -dsimp [c1]
  refine ab (ae ?_)
  cases hm
  refine ⟨.inr rfl, ?_⟩
  exact EE.here (by simp -dsimp)
 ·refine a7 (by simp -dsimp) c1 ?_
  refine aa (a6 (ac ?_))
  refine srs hn ?_
  simp -dsimp [c1]
  refine ai ?_
  obtain ⟨o_, g7, hm⟩ := bnd hm
  refine aJ (l_slices_EqualFunc_api_Node_api_Node_api_Node_api_Node_tree_Same_1_1 cx hn s1 s2 g7) (by
    try dsimp only
    exact EE.here (by simp -dsimp)
  ) fun ee ρ σ x8 => ?_
  rcases o_ with r | _u
  ·unfold F_slices_EqualFunc_api_Node_api_Node_api_Node_api_Node_tree_Same_1_1 at x8
   dsimp only at x8
   obtain ⟨rfl, x8⟩ := x8
   refine aH (ae ?_)
   cases hm
   exact ⟨.inr rfl, x8⟩
  ·unfold F_slices_EqualFunc_api_Node_api_Node_api_Node_api_Node_tree_Same_1_1 at x8
   dsimp only at x8
   obtain ⟨rfl, x8⟩ := x8
   refine av ?_
   refine a6 ?_
   refine aX (by rfl) (by rfl) x8 fun ρ σ hf => ?_
   simp only [Fits, ar, ap, and_true] at hf
   refine srs hn ?_
   simp -dsimp
   refine ab ?_
   cases hm
   refine ⟨.inr rfl, ?_⟩
   exact EE.here (by simp -dsimp)
theorem c_slices_EqualFunc_api_Node_api_Node_api_Node_api_Node_tree_Same_1 (s1 : List Node) (s2 : List Node) (r : Bool) (hm : aF s1 s2 = some r) : PureCall Tryz.prog 170 [.u (.one (.d (.sl 2 (List.map Node.row s1)))), .u (.one (.d (.sl 2 (List.map Node.row s2)))), .u (.one (.fn 171 []))] (.u (.one (.d (.bool r)))) := (f_slices_EqualFunc_api_Node_api_Node_api_Node_api_Node_tree_Same_1 s1 s2 r hm).pureW
theorem f_tree_Same (a : Tree) (b : Tree) (r : Bool) (hm : jV a b = some r) : PFn Tryz.prog 108 [.u (.agg [.d (.int .i64 a.States), .d (.sl 2 (List.map Point.row a.Hood)), .d (.sl 2 (List.map Node.row a.Nodes))]), .u (.agg [.d (.int .i64 b.States), .d (.sl 2 (List.map Point.row b.Hood)), .d (.sl 2 (List.map Node.row b.Nodes))])] (fun v => v.wk (.u (.one (.d (.bool r))))) := by
 refine aV Tryz.func108 Tryz.ntmps108 rfl (by kernel_rfl) (by simp) fun cx hn => ?_
 unfold jV at hm
 refine srs hn ?_
 simp -dsimp
 obtain ⟨a1, j5, hm⟩ := bnd hm
 refine au [(4, .u (.one (.d (.bool a1))))] [] (by rfl) (by rfl) ?_ fun ρ σ hf => ?_
 ·replace hm := j5
  clear j5
  refine sr1 hn ?_
  rcases aj hm with ⟨c1, hm⟩ | ⟨c1, hm⟩
  ·obtain ⟨y, h2, hm⟩ := bnd hm
   simp -dsimp [c1]
   refine ag (c_hood_Same a.Hood b.Hood y h2) (dkL hn) ?_
   rcases aj hm with ⟨c3, hm⟩ | ⟨c3, hm⟩
   ·obtain ⟨y1, h4, hm⟩ := bnd hm
    simp -dsimp [c3]
    refine ag (c_slices_EqualFunc_api_Node_api_Node_api_Node_api_Node_tree_Same_1 a.Nodes b.Nodes y1 h4) (dkL hn) ?_
    simp -dsimp
    refine a6 ?_
    cases hm
    exact EE.here (by simp -dsimp)
   ·simp -dsimp [c3]
    refine a6 ?_
    cases hm
    exact EE.here (by simp -dsimp)
  ·simp -dsimp [c1]
   refine a6 ?_
   cases hm
   exact EE.here (by simp -dsimp)
 ·clear j5
  simp only [Fits, ar, ap, and_true] at hf
  refine ab ?_
  cases hm
  refine ⟨.inr rfl, ?_⟩
  exact EE.here (by simp -dsimp [hf])
theorem c_tree_Same (a : Tree) (b : Tree) (r : Bool) (hm : jV a b = some r) : PureCall Tryz.prog 108 [.u (.agg [.d (.int .i64 a.States), .d (.sl 2 (List.map Point.row a.Hood)), .d (.sl 2 (List.map Node.row a.Nodes))]), .u (.agg [.d (.int .i64 b.States), .d (.sl 2 (List.map Point.row b.Hood)), .d (.sl 2 (List.map Node.row b.Nodes))])] (.u (.one (.d (.bool r)))) := (f_tree_Same a b r hm).pureW
set_option maxRecDepth 20000 in
theorem f_reduce_Equal (a : Tree) (b : Tree) (r : Bool) (hm : i2 a b = some r) : PFn Tryz.prog 48 [.u (.agg [.d (.int .i64 a.States), .d (.sl 2 (List.map Point.row a.Hood)), .d (.sl 2 (List.map Node.row a.Nodes))]), .u (.agg [.d (.int .i64 b.States), .d (.sl 2 (List.map Point.row b.Hood)), .d (.sl 2 (List.map Node.row b.Nodes))])] (fun v => v.wk (.u (.one (.d (.bool r))))) := by
 refine aV Tryz.func48 Tryz.ntmps48 rfl (by kernel_rfl) (by simp) fun cx hn => ?_
 unfold i2 at hm
 refine srs hn ?_
 simp -dsimp
 obtain ⟨a1, j11, hm⟩ := bnd hm
 refine au [(4, .u (.one (.d (.bool a1))))] [] (by rfl) (by rfl) ?_ fun ρ σ hf => ?_
 ·replace hm := j11
  clear j11
  refine iR aL mixed (by rw [hn]; kernel_rfl) ?_
  obtain ⟨y, h1, hm⟩ := bnd hm
  simp -dsimp
  refine al (fC a y h1) ?_
  rcases aj hm with ⟨c2, hm⟩ | ⟨c2, hm⟩
  ·obtain ⟨y1, h3, hm⟩ := bnd hm
   simp -dsimp [c2]
   refine al (fC b y1 h3) ?_
   rcases aj hm with ⟨c4, hm⟩ | ⟨c4, hm⟩
   ·rcases aj hm with ⟨c5, hm⟩ | ⟨c5, hm⟩
    ·obtain ⟨y2, h6, hm⟩ := bnd hm
     simp -dsimp [c4, c5]
     refine al (c_hood_Same a.Hood b.Hood y2 h6) ?_
     rcases aj hm with ⟨c7, hm⟩ | ⟨c7, hm⟩
     ·obtain ⟨y3, h8, hm⟩ := bnd hm
      simp -dsimp [c7]
      refine al (c_reduce_Reduce a y3 h8) ?_
      obtain ⟨y4, h9, hm⟩ := bnd hm
      simp -dsimp
      refine al (c_reduce_Reduce b y4 h9) ?_
      obtain ⟨y5, h10, hm⟩ := bnd hm
      simp -dsimp
      refine al (c_tree_Same y3 y4 y5 h10) ?_
      simp -dsimp
      refine a6 ?_
      cases hm
      exact EE.here (by simp -dsimp)
     ·simp -dsimp [c7]
      refine a6 ?_
      cases hm
      exact EE.here (by simp -dsimp)
    ·simp -dsimp [c4, c5]
     refine a6 ?_
     cases hm
     exact EE.here (by simp -dsimp)
   ·simp -dsimp [c4]
    refine a6 ?_
    cases hm
    exact EE.here (by simp -dsimp)
  ·simp -dsimp [c2]
   refine a6 ?_
   cases hm
   exact EE.here (by simp -dsimp)
 ·clear j11
  simp only [Fits, ar, ap, and_true] at hf
  refine ab ?_
  cases hm
  refine ⟨.inr rfl, ?_⟩
  exact EE.here (by simp -dsimp [hf])
theorem c_reduce_Equal (a : Tree) (b : Tree) (r : Bool) (hm : i2 a b = some r) : PureCall Tryz.prog 48 [.u (.agg [.d (.int .i64 a.States), .d (.sl 2 (List.map Point.row a.Hood)), .d (.sl 2 (List.map Node.row a.Nodes))]), .u (.agg [.d (.int .i64 b.States), .d (.sl 2 (List.map Point.row b.Hood)), .d (.sl 2 (List.map Node.row b.Nodes))])] (.u (.one (.d (.bool r)))) := (f_reduce_Equal a b r hm).pureW
theorem f_ship_Turned (k : Int) (m : Motion) (r : Motion) (hm : gf k m = some r) : PFn Tryz.prog 14 [.u (.one (.d (.int .i64 k))), .u (.agg [.d (.int .i64 m.Period), .d (.int .i64 m.DX), .d (.int .i64 m.DY)])] (fun v => v.wk (.u (.agg [.d (.int .i64 r.Period), .d (.int .i64 r.DX), .d (.int .i64 r.DY)]))) := by
 refine aV Tryz.func14 Tryz.ntmps14 rfl (by kernel_rfl) (by simp) fun cx hn => ?_
 unfold gf at hm
 refine srs hn ?_
 simp -dsimp
 refine srs hn ?_
 obtain ⟨y, h1, hm⟩ := bnd hm
 simp -dsimp
 refine ag (iC k (⟨m.DX, m.DY⟩ : Point) y h1) (dkL hn) ?_
 simp -dsimp
 refine srs hn ?_
 simp -dsimp
 refine ab ?_
 cases hm
 refine ⟨.inr rfl, ?_⟩
 exact EE.here (by simp -dsimp)
theorem c_ship_Turned (k : Int) (m : Motion) (r : Motion) (hm : gf k m = some r) : PureCall Tryz.prog 14 [.u (.one (.d (.int .i64 k))), .u (.agg [.d (.int .i64 m.Period), .d (.int .i64 m.DX), .d (.int .i64 m.DY)])] (.u (.agg [.d (.int .i64 r.Period), .d (.int .i64 r.DX), .d (.int .i64 r.DY)])) := (f_ship_Turned k m r hm).pureW
theorem f_ship_corner (t : Tree) (s : Ship) (sym : Int) (n : Int) (r : Point × Int) (hm : gl t s sym n = some r) : PFn Tryz.prog 49 [.u (.agg [.d (.int .i64 t.States), .d (.sl 2 (List.map Point.row t.Hood)), .d (.sl 2 (List.map Node.row t.Nodes))]), .u (.agg [.d (.sl 3 (List.map Cell.row s.Cells)), .d (.int .i64 s.Motion.Period), .d (.int .i64 s.Motion.DX), .d (.int .i64 s.Motion.DY)]), .u (.one (.d (.int .i64 sym))), .u (.one (.d (.int .i64 n)))] (fun v => v.wk (.tup [.agg [.d (.int .i64 r.1.X), .d (.int .i64 r.1.Y)], .one (.d (.int .i64 r.2))])) := by
 refine aV Tryz.func49 Tryz.ntmps49 rfl (by kernel_rfl) (by simp) fun cx hn => ?_
 unfold gl at hm
 refine srs hn ?_
 simp -dsimp
 refine bF aL mixed (by rw [hn]; kernel_rfl) ?_
 obtain ⟨n1, h1, hm⟩ := bnd hm
 obtain ⟨y, h2, hm⟩ := bnd hm
 simp -dsimp [h1]
 refine al (kE t s.Cells n1 y h2) ?_
 simp -dsimp
 refine ac ?_
 refine srs hn ?_
 simp -dsimp
 rcases aj hm with ⟨c3, hm⟩ | ⟨c3, hm⟩
 ·refine a8 (b := (neB y.2 0)) (by simp -dsimp) c3 ?_
  refine srs hn ?_
  simp -dsimp [c3]
  refine ab (ae ?_)
  cases hm
  refine ⟨.inr rfl, ?_⟩
  exact EE.here (by simp -dsimp)
 ·refine a7 (b := (neB y.2 0)) (by simp -dsimp) c3 ?_
  refine aa (a6 (ac ?_))
  refine srs hn ?_
  obtain ⟨y1, h4, hm⟩ := bnd hm
  simp -dsimp [c3]
  refine ag (c_algebra_Turn sym y.1 y1 h4) (dkL hn) ?_
  simp -dsimp
  refine srs hn ?_
  simp -dsimp
  rcases aj hm with ⟨c5, hm⟩ | ⟨c5, hm⟩
  ·refine a8 (b := (neB y1.2 0)) (by simp -dsimp) c5 ?_
   refine srs hn ?_
   simp -dsimp [c5]
   refine ab (ae ?_)
   cases hm
   refine ⟨.inr rfl, ?_⟩
   exact EE.here (by simp -dsimp)
  ·refine a7 (b := (neB y1.2 0)) (by simp -dsimp) c5 ?_
   refine aa (a6 ?_)
   refine srs hn ?_
   obtain ⟨y2, h6, hm⟩ := bnd hm
   simp -dsimp [c5]
   refine ag (k3 y1.1 y2 h6) (dkL hn) ?_
   simp -dsimp
   refine srs hn ?_
   obtain ⟨y3, h7, hm⟩ := bnd hm
   simp -dsimp
   refine ag (c_ship_Turned sym s.Motion y3 h7) (dkL hn) ?_
   simp -dsimp
   refine srs hn ?_
   obtain ⟨n2, h8, hm⟩ := bnd hm
   simp -dsimp [h8]
   refine srs hn ?_
   simp -dsimp
   refine ab ?_
   cases hm
   refine ⟨.inr rfl, ?_⟩
   exact EE.here (by simp -dsimp)
theorem c_ship_corner (t : Tree) (s : Ship) (sym : Int) (n : Int) (r : Point × Int) (hm : gl t s sym n = some r) : PureCall Tryz.prog 49 [.u (.agg [.d (.int .i64 t.States), .d (.sl 2 (List.map Point.row t.Hood)), .d (.sl 2 (List.map Node.row t.Nodes))]), .u (.agg [.d (.sl 3 (List.map Cell.row s.Cells)), .d (.int .i64 s.Motion.Period), .d (.int .i64 s.Motion.DX), .d (.int .i64 s.Motion.DY)]), .u (.one (.d (.int .i64 sym))), .u (.one (.d (.int .i64 n)))] (.tup [.agg [.d (.int .i64 r.1.X), .d (.int .i64 r.1.Y)], .one (.d (.int .i64 r.2))]) := (f_ship_corner t s sym n r hm).pureW
set_option maxRecDepth 20000 in
theorem f_ship_Later (t : Tree) (ships : List Ship) (x : Shot) (n : Int) (r : Shot × Int) (hm : js t ships x n = some r) : PFn Tryz.prog 20 [.u (.agg [.d (.int .i64 t.States), .d (.sl 2 (List.map Point.row t.Hood)), .d (.sl 2 (List.map Node.row t.Nodes))]), .u (.one (.d (.sl 4 (List.map Ship.row ships)))), .u (.agg [.d (.int .i64 x.Ship), .d (.int .i64 x.Phase), .d (.int .i64 x.Sym), .d (.int .i64 x.X), .d (.int .i64 x.Y)]), .u (.one (.d (.int .i64 n)))] (fun v => v.wk (.tup [.agg [.d (.int .i64 r.1.Ship), .d (.int .i64 r.1.Phase), .d (.int .i64 r.1.Sym), .d (.int .i64 r.1.X), .d (.int .i64 r.1.Y)], .one (.d (.int .i64 r.2))])) := by
 refine aV Tryz.func20 Tryz.ntmps20 rfl (by kernel_rfl) (by simp) fun cx hn => ?_
 unfold js at hm
 refine srs hn ?_
 simp -dsimp
 refine ac ?_
 refine srs hn ?_
 obtain ⟨y, h1, hm⟩ := bnd hm
 simp -dsimp
 refine ag (c_ship_Place t ships x y h1) (dkL hn) ?_
 simp -dsimp
 refine srs hn ?_
 simp -dsimp
 rcases aj hm with ⟨c2, hm⟩ | ⟨c2, hm⟩
 ·refine a8 (b := (neB y.2 0)) (by simp -dsimp) c2 ?_
  refine srs hn ?_
  simp -dsimp [c2]
  refine ab (ae ?_)
  cases hm
  refine ⟨.inr rfl, ?_⟩
  exact EE.here (by simp -dsimp)
 ·refine a7 (b := (neB y.2 0)) (by simp -dsimp) c2 ?_
  refine aa (a6 (ac ?_))
  obtain ⟨a, j18, hm⟩ := bnd hm
  refine au [(1, .u (.one (.d (.sl 4 (List.map Ship.row ships))))), (3, .u (.one (.d (.int .i64 n)))), (4, .u (.one (.box 4 0))), (6, .u (.one (.box 6 0))), (8, .u (.one (.box 8 0))), (37, .u (.one (.d (.bool a))))] [(4, .box [.d (.int .i64 t.States), .d (.sl 2 (List.map Point.row t.Hood)), .d (.sl 2 (List.map Node.row t.Nodes))]), (6, .box [.d (.int .i64 x.Ship), .d (.int .i64 x.Phase), .d (.int .i64 x.Sym), .d (.int .i64 x.X), .d (.int .i64 x.Y)]), (8, .box [.d (.int .i64 0), .d (.int .i64 0), .d (.int .i64 0), .d (.int .i64 0), .d (.int .i64 0)])] (by rfl) (by rfl) ?_ fun ρ σ hf => ?_
  ·replace hm := j18
   clear j18
   refine sr1 hn ?_
   rcases aj hm with ⟨c3, hm⟩ | ⟨c3, hm⟩
   ·simp -dsimp [c2, c3]
    refine a6 ?_
    cases hm
    exact EE.here (by simp -dsimp)
   ·simp -dsimp [c2, c3]
    refine a6 ?_
    cases hm
    exact EE.here (by simp -dsimp)
  ·clear j18
   simp only [Fits, ar, ap, and_true] at hf
   rcases aj hm with ⟨c4, hm⟩ | ⟨c4, hm⟩
   ·refine a8 (by simp -dsimp [hf]) c4 ?_
    refine srs hn ?_
    simp -dsimp [hf]
    refine ab (ae ?_)
    cases hm
    refine ⟨.inr rfl, ?_⟩
    exact EE.here (by simp -dsimp [hf])
   ·refine a7 (by simp -dsimp [hf]) c4 ?_
    refine aa (a6 (ac ?_))
    refine srs hn ?_
    obtain ⟨y1, h5, hm⟩ := bnd hm
    simp -dsimp [hf]
    refine ag (c_reduce_Turn x.Sym t y1 h5) (dkL hn) ?_
    simp -dsimp
    obtain ⟨a1, j17, hm⟩ := bnd hm
    refine au [(1, .u (.one (.d (.sl 4 (List.map Ship.row ships))))), (3, .u (.one (.d (.int .i64 n)))), (4, .u (.one (.box 4 0))), (6, .u (.one (.box 6 0))), (8, .u (.one (.box 8 0))), (53, .u (.one (.d (.bool a1))))] [(4, .box [.d (.int .i64 t.States), .d (.sl 2 (List.map Point.row t.Hood)), .d (.sl 2 (List.map Node.row t.Nodes))]), (6, .box [.d (.int .i64 x.Ship), .d (.int .i64 x.Phase), .d (.int .i64 x.Sym), .d (.int .i64 x.X), .d (.int .i64 x.Y)]), (8, .box [.d (.int .i64 0), .d (.int .i64 0), .d (.int .i64 0), .d (.int .i64 0), .d (.int .i64 0)])] (by rfl) (by rfl) ?_ fun ρ σ hf => ?_
    ·replace hm := j17
     clear j17
     refine sr1 hn ?_
     rcases aj hm with ⟨c6, hm⟩ | ⟨c6, hm⟩
     ·simp -dsimp [c6]
      refine a6 ?_
      cases hm
      exact EE.here (by simp -dsimp [hf])
     ·obtain ⟨y2, h7, hm⟩ := bnd hm
      simp -dsimp [hf, c6]
      refine ag (c_reduce_Equal t y1.1 y2 h7) (dkL hn) ?_
      simp -dsimp
      refine a6 ?_
      cases hm
      exact EE.here (by simp -dsimp [hf])
    ·clear j17
     simp only [Fits, ar, ap, and_true] at hf
     rcases aj hm with ⟨c8, hm⟩ | ⟨c8, hm⟩
     ·refine a8 (by simp -dsimp [hf]) c8 ?_
      refine srs hn ?_
      simp -dsimp [hf]
      refine ab (ae ?_)
      cases hm
      refine ⟨.inr rfl, ?_⟩
      exact EE.here (by simp -dsimp [hf])
     ·refine a7 (by simp -dsimp [hf]) c8 ?_
      refine aa (a6 ?_)
      refine srs hn ?_
      obtain ⟨x1, h9, hm⟩ := bnd hm
      simp -dsimp [hf, h9]
      refine srs hn ?_
      obtain ⟨y2, h10, hm⟩ := bnd hm
      simp -dsimp [hf]
      refine ag (c_ship_corner t x1 x.Sym x.Phase y2 h10) (dkL hn) ?_
      simp -dsimp
      refine ac ?_
      refine srs hn ?_
      simp -dsimp
      rcases aj hm with ⟨c11, hm⟩ | ⟨c11, hm⟩
      ·refine a8 (b := (neB y2.2 0)) (by simp -dsimp) c11 ?_
       refine srs hn ?_
       simp -dsimp [hf, c11]
       refine ab (ae ?_)
       cases hm
       refine ⟨.inr rfl, ?_⟩
       exact EE.here (by simp -dsimp [hf])
      ·refine a7 (b := (neB y2.2 0)) (by simp -dsimp) c11 ?_
       refine aa (a6 ?_)
       refine srs hn ?_
       obtain ⟨y3, h12, hm⟩ := bnd hm
       simp -dsimp [hf, c11]
       refine ag (c_ship_corner t x1 x.Sym (aG .i64 x.Phase n) y3 h12) (dkL hn) ?_
       simp -dsimp
       refine ac ?_
       refine srs hn ?_
       simp -dsimp
       rcases aj hm with ⟨c13, hm⟩ | ⟨c13, hm⟩
       ·refine a8 (b := (neB y3.2 0)) (by simp -dsimp) c13 ?_
        refine srs hn ?_
        simp -dsimp [hf, c13]
        refine ab (ae ?_)
        cases hm
        refine ⟨.inr rfl, ?_⟩
        exact EE.here (by simp -dsimp [hf])
       ·refine a7 (b := (neB y3.2 0)) (by simp -dsimp) c13 ?_
        refine aa (a6 ?_)
        refine k7 aL mixed 29 30 30 0 [[0, 1, 2, 3, 4, 5, 6, 7, 8, 9, 10, 11, 12, 13, 14, 15, 16, 17, 18, 19, 20, 21, 22, 23, 24, 25, 26, 27, 28]] [[18]] [] none (by rw [hn]; kernel_rfl) gI ?_
        dsimp only [List.take, List.drop, iq, iQ, jT, pk, List.cons_append, List.nil_append, List.flatten_cons, List.flatten_nil, ff, fv, List.append_nil]
        obtain ⟨n1, h14, hm⟩ := bnd hm
        simp -dsimp [hf, c13, h14]
        refine ac ?_
        refine srs hn ?_
        obtain ⟨y4, h15, hm⟩ := bnd hm
        simp -dsimp [hf]
        refine ag (c_ship_Place t ships (⟨x.Ship, n1, x.Sym, (aC .i64 (aG .i64 x.X y3.1.X) y2.1.X), (aC .i64 (aG .i64 x.Y y3.1.Y) y2.1.Y)⟩ : Shot) y4 h15) (dkL hn) ?_
        simp -dsimp
        refine srs hn ?_
        simp -dsimp
        rcases aj hm with ⟨c16, hm⟩ | ⟨c16, hm⟩
        ·refine a8 (b := (neB y4.2 0)) (by simp -dsimp) c16 ?_
         refine srs hn ?_
         simp -dsimp [hf, c16]
         refine ab (ae ?_)
         cases hm
         refine ⟨.inr rfl, ?_⟩
         exact EE.here (by simp -dsimp [hf])
        ·refine a7 (b := (neB y4.2 0)) (by simp -dsimp) c16 ?_
         refine aa (a6 ?_)
         refine srs hn ?_
         simp -dsimp [hf, c16]
         refine ab ?_
         cases hm
         refine ⟨.inr rfl, ?_⟩
         exact EE.here (by simp -dsimp [hf])
theorem c_ship_Later (t : Tree) (ships : List Ship) (x : Shot) (n : Int) (r : Shot × Int) (hm : js t ships x n = some r) : PureCall Tryz.prog 20 [.u (.agg [.d (.int .i64 t.States), .d (.sl 2 (List.map Point.row t.Hood)), .d (.sl 2 (List.map Node.row t.Nodes))]), .u (.one (.d (.sl 4 (List.map Ship.row ships)))), .u (.agg [.d (.int .i64 x.Ship), .d (.int .i64 x.Phase), .d (.int .i64 x.Sym), .d (.int .i64 x.X), .d (.int .i64 x.Y)]), .u (.one (.d (.int .i64 n)))] (.tup [.agg [.d (.int .i64 r.1.Ship), .d (.int .i64 r.1.Phase), .d (.int .i64 r.1.Sym), .d (.int .i64 r.1.X), .d (.int .i64 r.1.Y)], .one (.d (.int .i64 r.2))]) := (f_ship_Later t ships x n r hm).pureW
theorem f_ship_in (x : Int) (y : Int) (r : Bool) (hm : jx x y = some r) : PFn Tryz.prog 32 [.u (.one (.d (.int .i64 x))), .u (.one (.d (.int .i64 y)))] (fun v => v.wk (.u (.one (.d (.bool r))))) := by
 refine aV Tryz.func32 Tryz.ntmps32 rfl (by kernel_rfl) (by simp) fun cx hn => ?_
 unfold jx at hm
 refine srs hn ?_
 simp -dsimp
 obtain ⟨a, j2, hm⟩ := bnd hm
 refine au [(4, .u (.one (.d (.bool a))))] [] (by rfl) (by rfl) ?_ fun ρ σ hf => ?_
 ·replace hm := j2
  clear j2
  refine sr1 hn ?_
  rcases aj hm with ⟨c1, hm⟩ | ⟨c1, hm⟩
  ·simp -dsimp [c1]
   refine a6 ?_
   cases hm
   exact EE.here (by simp -dsimp)
  ·simp -dsimp [c1]
   refine a6 ?_
   cases hm
   exact EE.here (by simp -dsimp)
 ·clear j2
  simp only [Fits, ar, ap, and_true] at hf
  refine ab ?_
  cases hm
  refine ⟨.inr rfl, ?_⟩
  exact EE.here (by simp -dsimp [hf])
theorem c_ship_in (x : Int) (y : Int) (r : Bool) (hm : jx x y = some r) : PureCall Tryz.prog 32 [.u (.one (.d (.int .i64 x))), .u (.one (.d (.int .i64 y)))] (.u (.one (.d (.bool r)))) := (f_ship_in x y r hm).pureW
def cK (cx : Cx) (_x : Shot) (_m : Motion) (_count : Int) (_gap : Int) (tt : ((List Shot) × Int) ⊕ (List Shot)) (ee : Exit) (ρ : Env) (σ : Sto) : Prop := match tt with
 | .inl r => ee = .ret ∧ EE cx (fun ρ σ => ∃ v, resV tb ρ σ Tryz.f12.results.toList = some v ∧ (v.frz σ).free = true ∧ (v.frz σ).wk (.tup [.one (.d (.sl 5 (List.map Shot.row r.1))), .one (.d (.int .i64 r.2))])) ρ σ
 | .inr out => ee = .exit 0 ∧ EE cx (aS [(10, .u (.one (.own 5000)))] [(5000, .row 5 42 (List.map Shot.row out))]) ρ σ
theorem l_ship_Stream_1 (cx : Cx) (hn : cx.n = 88) (x : Shot) (m : Motion) (count : Int) (gap : Int) {fu : Nat} {stt : Int × (List Shot)} {tt : ((List Shot) × Int) ⊕ (List Shot)} (hh : ak (jc x m count gap) fu stt = some tt) {ρ : Env} {σ : Sto}
  (hE : aW (fun stt : Int × (List Shot) => match stt with | (a1, _out) => [(3, .u (.one (.d (.int .i64 gap)))), (4, .u (.one (.box 4 0))), (5, .u (.one (.box 5 0))), (10, .u (.one (.own 5000))), (45, .u (.one (.d (.int .i64 count)))), (46, .u (.one (.d (.int .i64 a1))))]) (fun stt : Int × (List Shot) => match stt with | (_a1, out) => [(4, .box [.d (.int .i64 x.Ship), .d (.int .i64 x.Phase), .d (.int .i64 x.Sym), .d (.int .i64 x.X), .d (.int .i64 x.Y)]), (5, .box [.d (.int .i64 m.Period), .d (.int .i64 m.DX), .d (.int .i64 m.DY)]), (5000, .row 5 42 (List.map Shot.row out))]) stt ρ σ) : Swp Tryz.prog cx (.loop (bg [1, 1, 1, 0, 1, 0, 0] (aK Tryz.f12))) ρ σ (cK cx x m count gap tt) := by
 refine aY hE hh (cK cx x m count gap) ?_
 rintro ⟨a1, out⟩ r hm ρ σ hf
 simp only [Fits, ar, ap, and_true] at hf
 unfold jc at hm
 dsimp only at hm
 refine srs hn ?_
 simp -dsimp [hf]
 refine ac ?_
 rcases aj hm with ⟨c9, hm⟩ | ⟨c9, hm⟩
 ·refine a8 (b := (ltB a1 count)) (by simp -dsimp) c9 ?_
  refine aa (a6 (ac (ai ?_)))
  refine srs hn ?_
  simp -dsimp [hf, c9]
  refine ac ?_
  refine srs hn ?_
  obtain ⟨y, h10, hm⟩ := bnd hm
  simp -dsimp [hf]
  refine ag (c_ship_in x.X x.Y y h10) (dkL hn) ?_
  simp -dsimp
  rcases aj hm with ⟨c11, hm⟩ | ⟨c11, hm⟩
  ·refine a8 (b := (aD y)) (by simp -dsimp) c11 ?_
   refine srs hn ?_
   simp -dsimp [c11]
   refine ab (ae (aH (ae ?_)))
   cases hm
   refine am nofun ?_
   unfold cK
   dsimp only
   refine ⟨rfl, ?_⟩
   exact EE.here (by simp -dsimp [Tryz.results12])
  ·refine a7 (b := (aD y)) (by simp -dsimp) c11 ?_
   refine aa (a6 ?_)
   refine srs hn ?_
   simp -dsimp [hf, c11]
   refine srs hn ?_
   simp -dsimp [hf]
   refine srs hn ?_
   simp -dsimp [hf]
   refine ac ?_
   refine srs hn ?_
   obtain ⟨y1, h12, hm⟩ := bnd hm
   simp -dsimp
   refine ag (c_ship_in (aC .i64 x.X (dW .i64 (dW .i64 a1 gap) m.DX)) (aC .i64 x.Y (dW .i64 (dW .i64 a1 gap) m.DY)) y1 h12) (dkL hn) ?_
   simp -dsimp
   rcases aj hm with ⟨c13, hm⟩ | ⟨c13, hm⟩
   ·refine a8 (b := (aD y1)) (by simp -dsimp) c13 ?_
    refine srs hn ?_
    simp -dsimp [c13]
    refine ab (ae (aH (ae ?_)))
    cases hm
    refine am nofun ?_
    unfold cK
    dsimp only
    refine ⟨rfl, ?_⟩
    exact EE.here (by simp -dsimp [Tryz.results12])
   ·refine a7 (b := (aD y1)) (by simp -dsimp) c13 ?_
    refine aa (a6 ?_)
    refine sr1 hn ?_
    obtain ⟨l, h14, hm⟩ := bnd hm
    obtain ⟨h14a, h14e⟩ := aN h14
    replace h14e := h14e.symm
    subst h14e
    try simp only [List.length_cons, List.length_nil, Nat.zero_add] at h14a
    simp -dsimp [hf, c13, h14a]
    refine aM ?_
    refine a6 ?_
    refine sr1 hn ?_
    simp -dsimp [hf]
    cases hm
    refine az ?_
    refine EE.step (Wk.move 85 5000 (by decide) (.inl (by decide))) ?_
    exact EE.here (by simp -dsimp [hf])
 ·refine a7 (b := (ltB a1 count)) (by simp -dsimp) c9 ?_
  refine aw ?_
  refine ae ?_
  cases hm
  refine am nofun ?_
  unfold cK
  dsimp only
  refine ⟨rfl, ?_⟩
  exact EE.here (by simp -dsimp [hf, c9])
theorem f_ship_Stream (x : Shot) (m : Motion) (count : Int) (gap : Int) (r : (List Shot) × Int) (hm : iL x m count gap = some r) : PFn Tryz.prog 12 [.u (.agg [.d (.int .i64 x.Ship), .d (.int .i64 x.Phase), .d (.int .i64 x.Sym), .d (.int .i64 x.X), .d (.int .i64 x.Y)]), .u (.agg [.d (.int .i64 m.Period), .d (.int .i64 m.DX), .d (.int .i64 m.DY)]), .u (.one (.d (.int .i64 count))), .u (.one (.d (.int .i64 gap)))] (fun v => v.wk (.tup [.one (.d (.sl 5 (List.map Shot.row r.1))), .one (.d (.int .i64 r.2))])) := by
 refine aV Tryz.func12 Tryz.ntmps12 rfl (by kernel_rfl) (by simp) fun cx hn => ?_
 unfold iL at hm
 refine srs hn ?_
 simp -dsimp
 refine ac ?_
 obtain ⟨a, j17, hm⟩ := bnd hm
 refine au [(2, .u (.one (.d (.int .i64 count)))), (3, .u (.one (.d (.int .i64 gap)))), (4, .u (.one (.box 4 0))), (5, .u (.one (.box 5 0))), (44, .u (.one (.d (.bool a))))] [(4, .box [.d (.int .i64 x.Ship), .d (.int .i64 x.Phase), .d (.int .i64 x.Sym), .d (.int .i64 x.X), .d (.int .i64 x.Y)]), (5, .box [.d (.int .i64 m.Period), .d (.int .i64 m.DX), .d (.int .i64 m.DY)])] (by rfl) (by rfl) ?_ fun ρ σ hf => ?_
 ·replace hm := j17
  clear j17
  refine sr1 hn ?_
  rcases aj hm with ⟨c1, hm⟩ | ⟨c1, hm⟩
  ·simp -dsimp [c1]
   refine a6 ?_
   cases hm
   exact EE.here (by simp -dsimp)
  ·rcases aj hm with ⟨c2, hm⟩ | ⟨c2, hm⟩
   ·simp -dsimp [c1, c2]
    refine a6 ?_
    cases hm
    exact EE.here (by simp -dsimp)
   ·obtain ⟨y, h3, hm⟩ := bnd hm
    simp -dsimp [c1, c2]
    refine ag (c_ship_in m.DX m.DY y h3) (dkL hn) ?_
    rcases aj hm with ⟨c4, hm⟩ | ⟨c4, hm⟩
    ·simp -dsimp [c4]
     refine a6 ?_
     cases hm
     exact EE.here (by simp -dsimp)
    ·rcases aj hm with ⟨c5, hm⟩ | ⟨c5, hm⟩
     ·simp -dsimp [c4, c5]
      refine a6 ?_
      cases hm
      exact EE.here (by simp -dsimp)
     ·rcases aj hm with ⟨c6, hm⟩ | ⟨c6, hm⟩
      ·simp -dsimp [c4, c5, c6]
       refine a6 ?_
       cases hm
       exact EE.here (by simp -dsimp)
      ·rcases aj hm with ⟨c7, hm⟩ | ⟨c7, hm⟩
       ·simp -dsimp [c4, c5, c6, c7]
        refine a6 ?_
        cases hm
        exact EE.here (by simp -dsimp)
       ·simp -dsimp [c4, c5, c6, c7]
        refine a6 ?_
        cases hm
        exact EE.here (by simp -dsimp)
 ·clear j17
  simp only [Fits, ar, ap, and_true] at hf
  rcases aj hm with ⟨c8, hm⟩ | ⟨c8, hm⟩
  ·refine a8 (by simp -dsimp [hf]) c8 ?_
   refine srs hn ?_
   simp -dsimp
   refine ab (ae ?_)
   cases hm
   refine ⟨.inr rfl, ?_⟩
   exact EE.here (by simp -dsimp)
  ·refine a7 (by simp -dsimp [hf]) c8 ?_
   refine aa (a6 ?_)
   refine srs hn ?_
   simp -dsimp
   refine ac ?_
   refine srs hn ?_
   simp -dsimp [hf]
   refine ai ?_
   obtain ⟨o_, g15, hm⟩ := bnd hm
   refine aJ (l_ship_Stream_1 cx hn x m count gap g15) (by
     try dsimp only
     refine EE.step (Wk.own0 10 5000 5 42 (by simp -dsimp) (by decide)) ?_
     exact EE.here (by simp -dsimp [hf])
   ) fun ee ρ σ x16 => ?_
   rcases o_ with r | out
   ·unfold cK at x16
    dsimp only at x16
    obtain ⟨rfl, x16⟩ := x16
    refine aH (ae ?_)
    cases hm
    exact ⟨.inr rfl, x16⟩
   ·unfold cK at x16
    dsimp only at x16
    obtain ⟨rfl, x16⟩ := x16
    refine av ?_
    refine a6 ?_
    refine aX (by rfl) (by rfl) x16 fun ρ σ hf => ?_
    simp only [Fits, ar, ap, and_true] at hf
    refine srs hn ?_
    simp -dsimp [hf]
    refine ab ?_
    cases hm
    refine ⟨.inr rfl, ?_⟩
    exact EE.here (by simp -dsimp [hf])
theorem c_ship_Stream (x : Shot) (m : Motion) (count : Int) (gap : Int) (r : (List Shot) × Int) (hm : iL x m count gap = some r) : PureCall Tryz.prog 12 [.u (.agg [.d (.int .i64 x.Ship), .d (.int .i64 x.Phase), .d (.int .i64 x.Sym), .d (.int .i64 x.X), .d (.int .i64 x.Y)]), .u (.agg [.d (.int .i64 m.Period), .d (.int .i64 m.DX), .d (.int .i64 m.DY)]), .u (.one (.d (.int .i64 count))), .u (.one (.d (.int .i64 gap)))] (.tup [.one (.d (.sl 5 (List.map Shot.row r.1))), .one (.d (.int .i64 r.2))]) := (f_ship_Stream x m count gap r hm).pureW
theorem f_R05_order (a : Int) (b : Int) (r : Int) (hm : cd a b = some r) : PFn Tryz.prog 61 [.u (.one (.d (.int .i64 a))), .u (.one (.d (.int .i64 b)))] (fun v => v.wk (.u (.one (.d (.int .i64 r))))) := by
 refine aV Tryz.func61 Tryz.ntmps61 rfl (by kernel_rfl) (by simp) fun cx hn => ?_
 unfold cd at hm
 refine srs hn ?_
 simp -dsimp
 refine ac ?_
 refine srs hn ?_
 simp -dsimp
 rcases aj hm with ⟨c1, hm⟩ | ⟨c1, hm⟩
 ·refine a8 (by simp -dsimp) c1 ?_
  refine srs hn ?_
  simp -dsimp [c1]
  refine ab (ae ?_)
  cases hm
  refine ⟨.inr rfl, ?_⟩
  exact EE.here (by simp -dsimp)
 ·refine a7 (by simp -dsimp) c1 ?_
  refine aa (a6 (ac ?_))
  refine srs hn ?_
  simp -dsimp [c1]
  rcases aj hm with ⟨c2, hm⟩ | ⟨c2, hm⟩
  ·refine a8 (b := (gtB a b)) (by simp -dsimp) c2 ?_
   refine srs hn ?_
   simp -dsimp [c2]
   refine ab (ae ?_)
   cases hm
   refine ⟨.inr rfl, ?_⟩
   exact EE.here (by simp -dsimp)
  ·refine a7 (b := (gtB a b)) (by simp -dsimp) c2 ?_
   refine aa (a6 ?_)
   refine srs hn ?_
   simp -dsimp [c2]
   refine ab ?_
   cases hm
   refine ⟨.inr rfl, ?_⟩
   exact EE.here (by simp -dsimp)
theorem c_R05_order (a : Int) (b : Int) (r : Int) (hm : cd a b = some r) : PureCall Tryz.prog 61 [.u (.one (.d (.int .i64 a))), .u (.one (.d (.int .i64 b)))] (.u (.one (.d (.int .i64 r)))) := (f_R05_order a b r hm).pureW
def F_R05_Compare_1 (cx : Cx) (a : List Cell) (b : List Cell) (tt : Int ⊕ Unit) (ee : Exit) (ρ : Env) (σ : Sto) : Prop := match tt with
 | .inl r => ee = .ret ∧ EE cx (fun ρ σ => ∃ v, resV tb ρ σ Tryz.f31.results.toList = some v ∧ (v.frz σ).free = true ∧ (v.frz σ).wk (.u (.one (.d (.int .i64 r))))) ρ σ
 | .inr _u => ee = .exit 0 ∧ EE cx (aS [(0, .u (.one (.d (.sl 3 (List.map Cell.row a))))), (1, .u (.one (.d (.sl 3 (List.map Cell.row b)))))] []) ρ σ
theorem l_R05_Compare_1 (cx : Cx) (hn : cx.n = 89) (a : List Cell) (b : List Cell) {fu : Nat} {stt : Int} {tt : Int ⊕ Unit} (hh : ak (cN a b) fu stt = some tt) {ρ : Env} {σ : Sto}
  (hE : aW (fun i : Int => [(0, .u (.one (.d (.sl 3 (List.map Cell.row a))))), (1, .u (.one (.d (.sl 3 (List.map Cell.row b))))), (5, .u (.one (.d (.int .i64 i))))]) (fun _i : Int => []) stt ρ σ) : Swp Tryz.prog cx (.loop (bg [1, 0, 1, 0, 0] (aK Tryz.f31))) ρ σ (F_R05_Compare_1 cx a b tt) := by
 refine aY hE hh (F_R05_Compare_1 cx a b) ?_
 rintro i r hm ρ σ hf
 simp only [Fits, ar, ap, and_true] at hf
 unfold cN at hm
 dsimp only at hm
 refine ac ?_
 obtain ⟨a1, j11, hm⟩ := bnd hm
 refine au [(0, .u (.one (.d (.sl 3 (List.map Cell.row a))))), (1, .u (.one (.d (.sl 3 (List.map Cell.row b))))), (5, .u (.one (.d (.int .i64 i)))), (15, .u (.one (.d (.bool a1))))] [] (by rfl) (by rfl) ?_ fun ρ σ hf => ?_
 ·replace hm := j11
  clear j11
  refine sr1 hn ?_
  rcases aj hm with ⟨c1, hm⟩ | ⟨c1, hm⟩
  ·simp -dsimp [hf, c1]
   refine a6 ?_
   cases hm
   exact EE.here (by simp -dsimp [hf])
  ·simp -dsimp [hf, c1]
   refine a6 ?_
   cases hm
   exact EE.here (by simp -dsimp [hf])
 ·clear j11
  simp only [Fits, ar, ap, and_true] at hf
  rcases aj hm with ⟨c2, hm⟩ | ⟨c2, hm⟩
  ·refine a8 (by simp -dsimp [hf]) c2 ?_
   refine aa (a6 (ac (ai (ac ?_))))
   refine bF aL mixed (by rw [hn]; kernel_rfl) ?_
   obtain ⟨x, h3, hm⟩ := bnd hm
   obtain ⟨x1, h4, hm⟩ := bnd hm
   simp -dsimp [hf, h3, h4]
   rcases aj hm with ⟨c5, hm⟩ | ⟨c5, hm⟩
   ·refine a8 (b := (neB x.Y x1.Y)) (by simp -dsimp) c5 ?_
    refine bF aL mixed (by rw [hn]; kernel_rfl) ?_
    obtain ⟨y, h6, hm⟩ := bnd hm
    simp -dsimp [hf, h3, h4, c5]
    refine al (c_R05_order x.Y x1.Y y h6) ?_
    simp -dsimp
    refine ab (ae (aH (ae ?_)))
    cases hm
    refine am nofun ?_
    unfold F_R05_Compare_1
    dsimp only
    refine ⟨rfl, ?_⟩
    exact EE.here (by simp -dsimp [Tryz.results31])
   ·refine a7 (b := (neB x.Y x1.Y)) (by simp -dsimp) c5 ?_
    refine aa (a6 (ac ?_))
    refine bF aL mixed (by rw [hn]; kernel_rfl) ?_
    simp -dsimp [hf, h3, h4, c5]
    rcases aj hm with ⟨c7, hm⟩ | ⟨c7, hm⟩
    ·refine a8 (b := (neB x.X x1.X)) (by simp -dsimp) c7 ?_
     refine bF aL mixed (by rw [hn]; kernel_rfl) ?_
     obtain ⟨y, h8, hm⟩ := bnd hm
     simp -dsimp [hf, h3, h4, c7]
     refine al (c_R05_order x.X x1.X y h8) ?_
     simp -dsimp
     refine ab (ae (aH (ae ?_)))
     cases hm
     refine am nofun ?_
     unfold F_R05_Compare_1
     dsimp only
     refine ⟨rfl, ?_⟩
     exact EE.here (by simp -dsimp [Tryz.results31])
    ·refine a7 (b := (neB x.X x1.X)) (by simp -dsimp) c7 ?_
     refine aa (a6 ?_)
     refine bF aL mixed (by rw [hn]; kernel_rfl) ?_
     simp -dsimp [hf, h3, h4, c7]
     rcases aj hm with ⟨c9, hm⟩ | ⟨c9, hm⟩
     ·refine a8 (b := (neB x.S x1.S)) (by simp -dsimp) c9 ?_
      refine bF aL mixed (by rw [hn]; kernel_rfl) ?_
      obtain ⟨y, h10, hm⟩ := bnd hm
      simp -dsimp [hf, h3, h4, c9]
      refine al (c_R05_order x.S x1.S y h10) ?_
      simp -dsimp
      refine ab (aH (ae ?_))
      cases hm
      refine am nofun ?_
      unfold F_R05_Compare_1
      dsimp only
      refine ⟨rfl, ?_⟩
      exact EE.here (by simp -dsimp [Tryz.results31])
     ·refine a7 (b := (neB x.S x1.S)) (by simp -dsimp) c9 ?_
      refine aa ?_
      refine aM ?_
      refine a6 ?_
      refine sr1 hn ?_
      simp -dsimp [hf, c9]
      cases hm
      refine az ?_
      exact EE.here (by simp -dsimp [hf])
  ·refine a7 (by simp -dsimp [hf]) c2 ?_
   refine aw ?_
   refine ae ?_
   cases hm
   refine am nofun ?_
   unfold F_R05_Compare_1
   dsimp only
   refine ⟨rfl, ?_⟩
   exact EE.here (by simp -dsimp [hf])
theorem f_R05_Compare (a : List Cell) (b : List Cell) (r : Int) (hm : eY a b = some r) : PFn Tryz.prog 31 [.u (.one (.d (.sl 3 (List.map Cell.row a)))), .u (.one (.d (.sl 3 (List.map Cell.row b))))] (fun v => v.wk (.u (.one (.d (.int .i64 r))))) := by
 refine aV Tryz.func31 Tryz.ntmps31 rfl (by kernel_rfl) (by simp) fun cx hn => ?_
 unfold eY at hm
 refine srs hn ?_
 simp -dsimp
 refine ac ?_
 refine srs hn ?_
 simp -dsimp
 refine ai ?_
 obtain ⟨o_, g12, hm⟩ := bnd hm
 refine aJ (l_R05_Compare_1 cx hn a b g12) (by
   try dsimp only
   exact EE.here (by simp -dsimp)
 ) fun ee ρ σ x13 => ?_
 rcases o_ with r | _u
 ·unfold F_R05_Compare_1 at x13
  dsimp only at x13
  obtain ⟨rfl, x13⟩ := x13
  refine aH (ae ?_)
  cases hm
  exact ⟨.inr rfl, x13⟩
 ·unfold F_R05_Compare_1 at x13
  dsimp only at x13
  obtain ⟨rfl, x13⟩ := x13
  refine av ?_
  refine a6 ?_
  refine aX (by rfl) (by rfl) x13 fun ρ σ hf => ?_
  simp only [Fits, ar, ap, and_true] at hf
  refine srs hn ?_
  obtain ⟨y, h14, hm⟩ := bnd hm
  simp -dsimp [hf]
  refine ag (c_R05_order (ah a) (ah b) y h14) (dkL hn) ?_
  simp -dsimp
  refine ab ?_
  cases hm
  refine ⟨.inr rfl, ?_⟩
  exact EE.here (by simp -dsimp)
theorem c_R05_Compare (a : List Cell) (b : List Cell) (r : Int) (hm : eY a b = some r) : PureCall Tryz.prog 31 [.u (.one (.d (.sl 3 (List.map Cell.row a)))), .u (.one (.d (.sl 3 (List.map Cell.row b))))] (.u (.one (.d (.int .i64 r)))) := (f_R05_Compare a b r hm).pureW
theorem f_R05_Same (a : List Cell) (b : List Cell) (r : Bool) (hm : eu a b = some r) : PFn Tryz.prog 11 [.u (.one (.d (.sl 3 (List.map Cell.row a)))), .u (.one (.d (.sl 3 (List.map Cell.row b))))] (fun v => v.wk (.u (.one (.d (.bool r))))) := by
 refine aV Tryz.func11 Tryz.ntmps11 rfl (by kernel_rfl) (by simp) fun cx hn => ?_
 unfold eu at hm
 refine srs hn ?_
 simp -dsimp
 refine srs hn ?_
 obtain ⟨y, h1, hm⟩ := bnd hm
 simp -dsimp
 refine ag (c_R05_Compare a b y h1) (dkL hn) ?_
 simp -dsimp
 refine ab ?_
 cases hm
 refine ⟨.inr rfl, ?_⟩
 exact EE.here (by simp -dsimp)
theorem c_R05_Same (a : List Cell) (b : List Cell) (r : Bool) (hm : eu a b = some r) : PureCall Tryz.prog 11 [.u (.one (.d (.sl 3 (List.map Cell.row a)))), .u (.one (.d (.sl 3 (List.map Cell.row b))))] (.u (.one (.d (.bool r)))) := (f_R05_Same a b r hm).pureW
end Go.Proofs.YtfpjnmhdbgbmmaaGreatDoor
