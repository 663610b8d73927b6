/-
  That the code does what the functions say (made by cc.py).
-/
import Derived.Test.YtfpjnmhdbgbmmaaGreatDoorMd1
import Derived.Test.YtfpjnmhdbgbmmaaGreatDoorTb
import Derived.Test.YtfpjnmhdbgbmmaaGreatDoorWa1
import Derived.Test.YtfpjnmhdbgbmmaaGreatDoorWa2
import Derived.Test.YtfpjnmhdbgbmmaaGreatDoorWa3
import Derived.Test.YtfpjnmhdbgbmmaaGreatDoorWa5
import Derived.Test.YtfpjnmhdbgbmmaaGreatDoorWa7
import Derived.Test.YtfpjnmhdbgbmmaaGreatDoorWa10
import Derived.Test.YtfpjnmhdbgbmmaaGreatDoorWa11
namespace Go.Proofs.YtfpjnmhdbgbmmaaGreatDoor
open Go.AM Go.Proofs
attribute [-simp] qlookup cC dS Ob.wipe Ob.ren Ob.frz1
theorem f_reduce_sized (t : Tree) (r : Tree × Int) (hm : f7 t = some r) : PFn Tryz.prog 106 [.u (.agg [.d (.int .i64 t.States), .d (.sl 2 (List.map Point.row t.Hood)), .d (.sl 2 (List.map Node.row t.Nodes))])] (fun v => v.wk (.tup [.agg [.d (.int .i64 r.1.States), .d (.sl 2 (List.map Point.row r.1.Hood)), .d (.sl 2 (List.map Node.row r.1.Nodes))], .one (.d (.int .i64 r.2))])) := by
 refine aX Tryz.func106 Tryz.ntmps106 rfl (by kernel_rfl) (by simp) fun cx hn => ?_
 unfold f7 at hm
 refine srs hn (by kernel_rfl) ?_
 simp -dsimp []
 refine ac ?_
 refine srs hn (by kernel_rfl) ?_
 simp -dsimp []
 rcases aj hm with ⟨c1, hm⟩ | ⟨c1, hm⟩
 ·refine a8 (b := (gtB (ah t.Nodes) 4096)) (by simp -dsimp []) c1 ?_
  refine srs hn (by kernel_rfl) ?_
  simp -dsimp [c1]
  refine aa (ag ?_)
  cases hm
  refine ⟨.inr rfl, ?_⟩
  refine EE.here ?_
  simp -dsimp
 ·refine a7 (b := (gtB (ah t.Nodes) 4096)) (by simp -dsimp []) c1 ?_
  refine ab (a6 ?_)
  refine srs hn (by kernel_rfl) ?_
  simp -dsimp [c1]
  refine aa ?_
  cases hm
  refine ⟨.inr rfl, ?_⟩
  refine EE.here ?_
  simp -dsimp
theorem c_reduce_sized (t : Tree) (r : Tree × Int) (hm : f7 t = some r) : PureCall Tryz.prog 106 [.u (.agg [.d (.int .i64 t.States), .d (.sl 2 (List.map Point.row t.Hood)), .d (.sl 2 (List.map Node.row t.Nodes))])] (.tup [.agg [.d (.int .i64 r.1.States), .d (.sl 2 (List.map Point.row r.1.Hood)), .d (.sl 2 (List.map Node.row r.1.Nodes))], .one (.d (.int .i64 r.2))]) := (f_reduce_sized t r hm).pureW
section
attribute [-simp] List.map_set List.set_set
def F_reduce_Turn_1 (cx : Cx) (_k : Int) (y1 : Int × (List Node) × (List Point)) (tt : (List Point)) (ee : Exit) (ρ : Env) (σ : Sto) : Prop := match tt with
 | l => ee = .exit 0 ∧ EE cx (aU [(4, .u (.one (.box 4 0))), (6, .u (.one (.box 6 0)))] [(4, .box [.d (.int .i64 0), .d .nil, .d .nil]), (6, .box [.d (.int .i64 y1.1), .own 5000, .d (.sl 2 (List.map Node.row y1.2.1))]), (5000, .row 2 71 (List.map Point.row l))]) ρ σ
theorem l_reduce_Turn_1 (cx : Cx) (hn : cx.n = 83) (k : Int) (y1 : Int × (List Node) × (List Point)) {fu : Nat} {stt : Int × (List Point)} {tt : (List Point)} (hh : al (ge k y1) fu stt = some tt) {ρ : Env} {σ : Sto}
  (hE : b4 (fun stt : Int × (List Point) => match stt with | (a, _l) => [(0, .u (.one (.d (.int .i64 k)))), (4, .u (.one (.box 4 0))), (6, .u (.one (.box 6 0))), (18, .u (.one (.own 5000))), (19, .u (.one (.d (.int .i64 (ah y1.2.2))))), (20, .u (.one (.d (.int .i64 a))))]) (fun stt : Int × (List Point) => match stt with | (_a, l) => [(4, .box [.d (.int .i64 0), .d .nil, .d .nil]), (6, .box [.d (.int .i64 y1.1), .own 5000, .d (.sl 2 (List.map Node.row y1.2.1))]), (5000, .row 2 71 (List.map Point.row l))]) stt ρ σ) : Swp Tryz.prog cx (.loop (bQ [1, 1, 1, 0, 1, 0, 0] (aP Tryz.f47))) ρ σ (F_reduce_Turn_1 cx k y1 tt) := by
 refine b8 hE hh (F_reduce_Turn_1 cx k y1) (fun _ => by rfl) (fun _ => by rfl) ?_
 rintro ⟨a, l⟩ r hm ρ σ hf
 simp only [Fits, am, ap, and_true] at hf
 unfold ge at hm
 dsimp only at hm
 refine srs hn (by kernel_rfl) ?_
 simp -dsimp [hf]
 refine ac ?_
 rcases aj hm with ⟨c4, hm⟩ | ⟨c4, hm⟩
 ·refine a8 (b := (ltB a (ah y1.2.2))) (by simp -dsimp) c4 ?_
  refine ab (a6 (ac (ai ?_)))
  refine srs hn (by kernel_rfl) ?_
  obtain ⟨x, h5, hm⟩ := bnd hm
  simp -dsimp [hf, c4, h5, aW h5]
  refine sw_drN aK mixed 6 (by rw [hn]; kernel_rfl) ?_
  dsimp only [List.take, List.drop]
  obtain ⟨y2, h6, hm⟩ := bnd hm
  simp -dsimp [hf]
  refine ak (fJ k x y2 h6) ?_
  simp -dsimp [hf, h5, aW h5, Point.rset l a.toNat y2.X y2.Y]
  refine aJ ?_
  refine a6 ?_
  refine sr1 hn (by kernel_rfl) ?_
  simp -dsimp [hf]
  cases hm
  refine aB ?_
  refine EE.here ?_
  simp -dsimp [hf]
 ·refine a7 (b := (ltB a (ah y1.2.2))) (by simp -dsimp) c4 ?_
  refine av ?_
  refine ag ?_
  cases hm
  refine ar nofun ?_
  unfold F_reduce_Turn_1
  dsimp only
  refine ⟨rfl, ?_⟩
  refine EE.here ?_
  simp -dsimp [hf, c4]
def F_reduce_Turn_3 (cx : Cx) (y1 : Int × (List Node) × (List Point)) (tt : (Bool × (List Node) × (List Point))) (ee : Exit) (ρ : Env) (σ : Sto) : Prop := match tt with
 | (sorted1, uNodes1, l2) => ee = .exit 4 ∧ EE cx (aU [(4, .u (.one (.box 4 0))), (6, .u (.one (.box 6 0))), (9, .u (.one (.d (.bool sorted1))))] [(4, .box [.d (.int .i64 0), .d .nil, .d .nil]), (6, .box [.d (.int .i64 y1.1), .own 5000, .d (.sl 2 (List.map Node.row uNodes1))]), (5000, .row 2 71 (List.map Point.row l2))]) ρ σ
theorem l_reduce_Turn_3 (cx : Cx) (hn : cx.n = 83) (y1 : Int × (List Node) × (List Point)) {fu : Nat} {stt : Bool × Int × (List Node) × (List Point)} {tt : (Bool × (List Node) × (List Point))} (hh : al (gg y1) fu stt = some tt) {ρ : Env} {σ : Sto}
  (hE : b4 (fun stt : Bool × Int × (List Node) × (List Point) => match stt with | (sorted1, i, _uNodes1, _l2) => [(4, .u (.one (.box 4 0))), (6, .u (.one (.box 6 0))), (9, .u (.one (.d (.bool sorted1)))), (10, .u (.one (.d (.int .i64 i))))]) (fun stt : Bool × Int × (List Node) × (List Point) => match stt with | (_sorted1, _i, uNodes1, l2) => [(4, .box [.d (.int .i64 0), .d .nil, .d .nil]), (6, .box [.d (.int .i64 y1.1), .own 5000, .d (.sl 2 (List.map Node.row uNodes1))]), (5000, .row 2 71 (List.map Point.row l2))]) stt ρ σ) : Swp Tryz.prog cx (.loop (bQ [1, 1, 1, 1, 0, 1, 0, 0, 1, 0, 1, 1, 0, 0] (aP Tryz.f47))) ρ σ (F_reduce_Turn_3 cx y1 tt) := by
 refine b8 hE hh (F_reduce_Turn_3 cx y1) (fun _ => by rfl) (fun _ => by rfl) ?_
 rintro ⟨sorted1, i, uNodes1, l2⟩ r hm ρ σ hf
 simp only [Fits, am, ap, and_true] at hf
 unfold gg at hm
 dsimp only at hm
 refine ac ?_
 refine srs hn (by kernel_rfl) ?_
 simp -dsimp [hf]
 rcases aj hm with ⟨c10, hm⟩ | ⟨c10, hm⟩
 ·refine a8 (b := (ltB i (ah l2))) (by simp -dsimp) c10 ?_
  refine ab (a6 ?_)
  obtain ⟨⟨sorted2, uNodes2, l3⟩, j17, hm⟩ := bnd hm
  refine aw [(4, .u (.one (.box 4 0))), (6, .u (.one (.box 6 0))), (9, .u (.one (.d (.bool sorted2)))), (10, .u (.one (.d (.int .i64 i))))] [(4, .box [.d (.int .i64 0), .d .nil, .d .nil]), (6, .box [.d (.int .i64 y1.1), .own 5000, .d (.sl 2 (List.map Node.row uNodes2))]), (5000, .row 2 71 (List.map Point.row l3))] (by rfl) (by rfl) ?_ fun ρ σ hf => ?_
  ·replace hm := j17
   clear j17
   refine ai ?_
   refine ck aK mixed (by rw [hn]; kernel_rfl) ?_
   obtain ⟨x, h11, hm⟩ := bnd hm
   obtain ⟨x1, h12, hm⟩ := bnd hm
   obtain ⟨y2, h13, hm⟩ := bnd hm
   simp -dsimp [hf, c10, h11, aW h11, h12, aW h12]
   refine ak (gj x x1 y2 h13) ?_
   simp -dsimp
   rcases aj hm with ⟨c14, hm⟩ | ⟨c14, hm⟩
   ·refine a8 (b := (gtB y2 0)) (by simp -dsimp) c14 ?_
    refine srs hn (by kernel_rfl) ?_
    obtain ⟨y3, h15, hm⟩ := bnd hm
    simp -dsimp [hf, c14]
    refine bB (g_reduce_swapped_o_w y1.1 l2 uNodes1 (aA .i64 i 1) y3 h15) [5000] [] rfl rfl rfl (by simp -dsimp []) rfl (by simp -dsimp [hf]) (by first | rfl | simp) rfl (by rw [hn]; decide) ?_
    simp -dsimp [hf]
    refine sw_midcs aK mixed 19 20 20 0 [[4, 5, 6]] [[]] [] none (by rw [hn]; kernel_rfl) fH ?_
    dsimp only [List.take, List.drop, fV, gq, il, pk, List.cons_append, List.nil_append, List.flatten_cons, List.flatten_nil, ey, ez, List.append_nil]
    obtain ⟨x2, h16, hm⟩ := bnd hm
    simp -dsimp [hf, h11, aW h11, h12, aW h12, Point.rset l2 (aA .i64 i 1).toNat x1.X x1.Y, h16, aW h16, Point.rset (l2.set (aA .i64 i 1).toNat x1) i.toNat x.X x.Y]
    refine sr1 hn (by kernel_rfl) ?_
    simp -dsimp
    refine aJ ?_
    refine a6 ?_
    cases hm
    refine EE.here ?_
    simp -dsimp [hf]
   ·refine a7 (b := (gtB y2 0)) (by simp -dsimp) c14 ?_
    refine ab ?_
    refine aJ ?_
    refine a6 ?_
    cases hm
    refine EE.here ?_
    simp -dsimp [hf, c14]
  ·clear j17
   simp only [Fits, am, ap, and_true] at hf
   refine sr1 hn (by kernel_rfl) ?_
   simp -dsimp [hf]
   cases hm
   refine aB ?_
   refine EE.here ?_
   simp -dsimp [hf]
 ·refine a7 (b := (ltB i (ah l2))) (by simp -dsimp) c10 ?_
  refine av ?_
  refine ag ?_
  cases hm
  refine ar nofun ?_
  unfold F_reduce_Turn_3
  dsimp only
  refine ⟨rfl, ?_⟩
  refine EE.here ?_
  simp -dsimp [hf, c10]
def F_reduce_Turn_2 (cx : Cx) (y1 : Int × (List Node) × (List Point)) (tt : ((List Node) × (List Point))) (ee : Exit) (ρ : Env) (σ : Sto) : Prop := match tt with
 | (uNodes, l1) => ee = .exit 2 ∧ EE cx (aU [(4, .u (.one (.box 4 0))), (6, .u (.one (.box 6 0)))] [(4, .box [.d (.int .i64 0), .d .nil, .d .nil]), (6, .box [.d (.int .i64 y1.1), .own 5000, .d (.sl 2 (List.map Node.row uNodes))]), (5000, .row 2 71 (List.map Point.row l1))]) ρ σ
theorem l_reduce_Turn_2 (cx : Cx) (hn : cx.n = 83) (y1 : Int × (List Node) × (List Point)) {fu : Nat} {stt : Bool × (List Node) × (List Point)} {tt : ((List Node) × (List Point))} (hh : al (gd y1) fu stt = some tt) {ρ : Env} {σ : Sto}
  (hE : b4 (fun stt : Bool × (List Node) × (List Point) => match stt with | (sorted, _uNodes, _l1) => [(4, .u (.one (.box 4 0))), (6, .u (.one (.box 6 0))), (9, .u (.one (.d (.bool sorted))))]) (fun stt : Bool × (List Node) × (List Point) => match stt with | (_sorted, uNodes, l1) => [(4, .box [.d (.int .i64 0), .d .nil, .d .nil]), (6, .box [.d (.int .i64 y1.1), .own 5000, .d (.sl 2 (List.map Node.row uNodes))]), (5000, .row 2 71 (List.map Point.row l1))]) stt ρ σ) : Swp Tryz.prog cx (.loop (bQ [1, 1, 1, 1, 0, 1, 0, 0] (aP Tryz.f47))) ρ σ (F_reduce_Turn_2 cx y1 tt) := by
 refine b8 hE hh (F_reduce_Turn_2 cx y1) (fun _ => by rfl) (fun _ => by rfl) ?_
 rintro ⟨sorted, uNodes, l1⟩ r hm ρ σ hf
 simp only [Fits, am, ap, and_true] at hf
 unfold gd at hm
 dsimp only at hm
 refine ac ?_
 refine srs hn (by kernel_rfl) ?_
 simp -dsimp [hf]
 rcases aj hm with ⟨c9, hm⟩ | ⟨c9, hm⟩
 ·refine a8 (b := (aM sorted)) (by simp -dsimp) c9 ?_
  refine ab (a6 (ai ?_))
  refine srs hn (by kernel_rfl) ?_
  simp -dsimp [c9]
  refine srs hn (by kernel_rfl) ?_
  simp -dsimp
  refine ai ?_
  obtain ⟨⟨sorted1, uNodes1, l2⟩, g18, hm⟩ := bnd hm
  refine aO [(4, .u (.one (.box 4 0))), (6, .u (.one (.box 6 0))), (9, .u (.one (.d (.bool true)))), (10, .u (.one (.d (.int .i64 1))))] [(4, .box [.d (.int .i64 0), .d .nil, .d .nil]), (6, .box [.d (.int .i64 y1.1), .own 5000, .d (.sl 2 (List.map Node.row uNodes))]), (5000, .row 2 71 (List.map Point.row l1))] (by rfl) (by rfl) (by
    refine EE.here ?_
    simp -dsimp [hf]
  ) fun ρ σ hf => ?_
  refine (l_reduce_Turn_3 cx hn y1 g18 hf).mono fun ee ρ σ x19 => ?_
  unfold F_reduce_Turn_3 at x19
  dsimp only at x19
  obtain ⟨rfl, x19⟩ := x19
  refine au ?_
  refine aJ ?_
  cases hm
  refine aB ?_
  refine ee_bind (by rfl) (by rfl) x19 fun ρ σ hf => ?_
  simp only [Fits, am, ap, and_true] at hf
  refine EE.here ?_
  simp -dsimp [hf]
 ·refine a7 (b := (aM sorted)) (by simp -dsimp) c9 ?_
  refine av ?_
  refine ag ?_
  cases hm
  refine ar nofun ?_
  unfold F_reduce_Turn_2
  dsimp only
  refine ⟨rfl, ?_⟩
  refine EE.here ?_
  simp -dsimp [hf, c9]
theorem f_reduce_Turn (k : Int) (t : Tree) (r : Tree × Int) (hm : fP k t = some r) : PFn Tryz.prog 47 [.u (.one (.d (.int .i64 k))), .u (.agg [.d (.int .i64 t.States), .d (.sl 2 (List.map Point.row t.Hood)), .d (.sl 2 (List.map Node.row t.Nodes))])] (fun v => v.wk (.tup [.agg [.d (.int .i64 r.1.States), .d (.sl 2 (List.map Point.row r.1.Hood)), .d (.sl 2 (List.map Node.row r.1.Nodes))], .one (.d (.int .i64 r.2))])) := by
 refine aX Tryz.func47 Tryz.ntmps47 rfl (by kernel_rfl) (by simp) fun cx hn => ?_
 unfold fP at hm
 refine srs hn (by kernel_rfl) ?_
 simp -dsimp []
 refine ac ?_
 refine srs hn (by kernel_rfl) ?_
 obtain ⟨y, h1, hm⟩ := bnd hm
 simp -dsimp []
 refine ae (el t y h1) (by rw [hn]; decide) ?_
 simp -dsimp
 rcases aj hm with ⟨c2, hm⟩ | ⟨c2, hm⟩
 ·refine a8 (b := (aM y)) (by simp -dsimp) c2 ?_
  refine srs hn (by kernel_rfl) ?_
  simp -dsimp [c2]
  refine aa (ag ?_)
  cases hm
  refine ⟨.inr rfl, ?_⟩
  refine EE.here ?_
  simp -dsimp
 ·refine a7 (b := (aM y)) (by simp -dsimp) c2 ?_
  refine ab (a6 ?_)
  refine srs hn (by kernel_rfl) ?_
  obtain ⟨y1, h3, hm⟩ := bnd hm
  simp -dsimp [c2]
  refine bB (g_reduce_Reduce_w t y1 h3) [] [5000] rfl rfl rfl (by simp -dsimp []) rfl (by simp -dsimp) (by first | rfl | simp) rfl (by rw [hn]; decide) ?_
  simp -dsimp
  refine ac ?_
  refine srs hn (by kernel_rfl) ?_
  simp -dsimp
  refine ai ?_
  obtain ⟨l, g7, hm⟩ := bnd hm
  refine aO [(0, .u (.one (.d (.int .i64 k)))), (4, .u (.one (.box 4 0))), (6, .u (.one (.box 6 0))), (18, .u (.one (.own 5000))), (19, .u (.one (.d (.int .i64 (ah y1.2.2))))), (20, .u (.one (.d (.int .i64 0))))] [(4, .box [.d (.int .i64 0), .d .nil, .d .nil]), (6, .box [.d (.int .i64 y1.1), .own 5000, .d (.sl 2 (List.map Node.row y1.2.1))]), (5000, .row 2 71 (List.map Point.row y1.2.2))] (by rfl) (by rfl) (by
    refine EE.here ?_
    simp -dsimp
  ) fun ρ σ hf => ?_
  refine (l_reduce_Turn_1 cx hn k y1 g7 hf).mono fun ee ρ σ x8 => ?_
  unfold F_reduce_Turn_1 at x8
  dsimp only at x8
  obtain ⟨rfl, x8⟩ := x8
  refine au ?_
  refine a6 ?_
  refine b5 (by rfl) (by rfl) x8 fun ρ σ hf => ?_
  simp only [Fits, am, ap, and_true] at hf
  refine ac ?_
  refine srs hn (by kernel_rfl) ?_
  simp -dsimp
  refine ai ?_
  obtain ⟨⟨uNodes, l1⟩, g20, hm⟩ := bnd hm
  refine aO [(4, .u (.one (.box 4 0))), (6, .u (.one (.box 6 0))), (9, .u (.one (.d (.bool false))))] [(4, .box [.d (.int .i64 0), .d .nil, .d .nil]), (6, .box [.d (.int .i64 y1.1), .own 5000, .d (.sl 2 (List.map Node.row y1.2.1))]), (5000, .row 2 71 (List.map Point.row l))] (by rfl) (by rfl) (by
    refine EE.here ?_
    simp -dsimp [hf]
  ) fun ρ σ hf => ?_
  refine (l_reduce_Turn_2 cx hn y1 g20 hf).mono fun ee ρ σ x21 => ?_
  unfold F_reduce_Turn_2 at x21
  dsimp only at x21
  obtain ⟨rfl, x21⟩ := x21
  refine au ?_
  refine a6 ?_
  refine b5 (by rfl) (by rfl) x21 fun ρ σ hf => ?_
  simp only [Fits, am, ap, and_true] at hf
  refine Swp.pre (Wk.frz 5000 2 71 (List.map Point.row l1) (by simp -dsimp [hf])) ?_
  refine srs hn (by kernel_rfl) ?_
  obtain ⟨y2, h22, hm⟩ := bnd hm
  simp -dsimp [hf]
  refine ae (c_reduce_sized (⟨y1.1, l1, uNodes⟩ : Tree) y2 h22) (by rw [hn]; decide) ?_
  simp -dsimp [hf]
  refine aa ?_
  cases hm
  refine ⟨.inr rfl, ?_⟩
  refine EE.here ?_
  simp -dsimp [hf]
theorem c_reduce_Turn (k : Int) (t : Tree) (r : Tree × Int) (hm : fP k t = some r) : PureCall Tryz.prog 47 [.u (.one (.d (.int .i64 k))), .u (.agg [.d (.int .i64 t.States), .d (.sl 2 (List.map Point.row t.Hood)), .d (.sl 2 (List.map Node.row t.Nodes))])] (.tup [.agg [.d (.int .i64 r.1.States), .d (.sl 2 (List.map Point.row r.1.Hood)), .d (.sl 2 (List.map Node.row r.1.Nodes))], .one (.d (.int .i64 r.2))]) := (f_reduce_Turn k t r hm).pureW
end
section
attribute [-simp] List.map_set List.set_set
def F_reduce_rebuilt_reduce_Reduce_1_2 (cx : Cx) (t : Tree) (a : Int) (mp : List (List UInt8 × Int)) (l : List Node) (to_ : List Int) (x : Node) (_y : List Int) (tt : (List Int)) (ee : Exit) (ρ : Env) (σ : Sto) : Prop := match tt with
 | next => ee = .exit 2 ∧ EE cx (aU [(1, .u (.one (.fn 166 []))), (2, .u (.one (.box 2 0))), (4, .u (.one (.box 4 0))), (5, .u (.one (.box 5 0))), (6, .u (.one (.own 5002))), (8, .u (.one (.box 8 0))), (9, .u (.one (.own 23))), (15, .u (.one (.d (.sl 2 (List.map Node.row t.Nodes))))), (16, .u (.one (.d (.int .i64 (ah t.Nodes))))), (17, .u (.one (.d (.int .i64 a))))] [(2, .box [.d (.int .i64 t.States), .d (.sl 2 (List.map Point.row t.Hood)), .d (.sl 2 (List.map Node.row t.Nodes))]), (4, .box [.d (.int .i64 0), .d .nil, .d .nil]), (5, .box [.own 5000, .map 12]), (8, .box [.d (.int .i64 x.Level), .d (.sl 1 (List.map (rI .i64) x.Next))]), (12, mOb .str kS (uL (L.int .i64)) mp), (23, .row 1 3 (List.map (rI .i64) next)), (5000, .row 2 75 (List.map Node.row l)), (5002, .row 1 3 (List.map (rI .i64) to_))]) ρ σ
theorem l_reduce_rebuilt_reduce_Reduce_1_2 (cx : Cx) (hn : cx.n = 69) (t : Tree) (a : Int) (mp : List (List UInt8 × Int)) (l : List Node) (to_ : List Int) (x : Node) (y : List Int) {fu : Nat} {stt : Int × (List Int)} {tt : (List Int)} (hh : al (bD t a mp l to_ x y) fu stt = some tt) {ρ : Env} {σ : Sto}
  (hE : b4 (fun stt : Int × (List Int) => match stt with | (a1, _next) => [(1, .u (.one (.fn 166 []))), (2, .u (.one (.box 2 0))), (4, .u (.one (.box 4 0))), (5, .u (.one (.box 5 0))), (6, .u (.one (.own 5002))), (8, .u (.one (.box 8 0))), (9, .u (.one (.own 23))), (15, .u (.one (.d (.sl 2 (List.map Node.row t.Nodes))))), (16, .u (.one (.d (.int .i64 (ah t.Nodes))))), (17, .u (.one (.d (.int .i64 a)))), (24, .u (.one (.own 23))), (25, .u (.one (.d (.int .i64 (ah y))))), (26, .u (.one (.d (.int .i64 a1))))]) (fun stt : Int × (List Int) => match stt with | (_a1, next) => [(2, .box [.d (.int .i64 t.States), .d (.sl 2 (List.map Point.row t.Hood)), .d (.sl 2 (List.map Node.row t.Nodes))]), (4, .box [.d (.int .i64 0), .d .nil, .d .nil]), (5, .box [.own 5000, .map 12]), (8, .box [.d (.int .i64 x.Level), .d (.sl 1 (List.map (rI .i64) x.Next))]), (12, mOb .str kS (uL (L.int .i64)) mp), (23, .row 1 3 (List.map (rI .i64) next)), (5000, .row 2 75 (List.map Node.row l)), (5002, .row 1 3 (List.map (rI .i64) to_))]) stt ρ σ) : Swp Tryz.prog cx (.loop (bQ [1, 1, 1, 0, 1, 0, 0, 1, 1, 0, 0, 1, 1, 0, 1, 0, 0] (aP Tryz.f165))) ρ σ (F_reduce_rebuilt_reduce_Reduce_1_2 cx t a mp l to_ x y tt) := by
 refine b8 hE hh (F_reduce_rebuilt_reduce_Reduce_1_2 cx t a mp l to_ x y) (fun _ => by rfl) (fun _ => by rfl) ?_
 rintro ⟨a1, next⟩ r hm ρ σ hf
 simp only [Fits, am, ap, and_true] at hf
 unfold bD at hm
 dsimp only at hm
 refine srs hn (by kernel_rfl) ?_
 simp -dsimp [hf]
 refine ac ?_
 rcases aj hm with ⟨c4, hm⟩ | ⟨c4, hm⟩
 ·refine a8 (b := (ltB a1 (ah y))) (by simp -dsimp) c4 ?_
  refine ab (a6 ?_)
  obtain ⟨next1, j8, hm⟩ := bnd hm
  refine aw [(1, .u (.one (.fn 166 []))), (2, .u (.one (.box 2 0))), (4, .u (.one (.box 4 0))), (5, .u (.one (.box 5 0))), (6, .u (.one (.own 5002))), (8, .u (.one (.box 8 0))), (9, .u (.one (.own 23))), (15, .u (.one (.d (.sl 2 (List.map Node.row t.Nodes))))), (16, .u (.one (.d (.int .i64 (ah t.Nodes))))), (17, .u (.one (.d (.int .i64 a)))), (24, .u (.one (.own 23))), (25, .u (.one (.d (.int .i64 (ah y))))), (26, .u (.one (.d (.int .i64 a1))))] [(2, .box [.d (.int .i64 t.States), .d (.sl 2 (List.map Point.row t.Hood)), .d (.sl 2 (List.map Node.row t.Nodes))]), (4, .box [.d (.int .i64 0), .d .nil, .d .nil]), (5, .box [.own 5000, .map 12]), (8, .box [.d (.int .i64 x.Level), .d (.sl 1 (List.map (rI .i64) x.Next))]), (12, mOb .str kS (uL (L.int .i64)) mp), (23, .row 1 3 (List.map (rI .i64) next1)), (5000, .row 2 75 (List.map Node.row l)), (5002, .row 1 3 (List.map (rI .i64) to_))] (by rfl) (by rfl) ?_ fun ρ σ hf => ?_
  ·replace hm := j8
   clear j8
   refine ai ?_
   refine srs hn (by kernel_rfl) ?_
   obtain ⟨x1, h5, hm⟩ := bnd hm
   simp -dsimp [hf, c4, h5, aW h5]
   refine srs hn (by kernel_rfl) ?_
   simp -dsimp [hf]
   rcases aj hm with ⟨c6, hm⟩ | ⟨c6, hm⟩
   ·refine a8 (b := (gtB x.Level 1)) (by simp -dsimp) c6 ?_
    refine sr1 hn (by kernel_rfl) ?_
    obtain ⟨x2, h7, hm⟩ := bnd hm
    simp -dsimp [hf, h5, aW h5, c6, h7, aW h7, rsetI .i64 next a1.toNat x2]
    refine aJ ?_
    refine a6 ?_
    cases hm
    refine EE.here ?_
    simp -dsimp [hf]
   ·refine a7 (b := (gtB x.Level 1)) (by simp -dsimp) c6 ?_
    refine ab ?_
    refine aJ ?_
    refine a6 ?_
    cases hm
    refine EE.here ?_
    simp -dsimp [hf, c6]
  ·clear j8
   simp only [Fits, am, ap, and_true] at hf
   refine sr1 hn (by kernel_rfl) ?_
   simp -dsimp [hf]
   cases hm
   refine aB ?_
   refine EE.here ?_
   simp -dsimp [hf]
 ·refine a7 (b := (ltB a1 (ah y))) (by simp -dsimp) c4 ?_
  refine av ?_
  refine ag ?_
  cases hm
  refine ar nofun ?_
  unfold F_reduce_rebuilt_reduce_Reduce_1_2
  dsimp only
  refine ⟨rfl, ?_⟩
  refine EE.here ?_
  simp -dsimp [hf, c4]
def F_reduce_rebuilt_reduce_Reduce_1_1 (cx : Cx) (t : Tree) (tt : ((List (List UInt8 × Int)) × (List Node) × (List Int))) (ee : Exit) (ρ : Env) (σ : Sto) : Prop := match tt with
 | (mp, l, to_) => ee = .exit 0 ∧ EE cx (aU [(2, .u (.one (.box 2 0))), (4, .u (.one (.box 4 0))), (5, .u (.one (.box 5 0))), (6, .u (.one (.own 5002)))] [(2, .box [.d (.int .i64 t.States), .d (.sl 2 (List.map Point.row t.Hood)), .d (.sl 2 (List.map Node.row t.Nodes))]), (4, .box [.d (.int .i64 0), .d .nil, .d .nil]), (5, .box [.own 5000, .map 12]), (12, mOb .str kS (uL (L.int .i64)) mp), (5000, .row 2 75 (List.map Node.row l)), (5002, .row 1 3 (List.map (rI .i64) to_))]) ρ σ
theorem l_reduce_rebuilt_reduce_Reduce_1_1 (cx : Cx) (hn : cx.n = 69) (t : Tree) {fu : Nat} {stt : Int × (List (List UInt8 × Int)) × (List Node) × (List Int)} {tt : ((List (List UInt8 × Int)) × (List Node) × (List Int))} (hh : al (bC t) fu stt = some tt) {ρ : Env} {σ : Sto}
  (hE : b4 (fun stt : Int × (List (List UInt8 × Int)) × (List Node) × (List Int) => match stt with | (a, _mp, _l, _to_) => [(1, .u (.one (.fn 166 []))), (2, .u (.one (.box 2 0))), (4, .u (.one (.box 4 0))), (5, .u (.one (.box 5 0))), (6, .u (.one (.own 5002))), (15, .u (.one (.d (.sl 2 (List.map Node.row t.Nodes))))), (16, .u (.one (.d (.int .i64 (ah t.Nodes))))), (17, .u (.one (.d (.int .i64 a))))]) (fun stt : Int × (List (List UInt8 × Int)) × (List Node) × (List Int) => match stt with | (_a, mp, l, to_) => [(2, .box [.d (.int .i64 t.States), .d (.sl 2 (List.map Point.row t.Hood)), .d (.sl 2 (List.map Node.row t.Nodes))]), (4, .box [.d (.int .i64 0), .d .nil, .d .nil]), (5, .box [.own 5000, .map 12]), (12, mOb .str kS (uL (L.int .i64)) mp), (5000, .row 2 75 (List.map Node.row l)), (5002, .row 1 3 (List.map (rI .i64) to_))]) stt ρ σ) : Swp Tryz.prog cx (.loop (bQ [1, 1, 1, 0, 1, 0, 0] (aP Tryz.f165))) ρ σ (F_reduce_rebuilt_reduce_Reduce_1_1 cx t tt) := by
 refine b8 hE hh (F_reduce_rebuilt_reduce_Reduce_1_1 cx t) (fun _ => by rfl) (fun _ => by rfl) ?_
 rintro ⟨a, mp, l, to_⟩ r hm ρ σ hf
 simp only [Fits, am, ap, and_true] at hf
 unfold bC at hm
 dsimp only at hm
 refine srs hn (by kernel_rfl) ?_
 simp -dsimp [hf]
 refine ac ?_
 rcases aj hm with ⟨c1, hm⟩ | ⟨c1, hm⟩
 ·refine a8 (b := (ltB a (ah t.Nodes))) (by simp -dsimp) c1 ?_
  refine ab (a6 (ac (ai ?_)))
  refine srs hn (by kernel_rfl) ?_
  obtain ⟨x, h2, hm⟩ := bnd hm
  simp -dsimp [hf, c1, h2]
  refine srs hn (by kernel_rfl) ?_
  obtain ⟨y, h3, hm⟩ := bnd hm
  simp -dsimp
  refine callL_new (n_slices_Clone_int_int x.Next y h3) (by rw [hn]; decide) (by decide) ?_
  simp -dsimp
  refine ac ?_
  refine srs hn (by kernel_rfl) ?_
  simp -dsimp
  refine ai ?_
  obtain ⟨next, g9, hm⟩ := bnd hm
  refine aO [(1, .u (.one (.fn 166 []))), (2, .u (.one (.box 2 0))), (4, .u (.one (.box 4 0))), (5, .u (.one (.box 5 0))), (6, .u (.one (.own 5002))), (8, .u (.one (.box 8 0))), (9, .u (.one (.own 23))), (15, .u (.one (.d (.sl 2 (List.map Node.row t.Nodes))))), (16, .u (.one (.d (.int .i64 (ah t.Nodes))))), (17, .u (.one (.d (.int .i64 a)))), (24, .u (.one (.own 23))), (25, .u (.one (.d (.int .i64 (ah y))))), (26, .u (.one (.d (.int .i64 0))))] [(2, .box [.d (.int .i64 t.States), .d (.sl 2 (List.map Point.row t.Hood)), .d (.sl 2 (List.map Node.row t.Nodes))]), (4, .box [.d (.int .i64 0), .d .nil, .d .nil]), (5, .box [.own 5000, .map 12]), (8, .box [.d (.int .i64 x.Level), .d (.sl 1 (List.map (rI .i64) x.Next))]), (12, mOb .str kS (uL (L.int .i64)) mp), (23, .row 1 3 (List.map (rI .i64) y)), (5000, .row 2 75 (List.map Node.row l)), (5002, .row 1 3 (List.map (rI .i64) to_))] (by rfl) (by rfl) (by
    refine EE.here ?_
    simp -dsimp [hf]
  ) fun ρ σ hf => ?_
  refine (l_reduce_rebuilt_reduce_Reduce_1_2 cx hn t a mp l to_ x y g9 hf).mono fun ee ρ σ x10 => ?_
  unfold F_reduce_rebuilt_reduce_Reduce_1_2 at x10
  dsimp only at x10
  obtain ⟨rfl, x10⟩ := x10
  refine au ?_
  refine a6 ?_
  refine b5 (by rfl) (by rfl) x10 fun ρ σ hf => ?_
  simp only [Fits, am, ap, and_true] at hf
  refine Swp.pre (Wk.frz 23 1 3 (List.map (rI .i64) next) (by simp -dsimp [hf])) ?_
  refine sw_midc aK mixed 8 9 10 0 [[0]] [[5001]] [true] none (by rw [hn]; kernel_rfl) fH ?_
  dsimp only [List.take, List.drop, fV, gq, il, pk, List.cons_append, List.nil_append, List.flatten_cons, List.flatten_nil, ey, ez, List.append_nil]
  obtain ⟨y1, h11, hm⟩ := bnd hm
  simp -dsimp [hf]
  refine ak (c_reduce_Reduce_1 x.Level next y1 h11) ?_
  obtain ⟨y2, h12, hm⟩ := bnd hm
  simp -dsimp [hf]
  refine callE_g (g_reduce_builder_node_o l mp x.Level y1 y2 h12) [5, 5000, 12] [5001] rfl rfl rfl (by simp -dsimp []) rfl (by simp -dsimp [hf]) (by first | rfl | simp) rfl (by rw [hn]; decide) rfl rfl (by simp) nofun (by simp) ?_
  obtain ⟨l1, h13, hm⟩ := bnd hm
  obtain ⟨h13a, h13e⟩ := aL h13
  replace h13e := h13e.symm
  subst h13e
  try simp only [List.length_cons, List.length_nil, Nat.zero_add] at h13a
  simp -dsimp [hf, h13a]
  refine aJ ?_
  refine a6 ?_
  refine sr1 hn (by kernel_rfl) ?_
  simp -dsimp [hf]
  cases hm
  refine aB ?_
  refine EE.step (Wk.move 52 5002 (by decide) (.inl (by decide))) ?_
  refine EE.step (Wk.move 5001 5000 (by decide) (.inl (by decide))) ?_
  refine EE.here ?_
  simp -dsimp [hf]
 ·refine a7 (b := (ltB a (ah t.Nodes))) (by simp -dsimp) c1 ?_
  refine av ?_
  refine ag ?_
  cases hm
  refine ar nofun ?_
  unfold F_reduce_rebuilt_reduce_Reduce_1_1
  dsimp only
  refine ⟨rfl, ?_⟩
  refine EE.here ?_
  simp -dsimp [hf, c1]
theorem f_reduce_rebuilt_reduce_Reduce_1 (t : Tree) (r : Tree) (hm : be t = some r) : PFn Tryz.prog 165 [.u (.agg [.d (.int .i64 t.States), .d (.sl 2 (List.map Point.row t.Hood)), .d (.sl 2 (List.map Node.row t.Nodes))]), .u (.one (.fn 166 []))] (fun v => v.wk (.u (.agg [.d (.int .i64 r.States), .d (.sl 2 (List.map Point.row r.Hood)), .d (.sl 2 (List.map Node.row r.Nodes))]))) := by
 refine aX Tryz.func165 Tryz.ntmps165 rfl (by kernel_rfl) (by simp) fun cx hn => ?_
 unfold be at hm
 refine srs hn (by kernel_rfl) ?_
 simp -dsimp []
 refine srs hn (by kernel_rfl) ?_
 simp -dsimp [(@id (Ob.map .str [] = mOb .str kS (uL (L.int .i64)) ([] : List (List UInt8 × Int))) (iv .str kS (uL (L.int .i64))))]
 refine srs hn (by kernel_rfl) ?_
 simp -dsimp
 refine ac ?_
 refine srs hn (by kernel_rfl) ?_
 simp -dsimp
 refine ai ?_
 obtain ⟨⟨mp, l, to_⟩, g14, hm⟩ := bnd hm
 refine aO [(1, .u (.one (.fn 166 []))), (2, .u (.one (.box 2 0))), (4, .u (.one (.box 4 0))), (5, .u (.one (.box 5 0))), (6, .u (.one (.own 5002))), (15, .u (.one (.d (.sl 2 (List.map Node.row t.Nodes))))), (16, .u (.one (.d (.int .i64 (ah t.Nodes))))), (17, .u (.one (.d (.int .i64 0))))] [(2, .box [.d (.int .i64 t.States), .d (.sl 2 (List.map Point.row t.Hood)), .d (.sl 2 (List.map Node.row t.Nodes))]), (4, .box [.d (.int .i64 0), .d .nil, .d .nil]), (5, .box [.own 5000, .map 12]), (12, mOb .str kS (uL (L.int .i64)) []), (5000, .row 2 75 (List.map Node.row [])), (5002, .row 1 3 (List.map (rI .i64) []))] (by rfl) (by rfl) (by
   refine EE.step (Wk.own0 6 5002 1 3 (by simp -dsimp) (by decide)) ?_
   refine EE.step (Wk.own0b 5 0 5000 2 75 [.d .nil, .map 12] (by simp -dsimp) (by rfl) (by decide) (by decide)) ?_
   refine EE.here ?_
   simp -dsimp
 ) fun ρ σ hf => ?_
 refine (l_reduce_rebuilt_reduce_Reduce_1_1 cx hn t g14 hf).mono fun ee ρ σ x15 => ?_
 unfold F_reduce_rebuilt_reduce_Reduce_1_1 at x15
 dsimp only at x15
 obtain ⟨rfl, x15⟩ := x15
 refine au ?_
 refine a6 ?_
 refine b5 (by rfl) (by rfl) x15 fun ρ σ hf => ?_
 simp only [Fits, am, ap, and_true] at hf
 refine Swp.pre (Wk.frz 5000 2 75 (List.map Node.row l) (by simp -dsimp [hf])) ?_
 refine sw_drNs aK mixed 14 (by rw [hn]; kernel_rfl) ?_
 dsimp only [List.take, List.drop]
 obtain ⟨y, h16, hm⟩ := bnd hm
 simp -dsimp [hf]
 refine ak (c_slices_Clone_api_Point_api_Point t.Hood y h16) ?_
 obtain ⟨x, h17, hm⟩ := bnd hm
 obtain ⟨y1, h18, hm⟩ := bnd hm
 simp -dsimp [hf, h17, aW h17]
 refine ak (c_reduce_ordered l x y1 h18) ?_
 simp -dsimp [hf]
 refine aa ?_
 cases hm
 refine ⟨.inr rfl, ?_⟩
 refine EE.here ?_
 simp -dsimp [hf]
theorem c_reduce_rebuilt_reduce_Reduce_1 (t : Tree) (r : Tree) (hm : be t = some r) : PureCall Tryz.prog 165 [.u (.agg [.d (.int .i64 t.States), .d (.sl 2 (List.map Point.row t.Hood)), .d (.sl 2 (List.map Node.row t.Nodes))]), .u (.one (.fn 166 []))] (.u (.agg [.d (.int .i64 r.States), .d (.sl 2 (List.map Point.row r.Hood)), .d (.sl 2 (List.map Node.row r.Nodes))])) := (f_reduce_rebuilt_reduce_Reduce_1 t r hm).pureW
end
theorem f_reduce_Reduce (t : Tree) (r : Tree) (hm : dM t = some r) : PFn Tryz.prog 103 [.u (.agg [.d (.int .i64 t.States), .d (.sl 2 (List.map Point.row t.Hood)), .d (.sl 2 (List.map Node.row t.Nodes))])] (fun v => v.wk (.u (.agg [.d (.int .i64 r.States), .d (.sl 2 (List.map Point.row r.Hood)), .d (.sl 2 (List.map Node.row r.Nodes))]))) := by
 refine aX Tryz.func103 Tryz.ntmps103 rfl (by kernel_rfl) (by simp) fun cx hn => ?_
 unfold dM at hm
 refine srs hn (by kernel_rfl) ?_
 simp -dsimp []
 refine ac ?_
 refine srs hn (by kernel_rfl) ?_
 obtain ⟨y, h1, hm⟩ := bnd hm
 simp -dsimp []
 refine ae (el t y h1) (by rw [hn]; decide) ?_
 simp -dsimp
 rcases aj hm with ⟨c2, hm⟩ | ⟨c2, hm⟩
 ·refine a8 (b := (aM y)) (by simp -dsimp) c2 ?_
  refine srs hn (by kernel_rfl) ?_
  simp -dsimp [c2]
  refine aa (ag ?_)
  cases hm
  refine ⟨.inr rfl, ?_⟩
  refine EE.here ?_
  simp -dsimp
 ·refine a7 (b := (aM y)) (by simp -dsimp) c2 ?_
  refine ab (a6 ?_)
  refine srs hn (by kernel_rfl) ?_
  obtain ⟨y1, h3, hm⟩ := bnd hm
  simp -dsimp [c2]
  refine ae (c_reduce_rebuilt_reduce_Reduce_1 t y1 h3) (by rw [hn]; decide) ?_
  simp -dsimp
  refine aa ?_
  cases hm
  refine ⟨.inr rfl, ?_⟩
  refine EE.here ?_
  simp -dsimp
theorem c_reduce_Reduce (t : Tree) (r : Tree) (hm : dM t = some r) : PureCall Tryz.prog 103 [.u (.agg [.d (.int .i64 t.States), .d (.sl 2 (List.map Point.row t.Hood)), .d (.sl 2 (List.map Node.row t.Nodes))])] (.u (.agg [.d (.int .i64 r.States), .d (.sl 2 (List.map Point.row r.Hood)), .d (.sl 2 (List.map Node.row r.Nodes))])) := (f_reduce_Reduce t r hm).pureW
def F_slices_Equal_int_int_1 (cx : Cx) (_s1 : List Int) (_s2 : List Int) (tt : Bool ⊕ Unit) (ee : Exit) (ρ : Env) (σ : Sto) : Prop := match tt with
 | .inl r => ee = .ret ∧ EE cx (fun ρ σ => ∃ v, resV tb ρ σ Tryz.f172.results.toList = some v ∧ (v.frz σ).free = true ∧ (v.frz σ).wk (.u (.one (.d (.bool r))))) ρ σ
 | .inr _u => ee = .exit 0 ∧ EE cx (aU [] []) ρ σ
theorem l_slices_Equal_int_int_1 (cx : Cx) (hn : cx.n = 26) (s1 : List Int) (s2 : List Int) {fu : Nat} {stt : Int} {tt : Bool ⊕ Unit} (hh : al (dj s1 s2) fu stt = some tt) {ρ : Env} {σ : Sto}
  (hE : b4 (fun a : Int => [(0, .u (.one (.d (.sl 1 (List.map (rI .i64) s1))))), (1, .u (.one (.d (.sl 1 (List.map (rI .i64) s2))))), (12, .u (.one (.d (.int .i64 (ah s1))))), (13, .u (.one (.d (.int .i64 a))))]) (fun _a : Int => []) stt ρ σ) : Swp Tryz.prog cx (.loop (bQ [1, 1, 0, 1, 0, 0] (aP Tryz.f172))) ρ σ (F_slices_Equal_int_int_1 cx s1 s2 tt) := by
 refine b8 hE hh (F_slices_Equal_int_int_1 cx s1 s2) (fun _ => by rfl) (fun _ => by rfl) ?_
 rintro a r hm ρ σ hf
 simp only [Fits, am, ap, and_true] at hf
 unfold dj at hm
 dsimp only at hm
 refine srs hn (by kernel_rfl) ?_
 simp -dsimp [hf]
 refine ac ?_
 rcases aj hm with ⟨c2, hm⟩ | ⟨c2, hm⟩
 ·refine a8 (b := (ltB a (ah s1))) (by simp -dsimp) c2 ?_
  refine ab (a6 (ac (ai ?_)))
  refine srs hn (by kernel_rfl) ?_
  simp -dsimp [hf, c2]
  refine ck aK mixed (by rw [hn]; kernel_rfl) ?_
  obtain ⟨x, h3, hm⟩ := bnd hm
  obtain ⟨x1, h4, hm⟩ := bnd hm
  simp -dsimp [hf, h3, h4]
  rcases aj hm with ⟨c5, hm⟩ | ⟨c5, hm⟩
  ·refine a8 (b := (neB x x1)) (by simp -dsimp) c5 ?_
   refine srs hn (by kernel_rfl) ?_
   simp -dsimp [c5]
   refine aa (aN (ag ?_))
   cases hm
   refine ar nofun ?_
   unfold F_slices_Equal_int_int_1
   dsimp only
   refine ⟨rfl, ?_⟩
   refine EE.here ?_
   simp -dsimp [Tryz.results172]
  ·refine a7 (b := (neB x x1)) (by simp -dsimp) c5 ?_
   refine ab ?_
   refine aJ ?_
   refine a6 ?_
   refine sr1 hn (by kernel_rfl) ?_
   simp -dsimp [hf, c5]
   cases hm
   refine aB ?_
   refine EE.here ?_
   simp -dsimp [hf]
 ·refine a7 (b := (ltB a (ah s1))) (by simp -dsimp) c2 ?_
  refine av ?_
  refine ag ?_
  cases hm
  refine ar nofun ?_
  unfold F_slices_Equal_int_int_1
  dsimp only
  refine ⟨rfl, ?_⟩
  refine EE.here ?_
  simp -dsimp [c2]
theorem f_slices_Equal_int_int (s1 : List Int) (s2 : List Int) (r : Bool) (hm : cD s1 s2 = some r) : PFn Tryz.prog 172 [.u (.one (.d (.sl 1 (List.map (rI .i64) s1)))), .u (.one (.d (.sl 1 (List.map (rI .i64) s2))))] (fun v => v.wk (.u (.one (.d (.bool r))))) := by
 refine aX Tryz.func172 Tryz.ntmps172 rfl (by kernel_rfl) (by simp) fun cx hn => ?_
 unfold cD at hm
 refine srs hn (by kernel_rfl) ?_
 simp -dsimp []
 refine ac ?_
 refine srs hn (by kernel_rfl) ?_
 simp -dsimp []
 rcases aj hm with ⟨c1, hm⟩ | ⟨c1, hm⟩
 ·refine a8 (b := (neB (ah s1) (ah s2))) (by simp -dsimp []) c1 ?_
  refine srs hn (by kernel_rfl) ?_
  simp -dsimp [c1]
  refine aa (ag ?_)
  cases hm
  refine ⟨.inr rfl, ?_⟩
  refine EE.here ?_
  simp -dsimp
 ·refine a7 (b := (neB (ah s1) (ah s2))) (by simp -dsimp []) c1 ?_
  refine ab (a6 (ac ?_))
  refine srs hn (by kernel_rfl) ?_
  simp -dsimp [c1]
  refine ai ?_
  obtain ⟨o_, g6, hm⟩ := bnd hm
  refine aO [(0, .u (.one (.d (.sl 1 (List.map (rI .i64) s1))))), (1, .u (.one (.d (.sl 1 (List.map (rI .i64) s2))))), (12, .u (.one (.d (.int .i64 (ah s1))))), (13, .u (.one (.d (.int .i64 0))))] [] (by rfl) (by rfl) (by
    refine EE.here ?_
    simp -dsimp
  ) fun ρ σ hf => ?_
  refine (l_slices_Equal_int_int_1 cx hn s1 s2 g6 hf).mono fun ee ρ σ x7 => ?_
  rcases o_ with r | _u
  ·unfold F_slices_Equal_int_int_1 at x7
   dsimp only at x7
   obtain ⟨rfl, x7⟩ := x7
   refine aN (ag ?_)
   cases hm
   exact ⟨.inr rfl, x7⟩
  ·unfold F_slices_Equal_int_int_1 at x7
   dsimp only at x7
   obtain ⟨rfl, x7⟩ := x7
   refine au ?_
   refine a6 ?_
   refine b5 (by rfl) (by rfl) x7 fun ρ σ hf => ?_
   simp only [Fits, am, ap, and_true] at hf
   refine srs hn (by kernel_rfl) ?_
   simp -dsimp
   refine aa ?_
   cases hm
   refine ⟨.inr rfl, ?_⟩
   refine EE.here ?_
   simp -dsimp
theorem c_slices_Equal_int_int (s1 : List Int) (s2 : List Int) (r : Bool) (hm : cD s1 s2 = some r) : PureCall Tryz.prog 172 [.u (.one (.d (.sl 1 (List.map (rI .i64) s1)))), .u (.one (.d (.sl 1 (List.map (rI .i64) s2))))] (.u (.one (.d (.bool r)))) := (f_slices_Equal_int_int s1 s2 r hm).pureW
theorem f_tree_Same_1 (x : Node) (y : Node) (r : Bool) (hm : fO x y = some r) : PFn Tryz.prog 171 [.u (.agg [.d (.int .i64 x.Level), .d (.sl 1 (List.map (rI .i64) x.Next))]), .u (.agg [.d (.int .i64 y.Level), .d (.sl 1 (List.map (rI .i64) y.Next))])] (fun v => v.wk (.u (.one (.d (.bool r))))) := by
 refine aX Tryz.func171 Tryz.ntmps171 rfl (by kernel_rfl) (by simp) fun cx hn => ?_
 unfold fO at hm
 refine srs hn (by kernel_rfl) ?_
 simp -dsimp []
 obtain ⟨a, j3, hm⟩ := bnd hm
 refine aw [(4, .u (.one (.d (.bool a))))] [] (by rfl) (by rfl) ?_ fun ρ σ hf => ?_
 ·replace hm := j3
  clear j3
  refine sr1 hn (by kernel_rfl) ?_
  rcases aj hm with ⟨c1, hm⟩ | ⟨c1, hm⟩
  ·obtain ⟨y1, h2, hm⟩ := bnd hm
   simp -dsimp [c1]
   refine ae (c_slices_Equal_int_int x.Next y.Next y1 h2) (by rw [hn]; decide) ?_
   simp -dsimp
   refine a6 ?_
   cases hm
   refine EE.here ?_
   simp -dsimp
  ·simp -dsimp [c1]
   refine a6 ?_
   cases hm
   refine EE.here ?_
   simp -dsimp
 ·clear j3
  simp only [Fits, am, ap, and_true] at hf
  refine aa ?_
  cases hm
  refine ⟨.inr rfl, ?_⟩
  refine EE.here ?_
  simp -dsimp [hf]
theorem c_tree_Same_1 (x : Node) (y : Node) (r : Bool) (hm : fO x y = some r) : PureCall Tryz.prog 171 [.u (.agg [.d (.int .i64 x.Level), .d (.sl 1 (List.map (rI .i64) x.Next))]), .u (.agg [.d (.int .i64 y.Level), .d (.sl 1 (List.map (rI .i64) y.Next))])] (.u (.one (.d (.bool r)))) := (f_tree_Same_1 x y r hm).pureW
def F_slices_EqualFunc_api_Node_api_Node_api_Node_api_Node_tree_Same_1_1 (cx : Cx) (_s1 : List Node) (_s2 : List Node) (tt : Bool ⊕ Unit) (ee : Exit) (ρ : Env) (σ : Sto) : Prop := match tt with
 | .inl r => ee = .ret ∧ EE cx (fun ρ σ => ∃ v, resV tb ρ σ Tryz.f170.results.toList = some v ∧ (v.frz σ).free = true ∧ (v.frz σ).wk (.u (.one (.d (.bool r))))) ρ σ
 | .inr _u => ee = .exit 0 ∧ EE cx (aU [] []) ρ σ
theorem l_slices_EqualFunc_api_Node_api_Node_api_Node_api_Node_tree_Same_1_1 (cx : Cx) (hn : cx.n = 32) (s1 : List Node) (s2 : List Node) {fu : Nat} {stt : Int} {tt : Bool ⊕ Unit} (hh : al (aD s1 s2) fu stt = some tt) {ρ : Env} {σ : Sto}
  (hE : b4 (fun a : Int => [(1, .u (.one (.d (.sl 2 (List.map Node.row s2))))), (2, .u (.one (.fn 171 []))), (15, .u (.one (.d (.sl 2 (List.map Node.row s1))))), (16, .u (.one (.d (.int .i64 (ah s1))))), (17, .u (.one (.d (.int .i64 a))))]) (fun _a : Int => []) stt ρ σ) : Swp Tryz.prog cx (.loop (bQ [1, 1, 0, 1, 0, 0] (aP Tryz.f170))) ρ σ (F_slices_EqualFunc_api_Node_api_Node_api_Node_api_Node_tree_Same_1_1 cx s1 s2 tt) := by
 refine b8 hE hh (F_slices_EqualFunc_api_Node_api_Node_api_Node_api_Node_tree_Same_1_1 cx s1 s2) (fun _ => by rfl) (fun _ => by rfl) ?_
 rintro a r hm ρ σ hf
 simp only [Fits, am, ap, and_true] at hf
 unfold aD at hm
 dsimp only at hm
 refine srs hn (by kernel_rfl) ?_
 simp -dsimp [hf]
 refine ac ?_
 rcases aj hm with ⟨c2, hm⟩ | ⟨c2, hm⟩
 ·refine a8 (b := (ltB a (ah s1))) (by simp -dsimp) c2 ?_
  refine ab (a6 (ac (ai ?_)))
  refine srs hn (by kernel_rfl) ?_
  obtain ⟨x, h3, hm⟩ := bnd hm
  simp -dsimp [hf, c2, h3]
  refine srs hn (by kernel_rfl) ?_
  obtain ⟨x1, h4, hm⟩ := bnd hm
  simp -dsimp [hf, h4]
  refine srs hn (by kernel_rfl) ?_
  obtain ⟨y, h5, hm⟩ := bnd hm
  simp -dsimp [hf]
  refine ae (c_tree_Same_1 x x1 y h5) (by rw [hn]; decide) ?_
  simp -dsimp
  rcases aj hm with ⟨c6, hm⟩ | ⟨c6, hm⟩
  ·refine a8 (b := (aM y)) (by simp -dsimp) c6 ?_
   refine srs hn (by kernel_rfl) ?_
   simp -dsimp [c6]
   refine aa (aN (ag ?_))
   cases hm
   refine ar nofun ?_
   unfold F_slices_EqualFunc_api_Node_api_Node_api_Node_api_Node_tree_Same_1_1
   dsimp only
   refine ⟨rfl, ?_⟩
   refine EE.here ?_
   simp -dsimp [Tryz.results170]
  ·refine a7 (b := (aM y)) (by simp -dsimp) c6 ?_
   refine ab ?_
   refine aJ ?_
   refine a6 ?_
   refine sr1 hn (by kernel_rfl) ?_
   simp -dsimp [hf, c6]
   cases hm
   refine aB ?_
   refine EE.here ?_
   simp -dsimp [hf]
 ·refine a7 (b := (ltB a (ah s1))) (by simp -dsimp) c2 ?_
  refine av ?_
  refine ag ?_
  cases hm
  refine ar nofun ?_
  unfold F_slices_EqualFunc_api_Node_api_Node_api_Node_api_Node_tree_Same_1_1
  dsimp only
  refine ⟨rfl, ?_⟩
  refine EE.here ?_
  simp -dsimp [c2]
theorem f_slices_EqualFunc_api_Node_api_Node_api_Node_api_Node_tree_Same_1 (s1 : List Node) (s2 : List Node) (r : Bool) (hm : az s1 s2 = some r) : PFn Tryz.prog 170 [.u (.one (.d (.sl 2 (List.map Node.row s1)))), .u (.one (.d (.sl 2 (List.map Node.row s2)))), .u (.one (.fn 171 []))] (fun v => v.wk (.u (.one (.d (.bool r))))) := by
 refine aX Tryz.func170 Tryz.ntmps170 rfl (by kernel_rfl) (by simp) fun cx hn => ?_
 unfold az at hm
 refine srs hn (by kernel_rfl) ?_
 simp -dsimp []
 refine ac ?_
 refine srs hn (by kernel_rfl) ?_
 simp -dsimp []
 rcases aj hm with ⟨c1, hm⟩ | ⟨c1, hm⟩
 ·refine a8 (b := (neB (ah s1) (ah s2))) (by simp -dsimp []) c1 ?_
  refine srs hn (by kernel_rfl) ?_
  simp -dsimp [c1]
  refine aa (ag ?_)
  cases hm
  refine ⟨.inr rfl, ?_⟩
  refine EE.here ?_
  simp -dsimp
 ·refine a7 (b := (neB (ah s1) (ah s2))) (by simp -dsimp []) c1 ?_
  refine ab (a6 (ac ?_))
  refine srs hn (by kernel_rfl) ?_
  simp -dsimp [c1]
  refine ai ?_
  obtain ⟨o_, g7, hm⟩ := bnd hm
  refine aO [(1, .u (.one (.d (.sl 2 (List.map Node.row s2))))), (2, .u (.one (.fn 171 []))), (15, .u (.one (.d (.sl 2 (List.map Node.row s1))))), (16, .u (.one (.d (.int .i64 (ah s1))))), (17, .u (.one (.d (.int .i64 0))))] [] (by rfl) (by rfl) (by
    refine EE.here ?_
    simp -dsimp
  ) fun ρ σ hf => ?_
  refine (l_slices_EqualFunc_api_Node_api_Node_api_Node_api_Node_tree_Same_1_1 cx hn s1 s2 g7 hf).mono fun ee ρ σ x8 => ?_
  rcases o_ with r | _u
  ·unfold F_slices_EqualFunc_api_Node_api_Node_api_Node_api_Node_tree_Same_1_1 at x8
   dsimp only at x8
   obtain ⟨rfl, x8⟩ := x8
   refine aN (ag ?_)
   cases hm
   exact ⟨.inr rfl, x8⟩
  ·unfold F_slices_EqualFunc_api_Node_api_Node_api_Node_api_Node_tree_Same_1_1 at x8
   dsimp only at x8
   obtain ⟨rfl, x8⟩ := x8
   refine au ?_
   refine a6 ?_
   refine b5 (by rfl) (by rfl) x8 fun ρ σ hf => ?_
   simp only [Fits, am, ap, and_true] at hf
   refine srs hn (by kernel_rfl) ?_
   simp -dsimp
   refine aa ?_
   cases hm
   refine ⟨.inr rfl, ?_⟩
   refine EE.here ?_
   simp -dsimp
theorem c_slices_EqualFunc_api_Node_api_Node_api_Node_api_Node_tree_Same_1 (s1 : List Node) (s2 : List Node) (r : Bool) (hm : az s1 s2 = some r) : PureCall Tryz.prog 170 [.u (.one (.d (.sl 2 (List.map Node.row s1)))), .u (.one (.d (.sl 2 (List.map Node.row s2)))), .u (.one (.fn 171 []))] (.u (.one (.d (.bool r)))) := (f_slices_EqualFunc_api_Node_api_Node_api_Node_api_Node_tree_Same_1 s1 s2 r hm).pureW
theorem f_tree_Same (a : Tree) (b : Tree) (r : Bool) (hm : i7 a b = some r) : PFn Tryz.prog 108 [.u (.agg [.d (.int .i64 a.States), .d (.sl 2 (List.map Point.row a.Hood)), .d (.sl 2 (List.map Node.row a.Nodes))]), .u (.agg [.d (.int .i64 b.States), .d (.sl 2 (List.map Point.row b.Hood)), .d (.sl 2 (List.map Node.row b.Nodes))])] (fun v => v.wk (.u (.one (.d (.bool r))))) := by
 refine aX Tryz.func108 Tryz.ntmps108 rfl (by kernel_rfl) (by simp) fun cx hn => ?_
 unfold i7 at hm
 refine srs hn (by kernel_rfl) ?_
 simp -dsimp []
 obtain ⟨a1, j5, hm⟩ := bnd hm
 refine aw [(4, .u (.one (.d (.bool a1))))] [] (by rfl) (by rfl) ?_ fun ρ σ hf => ?_
 ·replace hm := j5
  clear j5
  refine sr1 hn (by kernel_rfl) ?_
  rcases aj hm with ⟨c1, hm⟩ | ⟨c1, hm⟩
  ·obtain ⟨y, h2, hm⟩ := bnd hm
   simp -dsimp [c1]
   refine ae (c_hood_Same a.Hood b.Hood y h2) (by rw [hn]; decide) ?_
   rcases aj hm with ⟨c3, hm⟩ | ⟨c3, hm⟩
   ·obtain ⟨y1, h4, hm⟩ := bnd hm
    simp -dsimp [c3]
    refine ae (c_slices_EqualFunc_api_Node_api_Node_api_Node_api_Node_tree_Same_1 a.Nodes b.Nodes y1 h4) (by rw [hn]; decide) ?_
    simp -dsimp
    refine a6 ?_
    cases hm
    refine EE.here ?_
    simp -dsimp
   ·simp -dsimp [c3]
    refine a6 ?_
    cases hm
    refine EE.here ?_
    simp -dsimp
  ·simp -dsimp [c1]
   refine a6 ?_
   cases hm
   refine EE.here ?_
   simp -dsimp
 ·clear j5
  simp only [Fits, am, ap, and_true] at hf
  refine aa ?_
  cases hm
  refine ⟨.inr rfl, ?_⟩
  refine EE.here ?_
  simp -dsimp [hf]
theorem c_tree_Same (a : Tree) (b : Tree) (r : Bool) (hm : i7 a b = some r) : PureCall Tryz.prog 108 [.u (.agg [.d (.int .i64 a.States), .d (.sl 2 (List.map Point.row a.Hood)), .d (.sl 2 (List.map Node.row a.Nodes))]), .u (.agg [.d (.int .i64 b.States), .d (.sl 2 (List.map Point.row b.Hood)), .d (.sl 2 (List.map Node.row b.Nodes))])] (.u (.one (.d (.bool r)))) := (f_tree_Same a b r hm).pureW
set_option maxRecDepth 20000 in
theorem f_reduce_Equal (a : Tree) (b : Tree) (r : Bool) (hm : f5 a b = some r) : PFn Tryz.prog 48 [.u (.agg [.d (.int .i64 a.States), .d (.sl 2 (List.map Point.row a.Hood)), .d (.sl 2 (List.map Node.row a.Nodes))]), .u (.agg [.d (.int .i64 b.States), .d (.sl 2 (List.map Point.row b.Hood)), .d (.sl 2 (List.map Node.row b.Nodes))])] (fun v => v.wk (.u (.one (.d (.bool r))))) := by
 refine aX Tryz.func48 Tryz.ntmps48 rfl (by kernel_rfl) (by simp) fun cx hn => ?_
 unfold f5 at hm
 refine srs hn (by kernel_rfl) ?_
 simp -dsimp []
 obtain ⟨a1, j11, hm⟩ := bnd hm
 refine aw [(4, .u (.one (.d (.bool a1))))] [] (by rfl) (by rfl) ?_ fun ρ σ hf => ?_
 ·replace hm := j11
  clear j11
  refine sw_qt aK mixed (by rw [hn]; kernel_rfl) ?_
  obtain ⟨y, h1, hm⟩ := bnd hm
  simp -dsimp []
  refine ak (el a y h1) ?_
  rcases aj hm with ⟨c2, hm⟩ | ⟨c2, hm⟩
  ·obtain ⟨y1, h3, hm⟩ := bnd hm
   simp -dsimp [c2]
   refine ak (el b y1 h3) ?_
   rcases aj hm with ⟨c4, hm⟩ | ⟨c4, hm⟩
   ·rcases aj hm with ⟨c5, hm⟩ | ⟨c5, hm⟩
    ·obtain ⟨y2, h6, hm⟩ := bnd hm
     simp -dsimp [c4, c5]
     refine ak (c_hood_Same a.Hood b.Hood y2 h6) ?_
     rcases aj hm with ⟨c7, hm⟩ | ⟨c7, hm⟩
     ·obtain ⟨y3, h8, hm⟩ := bnd hm
      simp -dsimp [c7]
      refine ak (c_reduce_Reduce a y3 h8) ?_
      obtain ⟨y4, h9, hm⟩ := bnd hm
      simp -dsimp
      refine ak (c_reduce_Reduce b y4 h9) ?_
      obtain ⟨y5, h10, hm⟩ := bnd hm
      simp -dsimp
      refine ak (c_tree_Same y3 y4 y5 h10) ?_
      simp -dsimp
      refine a6 ?_
      cases hm
      refine EE.here ?_
      simp -dsimp
     ·simp -dsimp [c7]
      refine a6 ?_
      cases hm
      refine EE.here ?_
      simp -dsimp
    ·simp -dsimp [c4, c5]
     refine a6 ?_
     cases hm
     refine EE.here ?_
     simp -dsimp
   ·simp -dsimp [c4]
    refine a6 ?_
    cases hm
    refine EE.here ?_
    simp -dsimp
  ·simp -dsimp [c2]
   refine a6 ?_
   cases hm
   refine EE.here ?_
   simp -dsimp
 ·clear j11
  simp only [Fits, am, ap, and_true] at hf
  refine aa ?_
  cases hm
  refine ⟨.inr rfl, ?_⟩
  refine EE.here ?_
  simp -dsimp [hf]
theorem c_reduce_Equal (a : Tree) (b : Tree) (r : Bool) (hm : f5 a b = some r) : PureCall Tryz.prog 48 [.u (.agg [.d (.int .i64 a.States), .d (.sl 2 (List.map Point.row a.Hood)), .d (.sl 2 (List.map Node.row a.Nodes))]), .u (.agg [.d (.int .i64 b.States), .d (.sl 2 (List.map Point.row b.Hood)), .d (.sl 2 (List.map Node.row b.Nodes))])] (.u (.one (.d (.bool r)))) := (f_reduce_Equal a b r hm).pureW
theorem f_ship_corner (t : Tree) (s : Ship) (sym : Int) (n : Int) (r : Point × Int) (hm : eu t s sym n = some r) : PFn Tryz.prog 49 [.u (.agg [.d (.int .i64 t.States), .d (.sl 2 (List.map Point.row t.Hood)), .d (.sl 2 (List.map Node.row t.Nodes))]), .u (.agg [.d (.sl 3 (List.map Cell.row s.Cells)), .d (.int .i64 s.Motion.Period), .d (.int .i64 s.Motion.DX), .d (.int .i64 s.Motion.DY)]), .u (.one (.d (.int .i64 sym))), .u (.one (.d (.int .i64 n)))] (fun v => v.wk (.tup [.agg [.d (.int .i64 r.1.X), .d (.int .i64 r.1.Y)], .one (.d (.int .i64 r.2))])) := by
 refine aX Tryz.func49 Tryz.ntmps49 rfl (by kernel_rfl) (by simp) fun cx hn => ?_
 unfold eu at hm
 refine srs hn (by kernel_rfl) ?_
 simp -dsimp []
 refine ck aK mixed (by rw [hn]; kernel_rfl) ?_
 obtain ⟨n1, h1, hm⟩ := bnd hm
 obtain ⟨y, h2, hm⟩ := bnd hm
 simp -dsimp [h1]
 refine ak (iD t s.Cells n1 y h2) ?_
 simp -dsimp
 refine ac ?_
 refine srs hn (by kernel_rfl) ?_
 simp -dsimp
 rcases aj hm with ⟨c3, hm⟩ | ⟨c3, hm⟩
 ·refine a8 (b := (neB y.2 0)) (by simp -dsimp) c3 ?_
  refine srs hn (by kernel_rfl) ?_
  simp -dsimp [c3]
  refine aa (ag ?_)
  cases hm
  refine ⟨.inr rfl, ?_⟩
  refine EE.here ?_
  simp -dsimp
 ·refine a7 (b := (neB y.2 0)) (by simp -dsimp) c3 ?_
  refine ab (a6 (ac ?_))
  refine srs hn (by kernel_rfl) ?_
  obtain ⟨y1, h4, hm⟩ := bnd hm
  simp -dsimp [c3]
  refine ae (c_algebra_Turn sym y.1 y1 h4) (by rw [hn]; decide) ?_
  simp -dsimp
  refine srs hn (by kernel_rfl) ?_
  simp -dsimp
  rcases aj hm with ⟨c5, hm⟩ | ⟨c5, hm⟩
  ·refine a8 (b := (neB y1.2 0)) (by simp -dsimp) c5 ?_
   refine srs hn (by kernel_rfl) ?_
   simp -dsimp [c5]
   refine aa (ag ?_)
   cases hm
   refine ⟨.inr rfl, ?_⟩
   refine EE.here ?_
   simp -dsimp
  ·refine a7 (b := (neB y1.2 0)) (by simp -dsimp) c5 ?_
   refine ab (a6 ?_)
   refine srs hn (by kernel_rfl) ?_
   obtain ⟨y2, h6, hm⟩ := bnd hm
   simp -dsimp [c5]
   refine ae (ig y1.1 y2 h6) (by rw [hn]; decide) ?_
   simp -dsimp
   refine srs hn (by kernel_rfl) ?_
   obtain ⟨y3, h7, hm⟩ := bnd hm
   simp -dsimp
   refine ae (i8 sym s.Motion y3 h7) (by rw [hn]; decide) ?_
   simp -dsimp
   refine srs hn (by kernel_rfl) ?_
   obtain ⟨n2, h8, hm⟩ := bnd hm
   simp -dsimp [h8]
   refine srs hn (by kernel_rfl) ?_
   simp -dsimp
   refine aa ?_
   cases hm
   refine ⟨.inr rfl, ?_⟩
   refine EE.here ?_
   simp -dsimp
theorem c_ship_corner (t : Tree) (s : Ship) (sym : Int) (n : Int) (r : Point × Int) (hm : eu t s sym n = some r) : PureCall Tryz.prog 49 [.u (.agg [.d (.int .i64 t.States), .d (.sl 2 (List.map Point.row t.Hood)), .d (.sl 2 (List.map Node.row t.Nodes))]), .u (.agg [.d (.sl 3 (List.map Cell.row s.Cells)), .d (.int .i64 s.Motion.Period), .d (.int .i64 s.Motion.DX), .d (.int .i64 s.Motion.DY)]), .u (.one (.d (.int .i64 sym))), .u (.one (.d (.int .i64 n)))] (.tup [.agg [.d (.int .i64 r.1.X), .d (.int .i64 r.1.Y)], .one (.d (.int .i64 r.2))]) := (f_ship_corner t s sym n r hm).pureW
end Go.Proofs.YtfpjnmhdbgbmmaaGreatDoor
