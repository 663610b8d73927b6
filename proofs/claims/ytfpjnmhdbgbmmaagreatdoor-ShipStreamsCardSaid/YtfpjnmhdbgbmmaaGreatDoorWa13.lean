/-
  That the code does what the functions say (made by cc.py).
-/
import Derived.Test.YtfpjnmhdbgbmmaaGreatDoorMd1
import Derived.Test.YtfpjnmhdbgbmmaaGreatDoorTb
import Derived.Test.YtfpjnmhdbgbmmaaGreatDoorWa1
import Derived.Test.YtfpjnmhdbgbmmaaGreatDoorWa4
import Derived.Test.YtfpjnmhdbgbmmaaGreatDoorWa8
import Derived.Test.YtfpjnmhdbgbmmaaGreatDoorWa10
import Derived.Test.YtfpjnmhdbgbmmaaGreatDoorWa12
namespace Go.Proofs.YtfpjnmhdbgbmmaaGreatDoor
open Go.AM Go.Proofs
attribute [-simp] qlookup cC dS Ob.wipe Ob.ren Ob.frz1
set_option maxRecDepth 20000 in
theorem f_ship_Later (t : Tree) (ships : List Ship) (x : Shot) (n : Int) (r : Shot × Int) (hm : gG t ships x n = some r) : PFn Tryz.prog 20 [.u (.agg [.d (.int .i64 t.States), .d (.sl 2 (List.map Point.row t.Hood)), .d (.sl 2 (List.map Node.row t.Nodes))]), .u (.one (.d (.sl 4 (List.map Ship.row ships)))), .u (.agg [.d (.int .i64 x.Ship), .d (.int .i64 x.Phase), .d (.int .i64 x.Sym), .d (.int .i64 x.X), .d (.int .i64 x.Y)]), .u (.one (.d (.int .i64 n)))] (fun v => v.wk (.tup [.agg [.d (.int .i64 r.1.Ship), .d (.int .i64 r.1.Phase), .d (.int .i64 r.1.Sym), .d (.int .i64 r.1.X), .d (.int .i64 r.1.Y)], .one (.d (.int .i64 r.2))])) := by
 refine aX Tryz.func20 Tryz.ntmps20 rfl (by kernel_rfl) (by simp) fun cx hn => ?_
 unfold gG at hm
 refine srs hn (by kernel_rfl) ?_
 simp -dsimp []
 refine ac ?_
 refine srs hn (by kernel_rfl) ?_
 obtain ⟨y, h1, hm⟩ := bnd hm
 simp -dsimp []
 refine ae (c_ship_Place t ships x y h1) (by rw [hn]; decide) ?_
 simp -dsimp
 refine srs hn (by kernel_rfl) ?_
 simp -dsimp
 rcases aj hm with ⟨c2, hm⟩ | ⟨c2, hm⟩
 ·refine a8 (b := (neB y.2 0)) (by simp -dsimp) c2 ?_
  refine srs hn (by kernel_rfl) ?_
  simp -dsimp [c2]
  refine aa (ag ?_)
  cases hm
  refine ⟨.inr rfl, ?_⟩
  refine EE.here ?_
  simp -dsimp
 ·refine a7 (b := (neB y.2 0)) (by simp -dsimp) c2 ?_
  refine ab (a6 (ac ?_))
  obtain ⟨a, j18, hm⟩ := bnd hm
  refine aw [(1, .u (.one (.d (.sl 4 (List.map Ship.row ships))))), (3, .u (.one (.d (.int .i64 n)))), (4, .u (.one (.box 4 0))), (6, .u (.one (.box 6 0))), (8, .u (.one (.box 8 0))), (37, .u (.one (.d (.bool a))))] [(4, .box [.d (.int .i64 t.States), .d (.sl 2 (List.map Point.row t.Hood)), .d (.sl 2 (List.map Node.row t.Nodes))]), (6, .box [.d (.int .i64 x.Ship), .d (.int .i64 x.Phase), .d (.int .i64 x.Sym), .d (.int .i64 x.X), .d (.int .i64 x.Y)]), (8, .box [.d (.int .i64 0), .d (.int .i64 0), .d (.int .i64 0), .d (.int .i64 0), .d (.int .i64 0)])] (by rfl) (by rfl) ?_ fun ρ σ hf => ?_
  ·replace hm := j18
   clear j18
   refine sr1 hn (by kernel_rfl) ?_
   rcases aj hm with ⟨c3, hm⟩ | ⟨c3, hm⟩
   ·simp -dsimp [c2, c3]
    refine a6 ?_
    cases hm
    refine EE.here ?_
    simp -dsimp
   ·simp -dsimp [c2, c3]
    refine a6 ?_
    cases hm
    refine EE.here ?_
    simp -dsimp
  ·clear j18
   simp only [Fits, am, ap, and_true] at hf
   rcases aj hm with ⟨c4, hm⟩ | ⟨c4, hm⟩
   ·refine a8 (b := a) (by simp -dsimp [hf]) c4 ?_
    refine srs hn (by kernel_rfl) ?_
    simp -dsimp [hf]
    refine aa (ag ?_)
    cases hm
    refine ⟨.inr rfl, ?_⟩
    refine EE.here ?_
    simp -dsimp [hf]
   ·refine a7 (b := a) (by simp -dsimp [hf]) c4 ?_
    refine ab (a6 (ac ?_))
    refine srs hn (by kernel_rfl) ?_
    obtain ⟨y1, h5, hm⟩ := bnd hm
    simp -dsimp [hf]
    refine ae (c_reduce_Turn x.Sym t y1 h5) (by rw [hn]; decide) ?_
    simp -dsimp
    obtain ⟨a1, j17, hm⟩ := bnd hm
    refine aw [(1, .u (.one (.d (.sl 4 (List.map Ship.row ships))))), (3, .u (.one (.d (.int .i64 n)))), (4, .u (.one (.box 4 0))), (6, .u (.one (.box 6 0))), (8, .u (.one (.box 8 0))), (53, .u (.one (.d (.bool a1))))] [(4, .box [.d (.int .i64 t.States), .d (.sl 2 (List.map Point.row t.Hood)), .d (.sl 2 (List.map Node.row t.Nodes))]), (6, .box [.d (.int .i64 x.Ship), .d (.int .i64 x.Phase), .d (.int .i64 x.Sym), .d (.int .i64 x.X), .d (.int .i64 x.Y)]), (8, .box [.d (.int .i64 0), .d (.int .i64 0), .d (.int .i64 0), .d (.int .i64 0), .d (.int .i64 0)])] (by rfl) (by rfl) ?_ fun ρ σ hf => ?_
    ·replace hm := j17
     clear j17
     refine sr1 hn (by kernel_rfl) ?_
     rcases aj hm with ⟨c6, hm⟩ | ⟨c6, hm⟩
     ·simp -dsimp [c6]
      refine a6 ?_
      cases hm
      refine EE.here ?_
      simp -dsimp [hf]
     ·obtain ⟨y2, h7, hm⟩ := bnd hm
      simp -dsimp [hf, c6]
      refine ae (c_reduce_Equal t y1.1 y2 h7) (by rw [hn]; decide) ?_
      simp -dsimp
      refine a6 ?_
      cases hm
      refine EE.here ?_
      simp -dsimp [hf]
    ·clear j17
     simp only [Fits, am, ap, and_true] at hf
     rcases aj hm with ⟨c8, hm⟩ | ⟨c8, hm⟩
     ·refine a8 (b := a1) (by simp -dsimp [hf]) c8 ?_
      refine srs hn (by kernel_rfl) ?_
      simp -dsimp [hf]
      refine aa (ag ?_)
      cases hm
      refine ⟨.inr rfl, ?_⟩
      refine EE.here ?_
      simp -dsimp [hf]
     ·refine a7 (b := a1) (by simp -dsimp [hf]) c8 ?_
      refine ab (a6 ?_)
      refine srs hn (by kernel_rfl) ?_
      obtain ⟨x1, h9, hm⟩ := bnd hm
      simp -dsimp [hf, h9]
      refine srs hn (by kernel_rfl) ?_
      obtain ⟨y2, h10, hm⟩ := bnd hm
      simp -dsimp [hf]
      refine ae (c_ship_corner t x1 x.Sym x.Phase y2 h10) (by rw [hn]; decide) ?_
      simp -dsimp
      refine ac ?_
      refine srs hn (by kernel_rfl) ?_
      simp -dsimp
      rcases aj hm with ⟨c11, hm⟩ | ⟨c11, hm⟩
      ·refine a8 (b := (neB y2.2 0)) (by simp -dsimp) c11 ?_
       refine srs hn (by kernel_rfl) ?_
       simp -dsimp [hf, c11]
       refine aa (ag ?_)
       cases hm
       refine ⟨.inr rfl, ?_⟩
       refine EE.here ?_
       simp -dsimp [hf]
      ·refine a7 (b := (neB y2.2 0)) (by simp -dsimp) c11 ?_
       refine ab (a6 ?_)
       refine srs hn (by kernel_rfl) ?_
       obtain ⟨y3, h12, hm⟩ := bnd hm
       simp -dsimp [hf, c11]
       refine ae (c_ship_corner t x1 x.Sym (aH .i64 x.Phase n) y3 h12) (by rw [hn]; decide) ?_
       simp -dsimp
       refine ac ?_
       refine srs hn (by kernel_rfl) ?_
       simp -dsimp
       rcases aj hm with ⟨c13, hm⟩ | ⟨c13, hm⟩
       ·refine a8 (b := (neB y3.2 0)) (by simp -dsimp) c13 ?_
        refine srs hn (by kernel_rfl) ?_
        simp -dsimp [hf, c13]
        refine aa (ag ?_)
        cases hm
        refine ⟨.inr rfl, ?_⟩
        refine EE.here ?_
        simp -dsimp [hf]
       ·refine a7 (b := (neB y3.2 0)) (by simp -dsimp) c13 ?_
        refine ab (a6 ?_)
        refine sw_midcs aK mixed 29 30 30 0 [[0, 1, 2, 3, 4, 5, 6, 7, 8, 9, 10, 11, 12, 13, 14, 15, 16, 17, 18, 19, 20, 21, 22, 23, 24, 25, 26, 27, 28]] [[18]] [] none (by rw [hn]; kernel_rfl) fH ?_
        dsimp only [List.take, List.drop, fV, gq, il, pk, List.cons_append, List.nil_append, List.flatten_cons, List.flatten_nil, ey, ez, List.append_nil]
        obtain ⟨n1, h14, hm⟩ := bnd hm
        simp -dsimp [hf, c13, h14]
        refine ac ?_
        refine srs hn (by kernel_rfl) ?_
        obtain ⟨y4, h15, hm⟩ := bnd hm
        simp -dsimp [hf]
        refine ae (c_ship_Place t ships (⟨x.Ship, n1, x.Sym, (aA .i64 (aH .i64 x.X y3.1.X) y2.1.X), (aA .i64 (aH .i64 x.Y y3.1.Y) y2.1.Y)⟩ : Shot) y4 h15) (by rw [hn]; decide) ?_
        simp -dsimp
        refine srs hn (by kernel_rfl) ?_
        simp -dsimp
        rcases aj hm with ⟨c16, hm⟩ | ⟨c16, hm⟩
        ·refine a8 (b := (neB y4.2 0)) (by simp -dsimp) c16 ?_
         refine srs hn (by kernel_rfl) ?_
         simp -dsimp [hf, c16]
         refine aa (ag ?_)
         cases hm
         refine ⟨.inr rfl, ?_⟩
         refine EE.here ?_
         simp -dsimp [hf]
        ·refine a7 (b := (neB y4.2 0)) (by simp -dsimp) c16 ?_
         refine ab (a6 ?_)
         refine srs hn (by kernel_rfl) ?_
         simp -dsimp [hf, c16]
         refine aa ?_
         cases hm
         refine ⟨.inr rfl, ?_⟩
         refine EE.here ?_
         simp -dsimp [hf]
theorem c_ship_Later (t : Tree) (ships : List Ship) (x : Shot) (n : Int) (r : Shot × Int) (hm : gG t ships x n = some r) : PureCall Tryz.prog 20 [.u (.agg [.d (.int .i64 t.States), .d (.sl 2 (List.map Point.row t.Hood)), .d (.sl 2 (List.map Node.row t.Nodes))]), .u (.one (.d (.sl 4 (List.map Ship.row ships)))), .u (.agg [.d (.int .i64 x.Ship), .d (.int .i64 x.Phase), .d (.int .i64 x.Sym), .d (.int .i64 x.X), .d (.int .i64 x.Y)]), .u (.one (.d (.int .i64 n)))] (.tup [.agg [.d (.int .i64 r.1.Ship), .d (.int .i64 r.1.Phase), .d (.int .i64 r.1.Sym), .d (.int .i64 r.1.X), .d (.int .i64 r.1.Y)], .one (.d (.int .i64 r.2))]) := (f_ship_Later t ships x n r hm).pureW
theorem f_R05_order (a : Int) (b : Int) (r : Int) (hm : dW a b = some r) : PFn Tryz.prog 61 [.u (.one (.d (.int .i64 a))), .u (.one (.d (.int .i64 b)))] (fun v => v.wk (.u (.one (.d (.int .i64 r))))) := by
 refine aX Tryz.func61 Tryz.ntmps61 rfl (by kernel_rfl) (by simp) fun cx hn => ?_
 unfold dW at hm
 refine srs hn (by kernel_rfl) ?_
 simp -dsimp []
 refine ac ?_
 refine srs hn (by kernel_rfl) ?_
 simp -dsimp []
 rcases aj hm with ⟨c1, hm⟩ | ⟨c1, hm⟩
 ·refine a8 (b := (ltB a b)) (by simp -dsimp []) c1 ?_
  refine srs hn (by kernel_rfl) ?_
  simp -dsimp [c1]
  refine aa (ag ?_)
  cases hm
  refine ⟨.inr rfl, ?_⟩
  refine EE.here ?_
  simp -dsimp
 ·refine a7 (b := (ltB a b)) (by simp -dsimp []) c1 ?_
  refine ab (a6 (ac ?_))
  refine srs hn (by kernel_rfl) ?_
  simp -dsimp [c1]
  rcases aj hm with ⟨c2, hm⟩ | ⟨c2, hm⟩
  ·refine a8 (b := (gtB a b)) (by simp -dsimp) c2 ?_
   refine srs hn (by kernel_rfl) ?_
   simp -dsimp [c2]
   refine aa (ag ?_)
   cases hm
   refine ⟨.inr rfl, ?_⟩
   refine EE.here ?_
   simp -dsimp
  ·refine a7 (b := (gtB a b)) (by simp -dsimp) c2 ?_
   refine ab (a6 ?_)
   refine srs hn (by kernel_rfl) ?_
   simp -dsimp [c2]
   refine aa ?_
   cases hm
   refine ⟨.inr rfl, ?_⟩
   refine EE.here ?_
   simp -dsimp
theorem c_R05_order (a : Int) (b : Int) (r : Int) (hm : dW a b = some r) : PureCall Tryz.prog 61 [.u (.one (.d (.int .i64 a))), .u (.one (.d (.int .i64 b)))] (.u (.one (.d (.int .i64 r)))) := (f_R05_order a b r hm).pureW
def F_R05_Compare_1 (cx : Cx) (a : List Cell) (b : List Cell) (tt : Int ⊕ Unit) (ee : Exit) (ρ : Env) (σ : Sto) : Prop := match tt with
 | .inl r => ee = .ret ∧ EE cx (fun ρ σ => ∃ v, resV tb ρ σ Tryz.f31.results.toList = some v ∧ (v.frz σ).free = true ∧ (v.frz σ).wk (.u (.one (.d (.int .i64 r))))) ρ σ
 | .inr _u => ee = .exit 0 ∧ EE cx (aU [(0, .u (.one (.d (.sl 3 (List.map Cell.row a))))), (1, .u (.one (.d (.sl 3 (List.map Cell.row b)))))] []) ρ σ
theorem l_R05_Compare_1 (cx : Cx) (hn : cx.n = 89) (a : List Cell) (b : List Cell) {fu : Nat} {stt : Int} {tt : Int ⊕ Unit} (hh : al (gf a b) fu stt = some tt) {ρ : Env} {σ : Sto}
  (hE : b4 (fun i : Int => [(0, .u (.one (.d (.sl 3 (List.map Cell.row a))))), (1, .u (.one (.d (.sl 3 (List.map Cell.row b))))), (5, .u (.one (.d (.int .i64 i))))]) (fun _i : Int => []) stt ρ σ) : Swp Tryz.prog cx (.loop (bQ [1, 0, 1, 0, 0] (aP Tryz.f31))) ρ σ (F_R05_Compare_1 cx a b tt) := by
 refine b8 hE hh (F_R05_Compare_1 cx a b) (fun _ => by rfl) (fun _ => by rfl) ?_
 rintro i r hm ρ σ hf
 simp only [Fits, am, ap, and_true] at hf
 unfold gf at hm
 dsimp only at hm
 refine ac ?_
 obtain ⟨a1, j11, hm⟩ := bnd hm
 refine aw [(0, .u (.one (.d (.sl 3 (List.map Cell.row a))))), (1, .u (.one (.d (.sl 3 (List.map Cell.row b))))), (5, .u (.one (.d (.int .i64 i)))), (15, .u (.one (.d (.bool a1))))] [] (by rfl) (by rfl) ?_ fun ρ σ hf => ?_
 ·replace hm := j11
  clear j11
  refine sr1 hn (by kernel_rfl) ?_
  rcases aj hm with ⟨c1, hm⟩ | ⟨c1, hm⟩
  ·simp -dsimp [hf, c1]
   refine a6 ?_
   cases hm
   refine EE.here ?_
   simp -dsimp [hf]
  ·simp -dsimp [hf, c1]
   refine a6 ?_
   cases hm
   refine EE.here ?_
   simp -dsimp [hf]
 ·clear j11
  simp only [Fits, am, ap, and_true] at hf
  rcases aj hm with ⟨c2, hm⟩ | ⟨c2, hm⟩
  ·refine a8 (b := a1) (by simp -dsimp [hf]) c2 ?_
   refine ab (a6 (ac (ai (ac ?_))))
   refine ck aK mixed (by rw [hn]; kernel_rfl) ?_
   obtain ⟨x, h3, hm⟩ := bnd hm
   obtain ⟨x1, h4, hm⟩ := bnd hm
   simp -dsimp [hf, h3, h4]
   rcases aj hm with ⟨c5, hm⟩ | ⟨c5, hm⟩
   ·refine a8 (b := (neB x.Y x1.Y)) (by simp -dsimp) c5 ?_
    refine ck aK mixed (by rw [hn]; kernel_rfl) ?_
    obtain ⟨y, h6, hm⟩ := bnd hm
    simp -dsimp [hf, h3, h4, c5]
    refine ak (c_R05_order x.Y x1.Y y h6) ?_
    simp -dsimp
    refine aa (ag (aN (ag ?_)))
    cases hm
    refine ar nofun ?_
    unfold F_R05_Compare_1
    dsimp only
    refine ⟨rfl, ?_⟩
    refine EE.here ?_
    simp -dsimp [Tryz.results31]
   ·refine a7 (b := (neB x.Y x1.Y)) (by simp -dsimp) c5 ?_
    refine ab (a6 (ac ?_))
    refine ck aK mixed (by rw [hn]; kernel_rfl) ?_
    simp -dsimp [hf, h3, h4, c5]
    rcases aj hm with ⟨c7, hm⟩ | ⟨c7, hm⟩
    ·refine a8 (b := (neB x.X x1.X)) (by simp -dsimp) c7 ?_
     refine ck aK mixed (by rw [hn]; kernel_rfl) ?_
     obtain ⟨y, h8, hm⟩ := bnd hm
     simp -dsimp [hf, h3, h4, c7]
     refine ak (c_R05_order x.X x1.X y h8) ?_
     simp -dsimp
     refine aa (ag (aN (ag ?_)))
     cases hm
     refine ar nofun ?_
     unfold F_R05_Compare_1
     dsimp only
     refine ⟨rfl, ?_⟩
     refine EE.here ?_
     simp -dsimp [Tryz.results31]
    ·refine a7 (b := (neB x.X x1.X)) (by simp -dsimp) c7 ?_
     refine ab (a6 ?_)
     refine ck aK mixed (by rw [hn]; kernel_rfl) ?_
     simp -dsimp [hf, h3, h4, c7]
     rcases aj hm with ⟨c9, hm⟩ | ⟨c9, hm⟩
     ·refine a8 (b := (neB x.S x1.S)) (by simp -dsimp) c9 ?_
      refine ck aK mixed (by rw [hn]; kernel_rfl) ?_
      obtain ⟨y, h10, hm⟩ := bnd hm
      simp -dsimp [hf, h3, h4, c9]
      refine ak (c_R05_order x.S x1.S y h10) ?_
      simp -dsimp
      refine aa (aN (ag ?_))
      cases hm
      refine ar nofun ?_
      unfold F_R05_Compare_1
      dsimp only
      refine ⟨rfl, ?_⟩
      refine EE.here ?_
      simp -dsimp [Tryz.results31]
     ·refine a7 (b := (neB x.S x1.S)) (by simp -dsimp) c9 ?_
      refine ab ?_
      refine aJ ?_
      refine a6 ?_
      refine sr1 hn (by kernel_rfl) ?_
      simp -dsimp [hf, c9]
      cases hm
      refine aB ?_
      refine EE.here ?_
      simp -dsimp [hf]
  ·refine a7 (b := a1) (by simp -dsimp [hf]) c2 ?_
   refine av ?_
   refine ag ?_
   cases hm
   refine ar nofun ?_
   unfold F_R05_Compare_1
   dsimp only
   refine ⟨rfl, ?_⟩
   refine EE.here ?_
   simp -dsimp [hf]
theorem f_R05_Compare (a : List Cell) (b : List Cell) (r : Int) (hm : fM a b = some r) : PFn Tryz.prog 31 [.u (.one (.d (.sl 3 (List.map Cell.row a)))), .u (.one (.d (.sl 3 (List.map Cell.row b))))] (fun v => v.wk (.u (.one (.d (.int .i64 r))))) := by
 refine aX Tryz.func31 Tryz.ntmps31 rfl (by kernel_rfl) (by simp) fun cx hn => ?_
 unfold fM at hm
 refine srs hn (by kernel_rfl) ?_
 simp -dsimp []
 refine ac ?_
 refine srs hn (by kernel_rfl) ?_
 simp -dsimp []
 refine ai ?_
 obtain ⟨o_, g12, hm⟩ := bnd hm
 refine aO [(0, .u (.one (.d (.sl 3 (List.map Cell.row a))))), (1, .u (.one (.d (.sl 3 (List.map Cell.row b))))), (5, .u (.one (.d (.int .i64 0))))] [] (by rfl) (by rfl) (by
   refine EE.here ?_
   simp -dsimp []
 ) fun ρ σ hf => ?_
 refine (l_R05_Compare_1 cx hn a b g12 hf).mono fun ee ρ σ x13 => ?_
 rcases o_ with r | _u
 ·unfold F_R05_Compare_1 at x13
  dsimp only at x13
  obtain ⟨rfl, x13⟩ := x13
  refine aN (ag ?_)
  cases hm
  exact ⟨.inr rfl, x13⟩
 ·unfold F_R05_Compare_1 at x13
  dsimp only at x13
  obtain ⟨rfl, x13⟩ := x13
  refine au ?_
  refine a6 ?_
  refine b5 (by rfl) (by rfl) x13 fun ρ σ hf => ?_
  simp only [Fits, am, ap, and_true] at hf
  refine srs hn (by kernel_rfl) ?_
  obtain ⟨y, h14, hm⟩ := bnd hm
  simp -dsimp [hf]
  refine ae (c_R05_order (ah a) (ah b) y h14) (by rw [hn]; decide) ?_
  simp -dsimp
  refine aa ?_
  cases hm
  refine ⟨.inr rfl, ?_⟩
  refine EE.here ?_
  simp -dsimp
theorem c_R05_Compare (a : List Cell) (b : List Cell) (r : Int) (hm : fM a b = some r) : PureCall Tryz.prog 31 [.u (.one (.d (.sl 3 (List.map Cell.row a)))), .u (.one (.d (.sl 3 (List.map Cell.row b))))] (.u (.one (.d (.int .i64 r)))) := (f_R05_Compare a b r hm).pureW
theorem f_R05_Same (a : List Cell) (b : List Cell) (r : Bool) (hm : gP a b = some r) : PFn Tryz.prog 11 [.u (.one (.d (.sl 3 (List.map Cell.row a)))), .u (.one (.d (.sl 3 (List.map Cell.row b))))] (fun v => v.wk (.u (.one (.d (.bool r))))) := by
 refine aX Tryz.func11 Tryz.ntmps11 rfl (by kernel_rfl) (by simp) fun cx hn => ?_
 unfold gP at hm
 refine srs hn (by kernel_rfl) ?_
 simp -dsimp []
 refine srs hn (by kernel_rfl) ?_
 obtain ⟨y, h1, hm⟩ := bnd hm
 simp -dsimp []
 refine ae (c_R05_Compare a b y h1) (by rw [hn]; decide) ?_
 simp -dsimp
 refine aa ?_
 cases hm
 refine ⟨.inr rfl, ?_⟩
 refine EE.here ?_
 simp -dsimp
theorem c_R05_Same (a : List Cell) (b : List Cell) (r : Bool) (hm : gP a b = some r) : PureCall Tryz.prog 11 [.u (.one (.d (.sl 3 (List.map Cell.row a)))), .u (.one (.d (.sl 3 (List.map Cell.row b))))] (.u (.one (.d (.bool r)))) := (f_R05_Same a b r hm).pureW
set_option maxRecDepth 20000 in
theorem f_L50_awake (r : Bool) (hm : fW = some r) : PFn Tryz.prog 6 [] (fun v => v.wk (.u (.one (.d (.bool r))))) := by
 refine aX Tryz.func6 Tryz.ntmps6 rfl (by kernel_rfl) (by simp) fun cx hn => ?_
 unfold fW at hm
 refine srs hn (by kernel_rfl) ?_
 simp -dsimp []
 refine srs hn (by kernel_rfl) ?_
 obtain ⟨y, h1, hm⟩ := bnd hm
 simp -dsimp []
 refine ae (c_notation_Parse ([66, 51, 47, 83, 50, 51] : List UInt8) y h1) (by rw [hn]; decide) ?_
 simp -dsimp
 refine srs hn (by kernel_rfl) ?_
 obtain ⟨y1, h2, hm⟩ := bnd hm
 simp -dsimp
 refine ae (c_L50_glider y1 h2) (by rw [hn]; decide) ?_
 simp -dsimp
 refine srs hn (by kernel_rfl) ?_
 obtain ⟨y2, h3, hm⟩ := bnd hm
 simp -dsimp
 refine ae (c_ship_Place y.1 [y1] (⟨0, 0, 0, 0, 0⟩ : Shot) y2 h3) (by rw [hn]; decide) ?_
 simp -dsimp
 refine ck aK mixed (by rw [hn]; kernel_rfl) ?_
 obtain ⟨x, h4, hm⟩ := bnd hm
 obtain ⟨y3, h5, hm⟩ := bnd hm
 simp -dsimp [(@id (idx [[(.sl 3 (List.map Cell.row y1.Cells)), (.int .i64 y1.Motion.Period), (.int .i64 y1.Motion.DX), (.int .i64 y1.Motion.DY)]] 0 = some (Ship.row x)) (idx_rows Ship.row h4))]
 refine ak (c_ship_Phase y.1 x 1 y3 h5) ?_
 simp -dsimp
 refine srs hn (by kernel_rfl) ?_
 obtain ⟨y4, h6, hm⟩ := bnd hm
 simp -dsimp
 refine ae (c_ship_Later y.1 [y1] (⟨0, 0, 0, 5, 5⟩ : Shot) 6 y4 h6) (by rw [hn]; decide) ?_
 simp -dsimp
 refine srs hn (by kernel_rfl) ?_
 obtain ⟨y5, h7, hm⟩ := bnd hm
 simp -dsimp [(@id (idx [[(.sl 3 (List.map Cell.row y1.Cells)), (.int .i64 y1.Motion.Period), (.int .i64 y1.Motion.DX), (.int .i64 y1.Motion.DY)]] 0 = some (Ship.row x)) (idx_rows Ship.row h4))]
 refine ae (c_ship_Stream (⟨0, 0, 0, 0, 0⟩ : Shot) x.Motion 3 5 y5 h7) (by rw [hn]; decide) ?_
 simp -dsimp
 refine ac ?_
 obtain ⟨a, j25, hm⟩ := bnd hm
 refine aw [(1, .u (.one (.box 1 0))), (3, .u (.one (.d (.sl 4 (List.map Ship.row [y1]))))), (4, .u (.one (.d (.sl 3 (List.map Cell.row y2.1))))), (6, .u (.one (.d (.sl 3 (List.map Cell.row y3.1))))), (8, .u (.one (.box 8 0))), (10, .u (.one (.d (.sl 5 (List.map Shot.row y5.1))))), (71, .u (.one (.d (.bool a))))] [(1, .box [.d (.int .i64 y.1.States), .d (.sl 2 (List.map Point.row y.1.Hood)), .d (.sl 2 (List.map Node.row y.1.Nodes))]), (8, .box [.d (.int .i64 y4.1.Ship), .d (.int .i64 y4.1.Phase), .d (.int .i64 y4.1.Sym), .d (.int .i64 y4.1.X), .d (.int .i64 y4.1.Y)])] (by rfl) (by rfl) ?_ fun ρ σ hf => ?_
 ·replace hm := j25
  clear j25
  refine sr1 hn (by kernel_rfl) ?_
  rcases aj hm with ⟨c8, hm⟩ | ⟨c8, hm⟩
  ·simp -dsimp [c8]
   refine a6 ?_
   cases hm
   refine EE.here ?_
   simp -dsimp
  ·rcases aj hm with ⟨c9, hm⟩ | ⟨c9, hm⟩
   ·simp -dsimp [c8, c9]
    refine a6 ?_
    cases hm
    refine EE.here ?_
    simp -dsimp
   ·rcases aj hm with ⟨c10, hm⟩ | ⟨c10, hm⟩
    ·simp -dsimp [c8, c9, c10]
     refine a6 ?_
     cases hm
     refine EE.here ?_
     simp -dsimp
    ·rcases aj hm with ⟨c11, hm⟩ | ⟨c11, hm⟩
     ·simp -dsimp [c8, c9, c10, c11]
      refine a6 ?_
      cases hm
      refine EE.here ?_
      simp -dsimp
     ·rcases aj hm with ⟨c12, hm⟩ | ⟨c12, hm⟩
      ·simp -dsimp [c8, c9, c10, c11, c12]
       refine a6 ?_
       cases hm
       refine EE.here ?_
       simp -dsimp
      ·simp -dsimp [c8, c9, c10, c11, c12]
       refine a6 ?_
       cases hm
       refine EE.here ?_
       simp -dsimp
 ·clear j25
  simp only [Fits, am, ap, and_true] at hf
  rcases aj hm with ⟨c13, hm⟩ | ⟨c13, hm⟩
  ·refine a8 (b := a) (by simp -dsimp [hf]) c13 ?_
   refine srs hn (by kernel_rfl) ?_
   simp -dsimp
   refine aa (ag ?_)
   cases hm
   refine ⟨.inr rfl, ?_⟩
   refine EE.here ?_
   simp -dsimp
  ·refine a7 (b := a) (by simp -dsimp [hf]) c13 ?_
   refine ab (a6 ?_)
   obtain ⟨a1, j24, hm⟩ := bnd hm
   refine aw [(0, .u (.one (.d (.bool a1))))] [] (by rfl) (by rfl) ?_ fun ρ σ hf => ?_
   ·replace hm := j24
    clear j24
    refine sw_qt aK mixed (by rw [hn]; kernel_rfl) ?_
    obtain ⟨y6, h14, hm⟩ := bnd hm
    simp -dsimp [hf, (@id (idx [[(.sl 3 (List.map Cell.row y1.Cells)), (.int .i64 y1.Motion.Period), (.int .i64 y1.Motion.DX), (.int .i64 y1.Motion.DY)]] 0 = some (Ship.row x)) (idx_rows Ship.row h4))]
    refine ak (c_ship_Right y.1 x y6 h14) ?_
    rcases aj hm with ⟨c15, hm⟩ | ⟨c15, hm⟩
    ·obtain ⟨y7, h16, hm⟩ := bnd hm
     simp -dsimp [hf, (@id (idx [[(.sl 3 (List.map Cell.row y1.Cells)), (.int .i64 y1.Motion.Period), (.int .i64 y1.Motion.DX), (.int .i64 y1.Motion.DY)]] 0 = some (Ship.row x)) (idx_rows Ship.row h4)), c15]
     refine ak (c_R05_Same y2.1 x.Cells y7 h16) ?_
     rcases aj hm with ⟨c17, hm⟩ | ⟨c17, hm⟩
     ·obtain ⟨y8, h18, hm⟩ := bnd hm
      simp -dsimp [hf, c17]
      refine ak (c_R05_Same y3.1 [(⟨0, 0, 1⟩ : Cell), (⟨2, 0, 1⟩ : Cell), (⟨1, 1, 1⟩ : Cell), (⟨2, 1, 1⟩ : Cell), (⟨1, 2, 1⟩ : Cell)] y8 h18) ?_
      rcases aj hm with ⟨c19, hm⟩ | ⟨c19, hm⟩
      ·rcases aj hm with ⟨c20, hm⟩ | ⟨c20, hm⟩
       ·obtain ⟨x1, h21, hm⟩ := bnd hm
        rcases aj hm with ⟨c22, hm⟩ | ⟨c22, hm⟩
        ·obtain ⟨y9, h23, hm⟩ := bnd hm
         simp -dsimp [hf, (@id (idx [[(.sl 3 (List.map Cell.row y1.Cells)), (.int .i64 y1.Motion.Period), (.int .i64 y1.Motion.DX), (.int .i64 y1.Motion.DY)]] 0 = some (Ship.row x)) (idx_rows Ship.row h4)), c19, c20, h21, c22]
         refine ak (i8 1 x.Motion y9 h23) ?_
         simp -dsimp
         refine a6 ?_
         cases hm
         refine EE.here ?_
         simp -dsimp
        ·simp -dsimp [hf, c19, c20, h21, c22]
         refine a6 ?_
         cases hm
         refine EE.here ?_
         simp -dsimp
       ·simp -dsimp [hf, c19, c20]
        refine a6 ?_
        cases hm
        refine EE.here ?_
        simp -dsimp
      ·simp -dsimp [c19]
       refine a6 ?_
       cases hm
       refine EE.here ?_
       simp -dsimp
     ·simp -dsimp [c17]
      refine a6 ?_
      cases hm
      refine EE.here ?_
      simp -dsimp
    ·simp -dsimp [c15]
     refine a6 ?_
     cases hm
     refine EE.here ?_
     simp -dsimp
   ·clear j24
    simp only [Fits, am, ap, and_true] at hf
    refine aa ?_
    cases hm
    refine ⟨.inr rfl, ?_⟩
    refine EE.here ?_
    simp -dsimp [hf]
theorem c_L50_awake (r : Bool) (hm : fW = some r) : PureCall Tryz.prog 6 [] (.u (.one (.d (.bool r)))) := (f_L50_awake r hm).pureW
def F_L50_ShipStreams_1 (cx : Cx) (_y : (List Shot) × Int) (_y1 : (List Shot) × Int) (tt : Bool ⊕ Unit) (ee : Exit) (ρ : Env) (σ : Sto) : Prop := match tt with
 | .inl r => ee = .ret ∧ EE cx (fun ρ σ => ∃ v, resV tb ρ σ Tryz.f4.results.toList = some v ∧ (v.frz σ).free = true ∧ (v.frz σ).wk (.u (.one (.d (.bool r))))) ρ σ
 | .inr _u => ee = .exit 0 ∧ EE cx (aU [] []) ρ σ
theorem l_L50_ShipStreams_1 (cx : Cx) (hn : cx.n = 69) (y : (List Shot) × Int) (y1 : (List Shot) × Int) {fu : Nat} {stt : Int} {tt : Bool ⊕ Unit} (hh : al (bN y y1) fu stt = some tt) {ρ : Env} {σ : Sto}
  (hE : b4 (fun a1 : Int => [(7, .u (.one (.d (.sl 5 (List.map Shot.row y.1))))), (9, .u (.one (.d (.sl 5 (List.map Shot.row y1.1))))), (54, .u (.one (.d (.int .i64 (ah y.1))))), (55, .u (.one (.d (.int .i64 a1))))]) (fun _a1 : Int => []) stt ρ σ) : Swp Tryz.prog cx (.loop (bQ [1, 1, 1, 1, 0, 1, 0, 0] (aP Tryz.f4))) ρ σ (F_L50_ShipStreams_1 cx y y1 tt) := by
 refine b8 hE hh (F_L50_ShipStreams_1 cx y y1) (fun _ => by rfl) (fun _ => by rfl) ?_
 rintro a1 r hm ρ σ hf
 simp only [Fits, am, ap, and_true] at hf
 unfold bN at hm
 dsimp only at hm
 refine srs hn (by kernel_rfl) ?_
 simp -dsimp [hf]
 refine ac ?_
 rcases aj hm with ⟨c8, hm⟩ | ⟨c8, hm⟩
 ·refine a8 (b := (ltB a1 (ah y.1))) (by simp -dsimp) c8 ?_
  refine ab (a6 (ac (ai ?_)))
  refine srs hn (by kernel_rfl) ?_
  simp -dsimp [hf, c8]
  refine ck aK mixed (by rw [hn]; kernel_rfl) ?_
  obtain ⟨x1, h9, hm⟩ := bnd hm
  obtain ⟨x2, h10, hm⟩ := bnd hm
  simp -dsimp [hf, h9, h10]
  rcases aj hm with ⟨c11, hm⟩ | ⟨c11, hm⟩
  ·refine a8 (b := (aM (bA (eqB x1.Ship x2.Ship) (bA (eqB x1.Phase x2.Phase) (bA (eqB x1.Sym x2.Sym) (bA (eqB x1.X x2.X) (bA (eqB x1.Y x2.Y) true))))))) (by simp -dsimp) c11 ?_
   refine srs hn (by kernel_rfl) ?_
   simp -dsimp [c11]
   refine aa (aN (ag ?_))
   cases hm
   refine ar nofun ?_
   unfold F_L50_ShipStreams_1
   dsimp only
   refine ⟨rfl, ?_⟩
   refine EE.here ?_
   simp -dsimp [Tryz.results4]
  ·refine a7 (b := (aM (bA (eqB x1.Ship x2.Ship) (bA (eqB x1.Phase x2.Phase) (bA (eqB x1.Sym x2.Sym) (bA (eqB x1.X x2.X) (bA (eqB x1.Y x2.Y) true))))))) (by simp -dsimp) c11 ?_
   refine ab ?_
   refine aJ ?_
   refine a6 ?_
   refine sr1 hn (by kernel_rfl) ?_
   simp -dsimp [hf, c11]
   cases hm
   refine aB ?_
   refine EE.here ?_
   simp -dsimp [hf]
 ·refine a7 (b := (ltB a1 (ah y.1))) (by simp -dsimp) c8 ?_
  refine av ?_
  refine ag ?_
  cases hm
  refine ar nofun ?_
  unfold F_L50_ShipStreams_1
  dsimp only
  refine ⟨rfl, ?_⟩
  refine EE.here ?_
  simp -dsimp [c8]
theorem f_L50_ShipStreams (x : Shot) (m : Motion) (n : Int × Int × Int) (r : Bool) (hm : da x m n = some r) : PFn Tryz.prog 4 [.u (.agg [.d (.int .i64 x.Ship), .d (.int .i64 x.Phase), .d (.int .i64 x.Sym), .d (.int .i64 x.X), .d (.int .i64 x.Y)]), .u (.agg [.d (.int .i64 m.Period), .d (.int .i64 m.DX), .d (.int .i64 m.DY)]), .u (.agg [.d (.int .i64 n.1), .d (.int .i64 n.2.1), .d (.int .i64 n.2.2)])] (fun v => v.wk (.u (.one (.d (.bool r))))) := by
 refine aX Tryz.func4 Tryz.ntmps4 rfl (by kernel_rfl) (by simp) fun cx hn => ?_
 unfold da at hm
 refine srs hn (by kernel_rfl) ?_
 simp -dsimp []
 refine srs hn (by kernel_rfl) ?_
 obtain ⟨y, h1, hm⟩ := bnd hm
 simp -dsimp [(@id (aok 3 0 = true) rfl), (@id (aok 3 1 = true) rfl)]
 refine ae (c_ship_Stream x m n.1 n.2.1 y h1) (by rw [hn]; decide) ?_
 simp -dsimp
 refine srs hn (by kernel_rfl) ?_
 obtain ⟨y1, h2, hm⟩ := bnd hm
 simp -dsimp [(@id (aok 3 0 = true) rfl), (@id (aok 3 1 = true) rfl)]
 refine ae (c_R50_Stream x m n.1 n.2.1 y1 h2) (by rw [hn]; decide) ?_
 simp -dsimp
 refine ac ?_
 obtain ⟨a, j15, hm⟩ := bnd hm
 refine aw [(7, .u (.one (.d (.sl 5 (List.map Shot.row y.1))))), (9, .u (.one (.d (.sl 5 (List.map Shot.row y1.1))))), (52, .u (.one (.d (.bool a))))] [] (by rfl) (by rfl) ?_ fun ρ σ hf => ?_
 ·replace hm := j15
  clear j15
  refine sw_qt aK mixed (by rw [hn]; kernel_rfl) ?_
  rcases aj hm with ⟨c3, hm⟩ | ⟨c3, hm⟩
  ·simp -dsimp [c3]
   refine a6 ?_
   cases hm
   refine EE.here ?_
   simp -dsimp
  ·rcases aj hm with ⟨c4, hm⟩ | ⟨c4, hm⟩
   ·simp -dsimp [c3, c4]
    refine a6 ?_
    cases hm
    refine EE.here ?_
    simp -dsimp
   ·obtain ⟨y2, h5, hm⟩ := bnd hm
    simp -dsimp [c3, c4, (@id (aok 3 2 = true) rfl)]
    refine ak (i8 n.2.2 m y2 h5) ?_
    obtain ⟨y3, h6, hm⟩ := bnd hm
    simp -dsimp [(@id (aok 3 2 = true) rfl)]
    refine ak (c_R50_Turned n.2.2 m y3 h6) ?_
    simp -dsimp
    refine a6 ?_
    cases hm
    refine EE.here ?_
    simp -dsimp
 ·clear j15
  simp only [Fits, am, ap, and_true] at hf
  rcases aj hm with ⟨c7, hm⟩ | ⟨c7, hm⟩
  ·refine a8 (b := a) (by simp -dsimp [hf]) c7 ?_
   refine srs hn (by kernel_rfl) ?_
   simp -dsimp
   refine aa (ag ?_)
   cases hm
   refine ⟨.inr rfl, ?_⟩
   refine EE.here ?_
   simp -dsimp
  ·refine a7 (b := a) (by simp -dsimp [hf]) c7 ?_
   refine ab (a6 (ac ?_))
   refine srs hn (by kernel_rfl) ?_
   simp -dsimp [hf]
   refine ai ?_
   obtain ⟨o_, g12, hm⟩ := bnd hm
   refine aO [(7, .u (.one (.d (.sl 5 (List.map Shot.row y.1))))), (9, .u (.one (.d (.sl 5 (List.map Shot.row y1.1))))), (54, .u (.one (.d (.int .i64 (ah y.1))))), (55, .u (.one (.d (.int .i64 0))))] [] (by rfl) (by rfl) (by
     refine EE.here ?_
     simp -dsimp [hf]
   ) fun ρ σ hf => ?_
   refine (l_L50_ShipStreams_1 cx hn y y1 g12 hf).mono fun ee ρ σ x13 => ?_
   rcases o_ with r | _u
   ·unfold F_L50_ShipStreams_1 at x13
    dsimp only at x13
    obtain ⟨rfl, x13⟩ := x13
    refine aN (ag ?_)
    cases hm
    exact ⟨.inr rfl, x13⟩
   ·unfold F_L50_ShipStreams_1 at x13
    dsimp only at x13
    obtain ⟨rfl, x13⟩ := x13
    refine au ?_
    refine a6 ?_
    refine b5 (by rfl) (by rfl) x13 fun ρ σ hf => ?_
    simp only [Fits, am, ap, and_true] at hf
    refine srs hn (by kernel_rfl) ?_
    obtain ⟨y2, h14, hm⟩ := bnd hm
    simp -dsimp
    refine ae (c_L50_awake y2 h14) (by rw [hn]; decide) ?_
    simp -dsimp
    refine aa ?_
    cases hm
    refine ⟨.inr rfl, ?_⟩
    refine EE.here ?_
    simp -dsimp
theorem c_L50_ShipStreams (x : Shot) (m : Motion) (n : Int × Int × Int) (r : Bool) (hm : da x m n = some r) : PureCall Tryz.prog 4 [.u (.agg [.d (.int .i64 x.Ship), .d (.int .i64 x.Phase), .d (.int .i64 x.Sym), .d (.int .i64 x.X), .d (.int .i64 x.Y)]), .u (.agg [.d (.int .i64 m.Period), .d (.int .i64 m.DX), .d (.int .i64 m.DY)]), .u (.agg [.d (.int .i64 n.1), .d (.int .i64 n.2.1), .d (.int .i64 n.2.2)])] (.u (.one (.d (.bool r)))) := (f_L50_ShipStreams x m n r hm).pureW
end Go.Proofs.YtfpjnmhdbgbmmaaGreatDoor
