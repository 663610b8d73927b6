/-
  That the code does what the functions say (made by cc.py).
-/
import Derived.Test.YtdjclgfbggfpaaaGreatDoorMd1
import Derived.Test.YtdjclgfbggfpaaaGreatDoorTb
import Derived.Test.YtdjclgfbggfpaaaGreatDoorWa5
import Derived.Test.YtdjclgfbggfpaaaGreatDoorWa6
import Derived.Test.YtdjclgfbggfpaaaGreatDoorWa7
import Derived.Test.YtdjclgfbggfpaaaGreatDoorWa11
namespace Go.Proofs.YtdjclgfbggfpaaaGreatDoor
open Go.AM Go.Proofs
attribute [-simp] qlookup cn dG Ob.wipe Ob.ren Ob.frz1
def bS (cx : Cx) (_t : Tree) (_gens : Int) (_most : Int) (tt : (Int × Motion × Int) ⊕ Unit) (ee : Exit) (ρ : Env) (σ : Sto) : Prop := match tt with
 | .inl r => ee = .ret ∧ EE cx (fun ρ σ => ∃ v, resV tb ρ σ Tryz.f21.results.toList = some v ∧ (v.frz σ).free = true ∧ (v.frz σ).wk (.tup [.one (.d (.int .i64 r.1)), .agg [.d (.int .i64 r.2.1.Period), .d (.int .i64 r.2.1.DX), .d (.int .i64 r.2.1.DY)], .one (.d (.int .i64 r.2.2))])) ρ σ
 | .inr _u => ee = .exit 0 ∧ EE cx (b6 [(9, .u (.one (.box 9 0)))] [(9, .box [.d (.int .i64 0), .d (.int .i64 0), .d (.int .i64 0)])]) ρ σ
theorem l_R34_Settles_1 (cx : Cx) (hn : cx.n = 81) (t : Tree) (gens : Int) (most : Int) {fu : Nat} {stt : (List Cell) × Int} {tt : (Int × Motion × Int) ⊕ Unit} (hh : ar (cu t gens most) fu stt = some tt) {ρ : Env} {σ : Sto}
  (hE : bn (fun stt : (List Cell) × Int => match stt with | (p1, g) => [(1, .u (.one (.d (.sl 3 (List.map Cell.row p1))))), (2, .u (.one (.d (.int .i64 gens)))), (3, .u (.one (.d (.int .i64 most)))), (4, .u (.one (.box 4 0))), (9, .u (.one (.box 9 0))), (13, .u (.one (.d (.int .i64 g))))]) (fun stt : (List Cell) × Int => match stt with | (_p1, _g) => [(4, .box [.d (.int .i64 t.States), .d (.sl 2 (List.map Point.row t.Hood)), .d (.sl 2 (List.map Node.row t.Nodes))]), (9, .box [.d (.int .i64 0), .d (.int .i64 0), .d (.int .i64 0)])]) stt ρ σ) : Swp Tryz.prog cx (.loop (cj [1, 1, 1, 1, 0, 1, 0, 0] (aX Tryz.f21))) ρ σ (bS cx t gens most tt) := by
 refine bo hE hh (bS cx t gens most) (fun _ => by rfl) (fun _ => by rfl) ?_
 rintro ⟨p1, g⟩ r hm ρ σ hf
 simp only [Fits, az, aA, and_true] at hf
 unfold cu at hm
 dsimp only at hm
 refine ai ?_
 refine srs hn (by kernel_rfl) ?_
 simp -dsimp [hf]
 rcases am hm with ⟨c7, hm⟩ | ⟨c7, hm⟩
 ·refine ab (b := (leB g gens)) (by simp -dsimp) c7 ?_
  refine ae (a7 (ai (ap ?_)))
  refine srs hn (by kernel_rfl) ?_
  obtain ⟨y1, h8, hm⟩ := bnd hm
  simp -dsimp [hf, c7]
  refine ag (c_R34_Find t p1 most y1 h8) (by rw [hn]; decide) ?_
  simp -dsimp
  refine ai ?_
  refine srs hn (by kernel_rfl) ?_
  simp -dsimp
  rcases am hm with ⟨c9, hm⟩ | ⟨c9, hm⟩
  ·refine ab (b := (neB y1.2.2 0)) (by simp -dsimp) c9 ?_
   refine srs hn (by kernel_rfl) ?_
   simp -dsimp [hf, c9]
   refine ah (aj (aN (aj ?_)))
   cases hm
   refine au nofun ?_
   unfold bS
   dsimp only
   refine ⟨rfl, ?_⟩
   refine EE.here ?_
   simp -dsimp [hf, Tryz.results21]
  ·refine aa (b := (neB y1.2.2 0)) (by simp -dsimp) c9 ?_
   refine ae (a7 (ai ?_))
   obtain ⟨a1, j15, hm⟩ := bnd hm
   refine av [(1, .u (.one (.d (.sl 3 (List.map Cell.row p1))))), (2, .u (.one (.d (.int .i64 gens)))), (3, .u (.one (.d (.int .i64 most)))), (4, .u (.one (.box 4 0))), (9, .u (.one (.box 9 0))), (13, .u (.one (.d (.int .i64 g)))), (14, .u (.one (.box 14 0))), (64, .u (.one (.d (.bool a1))))] [(4, .box [.d (.int .i64 t.States), .d (.sl 2 (List.map Point.row t.Hood)), .d (.sl 2 (List.map Node.row t.Nodes))]), (9, .box [.d (.int .i64 0), .d (.int .i64 0), .d (.int .i64 0)]), (14, .box [.d (.int .i64 y1.1.Period), .d (.int .i64 y1.1.DX), .d (.int .i64 y1.1.DY)])] (by rfl) (by rfl) ?_ fun ρ σ hf => ?_
   ·replace hm := j15
    clear j15
    refine sr1 hn (by kernel_rfl) ?_
    rcases am hm with ⟨c10, hm⟩ | ⟨c10, hm⟩
    ·simp -dsimp [c9, c10]
     refine a7 ?_
     cases hm
     refine EE.here ?_
     simp -dsimp [hf]
    ·simp -dsimp [hf, c9, c10]
     refine a7 ?_
     cases hm
     refine EE.here ?_
     simp -dsimp [hf]
   ·clear j15
    simp only [Fits, az, aA, and_true] at hf
    rcases am hm with ⟨c11, hm⟩ | ⟨c11, hm⟩
    ·refine ab (b := a1) (by simp -dsimp [hf]) c11 ?_
     refine sw_drNs bj mixed 3 (by rw [hn]; kernel_rfl) ?_
     dsimp only [List.take, List.drop]
     simp -dsimp [hf]
     refine ah (aj (aN (aj ?_)))
     cases hm
     refine au nofun ?_
     unfold bS
     dsimp only
     refine ⟨rfl, ?_⟩
     refine EE.here ?_
     simp -dsimp [hf, Tryz.results21]
    ·refine aa (b := a1) (by simp -dsimp [hf]) c11 ?_
     refine ae (a7 ?_)
     refine srs hn (by kernel_rfl) ?_
     simp -dsimp [hf]
     rcases am hm with ⟨c12, hm⟩ | ⟨c12, hm⟩
     ·refine ab (b := (ltB g gens)) (by simp -dsimp) c12 ?_
      refine srs hn (by kernel_rfl) ?_
      obtain ⟨y2, h13, hm⟩ := bnd hm
      simp -dsimp [hf, c12]
      refine ag (c_R20_Step t p1 y2 h13) (by rw [hn]; decide) ?_
      simp -dsimp
      refine srs hn (by kernel_rfl) ?_
      simp -dsimp
      rcases am hm with ⟨c14, hm⟩ | ⟨c14, hm⟩
      ·refine ab (b := (neB y2.2 0)) (by simp -dsimp) c14 ?_
       refine srs hn (by kernel_rfl) ?_
       simp -dsimp [hf, c14]
       refine ah (aN (aj ?_))
       cases hm
       refine au nofun ?_
       unfold bS
       dsimp only
       refine ⟨rfl, ?_⟩
       refine EE.here ?_
       simp -dsimp [hf, Tryz.results21]
      ·refine aa (b := (neB y2.2 0)) (by simp -dsimp) c14 ?_
       refine ae ?_
       refine aY ?_
       refine a7 ?_
       refine sr1 hn (by kernel_rfl) ?_
       simp -dsimp [hf, c14]
       cases hm
       refine aJ ?_
       refine EE.here ?_
       simp -dsimp [hf]
     ·refine aa (b := (ltB g gens)) (by simp -dsimp) c12 ?_
      refine ae ?_
      refine aY ?_
      refine a7 ?_
      refine sr1 hn (by kernel_rfl) ?_
      simp -dsimp [hf, c12]
      cases hm
      refine aJ ?_
      refine EE.here ?_
      simp -dsimp [hf]
 ·refine aa (b := (leB g gens)) (by simp -dsimp) c7 ?_
  refine aD ?_
  refine aj ?_
  cases hm
  refine au nofun ?_
  unfold bS
  dsimp only
  refine ⟨rfl, ?_⟩
  refine EE.here ?_
  simp -dsimp [hf, c7]
theorem f_R34_Settles (t : Tree) (p : List Cell) (gens : Int) (most : Int) (r : Int × Motion × Int) (hm : dM t p gens most = some r) : PFn Tryz.prog 21 [.u (.agg [.d (.int .i64 t.States), .d (.sl 2 (List.map Point.row t.Hood)), .d (.sl 2 (List.map Node.row t.Nodes))]), .u (.one (.d (.sl 3 (List.map Cell.row p)))), .u (.one (.d (.int .i64 gens))), .u (.one (.d (.int .i64 most)))] (fun v => v.wk (.tup [.one (.d (.int .i64 r.1)), .agg [.d (.int .i64 r.2.1.Period), .d (.int .i64 r.2.1.DX), .d (.int .i64 r.2.1.DY)], .one (.d (.int .i64 r.2.2))])) := by
 refine bv Tryz.func21 Tryz.ntmps21 rfl (by kernel_rfl) (by simp) fun cx hn => ?_
 unfold dM at hm
 refine srs hn (by kernel_rfl) ?_
 simp -dsimp []
 refine srs hn (by kernel_rfl) ?_
 obtain ⟨y, h1, hm⟩ := bnd hm
 simp -dsimp []
 refine ag (c_R20_Run t p 0 y h1) (by rw [hn]; decide) ?_
 simp -dsimp
 refine ai ?_
 refine srs hn (by kernel_rfl) ?_
 simp -dsimp
 rcases am hm with ⟨c2, hm⟩ | ⟨c2, hm⟩
 ·refine ab (b := (neB y.2 0)) (by simp -dsimp) c2 ?_
  refine srs hn (by kernel_rfl) ?_
  simp -dsimp [c2]
  refine ah (aj ?_)
  cases hm
  refine ⟨.inr rfl, ?_⟩
  refine EE.here ?_
  simp -dsimp
 ·refine aa (b := (neB y.2 0)) (by simp -dsimp) c2 ?_
  refine ae (a7 (ai ?_))
  obtain ⟨a, j18, hm⟩ := bnd hm
  refine av [(1, .u (.one (.d (.sl 3 (List.map Cell.row p))))), (2, .u (.one (.d (.int .i64 gens)))), (3, .u (.one (.d (.int .i64 most)))), (4, .u (.one (.box 4 0))), (9, .u (.one (.box 9 0))), (40, .u (.one (.d (.bool a))))] [(4, .box [.d (.int .i64 t.States), .d (.sl 2 (List.map Point.row t.Hood)), .d (.sl 2 (List.map Node.row t.Nodes))]), (9, .box [.d (.int .i64 0), .d (.int .i64 0), .d (.int .i64 0)])] (by rfl) (by rfl) ?_ fun ρ σ hf => ?_
  ·replace hm := j18
   clear j18
   refine sr1 hn (by kernel_rfl) ?_
   rcases am hm with ⟨c3, hm⟩ | ⟨c3, hm⟩
   ·simp -dsimp [c2, c3]
    refine a7 ?_
    cases hm
    refine EE.here ?_
    simp -dsimp
   ·rcases am hm with ⟨c4, hm⟩ | ⟨c4, hm⟩
    ·simp -dsimp [c2, c3, c4]
     refine a7 ?_
     cases hm
     refine EE.here ?_
     simp -dsimp
    ·rcases am hm with ⟨c5, hm⟩ | ⟨c5, hm⟩
     ·simp -dsimp [c2, c3, c4, c5]
      refine a7 ?_
      cases hm
      refine EE.here ?_
      simp -dsimp
     ·simp -dsimp [c2, c3, c4, c5]
      refine a7 ?_
      cases hm
      refine EE.here ?_
      simp -dsimp
  ·clear j18
   simp only [Fits, az, aA, and_true] at hf
   rcases am hm with ⟨c6, hm⟩ | ⟨c6, hm⟩
   ·refine ab (b := a) (by simp -dsimp [hf]) c6 ?_
    refine srs hn (by kernel_rfl) ?_
    simp -dsimp [hf]
    refine ah (aj ?_)
    cases hm
    refine ⟨.inr rfl, ?_⟩
    refine EE.here ?_
    simp -dsimp [hf]
   ·refine aa (b := a) (by simp -dsimp [hf]) c6 ?_
    refine ae (a7 (ai ?_))
    refine srs hn (by kernel_rfl) ?_
    simp -dsimp
    refine ap ?_
    obtain ⟨o_, g16, hm⟩ := bnd hm
    refine aW [(1, .u (.one (.d (.sl 3 (List.map Cell.row p))))), (2, .u (.one (.d (.int .i64 gens)))), (3, .u (.one (.d (.int .i64 most)))), (4, .u (.one (.box 4 0))), (9, .u (.one (.box 9 0))), (13, .u (.one (.d (.int .i64 0))))] [(4, .box [.d (.int .i64 t.States), .d (.sl 2 (List.map Point.row t.Hood)), .d (.sl 2 (List.map Node.row t.Nodes))]), (9, .box [.d (.int .i64 0), .d (.int .i64 0), .d (.int .i64 0)])] (by rfl) (by rfl) (by
      refine EE.here ?_
      simp -dsimp [hf]
    ) fun ρ σ hf => ?_
    refine (l_R34_Settles_1 cx hn t gens most g16 hf).mono fun ee ρ σ x17 => ?_
    rcases o_ with r | _u
    ·unfold bS at x17
     dsimp only at x17
     obtain ⟨rfl, x17⟩ := x17
     refine aN (aj ?_)
     cases hm
     exact ⟨.inr rfl, x17⟩
    ·unfold bS at x17
     dsimp only at x17
     obtain ⟨rfl, x17⟩ := x17
     refine aF ?_
     refine a7 ?_
     refine bl (by rfl) (by rfl) x17 fun ρ σ hf => ?_
     simp only [Fits, az, aA, and_true] at hf
     refine srs hn (by kernel_rfl) ?_
     simp -dsimp [hf]
     refine ah ?_
     cases hm
     refine ⟨.inr rfl, ?_⟩
     refine EE.here ?_
     simp -dsimp [hf]
theorem c_R34_Settles (t : Tree) (p : List Cell) (gens : Int) (most : Int) (r : Int × Motion × Int) (hm : dM t p gens most = some r) : PureCall Tryz.prog 21 [.u (.agg [.d (.int .i64 t.States), .d (.sl 2 (List.map Point.row t.Hood)), .d (.sl 2 (List.map Node.row t.Nodes))]), .u (.one (.d (.sl 3 (List.map Cell.row p)))), .u (.one (.d (.int .i64 gens))), .u (.one (.d (.int .i64 most)))] (.tup [.one (.d (.int .i64 r.1)), .agg [.d (.int .i64 r.2.1.Period), .d (.int .i64 r.2.1.DX), .d (.int .i64 r.2.1.DY)], .one (.d (.int .i64 r.2.2))]) := (f_R34_Settles t p gens most r hm).pureW
theorem f_L34_PeriodSettles (t : Tree) (p : List Cell) (x : Int × Int) (r : Bool) (hm : cz t p x = some r) : PFn Tryz.prog 6 [.u (.agg [.d (.int .i64 t.States), .d (.sl 2 (List.map Point.row t.Hood)), .d (.sl 2 (List.map Node.row t.Nodes))]), .u (.one (.d (.sl 3 (List.map Cell.row p)))), .u (.agg [.d (.int .i64 x.1), .d (.int .i64 x.2)])] (fun v => v.wk (.u (.one (.d (.bool r))))) := by
 refine bv Tryz.func6 Tryz.ntmps6 rfl (by kernel_rfl) (by simp) fun cx hn => ?_
 unfold cz at hm
 refine srs hn (by kernel_rfl) ?_
 simp -dsimp []
 refine ai ?_
 obtain ⟨a, j16, hm⟩ := bnd hm
 refine av [(1, .u (.one (.d (.sl 3 (List.map Cell.row p))))), (3, .u (.one (.box 3 0))), (5, .u (.one (.box 5 0))), (36, .u (.one (.d (.bool a))))] [(3, .box [.d (.int .i64 t.States), .d (.sl 2 (List.map Point.row t.Hood)), .d (.sl 2 (List.map Node.row t.Nodes))]), (5, .box [.d (.int .i64 x.1), .d (.int .i64 x.2)])] (by rfl) (by rfl) ?_ fun ρ σ hf => ?_
 ·replace hm := j16
  clear j16
  refine sr1 hn (by kernel_rfl) ?_
  obtain ⟨y, h1, hm⟩ := bnd hm
  simp -dsimp []
  refine ag (fm t p y h1) (by rw [hn]; decide) ?_
  rcases am hm with ⟨c2, hm⟩ | ⟨c2, hm⟩
  ·simp -dsimp [c2]
   refine a7 ?_
   cases hm
   refine EE.here ?_
   simp -dsimp
  ·rcases am hm with ⟨c3, hm⟩ | ⟨c3, hm⟩
   ·rcases am hm with ⟨c4, hm⟩ | ⟨c4, hm⟩
    ·simp -dsimp [c2, (@id (aok 2 0 = true) rfl), c3, c4]
     refine a7 ?_
     cases hm
     refine EE.here ?_
     simp -dsimp
    ·rcases am hm with ⟨c5, hm⟩ | ⟨c5, hm⟩
     ·simp -dsimp [c2, (@id (aok 2 0 = true) rfl), c3, c4, (@id (aok 2 1 = true) rfl), c5]
      refine a7 ?_
      cases hm
      refine EE.here ?_
      simp -dsimp
     ·simp -dsimp [c2, (@id (aok 2 0 = true) rfl), c3, c4, (@id (aok 2 1 = true) rfl), c5]
      refine a7 ?_
      cases hm
      refine EE.here ?_
      simp -dsimp
   ·rcases am hm with ⟨c6, hm⟩ | ⟨c6, hm⟩
    ·simp -dsimp [c2, (@id (aok 2 0 = true) rfl), c3, (@id (aok 2 1 = true) rfl), c6]
     refine a7 ?_
     cases hm
     refine EE.here ?_
     simp -dsimp
    ·simp -dsimp [c2, (@id (aok 2 0 = true) rfl), c3, (@id (aok 2 1 = true) rfl), c6]
     refine a7 ?_
     cases hm
     refine EE.here ?_
     simp -dsimp
 ·clear j16
  simp only [Fits, az, aA, and_true] at hf
  rcases am hm with ⟨c7, hm⟩ | ⟨c7, hm⟩
  ·refine ab (b := a) (by simp -dsimp [hf]) c7 ?_
   refine srs hn (by kernel_rfl) ?_
   obtain ⟨y, h8, hm⟩ := bnd hm
   simp -dsimp
   refine ag (aS y h8) (by rw [hn]; decide) ?_
   simp -dsimp
   refine ah (aj ?_)
   cases hm
   refine ⟨.inr rfl, ?_⟩
   refine EE.here ?_
   simp -dsimp
  ·refine aa (b := a) (by simp -dsimp [hf]) c7 ?_
   refine ae (a7 ?_)
   refine srs hn (by kernel_rfl) ?_
   obtain ⟨y, h9, hm⟩ := bnd hm
   simp -dsimp [hf, (@id (aok 2 0 = true) rfl), (@id (aok 2 1 = true) rfl)]
   refine ag (eI t p x.1 x.2 y h9) (by rw [hn]; decide) ?_
   simp -dsimp
   refine srs hn (by kernel_rfl) ?_
   obtain ⟨y1, h10, hm⟩ := bnd hm
   simp -dsimp [hf, (@id (aok 2 0 = true) rfl), (@id (aok 2 1 = true) rfl)]
   refine ag (c_R34_Settles t p x.1 x.2 y1 h10) (by rw [hn]; decide) ?_
   simp -dsimp
   obtain ⟨a1, j15, hm⟩ := bnd hm
   refine av [(6, .u (.one (.d (.bool a1))))] [] (by rfl) (by rfl) ?_ fun ρ σ hf => ?_
   ·replace hm := j15
    clear j15
    refine sr1 hn (by kernel_rfl) ?_
    rcases am hm with ⟨c11, hm⟩ | ⟨c11, hm⟩
    ·rcases am hm with ⟨c12, hm⟩ | ⟨c12, hm⟩
     ·rcases am hm with ⟨c13, hm⟩ | ⟨c13, hm⟩
      ·obtain ⟨y2, h14, hm⟩ := bnd hm
       simp -dsimp [c11, c12, c13]
       refine ag (aS y2 h14) (by rw [hn]; decide) ?_
       simp -dsimp
       refine a7 ?_
       cases hm
       refine EE.here ?_
       simp -dsimp
      ·simp -dsimp [c11, c12, c13]
       refine a7 ?_
       cases hm
       refine EE.here ?_
       simp -dsimp
     ·simp -dsimp [c11, c12]
      refine a7 ?_
      cases hm
      refine EE.here ?_
      simp -dsimp
    ·simp -dsimp [c11]
     refine a7 ?_
     cases hm
     refine EE.here ?_
     simp -dsimp
   ·clear j15
    simp only [Fits, az, aA, and_true] at hf
    refine ah ?_
    cases hm
    refine ⟨.inr rfl, ?_⟩
    refine EE.here ?_
    simp -dsimp [hf]
theorem c_L34_PeriodSettles (t : Tree) (p : List Cell) (x : Int × Int) (r : Bool) (hm : cz t p x = some r) : PureCall Tryz.prog 6 [.u (.agg [.d (.int .i64 t.States), .d (.sl 2 (List.map Point.row t.Hood)), .d (.sl 2 (List.map Node.row t.Nodes))]), .u (.one (.d (.sl 3 (List.map Cell.row p)))), .u (.agg [.d (.int .i64 x.1), .d (.int .i64 x.2)])] (.u (.one (.d (.bool r)))) := (f_L34_PeriodSettles t p x r hm).pureW
end Go.Proofs.YtdjclgfbggfpaaaGreatDoor
