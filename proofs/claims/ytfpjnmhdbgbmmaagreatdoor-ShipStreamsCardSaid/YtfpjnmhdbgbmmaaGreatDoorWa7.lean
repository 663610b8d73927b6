/-
  That the code does what the functions say (made by cc.py).
-/
import Derived.Test.YtfpjnmhdbgbmmaaGreatDoorMd1
import Derived.Test.YtfpjnmhdbgbmmaaGreatDoorTb
import Derived.Test.YtfpjnmhdbgbmmaaGreatDoorWa5
import Derived.Test.YtfpjnmhdbgbmmaaGreatDoorWa6
namespace Go.Proofs.YtfpjnmhdbgbmmaaGreatDoor
open Go.AM Go.Proofs
attribute [-simp] qlookup cC dS Ob.wipe Ob.ren Ob.frz1
def bY (cx : Cx) (_l : List Cell) (tt : ((List Cell) × Int) ⊕ (List Cell)) (ee : Exit) (ρ : Env) (σ : Sto) : Prop := match tt with
 | .inl r => ee = .ret ∧ EE cx (fun ρ σ => ∃ v, resV tb ρ σ Tryz.f114.results.toList = some v ∧ (v.frz σ).free = true ∧ (v.frz σ).wk (.tup [.one (.d (.sl 3 (List.map Cell.row r.1))), .one (.d (.int .i64 r.2))])) ρ σ
 | .inr out => ee = .exit 0 ∧ EE cx (aU [(4, .u (.one (.own 5000)))] [(5000, .row 3 57 (List.map Cell.row out))]) ρ σ
theorem l_pattern_From_1 (cx : Cx) (hn : cx.n = 61) (l : List Cell) {fu : Nat} {stt : Int × (List Cell)} {tt : ((List Cell) × Int) ⊕ (List Cell)} (hh : al (fC l) fu stt = some tt) {ρ : Env} {σ : Sto}
  (hE : b4 (fun stt : Int × (List Cell) => match stt with | (a, _out) => [(4, .u (.one (.own 5000))), (8, .u (.one (.d (.sl 3 (List.map Cell.row l))))), (9, .u (.one (.d (.int .i64 (ah l))))), (10, .u (.one (.d (.int .i64 a))))]) (fun stt : Int × (List Cell) => match stt with | (_a, out) => [(5000, .row 3 57 (List.map Cell.row out))]) stt ρ σ) : Swp Tryz.prog cx (.loop (bQ [1, 1, 0, 1, 0, 0] (aP Tryz.f114))) ρ σ (bY cx l tt) := by
 refine b8 hE hh (bY cx l) (fun _ => by rfl) (fun _ => by rfl) ?_
 rintro ⟨a, out⟩ r hm ρ σ hf
 simp only [Fits, am, ap, and_true] at hf
 unfold fC at hm
 dsimp only at hm
 refine srs hn (by kernel_rfl) ?_
 simp -dsimp [hf]
 refine ac ?_
 rcases aj hm with ⟨c1, hm⟩ | ⟨c1, hm⟩
 ·refine a8 (b := (ltB a (ah l))) (by simp -dsimp) c1 ?_
  refine ab (a6 (ac (ai ?_)))
  refine srs hn (by kernel_rfl) ?_
  obtain ⟨x, h2, hm⟩ := bnd hm
  simp -dsimp [hf, c1, h2]
  refine ai ?_
  refine srs hn (by kernel_rfl) ?_
  obtain ⟨y, h3, hm⟩ := bnd hm
  simp -dsimp
  refine ae (dB x y h3) (by rw [hn]; decide) ?_
  obtain ⟨y1, h4, hm⟩ := bnd hm
  simp -dsimp
  refine ae (fI y y1 h4) (by rw [hn]; decide) ?_
  simp -dsimp
  rcases aj hm with ⟨c5, hm⟩ | ⟨c5, hm⟩
  ·refine a8 (b := (aM y1)) (by simp -dsimp) c5 ?_
   refine srs hn (by kernel_rfl) ?_
   simp -dsimp [c5]
   refine aa (aN (aN (ag ?_)))
   cases hm
   refine ar nofun ?_
   unfold bY
   dsimp only
   refine ⟨rfl, ?_⟩
   refine EE.here ?_
   simp -dsimp [Tryz.results114]
  ·refine a7 (b := (aM y1)) (by simp -dsimp) c5 ?_
   obtain ⟨a1, j10, hm⟩ := bnd hm
   refine aw [(4, .u (.one (.own 5000))), (6, .u (.one (.box 6 0))), (8, .u (.one (.d (.sl 3 (List.map Cell.row l))))), (9, .u (.one (.d (.int .i64 (ah l))))), (10, .u (.one (.d (.int .i64 a)))), (19, .u (.one (.d (.bool a1))))] [(6, .box [.d (.int .i64 x.X), .d (.int .i64 x.Y), .d (.int .i64 x.S)]), (5000, .row 3 57 (List.map Cell.row out))] (by rfl) (by rfl) ?_ fun ρ σ hf => ?_
   ·replace hm := j10
    clear j10
    refine sr1 hn (by kernel_rfl) ?_
    rcases aj hm with ⟨c6, hm⟩ | ⟨c6, hm⟩
    ·simp -dsimp [c5, c6]
     refine a6 ?_
     cases hm
     refine EE.here ?_
     simp -dsimp [hf]
    ·simp -dsimp [c5, c6]
     refine a6 ?_
     cases hm
     refine EE.here ?_
     simp -dsimp [hf]
   ·clear j10
    simp only [Fits, am, ap, and_true] at hf
    rcases aj hm with ⟨c7, hm⟩ | ⟨c7, hm⟩
    ·refine a8 (b := a1) (by simp -dsimp [hf]) c7 ?_
     refine srs hn (by kernel_rfl) ?_
     simp -dsimp
     refine aa (aN (aN (ag ?_)))
     cases hm
     refine ar nofun ?_
     unfold bY
     dsimp only
     refine ⟨rfl, ?_⟩
     refine EE.here ?_
     simp -dsimp [Tryz.results114]
    ·refine a7 (b := a1) (by simp -dsimp [hf]) c7 ?_
     refine srs hn (by kernel_rfl) ?_
     simp -dsimp [hf]
     rcases aj hm with ⟨c8, hm⟩ | ⟨c8, hm⟩
     ·refine a8 (b := (gtB x.S 0)) (by simp -dsimp) c8 ?_
      refine sr1 hn (by kernel_rfl) ?_
      obtain ⟨l1, h9, hm⟩ := bnd hm
      obtain ⟨h9a, h9e⟩ := aL h9
      replace h9e := h9e.symm
      subst h9e
      try simp only [List.length_cons, List.length_nil, Nat.zero_add] at h9a
      simp -dsimp [hf, c8, h9a]
      refine aJ ?_
      refine aJ ?_
      refine a6 ?_
      refine sr1 hn (by kernel_rfl) ?_
      simp -dsimp [hf]
      cases hm
      refine aB ?_
      refine EE.step (Wk.move 35 5000 (by decide) (.inl (by decide))) ?_
      refine EE.here ?_
      simp -dsimp [hf]
     ·refine a7 (b := (gtB x.S 0)) (by simp -dsimp) c8 ?_
      refine ab ?_
      refine aJ ?_
      refine aJ ?_
      refine a6 ?_
      refine sr1 hn (by kernel_rfl) ?_
      simp -dsimp [hf, c8]
      cases hm
      refine aB ?_
      refine EE.here ?_
      simp -dsimp [hf]
 ·refine a7 (b := (ltB a (ah l))) (by simp -dsimp) c1 ?_
  refine av ?_
  refine ag ?_
  cases hm
  refine ar nofun ?_
  unfold bY
  dsimp only
  refine ⟨rfl, ?_⟩
  refine EE.here ?_
  simp -dsimp [hf, c1]
def cU (cx : Cx) (_out : List Cell) (y : List Cell) (tt : ((List Cell) × Int) ⊕ Unit) (ee : Exit) (ρ : Env) (σ : Sto) : Prop := match tt with
 | .inl r => ee = .ret ∧ EE cx (fun ρ σ => ∃ v, resV tb ρ σ Tryz.f114.results.toList = some v ∧ (v.frz σ).free = true ∧ (v.frz σ).wk (.tup [.one (.d (.sl 3 (List.map Cell.row r.1))), .one (.d (.int .i64 r.2))])) ρ σ
 | .inr _u => ee = .exit 3 ∧ EE cx (aU [(4, .u (.one (.own 5000)))] [(5000, .row 3 57 (List.map Cell.row y))]) ρ σ
theorem l_pattern_From_2 (cx : Cx) (hn : cx.n = 61) (out : List Cell) (y : List Cell) {fu : Nat} {stt : Int} {tt : ((List Cell) × Int) ⊕ Unit} (hh : al (fE out y) fu stt = some tt) {ρ : Env} {σ : Sto}
  (hE : b4 (fun i : Int => [(4, .u (.one (.own 5000))), (7, .u (.one (.d (.int .i64 i))))]) (fun _i : Int => [(5000, .row 3 57 (List.map Cell.row y))]) stt ρ σ) : Swp Tryz.prog cx (.loop (bQ [1, 1, 1, 1, 0, 1, 0, 0] (aP Tryz.f114))) ρ σ (cU cx out y tt) := by
 refine b8 hE hh (cU cx out y) (fun _ => by rfl) (fun _ => by rfl) ?_
 rintro i r hm ρ σ hf
 simp only [Fits, am, ap, and_true] at hf
 unfold fE at hm
 dsimp only at hm
 refine ac ?_
 refine srs hn (by kernel_rfl) ?_
 simp -dsimp [hf]
 rcases aj hm with ⟨c14, hm⟩ | ⟨c14, hm⟩
 ·refine a8 (b := (ltB i (ah y))) (by simp -dsimp) c14 ?_
  refine ab (a6 (ac (ai ?_)))
  refine ck aK mixed (by rw [hn]; kernel_rfl) ?_
  obtain ⟨x, h15, hm⟩ := bnd hm
  obtain ⟨y1, h16, hm⟩ := bnd hm
  simp -dsimp [hf, c14, h15, aW h15]
  refine ak (dB x y1 h16) ?_
  obtain ⟨x1, h17, hm⟩ := bnd hm
  obtain ⟨y2, h18, hm⟩ := bnd hm
  simp -dsimp [hf, h17, aW h17]
  refine ak (dB x1 y2 h18) ?_
  simp -dsimp
  rcases aj hm with ⟨c19, hm⟩ | ⟨c19, hm⟩
  ·refine a8 (b := (bA (eqB y1.X y2.X) (bA (eqB y1.Y y2.Y) true))) (by simp -dsimp) c19 ?_
   refine srs hn (by kernel_rfl) ?_
   simp -dsimp [c19]
   refine aa (aN (ag ?_))
   cases hm
   refine ar nofun ?_
   unfold cU
   dsimp only
   refine ⟨rfl, ?_⟩
   refine EE.here ?_
   simp -dsimp [Tryz.results114]
  ·refine a7 (b := (bA (eqB y1.X y2.X) (bA (eqB y1.Y y2.Y) true))) (by simp -dsimp) c19 ?_
   refine ab ?_
   refine aJ ?_
   refine a6 ?_
   refine sr1 hn (by kernel_rfl) ?_
   simp -dsimp [hf, c19]
   cases hm
   refine aB ?_
   refine EE.here ?_
   simp -dsimp [hf]
 ·refine a7 (b := (ltB i (ah y))) (by simp -dsimp) c14 ?_
  refine av ?_
  refine ag ?_
  cases hm
  refine ar nofun ?_
  unfold cU
  dsimp only
  refine ⟨rfl, ?_⟩
  refine EE.here ?_
  simp -dsimp [hf, c14]
theorem f_pattern_From (l : List Cell) (r : (List Cell) × Int) (hm : fo l = some r) : PFn Tryz.prog 114 [.u (.one (.d (.sl 3 (List.map Cell.row l))))] (fun v => v.wk (.tup [.one (.d (.sl 3 (List.map Cell.row r.1))), .one (.d (.int .i64 r.2))])) := by
 refine aX Tryz.func114 Tryz.ntmps114 rfl (by kernel_rfl) (by simp) fun cx hn => ?_
 unfold fo at hm
 refine srs hn (by kernel_rfl) ?_
 simp -dsimp []
 refine srs hn (by kernel_rfl) ?_
 simp -dsimp []
 refine ac ?_
 refine srs hn (by kernel_rfl) ?_
 simp -dsimp []
 refine ai ?_
 obtain ⟨o_, g11, hm⟩ := bnd hm
 refine aO [(4, .u (.one (.own 5000))), (8, .u (.one (.d (.sl 3 (List.map Cell.row l))))), (9, .u (.one (.d (.int .i64 (ah l))))), (10, .u (.one (.d (.int .i64 0))))] [(5000, .row 3 57 (List.map Cell.row []))] (by rfl) (by rfl) (by
   refine EE.step (Wk.own0 4 5000 3 57 (by simp -dsimp []) (by decide)) ?_
   refine EE.here ?_
   simp -dsimp []
 ) fun ρ σ hf => ?_
 refine (l_pattern_From_1 cx hn l g11 hf).mono fun ee ρ σ x12 => ?_
 rcases o_ with r | out
 ·unfold bY at x12
  dsimp only at x12
  obtain ⟨rfl, x12⟩ := x12
  refine aN (ag ?_)
  cases hm
  exact ⟨.inr rfl, x12⟩
 ·unfold bY at x12
  dsimp only at x12
  obtain ⟨rfl, x12⟩ := x12
  refine au ?_
  refine a6 ?_
  refine b5 (by rfl) (by rfl) x12 fun ρ σ hf => ?_
  simp only [Fits, am, ap, and_true] at hf
  refine srs hn (by kernel_rfl) ?_
  obtain ⟨y, h13, hm⟩ := bnd hm
  simp -dsimp [hf]
  refine bB (ct out y h13) [5000] [] rfl rfl rfl (by simp -dsimp []) rfl (by simp -dsimp [hf]) (by first | rfl | simp) rfl (by rw [hn]; decide) ?_
  simp -dsimp
  refine ac ?_
  refine srs hn (by kernel_rfl) ?_
  simp -dsimp
  refine ai ?_
  obtain ⟨o_1, g20, hm⟩ := bnd hm
  refine aO [(4, .u (.one (.own 5000))), (7, .u (.one (.d (.int .i64 1))))] [(5000, .row 3 57 (List.map Cell.row y))] (by rfl) (by rfl) (by
    refine EE.here ?_
    simp -dsimp [hf]
  ) fun ρ σ hf => ?_
  refine (l_pattern_From_2 cx hn out y g20 hf).mono fun ee ρ σ x21 => ?_
  rcases o_1 with r | _u
  ·unfold cU at x21
   dsimp only at x21
   obtain ⟨rfl, x21⟩ := x21
   refine aN (ag ?_)
   cases hm
   exact ⟨.inr rfl, x21⟩
  ·unfold cU at x21
   dsimp only at x21
   obtain ⟨rfl, x21⟩ := x21
   refine au ?_
   refine a6 ?_
   refine b5 (by rfl) (by rfl) x21 fun ρ σ hf => ?_
   simp only [Fits, am, ap, and_true] at hf
   refine ac ?_
   refine srs hn (by kernel_rfl) ?_
   simp -dsimp [hf]
   rcases aj hm with ⟨c22, hm⟩ | ⟨c22, hm⟩
   ·refine a8 (b := (gtB (ah y) 5000)) (by simp -dsimp) c22 ?_
    refine srs hn (by kernel_rfl) ?_
    simp -dsimp [c22]
    refine aa (ag ?_)
    cases hm
    refine ⟨.inr rfl, ?_⟩
    refine EE.here ?_
    simp -dsimp
   ·refine a7 (b := (gtB (ah y) 5000)) (by simp -dsimp) c22 ?_
    refine ab (a6 ?_)
    refine srs hn (by kernel_rfl) ?_
    simp -dsimp [hf, c22]
    refine aa ?_
    cases hm
    refine ⟨.inr rfl, ?_⟩
    refine EE.here ?_
    simp -dsimp [hf]
theorem c_pattern_From (l : List Cell) (r : (List Cell) × Int) (hm : fo l = some r) : PureCall Tryz.prog 114 [.u (.one (.d (.sl 3 (List.map Cell.row l))))] (.tup [.one (.d (.sl 3 (List.map Cell.row r.1))), .one (.d (.int .i64 r.2))]) := (f_pattern_From l r hm).pureW
def d5 (cx : Cx) (t : Tree) (p : List Cell) (y : List (Point × Int)) (a : Int) (_x : Cell) (tt : ((List Cell) × Int) ⊕ ((List (Point × Bool)) × (List Cell))) (ee : Exit) (ρ : Env) (σ : Sto) : Prop := match tt with
 | .inl r => ee = .ret ∧ EE cx (fun ρ σ => ∃ v, resV tb ρ σ Tryz.f53.results.toList = some v ∧ (v.frz σ).free = true ∧ (v.frz σ).wk (.tup [.one (.d (.sl 3 (List.map Cell.row r.1))), .one (.d (.int .i64 r.2))])) ρ σ
 | .inr (done1, l1) => ee = .exit 2 ∧ EE cx (aU [(2, .u (.one (.box 2 0))), (6, .u (.one (.map 5000))), (7, .u (.one (.map 17))), (8, .u (.one (.own 5001))), (18, .u (.one (.d (.sl 3 (List.map Cell.row p))))), (19, .u (.one (.d (.int .i64 (ah p))))), (20, .u (.one (.d (.int .i64 a))))] [(2, .box [.d (.int .i64 t.States), .d (.sl 2 (List.map Point.row t.Hood)), .d (.sl 2 (List.map Node.row t.Nodes))]), (17, mOb (.ints 2) Point.key (uL L.bool) done1), (5000, mOb (.ints 2) Point.key (uL (L.int .i64)) y), (5001, .row 3 57 (List.map Cell.row l1))]) ρ σ
theorem l_direct_step_2 (cx : Cx) (hn : cx.n = 71) (t : Tree) (p : List Cell) (y : List (Point × Int)) (a : Int) (x : Cell) {fu : Nat} {stt : Int × (List (Point × Bool)) × (List Cell)} {tt : ((List Cell) × Int) ⊕ ((List (Point × Bool)) × (List Cell))} (hh : al (gn t p y a x) fu stt = some tt) {ρ : Env} {σ : Sto}
  (hE : b4 (fun stt : Int × (List (Point × Bool)) × (List Cell) => match stt with | (a1, _done1, _l1) => [(2, .u (.one (.box 2 0))), (6, .u (.one (.map 5000))), (7, .u (.one (.map 17))), (8, .u (.one (.own 5001))), (10, .u (.one (.box 10 0))), (18, .u (.one (.d (.sl 3 (List.map Cell.row p))))), (19, .u (.one (.d (.int .i64 (ah p))))), (20, .u (.one (.d (.int .i64 a)))), (25, .u (.one (.d (.sl 2 (List.map Point.row t.Hood))))), (26, .u (.one (.d (.int .i64 (ah t.Hood))))), (27, .u (.one (.d (.int .i64 a1))))]) (fun stt : Int × (List (Point × Bool)) × (List Cell) => match stt with | (_a1, done1, l1) => [(2, .box [.d (.int .i64 t.States), .d (.sl 2 (List.map Point.row t.Hood)), .d (.sl 2 (List.map Node.row t.Nodes))]), (10, .box [.d (.int .i64 x.X), .d (.int .i64 x.Y), .d (.int .i64 x.S)]), (17, mOb (.ints 2) Point.key (uL L.bool) done1), (5000, mOb (.ints 2) Point.key (uL (L.int .i64)) y), (5001, .row 3 57 (List.map Cell.row l1))]) stt ρ σ) : Swp Tryz.prog cx (.loop (bQ [1, 1, 1, 1, 0, 1, 0, 0, 1, 1, 0, 0, 1, 1, 0, 0] (aP Tryz.f53))) ρ σ (d5 cx t p y a x tt) := by
 refine b8 hE hh (d5 cx t p y a x) (fun _ => by rfl) (fun _ => by rfl) ?_
 rintro ⟨a1, done1, l1⟩ r hm ρ σ hf
 simp only [Fits, am, ap, and_true] at hf
 unfold gn at hm
 dsimp only at hm
 refine srs hn (by kernel_rfl) ?_
 simp -dsimp [hf]
 refine ac ?_
 rcases aj hm with ⟨c4, hm⟩ | ⟨c4, hm⟩
 ·refine a8 (b := (ltB a1 (ah t.Hood))) (by simp -dsimp) c4 ?_
  refine ab (a6 (ac (ai ?_)))
  refine srs hn (by kernel_rfl) ?_
  obtain ⟨x1, h5, hm⟩ := bnd hm
  simp -dsimp [hf, c4, h5]
  refine srs hn (by kernel_rfl) ?_
  simp -dsimp [hf]
  refine ac ?_
  refine srs hn (by kernel_rfl) ?_
  obtain ⟨u, h6, hm⟩ := bnd hm
  simp -dsimp [hf, dQ h6 (.head _), dQ h6 (.tail _ (.head _)), (@id (lkM (gM (mOb (.ints 2) Point.key (uL L.bool) done1) (.ints [(aA .i64 x.X x1.X), (aA .i64 x.Y x1.Y)])) false (.one (.d (.bool false))) = some (.u (.one (.d (.bool (fx done1 (⟨(aA .i64 x.X x1.X), (aA .i64 x.Y x1.Y)⟩ : Point) false)))))) (lk_val (⟨(aA .i64 x.X x1.X), (aA .i64 x.Y x1.Y)⟩ : Point) false))]
  rcases aj hm with ⟨c7, hm⟩ | ⟨c7, hm⟩
  ·refine a8 (b := (fx done1 (⟨(aA .i64 x.X x1.X), (aA .i64 x.Y x1.Y)⟩ : Point) false)) (by simp -dsimp) c7 ?_
   refine av ?_
   refine ag ?_
   refine au ?_
   refine a6 ?_
   refine sr1 hn (by kernel_rfl) ?_
   simp -dsimp [hf, c7]
   cases hm
   refine aB ?_
   refine EE.here ?_
   simp -dsimp [hf]
  ·refine a7 (b := (fx done1 (⟨(aA .i64 x.X x1.X), (aA .i64 x.Y x1.Y)⟩ : Point) false)) (by simp -dsimp) c7 ?_
   refine ab (a6 ?_)
   refine srs hn (by kernel_rfl) ?_
   simp -dsimp [hf, dQ h6 (.head _), dQ h6 (.tail _ (.head _)), c7, (@id (ir (mOb (.ints 2) Point.key (uL L.bool) done1) (.ints [(aA .i64 x.X x1.X), (aA .i64 x.Y x1.Y)]) (.one (.d (.bool true))) = mOb (.ints 2) Point.key (uL L.bool) (gr done1 (⟨(aA .i64 x.X x1.X), (aA .i64 x.Y x1.Y)⟩ : Point) true)) (mset_ob (.ints 2) Point.key (uL L.bool) done1 (⟨(aA .i64 x.X x1.X), (aA .i64 x.Y x1.Y)⟩ : Point) true))]
   refine srs hn (by kernel_rfl) ?_
   obtain ⟨y1, h8, hm⟩ := bnd hm
   simp -dsimp [hf]
   refine bB (g_direct_cells_next_o y t (⟨(aA .i64 x.X x1.X), (aA .i64 x.Y x1.Y)⟩ : Point) y1 h8) [5000] [] rfl rfl rfl (by simp -dsimp []) rfl (by simp -dsimp [hf]) (by first | rfl | simp) rfl (by rw [hn]; decide) ?_
   simp -dsimp
   refine srs hn (by kernel_rfl) ?_
   simp -dsimp
   rcases aj hm with ⟨c9, hm⟩ | ⟨c9, hm⟩
   ·refine a8 (b := (gtB y1 0)) (by simp -dsimp) c9 ?_
    refine ac ?_
    refine srs hn (by kernel_rfl) ?_
    obtain ⟨y2, h10, hm⟩ := bnd hm
    simp -dsimp [c9]
    refine ae (c_direct_place (⟨(aA .i64 x.X x1.X), (aA .i64 x.Y x1.Y)⟩ : Point) y2 h10) (by rw [hn]; decide) ?_
    simp -dsimp
    rcases aj hm with ⟨c11, hm⟩ | ⟨c11, hm⟩
    ·refine a8 (b := (aM y2)) (by simp -dsimp) c11 ?_
     refine srs hn (by kernel_rfl) ?_
     simp -dsimp [c11]
     refine aa (ag (aN (ag ?_)))
     cases hm
     refine ar nofun ?_
     unfold d5
     dsimp only
     refine ⟨rfl, ?_⟩
     refine EE.here ?_
     simp -dsimp [Tryz.results53]
    ·refine a7 (b := (aM y2)) (by simp -dsimp) c11 ?_
     refine ab (a6 ?_)
     refine sr1 hn (by kernel_rfl) ?_
     obtain ⟨l2, h12, hm⟩ := bnd hm
     obtain ⟨h12a, h12e⟩ := aL h12
     replace h12e := h12e.symm
     subst h12e
     try simp only [List.length_cons, List.length_nil, Nat.zero_add] at h12a
     simp -dsimp [hf, c11, h12a]
     refine aJ ?_
     refine a6 ?_
     refine sr1 hn (by kernel_rfl) ?_
     simp -dsimp [hf]
     cases hm
     refine aB ?_
     refine EE.step (Wk.move 64 5001 (by decide) (.inl (by decide))) ?_
     refine EE.here ?_
     simp -dsimp [hf]
   ·refine a7 (b := (gtB y1 0)) (by simp -dsimp) c9 ?_
    refine ab ?_
    refine aJ ?_
    refine a6 ?_
    refine sr1 hn (by kernel_rfl) ?_
    simp -dsimp [hf, c9]
    cases hm
    refine aB ?_
    refine EE.here ?_
    simp -dsimp [hf]
 ·refine a7 (b := (ltB a1 (ah t.Hood))) (by simp -dsimp) c4 ?_
  refine av ?_
  refine ag ?_
  cases hm
  refine ar nofun ?_
  unfold d5
  dsimp only
  refine ⟨rfl, ?_⟩
  refine EE.here ?_
  simp -dsimp [hf, c4]
def d6 (cx : Cx) (_t : Tree) (_p : List Cell) (_y : List (Point × Int)) (tt : ((List Cell) × Int) ⊕ (List Cell)) (ee : Exit) (ρ : Env) (σ : Sto) : Prop := match tt with
 | .inl r => ee = .ret ∧ EE cx (fun ρ σ => ∃ v, resV tb ρ σ Tryz.f53.results.toList = some v ∧ (v.frz σ).free = true ∧ (v.frz σ).wk (.tup [.one (.d (.sl 3 (List.map Cell.row r.1))), .one (.d (.int .i64 r.2))])) ρ σ
 | .inr l => ee = .exit 0 ∧ EE cx (aU [(8, .u (.one (.own 5001)))] [(5001, .row 3 57 (List.map Cell.row l))]) ρ σ
theorem l_direct_step_1 (cx : Cx) (hn : cx.n = 71) (t : Tree) (p : List Cell) (y : List (Point × Int)) {fu : Nat} {stt : Int × (List (Point × Bool)) × (List Cell)} {tt : ((List Cell) × Int) ⊕ (List Cell)} (hh : al (gm t p y) fu stt = some tt) {ρ : Env} {σ : Sto}
  (hE : b4 (fun stt : Int × (List (Point × Bool)) × (List Cell) => match stt with | (a, _done, _l) => [(2, .u (.one (.box 2 0))), (6, .u (.one (.map 5000))), (7, .u (.one (.map 17))), (8, .u (.one (.own 5001))), (18, .u (.one (.d (.sl 3 (List.map Cell.row p))))), (19, .u (.one (.d (.int .i64 (ah p))))), (20, .u (.one (.d (.int .i64 a))))]) (fun stt : Int × (List (Point × Bool)) × (List Cell) => match stt with | (_a, done, l) => [(2, .box [.d (.int .i64 t.States), .d (.sl 2 (List.map Point.row t.Hood)), .d (.sl 2 (List.map Node.row t.Nodes))]), (17, mOb (.ints 2) Point.key (uL L.bool) done), (5000, mOb (.ints 2) Point.key (uL (L.int .i64)) y), (5001, .row 3 57 (List.map Cell.row l))]) stt ρ σ) : Swp Tryz.prog cx (.loop (bQ [1, 1, 1, 1, 0, 1, 0, 0] (aP Tryz.f53))) ρ σ (d6 cx t p y tt) := by
 refine b8 hE hh (d6 cx t p y) (fun _ => by rfl) (fun _ => by rfl) ?_
 rintro ⟨a, done, l⟩ r hm ρ σ hf
 simp only [Fits, am, ap, and_true] at hf
 unfold gm at hm
 dsimp only at hm
 refine srs hn (by kernel_rfl) ?_
 simp -dsimp [hf]
 refine ac ?_
 rcases aj hm with ⟨c2, hm⟩ | ⟨c2, hm⟩
 ·refine a8 (b := (ltB a (ah p))) (by simp -dsimp) c2 ?_
  refine ab (a6 (ac (ai ?_)))
  refine srs hn (by kernel_rfl) ?_
  obtain ⟨x, h3, hm⟩ := bnd hm
  simp -dsimp [hf, c2, h3]
  refine srs hn (by kernel_rfl) ?_
  simp -dsimp [hf]
  refine ai ?_
  obtain ⟨o_, g13, hm⟩ := bnd hm
  refine aO [(2, .u (.one (.box 2 0))), (6, .u (.one (.map 5000))), (7, .u (.one (.map 17))), (8, .u (.one (.own 5001))), (10, .u (.one (.box 10 0))), (18, .u (.one (.d (.sl 3 (List.map Cell.row p))))), (19, .u (.one (.d (.int .i64 (ah p))))), (20, .u (.one (.d (.int .i64 a)))), (25, .u (.one (.d (.sl 2 (List.map Point.row t.Hood))))), (26, .u (.one (.d (.int .i64 (ah t.Hood))))), (27, .u (.one (.d (.int .i64 0))))] [(2, .box [.d (.int .i64 t.States), .d (.sl 2 (List.map Point.row t.Hood)), .d (.sl 2 (List.map Node.row t.Nodes))]), (10, .box [.d (.int .i64 x.X), .d (.int .i64 x.Y), .d (.int .i64 x.S)]), (17, mOb (.ints 2) Point.key (uL L.bool) done), (5000, mOb (.ints 2) Point.key (uL (L.int .i64)) y), (5001, .row 3 57 (List.map Cell.row l))] (by rfl) (by rfl) (by
    refine EE.here ?_
    simp -dsimp [hf]
  ) fun ρ σ hf => ?_
  refine (l_direct_step_2 cx hn t p y a x g13 hf).mono fun ee ρ σ x14 => ?_
  rcases o_ with r | ⟨done1, l1⟩
  ·unfold d5 at x14
   dsimp only at x14
   obtain ⟨rfl, x14⟩ := x14
   refine aN (aN (ag ?_))
   cases hm
   refine ar nofun ?_
   unfold d6
   dsimp only
   refine ⟨rfl, ?_⟩
   exact x14
  ·unfold d5 at x14
   dsimp only at x14
   obtain ⟨rfl, x14⟩ := x14
   refine au ?_
   refine aJ ?_
   refine a6 ?_
   refine b5 (by rfl) (by rfl) x14 fun ρ σ hf => ?_
   simp only [Fits, am, ap, and_true] at hf
   refine sr1 hn (by kernel_rfl) ?_
   simp -dsimp [hf]
   cases hm
   refine aB ?_
   refine EE.here ?_
   simp -dsimp [hf]
 ·refine a7 (b := (ltB a (ah p))) (by simp -dsimp) c2 ?_
  refine av ?_
  refine ag ?_
  cases hm
  refine ar nofun ?_
  unfold d6
  dsimp only
  refine ⟨rfl, ?_⟩
  refine EE.here ?_
  simp -dsimp [hf, c2]
theorem f_direct_step (t : Tree) (p : List Cell) (r : (List Cell) × Int) (hm : eA t p = some r) : PFn Tryz.prog 53 [.u (.agg [.d (.int .i64 t.States), .d (.sl 2 (List.map Point.row t.Hood)), .d (.sl 2 (List.map Node.row t.Nodes))]), .u (.one (.d (.sl 3 (List.map Cell.row p))))] (fun v => v.wk (.tup [.one (.d (.sl 3 (List.map Cell.row r.1))), .one (.d (.int .i64 r.2))])) := by
 refine aX Tryz.func53 Tryz.ntmps53 rfl (by kernel_rfl) (by simp) fun cx hn => ?_
 unfold eA at hm
 refine srs hn (by kernel_rfl) ?_
 simp -dsimp []
 refine srs hn (by kernel_rfl) ?_
 obtain ⟨y, h1, hm⟩ := bnd hm
 simp -dsimp []
 refine bB (g_direct_of p y h1) [] [5000] rfl rfl rfl (by simp -dsimp []) rfl (by simp -dsimp []) (by first | rfl | simp) rfl (by rw [hn]; decide) ?_
 simp -dsimp
 refine srs hn (by kernel_rfl) ?_
 simp -dsimp [(@id (Ob.map (.ints 2) [] = mOb (.ints 2) Point.key (uL L.bool) ([] : List (Point × Bool))) (iv (.ints 2) Point.key (uL L.bool)))]
 refine srs hn (by kernel_rfl) ?_
 simp -dsimp
 refine ac ?_
 refine srs hn (by kernel_rfl) ?_
 simp -dsimp
 refine ai ?_
 obtain ⟨o_, g15, hm⟩ := bnd hm
 refine aO [(2, .u (.one (.box 2 0))), (6, .u (.one (.map 5000))), (7, .u (.one (.map 17))), (8, .u (.one (.own 5001))), (18, .u (.one (.d (.sl 3 (List.map Cell.row p))))), (19, .u (.one (.d (.int .i64 (ah p))))), (20, .u (.one (.d (.int .i64 0))))] [(2, .box [.d (.int .i64 t.States), .d (.sl 2 (List.map Point.row t.Hood)), .d (.sl 2 (List.map Node.row t.Nodes))]), (17, mOb (.ints 2) Point.key (uL L.bool) []), (5000, mOb (.ints 2) Point.key (uL (L.int .i64)) y), (5001, .row 3 57 (List.map Cell.row []))] (by rfl) (by rfl) (by
   refine EE.step (Wk.own0 8 5001 3 57 (by simp -dsimp) (by decide)) ?_
   refine EE.here ?_
   simp -dsimp
 ) fun ρ σ hf => ?_
 refine (l_direct_step_1 cx hn t p y g15 hf).mono fun ee ρ σ x16 => ?_
 rcases o_ with r | l
 ·unfold d6 at x16
  dsimp only at x16
  obtain ⟨rfl, x16⟩ := x16
  refine aN (ag ?_)
  cases hm
  exact ⟨.inr rfl, x16⟩
 ·unfold d6 at x16
  dsimp only at x16
  obtain ⟨rfl, x16⟩ := x16
  refine au ?_
  refine a6 ?_
  refine b5 (by rfl) (by rfl) x16 fun ρ σ hf => ?_
  simp only [Fits, am, ap, and_true] at hf
  refine Swp.pre (Wk.frz 5001 3 57 (List.map Cell.row l) (by simp -dsimp [hf])) ?_
  refine srs hn (by kernel_rfl) ?_
  obtain ⟨y1, h17, hm⟩ := bnd hm
  simp -dsimp [hf]
  refine ae (c_pattern_From l y1 h17) (by rw [hn]; decide) ?_
  simp -dsimp
  refine aa ?_
  cases hm
  refine ⟨.inr rfl, ?_⟩
  refine EE.here ?_
  simp -dsimp
theorem c_direct_step (t : Tree) (p : List Cell) (r : (List Cell) × Int) (hm : eA t p = some r) : PureCall Tryz.prog 53 [.u (.agg [.d (.int .i64 t.States), .d (.sl 2 (List.map Point.row t.Hood)), .d (.sl 2 (List.map Node.row t.Nodes))]), .u (.one (.d (.sl 3 (List.map Cell.row p))))] (.tup [.one (.d (.sl 3 (List.map Cell.row r.1))), .one (.d (.int .i64 r.2))]) := (f_direct_step t p r hm).pureW
def dr (cx : Cx) (_t : Tree) (_n : Int) (tt : ((List Cell) × Int) ⊕ (List Cell)) (ee : Exit) (ρ : Env) (σ : Sto) : Prop := match tt with
 | .inl r => ee = .ret ∧ EE cx (fun ρ σ => ∃ v, resV tb ρ σ Tryz.f22.results.toList = some v ∧ (v.frz σ).free = true ∧ (v.frz σ).wk (.tup [.one (.d (.sl 3 (List.map Cell.row r.1))), .one (.d (.int .i64 r.2))])) ρ σ
 | .inr p1 => ee = .exit 0 ∧ EE cx (aU [(1, .u (.one (.d (.sl 3 (List.map Cell.row p1)))))] []) ρ σ
theorem l_direct_Run_1 (cx : Cx) (hn : cx.n = 38) (t : Tree) (n : Int) {fu : Nat} {stt : (List Cell) × Int} {tt : ((List Cell) × Int) ⊕ (List Cell)} (hh : al (gU t n) fu stt = some tt) {ρ : Env} {σ : Sto}
  (hE : b4 (fun stt : (List Cell) × Int => match stt with | (p1, a1) => [(1, .u (.one (.d (.sl 3 (List.map Cell.row p1))))), (3, .u (.one (.box 3 0))), (23, .u (.one (.d (.int .i64 n)))), (24, .u (.one (.d (.int .i64 a1))))]) (fun stt : (List Cell) × Int => match stt with | (_p1, _a1) => [(3, .box [.d (.int .i64 t.States), .d (.sl 2 (List.map Point.row t.Hood)), .d (.sl 2 (List.map Node.row t.Nodes))])]) stt ρ σ) : Swp Tryz.prog cx (.loop (bQ [1, 1, 1, 0, 1, 0, 0] (aP Tryz.f22))) ρ σ (dr cx t n tt) := by
 refine b8 hE hh (dr cx t n) (fun _ => by rfl) (fun _ => by rfl) ?_
 rintro ⟨p1, a1⟩ r hm ρ σ hf
 simp only [Fits, am, ap, and_true] at hf
 unfold gU at hm
 dsimp only at hm
 refine srs hn (by kernel_rfl) ?_
 simp -dsimp [hf]
 refine ac ?_
 rcases aj hm with ⟨c5, hm⟩ | ⟨c5, hm⟩
 ·refine a8 (b := (ltB a1 n)) (by simp -dsimp) c5 ?_
  refine ab (a6 (ac (ai ?_)))
  refine srs hn (by kernel_rfl) ?_
  obtain ⟨y1, h6, hm⟩ := bnd hm
  simp -dsimp [hf, c5]
  refine ae (c_direct_step t p1 y1 h6) (by rw [hn]; decide) ?_
  simp -dsimp
  refine ac ?_
  refine srs hn (by kernel_rfl) ?_
  simp -dsimp
  rcases aj hm with ⟨c7, hm⟩ | ⟨c7, hm⟩
  ·refine a8 (b := (neB y1.2 0)) (by simp -dsimp) c7 ?_
   refine srs hn (by kernel_rfl) ?_
   simp -dsimp [c7]
   refine aa (ag (aN (ag ?_)))
   cases hm
   refine ar nofun ?_
   unfold dr
   dsimp only
   refine ⟨rfl, ?_⟩
   refine EE.here ?_
   simp -dsimp [Tryz.results22]
  ·refine a7 (b := (neB y1.2 0)) (by simp -dsimp) c7 ?_
   refine ab (a6 ?_)
   refine sr1 hn (by kernel_rfl) ?_
   simp -dsimp [c7]
   refine aJ ?_
   refine a6 ?_
   refine sr1 hn (by kernel_rfl) ?_
   simp -dsimp [hf]
   cases hm
   refine aB ?_
   refine EE.here ?_
   simp -dsimp [hf]
 ·refine a7 (b := (ltB a1 n)) (by simp -dsimp) c5 ?_
  refine av ?_
  refine ag ?_
  cases hm
  refine ar nofun ?_
  unfold dr
  dsimp only
  refine ⟨rfl, ?_⟩
  refine EE.here ?_
  simp -dsimp [hf, c5]
theorem f_direct_Run (t : Tree) (p : List Cell) (n : Int) (r : (List Cell) × Int) (hm : ec t p n = some r) : PFn Tryz.prog 22 [.u (.agg [.d (.int .i64 t.States), .d (.sl 2 (List.map Point.row t.Hood)), .d (.sl 2 (List.map Node.row t.Nodes))]), .u (.one (.d (.sl 3 (List.map Cell.row p)))), .u (.one (.d (.int .i64 n)))] (fun v => v.wk (.tup [.one (.d (.sl 3 (List.map Cell.row r.1))), .one (.d (.int .i64 r.2))])) := by
 refine aX Tryz.func22 Tryz.ntmps22 rfl (by kernel_rfl) (by simp) fun cx hn => ?_
 unfold ec at hm
 refine srs hn (by kernel_rfl) ?_
 simp -dsimp []
 refine ac ?_
 refine srs hn (by kernel_rfl) ?_
 obtain ⟨y, h1, hm⟩ := bnd hm
 simp -dsimp []
 refine ae (c_direct_check t p y h1) (by rw [hn]; decide) ?_
 simp -dsimp
 refine srs hn (by kernel_rfl) ?_
 simp -dsimp
 rcases aj hm with ⟨c2, hm⟩ | ⟨c2, hm⟩
 ·refine a8 (b := (neB y 0)) (by simp -dsimp) c2 ?_
  refine srs hn (by kernel_rfl) ?_
  simp -dsimp [c2]
  refine aa (ag ?_)
  cases hm
  refine ⟨.inr rfl, ?_⟩
  refine EE.here ?_
  simp -dsimp
 ·refine a7 (b := (neB y 0)) (by simp -dsimp) c2 ?_
  refine ab (a6 (ac ?_))
  obtain ⟨a, j10, hm⟩ := bnd hm
  refine aw [(1, .u (.one (.d (.sl 3 (List.map Cell.row p))))), (2, .u (.one (.d (.int .i64 n)))), (3, .u (.one (.box 3 0))), (22, .u (.one (.d (.bool a))))] [(3, .box [.d (.int .i64 t.States), .d (.sl 2 (List.map Point.row t.Hood)), .d (.sl 2 (List.map Node.row t.Nodes))])] (by rfl) (by rfl) ?_ fun ρ σ hf => ?_
  ·replace hm := j10
   clear j10
   refine sr1 hn (by kernel_rfl) ?_
   rcases aj hm with ⟨c3, hm⟩ | ⟨c3, hm⟩
   ·simp -dsimp [c2, c3]
    refine a6 ?_
    cases hm
    refine EE.here ?_
    simp -dsimp
   ·simp -dsimp [c2, c3]
    refine a6 ?_
    cases hm
    refine EE.here ?_
    simp -dsimp
  ·clear j10
   simp only [Fits, am, ap, and_true] at hf
   rcases aj hm with ⟨c4, hm⟩ | ⟨c4, hm⟩
   ·refine a8 (b := a) (by simp -dsimp [hf]) c4 ?_
    refine srs hn (by kernel_rfl) ?_
    simp -dsimp
    refine aa (ag ?_)
    cases hm
    refine ⟨.inr rfl, ?_⟩
    refine EE.here ?_
    simp -dsimp
   ·refine a7 (b := a) (by simp -dsimp [hf]) c4 ?_
    refine ab (a6 (ac ?_))
    refine srs hn (by kernel_rfl) ?_
    simp -dsimp [hf]
    refine ai ?_
    obtain ⟨o_, g8, hm⟩ := bnd hm
    refine aO [(1, .u (.one (.d (.sl 3 (List.map Cell.row p))))), (3, .u (.one (.box 3 0))), (23, .u (.one (.d (.int .i64 n)))), (24, .u (.one (.d (.int .i64 0))))] [(3, .box [.d (.int .i64 t.States), .d (.sl 2 (List.map Point.row t.Hood)), .d (.sl 2 (List.map Node.row t.Nodes))])] (by rfl) (by rfl) (by
      refine EE.here ?_
      simp -dsimp [hf]
    ) fun ρ σ hf => ?_
    refine (l_direct_Run_1 cx hn t n g8 hf).mono fun ee ρ σ x9 => ?_
    rcases o_ with r | p1
    ·unfold dr at x9
     dsimp only at x9
     obtain ⟨rfl, x9⟩ := x9
     refine aN (ag ?_)
     cases hm
     exact ⟨.inr rfl, x9⟩
    ·unfold dr at x9
     dsimp only at x9
     obtain ⟨rfl, x9⟩ := x9
     refine au ?_
     refine a6 ?_
     refine b5 (by rfl) (by rfl) x9 fun ρ σ hf => ?_
     simp only [Fits, am, ap, and_true] at hf
     refine srs hn (by kernel_rfl) ?_
     simp -dsimp [hf]
     refine aa ?_
     cases hm
     refine ⟨.inr rfl, ?_⟩
     refine EE.here ?_
     simp -dsimp
theorem iD (t : Tree) (p : List Cell) (n : Int) (r : (List Cell) × Int) (hm : ec t p n = some r) : PureCall Tryz.prog 22 [.u (.agg [.d (.int .i64 t.States), .d (.sl 2 (List.map Point.row t.Hood)), .d (.sl 2 (List.map Node.row t.Nodes))]), .u (.one (.d (.sl 3 (List.map Cell.row p)))), .u (.one (.d (.int .i64 n)))] (.tup [.one (.d (.sl 3 (List.map Cell.row r.1))), .one (.d (.int .i64 r.2))]) := (f_direct_Run t p n r hm).pureW
theorem f_period_proper (n : Int) (r : Bool) (hm : eF n = some r) : PFn Tryz.prog 121 [.u (.one (.d (.int .i64 n)))] (fun v => v.wk (.u (.one (.d (.bool r))))) := by
 refine aX Tryz.func121 Tryz.ntmps121 rfl (by kernel_rfl) (by simp) fun cx hn => ?_
 unfold eF at hm
 refine srs hn (by kernel_rfl) ?_
 simp -dsimp []
 obtain ⟨a, j2, hm⟩ := bnd hm
 refine aw [(2, .u (.one (.d (.bool a))))] [] (by rfl) (by rfl) ?_ fun ρ σ hf => ?_
 ·replace hm := j2
  clear j2
  refine sr1 hn (by kernel_rfl) ?_
  rcases aj hm with ⟨c1, hm⟩ | ⟨c1, hm⟩
  ·simp -dsimp [c1]
   refine a6 ?_
   cases hm
   refine EE.here ?_
   simp -dsimp
  ·simp -dsimp [c1]
   refine a6 ?_
   cases hm
   refine EE.here ?_
   simp -dsimp
 ·clear j2
  simp only [Fits, am, ap, and_true] at hf
  refine aa ?_
  cases hm
  refine ⟨.inr rfl, ?_⟩
  refine EE.here ?_
  simp -dsimp [hf]
theorem c_period_proper (n : Int) (r : Bool) (hm : eF n = some r) : PureCall Tryz.prog 121 [.u (.one (.d (.int .i64 n)))] (.u (.one (.d (.bool r)))) := (f_period_proper n r hm).pureW
theorem f_direct_Step (t : Tree) (p : List Cell) (r : (List Cell) × Int) (hm : fT t p = some r) : PFn Tryz.prog 122 [.u (.agg [.d (.int .i64 t.States), .d (.sl 2 (List.map Point.row t.Hood)), .d (.sl 2 (List.map Node.row t.Nodes))]), .u (.one (.d (.sl 3 (List.map Cell.row p))))] (fun v => v.wk (.tup [.one (.d (.sl 3 (List.map Cell.row r.1))), .one (.d (.int .i64 r.2))])) := by
 refine aX Tryz.func122 Tryz.ntmps122 rfl (by kernel_rfl) (by simp) fun cx hn => ?_
 unfold fT at hm
 refine srs hn (by kernel_rfl) ?_
 simp -dsimp []
 refine ac ?_
 refine srs hn (by kernel_rfl) ?_
 obtain ⟨y, h1, hm⟩ := bnd hm
 simp -dsimp []
 refine ae (c_direct_check t p y h1) (by rw [hn]; decide) ?_
 simp -dsimp
 refine srs hn (by kernel_rfl) ?_
 simp -dsimp
 rcases aj hm with ⟨c2, hm⟩ | ⟨c2, hm⟩
 ·refine a8 (b := (neB y 0)) (by simp -dsimp) c2 ?_
  refine srs hn (by kernel_rfl) ?_
  simp -dsimp [c2]
  refine aa (ag ?_)
  cases hm
  refine ⟨.inr rfl, ?_⟩
  refine EE.here ?_
  simp -dsimp
 ·refine a7 (b := (neB y 0)) (by simp -dsimp) c2 ?_
  refine ab (a6 ?_)
  refine srs hn (by kernel_rfl) ?_
  obtain ⟨y1, h3, hm⟩ := bnd hm
  simp -dsimp [c2]
  refine ae (c_direct_step t p y1 h3) (by rw [hn]; decide) ?_
  simp -dsimp
  refine aa ?_
  cases hm
  refine ⟨.inr rfl, ?_⟩
  refine EE.here ?_
  simp -dsimp
theorem c_direct_Step (t : Tree) (p : List Cell) (r : (List Cell) × Int) (hm : fT t p = some r) : PureCall Tryz.prog 122 [.u (.agg [.d (.int .i64 t.States), .d (.sl 2 (List.map Point.row t.Hood)), .d (.sl 2 (List.map Node.row t.Nodes))]), .u (.one (.d (.sl 3 (List.map Cell.row p))))] (.tup [.one (.d (.sl 3 (List.map Cell.row r.1))), .one (.d (.int .i64 r.2))]) := (f_direct_Step t p r hm).pureW
end Go.Proofs.YtfpjnmhdbgbmmaaGreatDoor
