/- That the code does what the functions say (made by cc.py). -/
import Derived.Test.YtogdjcdmbodmiaaGreatDoorWa10
namespace Go.Proofs.YtogdjcdmbodmiaaGreatDoor
open Go.AM Go.Proofs
attribute [-simp] qlookup cJ cG Ob.wipe Ob.ren Ob.frz1 bX dz dJ fw Prod.forall Key.u
def F_delta_Of_1 (cx : Cx) (_b : List Cell) (tt : ((List (Point × Int)) × (List Change))) (ee : Exit) (ρ : Env) (σ : Sto) : Prop := match tt with
 | (old, out) => ee = .exit 0 ∧ EE cx (b4 [(6, .u (.one (.own 5001))), (7, .u (.one (.map 5000)))] [(5000, mOb (.ints 2) Point.key (uL (L.int .i64)) old), (5001, .row 4 74 (List.map Change.row out))]) ρ σ
theorem l_delta_Of_1 (cx : Cx) (hn : cx.n = 75) (b : List Cell) {fu : Nat} {stt : Int × (List (Point × Int)) × (List Change)} {tt : ((List (Point × Int)) × (List Change))} (hh : am (dM b) fu stt = some tt) {ρ : Env} {σ : Sto}
  (hE : bT (fun stt : Int × (List (Point × Int)) × (List Change) => match stt with | (a2, _old, _out) => [(6, .u (.one (.own 5001))), (7, .u (.one (.map 5000))), (24, .u (.one (.d (.sl 3 (List.map Cell.row b))))), (25, .u (.one (.d (.int .i64 (ak b))))), (26, .u (.one (.d (.int .i64 a2))))]) (fun stt : Int × (List (Point × Int)) × (List Change) => match stt with | (_a2, old, out) => [(5000, mOb (.ints 2) Point.key (uL (L.int .i64)) old), (5001, .row 4 74 (List.map Change.row out))]) stt ρ σ) : Swp Tryz.prog cx (.loop (d4 [1, 1, 1, 1, 0, 1, 0, 0] (aZ Tryz.f8))) ρ σ (F_delta_Of_1 cx b tt) := by
 refine cd hE hh (F_delta_Of_1 cx b) ?_
 rintro ⟨a2, old, out⟩ r hm ρ σ hf
 simp only [Fits, ap, ar, and_true] at hf
 unfold dM at hm
 dsimp only at hm
 refine srs hn ?_
 simp -dsimp [hf]
 refine ae ?_
 rcases ai hm with ⟨c6, hm⟩ | ⟨c6, hm⟩
 ·refine a8 (by simp -dsimp) c6 ?_
  refine ab (a6 (ae (ah ?_)))
  refine srs hn ?_
  obtain ⟨x, h7, hm⟩ := bnd hm
  simp -dsimp [hf, c6, h7]
  refine srs hn ?_
  simp -dsimp
  obtain ⟨out1, j12, hm⟩ := bnd hm
  refine au [(6, .u (.one (.own 5001))), (7, .u (.one (.map 5000))), (10, .u (.one (.box 10 0))), (24, .u (.one (.d (.sl 3 (List.map Cell.row b))))), (25, .u (.one (.d (.int .i64 (ak b))))), (26, .u (.one (.d (.int .i64 a2))))] [(10, .box [.d (.int .i64 x.X), .d (.int .i64 x.Y)]), (5000, mOb (.ints 2) Point.key (uL (L.int .i64)) old), (5001, .row 4 74 (List.map Change.row out1))] (by rfl) (by rfl) ?_ fun ρ σ hf => ?_
  ·replace hm := j12
   clear j12
   refine srs hn ?_
   obtain ⟨u, h8, hm⟩ := bnd hm
   simp -dsimp [hf, aJ h8 (.head _), aJ h8 (.tail _ (.head _)), (@id (lkM (eo (mOb (.ints 2) Point.key (uL (L.int .i64)) old) (.ints [x.X, x.Y])) false (.one (.d (.int .i64 0))) = some (.u (.one (.d (.int .i64 (aL old (⟨x.X, x.Y⟩ : Point) 0)))))) (lk_val (⟨x.X, x.Y⟩ : Point) 0))]
   refine srs hn ?_
   simp -dsimp
   rcases ai hm with ⟨c9, hm⟩ | ⟨c9, hm⟩
   ·refine a8 (b := (neB (aL old (⟨x.X, x.Y⟩ : Point) 0) x.S)) (by simp -dsimp) c9 ?_
    refine sr1 hn ?_
    obtain ⟨l, h10, hm⟩ := bnd hm
    obtain ⟨h10a, h10e⟩ := aQ h10
    replace h10e := h10e.symm
    subst h10e
    try simp only [List.length_cons, List.length_nil, Nat.zero_add] at h10a
    simp -dsimp [hf, c9, h10a]
    refine a6 ?_
    cases hm
    refine EE.step (Wk.move 52 5001 (by decide) (.inl (by decide))) ?_
    exact EE.here (by simp -dsimp [hf])
   ·refine a7 (b := (neB (aL old (⟨x.X, x.Y⟩ : Point) 0) x.S)) (by simp -dsimp) c9 ?_
    refine ab (a6 ?_)
    cases hm
    exact EE.here (by simp -dsimp [hf, c9])
  ·clear j12
   simp only [Fits, ap, ar, and_true] at hf
   refine sr1 hn ?_
   obtain ⟨u, h11, hm⟩ := bnd hm
   simp -dsimp [hf, aJ h11 (.head _), aJ h11 (.tail _ (.head _)), (@id (mdelOb (mOb (.ints 2) Point.key (uL (L.int .i64)) old) (.ints [x.X, x.Y]) = mOb (.ints 2) Point.key (uL (L.int .i64)) (eE old (⟨x.X, x.Y⟩ : Point))) (mdel_ob (.ints 2) Point.key (uL (L.int .i64)) old (⟨x.X, x.Y⟩ : Point)))]
   refine aV ?_
   refine a6 ?_
   refine sr1 hn ?_
   simp -dsimp [hf]
   cases hm
   refine aI ?_
   exact EE.here (by simp -dsimp [hf])
 ·refine a7 (by simp -dsimp) c6 ?_
  refine aC ?_
  refine ag ?_
  cases hm
  refine aB nofun ?_
  unfold F_delta_Of_1
  dsimp only
  refine ⟨rfl, ?_⟩
  exact EE.here (by simp -dsimp [hf, c6])
def F_delta_Of_2 (cx : Cx) (_old : List (Point × Int)) (out2 : List Change) (ee : Exit) (ρ : Env) (σ : Sto) : Prop := ee = .exit 2 ∧ EE cx (b4 [(6, .u (.one (.own 5001)))] [(5001, .row 4 74 (List.map Change.row out2))]) ρ σ
theorem l_delta_Of_2 (cx : Cx) (hn : cx.n = 75) (old : List (Point × Int)) {ok : List (Change) → Bool} {es : List (Point × Int)} {out tt : List Change} (hh : colL 32 ok (bV old) es out = some tt) {ρ : Env} {σ : Sto}
  (hE : Fits [(6, .u (.one (.own 5001))), (57, .u (.one (.iter 57)))] ((fun (lf : List (Point × Int)) (la : Option (Point × Int)) (out1 : List Change) => [(57, iOb 5000 Point.key (uL (L.int .i64)) lf la), (5000, mOb (.ints 2) Point.key (uL (L.int .i64)) old), (5001, .row 4 74 (List.map Change.row out1))]) es none out) ρ σ) : Swp Tryz.prog cx (.loop (d4 [1, 1, 1, 1, 1, 0, 1, 0, 0] (aZ Tryz.f8))) ρ σ (fun ee ρ σ => ∃ o, o.Perm tt ∧ F_delta_Of_2 cx old o ee ρ σ) := by
 refine loop_colL hh [(6, .u (.one (.own 5001))), (57, .u (.one (.iter 57)))] (fun (lf : List (Point × Int)) (la : Option (Point × Int)) (out1 : List Change) => [(57, iOb 5000 Point.key (uL (L.int .i64)) lf la), (5000, mOb (.ints 2) Point.key (uL (L.int .i64)) old), (5001, .row 4 74 (List.map Change.row out1))]) (F_delta_Of_2 cx old) (by rfl) (fun _ _ _ => by rfl) (ig old) (fun y o h => by
  unfold bV at h
  unfold ig bV
  rw [appL_one (by decide) h]
  rfl) ?_ hE
 intro lf la out1 hB ρ σ hf
 simp only [Fits, ap, ar, and_true] at hf
 refine srs hn ?_
 simp -dsimp [hf]
 refine ⟨fun hl => ?_, fun i y1 hy => ?_⟩
 ·refine ae ?_
  refine a7 (b := false) (by simp -dsimp) rfl ?_
  refine aC ?_
  refine ag ?_
  refine rdc_out hl nofun ?_
  unfold F_delta_Of_2
  refine ⟨rfl, ?_⟩
  exact EE.here (by simp -dsimp [hf])
 ·obtain ⟨o', hm⟩ := hB i y1 hy
  have hb2 := hm
  unfold ig at hm
  refine ae ?_
  refine a8 (b := true) (by simp -dsimp [(@id ((Point.key y1.1).u = .agg [.d (.int .i64 y1.1.X), .d (.int .i64 y1.1.Y)]) rfl), (@id ((uL (L.int .i64)) y1.2 = .one (.d (.int .i64 y1.2))) rfl)]) rfl ?_
  refine ab (a6 (ah ?_))
  refine srs hn ?_
  simp -dsimp [hf, (@id ((Point.key y1.1).u = .agg [.d (.int .i64 y1.1.X), .d (.int .i64 y1.1.Y)]) rfl), (@id ((uL (L.int .i64)) y1.2 = .one (.d (.int .i64 y1.2))) rfl)]
  refine sr1 hn ?_
  obtain ⟨l, h15, hm⟩ := bnd hm
  obtain ⟨h15a, h15e⟩ := aQ h15
  replace h15e := h15e.symm
  subst h15e
  try simp only [List.length_cons, List.length_nil, Nat.zero_add] at h15a
  simp -dsimp [hf, h15a]
  refine aV ?_
  cases hm
  refine rdc_next hy hb2 ?_
  refine EE.step (Wk.move 71 5001 (by decide) (.inl (by decide))) ?_
  exact EE.here (by simp -dsimp [hf])
theorem f_delta_Of (a : List Cell) (b : List Cell) (r : (List Change) × Int) (hm : ei a b = some r) : PFn Tryz.prog 8 [.u (.one (.d (.sl 3 (List.map Cell.row a)))), .u (.one (.d (.sl 3 (List.map Cell.row b))))] (fun v => v.wk (.tup [.one (.d (.sl 4 (List.map Change.row r.1))), .one (.d (.int .i64 r.2))])) := by
 refine bv Tryz.func8 Tryz.ntmps8 rfl (by kernel_rfl) (by simp) fun cx hn => ?_
 unfold ei at hm
 refine srs hn ?_
 simp -dsimp
 refine ae ?_
 obtain ⟨a1, j20, hm⟩ := bnd hm
 refine au [(0, .u (.one (.d (.sl 3 (List.map Cell.row a))))), (1, .u (.one (.d (.sl 3 (List.map Cell.row b))))), (21, .u (.one (.d (.bool a1))))] [] (by rfl) (by rfl) ?_ fun ρ σ hf => ?_
 ·replace hm := j20
  clear j20
  refine sr1 hn ?_
  obtain ⟨y, h1, hm⟩ := bnd hm
  simp -dsimp
  refine aa (c_pattern_Right a y h1) (dkL hn) ?_
  rcases ai hm with ⟨c2, hm⟩ | ⟨c2, hm⟩
  ·simp -dsimp [c2]
   refine a6 ?_
   cases hm
   exact EE.here (by simp -dsimp)
  ·obtain ⟨y1, h3, hm⟩ := bnd hm
   simp -dsimp [c2]
   refine aa (c_pattern_Right b y1 h3) (dkL hn) ?_
   simp -dsimp
   refine a6 ?_
   cases hm
   exact EE.here (by simp -dsimp)
 ·clear j20
  simp only [Fits, ap, ar, and_true] at hf
  rcases ai hm with ⟨c4, hm⟩ | ⟨c4, hm⟩
  ·refine a8 (by simp -dsimp [hf]) c4 ?_
   refine srs hn ?_
   simp -dsimp
   refine ac (ag ?_)
   cases hm
   refine ⟨.inr rfl, ?_⟩
   exact EE.here (by simp -dsimp)
  ·refine a7 (by simp -dsimp [hf]) c4 ?_
   refine ab (a6 ?_)
   refine srs hn ?_
   simp -dsimp
   refine srs hn ?_
   obtain ⟨y, h5, hm⟩ := bnd hm
   simp -dsimp [hf]
   refine bA (g_delta_cells a y h5) [] [5000] rfl rfl rfl (by simp -dsimp) rfl (by simp -dsimp) (by first | rfl | simp) rfl (dkL hn) ?_
   simp -dsimp
   refine ae ?_
   refine srs hn ?_
   simp -dsimp [hf]
   refine ah ?_
   obtain ⟨⟨old, out⟩, g13, hm⟩ := bnd hm
   refine bf (l_delta_Of_1 cx hn b g13) (by
     try dsimp only
     refine EE.step (Wk.own0 6 5001 4 74 (by simp -dsimp) (by decide)) ?_
     exact EE.here (by simp -dsimp)
   ) fun ee ρ σ x14 => ?_
   unfold F_delta_Of_1 at x14
   dsimp only at x14
   obtain ⟨rfl, x14⟩ := x14
   refine aD ?_
   refine a6 ?_
   refine bN (by rfl) (by rfl) x14 fun ρ σ hf => ?_
   simp only [Fits, ap, ar, and_true] at hf
   refine ae ?_
   refine srs hn ?_
   simp -dsimp [hf]
   refine ah ?_
   obtain ⟨out2q, g16, hm⟩ := bnd hm
   refine sw_ent [(6, .u (.one (.own 5001))), (57, .u (.one (.iter 57)))] [(57, iOb 5000 Point.key (uL (L.int .i64)) old none), (5000, mOb (.ints 2) Point.key (uL (L.int .i64)) old), (5001, .row 4 74 (List.map Change.row out))] (by rfl) (by rfl) (by
     exact EE.here (by simp -dsimp [hf])
   ) fun ρ σ hf => ?_
   refine (l_delta_Of_2 cx hn old g16 hf).mono fun ee ρ σ x17 => ?_
   obtain ⟨out2, p18, x17⟩ := x17
   rw [show aj out2q = aj out2 from sortM_perm swo_delta_order p18.symm] at hm
   unfold F_delta_Of_2 at x17
   obtain ⟨rfl, x17⟩ := x17
   refine aD ?_
   refine a6 ?_
   refine bN (by rfl) (by rfl) x17 fun ρ σ hf => ?_
   simp only [Fits, ap, ar, and_true] at hf
   refine srs hn ?_
   obtain ⟨y1, h19, hm⟩ := bnd hm
   simp -dsimp [hf]
   refine bA (g_slices_SortFunc_api_Change_api_Change_o_delta_order out2 y1 h19) [5001] [] rfl rfl rfl (by simp -dsimp) rfl (by simp -dsimp [hf]) (by first | rfl | simp) rfl (dkL hn) ?_
   simp -dsimp
   refine srs hn ?_
   simp -dsimp [hf]
   refine ac ?_
   cases hm
   refine ⟨.inr rfl, ?_⟩
   exact EE.here (by simp -dsimp)
theorem c_delta_Of (a : List Cell) (b : List Cell) (r : (List Change) × Int) (hm : ei a b = some r) : PureCall Tryz.prog 8 [.u (.one (.d (.sl 3 (List.map Cell.row a)))), .u (.one (.d (.sl 3 (List.map Cell.row b))))] (.tup [.one (.d (.sl 4 (List.map Change.row r.1))), .one (.d (.int .i64 r.2))]) := (f_delta_Of a b r hm).pureW
theorem f_delta_state (s : Int) (r : Bool) (hm : dj s = some r) : PFn Tryz.prog 91 [.u (.one (.d (.int .i64 s)))] (fun v => v.wk (.u (.one (.d (.bool r))))) := by
 refine bv Tryz.func91 Tryz.ntmps91 rfl (by kernel_rfl) (by simp) fun cx hn => ?_
 unfold dj at hm
 refine srs hn ?_
 simp -dsimp
 obtain ⟨a, j2, hm⟩ := bnd hm
 refine au [(2, .u (.one (.d (.bool a))))] [] (by rfl) (by rfl) ?_ fun ρ σ hf => ?_
 ·replace hm := j2
  clear j2
  refine sr1 hn ?_
  rcases ai hm with ⟨c1, hm⟩ | ⟨c1, hm⟩
  ·simp -dsimp [c1]
   refine a6 ?_
   cases hm
   exact EE.here (by simp -dsimp)
  ·simp -dsimp [c1]
   refine a6 ?_
   cases hm
   exact EE.here (by simp -dsimp)
 ·clear j2
  simp only [Fits, ap, ar, and_true] at hf
  refine ac ?_
  cases hm
  refine ⟨.inr rfl, ?_⟩
  exact EE.here (by simp -dsimp [hf])
theorem c_delta_state (s : Int) (r : Bool) (hm : dj s = some r) : PureCall Tryz.prog 91 [.u (.one (.d (.int .i64 s)))] (.u (.one (.d (.bool r)))) := (f_delta_state s r hm).pureW
def F_delta_Right_1 (cx : Cx) (_l : List Change) (tt : Bool ⊕ Unit) (ee : Exit) (ρ : Env) (σ : Sto) : Prop := match tt with
 | .inl r => ee = .ret ∧ EE cx (fun ρ σ => ∃ v, eH tb ρ σ Tryz.f32.results.toList = some v ∧ (v.frz σ).free = true ∧ (v.frz σ).wk (.u (.one (.d (.bool r))))) ρ σ
 | .inr _u => ee = .exit 0 ∧ EE cx (b4 [] []) ρ σ
theorem l_delta_Right_1 (cx : Cx) (hn : cx.n = 63) (l : List Change) {fu : Nat} {stt : Int} {tt : Bool ⊕ Unit} (hh : am (d9 l) fu stt = some tt) {ρ : Env} {σ : Sto}
  (hE : bT (fun a : Int => [(0, .u (.one (.d (.sl 4 (List.map Change.row l))))), (8, .u (.one (.d (.sl 4 (List.map Change.row l))))), (9, .u (.one (.d (.int .i64 (ak l))))), (10, .u (.one (.d (.int .i64 a))))]) (fun _a : Int => []) stt ρ σ) : Swp Tryz.prog cx (.loop (d4 [1, 1, 0, 1, 0, 0] (aZ Tryz.f32))) ρ σ (F_delta_Right_1 cx l tt) := by
 refine cd hE hh (F_delta_Right_1 cx l) ?_
 rintro a r hm ρ σ hf
 simp only [Fits, ap, ar, and_true] at hf
 unfold d9 at hm
 dsimp only at hm
 refine srs hn ?_
 simp -dsimp [hf]
 refine ae ?_
 rcases ai hm with ⟨c2, hm⟩ | ⟨c2, hm⟩
 ·refine a8 (by simp -dsimp) c2 ?_
  refine ab (a6 (ae (ah ?_)))
  refine srs hn ?_
  obtain ⟨x, h3, hm⟩ := bnd hm
  simp -dsimp [hf, c2, h3]
  obtain ⟨a1, j15, hm⟩ := bnd hm
  refine au [(0, .u (.one (.d (.sl 4 (List.map Change.row l))))), (8, .u (.one (.d (.sl 4 (List.map Change.row l))))), (9, .u (.one (.d (.int .i64 (ak l))))), (10, .u (.one (.d (.int .i64 a)))), (61, .u (.one (.d (.bool a1))))] [] (by rfl) (by rfl) ?_ fun ρ σ hf => ?_
  ·replace hm := j15
   clear j15
   refine sw_qt aW mixed (by rw [hn]; kernel_rfl) ?_
   rcases ai hm with ⟨c4, hm⟩ | ⟨c4, hm⟩
   ·simp -dsimp [c4]
    refine a6 ?_
    cases hm
    exact EE.here (by simp -dsimp [hf])
   ·rcases ai hm with ⟨c5, hm⟩ | ⟨c5, hm⟩
    ·simp -dsimp [c4, c5]
     refine a6 ?_
     cases hm
     exact EE.here (by simp -dsimp [hf])
    ·obtain ⟨y, h6, hm⟩ := bnd hm
     simp -dsimp [c4, c5]
     refine aw (c_delta_state x.From y h6) ?_
     rcases ai hm with ⟨c7, hm⟩ | ⟨c7, hm⟩
     ·simp -dsimp [c7]
      refine a6 ?_
      cases hm
      exact EE.here (by simp -dsimp [hf])
     ·obtain ⟨y1, h8, hm⟩ := bnd hm
      simp -dsimp [c7]
      refine aw (c_delta_state x.To y1 h8) ?_
      rcases ai hm with ⟨c9, hm⟩ | ⟨c9, hm⟩
      ·simp -dsimp [c9]
       refine a6 ?_
       cases hm
       exact EE.here (by simp -dsimp [hf])
      ·rcases ai hm with ⟨c10, hm⟩ | ⟨c10, hm⟩
       ·simp -dsimp [c9, c10]
        refine a6 ?_
        cases hm
        exact EE.here (by simp -dsimp [hf])
       ·rcases ai hm with ⟨c11, hm⟩ | ⟨c11, hm⟩
        ·obtain ⟨x1, h12, hm⟩ := bnd hm
         obtain ⟨y2, h13, hm⟩ := bnd hm
         simp -dsimp [hf, c9, c10, c11, h12]
         refine aw (c_delta_order x1 x y2 h13) ?_
         simp -dsimp
         refine a6 ?_
         cases hm
         exact EE.here (by simp -dsimp [hf])
        ·simp -dsimp [c9, c10, c11]
         refine a6 ?_
         cases hm
         exact EE.here (by simp -dsimp [hf])
  ·clear j15
   simp only [Fits, ap, ar, and_true] at hf
   rcases ai hm with ⟨c14, hm⟩ | ⟨c14, hm⟩
   ·refine a8 (by simp -dsimp [hf]) c14 ?_
    refine srs hn ?_
    simp -dsimp
    refine ac (aK (ag ?_))
    cases hm
    refine aB nofun ?_
    unfold F_delta_Right_1
    dsimp only
    refine ⟨rfl, ?_⟩
    exact EE.here (by simp -dsimp [Tryz.results32])
   ·refine a7 (by simp -dsimp [hf]) c14 ?_
    refine ab ?_
    refine aV ?_
    refine a6 ?_
    refine sr1 hn ?_
    simp -dsimp [hf]
    cases hm
    refine aI ?_
    exact EE.here (by simp -dsimp [hf])
 ·refine a7 (by simp -dsimp) c2 ?_
  refine aC ?_
  refine ag ?_
  cases hm
  refine aB nofun ?_
  unfold F_delta_Right_1
  dsimp only
  refine ⟨rfl, ?_⟩
  exact EE.here (by simp -dsimp [c2])
set_option maxRecDepth 20000 in
theorem f_delta_Right (l : List Change) (r : Bool) (hm : bo l = some r) : PFn Tryz.prog 32 [.u (.one (.d (.sl 4 (List.map Change.row l))))] (fun v => v.wk (.u (.one (.d (.bool r))))) := by
 refine bv Tryz.func32 Tryz.ntmps32 rfl (by kernel_rfl) (by simp) fun cx hn => ?_
 unfold bo at hm
 refine srs hn ?_
 simp -dsimp
 refine ae ?_
 refine srs hn ?_
 simp -dsimp
 rcases ai hm with ⟨c1, hm⟩ | ⟨c1, hm⟩
 ·refine a8 (by simp -dsimp) c1 ?_
  refine srs hn ?_
  simp -dsimp [c1]
  refine ac (ag ?_)
  cases hm
  refine ⟨.inr rfl, ?_⟩
  exact EE.here (by simp -dsimp)
 ·refine a7 (by simp -dsimp) c1 ?_
  refine ab (a6 (ae ?_))
  refine srs hn ?_
  simp -dsimp [c1]
  refine ah ?_
  obtain ⟨o_, g16, hm⟩ := bnd hm
  refine bf (l_delta_Right_1 cx hn l g16) (by
    try dsimp only
    exact EE.here (by simp -dsimp)
  ) fun ee ρ σ x17 => ?_
  rcases o_ with r | _u
  ·unfold F_delta_Right_1 at x17
   dsimp only at x17
   obtain ⟨rfl, x17⟩ := x17
   refine aK (ag ?_)
   cases hm
   exact ⟨.inr rfl, x17⟩
  ·unfold F_delta_Right_1 at x17
   dsimp only at x17
   obtain ⟨rfl, x17⟩ := x17
   refine aD ?_
   refine a6 ?_
   refine bN (by rfl) (by rfl) x17 fun ρ σ hf => ?_
   simp only [Fits, ap, ar, and_true] at hf
   refine srs hn ?_
   simp -dsimp
   refine ac ?_
   cases hm
   refine ⟨.inr rfl, ?_⟩
   exact EE.here (by simp -dsimp)
theorem c_delta_Right (l : List Change) (r : Bool) (hm : bo l = some r) : PureCall Tryz.prog 32 [.u (.one (.d (.sl 4 (List.map Change.row l))))] (.u (.one (.d (.bool r)))) := (f_delta_Right l r hm).pureW
def F_delta_Apply_1 (cx : Cx) (_l : List Change) (tt : ((List Cell) × Int) ⊕ (List (Point × Int))) (ee : Exit) (ρ : Env) (σ : Sto) : Prop := match tt with
 | .inl r => ee = .ret ∧ EE cx (fun ρ σ => ∃ v, eH tb ρ σ Tryz.f9.results.toList = some v ∧ (v.frz σ).free = true ∧ (v.frz σ).wk (.tup [.one (.d (.sl 3 (List.map Cell.row r.1))), .one (.d (.int .i64 r.2))])) ρ σ
 | .inr states => ee = .exit 0 ∧ EE cx (b4 [(6, .u (.one (.map 5000)))] [(5000, mOb (.ints 2) Point.key (uL (L.int .i64)) states)]) ρ σ
theorem l_delta_Apply_1 (cx : Cx) (hn : cx.n = 67) (l : List Change) {fu : Nat} {stt : Int × (List (Point × Int))} {tt : ((List Cell) × Int) ⊕ (List (Point × Int))} (hh : am (cB l) fu stt = some tt) {ρ : Env} {σ : Sto}
  (hE : bT (fun stt : Int × (List (Point × Int)) => match stt with | (a1, _states) => [(6, .u (.one (.map 5000))), (22, .u (.one (.d (.sl 4 (List.map Change.row l))))), (23, .u (.one (.d (.int .i64 (ak l))))), (24, .u (.one (.d (.int .i64 a1))))]) (fun stt : Int × (List (Point × Int)) => match stt with | (_a1, states) => [(5000, mOb (.ints 2) Point.key (uL (L.int .i64)) states)]) stt ρ σ) : Swp Tryz.prog cx (.loop (d4 [1, 1, 1, 0, 1, 0, 0] (aZ Tryz.f9))) ρ σ (F_delta_Apply_1 cx l tt) := by
 refine cd hE hh (F_delta_Apply_1 cx l) ?_
 rintro ⟨a1, states⟩ r hm ρ σ hf
 simp only [Fits, ap, ar, and_true] at hf
 unfold cB at hm
 dsimp only at hm
 refine srs hn ?_
 simp -dsimp [hf]
 refine ae ?_
 rcases ai hm with ⟨c6, hm⟩ | ⟨c6, hm⟩
 ·refine a8 (by simp -dsimp) c6 ?_
  refine ab (a6 (ae (ah ?_)))
  refine srs hn ?_
  obtain ⟨x, h7, hm⟩ := bnd hm
  simp -dsimp [hf, c6, h7]
  refine ae ?_
  refine ek aW mixed (by rw [hn]; kernel_rfl) ?_
  obtain ⟨y1, h8, hm⟩ := bnd hm
  simp -dsimp [hf]
  refine aw (c_delta_at x y1 h8) ?_
  obtain ⟨u, h9, hm⟩ := bnd hm
  simp -dsimp [hf, aJ h9 (.head _), aJ h9 (.tail _ (.head _)), (@id (lkM (eo (mOb (.ints 2) Point.key (uL (L.int .i64)) states) (.ints [y1.X, y1.Y])) false (.one (.d (.int .i64 0))) = some (.u (.one (.d (.int .i64 (aL states y1 0)))))) (lk_val y1 0))]
  rcases ai hm with ⟨c10, hm⟩ | ⟨c10, hm⟩
  ·refine a8 (b := (neB (aL states y1 0) x.From)) (by simp -dsimp) c10 ?_
   refine srs hn ?_
   simp -dsimp [c10]
   refine ac (ag (aK (ag ?_)))
   cases hm
   refine aB nofun ?_
   unfold F_delta_Apply_1
   dsimp only
   refine ⟨rfl, ?_⟩
   exact EE.here (by simp -dsimp [Tryz.results9])
  ·refine a7 (b := (neB (aL states y1 0) x.From)) (by simp -dsimp) c10 ?_
   refine ab (a6 ?_)
   refine sw_drNs aW mixed 5 (by rw [hn]; kernel_rfl) ?_
   dsimp only [List.take, List.drop]
   simp -dsimp [hf, c10]
   refine aw (c_delta_at x y1 h8) ?_
   simp -dsimp [hf, aJ h9 (.head _), aJ h9 (.tail _ (.head _)), (@id (fB (mOb (.ints 2) Point.key (uL (L.int .i64)) states) (.ints [y1.X, y1.Y]) (.one (.d (.int .i64 x.To))) = mOb (.ints 2) Point.key (uL (L.int .i64)) (bD states y1 x.To)) (ff (.ints 2) Point.key (uL (L.int .i64)) states y1 x.To))]
   refine srs hn ?_
   simp -dsimp
   rcases ai hm with ⟨c11, hm⟩ | ⟨c11, hm⟩
   ·refine a8 (b := (eqB x.To 0)) (by simp -dsimp) c11 ?_
    refine sr1 hn ?_
    simp -dsimp [hf, c11]
    refine aa (c_delta_at x y1 h8) (dkL hn) ?_
    simp -dsimp [aJ h9 (.head _), aJ h9 (.tail _ (.head _)), (@id (mdelOb (mOb (.ints 2) Point.key (uL (L.int .i64)) (bD states y1 x.To)) (.ints [y1.X, y1.Y]) = mOb (.ints 2) Point.key (uL (L.int .i64)) (eE (bD states y1 x.To) y1)) (mdel_ob (.ints 2) Point.key (uL (L.int .i64)) (bD states y1 x.To) y1))]
    refine aV ?_
    refine a6 ?_
    refine sr1 hn ?_
    simp -dsimp [hf]
    cases hm
    refine aI ?_
    exact EE.here (by simp -dsimp [hf])
   ·refine a7 (b := (eqB x.To 0)) (by simp -dsimp) c11 ?_
    refine ab ?_
    refine aV ?_
    refine a6 ?_
    refine sr1 hn ?_
    simp -dsimp [hf, c11]
    cases hm
    refine aI ?_
    exact EE.here (by simp -dsimp [hf])
 ·refine a7 (by simp -dsimp) c6 ?_
  refine aC ?_
  refine ag ?_
  cases hm
  refine aB nofun ?_
  unfold F_delta_Apply_1
  dsimp only
  refine ⟨rfl, ?_⟩
  exact EE.here (by simp -dsimp [hf, c6])
def F_delta_Apply_2 (cx : Cx) (_states : List (Point × Int)) (out1 : List Cell) (ee : Exit) (ρ : Env) (σ : Sto) : Prop := ee = .exit 2 ∧ EE cx (b4 [(9, .u (.one (.own 5001)))] [(5001, .row 3 71 (List.map Cell.row out1))]) ρ σ
theorem l_delta_Apply_2 (cx : Cx) (hn : cx.n = 67) (states : List (Point × Int)) {ok : List (Cell) → Bool} {es : List (Point × Int)} {out tt : List Cell} (hh : colL 24 ok (cD states) es out = some tt) {ρ : Env} {σ : Sto}
  (hE : Fits [(9, .u (.one (.own 5001))), (48, .u (.one (.iter 48)))] ((fun (lf : List (Point × Int)) (la : Option (Point × Int)) (out : List Cell) => [(48, iOb 5000 Point.key (uL (L.int .i64)) lf la), (5000, mOb (.ints 2) Point.key (uL (L.int .i64)) states), (5001, .row 3 71 (List.map Cell.row out))]) es none out) ρ σ) : Swp Tryz.prog cx (.loop (d4 [1, 1, 1, 1, 1, 0, 1, 0, 0] (aZ Tryz.f9))) ρ σ (fun ee ρ σ => ∃ o, o.Perm tt ∧ F_delta_Apply_2 cx states o ee ρ σ) := by
 refine loop_colL hh [(9, .u (.one (.own 5001))), (48, .u (.one (.iter 48)))] (fun (lf : List (Point × Int)) (la : Option (Point × Int)) (out : List Cell) => [(48, iOb 5000 Point.key (uL (L.int .i64)) lf la), (5000, mOb (.ints 2) Point.key (uL (L.int .i64)) states), (5001, .row 3 71 (List.map Cell.row out))]) (F_delta_Apply_2 cx states) (by rfl) (fun _ _ _ => by rfl) (fZ states) (fun y o h => by
  unfold cD at h
  unfold fZ cD
  rw [appL_one (by decide) h]
  rfl) ?_ hE
 intro lf la out hB ρ σ hf
 simp only [Fits, ap, ar, and_true] at hf
 refine srs hn ?_
 simp -dsimp [hf]
 refine ⟨fun hl => ?_, fun i y1 hy => ?_⟩
 ·refine ae ?_
  refine a7 (b := false) (by simp -dsimp) rfl ?_
  refine aC ?_
  refine ag ?_
  refine rdc_out hl nofun ?_
  unfold F_delta_Apply_2
  refine ⟨rfl, ?_⟩
  exact EE.here (by simp -dsimp [hf])
 ·obtain ⟨o', hm⟩ := hB i y1 hy
  have hb2 := hm
  unfold fZ at hm
  refine ae ?_
  refine a8 (b := true) (by simp -dsimp [(@id ((Point.key y1.1).u = .agg [.d (.int .i64 y1.1.X), .d (.int .i64 y1.1.Y)]) rfl), (@id ((uL (L.int .i64)) y1.2 = .one (.d (.int .i64 y1.2))) rfl)]) rfl ?_
  refine ab (a6 (ah ?_))
  refine srs hn ?_
  simp -dsimp [hf, (@id ((Point.key y1.1).u = .agg [.d (.int .i64 y1.1.X), .d (.int .i64 y1.1.Y)]) rfl), (@id ((uL (L.int .i64)) y1.2 = .one (.d (.int .i64 y1.2))) rfl)]
  refine sr1 hn ?_
  obtain ⟨l1, h14, hm⟩ := bnd hm
  obtain ⟨h14a, h14e⟩ := aQ h14
  replace h14e := h14e.symm
  subst h14e
  try simp only [List.length_cons, List.length_nil, Nat.zero_add] at h14a
  simp -dsimp [hf, h14a]
  refine aV ?_
  cases hm
  refine rdc_next hy hb2 ?_
  refine EE.step (Wk.move 62 5001 (by decide) (.inl (by decide))) ?_
  exact EE.here (by simp -dsimp [hf])
theorem f_delta_Apply (p : List Cell) (l : List Change) (r : (List Cell) × Int) (hm : cQ p l = some r) : PFn Tryz.prog 9 [.u (.one (.d (.sl 3 (List.map Cell.row p)))), .u (.one (.d (.sl 4 (List.map Change.row l))))] (fun v => v.wk (.tup [.one (.d (.sl 3 (List.map Cell.row r.1))), .one (.d (.int .i64 r.2))])) := by
 refine bv Tryz.func9 Tryz.ntmps9 rfl (by kernel_rfl) (by simp) fun cx hn => ?_
 unfold cQ at hm
 refine srs hn ?_
 simp -dsimp
 refine ae ?_
 obtain ⟨a, j19, hm⟩ := bnd hm
 refine au [(0, .u (.one (.d (.sl 3 (List.map Cell.row p))))), (1, .u (.one (.d (.sl 4 (List.map Change.row l))))), (19, .u (.one (.d (.bool a))))] [] (by rfl) (by rfl) ?_ fun ρ σ hf => ?_
 ·replace hm := j19
  clear j19
  refine sr1 hn ?_
  obtain ⟨y, h1, hm⟩ := bnd hm
  simp -dsimp
  refine aa (c_pattern_Right p y h1) (dkL hn) ?_
  rcases ai hm with ⟨c2, hm⟩ | ⟨c2, hm⟩
  ·simp -dsimp [c2]
   refine a6 ?_
   cases hm
   exact EE.here (by simp -dsimp)
  ·obtain ⟨y1, h3, hm⟩ := bnd hm
   simp -dsimp [c2]
   refine aa (c_delta_Right l y1 h3) (dkL hn) ?_
   simp -dsimp
   refine a6 ?_
   cases hm
   exact EE.here (by simp -dsimp)
 ·clear j19
  simp only [Fits, ap, ar, and_true] at hf
  rcases ai hm with ⟨c4, hm⟩ | ⟨c4, hm⟩
  ·refine a8 (by simp -dsimp [hf]) c4 ?_
   refine srs hn ?_
   simp -dsimp
   refine ac (ag ?_)
   cases hm
   refine ⟨.inr rfl, ?_⟩
   exact EE.here (by simp -dsimp)
  ·refine a7 (by simp -dsimp [hf]) c4 ?_
   refine ab (a6 ?_)
   refine srs hn ?_
   obtain ⟨y, h5, hm⟩ := bnd hm
   simp -dsimp [hf]
   refine bA (g_delta_cells p y h5) [] [5000] rfl rfl rfl (by simp -dsimp) rfl (by simp -dsimp) (by first | rfl | simp) rfl (dkL hn) ?_
   simp -dsimp
   refine ae ?_
   refine srs hn ?_
   simp -dsimp [hf]
   refine ah ?_
   obtain ⟨o_, g12, hm⟩ := bnd hm
   refine bf (l_delta_Apply_1 cx hn l g12) (by
     try dsimp only
     exact EE.here (by simp -dsimp)
   ) fun ee ρ σ x13 => ?_
   rcases o_ with r | states
   ·unfold F_delta_Apply_1 at x13
    dsimp only at x13
    obtain ⟨rfl, x13⟩ := x13
    refine aK (ag ?_)
    cases hm
    exact ⟨.inr rfl, x13⟩
   ·unfold F_delta_Apply_1 at x13
    dsimp only at x13
    obtain ⟨rfl, x13⟩ := x13
    refine aD ?_
    refine a6 ?_
    refine bN (by rfl) (by rfl) x13 fun ρ σ hf => ?_
    simp only [Fits, ap, ar, and_true] at hf
    refine srs hn ?_
    simp -dsimp
    refine ae ?_
    refine srs hn ?_
    simp -dsimp [hf]
    refine ah ?_
    obtain ⟨out1q, g15, hm⟩ := bnd hm
    refine sw_ent [(9, .u (.one (.own 5001))), (48, .u (.one (.iter 48)))] [(48, iOb 5000 Point.key (uL (L.int .i64)) states none), (5000, mOb (.ints 2) Point.key (uL (L.int .i64)) states), (5001, .row 3 71 (List.map Cell.row []))] (by rfl) (by rfl) (by
      refine EE.step (Wk.own0 9 5001 3 71 (by simp -dsimp) (by decide)) ?_
      exact EE.here (by simp -dsimp [hf])
    ) fun ρ σ hf => ?_
    refine (l_delta_Apply_2 cx hn states g15 hf).mono fun ee ρ σ x16 => ?_
    obtain ⟨out1, p17, x16⟩ := x16
    rw [show ba out1q = ba out1 from from_perm (colL_some g15).2.1 p17] at hm
    unfold F_delta_Apply_2 at x16
    obtain ⟨rfl, x16⟩ := x16
    refine aD ?_
    refine a6 ?_
    refine bN (by rfl) (by rfl) x16 fun ρ σ hf => ?_
    simp only [Fits, ap, ar, and_true] at hf
    refine Swp.pre (Wk.frz 5001 3 71 (List.map Cell.row out1) (by simp -dsimp [hf])) ?_
    refine srs hn ?_
    obtain ⟨y1, h18, hm⟩ := bnd hm
    simp -dsimp [hf]
    refine aa (c_pattern_From out1 y1 h18) (dkL hn) ?_
    simp -dsimp
    refine ac ?_
    cases hm
    refine ⟨.inr rfl, ?_⟩
    exact EE.here (by simp -dsimp)
theorem c_delta_Apply (p : List Cell) (l : List Change) (r : (List Cell) × Int) (hm : cQ p l = some r) : PureCall Tryz.prog 9 [.u (.one (.d (.sl 3 (List.map Cell.row p)))), .u (.one (.d (.sl 4 (List.map Change.row l))))] (.tup [.one (.d (.sl 3 (List.map Cell.row r.1))), .one (.d (.int .i64 r.2))]) := (f_delta_Apply p l r hm).pureW
def F_delta_changes_1 (cx : Cx) (_l : List Change) (tt : (List (Point × Change))) (ee : Exit) (ρ : Env) (σ : Sto) : Prop := match tt with
 | m => ee = .exit 0 ∧ EE cx (b4 [(3, .u (.one (.map 8)))] [(8, mOb (.ints 2) Point.key (uA Change.row) m)]) ρ σ
theorem l_delta_changes_1 (cx : Cx) (hn : cx.n = 21) (_hk : cx.k = 0) (l : List Change) {fu : Nat} {stt : Int × (List (Point × Change))} {tt : (List (Point × Change))} (hh : am (fg l) fu stt = some tt) {ρ : Env} {σ : Sto}
  (hE : bT (fun stt : Int × (List (Point × Change)) => match stt with | (a, _m) => [(3, .u (.one (.map 8))), (9, .u (.one (.d (.sl 4 (List.map Change.row l))))), (10, .u (.one (.d (.int .i64 (ak l))))), (11, .u (.one (.d (.int .i64 a))))]) (fun stt : Int × (List (Point × Change)) => match stt with | (_a, m) => [(8, mOb (.ints 2) Point.key (uA Change.row) m)]) stt ρ σ) : Swp Tryz.prog cx (.loop (d4 [1, 1, 0, 1, 0, 0] (aZ Tryz.f88))) ρ σ (F_delta_changes_1 cx l tt) := by
 refine cd hE hh (F_delta_changes_1 cx l) ?_
 rintro ⟨a, m⟩ r hm ρ σ hf
 simp only [Fits, ap, ar, and_true] at hf
 unfold fg at hm
 dsimp only at hm
 refine srs hn ?_
 simp -dsimp [hf]
 refine ae ?_
 rcases ai hm with ⟨c1, hm⟩ | ⟨c1, hm⟩
 ·refine a8 (by simp -dsimp) c1 ?_
  refine ab (a6 (ae (ah ?_)))
  refine srs hn ?_
  obtain ⟨x, h2, hm⟩ := bnd hm
  simp -dsimp [hf, c1, h2]
  refine sw_drN aW mixed 4 (by rw [hn]; kernel_rfl) ?_
  dsimp only [List.take, List.drop]
  obtain ⟨y, h3, hm⟩ := bnd hm
  simp -dsimp [hf]
  refine aw (c_delta_at x y h3) ?_
  obtain ⟨u, h4, hm⟩ := bnd hm
  simp -dsimp [hf, aJ h4 (.head _), aJ h4 (.tail _ (.head _)), (@id (fB (mOb (.ints 2) Point.key (uA Change.row) m) (.ints [y.X, y.Y]) (.agg [.d (.int .i64 x.X), .d (.int .i64 x.Y), .d (.int .i64 x.From), .d (.int .i64 x.To)]) = mOb (.ints 2) Point.key (uA Change.row) (bD m y x)) (ff (.ints 2) Point.key (uA Change.row) m y x))]
  refine aV ?_
  refine a6 ?_
  refine sr1 hn ?_
  simp -dsimp [hf]
  cases hm
  refine aI ?_
  exact EE.here (by simp -dsimp [hf])
 ·refine a7 (by simp -dsimp) c1 ?_
  refine aC ?_
  refine ag ?_
  cases hm
  refine aB nofun ?_
  unfold F_delta_changes_1
  dsimp only
  refine ⟨rfl, ?_⟩
  exact EE.here (by simp -dsimp [hf, c1])
theorem g_delta_changes (l : List Change) (r : List (Point × Change)) (hm : eP l = some r) : GFn Tryz.prog 88 [.u (.one (.d (.sl 4 (List.map Change.row l))))] [] (.u (.one (.map 1000000))) [some (mOb (.ints 2) Point.key (uA Change.row) r)] := by
 refine cg aW _ Tryz.func88 rfl (by kernel_rfl) (by simp [Tryz.ntmps88]) (by simp) (by first | rfl | simp) (by first | rfl | simp) fun cx hn hk => ?_
 replace hn : cx.n = 21 := hn.trans Tryz.ntmps88
 replace hk : cx.k = 0 := hk
 unfold eP at hm
 refine srs hn ?_
 simp -dsimp
 refine srs hn ?_
 simp -dsimp [(@id (Ob.map (.ints 2) [] = mOb (.ints 2) Point.key (uA Change.row) ([] : List (Point × Change))) (gJ (.ints 2) Point.key (uA Change.row)))]
 refine ae ?_
 refine srs hn ?_
 simp -dsimp
 refine ah ?_
 obtain ⟨m, g5, hm⟩ := bnd hm
 refine bf (l_delta_changes_1 cx hn hk l g5) (by
   try dsimp only
   exact EE.here (by simp -dsimp)
 ) fun ee ρ σ x6 => ?_
 unfold F_delta_changes_1 at x6
 dsimp only at x6
 obtain ⟨rfl, x6⟩ := x6
 refine aD ?_
 refine a6 ?_
 refine bN (by rfl) (by rfl) x6 fun ρ σ hf => ?_
 simp only [Fits, ap, ar, and_true] at hf
 refine srs hn ?_
 simp -dsimp [hf]
 refine ac ?_
 cases hm
 refine ⟨.inr rfl, ?_⟩
 refine EE.step (Wk.move 8 1000000 (by decide) (.inr (by rw [hk]; decide))) ?_
 exact EE.here (by simp -dsimp [hf])
def F_delta_collected_o_o_1 (cx : Cx) (left : List (Point × Change)) (out2 : List Change) (ee : Exit) (ρ : Env) (σ : Sto) : Prop := ee = .exit 0 ∧ EE cx (b4 [(0, .u (.one (.own 5000)))] [(5000, .row 4 74 (List.map Change.row out2)), (1000001, mOb (.ints 2) Point.key (uA Change.row) left)]) ρ σ
theorem l_delta_collected_o_o_1 (cx : Cx) (hn : cx.n = 24) (_hk : cx.k = 2) (left : List (Point × Change)) {ok : List (Change) → Bool} {es : List (Point × Change)} {out tt : List Change} (hh : colL 32 ok (cA left) es out = some tt) {ρ : Env} {σ : Sto}
  (hE : Fits [(0, .u (.one (.own 5000))), (9, .u (.one (.iter 9)))] ((fun (lf : List (Point × Change)) (la : Option (Point × Change)) (out1 : List Change) => [(9, iOb 1000001 Point.key (uA Change.row) lf la), (5000, .row 4 74 (List.map Change.row out1)), (1000001, mOb (.ints 2) Point.key (uA Change.row) left)]) es none out) ρ σ) : Swp Tryz.prog cx (.loop (d4 [1, 0, 1, 0, 0] (aZ Tryz.f89))) ρ σ (fun ee ρ σ => ∃ o, o.Perm tt ∧ F_delta_collected_o_o_1 cx left o ee ρ σ) := by
 refine loop_colL hh [(0, .u (.one (.own 5000))), (9, .u (.one (.iter 9)))] (fun (lf : List (Point × Change)) (la : Option (Point × Change)) (out1 : List Change) => [(9, iOb 1000001 Point.key (uA Change.row) lf la), (5000, .row 4 74 (List.map Change.row out1)), (1000001, mOb (.ints 2) Point.key (uA Change.row) left)]) (F_delta_collected_o_o_1 cx left) (by rfl) (fun _ _ _ => by rfl) (dy left) (fun y o h => by
  unfold cA at h
  unfold dy cA
  rw [appL_one (by decide) h]
  rfl) ?_ hE
 intro lf la out1 hB ρ σ hf
 simp only [Fits, ap, ar, and_true] at hf
 refine srs hn ?_
 simp -dsimp [hf]
 refine ⟨fun hl => ?_, fun i y hy => ?_⟩
 ·refine ae ?_
  refine a7 (b := false) (by simp -dsimp) rfl ?_
  refine aC ?_
  refine ag ?_
  refine rdc_out hl nofun ?_
  unfold F_delta_collected_o_o_1
  refine ⟨rfl, ?_⟩
  exact EE.here (by simp -dsimp [hf])
 ·obtain ⟨o', hm⟩ := hB i y hy
  have hb2 := hm
  unfold dy at hm
  refine ae ?_
  refine a8 (b := true) (by simp -dsimp [(@id ((Point.key y.1).u = .agg [.d (.int .i64 y.1.X), .d (.int .i64 y.1.Y)]) rfl), (@id ((uA Change.row) y.2 = .agg [.d (.int .i64 y.2.X), .d (.int .i64 y.2.Y), .d (.int .i64 y.2.From), .d (.int .i64 y.2.To)]) rfl)]) rfl ?_
  refine ab (a6 (ah ?_))
  refine srs hn ?_
  simp -dsimp [hf, (@id ((Point.key y.1).u = .agg [.d (.int .i64 y.1.X), .d (.int .i64 y.1.Y)]) rfl), (@id ((uA Change.row) y.2 = .agg [.d (.int .i64 y.2.X), .d (.int .i64 y.2.Y), .d (.int .i64 y.2.From), .d (.int .i64 y.2.To)]) rfl)]
  refine sr1 hn ?_
  obtain ⟨l, h1, hm⟩ := bnd hm
  obtain ⟨h1a, h1e⟩ := aQ h1
  replace h1e := h1e.symm
  subst h1e
  try simp only [List.length_cons, List.length_nil, Nat.zero_add] at h1a
  simp -dsimp [hf, h1a]
  refine aV ?_
  cases hm
  refine rdc_next hy hb2 ?_
  refine EE.step (Wk.move 17 5000 (by decide) (.inl (by decide))) ?_
  exact EE.here (by simp -dsimp [hf])
theorem g_delta_collected_o_o (out : List Change) (left : List (Point × Change)) (r : (List Change) × Int) (hm : cZ out left = some r) : GFn Tryz.prog 89 [.u (.one (.own 1000000)), .u (.one (.map 1000001))] [.row 4 74 (List.map Change.row out), mOb (.ints 2) Point.key (uA Change.row) left] (.tup [.one (.d (.sl 4 (List.map Change.row r.1))), .one (.d (.int .i64 r.2))]) [none, some (mOb (.ints 2) Point.key (uA Change.row) left)] := by
 refine cg aW _ Tryz.func89 rfl (by kernel_rfl) (by simp [Tryz.ntmps89]) (by simp) (by first | rfl | simp) (by first | rfl | simp) fun cx hn hk => ?_
 replace hn : cx.n = 24 := hn.trans Tryz.ntmps89
 replace hk : cx.k = 2 := hk
 unfold cZ at hm
 refine srs hn ?_
 simp -dsimp
 refine ae ?_
 refine srs hn ?_
 simp -dsimp
 refine ah ?_
 obtain ⟨out2q, g2, hm⟩ := bnd hm
 refine sw_ent [(0, .u (.one (.own 5000))), (9, .u (.one (.iter 9)))] [(9, iOb 1000001 Point.key (uA Change.row) left none), (5000, .row 4 74 (List.map Change.row out)), (1000001, mOb (.ints 2) Point.key (uA Change.row) left)] (by rfl) (by rfl) (by
   refine EE.step (Wk.move 1000000 5000 (by decide) (.inl (by decide))) ?_
   exact EE.here (by simp -dsimp)
 ) fun ρ σ hf => ?_
 refine (l_delta_collected_o_o_1 cx hn hk left g2 hf).mono fun ee ρ σ x3 => ?_
 obtain ⟨out2, p4, x3⟩ := x3
 rw [show ak out2q = ak out2 from congrArg Int.ofNat p4.symm.length_eq] at hm
 rw [show aj out2q = aj out2 from sortM_perm swo_delta_order p4.symm] at hm
 unfold F_delta_collected_o_o_1 at x3
 obtain ⟨rfl, x3⟩ := x3
 refine aD ?_
 refine a6 ?_
 refine bN (by rfl) (by rfl) x3 fun ρ σ hf => ?_
 simp only [Fits, ap, ar, and_true] at hf
 refine ae ?_
 refine srs hn ?_
 simp -dsimp [hf]
 rcases ai hm with ⟨c5, hm⟩ | ⟨c5, hm⟩
 ·refine a8 (by simp -dsimp) c5 ?_
  refine srs hn ?_
  simp -dsimp [c5]
  refine ac (ag ?_)
  cases hm
  refine ⟨.inr rfl, ?_⟩
  exact EE.here (by simp -dsimp [hf])
 ·refine a7 (by simp -dsimp) c5 ?_
  refine ab (a6 ?_)
  refine srs hn ?_
  obtain ⟨y, h6, hm⟩ := bnd hm
  simp -dsimp [hf, c5]
  refine bA (g_slices_SortFunc_api_Change_api_Change_o_delta_order out2 y h6) [5000] [] rfl rfl rfl (by simp -dsimp) rfl (by simp -dsimp [hf]) (by first | rfl | simp) rfl (dkL hn) ?_
  simp -dsimp
  refine srs hn ?_
  simp -dsimp [hf]
  refine ac ?_
  cases hm
  refine ⟨.inr rfl, ?_⟩
  exact EE.here (by simp -dsimp [hf])
end Go.Proofs.YtogdjcdmbodmiaaGreatDoor
