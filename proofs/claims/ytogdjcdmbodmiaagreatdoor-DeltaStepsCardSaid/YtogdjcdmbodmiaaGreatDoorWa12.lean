/- That the code does what the functions say (made by cc.py). -/
import Derived.Test.YtogdjcdmbodmiaaGreatDoorWa11
namespace Go.Proofs.YtogdjcdmbodmiaaGreatDoor
open Go.AM Go.Proofs
attribute [-simp] qlookup cJ cG Ob.wipe Ob.ren Ob.frz1 bX dz dJ fw Prod.forall Key.u
def F_delta_Then_1 (cx : Cx) (_b : List Change) (tt : ((List Change) × Int) ⊕ ((List (Point × Change)) × (List Change))) (ee : Exit) (ρ : Env) (σ : Sto) : Prop := match tt with
 | .inl r => ee = .ret ∧ EE cx (fun ρ σ => ∃ v, eH tb ρ σ Tryz.f29.results.toList = some v ∧ (v.frz σ).free = true ∧ (v.frz σ).wk (.tup [.one (.d (.sl 4 (List.map Change.row r.1))), .one (.d (.int .i64 r.2))])) ρ σ
 | .inr (left, out) => ee = .exit 0 ∧ EE cx (b4 [(6, .u (.one (.map 5000))), (7, .u (.one (.own 5001)))] [(5000, mOb (.ints 2) Point.key (uA Change.row) left), (5001, .row 4 74 (List.map Change.row out))]) ρ σ
theorem l_delta_Then_1 (cx : Cx) (hn : cx.n = 62) (b : List Change) {fu : Nat} {stt : Int × (List (Point × Change)) × (List Change)} {tt : ((List Change) × Int) ⊕ ((List (Point × Change)) × (List Change))} (hh : am (gu b) fu stt = some tt) {ρ : Env} {σ : Sto}
  (hE : bT (fun stt : Int × (List (Point × Change)) × (List Change) => match stt with | (a2, _left, _out) => [(6, .u (.one (.map 5000))), (7, .u (.one (.own 5001))), (22, .u (.one (.d (.sl 4 (List.map Change.row b))))), (23, .u (.one (.d (.int .i64 (ak b))))), (24, .u (.one (.d (.int .i64 a2))))]) (fun stt : Int × (List (Point × Change)) × (List Change) => match stt with | (_a2, left, out) => [(5000, mOb (.ints 2) Point.key (uA Change.row) left), (5001, .row 4 74 (List.map Change.row out))]) stt ρ σ) : Swp Tryz.prog cx (.loop (d4 [1, 1, 1, 1, 0, 1, 0, 0] (aZ Tryz.f29))) ρ σ (F_delta_Then_1 cx b tt) := by
 refine cd hE hh (F_delta_Then_1 cx b) ?_
 rintro ⟨a2, left, out⟩ r hm ρ σ hf
 simp only [Fits, ap, ar, and_true] at hf
 unfold gu at hm
 dsimp only at hm
 refine srs hn ?_
 simp -dsimp [hf]
 refine ae ?_
 rcases ai hm with ⟨c6, hm⟩ | ⟨c6, hm⟩
 ·refine a8 (by simp -dsimp) c6 ?_
  refine ab (a6 (ae (ah ?_)))
  refine srs hn ?_
  obtain ⟨x, h7, hm⟩ := bnd hm
  simp -dsimp [hf, c6, h7]
  refine ae ?_
  refine srs hn ?_
  obtain ⟨y1, h8, hm⟩ := bnd hm
  simp -dsimp [hf]
  refine aa (c_delta_at x y1 h8) (dkL hn) ?_
  obtain ⟨u, h9, hm⟩ := bnd hm
  simp -dsimp [hf, aJ h9 (.head _), aJ h9 (.tail _ (.head _)), (@id (lkM (eo (mOb (.ints 2) Point.key (uA Change.row) left) (.ints [y1.X, y1.Y])) true (.agg [.d (.int .i64 0), .d (.int .i64 0), .d (.int .i64 0), .d (.int .i64 0)]) = some (.tup [.agg [.d (.int .i64 ((aL left y1 (⟨0, 0, 0, 0⟩ : Change)).X)), .d (.int .i64 ((aL left y1 (⟨0, 0, 0, 0⟩ : Change)).Y)), .d (.int .i64 ((aL left y1 (⟨0, 0, 0, 0⟩ : Change)).From)), .d (.int .i64 ((aL left y1 (⟨0, 0, 0, 0⟩ : Change)).To))], .one (.d (.bool (cO left y1)))])) (lk_two y1 (⟨0, 0, 0, 0⟩ : Change)))]
  refine srs hn ?_
  simp -dsimp
  rcases ai hm with ⟨c10, hm⟩ | ⟨c10, hm⟩
  ·refine a8 (b := (cO left y1)) (by simp -dsimp) c10 ?_
   refine ae ?_
   refine srs hn ?_
   simp -dsimp [c10]
   rcases ai hm with ⟨c11, hm⟩ | ⟨c11, hm⟩
   ·refine a8 (b := (neB ((aL left y1 (⟨0, 0, 0, 0⟩ : Change)).To) x.From)) (by simp -dsimp) c11 ?_
    refine srs hn ?_
    simp -dsimp [c11]
    refine ac (ag (ag (aK (ag ?_))))
    cases hm
    refine aB nofun ?_
    unfold F_delta_Then_1
    dsimp only
    refine ⟨rfl, ?_⟩
    exact EE.here (by simp -dsimp [Tryz.results29])
   ·refine a7 (b := (neB ((aL left y1 (⟨0, 0, 0, 0⟩ : Change)).To) x.From)) (by simp -dsimp) c11 ?_
    refine ab (a6 ?_)
    refine srs hn ?_
    simp -dsimp [hf, c11]
    refine aa (c_delta_at x y1 h8) (dkL hn) ?_
    simp -dsimp [hf, aJ h9 (.head _), aJ h9 (.tail _ (.head _)), (@id (mdelOb (mOb (.ints 2) Point.key (uA Change.row) left) (.ints [y1.X, y1.Y]) = mOb (.ints 2) Point.key (uA Change.row) (eE left y1)) (mdel_ob (.ints 2) Point.key (uA Change.row) left y1))]
    refine sr1 hn ?_
    simp -dsimp
    refine a6 ?_
    refine srs hn ?_
    simp -dsimp
    rcases ai hm with ⟨c12, hm⟩ | ⟨c12, hm⟩
    ·refine a8 (b := (neB ((aL left y1 (⟨0, 0, 0, 0⟩ : Change)).From) x.To)) (by simp -dsimp) c12 ?_
     refine sr1 hn ?_
     obtain ⟨l, h13, hm⟩ := bnd hm
     obtain ⟨h13a, h13e⟩ := aQ h13
     replace h13e := h13e.symm
     subst h13e
     try simp only [List.length_cons, List.length_nil, Nat.zero_add] at h13a
     simp -dsimp [hf, c12, h13a]
     refine aV ?_
     refine a6 ?_
     refine sr1 hn ?_
     simp -dsimp [hf]
     cases hm
     refine aI ?_
     refine EE.step (Wk.move 55 5001 (by decide) (.inl (by decide))) ?_
     exact EE.here (by simp -dsimp [hf])
    ·refine a7 (b := (neB ((aL left y1 (⟨0, 0, 0, 0⟩ : Change)).From) x.To)) (by simp -dsimp) c12 ?_
     refine ab ?_
     refine aV ?_
     refine a6 ?_
     refine sr1 hn ?_
     simp -dsimp [hf, c12]
     cases hm
     refine aI ?_
     exact EE.here (by simp -dsimp [hf])
  ·refine a7 (b := (cO left y1)) (by simp -dsimp) c10 ?_
   refine ab (a6 ?_)
   refine srs hn ?_
   simp -dsimp [c10]
   rcases ai hm with ⟨c14, hm⟩ | ⟨c14, hm⟩
   ·refine a8 (b := (neB x.From x.To)) (by simp -dsimp) c14 ?_
    refine sr1 hn ?_
    obtain ⟨l, h15, hm⟩ := bnd hm
    obtain ⟨h15a, h15e⟩ := aQ h15
    replace h15e := h15e.symm
    subst h15e
    try simp only [List.length_cons, List.length_nil, Nat.zero_add] at h15a
    simp -dsimp [hf, c14, h15a]
    refine aV ?_
    refine a6 ?_
    refine sr1 hn ?_
    simp -dsimp [hf]
    cases hm
    refine aI ?_
    refine EE.step (Wk.move 55 5001 (by decide) (.inl (by decide))) ?_
    exact EE.here (by simp -dsimp [hf])
   ·refine a7 (b := (neB x.From x.To)) (by simp -dsimp) c14 ?_
    refine ab ?_
    refine aV ?_
    refine a6 ?_
    refine sr1 hn ?_
    simp -dsimp [hf, c14]
    cases hm
    refine aI ?_
    exact EE.here (by simp -dsimp [hf])
 ·refine a7 (by simp -dsimp) c6 ?_
  refine aC ?_
  refine ag ?_
  cases hm
  refine aB nofun ?_
  unfold F_delta_Then_1
  dsimp only
  refine ⟨rfl, ?_⟩
  exact EE.here (by simp -dsimp [hf, c6])
theorem f_delta_Then (a : List Change) (b : List Change) (r : (List Change) × Int) (hm : fh a b = some r) : PFn Tryz.prog 29 [.u (.one (.d (.sl 4 (List.map Change.row a)))), .u (.one (.d (.sl 4 (List.map Change.row b))))] (fun v => v.wk (.tup [.one (.d (.sl 4 (List.map Change.row r.1))), .one (.d (.int .i64 r.2))])) := by
 refine bv Tryz.func29 Tryz.ntmps29 rfl (by kernel_rfl) (by simp) fun cx hn => ?_
 unfold fh at hm
 refine srs hn ?_
 simp -dsimp
 refine ae ?_
 obtain ⟨a1, j19, hm⟩ := bnd hm
 refine au [(0, .u (.one (.d (.sl 4 (List.map Change.row a))))), (1, .u (.one (.d (.sl 4 (List.map Change.row b))))), (19, .u (.one (.d (.bool a1))))] [] (by rfl) (by rfl) ?_ fun ρ σ hf => ?_
 ·replace hm := j19
  clear j19
  refine sr1 hn ?_
  obtain ⟨y, h1, hm⟩ := bnd hm
  simp -dsimp
  refine aa (c_delta_Right a y h1) (dkL hn) ?_
  rcases ai hm with ⟨c2, hm⟩ | ⟨c2, hm⟩
  ·simp -dsimp [c2]
   refine a6 ?_
   cases hm
   exact EE.here (by simp -dsimp)
  ·obtain ⟨y1, h3, hm⟩ := bnd hm
   simp -dsimp [c2]
   refine aa (c_delta_Right b y1 h3) (dkL hn) ?_
   simp -dsimp
   refine a6 ?_
   cases hm
   exact EE.here (by simp -dsimp)
 ·clear j19
  simp only [Fits, ap, ar, and_true] at hf
  rcases ai hm with ⟨c4, hm⟩ | ⟨c4, hm⟩
  ·refine a8 (by simp -dsimp [hf]) c4 ?_
   refine srs hn ?_
   simp -dsimp
   refine ac (ag ?_)
   cases hm
   refine ⟨.inr rfl, ?_⟩
   exact EE.here (by simp -dsimp)
  ·refine a7 (by simp -dsimp [hf]) c4 ?_
   refine ab (a6 ?_)
   refine srs hn ?_
   obtain ⟨y, h5, hm⟩ := bnd hm
   simp -dsimp [hf]
   refine bA (g_delta_changes a y h5) [] [5000] rfl rfl rfl (by simp -dsimp) rfl (by simp -dsimp) (by first | rfl | simp) rfl (dkL hn) ?_
   simp -dsimp
   refine srs hn ?_
   simp -dsimp
   refine ae ?_
   refine srs hn ?_
   simp -dsimp [hf]
   refine ah ?_
   obtain ⟨o_, g16, hm⟩ := bnd hm
   refine bf (l_delta_Then_1 cx hn b g16) (by
     try dsimp only
     refine EE.step (Wk.own0 7 5001 4 74 (by simp -dsimp) (by decide)) ?_
     exact EE.here (by simp -dsimp)
   ) fun ee ρ σ x17 => ?_
   rcases o_ with r | ⟨left, out⟩
   ·unfold F_delta_Then_1 at x17
    dsimp only at x17
    obtain ⟨rfl, x17⟩ := x17
    refine aK (ag ?_)
    cases hm
    exact ⟨.inr rfl, x17⟩
   ·unfold F_delta_Then_1 at x17
    dsimp only at x17
    obtain ⟨rfl, x17⟩ := x17
    refine aD ?_
    refine a6 ?_
    refine bN (by rfl) (by rfl) x17 fun ρ σ hf => ?_
    simp only [Fits, ap, ar, and_true] at hf
    refine srs hn ?_
    obtain ⟨y1, h18, hm⟩ := bnd hm
    simp -dsimp [hf]
    refine bA (g_delta_collected_o_o out left y1 h18) [5001, 5000] [] rfl rfl rfl (by simp -dsimp) rfl (by simp -dsimp [hf]) (by first | rfl | simp) rfl (dkL hn) ?_
    simp -dsimp
    refine ac ?_
    cases hm
    refine ⟨.inr rfl, ?_⟩
    exact EE.here (by simp -dsimp)
theorem c_delta_Then (a : List Change) (b : List Change) (r : (List Change) × Int) (hm : fh a b = some r) : PureCall Tryz.prog 29 [.u (.one (.d (.sl 4 (List.map Change.row a)))), .u (.one (.d (.sl 4 (List.map Change.row b))))] (.tup [.one (.d (.sl 4 (List.map Change.row r.1))), .one (.d (.int .i64 r.2))]) := (f_delta_Then a b r hm).pureW
theorem n_slices_Clone_api_Change_api_Change (l : List Change) (r : List Change) (hm : bH l = some r) : NewFn Tryz.prog 90 [.u (.one (.d (.sl 4 (List.map Change.row l))))] (fun o => o = .row 4 74 (List.map Change.row r)) := by
 refine new_S aW _ Tryz.func90 rfl (by kernel_rfl) (by simp [Tryz.ntmps90]) fun cx hn => ?_
 replace hn : cx.n = 8 := hn.trans Tryz.ntmps90
 have ha := (aQ hm).1
 have hr : r = l := (aQ hm).2
 clear hm
 subst hr
 simp only [List.length_nil, Nat.zero_add] at ha
 refine srs hn ?_
 simp -dsimp
 refine ae ?_
 refine srs hn ?_
 cases r with
 | nil =>
  simp -dsimp
  refine ⟨?_, ?_⟩
  ·refine a8 (b := true) (by simp -dsimp) rfl ?_
   refine srs hn ?_
   simp -dsimp
   refine ac (ag ?_)
   refine ⟨.inr rfl, ?_⟩; simp -dsimp
  ·refine a7 (b := false) (by simp -dsimp) rfl ?_
   refine ab (a6 ?_)
   refine srs hn ?_
   simp -dsimp
   refine ac ?_
   refine ⟨.inr rfl, ?_⟩; simp -dsimp
 | cons x xs =>
  simp -dsimp
  refine a7 (b := false) (by simp -dsimp) rfl ?_
  refine ab (a6 ?_)
  refine srs hn ?_
  simp only [List.length_cons] at ha
  simp -dsimp [ha]
  refine ac ?_
  refine ⟨.inr rfl, ?_⟩; simp -dsimp
def F_delta_Merge_1 (cx : Cx) (b : List Change) (tt : ((List Change) × Point × Int) ⊕ (List (Point × Change))) (ee : Exit) (ρ : Env) (σ : Sto) : Prop := match tt with
 | .inl r => ee = .ret ∧ EE cx (fun ρ σ => ∃ v, eH tb ρ σ Tryz.f30.results.toList = some v ∧ (v.frz σ).free = true ∧ (v.frz σ).wk (.tup [.one (.d (.sl 4 (List.map Change.row r.1))), .agg [.d (.int .i64 r.2.1.X), .d (.int .i64 r.2.1.Y)], .one (.d (.int .i64 r.2.2))])) ρ σ
 | .inr left => ee = .exit 0 ∧ EE cx (b4 [(1, .u (.one (.d (.sl 4 (List.map Change.row b))))), (5, .u (.one (.box 5 0))), (7, .u (.one (.map 5000)))] [(5, .box [.d (.int .i64 0), .d (.int .i64 0)]), (5000, mOb (.ints 2) Point.key (uA Change.row) left)]) ρ σ
theorem l_delta_Merge_1 (cx : Cx) (hn : cx.n = 60) (b : List Change) {fu : Nat} {stt : Int × (List (Point × Change))} {tt : ((List Change) × Point × Int) ⊕ (List (Point × Change))} (hh : am (fY b) fu stt = some tt) {ρ : Env} {σ : Sto}
  (hE : bT (fun stt : Int × (List (Point × Change)) => match stt with | (a2, _left) => [(1, .u (.one (.d (.sl 4 (List.map Change.row b))))), (5, .u (.one (.box 5 0))), (7, .u (.one (.map 5000))), (25, .u (.one (.d (.sl 4 (List.map Change.row b))))), (26, .u (.one (.d (.int .i64 (ak b))))), (27, .u (.one (.d (.int .i64 a2))))]) (fun stt : Int × (List (Point × Change)) => match stt with | (_a2, left) => [(5, .box [.d (.int .i64 0), .d (.int .i64 0)]), (5000, mOb (.ints 2) Point.key (uA Change.row) left)]) stt ρ σ) : Swp Tryz.prog cx (.loop (d4 [1, 1, 1, 0, 1, 0, 0] (aZ Tryz.f30))) ρ σ (F_delta_Merge_1 cx b tt) := by
 refine cd hE hh (F_delta_Merge_1 cx b) ?_
 rintro ⟨a2, left⟩ r hm ρ σ hf
 simp only [Fits, ap, ar, and_true] at hf
 unfold fY at hm
 dsimp only at hm
 refine srs hn ?_
 simp -dsimp [hf]
 refine ae ?_
 rcases ai hm with ⟨c6, hm⟩ | ⟨c6, hm⟩
 ·refine a8 (by simp -dsimp) c6 ?_
  refine ab (a6 (ae (ah ?_)))
  refine srs hn ?_
  obtain ⟨x, h7, hm⟩ := bnd hm
  simp -dsimp [hf, c6, h7]
  refine ae ?_
  refine srs hn ?_
  obtain ⟨y1, h8, hm⟩ := bnd hm
  simp -dsimp [hf]
  refine aa (c_delta_at x y1 h8) (dkL hn) ?_
  obtain ⟨u, h9, hm⟩ := bnd hm
  simp -dsimp [hf, aJ h9 (.head _), aJ h9 (.tail _ (.head _)), (@id (lkM (eo (mOb (.ints 2) Point.key (uA Change.row) left) (.ints [y1.X, y1.Y])) true (.agg [.d (.int .i64 0), .d (.int .i64 0), .d (.int .i64 0), .d (.int .i64 0)]) = some (.tup [.agg [.d (.int .i64 ((aL left y1 (⟨0, 0, 0, 0⟩ : Change)).X)), .d (.int .i64 ((aL left y1 (⟨0, 0, 0, 0⟩ : Change)).Y)), .d (.int .i64 ((aL left y1 (⟨0, 0, 0, 0⟩ : Change)).From)), .d (.int .i64 ((aL left y1 (⟨0, 0, 0, 0⟩ : Change)).To))], .one (.d (.bool (cO left y1)))])) (lk_two y1 (⟨0, 0, 0, 0⟩ : Change)))]
  obtain ⟨a3, j12, hm⟩ := bnd hm
  refine au [(1, .u (.one (.d (.sl 4 (List.map Change.row b))))), (5, .u (.one (.box 5 0))), (7, .u (.one (.map 5000))), (9, .u (.one (.box 9 0))), (25, .u (.one (.d (.sl 4 (List.map Change.row b))))), (26, .u (.one (.d (.int .i64 (ak b))))), (27, .u (.one (.d (.int .i64 a2)))), (43, .u (.one (.d (.bool a3))))] [(5, .box [.d (.int .i64 0), .d (.int .i64 0)]), (9, .box [.d (.int .i64 x.X), .d (.int .i64 x.Y), .d (.int .i64 x.From), .d (.int .i64 x.To)]), (5000, mOb (.ints 2) Point.key (uA Change.row) left)] (by rfl) (by rfl) ?_ fun ρ σ hf => ?_
  ·replace hm := j12
   clear j12
   refine sr1 hn ?_
   rcases ai hm with ⟨c10, hm⟩ | ⟨c10, hm⟩
   ·simp -dsimp [c10]
    refine a6 ?_
    cases hm
    exact EE.here (by simp -dsimp [hf])
   ·simp -dsimp [c10]
    refine a6 ?_
    cases hm
    exact EE.here (by simp -dsimp [hf])
  ·clear j12
   simp only [Fits, ap, ar, and_true] at hf
   rcases ai hm with ⟨c11, hm⟩ | ⟨c11, hm⟩
   ·refine a8 (b := a3) (by simp -dsimp [hf]) c11 ?_
    refine srs hn ?_
    simp -dsimp [hf]
    refine aa (c_delta_at x y1 h8) (dkL hn) ?_
    simp -dsimp [hf]
    refine ac (ag (aK (ag ?_)))
    cases hm
    refine aB nofun ?_
    unfold F_delta_Merge_1
    dsimp only
    refine ⟨rfl, ?_⟩
    exact EE.here (by simp -dsimp [hf, Tryz.results30])
   ·refine a7 (b := a3) (by simp -dsimp [hf]) c11 ?_
    refine ab (a6 ?_)
    refine sr1 hn ?_
    simp -dsimp [hf]
    refine aa (c_delta_at x y1 h8) (dkL hn) ?_
    simp -dsimp [hf, aJ h9 (.head _), aJ h9 (.tail _ (.head _)), (@id (mdelOb (mOb (.ints 2) Point.key (uA Change.row) left) (.ints [y1.X, y1.Y]) = mOb (.ints 2) Point.key (uA Change.row) (eE left y1)) (mdel_ob (.ints 2) Point.key (uA Change.row) left y1))]
    refine aV ?_
    refine a6 ?_
    refine sr1 hn ?_
    simp -dsimp [hf]
    cases hm
    refine aI ?_
    exact EE.here (by simp -dsimp [hf])
 ·refine a7 (by simp -dsimp) c6 ?_
  refine aC ?_
  refine ag ?_
  cases hm
  refine aB nofun ?_
  unfold F_delta_Merge_1
  dsimp only
  refine ⟨rfl, ?_⟩
  exact EE.here (by simp -dsimp [hf, c6])
theorem f_delta_Merge (a : List Change) (b : List Change) (r : (List Change) × Point × Int) (hm : fN a b = some r) : PFn Tryz.prog 30 [.u (.one (.d (.sl 4 (List.map Change.row a)))), .u (.one (.d (.sl 4 (List.map Change.row b))))] (fun v => v.wk (.tup [.one (.d (.sl 4 (List.map Change.row r.1))), .agg [.d (.int .i64 r.2.1.X), .d (.int .i64 r.2.1.Y)], .one (.d (.int .i64 r.2.2))])) := by
 refine bv Tryz.func30 Tryz.ntmps30 rfl (by kernel_rfl) (by simp) fun cx hn => ?_
 unfold fN at hm
 refine srs hn ?_
 simp -dsimp
 refine ae ?_
 obtain ⟨a1, j17, hm⟩ := bnd hm
 refine au [(0, .u (.one (.d (.sl 4 (List.map Change.row a))))), (1, .u (.one (.d (.sl 4 (List.map Change.row b))))), (5, .u (.one (.box 5 0))), (21, .u (.one (.d (.bool a1))))] [(5, .box [.d (.int .i64 0), .d (.int .i64 0)])] (by rfl) (by rfl) ?_ fun ρ σ hf => ?_
 ·replace hm := j17
  clear j17
  refine sr1 hn ?_
  obtain ⟨y, h1, hm⟩ := bnd hm
  simp -dsimp
  refine aa (c_delta_Right a y h1) (dkL hn) ?_
  rcases ai hm with ⟨c2, hm⟩ | ⟨c2, hm⟩
  ·simp -dsimp [c2]
   refine a6 ?_
   cases hm
   exact EE.here (by simp -dsimp)
  ·obtain ⟨y1, h3, hm⟩ := bnd hm
   simp -dsimp [c2]
   refine aa (c_delta_Right b y1 h3) (dkL hn) ?_
   simp -dsimp
   refine a6 ?_
   cases hm
   exact EE.here (by simp -dsimp)
 ·clear j17
  simp only [Fits, ap, ar, and_true] at hf
  rcases ai hm with ⟨c4, hm⟩ | ⟨c4, hm⟩
  ·refine a8 (by simp -dsimp [hf]) c4 ?_
   refine srs hn ?_
   simp -dsimp [hf]
   refine ac (ag ?_)
   cases hm
   refine ⟨.inr rfl, ?_⟩
   exact EE.here (by simp -dsimp [hf])
  ·refine a7 (by simp -dsimp [hf]) c4 ?_
   refine ab (a6 ?_)
   refine srs hn ?_
   obtain ⟨y, h5, hm⟩ := bnd hm
   simp -dsimp [hf]
   refine bA (g_delta_changes a y h5) [] [5000] rfl rfl rfl (by simp -dsimp) rfl (by simp -dsimp) (by first | rfl | simp) rfl (dkL hn) ?_
   simp -dsimp
   refine ae ?_
   refine srs hn ?_
   simp -dsimp [hf]
   refine ah ?_
   obtain ⟨o_, g13, hm⟩ := bnd hm
   refine bf (l_delta_Merge_1 cx hn b g13) (by
     try dsimp only
     exact EE.here (by simp -dsimp [hf])
   ) fun ee ρ σ x14 => ?_
   rcases o_ with r | left
   ·unfold F_delta_Merge_1 at x14
    dsimp only at x14
    obtain ⟨rfl, x14⟩ := x14
    refine aK (ag ?_)
    cases hm
    exact ⟨.inr rfl, x14⟩
   ·unfold F_delta_Merge_1 at x14
    dsimp only at x14
    obtain ⟨rfl, x14⟩ := x14
    refine aD ?_
    refine a6 ?_
    refine bN (by rfl) (by rfl) x14 fun ρ σ hf => ?_
    simp only [Fits, ap, ar, and_true] at hf
    refine srs hn ?_
    obtain ⟨y1, h15, hm⟩ := bnd hm
    simp -dsimp [hf]
    refine callL_new (n_slices_Clone_api_Change_api_Change b y1 h15) (dkL hn) (by decide) ?_
    obtain ⟨y2, h16, hm⟩ := bnd hm
    simp -dsimp [hf]
    refine bA (g_delta_collected_o_o y1 left y2 h16) [52, 5000] [] rfl rfl rfl (by simp -dsimp) rfl (by simp -dsimp [hf]) (by first | rfl | simp) rfl (dkL hn) ?_
    simp -dsimp
    refine srs hn ?_
    simp -dsimp [hf]
    refine ac ?_
    cases hm
    refine ⟨.inr rfl, ?_⟩
    exact EE.here (by simp -dsimp [hf])
theorem c_delta_Merge (a : List Change) (b : List Change) (r : (List Change) × Point × Int) (hm : fN a b = some r) : PureCall Tryz.prog 30 [.u (.one (.d (.sl 4 (List.map Change.row a)))), .u (.one (.d (.sl 4 (List.map Change.row b))))] (.tup [.one (.d (.sl 4 (List.map Change.row r.1))), .agg [.d (.int .i64 r.2.1.X), .d (.int .i64 r.2.1.Y)], .one (.d (.int .i64 r.2.2))]) := (f_delta_Merge a b r hm).pureW
def F_R53_Same_1 (cx : Cx) (_a : List Change) (_b : List Change) (tt : Bool ⊕ Unit) (ee : Exit) (ρ : Env) (σ : Sto) : Prop := match tt with
 | .inl r => ee = .ret ∧ EE cx (fun ρ σ => ∃ v, eH tb ρ σ Tryz.f31.results.toList = some v ∧ (v.frz σ).free = true ∧ (v.frz σ).wk (.u (.one (.d (.bool r))))) ρ σ
 | .inr _u => ee = .exit 0 ∧ EE cx (b4 [] []) ρ σ
theorem l_R53_Same_1 (cx : Cx) (hn : cx.n = 26) (a : List Change) (b : List Change) {fu : Nat} {stt : Int} {tt : Bool ⊕ Unit} (hh : am (ie a b) fu stt = some tt) {ρ : Env} {σ : Sto}
  (hE : bT (fun i : Int => [(0, .u (.one (.d (.sl 4 (List.map Change.row a))))), (1, .u (.one (.d (.sl 4 (List.map Change.row b))))), (5, .u (.one (.d (.int .i64 i))))]) (fun _i : Int => []) stt ρ σ) : Swp Tryz.prog cx (.loop (d4 [1, 1, 0, 1, 0, 0] (aZ Tryz.f31))) ρ σ (F_R53_Same_1 cx a b tt) := by
 refine cd hE hh (F_R53_Same_1 cx a b) ?_
 rintro i r hm ρ σ hf
 simp only [Fits, ap, ar, and_true] at hf
 unfold ie at hm
 dsimp only at hm
 refine ae ?_
 refine srs hn ?_
 simp -dsimp [hf]
 rcases ai hm with ⟨c2, hm⟩ | ⟨c2, hm⟩
 ·refine a8 (by simp -dsimp) c2 ?_
  refine ab (a6 (ae (ah ?_)))
  refine ek aW mixed (by rw [hn]; kernel_rfl) ?_
  obtain ⟨x, h3, hm⟩ := bnd hm
  obtain ⟨x1, h4, hm⟩ := bnd hm
  simp -dsimp [hf, c2, h3, h4]
  rcases ai hm with ⟨c5, hm⟩ | ⟨c5, hm⟩
  ·refine a8 (by simp -dsimp) c5 ?_
   refine srs hn ?_
   simp -dsimp [c5]
   refine ac (aK (ag ?_))
   cases hm
   refine aB nofun ?_
   unfold F_R53_Same_1
   dsimp only
   refine ⟨rfl, ?_⟩
   exact EE.here (by simp -dsimp [Tryz.results31])
  ·refine a7 (by simp -dsimp) c5 ?_
   refine ab ?_
   refine aV ?_
   refine a6 ?_
   refine sr1 hn ?_
   simp -dsimp [hf, c5]
   cases hm
   refine aI ?_
   exact EE.here (by simp -dsimp [hf])
 ·refine a7 (by simp -dsimp) c2 ?_
  refine aC ?_
  refine ag ?_
  cases hm
  refine aB nofun ?_
  unfold F_R53_Same_1
  dsimp only
  refine ⟨rfl, ?_⟩
  exact EE.here (by simp -dsimp [c2])
theorem f_R53_Same (a : List Change) (b : List Change) (r : Bool) (hm : gq a b = some r) : PFn Tryz.prog 31 [.u (.one (.d (.sl 4 (List.map Change.row a)))), .u (.one (.d (.sl 4 (List.map Change.row b))))] (fun v => v.wk (.u (.one (.d (.bool r))))) := by
 refine bv Tryz.func31 Tryz.ntmps31 rfl (by kernel_rfl) (by simp) fun cx hn => ?_
 unfold gq at hm
 refine srs hn ?_
 simp -dsimp
 refine ae ?_
 refine srs hn ?_
 simp -dsimp
 rcases ai hm with ⟨c1, hm⟩ | ⟨c1, hm⟩
 ·refine a8 (by simp -dsimp) c1 ?_
  refine srs hn ?_
  simp -dsimp [c1]
  refine ac (ag ?_)
  cases hm
  refine ⟨.inr rfl, ?_⟩
  exact EE.here (by simp -dsimp)
 ·refine a7 (by simp -dsimp) c1 ?_
  refine ab (a6 (ae ?_))
  refine srs hn ?_
  simp -dsimp [c1]
  refine ah ?_
  obtain ⟨o_, g6, hm⟩ := bnd hm
  refine bf (l_R53_Same_1 cx hn a b g6) (by
    try dsimp only
    exact EE.here (by simp -dsimp)
  ) fun ee ρ σ x7 => ?_
  rcases o_ with r | _u
  ·unfold F_R53_Same_1 at x7
   dsimp only at x7
   obtain ⟨rfl, x7⟩ := x7
   refine aK (ag ?_)
   cases hm
   exact ⟨.inr rfl, x7⟩
  ·unfold F_R53_Same_1 at x7
   dsimp only at x7
   obtain ⟨rfl, x7⟩ := x7
   refine aD ?_
   refine a6 ?_
   refine bN (by rfl) (by rfl) x7 fun ρ σ hf => ?_
   simp only [Fits, ap, ar, and_true] at hf
   refine srs hn ?_
   simp -dsimp
   refine ac ?_
   cases hm
   refine ⟨.inr rfl, ?_⟩
   exact EE.here (by simp -dsimp)
theorem c_R53_Same (a : List Change) (b : List Change) (r : Bool) (hm : gq a b = some r) : PureCall Tryz.prog 31 [.u (.one (.d (.sl 4 (List.map Change.row a)))), .u (.one (.d (.sl 4 (List.map Change.row b))))] (.u (.one (.d (.bool r)))) := (f_R53_Same a b r hm).pureW
theorem f_R05_order (a : Int) (b : Int) (r : Int) (hm : bZ a b = some r) : PFn Tryz.prog 99 [.u (.one (.d (.int .i64 a))), .u (.one (.d (.int .i64 b)))] (fun v => v.wk (.u (.one (.d (.int .i64 r))))) := by
 refine bv Tryz.func99 Tryz.ntmps99 rfl (by kernel_rfl) (by simp) fun cx hn => ?_
 unfold bZ at hm
 refine srs hn ?_
 simp -dsimp
 refine ae ?_
 refine srs hn ?_
 simp -dsimp
 rcases ai hm with ⟨c1, hm⟩ | ⟨c1, hm⟩
 ·refine a8 (by simp -dsimp) c1 ?_
  refine srs hn ?_
  simp -dsimp [c1]
  refine ac (ag ?_)
  cases hm
  refine ⟨.inr rfl, ?_⟩
  exact EE.here (by simp -dsimp)
 ·refine a7 (by simp -dsimp) c1 ?_
  refine ab (a6 (ae ?_))
  refine srs hn ?_
  simp -dsimp [c1]
  rcases ai hm with ⟨c2, hm⟩ | ⟨c2, hm⟩
  ·refine a8 (by simp -dsimp) c2 ?_
   refine srs hn ?_
   simp -dsimp [c2]
   refine ac (ag ?_)
   cases hm
   refine ⟨.inr rfl, ?_⟩
   exact EE.here (by simp -dsimp)
  ·refine a7 (by simp -dsimp) c2 ?_
   refine ab (a6 ?_)
   refine srs hn ?_
   simp -dsimp [c2]
   refine ac ?_
   cases hm
   refine ⟨.inr rfl, ?_⟩
   exact EE.here (by simp -dsimp)
theorem c_R05_order (a : Int) (b : Int) (r : Int) (hm : bZ a b = some r) : PureCall Tryz.prog 99 [.u (.one (.d (.int .i64 a))), .u (.one (.d (.int .i64 b)))] (.u (.one (.d (.int .i64 r)))) := (f_R05_order a b r hm).pureW
end Go.Proofs.YtogdjcdmbodmiaaGreatDoor
