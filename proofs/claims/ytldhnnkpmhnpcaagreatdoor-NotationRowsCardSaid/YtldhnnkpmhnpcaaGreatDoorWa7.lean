/- That the code does what the functions say (made by cc.py). -/
import Derived.Test.YtldhnnkpmhnpcaaGreatDoorWa6
namespace Go.Proofs.YtldhnnkpmhnpcaaGreatDoor
open Go.AM Go.Proofs
attribute [-simp] qlookup bv cb Ob.wipe Ob.ren Ob.frz1 cd
def F_wolfram_Number_1 (cx : Cx) (_l : Int × Int × Int × Int × Int × Int × Int × Int) (tt : Int) (ee : Exit) (ρ : Env) (σ : Sto) : Prop := match tt with
 | n => ee = .exit 0 ∧ EE cx (aK [(4, .u (.one (.d (.int .i64 n))))] []) ρ σ
set_option maxRecDepth 100000 in
theorem l_wolfram_Number_1 (cx : Cx) (hn : cx.n = 20) (l : Int × Int × Int × Int × Int × Int × Int × Int) {fu : Nat} {stt : Int × Int} {tt : Int} (hh : ah (b_wolfram_Number_1 l) fu stt = some tt) {ρ : Env} {σ : Sto}
  (hE : aT (fun stt : Int × Int => match stt with | (n, a) => [(1, .u (.one (.ref [.int .i64 l.1, .int .i64 l.2.1, .int .i64 l.2.2.1, .int .i64 l.2.2.2.1, .int .i64 l.2.2.2.2.1, .int .i64 l.2.2.2.2.2.1, .int .i64 l.2.2.2.2.2.2.1, .int .i64 l.2.2.2.2.2.2.2] 0))), (4, .u (.one (.d (.int .i64 n)))), (8, .u (.one (.d (.int .i64 a))))]) (fun stt : Int × Int => match stt with | (_n, _a) => []) stt ρ σ) : Swp Tryz.prog cx (.loop (bi [1, 1, 1, 0, 1, 0, 0] (aG Tryz.f32))) ρ σ (F_wolfram_Number_1 cx l tt) := by
 refine b3 hE hh (F_wolfram_Number_1 cx l) ?_
 rintro ⟨n, a⟩ r hm ρ σ hf
 simp only [Fits, ar, ap, and_true] at hf
 unfold b_wolfram_Number_1 at hm
 dsimp only at hm
 refine srs hn ?_
 simp -dsimp [hf]
 refine ae ?_
 rcases aj hm with ⟨c3, hm⟩ | ⟨c3, hm⟩
 ·refine a8 (by simp -dsimp) c3 ?_
  refine ac (a6 (ae (ai ?_)))
  refine srs hn ?_
  simp -dsimp [hf, c3]
  refine sr1 hn ?_
  obtain ⟨x, h4, hm⟩ := bnd hm
  obtain ⟨n1, h5, hm⟩ := bnd hm
  simp -dsimp [hf, dK h4, (@id (subR [.int .i64 l.1, .int .i64 l.2.1, .int .i64 l.2.2.1, .int .i64 l.2.2.2.1, .int .i64 l.2.2.2.2.1, .int .i64 l.2.2.2.2.2.1, .int .i64 l.2.2.2.2.2.2.1, .int .i64 l.2.2.2.2.2.2.2] a.toNat 1 = (rI .i64) x) (subR_get1 (xs := [.int .i64 l.1, .int .i64 l.2.1, .int .i64 l.2.2.1, .int .i64 l.2.2.2.1, .int .i64 l.2.2.2.2.1, .int .i64 l.2.2.2.2.2.1, .int .i64 l.2.2.2.2.2.2.1, .int .i64 l.2.2.2.2.2.2.2]) (l := [l.1, l.2.1, l.2.2.1, l.2.2.2.1, l.2.2.2.2.1, l.2.2.2.2.2.1, l.2.2.2.2.2.2.1, l.2.2.2.2.2.2.2]) (rI .i64) (fun _ => rfl) rfl h4)), h5]
  refine aC ?_
  refine a6 ?_
  refine sr1 hn ?_
  simp -dsimp [hf]
  cases hm
  refine ax ?_
  exact EE.here (by simp -dsimp [hf])
 ·refine a7 (by simp -dsimp) c3 ?_
  refine au ?_
  refine ag ?_
  cases hm
  refine aw nofun ?_
  unfold F_wolfram_Number_1
  dsimp only
  refine ⟨rfl, ?_⟩
  exact EE.here (by simp -dsimp [hf, c3])
set_option maxRecDepth 100000 in
theorem f_wolfram_Number (l : Int × Int × Int × Int × Int × Int × Int × Int) (r : Int × Int) (hm : m_wolfram_Number l = some r) : PFn Tryz.prog 32 [.u (.agg [.d (.int .i64 l.1), .d (.int .i64 l.2.1), .d (.int .i64 l.2.2.1), .d (.int .i64 l.2.2.2.1), .d (.int .i64 l.2.2.2.2.1), .d (.int .i64 l.2.2.2.2.2.1), .d (.int .i64 l.2.2.2.2.2.2.1), .d (.int .i64 l.2.2.2.2.2.2.2)])] (fun v => v.wk (.tup [.one (.d (.int .i64 r.1)), .one (.d (.int .i64 r.2))])) := by
 refine aH Tryz.func32 Tryz.ntmps32 rfl (by kernel_rfl) (by simp) fun cx hn => ?_
 unfold m_wolfram_Number at hm
 refine srs hn ?_
 simp -dsimp
 refine ae ?_
 refine Swp.pre (Wk.frzB 1 [(.int .i64 l.1), (.int .i64 l.2.1), (.int .i64 l.2.2.1), (.int .i64 l.2.2.2.1), (.int .i64 l.2.2.2.2.1), (.int .i64 l.2.2.2.2.2.1), (.int .i64 l.2.2.2.2.2.2.1), (.int .i64 l.2.2.2.2.2.2.2)] (by simp -dsimp)) ?_
 refine srs hn ?_
 obtain ⟨y, h1, hm⟩ := bnd hm
 simp -dsimp [(@id (sliceR 1 8 [.int .i64 l.1, .int .i64 l.2.1, .int .i64 l.2.2.1, .int .i64 l.2.2.2.1, .int .i64 l.2.2.2.2.1, .int .i64 l.2.2.2.2.2.1, .int .i64 l.2.2.2.2.2.2.1, .int .i64 l.2.2.2.2.2.2.2] = some (.u (.one (.d (.sl 1 [[(.int .i64 l.1)], [(.int .i64 l.2.1)], [(.int .i64 l.2.2.1)], [(.int .i64 l.2.2.2.1)], [(.int .i64 l.2.2.2.2.1)], [(.int .i64 l.2.2.2.2.2.1)], [(.int .i64 l.2.2.2.2.2.2.1)], [(.int .i64 l.2.2.2.2.2.2.2)]]))))) rfl)]
 refine aa (c_slices_ContainsFunc_int_int_wolfram_Number_1 [l.1, l.2.1, l.2.2.1, l.2.2.2.1, l.2.2.2.2.1, l.2.2.2.2.2.1, l.2.2.2.2.2.2.1, l.2.2.2.2.2.2.2] y h1) (dkL hn) ?_
 simp -dsimp
 rcases aj hm with ⟨c2, hm⟩ | ⟨c2, hm⟩
 ·refine a8 (b := y) (by simp -dsimp) c2 ?_
  refine srs hn ?_
  simp -dsimp [c2]
  refine ab (ag ?_)
  cases hm
  refine ⟨.inr rfl, ?_⟩
  exact EE.here (by simp -dsimp)
 ·refine a7 (b := y) (by simp -dsimp) c2 ?_
  refine ac (a6 ?_)
  refine srs hn ?_
  simp -dsimp [c2]
  refine ae ?_
  refine srs hn ?_
  simp -dsimp
  refine ai ?_
  obtain ⟨n, g6, hm⟩ := bnd hm
  refine aF (l_wolfram_Number_1 cx hn l g6) (by
    try dsimp only
    exact EE.here (by simp -dsimp)
  ) fun ee ρ σ x7 => ?_
  unfold F_wolfram_Number_1 at x7
  dsimp only at x7
  obtain ⟨rfl, x7⟩ := x7
  refine av ?_
  refine a6 ?_
  refine aV (by rfl) (by rfl) x7 fun ρ σ hf => ?_
  simp only [Fits, ar, ap, and_true] at hf
  refine srs hn ?_
  simp -dsimp [hf]
  refine ab ?_
  cases hm
  refine ⟨.inr rfl, ?_⟩
  exact EE.here (by simp -dsimp)
theorem c_wolfram_Number (l : Int × Int × Int × Int × Int × Int × Int × Int) (r : Int × Int) (hm : m_wolfram_Number l = some r) : PureCall Tryz.prog 32 [.u (.agg [.d (.int .i64 l.1), .d (.int .i64 l.2.1), .d (.int .i64 l.2.2.1), .d (.int .i64 l.2.2.2.1), .d (.int .i64 l.2.2.2.2.1), .d (.int .i64 l.2.2.2.2.2.1), .d (.int .i64 l.2.2.2.2.2.2.1), .d (.int .i64 l.2.2.2.2.2.2.2)])] (.tup [.one (.d (.int .i64 r.1)), .one (.d (.int .i64 r.2))]) := (f_wolfram_Number l r hm).pureW
def F_wolfram_Mirror_1 (cx : Cx) (_y : (Int × Int × Int × Int × Int × Int × Int × Int) × Int) (tt : (List Int)) (ee : Exit) (ρ : Env) (σ : Sto) : Prop := match tt with
 | m => ee = .exit 0 ∧ EE cx (aK [(6, .u (.one (.box 6 0)))] [(6, .box (List.map (cI .i64) m))]) ρ σ
set_option maxRecDepth 100000 in
theorem l_wolfram_Mirror_1 (cx : Cx) (hn : cx.n = 37) (y : (Int × Int × Int × Int × Int × Int × Int × Int) × Int) {fu : Nat} {stt : Int × (List Int)} {tt : (List Int)} (hh : ah (b_wolfram_Mirror_1 y) fu stt = some tt) {ρ : Env} {σ : Sto}
  (hE : aT (fun stt : Int × (List Int) => match stt with | (a, _m) => [(4, .u (.one (.box 4 0))), (6, .u (.one (.box 6 0))), (16, .u (.one (.d (.int .i64 a))))]) (fun stt : Int × (List Int) => match stt with | (_a, m) => [(4, .box (List.map (cI .i64) [y.1.1, y.1.2.1, y.1.2.2.1, y.1.2.2.2.1, y.1.2.2.2.2.1, y.1.2.2.2.2.2.1, y.1.2.2.2.2.2.2.1, y.1.2.2.2.2.2.2.2])), (6, .box (List.map (cI .i64) m))]) stt ρ σ) : Swp Tryz.prog cx (.loop (bi [1, 1, 1, 1, 0, 1, 0, 0] (aG Tryz.f13))) ρ σ (F_wolfram_Mirror_1 cx y tt) := by
 refine b3 hE hh (F_wolfram_Mirror_1 cx y) ?_
 rintro ⟨a, m⟩ r hm ρ σ hf
 simp only [Fits, ar, ap, and_true] at hf
 unfold b_wolfram_Mirror_1 at hm
 dsimp only at hm
 refine srs hn ?_
 simp -dsimp [hf]
 refine ae ?_
 rcases aj hm with ⟨c3, hm⟩ | ⟨c3, hm⟩
 ·refine a8 (by simp -dsimp) c3 ?_
  refine ac (a6 (ae (ai ?_)))
  refine srs hn ?_
  simp -dsimp [hf, c3]
  refine sr1 hn ?_
  obtain ⟨n1, h4, hm⟩ := bnd hm
  obtain ⟨n2, h5, hm⟩ := bnd hm
  obtain ⟨x, h6, hm⟩ := bnd hm
  obtain ⟨x1, h7, hm⟩ := bnd hm
  simp -dsimp [hf, h4, h5, dK h6, (@id (([.d (.int .i64 y.1.1), .d (.int .i64 y.1.2.1), .d (.int .i64 y.1.2.2.1), .d (.int .i64 y.1.2.2.2.1), .d (.int .i64 y.1.2.2.2.2.1), .d (.int .i64 y.1.2.2.2.2.2.1), .d (.int .i64 y.1.2.2.2.2.2.2.1), .d (.int .i64 y.1.2.2.2.2.2.2.2)] : List C)[(ior .i64 (ior .i64 n1 (iand .i64 a 2)) n2).toNat]? = some ((cI .i64) _)) (aidx_map (cI .i64) h6)), dK h7, aidx_lt2 h7, asetI .i64 h7 x]
  refine aC ?_
  refine a6 ?_
  refine sr1 hn ?_
  simp -dsimp [hf]
  cases hm
  refine ax ?_
  exact EE.here (by simp -dsimp [hf])
 ·refine a7 (by simp -dsimp) c3 ?_
  refine au ?_
  refine ag ?_
  cases hm
  refine aw nofun ?_
  unfold F_wolfram_Mirror_1
  dsimp only
  refine ⟨rfl, ?_⟩
  exact EE.here (by simp -dsimp [hf, c3])
set_option maxRecDepth 100000 in
theorem f_wolfram_Mirror (n : Int) (r : Int × Int) (hm : m_wolfram_Mirror n = some r) : PFn Tryz.prog 13 [.u (.one (.d (.int .i64 n)))] (fun v => v.wk (.tup [.one (.d (.int .i64 r.1)), .one (.d (.int .i64 r.2))])) := by
 refine aH Tryz.func13 Tryz.ntmps13 rfl (by kernel_rfl) (by simp) fun cx hn => ?_
 unfold m_wolfram_Mirror at hm
 refine srs hn ?_
 simp -dsimp
 refine srs hn ?_
 obtain ⟨y, h1, hm⟩ := bnd hm
 simp -dsimp
 refine aa (c_wolfram_Elementary n y h1) (dkL hn) ?_
 simp -dsimp
 refine ae ?_
 refine srs hn ?_
 simp -dsimp
 rcases aj hm with ⟨c2, hm⟩ | ⟨c2, hm⟩
 ·refine a8 (by simp -dsimp) c2 ?_
  refine srs hn ?_
  simp -dsimp [c2]
  refine ab (ag ?_)
  cases hm
  refine ⟨.inr rfl, ?_⟩
  exact EE.here (by simp -dsimp)
 ·refine a7 (by simp -dsimp) c2 ?_
  refine ac (a6 ?_)
  refine srs hn ?_
  simp -dsimp [c2]
  refine ae ?_
  refine srs hn ?_
  simp -dsimp
  refine ai ?_
  obtain ⟨m, g8, hm⟩ := bnd hm
  refine aF (l_wolfram_Mirror_1 cx hn y g8) (by
    try dsimp only
    exact EE.here (by simp -dsimp)
  ) fun ee ρ σ x9 => ?_
  unfold F_wolfram_Mirror_1 at x9
  dsimp only at x9
  obtain ⟨rfl, x9⟩ := x9
  refine av ?_
  refine a6 ?_
  refine aV (by rfl) (by rfl) x9 fun ρ σ hf => ?_
  simp only [Fits, ar, ap, and_true] at hf
  refine srs hn ?_
  obtain ⟨arr, h10, hm⟩ := bnd hm
  obtain ⟨y1, h11, hm⟩ := bnd hm
  simp -dsimp [hf, arr8_map (cI .i64) h10]
  refine aa (c_wolfram_Number arr y1 h11) (dkL hn) ?_
  simp -dsimp
  refine ab ?_
  cases hm
  refine ⟨.inr rfl, ?_⟩
  exact EE.here (by simp -dsimp)
theorem c_wolfram_Mirror (n : Int) (r : Int × Int) (hm : m_wolfram_Mirror n = some r) : PureCall Tryz.prog 13 [.u (.one (.d (.int .i64 n)))] (.tup [.one (.d (.int .i64 r.1)), .one (.d (.int .i64 r.2))]) := (f_wolfram_Mirror n r hm).pureW
def F_tree_Right_2 (cx : Cx) (t : Tree) (a1 : Int) (_x : Node) (tt : Bool ⊕ Unit) (ee : Exit) (ρ : Env) (σ : Sto) : Prop := match tt with
 | .inl r => ee = .ret ∧ EE cx (fun ρ σ => ∃ v, cC tb ρ σ Tryz.f33.results.toList = some v ∧ (v.frz σ).free = true ∧ (v.frz σ).wk (.u (.one (.d (.bool r))))) ρ σ
 | .inr _u => ee = .exit 2 ∧ EE cx (aK [(1, .u (.one (.box 1 0))), (47, .u (.one (.d (.sl 2 (List.map Node.row t.Nodes))))), (48, .u (.one (.d (.int .i64 (al t.Nodes))))), (49, .u (.one (.d (.int .i64 a1))))] [(1, .box [.d (.int .i64 t.States), .d (.sl 2 (List.map Point.row t.Hood)), .d (.sl 2 (List.map Node.row t.Nodes))])]) ρ σ
set_option maxRecDepth 100000 in
theorem l_tree_Right_2 (cx : Cx) (hn : cx.n = 117) (t : Tree) (a1 : Int) (x : Node) {fu : Nat} {stt : Int} {tt : Bool ⊕ Unit} (hh : ah (b_tree_Right_2 t a1 x) fu stt = some tt) {ρ : Env} {σ : Sto}
  (hE : aT (fun a3 : Int => [(1, .u (.one (.box 1 0))), (4, .u (.one (.d (.int .i64 a1)))), (5, .u (.one (.box 5 0))), (47, .u (.one (.d (.sl 2 (List.map Node.row t.Nodes))))), (48, .u (.one (.d (.int .i64 (al t.Nodes))))), (49, .u (.one (.d (.int .i64 a1)))), (74, .u (.one (.d (.sl 1 (List.map (rI .i64) x.Next))))), (75, .u (.one (.d (.int .i64 (al x.Next))))), (76, .u (.one (.d (.int .i64 a3))))]) (fun _a3 : Int => [(1, .box [.d (.int .i64 t.States), .d (.sl 2 (List.map Point.row t.Hood)), .d (.sl 2 (List.map Node.row t.Nodes))]), (5, .box [.d (.int .i64 x.Level), .d (.sl 1 (List.map (rI .i64) x.Next))])]) stt ρ σ) : Swp Tryz.prog cx (.loop (bi [1, 1, 1, 0, 1, 0, 0, 1, 1, 0, 0, 1, 1, 1, 0, 0] (aG Tryz.f33))) ρ σ (F_tree_Right_2 cx t a1 x tt) := by
 refine b3 hE hh (F_tree_Right_2 cx t a1 x) ?_
 rintro a3 r hm ρ σ hf
 simp only [Fits, ar, ap, and_true] at hf
 unfold b_tree_Right_2 at hm
 dsimp only at hm
 refine srs hn ?_
 simp -dsimp [hf]
 refine ae ?_
 rcases aj hm with ⟨c14, hm⟩ | ⟨c14, hm⟩
 ·refine a8 (by simp -dsimp) c14 ?_
  refine ac (a6 (ae (ai ?_)))
  refine srs hn ?_
  obtain ⟨x1, h15, hm⟩ := bnd hm
  simp -dsimp [hf, c14, h15]
  obtain ⟨a4, j26, hm⟩ := bnd hm
  refine am [(1, .u (.one (.box 1 0))), (4, .u (.one (.d (.int .i64 a1)))), (5, .u (.one (.box 5 0))), (47, .u (.one (.d (.sl 2 (List.map Node.row t.Nodes))))), (48, .u (.one (.d (.int .i64 (al t.Nodes))))), (49, .u (.one (.d (.int .i64 a1)))), (74, .u (.one (.d (.sl 1 (List.map (rI .i64) x.Next))))), (75, .u (.one (.d (.int .i64 (al x.Next))))), (76, .u (.one (.d (.int .i64 a3)))), (114, .u (.one (.d (.bool a4))))] [(1, .box [.d (.int .i64 t.States), .d (.sl 2 (List.map Point.row t.Hood)), .d (.sl 2 (List.map Node.row t.Nodes))]), (5, .box [.d (.int .i64 x.Level), .d (.sl 1 (List.map (rI .i64) x.Next))])] (by rfl) (by rfl) ?_ fun ρ σ hf => ?_
  ·replace hm := j26
   clear j26
   refine sw_qt aM mixed (by rw [hn]; kernel_rfl) ?_
   rcases aj hm with ⟨c16, hm⟩ | ⟨c16, hm⟩
   ·simp -dsimp [c16]
    refine a6 ?_
    cases hm
    exact EE.here (by simp -dsimp [hf])
   ·rcases aj hm with ⟨c17, hm⟩ | ⟨c17, hm⟩
    ·rcases aj hm with ⟨c18, hm⟩ | ⟨c18, hm⟩
     ·simp -dsimp [hf, c16, c17, c18]
      refine a6 ?_
      cases hm
      exact EE.here (by simp -dsimp [hf])
     ·rcases aj hm with ⟨c19, hm⟩ | ⟨c19, hm⟩
      ·rcases aj hm with ⟨c20, hm⟩ | ⟨c20, hm⟩
       ·simp -dsimp [hf, c16, c17, c18, c19, c20]
        refine a6 ?_
        cases hm
        exact EE.here (by simp -dsimp [hf])
       ·obtain ⟨x2, h21, hm⟩ := bnd hm
        simp -dsimp [hf, c16, c17, c18, c19, c20, h21]
        refine a6 ?_
        cases hm
        exact EE.here (by simp -dsimp [hf])
      ·simp -dsimp [hf, c16, c17, c18, c19]
       refine a6 ?_
       cases hm
       exact EE.here (by simp -dsimp [hf])
    ·rcases aj hm with ⟨c22, hm⟩ | ⟨c22, hm⟩
     ·rcases aj hm with ⟨c23, hm⟩ | ⟨c23, hm⟩
      ·simp -dsimp [hf, c16, c17, c22, c23]
       refine a6 ?_
       cases hm
       exact EE.here (by simp -dsimp [hf])
      ·obtain ⟨x2, h24, hm⟩ := bnd hm
       simp -dsimp [hf, c16, c17, c22, c23, h24]
       refine a6 ?_
       cases hm
       exact EE.here (by simp -dsimp [hf])
     ·simp -dsimp [hf, c16, c17, c22]
      refine a6 ?_
      cases hm
      exact EE.here (by simp -dsimp [hf])
  ·clear j26
   simp only [Fits, ar, ap, and_true] at hf
   rcases aj hm with ⟨c25, hm⟩ | ⟨c25, hm⟩
   ·refine a8 (by simp -dsimp [hf]) c25 ?_
    refine srs hn ?_
    simp -dsimp
    refine ab (aL (ag ?_))
    cases hm
    refine aw nofun ?_
    unfold F_tree_Right_2
    dsimp only
    refine ⟨rfl, ?_⟩
    exact EE.here (by simp -dsimp [Tryz.results33])
   ·refine a7 (by simp -dsimp [hf]) c25 ?_
    refine ac ?_
    refine aC ?_
    refine a6 ?_
    refine sr1 hn ?_
    simp -dsimp [hf]
    cases hm
    refine ax ?_
    exact EE.here (by simp -dsimp [hf])
 ·refine a7 (by simp -dsimp) c14 ?_
  refine au ?_
  refine ag ?_
  cases hm
  refine aw nofun ?_
  unfold F_tree_Right_2
  dsimp only
  refine ⟨rfl, ?_⟩
  exact EE.here (by simp -dsimp [hf, c14])
def F_tree_Right_1 (cx : Cx) (_t : Tree) (tt : Bool ⊕ Unit) (ee : Exit) (ρ : Env) (σ : Sto) : Prop := match tt with
 | .inl r => ee = .ret ∧ EE cx (fun ρ σ => ∃ v, cC tb ρ σ Tryz.f33.results.toList = some v ∧ (v.frz σ).free = true ∧ (v.frz σ).wk (.u (.one (.d (.bool r))))) ρ σ
 | .inr _u => ee = .exit 0 ∧ EE cx (aK [] []) ρ σ
set_option maxRecDepth 100000 in
theorem l_tree_Right_1 (cx : Cx) (hn : cx.n = 117) (t : Tree) {fu : Nat} {stt : Int} {tt : Bool ⊕ Unit} (hh : ah (b_tree_Right_1 t) fu stt = some tt) {ρ : Env} {σ : Sto}
  (hE : aT (fun a1 : Int => [(1, .u (.one (.box 1 0))), (47, .u (.one (.d (.sl 2 (List.map Node.row t.Nodes))))), (48, .u (.one (.d (.int .i64 (al t.Nodes))))), (49, .u (.one (.d (.int .i64 a1))))]) (fun _a1 : Int => [(1, .box [.d (.int .i64 t.States), .d (.sl 2 (List.map Point.row t.Hood)), .d (.sl 2 (List.map Node.row t.Nodes))])]) stt ρ σ) : Swp Tryz.prog cx (.loop (bi [1, 1, 1, 0, 1, 0, 0] (aG Tryz.f33))) ρ σ (F_tree_Right_1 cx t tt) := by
 refine b3 hE hh (F_tree_Right_1 cx t) ?_
 rintro a1 r hm ρ σ hf
 simp only [Fits, ar, ap, and_true] at hf
 unfold b_tree_Right_1 at hm
 dsimp only at hm
 refine srs hn ?_
 simp -dsimp [hf]
 refine ae ?_
 rcases aj hm with ⟨c9, hm⟩ | ⟨c9, hm⟩
 ·refine a8 (by simp -dsimp) c9 ?_
  refine ac (a6 (ae (ai ?_)))
  refine srs hn ?_
  obtain ⟨x, h10, hm⟩ := bnd hm
  simp -dsimp [hf, c9, h10]
  refine ae ?_
  obtain ⟨a2, j29, hm⟩ := bnd hm
  refine am [(1, .u (.one (.box 1 0))), (4, .u (.one (.d (.int .i64 a1)))), (5, .u (.one (.box 5 0))), (47, .u (.one (.d (.sl 2 (List.map Node.row t.Nodes))))), (48, .u (.one (.d (.int .i64 (al t.Nodes))))), (49, .u (.one (.d (.int .i64 a1)))), (72, .u (.one (.d (.bool a2))))] [(1, .box [.d (.int .i64 t.States), .d (.sl 2 (List.map Point.row t.Hood)), .d (.sl 2 (List.map Node.row t.Nodes))]), (5, .box [.d (.int .i64 x.Level), .d (.sl 1 (List.map (rI .i64) x.Next))])] (by rfl) (by rfl) ?_ fun ρ σ hf => ?_
  ·replace hm := j29
   clear j29
   refine sr1 hn ?_
   rcases aj hm with ⟨c11, hm⟩ | ⟨c11, hm⟩
   ·simp -dsimp [c11]
    refine a6 ?_
    cases hm
    exact EE.here (by simp -dsimp [hf])
   ·rcases aj hm with ⟨c12, hm⟩ | ⟨c12, hm⟩
    ·simp -dsimp [hf, c11, c12]
     refine a6 ?_
     cases hm
     exact EE.here (by simp -dsimp [hf])
    ·simp -dsimp [hf, c11, c12]
     refine a6 ?_
     cases hm
     exact EE.here (by simp -dsimp [hf])
  ·clear j29
   simp only [Fits, ar, ap, and_true] at hf
   rcases aj hm with ⟨c13, hm⟩ | ⟨c13, hm⟩
   ·refine a8 (by simp -dsimp [hf]) c13 ?_
    refine srs hn ?_
    simp -dsimp
    refine ab (ag (aL (ag ?_)))
    cases hm
    refine aw nofun ?_
    unfold F_tree_Right_1
    dsimp only
    refine ⟨rfl, ?_⟩
    exact EE.here (by simp -dsimp [Tryz.results33])
   ·refine a7 (by simp -dsimp [hf]) c13 ?_
    refine ac (a6 ?_)
    refine srs hn ?_
    simp -dsimp [hf]
    refine ai ?_
    obtain ⟨o_, g27, hm⟩ := bnd hm
    refine aF (l_tree_Right_2 cx hn t a1 x g27) (by
      try dsimp only
      exact EE.here (by simp -dsimp [hf])
    ) fun ee ρ σ x28 => ?_
    rcases o_ with r | _u
    ·unfold F_tree_Right_2 at x28
     dsimp only at x28
     obtain ⟨rfl, x28⟩ := x28
     refine aL (aL (ag ?_))
     cases hm
     refine aw nofun ?_
     unfold F_tree_Right_1
     dsimp only
     refine ⟨rfl, ?_⟩
     exact x28
    ·unfold F_tree_Right_2 at x28
     dsimp only at x28
     obtain ⟨rfl, x28⟩ := x28
     refine av ?_
     refine aC ?_
     refine a6 ?_
     refine aV (by rfl) (by rfl) x28 fun ρ σ hf => ?_
     simp only [Fits, ar, ap, and_true] at hf
     refine sr1 hn ?_
     simp -dsimp [hf]
     cases hm
     refine ax ?_
     exact EE.here (by simp -dsimp [hf])
 ·refine a7 (by simp -dsimp) c9 ?_
  refine au ?_
  refine ag ?_
  cases hm
  refine aw nofun ?_
  unfold F_tree_Right_1
  dsimp only
  refine ⟨rfl, ?_⟩
  exact EE.here (by simp -dsimp [c9])
set_option maxRecDepth 100000 in
theorem f_tree_Right (t : Tree) (r : Bool) (hm : m_tree_Right t = some r) : PFn Tryz.prog 33 [.u (.agg [.d (.int .i64 t.States), .d (.sl 2 (List.map Point.row t.Hood)), .d (.sl 2 (List.map Node.row t.Nodes))])] (fun v => v.wk (.u (.one (.d (.bool r))))) := by
 refine aH Tryz.func33 Tryz.ntmps33 rfl (by kernel_rfl) (by simp) fun cx hn => ?_
 unfold m_tree_Right at hm
 refine srs hn ?_
 simp -dsimp
 refine srs hn ?_
 simp -dsimp
 refine ae ?_
 obtain ⟨a, j32, hm⟩ := bnd hm
 refine am [(1, .u (.one (.box 1 0))), (45, .u (.one (.d (.bool a))))] [(1, .box [.d (.int .i64 t.States), .d (.sl 2 (List.map Point.row t.Hood)), .d (.sl 2 (List.map Node.row t.Nodes))])] (by rfl) (by rfl) ?_ fun ρ σ hf => ?_
 ·replace hm := j32
  clear j32
  refine sw_qt aM mixed (by rw [hn]; kernel_rfl) ?_
  rcases aj hm with ⟨c1, hm⟩ | ⟨c1, hm⟩
  ·simp -dsimp [c1]
   refine a6 ?_
   cases hm
   exact EE.here (by simp -dsimp)
  ·rcases aj hm with ⟨c2, hm⟩ | ⟨c2, hm⟩
   ·simp -dsimp [c1, c2]
    refine a6 ?_
    cases hm
    exact EE.here (by simp -dsimp)
   ·obtain ⟨y, h3, hm⟩ := bnd hm
    simp -dsimp [c1, c2]
    refine aD (c_hood_Right t.Hood y h3) ?_
    rcases aj hm with ⟨c4, hm⟩ | ⟨c4, hm⟩
    ·simp -dsimp [c4]
     refine a6 ?_
     cases hm
     exact EE.here (by simp -dsimp)
    ·rcases aj hm with ⟨c5, hm⟩ | ⟨c5, hm⟩
     ·simp -dsimp [c4, c5]
      refine a6 ?_
      cases hm
      exact EE.here (by simp -dsimp)
     ·rcases aj hm with ⟨c6, hm⟩ | ⟨c6, hm⟩
      ·simp -dsimp [c4, c5, c6]
       refine a6 ?_
       cases hm
       exact EE.here (by simp -dsimp)
      ·obtain ⟨x, h7, hm⟩ := bnd hm
       simp -dsimp [c4, c5, c6, h7]
       refine a6 ?_
       cases hm
       exact EE.here (by simp -dsimp)
 ·clear j32
  simp only [Fits, ar, ap, and_true] at hf
  rcases aj hm with ⟨c8, hm⟩ | ⟨c8, hm⟩
  ·refine a8 (by simp -dsimp [hf]) c8 ?_
   refine srs hn ?_
   simp -dsimp
   refine ab (ag ?_)
   cases hm
   refine ⟨.inr rfl, ?_⟩
   exact EE.here (by simp -dsimp)
  ·refine a7 (by simp -dsimp [hf]) c8 ?_
   refine ac (a6 (ae ?_))
   refine srs hn ?_
   simp -dsimp [hf]
   refine ai ?_
   obtain ⟨o_, g30, hm⟩ := bnd hm
   refine aF (l_tree_Right_1 cx hn t g30) (by
     try dsimp only
     exact EE.here (by simp -dsimp [hf])
   ) fun ee ρ σ x31 => ?_
   rcases o_ with r | _u
   ·unfold F_tree_Right_1 at x31
    dsimp only at x31
    obtain ⟨rfl, x31⟩ := x31
    refine aL (ag ?_)
    cases hm
    exact ⟨.inr rfl, x31⟩
   ·unfold F_tree_Right_1 at x31
    dsimp only at x31
    obtain ⟨rfl, x31⟩ := x31
    refine av ?_
    refine a6 ?_
    refine aV (by rfl) (by rfl) x31 fun ρ σ hf => ?_
    simp only [Fits, ar, ap, and_true] at hf
    refine srs hn ?_
    simp -dsimp
    refine ab ?_
    cases hm
    refine ⟨.inr rfl, ?_⟩
    exact EE.here (by simp -dsimp)
theorem c_tree_Right (t : Tree) (r : Bool) (hm : m_tree_Right t = some r) : PureCall Tryz.prog 33 [.u (.agg [.d (.int .i64 t.States), .d (.sl 2 (List.map Point.row t.Hood)), .d (.sl 2 (List.map Node.row t.Nodes))])] (.u (.one (.d (.bool r)))) := (f_tree_Right t r hm).pureW
theorem f_tree_Eval_1 (s : Int) (a : Tree) (r : Bool) (hm : m_tree_Eval_1 s a = some r) : PFn Tryz.prog 35 [.u (.one (.d (.int .i64 s))), .u (.one (.ref (Tree.row a) 0))] (fun v => v.wk (.u (.one (.d (.bool r))))) := by
 refine aH Tryz.func35 Tryz.ntmps35 rfl (by kernel_rfl) (by simp) fun cx hn => ?_
 unfold m_tree_Eval_1 at hm
 refine srs hn ?_
 simp -dsimp
 obtain ⟨a1, j2, hm⟩ := bnd hm
 refine am [(3, .u (.one (.d (.bool a1))))] [] (by rfl) (by rfl) ?_ fun ρ σ hf => ?_
 ·replace hm := j2
  clear j2
  refine sr1 hn ?_
  rcases aj hm with ⟨c1, hm⟩ | ⟨c1, hm⟩
  ·simp -dsimp [c1]
   refine a6 ?_
   cases hm
   exact EE.here (by simp -dsimp)
  ·simp -dsimp [c1]
   refine a6 ?_
   cases hm
   exact EE.here (by simp -dsimp)
 ·clear j2
  simp only [Fits, ar, ap, and_true] at hf
  refine ab ?_
  cases hm
  refine ⟨.inr rfl, ?_⟩
  exact EE.here (by simp -dsimp [hf])
theorem c_tree_Eval_1 (s : Int) (a : Tree) (r : Bool) (hm : m_tree_Eval_1 s a = some r) : PureCall Tryz.prog 35 [.u (.one (.d (.int .i64 s))), .u (.one (.ref (Tree.row a) 0))] (.u (.one (.d (.bool r)))) := (f_tree_Eval_1 s a r hm).pureW
def F_slices_IndexFunc_int_int_tree_Eval_1_1 (cx : Cx) (_s : List Int) (_cv : Tree) (tt : Int ⊕ Unit) (ee : Exit) (ρ : Env) (σ : Sto) : Prop := match tt with
 | .inl r => ee = .ret ∧ EE cx (fun ρ σ => ∃ v, cC tb ρ σ Tryz.f91.results.toList = some v ∧ (v.frz σ).free = true ∧ (v.frz σ).wk (.u (.one (.d (.int .i64 r))))) ρ σ
 | .inr _u => ee = .exit 0 ∧ EE cx (aK [] []) ρ σ
theorem l_slices_IndexFunc_int_int_tree_Eval_1_1 (cx : Cx) (hn : cx.n = 19) (s : List Int) (cv : Tree) {fu : Nat} {stt : Int} {tt : Int ⊕ Unit} (hh : ah (b_slices_IndexFunc_int_int_tree_Eval_1_1 s cv) fu stt = some tt) {ρ : Env} {σ : Sto}
  (hE : aT (fun a : Int => [(0, .u (.one (.d (.sl 1 (List.map (rI .i64) s))))), (1, .u (.one (.fn 35 [.ref (Tree.row cv) 0]))), (7, .u (.one (.d (.int .i64 (al s))))), (8, .u (.one (.d (.int .i64 a))))]) (fun _a : Int => []) stt ρ σ) : Swp Tryz.prog cx (.loop (bi [1, 0, 1, 0, 0] (aG Tryz.f91))) ρ σ (F_slices_IndexFunc_int_int_tree_Eval_1_1 cx s cv tt) := by
 refine b3 hE hh (F_slices_IndexFunc_int_int_tree_Eval_1_1 cx s cv) ?_
 rintro a r hm ρ σ hf
 simp only [Fits, ar, ap, and_true] at hf
 unfold b_slices_IndexFunc_int_int_tree_Eval_1_1 at hm
 dsimp only at hm
 refine srs hn ?_
 simp -dsimp [hf]
 refine ae ?_
 rcases aj hm with ⟨c1, hm⟩ | ⟨c1, hm⟩
 ·refine a8 (by simp -dsimp) c1 ?_
  refine ac (a6 (ae (ai ?_)))
  refine srs hn ?_
  simp -dsimp [hf, c1]
  refine srs hn ?_
  obtain ⟨x, h2, hm⟩ := bnd hm
  obtain ⟨y, h3, hm⟩ := bnd hm
  simp -dsimp [hf, h2]
  refine aa (c_tree_Eval_1 x cv y h3) (dkL hn) ?_
  simp -dsimp
  rcases aj hm with ⟨c4, hm⟩ | ⟨c4, hm⟩
  ·refine a8 (by simp -dsimp) c4 ?_
   refine srs hn ?_
   simp -dsimp [c4]
   refine ab (aL (ag ?_))
   cases hm
   refine aw nofun ?_
   unfold F_slices_IndexFunc_int_int_tree_Eval_1_1
   dsimp only
   refine ⟨rfl, ?_⟩
   exact EE.here (by simp -dsimp [Tryz.results91])
  ·refine a7 (by simp -dsimp) c4 ?_
   refine ac ?_
   refine aC ?_
   refine a6 ?_
   refine sr1 hn ?_
   simp -dsimp [hf, c4]
   cases hm
   refine ax ?_
   exact EE.here (by simp -dsimp [hf])
 ·refine a7 (by simp -dsimp) c1 ?_
  refine au ?_
  refine ag ?_
  cases hm
  refine aw nofun ?_
  unfold F_slices_IndexFunc_int_int_tree_Eval_1_1
  dsimp only
  refine ⟨rfl, ?_⟩
  exact EE.here (by simp -dsimp [c1])
theorem f_slices_IndexFunc_int_int_tree_Eval_1 (s : List Int) (cv : Tree) (r : Int) (hm : m_slices_IndexFunc_int_int_tree_Eval_1 s cv = some r) : PFn Tryz.prog 91 [.u (.one (.d (.sl 1 (List.map (rI .i64) s)))), .u (.one (.fn 35 [.ref (Tree.row cv) 0]))] (fun v => v.wk (.u (.one (.d (.int .i64 r))))) := by
 refine aH Tryz.func91 Tryz.ntmps91 rfl (by kernel_rfl) (by simp) fun cx hn => ?_
 unfold m_slices_IndexFunc_int_int_tree_Eval_1 at hm
 refine srs hn ?_
 simp -dsimp
 refine ae ?_
 refine srs hn ?_
 simp -dsimp
 refine ai ?_
 obtain ⟨o_, g5, hm⟩ := bnd hm
 refine aF (l_slices_IndexFunc_int_int_tree_Eval_1_1 cx hn s cv g5) (by
   try dsimp only
   exact EE.here (by simp -dsimp)
 ) fun ee ρ σ x6 => ?_
 rcases o_ with r | _u
 ·unfold F_slices_IndexFunc_int_int_tree_Eval_1_1 at x6
  dsimp only at x6
  obtain ⟨rfl, x6⟩ := x6
  refine aL (ag ?_)
  cases hm
  exact ⟨.inr rfl, x6⟩
 ·unfold F_slices_IndexFunc_int_int_tree_Eval_1_1 at x6
  dsimp only at x6
  obtain ⟨rfl, x6⟩ := x6
  refine av ?_
  refine a6 ?_
  refine aV (by rfl) (by rfl) x6 fun ρ σ hf => ?_
  simp only [Fits, ar, ap, and_true] at hf
  refine srs hn ?_
  simp -dsimp
  refine ab ?_
  cases hm
  refine ⟨.inr rfl, ?_⟩
  exact EE.here (by simp -dsimp)
theorem c_slices_IndexFunc_int_int_tree_Eval_1 (s : List Int) (cv : Tree) (r : Int) (hm : m_slices_IndexFunc_int_int_tree_Eval_1 s cv = some r) : PureCall Tryz.prog 91 [.u (.one (.d (.sl 1 (List.map (rI .i64) s)))), .u (.one (.fn 35 [.ref (Tree.row cv) 0]))] (.u (.one (.d (.int .i64 r)))) := (f_slices_IndexFunc_int_int_tree_Eval_1 s cv r hm).pureW
theorem f_slices_ContainsFunc_int_int_tree_Eval_1 (s : List Int) (cv : Tree) (r : Bool) (hm : m_slices_ContainsFunc_int_int_tree_Eval_1 s cv = some r) : PFn Tryz.prog 34 [.u (.one (.d (.sl 1 (List.map (rI .i64) s)))), .u (.one (.fn 35 [.ref (Tree.row cv) 0]))] (fun v => v.wk (.u (.one (.d (.bool r))))) := by
 refine aH Tryz.func34 Tryz.ntmps34 rfl (by kernel_rfl) (by simp) fun cx hn => ?_
 unfold m_slices_ContainsFunc_int_int_tree_Eval_1 at hm
 refine srs hn ?_
 simp -dsimp
 refine srs hn ?_
 obtain ⟨y, h1, hm⟩ := bnd hm
 simp -dsimp
 refine aa (c_slices_IndexFunc_int_int_tree_Eval_1 s cv y h1) (dkL hn) ?_
 simp -dsimp
 refine ab ?_
 cases hm
 refine ⟨.inr rfl, ?_⟩
 exact EE.here (by simp -dsimp)
theorem c_slices_ContainsFunc_int_int_tree_Eval_1 (s : List Int) (cv : Tree) (r : Bool) (hm : m_slices_ContainsFunc_int_int_tree_Eval_1 s cv = some r) : PureCall Tryz.prog 34 [.u (.one (.d (.sl 1 (List.map (rI .i64) s)))), .u (.one (.fn 35 [.ref (Tree.row cv) 0]))] (.u (.one (.d (.bool r)))) := (f_slices_ContainsFunc_int_int_tree_Eval_1 s cv r hm).pureW
def F_tree_value_1 (cx : Cx) (_t : Tree) (_in_ : List Int) (tt : Int) (ee : Exit) (ρ : Env) (σ : Sto) : Prop := match tt with
 | k => ee = .exit 0 ∧ EE cx (aK [(5, .u (.one (.d (.int .i64 k))))] []) ρ σ
theorem l_tree_value_1 (cx : Cx) (hn : cx.n = 29) (t : Tree) (in_ : List Int) {fu : Nat} {stt : Int × Int} {tt : Int} (hh : ah (b_tree_value_1 t in_) fu stt = some tt) {ρ : Env} {σ : Sto}
  (hE : aT (fun stt : Int × Int => match stt with | (k, a) => [(2, .u (.one (.box 2 0))), (5, .u (.one (.d (.int .i64 k)))), (12, .u (.one (.d (.sl 1 (List.map (rI .i64) in_))))), (13, .u (.one (.d (.int .i64 (al in_))))), (14, .u (.one (.d (.int .i64 a))))]) (fun stt : Int × Int => match stt with | (_k, _a) => [(2, .box [.d (.int .i64 t.States), .d (.sl 2 (List.map Point.row t.Hood)), .d (.sl 2 (List.map Node.row t.Nodes))])]) stt ρ σ) : Swp Tryz.prog cx (.loop (bi [1, 1, 0, 1, 0, 0] (aG Tryz.f36))) ρ σ (F_tree_value_1 cx t in_ tt) := by
 refine b3 hE hh (F_tree_value_1 cx t in_) ?_
 rintro ⟨k, a⟩ r hm ρ σ hf
 simp only [Fits, ar, ap, and_true] at hf
 unfold b_tree_value_1 at hm
 dsimp only at hm
 refine srs hn ?_
 simp -dsimp [hf]
 refine ae ?_
 rcases aj hm with ⟨c1, hm⟩ | ⟨c1, hm⟩
 ·refine a8 (by simp -dsimp) c1 ?_
  refine ac (a6 (ae (ai ?_)))
  refine srs hn ?_
  obtain ⟨x, h2, hm⟩ := bnd hm
  simp -dsimp [hf, c1, h2]
  refine sr1 hn ?_
  obtain ⟨x1, h3, hm⟩ := bnd hm
  obtain ⟨x2, h4, hm⟩ := bnd hm
  simp -dsimp [hf, h3, h4]
  refine aC ?_
  refine a6 ?_
  refine sr1 hn ?_
  simp -dsimp [hf]
  cases hm
  refine ax ?_
  exact EE.here (by simp -dsimp [hf])
 ·refine a7 (by simp -dsimp) c1 ?_
  refine au ?_
  refine ag ?_
  cases hm
  refine aw nofun ?_
  unfold F_tree_value_1
  dsimp only
  refine ⟨rfl, ?_⟩
  exact EE.here (by simp -dsimp [hf, c1])
theorem f_tree_value (t : Tree) (in_ : List Int) (r : Int) (hm : m_tree_value t in_ = some r) : PFn Tryz.prog 36 [.u (.agg [.d (.int .i64 t.States), .d (.sl 2 (List.map Point.row t.Hood)), .d (.sl 2 (List.map Node.row t.Nodes))]), .u (.one (.d (.sl 1 (List.map (rI .i64) in_))))] (fun v => v.wk (.u (.one (.d (.int .i64 r))))) := by
 refine aH Tryz.func36 Tryz.ntmps36 rfl (by kernel_rfl) (by simp) fun cx hn => ?_
 unfold m_tree_value at hm
 refine srs hn ?_
 simp -dsimp
 refine srs hn ?_
 simp -dsimp
 refine ae ?_
 refine srs hn ?_
 simp -dsimp
 refine ai ?_
 obtain ⟨k, g5, hm⟩ := bnd hm
 refine aF (l_tree_value_1 cx hn t in_ g5) (by
   try dsimp only
   exact EE.here (by simp -dsimp)
 ) fun ee ρ σ x6 => ?_
 unfold F_tree_value_1 at x6
 dsimp only at x6
 obtain ⟨rfl, x6⟩ := x6
 refine av ?_
 refine a6 ?_
 refine aV (by rfl) (by rfl) x6 fun ρ σ hf => ?_
 simp only [Fits, ar, ap, and_true] at hf
 refine srs hn ?_
 simp -dsimp [hf]
 refine ab ?_
 cases hm
 refine ⟨.inr rfl, ?_⟩
 exact EE.here (by simp -dsimp)
theorem c_tree_value (t : Tree) (in_ : List Int) (r : Int) (hm : m_tree_value t in_ = some r) : PureCall Tryz.prog 36 [.u (.agg [.d (.int .i64 t.States), .d (.sl 2 (List.map Point.row t.Hood)), .d (.sl 2 (List.map Node.row t.Nodes))]), .u (.one (.d (.sl 1 (List.map (rI .i64) in_))))] (.u (.one (.d (.int .i64 r)))) := (f_tree_value t in_ r hm).pureW
theorem f_tree_Eval (t : Tree) (in_ : List Int) (r : Int × Int) (hm : m_tree_Eval t in_ = some r) : PFn Tryz.prog 15 [.u (.agg [.d (.int .i64 t.States), .d (.sl 2 (List.map Point.row t.Hood)), .d (.sl 2 (List.map Node.row t.Nodes))]), .u (.one (.d (.sl 1 (List.map (rI .i64) in_))))] (fun v => v.wk (.tup [.one (.d (.int .i64 r.1)), .one (.d (.int .i64 r.2))])) := by
 refine aH Tryz.func15 Tryz.ntmps15 rfl (by kernel_rfl) (by simp) fun cx hn => ?_
 unfold m_tree_Eval at hm
 refine srs hn ?_
 simp -dsimp
 refine ae (ai ?_)
 refine srs hn ?_
 obtain ⟨y, h1, hm⟩ := bnd hm
 simp -dsimp
 refine aa (c_tree_Right t y h1) (dkL hn) ?_
 simp -dsimp
 rcases aj hm with ⟨c2, hm⟩ | ⟨c2, hm⟩
 ·refine a8 (by simp -dsimp) c2 ?_
  refine srs hn ?_
  simp -dsimp [c2]
  refine ab (aL (ag ?_))
  cases hm
  refine ⟨.inr rfl, ?_⟩
  exact EE.here (by simp -dsimp)
 ·refine a7 (by simp -dsimp) c2 ?_
  refine srs hn ?_
  simp -dsimp [c2]
  rcases aj hm with ⟨c3, hm⟩ | ⟨c3, hm⟩
  ·refine a8 (by simp -dsimp) c3 ?_
   refine srs hn ?_
   simp -dsimp [c3]
   refine ab (aL (ag ?_))
   cases hm
   refine ⟨.inr rfl, ?_⟩
   exact EE.here (by simp -dsimp)
  ·refine a7 (by simp -dsimp) c3 ?_
   refine srs hn ?_
   obtain ⟨y1, h4, hm⟩ := bnd hm
   simp -dsimp [c3]
   refine du (us' := [.u (.one (.d (.sl 1 (List.map (rI .i64) in_)))), .u (.one (.fn 35 [.ref (Tree.row t) 0]))]) (c_slices_ContainsFunc_int_int_tree_Eval_1 in_ t y1 h4) (by simp -dsimp) rfl (dkL hn) ?_
   simp -dsimp
   rcases aj hm with ⟨c5, hm⟩ | ⟨c5, hm⟩
   ·refine a8 (by simp -dsimp) c5 ?_
    refine srs hn ?_
    simp -dsimp [c5]
    refine ab (aL (ag ?_))
    cases hm
    refine ⟨.inr rfl, ?_⟩
    exact EE.here (by simp -dsimp)
   ·refine a7 (by simp -dsimp) c5 ?_
    refine ac ?_
    refine aC ?_
    refine a6 ?_
    refine srs hn ?_
    obtain ⟨y2, h6, hm⟩ := bnd hm
    simp -dsimp [c5]
    refine aa (c_tree_value t in_ y2 h6) (dkL hn) ?_
    simp -dsimp
    refine ab ?_
    cases hm
    refine ⟨.inr rfl, ?_⟩
    exact EE.here (by simp -dsimp)
theorem c_tree_Eval (t : Tree) (in_ : List Int) (r : Int × Int) (hm : m_tree_Eval t in_ = some r) : PureCall Tryz.prog 15 [.u (.agg [.d (.int .i64 t.States), .d (.sl 2 (List.map Point.row t.Hood)), .d (.sl 2 (List.map Node.row t.Nodes))]), .u (.one (.d (.sl 1 (List.map (rI .i64) in_))))] (.tup [.one (.d (.int .i64 r.1)), .one (.d (.int .i64 r.2))]) := (f_tree_Eval t in_ r hm).pureW
theorem n_slices_Clone_int_int (l : List Int) (r : List Int) (hm : m_slices_Clone_int_int l = some r) : NewFn Tryz.prog 152 [.u (.one (.d (.sl 1 (List.map (rI .i64) l))))] (fun o => o = .row 1 3 (List.map (rI .i64) r)) := by
 refine new_S aM _ Tryz.func152 rfl (by kernel_rfl) (by simp [Tryz.ntmps152]) fun cx hn => ?_
 replace hn : cx.n = 8 := hn.trans Tryz.ntmps152
 have ha := (aB hm).1
 have hr : r = l := (aB hm).2
 clear hm
 subst hr
 simp only [List.length_nil, Nat.zero_add] at ha
 refine srs hn ?_
 simp -dsimp
 refine ae ?_
 refine srs hn ?_
 cases r with
 | nil =>
  simp -dsimp
  refine ⟨?_, ?_⟩
  ·refine a8 (b := true) (by simp -dsimp) rfl ?_
   refine srs hn ?_
   simp -dsimp
   refine ab (ag ?_)
   refine ⟨.inr rfl, ?_⟩; simp -dsimp
  ·refine a7 (b := false) (by simp -dsimp) rfl ?_
   refine ac (a6 ?_)
   refine srs hn ?_
   simp -dsimp
   refine ab ?_
   refine ⟨.inr rfl, ?_⟩; simp -dsimp
 | cons x xs =>
  simp -dsimp
  refine a7 (b := false) (by simp -dsimp) rfl ?_
  refine ac (a6 ?_)
  refine srs hn ?_
  simp only [List.length_cons] at ha
  simp -dsimp [ha]
  refine ab ?_
  refine ⟨.inr rfl, ?_⟩; simp -dsimp
theorem f_reduce_Reduce_1 (x : Int) (next : List Int) (r : List Int) (hm : m_reduce_Reduce_1 x next = some r) : PFn Tryz.prog 95 [.u (.one (.d (.int .i64 x))), .u (.one (.d (.sl 1 (List.map (rI .i64) next))))] (fun v => v.wk (.u (.one (.d (.sl 1 (List.map (rI .i64) r)))))) := by
 refine aH Tryz.func95 Tryz.ntmps95 rfl (by kernel_rfl) (by simp) fun cx hn => ?_
 unfold m_reduce_Reduce_1 at hm
 refine srs hn ?_
 simp -dsimp
 refine srs hn ?_
 simp -dsimp
 refine ab ?_
 cases hm
 refine ⟨.inr rfl, ?_⟩
 exact EE.here (by simp -dsimp)
theorem c_reduce_Reduce_1 (x : Int) (next : List Int) (r : List Int) (hm : m_reduce_Reduce_1 x next = some r) : PureCall Tryz.prog 95 [.u (.one (.d (.int .i64 x))), .u (.one (.d (.sl 1 (List.map (rI .i64) next))))] (.u (.one (.d (.sl 1 (List.map (rI .i64) r))))) := (f_reduce_Reduce_1 x next r hm).pureW
theorem g_internal_strconv_AppendInt_N (i : Int) (base : Int) (r : List Int) (hm : m_internal_strconv_AppendInt_N i base = some r) : GFn Tryz.prog 168 [.u (.one (.d .nil)), .u (.one (.d (.int .i64 i))), .u (.one (.d (.int .i64 base)))] [] (.u (.one (.own 1000000))) [some (.row 1 5 (List.map (rI .u8) r))] := by
 refine bf aM _ Tryz.func168 rfl (by kernel_rfl) (by simp [Tryz.ntmps168]) (by simp) (by first | rfl | simp) (by first | rfl | simp) fun cx hn hk => ?_
 replace hn : cx.n = 21 := hn.trans Tryz.ntmps168
 replace hk : cx.k = 0 := hk
 unfold m_internal_strconv_AppendInt_N at hm
 refine srs hn ?_
 simp -dsimp
 refine srs hn ?_
 simp -dsimp
 obtain ⟨⟨u, dst⟩, j4, hm⟩ := bnd hm
 refine am [(0, .u (.one (.own 5000))), (2, .u (.one (.d (.int .i64 base)))), (7, .u (.one (.d (.int .u64 u))))] [(5000, .row 1 5 (List.map (rI .u8) dst))] (by rfl) (by rfl) ?_ fun ρ σ hf => ?_
 ·replace hm := j4
  clear j4
  refine srs hn ?_
  simp -dsimp
  rcases aj hm with ⟨c1, hm⟩ | ⟨c1, hm⟩
  ·refine a8 (by simp -dsimp) c1 ?_
   refine srs hn ?_
   obtain ⟨l, h2, hm⟩ := bnd hm
   obtain ⟨h2a, h2e⟩ := aB h2
   replace h2e := h2e.symm
   subst h2e
   try simp only [List.length_cons, List.length_nil, Nat.zero_add] at h2a
   try simp only [Nat.mul_one, Nat.reduceLeDiff] at h2a
   simp -dsimp [c1]
   refine sr1 hn ?_
   simp -dsimp
   refine a6 ?_
   cases hm
   refine EE.step (Wk.move 14 5000 (by decide) (.inl (by decide))) ?_
   exact EE.here (by simp -dsimp)
  ·refine a7 (by simp -dsimp) c1 ?_
   refine ac (a6 ?_)
   cases hm
   refine EE.step (Wk.own0 0 5000 1 5 (by simp -dsimp [c1]) (by decide)) ?_
   exact EE.here (by simp -dsimp [c1])
 ·clear j4
  simp only [Fits, ar, ap, and_true] at hf
  refine srs hn ?_
  obtain ⟨y, h3, hm⟩ := bnd hm
  simp -dsimp [hf]
  refine aY (bC dst u base y h3) [5000] [5001] rfl rfl rfl (by simp -dsimp) rfl (by simp -dsimp [hf]) (by first | rfl | simp) rfl (dkL hn) ?_
  simp -dsimp
  refine ab ?_
  cases hm
  refine ⟨.inr rfl, ?_⟩
  refine EE.step (Wk.move 5001 1000000 (by decide) (.inr (by rw [hk]; decide))) ?_
  exact EE.here (by simp -dsimp)
theorem g_strconv_AppendInt_N (i : Int) (base : Int) (r : List Int) (hm : m_strconv_AppendInt_N i base = some r) : GFn Tryz.prog 135 [.u (.one (.d .nil)), .u (.one (.d (.int .i64 i))), .u (.one (.d (.int .i64 base)))] [] (.u (.one (.own 1000000))) [some (.row 1 5 (List.map (rI .u8) r))] := by
 refine bf aM _ Tryz.func135 rfl (by kernel_rfl) (by simp [Tryz.ntmps135]) (by simp) (by first | rfl | simp) (by first | rfl | simp) fun cx hn hk => ?_
 replace hn : cx.n = 11 := hn.trans Tryz.ntmps135
 replace hk : cx.k = 0 := hk
 unfold m_strconv_AppendInt_N at hm
 refine srs hn ?_
 simp -dsimp
 refine srs hn ?_
 obtain ⟨y, h1, hm⟩ := bnd hm
 simp -dsimp
 refine aY (g_internal_strconv_AppendInt_N i base y h1) [] [5000] rfl rfl rfl (by simp -dsimp) rfl (by simp -dsimp) (by first | rfl | simp) rfl (dkL hn) ?_
 simp -dsimp
 refine ab ?_
 cases hm
 refine ⟨.inr rfl, ?_⟩
 refine EE.step (Wk.move 5000 1000000 (by decide) (.inr (by rw [hk]; decide))) ?_
 exact EE.here (by simp -dsimp)
end Go.Proofs.YtldhnnkpmhnpcaaGreatDoor
