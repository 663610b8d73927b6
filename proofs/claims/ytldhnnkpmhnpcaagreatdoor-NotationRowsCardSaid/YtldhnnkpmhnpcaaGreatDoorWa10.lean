/- That the code does what the functions say (made by cc.py). -/
import Derived.Test.YtldhnnkpmhnpcaaGreatDoorWa9
namespace Go.Proofs.YtldhnnkpmhnpcaaGreatDoor
open Go.AM Go.Proofs
attribute [-simp] qlookup bv cb Ob.wipe Ob.ren Ob.frz1 cd
theorem f_reduce_Reduce (t : Tree) (r : Tree) (hm : m_reduce_Reduce t = some r) : PFn Tryz.prog 39 [.u (.agg [.d (.int .i64 t.States), .d (.sl 2 (List.map Point.row t.Hood)), .d (.sl 2 (List.map Node.row t.Nodes))])] (fun v => v.wk (.u (.agg [.d (.int .i64 r.States), .d (.sl 2 (List.map Point.row r.Hood)), .d (.sl 2 (List.map Node.row r.Nodes))]))) := by
 refine aH Tryz.func39 Tryz.ntmps39 rfl (by kernel_rfl) (by simp) fun cx hn => ?_
 unfold m_reduce_Reduce at hm
 refine srs hn ?_
 simp -dsimp
 refine ae ?_
 refine srs hn ?_
 obtain ⟨y, h1, hm⟩ := bnd hm
 simp -dsimp
 refine aa (c_tree_Right t y h1) (dkL hn) ?_
 simp -dsimp
 rcases aj hm with ⟨c2, hm⟩ | ⟨c2, hm⟩
 ·refine a8 (by simp -dsimp) c2 ?_
  refine srs hn ?_
  simp -dsimp [c2]
  refine ab (ag ?_)
  cases hm
  refine ⟨.inr rfl, ?_⟩
  exact EE.here (by simp -dsimp)
 ·refine a7 (by simp -dsimp) c2 ?_
  refine ac (a6 ?_)
  refine srs hn ?_
  obtain ⟨y1, h3, hm⟩ := bnd hm
  simp -dsimp [c2]
  refine aa (c_reduce_rebuilt_reduce_Reduce_1 t y1 h3) (dkL hn) ?_
  simp -dsimp
  refine ab ?_
  cases hm
  refine ⟨.inr rfl, ?_⟩
  exact EE.here (by simp -dsimp)
theorem c_reduce_Reduce (t : Tree) (r : Tree) (hm : m_reduce_Reduce t = some r) : PureCall Tryz.prog 39 [.u (.agg [.d (.int .i64 t.States), .d (.sl 2 (List.map Point.row t.Hood)), .d (.sl 2 (List.map Node.row t.Nodes))])] (.u (.agg [.d (.int .i64 r.States), .d (.sl 2 (List.map Point.row r.Hood)), .d (.sl 2 (List.map Node.row r.Nodes))])) := (f_reduce_Reduce t r hm).pureW
def F_slices_Equal_int_int_1 (cx : Cx) (_sv1 : List Int) (_sv2 : List Int) (tt : Bool ⊕ Unit) (ee : Exit) (ρ : Env) (σ : Sto) : Prop := match tt with
 | .inl r => ee = .ret ∧ EE cx (fun ρ σ => ∃ v, cC tb ρ σ Tryz.f103.results.toList = some v ∧ (v.frz σ).free = true ∧ (v.frz σ).wk (.u (.one (.d (.bool r))))) ρ σ
 | .inr _u => ee = .exit 0 ∧ EE cx (aK [] []) ρ σ
theorem l_slices_Equal_int_int_1 (cx : Cx) (hn : cx.n = 26) (sv1 : List Int) (sv2 : List Int) {fu : Nat} {stt : Int} {tt : Bool ⊕ Unit} (hh : ah (b_slices_Equal_int_int_1 sv1 sv2) fu stt = some tt) {ρ : Env} {σ : Sto}
  (hE : aT (fun a : Int => [(0, .u (.one (.d (.sl 1 (List.map (rI .i64) sv1))))), (1, .u (.one (.d (.sl 1 (List.map (rI .i64) sv2))))), (12, .u (.one (.d (.int .i64 (al sv1))))), (13, .u (.one (.d (.int .i64 a))))]) (fun _a : Int => []) stt ρ σ) : Swp Tryz.prog cx (.loop (bi [1, 1, 0, 1, 0, 0] (aG Tryz.f103))) ρ σ (F_slices_Equal_int_int_1 cx sv1 sv2 tt) := by
 refine b3 hE hh (F_slices_Equal_int_int_1 cx sv1 sv2) ?_
 rintro a r hm ρ σ hf
 simp only [Fits, ar, ap, and_true] at hf
 unfold b_slices_Equal_int_int_1 at hm
 dsimp only at hm
 refine srs hn ?_
 simp -dsimp [hf]
 refine ae ?_
 rcases aj hm with ⟨c2, hm⟩ | ⟨c2, hm⟩
 ·refine a8 (by simp -dsimp) c2 ?_
  refine ac (a6 (ae (ai ?_)))
  refine srs hn ?_
  simp -dsimp [hf, c2]
  refine dV aM mixed (by rw [hn]; kernel_rfl) ?_
  obtain ⟨x, h3, hm⟩ := bnd hm
  obtain ⟨x1, h4, hm⟩ := bnd hm
  simp -dsimp [hf, h3, h4]
  rcases aj hm with ⟨c5, hm⟩ | ⟨c5, hm⟩
  ·refine a8 (by simp -dsimp) c5 ?_
   refine srs hn ?_
   simp -dsimp [c5]
   refine ab (aL (ag ?_))
   cases hm
   refine aw nofun ?_
   unfold F_slices_Equal_int_int_1
   dsimp only
   refine ⟨rfl, ?_⟩
   exact EE.here (by simp -dsimp [Tryz.results103])
  ·refine a7 (by simp -dsimp) c5 ?_
   refine ac ?_
   refine aC ?_
   refine a6 ?_
   refine sr1 hn ?_
   simp -dsimp [hf, c5]
   cases hm
   refine ax ?_
   exact EE.here (by simp -dsimp [hf])
 ·refine a7 (by simp -dsimp) c2 ?_
  refine au ?_
  refine ag ?_
  cases hm
  refine aw nofun ?_
  unfold F_slices_Equal_int_int_1
  dsimp only
  refine ⟨rfl, ?_⟩
  exact EE.here (by simp -dsimp [c2])
theorem f_slices_Equal_int_int (sv1 : List Int) (sv2 : List Int) (r : Bool) (hm : m_slices_Equal_int_int sv1 sv2 = some r) : PFn Tryz.prog 103 [.u (.one (.d (.sl 1 (List.map (rI .i64) sv1)))), .u (.one (.d (.sl 1 (List.map (rI .i64) sv2))))] (fun v => v.wk (.u (.one (.d (.bool r))))) := by
 refine aH Tryz.func103 Tryz.ntmps103 rfl (by kernel_rfl) (by simp) fun cx hn => ?_
 unfold m_slices_Equal_int_int at hm
 refine srs hn ?_
 simp -dsimp
 refine ae ?_
 refine srs hn ?_
 simp -dsimp
 rcases aj hm with ⟨c1, hm⟩ | ⟨c1, hm⟩
 ·refine a8 (by simp -dsimp) c1 ?_
  refine srs hn ?_
  simp -dsimp [c1]
  refine ab (ag ?_)
  cases hm
  refine ⟨.inr rfl, ?_⟩
  exact EE.here (by simp -dsimp)
 ·refine a7 (by simp -dsimp) c1 ?_
  refine ac (a6 (ae ?_))
  refine srs hn ?_
  simp -dsimp [c1]
  refine ai ?_
  obtain ⟨o_, g6, hm⟩ := bnd hm
  refine aF (l_slices_Equal_int_int_1 cx hn sv1 sv2 g6) (by
    try dsimp only
    exact EE.here (by simp -dsimp)
  ) fun ee ρ σ x7 => ?_
  rcases o_ with r | _u
  ·unfold F_slices_Equal_int_int_1 at x7
   dsimp only at x7
   obtain ⟨rfl, x7⟩ := x7
   refine aL (ag ?_)
   cases hm
   exact ⟨.inr rfl, x7⟩
  ·unfold F_slices_Equal_int_int_1 at x7
   dsimp only at x7
   obtain ⟨rfl, x7⟩ := x7
   refine av ?_
   refine a6 ?_
   refine aV (by rfl) (by rfl) x7 fun ρ σ hf => ?_
   simp only [Fits, ar, ap, and_true] at hf
   refine srs hn ?_
   simp -dsimp
   refine ab ?_
   cases hm
   refine ⟨.inr rfl, ?_⟩
   exact EE.here (by simp -dsimp)
theorem c_slices_Equal_int_int (sv1 : List Int) (sv2 : List Int) (r : Bool) (hm : m_slices_Equal_int_int sv1 sv2 = some r) : PureCall Tryz.prog 103 [.u (.one (.d (.sl 1 (List.map (rI .i64) sv1)))), .u (.one (.d (.sl 1 (List.map (rI .i64) sv2))))] (.u (.one (.d (.bool r)))) := (f_slices_Equal_int_int sv1 sv2 r hm).pureW
theorem f_tree_Same_1 (x : Node) (y : Node) (r : Bool) (hm : m_tree_Same_1 x y = some r) : PFn Tryz.prog 102 [.u (.agg [.d (.int .i64 x.Level), .d (.sl 1 (List.map (rI .i64) x.Next))]), .u (.agg [.d (.int .i64 y.Level), .d (.sl 1 (List.map (rI .i64) y.Next))])] (fun v => v.wk (.u (.one (.d (.bool r))))) := by
 refine aH Tryz.func102 Tryz.ntmps102 rfl (by kernel_rfl) (by simp) fun cx hn => ?_
 unfold m_tree_Same_1 at hm
 refine srs hn ?_
 simp -dsimp
 obtain ⟨a, j3, hm⟩ := bnd hm
 refine am [(4, .u (.one (.d (.bool a))))] [] (by rfl) (by rfl) ?_ fun ρ σ hf => ?_
 ·replace hm := j3
  clear j3
  refine sr1 hn ?_
  rcases aj hm with ⟨c1, hm⟩ | ⟨c1, hm⟩
  ·obtain ⟨y1, h2, hm⟩ := bnd hm
   simp -dsimp [c1]
   refine aa (c_slices_Equal_int_int x.Next y.Next y1 h2) (dkL hn) ?_
   simp -dsimp
   refine a6 ?_
   cases hm
   exact EE.here (by simp -dsimp)
  ·simp -dsimp [c1]
   refine a6 ?_
   cases hm
   exact EE.here (by simp -dsimp)
 ·clear j3
  simp only [Fits, ar, ap, and_true] at hf
  refine ab ?_
  cases hm
  refine ⟨.inr rfl, ?_⟩
  exact EE.here (by simp -dsimp [hf])
theorem c_tree_Same_1 (x : Node) (y : Node) (r : Bool) (hm : m_tree_Same_1 x y = some r) : PureCall Tryz.prog 102 [.u (.agg [.d (.int .i64 x.Level), .d (.sl 1 (List.map (rI .i64) x.Next))]), .u (.agg [.d (.int .i64 y.Level), .d (.sl 1 (List.map (rI .i64) y.Next))])] (.u (.one (.d (.bool r)))) := (f_tree_Same_1 x y r hm).pureW
def F_slices_EqualFunc_api_Node_api_Node_api_Node_api_Node_tree_Same_1_1 (cx : Cx) (_sv1 : List Node) (_sv2 : List Node) (tt : Bool ⊕ Unit) (ee : Exit) (ρ : Env) (σ : Sto) : Prop := match tt with
 | .inl r => ee = .ret ∧ EE cx (fun ρ σ => ∃ v, cC tb ρ σ Tryz.f101.results.toList = some v ∧ (v.frz σ).free = true ∧ (v.frz σ).wk (.u (.one (.d (.bool r))))) ρ σ
 | .inr _u => ee = .exit 0 ∧ EE cx (aK [] []) ρ σ
set_option maxRecDepth 100000 in
theorem l_slices_EqualFunc_api_Node_api_Node_api_Node_api_Node_tree_Same_1_1 (cx : Cx) (hn : cx.n = 32) (sv1 : List Node) (sv2 : List Node) {fu : Nat} {stt : Int} {tt : Bool ⊕ Unit} (hh : ah (b_slices_EqualFunc_api_Node_api_Node_api_Node_api_Node_tree_Same_1_1 sv1 sv2) fu stt = some tt) {ρ : Env} {σ : Sto}
  (hE : aT (fun a : Int => [(1, .u (.one (.d (.sl 2 (List.map Node.row sv2))))), (2, .u (.one (.fn 102 []))), (15, .u (.one (.d (.sl 2 (List.map Node.row sv1))))), (16, .u (.one (.d (.int .i64 (al sv1))))), (17, .u (.one (.d (.int .i64 a))))]) (fun _a : Int => []) stt ρ σ) : Swp Tryz.prog cx (.loop (bi [1, 1, 0, 1, 0, 0] (aG Tryz.f101))) ρ σ (F_slices_EqualFunc_api_Node_api_Node_api_Node_api_Node_tree_Same_1_1 cx sv1 sv2 tt) := by
 refine b3 hE hh (F_slices_EqualFunc_api_Node_api_Node_api_Node_api_Node_tree_Same_1_1 cx sv1 sv2) ?_
 rintro a r hm ρ σ hf
 simp only [Fits, ar, ap, and_true] at hf
 unfold b_slices_EqualFunc_api_Node_api_Node_api_Node_api_Node_tree_Same_1_1 at hm
 dsimp only at hm
 refine srs hn ?_
 simp -dsimp [hf]
 refine ae ?_
 rcases aj hm with ⟨c2, hm⟩ | ⟨c2, hm⟩
 ·refine a8 (by simp -dsimp) c2 ?_
  refine ac (a6 (ae (ai ?_)))
  refine srs hn ?_
  obtain ⟨x, h3, hm⟩ := bnd hm
  simp -dsimp [hf, c2, h3]
  refine srs hn ?_
  obtain ⟨x1, h4, hm⟩ := bnd hm
  simp -dsimp [hf, h4]
  refine srs hn ?_
  obtain ⟨y, h5, hm⟩ := bnd hm
  simp -dsimp [hf]
  refine aa (c_tree_Same_1 x x1 y h5) (dkL hn) ?_
  simp -dsimp
  rcases aj hm with ⟨c6, hm⟩ | ⟨c6, hm⟩
  ·refine a8 (by simp -dsimp) c6 ?_
   refine srs hn ?_
   simp -dsimp [c6]
   refine ab (aL (ag ?_))
   cases hm
   refine aw nofun ?_
   unfold F_slices_EqualFunc_api_Node_api_Node_api_Node_api_Node_tree_Same_1_1
   dsimp only
   refine ⟨rfl, ?_⟩
   exact EE.here (by simp -dsimp [Tryz.results101])
  ·refine a7 (by simp -dsimp) c6 ?_
   refine ac ?_
   refine aC ?_
   refine a6 ?_
   refine sr1 hn ?_
   simp -dsimp [hf, c6]
   cases hm
   refine ax ?_
   exact EE.here (by simp -dsimp [hf])
 ·refine a7 (by simp -dsimp) c2 ?_
  refine au ?_
  refine ag ?_
  cases hm
  refine aw nofun ?_
  unfold F_slices_EqualFunc_api_Node_api_Node_api_Node_api_Node_tree_Same_1_1
  dsimp only
  refine ⟨rfl, ?_⟩
  exact EE.here (by simp -dsimp [c2])
set_option maxRecDepth 100000 in
theorem f_slices_EqualFunc_api_Node_api_Node_api_Node_api_Node_tree_Same_1 (sv1 : List Node) (sv2 : List Node) (r : Bool) (hm : m_slices_EqualFunc_api_Node_api_Node_api_Node_api_Node_tree_Same_1 sv1 sv2 = some r) : PFn Tryz.prog 101 [.u (.one (.d (.sl 2 (List.map Node.row sv1)))), .u (.one (.d (.sl 2 (List.map Node.row sv2)))), .u (.one (.fn 102 []))] (fun v => v.wk (.u (.one (.d (.bool r))))) := by
 refine aH Tryz.func101 Tryz.ntmps101 rfl (by kernel_rfl) (by simp) fun cx hn => ?_
 unfold m_slices_EqualFunc_api_Node_api_Node_api_Node_api_Node_tree_Same_1 at hm
 refine srs hn ?_
 simp -dsimp
 refine ae ?_
 refine srs hn ?_
 simp -dsimp
 rcases aj hm with ⟨c1, hm⟩ | ⟨c1, hm⟩
 ·refine a8 (by simp -dsimp) c1 ?_
  refine srs hn ?_
  simp -dsimp [c1]
  refine ab (ag ?_)
  cases hm
  refine ⟨.inr rfl, ?_⟩
  exact EE.here (by simp -dsimp)
 ·refine a7 (by simp -dsimp) c1 ?_
  refine ac (a6 (ae ?_))
  refine srs hn ?_
  simp -dsimp [c1]
  refine ai ?_
  obtain ⟨o_, g7, hm⟩ := bnd hm
  refine aF (l_slices_EqualFunc_api_Node_api_Node_api_Node_api_Node_tree_Same_1_1 cx hn sv1 sv2 g7) (by
    try dsimp only
    exact EE.here (by simp -dsimp)
  ) fun ee ρ σ x8 => ?_
  rcases o_ with r | _u
  ·unfold F_slices_EqualFunc_api_Node_api_Node_api_Node_api_Node_tree_Same_1_1 at x8
   dsimp only at x8
   obtain ⟨rfl, x8⟩ := x8
   refine aL (ag ?_)
   cases hm
   exact ⟨.inr rfl, x8⟩
  ·unfold F_slices_EqualFunc_api_Node_api_Node_api_Node_api_Node_tree_Same_1_1 at x8
   dsimp only at x8
   obtain ⟨rfl, x8⟩ := x8
   refine av ?_
   refine a6 ?_
   refine aV (by rfl) (by rfl) x8 fun ρ σ hf => ?_
   simp only [Fits, ar, ap, and_true] at hf
   refine srs hn ?_
   simp -dsimp
   refine ab ?_
   cases hm
   refine ⟨.inr rfl, ?_⟩
   exact EE.here (by simp -dsimp)
theorem c_slices_EqualFunc_api_Node_api_Node_api_Node_api_Node_tree_Same_1 (sv1 : List Node) (sv2 : List Node) (r : Bool) (hm : m_slices_EqualFunc_api_Node_api_Node_api_Node_api_Node_tree_Same_1 sv1 sv2 = some r) : PureCall Tryz.prog 101 [.u (.one (.d (.sl 2 (List.map Node.row sv1)))), .u (.one (.d (.sl 2 (List.map Node.row sv2)))), .u (.one (.fn 102 []))] (.u (.one (.d (.bool r)))) := (f_slices_EqualFunc_api_Node_api_Node_api_Node_api_Node_tree_Same_1 sv1 sv2 r hm).pureW
theorem f_tree_Same (a : Tree) (b : Tree) (r : Bool) (hm : m_tree_Same a b = some r) : PFn Tryz.prog 45 [.u (.agg [.d (.int .i64 a.States), .d (.sl 2 (List.map Point.row a.Hood)), .d (.sl 2 (List.map Node.row a.Nodes))]), .u (.agg [.d (.int .i64 b.States), .d (.sl 2 (List.map Point.row b.Hood)), .d (.sl 2 (List.map Node.row b.Nodes))])] (fun v => v.wk (.u (.one (.d (.bool r))))) := by
 refine aH Tryz.func45 Tryz.ntmps45 rfl (by kernel_rfl) (by simp) fun cx hn => ?_
 unfold m_tree_Same at hm
 refine srs hn ?_
 simp -dsimp
 obtain ⟨a1, j5, hm⟩ := bnd hm
 refine am [(4, .u (.one (.d (.bool a1))))] [] (by rfl) (by rfl) ?_ fun ρ σ hf => ?_
 ·replace hm := j5
  clear j5
  refine sr1 hn ?_
  rcases aj hm with ⟨c1, hm⟩ | ⟨c1, hm⟩
  ·obtain ⟨y, h2, hm⟩ := bnd hm
   simp -dsimp [c1]
   refine aa (cZ a.Hood b.Hood y h2) (dkL hn) ?_
   rcases aj hm with ⟨c3, hm⟩ | ⟨c3, hm⟩
   ·obtain ⟨y1, h4, hm⟩ := bnd hm
    simp -dsimp [c3]
    refine aa (c_slices_EqualFunc_api_Node_api_Node_api_Node_api_Node_tree_Same_1 a.Nodes b.Nodes y1 h4) (dkL hn) ?_
    simp -dsimp
    refine a6 ?_
    cases hm
    exact EE.here (by simp -dsimp)
   ·simp -dsimp [c3]
    refine a6 ?_
    cases hm
    exact EE.here (by simp -dsimp)
  ·simp -dsimp [c1]
   refine a6 ?_
   cases hm
   exact EE.here (by simp -dsimp)
 ·clear j5
  simp only [Fits, ar, ap, and_true] at hf
  refine ab ?_
  cases hm
  refine ⟨.inr rfl, ?_⟩
  exact EE.here (by simp -dsimp [hf])
theorem c_tree_Same (a : Tree) (b : Tree) (r : Bool) (hm : m_tree_Same a b = some r) : PureCall Tryz.prog 45 [.u (.agg [.d (.int .i64 a.States), .d (.sl 2 (List.map Point.row a.Hood)), .d (.sl 2 (List.map Node.row a.Nodes))]), .u (.agg [.d (.int .i64 b.States), .d (.sl 2 (List.map Point.row b.Hood)), .d (.sl 2 (List.map Node.row b.Nodes))])] (.u (.one (.d (.bool r)))) := (f_tree_Same a b r hm).pureW
set_option maxRecDepth 100000 in
theorem f_reduce_Equal (a : Tree) (b : Tree) (r : Bool) (hm : m_reduce_Equal a b = some r) : PFn Tryz.prog 19 [.u (.agg [.d (.int .i64 a.States), .d (.sl 2 (List.map Point.row a.Hood)), .d (.sl 2 (List.map Node.row a.Nodes))]), .u (.agg [.d (.int .i64 b.States), .d (.sl 2 (List.map Point.row b.Hood)), .d (.sl 2 (List.map Node.row b.Nodes))])] (fun v => v.wk (.u (.one (.d (.bool r))))) := by
 refine aH Tryz.func19 Tryz.ntmps19 rfl (by kernel_rfl) (by simp) fun cx hn => ?_
 unfold m_reduce_Equal at hm
 refine srs hn ?_
 simp -dsimp
 obtain ⟨a1, j11, hm⟩ := bnd hm
 refine am [(4, .u (.one (.d (.bool a1))))] [] (by rfl) (by rfl) ?_ fun ρ σ hf => ?_
 ·replace hm := j11
  clear j11
  refine sw_qt aM mixed (by rw [hn]; kernel_rfl) ?_
  obtain ⟨y, h1, hm⟩ := bnd hm
  simp -dsimp
  refine aD (c_tree_Right a y h1) ?_
  rcases aj hm with ⟨c2, hm⟩ | ⟨c2, hm⟩
  ·obtain ⟨y1, h3, hm⟩ := bnd hm
   simp -dsimp [c2]
   refine aD (c_tree_Right b y1 h3) ?_
   rcases aj hm with ⟨c4, hm⟩ | ⟨c4, hm⟩
   ·rcases aj hm with ⟨c5, hm⟩ | ⟨c5, hm⟩
    ·obtain ⟨y2, h6, hm⟩ := bnd hm
     simp -dsimp [c4, c5]
     refine aD (cZ a.Hood b.Hood y2 h6) ?_
     rcases aj hm with ⟨c7, hm⟩ | ⟨c7, hm⟩
     ·obtain ⟨y3, h8, hm⟩ := bnd hm
      simp -dsimp [c7]
      refine aD (c_reduce_Reduce a y3 h8) ?_
      obtain ⟨y4, h9, hm⟩ := bnd hm
      simp -dsimp
      refine aD (c_reduce_Reduce b y4 h9) ?_
      obtain ⟨y5, h10, hm⟩ := bnd hm
      simp -dsimp
      refine aD (c_tree_Same y3 y4 y5 h10) ?_
      simp -dsimp
      refine a6 ?_
      cases hm
      exact EE.here (by simp -dsimp)
     ·simp -dsimp [c7]
      refine a6 ?_
      cases hm
      exact EE.here (by simp -dsimp)
    ·simp -dsimp [c4, c5]
     refine a6 ?_
     cases hm
     exact EE.here (by simp -dsimp)
   ·simp -dsimp [c4]
    refine a6 ?_
    cases hm
    exact EE.here (by simp -dsimp)
  ·simp -dsimp [c2]
   refine a6 ?_
   cases hm
   exact EE.here (by simp -dsimp)
 ·clear j11
  simp only [Fits, ar, ap, and_true] at hf
  refine ab ?_
  cases hm
  refine ⟨.inr rfl, ?_⟩
  exact EE.here (by simp -dsimp [hf])
theorem c_reduce_Equal (a : Tree) (b : Tree) (r : Bool) (hm : m_reduce_Equal a b = some r) : PureCall Tryz.prog 19 [.u (.agg [.d (.int .i64 a.States), .d (.sl 2 (List.map Point.row a.Hood)), .d (.sl 2 (List.map Node.row a.Nodes))]), .u (.agg [.d (.int .i64 b.States), .d (.sl 2 (List.map Point.row b.Hood)), .d (.sl 2 (List.map Node.row b.Nodes))])] (.u (.one (.d (.bool r)))) := (f_reduce_Equal a b r hm).pureW
def F_notation_Syms_1 (cx : Cx) (_t : Tree) (tt : (List Int)) (ee : Exit) (ρ : Env) (σ : Sto) : Prop := match tt with
 | out => ee = .exit 0 ∧ EE cx (aK [(3, .u (.one (.own 5000)))] [(5000, .row 1 3 (List.map (rI .i64) out))]) ρ σ
set_option maxRecDepth 100000 in
theorem l_notation_Syms_1 (cx : Cx) (hn : cx.n = 29) (t : Tree) {fu : Nat} {stt : Int × (List Int)} {tt : (List Int)} (hh : ah (b_notation_Syms_1 t) fu stt = some tt) {ρ : Env} {σ : Sto}
  (hE : aT (fun stt : Int × (List Int) => match stt with | (a, _out) => [(1, .u (.one (.box 1 0))), (3, .u (.one (.own 5000))), (7, .u (.one (.d (.int .i64 a))))]) (fun stt : Int × (List Int) => match stt with | (_a, out) => [(1, .box [.d (.int .i64 t.States), .d (.sl 2 (List.map Point.row t.Hood)), .d (.sl 2 (List.map Node.row t.Nodes))]), (5000, .row 1 3 (List.map (rI .i64) out))]) stt ρ σ) : Swp Tryz.prog cx (.loop (bi [1, 1, 0, 1, 0, 0] (aG Tryz.f9))) ρ σ (F_notation_Syms_1 cx t tt) := by
 refine b3 hE hh (F_notation_Syms_1 cx t) ?_
 rintro ⟨a, out⟩ r hm ρ σ hf
 simp only [Fits, ar, ap, and_true] at hf
 unfold b_notation_Syms_1 at hm
 dsimp only at hm
 refine srs hn ?_
 simp -dsimp [hf]
 refine ae ?_
 rcases aj hm with ⟨c1, hm⟩ | ⟨c1, hm⟩
 ·refine a8 (by simp -dsimp) c1 ?_
  refine ac (a6 ?_)
  obtain ⟨out1, j8, hm⟩ := bnd hm
  refine am [(1, .u (.one (.box 1 0))), (3, .u (.one (.own 5000))), (7, .u (.one (.d (.int .i64 a))))] [(1, .box [.d (.int .i64 t.States), .d (.sl 2 (List.map Point.row t.Hood)), .d (.sl 2 (List.map Node.row t.Nodes))]), (5000, .row 1 3 (List.map (rI .i64) out1))] (by rfl) (by rfl) ?_ fun ρ σ hf => ?_
  ·replace hm := j8
   clear j8
   refine ai ?_
   refine srs hn ?_
   simp -dsimp [hf, c1]
   refine srs hn ?_
   obtain ⟨y, h2, hm⟩ := bnd hm
   simp -dsimp [hf]
   refine aa (c_reduce_Turn a t y h2) (dkL hn) ?_
   simp -dsimp
   obtain ⟨a1, j7, hm⟩ := bnd hm
   refine am [(1, .u (.one (.box 1 0))), (3, .u (.one (.own 5000))), (4, .u (.one (.d (.int .i64 a)))), (7, .u (.one (.d (.int .i64 a)))), (22, .u (.one (.d (.bool a1))))] [(1, .box [.d (.int .i64 t.States), .d (.sl 2 (List.map Point.row t.Hood)), .d (.sl 2 (List.map Node.row t.Nodes))]), (5000, .row 1 3 (List.map (rI .i64) out))] (by rfl) (by rfl) ?_ fun ρ σ hf => ?_
   ·replace hm := j7
    clear j7
    refine sr1 hn ?_
    rcases aj hm with ⟨c3, hm⟩ | ⟨c3, hm⟩
    ·obtain ⟨y1, h4, hm⟩ := bnd hm
     simp -dsimp [hf, c3]
     refine aa (c_reduce_Equal t y.1 y1 h4) (dkL hn) ?_
     simp -dsimp
     refine a6 ?_
     cases hm
     exact EE.here (by simp -dsimp [hf])
    ·simp -dsimp [c3]
     refine a6 ?_
     cases hm
     exact EE.here (by simp -dsimp [hf])
   ·clear j7
    simp only [Fits, ar, ap, and_true] at hf
    rcases aj hm with ⟨c5, hm⟩ | ⟨c5, hm⟩
    ·refine a8 (by simp -dsimp [hf]) c5 ?_
     refine sr1 hn ?_
     obtain ⟨l, h6, hm⟩ := bnd hm
     obtain ⟨h6a, h6e⟩ := aB h6
     replace h6e := h6e.symm
     subst h6e
     try simp only [List.length_cons, List.length_nil, Nat.zero_add] at h6a
     simp -dsimp [hf, h6a]
     refine aC ?_
     refine a6 ?_
     cases hm
     refine EE.step (Wk.move 26 5000 (by decide) (.inl (by decide))) ?_
     exact EE.here (by simp -dsimp [hf])
    ·refine a7 (by simp -dsimp [hf]) c5 ?_
     refine ac ?_
     refine aC ?_
     refine a6 ?_
     cases hm
     exact EE.here (by simp -dsimp [hf])
  ·clear j8
   simp only [Fits, ar, ap, and_true] at hf
   refine sr1 hn ?_
   simp -dsimp [hf]
   cases hm
   refine ax ?_
   exact EE.here (by simp -dsimp [hf])
 ·refine a7 (by simp -dsimp) c1 ?_
  refine au ?_
  refine ag ?_
  cases hm
  refine aw nofun ?_
  unfold F_notation_Syms_1
  dsimp only
  refine ⟨rfl, ?_⟩
  exact EE.here (by simp -dsimp [hf, c1])
set_option maxRecDepth 100000 in
theorem f_notation_Syms (t : Tree) (r : List Int) (hm : m_notation_Syms t = some r) : PFn Tryz.prog 9 [.u (.agg [.d (.int .i64 t.States), .d (.sl 2 (List.map Point.row t.Hood)), .d (.sl 2 (List.map Node.row t.Nodes))])] (fun v => v.wk (.u (.one (.d (.sl 1 (List.map (rI .i64) r)))))) := by
 refine aH Tryz.func9 Tryz.ntmps9 rfl (by kernel_rfl) (by simp) fun cx hn => ?_
 unfold m_notation_Syms at hm
 refine srs hn ?_
 simp -dsimp
 refine srs hn ?_
 simp -dsimp
 refine ae ?_
 refine srs hn ?_
 simp -dsimp
 refine ai ?_
 obtain ⟨out, g9, hm⟩ := bnd hm
 refine aF (l_notation_Syms_1 cx hn t g9) (by
   try dsimp only
   refine EE.step (Wk.own0 3 5000 1 3 (by simp -dsimp) (by decide)) ?_
   exact EE.here (by simp -dsimp)
 ) fun ee ρ σ x10 => ?_
 unfold F_notation_Syms_1 at x10
 dsimp only at x10
 obtain ⟨rfl, x10⟩ := x10
 refine av ?_
 refine a6 ?_
 refine aV (by rfl) (by rfl) x10 fun ρ σ hf => ?_
 simp only [Fits, ar, ap, and_true] at hf
 refine srs hn ?_
 simp -dsimp [hf]
 refine ab ?_
 cases hm
 refine ⟨.inr rfl, ?_⟩
 exact EE.here (by simp -dsimp [hf])
theorem c_notation_Syms (t : Tree) (r : List Int) (hm : m_notation_Syms t = some r) : PureCall Tryz.prog 9 [.u (.agg [.d (.int .i64 t.States), .d (.sl 2 (List.map Point.row t.Hood)), .d (.sl 2 (List.map Node.row t.Nodes))])] (.u (.one (.d (.sl 1 (List.map (rI .i64) r))))) := (f_notation_Syms t r hm).pureW
def F_L12_Ints_1 (cx : Cx) (_a : List Int) (_b : List Int) (tt : Bool ⊕ Unit) (ee : Exit) (ρ : Env) (σ : Sto) : Prop := match tt with
 | .inl r => ee = .ret ∧ EE cx (fun ρ σ => ∃ v, cC tb ρ σ Tryz.f8.results.toList = some v ∧ (v.frz σ).free = true ∧ (v.frz σ).wk (.u (.one (.d (.bool r))))) ρ σ
 | .inr _u => ee = .exit 0 ∧ EE cx (aK [] []) ρ σ
theorem l_L12_Ints_1 (cx : Cx) (hn : cx.n = 26) (a : List Int) (b : List Int) {fu : Nat} {stt : Int} {tt : Bool ⊕ Unit} (hh : ah (b_L12_Ints_1 a b) fu stt = some tt) {ρ : Env} {σ : Sto}
  (hE : aT (fun a1 : Int => [(0, .u (.one (.d (.sl 1 (List.map (rI .i64) a))))), (1, .u (.one (.d (.sl 1 (List.map (rI .i64) b))))), (12, .u (.one (.d (.int .i64 (al a))))), (13, .u (.one (.d (.int .i64 a1))))]) (fun _a1 : Int => []) stt ρ σ) : Swp Tryz.prog cx (.loop (bi [1, 1, 0, 1, 0, 0] (aG Tryz.f8))) ρ σ (F_L12_Ints_1 cx a b tt) := by
 refine b3 hE hh (F_L12_Ints_1 cx a b) ?_
 rintro a1 r hm ρ σ hf
 simp only [Fits, ar, ap, and_true] at hf
 unfold b_L12_Ints_1 at hm
 dsimp only at hm
 refine srs hn ?_
 simp -dsimp [hf]
 refine ae ?_
 rcases aj hm with ⟨c2, hm⟩ | ⟨c2, hm⟩
 ·refine a8 (by simp -dsimp) c2 ?_
  refine ac (a6 (ae (ai ?_)))
  refine srs hn ?_
  simp -dsimp [hf, c2]
  refine dV aM mixed (by rw [hn]; kernel_rfl) ?_
  obtain ⟨x, h3, hm⟩ := bnd hm
  obtain ⟨x1, h4, hm⟩ := bnd hm
  simp -dsimp [hf, h3, h4]
  rcases aj hm with ⟨c5, hm⟩ | ⟨c5, hm⟩
  ·refine a8 (by simp -dsimp) c5 ?_
   refine srs hn ?_
   simp -dsimp [c5]
   refine ab (aL (ag ?_))
   cases hm
   refine aw nofun ?_
   unfold F_L12_Ints_1
   dsimp only
   refine ⟨rfl, ?_⟩
   exact EE.here (by simp -dsimp [Tryz.results8])
  ·refine a7 (by simp -dsimp) c5 ?_
   refine ac ?_
   refine aC ?_
   refine a6 ?_
   refine sr1 hn ?_
   simp -dsimp [hf, c5]
   cases hm
   refine ax ?_
   exact EE.here (by simp -dsimp [hf])
 ·refine a7 (by simp -dsimp) c2 ?_
  refine au ?_
  refine ag ?_
  cases hm
  refine aw nofun ?_
  unfold F_L12_Ints_1
  dsimp only
  refine ⟨rfl, ?_⟩
  exact EE.here (by simp -dsimp [c2])
theorem f_L12_Ints (a : List Int) (b : List Int) (r : Bool) (hm : m_L12_Ints a b = some r) : PFn Tryz.prog 8 [.u (.one (.d (.sl 1 (List.map (rI .i64) a)))), .u (.one (.d (.sl 1 (List.map (rI .i64) b))))] (fun v => v.wk (.u (.one (.d (.bool r))))) := by
 refine aH Tryz.func8 Tryz.ntmps8 rfl (by kernel_rfl) (by simp) fun cx hn => ?_
 unfold m_L12_Ints at hm
 refine srs hn ?_
 simp -dsimp
 refine ae ?_
 refine srs hn ?_
 simp -dsimp
 rcases aj hm with ⟨c1, hm⟩ | ⟨c1, hm⟩
 ·refine a8 (by simp -dsimp) c1 ?_
  refine srs hn ?_
  simp -dsimp [c1]
  refine ab (ag ?_)
  cases hm
  refine ⟨.inr rfl, ?_⟩
  exact EE.here (by simp -dsimp)
 ·refine a7 (by simp -dsimp) c1 ?_
  refine ac (a6 (ae ?_))
  refine srs hn ?_
  simp -dsimp [c1]
  refine ai ?_
  obtain ⟨o_, g6, hm⟩ := bnd hm
  refine aF (l_L12_Ints_1 cx hn a b g6) (by
    try dsimp only
    exact EE.here (by simp -dsimp)
  ) fun ee ρ σ x7 => ?_
  rcases o_ with r | _u
  ·unfold F_L12_Ints_1 at x7
   dsimp only at x7
   obtain ⟨rfl, x7⟩ := x7
   refine aL (ag ?_)
   cases hm
   exact ⟨.inr rfl, x7⟩
  ·unfold F_L12_Ints_1 at x7
   dsimp only at x7
   obtain ⟨rfl, x7⟩ := x7
   refine av ?_
   refine a6 ?_
   refine aV (by rfl) (by rfl) x7 fun ρ σ hf => ?_
   simp only [Fits, ar, ap, and_true] at hf
   refine srs hn ?_
   simp -dsimp
   refine ab ?_
   cases hm
   refine ⟨.inr rfl, ?_⟩
   exact EE.here (by simp -dsimp)
theorem c_L12_Ints (a : List Int) (b : List Int) (r : Bool) (hm : m_L12_Ints a b = some r) : PureCall Tryz.prog 8 [.u (.one (.d (.sl 1 (List.map (rI .i64) a)))), .u (.one (.d (.sl 1 (List.map (rI .i64) b))))] (.u (.one (.d (.bool r)))) := (f_L12_Ints a b r hm).pureW
section
open Go.AM Go.Proofs Go.RowKit Go.Lib Go.Shelf
theorem dgC_eq (n : Int) : dgC n = .int .u8 (dgB n).toNat := by
 unfold dgC dgB
 have h1 : 0 ≤ wrap64 (48 + n) % 256 := Int.emod_nonneg _ (by decide)
 have h2 : wrap64 (48 + n) % 256 < 256 := Int.emod_lt_of_pos _ (by decide)
 rw [UInt8.toNat_ofNat']
 congr 1
 omega
theorem slice_of {w : World} {F : Nat → Prop} {l : List Int} {v : Value} (h : rep w F (.sl 1 (l.map (rI .i64))) v) : ∃ ao c, v = .slice ao l.length c ∧ ∀ (j : Nat) n, l[j]? = some n → ∃ bk o, ao = some ⟨bk, o, none⟩ ∧ bk < w.heap.size ∧ w.cell? ⟨bk, o + j, none⟩ = some (.int .i64 n) := by
 simp only [rep] at h
 obtain ⟨ao, n, c, rfl, hn, hc, hm, hr⟩ := h
 rw [List.length_map] at hn
 subst hn
 refine ⟨ao, c, rfl, fun j x hx => ?_⟩
 rcases hr with hr | ⟨b, o, rfl, _, hb, hrows⟩
 ·have : l = [] := by simpa using hr
  rw [this] at hx
  simp at hx
 ·obtain ⟨_, h2⟩ := repRows_get hrows (i := j) (r := rI .i64 x) (by rw [List.getElem?_map, hx]; rfl)
  rw [Nat.mul_one] at h2
  obtain ⟨⟨u, hu, hur⟩, _⟩ := h2
  simp only [rep] at hur
  subst hur
  exact ⟨b, o, rfl, hb, hu⟩
theorem bldAt_below {T e : TypeId} {B b : Nat} {p : Value} {bs : List Value} {W W' : World} (h : BuilderAtF T e B b p bs W) (hb : Below W.heap.size W W') : BuilderAtF T e B b p bs W' := by
 have hlt := h.lt
 obtain ⟨hB, v, hv, hown, hne⟩ := h
 exact ⟨hB, v, (hb.block b hlt).trans hv, hown.kept (row := none) ⟨hb.os, hb.tape, hb.output, hb.size, fun k hk _ => hb.block k hk⟩ (Classical.em _), hne⟩
theorem isBld_below {T e : TypeId} {B b : Nat} {bs : List Value} {W W' : World} (h : IsBuilderF T e B b bs W) (hb : Below W.heap.size W W') : IsBuilderF T e B b bs W' :=
 h.elim (fun x => .inl (bldAt_below x hb)) (fun x => .inr (bldAt_below x hb))
theorem fr_below {w w' : World} {F : Nat → Prop} (h : Fr w F) (hb : Blw w.heap.size w w') : Fr w' F := ⟨fun b hb' => h.new b (Nat.le_trans hb.size hb'), h.gw.keep (fun b hl => hb.block b (h.gw.low b hl).2) hb.size fun b hl => (h.gw.low b hl).1⟩
set_option maxHeartbeats 4000000 in
set_option maxRecDepth 100000 in
theorem c_lifelike_Text (t : Totals) (r : List UInt8) (hm : m_lifelike_Text t = some r) : PureCall Tryz.prog 46 [.u (.agg [.d (.sl 2 (List.map Point.row t.Hood)), .d (.int .i64 t.States), .d (.sl 1 (List.map (rI .i64) t.Birth)), .d (.sl 1 (List.map (rI .i64) t.Survive))])] (.u (.one (.d (.str (bs r))))) := by
 refine ⟨⟨_, Tryz.func46, by decide, rfl⟩, fun φ w F hF vals hl hv => ?_⟩
 match vals, hl with
 | [a], _ =>
  have ha := hv 0 _ _ rfl rfl
  obtain ⟨arr, rfl, hcs⟩ := ha
  simp only [csims, csim] at hcs
  obtain ⟨v1, r1, e1, h1, v2, r2, e2, h2, v3, r3, e3, h3, v4, r4, e4, h4, e5⟩ := hcs
  subst e5 e4 e3 e2
  have harr : arr = #[v1, v2, v3, v4] := by apply Array.ext'; exact e1
  subst harr
  clear e1
  simp only [rep] at h2
  subst h2
  obtain ⟨ok, hok, hm⟩ := bnd hm
  obtain ⟨ao3, c3, rfl, hb3⟩ := slice_of h3
  obtain ⟨ao4, c4, rfl, hb4⟩ := slice_of h4
  have hvs := hv 0 _ _ rfl rfl
  have hB1 : Blw w.heap.size w (w.alloc (.cells #[v1, .int .i64 t.States, .slice ao3 t.Birth.length c3, .slice ao4 t.Survive.length c4] 52)) := ⟨(Below.refl _ w).alloc (Nat.le_refl _) _, Nat.le_refl _⟩
  have hR : Calls Tryz.prog 64 #[.agg #[v1, .int .i64 t.States, .slice ao3 t.Birth.length c3, .slice ao4 t.Survive.length c4]] (w.alloc (.cells #[v1, .int .i64 t.States, .slice ao3 t.Birth.length c3, .slice ao4 t.Survive.length c4] 52)) fun e w' => e = .returned (.bool ok) ∧ Blw (w.heap.size + 1) (w.alloc (.cells #[v1, .int .i64 t.States, .slice ao3 t.Birth.length c3, .slice ao4 t.Survive.length c4] 52)) w' :=
   ((bg t ok hok).2 φ _ F (fr_below hF hB1) [_] rfl (fun i x u hi hu => by
    match i, hi, hu with
    | 0, hi, hu => cases hi; cases hu; exact vsim_keep (Keep.of_below hB1) _ _ hvs
    | i + 1, hi, _ => simp at hi)).mono fun e w' ⟨u, he, hb, hu⟩ => by
     simp only [vsim, usim, csim, rep] at hu
     subst hu
     exact ⟨he, by simpa using hb⟩
  clear hv
  by_cases hcase : ok = true ∧ t.States = 2
  ·obtain ⟨rfl, hs2⟩ := hcase
   rw [hs2] at hR hB1 hvs ⊢
   have hm2 := hm
   rw [show b9 true = false from by unfold b9; rfl, cond_false, show neB t.States 2 = false from by unfold neB; rw [hs2]; rfl, cond_false] at hm2
   cases hlen : Nat.ble (t.Birth.length + t.Survive.length) 1000000 with
   | false => rw [hlen] at hm2; cases hm2
   | true =>
   rw [hlen, cond_true] at hm2
   have hlen' := Nat.le_of_ble_eq_true hlen
   obtain ⟨q, hq, hm3⟩ := bnd hm2
   cases hql : Nat.ble q.1.length 1000000 with
   | false => rw [hql] at hm3; cases hm3
   | true =>
   rw [hql, cond_true] at hm3
   have hql' := Nat.le_of_ble_eq_true hql
   cases hm3
   clear hm hm2
   go_enter Tryz.func46, Tryz.ntmps46
   go_wp2_with (go_at_call 64; refine hR.mono ?_)
   rintro e W2 ⟨rfl, hB2⟩
   have hsz1 : (w.alloc (.cells #[v1, .int .i64 2, .slice ao3 t.Birth.length c3, .slice ao4 t.Survive.length c4] 52)).heap.size = w.heap.size + 1 := by simp
   have hsz2 : w.heap.size + 1 ≤ W2.heap.size := by have := hB2.size; omega
   have hB3 : Below W2.heap.size W2 (W2.alloc (.cells #[.pointer none, .slice none 0 0] 150)) := (Below.refl _ W2).alloc (Nat.le_refl _) _
   have hd : ∀ bk k, bk < w.heap.size → W2.cell? ⟨bk, k, none⟩ = w.cell? ⟨bk, k, none⟩ := fun bk k hbk => by
    rw [hB2.cell (p := ⟨bk, k, none⟩) (Nat.lt_succ_of_lt hbk), hB1.cell (p := ⟨bk, k, none⟩) hbk]
   have hbx : ∀ j u, (#[v1, .int .i64 2, .slice ao3 t.Birth.length c3, .slice ao4 t.Survive.length c4] : Array Value)[j]? = some u → W2.cell? ⟨w.heap.size, j, none⟩ = some u := fun j u hu => by
    rw [hB2.cell (p := ⟨w.heap.size, j, none⟩) (Nat.lt_succ_self _), Lib.cell_of_heap (heap_alloc_new w _)]
    exact hu
   have q1 := hbx 1 _ rfl
   have q2 : (W2.alloc (.cells #[.pointer none, .slice none 0 0] 150)).cell? ⟨w.heap.size, 2, none⟩ = some (.slice ao3 t.Birth.length c3) := (hB3.cell (p := ⟨w.heap.size, 2, none⟩) (by show w.heap.size < W2.heap.size; omega)).trans (hbx 2 _ rfl)
   have hb0 : Lib.IsBuilderF 150 5 W2.heap.size W2.heap.size [] (W2.alloc (.cells #[.pointer none, .slice none 0 0] 150)) := Lib.IsBuilderF.of (Lib.fresh_isBuilder 150 5 W2)
   have hw1 := write_is W2.heap.size W2.heap.size [] ⟨#[66]⟩ t.Birth ao3 c3 _ hb0 hB3.size (fun j n hj => by
    obtain ⟨bk, o, h1, h2, h3⟩ := hb3 j n hj
    exact ⟨bk, o, h1, by omega, by rw [hB3.cell (p := ⟨bk, o + j, none⟩) (by show bk < W2.heap.size; omega), hd bk _ h2]; exact h3⟩) (by
     have h1 : (⟨#[66]⟩ : ByteArray).size = 1 := rfl
     rw [h1, List.length_nil]
     omega)
   clear hR
   go_wp2_with (go_at_call 104; refine hw1.mono ?_)
   rintro e W4 ⟨rfl, hb4', hB4⟩
   clear hw1 hb0 q2
   have hB4' := hB3.trans hB4
   have q3 : W4.cell? ⟨w.heap.size, 3, none⟩ = some (.slice ao4 t.Survive.length c4) := (hB4'.cell (p := ⟨w.heap.size, 3, none⟩) (by show w.heap.size < W2.heap.size; omega)).trans (hbx 3 _ rfl)
   have hw2 := write_is W2.heap.size W2.heap.size _ ⟨#[47, 83]⟩ t.Survive ao4 c4 _ hb4' hB4'.size (fun j n hj => by
    obtain ⟨bk, o, h1, h2, h3⟩ := hb4 j n hj
    exact ⟨bk, o, h1, by omega, by rw [hB4'.cell (p := ⟨bk, o + j, none⟩) (by show bk < W2.heap.size; omega), hd bk _ h2]; exact h3⟩) (by
     have h1 : (⟨#[66]⟩ : ByteArray).size = 1 := rfl
     have h2 : (⟨#[47, 83]⟩ : ByteArray).size = 2 := rfl
     simp only [List.length_append, List.length_map, List.length_nil, Lib.strCells_length, h1, h2]
     omega)
   go_wp2_with (go_at_call 104; refine hw2.mono ?_)
   rintro e W5 ⟨rfl, hb5, hB5⟩
   clear hw2 q3
   have hB5' := hB4'.trans hB5
   have q0 : W5.cell? ⟨w.heap.size, 0, none⟩ = some v1 := (hB5'.cell (p := ⟨w.heap.size, 0, none⟩) (by show w.heap.size < W2.heap.size; omega)).trans (hbx 0 _ rfl)
   have hby : [] ++ Lib.strCells ⟨#[66]⟩ ++ t.Birth.map dgC ++ Lib.strCells ⟨#[47, 83]⟩ ++ t.Survive.map dgC = Lib.byteCells ([66] ++ t.Birth.map dgB ++ ([47, 83] ++ t.Survive.map dgB)) := by
    have e1 : ∀ l : List Int, l.map dgC = Lib.byteCells (l.map dgB) := fun l => by
     unfold Lib.byteCells
     rw [List.map_map]
     exact List.map_congr_left fun n _ => dgC_eq n
    rw [e1, e1, Lib.strCells_eq, Lib.strCells_eq]
    simp [Lib.byteCells]
   rw [hby] at hb5
   have hW5 : w.heap.size ≤ W5.heap.size := by have := hB5'.size; omega
   have hall : Blw w.heap.size w W5 := ⟨(hB1.toBelow.trans (hB2.toBelow.mono (Nat.le_succ _))).trans (hB5'.mono (by omega)), Nat.le_refl 0⟩
   have hL : Calls Tryz.prog 107 #[v1] W5 fun e w' => e = .returned (.tuple #[.string (bs q.1), .bool q.2]) ∧ Blw W5.heap.size W5 w' :=
    ((dL t.Hood q hq).2 φ W5 F (fr_below hF hall) [_] rfl (fun i x u hi hu => by
     match i, hi, hu with
     | 0, hi, hu => cases hi; cases hu; simp only [vsim, usim, csim]; exact rep_keep (Keep.of_below hall) _ _ h1
     | i + 1, hi, _ => simp at hi)).mono fun e w' ⟨u, he, hb, hu⟩ => by
      simp only [vsim] at hu
      obtain ⟨arr, rfl, hus⟩ := hu
      simp only [usims, usim, csim, rep] at hus
      obtain ⟨v5, r5, e5, h5, v6, r6, e6, h6, e7⟩ := hus
      subst e7 e6 h5 h6
      have hA : arr = #[.string (bs q.1), .bool q.2] := by apply Array.ext'; exact e5
      subst hA
      exact ⟨he, hb⟩
   go_wp2_with (go_at_call 107; refine hL.mono ?_)
   rintro e W6 ⟨rfl, hB6⟩
   have hS := Any.Builder_String_any_k bstL bstLX W2.heap.size W2.heap.size _ W6 (isBld_below hb5 hB6.toBelow) (Nat.le_trans hB5'.size hB6.size)
   go_wp2_with (go_at_call 108; refine hS.mono ?_)
   rintro e W7 ⟨rfl, _, hB7, _⟩
   have hlim : ¬ 9223372036854775807 < (bs (66 :: (List.map dgB t.Birth ++ 47 :: 83 :: List.map dgB t.Survive))).size + (bs q.1).size := by
    have e1 : ∀ l : List UInt8, (bs l).size = l.length := fun l => List.size_toArray
    rw [e1, e1]
    simp only [List.length_cons, List.length_append, List.length_map]
    omega
   go_wp2
   all_goals
    have hend : Blw w.heap.size w W7 := ⟨(hall.toBelow.trans (hB6.toBelow.mono hW5)).trans (hB7.mono (by omega)), Nat.le_refl 0⟩
    go_ret
    refine ⟨_, rfl, hend, ?_⟩
    simp only [vsim, usim, csim, rep]
    rw [bs_cat]
    simp
  ·have hr : r = [] := by
    cases hk : ok with
    | false => rw [hk] at hm; simpa [b9] using hm.symm
    | true =>
     rw [hk] at hm
     have h2 : t.States ≠ 2 := fun h => hcase ⟨hk, h⟩
     have : neB t.States 2 = true := by unfold neB; simpa using h2
     rw [this] at hm
     simpa [b9] using hm.symm
   subst hr
   clear hm
   go_enter Tryz.func46, Tryz.ntmps46
   go_wp2_with (go_at_call 64; refine hR.mono ?_)
   rintro e W2 ⟨rfl, hB2⟩
   have q1 : W2.cell? ⟨w.heap.size, 1, none⟩ = some (.int .i64 t.States) := by
    rw [hB2.cell (p := ⟨w.heap.size, 1, none⟩) (Nat.lt_succ_self _), Lib.cell_of_heap (heap_alloc_new w _)]
    rfl
   have hend : Blw w.heap.size w W2 := ⟨hB1.toBelow.trans (hB2.toBelow.mono (Nat.le_succ _)), Nat.le_refl 0⟩
   have hfin : vsim φ W2 F (.u (.one (.d (.str (bs []))))) (.string ⟨#[]⟩) := by simp only [vsim, usim, csim, rep]; rfl
   cases hk : ok with
   | false =>
    go_wp2
    go_ret
    exact ⟨_, rfl, hend, hfin⟩
   | true =>
    have h2 : t.States ≠ 2 := fun h => hcase ⟨hk, h⟩
    go_wp2
    go_ret
    exact ⟨_, rfl, hend, hfin⟩
end
theorem f_generations_Plain (t : Totals) (r : Totals) (hm : m_generations_Plain t = some r) : PFn Tryz.prog 109 [.u (.agg [.d (.sl 2 (List.map Point.row t.Hood)), .d (.int .i64 t.States), .d (.sl 1 (List.map (rI .i64) t.Birth)), .d (.sl 1 (List.map (rI .i64) t.Survive))])] (fun v => v.wk (.u (.agg [.d (.sl 2 (List.map Point.row r.Hood)), .d (.int .i64 r.States), .d (.sl 1 (List.map (rI .i64) r.Birth)), .d (.sl 1 (List.map (rI .i64) r.Survive))]))) := by
 refine aH Tryz.func109 Tryz.ntmps109 rfl (by kernel_rfl) (by simp) fun cx hn => ?_
 unfold m_generations_Plain at hm
 refine srs hn ?_
 simp -dsimp
 refine ae ?_
 refine srs hn ?_
 obtain ⟨y, h1, hm⟩ := bnd hm
 simp -dsimp
 refine aa (bg t y h1) (dkL hn) ?_
 simp -dsimp
 rcases aj hm with ⟨c2, hm⟩ | ⟨c2, hm⟩
 ·refine a8 (by simp -dsimp) c2 ?_
  refine srs hn ?_
  simp -dsimp [c2]
  refine ab (ag ?_)
  cases hm
  refine ⟨.inr rfl, ?_⟩
  exact EE.here (by simp -dsimp)
 ·refine a7 (by simp -dsimp) c2 ?_
  refine ac (a6 ?_)
  refine srs hn ?_
  simp -dsimp [c2]
  refine srs hn ?_
  simp -dsimp
  refine ab ?_
  cases hm
  refine ⟨.inr rfl, ?_⟩
  exact EE.here (by simp -dsimp)
theorem c_generations_Plain (t : Totals) (r : Totals) (hm : m_generations_Plain t = some r) : PureCall Tryz.prog 109 [.u (.agg [.d (.sl 2 (List.map Point.row t.Hood)), .d (.int .i64 t.States), .d (.sl 1 (List.map (rI .i64) t.Birth)), .d (.sl 1 (List.map (rI .i64) t.Survive))])] (.u (.agg [.d (.sl 2 (List.map Point.row r.Hood)), .d (.int .i64 r.States), .d (.sl 1 (List.map (rI .i64) r.Birth)), .d (.sl 1 (List.map (rI .i64) r.Survive))])) := (f_generations_Plain t r hm).pureW
theorem f_internal_strconv_small (i : Int) (r : List UInt8) (hm : m_internal_strconv_small i = some r) : PFn Tryz.prog 206 [.u (.one (.d (.int .i64 i)))] (fun v => v.wk (.u (.one (.d (.str (bs r)))))) := by
 refine aH Tryz.func206 Tryz.ntmps206 rfl (by kernel_rfl) (by simp) fun cx hn => ?_
 unfold m_internal_strconv_small at hm
 refine srs hn ?_
 simp -dsimp
 refine ae ?_
 refine srs hn ?_
 simp -dsimp
 rcases aj hm with ⟨c1, hm⟩ | ⟨c1, hm⟩
 ·refine a8 (by simp -dsimp) c1 ?_
  refine srs hn ?_
  obtain ⟨s, h2, hm⟩ := bnd hm
  simp -dsimp [c1, h2]
  refine ab (ag ?_)
  cases hm
  refine ⟨.inr rfl, ?_⟩
  exact EE.here (by simp -dsimp)
 ·refine a7 (by simp -dsimp) c1 ?_
  refine ac (a6 ?_)
  refine srs hn ?_
  obtain ⟨s, h3, hm⟩ := bnd hm
  simp -dsimp [c1, h3]
  refine ab ?_
  cases hm
  refine ⟨.inr rfl, ?_⟩
  exact EE.here (by simp -dsimp)
theorem c_internal_strconv_small (i : Int) (r : List UInt8) (hm : m_internal_strconv_small i = some r) : PureCall Tryz.prog 206 [.u (.one (.d (.int .i64 i)))] (.u (.one (.d (.str (bs r))))) := (f_internal_strconv_small i r hm).pureW
theorem f_internal_strconv_FormatInt (i : Int) (base : Int) (r : List UInt8) (hm : m_internal_strconv_FormatInt i base = some r) : PFn Tryz.prog 184 [.u (.one (.d (.int .i64 i))), .u (.one (.d (.int .i64 base)))] (fun v => v.wk (.u (.one (.d (.str (bs r)))))) := by
 refine aH Tryz.func184 Tryz.ntmps184 rfl (by kernel_rfl) (by simp) fun cx hn => ?_
 unfold m_internal_strconv_FormatInt at hm
 refine srs hn ?_
 simp -dsimp
 refine ae ?_
 refine srs hn ?_
 simp -dsimp
 rcases aj hm with ⟨c1, hm⟩ | ⟨c1, hm⟩
 ·refine a8 (by simp -dsimp) c1 ?_
  refine ae ?_
  obtain ⟨a, j7, hm⟩ := bnd hm
  refine am [(0, .u (.one (.d (.int .i64 i)))), (17, .u (.one (.d (.bool a))))] [] (by rfl) (by rfl) ?_ fun ρ σ hf => ?_
  ·replace hm := j7
   clear j7
   refine sr1 hn ?_
   rcases aj hm with ⟨c2, hm⟩ | ⟨c2, hm⟩
   ·simp -dsimp [c1, c2]
    refine a6 ?_
    cases hm
    exact EE.here (by simp -dsimp)
   ·simp -dsimp [c1, c2]
    refine a6 ?_
    cases hm
    exact EE.here (by simp -dsimp)
  ·clear j7
   simp only [Fits, ar, ap, and_true] at hf
   rcases aj hm with ⟨c3, hm⟩ | ⟨c3, hm⟩
   ·refine a8 (by simp -dsimp [hf]) c3 ?_
    refine srs hn ?_
    obtain ⟨y, h4, hm⟩ := bnd hm
    simp -dsimp [hf]
    refine aa (c_internal_strconv_small i y h4) (dkL hn) ?_
    simp -dsimp
    refine ab (ag (ag ?_))
    cases hm
    refine ⟨.inr rfl, ?_⟩
    exact EE.here (by simp -dsimp)
   ·refine a7 (by simp -dsimp [hf]) c3 ?_
    refine ac (a6 ?_)
    refine srs hn ?_
    simp -dsimp
    refine srs hn ?_
    simp -dsimp [hf]
    obtain ⟨u, j6, hm⟩ := bnd hm
    refine am [(0, .u (.one (.d (.int .i64 i)))), (5, .u (.one (.box 5 0))), (6, .u (.one (.d (.int .u64 u))))] [(5, .box (List.map (cI .u8) [0, 0, 0, 0, 0, 0, 0, 0, 0, 0, 0, 0, 0, 0, 0, 0, 0, 0, 0, 0, 0, 0, 0, 0]))] (by rfl) (by rfl) ?_ fun ρ σ hf => ?_
    ·replace hm := j6
     clear j6
     refine srs hn ?_
     simp -dsimp [hf]
     rcases aj hm with ⟨c5, hm⟩ | ⟨c5, hm⟩
     ·refine a8 (by simp -dsimp) c5 ?_
      refine sr1 hn ?_
      simp -dsimp [c5]
      refine a6 ?_
      cases hm
      exact EE.here (by simp -dsimp [hf])
     ·refine a7 (by simp -dsimp) c5 ?_
      refine ac (a6 ?_)
      cases hm
      exact EE.here (by simp -dsimp [hf, c5])
    ·clear j6
     simp only [Fits, ar, ap, and_true] at hf
     refine srs hn ?_
     cases hm
 ·refine a7 (by simp -dsimp) c1 ?_
  refine ac (a6 ?_)
  refine srs hn ?_
  cases hm
theorem c_internal_strconv_FormatInt (i : Int) (base : Int) (r : List UInt8) (hm : m_internal_strconv_FormatInt i base = some r) : PureCall Tryz.prog 184 [.u (.one (.d (.int .i64 i))), .u (.one (.d (.int .i64 base)))] (.u (.one (.d (.str (bs r))))) := (f_internal_strconv_FormatInt i base r hm).pureW
theorem f_internal_strconv_Itoa (i : Int) (r : List UInt8) (hm : m_internal_strconv_Itoa i = some r) : PFn Tryz.prog 156 [.u (.one (.d (.int .i64 i)))] (fun v => v.wk (.u (.one (.d (.str (bs r)))))) := by
 refine aH Tryz.func156 Tryz.ntmps156 rfl (by kernel_rfl) (by simp) fun cx hn => ?_
 unfold m_internal_strconv_Itoa at hm
 refine srs hn ?_
 simp -dsimp
 refine srs hn ?_
 obtain ⟨y, h1, hm⟩ := bnd hm
 simp -dsimp
 refine aa (c_internal_strconv_FormatInt i 10 y h1) (dkL hn) ?_
 simp -dsimp
 refine ab ?_
 cases hm
 refine ⟨.inr rfl, ?_⟩
 exact EE.here (by simp -dsimp)
theorem c_internal_strconv_Itoa (i : Int) (r : List UInt8) (hm : m_internal_strconv_Itoa i = some r) : PureCall Tryz.prog 156 [.u (.one (.d (.int .i64 i)))] (.u (.one (.d (.str (bs r))))) := (f_internal_strconv_Itoa i r hm).pureW
theorem f_strconv_Itoa (i : Int) (r : List UInt8) (hm : m_strconv_Itoa i = some r) : PFn Tryz.prog 110 [.u (.one (.d (.int .i64 i)))] (fun v => v.wk (.u (.one (.d (.str (bs r)))))) := by
 refine aH Tryz.func110 Tryz.ntmps110 rfl (by kernel_rfl) (by simp) fun cx hn => ?_
 unfold m_strconv_Itoa at hm
 refine srs hn ?_
 simp -dsimp
 refine srs hn ?_
 obtain ⟨y, h1, hm⟩ := bnd hm
 simp -dsimp
 refine aa (c_internal_strconv_Itoa i y h1) (dkL hn) ?_
 simp -dsimp
 refine ab ?_
 cases hm
 refine ⟨.inr rfl, ?_⟩
 exact EE.here (by simp -dsimp)
theorem c_strconv_Itoa (i : Int) (r : List UInt8) (hm : m_strconv_Itoa i = some r) : PureCall Tryz.prog 110 [.u (.one (.d (.int .i64 i)))] (.u (.one (.d (.str (bs r))))) := (f_strconv_Itoa i r hm).pureW
theorem f_generations_Text (t : Totals) (r : List UInt8) (hm : m_generations_Text t = some r) : PFn Tryz.prog 47 [.u (.agg [.d (.sl 2 (List.map Point.row t.Hood)), .d (.int .i64 t.States), .d (.sl 1 (List.map (rI .i64) t.Birth)), .d (.sl 1 (List.map (rI .i64) t.Survive))])] (fun v => v.wk (.u (.one (.d (.str (bs r)))))) := by
 refine aH Tryz.func47 Tryz.ntmps47 rfl (by kernel_rfl) (by simp) fun cx hn => ?_
 unfold m_generations_Text at hm
 refine srs hn ?_
 simp -dsimp
 refine ae ?_
 obtain ⟨a, j16, hm⟩ := bnd hm
 refine am [(1, .u (.one (.box 1 0))), (13, .u (.one (.d (.bool a))))] [(1, .box [.d (.sl 2 (List.map Point.row t.Hood)), .d (.int .i64 t.States), .d (.sl 1 (List.map (rI .i64) t.Birth)), .d (.sl 1 (List.map (rI .i64) t.Survive))])] (by rfl) (by rfl) ?_ fun ρ σ hf => ?_
 ·replace hm := j16
  clear j16
  refine sr1 hn ?_
  obtain ⟨y, h1, hm⟩ := bnd hm
  simp -dsimp
  refine aa (bg t y h1) (dkL hn) ?_
  rcases aj hm with ⟨c2, hm⟩ | ⟨c2, hm⟩
  ·simp -dsimp [c2]
   refine a6 ?_
   cases hm
   exact EE.here (by simp -dsimp)
  ·simp -dsimp [c2]
   refine a6 ?_
   cases hm
   exact EE.here (by simp -dsimp)
 ·clear j16
  simp only [Fits, ar, ap, and_true] at hf
  rcases aj hm with ⟨c3, hm⟩ | ⟨c3, hm⟩
  ·refine a8 (by simp -dsimp [hf]) c3 ?_
   refine srs hn ?_
   simp -dsimp
   refine ab (ag ?_)
   cases hm
   refine ⟨.inr rfl, ?_⟩
   exact EE.here (by simp -dsimp)
  ·refine a7 (by simp -dsimp [hf]) c3 ?_
   refine ac (a6 ?_)
   refine srs hn ?_
   obtain ⟨y, h4, hm⟩ := bnd hm
   simp -dsimp [hf]
   refine aa (c_generations_Plain t y h4) (dkL hn) ?_
   obtain ⟨y1, h5, hm⟩ := bnd hm
   simp -dsimp
   refine aa (c_lifelike_Text y y1 h5) (dkL hn) ?_
   simp -dsimp
   refine srs hn ?_
   simp -dsimp
   obtain ⟨⟨s, end_⟩, j15, hm⟩ := bnd hm
   refine am [(1, .u (.one (.box 1 0))), (3, .u (.one (.d (.str (bs s))))), (4, .u (.one (.d (.str (bs end_)))))] [(1, .box [.d (.sl 2 (List.map Point.row t.Hood)), .d (.int .i64 t.States), .d (.sl 1 (List.map (rI .i64) t.Birth)), .d (.sl 1 (List.map (rI .i64) t.Survive))])] (by rfl) (by rfl) ?_ fun ρ σ hf => ?_
   ·replace hm := j15
    clear j15
    refine srs hn ?_
    obtain ⟨s, h6, hm⟩ := bnd hm
    simp -dsimp [h6]
    obtain ⟨a1, j10, hm⟩ := bnd hm
    refine am [(1, .u (.one (.box 1 0))), (3, .u (.one (.d (.str (bs y1))))), (4, .u (.one (.d (.str (bs ([] : List UInt8)))))), (5, .u (.one (.d (.str (bs s))))), (27, .u (.one (.d (.bool a1))))] [(1, .box [.d (.sl 2 (List.map Point.row t.Hood)), .d (.int .i64 t.States), .d (.sl 1 (List.map (rI .i64) t.Birth)), .d (.sl 1 (List.map (rI .i64) t.Survive))])] (by rfl) (by rfl) ?_ fun ρ σ hf => ?_
    ·replace hm := j10
     clear j10
     refine sr1 hn ?_
     rcases aj hm with ⟨c7, hm⟩ | ⟨c7, hm⟩
     ·simp -dsimp [c7]
      refine a6 ?_
      cases hm
      exact EE.here (by simp -dsimp [hf])
     ·simp -dsimp [c7]
      refine a6 ?_
      cases hm
      exact EE.here (by simp -dsimp [hf])
    ·clear j10
     simp only [Fits, ar, ap, and_true] at hf
     rcases aj hm with ⟨c8, hm⟩ | ⟨c8, hm⟩
     ·refine a8 (by simp -dsimp [hf]) c8 ?_
      refine sr1 hn ?_
      obtain ⟨s1, h9, hm⟩ := bnd hm
      simp -dsimp [hf, h9]
      refine a6 ?_
      cases hm
      exact EE.here (by simp -dsimp [hf])
     ·refine a7 (by simp -dsimp [hf]) c8 ?_
      refine ac (a6 ?_)
      cases hm
      exact EE.here (by simp -dsimp [hf])
   ·clear j15
    simp only [Fits, ar, ap, and_true] at hf
    refine srs hn ?_
    obtain ⟨s1, h11, hm⟩ := bnd hm
    obtain ⟨y2, h12, hm⟩ := bnd hm
    simp -dsimp [hf, h11]
    refine aa (c_strconv_Itoa t.States y2 h12) (dkL hn) ?_
    obtain ⟨s2, h13, hm⟩ := bnd hm
    obtain ⟨s3, h14, hm⟩ := bnd hm
    simp -dsimp [hf, h13, h14]
    refine ab ?_
    cases hm
    refine ⟨.inr rfl, ?_⟩
    exact EE.here (by simp -dsimp)
theorem c_generations_Text (t : Totals) (r : List UInt8) (hm : m_generations_Text t = some r) : PureCall Tryz.prog 47 [.u (.agg [.d (.sl 2 (List.map Point.row t.Hood)), .d (.int .i64 t.States), .d (.sl 1 (List.map (rI .i64) t.Birth)), .d (.sl 1 (List.map (rI .i64) t.Survive))])] (.u (.one (.d (.str (bs r))))) := (f_generations_Text t r hm).pureW
end Go.Proofs.YtldhnnkpmhnpcaaGreatDoor
