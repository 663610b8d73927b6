/- That the code does what the functions say (made by cc.py). -/
import Derived.Test.YtogdjcdmbodmiaaGreatDoorWa3
namespace Go.Proofs.YtogdjcdmbodmiaaGreatDoor
open Go.AM Go.Proofs
attribute [-simp] qlookup cJ cG Ob.wipe Ob.ren Ob.frz1 bX dz dJ fw Prod.forall Key.u
def F_tree_Right_2 (cx : Cx) (t : Tree) (a1 : Int) (_x : Node) (tt : Bool ⊕ Unit) (ee : Exit) (ρ : Env) (σ : Sto) : Prop := match tt with
 | .inl r => ee = .ret ∧ EE cx (fun ρ σ => ∃ v, eH tb ρ σ Tryz.f42.results.toList = some v ∧ (v.frz σ).free = true ∧ (v.frz σ).wk (.u (.one (.d (.bool r))))) ρ σ
 | .inr _u => ee = .exit 2 ∧ EE cx (b4 [(1, .u (.one (.box 1 0))), (47, .u (.one (.d (.sl 2 (List.map Node.row t.Nodes))))), (48, .u (.one (.d (.int .i64 (ak t.Nodes))))), (49, .u (.one (.d (.int .i64 a1))))] [(1, .box [.d (.int .i64 t.States), .d (.sl 2 (List.map Point.row t.Hood)), .d (.sl 2 (List.map Node.row t.Nodes))])]) ρ σ
theorem l_tree_Right_2 (cx : Cx) (hn : cx.n = 117) (t : Tree) (a1 : Int) (x : Node) {fu : Nat} {stt : Int} {tt : Bool ⊕ Unit} (hh : am (dx t a1 x) fu stt = some tt) {ρ : Env} {σ : Sto}
  (hE : bT (fun a3 : Int => [(1, .u (.one (.box 1 0))), (4, .u (.one (.d (.int .i64 a1)))), (5, .u (.one (.box 5 0))), (47, .u (.one (.d (.sl 2 (List.map Node.row t.Nodes))))), (48, .u (.one (.d (.int .i64 (ak t.Nodes))))), (49, .u (.one (.d (.int .i64 a1)))), (74, .u (.one (.d (.sl 1 (List.map (rI .i64) x.Next))))), (75, .u (.one (.d (.int .i64 (ak x.Next))))), (76, .u (.one (.d (.int .i64 a3))))]) (fun _a3 : Int => [(1, .box [.d (.int .i64 t.States), .d (.sl 2 (List.map Point.row t.Hood)), .d (.sl 2 (List.map Node.row t.Nodes))]), (5, .box [.d (.int .i64 x.Level), .d (.sl 1 (List.map (rI .i64) x.Next))])]) stt ρ σ) : Swp Tryz.prog cx (.loop (d4 [1, 1, 1, 0, 1, 0, 0, 1, 1, 0, 0, 1, 1, 1, 0, 0] (aZ Tryz.f42))) ρ σ (F_tree_Right_2 cx t a1 x tt) := by
 refine cd hE hh (F_tree_Right_2 cx t a1 x) ?_
 rintro a3 r hm ρ σ hf
 simp only [Fits, ap, ar, and_true] at hf
 unfold dx at hm
 dsimp only at hm
 refine srs hn ?_
 simp -dsimp [hf]
 refine ae ?_
 rcases ai hm with ⟨c14, hm⟩ | ⟨c14, hm⟩
 ·refine a8 (by simp -dsimp) c14 ?_
  refine ab (a6 (ae (ah ?_)))
  refine srs hn ?_
  obtain ⟨x1, h15, hm⟩ := bnd hm
  simp -dsimp [hf, c14, h15]
  obtain ⟨a4, j26, hm⟩ := bnd hm
  refine au [(1, .u (.one (.box 1 0))), (4, .u (.one (.d (.int .i64 a1)))), (5, .u (.one (.box 5 0))), (47, .u (.one (.d (.sl 2 (List.map Node.row t.Nodes))))), (48, .u (.one (.d (.int .i64 (ak t.Nodes))))), (49, .u (.one (.d (.int .i64 a1)))), (74, .u (.one (.d (.sl 1 (List.map (rI .i64) x.Next))))), (75, .u (.one (.d (.int .i64 (ak x.Next))))), (76, .u (.one (.d (.int .i64 a3)))), (114, .u (.one (.d (.bool a4))))] [(1, .box [.d (.int .i64 t.States), .d (.sl 2 (List.map Point.row t.Hood)), .d (.sl 2 (List.map Node.row t.Nodes))]), (5, .box [.d (.int .i64 x.Level), .d (.sl 1 (List.map (rI .i64) x.Next))])] (by rfl) (by rfl) ?_ fun ρ σ hf => ?_
  ·replace hm := j26
   clear j26
   refine sw_qt aW mixed (by rw [hn]; kernel_rfl) ?_
   rcases ai hm with ⟨c16, hm⟩ | ⟨c16, hm⟩
   ·simp -dsimp [c16]
    refine a6 ?_
    cases hm
    exact EE.here (by simp -dsimp [hf])
   ·rcases ai hm with ⟨c17, hm⟩ | ⟨c17, hm⟩
    ·rcases ai hm with ⟨c18, hm⟩ | ⟨c18, hm⟩
     ·simp -dsimp [hf, c16, c17, c18]
      refine a6 ?_
      cases hm
      exact EE.here (by simp -dsimp [hf])
     ·rcases ai hm with ⟨c19, hm⟩ | ⟨c19, hm⟩
      ·rcases ai hm with ⟨c20, hm⟩ | ⟨c20, hm⟩
       ·simp -dsimp [hf, c16, c17, c18, c19, c20]
        refine a6 ?_
        cases hm
        exact EE.here (by simp -dsimp [hf])
       ·obtain ⟨x2, h21, hm⟩ := bnd hm
        simp -dsimp [hf, c16, c17, c18, c19, c20, h21]
        refine a6 ?_
        cases hm
        exact EE.here (by simp -dsimp [hf])
      ·simp -dsimp [hf, c16, c17, c18, c19]
       refine a6 ?_
       cases hm
       exact EE.here (by simp -dsimp [hf])
    ·rcases ai hm with ⟨c22, hm⟩ | ⟨c22, hm⟩
     ·rcases ai hm with ⟨c23, hm⟩ | ⟨c23, hm⟩
      ·simp -dsimp [hf, c16, c17, c22, c23]
       refine a6 ?_
       cases hm
       exact EE.here (by simp -dsimp [hf])
      ·obtain ⟨x2, h24, hm⟩ := bnd hm
       simp -dsimp [hf, c16, c17, c22, c23, h24]
       refine a6 ?_
       cases hm
       exact EE.here (by simp -dsimp [hf])
     ·simp -dsimp [hf, c16, c17, c22]
      refine a6 ?_
      cases hm
      exact EE.here (by simp -dsimp [hf])
  ·clear j26
   simp only [Fits, ap, ar, and_true] at hf
   rcases ai hm with ⟨c25, hm⟩ | ⟨c25, hm⟩
   ·refine a8 (by simp -dsimp [hf]) c25 ?_
    refine srs hn ?_
    simp -dsimp
    refine ac (aK (ag ?_))
    cases hm
    refine aB nofun ?_
    unfold F_tree_Right_2
    dsimp only
    refine ⟨rfl, ?_⟩
    exact EE.here (by simp -dsimp [Tryz.results42])
   ·refine a7 (by simp -dsimp [hf]) c25 ?_
    refine ab ?_
    refine aV ?_
    refine a6 ?_
    refine sr1 hn ?_
    simp -dsimp [hf]
    cases hm
    refine aI ?_
    exact EE.here (by simp -dsimp [hf])
 ·refine a7 (by simp -dsimp) c14 ?_
  refine aC ?_
  refine ag ?_
  cases hm
  refine aB nofun ?_
  unfold F_tree_Right_2
  dsimp only
  refine ⟨rfl, ?_⟩
  exact EE.here (by simp -dsimp [hf, c14])
def F_tree_Right_1 (cx : Cx) (_t : Tree) (tt : Bool ⊕ Unit) (ee : Exit) (ρ : Env) (σ : Sto) : Prop := match tt with
 | .inl r => ee = .ret ∧ EE cx (fun ρ σ => ∃ v, eH tb ρ σ Tryz.f42.results.toList = some v ∧ (v.frz σ).free = true ∧ (v.frz σ).wk (.u (.one (.d (.bool r))))) ρ σ
 | .inr _u => ee = .exit 0 ∧ EE cx (b4 [] []) ρ σ
theorem l_tree_Right_1 (cx : Cx) (hn : cx.n = 117) (t : Tree) {fu : Nat} {stt : Int} {tt : Bool ⊕ Unit} (hh : am (dw t) fu stt = some tt) {ρ : Env} {σ : Sto}
  (hE : bT (fun a1 : Int => [(1, .u (.one (.box 1 0))), (47, .u (.one (.d (.sl 2 (List.map Node.row t.Nodes))))), (48, .u (.one (.d (.int .i64 (ak t.Nodes))))), (49, .u (.one (.d (.int .i64 a1))))]) (fun _a1 : Int => [(1, .box [.d (.int .i64 t.States), .d (.sl 2 (List.map Point.row t.Hood)), .d (.sl 2 (List.map Node.row t.Nodes))])]) stt ρ σ) : Swp Tryz.prog cx (.loop (d4 [1, 1, 1, 0, 1, 0, 0] (aZ Tryz.f42))) ρ σ (F_tree_Right_1 cx t tt) := by
 refine cd hE hh (F_tree_Right_1 cx t) ?_
 rintro a1 r hm ρ σ hf
 simp only [Fits, ap, ar, and_true] at hf
 unfold dw at hm
 dsimp only at hm
 refine srs hn ?_
 simp -dsimp [hf]
 refine ae ?_
 rcases ai hm with ⟨c9, hm⟩ | ⟨c9, hm⟩
 ·refine a8 (by simp -dsimp) c9 ?_
  refine ab (a6 (ae (ah ?_)))
  refine srs hn ?_
  obtain ⟨x, h10, hm⟩ := bnd hm
  simp -dsimp [hf, c9, h10]
  refine ae ?_
  obtain ⟨a2, j29, hm⟩ := bnd hm
  refine au [(1, .u (.one (.box 1 0))), (4, .u (.one (.d (.int .i64 a1)))), (5, .u (.one (.box 5 0))), (47, .u (.one (.d (.sl 2 (List.map Node.row t.Nodes))))), (48, .u (.one (.d (.int .i64 (ak t.Nodes))))), (49, .u (.one (.d (.int .i64 a1)))), (72, .u (.one (.d (.bool a2))))] [(1, .box [.d (.int .i64 t.States), .d (.sl 2 (List.map Point.row t.Hood)), .d (.sl 2 (List.map Node.row t.Nodes))]), (5, .box [.d (.int .i64 x.Level), .d (.sl 1 (List.map (rI .i64) x.Next))])] (by rfl) (by rfl) ?_ fun ρ σ hf => ?_
  ·replace hm := j29
   clear j29
   refine sr1 hn ?_
   rcases ai hm with ⟨c11, hm⟩ | ⟨c11, hm⟩
   ·simp -dsimp [c11]
    refine a6 ?_
    cases hm
    exact EE.here (by simp -dsimp [hf])
   ·rcases ai hm with ⟨c12, hm⟩ | ⟨c12, hm⟩
    ·simp -dsimp [hf, c11, c12]
     refine a6 ?_
     cases hm
     exact EE.here (by simp -dsimp [hf])
    ·simp -dsimp [hf, c11, c12]
     refine a6 ?_
     cases hm
     exact EE.here (by simp -dsimp [hf])
  ·clear j29
   simp only [Fits, ap, ar, and_true] at hf
   rcases ai hm with ⟨c13, hm⟩ | ⟨c13, hm⟩
   ·refine a8 (by simp -dsimp [hf]) c13 ?_
    refine srs hn ?_
    simp -dsimp
    refine ac (ag (aK (ag ?_)))
    cases hm
    refine aB nofun ?_
    unfold F_tree_Right_1
    dsimp only
    refine ⟨rfl, ?_⟩
    exact EE.here (by simp -dsimp [Tryz.results42])
   ·refine a7 (by simp -dsimp [hf]) c13 ?_
    refine ab (a6 ?_)
    refine srs hn ?_
    simp -dsimp [hf]
    refine ah ?_
    obtain ⟨o_, g27, hm⟩ := bnd hm
    refine bf (l_tree_Right_2 cx hn t a1 x g27) (by
      try dsimp only
      exact EE.here (by simp -dsimp [hf])
    ) fun ee ρ σ x28 => ?_
    rcases o_ with r | _u
    ·unfold F_tree_Right_2 at x28
     dsimp only at x28
     obtain ⟨rfl, x28⟩ := x28
     refine aK (aK (ag ?_))
     cases hm
     refine aB nofun ?_
     unfold F_tree_Right_1
     dsimp only
     refine ⟨rfl, ?_⟩
     exact x28
    ·unfold F_tree_Right_2 at x28
     dsimp only at x28
     obtain ⟨rfl, x28⟩ := x28
     refine aD ?_
     refine aV ?_
     refine a6 ?_
     refine bN (by rfl) (by rfl) x28 fun ρ σ hf => ?_
     simp only [Fits, ap, ar, and_true] at hf
     refine sr1 hn ?_
     simp -dsimp [hf]
     cases hm
     refine aI ?_
     exact EE.here (by simp -dsimp [hf])
 ·refine a7 (by simp -dsimp) c9 ?_
  refine aC ?_
  refine ag ?_
  cases hm
  refine aB nofun ?_
  unfold F_tree_Right_1
  dsimp only
  refine ⟨rfl, ?_⟩
  exact EE.here (by simp -dsimp [c9])
set_option maxRecDepth 20000 in
theorem f_tree_Right (t : Tree) (r : Bool) (hm : ep t = some r) : PFn Tryz.prog 42 [.u (.agg [.d (.int .i64 t.States), .d (.sl 2 (List.map Point.row t.Hood)), .d (.sl 2 (List.map Node.row t.Nodes))])] (fun v => v.wk (.u (.one (.d (.bool r))))) := by
 refine bv Tryz.func42 Tryz.ntmps42 rfl (by kernel_rfl) (by simp) fun cx hn => ?_
 unfold ep at hm
 refine srs hn ?_
 simp -dsimp
 refine srs hn ?_
 simp -dsimp
 refine ae ?_
 obtain ⟨a, j32, hm⟩ := bnd hm
 refine au [(1, .u (.one (.box 1 0))), (45, .u (.one (.d (.bool a))))] [(1, .box [.d (.int .i64 t.States), .d (.sl 2 (List.map Point.row t.Hood)), .d (.sl 2 (List.map Node.row t.Nodes))])] (by rfl) (by rfl) ?_ fun ρ σ hf => ?_
 ·replace hm := j32
  clear j32
  refine sw_qt aW mixed (by rw [hn]; kernel_rfl) ?_
  rcases ai hm with ⟨c1, hm⟩ | ⟨c1, hm⟩
  ·simp -dsimp [c1]
   refine a6 ?_
   cases hm
   exact EE.here (by simp -dsimp)
  ·rcases ai hm with ⟨c2, hm⟩ | ⟨c2, hm⟩
   ·simp -dsimp [c1, c2]
    refine a6 ?_
    cases hm
    exact EE.here (by simp -dsimp)
   ·obtain ⟨y, h3, hm⟩ := bnd hm
    simp -dsimp [c1, c2]
    refine aw (c_hood_Right t.Hood y h3) ?_
    rcases ai hm with ⟨c4, hm⟩ | ⟨c4, hm⟩
    ·simp -dsimp [c4]
     refine a6 ?_
     cases hm
     exact EE.here (by simp -dsimp)
    ·rcases ai hm with ⟨c5, hm⟩ | ⟨c5, hm⟩
     ·simp -dsimp [c4, c5]
      refine a6 ?_
      cases hm
      exact EE.here (by simp -dsimp)
     ·rcases ai hm with ⟨c6, hm⟩ | ⟨c6, hm⟩
      ·simp -dsimp [c4, c5, c6]
       refine a6 ?_
       cases hm
       exact EE.here (by simp -dsimp)
      ·obtain ⟨x, h7, hm⟩ := bnd hm
       simp -dsimp [c4, c5, c6, h7]
       refine a6 ?_
       cases hm
       exact EE.here (by simp -dsimp)
 ·clear j32
  simp only [Fits, ap, ar, and_true] at hf
  rcases ai hm with ⟨c8, hm⟩ | ⟨c8, hm⟩
  ·refine a8 (by simp -dsimp [hf]) c8 ?_
   refine srs hn ?_
   simp -dsimp
   refine ac (ag ?_)
   cases hm
   refine ⟨.inr rfl, ?_⟩
   exact EE.here (by simp -dsimp)
  ·refine a7 (by simp -dsimp [hf]) c8 ?_
   refine ab (a6 (ae ?_))
   refine srs hn ?_
   simp -dsimp [hf]
   refine ah ?_
   obtain ⟨o_, g30, hm⟩ := bnd hm
   refine bf (l_tree_Right_1 cx hn t g30) (by
     try dsimp only
     exact EE.here (by simp -dsimp [hf])
   ) fun ee ρ σ x31 => ?_
   rcases o_ with r | _u
   ·unfold F_tree_Right_1 at x31
    dsimp only at x31
    obtain ⟨rfl, x31⟩ := x31
    refine aK (ag ?_)
    cases hm
    exact ⟨.inr rfl, x31⟩
   ·unfold F_tree_Right_1 at x31
    dsimp only at x31
    obtain ⟨rfl, x31⟩ := x31
    refine aD ?_
    refine a6 ?_
    refine bN (by rfl) (by rfl) x31 fun ρ σ hf => ?_
    simp only [Fits, ap, ar, and_true] at hf
    refine srs hn ?_
    simp -dsimp
    refine ac ?_
    cases hm
    refine ⟨.inr rfl, ?_⟩
    exact EE.here (by simp -dsimp)
theorem c_tree_Right (t : Tree) (r : Bool) (hm : ep t = some r) : PureCall Tryz.prog 42 [.u (.agg [.d (.int .i64 t.States), .d (.sl 2 (List.map Point.row t.Hood)), .d (.sl 2 (List.map Node.row t.Nodes))])] (.u (.one (.d (.bool r)))) := (f_tree_Right t r hm).pureW
def F_tree_value_1 (cx : Cx) (_t : Tree) (_in_ : List Int) (tt : Int) (ee : Exit) (ρ : Env) (σ : Sto) : Prop := match tt with
 | k => ee = .exit 0 ∧ EE cx (b4 [(5, .u (.one (.d (.int .i64 k))))] []) ρ σ
theorem l_tree_value_1 (cx : Cx) (hn : cx.n = 29) (t : Tree) (in_ : List Int) {fu : Nat} {stt : Int × Int} {tt : Int} (hh : am (du t in_) fu stt = some tt) {ρ : Env} {σ : Sto}
  (hE : bT (fun stt : Int × Int => match stt with | (k, a) => [(2, .u (.one (.box 2 0))), (5, .u (.one (.d (.int .i64 k)))), (12, .u (.one (.d (.sl 1 (List.map (rI .i64) in_))))), (13, .u (.one (.d (.int .i64 (ak in_))))), (14, .u (.one (.d (.int .i64 a))))]) (fun stt : Int × Int => match stt with | (_k, _a) => [(2, .box [.d (.int .i64 t.States), .d (.sl 2 (List.map Point.row t.Hood)), .d (.sl 2 (List.map Node.row t.Nodes))])]) stt ρ σ) : Swp Tryz.prog cx (.loop (d4 [1, 1, 0, 1, 0, 0] (aZ Tryz.f45))) ρ σ (F_tree_value_1 cx t in_ tt) := by
 refine cd hE hh (F_tree_value_1 cx t in_) ?_
 rintro ⟨k, a⟩ r hm ρ σ hf
 simp only [Fits, ap, ar, and_true] at hf
 unfold du at hm
 dsimp only at hm
 refine srs hn ?_
 simp -dsimp [hf]
 refine ae ?_
 rcases ai hm with ⟨c1, hm⟩ | ⟨c1, hm⟩
 ·refine a8 (by simp -dsimp) c1 ?_
  refine ab (a6 (ae (ah ?_)))
  refine srs hn ?_
  obtain ⟨x, h2, hm⟩ := bnd hm
  simp -dsimp [hf, c1, h2]
  refine sr1 hn ?_
  obtain ⟨x1, h3, hm⟩ := bnd hm
  obtain ⟨x2, h4, hm⟩ := bnd hm
  simp -dsimp [hf, h3, h4]
  refine aV ?_
  refine a6 ?_
  refine sr1 hn ?_
  simp -dsimp [hf]
  cases hm
  refine aI ?_
  exact EE.here (by simp -dsimp [hf])
 ·refine a7 (by simp -dsimp) c1 ?_
  refine aC ?_
  refine ag ?_
  cases hm
  refine aB nofun ?_
  unfold F_tree_value_1
  dsimp only
  refine ⟨rfl, ?_⟩
  exact EE.here (by simp -dsimp [hf, c1])
theorem f_tree_value (t : Tree) (in_ : List Int) (r : Int) (hm : ew t in_ = some r) : PFn Tryz.prog 45 [.u (.agg [.d (.int .i64 t.States), .d (.sl 2 (List.map Point.row t.Hood)), .d (.sl 2 (List.map Node.row t.Nodes))]), .u (.one (.d (.sl 1 (List.map (rI .i64) in_))))] (fun v => v.wk (.u (.one (.d (.int .i64 r))))) := by
 refine bv Tryz.func45 Tryz.ntmps45 rfl (by kernel_rfl) (by simp) fun cx hn => ?_
 unfold ew at hm
 refine srs hn ?_
 simp -dsimp
 refine srs hn ?_
 simp -dsimp
 refine ae ?_
 refine srs hn ?_
 simp -dsimp
 refine ah ?_
 obtain ⟨k, g5, hm⟩ := bnd hm
 refine bf (l_tree_value_1 cx hn t in_ g5) (by
   try dsimp only
   exact EE.here (by simp -dsimp)
 ) fun ee ρ σ x6 => ?_
 unfold F_tree_value_1 at x6
 dsimp only at x6
 obtain ⟨rfl, x6⟩ := x6
 refine aD ?_
 refine a6 ?_
 refine bN (by rfl) (by rfl) x6 fun ρ σ hf => ?_
 simp only [Fits, ap, ar, and_true] at hf
 refine srs hn ?_
 simp -dsimp [hf]
 refine ac ?_
 cases hm
 refine ⟨.inr rfl, ?_⟩
 exact EE.here (by simp -dsimp)
theorem c_tree_value (t : Tree) (in_ : List Int) (r : Int) (hm : ew t in_ = some r) : PureCall Tryz.prog 45 [.u (.agg [.d (.int .i64 t.States), .d (.sl 2 (List.map Point.row t.Hood)), .d (.sl 2 (List.map Node.row t.Nodes))]), .u (.one (.d (.sl 1 (List.map (rI .i64) in_))))] (.u (.one (.d (.int .i64 r)))) := (f_tree_value t in_ r hm).pureW
theorem f_tree_Quiet (t : Tree) (r : Bool) (hm : er t = some r) : PFn Tryz.prog 83 [.u (.agg [.d (.int .i64 t.States), .d (.sl 2 (List.map Point.row t.Hood)), .d (.sl 2 (List.map Node.row t.Nodes))])] (fun v => v.wk (.u (.one (.d (.bool r))))) := by
 refine bv Tryz.func83 Tryz.ntmps83 rfl (by kernel_rfl) (by simp) fun cx hn => ?_
 unfold er at hm
 refine srs hn ?_
 simp -dsimp
 obtain ⟨a, j5, hm⟩ := bnd hm
 refine au [(2, .u (.one (.d (.bool a))))] [] (by rfl) (by rfl) ?_ fun ρ σ hf => ?_
 ·replace hm := j5
  clear j5
  refine sw_midc aW mixed 7 8 8 0 [[3]] [[10]] [] none (by rw [hn]; kernel_rfl) fltT_none ?_
  dsimp only [List.take, List.drop, midsD, lateD, uopsD, pk, List.cons_append, List.nil_append, List.flatten_cons, List.flatten_nil, flN_none, flN_some, List.append_nil]
  obtain ⟨y, h1, hm⟩ := bnd hm
  simp -dsimp
  refine aw (c_tree_Right t y h1) ?_
  rcases ai hm with ⟨c2, hm⟩ | ⟨c2, hm⟩
  ·obtain ⟨l, h3, hm⟩ := bnd hm
   obtain ⟨⟨h3a, h3b, h3c⟩, rfl⟩ := mkL_some h3
   obtain ⟨y1, h4, hm⟩ := bnd hm
   simp -dsimp [c2, h3a, h3c]
   refine callL_brw (us' := [.u (.agg [.d (.int .i64 t.States), .d (.sl 2 (List.map Point.row t.Hood)), .d (.sl 2 (List.map Node.row t.Nodes))]), .u (.one (.d (.sl 1 (List.map (rI .i64) (List.replicate (ak t.Hood).toNat 0)))))]) (c_tree_value t (List.replicate (ak t.Hood).toNat 0) y1 h4) (by simp -dsimp) rfl (dkL hn) ?_
   simp -dsimp
   refine a6 ?_
   cases hm
   exact EE.here (by simp -dsimp)
  ·simp -dsimp [c2]
   refine a6 ?_
   cases hm
   exact EE.here (by simp -dsimp)
 ·clear j5
  simp only [Fits, ap, ar, and_true] at hf
  refine ac ?_
  cases hm
  refine ⟨.inr rfl, ?_⟩
  exact EE.here (by simp -dsimp [hf])
theorem c_tree_Quiet (t : Tree) (r : Bool) (hm : er t = some r) : PureCall Tryz.prog 83 [.u (.agg [.d (.int .i64 t.States), .d (.sl 2 (List.map Point.row t.Hood)), .d (.sl 2 (List.map Node.row t.Nodes))])] (.u (.one (.d (.bool r)))) := (f_tree_Quiet t r hm).pureW
theorem f_pattern_at (cv : Cell) (r : Point) (hm : bi cv = some r) : PFn Tryz.prog 93 [.u (.agg [.d (.int .i64 cv.X), .d (.int .i64 cv.Y), .d (.int .i64 cv.S)])] (fun v => v.wk (.u (.agg [.d (.int .i64 r.X), .d (.int .i64 r.Y)]))) := by
 refine bv Tryz.func93 Tryz.ntmps93 rfl (by kernel_rfl) (by simp) fun cx hn => ?_
 unfold bi at hm
 refine srs hn ?_
 simp -dsimp
 refine srs hn ?_
 simp -dsimp
 refine ac ?_
 cases hm
 refine ⟨.inr rfl, ?_⟩
 exact EE.here (by simp -dsimp)
theorem c_pattern_at (cv : Cell) (r : Point) (hm : bi cv = some r) : PureCall Tryz.prog 93 [.u (.agg [.d (.int .i64 cv.X), .d (.int .i64 cv.Y), .d (.int .i64 cv.S)])] (.u (.agg [.d (.int .i64 r.X), .d (.int .i64 r.Y)])) := (f_pattern_at cv r hm).pureW
theorem f_pattern_placed (p : Point) (r : Bool) (hm : ck p = some r) : PFn Tryz.prog 92 [.u (.agg [.d (.int .i64 p.X), .d (.int .i64 p.Y)])] (fun v => v.wk (.u (.one (.d (.bool r))))) := by
 refine bv Tryz.func92 Tryz.ntmps92 rfl (by kernel_rfl) (by simp) fun cx hn => ?_
 unfold ck at hm
 refine srs hn ?_
 simp -dsimp
 obtain ⟨a, j2, hm⟩ := bnd hm
 refine au [(2, .u (.one (.d (.bool a))))] [] (by rfl) (by rfl) ?_ fun ρ σ hf => ?_
 ·replace hm := j2
  clear j2
  refine sr1 hn ?_
  rcases ai hm with ⟨c1, hm⟩ | ⟨c1, hm⟩
  ·simp -dsimp [c1]
   refine a6 ?_
   cases hm
   exact EE.here (by simp -dsimp)
  ·simp -dsimp [c1]
   refine a6 ?_
   cases hm
   exact EE.here (by simp -dsimp)
 ·clear j2
  simp only [Fits, ap, ar, and_true] at hf
  refine ac ?_
  cases hm
  refine ⟨.inr rfl, ?_⟩
  exact EE.here (by simp -dsimp [hf])
theorem c_pattern_placed (p : Point) (r : Bool) (hm : ck p = some r) : PureCall Tryz.prog 92 [.u (.agg [.d (.int .i64 p.X), .d (.int .i64 p.Y)])] (.u (.one (.d (.bool r)))) := (f_pattern_placed p r hm).pureW
theorem f_pattern_order (a : Cell) (b : Cell) (r : Int) (hm : ca a b = some r) : PFn Tryz.prog 94 [.u (.agg [.d (.int .i64 a.X), .d (.int .i64 a.Y), .d (.int .i64 a.S)]), .u (.agg [.d (.int .i64 b.X), .d (.int .i64 b.Y), .d (.int .i64 b.S)])] (fun v => v.wk (.u (.one (.d (.int .i64 r))))) := by
 refine bv Tryz.func94 Tryz.ntmps94 rfl (by kernel_rfl) (by simp) fun cx hn => ?_
 unfold ca at hm
 refine srs hn ?_
 simp -dsimp
 refine ek aW mixed (by rw [hn]; kernel_rfl) ?_
 obtain ⟨y, h1, hm⟩ := bnd hm
 simp -dsimp
 refine aw (c_pattern_at a y h1) ?_
 obtain ⟨y1, h2, hm⟩ := bnd hm
 simp -dsimp
 refine aw (c_pattern_at b y1 h2) ?_
 obtain ⟨y2, h3, hm⟩ := bnd hm
 simp -dsimp
 refine aw (fW y y1 y2 h3) ?_
 simp -dsimp
 refine ac ?_
 cases hm
 refine ⟨.inr rfl, ?_⟩
 exact EE.here (by simp -dsimp)
theorem c_pattern_order (a : Cell) (b : Cell) (r : Int) (hm : ca a b = some r) : PureCall Tryz.prog 94 [.u (.agg [.d (.int .i64 a.X), .d (.int .i64 a.Y), .d (.int .i64 a.S)]), .u (.agg [.d (.int .i64 b.X), .d (.int .i64 b.Y), .d (.int .i64 b.S)])] (.u (.one (.d (.int .i64 r)))) := (f_pattern_order a b r hm).pureW
def F_pattern_Right_1 (cx : Cx) (_p : List Cell) (tt : Bool ⊕ Unit) (ee : Exit) (ρ : Env) (σ : Sto) : Prop := match tt with
 | .inl r => ee = .ret ∧ EE cx (fun ρ σ => ∃ v, eH tb ρ σ Tryz.f34.results.toList = some v ∧ (v.frz σ).free = true ∧ (v.frz σ).wk (.u (.one (.d (.bool r))))) ρ σ
 | .inr _u => ee = .exit 0 ∧ EE cx (b4 [] []) ρ σ
theorem l_pattern_Right_1 (cx : Cx) (hn : cx.n = 44) (p : List Cell) {fu : Nat} {stt : Int} {tt : Bool ⊕ Unit} (hh : am (dh p) fu stt = some tt) {ρ : Env} {σ : Sto}
  (hE : bT (fun a : Int => [(0, .u (.one (.d (.sl 3 (List.map Cell.row p))))), (8, .u (.one (.d (.sl 3 (List.map Cell.row p))))), (9, .u (.one (.d (.int .i64 (ak p))))), (10, .u (.one (.d (.int .i64 a))))]) (fun _a : Int => []) stt ρ σ) : Swp Tryz.prog cx (.loop (d4 [1, 1, 0, 1, 0, 0] (aZ Tryz.f34))) ρ σ (F_pattern_Right_1 cx p tt) := by
 refine cd hE hh (F_pattern_Right_1 cx p) ?_
 rintro a r hm ρ σ hf
 simp only [Fits, ap, ar, and_true] at hf
 unfold dh at hm
 dsimp only at hm
 refine srs hn ?_
 simp -dsimp [hf]
 refine ae ?_
 rcases ai hm with ⟨c2, hm⟩ | ⟨c2, hm⟩
 ·refine a8 (by simp -dsimp) c2 ?_
  refine ab (a6 (ae (ah ?_)))
  refine srs hn ?_
  obtain ⟨x, h3, hm⟩ := bnd hm
  simp -dsimp [hf, c2, h3]
  obtain ⟨a1, j13, hm⟩ := bnd hm
  refine au [(0, .u (.one (.d (.sl 3 (List.map Cell.row p))))), (8, .u (.one (.d (.sl 3 (List.map Cell.row p))))), (9, .u (.one (.d (.int .i64 (ak p))))), (10, .u (.one (.d (.int .i64 a)))), (42, .u (.one (.d (.bool a1))))] [] (by rfl) (by rfl) ?_ fun ρ σ hf => ?_
  ·replace hm := j13
   clear j13
   refine sw_qt aW mixed (by rw [hn]; kernel_rfl) ?_
   obtain ⟨y, h4, hm⟩ := bnd hm
   simp -dsimp
   refine aw (c_pattern_at x y h4) ?_
   obtain ⟨y1, h5, hm⟩ := bnd hm
   simp -dsimp
   refine aw (c_pattern_placed y y1 h5) ?_
   rcases ai hm with ⟨c6, hm⟩ | ⟨c6, hm⟩
   ·simp -dsimp [c6]
    refine a6 ?_
    cases hm
    exact EE.here (by simp -dsimp [hf])
   ·rcases ai hm with ⟨c7, hm⟩ | ⟨c7, hm⟩
    ·simp -dsimp [c6, c7]
     refine a6 ?_
     cases hm
     exact EE.here (by simp -dsimp [hf])
    ·rcases ai hm with ⟨c8, hm⟩ | ⟨c8, hm⟩
     ·simp -dsimp [c6, c7, c8]
      refine a6 ?_
      cases hm
      exact EE.here (by simp -dsimp [hf])
     ·rcases ai hm with ⟨c9, hm⟩ | ⟨c9, hm⟩
      ·obtain ⟨x1, h10, hm⟩ := bnd hm
       obtain ⟨y2, h11, hm⟩ := bnd hm
       simp -dsimp [hf, c6, c7, c8, c9, h10]
       refine aw (c_pattern_order x1 x y2 h11) ?_
       simp -dsimp
       refine a6 ?_
       cases hm
       exact EE.here (by simp -dsimp [hf])
      ·simp -dsimp [c6, c7, c8, c9]
       refine a6 ?_
       cases hm
       exact EE.here (by simp -dsimp [hf])
  ·clear j13
   simp only [Fits, ap, ar, and_true] at hf
   rcases ai hm with ⟨c12, hm⟩ | ⟨c12, hm⟩
   ·refine a8 (by simp -dsimp [hf]) c12 ?_
    refine srs hn ?_
    simp -dsimp
    refine ac (aK (ag ?_))
    cases hm
    refine aB nofun ?_
    unfold F_pattern_Right_1
    dsimp only
    refine ⟨rfl, ?_⟩
    exact EE.here (by simp -dsimp [Tryz.results34])
   ·refine a7 (by simp -dsimp [hf]) c12 ?_
    refine ab ?_
    refine aV ?_
    refine a6 ?_
    refine sr1 hn ?_
    simp -dsimp [hf]
    cases hm
    refine aI ?_
    exact EE.here (by simp -dsimp [hf])
 ·refine a7 (by simp -dsimp) c2 ?_
  refine aC ?_
  refine ag ?_
  cases hm
  refine aB nofun ?_
  unfold F_pattern_Right_1
  dsimp only
  refine ⟨rfl, ?_⟩
  exact EE.here (by simp -dsimp [c2])
set_option maxRecDepth 20000 in
theorem f_pattern_Right (p : List Cell) (r : Bool) (hm : bp p = some r) : PFn Tryz.prog 34 [.u (.one (.d (.sl 3 (List.map Cell.row p))))] (fun v => v.wk (.u (.one (.d (.bool r))))) := by
 refine bv Tryz.func34 Tryz.ntmps34 rfl (by kernel_rfl) (by simp) fun cx hn => ?_
 unfold bp at hm
 refine srs hn ?_
 simp -dsimp
 refine ae ?_
 refine srs hn ?_
 simp -dsimp
 rcases ai hm with ⟨c1, hm⟩ | ⟨c1, hm⟩
 ·refine a8 (by simp -dsimp) c1 ?_
  refine srs hn ?_
  simp -dsimp [c1]
  refine ac (ag ?_)
  cases hm
  refine ⟨.inr rfl, ?_⟩
  exact EE.here (by simp -dsimp)
 ·refine a7 (by simp -dsimp) c1 ?_
  refine ab (a6 (ae ?_))
  refine srs hn ?_
  simp -dsimp [c1]
  refine ah ?_
  obtain ⟨o_, g14, hm⟩ := bnd hm
  refine bf (l_pattern_Right_1 cx hn p g14) (by
    try dsimp only
    exact EE.here (by simp -dsimp)
  ) fun ee ρ σ x15 => ?_
  rcases o_ with r | _u
  ·unfold F_pattern_Right_1 at x15
   dsimp only at x15
   obtain ⟨rfl, x15⟩ := x15
   refine aK (ag ?_)
   cases hm
   exact ⟨.inr rfl, x15⟩
  ·unfold F_pattern_Right_1 at x15
   dsimp only at x15
   obtain ⟨rfl, x15⟩ := x15
   refine aD ?_
   refine a6 ?_
   refine bN (by rfl) (by rfl) x15 fun ρ σ hf => ?_
   simp only [Fits, ap, ar, and_true] at hf
   refine srs hn ?_
   simp -dsimp
   refine ac ?_
   cases hm
   refine ⟨.inr rfl, ?_⟩
   exact EE.here (by simp -dsimp)
theorem c_pattern_Right (p : List Cell) (r : Bool) (hm : bp p = some r) : PureCall Tryz.prog 34 [.u (.one (.d (.sl 3 (List.map Cell.row p))))] (.u (.one (.d (.bool r)))) := (f_pattern_Right p r hm).pureW
def F_pattern_Top_1 (cx : Cx) (_p : List Cell) (tt : Int) (ee : Exit) (ρ : Env) (σ : Sto) : Prop := match tt with
 | n => ee = .exit 0 ∧ EE cx (b4 [(3, .u (.one (.d (.int .i64 n))))] []) ρ σ
theorem l_pattern_Top_1 (cx : Cx) (hn : cx.n = 19) (p : List Cell) {fu : Nat} {stt : Int × Int} {tt : Int} (hh : am (d7 p) fu stt = some tt) {ρ : Env} {σ : Sto}
  (hE : bT (fun stt : Int × Int => match stt with | (n, a) => [(0, .u (.one (.d (.sl 3 (List.map Cell.row p))))), (3, .u (.one (.d (.int .i64 n)))), (6, .u (.one (.d (.int .i64 (ak p))))), (7, .u (.one (.d (.int .i64 a))))]) (fun stt : Int × Int => match stt with | (_n, _a) => []) stt ρ σ) : Swp Tryz.prog cx (.loop (d4 [1, 1, 0, 1, 0, 0] (aZ Tryz.f84))) ρ σ (F_pattern_Top_1 cx p tt) := by
 refine cd hE hh (F_pattern_Top_1 cx p) ?_
 rintro ⟨n, a⟩ r hm ρ σ hf
 simp only [Fits, ap, ar, and_true] at hf
 unfold d7 at hm
 dsimp only at hm
 refine srs hn ?_
 simp -dsimp [hf]
 refine ae ?_
 rcases ai hm with ⟨c1, hm⟩ | ⟨c1, hm⟩
 ·refine a8 (by simp -dsimp) c1 ?_
  refine ab (a6 (ae (ah ?_)))
  refine srs hn ?_
  simp -dsimp [hf, c1]
  refine sr1 hn ?_
  obtain ⟨x, h2, hm⟩ := bnd hm
  simp -dsimp [hf, h2]
  refine aV ?_
  refine a6 ?_
  refine sr1 hn ?_
  simp -dsimp [hf]
  cases hm
  refine aI ?_
  exact EE.here (by simp -dsimp [hf])
 ·refine a7 (by simp -dsimp) c1 ?_
  refine aC ?_
  refine ag ?_
  cases hm
  refine aB nofun ?_
  unfold F_pattern_Top_1
  dsimp only
  refine ⟨rfl, ?_⟩
  exact EE.here (by simp -dsimp [hf, c1])
theorem f_pattern_Top (p : List Cell) (r : Int) (hm : dU p = some r) : PFn Tryz.prog 84 [.u (.one (.d (.sl 3 (List.map Cell.row p))))] (fun v => v.wk (.u (.one (.d (.int .i64 r))))) := by
 refine bv Tryz.func84 Tryz.ntmps84 rfl (by kernel_rfl) (by simp) fun cx hn => ?_
 unfold dU at hm
 refine srs hn ?_
 simp -dsimp
 refine srs hn ?_
 simp -dsimp
 refine ae ?_
 refine srs hn ?_
 simp -dsimp
 refine ah ?_
 obtain ⟨n, g3, hm⟩ := bnd hm
 refine bf (l_pattern_Top_1 cx hn p g3) (by
   try dsimp only
   exact EE.here (by simp -dsimp)
 ) fun ee ρ σ x4 => ?_
 unfold F_pattern_Top_1 at x4
 dsimp only at x4
 obtain ⟨rfl, x4⟩ := x4
 refine aD ?_
 refine a6 ?_
 refine bN (by rfl) (by rfl) x4 fun ρ σ hf => ?_
 simp only [Fits, ap, ar, and_true] at hf
 refine srs hn ?_
 simp -dsimp [hf]
 refine ac ?_
 cases hm
 refine ⟨.inr rfl, ?_⟩
 exact EE.here (by simp -dsimp)
theorem c_pattern_Top (p : List Cell) (r : Int) (hm : dU p = some r) : PureCall Tryz.prog 84 [.u (.one (.d (.sl 3 (List.map Cell.row p))))] (.u (.one (.d (.int .i64 r)))) := (f_pattern_Top p r hm).pureW
theorem f_direct_check (t : Tree) (p : List Cell) (r : Int) (hm : cV t p = some r) : PFn Tryz.prog 27 [.u (.agg [.d (.int .i64 t.States), .d (.sl 2 (List.map Point.row t.Hood)), .d (.sl 2 (List.map Node.row t.Nodes))]), .u (.one (.d (.sl 3 (List.map Cell.row p))))] (fun v => v.wk (.u (.one (.d (.int .i64 r))))) := by
 refine bv Tryz.func27 Tryz.ntmps27 rfl (by kernel_rfl) (by simp) fun cx hn => ?_
 unfold cV at hm
 refine srs hn ?_
 simp -dsimp
 refine ae (ah ?_)
 refine srs hn ?_
 obtain ⟨y, h1, hm⟩ := bnd hm
 simp -dsimp
 refine aa (c_tree_Quiet t y h1) (dkL hn) ?_
 simp -dsimp
 rcases ai hm with ⟨c2, hm⟩ | ⟨c2, hm⟩
 ·refine a8 (by simp -dsimp) c2 ?_
  refine srs hn ?_
  simp -dsimp [c2]
  refine ac (aK (ag ?_))
  cases hm
  refine ⟨.inr rfl, ?_⟩
  exact EE.here (by simp -dsimp)
 ·refine a7 (by simp -dsimp) c2 ?_
  refine srs hn ?_
  obtain ⟨y1, h3, hm⟩ := bnd hm
  simp -dsimp [c2]
  refine aa (c_pattern_Right p y1 h3) (dkL hn) ?_
  simp -dsimp
  rcases ai hm with ⟨c4, hm⟩ | ⟨c4, hm⟩
  ·refine a8 (by simp -dsimp) c4 ?_
   refine srs hn ?_
   simp -dsimp [c4]
   refine ac (aK (ag ?_))
   cases hm
   refine ⟨.inr rfl, ?_⟩
   exact EE.here (by simp -dsimp)
  ·refine a7 (by simp -dsimp) c4 ?_
   refine ek aW mixed (by rw [hn]; kernel_rfl) ?_
   obtain ⟨y2, h5, hm⟩ := bnd hm
   simp -dsimp [c4]
   refine aw (c_pattern_Top p y2 h5) ?_
   simp -dsimp
   rcases ai hm with ⟨c6, hm⟩ | ⟨c6, hm⟩
   ·refine a8 (by simp -dsimp) c6 ?_
    refine srs hn ?_
    simp -dsimp [c6]
    refine ac (aK (ag ?_))
    cases hm
    refine ⟨.inr rfl, ?_⟩
    exact EE.here (by simp -dsimp)
   ·refine a7 (by simp -dsimp) c6 ?_
    refine ab ?_
    refine aV ?_
    refine a6 ?_
    refine srs hn ?_
    simp -dsimp [c6]
    refine ac ?_
    cases hm
    refine ⟨.inr rfl, ?_⟩
    exact EE.here (by simp -dsimp)
theorem c_direct_check (t : Tree) (p : List Cell) (r : Int) (hm : cV t p = some r) : PureCall Tryz.prog 27 [.u (.agg [.d (.int .i64 t.States), .d (.sl 2 (List.map Point.row t.Hood)), .d (.sl 2 (List.map Node.row t.Nodes))]), .u (.one (.d (.sl 3 (List.map Cell.row p))))] (.u (.one (.d (.int .i64 r)))) := (f_direct_check t p r hm).pureW
def F_direct_of_1 (cx : Cx) (_p : List Cell) (tt : (List (Point × Int))) (ee : Exit) (ρ : Env) (σ : Sto) : Prop := match tt with
 | m => ee = .exit 0 ∧ EE cx (b4 [(3, .u (.one (.map 6)))] [(6, mOb (.ints 2) Point.key (uL (L.int .i64)) m)]) ρ σ
theorem l_direct_of_1 (cx : Cx) (hn : cx.n = 23) (_hk : cx.k = 0) (p : List Cell) {fu : Nat} {stt : Int × (List (Point × Int))} {tt : (List (Point × Int))} (hh : am (dW p) fu stt = some tt) {ρ : Env} {σ : Sto}
  (hE : bT (fun stt : Int × (List (Point × Int)) => match stt with | (a, _m) => [(3, .u (.one (.map 6))), (7, .u (.one (.d (.sl 3 (List.map Cell.row p))))), (8, .u (.one (.d (.int .i64 (ak p))))), (9, .u (.one (.d (.int .i64 a))))]) (fun stt : Int × (List (Point × Int)) => match stt with | (_a, m) => [(6, mOb (.ints 2) Point.key (uL (L.int .i64)) m)]) stt ρ σ) : Swp Tryz.prog cx (.loop (d4 [1, 1, 0, 1, 0, 0] (aZ Tryz.f85))) ρ σ (F_direct_of_1 cx p tt) := by
 refine cd hE hh (F_direct_of_1 cx p) ?_
 rintro ⟨a, m⟩ r hm ρ σ hf
 simp only [Fits, ap, ar, and_true] at hf
 unfold dW at hm
 dsimp only at hm
 refine srs hn ?_
 simp -dsimp [hf]
 refine ae ?_
 rcases ai hm with ⟨c1, hm⟩ | ⟨c1, hm⟩
 ·refine a8 (by simp -dsimp) c1 ?_
  refine ab (a6 (ae (ah ?_)))
  refine srs hn ?_
  obtain ⟨x, h2, hm⟩ := bnd hm
  simp -dsimp [hf, c1, h2]
  refine sr1 hn ?_
  obtain ⟨u, h3, hm⟩ := bnd hm
  simp -dsimp [hf, aJ h3 (.head _), aJ h3 (.tail _ (.head _)), (@id (fB (mOb (.ints 2) Point.key (uL (L.int .i64)) m) (.ints [x.X, x.Y]) (.one (.d (.int .i64 x.S))) = mOb (.ints 2) Point.key (uL (L.int .i64)) (bD m (⟨x.X, x.Y⟩ : Point) x.S)) (ff (.ints 2) Point.key (uL (L.int .i64)) m (⟨x.X, x.Y⟩ : Point) x.S))]
  refine aV ?_
  refine a6 ?_
  refine sr1 hn ?_
  simp -dsimp [hf]
  cases hm
  refine aI ?_
  exact EE.here (by simp -dsimp [hf])
 ·refine a7 (by simp -dsimp) c1 ?_
  refine aC ?_
  refine ag ?_
  cases hm
  refine aB nofun ?_
  unfold F_direct_of_1
  dsimp only
  refine ⟨rfl, ?_⟩
  exact EE.here (by simp -dsimp [hf, c1])
theorem g_direct_of (p : List Cell) (r : List (Point × Int)) (hm : fP p = some r) : GFn Tryz.prog 85 [.u (.one (.d (.sl 3 (List.map Cell.row p))))] [] (.u (.one (.map 1000000))) [some (mOb (.ints 2) Point.key (uL (L.int .i64)) r)] := by
 refine cg aW _ Tryz.func85 rfl (by kernel_rfl) (by simp [Tryz.ntmps85]) (by simp) (by first | rfl | simp) (by first | rfl | simp) fun cx hn hk => ?_
 replace hn : cx.n = 23 := hn.trans Tryz.ntmps85
 replace hk : cx.k = 0 := hk
 unfold fP at hm
 refine srs hn ?_
 simp -dsimp
 refine srs hn ?_
 simp -dsimp [(@id (Ob.map (.ints 2) [] = mOb (.ints 2) Point.key (uL (L.int .i64)) ([] : List (Point × Int))) (gJ (.ints 2) Point.key (uL (L.int .i64))))]
 refine ae ?_
 refine srs hn ?_
 simp -dsimp
 refine ah ?_
 obtain ⟨m, g4, hm⟩ := bnd hm
 refine bf (l_direct_of_1 cx hn hk p g4) (by
   try dsimp only
   exact EE.here (by simp -dsimp)
 ) fun ee ρ σ x5 => ?_
 unfold F_direct_of_1 at x5
 dsimp only at x5
 obtain ⟨rfl, x5⟩ := x5
 refine aD ?_
 refine a6 ?_
 refine bN (by rfl) (by rfl) x5 fun ρ σ hf => ?_
 simp only [Fits, ap, ar, and_true] at hf
 refine srs hn ?_
 simp -dsimp [hf]
 refine ac ?_
 cases hm
 refine ⟨.inr rfl, ?_⟩
 refine EE.step (Wk.move 6 1000000 (by decide) (.inr (by rw [hk]; decide))) ?_
 exact EE.here (by simp -dsimp [hf])
def F_direct_cells_next_o_1 (cx : Cx) (m : List (Point × Int)) (_t : Tree) (_p : Point) (tt : Int) (ee : Exit) (ρ : Env) (σ : Sto) : Prop := match tt with
 | k => ee = .exit 0 ∧ EE cx (b4 [(7, .u (.one (.d (.int .i64 k))))] [(1000000, mOb (.ints 2) Point.key (uL (L.int .i64)) m)]) ρ σ
theorem l_direct_cells_next_o_1 (cx : Cx) (hn : cx.n = 44) (_hk : cx.k = 1) (m : List (Point × Int)) (t : Tree) (p : Point) {fu : Nat} {stt : Int × Int} {tt : Int} (hh : am (bl m t p) fu stt = some tt) {ρ : Env} {σ : Sto}
  (hE : bT (fun stt : Int × Int => match stt with | (k, a) => [(0, .u (.one (.map 1000000))), (4, .u (.one (.box 4 0))), (5, .u (.one (.box 5 0))), (7, .u (.one (.d (.int .i64 k)))), (15, .u (.one (.d (.sl 2 (List.map Point.row t.Hood))))), (16, .u (.one (.d (.int .i64 (ak t.Hood))))), (17, .u (.one (.d (.int .i64 a))))]) (fun stt : Int × Int => match stt with | (_k, _a) => [(4, .box [.d (.int .i64 t.States), .d (.sl 2 (List.map Point.row t.Hood)), .d (.sl 2 (List.map Node.row t.Nodes))]), (5, .box [.d (.int .i64 p.X), .d (.int .i64 p.Y)]), (1000000, mOb (.ints 2) Point.key (uL (L.int .i64)) m)]) stt ρ σ) : Swp Tryz.prog cx (.loop (d4 [1, 1, 0, 1, 0, 0] (aZ Tryz.f86))) ρ σ (F_direct_cells_next_o_1 cx m t p tt) := by
 refine cd hE hh (F_direct_cells_next_o_1 cx m t p) ?_
 rintro ⟨k, a⟩ r hm ρ σ hf
 simp only [Fits, ap, ar, and_true] at hf
 unfold bl at hm
 dsimp only at hm
 refine srs hn ?_
 simp -dsimp [hf]
 refine ae ?_
 rcases ai hm with ⟨c1, hm⟩ | ⟨c1, hm⟩
 ·refine a8 (by simp -dsimp) c1 ?_
  refine ab (a6 (ae (ah ?_)))
  refine srs hn ?_
  obtain ⟨x, h2, hm⟩ := bnd hm
  simp -dsimp [hf, c1, h2]
  refine sw_qt aW mixed (by rw [hn]; kernel_rfl) ?_
  obtain ⟨x1, h3, hm⟩ := bnd hm
  obtain ⟨u, h4, hm⟩ := bnd hm
  obtain ⟨x2, h5, hm⟩ := bnd hm
  simp -dsimp [hf, h3, aJ h4 (.head _), aJ h4 (.tail _ (.head _)), (@id (lkM (eo (mOb (.ints 2) Point.key (uL (L.int .i64)) m) (.ints [(bd .i64 p.X x.X), (bd .i64 p.Y x.Y)])) false (.one (.d (.int .i64 0))) = some (.u (.one (.d (.int .i64 (aL m (⟨(bd .i64 p.X x.X), (bd .i64 p.Y x.Y)⟩ : Point) 0)))))) (lk_val (⟨(bd .i64 p.X x.X), (bd .i64 p.Y x.Y)⟩ : Point) 0)), h5]
  refine aV ?_
  refine a6 ?_
  refine sr1 hn ?_
  simp -dsimp [hf]
  cases hm
  refine aI ?_
  exact EE.here (by simp -dsimp [hf])
 ·refine a7 (by simp -dsimp) c1 ?_
  refine aC ?_
  refine ag ?_
  cases hm
  refine aB nofun ?_
  unfold F_direct_cells_next_o_1
  dsimp only
  refine ⟨rfl, ?_⟩
  exact EE.here (by simp -dsimp [hf, c1])
theorem g_direct_cells_next_o (m : List (Point × Int)) (t : Tree) (p : Point) (r : Int) (hm : ce m t p = some r) : GFn Tryz.prog 86 [.u (.one (.map 1000000)), .u (.agg [.d (.int .i64 t.States), .d (.sl 2 (List.map Point.row t.Hood)), .d (.sl 2 (List.map Node.row t.Nodes))]), .u (.agg [.d (.int .i64 p.X), .d (.int .i64 p.Y)])] [mOb (.ints 2) Point.key (uL (L.int .i64)) m] (.u (.one (.d (.int .i64 r)))) [some (mOb (.ints 2) Point.key (uL (L.int .i64)) m)] := by
 refine cg aW _ Tryz.func86 rfl (by kernel_rfl) (by simp [Tryz.ntmps86]) (by simp) (by first | rfl | simp) (by first | rfl | simp) fun cx hn hk => ?_
 replace hn : cx.n = 44 := hn.trans Tryz.ntmps86
 replace hk : cx.k = 1 := hk
 unfold ce at hm
 refine srs hn ?_
 simp -dsimp
 refine srs hn ?_
 simp -dsimp
 refine ae ?_
 refine srs hn ?_
 simp -dsimp
 refine ah ?_
 obtain ⟨k, g6, hm⟩ := bnd hm
 refine bf (l_direct_cells_next_o_1 cx hn hk m t p g6) (by
   try dsimp only
   exact EE.here (by simp -dsimp)
 ) fun ee ρ σ x7 => ?_
 unfold F_direct_cells_next_o_1 at x7
 dsimp only at x7
 obtain ⟨rfl, x7⟩ := x7
 refine aD ?_
 refine a6 ?_
 refine bN (by rfl) (by rfl) x7 fun ρ σ hf => ?_
 simp only [Fits, ap, ar, and_true] at hf
 refine srs hn ?_
 simp -dsimp [hf]
 refine ac ?_
 cases hm
 refine ⟨.inr rfl, ?_⟩
 exact EE.here (by simp -dsimp [hf])
theorem f_direct_place (p : Point) (r : Bool) (hm : eh p = some r) : PFn Tryz.prog 87 [.u (.agg [.d (.int .i64 p.X), .d (.int .i64 p.Y)])] (fun v => v.wk (.u (.one (.d (.bool r))))) := by
 refine bv Tryz.func87 Tryz.ntmps87 rfl (by kernel_rfl) (by simp) fun cx hn => ?_
 unfold eh at hm
 refine srs hn ?_
 simp -dsimp
 obtain ⟨a, j2, hm⟩ := bnd hm
 refine au [(2, .u (.one (.d (.bool a))))] [] (by rfl) (by rfl) ?_ fun ρ σ hf => ?_
 ·replace hm := j2
  clear j2
  refine sr1 hn ?_
  rcases ai hm with ⟨c1, hm⟩ | ⟨c1, hm⟩
  ·simp -dsimp [c1]
   refine a6 ?_
   cases hm
   exact EE.here (by simp -dsimp)
  ·simp -dsimp [c1]
   refine a6 ?_
   cases hm
   exact EE.here (by simp -dsimp)
 ·clear j2
  simp only [Fits, ap, ar, and_true] at hf
  refine ac ?_
  cases hm
  refine ⟨.inr rfl, ?_⟩
  exact EE.here (by simp -dsimp [hf])
theorem c_direct_place (p : Point) (r : Bool) (hm : eh p = some r) : PureCall Tryz.prog 87 [.u (.agg [.d (.int .i64 p.X), .d (.int .i64 p.Y)])] (.u (.one (.d (.bool r)))) := (f_direct_place p r hm).pureW
end Go.Proofs.YtogdjcdmbodmiaaGreatDoor
