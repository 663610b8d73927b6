/- That the code does what the functions say (made by cc.py). -/
import Derived.Test.YtfpjnmhdbgbmmaaGreatDoorWa1
namespace Go.Proofs.YtfpjnmhdbgbmmaaGreatDoor
open Go.AM Go.Proofs
attribute [-simp] qlookup du fQ Ob.wipe Ob.ren Ob.frz1
def ek (cx : Cx) (t : Tree) (a1 : Int) (_x : Node) (tt : Bool ⊕ Unit) (ee : Exit) (ρ : Env) (σ : Sto) : Prop := match tt with
 | .inl r => ee = .ret ∧ EE cx (fun ρ σ => ∃ v, resV tb ρ σ Tryz.f50.results.toList = some v ∧ (v.frz σ).free = true ∧ (v.frz σ).wk (.u (.one (.d (.bool r))))) ρ σ
 | .inr _u => ee = .exit 2 ∧ EE cx (aS [(1, .u (.one (.box 1 0))), (47, .u (.one (.d (.sl 2 (List.map Node.row t.Nodes))))), (48, .u (.one (.d (.int .i64 (ah t.Nodes))))), (49, .u (.one (.d (.int .i64 a1))))] [(1, .box [.d (.int .i64 t.States), .d (.sl 2 (List.map Point.row t.Hood)), .d (.sl 2 (List.map Node.row t.Nodes))])]) ρ σ
theorem l_tree_Right_2 (cx : Cx) (hn : cx.n = 117) (t : Tree) (a1 : Int) (x : Node) {fu : Nat} {stt : Int} {tt : Bool ⊕ Unit} (hh : ak (eg t a1 x) fu stt = some tt) {ρ : Env} {σ : Sto}
  (hE : aW (fun a3 : Int => [(1, .u (.one (.box 1 0))), (4, .u (.one (.d (.int .i64 a1)))), (5, .u (.one (.box 5 0))), (47, .u (.one (.d (.sl 2 (List.map Node.row t.Nodes))))), (48, .u (.one (.d (.int .i64 (ah t.Nodes))))), (49, .u (.one (.d (.int .i64 a1)))), (74, .u (.one (.d (.sl 1 (List.map (rI .i64) x.Next))))), (75, .u (.one (.d (.int .i64 (ah x.Next))))), (76, .u (.one (.d (.int .i64 a3))))]) (fun _a3 : Int => [(1, .box [.d (.int .i64 t.States), .d (.sl 2 (List.map Point.row t.Hood)), .d (.sl 2 (List.map Node.row t.Nodes))]), (5, .box [.d (.int .i64 x.Level), .d (.sl 1 (List.map (rI .i64) x.Next))])]) stt ρ σ) : Swp Tryz.prog cx (.loop (bg [1, 1, 1, 0, 1, 0, 0, 1, 1, 0, 0, 1, 1, 1, 0, 0] (aK Tryz.f50))) ρ σ (ek cx t a1 x tt) := by
 refine aY hE hh (ek cx t a1 x) ?_
 rintro a3 r hm ρ σ hf
 simp only [Fits, ar, ap, and_true] at hf
 unfold eg at hm
 dsimp only at hm
 refine srs hn ?_
 simp -dsimp [hf]
 refine ac ?_
 rcases aj hm with ⟨c14, hm⟩ | ⟨c14, hm⟩
 ·refine a8 (b := (ltB a3 (ah x.Next))) (by simp -dsimp) c14 ?_
  refine aa (a6 (ac (ai ?_)))
  refine srs hn ?_
  obtain ⟨x1, h15, hm⟩ := bnd hm
  simp -dsimp [hf, c14, h15]
  obtain ⟨a4, j26, hm⟩ := bnd hm
  refine au [(1, .u (.one (.box 1 0))), (4, .u (.one (.d (.int .i64 a1)))), (5, .u (.one (.box 5 0))), (47, .u (.one (.d (.sl 2 (List.map Node.row t.Nodes))))), (48, .u (.one (.d (.int .i64 (ah t.Nodes))))), (49, .u (.one (.d (.int .i64 a1)))), (74, .u (.one (.d (.sl 1 (List.map (rI .i64) x.Next))))), (75, .u (.one (.d (.int .i64 (ah x.Next))))), (76, .u (.one (.d (.int .i64 a3)))), (114, .u (.one (.d (.bool a4))))] [(1, .box [.d (.int .i64 t.States), .d (.sl 2 (List.map Point.row t.Hood)), .d (.sl 2 (List.map Node.row t.Nodes))]), (5, .box [.d (.int .i64 x.Level), .d (.sl 1 (List.map (rI .i64) x.Next))])] (by rfl) (by rfl) ?_ fun ρ σ hf => ?_
  ·replace hm := j26
   clear j26
   refine iR aL mixed (by rw [hn]; kernel_rfl) ?_
   rcases aj hm with ⟨c16, hm⟩ | ⟨c16, hm⟩
   ·simp -dsimp [c16]
    refine a6 ?_
    cases hm
    exact EE.here (by simp -dsimp [hf])
   ·rcases aj hm with ⟨c17, hm⟩ | ⟨c17, hm⟩
    ·rcases aj hm with ⟨c18, hm⟩ | ⟨c18, hm⟩
     ·simp -dsimp [hf, c16, c17, c18]
      refine a6 ?_
      cases hm
      exact EE.here (by simp -dsimp [hf])
     ·rcases aj hm with ⟨c19, hm⟩ | ⟨c19, hm⟩
      ·rcases aj hm with ⟨c20, hm⟩ | ⟨c20, hm⟩
       ·simp -dsimp [hf, c16, c17, c18, c19, c20]
        refine a6 ?_
        cases hm
        exact EE.here (by simp -dsimp [hf])
       ·obtain ⟨x2, h21, hm⟩ := bnd hm
        simp -dsimp [hf, c16, c17, c18, c19, c20, h21]
        refine a6 ?_
        cases hm
        exact EE.here (by simp -dsimp [hf])
      ·simp -dsimp [hf, c16, c17, c18, c19]
       refine a6 ?_
       cases hm
       exact EE.here (by simp -dsimp [hf])
    ·rcases aj hm with ⟨c22, hm⟩ | ⟨c22, hm⟩
     ·rcases aj hm with ⟨c23, hm⟩ | ⟨c23, hm⟩
      ·simp -dsimp [hf, c16, c17, c22, c23]
       refine a6 ?_
       cases hm
       exact EE.here (by simp -dsimp [hf])
      ·obtain ⟨x2, h24, hm⟩ := bnd hm
       simp -dsimp [hf, c16, c17, c22, c23, h24]
       refine a6 ?_
       cases hm
       exact EE.here (by simp -dsimp [hf])
     ·simp -dsimp [hf, c16, c17, c22]
      refine a6 ?_
      cases hm
      exact EE.here (by simp -dsimp [hf])
  ·clear j26
   simp only [Fits, ar, ap, and_true] at hf
   rcases aj hm with ⟨c25, hm⟩ | ⟨c25, hm⟩
   ·refine a8 (by simp -dsimp [hf]) c25 ?_
    refine srs hn ?_
    simp -dsimp
    refine ab (aH (ae ?_))
    cases hm
    refine am nofun ?_
    unfold ek
    dsimp only
    refine ⟨rfl, ?_⟩
    exact EE.here (by simp -dsimp [Tryz.results50])
   ·refine a7 (by simp -dsimp [hf]) c25 ?_
    refine aa ?_
    refine aM ?_
    refine a6 ?_
    refine sr1 hn ?_
    simp -dsimp [hf]
    cases hm
    refine az ?_
    exact EE.here (by simp -dsimp [hf])
 ·refine a7 (b := (ltB a3 (ah x.Next))) (by simp -dsimp) c14 ?_
  refine aw ?_
  refine ae ?_
  cases hm
  refine am nofun ?_
  unfold ek
  dsimp only
  refine ⟨rfl, ?_⟩
  exact EE.here (by simp -dsimp [hf, c14])
def dq (cx : Cx) (_t : Tree) (tt : Bool ⊕ Unit) (ee : Exit) (ρ : Env) (σ : Sto) : Prop := match tt with
 | .inl r => ee = .ret ∧ EE cx (fun ρ σ => ∃ v, resV tb ρ σ Tryz.f50.results.toList = some v ∧ (v.frz σ).free = true ∧ (v.frz σ).wk (.u (.one (.d (.bool r))))) ρ σ
 | .inr _u => ee = .exit 0 ∧ EE cx (aS [] []) ρ σ
theorem l_tree_Right_1 (cx : Cx) (hn : cx.n = 117) (t : Tree) {fu : Nat} {stt : Int} {tt : Bool ⊕ Unit} (hh : ak (dZ t) fu stt = some tt) {ρ : Env} {σ : Sto}
  (hE : aW (fun a1 : Int => [(1, .u (.one (.box 1 0))), (47, .u (.one (.d (.sl 2 (List.map Node.row t.Nodes))))), (48, .u (.one (.d (.int .i64 (ah t.Nodes))))), (49, .u (.one (.d (.int .i64 a1))))]) (fun _a1 : Int => [(1, .box [.d (.int .i64 t.States), .d (.sl 2 (List.map Point.row t.Hood)), .d (.sl 2 (List.map Node.row t.Nodes))])]) stt ρ σ) : Swp Tryz.prog cx (.loop (bg [1, 1, 1, 0, 1, 0, 0] (aK Tryz.f50))) ρ σ (dq cx t tt) := by
 refine aY hE hh (dq cx t) ?_
 rintro a1 r hm ρ σ hf
 simp only [Fits, ar, ap, and_true] at hf
 unfold dZ at hm
 dsimp only at hm
 refine srs hn ?_
 simp -dsimp [hf]
 refine ac ?_
 rcases aj hm with ⟨c9, hm⟩ | ⟨c9, hm⟩
 ·refine a8 (b := (ltB a1 (ah t.Nodes))) (by simp -dsimp) c9 ?_
  refine aa (a6 (ac (ai ?_)))
  refine srs hn ?_
  obtain ⟨x, h10, hm⟩ := bnd hm
  simp -dsimp [hf, c9, h10]
  refine ac ?_
  obtain ⟨a2, j29, hm⟩ := bnd hm
  refine au [(1, .u (.one (.box 1 0))), (4, .u (.one (.d (.int .i64 a1)))), (5, .u (.one (.box 5 0))), (47, .u (.one (.d (.sl 2 (List.map Node.row t.Nodes))))), (48, .u (.one (.d (.int .i64 (ah t.Nodes))))), (49, .u (.one (.d (.int .i64 a1)))), (72, .u (.one (.d (.bool a2))))] [(1, .box [.d (.int .i64 t.States), .d (.sl 2 (List.map Point.row t.Hood)), .d (.sl 2 (List.map Node.row t.Nodes))]), (5, .box [.d (.int .i64 x.Level), .d (.sl 1 (List.map (rI .i64) x.Next))])] (by rfl) (by rfl) ?_ fun ρ σ hf => ?_
  ·replace hm := j29
   clear j29
   refine sr1 hn ?_
   rcases aj hm with ⟨c11, hm⟩ | ⟨c11, hm⟩
   ·simp -dsimp [c11]
    refine a6 ?_
    cases hm
    exact EE.here (by simp -dsimp [hf])
   ·rcases aj hm with ⟨c12, hm⟩ | ⟨c12, hm⟩
    ·simp -dsimp [hf, c11, c12]
     refine a6 ?_
     cases hm
     exact EE.here (by simp -dsimp [hf])
    ·simp -dsimp [hf, c11, c12]
     refine a6 ?_
     cases hm
     exact EE.here (by simp -dsimp [hf])
  ·clear j29
   simp only [Fits, ar, ap, and_true] at hf
   rcases aj hm with ⟨c13, hm⟩ | ⟨c13, hm⟩
   ·refine a8 (by simp -dsimp [hf]) c13 ?_
    refine srs hn ?_
    simp -dsimp
    refine ab (ae (aH (ae ?_)))
    cases hm
    refine am nofun ?_
    unfold dq
    dsimp only
    refine ⟨rfl, ?_⟩
    exact EE.here (by simp -dsimp [Tryz.results50])
   ·refine a7 (by simp -dsimp [hf]) c13 ?_
    refine aa (a6 ?_)
    refine srs hn ?_
    simp -dsimp [hf]
    refine ai ?_
    obtain ⟨o_, g27, hm⟩ := bnd hm
    refine aJ (l_tree_Right_2 cx hn t a1 x g27) (by
      try dsimp only
      exact EE.here (by simp -dsimp [hf])
    ) fun ee ρ σ x28 => ?_
    rcases o_ with r | _u
    ·unfold ek at x28
     dsimp only at x28
     obtain ⟨rfl, x28⟩ := x28
     refine aH (aH (ae ?_))
     cases hm
     refine am nofun ?_
     unfold dq
     dsimp only
     refine ⟨rfl, ?_⟩
     exact x28
    ·unfold ek at x28
     dsimp only at x28
     obtain ⟨rfl, x28⟩ := x28
     refine av ?_
     refine aM ?_
     refine a6 ?_
     refine aX (by rfl) (by rfl) x28 fun ρ σ hf => ?_
     simp only [Fits, ar, ap, and_true] at hf
     refine sr1 hn ?_
     simp -dsimp [hf]
     cases hm
     refine az ?_
     exact EE.here (by simp -dsimp [hf])
 ·refine a7 (b := (ltB a1 (ah t.Nodes))) (by simp -dsimp) c9 ?_
  refine aw ?_
  refine ae ?_
  cases hm
  refine am nofun ?_
  unfold dq
  dsimp only
  refine ⟨rfl, ?_⟩
  exact EE.here (by simp -dsimp [c9])
set_option maxRecDepth 20000 in
theorem f_tree_Right (t : Tree) (r : Bool) (hm : bZ t = some r) : PFn Tryz.prog 50 [.u (.agg [.d (.int .i64 t.States), .d (.sl 2 (List.map Point.row t.Hood)), .d (.sl 2 (List.map Node.row t.Nodes))])] (fun v => v.wk (.u (.one (.d (.bool r))))) := by
 refine aV Tryz.func50 Tryz.ntmps50 rfl (by kernel_rfl) (by simp) fun cx hn => ?_
 unfold bZ at hm
 refine srs hn ?_
 simp -dsimp
 refine srs hn ?_
 simp -dsimp
 refine ac ?_
 obtain ⟨a, j32, hm⟩ := bnd hm
 refine au [(1, .u (.one (.box 1 0))), (45, .u (.one (.d (.bool a))))] [(1, .box [.d (.int .i64 t.States), .d (.sl 2 (List.map Point.row t.Hood)), .d (.sl 2 (List.map Node.row t.Nodes))])] (by rfl) (by rfl) ?_ fun ρ σ hf => ?_
 ·replace hm := j32
  clear j32
  refine iR aL mixed (by rw [hn]; kernel_rfl) ?_
  rcases aj hm with ⟨c1, hm⟩ | ⟨c1, hm⟩
  ·simp -dsimp [c1]
   refine a6 ?_
   cases hm
   exact EE.here (by simp -dsimp)
  ·rcases aj hm with ⟨c2, hm⟩ | ⟨c2, hm⟩
   ·simp -dsimp [c1, c2]
    refine a6 ?_
    cases hm
    exact EE.here (by simp -dsimp)
   ·obtain ⟨y, h3, hm⟩ := bnd hm
    simp -dsimp [c1, c2]
    refine al (c_hood_Right t.Hood y h3) ?_
    rcases aj hm with ⟨c4, hm⟩ | ⟨c4, hm⟩
    ·simp -dsimp [c4]
     refine a6 ?_
     cases hm
     exact EE.here (by simp -dsimp)
    ·rcases aj hm with ⟨c5, hm⟩ | ⟨c5, hm⟩
     ·simp -dsimp [c4, c5]
      refine a6 ?_
      cases hm
      exact EE.here (by simp -dsimp)
     ·rcases aj hm with ⟨c6, hm⟩ | ⟨c6, hm⟩
      ·simp -dsimp [c4, c5, c6]
       refine a6 ?_
       cases hm
       exact EE.here (by simp -dsimp)
      ·obtain ⟨x, h7, hm⟩ := bnd hm
       simp -dsimp [c4, c5, c6, h7]
       refine a6 ?_
       cases hm
       exact EE.here (by simp -dsimp)
 ·clear j32
  simp only [Fits, ar, ap, and_true] at hf
  rcases aj hm with ⟨c8, hm⟩ | ⟨c8, hm⟩
  ·refine a8 (by simp -dsimp [hf]) c8 ?_
   refine srs hn ?_
   simp -dsimp
   refine ab (ae ?_)
   cases hm
   refine ⟨.inr rfl, ?_⟩
   exact EE.here (by simp -dsimp)
  ·refine a7 (by simp -dsimp [hf]) c8 ?_
   refine aa (a6 (ac ?_))
   refine srs hn ?_
   simp -dsimp [hf]
   refine ai ?_
   obtain ⟨o_, g30, hm⟩ := bnd hm
   refine aJ (l_tree_Right_1 cx hn t g30) (by
     try dsimp only
     exact EE.here (by simp -dsimp [hf])
   ) fun ee ρ σ x31 => ?_
   rcases o_ with r | _u
   ·unfold dq at x31
    dsimp only at x31
    obtain ⟨rfl, x31⟩ := x31
    refine aH (ae ?_)
    cases hm
    exact ⟨.inr rfl, x31⟩
   ·unfold dq at x31
    dsimp only at x31
    obtain ⟨rfl, x31⟩ := x31
    refine av ?_
    refine a6 ?_
    refine aX (by rfl) (by rfl) x31 fun ρ σ hf => ?_
    simp only [Fits, ar, ap, and_true] at hf
    refine srs hn ?_
    simp -dsimp
    refine ab ?_
    cases hm
    refine ⟨.inr rfl, ?_⟩
    exact EE.here (by simp -dsimp)
theorem fC (t : Tree) (r : Bool) (hm : bZ t = some r) : PureCall Tryz.prog 50 [.u (.agg [.d (.int .i64 t.States), .d (.sl 2 (List.map Point.row t.Hood)), .d (.sl 2 (List.map Node.row t.Nodes))])] (.u (.one (.d (.bool r)))) := (f_tree_Right t r hm).pureW
def ik (cx : Cx) (_t : Tree) (_in_ : List Int) (tt : Int) (ee : Exit) (ρ : Env) (σ : Sto) : Prop := match tt with
 | k => ee = .exit 0 ∧ EE cx (aS [(5, .u (.one (.d (.int .i64 k))))] []) ρ σ
theorem l_tree_value_1 (cx : Cx) (hn : cx.n = 29) (t : Tree) (in_ : List Int) {fu : Nat} {stt : Int × Int} {tt : Int} (hh : ak (ef t in_) fu stt = some tt) {ρ : Env} {σ : Sto}
  (hE : aW (fun stt : Int × Int => match stt with | (k, a) => [(2, .u (.one (.box 2 0))), (5, .u (.one (.d (.int .i64 k)))), (12, .u (.one (.d (.sl 1 (List.map (rI .i64) in_))))), (13, .u (.one (.d (.int .i64 (ah in_))))), (14, .u (.one (.d (.int .i64 a))))]) (fun stt : Int × Int => match stt with | (_k, _a) => [(2, .box [.d (.int .i64 t.States), .d (.sl 2 (List.map Point.row t.Hood)), .d (.sl 2 (List.map Node.row t.Nodes))])]) stt ρ σ) : Swp Tryz.prog cx (.loop (bg [1, 1, 0, 1, 0, 0] (aK Tryz.f51))) ρ σ (ik cx t in_ tt) := by
 refine aY hE hh (ik cx t in_) ?_
 rintro ⟨k, a⟩ r hm ρ σ hf
 simp only [Fits, ar, ap, and_true] at hf
 unfold ef at hm
 dsimp only at hm
 refine srs hn ?_
 simp -dsimp [hf]
 refine ac ?_
 rcases aj hm with ⟨c1, hm⟩ | ⟨c1, hm⟩
 ·refine a8 (b := (ltB a (ah in_))) (by simp -dsimp) c1 ?_
  refine aa (a6 (ac (ai ?_)))
  refine srs hn ?_
  obtain ⟨x, h2, hm⟩ := bnd hm
  simp -dsimp [hf, c1, h2]
  refine sr1 hn ?_
  obtain ⟨x1, h3, hm⟩ := bnd hm
  obtain ⟨x2, h4, hm⟩ := bnd hm
  simp -dsimp [hf, h3, h4]
  refine aM ?_
  refine a6 ?_
  refine sr1 hn ?_
  simp -dsimp [hf]
  cases hm
  refine az ?_
  exact EE.here (by simp -dsimp [hf])
 ·refine a7 (b := (ltB a (ah in_))) (by simp -dsimp) c1 ?_
  refine aw ?_
  refine ae ?_
  cases hm
  refine am nofun ?_
  unfold ik
  dsimp only
  refine ⟨rfl, ?_⟩
  exact EE.here (by simp -dsimp [hf, c1])
theorem f_tree_value (t : Tree) (in_ : List Int) (r : Int) (hm : fS t in_ = some r) : PFn Tryz.prog 51 [.u (.agg [.d (.int .i64 t.States), .d (.sl 2 (List.map Point.row t.Hood)), .d (.sl 2 (List.map Node.row t.Nodes))]), .u (.one (.d (.sl 1 (List.map (rI .i64) in_))))] (fun v => v.wk (.u (.one (.d (.int .i64 r))))) := by
 refine aV Tryz.func51 Tryz.ntmps51 rfl (by kernel_rfl) (by simp) fun cx hn => ?_
 unfold fS at hm
 refine srs hn ?_
 simp -dsimp
 refine srs hn ?_
 simp -dsimp
 refine ac ?_
 refine srs hn ?_
 simp -dsimp
 refine ai ?_
 obtain ⟨k, g5, hm⟩ := bnd hm
 refine aJ (l_tree_value_1 cx hn t in_ g5) (by
   try dsimp only
   exact EE.here (by simp -dsimp)
 ) fun ee ρ σ x6 => ?_
 unfold ik at x6
 dsimp only at x6
 obtain ⟨rfl, x6⟩ := x6
 refine av ?_
 refine a6 ?_
 refine aX (by rfl) (by rfl) x6 fun ρ σ hf => ?_
 simp only [Fits, ar, ap, and_true] at hf
 refine srs hn ?_
 simp -dsimp [hf]
 refine ab ?_
 cases hm
 refine ⟨.inr rfl, ?_⟩
 exact EE.here (by simp -dsimp)
theorem c_tree_value (t : Tree) (in_ : List Int) (r : Int) (hm : fS t in_ = some r) : PureCall Tryz.prog 51 [.u (.agg [.d (.int .i64 t.States), .d (.sl 2 (List.map Point.row t.Hood)), .d (.sl 2 (List.map Node.row t.Nodes))]), .u (.one (.d (.sl 1 (List.map (rI .i64) in_))))] (.u (.one (.d (.int .i64 r)))) := (f_tree_value t in_ r hm).pureW
theorem f_tree_Quiet (t : Tree) (r : Bool) (hm : dP t = some r) : PFn Tryz.prog 21 [.u (.agg [.d (.int .i64 t.States), .d (.sl 2 (List.map Point.row t.Hood)), .d (.sl 2 (List.map Node.row t.Nodes))])] (fun v => v.wk (.u (.one (.d (.bool r))))) := by
 refine aV Tryz.func21 Tryz.ntmps21 rfl (by kernel_rfl) (by simp) fun cx hn => ?_
 unfold dP at hm
 refine srs hn ?_
 simp -dsimp
 obtain ⟨a, j5, hm⟩ := bnd hm
 refine au [(2, .u (.one (.d (.bool a))))] [] (by rfl) (by rfl) ?_ fun ρ σ hf => ?_
 ·replace hm := j5
  clear j5
  refine sw_midc aL mixed 7 8 8 0 [[3]] [[10]] [] none (by rw [hn]; kernel_rfl) gI ?_
  dsimp only [List.take, List.drop, iq, iQ, jT, pk, List.cons_append, List.nil_append, List.flatten_cons, List.flatten_nil, ff, fv, List.append_nil]
  obtain ⟨y, h1, hm⟩ := bnd hm
  simp -dsimp
  refine al (fC t y h1) ?_
  rcases aj hm with ⟨c2, hm⟩ | ⟨c2, hm⟩
  ·obtain ⟨l, h3, hm⟩ := bnd hm
   obtain ⟨⟨h3a, h3b, h3c⟩, rfl⟩ := ka h3
   obtain ⟨y1, h4, hm⟩ := bnd hm
   simp -dsimp [c2, h3a, h3c]
   refine callL_brw (us' := [.u (.agg [.d (.int .i64 t.States), .d (.sl 2 (List.map Point.row t.Hood)), .d (.sl 2 (List.map Node.row t.Nodes))]), .u (.one (.d (.sl 1 (List.map (rI .i64) (List.replicate (ah t.Hood).toNat 0)))))]) (c_tree_value t (List.replicate (ah t.Hood).toNat 0) y1 h4) (by simp -dsimp) rfl (dkL hn) ?_
   simp -dsimp
   refine a6 ?_
   cases hm
   exact EE.here (by simp -dsimp)
  ·simp -dsimp [c2]
   refine a6 ?_
   cases hm
   exact EE.here (by simp -dsimp)
 ·clear j5
  simp only [Fits, ar, ap, and_true] at hf
  refine ab ?_
  cases hm
  refine ⟨.inr rfl, ?_⟩
  exact EE.here (by simp -dsimp [hf])
theorem kj (t : Tree) (r : Bool) (hm : dP t = some r) : PureCall Tryz.prog 21 [.u (.agg [.d (.int .i64 t.States), .d (.sl 2 (List.map Point.row t.Hood)), .d (.sl 2 (List.map Node.row t.Nodes))])] (.u (.one (.d (.bool r)))) := (f_tree_Quiet t r hm).pureW
theorem f_pattern_at (cv : Cell) (r : Point) (hm : bc cv = some r) : PFn Tryz.prog 102 [.u (.agg [.d (.int .i64 cv.X), .d (.int .i64 cv.Y), .d (.int .i64 cv.S)])] (fun v => v.wk (.u (.agg [.d (.int .i64 r.X), .d (.int .i64 r.Y)]))) := by
 refine aV Tryz.func102 Tryz.ntmps102 rfl (by kernel_rfl) (by simp) fun cx hn => ?_
 unfold bc at hm
 refine srs hn ?_
 simp -dsimp
 refine srs hn ?_
 simp -dsimp
 refine ab ?_
 cases hm
 refine ⟨.inr rfl, ?_⟩
 exact EE.here (by simp -dsimp)
theorem eE (cv : Cell) (r : Point) (hm : bc cv = some r) : PureCall Tryz.prog 102 [.u (.agg [.d (.int .i64 cv.X), .d (.int .i64 cv.Y), .d (.int .i64 cv.S)])] (.u (.agg [.d (.int .i64 r.X), .d (.int .i64 r.Y)])) := (f_pattern_at cv r hm).pureW
theorem f_pattern_placed (p : Point) (r : Bool) (hm : bV p = some r) : PFn Tryz.prog 101 [.u (.agg [.d (.int .i64 p.X), .d (.int .i64 p.Y)])] (fun v => v.wk (.u (.one (.d (.bool r))))) := by
 refine aV Tryz.func101 Tryz.ntmps101 rfl (by kernel_rfl) (by simp) fun cx hn => ?_
 unfold bV at hm
 refine srs hn ?_
 simp -dsimp
 obtain ⟨a, j2, hm⟩ := bnd hm
 refine au [(2, .u (.one (.d (.bool a))))] [] (by rfl) (by rfl) ?_ fun ρ σ hf => ?_
 ·replace hm := j2
  clear j2
  refine sr1 hn ?_
  rcases aj hm with ⟨c1, hm⟩ | ⟨c1, hm⟩
  ·simp -dsimp [c1]
   refine a6 ?_
   cases hm
   exact EE.here (by simp -dsimp)
  ·simp -dsimp [c1]
   refine a6 ?_
   cases hm
   exact EE.here (by simp -dsimp)
 ·clear j2
  simp only [Fits, ar, ap, and_true] at hf
  refine ab ?_
  cases hm
  refine ⟨.inr rfl, ?_⟩
  exact EE.here (by simp -dsimp [hf])
theorem iB (p : Point) (r : Bool) (hm : bV p = some r) : PureCall Tryz.prog 101 [.u (.agg [.d (.int .i64 p.X), .d (.int .i64 p.Y)])] (.u (.one (.d (.bool r)))) := (f_pattern_placed p r hm).pureW
theorem f_pattern_order (a : Cell) (b : Cell) (r : Int) (hm : cg a b = some r) : PFn Tryz.prog 115 [.u (.agg [.d (.int .i64 a.X), .d (.int .i64 a.Y), .d (.int .i64 a.S)]), .u (.agg [.d (.int .i64 b.X), .d (.int .i64 b.Y), .d (.int .i64 b.S)])] (fun v => v.wk (.u (.one (.d (.int .i64 r))))) := by
 refine aV Tryz.func115 Tryz.ntmps115 rfl (by kernel_rfl) (by simp) fun cx hn => ?_
 unfold cg at hm
 refine srs hn ?_
 simp -dsimp
 refine bF aL mixed (by rw [hn]; kernel_rfl) ?_
 obtain ⟨y, h1, hm⟩ := bnd hm
 simp -dsimp
 refine al (eE a y h1) ?_
 obtain ⟨y1, h2, hm⟩ := bnd hm
 simp -dsimp
 refine al (eE b y1 h2) ?_
 obtain ⟨y2, h3, hm⟩ := bnd hm
 simp -dsimp
 refine al (j0 y y1 y2 h3) ?_
 simp -dsimp
 refine ab ?_
 cases hm
 refine ⟨.inr rfl, ?_⟩
 exact EE.here (by simp -dsimp)
theorem c_pattern_order (a : Cell) (b : Cell) (r : Int) (hm : cg a b = some r) : PureCall Tryz.prog 115 [.u (.agg [.d (.int .i64 a.X), .d (.int .i64 a.Y), .d (.int .i64 a.S)]), .u (.agg [.d (.int .i64 b.X), .d (.int .i64 b.Y), .d (.int .i64 b.S)])] (.u (.one (.d (.int .i64 r)))) := (f_pattern_order a b r hm).pureW
def cI (cx : Cx) (_p : List Cell) (tt : Bool ⊕ Unit) (ee : Exit) (ρ : Env) (σ : Sto) : Prop := match tt with
 | .inl r => ee = .ret ∧ EE cx (fun ρ σ => ∃ v, resV tb ρ σ Tryz.f54.results.toList = some v ∧ (v.frz σ).free = true ∧ (v.frz σ).wk (.u (.one (.d (.bool r))))) ρ σ
 | .inr _u => ee = .exit 0 ∧ EE cx (aS [] []) ρ σ
theorem l_pattern_Right_1 (cx : Cx) (hn : cx.n = 44) (p : List Cell) {fu : Nat} {stt : Int} {tt : Bool ⊕ Unit} (hh : ak (dO p) fu stt = some tt) {ρ : Env} {σ : Sto}
  (hE : aW (fun a : Int => [(0, .u (.one (.d (.sl 3 (List.map Cell.row p))))), (8, .u (.one (.d (.sl 3 (List.map Cell.row p))))), (9, .u (.one (.d (.int .i64 (ah p))))), (10, .u (.one (.d (.int .i64 a))))]) (fun _a : Int => []) stt ρ σ) : Swp Tryz.prog cx (.loop (bg [1, 1, 0, 1, 0, 0] (aK Tryz.f54))) ρ σ (cI cx p tt) := by
 refine aY hE hh (cI cx p) ?_
 rintro a r hm ρ σ hf
 simp only [Fits, ar, ap, and_true] at hf
 unfold dO at hm
 dsimp only at hm
 refine srs hn ?_
 simp -dsimp [hf]
 refine ac ?_
 rcases aj hm with ⟨c2, hm⟩ | ⟨c2, hm⟩
 ·refine a8 (b := (ltB a (ah p))) (by simp -dsimp) c2 ?_
  refine aa (a6 (ac (ai ?_)))
  refine srs hn ?_
  obtain ⟨x, h3, hm⟩ := bnd hm
  simp -dsimp [hf, c2, h3]
  obtain ⟨a1, j13, hm⟩ := bnd hm
  refine au [(0, .u (.one (.d (.sl 3 (List.map Cell.row p))))), (8, .u (.one (.d (.sl 3 (List.map Cell.row p))))), (9, .u (.one (.d (.int .i64 (ah p))))), (10, .u (.one (.d (.int .i64 a)))), (42, .u (.one (.d (.bool a1))))] [] (by rfl) (by rfl) ?_ fun ρ σ hf => ?_
  ·replace hm := j13
   clear j13
   refine iR aL mixed (by rw [hn]; kernel_rfl) ?_
   obtain ⟨y, h4, hm⟩ := bnd hm
   simp -dsimp
   refine al (eE x y h4) ?_
   obtain ⟨y1, h5, hm⟩ := bnd hm
   simp -dsimp
   refine al (iB y y1 h5) ?_
   rcases aj hm with ⟨c6, hm⟩ | ⟨c6, hm⟩
   ·simp -dsimp [c6]
    refine a6 ?_
    cases hm
    exact EE.here (by simp -dsimp [hf])
   ·rcases aj hm with ⟨c7, hm⟩ | ⟨c7, hm⟩
    ·simp -dsimp [c6, c7]
     refine a6 ?_
     cases hm
     exact EE.here (by simp -dsimp [hf])
    ·rcases aj hm with ⟨c8, hm⟩ | ⟨c8, hm⟩
     ·simp -dsimp [c6, c7, c8]
      refine a6 ?_
      cases hm
      exact EE.here (by simp -dsimp [hf])
     ·rcases aj hm with ⟨c9, hm⟩ | ⟨c9, hm⟩
      ·obtain ⟨x1, h10, hm⟩ := bnd hm
       obtain ⟨y2, h11, hm⟩ := bnd hm
       simp -dsimp [hf, c6, c7, c8, c9, h10]
       refine al (c_pattern_order x1 x y2 h11) ?_
       simp -dsimp
       refine a6 ?_
       cases hm
       exact EE.here (by simp -dsimp [hf])
      ·simp -dsimp [c6, c7, c8, c9]
       refine a6 ?_
       cases hm
       exact EE.here (by simp -dsimp [hf])
  ·clear j13
   simp only [Fits, ar, ap, and_true] at hf
   rcases aj hm with ⟨c12, hm⟩ | ⟨c12, hm⟩
   ·refine a8 (by simp -dsimp [hf]) c12 ?_
    refine srs hn ?_
    simp -dsimp
    refine ab (aH (ae ?_))
    cases hm
    refine am nofun ?_
    unfold cI
    dsimp only
    refine ⟨rfl, ?_⟩
    exact EE.here (by simp -dsimp [Tryz.results54])
   ·refine a7 (by simp -dsimp [hf]) c12 ?_
    refine aa ?_
    refine aM ?_
    refine a6 ?_
    refine sr1 hn ?_
    simp -dsimp [hf]
    cases hm
    refine az ?_
    exact EE.here (by simp -dsimp [hf])
 ·refine a7 (b := (ltB a (ah p))) (by simp -dsimp) c2 ?_
  refine aw ?_
  refine ae ?_
  cases hm
  refine am nofun ?_
  unfold cI
  dsimp only
  refine ⟨rfl, ?_⟩
  exact EE.here (by simp -dsimp [c2])
set_option maxRecDepth 20000 in
theorem f_pattern_Right (p : List Cell) (r : Bool) (hm : bv p = some r) : PFn Tryz.prog 54 [.u (.one (.d (.sl 3 (List.map Cell.row p))))] (fun v => v.wk (.u (.one (.d (.bool r))))) := by
 refine aV Tryz.func54 Tryz.ntmps54 rfl (by kernel_rfl) (by simp) fun cx hn => ?_
 unfold bv at hm
 refine srs hn ?_
 simp -dsimp
 refine ac ?_
 refine srs hn ?_
 simp -dsimp
 rcases aj hm with ⟨c1, hm⟩ | ⟨c1, hm⟩
 ·refine a8 (by simp -dsimp) c1 ?_
  refine srs hn ?_
  simp -dsimp [c1]
  refine ab (ae ?_)
  cases hm
  refine ⟨.inr rfl, ?_⟩
  exact EE.here (by simp -dsimp)
 ·refine a7 (by simp -dsimp) c1 ?_
  refine aa (a6 (ac ?_))
  refine srs hn ?_
  simp -dsimp [c1]
  refine ai ?_
  obtain ⟨o_, g14, hm⟩ := bnd hm
  refine aJ (l_pattern_Right_1 cx hn p g14) (by
    try dsimp only
    exact EE.here (by simp -dsimp)
  ) fun ee ρ σ x15 => ?_
  rcases o_ with r | _u
  ·unfold cI at x15
   dsimp only at x15
   obtain ⟨rfl, x15⟩ := x15
   refine aH (ae ?_)
   cases hm
   exact ⟨.inr rfl, x15⟩
  ·unfold cI at x15
   dsimp only at x15
   obtain ⟨rfl, x15⟩ := x15
   refine av ?_
   refine a6 ?_
   refine aX (by rfl) (by rfl) x15 fun ρ σ hf => ?_
   simp only [Fits, ar, ap, and_true] at hf
   refine srs hn ?_
   simp -dsimp
   refine ab ?_
   cases hm
   refine ⟨.inr rfl, ?_⟩
   exact EE.here (by simp -dsimp)
theorem eN (p : List Cell) (r : Bool) (hm : bv p = some r) : PureCall Tryz.prog 54 [.u (.one (.d (.sl 3 (List.map Cell.row p))))] (.u (.one (.d (.bool r)))) := (f_pattern_Right p r hm).pureW
def gt (cx : Cx) (p : List Cell) (tt : (Int × Int)) (ee : Exit) (ρ : Env) (σ : Sto) : Prop := match tt with
 | (left, right) => ee = .exit 0 ∧ EE cx (aS [(0, .u (.one (.d (.sl 3 (List.map Cell.row p))))), (2, .u (.one (.box 2 0))), (4, .u (.one (.d (.int .i64 left)))), (5, .u (.one (.d (.int .i64 right))))] [(2, .box [.d (.int .i64 0), .d (.int .i64 0), .d (.int .i64 0), .d (.int .i64 0)])]) ρ σ
theorem l_pattern_Box_1 (cx : Cx) (hn : cx.n = 62) (p : List Cell) {fu : Nat} {stt : Int × Int × Int} {tt : (Int × Int)} (hh : ak (cP p) fu stt = some tt) {ρ : Env} {σ : Sto}
  (hE : aW (fun stt : Int × Int × Int => match stt with | (left, right, a1) => [(0, .u (.one (.d (.sl 3 (List.map Cell.row p))))), (2, .u (.one (.box 2 0))), (4, .u (.one (.d (.int .i64 left)))), (5, .u (.one (.d (.int .i64 right)))), (26, .u (.one (.d (.sl 3 (List.map Cell.row p))))), (27, .u (.one (.d (.int .i64 (ah p))))), (28, .u (.one (.d (.int .i64 a1))))]) (fun stt : Int × Int × Int => match stt with | (_left, _right, _a1) => [(2, .box [.d (.int .i64 0), .d (.int .i64 0), .d (.int .i64 0), .d (.int .i64 0)])]) stt ρ σ) : Swp Tryz.prog cx (.loop (bg [1, 1, 1, 0, 1, 0, 0] (aK Tryz.f27))) ρ σ (gt cx p tt) := by
 refine aY hE hh (gt cx p) ?_
 rintro ⟨left, right, a1⟩ r hm ρ σ hf
 simp only [Fits, ar, ap, and_true] at hf
 unfold cP at hm
 dsimp only at hm
 refine srs hn ?_
 simp -dsimp [hf]
 refine ac ?_
 rcases aj hm with ⟨c5, hm⟩ | ⟨c5, hm⟩
 ·refine a8 (b := (ltB a1 (ah p))) (by simp -dsimp) c5 ?_
  refine aa (a6 (ac (ai ?_)))
  refine srs hn ?_
  obtain ⟨x1, h6, hm⟩ := bnd hm
  simp -dsimp [hf, c5, h6]
  refine iR aL mixed (by rw [hn]; kernel_rfl) ?_
  simp -dsimp [hf]
  refine aM ?_
  refine a6 ?_
  refine sr1 hn ?_
  simp -dsimp [hf]
  cases hm
  refine az ?_
  exact EE.here (by simp -dsimp [hf])
 ·refine a7 (b := (ltB a1 (ah p))) (by simp -dsimp) c5 ?_
  refine aw ?_
  refine ae ?_
  cases hm
  refine am nofun ?_
  unfold gt
  dsimp only
  refine ⟨rfl, ?_⟩
  exact EE.here (by simp -dsimp [hf, c5])
theorem f_pattern_Box (p : List Cell) (r : Box × Bool) (hm : cB p = some r) : PFn Tryz.prog 27 [.u (.one (.d (.sl 3 (List.map Cell.row p))))] (fun v => v.wk (.tup [.agg [.d (.int .i64 r.1.X), .d (.int .i64 r.1.Y), .d (.int .i64 r.1.W), .d (.int .i64 r.1.H)], .one (.d (.bool r.2))])) := by
 refine aV Tryz.func27 Tryz.ntmps27 rfl (by kernel_rfl) (by simp) fun cx hn => ?_
 unfold cB at hm
 refine srs hn ?_
 simp -dsimp
 refine ac ?_
 obtain ⟨a, j10, hm⟩ := bnd hm
 refine au [(0, .u (.one (.d (.sl 3 (List.map Cell.row p))))), (2, .u (.one (.box 2 0))), (16, .u (.one (.d (.bool a))))] [(2, .box [.d (.int .i64 0), .d (.int .i64 0), .d (.int .i64 0), .d (.int .i64 0)])] (by rfl) (by rfl) ?_ fun ρ σ hf => ?_
 ·replace hm := j10
  clear j10
  refine sr1 hn ?_
  rcases aj hm with ⟨c1, hm⟩ | ⟨c1, hm⟩
  ·simp -dsimp [c1]
   refine a6 ?_
   cases hm
   exact EE.here (by simp -dsimp)
  ·obtain ⟨y, h2, hm⟩ := bnd hm
   simp -dsimp [c1]
   refine ag (eN p y h2) (dkL hn) ?_
   simp -dsimp
   refine a6 ?_
   cases hm
   exact EE.here (by simp -dsimp)
 ·clear j10
  simp only [Fits, ar, ap, and_true] at hf
  rcases aj hm with ⟨c3, hm⟩ | ⟨c3, hm⟩
  ·refine a8 (by simp -dsimp [hf]) c3 ?_
   refine srs hn ?_
   simp -dsimp [hf]
   refine ab (ae ?_)
   cases hm
   refine ⟨.inr rfl, ?_⟩
   exact EE.here (by simp -dsimp [hf])
  ·refine a7 (by simp -dsimp [hf]) c3 ?_
   refine aa (a6 ?_)
   refine bF aL mixed (by rw [hn]; kernel_rfl) ?_
   obtain ⟨x, h4, hm⟩ := bnd hm
   simp -dsimp [hf, h4]
   refine ac ?_
   refine srs hn ?_
   simp -dsimp [hf]
   refine ai ?_
   obtain ⟨⟨left, right⟩, g7, hm⟩ := bnd hm
   refine aJ (l_pattern_Box_1 cx hn p g7) (by
     try dsimp only
     exact EE.here (by simp -dsimp [hf])
   ) fun ee ρ σ x8 => ?_
   unfold gt at x8
   dsimp only at x8
   obtain ⟨rfl, x8⟩ := x8
   refine av ?_
   refine a6 ?_
   refine aX (by rfl) (by rfl) x8 fun ρ σ hf => ?_
   simp only [Fits, ar, ap, and_true] at hf
   refine srs hn ?_
   simp -dsimp [hf, h4]
   refine srs hn ?_
   obtain ⟨x1, h9, hm⟩ := bnd hm
   simp -dsimp [hf, h9]
   refine ab ?_
   cases hm
   refine ⟨.inr rfl, ?_⟩
   exact EE.here (by simp -dsimp [hf])
theorem k3 (p : List Cell) (r : Box × Bool) (hm : cB p = some r) : PureCall Tryz.prog 27 [.u (.one (.d (.sl 3 (List.map Cell.row p))))] (.tup [.agg [.d (.int .i64 r.1.X), .d (.int .i64 r.1.Y), .d (.int .i64 r.1.W), .d (.int .i64 r.1.H)], .one (.d (.bool r.2))]) := (f_pattern_Box p r hm).pureW
def gn (cx : Cx) (_p : List Cell) (tt : Int) (ee : Exit) (ρ : Env) (σ : Sto) : Prop := match tt with
 | n => ee = .exit 0 ∧ EE cx (aS [(3, .u (.one (.d (.int .i64 n))))] []) ρ σ
theorem l_pattern_Top_1 (cx : Cx) (hn : cx.n = 19) (p : List Cell) {fu : Nat} {stt : Int × Int} {tt : Int} (hh : ak (dA p) fu stt = some tt) {ρ : Env} {σ : Sto}
  (hE : aW (fun stt : Int × Int => match stt with | (n, a) => [(0, .u (.one (.d (.sl 3 (List.map Cell.row p))))), (3, .u (.one (.d (.int .i64 n)))), (6, .u (.one (.d (.int .i64 (ah p))))), (7, .u (.one (.d (.int .i64 a))))]) (fun stt : Int × Int => match stt with | (_n, _a) => []) stt ρ σ) : Swp Tryz.prog cx (.loop (bg [1, 1, 0, 1, 0, 0] (aK Tryz.f110))) ρ σ (gn cx p tt) := by
 refine aY hE hh (gn cx p) ?_
 rintro ⟨n, a⟩ r hm ρ σ hf
 simp only [Fits, ar, ap, and_true] at hf
 unfold dA at hm
 dsimp only at hm
 refine srs hn ?_
 simp -dsimp [hf]
 refine ac ?_
 rcases aj hm with ⟨c1, hm⟩ | ⟨c1, hm⟩
 ·refine a8 (b := (ltB a (ah p))) (by simp -dsimp) c1 ?_
  refine aa (a6 (ac (ai ?_)))
  refine srs hn ?_
  simp -dsimp [hf, c1]
  refine sr1 hn ?_
  obtain ⟨x, h2, hm⟩ := bnd hm
  simp -dsimp [hf, h2]
  refine aM ?_
  refine a6 ?_
  refine sr1 hn ?_
  simp -dsimp [hf]
  cases hm
  refine az ?_
  exact EE.here (by simp -dsimp [hf])
 ·refine a7 (b := (ltB a (ah p))) (by simp -dsimp) c1 ?_
  refine aw ?_
  refine ae ?_
  cases hm
  refine am nofun ?_
  unfold gn
  dsimp only
  refine ⟨rfl, ?_⟩
  exact EE.here (by simp -dsimp [hf, c1])
theorem f_pattern_Top (p : List Cell) (r : Int) (hm : eT p = some r) : PFn Tryz.prog 110 [.u (.one (.d (.sl 3 (List.map Cell.row p))))] (fun v => v.wk (.u (.one (.d (.int .i64 r))))) := by
 refine aV Tryz.func110 Tryz.ntmps110 rfl (by kernel_rfl) (by simp) fun cx hn => ?_
 unfold eT at hm
 refine srs hn ?_
 simp -dsimp
 refine srs hn ?_
 simp -dsimp
 refine ac ?_
 refine srs hn ?_
 simp -dsimp
 refine ai ?_
 obtain ⟨n, g3, hm⟩ := bnd hm
 refine aJ (l_pattern_Top_1 cx hn p g3) (by
   try dsimp only
   exact EE.here (by simp -dsimp)
 ) fun ee ρ σ x4 => ?_
 unfold gn at x4
 dsimp only at x4
 obtain ⟨rfl, x4⟩ := x4
 refine av ?_
 refine a6 ?_
 refine aX (by rfl) (by rfl) x4 fun ρ σ hf => ?_
 simp only [Fits, ar, ap, and_true] at hf
 refine srs hn ?_
 simp -dsimp [hf]
 refine ab ?_
 cases hm
 refine ⟨.inr rfl, ?_⟩
 exact EE.here (by simp -dsimp)
theorem c_pattern_Top (p : List Cell) (r : Int) (hm : eT p = some r) : PureCall Tryz.prog 110 [.u (.one (.d (.sl 3 (List.map Cell.row p))))] (.u (.one (.d (.int .i64 r)))) := (f_pattern_Top p r hm).pureW
theorem f_direct_check (t : Tree) (p : List Cell) (r : Int) (hm : dl t p = some r) : PFn Tryz.prog 52 [.u (.agg [.d (.int .i64 t.States), .d (.sl 2 (List.map Point.row t.Hood)), .d (.sl 2 (List.map Node.row t.Nodes))]), .u (.one (.d (.sl 3 (List.map Cell.row p))))] (fun v => v.wk (.u (.one (.d (.int .i64 r))))) := by
 refine aV Tryz.func52 Tryz.ntmps52 rfl (by kernel_rfl) (by simp) fun cx hn => ?_
 unfold dl at hm
 refine srs hn ?_
 simp -dsimp
 refine ac (ai ?_)
 refine srs hn ?_
 obtain ⟨y, h1, hm⟩ := bnd hm
 simp -dsimp
 refine ag (kj t y h1) (dkL hn) ?_
 simp -dsimp
 rcases aj hm with ⟨c2, hm⟩ | ⟨c2, hm⟩
 ·refine a8 (b := (aD y)) (by simp -dsimp) c2 ?_
  refine srs hn ?_
  simp -dsimp [c2]
  refine ab (aH (ae ?_))
  cases hm
  refine ⟨.inr rfl, ?_⟩
  exact EE.here (by simp -dsimp)
 ·refine a7 (b := (aD y)) (by simp -dsimp) c2 ?_
  refine srs hn ?_
  obtain ⟨y1, h3, hm⟩ := bnd hm
  simp -dsimp [c2]
  refine ag (eN p y1 h3) (dkL hn) ?_
  simp -dsimp
  rcases aj hm with ⟨c4, hm⟩ | ⟨c4, hm⟩
  ·refine a8 (b := (aD y1)) (by simp -dsimp) c4 ?_
   refine srs hn ?_
   simp -dsimp [c4]
   refine ab (aH (ae ?_))
   cases hm
   refine ⟨.inr rfl, ?_⟩
   exact EE.here (by simp -dsimp)
  ·refine a7 (b := (aD y1)) (by simp -dsimp) c4 ?_
   refine bF aL mixed (by rw [hn]; kernel_rfl) ?_
   obtain ⟨y2, h5, hm⟩ := bnd hm
   simp -dsimp [c4]
   refine al (c_pattern_Top p y2 h5) ?_
   simp -dsimp
   rcases aj hm with ⟨c6, hm⟩ | ⟨c6, hm⟩
   ·refine a8 (b := (geB y2 t.States)) (by simp -dsimp) c6 ?_
    refine srs hn ?_
    simp -dsimp [c6]
    refine ab (aH (ae ?_))
    cases hm
    refine ⟨.inr rfl, ?_⟩
    exact EE.here (by simp -dsimp)
   ·refine a7 (b := (geB y2 t.States)) (by simp -dsimp) c6 ?_
    refine aa ?_
    refine aM ?_
    refine a6 ?_
    refine srs hn ?_
    simp -dsimp [c6]
    refine ab ?_
    cases hm
    refine ⟨.inr rfl, ?_⟩
    exact EE.here (by simp -dsimp)
theorem c_direct_check (t : Tree) (p : List Cell) (r : Int) (hm : dl t p = some r) : PureCall Tryz.prog 52 [.u (.agg [.d (.int .i64 t.States), .d (.sl 2 (List.map Point.row t.Hood)), .d (.sl 2 (List.map Node.row t.Nodes))]), .u (.one (.d (.sl 3 (List.map Cell.row p))))] (.u (.one (.d (.int .i64 r)))) := (f_direct_check t p r hm).pureW
def iJ (cx : Cx) (_p : List Cell) (tt : (List (Point × Int))) (ee : Exit) (ρ : Env) (σ : Sto) : Prop := match tt with
 | m => ee = .exit 0 ∧ EE cx (aS [(3, .u (.one (.map 6)))] [(6, mOb (.ints 2) Point.key (uL (L.int .i64)) m)]) ρ σ
theorem l_direct_of_1 (cx : Cx) (hn : cx.n = 23) (_hk : cx.k = 0) (p : List Cell) {fu : Nat} {stt : Int × (List (Point × Int))} {tt : (List (Point × Int))} (hh : ak (f0 p) fu stt = some tt) {ρ : Env} {σ : Sto}
  (hE : aW (fun stt : Int × (List (Point × Int)) => match stt with | (a, _m) => [(3, .u (.one (.map 6))), (7, .u (.one (.d (.sl 3 (List.map Cell.row p))))), (8, .u (.one (.d (.int .i64 (ah p))))), (9, .u (.one (.d (.int .i64 a))))]) (fun stt : Int × (List (Point × Int)) => match stt with | (_a, m) => [(6, mOb (.ints 2) Point.key (uL (L.int .i64)) m)]) stt ρ σ) : Swp Tryz.prog cx (.loop (bg [1, 1, 0, 1, 0, 0] (aK Tryz.f111))) ρ σ (iJ cx p tt) := by
 refine aY hE hh (iJ cx p) ?_
 rintro ⟨a, m⟩ r hm ρ σ hf
 simp only [Fits, ar, ap, and_true] at hf
 unfold f0 at hm
 dsimp only at hm
 refine srs hn ?_
 simp -dsimp [hf]
 refine ac ?_
 rcases aj hm with ⟨c1, hm⟩ | ⟨c1, hm⟩
 ·refine a8 (b := (ltB a (ah p))) (by simp -dsimp) c1 ?_
  refine aa (a6 (ac (ai ?_)))
  refine srs hn ?_
  obtain ⟨x, h2, hm⟩ := bnd hm
  simp -dsimp [hf, c1, h2]
  refine sr1 hn ?_
  obtain ⟨u, h3, hm⟩ := bnd hm
  simp -dsimp [hf, f7 h3 (.head _), f7 h3 (.tail _ (.head _)), (@id (msetOb (mOb (.ints 2) Point.key (uL (L.int .i64)) m) (.ints [x.X, x.Y]) (.one (.d (.int .i64 x.S))) = mOb (.ints 2) Point.key (uL (L.int .i64)) (io m (⟨x.X, x.Y⟩ : Point) x.S)) (mset_ob (.ints 2) Point.key (uL (L.int .i64)) m (⟨x.X, x.Y⟩ : Point) x.S))]
  refine aM ?_
  refine a6 ?_
  refine sr1 hn ?_
  simp -dsimp [hf]
  cases hm
  refine az ?_
  exact EE.here (by simp -dsimp [hf])
 ·refine a7 (b := (ltB a (ah p))) (by simp -dsimp) c1 ?_
  refine aw ?_
  refine ae ?_
  cases hm
  refine am nofun ?_
  unfold iJ
  dsimp only
  refine ⟨rfl, ?_⟩
  exact EE.here (by simp -dsimp [hf, c1])
theorem g_direct_of (p : List Cell) (r : List (Point × Int)) (hm : iO p = some r) : GFn Tryz.prog 111 [.u (.one (.d (.sl 3 (List.map Cell.row p))))] [] (.u (.one (.map 1000000))) [some (mOb (.ints 2) Point.key (uL (L.int .i64)) r)] := by
 refine cV aL _ Tryz.func111 rfl (by kernel_rfl) (by simp [Tryz.ntmps111]) (by simp) (by first | rfl | simp) (by first | rfl | simp) fun cx hn hk => ?_
 replace hn : cx.n = 23 := hn.trans Tryz.ntmps111
 replace hk : cx.k = 0 := hk
 unfold iO at hm
 refine srs hn ?_
 simp -dsimp
 refine srs hn ?_
 simp -dsimp [(@id (Ob.map (.ints 2) [] = mOb (.ints 2) Point.key (uL (L.int .i64)) ([] : List (Point × Int))) (mOb_nil (.ints 2) Point.key (uL (L.int .i64))))]
 refine ac ?_
 refine srs hn ?_
 simp -dsimp
 refine ai ?_
 obtain ⟨m, g4, hm⟩ := bnd hm
 refine aJ (l_direct_of_1 cx hn hk p g4) (by
   try dsimp only
   exact EE.here (by simp -dsimp)
 ) fun ee ρ σ x5 => ?_
 unfold iJ at x5
 dsimp only at x5
 obtain ⟨rfl, x5⟩ := x5
 refine av ?_
 refine a6 ?_
 refine aX (by rfl) (by rfl) x5 fun ρ σ hf => ?_
 simp only [Fits, ar, ap, and_true] at hf
 refine srs hn ?_
 simp -dsimp [hf]
 refine ab ?_
 cases hm
 refine ⟨.inr rfl, ?_⟩
 refine EE.step (Wk.move 6 1000000 (by decide) (.inr (by rw [hk]; decide))) ?_
 exact EE.here (by simp -dsimp [hf])
def cJ (cx : Cx) (m : List (Point × Int)) (_t : Tree) (_p : Point) (tt : Int) (ee : Exit) (ρ : Env) (σ : Sto) : Prop := match tt with
 | k => ee = .exit 0 ∧ EE cx (aS [(7, .u (.one (.d (.int .i64 k))))] [(1000000, mOb (.ints 2) Point.key (uL (L.int .i64)) m)]) ρ σ
theorem k8 (cx : Cx) (hn : cx.n = 44) (_hk : cx.k = 1) (m : List (Point × Int)) (t : Tree) (p : Point) {fu : Nat} {stt : Int × Int} {tt : Int} (hh : ak (bp m t p) fu stt = some tt) {ρ : Env} {σ : Sto}
  (hE : aW (fun stt : Int × Int => match stt with | (k, a) => [(0, .u (.one (.map 1000000))), (4, .u (.one (.box 4 0))), (5, .u (.one (.box 5 0))), (7, .u (.one (.d (.int .i64 k)))), (15, .u (.one (.d (.sl 2 (List.map Point.row t.Hood))))), (16, .u (.one (.d (.int .i64 (ah t.Hood))))), (17, .u (.one (.d (.int .i64 a))))]) (fun stt : Int × Int => match stt with | (_k, _a) => [(4, .box [.d (.int .i64 t.States), .d (.sl 2 (List.map Point.row t.Hood)), .d (.sl 2 (List.map Node.row t.Nodes))]), (5, .box [.d (.int .i64 p.X), .d (.int .i64 p.Y)]), (1000000, mOb (.ints 2) Point.key (uL (L.int .i64)) m)]) stt ρ σ) : Swp Tryz.prog cx (.loop (bg [1, 1, 0, 1, 0, 0] (aK Tryz.f112))) ρ σ (cJ cx m t p tt) := by
 refine aY hE hh (cJ cx m t p) ?_
 rintro ⟨k, a⟩ r hm ρ σ hf
 simp only [Fits, ar, ap, and_true] at hf
 unfold bp at hm
 dsimp only at hm
 refine srs hn ?_
 simp -dsimp [hf]
 refine ac ?_
 rcases aj hm with ⟨c1, hm⟩ | ⟨c1, hm⟩
 ·refine a8 (b := (ltB a (ah t.Hood))) (by simp -dsimp) c1 ?_
  refine aa (a6 (ac (ai ?_)))
  refine srs hn ?_
  obtain ⟨x, h2, hm⟩ := bnd hm
  simp -dsimp [hf, c1, h2]
  refine iR aL mixed (by rw [hn]; kernel_rfl) ?_
  obtain ⟨x1, h3, hm⟩ := bnd hm
  obtain ⟨u, h4, hm⟩ := bnd hm
  obtain ⟨x2, h5, hm⟩ := bnd hm
  simp -dsimp [hf, h3, f7 h4 (.head _), f7 h4 (.tail _ (.head _)), (@id (lkM (jY (mOb (.ints 2) Point.key (uL (L.int .i64)) m) (.ints [(aG .i64 p.X x.X), (aG .i64 p.Y x.Y)])) false (.one (.d (.int .i64 0))) = some (.u (.one (.d (.int .i64 (dV m (⟨(aG .i64 p.X x.X), (aG .i64 p.Y x.Y)⟩ : Point) 0)))))) (lk_val (⟨(aG .i64 p.X x.X), (aG .i64 p.Y x.Y)⟩ : Point) 0)), h5]
  refine aM ?_
  refine a6 ?_
  refine sr1 hn ?_
  simp -dsimp [hf]
  cases hm
  refine az ?_
  exact EE.here (by simp -dsimp [hf])
 ·refine a7 (b := (ltB a (ah t.Hood))) (by simp -dsimp) c1 ?_
  refine aw ?_
  refine ae ?_
  cases hm
  refine am nofun ?_
  unfold cJ
  dsimp only
  refine ⟨rfl, ?_⟩
  exact EE.here (by simp -dsimp [hf, c1])
theorem g_direct_cells_next_o (m : List (Point × Int)) (t : Tree) (p : Point) (r : Int) (hm : ch m t p = some r) : GFn Tryz.prog 112 [.u (.one (.map 1000000)), .u (.agg [.d (.int .i64 t.States), .d (.sl 2 (List.map Point.row t.Hood)), .d (.sl 2 (List.map Node.row t.Nodes))]), .u (.agg [.d (.int .i64 p.X), .d (.int .i64 p.Y)])] [mOb (.ints 2) Point.key (uL (L.int .i64)) m] (.u (.one (.d (.int .i64 r)))) [some (mOb (.ints 2) Point.key (uL (L.int .i64)) m)] := by
 refine cV aL _ Tryz.func112 rfl (by kernel_rfl) (by simp [Tryz.ntmps112]) (by simp) (by first | rfl | simp) (by first | rfl | simp) fun cx hn hk => ?_
 replace hn : cx.n = 44 := hn.trans Tryz.ntmps112
 replace hk : cx.k = 1 := hk
 unfold ch at hm
 refine srs hn ?_
 simp -dsimp
 refine srs hn ?_
 simp -dsimp
 refine ac ?_
 refine srs hn ?_
 simp -dsimp
 refine ai ?_
 obtain ⟨k, g6, hm⟩ := bnd hm
 refine aJ (k8 cx hn hk m t p g6) (by
   try dsimp only
   exact EE.here (by simp -dsimp)
 ) fun ee ρ σ x7 => ?_
 unfold cJ at x7
 dsimp only at x7
 obtain ⟨rfl, x7⟩ := x7
 refine av ?_
 refine a6 ?_
 refine aX (by rfl) (by rfl) x7 fun ρ σ hf => ?_
 simp only [Fits, ar, ap, and_true] at hf
 refine srs hn ?_
 simp -dsimp [hf]
 refine ab ?_
 cases hm
 refine ⟨.inr rfl, ?_⟩
 exact EE.here (by simp -dsimp [hf])
theorem f_direct_place (p : Point) (r : Bool) (hm : fp p = some r) : PFn Tryz.prog 113 [.u (.agg [.d (.int .i64 p.X), .d (.int .i64 p.Y)])] (fun v => v.wk (.u (.one (.d (.bool r))))) := by
 refine aV Tryz.func113 Tryz.ntmps113 rfl (by kernel_rfl) (by simp) fun cx hn => ?_
 unfold fp at hm
 refine srs hn ?_
 simp -dsimp
 obtain ⟨a, j2, hm⟩ := bnd hm
 refine au [(2, .u (.one (.d (.bool a))))] [] (by rfl) (by rfl) ?_ fun ρ σ hf => ?_
 ·replace hm := j2
  clear j2
  refine sr1 hn ?_
  rcases aj hm with ⟨c1, hm⟩ | ⟨c1, hm⟩
  ·simp -dsimp [c1]
   refine a6 ?_
   cases hm
   exact EE.here (by simp -dsimp)
  ·simp -dsimp [c1]
   refine a6 ?_
   cases hm
   exact EE.here (by simp -dsimp)
 ·clear j2
  simp only [Fits, ar, ap, and_true] at hf
  refine ab ?_
  cases hm
  refine ⟨.inr rfl, ?_⟩
  exact EE.here (by simp -dsimp [hf])
theorem c_direct_place (p : Point) (r : Bool) (hm : fp p = some r) : PureCall Tryz.prog 113 [.u (.agg [.d (.int .i64 p.X), .d (.int .i64 p.Y)])] (.u (.one (.d (.bool r)))) := (f_direct_place p r hm).pureW
end Go.Proofs.YtfpjnmhdbgbmmaaGreatDoor
