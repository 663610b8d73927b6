/- That the code does what the functions say (made by cc.py). -/
import Derived.Test.YtogdjcdmbodmiaaGreatDoorWa6
import Derived.Test.YtogdjcdmbodmiaaGreatDoorWa12
namespace Go.Proofs.YtogdjcdmbodmiaaGreatDoor
open Go.AM Go.Proofs
attribute [-simp] qlookup cJ cG Ob.wipe Ob.ren Ob.frz1 bX dz dJ fw Prod.forall Key.u
def F_R05_Compare_1 (cx : Cx) (a : List Cell) (b : List Cell) (tt : Int ⊕ Unit) (ee : Exit) (ρ : Env) (σ : Sto) : Prop := match tt with
 | .inl r => ee = .ret ∧ EE cx (fun ρ σ => ∃ v, eH tb ρ σ Tryz.f40.results.toList = some v ∧ (v.frz σ).free = true ∧ (v.frz σ).wk (.u (.one (.d (.int .i64 r))))) ρ σ
 | .inr _u => ee = .exit 0 ∧ EE cx (b4 [(0, .u (.one (.d (.sl 3 (List.map Cell.row a))))), (1, .u (.one (.d (.sl 3 (List.map Cell.row b)))))] []) ρ σ
theorem l_R05_Compare_1 (cx : Cx) (hn : cx.n = 89) (a : List Cell) (b : List Cell) {fu : Nat} {stt : Int} {tt : Int ⊕ Unit} (hh : am (cC a b) fu stt = some tt) {ρ : Env} {σ : Sto}
  (hE : bT (fun i : Int => [(0, .u (.one (.d (.sl 3 (List.map Cell.row a))))), (1, .u (.one (.d (.sl 3 (List.map Cell.row b))))), (5, .u (.one (.d (.int .i64 i))))]) (fun _i : Int => []) stt ρ σ) : Swp Tryz.prog cx (.loop (d4 [1, 0, 1, 0, 0] (aZ Tryz.f40))) ρ σ (F_R05_Compare_1 cx a b tt) := by
 refine cd hE hh (F_R05_Compare_1 cx a b) ?_
 rintro i r hm ρ σ hf
 simp only [Fits, ap, ar, and_true] at hf
 unfold cC at hm
 dsimp only at hm
 refine ae ?_
 obtain ⟨a1, j11, hm⟩ := bnd hm
 refine au [(0, .u (.one (.d (.sl 3 (List.map Cell.row a))))), (1, .u (.one (.d (.sl 3 (List.map Cell.row b))))), (5, .u (.one (.d (.int .i64 i)))), (15, .u (.one (.d (.bool a1))))] [] (by rfl) (by rfl) ?_ fun ρ σ hf => ?_
 ·replace hm := j11
  clear j11
  refine sr1 hn ?_
  rcases ai hm with ⟨c1, hm⟩ | ⟨c1, hm⟩
  ·simp -dsimp [hf, c1]
   refine a6 ?_
   cases hm
   exact EE.here (by simp -dsimp [hf])
  ·simp -dsimp [hf, c1]
   refine a6 ?_
   cases hm
   exact EE.here (by simp -dsimp [hf])
 ·clear j11
  simp only [Fits, ap, ar, and_true] at hf
  rcases ai hm with ⟨c2, hm⟩ | ⟨c2, hm⟩
  ·refine a8 (by simp -dsimp [hf]) c2 ?_
   refine ab (a6 (ae (ah (ae ?_))))
   refine ek aW mixed (by rw [hn]; kernel_rfl) ?_
   obtain ⟨x, h3, hm⟩ := bnd hm
   obtain ⟨x1, h4, hm⟩ := bnd hm
   simp -dsimp [hf, h3, h4]
   rcases ai hm with ⟨c5, hm⟩ | ⟨c5, hm⟩
   ·refine a8 (by simp -dsimp) c5 ?_
    refine ek aW mixed (by rw [hn]; kernel_rfl) ?_
    obtain ⟨y, h6, hm⟩ := bnd hm
    simp -dsimp [hf, h3, h4, c5]
    refine aw (c_R05_order x.Y x1.Y y h6) ?_
    simp -dsimp
    refine ac (ag (aK (ag ?_)))
    cases hm
    refine aB nofun ?_
    unfold F_R05_Compare_1
    dsimp only
    refine ⟨rfl, ?_⟩
    exact EE.here (by simp -dsimp [Tryz.results40])
   ·refine a7 (by simp -dsimp) c5 ?_
    refine ab (a6 (ae ?_))
    refine ek aW mixed (by rw [hn]; kernel_rfl) ?_
    simp -dsimp [hf, h3, h4, c5]
    rcases ai hm with ⟨c7, hm⟩ | ⟨c7, hm⟩
    ·refine a8 (by simp -dsimp) c7 ?_
     refine ek aW mixed (by rw [hn]; kernel_rfl) ?_
     obtain ⟨y, h8, hm⟩ := bnd hm
     simp -dsimp [hf, h3, h4, c7]
     refine aw (c_R05_order x.X x1.X y h8) ?_
     simp -dsimp
     refine ac (ag (aK (ag ?_)))
     cases hm
     refine aB nofun ?_
     unfold F_R05_Compare_1
     dsimp only
     refine ⟨rfl, ?_⟩
     exact EE.here (by simp -dsimp [Tryz.results40])
    ·refine a7 (by simp -dsimp) c7 ?_
     refine ab (a6 ?_)
     refine ek aW mixed (by rw [hn]; kernel_rfl) ?_
     simp -dsimp [hf, h3, h4, c7]
     rcases ai hm with ⟨c9, hm⟩ | ⟨c9, hm⟩
     ·refine a8 (by simp -dsimp) c9 ?_
      refine ek aW mixed (by rw [hn]; kernel_rfl) ?_
      obtain ⟨y, h10, hm⟩ := bnd hm
      simp -dsimp [hf, h3, h4, c9]
      refine aw (c_R05_order x.S x1.S y h10) ?_
      simp -dsimp
      refine ac (aK (ag ?_))
      cases hm
      refine aB nofun ?_
      unfold F_R05_Compare_1
      dsimp only
      refine ⟨rfl, ?_⟩
      exact EE.here (by simp -dsimp [Tryz.results40])
     ·refine a7 (by simp -dsimp) c9 ?_
      refine ab ?_
      refine aV ?_
      refine a6 ?_
      refine sr1 hn ?_
      simp -dsimp [hf, c9]
      cases hm
      refine aI ?_
      exact EE.here (by simp -dsimp [hf])
  ·refine a7 (by simp -dsimp [hf]) c2 ?_
   refine aC ?_
   refine ag ?_
   cases hm
   refine aB nofun ?_
   unfold F_R05_Compare_1
   dsimp only
   refine ⟨rfl, ?_⟩
   exact EE.here (by simp -dsimp [hf])
theorem f_R05_Compare (a : List Cell) (b : List Cell) (r : Int) (hm : dX a b = some r) : PFn Tryz.prog 40 [.u (.one (.d (.sl 3 (List.map Cell.row a)))), .u (.one (.d (.sl 3 (List.map Cell.row b))))] (fun v => v.wk (.u (.one (.d (.int .i64 r))))) := by
 refine bv Tryz.func40 Tryz.ntmps40 rfl (by kernel_rfl) (by simp) fun cx hn => ?_
 unfold dX at hm
 refine srs hn ?_
 simp -dsimp
 refine ae ?_
 refine srs hn ?_
 simp -dsimp
 refine ah ?_
 obtain ⟨o_, g12, hm⟩ := bnd hm
 refine bf (l_R05_Compare_1 cx hn a b g12) (by
   try dsimp only
   exact EE.here (by simp -dsimp)
 ) fun ee ρ σ x13 => ?_
 rcases o_ with r | _u
 ·unfold F_R05_Compare_1 at x13
  dsimp only at x13
  obtain ⟨rfl, x13⟩ := x13
  refine aK (ag ?_)
  cases hm
  exact ⟨.inr rfl, x13⟩
 ·unfold F_R05_Compare_1 at x13
  dsimp only at x13
  obtain ⟨rfl, x13⟩ := x13
  refine aD ?_
  refine a6 ?_
  refine bN (by rfl) (by rfl) x13 fun ρ σ hf => ?_
  simp only [Fits, ap, ar, and_true] at hf
  refine srs hn ?_
  obtain ⟨y, h14, hm⟩ := bnd hm
  simp -dsimp [hf]
  refine aa (c_R05_order (ak a) (ak b) y h14) (dkL hn) ?_
  simp -dsimp
  refine ac ?_
  cases hm
  refine ⟨.inr rfl, ?_⟩
  exact EE.here (by simp -dsimp)
theorem c_R05_Compare (a : List Cell) (b : List Cell) (r : Int) (hm : dX a b = some r) : PureCall Tryz.prog 40 [.u (.one (.d (.sl 3 (List.map Cell.row a)))), .u (.one (.d (.sl 3 (List.map Cell.row b))))] (.u (.one (.d (.int .i64 r)))) := (f_R05_Compare a b r hm).pureW
theorem f_R05_Same (a : List Cell) (b : List Cell) (r : Bool) (hm : ej a b = some r) : PFn Tryz.prog 10 [.u (.one (.d (.sl 3 (List.map Cell.row a)))), .u (.one (.d (.sl 3 (List.map Cell.row b))))] (fun v => v.wk (.u (.one (.d (.bool r))))) := by
 refine bv Tryz.func10 Tryz.ntmps10 rfl (by kernel_rfl) (by simp) fun cx hn => ?_
 unfold ej at hm
 refine srs hn ?_
 simp -dsimp
 refine srs hn ?_
 obtain ⟨y, h1, hm⟩ := bnd hm
 simp -dsimp
 refine aa (c_R05_Compare a b y h1) (dkL hn) ?_
 simp -dsimp
 refine ac ?_
 cases hm
 refine ⟨.inr rfl, ?_⟩
 exact EE.here (by simp -dsimp)
theorem c_R05_Same (a : List Cell) (b : List Cell) (r : Bool) (hm : ej a b = some r) : PureCall Tryz.prog 10 [.u (.one (.d (.sl 3 (List.map Cell.row a)))), .u (.one (.d (.sl 3 (List.map Cell.row b))))] (.u (.one (.d (.bool r)))) := (f_R05_Same a b r hm).pureW
section
attribute [-simp] List.map_set List.set_set
def F_delta_Invert_1 (cx : Cx) (_y1 : List Change) (tt : (List Change)) (ee : Exit) (ρ : Env) (σ : Sto) : Prop := match tt with
 | out => ee = .exit 0 ∧ EE cx (b4 [(3, .u (.one (.own 10)))] [(10, .row 4 74 (List.map Change.row out))]) ρ σ
theorem l_delta_Invert_1 (cx : Cx) (hn : cx.n = 32) (y1 : List Change) {fu : Nat} {stt : Int × (List Change)} {tt : (List Change)} (hh : am (fG y1) fu stt = some tt) {ρ : Env} {σ : Sto}
  (hE : bT (fun stt : Int × (List Change) => match stt with | (a, _out) => [(3, .u (.one (.own 10))), (11, .u (.one (.own 10))), (12, .u (.one (.d (.int .i64 (ak y1))))), (13, .u (.one (.d (.int .i64 a))))]) (fun stt : Int × (List Change) => match stt with | (_a, out) => [(10, .row 4 74 (List.map Change.row out))]) stt ρ σ) : Swp Tryz.prog cx (.loop (d4 [1, 1, 1, 0, 1, 0, 0] (aZ Tryz.f33))) ρ σ (F_delta_Invert_1 cx y1 tt) := by
 refine cd hE hh (F_delta_Invert_1 cx y1) ?_
 rintro ⟨a, out⟩ r hm ρ σ hf
 simp only [Fits, ap, ar, and_true] at hf
 unfold fG at hm
 dsimp only at hm
 refine srs hn ?_
 simp -dsimp [hf]
 refine ae ?_
 rcases ai hm with ⟨c4, hm⟩ | ⟨c4, hm⟩
 ·refine a8 (by simp -dsimp) c4 ?_
  refine ab (a6 (ae (ah ?_)))
  refine srs hn ?_
  obtain ⟨x, h5, hm⟩ := bnd hm
  simp -dsimp [hf, c4, h5, idx_get h5]
  refine sw_midc aW mixed 10 11 11 0 [[2, 3, 6, 7]] [[]] [] none (by rw [hn]; kernel_rfl) fltT_none ?_
  dsimp only [List.take, List.drop, midsD, lateD, uopsD, pk, List.cons_append, List.nil_append, List.flatten_cons, List.flatten_nil, flN_none, flN_some, List.append_nil]
  obtain ⟨x1, h6, hm⟩ := bnd hm
  simp -dsimp [hf, h5, idx_get h5, Change.rset out a.toNat x.X x.Y x.To x.To, h6, idx_get h6, Change.rset (out.set a.toNat (⟨x.X, x.Y, x.To, x.To⟩ : Change)) a.toNat x1.X x1.Y x1.From x.From]
  refine aV ?_
  refine a6 ?_
  refine sr1 hn ?_
  simp -dsimp [hf]
  cases hm
  refine aI ?_
  exact EE.here (by simp -dsimp [hf])
 ·refine a7 (by simp -dsimp) c4 ?_
  refine aC ?_
  refine ag ?_
  cases hm
  refine aB nofun ?_
  unfold F_delta_Invert_1
  dsimp only
  refine ⟨rfl, ?_⟩
  exact EE.here (by simp -dsimp [hf, c4])
theorem f_delta_Invert (l : List Change) (r : List Change) (hm : fo l = some r) : PFn Tryz.prog 33 [.u (.one (.d (.sl 4 (List.map Change.row l))))] (fun v => v.wk (.u (.one (.d (.sl 4 (List.map Change.row r)))))) := by
 refine bv Tryz.func33 Tryz.ntmps33 rfl (by kernel_rfl) (by simp) fun cx hn => ?_
 unfold fo at hm
 refine srs hn ?_
 simp -dsimp
 refine ae ?_
 refine srs hn ?_
 obtain ⟨y, h1, hm⟩ := bnd hm
 simp -dsimp
 refine aa (c_delta_Right l y h1) (dkL hn) ?_
 simp -dsimp
 rcases ai hm with ⟨c2, hm⟩ | ⟨c2, hm⟩
 ·refine a8 (by simp -dsimp) c2 ?_
  refine srs hn ?_
  simp -dsimp [c2]
  refine ac (ag ?_)
  cases hm
  refine ⟨.inr rfl, ?_⟩
  exact EE.here (by simp -dsimp)
 ·refine a7 (by simp -dsimp) c2 ?_
  refine ab (a6 ?_)
  refine srs hn ?_
  obtain ⟨y1, h3, hm⟩ := bnd hm
  simp -dsimp [c2]
  refine callL_new (n_slices_Clone_api_Change_api_Change l y1 h3) (dkL hn) (by decide) ?_
  simp -dsimp
  refine ae ?_
  refine srs hn ?_
  simp -dsimp
  refine ah ?_
  obtain ⟨out, g7, hm⟩ := bnd hm
  refine bf (l_delta_Invert_1 cx hn y1 g7) (by
    try dsimp only
    exact EE.here (by simp -dsimp)
  ) fun ee ρ σ x8 => ?_
  unfold F_delta_Invert_1 at x8
  dsimp only at x8
  obtain ⟨rfl, x8⟩ := x8
  refine aD ?_
  refine a6 ?_
  refine bN (by rfl) (by rfl) x8 fun ρ σ hf => ?_
  simp only [Fits, ap, ar, and_true] at hf
  refine srs hn ?_
  simp -dsimp [hf]
  refine ac ?_
  cases hm
  refine ⟨.inr rfl, ?_⟩
  exact EE.here (by simp -dsimp [hf])
theorem c_delta_Invert (l : List Change) (r : List Change) (hm : fo l = some r) : PureCall Tryz.prog 33 [.u (.one (.d (.sl 4 (List.map Change.row l))))] (.u (.one (.d (.sl 4 (List.map Change.row r))))) := (f_delta_Invert l r hm).pureW
end
theorem f_L53_awake (r : Bool) (hm : dE = some r) : PFn Tryz.prog 7 [] (fun v => v.wk (.u (.one (.d (.bool r))))) := by
 refine bv Tryz.func7 Tryz.ntmps7 rfl (by kernel_rfl) (by simp) fun cx hn => ?_
 unfold dE at hm
 refine srs hn ?_
 simp -dsimp
 refine srs hn ?_
 simp -dsimp
 refine srs hn ?_
 obtain ⟨y, h1, hm⟩ := bnd hm
 simp -dsimp
 refine aa (c_delta_Of [(⟨0, 0, 1⟩ : Cell), (⟨1, 0, 1⟩ : Cell)] [(⟨1, 0, 2⟩ : Cell), (⟨2, 0, 1⟩ : Cell)] y h1) (dkL hn) ?_
 simp -dsimp
 refine srs hn ?_
 obtain ⟨y1, h2, hm⟩ := bnd hm
 simp -dsimp
 refine aa (c_delta_Apply [(⟨0, 0, 1⟩ : Cell), (⟨1, 0, 1⟩ : Cell)] y.1 y1 h2) (dkL hn) ?_
 simp -dsimp
 refine srs hn ?_
 obtain ⟨y2, h3, hm⟩ := bnd hm
 simp -dsimp
 refine aa (c_delta_Then [(⟨0, 0, 1, 2⟩ : Change)] [(⟨0, 0, 2, 1⟩ : Change)] y2 h3) (dkL hn) ?_
 simp -dsimp
 refine srs hn ?_
 obtain ⟨y3, h4, hm⟩ := bnd hm
 simp -dsimp
 refine aa (c_delta_Then [(⟨0, 0, 1, 2⟩ : Change)] [(⟨0, 0, 1, 0⟩ : Change)] y3 h4) (dkL hn) ?_
 simp -dsimp
 refine srs hn ?_
 obtain ⟨y4, h5, hm⟩ := bnd hm
 simp -dsimp
 refine aa (c_delta_Merge [(⟨5, 5, 0, 1⟩ : Change)] [(⟨5, 5, 0, 2⟩ : Change)] y4 h5) (dkL hn) ?_
 simp -dsimp
 obtain ⟨a, j21, hm⟩ := bnd hm
 refine au [(0, .u (.one (.d (.bool a))))] [] (by rfl) (by rfl) ?_ fun ρ σ hf => ?_
 ·replace hm := j21
  clear j21
  refine sr1 hn ?_
  rcases ai hm with ⟨c6, hm⟩ | ⟨c6, hm⟩
  ·rcases ai hm with ⟨c7, hm⟩ | ⟨c7, hm⟩
   ·rcases ai hm with ⟨c8, hm⟩ | ⟨c8, hm⟩
    ·rcases ai hm with ⟨c9, hm⟩ | ⟨c9, hm⟩
     ·rcases ai hm with ⟨c10, hm⟩ | ⟨c10, hm⟩
      ·obtain ⟨y5, h11, hm⟩ := bnd hm
       simp -dsimp [c6, c7, c8, c9, c10]
       refine aa (c_R53_Same y.1 [(⟨0, 0, 1, 0⟩ : Change), (⟨1, 0, 1, 2⟩ : Change), (⟨2, 0, 0, 1⟩ : Change)] y5 h11) (dkL hn) ?_
       rcases ai hm with ⟨c12, hm⟩ | ⟨c12, hm⟩
       ·obtain ⟨y6, h13, hm⟩ := bnd hm
        simp -dsimp [c12]
        refine aa (c_R05_Same y1.1 [(⟨1, 0, 2⟩ : Cell), (⟨2, 0, 1⟩ : Cell)] y6 h13) (dkL hn) ?_
        rcases ai hm with ⟨c14, hm⟩ | ⟨c14, hm⟩
        ·rcases ai hm with ⟨c15, hm⟩ | ⟨c15, hm⟩
         ·rcases ai hm with ⟨c16, hm⟩ | ⟨c16, hm⟩
          ·obtain ⟨y7, h17, hm⟩ := bnd hm
           simp -dsimp [c14, c15, c16]
           refine aa (c_delta_Right y.1 y7 h17) (dkL hn) ?_
           rcases ai hm with ⟨c18, hm⟩ | ⟨c18, hm⟩
           ·obtain ⟨y8, h19, hm⟩ := bnd hm
            simp -dsimp [c18]
            refine aa (c_delta_Invert y.1 y8 h19) (dkL hn) ?_
            obtain ⟨y9, h20, hm⟩ := bnd hm
            simp -dsimp
            refine aa (c_R53_Same y8 [(⟨0, 0, 0, 1⟩ : Change), (⟨1, 0, 2, 1⟩ : Change), (⟨2, 0, 1, 0⟩ : Change)] y9 h20) (dkL hn) ?_
            simp -dsimp
            refine a6 ?_
            cases hm
            exact EE.here (by simp -dsimp)
           ·simp -dsimp [c18]
            refine a6 ?_
            cases hm
            exact EE.here (by simp -dsimp)
          ·simp -dsimp [c14, c15, c16]
           refine a6 ?_
           cases hm
           exact EE.here (by simp -dsimp)
         ·simp -dsimp [c14, c15]
          refine a6 ?_
          cases hm
          exact EE.here (by simp -dsimp)
        ·simp -dsimp [c14]
         refine a6 ?_
         cases hm
         exact EE.here (by simp -dsimp)
       ·simp -dsimp [c12]
        refine a6 ?_
        cases hm
        exact EE.here (by simp -dsimp)
      ·simp -dsimp [c6, c7, c8, c9, c10]
       refine a6 ?_
       cases hm
       exact EE.here (by simp -dsimp)
     ·simp -dsimp [c6, c7, c8, c9]
      refine a6 ?_
      cases hm
      exact EE.here (by simp -dsimp)
    ·simp -dsimp [c6, c7, c8]
     refine a6 ?_
     cases hm
     exact EE.here (by simp -dsimp)
   ·simp -dsimp [c6, c7]
    refine a6 ?_
    cases hm
    exact EE.here (by simp -dsimp)
  ·simp -dsimp [c6]
   refine a6 ?_
   cases hm
   exact EE.here (by simp -dsimp)
 ·clear j21
  simp only [Fits, ap, ar, and_true] at hf
  refine ac ?_
  cases hm
  refine ⟨.inr rfl, ?_⟩
  exact EE.here (by simp -dsimp [hf])
theorem c_L53_awake (r : Bool) (hm : dE = some r) : PureCall Tryz.prog 7 [] (.u (.one (.d (.bool r)))) := (f_L53_awake r hm).pureW
theorem f_L53_DeltaSteps (p : List Cell) (number : Int) (r : Bool) (hm : cR p number = some r) : PFn Tryz.prog 3 [.u (.one (.d (.sl 3 (List.map Cell.row p)))), .u (.one (.d (.int .u8 number)))] (fun v => v.wk (.u (.one (.d (.bool r))))) := by
 refine bv Tryz.func3 Tryz.ntmps3 rfl (by kernel_rfl) (by simp) fun cx hn => ?_
 unfold cR at hm
 refine srs hn ?_
 simp -dsimp
 refine srs hn ?_
 obtain ⟨n, h1, hm⟩ := bnd hm
 simp -dsimp [h1]
 refine srs hn ?_
 simp -dsimp
 obtain ⟨s, j27, hm⟩ := bnd hm
 refine au [(0, .u (.one (.d (.sl 3 (List.map Cell.row p))))), (5, .u (.one (.d (.int .i64 (imul .i64 n 2))))), (6, .u (.one (.d (.str (bs s)))))] [] (by rfl) (by rfl) ?_ fun ρ σ hf => ?_
 ·replace hm := j27
  clear j27
  refine srs hn ?_
  simp -dsimp
  rcases ai hm with ⟨c2, hm⟩ | ⟨c2, hm⟩
  ·refine a8 (by simp -dsimp) c2 ?_
   refine sr1 hn ?_
   obtain ⟨n1, h3, hm⟩ := bnd hm
   obtain ⟨s, h4, hm⟩ := bnd hm
   simp -dsimp [c2, h3, h4]
   refine a6 ?_
   cases hm
   exact EE.here (by simp -dsimp)
  ·refine a7 (by simp -dsimp) c2 ?_
   refine ab (a6 ?_)
   cases hm
   exact EE.here (by simp -dsimp [c2])
 ·clear j27
  simp only [Fits, ap, ar, and_true] at hf
  obtain ⟨s1, j26, hm⟩ := bnd hm
  refine au [(0, .u (.one (.d (.sl 3 (List.map Cell.row p))))), (5, .u (.one (.d (.int .i64 (imul .i64 n 2))))), (6, .u (.one (.d (.str (bs s1)))))] [] (by rfl) (by rfl) ?_ fun ρ σ hf => ?_
  ·replace hm := j26
   clear j26
   refine srs hn ?_
   simp -dsimp [hf]
   rcases ai hm with ⟨c5, hm⟩ | ⟨c5, hm⟩
   ·refine a8 (by simp -dsimp) c5 ?_
    refine sr1 hn ?_
    obtain ⟨n1, h6, hm⟩ := bnd hm
    obtain ⟨n2, h7, hm⟩ := bnd hm
    obtain ⟨s1, h8, hm⟩ := bnd hm
    simp -dsimp [hf, c5, h6, h7, h8]
    refine a6 ?_
    cases hm
    exact EE.here (by simp -dsimp [hf])
   ·refine a7 (by simp -dsimp) c5 ?_
    refine ab (a6 ?_)
    cases hm
    exact EE.here (by simp -dsimp [hf, c5])
  ·clear j26
   simp only [Fits, ap, ar, and_true] at hf
   refine srs hn ?_
   obtain ⟨n1, h9, hm⟩ := bnd hm
   obtain ⟨s2, h10, hm⟩ := bnd hm
   obtain ⟨y, h11, hm⟩ := bnd hm
   simp -dsimp [hf, h9, h10]
   refine aa (c_notation_Parse s2 y h11) (dkL hn) ?_
   simp -dsimp
   refine ae ?_
   refine srs hn ?_
   simp -dsimp
   rcases ai hm with ⟨c12, hm⟩ | ⟨c12, hm⟩
   ·refine a8 (by simp -dsimp) c12 ?_
    refine srs hn ?_
    simp -dsimp [c12]
    refine ac (ag ?_)
    cases hm
    refine ⟨.inr rfl, ?_⟩
    exact EE.here (by simp -dsimp)
   ·refine a7 (by simp -dsimp) c12 ?_
    refine ab (a6 ?_)
    refine srs hn ?_
    obtain ⟨y1, h13, hm⟩ := bnd hm
    simp -dsimp [hf, c12]
    refine aa (c_direct_Step y.1 p y1 h13) (dkL hn) ?_
    simp -dsimp
    refine ae ?_
    obtain ⟨a, j25, hm⟩ := bnd hm
    refine au [(0, .u (.one (.d (.sl 3 (List.map Cell.row p))))), (9, .u (.one (.d (.sl 3 (List.map Cell.row y1.1))))), (66, .u (.one (.d (.bool a))))] [] (by rfl) (by rfl) ?_ fun ρ σ hf => ?_
    ·replace hm := j25
     clear j25
     refine sr1 hn ?_
     rcases ai hm with ⟨c14, hm⟩ | ⟨c14, hm⟩
     ·simp -dsimp [hf, c14]
      refine a6 ?_
      cases hm
      exact EE.here (by simp -dsimp [hf])
     ·simp -dsimp [hf, c14]
      refine a6 ?_
      cases hm
      exact EE.here (by simp -dsimp [hf])
    ·clear j25
     simp only [Fits, ap, ar, and_true] at hf
     rcases ai hm with ⟨c15, hm⟩ | ⟨c15, hm⟩
     ·refine a8 (by simp -dsimp [hf]) c15 ?_
      refine srs hn ?_
      obtain ⟨y2, h16, hm⟩ := bnd hm
      simp -dsimp
      refine aa (c_L53_awake y2 h16) (dkL hn) ?_
      simp -dsimp
      refine ac (ag ?_)
      cases hm
      refine ⟨.inr rfl, ?_⟩
      exact EE.here (by simp -dsimp)
     ·refine a7 (by simp -dsimp [hf]) c15 ?_
      refine ab (a6 ?_)
      refine srs hn ?_
      obtain ⟨y2, h17, hm⟩ := bnd hm
      simp -dsimp [hf]
      refine aa (c_delta_Of p y1.1 y2 h17) (dkL hn) ?_
      simp -dsimp
      refine srs hn ?_
      obtain ⟨y3, h18, hm⟩ := bnd hm
      simp -dsimp [hf]
      refine aa (c_delta_Apply p y2.1 y3 h18) (dkL hn) ?_
      simp -dsimp
      obtain ⟨a1, j24, hm⟩ := bnd hm
      refine au [(4, .u (.one (.d (.bool a1))))] [] (by rfl) (by rfl) ?_ fun ρ σ hf => ?_
      ·replace hm := j24
       clear j24
       refine sr1 hn ?_
       rcases ai hm with ⟨c19, hm⟩ | ⟨c19, hm⟩
       ·rcases ai hm with ⟨c20, hm⟩ | ⟨c20, hm⟩
        ·obtain ⟨y4, h21, hm⟩ := bnd hm
         simp -dsimp [hf, c19, c20]
         refine aa (c_R05_Same y3.1 y1.1 y4 h21) (dkL hn) ?_
         rcases ai hm with ⟨c22, hm⟩ | ⟨c22, hm⟩
         ·obtain ⟨y5, h23, hm⟩ := bnd hm
          simp -dsimp [c22]
          refine aa (c_L53_awake y5 h23) (dkL hn) ?_
          simp -dsimp
          refine a6 ?_
          cases hm
          exact EE.here (by simp -dsimp)
         ·simp -dsimp [c22]
          refine a6 ?_
          cases hm
          exact EE.here (by simp -dsimp)
        ·simp -dsimp [c19, c20]
         refine a6 ?_
         cases hm
         exact EE.here (by simp -dsimp)
       ·simp -dsimp [c19]
        refine a6 ?_
        cases hm
        exact EE.here (by simp -dsimp)
      ·clear j24
       simp only [Fits, ap, ar, and_true] at hf
       refine ac ?_
       cases hm
       refine ⟨.inr rfl, ?_⟩
       exact EE.here (by simp -dsimp [hf])
theorem c_L53_DeltaSteps (p : List Cell) (number : Int) (r : Bool) (hm : cR p number = some r) : PureCall Tryz.prog 3 [.u (.one (.d (.sl 3 (List.map Cell.row p)))), .u (.one (.d (.int .u8 number)))] (.u (.one (.d (.bool r)))) := (f_L53_DeltaSteps p number r hm).pureW
end Go.Proofs.YtogdjcdmbodmiaaGreatDoor
