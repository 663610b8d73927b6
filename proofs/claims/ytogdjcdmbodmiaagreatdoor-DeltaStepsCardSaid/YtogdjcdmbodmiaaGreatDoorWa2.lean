/- That the code does what the functions say (made by cc.py). -/
import Derived.Test.YtogdjcdmbodmiaaGreatDoorWa1
namespace Go.Proofs.YtogdjcdmbodmiaaGreatDoor
open Go.AM Go.Proofs
attribute [-simp] qlookup cJ cG Ob.wipe Ob.ren Ob.frz1 bX dz dJ fw Prod.forall Key.u
def bB (cx : Cx) (s : List UInt8) (_l : List Int) (tt : Bool ⊕ Unit) (ee : Exit) (ρ : Env) (σ : Sto) : Prop := match tt with
 | .inl r => ee = .ret ∧ EE cx (fun ρ σ => ∃ v, eH tb ρ σ Tryz.f61.results.toList = some v ∧ (v.frz σ).free = true ∧ (v.frz σ).wk (.u (.one (.d (.bool r))))) ρ σ
 | .inr _u => ee = .exit 0 ∧ EE cx (b4 [(0, .u (.one (.d (.str (bs s)))))] []) ρ σ
theorem hD (cx : Cx) (hn : cx.n = 32) (s : List UInt8) (l : List Int) {fu : Nat} {stt : Int} {tt : Bool ⊕ Unit} (hh : am (dH s l) fu stt = some tt) {ρ : Env} {σ : Sto}
  (hE : bT (fun a : Int => [(0, .u (.one (.d (.str (bs s))))), (6, .u (.one (.d (.sl 1 (List.map (rI .u8) l))))), (7, .u (.one (.d (.int .i64 (ak l))))), (8, .u (.one (.d (.int .i64 a))))]) (fun _a : Int => []) stt ρ σ) : Swp Tryz.prog cx (.loop (d4 [1, 0, 1, 0, 0] (aZ Tryz.f61))) ρ σ (bB cx s l tt) := by
 refine cd hE hh (bB cx s l) ?_
 rintro a r hm ρ σ hf
 simp only [Fits, ap, ar, and_true] at hf
 unfold dH at hm
 dsimp only at hm
 refine srs hn ?_
 simp -dsimp [hf]
 refine ae ?_
 rcases ai hm with ⟨c2, hm⟩ | ⟨c2, hm⟩
 ·refine a8 (by simp -dsimp) c2 ?_
  refine ab (a6 (ae (ah ?_)))
  refine srs hn ?_
  obtain ⟨x, h3, hm⟩ := bnd hm
  simp -dsimp [hf, c2, h3]
  obtain ⟨a1, j6, hm⟩ := bnd hm
  refine au [(0, .u (.one (.d (.str (bs s))))), (6, .u (.one (.d (.sl 1 (List.map (rI .u8) l))))), (7, .u (.one (.d (.int .i64 (ak l))))), (8, .u (.one (.d (.int .i64 a)))), (17, .u (.one (.d (.bool a1))))] [] (by rfl) (by rfl) ?_ fun ρ σ hf => ?_
  ·replace hm := j6
   clear j6
   refine sr1 hn ?_
   rcases ai hm with ⟨c4, hm⟩ | ⟨c4, hm⟩
   ·simp -dsimp [c4]
    refine a6 ?_
    cases hm
    exact EE.here (by simp -dsimp [hf])
   ·simp -dsimp [c4]
    refine a6 ?_
    cases hm
    exact EE.here (by simp -dsimp [hf])
  ·clear j6
   simp only [Fits, ap, ar, and_true] at hf
   rcases ai hm with ⟨c5, hm⟩ | ⟨c5, hm⟩
   ·refine a8 (by simp -dsimp [hf]) c5 ?_
    refine srs hn ?_
    simp -dsimp
    refine ac (aK (ag ?_))
    cases hm
    refine aB nofun ?_
    unfold bB
    dsimp only
    refine ⟨rfl, ?_⟩
    exact EE.here (by simp -dsimp [Tryz.results61])
   ·refine a7 (by simp -dsimp [hf]) c5 ?_
    refine ab ?_
    refine aV ?_
    refine a6 ?_
    refine sr1 hn ?_
    simp -dsimp [hf]
    cases hm
    refine aI ?_
    exact EE.here (by simp -dsimp [hf])
 ·refine a7 (by simp -dsimp) c2 ?_
  refine aC ?_
  refine ag ?_
  cases hm
  refine aB nofun ?_
  unfold bB
  dsimp only
  refine ⟨rfl, ?_⟩
  exact EE.here (by simp -dsimp [hf, c2])
theorem f_generations_number (s : List UInt8) (r : Bool) (hm : cu s = some r) : PFn Tryz.prog 61 [.u (.one (.d (.str (bs s))))] (fun v => v.wk (.u (.one (.d (.bool r))))) := by
 refine bv Tryz.func61 Tryz.ntmps61 rfl (by kernel_rfl) (by simp) fun cx hn => ?_
 unfold cu at hm
 refine srs hn ?_
 simp -dsimp
 refine ae ?_
 refine srs hn ?_
 obtain ⟨l, h1, hm⟩ := bnd hm
 simp -dsimp [h1]
 refine ah ?_
 obtain ⟨o_, g7, hm⟩ := bnd hm
 refine bf (hD cx hn s l g7) (by
   try dsimp only
   exact EE.here (by simp -dsimp)
 ) fun ee ρ σ x8 => ?_
 rcases o_ with r | _u
 ·unfold bB at x8
  dsimp only at x8
  obtain ⟨rfl, x8⟩ := x8
  refine aK (ag ?_)
  cases hm
  exact ⟨.inr rfl, x8⟩
 ·unfold bB at x8
  dsimp only at x8
  obtain ⟨rfl, x8⟩ := x8
  refine aD ?_
  refine a6 ?_
  refine bN (by rfl) (by rfl) x8 fun ρ σ hf => ?_
  simp only [Fits, ap, ar, and_true] at hf
  obtain ⟨a, j12, hm⟩ := bnd hm
  refine au [(2, .u (.one (.d (.bool a))))] [] (by rfl) (by rfl) ?_ fun ρ σ hf => ?_
  ·replace hm := j12
   clear j12
   refine sr1 hn ?_
   rcases ai hm with ⟨c9, hm⟩ | ⟨c9, hm⟩
   ·rcases ai hm with ⟨c10, hm⟩ | ⟨c10, hm⟩
    ·obtain ⟨b, h11, hm⟩ := bnd hm
     simp -dsimp [hf, c9, c10, h11]
     refine a6 ?_
     cases hm
     exact EE.here (by simp -dsimp)
    ·simp -dsimp [hf, c9, c10]
     refine a6 ?_
     cases hm
     exact EE.here (by simp -dsimp)
   ·simp -dsimp [hf, c9]
    refine a6 ?_
    cases hm
    exact EE.here (by simp -dsimp)
  ·clear j12
   simp only [Fits, ap, ar, and_true] at hf
   refine ac ?_
   cases hm
   refine ⟨.inr rfl, ?_⟩
   exact EE.here (by simp -dsimp [hf])
theorem fT (s : List UInt8) (r : Bool) (hm : cu s = some r) : PureCall Tryz.prog 61 [.u (.one (.d (.str (bs s))))] (.u (.one (.d (.bool r)))) := (f_generations_number s r hm).pureW
theorem gp (s : List UInt8) (r : Int) (hm : fi s = some r) : PureCall Tryz.prog 62 [.u (.one (.d (.str (bs s))))] (.tup [.one (.d (.int .i64 r)), .one (.d .ni)]) := atoi_pure atoiL rfl ⟨_, Tryz.func62, by decide, rfl⟩ hm
theorem f_generations_Parse (s : List UInt8) (r : Totals × Int) (hm : cF s = some r) : PFn Tryz.prog 20 [.u (.one (.d (.str (bs s))))] (fun v => v.wk (.tup [.agg [.d (.sl 2 (List.map Point.row r.1.Hood)), .d (.int .i64 r.1.States), .d (.sl 1 (List.map (rI .i64) r.1.Birth)), .d (.sl 1 (List.map (rI .i64) r.1.Survive))], .one (.d (.int .i64 r.2))])) := by
 refine bv Tryz.func20 Tryz.ntmps20 rfl (by kernel_rfl) (by simp) fun cx hn => ?_
 unfold cF at hm
 refine srs hn ?_
 simp -dsimp
 refine srs hn ?_
 obtain ⟨y, h1, hm⟩ := bnd hm
 simp -dsimp
 refine aa (il 1 y h1) (dkL hn) ?_
 simp -dsimp
 refine ae ?_
 refine srs hn ?_
 obtain ⟨y1, h2, hm⟩ := bnd hm
 simp -dsimp
 refine aa (dq s ([86] : List UInt8) y1 h2) (dkL hn) ?_
 simp -dsimp
 refine srs hn ?_
 simp -dsimp
 rcases ai hm with ⟨c3, hm⟩ | ⟨c3, hm⟩
 ·refine a8 (by simp -dsimp) c3 ?_
  refine sr1 hn ?_
  cases hm
 ·refine a7 (by simp -dsimp) c3 ?_
  refine srs hn ?_
  obtain ⟨y2, h4, hm⟩ := bnd hm
  simp -dsimp [c3]
  refine aa (dq s ([72] : List UInt8) y2 h4) (dkL hn) ?_
  simp -dsimp
  refine srs hn ?_
  simp -dsimp
  rcases ai hm with ⟨c5, hm⟩ | ⟨c5, hm⟩
  ·refine a8 (by simp -dsimp) c5 ?_
   refine sr1 hn ?_
   cases hm
  ·refine a7 (by simp -dsimp) c5 ?_
   refine ab (a6 ?_)
   refine srs hn ?_
   obtain ⟨y3, h6, hm⟩ := bnd hm
   simp -dsimp [c5]
   refine aa (c_strings_Split s ([47] : List UInt8) y3 h6) (dkL hn) ?_
   simp -dsimp
   refine ae ?_
   refine srs hn ?_
   simp -dsimp
   rcases ai hm with ⟨c7, hm⟩ | ⟨c7, hm⟩
   ·refine a8 (by simp -dsimp) c7 ?_
    refine srs hn ?_
    simp -dsimp [c7]
    refine ac (ag ?_)
    cases hm
    refine ⟨.inr rfl, ?_⟩
    exact EE.here (by simp -dsimp)
   ·refine a7 (by simp -dsimp) c7 ?_
    refine ab (a6 ?_)
    refine ek aW mixed (by rw [hn]; kernel_rfl) ?_
    obtain ⟨x, h8, hm⟩ := bnd hm
    obtain ⟨x1, h9, hm⟩ := bnd hm
    obtain ⟨x2, h10, hm⟩ := bnd hm
    simp -dsimp [c7, h8, h9, h10]
    refine ae ?_
    refine srs hn ?_
    obtain ⟨y4, h11, hm⟩ := bnd hm
    simp -dsimp
    refine aa (bY s ([66] : List UInt8) y4 h11) (dkL hn) ?_
    simp -dsimp
    refine srs hn ?_
    simp -dsimp
    rcases ai hm with ⟨c12, hm⟩ | ⟨c12, hm⟩
    ·refine a8 (by simp -dsimp) c12 ?_
     refine srs hn ?_
     obtain ⟨y5, h13, hm⟩ := bnd hm
     simp -dsimp [c12]
     refine aa (c_strings_Split y4.1 ([47] : List UInt8) y5 h13) (dkL hn) ?_
     simp -dsimp
     refine srs hn ?_
     obtain ⟨x3, h14, hm⟩ := bnd hm
     obtain ⟨y6, h15, hm⟩ := bnd hm
     simp -dsimp [h14]
     refine aa (bY x3 ([83] : List UInt8) y6 h15) (dkL hn) ?_
     simp -dsimp
     refine srs hn ?_
     obtain ⟨x4, h16, hm⟩ := bnd hm
     obtain ⟨y7, h17, hm⟩ := bnd hm
     simp -dsimp [h16]
     refine aa (bY x4 ([67] : List UInt8) y7 h17) (dkL hn) ?_
     simp -dsimp
     refine ae ?_
     obtain ⟨a, j34, hm⟩ := bnd hm
     refine au [(2, .u (.one (.box 2 0))), (4, .u (.one (.box 4 0))), (9, .u (.one (.d (.sl 1 (List.map rT y5))))), (15, .u (.one (.d (.str (bs y6.1))))), (17, .u (.one (.d (.str (bs y7.1))))), (85, .u (.one (.d (.bool a))))] [(2, .box [.d .nil, .d (.int .i64 0), .d .nil, .d .nil]), (4, .box [.d (.sl 2 (List.map Point.row y)), .d (.int .i64 0), .d .nil, .d .nil])] (by rfl) (by rfl) ?_ fun ρ σ hf => ?_
     ·replace hm := j34
      clear j34
      refine sr1 hn ?_
      rcases ai hm with ⟨c18, hm⟩ | ⟨c18, hm⟩
      ·simp -dsimp [c18]
       refine a6 ?_
       cases hm
       exact EE.here (by simp -dsimp)
      ·simp -dsimp [c18]
       refine a6 ?_
       cases hm
       exact EE.here (by simp -dsimp)
     ·clear j34
      simp only [Fits, ap, ar, and_true] at hf
      rcases ai hm with ⟨c19, hm⟩ | ⟨c19, hm⟩
      ·refine a8 (by simp -dsimp [hf]) c19 ?_
       refine srs hn ?_
       simp -dsimp [hf]
       refine ac (ag (ag ?_))
       cases hm
       refine ⟨.inr rfl, ?_⟩
       exact EE.here (by simp -dsimp [hf])
      ·refine a7 (by simp -dsimp [hf]) c19 ?_
       refine ab (a6 ?_)
       refine sr1 hn ?_
       obtain ⟨x5, h20, hm⟩ := bnd hm
       simp -dsimp [hf, h20]
       refine a6 ?_
       refine srs hn ?_
       obtain ⟨y8, h21, hm⟩ := bnd hm
       simp -dsimp
       refine aa (dd x5 y8 h21) (dkL hn) ?_
       simp -dsimp
       refine srs hn ?_
       obtain ⟨y9, h22, hm⟩ := bnd hm
       simp -dsimp
       refine aa (dd y6.1 y9 h22) (dkL hn) ?_
       simp -dsimp
       refine ae ?_
       obtain ⟨a1, j33, hm⟩ := bnd hm
       refine au [(2, .u (.one (.box 2 0))), (4, .u (.one (.box 4 0))), (12, .u (.one (.d (.str (bs y7.1))))), (19, .u (.one (.d (.sl 1 (List.map (rI .i64) y8.1))))), (21, .u (.one (.d (.sl 1 (List.map (rI .i64) y9.1))))), (112, .u (.one (.d (.bool a1))))] [(2, .box [.d .nil, .d (.int .i64 0), .d .nil, .d .nil]), (4, .box [.d (.sl 2 (List.map Point.row y)), .d (.int .i64 0), .d .nil, .d .nil])] (by rfl) (by rfl) ?_ fun ρ σ hf => ?_
       ·replace hm := j33
        clear j33
        refine sr1 hn ?_
        rcases ai hm with ⟨c23, hm⟩ | ⟨c23, hm⟩
        ·simp -dsimp [c23]
         refine a6 ?_
         cases hm
         exact EE.here (by simp -dsimp [hf])
        ·rcases ai hm with ⟨c24, hm⟩ | ⟨c24, hm⟩
         ·simp -dsimp [c23, c24]
          refine a6 ?_
          cases hm
          exact EE.here (by simp -dsimp [hf])
         ·obtain ⟨y10, h25, hm⟩ := bnd hm
          simp -dsimp [c23, c24]
          refine aa (fT y7.1 y10 h25) (dkL hn) ?_
          simp -dsimp
          refine a6 ?_
          cases hm
          exact EE.here (by simp -dsimp [hf])
       ·clear j33
        simp only [Fits, ap, ar, and_true] at hf
        rcases ai hm with ⟨c26, hm⟩ | ⟨c26, hm⟩
        ·refine a8 (by simp -dsimp [hf]) c26 ?_
         refine srs hn ?_
         simp -dsimp [hf]
         refine ac (ag ?_)
         cases hm
         refine ⟨.inr rfl, ?_⟩
         exact EE.here (by simp -dsimp [hf])
        ·refine a7 (by simp -dsimp [hf]) c26 ?_
         refine ab (a6 ?_)
         refine srs hn ?_
         obtain ⟨y10, h27, hm⟩ := bnd hm
         simp -dsimp [hf]
         refine aa (gp y7.1 y10 h27) (dkL hn) ?_
         simp -dsimp [hf]
         refine srs hn ?_
         simp -dsimp [hf]
         refine ae ?_
         obtain ⟨a2, j32, hm⟩ := bnd hm
         refine au [(2, .u (.one (.box 2 0))), (4, .u (.one (.box 4 0))), (136, .u (.one (.d (.bool a2))))] [(2, .box [.d .nil, .d (.int .i64 0), .d .nil, .d .nil]), (4, .box [.d (.sl 2 (List.map Point.row y)), .d (.int .i64 y10), .d (.sl 1 (List.map (rI .i64) y8.1)), .d (.sl 1 (List.map (rI .i64) y9.1))])] (by rfl) (by rfl) ?_ fun ρ σ hf => ?_
         ·replace hm := j32
          clear j32
          refine sr1 hn ?_
          rcases ai hm with ⟨c28, hm⟩ | ⟨c28, hm⟩
          ·simp -dsimp [hf, c28]
           refine a6 ?_
           cases hm
           exact EE.here (by simp -dsimp [hf])
          ·rcases ai hm with ⟨c29, hm⟩ | ⟨c29, hm⟩
           ·simp -dsimp [hf, c28, c29]
            refine a6 ?_
            cases hm
            exact EE.here (by simp -dsimp [hf])
           ·obtain ⟨y11, h30, hm⟩ := bnd hm
            simp -dsimp [hf, c28, c29]
            refine aa (ev (⟨y, y10, y8.1, y9.1⟩ : Totals) y11 h30) (dkL hn) ?_
            simp -dsimp
            refine a6 ?_
            cases hm
            exact EE.here (by simp -dsimp [hf])
         ·clear j32
          simp only [Fits, ap, ar, and_true] at hf
          rcases ai hm with ⟨c31, hm⟩ | ⟨c31, hm⟩
          ·refine a8 (by simp -dsimp [hf]) c31 ?_
           refine srs hn ?_
           simp -dsimp [hf]
           refine ac (ag ?_)
           cases hm
           refine ⟨.inr rfl, ?_⟩
           exact EE.here (by simp -dsimp [hf])
          ·refine a7 (by simp -dsimp [hf]) c31 ?_
           refine ab (a6 ?_)
           refine srs hn ?_
           simp -dsimp [hf]
           refine ac ?_
           cases hm
           refine ⟨.inr rfl, ?_⟩
           exact EE.here (by simp -dsimp [hf])
    ·refine a7 (by simp -dsimp) c12 ?_
     refine ab (a6 ?_)
     refine srs hn ?_
     obtain ⟨y5, h35, hm⟩ := bnd hm
     simp -dsimp [c12]
     refine aa (dd x y5 h35) (dkL hn) ?_
     simp -dsimp
     refine srs hn ?_
     obtain ⟨y6, h36, hm⟩ := bnd hm
     simp -dsimp
     refine aa (dd x1 y6 h36) (dkL hn) ?_
     simp -dsimp
     refine ae ?_
     obtain ⟨a, j47, hm⟩ := bnd hm
     refine au [(2, .u (.one (.box 2 0))), (4, .u (.one (.box 4 0))), (12, .u (.one (.d (.str (bs x2))))), (19, .u (.one (.d (.sl 1 (List.map (rI .i64) y5.1))))), (21, .u (.one (.d (.sl 1 (List.map (rI .i64) y6.1))))), (112, .u (.one (.d (.bool a))))] [(2, .box [.d .nil, .d (.int .i64 0), .d .nil, .d .nil]), (4, .box [.d (.sl 2 (List.map Point.row y)), .d (.int .i64 0), .d .nil, .d .nil])] (by rfl) (by rfl) ?_ fun ρ σ hf => ?_
     ·replace hm := j47
      clear j47
      refine sr1 hn ?_
      rcases ai hm with ⟨c37, hm⟩ | ⟨c37, hm⟩
      ·simp -dsimp [c37]
       refine a6 ?_
       cases hm
       exact EE.here (by simp -dsimp)
      ·rcases ai hm with ⟨c38, hm⟩ | ⟨c38, hm⟩
       ·simp -dsimp [c37, c38]
        refine a6 ?_
        cases hm
        exact EE.here (by simp -dsimp)
       ·obtain ⟨y7, h39, hm⟩ := bnd hm
        simp -dsimp [c37, c38]
        refine aa (fT x2 y7 h39) (dkL hn) ?_
        simp -dsimp
        refine a6 ?_
        cases hm
        exact EE.here (by simp -dsimp)
     ·clear j47
      simp only [Fits, ap, ar, and_true] at hf
      rcases ai hm with ⟨c40, hm⟩ | ⟨c40, hm⟩
      ·refine a8 (by simp -dsimp [hf]) c40 ?_
       refine srs hn ?_
       simp -dsimp [hf]
       refine ac (ag ?_)
       cases hm
       refine ⟨.inr rfl, ?_⟩
       exact EE.here (by simp -dsimp [hf])
      ·refine a7 (by simp -dsimp [hf]) c40 ?_
       refine ab (a6 ?_)
       refine srs hn ?_
       obtain ⟨y7, h41, hm⟩ := bnd hm
       simp -dsimp [hf]
       refine aa (gp x2 y7 h41) (dkL hn) ?_
       simp -dsimp [hf]
       refine srs hn ?_
       simp -dsimp [hf]
       refine ae ?_
       obtain ⟨a1, j46, hm⟩ := bnd hm
       refine au [(2, .u (.one (.box 2 0))), (4, .u (.one (.box 4 0))), (136, .u (.one (.d (.bool a1))))] [(2, .box [.d .nil, .d (.int .i64 0), .d .nil, .d .nil]), (4, .box [.d (.sl 2 (List.map Point.row y)), .d (.int .i64 y7), .d (.sl 1 (List.map (rI .i64) y5.1)), .d (.sl 1 (List.map (rI .i64) y6.1))])] (by rfl) (by rfl) ?_ fun ρ σ hf => ?_
       ·replace hm := j46
        clear j46
        refine sr1 hn ?_
        rcases ai hm with ⟨c42, hm⟩ | ⟨c42, hm⟩
        ·simp -dsimp [hf, c42]
         refine a6 ?_
         cases hm
         exact EE.here (by simp -dsimp [hf])
        ·rcases ai hm with ⟨c43, hm⟩ | ⟨c43, hm⟩
         ·simp -dsimp [hf, c42, c43]
          refine a6 ?_
          cases hm
          exact EE.here (by simp -dsimp [hf])
         ·obtain ⟨y8, h44, hm⟩ := bnd hm
          simp -dsimp [hf, c42, c43]
          refine aa (ev (⟨y, y7, y5.1, y6.1⟩ : Totals) y8 h44) (dkL hn) ?_
          simp -dsimp
          refine a6 ?_
          cases hm
          exact EE.here (by simp -dsimp [hf])
       ·clear j46
        simp only [Fits, ap, ar, and_true] at hf
        rcases ai hm with ⟨c45, hm⟩ | ⟨c45, hm⟩
        ·refine a8 (by simp -dsimp [hf]) c45 ?_
         refine srs hn ?_
         simp -dsimp [hf]
         refine ac (ag ?_)
         cases hm
         refine ⟨.inr rfl, ?_⟩
         exact EE.here (by simp -dsimp [hf])
        ·refine a7 (by simp -dsimp [hf]) c45 ?_
         refine ab (a6 ?_)
         refine srs hn ?_
         simp -dsimp [hf]
         refine ac ?_
         cases hm
         refine ⟨.inr rfl, ?_⟩
         exact EE.here (by simp -dsimp [hf])
theorem ga (s : List UInt8) (r : Totals × Int) (hm : cF s = some r) : PureCall Tryz.prog 20 [.u (.one (.d (.str (bs s))))] (.tup [.agg [.d (.sl 2 (List.map Point.row r.1.Hood)), .d (.int .i64 r.1.States), .d (.sl 1 (List.map (rI .i64) r.1.Birth)), .d (.sl 1 (List.map (rI .i64) r.1.Survive))], .one (.d (.int .i64 r.2))]) := (f_generations_Parse s r hm).pureW
set_option maxRecDepth 20000 in
theorem c_strings_Trim (s cs : List UInt8) (r : List UInt8) (hm : gy s cs = some r) : PureCall Tryz.prog 130 [.u (.one (.d (.str (bs s)))), .u (.one (.d (.str (bs cs))))] (.u (.one (.d (.str (bs r))))) := trim_pure trimL (by intro w; exact (Tryz.zeroValue246 w).trans (by rfl)) (by kernel_rfl) rfl ⟨_, Tryz.func130, by decide, rfl⟩ hm
theorem f_wolfram_number (s : List UInt8) (r : Int × Bool × Bool) (hm : cT s = some r) : PFn Tryz.prog 69 [.u (.one (.d (.str (bs s))))] (fun v => v.wk (.tup [.one (.d (.int .i64 r.1)), .one (.d (.bool r.2.1)), .one (.d (.bool r.2.2))])) := by
 refine bv Tryz.func69 Tryz.ntmps69 rfl (by kernel_rfl) (by simp) fun cx hn => ?_
 unfold cT at hm
 refine srs hn ?_
 simp -dsimp
 refine ae ?_
 obtain ⟨a, j9, hm⟩ := bnd hm
 refine au [(0, .u (.one (.d (.str (bs s))))), (22, .u (.one (.d (.bool a))))] [] (by rfl) (by rfl) ?_ fun ρ σ hf => ?_
 ·replace hm := j9
  clear j9
  refine sr1 hn ?_
  rcases ai hm with ⟨c1, hm⟩ | ⟨c1, hm⟩
  ·simp -dsimp [c1]
   refine a6 ?_
   cases hm
   exact EE.here (by simp -dsimp)
  ·rcases ai hm with ⟨c2, hm⟩ | ⟨c2, hm⟩
   ·obtain ⟨b, h3, hm⟩ := bnd hm
    rcases ai hm with ⟨c4, hm⟩ | ⟨c4, hm⟩
    ·simp -dsimp [c1, c2, h3, c4]
     refine a6 ?_
     cases hm
     exact EE.here (by simp -dsimp)
    ·obtain ⟨y, h5, hm⟩ := bnd hm
     simp -dsimp [c1, c2, h3, c4]
     refine aa (c_strings_Trim s ([48, 49, 50, 51, 52, 53, 54, 55, 56, 57] : List UInt8) y h5) (dkL hn) ?_
     simp -dsimp
     refine a6 ?_
     cases hm
     exact EE.here (by simp -dsimp)
   ·obtain ⟨y, h6, hm⟩ := bnd hm
    simp -dsimp [c1, c2]
    refine aa (c_strings_Trim s ([48, 49, 50, 51, 52, 53, 54, 55, 56, 57] : List UInt8) y h6) (dkL hn) ?_
    simp -dsimp
    refine a6 ?_
    cases hm
    exact EE.here (by simp -dsimp)
 ·clear j9
  simp only [Fits, ap, ar, and_true] at hf
  rcases ai hm with ⟨c7, hm⟩ | ⟨c7, hm⟩
  ·refine a8 (by simp -dsimp [hf]) c7 ?_
   refine srs hn ?_
   simp -dsimp
   refine ac (ag ?_)
   cases hm
   refine ⟨.inr rfl, ?_⟩
   exact EE.here (by simp -dsimp)
  ·refine a7 (by simp -dsimp [hf]) c7 ?_
   refine ab (a6 ?_)
   refine srs hn ?_
   obtain ⟨y, h8, hm⟩ := bnd hm
   simp -dsimp [hf]
   refine aa (gp s y h8) (dkL hn) ?_
   simp -dsimp
   refine ek aW mixed (by rw [hn]; kernel_rfl) ?_
   simp -dsimp
   refine ac ?_
   cases hm
   refine ⟨.inr rfl, ?_⟩
   exact EE.here (by simp -dsimp)
theorem fL (s : List UInt8) (r : Int × Bool × Bool) (hm : cT s = some r) : PureCall Tryz.prog 69 [.u (.one (.d (.str (bs s))))] (.tup [.one (.d (.int .i64 r.1)), .one (.d (.bool r.2.1)), .one (.d (.bool r.2.2))]) := (f_wolfram_number s r hm).pureW
theorem f_wolfram_sums (states : Int) (r : Int) (hm : fv states = some r) : PFn Tryz.prog 131 [.u (.one (.d (.int .i64 states)))] (fun v => v.wk (.u (.one (.d (.int .i64 r))))) := by
 refine bv Tryz.func131 Tryz.ntmps131 rfl (by kernel_rfl) (by simp) fun cx hn => ?_
 unfold fv at hm
 refine srs hn ?_
 simp -dsimp
 refine srs hn ?_
 simp -dsimp
 refine ac ?_
 cases hm
 refine ⟨.inr rfl, ?_⟩
 exact EE.here (by simp -dsimp)
theorem c_wolfram_sums (states : Int) (r : Int) (hm : fv states = some r) : PureCall Tryz.prog 131 [.u (.one (.d (.int .i64 states)))] (.u (.one (.d (.int .i64 r)))) := (f_wolfram_sums states r hm).pureW
def dF (cx : Cx) (_states : Int) (_y : Int) (tt : (Int × (List Int))) (ee : Exit) (ρ : Env) (σ : Sto) : Prop := match tt with
 | (n1, l) => ee = .exit 0 ∧ EE cx (b4 [(1, .u (.one (.d (.int .i64 n1)))), (6, .u (.one (.own 5000)))] [(5000, .row 1 3 (List.map (rI .i64) l))]) ρ σ
theorem l_wolfram_Digits_1 (cx : Cx) (hn : cx.n = 32) (states : Int) (y : Int) {fu : Nat} {stt : Int × Int × (List Int)} {tt : (Int × (List Int))} (hh : am (eX states y) fu stt = some tt) {ρ : Env} {σ : Sto}
  (hE : bT (fun stt : Int × Int × (List Int) => match stt with | (n1, a1, _l) => [(0, .u (.one (.d (.int .i64 states)))), (1, .u (.one (.d (.int .i64 n1)))), (6, .u (.one (.own 5000))), (16, .u (.one (.d (.int .i64 y)))), (17, .u (.one (.d (.int .i64 a1))))]) (fun stt : Int × Int × (List Int) => match stt with | (_n1, _a1, l) => [(5000, .row 1 3 (List.map (rI .i64) l))]) stt ρ σ) : Swp Tryz.prog cx (.loop (d4 [1, 1, 1, 1, 0, 1, 0, 0] (aZ Tryz.f70))) ρ σ (dF cx states y tt) := by
 refine cd hE hh (dF cx states y) ?_
 rintro ⟨n1, a1, l⟩ r hm ρ σ hf
 simp only [Fits, ap, ar, and_true] at hf
 unfold eX at hm
 dsimp only at hm
 refine srs hn ?_
 simp -dsimp [hf]
 refine ae ?_
 rcases ai hm with ⟨c5, hm⟩ | ⟨c5, hm⟩
 ·refine a8 (by simp -dsimp) c5 ?_
  refine ab (a6 (ae (ah ?_)))
  refine srs hn ?_
  obtain ⟨n2, h6, hm⟩ := bnd hm
  obtain ⟨l1, h7, hm⟩ := bnd hm
  obtain ⟨h7a, h7e⟩ := aQ h7
  replace h7e := h7e.symm
  subst h7e
  try simp only [List.length_cons, List.length_nil, Nat.zero_add] at h7a
  simp -dsimp [hf, c5, h6, h7a]
  refine sr1 hn ?_
  obtain ⟨n3, h8, hm⟩ := bnd hm
  simp -dsimp [hf, h8]
  refine aV ?_
  refine a6 ?_
  refine sr1 hn ?_
  simp -dsimp [hf]
  cases hm
  refine aI ?_
  refine EE.step (Wk.move 24 5000 (by decide) (.inl (by decide))) ?_
  exact EE.here (by simp -dsimp [hf])
 ·refine a7 (by simp -dsimp) c5 ?_
  refine aC ?_
  refine ag ?_
  cases hm
  refine aB nofun ?_
  unfold dF
  dsimp only
  refine ⟨rfl, ?_⟩
  exact EE.here (by simp -dsimp [hf, c5])
theorem f_wolfram_Digits (states : Int) (n : Int) (r : (List Int) × Int) (hm : ey states n = some r) : PFn Tryz.prog 70 [.u (.one (.d (.int .i64 states))), .u (.one (.d (.int .i64 n)))] (fun v => v.wk (.tup [.one (.d (.sl 1 (List.map (rI .i64) r.1))), .one (.d (.int .i64 r.2))])) := by
 refine bv Tryz.func70 Tryz.ntmps70 rfl (by kernel_rfl) (by simp) fun cx hn => ?_
 unfold ey at hm
 refine srs hn ?_
 simp -dsimp
 refine ae ?_
 obtain ⟨a, j12, hm⟩ := bnd hm
 refine au [(0, .u (.one (.d (.int .i64 states)))), (1, .u (.one (.d (.int .i64 n)))), (12, .u (.one (.d (.bool a))))] [] (by rfl) (by rfl) ?_ fun ρ σ hf => ?_
 ·replace hm := j12
  clear j12
  refine sr1 hn ?_
  rcases ai hm with ⟨c1, hm⟩ | ⟨c1, hm⟩
  ·simp -dsimp [c1]
   refine a6 ?_
   cases hm
   exact EE.here (by simp -dsimp)
  ·simp -dsimp [c1]
   refine a6 ?_
   cases hm
   exact EE.here (by simp -dsimp)
 ·clear j12
  simp only [Fits, ap, ar, and_true] at hf
  rcases ai hm with ⟨c2, hm⟩ | ⟨c2, hm⟩
  ·refine a8 (by simp -dsimp [hf]) c2 ?_
   refine srs hn ?_
   simp -dsimp
   refine ac (ag ?_)
   cases hm
   refine ⟨.inr rfl, ?_⟩
   exact EE.here (by simp -dsimp)
  ·refine a7 (by simp -dsimp [hf]) c2 ?_
   refine ab (a6 (ae ?_))
   refine srs hn ?_
   simp -dsimp [hf]
   rcases ai hm with ⟨c3, hm⟩ | ⟨c3, hm⟩
   ·refine a8 (by simp -dsimp) c3 ?_
    refine srs hn ?_
    simp -dsimp [c3]
    refine ac (ag ?_)
    cases hm
    refine ⟨.inr rfl, ?_⟩
    exact EE.here (by simp -dsimp)
   ·refine a7 (by simp -dsimp) c3 ?_
    refine ab (a6 ?_)
    refine srs hn ?_
    simp -dsimp [c3]
    refine ae ?_
    refine srs hn ?_
    obtain ⟨y, h4, hm⟩ := bnd hm
    simp -dsimp [hf]
    refine aa (c_wolfram_sums states y h4) (dkL hn) ?_
    simp -dsimp
    refine ah ?_
    obtain ⟨⟨n1, l⟩, g9, hm⟩ := bnd hm
    refine bf (l_wolfram_Digits_1 cx hn states y g9) (by
      try dsimp only
      refine EE.step (Wk.own0 6 5000 1 3 (by simp -dsimp) (by decide)) ?_
      exact EE.here (by simp -dsimp [hf])
    ) fun ee ρ σ x10 => ?_
    unfold dF at x10
    dsimp only at x10
    obtain ⟨rfl, x10⟩ := x10
    refine aD ?_
    refine a6 ?_
    refine bN (by rfl) (by rfl) x10 fun ρ σ hf => ?_
    simp only [Fits, ap, ar, and_true] at hf
    refine ae ?_
    refine srs hn ?_
    simp -dsimp [hf]
    rcases ai hm with ⟨c11, hm⟩ | ⟨c11, hm⟩
    ·refine a8 (by simp -dsimp) c11 ?_
     refine srs hn ?_
     simp -dsimp [c11]
     refine ac (ag ?_)
     cases hm
     refine ⟨.inr rfl, ?_⟩
     exact EE.here (by simp -dsimp)
    ·refine a7 (by simp -dsimp) c11 ?_
     refine ab (a6 ?_)
     refine srs hn ?_
     simp -dsimp [hf, c11]
     refine ac ?_
     cases hm
     refine ⟨.inr rfl, ?_⟩
     exact EE.here (by simp -dsimp [hf])
theorem c_wolfram_Digits (states : Int) (n : Int) (r : (List Int) × Int) (hm : ey states n = some r) : PureCall Tryz.prog 70 [.u (.one (.d (.int .i64 states))), .u (.one (.d (.int .i64 n)))] (.tup [.one (.d (.sl 1 (List.map (rI .i64) r.1))), .one (.d (.int .i64 r.2))]) := (f_wolfram_Digits states n r hm).pureW
theorem f_wolfram_Parse (s : List UInt8) (r : Int × Int × Bool × Int) (hm : dS s = some r) : PFn Tryz.prog 22 [.u (.one (.d (.str (bs s))))] (fun v => v.wk (.tup [.one (.d (.int .i64 r.1)), .one (.d (.int .i64 r.2.1)), .one (.d (.bool r.2.2.1)), .one (.d (.int .i64 r.2.2.2))])) := by
 refine bv Tryz.func22 Tryz.ntmps22 rfl (by kernel_rfl) (by simp) fun cx hn => ?_
 unfold dS at hm
 refine srs hn ?_
 simp -dsimp
 refine ae ?_
 refine srs hn ?_
 obtain ⟨y, h1, hm⟩ := bnd hm
 simp -dsimp
 refine aa (bY s ([87] : List UInt8) y h1) (dkL hn) ?_
 simp -dsimp
 refine srs hn ?_
 simp -dsimp
 rcases ai hm with ⟨c2, hm⟩ | ⟨c2, hm⟩
 ·refine a8 (by simp -dsimp) c2 ?_
  refine srs hn ?_
  obtain ⟨y1, h3, hm⟩ := bnd hm
  simp -dsimp [c2]
  refine aa (fL y.1 y1 h3) (dkL hn) ?_
  simp -dsimp
  refine ae (ah ?_)
  refine srs hn ?_
  simp -dsimp
  rcases ai hm with ⟨c4, hm⟩ | ⟨c4, hm⟩
  ·refine a8 (by simp -dsimp) c4 ?_
   refine srs hn ?_
   simp -dsimp [c4]
   refine ac (aK (ag (ag ?_)))
   cases hm
   refine ⟨.inr rfl, ?_⟩
   exact EE.here (by simp -dsimp)
  ·refine a7 (by simp -dsimp) c4 ?_
   obtain ⟨a, j7, hm⟩ := bnd hm
   refine au [(8, .u (.one (.d (.int .i64 y1.1)))), (39, .u (.one (.d (.bool a))))] [] (by rfl) (by rfl) ?_ fun ρ σ hf => ?_
   ·replace hm := j7
    clear j7
    refine sr1 hn ?_
    rcases ai hm with ⟨c5, hm⟩ | ⟨c5, hm⟩
    ·simp -dsimp [c4, c5]
     refine a6 ?_
     cases hm
     exact EE.here (by simp -dsimp)
    ·simp -dsimp [c4, c5]
     refine a6 ?_
     cases hm
     exact EE.here (by simp -dsimp)
   ·clear j7
    simp only [Fits, ap, ar, and_true] at hf
    rcases ai hm with ⟨c6, hm⟩ | ⟨c6, hm⟩
    ·refine a8 (by simp -dsimp [hf]) c6 ?_
     refine srs hn ?_
     simp -dsimp
     refine ac (aK (ag (ag ?_)))
     cases hm
     refine ⟨.inr rfl, ?_⟩
     exact EE.here (by simp -dsimp)
    ·refine a7 (by simp -dsimp [hf]) c6 ?_
     refine ab ?_
     refine aV ?_
     refine a6 ?_
     refine srs hn ?_
     simp -dsimp [hf]
     refine ac (ag ?_)
     cases hm
     refine ⟨.inr rfl, ?_⟩
     exact EE.here (by simp -dsimp)
 ·refine a7 (by simp -dsimp) c2 ?_
  refine ab (a6 ?_)
  refine srs hn ?_
  obtain ⟨y1, h8, hm⟩ := bnd hm
  simp -dsimp [c2]
  refine aa (bY s ([84] : List UInt8) y1 h8) (dkL hn) ?_
  simp -dsimp
  refine srs hn ?_
  obtain ⟨y2, h9, hm⟩ := bnd hm
  simp -dsimp
  refine aa (c_strings_Cut y1.1 ([47] : List UInt8) y2 h9) (dkL hn) ?_
  simp -dsimp
  refine srs hn ?_
  obtain ⟨y3, h10, hm⟩ := bnd hm
  simp -dsimp
  refine aa (fL y2.1 y3 h10) (dkL hn) ?_
  simp -dsimp
  refine srs hn ?_
  obtain ⟨y4, h11, hm⟩ := bnd hm
  simp -dsimp
  refine aa (fL y2.2.1 y4 h11) (dkL hn) ?_
  simp -dsimp
  refine ae (ah ?_)
  obtain ⟨a, j21, hm⟩ := bnd hm
  refine au [(16, .u (.one (.d (.int .i64 y3.1)))), (18, .u (.one (.d (.bool y3.2.2)))), (19, .u (.one (.d (.int .i64 y4.1)))), (21, .u (.one (.d (.bool y4.2.2)))), (70, .u (.one (.d (.bool a))))] [] (by rfl) (by rfl) ?_ fun ρ σ hf => ?_
  ·replace hm := j21
   clear j21
   refine sr1 hn ?_
   rcases ai hm with ⟨c12, hm⟩ | ⟨c12, hm⟩
   ·simp -dsimp [c12]
    refine a6 ?_
    cases hm
    exact EE.here (by simp -dsimp)
   ·rcases ai hm with ⟨c13, hm⟩ | ⟨c13, hm⟩
    ·simp -dsimp [c12, c13]
     refine a6 ?_
     cases hm
     exact EE.here (by simp -dsimp)
    ·rcases ai hm with ⟨c14, hm⟩ | ⟨c14, hm⟩
     ·simp -dsimp [c12, c13, c14]
      refine a6 ?_
      cases hm
      exact EE.here (by simp -dsimp)
     ·simp -dsimp [c12, c13, c14]
      refine a6 ?_
      cases hm
      exact EE.here (by simp -dsimp)
  ·clear j21
   simp only [Fits, ap, ar, and_true] at hf
   rcases ai hm with ⟨c15, hm⟩ | ⟨c15, hm⟩
   ·refine a8 (by simp -dsimp [hf]) c15 ?_
    refine srs hn ?_
    simp -dsimp
    refine ac (aK (ag ?_))
    cases hm
    refine ⟨.inr rfl, ?_⟩
    exact EE.here (by simp -dsimp)
   ·refine a7 (by simp -dsimp [hf]) c15 ?_
    obtain ⟨a1, j20, hm⟩ := bnd hm
    refine au [(16, .u (.one (.d (.int .i64 y3.1)))), (19, .u (.one (.d (.int .i64 y4.1)))), (85, .u (.one (.d (.bool a1))))] [] (by rfl) (by rfl) ?_ fun ρ σ hf => ?_
    ·replace hm := j20
     clear j20
     refine sr1 hn ?_
     rcases ai hm with ⟨c16, hm⟩ | ⟨c16, hm⟩
     ·simp -dsimp [hf, c16]
      refine a6 ?_
      cases hm
      exact EE.here (by simp -dsimp [hf])
     ·simp -dsimp [hf, c16]
      refine a6 ?_
      cases hm
      exact EE.here (by simp -dsimp [hf])
    ·clear j20
     simp only [Fits, ap, ar, and_true] at hf
     rcases ai hm with ⟨c17, hm⟩ | ⟨c17, hm⟩
     ·refine a8 (by simp -dsimp [hf]) c17 ?_
      refine srs hn ?_
      simp -dsimp
      refine ac (aK (ag ?_))
      cases hm
      refine ⟨.inr rfl, ?_⟩
      exact EE.here (by simp -dsimp)
     ·refine a7 (by simp -dsimp [hf]) c17 ?_
      refine ab ?_
      refine aV ?_
      refine a6 (ae ?_)
      refine srs hn ?_
      obtain ⟨y5, h18, hm⟩ := bnd hm
      simp -dsimp [hf]
      refine aa (c_wolfram_Digits y4.1 y3.1 y5 h18) (dkL hn) ?_
      simp -dsimp
      refine srs hn ?_
      simp -dsimp
      rcases ai hm with ⟨c19, hm⟩ | ⟨c19, hm⟩
      ·refine a8 (by simp -dsimp) c19 ?_
       refine srs hn ?_
       simp -dsimp [c19]
       refine ac (ag ?_)
       cases hm
       refine ⟨.inr rfl, ?_⟩
       exact EE.here (by simp -dsimp)
      ·refine a7 (by simp -dsimp) c19 ?_
       refine ab (a6 ?_)
       refine srs hn ?_
       simp -dsimp [hf, c19]
       refine ac ?_
       cases hm
       refine ⟨.inr rfl, ?_⟩
       exact EE.here (by simp -dsimp)
theorem c_wolfram_Parse (s : List UInt8) (r : Int × Int × Bool × Int) (hm : dS s = some r) : PureCall Tryz.prog 22 [.u (.one (.d (.str (bs s))))] (.tup [.one (.d (.int .i64 r.1)), .one (.d (.int .i64 r.2.1)), .one (.d (.bool r.2.2.1)), .one (.d (.int .i64 r.2.2.2))]) := (f_wolfram_Parse s r hm).pureW
theorem f_strings_HasPrefix (s : List UInt8) (prefix_ : List UInt8) (r : Bool) (hm : cE s prefix_ = some r) : PFn Tryz.prog 49 [.u (.one (.d (.str (bs s)))), .u (.one (.d (.str (bs prefix_))))] (fun v => v.wk (.u (.one (.d (.bool r))))) := by
 refine bv Tryz.func49 Tryz.ntmps49 rfl (by kernel_rfl) (by simp) fun cx hn => ?_
 unfold cE at hm
 refine srs hn ?_
 simp -dsimp
 refine srs hn ?_
 obtain ⟨y, h1, hm⟩ := bnd hm
 simp -dsimp
 refine aa (dc s prefix_ y h1) (dkL hn) ?_
 simp -dsimp
 refine ac ?_
 cases hm
 refine ⟨.inr rfl, ?_⟩
 exact EE.here (by simp -dsimp)
theorem gb (s : List UInt8) (prefix_ : List UInt8) (r : Bool) (hm : cE s prefix_ = some r) : PureCall Tryz.prog 49 [.u (.one (.d (.str (bs s)))), .u (.one (.d (.str (bs prefix_))))] (.u (.one (.d (.bool r)))) := (f_strings_HasPrefix s prefix_ r hm).pureW
theorem f_notation_Kind (s : List UInt8) (r : Int) (hm : eQ s = some r) : PFn Tryz.prog 18 [.u (.one (.d (.str (bs s))))] (fun v => v.wk (.u (.one (.d (.int .i64 r))))) := by
 refine bv Tryz.func18 Tryz.ntmps18 rfl (by kernel_rfl) (by simp) fun cx hn => ?_
 unfold eQ at hm
 refine srs hn ?_
 simp -dsimp
 refine ae ?_
 refine srs hn ?_
 obtain ⟨y, h1, hm⟩ := bnd hm
 simp -dsimp
 refine aa (gX s y h1) (dkL hn) ?_
 simp -dsimp
 refine srs hn ?_
 simp -dsimp
 rcases ai hm with ⟨c2, hm⟩ | ⟨c2, hm⟩
 ·refine a8 (by simp -dsimp) c2 ?_
  refine srs hn ?_
  simp -dsimp [c2]
  refine ac (ag ?_)
  cases hm
  refine ⟨.inr rfl, ?_⟩
  exact EE.here (by simp -dsimp)
 ·refine a7 (by simp -dsimp) c2 ?_
  refine ab (a6 (ae ?_))
  refine srs hn ?_
  obtain ⟨y1, h3, hm⟩ := bnd hm
  simp -dsimp [c2]
  refine aa (ga s y1 h3) (dkL hn) ?_
  simp -dsimp
  refine srs hn ?_
  simp -dsimp
  rcases ai hm with ⟨c4, hm⟩ | ⟨c4, hm⟩
  ·refine a8 (by simp -dsimp) c4 ?_
   refine srs hn ?_
   simp -dsimp [c4]
   refine ac (ag ?_)
   cases hm
   refine ⟨.inr rfl, ?_⟩
   exact EE.here (by simp -dsimp)
  ·refine a7 (by simp -dsimp) c4 ?_
   refine ab (a6 (ae ?_))
   refine srs hn ?_
   obtain ⟨y2, h5, hm⟩ := bnd hm
   simp -dsimp [c4]
   refine aa (c_wolfram_Parse s y2 h5) (dkL hn) ?_
   simp -dsimp
   refine srs hn ?_
   simp -dsimp
   rcases ai hm with ⟨c6, hm⟩ | ⟨c6, hm⟩
   ·refine a8 (by simp -dsimp) c6 ?_
    refine ah ?_
    refine srs hn ?_
    obtain ⟨y3, h7, hm⟩ := bnd hm
    simp -dsimp [c6]
    refine aa (gb s ([87] : List UInt8) y3 h7) (dkL hn) ?_
    simp -dsimp
    rcases ai hm with ⟨c8, hm⟩ | ⟨c8, hm⟩
    ·refine a8 (by simp -dsimp) c8 ?_
     refine srs hn ?_
     simp -dsimp [c8]
     refine ac (aK (ag ?_))
     cases hm
     refine ⟨.inr rfl, ?_⟩
     exact EE.here (by simp -dsimp)
    ·refine a7 (by simp -dsimp) c8 ?_
     refine srs hn ?_
     obtain ⟨y4, h9, hm⟩ := bnd hm
     simp -dsimp [c8]
     refine aa (gb s ([84] : List UInt8) y4 h9) (dkL hn) ?_
     simp -dsimp
     rcases ai hm with ⟨c10, hm⟩ | ⟨c10, hm⟩
     ·refine a8 (by simp -dsimp) c10 ?_
      refine srs hn ?_
      simp -dsimp [c10]
      refine ac (aK (ag ?_))
      cases hm
      refine ⟨.inr rfl, ?_⟩
      exact EE.here (by simp -dsimp)
     ·refine a7 (by simp -dsimp) c10 ?_
      refine ab ?_
      refine aV ?_
      refine a6 (ae ?_)
      refine srs hn ?_
      cases hm
   ·refine a7 (by simp -dsimp) c6 ?_
    refine ab (a6 (ae ?_))
    refine srs hn ?_
    cases hm
theorem c_notation_Kind (s : List UInt8) (r : Int) (hm : eQ s = some r) : PureCall Tryz.prog 18 [.u (.one (.d (.str (bs s))))] (.u (.one (.d (.int .i64 r)))) := (f_notation_Kind s r hm).pureW
theorem f_cmp_isNaN_int (x : Int) (r : Bool) (hm : d6 x = some r) : PFn Tryz.prog 205 [.u (.one (.d (.int .i64 x)))] (fun v => v.wk (.u (.one (.d (.bool r))))) := by
 refine bv Tryz.func205 Tryz.ntmps205 rfl (by kernel_rfl) (by simp) fun cx hn => ?_
 unfold d6 at hm
 refine srs hn ?_
 simp -dsimp
 refine srs hn ?_
 simp -dsimp
 refine ac ?_
 cases hm
 refine ⟨.inr rfl, ?_⟩
 exact EE.here (by simp -dsimp)
theorem c_cmp_isNaN_int (x : Int) (r : Bool) (hm : d6 x = some r) : PureCall Tryz.prog 205 [.u (.one (.d (.int .i64 x)))] (.u (.one (.d (.bool r)))) := (f_cmp_isNaN_int x r hm).pureW
end Go.Proofs.YtogdjcdmbodmiaaGreatDoor
