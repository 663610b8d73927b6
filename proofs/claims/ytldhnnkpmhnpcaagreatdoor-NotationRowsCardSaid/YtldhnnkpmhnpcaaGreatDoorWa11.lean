/- That the code does what the functions say (made by cc.py). -/
import Derived.Test.YtldhnnkpmhnpcaaGreatDoorWa10
namespace Go.Proofs.YtldhnnkpmhnpcaaGreatDoor
open Go.AM Go.Proofs
attribute [-simp] qlookup bv cb Ob.wipe Ob.ren Ob.frz1 cd
set_option maxRecDepth 100000 in
theorem f_notation_Canon (s : List UInt8) (r : (List UInt8) × Int) (hm : m_notation_Canon s = some r) : PFn Tryz.prog 20 [.u (.one (.d (.str (bs s))))] (fun v => v.wk (.tup [.one (.d (.str (bs r.1))), .one (.d (.int .i64 r.2))])) := by
 refine aH Tryz.func20 Tryz.ntmps20 rfl (by kernel_rfl) (by simp) fun cx hn => ?_
 unfold m_notation_Canon at hm
 refine srs hn ?_
 simp -dsimp
 refine srs hn ?_
 simp -dsimp
 obtain ⟨⟨out, e_⟩, j14, hm⟩ := bnd hm
 refine am [(4, .u (.one (.d (.str (bs out))))), (5, .u (.one (.d (.int .i64 e_))))] [] (by rfl) (by rfl) ?_ fun ρ σ hf => ?_
 ·replace hm := j14
  clear j14
  refine srs hn ?_
  obtain ⟨y, h1, hm⟩ := bnd hm
  simp -dsimp
  refine aa (bc s y h1) (dkL hn) ?_
  simp -dsimp
  refine ai ?_
  refine srs hn ?_
  simp -dsimp
  rcases aj hm with ⟨c2, hm⟩ | ⟨c2, hm⟩
  ·refine a8 (by simp -dsimp) c2 ?_
   refine srs hn ?_
   simp -dsimp [c2]
   refine srs hn ?_
   obtain ⟨y1, h3, hm⟩ := bnd hm
   simp -dsimp
   refine aa (cU s y1 h3) (dkL hn) ?_
   simp -dsimp
   refine sr1 hn ?_
   obtain ⟨y2, h4, hm⟩ := bnd hm
   simp -dsimp
   refine aa (c_lifelike_Text y1.1 y2 h4) (dkL hn) ?_
   simp -dsimp
   refine aC ?_
   refine a6 ?_
   cases hm
   exact EE.here (by simp -dsimp)
  ·refine a7 (by simp -dsimp) c2 ?_
   refine srs hn ?_
   simp -dsimp [c2]
   rcases aj hm with ⟨c5, hm⟩ | ⟨c5, hm⟩
   ·refine a8 (by simp -dsimp) c5 ?_
    refine srs hn ?_
    simp -dsimp [c5]
    refine srs hn ?_
    obtain ⟨y1, h6, hm⟩ := bnd hm
    simp -dsimp
    refine aa (bU s y1 h6) (dkL hn) ?_
    simp -dsimp
    refine sr1 hn ?_
    obtain ⟨y2, h7, hm⟩ := bnd hm
    simp -dsimp
    refine aa (c_generations_Text y1.1 y2 h7) (dkL hn) ?_
    simp -dsimp
    refine aC ?_
    refine a6 ?_
    cases hm
    exact EE.here (by simp -dsimp)
   ·refine a7 (by simp -dsimp) c5 ?_
    obtain ⟨a, j12, hm⟩ := bnd hm
    refine am [(0, .u (.one (.d (.str (bs s))))), (4, .u (.one (.d (.str (bs ([] : List UInt8)))))), (5, .u (.one (.d (.int .i64 7)))), (10, .u (.one (.d (.int .i64 y)))), (29, .u (.one (.d (.bool a))))] [] (by rfl) (by rfl) ?_ fun ρ σ hf => ?_
    ·replace hm := j12
     clear j12
     refine srs hn ?_
     simp -dsimp [c5]
     rcases aj hm with ⟨c8, hm⟩ | ⟨c8, hm⟩
     ·refine a8 (by simp -dsimp) c8 ?_
      refine ac (a6 ?_)
      cases hm
      exact EE.here (by simp -dsimp [c8])
     ·refine a7 (by simp -dsimp) c8 ?_
      refine sr1 hn ?_
      simp -dsimp [c8]
      refine a6 ?_
      cases hm
      exact EE.here (by simp -dsimp)
    ·clear j12
     simp only [Fits, ar, ap, and_true] at hf
     rcases aj hm with ⟨c9, hm⟩ | ⟨c9, hm⟩
     ·refine a8 (by simp -dsimp [hf]) c9 ?_
      refine srs hn ?_
      obtain ⟨y1, h10, hm⟩ := bnd hm
      simp -dsimp [hf]
      refine aa (da s y1 h10) (dkL hn) ?_
      simp -dsimp
      refine sr1 hn ?_
      simp -dsimp [hf]
      refine aC ?_
      refine a6 ?_
      cases hm
      exact EE.here (by simp -dsimp)
     ·refine a7 (by simp -dsimp [hf]) c9 ?_
      refine srs hn ?_
      simp -dsimp [hf]
      rcases aj hm with ⟨c11, hm⟩ | ⟨c11, hm⟩
      ·refine a8 (by simp -dsimp) c11 ?_
       refine srs hn ?_
       simp -dsimp [c11]
       refine srs hn ?_
       cases hm
      ·refine a7 (by simp -dsimp) c11 ?_
       refine ac ?_
       refine aC ?_
       refine a6 ?_
       cases hm
       exact EE.here (by simp -dsimp [hf, c11])
 ·clear j14
  simp only [Fits, ar, ap, and_true] at hf
  refine ae ?_
  refine srs hn ?_
  simp -dsimp [hf]
  rcases aj hm with ⟨c13, hm⟩ | ⟨c13, hm⟩
  ·refine a8 (by simp -dsimp) c13 ?_
   refine srs hn ?_
   simp -dsimp [hf, c13]
   refine ab (ag ?_)
   cases hm
   refine ⟨.inr rfl, ?_⟩
   exact EE.here (by simp -dsimp)
  ·refine a7 (by simp -dsimp) c13 ?_
   refine ac (a6 ?_)
   refine srs hn ?_
   simp -dsimp [hf, c13]
   refine ab ?_
   cases hm
   refine ⟨.inr rfl, ?_⟩
   exact EE.here (by simp -dsimp)
theorem c_notation_Canon (s : List UInt8) (r : (List UInt8) × Int) (hm : m_notation_Canon s = some r) : PureCall Tryz.prog 20 [.u (.one (.d (.str (bs s))))] (.tup [.one (.d (.str (bs r.1))), .one (.d (.int .i64 r.2))]) := (f_notation_Canon s r hm).pureW
set_option maxRecDepth 100000 in
theorem f_L16_awake (r : Bool) (hm : m_L16_awake = some r) : PFn Tryz.prog 7 [] (fun v => v.wk (.u (.one (.d (.bool r))))) := by
 refine aH Tryz.func7 Tryz.ntmps7 rfl (by kernel_rfl) (by simp) fun cx hn => ?_
 unfold m_L16_awake at hm
 refine srs hn ?_
 simp -dsimp
 refine srs hn ?_
 obtain ⟨y, h1, hm⟩ := bnd hm
 simp -dsimp
 refine aa (c_notation_Parse ([66, 51, 47, 83, 50, 51] : List UInt8) y h1) (dkL hn) ?_
 simp -dsimp
 refine srs hn ?_
 obtain ⟨y1, h2, hm⟩ := bnd hm
 simp -dsimp
 refine aa (c_notation_Parse ([66, 50, 47, 83, 51, 52, 72] : List UInt8) y1 h2) (dkL hn) ?_
 simp -dsimp
 refine srs hn ?_
 obtain ⟨y2, h3, hm⟩ := bnd hm
 simp -dsimp
 refine aa (c_notation_Parse ([87, 49, 49, 48] : List UInt8) y2 h3) (dkL hn) ?_
 simp -dsimp
 refine srs hn ?_
 obtain ⟨y3, h4, hm⟩ := bnd hm
 simp -dsimp
 refine aa (c_notation_Parse ([66, 57, 47, 83] : List UInt8) y3 h4) (dkL hn) ?_
 simp -dsimp
 refine srs hn ?_
 obtain ⟨y4, h5, hm⟩ := bnd hm
 simp -dsimp
 refine aa (c_notation_Parse ([108, 105, 102, 101] : List UInt8) y4 h5) (dkL hn) ?_
 simp -dsimp
 refine srs hn ?_
 obtain ⟨y5, h6, hm⟩ := bnd hm
 simp -dsimp
 refine aa (c_notation_Canon ([47, 50, 47, 51] : List UInt8) y5 h6) (dkL hn) ?_
 simp -dsimp
 refine srs hn ?_
 obtain ⟨y6, h7, hm⟩ := bnd hm
 simp -dsimp
 refine aa (c_tree_Eval y.1 [1, 1, 1, 0, 0, 0, 0, 0, 0] y6 h7) (dkL hn) ?_
 simp -dsimp
 refine ae ?_
 obtain ⟨a, j37, hm⟩ := bnd hm
 refine am [(1, .u (.one (.box 1 0))), (3, .u (.one (.box 3 0))), (5, .u (.one (.box 5 0))), (78, .u (.one (.d (.bool a))))] [(1, .box [.d (.int .i64 y.1.States), .d (.sl 2 (List.map Point.row y.1.Hood)), .d (.sl 2 (List.map Node.row y.1.Nodes))]), (3, .box [.d (.int .i64 y1.1.States), .d (.sl 2 (List.map Point.row y1.1.Hood)), .d (.sl 2 (List.map Node.row y1.1.Nodes))]), (5, .box [.d (.int .i64 y2.1.States), .d (.sl 2 (List.map Point.row y2.1.Hood)), .d (.sl 2 (List.map Node.row y2.1.Nodes))])] (by rfl) (by rfl) ?_ fun ρ σ hf => ?_
 ·replace hm := j37
  clear j37
  refine sr1 hn ?_
  rcases aj hm with ⟨c8, hm⟩ | ⟨c8, hm⟩
  ·simp -dsimp [c8]
   refine a6 ?_
   cases hm
   exact EE.here (by simp -dsimp)
  ·rcases aj hm with ⟨c9, hm⟩ | ⟨c9, hm⟩
   ·simp -dsimp [c8, c9]
    refine a6 ?_
    cases hm
    exact EE.here (by simp -dsimp)
   ·rcases aj hm with ⟨c10, hm⟩ | ⟨c10, hm⟩
    ·simp -dsimp [c8, c9, c10]
     refine a6 ?_
     cases hm
     exact EE.here (by simp -dsimp)
    ·rcases aj hm with ⟨c11, hm⟩ | ⟨c11, hm⟩
     ·simp -dsimp [c8, c9, c10, c11]
      refine a6 ?_
      cases hm
      exact EE.here (by simp -dsimp)
     ·rcases aj hm with ⟨c12, hm⟩ | ⟨c12, hm⟩
      ·simp -dsimp [c8, c9, c10, c11, c12]
       refine a6 ?_
       cases hm
       exact EE.here (by simp -dsimp)
      ·rcases aj hm with ⟨c13, hm⟩ | ⟨c13, hm⟩
       ·simp -dsimp [c8, c9, c10, c11, c12, c13]
        refine a6 ?_
        cases hm
        exact EE.here (by simp -dsimp)
       ·rcases aj hm with ⟨c14, hm⟩ | ⟨c14, hm⟩
        ·simp -dsimp [c8, c9, c10, c11, c12, c13, c14]
         refine a6 ?_
         cases hm
         exact EE.here (by simp -dsimp)
        ·rcases aj hm with ⟨c15, hm⟩ | ⟨c15, hm⟩
         ·simp -dsimp [c8, c9, c10, c11, c12, c13, c14, c15]
          refine a6 ?_
          cases hm
          exact EE.here (by simp -dsimp)
         ·simp -dsimp [c8, c9, c10, c11, c12, c13, c14, c15]
          refine a6 ?_
          cases hm
          exact EE.here (by simp -dsimp)
 ·clear j37
  simp only [Fits, ar, ap, and_true] at hf
  rcases aj hm with ⟨c16, hm⟩ | ⟨c16, hm⟩
  ·refine a8 (by simp -dsimp [hf]) c16 ?_
   refine srs hn ?_
   simp -dsimp
   refine ab (ag ?_)
   cases hm
   refine ⟨.inr rfl, ?_⟩
   exact EE.here (by simp -dsimp)
  ·refine a7 (by simp -dsimp [hf]) c16 ?_
   refine ac (a6 ?_)
   obtain ⟨a1, j36, hm⟩ := bnd hm
   refine am [(0, .u (.one (.d (.bool a1))))] [] (by rfl) (by rfl) ?_ fun ρ σ hf => ?_
   ·replace hm := j36
    clear j36
    refine sr1 hn ?_
    obtain ⟨y7, h17, hm⟩ := bnd hm
    simp -dsimp
    refine aa (bc ([66, 51, 47, 83, 50, 51] : List UInt8) y7 h17) (dkL hn) ?_
    rcases aj hm with ⟨c18, hm⟩ | ⟨c18, hm⟩
    ·obtain ⟨y8, h19, hm⟩ := bnd hm
     simp -dsimp [c18]
     refine aa (bc ([47, 50, 47, 51] : List UInt8) y8 h19) (dkL hn) ?_
     rcases aj hm with ⟨c20, hm⟩ | ⟨c20, hm⟩
     ·obtain ⟨y9, h21, hm⟩ := bnd hm
      simp -dsimp [c20]
      refine aa (bc ([87, 51, 48] : List UInt8) y9 h21) (dkL hn) ?_
      rcases aj hm with ⟨c22, hm⟩ | ⟨c22, hm⟩
      ·obtain ⟨y10, h23, hm⟩ := bnd hm
       simp -dsimp [c22]
       refine aa (bc ([84, 55, 55, 55, 47, 51] : List UInt8) y10 h23) (dkL hn) ?_
       rcases aj hm with ⟨c24, hm⟩ | ⟨c24, hm⟩
       ·obtain ⟨y11, h25, hm⟩ := bnd hm
        simp -dsimp [c24]
        refine aa (bc ([98, 51, 47, 115, 50, 51] : List UInt8) y11 h25) (dkL hn) ?_
        rcases aj hm with ⟨c26, hm⟩ | ⟨c26, hm⟩
        ·obtain ⟨y12, h27, hm⟩ := bnd hm
         simp -dsimp [c26]
         refine aa (bc ([120, 10] : List UInt8) y12 h27) (dkL hn) ?_
         rcases aj hm with ⟨c28, hm⟩ | ⟨c28, hm⟩
         ·obtain ⟨y13, h29, hm⟩ := bnd hm
          simp -dsimp [hf, c28]
          refine aa (c_notation_Syms y.1 y13 h29) (dkL hn) ?_
          rcases aj hm with ⟨c30, hm⟩ | ⟨c30, hm⟩
          ·obtain ⟨y14, h31, hm⟩ := bnd hm
           simp -dsimp [hf, c30]
           refine aa (c_notation_Syms y1.1 y14 h31) (dkL hn) ?_
           obtain ⟨y15, h32, hm⟩ := bnd hm
           simp -dsimp
           refine aa (c_L12_Ints y14 [0, 2, 5, 7] y15 h32) (dkL hn) ?_
           rcases aj hm with ⟨c33, hm⟩ | ⟨c33, hm⟩
           ·obtain ⟨y16, h34, hm⟩ := bnd hm
            simp -dsimp [hf, c33]
            refine aa (c_notation_Syms y2.1 y16 h34) (dkL hn) ?_
            obtain ⟨y17, h35, hm⟩ := bnd hm
            simp -dsimp
            refine aa (c_L12_Ints y16 [0, 6] y17 h35) (dkL hn) ?_
            simp -dsimp
            refine a6 ?_
            cases hm
            exact EE.here (by simp -dsimp)
           ·simp -dsimp [c33]
            refine a6 ?_
            cases hm
            exact EE.here (by simp -dsimp)
          ·simp -dsimp [c30]
           refine a6 ?_
           cases hm
           exact EE.here (by simp -dsimp)
         ·simp -dsimp [c28]
          refine a6 ?_
          cases hm
          exact EE.here (by simp -dsimp)
        ·simp -dsimp [c26]
         refine a6 ?_
         cases hm
         exact EE.here (by simp -dsimp)
       ·simp -dsimp [c24]
        refine a6 ?_
        cases hm
        exact EE.here (by simp -dsimp)
      ·simp -dsimp [c22]
       refine a6 ?_
       cases hm
       exact EE.here (by simp -dsimp)
     ·simp -dsimp [c20]
      refine a6 ?_
      cases hm
      exact EE.here (by simp -dsimp)
    ·simp -dsimp [c18]
     refine a6 ?_
     cases hm
     exact EE.here (by simp -dsimp)
   ·clear j36
    simp only [Fits, ar, ap, and_true] at hf
    refine ab ?_
    cases hm
    refine ⟨.inr rfl, ?_⟩
    exact EE.here (by simp -dsimp [hf])
theorem c_L16_awake (r : Bool) (hm : m_L16_awake = some r) : PureCall Tryz.prog 7 [] (.u (.one (.d (.bool r)))) := (f_L16_awake r hm).pureW
def F_L16_NotationRows_1 (cx : Cx) (number : Int) (y1 : Tree × Int) (y2 : Int × Int) (_y3 : (Int × Int × Int × Int × Int × Int × Int × Int) × Int) (tt : Bool ⊕ Unit) (ee : Exit) (ρ : Env) (σ : Sto) : Prop := match tt with
 | .inl r => ee = .ret ∧ EE cx (fun ρ σ => ∃ v, cC tb ρ σ Tryz.f4.results.toList = some v ∧ (v.frz σ).free = true ∧ (v.frz σ).wk (.u (.one (.d (.bool r))))) ρ σ
 | .inr _u => ee = .exit 0 ∧ EE cx (aK [(3, .u (.one (.d (.int .i64 (be .i64 number))))), (4, .u (.one (.box 4 0))), (6, .u (.one (.d (.int .i64 y2.1))))] [(4, .box [.d (.int .i64 y1.1.States), .d (.sl 2 (List.map Point.row y1.1.Hood)), .d (.sl 2 (List.map Node.row y1.1.Nodes))])]) ρ σ
set_option maxRecDepth 100000 in
theorem l_L16_NotationRows_1 (cx : Cx) (hn : cx.n = 81) (number : Int) (y1 : Tree × Int) (y2 : Int × Int) (y3 : (Int × Int × Int × Int × Int × Int × Int × Int) × Int) {fu : Nat} {stt : Int} {tt : Bool ⊕ Unit} (hh : ah (b_L16_NotationRows_1 number y1 y2 y3) fu stt = some tt) {ρ : Env} {σ : Sto}
  (hE : aT (fun a1 : Int => [(3, .u (.one (.d (.int .i64 (be .i64 number))))), (4, .u (.one (.box 4 0))), (6, .u (.one (.d (.int .i64 y2.1)))), (8, .u (.one (.box 8 0))), (43, .u (.one (.d (.int .i64 a1))))]) (fun _a1 : Int => [(4, .box [.d (.int .i64 y1.1.States), .d (.sl 2 (List.map Point.row y1.1.Hood)), .d (.sl 2 (List.map Node.row y1.1.Nodes))]), (8, .box (List.map (cI .i64) [y3.1.1, y3.1.2.1, y3.1.2.2.1, y3.1.2.2.2.1, y3.1.2.2.2.2.1, y3.1.2.2.2.2.2.1, y3.1.2.2.2.2.2.2.1, y3.1.2.2.2.2.2.2.2]))]) stt ρ σ) : Swp Tryz.prog cx (.loop (bi [1, 1, 1, 1, 1, 1, 0, 1, 0, 0] (aG Tryz.f4))) ρ σ (F_L16_NotationRows_1 cx number y1 y2 y3 tt) := by
 refine b3 hE hh (F_L16_NotationRows_1 cx number y1 y2 y3) ?_
 rintro a1 r hm ρ σ hf
 simp only [Fits, ar, ap, and_true] at hf
 unfold b_L16_NotationRows_1 at hm
 dsimp only at hm
 refine srs hn ?_
 simp -dsimp [hf]
 refine ae ?_
 rcases aj hm with ⟨c9, hm⟩ | ⟨c9, hm⟩
 ·refine a8 (by simp -dsimp) c9 ?_
  refine ac (a6 (ae (ai ?_)))
  refine srs hn ?_
  simp -dsimp [hf, c9]
  refine srs hn ?_
  obtain ⟨n, h10, hm⟩ := bnd hm
  obtain ⟨n1, h11, hm⟩ := bnd hm
  obtain ⟨n2, h12, hm⟩ := bnd hm
  obtain ⟨n3, h13, hm⟩ := bnd hm
  obtain ⟨y4, h14, hm⟩ := bnd hm
  simp -dsimp [hf, h10, h11, h12, h13]
  refine aa (c_tree_Eval y1.1 [n, n2, n3] y4 h14) (dkL hn) ?_
  simp -dsimp
  obtain ⟨a2, j18, hm⟩ := bnd hm
  refine am [(3, .u (.one (.d (.int .i64 (be .i64 number))))), (4, .u (.one (.box 4 0))), (6, .u (.one (.d (.int .i64 y2.1)))), (8, .u (.one (.box 8 0))), (43, .u (.one (.d (.int .i64 a1)))), (67, .u (.one (.d (.bool a2))))] [(4, .box [.d (.int .i64 y1.1.States), .d (.sl 2 (List.map Point.row y1.1.Hood)), .d (.sl 2 (List.map Node.row y1.1.Nodes))]), (8, .box (List.map (cI .i64) [y3.1.1, y3.1.2.1, y3.1.2.2.1, y3.1.2.2.2.1, y3.1.2.2.2.2.1, y3.1.2.2.2.2.2.1, y3.1.2.2.2.2.2.2.1, y3.1.2.2.2.2.2.2.2]))] (by rfl) (by rfl) ?_ fun ρ σ hf => ?_
  ·replace hm := j18
   clear j18
   refine sr1 hn ?_
   rcases aj hm with ⟨c15, hm⟩ | ⟨c15, hm⟩
   ·simp -dsimp [c15]
    refine a6 ?_
    cases hm
    exact EE.here (by simp -dsimp [hf])
   ·obtain ⟨x, h16, hm⟩ := bnd hm
    simp -dsimp [hf, c15, dK h16, (@id (([.d (.int .i64 y3.1.1), .d (.int .i64 y3.1.2.1), .d (.int .i64 y3.1.2.2.1), .d (.int .i64 y3.1.2.2.2.1), .d (.int .i64 y3.1.2.2.2.2.1), .d (.int .i64 y3.1.2.2.2.2.2.1), .d (.int .i64 y3.1.2.2.2.2.2.2.1), .d (.int .i64 y3.1.2.2.2.2.2.2.2)] : List C)[a1.toNat]? = some ((cI .i64) _)) (aidx_map (cI .i64) h16))]
    refine a6 ?_
    cases hm
    exact EE.here (by simp -dsimp [hf])
  ·clear j18
   simp only [Fits, ar, ap, and_true] at hf
   rcases aj hm with ⟨c17, hm⟩ | ⟨c17, hm⟩
   ·refine a8 (by simp -dsimp [hf]) c17 ?_
    refine srs hn ?_
    simp -dsimp
    refine ab (aL (ag ?_))
    cases hm
    refine aw nofun ?_
    unfold F_L16_NotationRows_1
    dsimp only
    refine ⟨rfl, ?_⟩
    exact EE.here (by simp -dsimp [Tryz.results4])
   ·refine a7 (by simp -dsimp [hf]) c17 ?_
    refine ac ?_
    refine aC ?_
    refine a6 ?_
    refine sr1 hn ?_
    simp -dsimp [hf]
    cases hm
    refine ax ?_
    exact EE.here (by simp -dsimp [hf])
 ·refine a7 (by simp -dsimp) c9 ?_
  refine au ?_
  refine ag ?_
  cases hm
  refine aw nofun ?_
  unfold F_L16_NotationRows_1
  dsimp only
  refine ⟨rfl, ?_⟩
  exact EE.here (by simp -dsimp [hf, c9])
set_option maxRecDepth 100000 in
theorem f_L16_NotationRows (number : Int) (r : Bool) (hm : m_L16_NotationRows number = some r) : PFn Tryz.prog 4 [.u (.one (.d (.int .u8 number)))] (fun v => v.wk (.u (.one (.d (.bool r))))) := by
 refine aH Tryz.func4 Tryz.ntmps4 rfl (by kernel_rfl) (by simp) fun cx hn => ?_
 unfold m_L16_NotationRows at hm
 refine srs hn ?_
 simp -dsimp
 refine srs hn ?_
 simp -dsimp
 refine srs hn ?_
 obtain ⟨y, h1, hm⟩ := bnd hm
 simp -dsimp
 refine aa (c_L16_decimal (be .i64 number) y h1) (dkL hn) ?_
 obtain ⟨s, h2, hm⟩ := bnd hm
 obtain ⟨y1, h3, hm⟩ := bnd hm
 simp -dsimp [h2]
 refine aa (c_notation_Parse s y1 h3) (dkL hn) ?_
 simp -dsimp
 refine srs hn ?_
 obtain ⟨y2, h4, hm⟩ := bnd hm
 simp -dsimp
 refine aa (c_wolfram_Mirror (be .i64 number) y2 h4) (dkL hn) ?_
 simp -dsimp
 refine srs hn ?_
 obtain ⟨y3, h5, hm⟩ := bnd hm
 simp -dsimp
 refine aa (c_wolfram_Elementary (be .i64 number) y3 h5) (dkL hn) ?_
 simp -dsimp
 refine ae ?_
 obtain ⟨a, j28, hm⟩ := bnd hm
 refine am [(3, .u (.one (.d (.int .i64 (be .i64 number))))), (4, .u (.one (.box 4 0))), (6, .u (.one (.d (.int .i64 y2.1)))), (8, .u (.one (.box 8 0))), (42, .u (.one (.d (.bool a))))] [(4, .box [.d (.int .i64 y1.1.States), .d (.sl 2 (List.map Point.row y1.1.Hood)), .d (.sl 2 (List.map Node.row y1.1.Nodes))]), (8, .box [.d (.int .i64 y3.1.1), .d (.int .i64 y3.1.2.1), .d (.int .i64 y3.1.2.2.1), .d (.int .i64 y3.1.2.2.2.1), .d (.int .i64 y3.1.2.2.2.2.1), .d (.int .i64 y3.1.2.2.2.2.2.1), .d (.int .i64 y3.1.2.2.2.2.2.2.1), .d (.int .i64 y3.1.2.2.2.2.2.2.2)])] (by rfl) (by rfl) ?_ fun ρ σ hf => ?_
 ·replace hm := j28
  clear j28
  refine sr1 hn ?_
  rcases aj hm with ⟨c6, hm⟩ | ⟨c6, hm⟩
  ·simp -dsimp [c6]
   refine a6 ?_
   cases hm
   exact EE.here (by simp -dsimp)
  ·rcases aj hm with ⟨c7, hm⟩ | ⟨c7, hm⟩
   ·simp -dsimp [c6, c7]
    refine a6 ?_
    cases hm
    exact EE.here (by simp -dsimp)
   ·simp -dsimp [c6, c7]
    refine a6 ?_
    cases hm
    exact EE.here (by simp -dsimp)
 ·clear j28
  simp only [Fits, ar, ap, and_true] at hf
  rcases aj hm with ⟨c8, hm⟩ | ⟨c8, hm⟩
  ·refine a8 (by simp -dsimp [hf]) c8 ?_
   refine srs hn ?_
   simp -dsimp
   refine ab (ag ?_)
   cases hm
   refine ⟨.inr rfl, ?_⟩
   exact EE.here (by simp -dsimp)
  ·refine a7 (by simp -dsimp [hf]) c8 ?_
   refine ac (a6 (ae ?_))
   refine srs hn ?_
   simp -dsimp
   refine ai ?_
   obtain ⟨o_, g19, hm⟩ := bnd hm
   refine aF (l_L16_NotationRows_1 cx hn number y1 y2 y3 g19) (by
     try dsimp only
     exact EE.here (by simp -dsimp [hf])
   ) fun ee ρ σ x20 => ?_
   rcases o_ with r | _u
   ·unfold F_L16_NotationRows_1 at x20
    dsimp only at x20
    obtain ⟨rfl, x20⟩ := x20
    refine aL (ag ?_)
    cases hm
    exact ⟨.inr rfl, x20⟩
   ·unfold F_L16_NotationRows_1 at x20
    dsimp only at x20
    obtain ⟨rfl, x20⟩ := x20
    refine av ?_
    refine a6 ?_
    refine aV (by rfl) (by rfl) x20 fun ρ σ hf => ?_
    simp only [Fits, ar, ap, and_true] at hf
    refine srs hn ?_
    simp -dsimp
    obtain ⟨want, j27, hm⟩ := bnd hm
    refine am [(4, .u (.one (.box 4 0))), (13, .u (.one (.d (.sl 1 (List.map (rI .i64) want)))))] [(4, .box [.d (.int .i64 y1.1.States), .d (.sl 2 (List.map Point.row y1.1.Hood)), .d (.sl 2 (List.map Node.row y1.1.Nodes))])] (by rfl) (by rfl) ?_ fun ρ σ hf => ?_
    ·replace hm := j27
     clear j27
     refine srs hn ?_
     simp -dsimp [hf]
     rcases aj hm with ⟨c21, hm⟩ | ⟨c21, hm⟩
     ·refine a8 (by simp -dsimp) c21 ?_
      refine sr1 hn ?_
      simp -dsimp [c21]
      refine a6 ?_
      cases hm
      exact EE.here (by simp -dsimp [hf])
     ·refine a7 (by simp -dsimp) c21 ?_
      refine ac (a6 ?_)
      cases hm
      exact EE.here (by simp -dsimp [hf, c21])
    ·clear j27
     simp only [Fits, ar, ap, and_true] at hf
     obtain ⟨a1, j26, hm⟩ := bnd hm
     refine am [(2, .u (.one (.d (.bool a1))))] [] (by rfl) (by rfl) ?_ fun ρ σ hf => ?_
     ·replace hm := j26
      clear j26
      refine sr1 hn ?_
      obtain ⟨y4, h22, hm⟩ := bnd hm
      simp -dsimp [hf]
      refine aa (c_notation_Syms y1.1 y4 h22) (dkL hn) ?_
      obtain ⟨y5, h23, hm⟩ := bnd hm
      simp -dsimp [hf]
      refine aa (c_L12_Ints y4 want y5 h23) (dkL hn) ?_
      rcases aj hm with ⟨c24, hm⟩ | ⟨c24, hm⟩
      ·obtain ⟨y6, h25, hm⟩ := bnd hm
       simp -dsimp [c24]
       refine aa (c_L16_awake y6 h25) (dkL hn) ?_
       simp -dsimp
       refine a6 ?_
       cases hm
       exact EE.here (by simp -dsimp)
      ·simp -dsimp [c24]
       refine a6 ?_
       cases hm
       exact EE.here (by simp -dsimp)
     ·clear j26
      simp only [Fits, ar, ap, and_true] at hf
      refine ab ?_
      cases hm
      refine ⟨.inr rfl, ?_⟩
      exact EE.here (by simp -dsimp [hf])
theorem c_L16_NotationRows (number : Int) (r : Bool) (hm : m_L16_NotationRows number = some r) : PureCall Tryz.prog 4 [.u (.one (.d (.int .u8 number)))] (.u (.one (.d (.bool r)))) := (f_L16_NotationRows number r hm).pureW
end Go.Proofs.YtldhnnkpmhnpcaaGreatDoor
