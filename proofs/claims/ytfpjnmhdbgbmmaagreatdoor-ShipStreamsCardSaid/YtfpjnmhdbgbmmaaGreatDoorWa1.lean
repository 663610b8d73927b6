/-
  That the code does what the functions say (made by cc.py).
-/
import Derived.Test.YtfpjnmhdbgbmmaaGreatDoorMd1
import Derived.Test.YtfpjnmhdbgbmmaaGreatDoorTb
import Derived.Test.YtfpjnmhdbgbmmaaGreatDoorLays
namespace Go.Proofs.YtfpjnmhdbgbmmaaGreatDoor
open Go.AM Go.Proofs
attribute [-simp] qlookup cC dS Ob.wipe Ob.ren Ob.frz1
theorem f_ship_in (x : Int) (y : Int) (r : Bool) (hm : eO x y = some r) : PFn Tryz.prog 32 [.u (.one (.d (.int .i64 x))), .u (.one (.d (.int .i64 y)))] (fun v => v.wk (.u (.one (.d (.bool r))))) := by
 refine aX Tryz.func32 Tryz.ntmps32 rfl (by kernel_rfl) (by simp) fun cx hn => ?_
 unfold eO at hm
 refine srs hn (by kernel_rfl) ?_
 simp -dsimp []
 obtain ⟨a, j2, hm⟩ := bnd hm
 refine aw [(4, .u (.one (.d (.bool a))))] [] (by rfl) (by rfl) ?_ fun ρ σ hf => ?_
 ·replace hm := j2
  clear j2
  refine sr1 hn (by kernel_rfl) ?_
  rcases aj hm with ⟨c1, hm⟩ | ⟨c1, hm⟩
  ·simp -dsimp [c1]
   refine a6 ?_
   cases hm
   refine EE.here ?_
   simp -dsimp
  ·simp -dsimp [c1]
   refine a6 ?_
   cases hm
   refine EE.here ?_
   simp -dsimp
 ·clear j2
  simp only [Fits, am, ap, and_true] at hf
  refine aa ?_
  cases hm
  refine ⟨.inr rfl, ?_⟩
  refine EE.here ?_
  simp -dsimp [hf]
theorem c_ship_in (x : Int) (y : Int) (r : Bool) (hm : eO x y = some r) : PureCall Tryz.prog 32 [.u (.one (.d (.int .i64 x))), .u (.one (.d (.int .i64 y)))] (.u (.one (.d (.bool r)))) := (f_ship_in x y r hm).pureW
def cw (cx : Cx) (_x : Shot) (_m : Motion) (_count : Int) (_gap : Int) (tt : ((List Shot) × Int) ⊕ (List Shot)) (ee : Exit) (ρ : Env) (σ : Sto) : Prop := match tt with
 | .inl r => ee = .ret ∧ EE cx (fun ρ σ => ∃ v, resV tb ρ σ Tryz.f12.results.toList = some v ∧ (v.frz σ).free = true ∧ (v.frz σ).wk (.tup [.one (.d (.sl 5 (List.map Shot.row r.1))), .one (.d (.int .i64 r.2))])) ρ σ
 | .inr out => ee = .exit 0 ∧ EE cx (aU [(10, .u (.one (.own 5000)))] [(5000, .row 5 42 (List.map Shot.row out))]) ρ σ
theorem l_ship_Stream_1 (cx : Cx) (hn : cx.n = 88) (x : Shot) (m : Motion) (count : Int) (gap : Int) {fu : Nat} {stt : Int × (List Shot)} {tt : ((List Shot) × Int) ⊕ (List Shot)} (hh : al (dL x m count gap) fu stt = some tt) {ρ : Env} {σ : Sto}
  (hE : b4 (fun stt : Int × (List Shot) => match stt with | (a1, _out) => [(3, .u (.one (.d (.int .i64 gap)))), (4, .u (.one (.box 4 0))), (5, .u (.one (.box 5 0))), (10, .u (.one (.own 5000))), (45, .u (.one (.d (.int .i64 count)))), (46, .u (.one (.d (.int .i64 a1))))]) (fun stt : Int × (List Shot) => match stt with | (_a1, out) => [(4, .box [.d (.int .i64 x.Ship), .d (.int .i64 x.Phase), .d (.int .i64 x.Sym), .d (.int .i64 x.X), .d (.int .i64 x.Y)]), (5, .box [.d (.int .i64 m.Period), .d (.int .i64 m.DX), .d (.int .i64 m.DY)]), (5000, .row 5 42 (List.map Shot.row out))]) stt ρ σ) : Swp Tryz.prog cx (.loop (bQ [1, 1, 1, 0, 1, 0, 0] (aP Tryz.f12))) ρ σ (cw cx x m count gap tt) := by
 refine b8 hE hh (cw cx x m count gap) (fun _ => by rfl) (fun _ => by rfl) ?_
 rintro ⟨a1, out⟩ r hm ρ σ hf
 simp only [Fits, am, ap, and_true] at hf
 unfold dL at hm
 dsimp only at hm
 refine srs hn (by kernel_rfl) ?_
 simp -dsimp [hf]
 refine ac ?_
 rcases aj hm with ⟨c9, hm⟩ | ⟨c9, hm⟩
 ·refine a8 (b := (ltB a1 count)) (by simp -dsimp) c9 ?_
  refine ab (a6 (ac (ai ?_)))
  refine srs hn (by kernel_rfl) ?_
  simp -dsimp [hf, c9]
  refine ac ?_
  refine srs hn (by kernel_rfl) ?_
  obtain ⟨y, h10, hm⟩ := bnd hm
  simp -dsimp [hf]
  refine ae (c_ship_in x.X x.Y y h10) (by rw [hn]; decide) ?_
  simp -dsimp
  rcases aj hm with ⟨c11, hm⟩ | ⟨c11, hm⟩
  ·refine a8 (b := (aM y)) (by simp -dsimp) c11 ?_
   refine srs hn (by kernel_rfl) ?_
   simp -dsimp [c11]
   refine aa (ag (aN (ag ?_)))
   cases hm
   refine ar nofun ?_
   unfold cw
   dsimp only
   refine ⟨rfl, ?_⟩
   refine EE.here ?_
   simp -dsimp [Tryz.results12]
  ·refine a7 (b := (aM y)) (by simp -dsimp) c11 ?_
   refine ab (a6 ?_)
   refine srs hn (by kernel_rfl) ?_
   simp -dsimp [hf, c11]
   refine srs hn (by kernel_rfl) ?_
   simp -dsimp [hf]
   refine srs hn (by kernel_rfl) ?_
   simp -dsimp [hf]
   refine ac ?_
   refine srs hn (by kernel_rfl) ?_
   obtain ⟨y1, h12, hm⟩ := bnd hm
   simp -dsimp
   refine ae (c_ship_in (aA .i64 x.X (bP .i64 (bP .i64 a1 gap) m.DX)) (aA .i64 x.Y (bP .i64 (bP .i64 a1 gap) m.DY)) y1 h12) (by rw [hn]; decide) ?_
   simp -dsimp
   rcases aj hm with ⟨c13, hm⟩ | ⟨c13, hm⟩
   ·refine a8 (b := (aM y1)) (by simp -dsimp) c13 ?_
    refine srs hn (by kernel_rfl) ?_
    simp -dsimp [c13]
    refine aa (ag (aN (ag ?_)))
    cases hm
    refine ar nofun ?_
    unfold cw
    dsimp only
    refine ⟨rfl, ?_⟩
    refine EE.here ?_
    simp -dsimp [Tryz.results12]
   ·refine a7 (b := (aM y1)) (by simp -dsimp) c13 ?_
    refine ab (a6 ?_)
    refine sr1 hn (by kernel_rfl) ?_
    obtain ⟨l, h14, hm⟩ := bnd hm
    obtain ⟨h14a, h14e⟩ := aL h14
    replace h14e := h14e.symm
    subst h14e
    try simp only [List.length_cons, List.length_nil, Nat.zero_add] at h14a
    simp -dsimp [hf, c13, h14a]
    refine aJ ?_
    refine a6 ?_
    refine sr1 hn (by kernel_rfl) ?_
    simp -dsimp [hf]
    cases hm
    refine aB ?_
    refine EE.step (Wk.move 85 5000 (by decide) (.inl (by decide))) ?_
    refine EE.here ?_
    simp -dsimp [hf]
 ·refine a7 (b := (ltB a1 count)) (by simp -dsimp) c9 ?_
  refine av ?_
  refine ag ?_
  cases hm
  refine ar nofun ?_
  unfold cw
  dsimp only
  refine ⟨rfl, ?_⟩
  refine EE.here ?_
  simp -dsimp [hf, c9]
theorem f_ship_Stream (x : Shot) (m : Motion) (count : Int) (gap : Int) (r : (List Shot) × Int) (hm : di x m count gap = some r) : PFn Tryz.prog 12 [.u (.agg [.d (.int .i64 x.Ship), .d (.int .i64 x.Phase), .d (.int .i64 x.Sym), .d (.int .i64 x.X), .d (.int .i64 x.Y)]), .u (.agg [.d (.int .i64 m.Period), .d (.int .i64 m.DX), .d (.int .i64 m.DY)]), .u (.one (.d (.int .i64 count))), .u (.one (.d (.int .i64 gap)))] (fun v => v.wk (.tup [.one (.d (.sl 5 (List.map Shot.row r.1))), .one (.d (.int .i64 r.2))])) := by
 refine aX Tryz.func12 Tryz.ntmps12 rfl (by kernel_rfl) (by simp) fun cx hn => ?_
 unfold di at hm
 refine srs hn (by kernel_rfl) ?_
 simp -dsimp []
 refine ac ?_
 obtain ⟨a, j17, hm⟩ := bnd hm
 refine aw [(2, .u (.one (.d (.int .i64 count)))), (3, .u (.one (.d (.int .i64 gap)))), (4, .u (.one (.box 4 0))), (5, .u (.one (.box 5 0))), (44, .u (.one (.d (.bool a))))] [(4, .box [.d (.int .i64 x.Ship), .d (.int .i64 x.Phase), .d (.int .i64 x.Sym), .d (.int .i64 x.X), .d (.int .i64 x.Y)]), (5, .box [.d (.int .i64 m.Period), .d (.int .i64 m.DX), .d (.int .i64 m.DY)])] (by rfl) (by rfl) ?_ fun ρ σ hf => ?_
 ·replace hm := j17
  clear j17
  refine sr1 hn (by kernel_rfl) ?_
  rcases aj hm with ⟨c1, hm⟩ | ⟨c1, hm⟩
  ·simp -dsimp [c1]
   refine a6 ?_
   cases hm
   refine EE.here ?_
   simp -dsimp
  ·rcases aj hm with ⟨c2, hm⟩ | ⟨c2, hm⟩
   ·simp -dsimp [c1, c2]
    refine a6 ?_
    cases hm
    refine EE.here ?_
    simp -dsimp
   ·obtain ⟨y, h3, hm⟩ := bnd hm
    simp -dsimp [c1, c2]
    refine ae (c_ship_in m.DX m.DY y h3) (by rw [hn]; decide) ?_
    rcases aj hm with ⟨c4, hm⟩ | ⟨c4, hm⟩
    ·simp -dsimp [c4]
     refine a6 ?_
     cases hm
     refine EE.here ?_
     simp -dsimp
    ·rcases aj hm with ⟨c5, hm⟩ | ⟨c5, hm⟩
     ·simp -dsimp [c4, c5]
      refine a6 ?_
      cases hm
      refine EE.here ?_
      simp -dsimp
     ·rcases aj hm with ⟨c6, hm⟩ | ⟨c6, hm⟩
      ·simp -dsimp [c4, c5, c6]
       refine a6 ?_
       cases hm
       refine EE.here ?_
       simp -dsimp
      ·rcases aj hm with ⟨c7, hm⟩ | ⟨c7, hm⟩
       ·simp -dsimp [c4, c5, c6, c7]
        refine a6 ?_
        cases hm
        refine EE.here ?_
        simp -dsimp
       ·simp -dsimp [c4, c5, c6, c7]
        refine a6 ?_
        cases hm
        refine EE.here ?_
        simp -dsimp
 ·clear j17
  simp only [Fits, am, ap, and_true] at hf
  rcases aj hm with ⟨c8, hm⟩ | ⟨c8, hm⟩
  ·refine a8 (b := a) (by simp -dsimp [hf]) c8 ?_
   refine srs hn (by kernel_rfl) ?_
   simp -dsimp
   refine aa (ag ?_)
   cases hm
   refine ⟨.inr rfl, ?_⟩
   refine EE.here ?_
   simp -dsimp
  ·refine a7 (b := a) (by simp -dsimp [hf]) c8 ?_
   refine ab (a6 ?_)
   refine srs hn (by kernel_rfl) ?_
   simp -dsimp
   refine ac ?_
   refine srs hn (by kernel_rfl) ?_
   simp -dsimp [hf]
   refine ai ?_
   obtain ⟨o_, g15, hm⟩ := bnd hm
   refine aO [(3, .u (.one (.d (.int .i64 gap)))), (4, .u (.one (.box 4 0))), (5, .u (.one (.box 5 0))), (10, .u (.one (.own 5000))), (45, .u (.one (.d (.int .i64 count)))), (46, .u (.one (.d (.int .i64 0))))] [(4, .box [.d (.int .i64 x.Ship), .d (.int .i64 x.Phase), .d (.int .i64 x.Sym), .d (.int .i64 x.X), .d (.int .i64 x.Y)]), (5, .box [.d (.int .i64 m.Period), .d (.int .i64 m.DX), .d (.int .i64 m.DY)]), (5000, .row 5 42 (List.map Shot.row []))] (by rfl) (by rfl) (by
     refine EE.step (Wk.own0 10 5000 5 42 (by simp -dsimp) (by decide)) ?_
     refine EE.here ?_
     simp -dsimp [hf]
   ) fun ρ σ hf => ?_
   refine (l_ship_Stream_1 cx hn x m count gap g15 hf).mono fun ee ρ σ x16 => ?_
   rcases o_ with r | out
   ·unfold cw at x16
    dsimp only at x16
    obtain ⟨rfl, x16⟩ := x16
    refine aN (ag ?_)
    cases hm
    exact ⟨.inr rfl, x16⟩
   ·unfold cw at x16
    dsimp only at x16
    obtain ⟨rfl, x16⟩ := x16
    refine au ?_
    refine a6 ?_
    refine b5 (by rfl) (by rfl) x16 fun ρ σ hf => ?_
    simp only [Fits, am, ap, and_true] at hf
    refine srs hn (by kernel_rfl) ?_
    simp -dsimp [hf]
    refine aa ?_
    cases hm
    refine ⟨.inr rfl, ?_⟩
    refine EE.here ?_
    simp -dsimp [hf]
theorem c_ship_Stream (x : Shot) (m : Motion) (count : Int) (gap : Int) (r : (List Shot) × Int) (hm : di x m count gap = some r) : PureCall Tryz.prog 12 [.u (.agg [.d (.int .i64 x.Ship), .d (.int .i64 x.Phase), .d (.int .i64 x.Sym), .d (.int .i64 x.X), .d (.int .i64 x.Y)]), .u (.agg [.d (.int .i64 m.Period), .d (.int .i64 m.DX), .d (.int .i64 m.DY)]), .u (.one (.d (.int .i64 count))), .u (.one (.d (.int .i64 gap)))] (.tup [.one (.d (.sl 5 (List.map Shot.row r.1))), .one (.d (.int .i64 r.2))]) := (f_ship_Stream x m count gap r hm).pureW
theorem f_R03_Valid (p : Point) (r : Bool) (hm : cM p = some r) : PFn Tryz.prog 33 [.u (.agg [.d (.int .i64 p.X), .d (.int .i64 p.Y)])] (fun v => v.wk (.u (.one (.d (.bool r))))) := by
 refine aX Tryz.func33 Tryz.ntmps33 rfl (by kernel_rfl) (by simp) fun cx hn => ?_
 unfold cM at hm
 refine srs hn (by kernel_rfl) ?_
 simp -dsimp []
 obtain ⟨a, j4, hm⟩ := bnd hm
 refine aw [(2, .u (.one (.d (.bool a))))] [] (by rfl) (by rfl) ?_ fun ρ σ hf => ?_
 ·replace hm := j4
  clear j4
  refine sr1 hn (by kernel_rfl) ?_
  rcases aj hm with ⟨c1, hm⟩ | ⟨c1, hm⟩
  ·rcases aj hm with ⟨c2, hm⟩ | ⟨c2, hm⟩
   ·rcases aj hm with ⟨c3, hm⟩ | ⟨c3, hm⟩
    ·simp -dsimp [c1, c2, c3]
     refine a6 ?_
     cases hm
     refine EE.here ?_
     simp -dsimp
    ·simp -dsimp [c1, c2, c3]
     refine a6 ?_
     cases hm
     refine EE.here ?_
     simp -dsimp
   ·simp -dsimp [c1, c2]
    refine a6 ?_
    cases hm
    refine EE.here ?_
    simp -dsimp
  ·simp -dsimp [c1]
   refine a6 ?_
   cases hm
   refine EE.here ?_
   simp -dsimp
 ·clear j4
  simp only [Fits, am, ap, and_true] at hf
  refine aa ?_
  cases hm
  refine ⟨.inr rfl, ?_⟩
  refine EE.here ?_
  simp -dsimp [hf]
theorem c_R03_Valid (p : Point) (r : Bool) (hm : cM p = some r) : PureCall Tryz.prog 33 [.u (.agg [.d (.int .i64 p.X), .d (.int .i64 p.Y)])] (.u (.one (.d (.bool r)))) := (f_R03_Valid p r hm).pureW
def cX (cx : Cx) (_x : Shot) (_m : Motion) (_count : Int) (_gap : Int) (tt : ((List Shot) × Int) ⊕ (List Shot)) (ee : Exit) (ρ : Env) (σ : Sto) : Prop := match tt with
 | .inl r => ee = .ret ∧ EE cx (fun ρ σ => ∃ v, resV tb ρ σ Tryz.f13.results.toList = some v ∧ (v.frz σ).free = true ∧ (v.frz σ).wk (.tup [.one (.d (.sl 5 (List.map Shot.row r.1))), .one (.d (.int .i64 r.2))])) ρ σ
 | .inr out => ee = .exit 0 ∧ EE cx (aU [(10, .u (.one (.own 5000)))] [(5000, .row 5 42 (List.map Shot.row out))]) ρ σ
theorem l_R50_Stream_1 (cx : Cx) (hn : cx.n = 91) (x : Shot) (m : Motion) (count : Int) (gap : Int) {fu : Nat} {stt : Int × (List Shot)} {tt : ((List Shot) × Int) ⊕ (List Shot)} (hh : al (cj x m count gap) fu stt = some tt) {ρ : Env} {σ : Sto}
  (hE : b4 (fun stt : Int × (List Shot) => match stt with | (i, _out) => [(2, .u (.one (.d (.int .i64 count)))), (3, .u (.one (.d (.int .i64 gap)))), (4, .u (.one (.box 4 0))), (5, .u (.one (.box 5 0))), (10, .u (.one (.own 5000))), (11, .u (.one (.d (.int .i64 i))))]) (fun stt : Int × (List Shot) => match stt with | (_i, out) => [(4, .box [.d (.int .i64 x.Ship), .d (.int .i64 x.Phase), .d (.int .i64 x.Sym), .d (.int .i64 x.X), .d (.int .i64 x.Y)]), (5, .box [.d (.int .i64 m.Period), .d (.int .i64 m.DX), .d (.int .i64 m.DY)]), (5000, .row 5 42 (List.map Shot.row out))]) stt ρ σ) : Swp Tryz.prog cx (.loop (bQ [1, 1, 1, 0, 1, 0, 0] (aP Tryz.f13))) ρ σ (cX cx x m count gap tt) := by
 refine b8 hE hh (cX cx x m count gap) (fun _ => by rfl) (fun _ => by rfl) ?_
 rintro ⟨i, out⟩ r hm ρ σ hf
 simp only [Fits, am, ap, and_true] at hf
 unfold cj at hm
 dsimp only at hm
 refine ac ?_
 refine srs hn (by kernel_rfl) ?_
 simp -dsimp [hf]
 rcases aj hm with ⟨c9, hm⟩ | ⟨c9, hm⟩
 ·refine a8 (b := (ltB i count)) (by simp -dsimp) c9 ?_
  refine ab (a6 (ac (ai (ac ?_))))
  refine srs hn (by kernel_rfl) ?_
  obtain ⟨y, h10, hm⟩ := bnd hm
  simp -dsimp [hf, c9]
  refine ae (c_R03_Valid (⟨x.X, x.Y⟩ : Point) y h10) (by rw [hn]; decide) ?_
  simp -dsimp
  rcases aj hm with ⟨c11, hm⟩ | ⟨c11, hm⟩
  ·refine a8 (b := (aM y)) (by simp -dsimp) c11 ?_
   refine srs hn (by kernel_rfl) ?_
   simp -dsimp [c11]
   refine aa (ag (aN (ag ?_)))
   cases hm
   refine ar nofun ?_
   unfold cX
   dsimp only
   refine ⟨rfl, ?_⟩
   refine EE.here ?_
   simp -dsimp [Tryz.results13]
  ·refine a7 (b := (aM y)) (by simp -dsimp) c11 ?_
   refine ab (a6 ?_)
   refine srs hn (by kernel_rfl) ?_
   simp -dsimp [hf, c11]
   refine srs hn (by kernel_rfl) ?_
   simp -dsimp [hf]
   refine srs hn (by kernel_rfl) ?_
   simp -dsimp [hf]
   refine ac ?_
   refine srs hn (by kernel_rfl) ?_
   obtain ⟨y1, h12, hm⟩ := bnd hm
   simp -dsimp
   refine ae (c_R03_Valid (⟨(aA .i64 x.X (bP .i64 (bP .i64 i gap) m.DX)), (aA .i64 x.Y (bP .i64 (bP .i64 i gap) m.DY))⟩ : Point) y1 h12) (by rw [hn]; decide) ?_
   simp -dsimp
   rcases aj hm with ⟨c13, hm⟩ | ⟨c13, hm⟩
   ·refine a8 (b := (aM y1)) (by simp -dsimp) c13 ?_
    refine srs hn (by kernel_rfl) ?_
    simp -dsimp [c13]
    refine aa (ag (aN (ag ?_)))
    cases hm
    refine ar nofun ?_
    unfold cX
    dsimp only
    refine ⟨rfl, ?_⟩
    refine EE.here ?_
    simp -dsimp [Tryz.results13]
   ·refine a7 (b := (aM y1)) (by simp -dsimp) c13 ?_
    refine ab (a6 ?_)
    refine sr1 hn (by kernel_rfl) ?_
    obtain ⟨l, h14, hm⟩ := bnd hm
    obtain ⟨h14a, h14e⟩ := aL h14
    replace h14e := h14e.symm
    subst h14e
    try simp only [List.length_cons, List.length_nil, Nat.zero_add] at h14a
    simp -dsimp [hf, c13, h14a]
    refine aJ ?_
    refine a6 ?_
    refine sr1 hn (by kernel_rfl) ?_
    simp -dsimp [hf]
    cases hm
    refine aB ?_
    refine EE.step (Wk.move 89 5000 (by decide) (.inl (by decide))) ?_
    refine EE.here ?_
    simp -dsimp [hf]
 ·refine a7 (b := (ltB i count)) (by simp -dsimp) c9 ?_
  refine av ?_
  refine ag ?_
  cases hm
  refine ar nofun ?_
  unfold cX
  dsimp only
  refine ⟨rfl, ?_⟩
  refine EE.here ?_
  simp -dsimp [hf, c9]
theorem f_R50_Stream (x : Shot) (m : Motion) (count : Int) (gap : Int) (r : (List Shot) × Int) (hm : dd x m count gap = some r) : PFn Tryz.prog 13 [.u (.agg [.d (.int .i64 x.Ship), .d (.int .i64 x.Phase), .d (.int .i64 x.Sym), .d (.int .i64 x.X), .d (.int .i64 x.Y)]), .u (.agg [.d (.int .i64 m.Period), .d (.int .i64 m.DX), .d (.int .i64 m.DY)]), .u (.one (.d (.int .i64 count))), .u (.one (.d (.int .i64 gap)))] (fun v => v.wk (.tup [.one (.d (.sl 5 (List.map Shot.row r.1))), .one (.d (.int .i64 r.2))])) := by
 refine aX Tryz.func13 Tryz.ntmps13 rfl (by kernel_rfl) (by simp) fun cx hn => ?_
 unfold dd at hm
 refine srs hn (by kernel_rfl) ?_
 simp -dsimp []
 refine ac ?_
 obtain ⟨a, j17, hm⟩ := bnd hm
 refine aw [(2, .u (.one (.d (.int .i64 count)))), (3, .u (.one (.d (.int .i64 gap)))), (4, .u (.one (.box 4 0))), (5, .u (.one (.box 5 0))), (45, .u (.one (.d (.bool a))))] [(4, .box [.d (.int .i64 x.Ship), .d (.int .i64 x.Phase), .d (.int .i64 x.Sym), .d (.int .i64 x.X), .d (.int .i64 x.Y)]), (5, .box [.d (.int .i64 m.Period), .d (.int .i64 m.DX), .d (.int .i64 m.DY)])] (by rfl) (by rfl) ?_ fun ρ σ hf => ?_
 ·replace hm := j17
  clear j17
  refine sr1 hn (by kernel_rfl) ?_
  rcases aj hm with ⟨c1, hm⟩ | ⟨c1, hm⟩
  ·simp -dsimp [c1]
   refine a6 ?_
   cases hm
   refine EE.here ?_
   simp -dsimp
  ·rcases aj hm with ⟨c2, hm⟩ | ⟨c2, hm⟩
   ·simp -dsimp [c1, c2]
    refine a6 ?_
    cases hm
    refine EE.here ?_
    simp -dsimp
   ·obtain ⟨y, h3, hm⟩ := bnd hm
    simp -dsimp [c1, c2]
    refine ae (c_R03_Valid (⟨m.DX, m.DY⟩ : Point) y h3) (by rw [hn]; decide) ?_
    rcases aj hm with ⟨c4, hm⟩ | ⟨c4, hm⟩
    ·simp -dsimp [c4]
     refine a6 ?_
     cases hm
     refine EE.here ?_
     simp -dsimp
    ·rcases aj hm with ⟨c5, hm⟩ | ⟨c5, hm⟩
     ·simp -dsimp [c4, c5]
      refine a6 ?_
      cases hm
      refine EE.here ?_
      simp -dsimp
     ·rcases aj hm with ⟨c6, hm⟩ | ⟨c6, hm⟩
      ·simp -dsimp [c4, c5, c6]
       refine a6 ?_
       cases hm
       refine EE.here ?_
       simp -dsimp
      ·rcases aj hm with ⟨c7, hm⟩ | ⟨c7, hm⟩
       ·simp -dsimp [c4, c5, c6, c7]
        refine a6 ?_
        cases hm
        refine EE.here ?_
        simp -dsimp
       ·simp -dsimp [c4, c5, c6, c7]
        refine a6 ?_
        cases hm
        refine EE.here ?_
        simp -dsimp
 ·clear j17
  simp only [Fits, am, ap, and_true] at hf
  rcases aj hm with ⟨c8, hm⟩ | ⟨c8, hm⟩
  ·refine a8 (b := a) (by simp -dsimp [hf]) c8 ?_
   refine srs hn (by kernel_rfl) ?_
   simp -dsimp
   refine aa (ag ?_)
   cases hm
   refine ⟨.inr rfl, ?_⟩
   refine EE.here ?_
   simp -dsimp
  ·refine a7 (b := a) (by simp -dsimp [hf]) c8 ?_
   refine ab (a6 ?_)
   refine srs hn (by kernel_rfl) ?_
   simp -dsimp
   refine ac ?_
   refine srs hn (by kernel_rfl) ?_
   simp -dsimp
   refine ai ?_
   obtain ⟨o_, g15, hm⟩ := bnd hm
   refine aO [(2, .u (.one (.d (.int .i64 count)))), (3, .u (.one (.d (.int .i64 gap)))), (4, .u (.one (.box 4 0))), (5, .u (.one (.box 5 0))), (10, .u (.one (.own 5000))), (11, .u (.one (.d (.int .i64 0))))] [(4, .box [.d (.int .i64 x.Ship), .d (.int .i64 x.Phase), .d (.int .i64 x.Sym), .d (.int .i64 x.X), .d (.int .i64 x.Y)]), (5, .box [.d (.int .i64 m.Period), .d (.int .i64 m.DX), .d (.int .i64 m.DY)]), (5000, .row 5 42 (List.map Shot.row []))] (by rfl) (by rfl) (by
     refine EE.step (Wk.own0 10 5000 5 42 (by simp -dsimp) (by decide)) ?_
     refine EE.here ?_
     simp -dsimp [hf]
   ) fun ρ σ hf => ?_
   refine (l_R50_Stream_1 cx hn x m count gap g15 hf).mono fun ee ρ σ x16 => ?_
   rcases o_ with r | out
   ·unfold cX at x16
    dsimp only at x16
    obtain ⟨rfl, x16⟩ := x16
    refine aN (ag ?_)
    cases hm
    exact ⟨.inr rfl, x16⟩
   ·unfold cX at x16
    dsimp only at x16
    obtain ⟨rfl, x16⟩ := x16
    refine au ?_
    refine a6 ?_
    refine b5 (by rfl) (by rfl) x16 fun ρ σ hf => ?_
    simp only [Fits, am, ap, and_true] at hf
    refine srs hn (by kernel_rfl) ?_
    simp -dsimp [hf]
    refine aa ?_
    cases hm
    refine ⟨.inr rfl, ?_⟩
    refine EE.here ?_
    simp -dsimp [hf]
theorem c_R50_Stream (x : Shot) (m : Motion) (count : Int) (gap : Int) (r : (List Shot) × Int) (hm : dd x m count gap = some r) : PureCall Tryz.prog 13 [.u (.agg [.d (.int .i64 x.Ship), .d (.int .i64 x.Phase), .d (.int .i64 x.Sym), .d (.int .i64 x.X), .d (.int .i64 x.Y)]), .u (.agg [.d (.int .i64 m.Period), .d (.int .i64 m.DX), .d (.int .i64 m.DY)]), .u (.one (.d (.int .i64 count))), .u (.one (.d (.int .i64 gap)))] (.tup [.one (.d (.sl 5 (List.map Shot.row r.1))), .one (.d (.int .i64 r.2))]) := (f_R50_Stream x m count gap r hm).pureW
theorem f_symmetry_Apply (k : Int) (p : Point) (r : Point) (hm : bn k p = some r) : PFn Tryz.prog 34 [.u (.one (.d (.int .i64 k))), .u (.agg [.d (.int .i64 p.X), .d (.int .i64 p.Y)])] (fun v => v.wk (.u (.agg [.d (.int .i64 r.X), .d (.int .i64 r.Y)]))) := by
 refine aX Tryz.func34 Tryz.ntmps34 rfl (by kernel_rfl) (by simp) fun cx hn => ?_
 unfold bn at hm
 refine srs hn (by kernel_rfl) ?_
 simp -dsimp []
 refine srs hn (by kernel_rfl) ?_
 obtain ⟨x, h1, hm⟩ := bnd hm
 simp -dsimp [aidx_ok h1, g0_get h1]
 refine srs hn (by kernel_rfl) ?_
 simp -dsimp [(@id (aok 4 0 = true) rfl), (@id (aok 4 1 = true) rfl), (@id (aok 4 2 = true) rfl), (@id (aok 4 3 = true) rfl)]
 refine aa ?_
 cases hm
 refine ⟨.inr rfl, ?_⟩
 refine EE.here ?_
 simp -dsimp
theorem fJ (k : Int) (p : Point) (r : Point) (hm : bn k p = some r) : PureCall Tryz.prog 34 [.u (.one (.d (.int .i64 k))), .u (.agg [.d (.int .i64 p.X), .d (.int .i64 p.Y)])] (.u (.agg [.d (.int .i64 r.X), .d (.int .i64 r.Y)])) := (f_symmetry_Apply k p r hm).pureW
theorem f_ship_Turned (k : Int) (m : Motion) (r : Motion) (hm : cP k m = some r) : PFn Tryz.prog 14 [.u (.one (.d (.int .i64 k))), .u (.agg [.d (.int .i64 m.Period), .d (.int .i64 m.DX), .d (.int .i64 m.DY)])] (fun v => v.wk (.u (.agg [.d (.int .i64 r.Period), .d (.int .i64 r.DX), .d (.int .i64 r.DY)]))) := by
 refine aX Tryz.func14 Tryz.ntmps14 rfl (by kernel_rfl) (by simp) fun cx hn => ?_
 unfold cP at hm
 refine srs hn (by kernel_rfl) ?_
 simp -dsimp []
 refine srs hn (by kernel_rfl) ?_
 obtain ⟨y, h1, hm⟩ := bnd hm
 simp -dsimp []
 refine ae (fJ k (⟨m.DX, m.DY⟩ : Point) y h1) (by rw [hn]; decide) ?_
 simp -dsimp
 refine srs hn (by kernel_rfl) ?_
 simp -dsimp
 refine aa ?_
 cases hm
 refine ⟨.inr rfl, ?_⟩
 refine EE.here ?_
 simp -dsimp
theorem i8 (k : Int) (m : Motion) (r : Motion) (hm : cP k m = some r) : PureCall Tryz.prog 14 [.u (.one (.d (.int .i64 k))), .u (.agg [.d (.int .i64 m.Period), .d (.int .i64 m.DX), .d (.int .i64 m.DY)])] (.u (.agg [.d (.int .i64 r.Period), .d (.int .i64 r.DX), .d (.int .i64 r.DY)])) := (f_ship_Turned k m r hm).pureW
theorem f_R04_Mod (k : Int) (r : Int) (hm : gL k = some r) : PFn Tryz.prog 62 [.u (.one (.d (.int .i64 k)))] (fun v => v.wk (.u (.one (.d (.int .i64 r))))) := by
 refine aX Tryz.func62 Tryz.ntmps62 rfl (by kernel_rfl) (by simp) fun cx hn => ?_
 unfold gL at hm
 refine srs hn (by kernel_rfl) ?_
 simp -dsimp []
 refine srs hn (by kernel_rfl) ?_
 obtain ⟨n, h1, hm⟩ := bnd hm
 obtain ⟨n1, h2, hm⟩ := bnd hm
 simp -dsimp [h1, h2]
 refine aa ?_
 cases hm
 refine ⟨.inr rfl, ?_⟩
 refine EE.here ?_
 simp -dsimp
theorem c_R04_Mod (k : Int) (r : Int) (hm : gL k = some r) : PureCall Tryz.prog 62 [.u (.one (.d (.int .i64 k)))] (.u (.one (.d (.int .i64 r)))) := (f_R04_Mod k r hm).pureW
def fR (cx : Cx) (_k1 : Int) (tt : (Int × Int)) (ee : Exit) (ρ : Env) (σ : Sto) : Prop := match tt with
 | (pX1, pY) => ee = .exit 0 ∧ EE cx (aU [(3, .u (.one (.box 3 0))), (4, .u (.one (.box 4 0)))] [(3, .box [.d (.int .i64 pX1), .d (.int .i64 pY)]), (4, .box [.d (.int .i64 0), .d (.int .i64 0)])]) ρ σ
theorem l_R04_Apply_1 (cx : Cx) (hn : cx.n = 30) (k1 : Int) {fu : Nat} {stt : Int × Int × Int} {tt : (Int × Int)} (hh : al (ib k1) fu stt = some tt) {ρ : Env} {σ : Sto}
  (hE : b4 (fun stt : Int × Int × Int => match stt with | (i, _pX1, _pY) => [(0, .u (.one (.d (.int .i64 k1)))), (3, .u (.one (.box 3 0))), (4, .u (.one (.box 4 0))), (5, .u (.one (.d (.int .i64 i))))]) (fun stt : Int × Int × Int => match stt with | (_i, pX1, pY) => [(3, .box [.d (.int .i64 pX1), .d (.int .i64 pY)]), (4, .box [.d (.int .i64 0), .d (.int .i64 0)])]) stt ρ σ) : Swp Tryz.prog cx (.loop (bQ [1, 1, 1, 0, 1, 0, 0] (aP Tryz.f35))) ρ σ (fR cx k1 tt) := by
 refine b8 hE hh (fR cx k1) (fun _ => by rfl) (fun _ => by rfl) ?_
 rintro ⟨i, pX1, pY⟩ r hm ρ σ hf
 simp only [Fits, am, ap, and_true] at hf
 unfold ib at hm
 dsimp only at hm
 refine ac ?_
 refine srs hn (by kernel_rfl) ?_
 simp -dsimp [hf]
 rcases aj hm with ⟨c3, hm⟩ | ⟨c3, hm⟩
 ·refine a8 (b := (ltB i k1)) (by simp -dsimp) c3 ?_
  refine ab (a6 (ac (ai ?_)))
  refine sr1 hn (by kernel_rfl) ?_
  simp -dsimp [hf, c3]
  refine aJ ?_
  refine a6 ?_
  refine sr1 hn (by kernel_rfl) ?_
  simp -dsimp [hf]
  cases hm
  refine aB ?_
  refine EE.here ?_
  simp -dsimp [hf]
 ·refine a7 (b := (ltB i k1)) (by simp -dsimp) c3 ?_
  refine av ?_
  refine ag ?_
  cases hm
  refine ar nofun ?_
  unfold fR
  dsimp only
  refine ⟨rfl, ?_⟩
  refine EE.here ?_
  simp -dsimp [hf, c3]
theorem f_R04_Apply (k : Int) (p : Point) (r : Point) (hm : eM k p = some r) : PFn Tryz.prog 35 [.u (.one (.d (.int .i64 k))), .u (.agg [.d (.int .i64 p.X), .d (.int .i64 p.Y)])] (fun v => v.wk (.u (.agg [.d (.int .i64 r.X), .d (.int .i64 r.Y)]))) := by
 refine aX Tryz.func35 Tryz.ntmps35 rfl (by kernel_rfl) (by simp) fun cx hn => ?_
 unfold eM at hm
 refine srs hn (by kernel_rfl) ?_
 simp -dsimp []
 refine srs hn (by kernel_rfl) ?_
 obtain ⟨y, h1, hm⟩ := bnd hm
 simp -dsimp []
 refine ae (c_R04_Mod k y h1) (by rw [hn]; decide) ?_
 simp -dsimp
 obtain ⟨⟨k1, pX⟩, j6, hm⟩ := bnd hm
 refine aw [(0, .u (.one (.d (.int .i64 k1)))), (3, .u (.one (.box 3 0))), (4, .u (.one (.box 4 0)))] [(3, .box [.d (.int .i64 pX), .d (.int .i64 p.Y)]), (4, .box [.d (.int .i64 0), .d (.int .i64 0)])] (by rfl) (by rfl) ?_ fun ρ σ hf => ?_
 ·replace hm := j6
  clear j6
  refine srs hn (by kernel_rfl) ?_
  simp -dsimp
  rcases aj hm with ⟨c2, hm⟩ | ⟨c2, hm⟩
  ·refine a8 (b := (geB y 4)) (by simp -dsimp) c2 ?_
   refine srs hn (by kernel_rfl) ?_
   simp -dsimp [c2]
   refine sr1 hn (by kernel_rfl) ?_
   simp -dsimp
   refine a6 ?_
   cases hm
   refine EE.here ?_
   simp -dsimp
  ·refine a7 (b := (geB y 4)) (by simp -dsimp) c2 ?_
   refine ab (a6 ?_)
   cases hm
   refine EE.here ?_
   simp -dsimp [c2]
 ·clear j6
  simp only [Fits, am, ap, and_true] at hf
  refine ac ?_
  refine srs hn (by kernel_rfl) ?_
  simp -dsimp
  refine ai ?_
  obtain ⟨⟨pX1, pY⟩, g4, hm⟩ := bnd hm
  refine aO [(0, .u (.one (.d (.int .i64 k1)))), (3, .u (.one (.box 3 0))), (4, .u (.one (.box 4 0))), (5, .u (.one (.d (.int .i64 0))))] [(3, .box [.d (.int .i64 pX), .d (.int .i64 p.Y)]), (4, .box [.d (.int .i64 0), .d (.int .i64 0)])] (by rfl) (by rfl) (by
    refine EE.here ?_
    simp -dsimp [hf]
  ) fun ρ σ hf => ?_
  refine (l_R04_Apply_1 cx hn k1 g4 hf).mono fun ee ρ σ x5 => ?_
  unfold fR at x5
  dsimp only at x5
  obtain ⟨rfl, x5⟩ := x5
  refine au ?_
  refine a6 ?_
  refine b5 (by rfl) (by rfl) x5 fun ρ σ hf => ?_
  simp only [Fits, am, ap, and_true] at hf
  refine srs hn (by kernel_rfl) ?_
  simp -dsimp [hf]
  refine aa ?_
  cases hm
  refine ⟨.inr rfl, ?_⟩
  refine EE.here ?_
  simp -dsimp [hf]
theorem c_R04_Apply (k : Int) (p : Point) (r : Point) (hm : eM k p = some r) : PureCall Tryz.prog 35 [.u (.one (.d (.int .i64 k))), .u (.agg [.d (.int .i64 p.X), .d (.int .i64 p.Y)])] (.u (.agg [.d (.int .i64 r.X), .d (.int .i64 r.Y)])) := (f_R04_Apply k p r hm).pureW
theorem f_R50_Turned (k : Int) (m : Motion) (r : Motion) (hm : ek k m = some r) : PFn Tryz.prog 15 [.u (.one (.d (.int .i64 k))), .u (.agg [.d (.int .i64 m.Period), .d (.int .i64 m.DX), .d (.int .i64 m.DY)])] (fun v => v.wk (.u (.agg [.d (.int .i64 r.Period), .d (.int .i64 r.DX), .d (.int .i64 r.DY)]))) := by
 refine aX Tryz.func15 Tryz.ntmps15 rfl (by kernel_rfl) (by simp) fun cx hn => ?_
 unfold ek at hm
 refine srs hn (by kernel_rfl) ?_
 simp -dsimp []
 refine srs hn (by kernel_rfl) ?_
 obtain ⟨y, h1, hm⟩ := bnd hm
 simp -dsimp []
 refine ae (c_R04_Apply k (⟨m.DX, m.DY⟩ : Point) y h1) (by rw [hn]; decide) ?_
 simp -dsimp
 refine srs hn (by kernel_rfl) ?_
 simp -dsimp
 refine aa ?_
 cases hm
 refine ⟨.inr rfl, ?_⟩
 refine EE.here ?_
 simp -dsimp
theorem c_R50_Turned (k : Int) (m : Motion) (r : Motion) (hm : ek k m = some r) : PureCall Tryz.prog 15 [.u (.one (.d (.int .i64 k))), .u (.agg [.d (.int .i64 m.Period), .d (.int .i64 m.DX), .d (.int .i64 m.DY)])] (.u (.agg [.d (.int .i64 r.Period), .d (.int .i64 r.DX), .d (.int .i64 r.DY)])) := (f_R50_Turned k m r hm).pureW
theorem eU (s : List UInt8) (prefix_ : List UInt8) (r : Bool) (hm : bj s prefix_ = some r) : PFn Tryz.prog 126 [.u (.one (.d (.str (bs s)))), .u (.one (.d (.str (bs prefix_))))] (fun v => v.wk (.u (.one (.d (.bool r))))) := by
 refine aX Tryz.func126 Tryz.ntmps126 rfl (by kernel_rfl) (by simp) fun cx hn => ?_
 unfold bj at hm
 refine srs hn (by kernel_rfl) ?_
 simp -dsimp []
 obtain ⟨a, j3, hm⟩ := bnd hm
 refine aw [(4, .u (.one (.d (.bool a))))] [] (by rfl) (by rfl) ?_ fun ρ σ hf => ?_
 ·replace hm := j3
  clear j3
  refine sr1 hn (by kernel_rfl) ?_
  rcases aj hm with ⟨c1, hm⟩ | ⟨c1, hm⟩
  ·obtain ⟨s1, h2, hm⟩ := bnd hm
   simp -dsimp [c1, h2]
   refine a6 ?_
   cases hm
   refine EE.here ?_
   simp -dsimp
  ·simp -dsimp [c1]
   refine a6 ?_
   cases hm
   refine EE.here ?_
   simp -dsimp
 ·clear j3
  simp only [Fits, am, ap, and_true] at hf
  refine aa ?_
  cases hm
  refine ⟨.inr rfl, ?_⟩
  refine EE.here ?_
  simp -dsimp [hf]
theorem f8 (s : List UInt8) (prefix_ : List UInt8) (r : Bool) (hm : bj s prefix_ = some r) : PureCall Tryz.prog 126 [.u (.one (.d (.str (bs s)))), .u (.one (.d (.str (bs prefix_))))] (.u (.one (.d (.bool r)))) := (eU s prefix_ r hm).pureW
theorem f3 (s : List UInt8) (prefix_ : List UInt8) (r : (List UInt8) × Bool) (hm : bg s prefix_ = some r) : PFn Tryz.prog 128 [.u (.one (.d (.str (bs s)))), .u (.one (.d (.str (bs prefix_))))] (fun v => v.wk (.tup [.one (.d (.str (bs r.1))), .one (.d (.bool r.2))])) := by
 refine aX Tryz.func128 Tryz.ntmps128 rfl (by kernel_rfl) (by simp) fun cx hn => ?_
 unfold bg at hm
 refine srs hn (by kernel_rfl) ?_
 simp -dsimp []
 refine ac ?_
 refine srs hn (by kernel_rfl) ?_
 obtain ⟨y, h1, hm⟩ := bnd hm
 simp -dsimp []
 refine ae (f8 s prefix_ y h1) (by rw [hn]; decide) ?_
 simp -dsimp
 rcases aj hm with ⟨c2, hm⟩ | ⟨c2, hm⟩
 ·refine a8 (b := (aM y)) (by simp -dsimp) c2 ?_
  refine srs hn (by kernel_rfl) ?_
  simp -dsimp [c2]
  refine aa (ag ?_)
  cases hm
  refine ⟨.inr rfl, ?_⟩
  refine EE.here ?_
  simp -dsimp
 ·refine a7 (b := (aM y)) (by simp -dsimp) c2 ?_
  refine ab (a6 ?_)
  refine srs hn (by kernel_rfl) ?_
  obtain ⟨s1, h3, hm⟩ := bnd hm
  simp -dsimp [c2, h3]
  refine aa ?_
  cases hm
  refine ⟨.inr rfl, ?_⟩
  refine EE.here ?_
  simp -dsimp
theorem fq (s : List UInt8) (prefix_ : List UInt8) (r : (List UInt8) × Bool) (hm : bg s prefix_ = some r) : PureCall Tryz.prog 128 [.u (.one (.d (.str (bs s)))), .u (.one (.d (.str (bs prefix_))))] (.tup [.one (.d (.str (bs r.1))), .one (.d (.bool r.2))]) := (f3 s prefix_ r hm).pureW
theorem f_strings_CutPrefix (s : List UInt8) (prefix_ : List UInt8) (r : (List UInt8) × Bool) (hm : dm s prefix_ = some r) : PFn Tryz.prog 65 [.u (.one (.d (.str (bs s)))), .u (.one (.d (.str (bs prefix_))))] (fun v => v.wk (.tup [.one (.d (.str (bs r.1))), .one (.d (.bool r.2))])) := by
 refine aX Tryz.func65 Tryz.ntmps65 rfl (by kernel_rfl) (by simp) fun cx hn => ?_
 unfold dm at hm
 refine srs hn (by kernel_rfl) ?_
 simp -dsimp []
 refine srs hn (by kernel_rfl) ?_
 obtain ⟨y, h1, hm⟩ := bnd hm
 simp -dsimp []
 refine ae (fq s prefix_ y h1) (by rw [hn]; decide) ?_
 simp -dsimp
 refine aa ?_
 cases hm
 refine ⟨.inr rfl, ?_⟩
 refine EE.here ?_
 simp -dsimp
theorem c_strings_CutPrefix (s : List UInt8) (prefix_ : List UInt8) (r : (List UInt8) × Bool) (hm : dm s prefix_ = some r) : PureCall Tryz.prog 65 [.u (.one (.d (.str (bs s)))), .u (.one (.d (.str (bs prefix_))))] (.tup [.one (.d (.str (bs r.1))), .one (.d (.bool r.2))]) := (f_strings_CutPrefix s prefix_ r hm).pureW
theorem c_strings_Cut (s sep : List UInt8) (r : (List UInt8) × (List UInt8) × Bool) (hm : m_strings_Cut s sep = some r) : PureCall Tryz.prog 66 [.u (.one (.d (.str (bs s)))), .u (.one (.d (.str (bs sep))))] (.tup [.one (.d (.str (bs r.1))), .one (.d (.str (bs r.2.1))), .one (.d (.bool r.2.2))]) := cut_pure cutL (by kernel_rfl) rfl ⟨_, Tryz.func66, by decide, rfl⟩ hm
theorem f_hood_Moore_1 (x : Int) (y : Int) (r : Bool) (hm : fe x y = some r) : PFn Tryz.prog 131 [.u (.one (.d (.int .i64 x))), .u (.one (.d (.int .i64 y)))] (fun v => v.wk (.u (.one (.d (.bool r))))) := by
 refine aX Tryz.func131 Tryz.ntmps131 rfl (by kernel_rfl) (by simp) fun cx hn => ?_
 unfold fe at hm
 refine srs hn (by kernel_rfl) ?_
 simp -dsimp []
 refine srs hn (by kernel_rfl) ?_
 simp -dsimp []
 refine aa ?_
 cases hm
 refine ⟨.inr rfl, ?_⟩
 refine EE.here ?_
 simp -dsimp
theorem c_hood_Moore_1 (x : Int) (y : Int) (r : Bool) (hm : fe x y = some r) : PureCall Tryz.prog 131 [.u (.one (.d (.int .i64 x))), .u (.one (.d (.int .i64 y)))] (.u (.one (.d (.bool r)))) := (f_hood_Moore_1 x y r hm).pureW
def bw (cx : Cx) (r_ : Int) (y : Int) (tt : (List Point)) (ee : Exit) (ρ : Env) (σ : Sto) : Prop := match tt with
 | l1 => ee = .exit 2 ∧ EE cx (aU [(0, .u (.one (.d (.int .i64 r_)))), (1, .u (.one (.fn 131 []))), (5, .u (.one (.own 5000))), (6, .u (.one (.d (.int .i64 y))))] [(5000, .row 2 71 (List.map Point.row l1))]) ρ σ
theorem fY (cx : Cx) (hn : cx.n = 33) (r_ : Int) (y : Int) {fu : Nat} {stt : Int × (List Point)} {tt : (List Point)} (hh : al (ch r_ y) fu stt = some tt) {ρ : Env} {σ : Sto}
  (hE : b4 (fun stt : Int × (List Point) => match stt with | (x, _l1) => [(0, .u (.one (.d (.int .i64 r_)))), (1, .u (.one (.fn 131 []))), (5, .u (.one (.own 5000))), (6, .u (.one (.d (.int .i64 y)))), (7, .u (.one (.d (.int .i64 x))))]) (fun stt : Int × (List Point) => match stt with | (_x, l1) => [(5000, .row 2 71 (List.map Point.row l1))]) stt ρ σ) : Swp Tryz.prog cx (.loop (bQ [1, 1, 0, 1, 0, 0, 1, 0, 0, 1, 0, 0] (aP Tryz.f130))) ρ σ (bw cx r_ y tt) := by
 refine b8 hE hh (bw cx r_ y) (fun _ => by rfl) (fun _ => by rfl) ?_
 rintro ⟨x, l1⟩ r hm ρ σ hf
 simp only [Fits, am, ap, and_true] at hf
 unfold ch at hm
 dsimp only at hm
 refine ac ?_
 refine srs hn (by kernel_rfl) ?_
 simp -dsimp [hf]
 rcases aj hm with ⟨c2, hm⟩ | ⟨c2, hm⟩
 ·refine a8 (b := (leB x r_)) (by simp -dsimp) c2 ?_
  refine ab (a6 ?_)
  obtain ⟨l2, j6, hm⟩ := bnd hm
  refine aw [(0, .u (.one (.d (.int .i64 r_)))), (1, .u (.one (.fn 131 []))), (5, .u (.one (.own 5000))), (6, .u (.one (.d (.int .i64 y)))), (7, .u (.one (.d (.int .i64 x))))] [(5000, .row 2 71 (List.map Point.row l2))] (by rfl) (by rfl) ?_ fun ρ σ hf => ?_
  ·replace hm := j6
   clear j6
   refine ai ?_
   refine srs hn (by kernel_rfl) ?_
   obtain ⟨y1, h3, hm⟩ := bnd hm
   simp -dsimp [hf, c2]
   refine ae (c_hood_Moore_1 x y y1 h3) (by rw [hn]; decide) ?_
   simp -dsimp
   rcases aj hm with ⟨c4, hm⟩ | ⟨c4, hm⟩
   ·refine a8 (b := y1) (by simp -dsimp) c4 ?_
    refine sr1 hn (by kernel_rfl) ?_
    obtain ⟨l2, h5, hm⟩ := bnd hm
    obtain ⟨h5a, h5e⟩ := aL h5
    replace h5e := h5e.symm
    subst h5e
    try simp only [List.length_cons, List.length_nil, Nat.zero_add] at h5a
    simp -dsimp [hf, c4, h5a]
    refine aJ ?_
    refine a6 ?_
    cases hm
    refine EE.step (Wk.move 31 5000 (by decide) (.inl (by decide))) ?_
    refine EE.here ?_
    simp -dsimp [hf]
   ·refine a7 (b := y1) (by simp -dsimp) c4 ?_
    refine ab ?_
    refine aJ ?_
    refine a6 ?_
    cases hm
    refine EE.here ?_
    simp -dsimp [hf, c4]
  ·clear j6
   simp only [Fits, am, ap, and_true] at hf
   refine sr1 hn (by kernel_rfl) ?_
   simp -dsimp [hf]
   cases hm
   refine aB ?_
   refine EE.here ?_
   simp -dsimp [hf]
 ·refine a7 (b := (leB x r_)) (by simp -dsimp) c2 ?_
  refine av ?_
  refine ag ?_
  cases hm
  refine ar nofun ?_
  unfold bw
  dsimp only
  refine ⟨rfl, ?_⟩
  refine EE.here ?_
  simp -dsimp [hf, c2]
def bz (cx : Cx) (_r_ : Int) (tt : (List Point)) (ee : Exit) (ρ : Env) (σ : Sto) : Prop := match tt with
 | l => ee = .exit 0 ∧ EE cx (aU [(5, .u (.one (.own 5000)))] [(5000, .row 2 71 (List.map Point.row l))]) ρ σ
theorem gb (cx : Cx) (hn : cx.n = 33) (r_ : Int) {fu : Nat} {stt : Int × (List Point)} {tt : (List Point)} (hh : al (cm r_) fu stt = some tt) {ρ : Env} {σ : Sto}
  (hE : b4 (fun stt : Int × (List Point) => match stt with | (y, _l) => [(0, .u (.one (.d (.int .i64 r_)))), (1, .u (.one (.fn 131 []))), (5, .u (.one (.own 5000))), (6, .u (.one (.d (.int .i64 y))))]) (fun stt : Int × (List Point) => match stt with | (_y, l) => [(5000, .row 2 71 (List.map Point.row l))]) stt ρ σ) : Swp Tryz.prog cx (.loop (bQ [1, 1, 0, 1, 0, 0] (aP Tryz.f130))) ρ σ (bz cx r_ tt) := by
 refine b8 hE hh (bz cx r_) (fun _ => by rfl) (fun _ => by rfl) ?_
 rintro ⟨y, l⟩ r hm ρ σ hf
 simp only [Fits, am, ap, and_true] at hf
 unfold cm at hm
 dsimp only at hm
 refine ac ?_
 refine srs hn (by kernel_rfl) ?_
 simp -dsimp [hf]
 rcases aj hm with ⟨c1, hm⟩ | ⟨c1, hm⟩
 ·refine a8 (b := (leB y r_)) (by simp -dsimp) c1 ?_
  refine ab (a6 (ac (ai ?_)))
  refine srs hn (by kernel_rfl) ?_
  simp -dsimp [hf, c1]
  refine ai ?_
  obtain ⟨l1, g7, hm⟩ := bnd hm
  refine aO [(0, .u (.one (.d (.int .i64 r_)))), (1, .u (.one (.fn 131 []))), (5, .u (.one (.own 5000))), (6, .u (.one (.d (.int .i64 y)))), (7, .u (.one (.d (.int .i64 (dl .i64 r_)))))] [(5000, .row 2 71 (List.map Point.row l))] (by rfl) (by rfl) (by
    refine EE.here ?_
    simp -dsimp [hf]
  ) fun ρ σ hf => ?_
  refine (fY cx hn r_ y g7 hf).mono fun ee ρ σ x8 => ?_
  unfold bw at x8
  dsimp only at x8
  obtain ⟨rfl, x8⟩ := x8
  refine au ?_
  refine aJ ?_
  refine a6 ?_
  refine b5 (by rfl) (by rfl) x8 fun ρ σ hf => ?_
  simp only [Fits, am, ap, and_true] at hf
  refine sr1 hn (by kernel_rfl) ?_
  simp -dsimp [hf]
  cases hm
  refine aB ?_
  refine EE.here ?_
  simp -dsimp [hf]
 ·refine a7 (b := (leB y r_)) (by simp -dsimp) c1 ?_
  refine av ?_
  refine ag ?_
  cases hm
  refine ar nofun ?_
  unfold bz
  dsimp only
  refine ⟨rfl, ?_⟩
  refine EE.here ?_
  simp -dsimp [hf, c1]
theorem gt (r_ : Int) (r : List Point) (hm : bH r_ = some r) : PFn Tryz.prog 130 [.u (.one (.d (.int .i64 r_))), .u (.one (.fn 131 []))] (fun v => v.wk (.u (.one (.d (.sl 2 (List.map Point.row r)))))) := by
 refine aX Tryz.func130 Tryz.ntmps130 rfl (by kernel_rfl) (by simp) fun cx hn => ?_
 unfold bH at hm
 refine srs hn (by kernel_rfl) ?_
 simp -dsimp []
 refine srs hn (by kernel_rfl) ?_
 simp -dsimp []
 refine ac ?_
 refine srs hn (by kernel_rfl) ?_
 simp -dsimp []
 refine ai ?_
 obtain ⟨l, g9, hm⟩ := bnd hm
 refine aO [(0, .u (.one (.d (.int .i64 r_)))), (1, .u (.one (.fn 131 []))), (5, .u (.one (.own 5000))), (6, .u (.one (.d (.int .i64 (dl .i64 r_)))))] [(5000, .row 2 71 (List.map Point.row []))] (by rfl) (by rfl) (by
   refine EE.step (Wk.own0 5 5000 2 71 (by simp -dsimp []) (by decide)) ?_
   refine EE.here ?_
   simp -dsimp []
 ) fun ρ σ hf => ?_
 refine (gb cx hn r_ g9 hf).mono fun ee ρ σ x10 => ?_
 unfold bz at x10
 dsimp only at x10
 obtain ⟨rfl, x10⟩ := x10
 refine au ?_
 refine a6 ?_
 refine b5 (by rfl) (by rfl) x10 fun ρ σ hf => ?_
 simp only [Fits, am, ap, and_true] at hf
 refine srs hn (by kernel_rfl) ?_
 simp -dsimp [hf]
 refine aa ?_
 cases hm
 refine ⟨.inr rfl, ?_⟩
 refine EE.here ?_
 simp -dsimp [hf]
theorem gA (r_ : Int) (r : List Point) (hm : bH r_ = some r) : PureCall Tryz.prog 130 [.u (.one (.d (.int .i64 r_))), .u (.one (.fn 131 []))] (.u (.one (.d (.sl 2 (List.map Point.row r))))) := (gt r_ r hm).pureW
theorem f_hood_Moore (r_ : Int) (r : List Point) (hm : fh r_ = some r) : PFn Tryz.prog 67 [.u (.one (.d (.int .i64 r_)))] (fun v => v.wk (.u (.one (.d (.sl 2 (List.map Point.row r)))))) := by
 refine aX Tryz.func67 Tryz.ntmps67 rfl (by kernel_rfl) (by simp) fun cx hn => ?_
 unfold fh at hm
 refine srs hn (by kernel_rfl) ?_
 simp -dsimp []
 refine ac ?_
 obtain ⟨a, j4, hm⟩ := bnd hm
 refine aw [(0, .u (.one (.d (.int .i64 r_)))), (8, .u (.one (.d (.bool a))))] [] (by rfl) (by rfl) ?_ fun ρ σ hf => ?_
 ·replace hm := j4
  clear j4
  refine sr1 hn (by kernel_rfl) ?_
  rcases aj hm with ⟨c1, hm⟩ | ⟨c1, hm⟩
  ·simp -dsimp [c1]
   refine a6 ?_
   cases hm
   refine EE.here ?_
   simp -dsimp
  ·simp -dsimp [c1]
   refine a6 ?_
   cases hm
   refine EE.here ?_
   simp -dsimp
 ·clear j4
  simp only [Fits, am, ap, and_true] at hf
  rcases aj hm with ⟨c2, hm⟩ | ⟨c2, hm⟩
  ·refine a8 (b := a) (by simp -dsimp [hf]) c2 ?_
   refine srs hn (by kernel_rfl) ?_
   simp -dsimp
   refine aa (ag ?_)
   cases hm
   refine ⟨.inr rfl, ?_⟩
   refine EE.here ?_
   simp -dsimp
  ·refine a7 (b := a) (by simp -dsimp [hf]) c2 ?_
   refine ab (a6 ?_)
   refine srs hn (by kernel_rfl) ?_
   obtain ⟨y, h3, hm⟩ := bnd hm
   simp -dsimp [hf]
   refine ae (gA r_ y h3) (by rw [hn]; decide) ?_
   simp -dsimp
   refine aa ?_
   cases hm
   refine ⟨.inr rfl, ?_⟩
   refine EE.here ?_
   simp -dsimp
theorem c_hood_Moore (r_ : Int) (r : List Point) (hm : fh r_ = some r) : PureCall Tryz.prog 67 [.u (.one (.d (.int .i64 r_)))] (.u (.one (.d (.sl 2 (List.map Point.row r))))) := (f_hood_Moore r_ r hm).pureW
theorem ff (s : List UInt8) (suffix : List UInt8) (r : Bool) (hm : bf s suffix = some r) : PFn Tryz.prog 181 [.u (.one (.d (.str (bs s)))), .u (.one (.d (.str (bs suffix))))] (fun v => v.wk (.u (.one (.d (.bool r))))) := by
 refine aX Tryz.func181 Tryz.ntmps181 rfl (by kernel_rfl) (by simp) fun cx hn => ?_
 unfold bf at hm
 refine srs hn (by kernel_rfl) ?_
 simp -dsimp []
 obtain ⟨a, j3, hm⟩ := bnd hm
 refine aw [(4, .u (.one (.d (.bool a))))] [] (by rfl) (by rfl) ?_ fun ρ σ hf => ?_
 ·replace hm := j3
  clear j3
  refine sr1 hn (by kernel_rfl) ?_
  rcases aj hm with ⟨c1, hm⟩ | ⟨c1, hm⟩
  ·obtain ⟨s1, h2, hm⟩ := bnd hm
   simp -dsimp [c1, h2]
   refine a6 ?_
   cases hm
   refine EE.here ?_
   simp -dsimp
  ·simp -dsimp [c1]
   refine a6 ?_
   cases hm
   refine EE.here ?_
   simp -dsimp
 ·clear j3
  simp only [Fits, am, ap, and_true] at hf
  refine aa ?_
  cases hm
  refine ⟨.inr rfl, ?_⟩
  refine EE.here ?_
  simp -dsimp [hf]
theorem fk (s : List UInt8) (suffix : List UInt8) (r : Bool) (hm : bf s suffix = some r) : PureCall Tryz.prog 181 [.u (.one (.d (.str (bs s)))), .u (.one (.d (.str (bs suffix))))] (.u (.one (.d (.bool r)))) := (ff s suffix r hm).pureW
theorem eS (s : List UInt8) (suffix : List UInt8) (r : (List UInt8) × Bool) (hm : bh s suffix = some r) : PFn Tryz.prog 132 [.u (.one (.d (.str (bs s)))), .u (.one (.d (.str (bs suffix))))] (fun v => v.wk (.tup [.one (.d (.str (bs r.1))), .one (.d (.bool r.2))])) := by
 refine aX Tryz.func132 Tryz.ntmps132 rfl (by kernel_rfl) (by simp) fun cx hn => ?_
 unfold bh at hm
 refine srs hn (by kernel_rfl) ?_
 simp -dsimp []
 refine ac ?_
 refine srs hn (by kernel_rfl) ?_
 obtain ⟨y, h1, hm⟩ := bnd hm
 simp -dsimp []
 refine ae (fk s suffix y h1) (by rw [hn]; decide) ?_
 simp -dsimp
 rcases aj hm with ⟨c2, hm⟩ | ⟨c2, hm⟩
 ·refine a8 (b := (aM y)) (by simp -dsimp) c2 ?_
  refine srs hn (by kernel_rfl) ?_
  simp -dsimp [c2]
  refine aa (ag ?_)
  cases hm
  refine ⟨.inr rfl, ?_⟩
  refine EE.here ?_
  simp -dsimp
 ·refine a7 (b := (aM y)) (by simp -dsimp) c2 ?_
  refine ab (a6 ?_)
  refine srs hn (by kernel_rfl) ?_
  obtain ⟨s1, h3, hm⟩ := bnd hm
  simp -dsimp [c2, h3]
  refine aa ?_
  cases hm
  refine ⟨.inr rfl, ?_⟩
  refine EE.here ?_
  simp -dsimp
theorem f0 (s : List UInt8) (suffix : List UInt8) (r : (List UInt8) × Bool) (hm : bh s suffix = some r) : PureCall Tryz.prog 132 [.u (.one (.d (.str (bs s)))), .u (.one (.d (.str (bs suffix))))] (.tup [.one (.d (.str (bs r.1))), .one (.d (.bool r.2))]) := (eS s suffix r hm).pureW
theorem f_strings_CutSuffix (s : List UInt8) (suffix : List UInt8) (r : (List UInt8) × Bool) (hm : cA s suffix = some r) : PFn Tryz.prog 68 [.u (.one (.d (.str (bs s)))), .u (.one (.d (.str (bs suffix))))] (fun v => v.wk (.tup [.one (.d (.str (bs r.1))), .one (.d (.bool r.2))])) := by
 refine aX Tryz.func68 Tryz.ntmps68 rfl (by kernel_rfl) (by simp) fun cx hn => ?_
 unfold cA at hm
 refine srs hn (by kernel_rfl) ?_
 simp -dsimp []
 refine srs hn (by kernel_rfl) ?_
 obtain ⟨y, h1, hm⟩ := bnd hm
 simp -dsimp []
 refine ae (f0 s suffix y h1) (by rw [hn]; decide) ?_
 simp -dsimp
 refine aa ?_
 cases hm
 refine ⟨.inr rfl, ?_⟩
 refine EE.here ?_
 simp -dsimp
theorem gp (s : List UInt8) (suffix : List UInt8) (r : (List UInt8) × Bool) (hm : cA s suffix = some r) : PureCall Tryz.prog 68 [.u (.one (.d (.str (bs s)))), .u (.one (.d (.str (bs suffix))))] (.tup [.one (.d (.str (bs r.1))), .one (.d (.bool r.2))]) := (f_strings_CutSuffix s suffix r hm).pureW
theorem f_hood_Neumann_1 (x : Int) (y : Int) (a : Int) (r : Bool) (hm : ej x y a = some r) : PFn Tryz.prog 133 [.u (.one (.d (.int .i64 x))), .u (.one (.d (.int .i64 y))), .u (.one (.ref ((rI .i64) a) 0))] (fun v => v.wk (.u (.one (.d (.bool r))))) := by
 refine aX Tryz.func133 Tryz.ntmps133 rfl (by kernel_rfl) (by simp) fun cx hn => ?_
 unfold ej at hm
 refine srs hn (by kernel_rfl) ?_
 simp -dsimp []
 refine srs hn (by kernel_rfl) ?_
 simp -dsimp []
 refine aa ?_
 cases hm
 refine ⟨.inr rfl, ?_⟩
 refine EE.here ?_
 simp -dsimp
theorem c_hood_Neumann_1 (x : Int) (y : Int) (a : Int) (r : Bool) (hm : ej x y a = some r) : PureCall Tryz.prog 133 [.u (.one (.d (.int .i64 x))), .u (.one (.d (.int .i64 y))), .u (.one (.ref ((rI .i64) a) 0))] (.u (.one (.d (.bool r)))) := (f_hood_Neumann_1 x y a r hm).pureW
end Go.Proofs.YtfpjnmhdbgbmmaaGreatDoor
