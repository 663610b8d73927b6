/- That the code does what the functions say (made by cc.py). -/
import Derived.Test.YtfpjnmhdbgbmmaaGreatDoorMd1
import Derived.Test.YtfpjnmhdbgbmmaaGreatDoorTb
import Derived.Test.YtfpjnmhdbgbmmaaGreatDoorLays
namespace Go.Proofs.YtfpjnmhdbgbmmaaGreatDoor
open Go.AM Go.Proofs
attribute [-simp] qlookup du fQ Ob.wipe Ob.ren Ob.frz1
def gK (cx : Cx) (_t : Tree) (tt : Bool ⊕ Unit) (ee : Exit) (ρ : Env) (σ : Sto) : Prop := match tt with
 | .inl r => ee = .ret ∧ EE cx (fun ρ σ => ∃ v, resV tb ρ σ Tryz.f16.results.toList = some v ∧ (v.frz σ).free = true ∧ (v.frz σ).wk (.u (.one (.d (.bool r))))) ρ σ
 | .inr _u => ee = .exit 0 ∧ EE cx (aS [] []) ρ σ
theorem l_L12_Few_1 (cx : Cx) (hn : cx.n = 29) (t : Tree) {fu : Nat} {stt : Int} {tt : Bool ⊕ Unit} (hh : ak (iT t) fu stt = some tt) {ρ : Env} {σ : Sto}
  (hE : aW (fun a1 : Int => [(1, .u (.one (.box 1 0))), (16, .u (.one (.d (.int .i64 (ah t.Nodes))))), (17, .u (.one (.d (.int .i64 a1))))]) (fun _a1 : Int => [(1, .box [.d (.int .i64 t.States), .d (.sl 2 (List.map Point.row t.Hood)), .d (.sl 2 (List.map Node.row t.Nodes))])]) stt ρ σ) : Swp Tryz.prog cx (.loop (bg [1, 1, 0, 1, 0, 0] (aK Tryz.f16))) ρ σ (gK cx t tt) := by
 refine aY hE hh (gK cx t) ?_
 rintro a1 r hm ρ σ hf
 simp only [Fits, ar, ap, and_true] at hf
 unfold iT at hm
 dsimp only at hm
 refine srs hn ?_
 simp -dsimp [hf]
 refine ac ?_
 rcases aj hm with ⟨c3, hm⟩ | ⟨c3, hm⟩
 ·refine a8 (b := (ltB a1 (ah t.Nodes))) (by simp -dsimp) c3 ?_
  refine aa (a6 (ac (ai ?_)))
  refine srs hn ?_
  simp -dsimp [hf, c3]
  refine srs hn ?_
  obtain ⟨x, h4, hm⟩ := bnd hm
  simp -dsimp [hf, h4]
  rcases aj hm with ⟨c5, hm⟩ | ⟨c5, hm⟩
  ·refine a8 (b := (gtB (ah x.Next) 20)) (by simp -dsimp) c5 ?_
   refine srs hn ?_
   simp -dsimp [c5]
   refine ab (aH (ae ?_))
   cases hm
   refine am nofun ?_
   unfold gK
   dsimp only
   refine ⟨rfl, ?_⟩
   exact EE.here (by simp -dsimp [Tryz.results16])
  ·refine a7 (b := (gtB (ah x.Next) 20)) (by simp -dsimp) c5 ?_
   refine aa ?_
   refine aM ?_
   refine a6 ?_
   refine sr1 hn ?_
   simp -dsimp [hf, c5]
   cases hm
   refine az ?_
   exact EE.here (by simp -dsimp [hf])
 ·refine a7 (b := (ltB a1 (ah t.Nodes))) (by simp -dsimp) c3 ?_
  refine aw ?_
  refine ae ?_
  cases hm
  refine am nofun ?_
  unfold gK
  dsimp only
  refine ⟨rfl, ?_⟩
  exact EE.here (by simp -dsimp [c3])
theorem f_L12_Few (t : Tree) (r : Bool) (hm : kc t = some r) : PFn Tryz.prog 16 [.u (.agg [.d (.int .i64 t.States), .d (.sl 2 (List.map Point.row t.Hood)), .d (.sl 2 (List.map Node.row t.Nodes))])] (fun v => v.wk (.u (.one (.d (.bool r))))) := by
 refine aV Tryz.func16 Tryz.ntmps16 rfl (by kernel_rfl) (by simp) fun cx hn => ?_
 unfold kc at hm
 refine srs hn ?_
 simp -dsimp
 refine ac ?_
 obtain ⟨a, j8, hm⟩ := bnd hm
 refine au [(1, .u (.one (.box 1 0))), (13, .u (.one (.d (.bool a))))] [(1, .box [.d (.int .i64 t.States), .d (.sl 2 (List.map Point.row t.Hood)), .d (.sl 2 (List.map Node.row t.Nodes))])] (by rfl) (by rfl) ?_ fun ρ σ hf => ?_
 ·replace hm := j8
  clear j8
  refine sr1 hn ?_
  rcases aj hm with ⟨c1, hm⟩ | ⟨c1, hm⟩
  ·simp -dsimp [c1]
   refine a6 ?_
   cases hm
   exact EE.here (by simp -dsimp)
  ·simp -dsimp [c1]
   refine a6 ?_
   cases hm
   exact EE.here (by simp -dsimp)
 ·clear j8
  simp only [Fits, ar, ap, and_true] at hf
  rcases aj hm with ⟨c2, hm⟩ | ⟨c2, hm⟩
  ·refine a8 (by simp -dsimp [hf]) c2 ?_
   refine srs hn ?_
   simp -dsimp
   refine ab (ae ?_)
   cases hm
   refine ⟨.inr rfl, ?_⟩
   exact EE.here (by simp -dsimp)
  ·refine a7 (by simp -dsimp [hf]) c2 ?_
   refine aa (a6 (ac ?_))
   refine srs hn ?_
   simp -dsimp [hf]
   refine ai ?_
   obtain ⟨o_, g6, hm⟩ := bnd hm
   refine aJ (l_L12_Few_1 cx hn t g6) (by
     try dsimp only
     exact EE.here (by simp -dsimp [hf])
   ) fun ee ρ σ x7 => ?_
   rcases o_ with r | _u
   ·unfold gK at x7
    dsimp only at x7
    obtain ⟨rfl, x7⟩ := x7
    refine aH (ae ?_)
    cases hm
    exact ⟨.inr rfl, x7⟩
   ·unfold gK at x7
    dsimp only at x7
    obtain ⟨rfl, x7⟩ := x7
    refine av ?_
    refine a6 ?_
    refine aX (by rfl) (by rfl) x7 fun ρ σ hf => ?_
    simp only [Fits, ar, ap, and_true] at hf
    refine srs hn ?_
    simp -dsimp
    refine ab ?_
    cases hm
    refine ⟨.inr rfl, ?_⟩
    exact EE.here (by simp -dsimp)
theorem c_L12_Few (t : Tree) (r : Bool) (hm : kc t = some r) : PureCall Tryz.prog 16 [.u (.agg [.d (.int .i64 t.States), .d (.sl 2 (List.map Point.row t.Hood)), .d (.sl 2 (List.map Node.row t.Nodes))])] (.u (.one (.d (.bool r)))) := (f_L12_Few t r hm).pureW
def eU (cx : Cx) (_l : List Ship) (tt : Bool ⊕ Unit) (ee : Exit) (ρ : Env) (σ : Sto) : Prop := match tt with
 | .inl r => ee = .ret ∧ EE cx (fun ρ σ => ∃ v, resV tb ρ σ Tryz.f5.results.toList = some v ∧ (v.frz σ).free = true ∧ (v.frz σ).wk (.u (.one (.d (.bool r))))) ρ σ
 | .inr _u => ee = .exit 0 ∧ EE cx (aS [] []) ρ σ
theorem l_L50_small_1 (cx : Cx) (hn : cx.n = 51) (l : List Ship) {fu : Nat} {stt : Int} {tt : Bool ⊕ Unit} (hh : ak (ge l) fu stt = some tt) {ρ : Env} {σ : Sto}
  (hE : aW (fun a1 : Int => [(1, .u (.one (.d (.sl 4 (List.map Ship.row l))))), (21, .u (.one (.d (.int .i64 (ah l))))), (22, .u (.one (.d (.int .i64 a1))))]) (fun _a1 : Int => []) stt ρ σ) : Swp Tryz.prog cx (.loop (bg [1, 1, 0, 1, 0, 0] (aK Tryz.f5))) ρ σ (eU cx l tt) := by
 refine aY hE hh (eU cx l) ?_
 rintro a1 r hm ρ σ hf
 simp only [Fits, ar, ap, and_true] at hf
 unfold ge at hm
 dsimp only at hm
 refine srs hn ?_
 simp -dsimp [hf]
 refine ac ?_
 rcases aj hm with ⟨c5, hm⟩ | ⟨c5, hm⟩
 ·refine a8 (b := (ltB a1 (ah l))) (by simp -dsimp) c5 ?_
  refine aa (a6 (ac (ai ?_)))
  refine srs hn ?_
  simp -dsimp [hf, c5]
  obtain ⟨a2, j10, hm⟩ := bnd hm
  refine au [(1, .u (.one (.d (.sl 4 (List.map Ship.row l))))), (21, .u (.one (.d (.int .i64 (ah l))))), (22, .u (.one (.d (.int .i64 a1)))), (49, .u (.one (.d (.bool a2))))] [] (by rfl) (by rfl) ?_ fun ρ σ hf => ?_
  ·replace hm := j10
   clear j10
   refine sr1 hn ?_
   obtain ⟨x, h6, hm⟩ := bnd hm
   rcases aj hm with ⟨c7, hm⟩ | ⟨c7, hm⟩
   ·simp -dsimp [hf, h6, c7]
    refine a6 ?_
    cases hm
    exact EE.here (by simp -dsimp [hf])
   ·rcases aj hm with ⟨c8, hm⟩ | ⟨c8, hm⟩
    ·simp -dsimp [hf, h6, c7, c8]
     refine a6 ?_
     cases hm
     exact EE.here (by simp -dsimp [hf])
    ·simp -dsimp [hf, h6, c7, c8]
     refine a6 ?_
     cases hm
     exact EE.here (by simp -dsimp [hf])
  ·clear j10
   simp only [Fits, ar, ap, and_true] at hf
   rcases aj hm with ⟨c9, hm⟩ | ⟨c9, hm⟩
   ·refine a8 (by simp -dsimp [hf]) c9 ?_
    refine srs hn ?_
    simp -dsimp
    refine ab (aH (ae ?_))
    cases hm
    refine am nofun ?_
    unfold eU
    dsimp only
    refine ⟨rfl, ?_⟩
    exact EE.here (by simp -dsimp [Tryz.results5])
   ·refine a7 (by simp -dsimp [hf]) c9 ?_
    refine aa ?_
    refine aM ?_
    refine a6 ?_
    refine sr1 hn ?_
    simp -dsimp [hf]
    cases hm
    refine az ?_
    exact EE.here (by simp -dsimp [hf])
 ·refine a7 (b := (ltB a1 (ah l))) (by simp -dsimp) c5 ?_
  refine aw ?_
  refine ae ?_
  cases hm
  refine am nofun ?_
  unfold eU
  dsimp only
  refine ⟨rfl, ?_⟩
  exact EE.here (by simp -dsimp [c5])
theorem f_L50_small (t : Tree) (l : List Ship) (r : Bool) (hm : gF t l = some r) : PFn Tryz.prog 5 [.u (.agg [.d (.int .i64 t.States), .d (.sl 2 (List.map Point.row t.Hood)), .d (.sl 2 (List.map Node.row t.Nodes))]), .u (.one (.d (.sl 4 (List.map Ship.row l))))] (fun v => v.wk (.u (.one (.d (.bool r))))) := by
 refine aV Tryz.func5 Tryz.ntmps5 rfl (by kernel_rfl) (by simp) fun cx hn => ?_
 unfold gF at hm
 refine srs hn ?_
 simp -dsimp
 refine ac ?_
 obtain ⟨a, j13, hm⟩ := bnd hm
 refine au [(1, .u (.one (.d (.sl 4 (List.map Ship.row l))))), (19, .u (.one (.d (.bool a))))] [] (by rfl) (by rfl) ?_ fun ρ σ hf => ?_
 ·replace hm := j13
  clear j13
  refine sr1 hn ?_
  obtain ⟨y, h1, hm⟩ := bnd hm
  simp -dsimp
  refine ag (c_L12_Few t y h1) (dkL hn) ?_
  rcases aj hm with ⟨c2, hm⟩ | ⟨c2, hm⟩
  ·simp -dsimp [c2]
   refine a6 ?_
   cases hm
   exact EE.here (by simp -dsimp)
  ·rcases aj hm with ⟨c3, hm⟩ | ⟨c3, hm⟩
   ·simp -dsimp [c2, c3]
    refine a6 ?_
    cases hm
    exact EE.here (by simp -dsimp)
   ·simp -dsimp [c2, c3]
    refine a6 ?_
    cases hm
    exact EE.here (by simp -dsimp)
 ·clear j13
  simp only [Fits, ar, ap, and_true] at hf
  rcases aj hm with ⟨c4, hm⟩ | ⟨c4, hm⟩
  ·refine a8 (by simp -dsimp [hf]) c4 ?_
   refine srs hn ?_
   simp -dsimp
   refine ab (ae ?_)
   cases hm
   refine ⟨.inr rfl, ?_⟩
   exact EE.here (by simp -dsimp)
  ·refine a7 (by simp -dsimp [hf]) c4 ?_
   refine aa (a6 (ac ?_))
   refine srs hn ?_
   simp -dsimp [hf]
   refine ai ?_
   obtain ⟨o_, g11, hm⟩ := bnd hm
   refine aJ (l_L50_small_1 cx hn l g11) (by
     try dsimp only
     exact EE.here (by simp -dsimp [hf])
   ) fun ee ρ σ x12 => ?_
   rcases o_ with r | _u
   ·unfold eU at x12
    dsimp only at x12
    obtain ⟨rfl, x12⟩ := x12
    refine aH (ae ?_)
    cases hm
    exact ⟨.inr rfl, x12⟩
   ·unfold eU at x12
    dsimp only at x12
    obtain ⟨rfl, x12⟩ := x12
    refine av ?_
    refine a6 ?_
    refine aX (by rfl) (by rfl) x12 fun ρ σ hf => ?_
    simp only [Fits, ar, ap, and_true] at hf
    refine srs hn ?_
    simp -dsimp
    refine ab ?_
    cases hm
    refine ⟨.inr rfl, ?_⟩
    exact EE.here (by simp -dsimp)
theorem c_L50_small (t : Tree) (l : List Ship) (r : Bool) (hm : gF t l = some r) : PureCall Tryz.prog 5 [.u (.agg [.d (.int .i64 t.States), .d (.sl 2 (List.map Point.row t.Hood)), .d (.sl 2 (List.map Node.row t.Nodes))]), .u (.one (.d (.sl 4 (List.map Ship.row l))))] (.u (.one (.d (.bool r)))) := (f_L50_small t l r hm).pureW
theorem hG (s : List UInt8) (prefix_ : List UInt8) (r : Bool) (hm : bl s prefix_ = some r) : PFn Tryz.prog 126 [.u (.one (.d (.str (bs s)))), .u (.one (.d (.str (bs prefix_))))] (fun v => v.wk (.u (.one (.d (.bool r))))) := by
 refine aV Tryz.func126 Tryz.ntmps126 rfl (by kernel_rfl) (by simp) fun cx hn => ?_
 unfold bl at hm
 refine srs hn ?_
 simp -dsimp
 obtain ⟨a, j3, hm⟩ := bnd hm
 refine au [(4, .u (.one (.d (.bool a))))] [] (by rfl) (by rfl) ?_ fun ρ σ hf => ?_
 ·replace hm := j3
  clear j3
  refine sr1 hn ?_
  rcases aj hm with ⟨c1, hm⟩ | ⟨c1, hm⟩
  ·obtain ⟨s1, h2, hm⟩ := bnd hm
   simp -dsimp [c1, h2]
   refine a6 ?_
   cases hm
   exact EE.here (by simp -dsimp)
  ·simp -dsimp [c1]
   refine a6 ?_
   cases hm
   exact EE.here (by simp -dsimp)
 ·clear j3
  simp only [Fits, ar, ap, and_true] at hf
  refine ab ?_
  cases hm
  refine ⟨.inr rfl, ?_⟩
  exact EE.here (by simp -dsimp [hf])
theorem ii (s : List UInt8) (prefix_ : List UInt8) (r : Bool) (hm : bl s prefix_ = some r) : PureCall Tryz.prog 126 [.u (.one (.d (.str (bs s)))), .u (.one (.d (.str (bs prefix_))))] (.u (.one (.d (.bool r)))) := (hG s prefix_ r hm).pureW
theorem il (s : List UInt8) (prefix_ : List UInt8) (r : (List UInt8) × Bool) (hm : bk s prefix_ = some r) : PFn Tryz.prog 128 [.u (.one (.d (.str (bs s)))), .u (.one (.d (.str (bs prefix_))))] (fun v => v.wk (.tup [.one (.d (.str (bs r.1))), .one (.d (.bool r.2))])) := by
 refine aV Tryz.func128 Tryz.ntmps128 rfl (by kernel_rfl) (by simp) fun cx hn => ?_
 unfold bk at hm
 refine srs hn ?_
 simp -dsimp
 refine ac ?_
 refine srs hn ?_
 obtain ⟨y, h1, hm⟩ := bnd hm
 simp -dsimp
 refine ag (ii s prefix_ y h1) (dkL hn) ?_
 simp -dsimp
 rcases aj hm with ⟨c2, hm⟩ | ⟨c2, hm⟩
 ·refine a8 (b := (aD y)) (by simp -dsimp) c2 ?_
  refine srs hn ?_
  simp -dsimp [c2]
  refine ab (ae ?_)
  cases hm
  refine ⟨.inr rfl, ?_⟩
  exact EE.here (by simp -dsimp)
 ·refine a7 (b := (aD y)) (by simp -dsimp) c2 ?_
  refine aa (a6 ?_)
  refine srs hn ?_
  obtain ⟨s1, h3, hm⟩ := bnd hm
  simp -dsimp [c2, h3]
  refine ab ?_
  cases hm
  refine ⟨.inr rfl, ?_⟩
  exact EE.here (by simp -dsimp)
theorem i5 (s : List UInt8) (prefix_ : List UInt8) (r : (List UInt8) × Bool) (hm : bk s prefix_ = some r) : PureCall Tryz.prog 128 [.u (.one (.d (.str (bs s)))), .u (.one (.d (.str (bs prefix_))))] (.tup [.one (.d (.str (bs r.1))), .one (.d (.bool r.2))]) := (il s prefix_ r hm).pureW
theorem f_strings_CutPrefix (s : List UInt8) (prefix_ : List UInt8) (r : (List UInt8) × Bool) (hm : dX s prefix_ = some r) : PFn Tryz.prog 65 [.u (.one (.d (.str (bs s)))), .u (.one (.d (.str (bs prefix_))))] (fun v => v.wk (.tup [.one (.d (.str (bs r.1))), .one (.d (.bool r.2))])) := by
 refine aV Tryz.func65 Tryz.ntmps65 rfl (by kernel_rfl) (by simp) fun cx hn => ?_
 unfold dX at hm
 refine srs hn ?_
 simp -dsimp
 refine srs hn ?_
 obtain ⟨y, h1, hm⟩ := bnd hm
 simp -dsimp
 refine ag (i5 s prefix_ y h1) (dkL hn) ?_
 simp -dsimp
 refine ab ?_
 cases hm
 refine ⟨.inr rfl, ?_⟩
 exact EE.here (by simp -dsimp)
theorem c_strings_CutPrefix (s : List UInt8) (prefix_ : List UInt8) (r : (List UInt8) × Bool) (hm : dX s prefix_ = some r) : PureCall Tryz.prog 65 [.u (.one (.d (.str (bs s)))), .u (.one (.d (.str (bs prefix_))))] (.tup [.one (.d (.str (bs r.1))), .one (.d (.bool r.2))]) := (f_strings_CutPrefix s prefix_ r hm).pureW
theorem c_strings_Cut (s sep : List UInt8) (r : (List UInt8) × (List UInt8) × Bool) (hm : m_strings_Cut s sep = some r) : PureCall Tryz.prog 66 [.u (.one (.d (.str (bs s)))), .u (.one (.d (.str (bs sep))))] (.tup [.one (.d (.str (bs r.1))), .one (.d (.str (bs r.2.1))), .one (.d (.bool r.2.2))]) := cut_pure cutL (by kernel_rfl) rfl ⟨_, Tryz.func66, by decide, rfl⟩ hm
theorem f_hood_Moore_1 (x : Int) (y : Int) (r : Bool) (hm : gW x y = some r) : PFn Tryz.prog 131 [.u (.one (.d (.int .i64 x))), .u (.one (.d (.int .i64 y)))] (fun v => v.wk (.u (.one (.d (.bool r))))) := by
 refine aV Tryz.func131 Tryz.ntmps131 rfl (by kernel_rfl) (by simp) fun cx hn => ?_
 unfold gW at hm
 refine srs hn ?_
 simp -dsimp
 refine srs hn ?_
 simp -dsimp
 refine ab ?_
 cases hm
 refine ⟨.inr rfl, ?_⟩
 exact EE.here (by simp -dsimp)
theorem c_hood_Moore_1 (x : Int) (y : Int) (r : Bool) (hm : gW x y = some r) : PureCall Tryz.prog 131 [.u (.one (.d (.int .i64 x))), .u (.one (.d (.int .i64 y)))] (.u (.one (.d (.bool r)))) := (f_hood_Moore_1 x y r hm).pureW
def bH (cx : Cx) (r_ : Int) (y : Int) (tt : (List Point)) (ee : Exit) (ρ : Env) (σ : Sto) : Prop := match tt with
 | l1 => ee = .exit 2 ∧ EE cx (aS [(0, .u (.one (.d (.int .i64 r_)))), (1, .u (.one (.fn 131 []))), (5, .u (.one (.own 5000))), (6, .u (.one (.d (.int .i64 y))))] [(5000, .row 2 71 (List.map Point.row l1))]) ρ σ
theorem iS (cx : Cx) (hn : cx.n = 33) (r_ : Int) (y : Int) {fu : Nat} {stt : Int × (List Point)} {tt : (List Point)} (hh : ak (cE r_ y) fu stt = some tt) {ρ : Env} {σ : Sto}
  (hE : aW (fun stt : Int × (List Point) => match stt with | (x, _l1) => [(0, .u (.one (.d (.int .i64 r_)))), (1, .u (.one (.fn 131 []))), (5, .u (.one (.own 5000))), (6, .u (.one (.d (.int .i64 y)))), (7, .u (.one (.d (.int .i64 x))))]) (fun stt : Int × (List Point) => match stt with | (_x, l1) => [(5000, .row 2 71 (List.map Point.row l1))]) stt ρ σ) : Swp Tryz.prog cx (.loop (bg [1, 1, 0, 1, 0, 0, 1, 0, 0, 1, 0, 0] (aK Tryz.f130))) ρ σ (bH cx r_ y tt) := by
 refine aY hE hh (bH cx r_ y) ?_
 rintro ⟨x, l1⟩ r hm ρ σ hf
 simp only [Fits, ar, ap, and_true] at hf
 unfold cE at hm
 dsimp only at hm
 refine ac ?_
 refine srs hn ?_
 simp -dsimp [hf]
 rcases aj hm with ⟨c2, hm⟩ | ⟨c2, hm⟩
 ·refine a8 (b := (leB x r_)) (by simp -dsimp) c2 ?_
  refine aa (a6 ?_)
  obtain ⟨l2, j6, hm⟩ := bnd hm
  refine au [(0, .u (.one (.d (.int .i64 r_)))), (1, .u (.one (.fn 131 []))), (5, .u (.one (.own 5000))), (6, .u (.one (.d (.int .i64 y)))), (7, .u (.one (.d (.int .i64 x))))] [(5000, .row 2 71 (List.map Point.row l2))] (by rfl) (by rfl) ?_ fun ρ σ hf => ?_
  ·replace hm := j6
   clear j6
   refine ai ?_
   refine srs hn ?_
   obtain ⟨y1, h3, hm⟩ := bnd hm
   simp -dsimp [hf, c2]
   refine ag (c_hood_Moore_1 x y y1 h3) (dkL hn) ?_
   simp -dsimp
   rcases aj hm with ⟨c4, hm⟩ | ⟨c4, hm⟩
   ·refine a8 (b := y1) (by simp -dsimp) c4 ?_
    refine sr1 hn ?_
    obtain ⟨l2, h5, hm⟩ := bnd hm
    obtain ⟨h5a, h5e⟩ := aN h5
    replace h5e := h5e.symm
    subst h5e
    try simp only [List.length_cons, List.length_nil, Nat.zero_add] at h5a
    simp -dsimp [hf, c4, h5a]
    refine aM ?_
    refine a6 ?_
    cases hm
    refine EE.step (Wk.move 31 5000 (by decide) (.inl (by decide))) ?_
    exact EE.here (by simp -dsimp [hf])
   ·refine a7 (b := y1) (by simp -dsimp) c4 ?_
    refine aa ?_
    refine aM ?_
    refine a6 ?_
    cases hm
    exact EE.here (by simp -dsimp [hf, c4])
  ·clear j6
   simp only [Fits, ar, ap, and_true] at hf
   refine sr1 hn ?_
   simp -dsimp [hf]
   cases hm
   refine az ?_
   exact EE.here (by simp -dsimp [hf])
 ·refine a7 (b := (leB x r_)) (by simp -dsimp) c2 ?_
  refine aw ?_
  refine ae ?_
  cases hm
  refine am nofun ?_
  unfold bH
  dsimp only
  refine ⟨rfl, ?_⟩
  exact EE.here (by simp -dsimp [hf, c2])
def bI (cx : Cx) (_r_ : Int) (tt : (List Point)) (ee : Exit) (ρ : Env) (σ : Sto) : Prop := match tt with
 | l => ee = .exit 0 ∧ EE cx (aS [(5, .u (.one (.own 5000)))] [(5000, .row 2 71 (List.map Point.row l))]) ρ σ
theorem iW (cx : Cx) (hn : cx.n = 33) (r_ : Int) {fu : Nat} {stt : Int × (List Point)} {tt : (List Point)} (hh : ak (cD r_) fu stt = some tt) {ρ : Env} {σ : Sto}
  (hE : aW (fun stt : Int × (List Point) => match stt with | (y, _l) => [(0, .u (.one (.d (.int .i64 r_)))), (1, .u (.one (.fn 131 []))), (5, .u (.one (.own 5000))), (6, .u (.one (.d (.int .i64 y))))]) (fun stt : Int × (List Point) => match stt with | (_y, l) => [(5000, .row 2 71 (List.map Point.row l))]) stt ρ σ) : Swp Tryz.prog cx (.loop (bg [1, 1, 0, 1, 0, 0] (aK Tryz.f130))) ρ σ (bI cx r_ tt) := by
 refine aY hE hh (bI cx r_) ?_
 rintro ⟨y, l⟩ r hm ρ σ hf
 simp only [Fits, ar, ap, and_true] at hf
 unfold cD at hm
 dsimp only at hm
 refine ac ?_
 refine srs hn ?_
 simp -dsimp [hf]
 rcases aj hm with ⟨c1, hm⟩ | ⟨c1, hm⟩
 ·refine a8 (b := (leB y r_)) (by simp -dsimp) c1 ?_
  refine aa (a6 (ac (ai ?_)))
  refine srs hn ?_
  simp -dsimp [hf, c1]
  refine ai ?_
  obtain ⟨l1, g7, hm⟩ := bnd hm
  refine aJ (iS cx hn r_ y g7) (by
    try dsimp only
    exact EE.here (by simp -dsimp [hf])
  ) fun ee ρ σ x8 => ?_
  unfold bH at x8
  dsimp only at x8
  obtain ⟨rfl, x8⟩ := x8
  refine av ?_
  refine aM ?_
  refine a6 ?_
  refine aX (by rfl) (by rfl) x8 fun ρ σ hf => ?_
  simp only [Fits, ar, ap, and_true] at hf
  refine sr1 hn ?_
  simp -dsimp [hf]
  cases hm
  refine az ?_
  exact EE.here (by simp -dsimp [hf])
 ·refine a7 (b := (leB y r_)) (by simp -dsimp) c1 ?_
  refine aw ?_
  refine ae ?_
  cases hm
  refine am nofun ?_
  unfold bI
  dsimp only
  refine ⟨rfl, ?_⟩
  exact EE.here (by simp -dsimp [hf, c1])
theorem jo (r_ : Int) (r : List Point) (hm : bW r_ = some r) : PFn Tryz.prog 130 [.u (.one (.d (.int .i64 r_))), .u (.one (.fn 131 []))] (fun v => v.wk (.u (.one (.d (.sl 2 (List.map Point.row r)))))) := by
 refine aV Tryz.func130 Tryz.ntmps130 rfl (by kernel_rfl) (by simp) fun cx hn => ?_
 unfold bW at hm
 refine srs hn ?_
 simp -dsimp
 refine srs hn ?_
 simp -dsimp
 refine ac ?_
 refine srs hn ?_
 simp -dsimp
 refine ai ?_
 obtain ⟨l, g9, hm⟩ := bnd hm
 refine aJ (iW cx hn r_ g9) (by
   try dsimp only
   refine EE.step (Wk.own0 5 5000 2 71 (by simp -dsimp) (by decide)) ?_
   exact EE.here (by simp -dsimp)
 ) fun ee ρ σ x10 => ?_
 unfold bI at x10
 dsimp only at x10
 obtain ⟨rfl, x10⟩ := x10
 refine av ?_
 refine a6 ?_
 refine aX (by rfl) (by rfl) x10 fun ρ σ hf => ?_
 simp only [Fits, ar, ap, and_true] at hf
 refine srs hn ?_
 simp -dsimp [hf]
 refine ab ?_
 cases hm
 refine ⟨.inr rfl, ?_⟩
 exact EE.here (by simp -dsimp [hf])
theorem jp (r_ : Int) (r : List Point) (hm : bW r_ = some r) : PureCall Tryz.prog 130 [.u (.one (.d (.int .i64 r_))), .u (.one (.fn 131 []))] (.u (.one (.d (.sl 2 (List.map Point.row r))))) := (jo r_ r hm).pureW
theorem f_hood_Moore (r_ : Int) (r : List Point) (hm : im r_ = some r) : PFn Tryz.prog 67 [.u (.one (.d (.int .i64 r_)))] (fun v => v.wk (.u (.one (.d (.sl 2 (List.map Point.row r)))))) := by
 refine aV Tryz.func67 Tryz.ntmps67 rfl (by kernel_rfl) (by simp) fun cx hn => ?_
 unfold im at hm
 refine srs hn ?_
 simp -dsimp
 refine ac ?_
 obtain ⟨a, j4, hm⟩ := bnd hm
 refine au [(0, .u (.one (.d (.int .i64 r_)))), (8, .u (.one (.d (.bool a))))] [] (by rfl) (by rfl) ?_ fun ρ σ hf => ?_
 ·replace hm := j4
  clear j4
  refine sr1 hn ?_
  rcases aj hm with ⟨c1, hm⟩ | ⟨c1, hm⟩
  ·simp -dsimp [c1]
   refine a6 ?_
   cases hm
   exact EE.here (by simp -dsimp)
  ·simp -dsimp [c1]
   refine a6 ?_
   cases hm
   exact EE.here (by simp -dsimp)
 ·clear j4
  simp only [Fits, ar, ap, and_true] at hf
  rcases aj hm with ⟨c2, hm⟩ | ⟨c2, hm⟩
  ·refine a8 (by simp -dsimp [hf]) c2 ?_
   refine srs hn ?_
   simp -dsimp
   refine ab (ae ?_)
   cases hm
   refine ⟨.inr rfl, ?_⟩
   exact EE.here (by simp -dsimp)
  ·refine a7 (by simp -dsimp [hf]) c2 ?_
   refine aa (a6 ?_)
   refine srs hn ?_
   obtain ⟨y, h3, hm⟩ := bnd hm
   simp -dsimp [hf]
   refine ag (jp r_ y h3) (dkL hn) ?_
   simp -dsimp
   refine ab ?_
   cases hm
   refine ⟨.inr rfl, ?_⟩
   exact EE.here (by simp -dsimp)
theorem c_hood_Moore (r_ : Int) (r : List Point) (hm : im r_ = some r) : PureCall Tryz.prog 67 [.u (.one (.d (.int .i64 r_)))] (.u (.one (.d (.sl 2 (List.map Point.row r))))) := (f_hood_Moore r_ r hm).pureW
theorem gU (s : List UInt8) (suffix : List UInt8) (r : Bool) (hm : bi s suffix = some r) : PFn Tryz.prog 181 [.u (.one (.d (.str (bs s)))), .u (.one (.d (.str (bs suffix))))] (fun v => v.wk (.u (.one (.d (.bool r))))) := by
 refine aV Tryz.func181 Tryz.ntmps181 rfl (by kernel_rfl) (by simp) fun cx hn => ?_
 unfold bi at hm
 refine srs hn ?_
 simp -dsimp
 obtain ⟨a, j3, hm⟩ := bnd hm
 refine au [(4, .u (.one (.d (.bool a))))] [] (by rfl) (by rfl) ?_ fun ρ σ hf => ?_
 ·replace hm := j3
  clear j3
  refine sr1 hn ?_
  rcases aj hm with ⟨c1, hm⟩ | ⟨c1, hm⟩
  ·obtain ⟨s1, h2, hm⟩ := bnd hm
   simp -dsimp [c1, h2]
   refine a6 ?_
   cases hm
   exact EE.here (by simp -dsimp)
  ·simp -dsimp [c1]
   refine a6 ?_
   cases hm
   exact EE.here (by simp -dsimp)
 ·clear j3
  simp only [Fits, ar, ap, and_true] at hf
  refine ab ?_
  cases hm
  refine ⟨.inr rfl, ?_⟩
  exact EE.here (by simp -dsimp [hf])
theorem hZ (s : List UInt8) (suffix : List UInt8) (r : Bool) (hm : bi s suffix = some r) : PureCall Tryz.prog 181 [.u (.one (.d (.str (bs s)))), .u (.one (.d (.str (bs suffix))))] (.u (.one (.d (.bool r)))) := (gU s suffix r hm).pureW
theorem i9 (s : List UInt8) (suffix : List UInt8) (r : (List UInt8) × Bool) (hm : bn s suffix = some r) : PFn Tryz.prog 132 [.u (.one (.d (.str (bs s)))), .u (.one (.d (.str (bs suffix))))] (fun v => v.wk (.tup [.one (.d (.str (bs r.1))), .one (.d (.bool r.2))])) := by
 refine aV Tryz.func132 Tryz.ntmps132 rfl (by kernel_rfl) (by simp) fun cx hn => ?_
 unfold bn at hm
 refine srs hn ?_
 simp -dsimp
 refine ac ?_
 refine srs hn ?_
 obtain ⟨y, h1, hm⟩ := bnd hm
 simp -dsimp
 refine ag (hZ s suffix y h1) (dkL hn) ?_
 simp -dsimp
 rcases aj hm with ⟨c2, hm⟩ | ⟨c2, hm⟩
 ·refine a8 (b := (aD y)) (by simp -dsimp) c2 ?_
  refine srs hn ?_
  simp -dsimp [c2]
  refine ab (ae ?_)
  cases hm
  refine ⟨.inr rfl, ?_⟩
  exact EE.here (by simp -dsimp)
 ·refine a7 (b := (aD y)) (by simp -dsimp) c2 ?_
  refine aa (a6 ?_)
  refine srs hn ?_
  obtain ⟨s1, h3, hm⟩ := bnd hm
  simp -dsimp [c2, h3]
  refine ab ?_
  cases hm
  refine ⟨.inr rfl, ?_⟩
  exact EE.here (by simp -dsimp)
theorem i6 (s : List UInt8) (suffix : List UInt8) (r : (List UInt8) × Bool) (hm : bn s suffix = some r) : PureCall Tryz.prog 132 [.u (.one (.d (.str (bs s)))), .u (.one (.d (.str (bs suffix))))] (.tup [.one (.d (.str (bs r.1))), .one (.d (.bool r.2))]) := (i9 s suffix r hm).pureW
theorem f_strings_CutSuffix (s : List UInt8) (suffix : List UInt8) (r : (List UInt8) × Bool) (hm : cU s suffix = some r) : PFn Tryz.prog 68 [.u (.one (.d (.str (bs s)))), .u (.one (.d (.str (bs suffix))))] (fun v => v.wk (.tup [.one (.d (.str (bs r.1))), .one (.d (.bool r.2))])) := by
 refine aV Tryz.func68 Tryz.ntmps68 rfl (by kernel_rfl) (by simp) fun cx hn => ?_
 unfold cU at hm
 refine srs hn ?_
 simp -dsimp
 refine srs hn ?_
 obtain ⟨y, h1, hm⟩ := bnd hm
 simp -dsimp
 refine ag (i6 s suffix y h1) (dkL hn) ?_
 simp -dsimp
 refine ab ?_
 cases hm
 refine ⟨.inr rfl, ?_⟩
 exact EE.here (by simp -dsimp)
theorem jd (s : List UInt8) (suffix : List UInt8) (r : (List UInt8) × Bool) (hm : cU s suffix = some r) : PureCall Tryz.prog 68 [.u (.one (.d (.str (bs s)))), .u (.one (.d (.str (bs suffix))))] (.tup [.one (.d (.str (bs r.1))), .one (.d (.bool r.2))]) := (f_strings_CutSuffix s suffix r hm).pureW
def bU (cx : Cx) (_l : List Int) (_n : Int) (tt : Bool ⊕ Unit) (ee : Exit) (ρ : Env) (σ : Sto) : Prop := match tt with
 | .inl r => ee = .ret ∧ EE cx (fun ρ σ => ∃ v, resV tb ρ σ Tryz.f135.results.toList = some v ∧ (v.frz σ).free = true ∧ (v.frz σ).wk (.u (.one (.d (.bool r))))) ρ σ
 | .inr _u => ee = .exit 0 ∧ EE cx (aS [] []) ρ σ
theorem l_lifelike_ascends_1 (cx : Cx) (hn : cx.n = 24) (l : List Int) (n : Int) {fu : Nat} {stt : Int × Int} {tt : Bool ⊕ Unit} (hh : ak (fi l n) fu stt = some tt) {ρ : Env} {σ : Sto}
  (hE : aW (fun stt : Int × Int => match stt with | (last, a) => [(1, .u (.one (.d (.int .i64 n)))), (5, .u (.one (.d (.int .i64 last)))), (8, .u (.one (.d (.sl 1 (List.map (rI .i64) l))))), (9, .u (.one (.d (.int .i64 (ah l))))), (10, .u (.one (.d (.int .i64 a))))]) (fun stt : Int × Int => match stt with | (_last, _a) => []) stt ρ σ) : Swp Tryz.prog cx (.loop (bg [1, 1, 0, 1, 0, 0] (aK Tryz.f135))) ρ σ (bU cx l n tt) := by
 refine aY hE hh (bU cx l n) ?_
 rintro ⟨last, a⟩ r hm ρ σ hf
 simp only [Fits, ar, ap, and_true] at hf
 unfold fi at hm
 dsimp only at hm
 refine srs hn ?_
 simp -dsimp [hf]
 refine ac ?_
 rcases aj hm with ⟨c1, hm⟩ | ⟨c1, hm⟩
 ·refine a8 (b := (ltB a (ah l))) (by simp -dsimp) c1 ?_
  refine aa (a6 (ac (ai ?_)))
  refine srs hn ?_
  obtain ⟨x, h2, hm⟩ := bnd hm
  simp -dsimp [hf, c1, h2]
  refine ac ?_
  obtain ⟨a1, j5, hm⟩ := bnd hm
  refine au [(1, .u (.one (.d (.int .i64 n)))), (7, .u (.one (.d (.int .i64 x)))), (8, .u (.one (.d (.sl 1 (List.map (rI .i64) l))))), (9, .u (.one (.d (.int .i64 (ah l))))), (10, .u (.one (.d (.int .i64 a)))), (21, .u (.one (.d (.bool a1))))] [] (by rfl) (by rfl) ?_ fun ρ σ hf => ?_
  ·replace hm := j5
   clear j5
   refine sr1 hn ?_
   rcases aj hm with ⟨c3, hm⟩ | ⟨c3, hm⟩
   ·simp -dsimp [hf, c3]
    refine a6 ?_
    cases hm
    exact EE.here (by simp -dsimp [hf])
   ·simp -dsimp [hf, c3]
    refine a6 ?_
    cases hm
    exact EE.here (by simp -dsimp [hf])
  ·clear j5
   simp only [Fits, ar, ap, and_true] at hf
   rcases aj hm with ⟨c4, hm⟩ | ⟨c4, hm⟩
   ·refine a8 (by simp -dsimp [hf]) c4 ?_
    refine srs hn ?_
    simp -dsimp
    refine ab (ae (aH (ae ?_)))
    cases hm
    refine am nofun ?_
    unfold bU
    dsimp only
    refine ⟨rfl, ?_⟩
    exact EE.here (by simp -dsimp [Tryz.results135])
   ·refine a7 (by simp -dsimp [hf]) c4 ?_
    refine aa (a6 ?_)
    refine sr1 hn ?_
    simp -dsimp [hf]
    refine aM ?_
    refine a6 ?_
    refine sr1 hn ?_
    simp -dsimp [hf]
    cases hm
    refine az ?_
    exact EE.here (by simp -dsimp [hf])
 ·refine a7 (b := (ltB a (ah l))) (by simp -dsimp) c1 ?_
  refine aw ?_
  refine ae ?_
  cases hm
  refine am nofun ?_
  unfold bU
  dsimp only
  refine ⟨rfl, ?_⟩
  exact EE.here (by simp -dsimp [c1])
theorem f_lifelike_ascends (l : List Int) (n : Int) (r : Bool) (hm : cp l n = some r) : PFn Tryz.prog 135 [.u (.one (.d (.sl 1 (List.map (rI .i64) l)))), .u (.one (.d (.int .i64 n)))] (fun v => v.wk (.u (.one (.d (.bool r))))) := by
 refine aV Tryz.func135 Tryz.ntmps135 rfl (by kernel_rfl) (by simp) fun cx hn => ?_
 unfold cp at hm
 refine srs hn ?_
 simp -dsimp
 refine srs hn ?_
 simp -dsimp
 refine ac ?_
 refine srs hn ?_
 simp -dsimp
 refine ai ?_
 obtain ⟨o_, g6, hm⟩ := bnd hm
 refine aJ (l_lifelike_ascends_1 cx hn l n g6) (by
   try dsimp only
   exact EE.here (by simp -dsimp)
 ) fun ee ρ σ x7 => ?_
 rcases o_ with r | _u
 ·unfold bU at x7
  dsimp only at x7
  obtain ⟨rfl, x7⟩ := x7
  refine aH (ae ?_)
  cases hm
  exact ⟨.inr rfl, x7⟩
 ·unfold bU at x7
  dsimp only at x7
  obtain ⟨rfl, x7⟩ := x7
  refine av ?_
  refine a6 ?_
  refine aX (by rfl) (by rfl) x7 fun ρ σ hf => ?_
  simp only [Fits, ar, ap, and_true] at hf
  refine srs hn ?_
  simp -dsimp
  refine ab ?_
  cases hm
  refine ⟨.inr rfl, ?_⟩
  exact EE.here (by simp -dsimp)
theorem gx (l : List Int) (n : Int) (r : Bool) (hm : cp l n = some r) : PureCall Tryz.prog 135 [.u (.one (.d (.sl 1 (List.map (rI .i64) l)))), .u (.one (.d (.int .i64 n)))] (.u (.one (.d (.bool r)))) := (f_lifelike_ascends l n r hm).pureW
def ca (cx : Cx) (_l : List Int) (tt : ((List Int) × Bool) ⊕ (List Int)) (ee : Exit) (ρ : Env) (σ : Sto) : Prop := match tt with
 | .inl r => ee = .ret ∧ EE cx (fun ρ σ => ∃ v, resV tb ρ σ Tryz.f71.results.toList = some v ∧ (v.frz σ).free = true ∧ (v.frz σ).wk (.tup [.one (.d (.sl 1 (List.map (rI .i64) r.1))), .one (.d (.bool r.2))])) ρ σ
 | .inr out => ee = .exit 0 ∧ EE cx (aS [(4, .u (.one (.own 5000)))] [(5000, .row 1 3 (List.map (rI .i64) out))]) ρ σ
theorem l_lifelike_digits_1 (cx : Cx) (hn : cx.n = 30) (l : List Int) {fu : Nat} {stt : Int × (List Int)} {tt : ((List Int) × Bool) ⊕ (List Int)} (hh : ak (ga l) fu stt = some tt) {ρ : Env} {σ : Sto}
  (hE : aW (fun stt : Int × (List Int) => match stt with | (a, _out) => [(4, .u (.one (.own 5000))), (8, .u (.one (.d (.sl 1 (List.map (rI .u8) l))))), (9, .u (.one (.d (.int .i64 (ah l))))), (10, .u (.one (.d (.int .i64 a))))]) (fun stt : Int × (List Int) => match stt with | (_a, out) => [(5000, .row 1 3 (List.map (rI .i64) out))]) stt ρ σ) : Swp Tryz.prog cx (.loop (bg [1, 1, 0, 1, 0, 0] (aK Tryz.f71))) ρ σ (ca cx l tt) := by
 refine aY hE hh (ca cx l) ?_
 rintro ⟨a, out⟩ r hm ρ σ hf
 simp only [Fits, ar, ap, and_true] at hf
 unfold ga at hm
 dsimp only at hm
 refine srs hn ?_
 simp -dsimp [hf]
 refine ac ?_
 rcases aj hm with ⟨c2, hm⟩ | ⟨c2, hm⟩
 ·refine a8 (b := (ltB a (ah l))) (by simp -dsimp) c2 ?_
  refine aa (a6 (ac (ai ?_)))
  refine srs hn ?_
  obtain ⟨x, h3, hm⟩ := bnd hm
  simp -dsimp [hf, c2, h3]
  refine ac ?_
  obtain ⟨a1, j7, hm⟩ := bnd hm
  refine au [(4, .u (.one (.own 5000))), (6, .u (.one (.d (.int .u8 x)))), (8, .u (.one (.d (.sl 1 (List.map (rI .u8) l))))), (9, .u (.one (.d (.int .i64 (ah l))))), (10, .u (.one (.d (.int .i64 a)))), (19, .u (.one (.d (.bool a1))))] [(5000, .row 1 3 (List.map (rI .i64) out))] (by rfl) (by rfl) ?_ fun ρ σ hf => ?_
  ·replace hm := j7
   clear j7
   refine sr1 hn ?_
   rcases aj hm with ⟨c4, hm⟩ | ⟨c4, hm⟩
   ·simp -dsimp [c4]
    refine a6 ?_
    cases hm
    exact EE.here (by simp -dsimp [hf])
   ·simp -dsimp [c4]
    refine a6 ?_
    cases hm
    exact EE.here (by simp -dsimp [hf])
  ·clear j7
   simp only [Fits, ar, ap, and_true] at hf
   rcases aj hm with ⟨c5, hm⟩ | ⟨c5, hm⟩
   ·refine a8 (by simp -dsimp [hf]) c5 ?_
    refine srs hn ?_
    simp -dsimp
    refine ab (ae (aH (ae ?_)))
    cases hm
    refine am nofun ?_
    unfold ca
    dsimp only
    refine ⟨rfl, ?_⟩
    exact EE.here (by simp -dsimp [Tryz.results71])
   ·refine a7 (by simp -dsimp [hf]) c5 ?_
    refine aa (a6 ?_)
    refine sr1 hn ?_
    obtain ⟨l1, h6, hm⟩ := bnd hm
    obtain ⟨h6a, h6e⟩ := aN h6
    replace h6e := h6e.symm
    subst h6e
    try simp only [List.length_cons, List.length_nil, Nat.zero_add] at h6a
    simp -dsimp [hf, h6a]
    refine aM ?_
    refine a6 ?_
    refine sr1 hn ?_
    simp -dsimp [hf]
    cases hm
    refine az ?_
    refine EE.step (Wk.move 25 5000 (by decide) (.inl (by decide))) ?_
    exact EE.here (by simp -dsimp [hf])
 ·refine a7 (b := (ltB a (ah l))) (by simp -dsimp) c2 ?_
  refine aw ?_
  refine ae ?_
  cases hm
  refine am nofun ?_
  unfold ca
  dsimp only
  refine ⟨rfl, ?_⟩
  exact EE.here (by simp -dsimp [hf, c2])
theorem f_lifelike_digits (s : List UInt8) (r : (List Int) × Bool) (hm : dI s = some r) : PFn Tryz.prog 71 [.u (.one (.d (.str (bs s))))] (fun v => v.wk (.tup [.one (.d (.sl 1 (List.map (rI .i64) r.1))), .one (.d (.bool r.2))])) := by
 refine aV Tryz.func71 Tryz.ntmps71 rfl (by kernel_rfl) (by simp) fun cx hn => ?_
 unfold dI at hm
 refine srs hn ?_
 simp -dsimp
 refine srs hn ?_
 simp -dsimp
 refine ac ?_
 refine srs hn ?_
 obtain ⟨l, h1, hm⟩ := bnd hm
 simp -dsimp [h1]
 refine ai ?_
 obtain ⟨o_, g8, hm⟩ := bnd hm
 refine aJ (l_lifelike_digits_1 cx hn l g8) (by
   try dsimp only
   refine EE.step (Wk.own0 4 5000 1 3 (by simp -dsimp) (by decide)) ?_
   exact EE.here (by simp -dsimp)
 ) fun ee ρ σ x9 => ?_
 rcases o_ with r | out
 ·unfold ca at x9
  dsimp only at x9
  obtain ⟨rfl, x9⟩ := x9
  refine aH (ae ?_)
  cases hm
  exact ⟨.inr rfl, x9⟩
 ·unfold ca at x9
  dsimp only at x9
  obtain ⟨rfl, x9⟩ := x9
  refine av ?_
  refine a6 ?_
  refine aX (by rfl) (by rfl) x9 fun ρ σ hf => ?_
  simp only [Fits, ar, ap, and_true] at hf
  refine srs hn ?_
  obtain ⟨y, h10, hm⟩ := bnd hm
  simp -dsimp [hf]
  refine callL_brw (us' := [.u (.one (.d (.sl 1 (List.map (rI .i64) out)))), .u (.one (.d (.int .i64 9)))]) (gx out 9 y h10) (by simp -dsimp [hf]) rfl (dkL hn) ?_
  simp -dsimp
  refine ab ?_
  cases hm
  refine ⟨.inr rfl, ?_⟩
  exact EE.here (by simp -dsimp [hf])
theorem jW (s : List UInt8) (r : (List Int) × Bool) (hm : dI s = some r) : PureCall Tryz.prog 71 [.u (.one (.d (.str (bs s))))] (.tup [.one (.d (.sl 1 (List.map (rI .i64) r.1))), .one (.d (.bool r.2))]) := (f_lifelike_digits s r hm).pureW
def F_slices_Equal_api_Point_api_Point_1 (cx : Cx) (_s1 : List Point) (_s2 : List Point) (tt : Bool ⊕ Unit) (ee : Exit) (ρ : Env) (σ : Sto) : Prop := match tt with
 | .inl r => ee = .ret ∧ EE cx (fun ρ σ => ∃ v, resV tb ρ σ Tryz.f169.results.toList = some v ∧ (v.frz σ).free = true ∧ (v.frz σ).wk (.u (.one (.d (.bool r))))) ρ σ
 | .inr _u => ee = .exit 0 ∧ EE cx (aS [] []) ρ σ
theorem l_slices_Equal_api_Point_api_Point_1 (cx : Cx) (hn : cx.n = 26) (s1 : List Point) (s2 : List Point) {fu : Nat} {stt : Int} {tt : Bool ⊕ Unit} (hh : ak (bC s1 s2) fu stt = some tt) {ρ : Env} {σ : Sto}
  (hE : aW (fun a : Int => [(0, .u (.one (.d (.sl 2 (List.map Point.row s1))))), (1, .u (.one (.d (.sl 2 (List.map Point.row s2))))), (12, .u (.one (.d (.int .i64 (ah s1))))), (13, .u (.one (.d (.int .i64 a))))]) (fun _a : Int => []) stt ρ σ) : Swp Tryz.prog cx (.loop (bg [1, 1, 0, 1, 0, 0] (aK Tryz.f169))) ρ σ (F_slices_Equal_api_Point_api_Point_1 cx s1 s2 tt) := by
 refine aY hE hh (F_slices_Equal_api_Point_api_Point_1 cx s1 s2) ?_
 rintro a r hm ρ σ hf
 simp only [Fits, ar, ap, and_true] at hf
 unfold bC at hm
 dsimp only at hm
 refine srs hn ?_
 simp -dsimp [hf]
 refine ac ?_
 rcases aj hm with ⟨c2, hm⟩ | ⟨c2, hm⟩
 ·refine a8 (b := (ltB a (ah s1))) (by simp -dsimp) c2 ?_
  refine aa (a6 (ac (ai ?_)))
  refine srs hn ?_
  simp -dsimp [hf, c2]
  refine bF aL mixed (by rw [hn]; kernel_rfl) ?_
  obtain ⟨x, h3, hm⟩ := bnd hm
  obtain ⟨x1, h4, hm⟩ := bnd hm
  simp -dsimp [hf, h3, h4]
  rcases aj hm with ⟨c5, hm⟩ | ⟨c5, hm⟩
  ·refine a8 (b := (aD (bY (eqB x.X x1.X) (bY (eqB x.Y x1.Y) true)))) (by simp -dsimp) c5 ?_
   refine srs hn ?_
   simp -dsimp [c5]
   refine ab (aH (ae ?_))
   cases hm
   refine am nofun ?_
   unfold F_slices_Equal_api_Point_api_Point_1
   dsimp only
   refine ⟨rfl, ?_⟩
   exact EE.here (by simp -dsimp [Tryz.results169])
  ·refine a7 (b := (aD (bY (eqB x.X x1.X) (bY (eqB x.Y x1.Y) true)))) (by simp -dsimp) c5 ?_
   refine aa ?_
   refine aM ?_
   refine a6 ?_
   refine sr1 hn ?_
   simp -dsimp [hf, c5]
   cases hm
   refine az ?_
   exact EE.here (by simp -dsimp [hf])
 ·refine a7 (b := (ltB a (ah s1))) (by simp -dsimp) c2 ?_
  refine aw ?_
  refine ae ?_
  cases hm
  refine am nofun ?_
  unfold F_slices_Equal_api_Point_api_Point_1
  dsimp only
  refine ⟨rfl, ?_⟩
  exact EE.here (by simp -dsimp [c2])
theorem f_slices_Equal_api_Point_api_Point (s1 : List Point) (s2 : List Point) (r : Bool) (hm : ba s1 s2 = some r) : PFn Tryz.prog 169 [.u (.one (.d (.sl 2 (List.map Point.row s1)))), .u (.one (.d (.sl 2 (List.map Point.row s2))))] (fun v => v.wk (.u (.one (.d (.bool r))))) := by
 refine aV Tryz.func169 Tryz.ntmps169 rfl (by kernel_rfl) (by simp) fun cx hn => ?_
 unfold ba at hm
 refine srs hn ?_
 simp -dsimp
 refine ac ?_
 refine srs hn ?_
 simp -dsimp
 rcases aj hm with ⟨c1, hm⟩ | ⟨c1, hm⟩
 ·refine a8 (by simp -dsimp) c1 ?_
  refine srs hn ?_
  simp -dsimp [c1]
  refine ab (ae ?_)
  cases hm
  refine ⟨.inr rfl, ?_⟩
  exact EE.here (by simp -dsimp)
 ·refine a7 (by simp -dsimp) c1 ?_
  refine aa (a6 (ac ?_))
  refine srs hn ?_
  simp -dsimp [c1]
  refine ai ?_
  obtain ⟨o_, g6, hm⟩ := bnd hm
  refine aJ (l_slices_Equal_api_Point_api_Point_1 cx hn s1 s2 g6) (by
    try dsimp only
    exact EE.here (by simp -dsimp)
  ) fun ee ρ σ x7 => ?_
  rcases o_ with r | _u
  ·unfold F_slices_Equal_api_Point_api_Point_1 at x7
   dsimp only at x7
   obtain ⟨rfl, x7⟩ := x7
   refine aH (ae ?_)
   cases hm
   exact ⟨.inr rfl, x7⟩
  ·unfold F_slices_Equal_api_Point_api_Point_1 at x7
   dsimp only at x7
   obtain ⟨rfl, x7⟩ := x7
   refine av ?_
   refine a6 ?_
   refine aX (by rfl) (by rfl) x7 fun ρ σ hf => ?_
   simp only [Fits, ar, ap, and_true] at hf
   refine srs hn ?_
   simp -dsimp
   refine ab ?_
   cases hm
   refine ⟨.inr rfl, ?_⟩
   exact EE.here (by simp -dsimp)
theorem c_slices_Equal_api_Point_api_Point (s1 : List Point) (s2 : List Point) (r : Bool) (hm : ba s1 s2 = some r) : PureCall Tryz.prog 169 [.u (.one (.d (.sl 2 (List.map Point.row s1)))), .u (.one (.d (.sl 2 (List.map Point.row s2))))] (.u (.one (.d (.bool r)))) := (f_slices_Equal_api_Point_api_Point s1 s2 r hm).pureW
theorem f_hood_Same (a : List Point) (b : List Point) (r : Bool) (hm : gL a b = some r) : PFn Tryz.prog 107 [.u (.one (.d (.sl 2 (List.map Point.row a)))), .u (.one (.d (.sl 2 (List.map Point.row b))))] (fun v => v.wk (.u (.one (.d (.bool r))))) := by
 refine aV Tryz.func107 Tryz.ntmps107 rfl (by kernel_rfl) (by simp) fun cx hn => ?_
 unfold gL at hm
 refine srs hn ?_
 simp -dsimp
 refine srs hn ?_
 obtain ⟨y, h1, hm⟩ := bnd hm
 simp -dsimp
 refine ag (c_slices_Equal_api_Point_api_Point a b y h1) (dkL hn) ?_
 simp -dsimp
 refine ab ?_
 cases hm
 refine ⟨.inr rfl, ?_⟩
 exact EE.here (by simp -dsimp)
theorem c_hood_Same (a : List Point) (b : List Point) (r : Bool) (hm : gL a b = some r) : PureCall Tryz.prog 107 [.u (.one (.d (.sl 2 (List.map Point.row a)))), .u (.one (.d (.sl 2 (List.map Point.row b))))] (.u (.one (.d (.bool r)))) := (f_hood_Same a b r hm).pureW
theorem f_lifelike_letter (l : List Point) (r : (List UInt8) × Bool) (hm : f9 l = some r) : PFn Tryz.prog 136 [.u (.one (.d (.sl 2 (List.map Point.row l))))] (fun v => v.wk (.tup [.one (.d (.str (bs r.1))), .one (.d (.bool r.2))])) := by
 refine aV Tryz.func136 Tryz.ntmps136 rfl (by kernel_rfl) (by simp) fun cx hn => ?_
 unfold f9 at hm
 refine srs hn ?_
 simp -dsimp
 refine ac (ai ?_)
 refine srs hn ?_
 obtain ⟨y, h1, hm⟩ := bnd hm
 simp -dsimp
 refine ag (c_hood_Moore 1 y h1) (dkL hn) ?_
 obtain ⟨y1, h2, hm⟩ := bnd hm
 simp -dsimp
 refine ag (c_hood_Same l y y1 h2) (dkL hn) ?_
 simp -dsimp
 rcases aj hm with ⟨c3, hm⟩ | ⟨c3, hm⟩
 ·refine a8 (b := y1) (by simp -dsimp) c3 ?_
  refine srs hn ?_
  simp -dsimp [c3]
  refine ab (aH (ae ?_))
  cases hm
  refine ⟨.inr rfl, ?_⟩
  exact EE.here (by simp -dsimp)
 ·refine a7 (b := y1) (by simp -dsimp) c3 ?_
  refine srs hn ?_
  cases hm
theorem c_lifelike_letter (l : List Point) (r : (List UInt8) × Bool) (hm : f9 l = some r) : PureCall Tryz.prog 136 [.u (.one (.d (.sl 2 (List.map Point.row l))))] (.tup [.one (.d (.str (bs r.1))), .one (.d (.bool r.2))]) := (f_lifelike_letter l r hm).pureW
theorem f_lifelike_Right (t : Totals) (r : Bool) (hm : ei t = some r) : PFn Tryz.prog 72 [.u (.agg [.d (.sl 2 (List.map Point.row t.Hood)), .d (.int .i64 t.States), .d (.sl 1 (List.map (rI .i64) t.Birth)), .d (.sl 1 (List.map (rI .i64) t.Survive))])] (fun v => v.wk (.u (.one (.d (.bool r))))) := by
 refine aV Tryz.func72 Tryz.ntmps72 rfl (by kernel_rfl) (by simp) fun cx hn => ?_
 unfold ei at hm
 refine srs hn ?_
 simp -dsimp
 refine srs hn ?_
 obtain ⟨y, h1, hm⟩ := bnd hm
 simp -dsimp
 refine ag (c_lifelike_letter t.Hood y h1) (dkL hn) ?_
 simp -dsimp
 refine srs hn ?_
 simp -dsimp
 obtain ⟨a, j8, hm⟩ := bnd hm
 refine au [(2, .u (.one (.d (.bool a))))] [] (by rfl) (by rfl) ?_ fun ρ σ hf => ?_
 ·replace hm := j8
  clear j8
  refine sr1 hn ?_
  rcases aj hm with ⟨c2, hm⟩ | ⟨c2, hm⟩
  ·rcases aj hm with ⟨c3, hm⟩ | ⟨c3, hm⟩
   ·rcases aj hm with ⟨c4, hm⟩ | ⟨c4, hm⟩
    ·obtain ⟨y1, h5, hm⟩ := bnd hm
     simp -dsimp [c2, c3, c4]
     refine ag (gx t.Birth (aC .i64 (ah t.Hood) 1) y1 h5) (dkL hn) ?_
     rcases aj hm with ⟨c6, hm⟩ | ⟨c6, hm⟩
     ·obtain ⟨y2, h7, hm⟩ := bnd hm
      simp -dsimp [c6]
      refine ag (gx t.Survive (aC .i64 (ah t.Hood) 1) y2 h7) (dkL hn) ?_
      simp -dsimp
      refine a6 ?_
      cases hm
      exact EE.here (by simp -dsimp)
     ·simp -dsimp [c6]
      refine a6 ?_
      cases hm
      exact EE.here (by simp -dsimp)
    ·simp -dsimp [c2, c3, c4]
     refine a6 ?_
     cases hm
     exact EE.here (by simp -dsimp)
   ·simp -dsimp [c2, c3]
    refine a6 ?_
    cases hm
    exact EE.here (by simp -dsimp)
  ·simp -dsimp [c2]
   refine a6 ?_
   cases hm
   exact EE.here (by simp -dsimp)
 ·clear j8
  simp only [Fits, ar, ap, and_true] at hf
  refine ab ?_
  cases hm
  refine ⟨.inr rfl, ?_⟩
  exact EE.here (by simp -dsimp [hf])
theorem k6 (t : Totals) (r : Bool) (hm : ei t = some r) : PureCall Tryz.prog 72 [.u (.agg [.d (.sl 2 (List.map Point.row t.Hood)), .d (.int .i64 t.States), .d (.sl 1 (List.map (rI .i64) t.Birth)), .d (.sl 1 (List.map (rI .i64) t.Survive))])] (.u (.one (.d (.bool r)))) := (f_lifelike_Right t r hm).pureW
theorem f_lifelike_Parse (s : List UInt8) (r : Totals × Int) (hm : eh s = some r) : PFn Tryz.prog 37 [.u (.one (.d (.str (bs s))))] (fun v => v.wk (.tup [.agg [.d (.sl 2 (List.map Point.row r.1.Hood)), .d (.int .i64 r.1.States), .d (.sl 1 (List.map (rI .i64) r.1.Birth)), .d (.sl 1 (List.map (rI .i64) r.1.Survive))], .one (.d (.int .i64 r.2))])) := by
 refine aV Tryz.func37 Tryz.ntmps37 rfl (by kernel_rfl) (by simp) fun cx hn => ?_
 unfold eh at hm
 refine srs hn ?_
 simp -dsimp
 refine srs hn ?_
 obtain ⟨y, h1, hm⟩ := bnd hm
 simp -dsimp
 refine ag (c_strings_CutPrefix s ([66] : List UInt8) y h1) (dkL hn) ?_
 simp -dsimp
 refine srs hn ?_
 obtain ⟨y1, h2, hm⟩ := bnd hm
 simp -dsimp
 refine ag (c_strings_Cut y.1 ([47, 83] : List UInt8) y1 h2) (dkL hn) ?_
 simp -dsimp
 refine ac ?_
 obtain ⟨a, j17, hm⟩ := bnd hm
 refine au [(2, .u (.one (.box 2 0))), (6, .u (.one (.d (.str (bs y1.1))))), (7, .u (.one (.d (.str (bs y1.2.1))))), (30, .u (.one (.d (.bool a))))] [(2, .box [.d .nil, .d (.int .i64 0), .d .nil, .d .nil])] (by rfl) (by rfl) ?_ fun ρ σ hf => ?_
 ·replace hm := j17
  clear j17
  refine sr1 hn ?_
  rcases aj hm with ⟨c3, hm⟩ | ⟨c3, hm⟩
  ·simp -dsimp [c3]
   refine a6 ?_
   cases hm
   exact EE.here (by simp -dsimp)
  ·simp -dsimp [c3]
   refine a6 ?_
   cases hm
   exact EE.here (by simp -dsimp)
 ·clear j17
  simp only [Fits, ar, ap, and_true] at hf
  rcases aj hm with ⟨c4, hm⟩ | ⟨c4, hm⟩
  ·refine a8 (by simp -dsimp [hf]) c4 ?_
   refine srs hn ?_
   simp -dsimp [hf]
   refine ab (ae ?_)
   cases hm
   refine ⟨.inr rfl, ?_⟩
   exact EE.here (by simp -dsimp [hf])
  ·refine a7 (by simp -dsimp [hf]) c4 ?_
   refine aa (a6 ?_)
   refine srs hn ?_
   obtain ⟨y2, h5, hm⟩ := bnd hm
   simp -dsimp
   refine ag (c_hood_Moore 1 y2 h5) (dkL hn) ?_
   simp -dsimp
   refine ac ?_
   refine srs hn ?_
   obtain ⟨y3, h6, hm⟩ := bnd hm
   simp -dsimp [hf]
   refine ag (jd y1.2.1 ([86] : List UInt8) y3 h6) (dkL hn) ?_
   simp -dsimp
   refine srs hn ?_
   simp -dsimp
   rcases aj hm with ⟨c7, hm⟩ | ⟨c7, hm⟩
   ·refine a8 (b := y3.2) (by simp -dsimp) c7 ?_
    refine sr1 hn ?_
    cases hm
   ·refine a7 (b := y3.2) (by simp -dsimp) c7 ?_
    refine srs hn ?_
    obtain ⟨y4, h8, hm⟩ := bnd hm
    simp -dsimp [hf, c7]
    refine ag (jd y1.2.1 ([72] : List UInt8) y4 h8) (dkL hn) ?_
    simp -dsimp
    refine srs hn ?_
    simp -dsimp
    rcases aj hm with ⟨c9, hm⟩ | ⟨c9, hm⟩
    ·refine a8 (b := y4.2) (by simp -dsimp) c9 ?_
     refine sr1 hn ?_
     cases hm
    ·refine a7 (b := y4.2) (by simp -dsimp) c9 ?_
     refine aa (a6 ?_)
     refine srs hn ?_
     obtain ⟨y5, h10, hm⟩ := bnd hm
     simp -dsimp [hf, c9]
     refine ag (jW y1.1 y5 h10) (dkL hn) ?_
     simp -dsimp
     refine srs hn ?_
     obtain ⟨y6, h11, hm⟩ := bnd hm
     simp -dsimp [hf]
     refine ag (jW y1.2.1 y6 h11) (dkL hn) ?_
     simp -dsimp
     refine ac ?_
     obtain ⟨a1, j16, hm⟩ := bnd hm
     refine au [(2, .u (.one (.box 2 0))), (9, .u (.one (.box 9 0))), (69, .u (.one (.d (.bool a1))))] [(2, .box [.d .nil, .d (.int .i64 0), .d .nil, .d .nil]), (9, .box [.d (.sl 2 (List.map Point.row y2)), .d (.int .i64 2), .d (.sl 1 (List.map (rI .i64) y5.1)), .d (.sl 1 (List.map (rI .i64) y6.1))])] (by rfl) (by rfl) ?_ fun ρ σ hf => ?_
     ·replace hm := j16
      clear j16
      refine sr1 hn ?_
      rcases aj hm with ⟨c12, hm⟩ | ⟨c12, hm⟩
      ·simp -dsimp [c12]
       refine a6 ?_
       cases hm
       exact EE.here (by simp -dsimp [hf])
      ·simp -dsimp [c12]
       refine a6 ?_
       cases hm
       exact EE.here (by simp -dsimp [hf])
     ·clear j16
      simp only [Fits, ar, ap, and_true] at hf
      rcases aj hm with ⟨c13, hm⟩ | ⟨c13, hm⟩
      ·refine a8 (by simp -dsimp [hf]) c13 ?_
       refine srs hn ?_
       simp -dsimp [hf]
       refine ab (ae ?_)
       cases hm
       refine ⟨.inr rfl, ?_⟩
       exact EE.here (by simp -dsimp [hf])
      ·refine a7 (by simp -dsimp [hf]) c13 ?_
       refine aa (a6 (ac ?_))
       refine srs hn ?_
       obtain ⟨y7, h14, hm⟩ := bnd hm
       simp -dsimp [hf]
       refine ag (k6 (⟨y2, 2, y5.1, y6.1⟩ : Totals) y7 h14) (dkL hn) ?_
       simp -dsimp
       rcases aj hm with ⟨c15, hm⟩ | ⟨c15, hm⟩
       ·refine a8 (b := (aD y7)) (by simp -dsimp) c15 ?_
        refine srs hn ?_
        simp -dsimp [hf, c15]
        refine ab (ae ?_)
        cases hm
        refine ⟨.inr rfl, ?_⟩
        exact EE.here (by simp -dsimp [hf])
       ·refine a7 (b := (aD y7)) (by simp -dsimp) c15 ?_
        refine aa (a6 ?_)
        refine srs hn ?_
        simp -dsimp [hf, c15]
        refine ab ?_
        cases hm
        refine ⟨.inr rfl, ?_⟩
        exact EE.here (by simp -dsimp [hf])
theorem k5 (s : List UInt8) (r : Totals × Int) (hm : eh s = some r) : PureCall Tryz.prog 37 [.u (.one (.d (.str (bs s))))] (.tup [.agg [.d (.sl 2 (List.map Point.row r.1.Hood)), .d (.int .i64 r.1.States), .d (.sl 1 (List.map (rI .i64) r.1.Birth)), .d (.sl 1 (List.map (rI .i64) r.1.Survive))], .one (.d (.int .i64 r.2))]) := (f_lifelike_Parse s r hm).pureW
theorem f_notation_Kind (s : List UInt8) (r : Int) (hm : gq s = some r) : PFn Tryz.prog 36 [.u (.one (.d (.str (bs s))))] (fun v => v.wk (.u (.one (.d (.int .i64 r))))) := by
 refine aV Tryz.func36 Tryz.ntmps36 rfl (by kernel_rfl) (by simp) fun cx hn => ?_
 unfold gq at hm
 refine srs hn ?_
 simp -dsimp
 refine ac ?_
 refine srs hn ?_
 obtain ⟨y, h1, hm⟩ := bnd hm
 simp -dsimp
 refine ag (k5 s y h1) (dkL hn) ?_
 simp -dsimp
 refine srs hn ?_
 simp -dsimp
 rcases aj hm with ⟨c2, hm⟩ | ⟨c2, hm⟩
 ·refine a8 (b := (neB y.2 15)) (by simp -dsimp) c2 ?_
  refine srs hn ?_
  simp -dsimp [c2]
  refine ab (ae ?_)
  cases hm
  refine ⟨.inr rfl, ?_⟩
  exact EE.here (by simp -dsimp)
 ·refine a7 (b := (neB y.2 15)) (by simp -dsimp) c2 ?_
  refine aa (a6 (ac ?_))
  refine srs hn ?_
  cases hm
theorem c_notation_Kind (s : List UInt8) (r : Int) (hm : gq s = some r) : PureCall Tryz.prog 36 [.u (.one (.d (.str (bs s))))] (.u (.one (.d (.int .i64 r)))) := (f_notation_Kind s r hm).pureW
theorem f_cmp_isNaN_int (x : Int) (r : Bool) (hm : dC x = some r) : PFn Tryz.prog 216 [.u (.one (.d (.int .i64 x)))] (fun v => v.wk (.u (.one (.d (.bool r))))) := by
 refine aV Tryz.func216 Tryz.ntmps216 rfl (by kernel_rfl) (by simp) fun cx hn => ?_
 unfold dC at hm
 refine srs hn ?_
 simp -dsimp
 refine srs hn ?_
 simp -dsimp
 refine ab ?_
 cases hm
 refine ⟨.inr rfl, ?_⟩
 exact EE.here (by simp -dsimp)
theorem c_cmp_isNaN_int (x : Int) (r : Bool) (hm : dC x = some r) : PureCall Tryz.prog 216 [.u (.one (.d (.int .i64 x)))] (.u (.one (.d (.bool r)))) := (f_cmp_isNaN_int x r hm).pureW
theorem f_cmp_Compare_int (x : Int) (y : Int) (r : Int) (hm : bo x y = some r) : PFn Tryz.prog 164 [.u (.one (.d (.int .i64 x))), .u (.one (.d (.int .i64 y)))] (fun v => v.wk (.u (.one (.d (.int .i64 r))))) := by
 refine aV Tryz.func164 Tryz.ntmps164 rfl (by kernel_rfl) (by simp) fun cx hn => ?_
 unfold bo at hm
 refine srs hn ?_
 simp -dsimp
 refine srs hn ?_
 obtain ⟨y1, h1, hm⟩ := bnd hm
 simp -dsimp
 refine ag (c_cmp_isNaN_int x y1 h1) (dkL hn) ?_
 simp -dsimp
 refine srs hn ?_
 obtain ⟨y2, h2, hm⟩ := bnd hm
 simp -dsimp
 refine ag (c_cmp_isNaN_int y y2 h2) (dkL hn) ?_
 simp -dsimp
 refine ac ?_
 refine srs hn ?_
 simp -dsimp
 rcases aj hm with ⟨c3, hm⟩ | ⟨c3, hm⟩
 ·refine a8 (b := y1) (by simp -dsimp) c3 ?_
  refine ac ?_
  refine srs hn ?_
  simp -dsimp [c3]
  rcases aj hm with ⟨c4, hm⟩ | ⟨c4, hm⟩
  ·refine a8 (b := y2) (by simp -dsimp) c4 ?_
   refine srs hn ?_
   simp -dsimp [c4]
   refine ab (ae (ae ?_))
   cases hm
   refine ⟨.inr rfl, ?_⟩
   exact EE.here (by simp -dsimp)
  ·refine a7 (b := y2) (by simp -dsimp) c4 ?_
   refine aa (a6 ?_)
   refine srs hn ?_
   simp -dsimp [c4]
   refine ab (ae ?_)
   cases hm
   refine ⟨.inr rfl, ?_⟩
   exact EE.here (by simp -dsimp)
 ·refine a7 (b := y1) (by simp -dsimp) c3 ?_
  refine aa (a6 (ac ?_))
  refine srs hn ?_
  simp -dsimp [c3]
  rcases aj hm with ⟨c5, hm⟩ | ⟨c5, hm⟩
  ·refine a8 (b := y2) (by simp -dsimp) c5 ?_
   refine srs hn ?_
   simp -dsimp [c5]
   refine ab (ae ?_)
   cases hm
   refine ⟨.inr rfl, ?_⟩
   exact EE.here (by simp -dsimp)
  ·refine a7 (b := y2) (by simp -dsimp) c5 ?_
   refine aa (a6 (ac ?_))
   refine srs hn ?_
   simp -dsimp [c5]
   rcases aj hm with ⟨c6, hm⟩ | ⟨c6, hm⟩
   ·refine a8 (b := (ltB x y)) (by simp -dsimp) c6 ?_
    refine srs hn ?_
    simp -dsimp [c6]
    refine ab (ae ?_)
    cases hm
    refine ⟨.inr rfl, ?_⟩
    exact EE.here (by simp -dsimp)
   ·refine a7 (b := (ltB x y)) (by simp -dsimp) c6 ?_
    refine aa (a6 (ac ?_))
    refine srs hn ?_
    simp -dsimp [c6]
    rcases aj hm with ⟨c7, hm⟩ | ⟨c7, hm⟩
    ·refine a8 (b := (gtB x y)) (by simp -dsimp) c7 ?_
     refine srs hn ?_
     simp -dsimp [c7]
     refine ab (ae ?_)
     cases hm
     refine ⟨.inr rfl, ?_⟩
     exact EE.here (by simp -dsimp)
    ·refine a7 (b := (gtB x y)) (by simp -dsimp) c7 ?_
     refine aa (a6 ?_)
     refine srs hn ?_
     simp -dsimp [c7]
     refine ab ?_
     cases hm
     refine ⟨.inr rfl, ?_⟩
     exact EE.here (by simp -dsimp)
theorem f8 (x : Int) (y : Int) (r : Int) (hm : bo x y = some r) : PureCall Tryz.prog 164 [.u (.one (.d (.int .i64 x))), .u (.one (.d (.int .i64 y)))] (.u (.one (.d (.int .i64 r)))) := (f_cmp_Compare_int x y r hm).pureW
def el (cx : Cx) (_vals : List Int) (tt : Int ⊕ Unit) (ee : Exit) (ρ : Env) (σ : Sto) : Prop := match tt with
 | .inl r => ee = .ret ∧ EE cx (fun ρ σ => ∃ v, resV tb ρ σ Tryz.f163.results.toList = some v ∧ (v.frz σ).free = true ∧ (v.frz σ).wk (.u (.one (.d (.int .i64 r))))) ρ σ
 | .inr _u => ee = .exit 0 ∧ EE cx (aS [(3, .u (.one (.d (.int .i64 0))))] []) ρ σ
theorem l_cmp_Or_int_1 (cx : Cx) (hn : cx.n = 18) (vals : List Int) {fu : Nat} {stt : Int} {tt : Int ⊕ Unit} (hh : ak (ej vals) fu stt = some tt) {ρ : Env} {σ : Sto}
  (hE : aW (fun a : Int => [(3, .u (.one (.d (.int .i64 0)))), (6, .u (.one (.d (.sl 1 (List.map (rI .i64) vals))))), (7, .u (.one (.d (.int .i64 (ah vals))))), (8, .u (.one (.d (.int .i64 a))))]) (fun _a : Int => []) stt ρ σ) : Swp Tryz.prog cx (.loop (bg [1, 1, 0, 1, 0, 0] (aK Tryz.f163))) ρ σ (el cx vals tt) := by
 refine aY hE hh (el cx vals) ?_
 rintro a r hm ρ σ hf
 simp only [Fits, ar, ap, and_true] at hf
 unfold ej at hm
 dsimp only at hm
 refine srs hn ?_
 simp -dsimp [hf]
 refine ac ?_
 rcases aj hm with ⟨c1, hm⟩ | ⟨c1, hm⟩
 ·refine a8 (b := (ltB a (ah vals))) (by simp -dsimp) c1 ?_
  refine aa (a6 (ac (ai ?_)))
  refine srs hn ?_
  obtain ⟨x, h2, hm⟩ := bnd hm
  simp -dsimp [hf, c1, h2]
  refine srs hn ?_
  simp -dsimp [hf]
  rcases aj hm with ⟨c3, hm⟩ | ⟨c3, hm⟩
  ·refine a8 (b := (neB x 0)) (by simp -dsimp) c3 ?_
   refine srs hn ?_
   simp -dsimp [c3]
   refine ab (aH (ae ?_))
   cases hm
   refine am nofun ?_
   unfold el
   dsimp only
   refine ⟨rfl, ?_⟩
   exact EE.here (by simp -dsimp [Tryz.results163])
  ·refine a7 (b := (neB x 0)) (by simp -dsimp) c3 ?_
   refine aa ?_
   refine aM ?_
   refine a6 ?_
   refine sr1 hn ?_
   simp -dsimp [hf, c3]
   cases hm
   refine az ?_
   exact EE.here (by simp -dsimp [hf])
 ·refine a7 (b := (ltB a (ah vals))) (by simp -dsimp) c1 ?_
  refine aw ?_
  refine ae ?_
  cases hm
  refine am nofun ?_
  unfold el
  dsimp only
  refine ⟨rfl, ?_⟩
  exact EE.here (by simp -dsimp [hf, c1])
theorem f_cmp_Or_int (vals : List Int) (r : Int) (hm : eH vals = some r) : PFn Tryz.prog 163 [.u (.one (.d (.sl 1 (List.map (rI .i64) vals))))] (fun v => v.wk (.u (.one (.d (.int .i64 r))))) := by
 refine aV Tryz.func163 Tryz.ntmps163 rfl (by kernel_rfl) (by simp) fun cx hn => ?_
 unfold eH at hm
 refine srs hn ?_
 simp -dsimp
 refine srs hn ?_
 simp -dsimp
 refine ac ?_
 refine srs hn ?_
 simp -dsimp
 refine ai ?_
 obtain ⟨o_, g4, hm⟩ := bnd hm
 refine aJ (l_cmp_Or_int_1 cx hn vals g4) (by
   try dsimp only
   exact EE.here (by simp -dsimp)
 ) fun ee ρ σ x5 => ?_
 rcases o_ with r | _u
 ·unfold el at x5
  dsimp only at x5
  obtain ⟨rfl, x5⟩ := x5
  refine aH (ae ?_)
  cases hm
  exact ⟨.inr rfl, x5⟩
 ·unfold el at x5
  dsimp only at x5
  obtain ⟨rfl, x5⟩ := x5
  refine av ?_
  refine a6 ?_
  refine aX (by rfl) (by rfl) x5 fun ρ σ hf => ?_
  simp only [Fits, ar, ap, and_true] at hf
  refine srs hn ?_
  simp -dsimp [hf]
  refine ab ?_
  cases hm
  refine ⟨.inr rfl, ?_⟩
  exact EE.here (by simp -dsimp)
theorem c_cmp_Or_int (vals : List Int) (r : Int) (hm : eH vals = some r) : PureCall Tryz.prog 163 [.u (.one (.d (.sl 1 (List.map (rI .i64) vals))))] (.u (.one (.d (.int .i64 r)))) := (f_cmp_Or_int vals r hm).pureW
theorem f_point_Compare (a : Point) (b : Point) (r : Int) (hm : bM a b = some r) : PFn Tryz.prog 104 [.u (.agg [.d (.int .i64 a.X), .d (.int .i64 a.Y)]), .u (.agg [.d (.int .i64 b.X), .d (.int .i64 b.Y)])] (fun v => v.wk (.u (.one (.d (.int .i64 r))))) := by
 refine aV Tryz.func104 Tryz.ntmps104 rfl (by kernel_rfl) (by simp) fun cx hn => ?_
 unfold bM at hm
 refine srs hn ?_
 simp -dsimp
 refine bF aL mixed (by rw [hn]; kernel_rfl) ?_
 obtain ⟨y, h1, hm⟩ := bnd hm
 simp -dsimp
 refine al (f8 a.Y b.Y y h1) ?_
 obtain ⟨y1, h2, hm⟩ := bnd hm
 simp -dsimp
 refine al (f8 a.X b.X y1 h2) ?_
 obtain ⟨y2, h3, hm⟩ := bnd hm
 simp -dsimp
 refine al (c_cmp_Or_int [y, y1] y2 h3) ?_
 simp -dsimp
 refine ab ?_
 cases hm
 refine ⟨.inr rfl, ?_⟩
 exact EE.here (by simp -dsimp)
theorem j0 (a : Point) (b : Point) (r : Int) (hm : bM a b = some r) : PureCall Tryz.prog 104 [.u (.agg [.d (.int .i64 a.X), .d (.int .i64 a.Y)]), .u (.agg [.d (.int .i64 b.X), .d (.int .i64 b.Y)])] (.u (.one (.d (.int .i64 r)))) := (f_point_Compare a b r hm).pureW
def e9 (cx : Cx) (_l : List Point) (tt : Bool ⊕ Unit) (ee : Exit) (ρ : Env) (σ : Sto) : Prop := match tt with
 | .inl r => ee = .ret ∧ EE cx (fun ρ σ => ∃ v, resV tb ρ σ Tryz.f109.results.toList = some v ∧ (v.frz σ).free = true ∧ (v.frz σ).wk (.u (.one (.d (.bool r))))) ρ σ
 | .inr _u => ee = .exit 0 ∧ EE cx (aS [] []) ρ σ
theorem l_hood_Right_1 (cx : Cx) (hn : cx.n = 53) (l : List Point) {fu : Nat} {stt : Int} {tt : Bool ⊕ Unit} (hh : ak (fw l) fu stt = some tt) {ρ : Env} {σ : Sto}
  (hE : aW (fun a1 : Int => [(0, .u (.one (.d (.sl 2 (List.map Point.row l))))), (13, .u (.one (.d (.sl 2 (List.map Point.row l))))), (14, .u (.one (.d (.int .i64 (ah l))))), (15, .u (.one (.d (.int .i64 a1))))]) (fun _a1 : Int => []) stt ρ σ) : Swp Tryz.prog cx (.loop (bg [1, 1, 0, 1, 0, 0] (aK Tryz.f109))) ρ σ (e9 cx l tt) := by
 refine aY hE hh (e9 cx l) ?_
 rintro a1 r hm ρ σ hf
 simp only [Fits, ar, ap, and_true] at hf
 unfold fw at hm
 dsimp only at hm
 refine srs hn ?_
 simp -dsimp [hf]
 refine ac ?_
 rcases aj hm with ⟨c3, hm⟩ | ⟨c3, hm⟩
 ·refine a8 (b := (ltB a1 (ah l))) (by simp -dsimp) c3 ?_
  refine aa (a6 (ac (ai ?_)))
  refine srs hn ?_
  obtain ⟨x, h4, hm⟩ := bnd hm
  simp -dsimp [hf, c3, h4]
  obtain ⟨a2, j13, hm⟩ := bnd hm
  refine au [(0, .u (.one (.d (.sl 2 (List.map Point.row l))))), (13, .u (.one (.d (.sl 2 (List.map Point.row l))))), (14, .u (.one (.d (.int .i64 (ah l))))), (15, .u (.one (.d (.int .i64 a1)))), (51, .u (.one (.d (.bool a2))))] [] (by rfl) (by rfl) ?_ fun ρ σ hf => ?_
  ·replace hm := j13
   clear j13
   refine iR aL mixed (by rw [hn]; kernel_rfl) ?_
   rcases aj hm with ⟨c5, hm⟩ | ⟨c5, hm⟩
   ·simp -dsimp [c5]
    refine a6 ?_
    cases hm
    exact EE.here (by simp -dsimp [hf])
   ·rcases aj hm with ⟨c6, hm⟩ | ⟨c6, hm⟩
    ·simp -dsimp [c5, c6]
     refine a6 ?_
     cases hm
     exact EE.here (by simp -dsimp [hf])
    ·rcases aj hm with ⟨c7, hm⟩ | ⟨c7, hm⟩
     ·simp -dsimp [c5, c6, c7]
      refine a6 ?_
      cases hm
      exact EE.here (by simp -dsimp [hf])
     ·rcases aj hm with ⟨c8, hm⟩ | ⟨c8, hm⟩
      ·simp -dsimp [c5, c6, c7, c8]
       refine a6 ?_
       cases hm
       exact EE.here (by simp -dsimp [hf])
      ·rcases aj hm with ⟨c9, hm⟩ | ⟨c9, hm⟩
       ·obtain ⟨x1, h10, hm⟩ := bnd hm
        obtain ⟨y, h11, hm⟩ := bnd hm
        simp -dsimp [hf, c5, c6, c7, c8, c9, h10]
        refine al (j0 x1 x y h11) ?_
        simp -dsimp
        refine a6 ?_
        cases hm
        exact EE.here (by simp -dsimp [hf])
       ·simp -dsimp [c5, c6, c7, c8, c9]
        refine a6 ?_
        cases hm
        exact EE.here (by simp -dsimp [hf])
  ·clear j13
   simp only [Fits, ar, ap, and_true] at hf
   rcases aj hm with ⟨c12, hm⟩ | ⟨c12, hm⟩
   ·refine a8 (by simp -dsimp [hf]) c12 ?_
    refine srs hn ?_
    simp -dsimp
    refine ab (aH (ae ?_))
    cases hm
    refine am nofun ?_
    unfold e9
    dsimp only
    refine ⟨rfl, ?_⟩
    exact EE.here (by simp -dsimp [Tryz.results109])
   ·refine a7 (by simp -dsimp [hf]) c12 ?_
    refine aa ?_
    refine aM ?_
    refine a6 ?_
    refine sr1 hn ?_
    simp -dsimp [hf]
    cases hm
    refine az ?_
    exact EE.here (by simp -dsimp [hf])
 ·refine a7 (b := (ltB a1 (ah l))) (by simp -dsimp) c3 ?_
  refine aw ?_
  refine ae ?_
  cases hm
  refine am nofun ?_
  unfold e9
  dsimp only
  refine ⟨rfl, ?_⟩
  exact EE.here (by simp -dsimp [c3])
set_option maxRecDepth 20000 in
theorem f_hood_Right (l : List Point) (r : Bool) (hm : eA l = some r) : PFn Tryz.prog 109 [.u (.one (.d (.sl 2 (List.map Point.row l))))] (fun v => v.wk (.u (.one (.d (.bool r))))) := by
 refine aV Tryz.func109 Tryz.ntmps109 rfl (by kernel_rfl) (by simp) fun cx hn => ?_
 unfold eA at hm
 refine srs hn ?_
 simp -dsimp
 refine ac ?_
 obtain ⟨a, j16, hm⟩ := bnd hm
 refine au [(0, .u (.one (.d (.sl 2 (List.map Point.row l))))), (12, .u (.one (.d (.bool a))))] [] (by rfl) (by rfl) ?_ fun ρ σ hf => ?_
 ·replace hm := j16
  clear j16
  refine sr1 hn ?_
  rcases aj hm with ⟨c1, hm⟩ | ⟨c1, hm⟩
  ·simp -dsimp [c1]
   refine a6 ?_
   cases hm
   exact EE.here (by simp -dsimp)
  ·simp -dsimp [c1]
   refine a6 ?_
   cases hm
   exact EE.here (by simp -dsimp)
 ·clear j16
  simp only [Fits, ar, ap, and_true] at hf
  rcases aj hm with ⟨c2, hm⟩ | ⟨c2, hm⟩
  ·refine a8 (by simp -dsimp [hf]) c2 ?_
   refine srs hn ?_
   simp -dsimp
   refine ab (ae ?_)
   cases hm
   refine ⟨.inr rfl, ?_⟩
   exact EE.here (by simp -dsimp)
  ·refine a7 (by simp -dsimp [hf]) c2 ?_
   refine aa (a6 (ac ?_))
   refine srs hn ?_
   simp -dsimp [hf]
   refine ai ?_
   obtain ⟨o_, g14, hm⟩ := bnd hm
   refine aJ (l_hood_Right_1 cx hn l g14) (by
     try dsimp only
     exact EE.here (by simp -dsimp [hf])
   ) fun ee ρ σ x15 => ?_
   rcases o_ with r | _u
   ·unfold e9 at x15
    dsimp only at x15
    obtain ⟨rfl, x15⟩ := x15
    refine aH (ae ?_)
    cases hm
    exact ⟨.inr rfl, x15⟩
   ·unfold e9 at x15
    dsimp only at x15
    obtain ⟨rfl, x15⟩ := x15
    refine av ?_
    refine a6 ?_
    refine aX (by rfl) (by rfl) x15 fun ρ σ hf => ?_
    simp only [Fits, ar, ap, and_true] at hf
    refine srs hn ?_
    simp -dsimp
    refine ab ?_
    cases hm
    refine ⟨.inr rfl, ?_⟩
    exact EE.here (by simp -dsimp)
theorem c_hood_Right (l : List Point) (r : Bool) (hm : eA l = some r) : PureCall Tryz.prog 109 [.u (.one (.d (.sl 2 (List.map Point.row l))))] (.u (.one (.d (.bool r)))) := (f_hood_Right l r hm).pureW
def aU (cx : Cx) (_s : List Point) (_v : Point) (tt : Int ⊕ Unit) (ee : Exit) (ρ : Env) (σ : Sto) : Prop := match tt with
 | .inl r => ee = .ret ∧ EE cx (fun ρ σ => ∃ v, resV tb ρ σ Tryz.f140.results.toList = some v ∧ (v.frz σ).free = true ∧ (v.frz σ).wk (.u (.one (.d (.int .i64 r))))) ρ σ
 | .inr _u => ee = .exit 0 ∧ EE cx (aS [] []) ρ σ
theorem fZ (cx : Cx) (hn : cx.n = 19) (s : List Point) (v : Point) {fu : Nat} {stt : Int} {tt : Int ⊕ Unit} (hh : ak (bD s v) fu stt = some tt) {ρ : Env} {σ : Sto}
  (hE : aW (fun a : Int => [(0, .u (.one (.d (.sl 2 (List.map Point.row s))))), (3, .u (.one (.box 3 0))), (7, .u (.one (.d (.int .i64 (ah s))))), (8, .u (.one (.d (.int .i64 a))))]) (fun _a : Int => [(3, .box [.d (.int .i64 v.X), .d (.int .i64 v.Y)])]) stt ρ σ) : Swp Tryz.prog cx (.loop (bg [1, 0, 1, 0, 0] (aK Tryz.f140))) ρ σ (aU cx s v tt) := by
 refine aY hE hh (aU cx s v) ?_
 rintro a r hm ρ σ hf
 simp only [Fits, ar, ap, and_true] at hf
 unfold bD at hm
 dsimp only at hm
 refine srs hn ?_
 simp -dsimp [hf]
 refine ac ?_
 rcases aj hm with ⟨c1, hm⟩ | ⟨c1, hm⟩
 ·refine a8 (b := (ltB a (ah s))) (by simp -dsimp) c1 ?_
  refine aa (a6 (ac (ai ?_)))
  refine srs hn ?_
  simp -dsimp [hf, c1]
  refine bF aL mixed (by rw [hn]; kernel_rfl) ?_
  obtain ⟨x, h2, hm⟩ := bnd hm
  simp -dsimp [hf, h2]
  rcases aj hm with ⟨c3, hm⟩ | ⟨c3, hm⟩
  ·refine a8 (b := (bY (eqB v.X x.X) (bY (eqB v.Y x.Y) true))) (by simp -dsimp) c3 ?_
   refine srs hn ?_
   simp -dsimp [c3]
   refine ab (aH (ae ?_))
   cases hm
   refine am nofun ?_
   unfold aU
   dsimp only
   refine ⟨rfl, ?_⟩
   exact EE.here (by simp -dsimp [Tryz.results140])
  ·refine a7 (b := (bY (eqB v.X x.X) (bY (eqB v.Y x.Y) true))) (by simp -dsimp) c3 ?_
   refine aa ?_
   refine aM ?_
   refine a6 ?_
   refine sr1 hn ?_
   simp -dsimp [hf, c3]
   cases hm
   refine az ?_
   exact EE.here (by simp -dsimp [hf])
 ·refine a7 (b := (ltB a (ah s))) (by simp -dsimp) c1 ?_
  refine aw ?_
  refine ae ?_
  cases hm
  refine am nofun ?_
  unfold aU
  dsimp only
  refine ⟨rfl, ?_⟩
  exact EE.here (by simp -dsimp [c1])
theorem gA (s : List Point) (v : Point) (r : Int) (hm : bb s v = some r) : PFn Tryz.prog 140 [.u (.one (.d (.sl 2 (List.map Point.row s)))), .u (.agg [.d (.int .i64 v.X), .d (.int .i64 v.Y)])] (fun v => v.wk (.u (.one (.d (.int .i64 r))))) := by
 refine aV Tryz.func140 Tryz.ntmps140 rfl (by kernel_rfl) (by simp) fun cx hn => ?_
 unfold bb at hm
 refine srs hn ?_
 simp -dsimp
 refine ac ?_
 refine srs hn ?_
 simp -dsimp
 refine ai ?_
 obtain ⟨o_, g4, hm⟩ := bnd hm
 refine aJ (fZ cx hn s v g4) (by
   try dsimp only
   exact EE.here (by simp -dsimp)
 ) fun ee ρ σ x5 => ?_
 rcases o_ with r | _u
 ·unfold aU at x5
  dsimp only at x5
  obtain ⟨rfl, x5⟩ := x5
  refine aH (ae ?_)
  cases hm
  exact ⟨.inr rfl, x5⟩
 ·unfold aU at x5
  dsimp only at x5
  obtain ⟨rfl, x5⟩ := x5
  refine av ?_
  refine a6 ?_
  refine aX (by rfl) (by rfl) x5 fun ρ σ hf => ?_
  simp only [Fits, ar, ap, and_true] at hf
  refine srs hn ?_
  simp -dsimp
  refine ab ?_
  cases hm
  refine ⟨.inr rfl, ?_⟩
  exact EE.here (by simp -dsimp)
theorem gz (s : List Point) (v : Point) (r : Int) (hm : bb s v = some r) : PureCall Tryz.prog 140 [.u (.one (.d (.sl 2 (List.map Point.row s)))), .u (.agg [.d (.int .i64 v.X), .d (.int .i64 v.Y)])] (.u (.one (.d (.int .i64 r)))) := (gA s v r hm).pureW
theorem f_hood_Centre (l : List Point) (r : Int) (hm : iI l = some r) : PFn Tryz.prog 77 [.u (.one (.d (.sl 2 (List.map Point.row l))))] (fun v => v.wk (.u (.one (.d (.int .i64 r))))) := by
 refine aV Tryz.func77 Tryz.ntmps77 rfl (by kernel_rfl) (by simp) fun cx hn => ?_
 unfold iI at hm
 refine srs hn ?_
 simp -dsimp
 refine ac ?_
 refine srs hn ?_
 obtain ⟨y, h1, hm⟩ := bnd hm
 simp -dsimp
 refine ag (c_hood_Right l y h1) (dkL hn) ?_
 simp -dsimp
 rcases aj hm with ⟨c2, hm⟩ | ⟨c2, hm⟩
 ·refine a8 (b := (aD y)) (by simp -dsimp) c2 ?_
  refine srs hn ?_
  simp -dsimp [c2]
  refine ab (ae ?_)
  cases hm
  refine ⟨.inr rfl, ?_⟩
  exact EE.here (by simp -dsimp)
 ·refine a7 (b := (aD y)) (by simp -dsimp) c2 ?_
  refine aa (a6 ?_)
  refine srs hn ?_
  obtain ⟨y1, h3, hm⟩ := bnd hm
  simp -dsimp [c2]
  refine ag (gz l (⟨0, 0⟩ : Point) y1 h3) (dkL hn) ?_
  simp -dsimp
  refine ab ?_
  cases hm
  refine ⟨.inr rfl, ?_⟩
  exact EE.here (by simp -dsimp)
theorem c_hood_Centre (l : List Point) (r : Int) (hm : iI l = some r) : PureCall Tryz.prog 77 [.u (.one (.d (.sl 2 (List.map Point.row l))))] (.u (.one (.d (.int .i64 r)))) := (f_hood_Centre l r hm).pureW
end Go.Proofs.YtfpjnmhdbgbmmaaGreatDoor
