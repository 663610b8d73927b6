/- That the code does what the functions say (made by cc.py). -/
import Derived.Test.YtogdjcdmbodmiaaGreatDoorMd1
import Derived.Test.YtogdjcdmbodmiaaGreatDoorTb
import Derived.Test.YtogdjcdmbodmiaaGreatDoorLays
namespace Go.Proofs.YtogdjcdmbodmiaaGreatDoor
open Go.AM Go.Proofs
attribute [-simp] qlookup cJ cG Ob.wipe Ob.ren Ob.frz1 bX dz dJ fw Prod.forall Key.u
theorem fc (s : List UInt8) (prefix_ : List UInt8) (r : Bool) (hm : aU s prefix_ = some r) : PFn Tryz.prog 112 [.u (.one (.d (.str (bs s)))), .u (.one (.d (.str (bs prefix_))))] (fun v => v.wk (.u (.one (.d (.bool r))))) := by
 refine bv Tryz.func112 Tryz.ntmps112 rfl (by kernel_rfl) (by simp) fun cx hn => ?_
 unfold aU at hm
 refine srs hn ?_
 simp -dsimp
 obtain ⟨a, j3, hm⟩ := bnd hm
 refine au [(4, .u (.one (.d (.bool a))))] [] (by rfl) (by rfl) ?_ fun ρ σ hf => ?_
 ·replace hm := j3
  clear j3
  refine sr1 hn ?_
  rcases ai hm with ⟨c1, hm⟩ | ⟨c1, hm⟩
  ·obtain ⟨s1, h2, hm⟩ := bnd hm
   simp -dsimp [c1, h2]
   refine a6 ?_
   cases hm
   exact EE.here (by simp -dsimp)
  ·simp -dsimp [c1]
   refine a6 ?_
   cases hm
   exact EE.here (by simp -dsimp)
 ·clear j3
  simp only [Fits, ap, ar, and_true] at hf
  refine ac ?_
  cases hm
  refine ⟨.inr rfl, ?_⟩
  exact EE.here (by simp -dsimp [hf])
theorem dc (s : List UInt8) (prefix_ : List UInt8) (r : Bool) (hm : aU s prefix_ = some r) : PureCall Tryz.prog 112 [.u (.one (.d (.str (bs s)))), .u (.one (.d (.str (bs prefix_))))] (.u (.one (.d (.bool r)))) := (fc s prefix_ r hm).pureW
theorem fe (s : List UInt8) (prefix_ : List UInt8) (r : (List UInt8) × Bool) (hm : bh s prefix_ = some r) : PFn Tryz.prog 114 [.u (.one (.d (.str (bs s)))), .u (.one (.d (.str (bs prefix_))))] (fun v => v.wk (.tup [.one (.d (.str (bs r.1))), .one (.d (.bool r.2))])) := by
 refine bv Tryz.func114 Tryz.ntmps114 rfl (by kernel_rfl) (by simp) fun cx hn => ?_
 unfold bh at hm
 refine srs hn ?_
 simp -dsimp
 refine ae ?_
 refine srs hn ?_
 obtain ⟨y, h1, hm⟩ := bnd hm
 simp -dsimp
 refine aa (dc s prefix_ y h1) (dkL hn) ?_
 simp -dsimp
 rcases ai hm with ⟨c2, hm⟩ | ⟨c2, hm⟩
 ·refine a8 (by simp -dsimp) c2 ?_
  refine srs hn ?_
  simp -dsimp [c2]
  refine ac (ag ?_)
  cases hm
  refine ⟨.inr rfl, ?_⟩
  exact EE.here (by simp -dsimp)
 ·refine a7 (by simp -dsimp) c2 ?_
  refine ab (a6 ?_)
  refine srs hn ?_
  obtain ⟨s1, h3, hm⟩ := bnd hm
  simp -dsimp [c2, h3]
  refine ac ?_
  cases hm
  refine ⟨.inr rfl, ?_⟩
  exact EE.here (by simp -dsimp)
theorem fA (s : List UInt8) (prefix_ : List UInt8) (r : (List UInt8) × Bool) (hm : bh s prefix_ = some r) : PureCall Tryz.prog 114 [.u (.one (.d (.str (bs s)))), .u (.one (.d (.str (bs prefix_))))] (.tup [.one (.d (.str (bs r.1))), .one (.d (.bool r.2))]) := (fe s prefix_ r hm).pureW
theorem f_strings_CutPrefix (s : List UInt8) (prefix_ : List UInt8) (r : (List UInt8) × Bool) (hm : aY s prefix_ = some r) : PFn Tryz.prog 51 [.u (.one (.d (.str (bs s)))), .u (.one (.d (.str (bs prefix_))))] (fun v => v.wk (.tup [.one (.d (.str (bs r.1))), .one (.d (.bool r.2))])) := by
 refine bv Tryz.func51 Tryz.ntmps51 rfl (by kernel_rfl) (by simp) fun cx hn => ?_
 unfold aY at hm
 refine srs hn ?_
 simp -dsimp
 refine srs hn ?_
 obtain ⟨y, h1, hm⟩ := bnd hm
 simp -dsimp
 refine aa (fA s prefix_ y h1) (dkL hn) ?_
 simp -dsimp
 refine ac ?_
 cases hm
 refine ⟨.inr rfl, ?_⟩
 exact EE.here (by simp -dsimp)
theorem bY (s : List UInt8) (prefix_ : List UInt8) (r : (List UInt8) × Bool) (hm : aY s prefix_ = some r) : PureCall Tryz.prog 51 [.u (.one (.d (.str (bs s)))), .u (.one (.d (.str (bs prefix_))))] (.tup [.one (.d (.str (bs r.1))), .one (.d (.bool r.2))]) := (f_strings_CutPrefix s prefix_ r hm).pureW
theorem c_strings_Cut (s sep : List UInt8) (r : (List UInt8) × (List UInt8) × Bool) (hm : gR s sep = some r) : PureCall Tryz.prog 52 [.u (.one (.d (.str (bs s)))), .u (.one (.d (.str (bs sep))))] (.tup [.one (.d (.str (bs r.1))), .one (.d (.str (bs r.2.1))), .one (.d (.bool r.2.2))]) := cut_pure cutL (by kernel_rfl) rfl ⟨_, Tryz.func52, by decide, rfl⟩ hm
theorem f_hood_Moore_1 (x : Int) (y : Int) (r : Bool) (hm : fb x y = some r) : PFn Tryz.prog 117 [.u (.one (.d (.int .i64 x))), .u (.one (.d (.int .i64 y)))] (fun v => v.wk (.u (.one (.d (.bool r))))) := by
 refine bv Tryz.func117 Tryz.ntmps117 rfl (by kernel_rfl) (by simp) fun cx hn => ?_
 unfold fb at hm
 refine srs hn ?_
 simp -dsimp
 refine srs hn ?_
 simp -dsimp
 refine ac ?_
 cases hm
 refine ⟨.inr rfl, ?_⟩
 exact EE.here (by simp -dsimp)
theorem c_hood_Moore_1 (x : Int) (y : Int) (r : Bool) (hm : fb x y = some r) : PureCall Tryz.prog 117 [.u (.one (.d (.int .i64 x))), .u (.one (.d (.int .i64 y)))] (.u (.one (.d (.bool r)))) := (f_hood_Moore_1 x y r hm).pureW
def bI (cx : Cx) (r_ : Int) (y : Int) (tt : (List Point)) (ee : Exit) (ρ : Env) (σ : Sto) : Prop := match tt with
 | l1 => ee = .exit 2 ∧ EE cx (b4 [(0, .u (.one (.d (.int .i64 r_)))), (1, .u (.one (.fn 117 []))), (5, .u (.one (.own 5000))), (6, .u (.one (.d (.int .i64 y))))] [(5000, .row 2 76 (List.map Point.row l1))]) ρ σ
theorem fQ (cx : Cx) (hn : cx.n = 33) (r_ : Int) (y : Int) {fu : Nat} {stt : Int × (List Point)} {tt : (List Point)} (hh : am (cy r_ y) fu stt = some tt) {ρ : Env} {σ : Sto}
  (hE : bT (fun stt : Int × (List Point) => match stt with | (x, _l1) => [(0, .u (.one (.d (.int .i64 r_)))), (1, .u (.one (.fn 117 []))), (5, .u (.one (.own 5000))), (6, .u (.one (.d (.int .i64 y)))), (7, .u (.one (.d (.int .i64 x))))]) (fun stt : Int × (List Point) => match stt with | (_x, l1) => [(5000, .row 2 76 (List.map Point.row l1))]) stt ρ σ) : Swp Tryz.prog cx (.loop (d4 [1, 1, 0, 1, 0, 0, 1, 0, 0, 1, 0, 0] (aZ Tryz.f116))) ρ σ (bI cx r_ y tt) := by
 refine cd hE hh (bI cx r_ y) ?_
 rintro ⟨x, l1⟩ r hm ρ σ hf
 simp only [Fits, ap, ar, and_true] at hf
 unfold cy at hm
 dsimp only at hm
 refine ae ?_
 refine srs hn ?_
 simp -dsimp [hf]
 rcases ai hm with ⟨c2, hm⟩ | ⟨c2, hm⟩
 ·refine a8 (by simp -dsimp) c2 ?_
  refine ab (a6 ?_)
  obtain ⟨l2, j6, hm⟩ := bnd hm
  refine au [(0, .u (.one (.d (.int .i64 r_)))), (1, .u (.one (.fn 117 []))), (5, .u (.one (.own 5000))), (6, .u (.one (.d (.int .i64 y)))), (7, .u (.one (.d (.int .i64 x))))] [(5000, .row 2 76 (List.map Point.row l2))] (by rfl) (by rfl) ?_ fun ρ σ hf => ?_
  ·replace hm := j6
   clear j6
   refine ah ?_
   refine srs hn ?_
   obtain ⟨y1, h3, hm⟩ := bnd hm
   simp -dsimp [hf, c2]
   refine aa (c_hood_Moore_1 x y y1 h3) (dkL hn) ?_
   simp -dsimp
   rcases ai hm with ⟨c4, hm⟩ | ⟨c4, hm⟩
   ·refine a8 (by simp -dsimp) c4 ?_
    refine sr1 hn ?_
    obtain ⟨l2, h5, hm⟩ := bnd hm
    obtain ⟨h5a, h5e⟩ := aQ h5
    replace h5e := h5e.symm
    subst h5e
    try simp only [List.length_cons, List.length_nil, Nat.zero_add] at h5a
    simp -dsimp [hf, c4, h5a]
    refine aV ?_
    refine a6 ?_
    cases hm
    refine EE.step (Wk.move 31 5000 (by decide) (.inl (by decide))) ?_
    exact EE.here (by simp -dsimp [hf])
   ·refine a7 (by simp -dsimp) c4 ?_
    refine ab ?_
    refine aV ?_
    refine a6 ?_
    cases hm
    exact EE.here (by simp -dsimp [hf, c4])
  ·clear j6
   simp only [Fits, ap, ar, and_true] at hf
   refine sr1 hn ?_
   simp -dsimp [hf]
   cases hm
   refine aI ?_
   exact EE.here (by simp -dsimp [hf])
 ·refine a7 (by simp -dsimp) c2 ?_
  refine aC ?_
  refine ag ?_
  cases hm
  refine aB nofun ?_
  unfold bI
  dsimp only
  refine ⟨rfl, ?_⟩
  exact EE.here (by simp -dsimp [hf, c2])
def bJ (cx : Cx) (_r_ : Int) (tt : (List Point)) (ee : Exit) (ρ : Env) (σ : Sto) : Prop := match tt with
 | l => ee = .exit 0 ∧ EE cx (b4 [(5, .u (.one (.own 5000)))] [(5000, .row 2 76 (List.map Point.row l))]) ρ σ
theorem fS (cx : Cx) (hn : cx.n = 33) (r_ : Int) {fu : Nat} {stt : Int × (List Point)} {tt : (List Point)} (hh : am (cz r_) fu stt = some tt) {ρ : Env} {σ : Sto}
  (hE : bT (fun stt : Int × (List Point) => match stt with | (y, _l) => [(0, .u (.one (.d (.int .i64 r_)))), (1, .u (.one (.fn 117 []))), (5, .u (.one (.own 5000))), (6, .u (.one (.d (.int .i64 y))))]) (fun stt : Int × (List Point) => match stt with | (_y, l) => [(5000, .row 2 76 (List.map Point.row l))]) stt ρ σ) : Swp Tryz.prog cx (.loop (d4 [1, 1, 0, 1, 0, 0] (aZ Tryz.f116))) ρ σ (bJ cx r_ tt) := by
 refine cd hE hh (bJ cx r_) ?_
 rintro ⟨y, l⟩ r hm ρ σ hf
 simp only [Fits, ap, ar, and_true] at hf
 unfold cz at hm
 dsimp only at hm
 refine ae ?_
 refine srs hn ?_
 simp -dsimp [hf]
 rcases ai hm with ⟨c1, hm⟩ | ⟨c1, hm⟩
 ·refine a8 (by simp -dsimp) c1 ?_
  refine ab (a6 (ae (ah ?_)))
  refine srs hn ?_
  simp -dsimp [hf, c1]
  refine ah ?_
  obtain ⟨l1, g7, hm⟩ := bnd hm
  refine bf (fQ cx hn r_ y g7) (by
    try dsimp only
    exact EE.here (by simp -dsimp [hf])
  ) fun ee ρ σ x8 => ?_
  unfold bI at x8
  dsimp only at x8
  obtain ⟨rfl, x8⟩ := x8
  refine aD ?_
  refine aV ?_
  refine a6 ?_
  refine bN (by rfl) (by rfl) x8 fun ρ σ hf => ?_
  simp only [Fits, ap, ar, and_true] at hf
  refine sr1 hn ?_
  simp -dsimp [hf]
  cases hm
  refine aI ?_
  exact EE.here (by simp -dsimp [hf])
 ·refine a7 (by simp -dsimp) c1 ?_
  refine aC ?_
  refine ag ?_
  cases hm
  refine aB nofun ?_
  unfold bJ
  dsimp only
  refine ⟨rfl, ?_⟩
  exact EE.here (by simp -dsimp [hf, c1])
theorem gl (r_ : Int) (r : List Point) (hm : bR r_ = some r) : PFn Tryz.prog 116 [.u (.one (.d (.int .i64 r_))), .u (.one (.fn 117 []))] (fun v => v.wk (.u (.one (.d (.sl 2 (List.map Point.row r)))))) := by
 refine bv Tryz.func116 Tryz.ntmps116 rfl (by kernel_rfl) (by simp) fun cx hn => ?_
 unfold bR at hm
 refine srs hn ?_
 simp -dsimp
 refine srs hn ?_
 simp -dsimp
 refine ae ?_
 refine srs hn ?_
 simp -dsimp
 refine ah ?_
 obtain ⟨l, g9, hm⟩ := bnd hm
 refine bf (fS cx hn r_ g9) (by
   try dsimp only
   refine EE.step (Wk.own0 5 5000 2 76 (by simp -dsimp) (by decide)) ?_
   exact EE.here (by simp -dsimp)
 ) fun ee ρ σ x10 => ?_
 unfold bJ at x10
 dsimp only at x10
 obtain ⟨rfl, x10⟩ := x10
 refine aD ?_
 refine a6 ?_
 refine bN (by rfl) (by rfl) x10 fun ρ σ hf => ?_
 simp only [Fits, ap, ar, and_true] at hf
 refine srs hn ?_
 simp -dsimp [hf]
 refine ac ?_
 cases hm
 refine ⟨.inr rfl, ?_⟩
 exact EE.here (by simp -dsimp [hf])
theorem gg (r_ : Int) (r : List Point) (hm : bR r_ = some r) : PureCall Tryz.prog 116 [.u (.one (.d (.int .i64 r_))), .u (.one (.fn 117 []))] (.u (.one (.d (.sl 2 (List.map Point.row r))))) := (gl r_ r hm).pureW
theorem f_hood_Moore (r_ : Int) (r : List Point) (hm : eA r_ = some r) : PFn Tryz.prog 53 [.u (.one (.d (.int .i64 r_)))] (fun v => v.wk (.u (.one (.d (.sl 2 (List.map Point.row r)))))) := by
 refine bv Tryz.func53 Tryz.ntmps53 rfl (by kernel_rfl) (by simp) fun cx hn => ?_
 unfold eA at hm
 refine srs hn ?_
 simp -dsimp
 refine ae ?_
 obtain ⟨a, j4, hm⟩ := bnd hm
 refine au [(0, .u (.one (.d (.int .i64 r_)))), (8, .u (.one (.d (.bool a))))] [] (by rfl) (by rfl) ?_ fun ρ σ hf => ?_
 ·replace hm := j4
  clear j4
  refine sr1 hn ?_
  rcases ai hm with ⟨c1, hm⟩ | ⟨c1, hm⟩
  ·simp -dsimp [c1]
   refine a6 ?_
   cases hm
   exact EE.here (by simp -dsimp)
  ·simp -dsimp [c1]
   refine a6 ?_
   cases hm
   exact EE.here (by simp -dsimp)
 ·clear j4
  simp only [Fits, ap, ar, and_true] at hf
  rcases ai hm with ⟨c2, hm⟩ | ⟨c2, hm⟩
  ·refine a8 (by simp -dsimp [hf]) c2 ?_
   refine srs hn ?_
   simp -dsimp
   refine ac (ag ?_)
   cases hm
   refine ⟨.inr rfl, ?_⟩
   exact EE.here (by simp -dsimp)
  ·refine a7 (by simp -dsimp [hf]) c2 ?_
   refine ab (a6 ?_)
   refine srs hn ?_
   obtain ⟨y, h3, hm⟩ := bnd hm
   simp -dsimp [hf]
   refine aa (gg r_ y h3) (dkL hn) ?_
   simp -dsimp
   refine ac ?_
   cases hm
   refine ⟨.inr rfl, ?_⟩
   exact EE.here (by simp -dsimp)
theorem il (r_ : Int) (r : List Point) (hm : eA r_ = some r) : PureCall Tryz.prog 53 [.u (.one (.d (.int .i64 r_)))] (.u (.one (.d (.sl 2 (List.map Point.row r))))) := (f_hood_Moore r_ r hm).pureW
theorem fk (s : List UInt8) (suffix : List UInt8) (r : Bool) (hm : bj s suffix = some r) : PFn Tryz.prog 176 [.u (.one (.d (.str (bs s)))), .u (.one (.d (.str (bs suffix))))] (fun v => v.wk (.u (.one (.d (.bool r))))) := by
 refine bv Tryz.func176 Tryz.ntmps176 rfl (by kernel_rfl) (by simp) fun cx hn => ?_
 unfold bj at hm
 refine srs hn ?_
 simp -dsimp
 obtain ⟨a, j3, hm⟩ := bnd hm
 refine au [(4, .u (.one (.d (.bool a))))] [] (by rfl) (by rfl) ?_ fun ρ σ hf => ?_
 ·replace hm := j3
  clear j3
  refine sr1 hn ?_
  rcases ai hm with ⟨c1, hm⟩ | ⟨c1, hm⟩
  ·obtain ⟨s1, h2, hm⟩ := bnd hm
   simp -dsimp [c1, h2]
   refine a6 ?_
   cases hm
   exact EE.here (by simp -dsimp)
  ·simp -dsimp [c1]
   refine a6 ?_
   cases hm
   exact EE.here (by simp -dsimp)
 ·clear j3
  simp only [Fits, ap, ar, and_true] at hf
  refine ac ?_
  cases hm
  refine ⟨.inr rfl, ?_⟩
  exact EE.here (by simp -dsimp [hf])
theorem fp (s : List UInt8) (suffix : List UInt8) (r : Bool) (hm : bj s suffix = some r) : PureCall Tryz.prog 176 [.u (.one (.d (.str (bs s)))), .u (.one (.d (.str (bs suffix))))] (.u (.one (.d (.bool r)))) := (fk s suffix r hm).pureW
theorem fz (s : List UInt8) (suffix : List UInt8) (r : (List UInt8) × Bool) (hm : bk s suffix = some r) : PFn Tryz.prog 118 [.u (.one (.d (.str (bs s)))), .u (.one (.d (.str (bs suffix))))] (fun v => v.wk (.tup [.one (.d (.str (bs r.1))), .one (.d (.bool r.2))])) := by
 refine bv Tryz.func118 Tryz.ntmps118 rfl (by kernel_rfl) (by simp) fun cx hn => ?_
 unfold bk at hm
 refine srs hn ?_
 simp -dsimp
 refine ae ?_
 refine srs hn ?_
 obtain ⟨y, h1, hm⟩ := bnd hm
 simp -dsimp
 refine aa (fp s suffix y h1) (dkL hn) ?_
 simp -dsimp
 rcases ai hm with ⟨c2, hm⟩ | ⟨c2, hm⟩
 ·refine a8 (by simp -dsimp) c2 ?_
  refine srs hn ?_
  simp -dsimp [c2]
  refine ac (ag ?_)
  cases hm
  refine ⟨.inr rfl, ?_⟩
  exact EE.here (by simp -dsimp)
 ·refine a7 (by simp -dsimp) c2 ?_
  refine ab (a6 ?_)
  refine srs hn ?_
  obtain ⟨s1, h3, hm⟩ := bnd hm
  simp -dsimp [c2, h3]
  refine ac ?_
  cases hm
  refine ⟨.inr rfl, ?_⟩
  exact EE.here (by simp -dsimp)
theorem fj (s : List UInt8) (suffix : List UInt8) (r : (List UInt8) × Bool) (hm : bk s suffix = some r) : PureCall Tryz.prog 118 [.u (.one (.d (.str (bs s)))), .u (.one (.d (.str (bs suffix))))] (.tup [.one (.d (.str (bs r.1))), .one (.d (.bool r.2))]) := (fz s suffix r hm).pureW
theorem f_strings_CutSuffix (s : List UInt8) (suffix : List UInt8) (r : (List UInt8) × Bool) (hm : bG s suffix = some r) : PFn Tryz.prog 54 [.u (.one (.d (.str (bs s)))), .u (.one (.d (.str (bs suffix))))] (fun v => v.wk (.tup [.one (.d (.str (bs r.1))), .one (.d (.bool r.2))])) := by
 refine bv Tryz.func54 Tryz.ntmps54 rfl (by kernel_rfl) (by simp) fun cx hn => ?_
 unfold bG at hm
 refine srs hn ?_
 simp -dsimp
 refine srs hn ?_
 obtain ⟨y, h1, hm⟩ := bnd hm
 simp -dsimp
 refine aa (fj s suffix y h1) (dkL hn) ?_
 simp -dsimp
 refine ac ?_
 cases hm
 refine ⟨.inr rfl, ?_⟩
 exact EE.here (by simp -dsimp)
theorem dq (s : List UInt8) (suffix : List UInt8) (r : (List UInt8) × Bool) (hm : bG s suffix = some r) : PureCall Tryz.prog 54 [.u (.one (.d (.str (bs s)))), .u (.one (.d (.str (bs suffix))))] (.tup [.one (.d (.str (bs r.1))), .one (.d (.bool r.2))]) := (f_strings_CutSuffix s suffix r hm).pureW
def bP (cx : Cx) (_l : List Int) (_n : Int) (tt : Bool ⊕ Unit) (ee : Exit) (ρ : Env) (σ : Sto) : Prop := match tt with
 | .inl r => ee = .ret ∧ EE cx (fun ρ σ => ∃ v, eH tb ρ σ Tryz.f121.results.toList = some v ∧ (v.frz σ).free = true ∧ (v.frz σ).wk (.u (.one (.d (.bool r))))) ρ σ
 | .inr _u => ee = .exit 0 ∧ EE cx (b4 [] []) ρ σ
theorem l_lifelike_ascends_1 (cx : Cx) (hn : cx.n = 24) (l : List Int) (n : Int) {fu : Nat} {stt : Int × Int} {tt : Bool ⊕ Unit} (hh : am (el l n) fu stt = some tt) {ρ : Env} {σ : Sto}
  (hE : bT (fun stt : Int × Int => match stt with | (last, a) => [(1, .u (.one (.d (.int .i64 n)))), (5, .u (.one (.d (.int .i64 last)))), (8, .u (.one (.d (.sl 1 (List.map (rI .i64) l))))), (9, .u (.one (.d (.int .i64 (ak l))))), (10, .u (.one (.d (.int .i64 a))))]) (fun stt : Int × Int => match stt with | (_last, _a) => []) stt ρ σ) : Swp Tryz.prog cx (.loop (d4 [1, 1, 0, 1, 0, 0] (aZ Tryz.f121))) ρ σ (bP cx l n tt) := by
 refine cd hE hh (bP cx l n) ?_
 rintro ⟨last, a⟩ r hm ρ σ hf
 simp only [Fits, ap, ar, and_true] at hf
 unfold el at hm
 dsimp only at hm
 refine srs hn ?_
 simp -dsimp [hf]
 refine ae ?_
 rcases ai hm with ⟨c1, hm⟩ | ⟨c1, hm⟩
 ·refine a8 (by simp -dsimp) c1 ?_
  refine ab (a6 (ae (ah ?_)))
  refine srs hn ?_
  obtain ⟨x, h2, hm⟩ := bnd hm
  simp -dsimp [hf, c1, h2]
  refine ae ?_
  obtain ⟨a1, j5, hm⟩ := bnd hm
  refine au [(1, .u (.one (.d (.int .i64 n)))), (7, .u (.one (.d (.int .i64 x)))), (8, .u (.one (.d (.sl 1 (List.map (rI .i64) l))))), (9, .u (.one (.d (.int .i64 (ak l))))), (10, .u (.one (.d (.int .i64 a)))), (21, .u (.one (.d (.bool a1))))] [] (by rfl) (by rfl) ?_ fun ρ σ hf => ?_
  ·replace hm := j5
   clear j5
   refine sr1 hn ?_
   rcases ai hm with ⟨c3, hm⟩ | ⟨c3, hm⟩
   ·simp -dsimp [hf, c3]
    refine a6 ?_
    cases hm
    exact EE.here (by simp -dsimp [hf])
   ·simp -dsimp [hf, c3]
    refine a6 ?_
    cases hm
    exact EE.here (by simp -dsimp [hf])
  ·clear j5
   simp only [Fits, ap, ar, and_true] at hf
   rcases ai hm with ⟨c4, hm⟩ | ⟨c4, hm⟩
   ·refine a8 (by simp -dsimp [hf]) c4 ?_
    refine srs hn ?_
    simp -dsimp
    refine ac (ag (aK (ag ?_)))
    cases hm
    refine aB nofun ?_
    unfold bP
    dsimp only
    refine ⟨rfl, ?_⟩
    exact EE.here (by simp -dsimp [Tryz.results121])
   ·refine a7 (by simp -dsimp [hf]) c4 ?_
    refine ab (a6 ?_)
    refine sr1 hn ?_
    simp -dsimp [hf]
    refine aV ?_
    refine a6 ?_
    refine sr1 hn ?_
    simp -dsimp [hf]
    cases hm
    refine aI ?_
    exact EE.here (by simp -dsimp [hf])
 ·refine a7 (by simp -dsimp) c1 ?_
  refine aC ?_
  refine ag ?_
  cases hm
  refine aB nofun ?_
  unfold bP
  dsimp only
  refine ⟨rfl, ?_⟩
  exact EE.here (by simp -dsimp [c1])
theorem f_lifelike_ascends (l : List Int) (n : Int) (r : Bool) (hm : cj l n = some r) : PFn Tryz.prog 121 [.u (.one (.d (.sl 1 (List.map (rI .i64) l)))), .u (.one (.d (.int .i64 n)))] (fun v => v.wk (.u (.one (.d (.bool r))))) := by
 refine bv Tryz.func121 Tryz.ntmps121 rfl (by kernel_rfl) (by simp) fun cx hn => ?_
 unfold cj at hm
 refine srs hn ?_
 simp -dsimp
 refine srs hn ?_
 simp -dsimp
 refine ae ?_
 refine srs hn ?_
 simp -dsimp
 refine ah ?_
 obtain ⟨o_, g6, hm⟩ := bnd hm
 refine bf (l_lifelike_ascends_1 cx hn l n g6) (by
   try dsimp only
   exact EE.here (by simp -dsimp)
 ) fun ee ρ σ x7 => ?_
 rcases o_ with r | _u
 ·unfold bP at x7
  dsimp only at x7
  obtain ⟨rfl, x7⟩ := x7
  refine aK (ag ?_)
  cases hm
  exact ⟨.inr rfl, x7⟩
 ·unfold bP at x7
  dsimp only at x7
  obtain ⟨rfl, x7⟩ := x7
  refine aD ?_
  refine a6 ?_
  refine bN (by rfl) (by rfl) x7 fun ρ σ hf => ?_
  simp only [Fits, ap, ar, and_true] at hf
  refine srs hn ?_
  simp -dsimp
  refine ac ?_
  cases hm
  refine ⟨.inr rfl, ?_⟩
  exact EE.here (by simp -dsimp)
theorem eS (l : List Int) (n : Int) (r : Bool) (hm : cj l n = some r) : PureCall Tryz.prog 121 [.u (.one (.d (.sl 1 (List.map (rI .i64) l)))), .u (.one (.d (.int .i64 n)))] (.u (.one (.d (.bool r)))) := (f_lifelike_ascends l n r hm).pureW
def bW (cx : Cx) (_l : List Int) (tt : ((List Int) × Bool) ⊕ (List Int)) (ee : Exit) (ρ : Env) (σ : Sto) : Prop := match tt with
 | .inl r => ee = .ret ∧ EE cx (fun ρ σ => ∃ v, eH tb ρ σ Tryz.f57.results.toList = some v ∧ (v.frz σ).free = true ∧ (v.frz σ).wk (.tup [.one (.d (.sl 1 (List.map (rI .i64) r.1))), .one (.d (.bool r.2))])) ρ σ
 | .inr out => ee = .exit 0 ∧ EE cx (b4 [(4, .u (.one (.own 5000)))] [(5000, .row 1 3 (List.map (rI .i64) out))]) ρ σ
theorem l_lifelike_digits_1 (cx : Cx) (hn : cx.n = 30) (l : List Int) {fu : Nat} {stt : Int × (List Int)} {tt : ((List Int) × Bool) ⊕ (List Int)} (hh : am (eG l) fu stt = some tt) {ρ : Env} {σ : Sto}
  (hE : bT (fun stt : Int × (List Int) => match stt with | (a, _out) => [(4, .u (.one (.own 5000))), (8, .u (.one (.d (.sl 1 (List.map (rI .u8) l))))), (9, .u (.one (.d (.int .i64 (ak l))))), (10, .u (.one (.d (.int .i64 a))))]) (fun stt : Int × (List Int) => match stt with | (_a, out) => [(5000, .row 1 3 (List.map (rI .i64) out))]) stt ρ σ) : Swp Tryz.prog cx (.loop (d4 [1, 1, 0, 1, 0, 0] (aZ Tryz.f57))) ρ σ (bW cx l tt) := by
 refine cd hE hh (bW cx l) ?_
 rintro ⟨a, out⟩ r hm ρ σ hf
 simp only [Fits, ap, ar, and_true] at hf
 unfold eG at hm
 dsimp only at hm
 refine srs hn ?_
 simp -dsimp [hf]
 refine ae ?_
 rcases ai hm with ⟨c2, hm⟩ | ⟨c2, hm⟩
 ·refine a8 (by simp -dsimp) c2 ?_
  refine ab (a6 (ae (ah ?_)))
  refine srs hn ?_
  obtain ⟨x, h3, hm⟩ := bnd hm
  simp -dsimp [hf, c2, h3]
  refine ae ?_
  obtain ⟨a1, j7, hm⟩ := bnd hm
  refine au [(4, .u (.one (.own 5000))), (6, .u (.one (.d (.int .u8 x)))), (8, .u (.one (.d (.sl 1 (List.map (rI .u8) l))))), (9, .u (.one (.d (.int .i64 (ak l))))), (10, .u (.one (.d (.int .i64 a)))), (19, .u (.one (.d (.bool a1))))] [(5000, .row 1 3 (List.map (rI .i64) out))] (by rfl) (by rfl) ?_ fun ρ σ hf => ?_
  ·replace hm := j7
   clear j7
   refine sr1 hn ?_
   rcases ai hm with ⟨c4, hm⟩ | ⟨c4, hm⟩
   ·simp -dsimp [c4]
    refine a6 ?_
    cases hm
    exact EE.here (by simp -dsimp [hf])
   ·simp -dsimp [c4]
    refine a6 ?_
    cases hm
    exact EE.here (by simp -dsimp [hf])
  ·clear j7
   simp only [Fits, ap, ar, and_true] at hf
   rcases ai hm with ⟨c5, hm⟩ | ⟨c5, hm⟩
   ·refine a8 (by simp -dsimp [hf]) c5 ?_
    refine srs hn ?_
    simp -dsimp
    refine ac (ag (aK (ag ?_)))
    cases hm
    refine aB nofun ?_
    unfold bW
    dsimp only
    refine ⟨rfl, ?_⟩
    exact EE.here (by simp -dsimp [Tryz.results57])
   ·refine a7 (by simp -dsimp [hf]) c5 ?_
    refine ab (a6 ?_)
    refine sr1 hn ?_
    obtain ⟨l1, h6, hm⟩ := bnd hm
    obtain ⟨h6a, h6e⟩ := aQ h6
    replace h6e := h6e.symm
    subst h6e
    try simp only [List.length_cons, List.length_nil, Nat.zero_add] at h6a
    simp -dsimp [hf, h6a]
    refine aV ?_
    refine a6 ?_
    refine sr1 hn ?_
    simp -dsimp [hf]
    cases hm
    refine aI ?_
    refine EE.step (Wk.move 25 5000 (by decide) (.inl (by decide))) ?_
    exact EE.here (by simp -dsimp [hf])
 ·refine a7 (by simp -dsimp) c2 ?_
  refine aC ?_
  refine ag ?_
  cases hm
  refine aB nofun ?_
  unfold bW
  dsimp only
  refine ⟨rfl, ?_⟩
  exact EE.here (by simp -dsimp [hf, c2])
theorem f_lifelike_digits (s : List UInt8) (r : (List Int) × Bool) (hm : db s = some r) : PFn Tryz.prog 57 [.u (.one (.d (.str (bs s))))] (fun v => v.wk (.tup [.one (.d (.sl 1 (List.map (rI .i64) r.1))), .one (.d (.bool r.2))])) := by
 refine bv Tryz.func57 Tryz.ntmps57 rfl (by kernel_rfl) (by simp) fun cx hn => ?_
 unfold db at hm
 refine srs hn ?_
 simp -dsimp
 refine srs hn ?_
 simp -dsimp
 refine ae ?_
 refine srs hn ?_
 obtain ⟨l, h1, hm⟩ := bnd hm
 simp -dsimp [h1]
 refine ah ?_
 obtain ⟨o_, g8, hm⟩ := bnd hm
 refine bf (l_lifelike_digits_1 cx hn l g8) (by
   try dsimp only
   refine EE.step (Wk.own0 4 5000 1 3 (by simp -dsimp) (by decide)) ?_
   exact EE.here (by simp -dsimp)
 ) fun ee ρ σ x9 => ?_
 rcases o_ with r | out
 ·unfold bW at x9
  dsimp only at x9
  obtain ⟨rfl, x9⟩ := x9
  refine aK (ag ?_)
  cases hm
  exact ⟨.inr rfl, x9⟩
 ·unfold bW at x9
  dsimp only at x9
  obtain ⟨rfl, x9⟩ := x9
  refine aD ?_
  refine a6 ?_
  refine bN (by rfl) (by rfl) x9 fun ρ σ hf => ?_
  simp only [Fits, ap, ar, and_true] at hf
  refine srs hn ?_
  obtain ⟨y, h10, hm⟩ := bnd hm
  simp -dsimp [hf]
  refine callL_brw (us' := [.u (.one (.d (.sl 1 (List.map (rI .i64) out)))), .u (.one (.d (.int .i64 9)))]) (eS out 9 y h10) (by simp -dsimp [hf]) rfl (dkL hn) ?_
  simp -dsimp
  refine ac ?_
  cases hm
  refine ⟨.inr rfl, ?_⟩
  exact EE.here (by simp -dsimp [hf])
theorem gG (s : List UInt8) (r : (List Int) × Bool) (hm : db s = some r) : PureCall Tryz.prog 57 [.u (.one (.d (.str (bs s))))] (.tup [.one (.d (.sl 1 (List.map (rI .i64) r.1))), .one (.d (.bool r.2))]) := (f_lifelike_digits s r hm).pureW
def aH (cx : Cx) (_sv1 : List Point) (_sv2 : List Point) (tt : Bool ⊕ Unit) (ee : Exit) (ρ : Env) (σ : Sto) : Prop := match tt with
 | .inl r => ee = .ret ∧ EE cx (fun ρ σ => ∃ v, eH tb ρ σ Tryz.f164.results.toList = some v ∧ (v.frz σ).free = true ∧ (v.frz σ).wk (.u (.one (.d (.bool r))))) ρ σ
 | .inr _u => ee = .exit 0 ∧ EE cx (b4 [] []) ρ σ
theorem eI (cx : Cx) (hn : cx.n = 26) (sv1 : List Point) (sv2 : List Point) {fu : Nat} {stt : Int} {tt : Bool ⊕ Unit} (hh : am (bF sv1 sv2) fu stt = some tt) {ρ : Env} {σ : Sto}
  (hE : bT (fun a : Int => [(0, .u (.one (.d (.sl 2 (List.map Point.row sv1))))), (1, .u (.one (.d (.sl 2 (List.map Point.row sv2))))), (12, .u (.one (.d (.int .i64 (ak sv1))))), (13, .u (.one (.d (.int .i64 a))))]) (fun _a : Int => []) stt ρ σ) : Swp Tryz.prog cx (.loop (d4 [1, 1, 0, 1, 0, 0] (aZ Tryz.f164))) ρ σ (aH cx sv1 sv2 tt) := by
 refine cd hE hh (aH cx sv1 sv2) ?_
 rintro a r hm ρ σ hf
 simp only [Fits, ap, ar, and_true] at hf
 unfold bF at hm
 dsimp only at hm
 refine srs hn ?_
 simp -dsimp [hf]
 refine ae ?_
 rcases ai hm with ⟨c2, hm⟩ | ⟨c2, hm⟩
 ·refine a8 (by simp -dsimp) c2 ?_
  refine ab (a6 (ae (ah ?_)))
  refine srs hn ?_
  simp -dsimp [hf, c2]
  refine ek aW mixed (by rw [hn]; kernel_rfl) ?_
  obtain ⟨x, h3, hm⟩ := bnd hm
  obtain ⟨x1, h4, hm⟩ := bnd hm
  simp -dsimp [hf, h3, h4]
  rcases ai hm with ⟨c5, hm⟩ | ⟨c5, hm⟩
  ·refine a8 (by simp -dsimp) c5 ?_
   refine srs hn ?_
   simp -dsimp [c5]
   refine ac (aK (ag ?_))
   cases hm
   refine aB nofun ?_
   unfold aH
   dsimp only
   refine ⟨rfl, ?_⟩
   exact EE.here (by simp -dsimp [Tryz.results164])
  ·refine a7 (by simp -dsimp) c5 ?_
   refine ab ?_
   refine aV ?_
   refine a6 ?_
   refine sr1 hn ?_
   simp -dsimp [hf, c5]
   cases hm
   refine aI ?_
   exact EE.here (by simp -dsimp [hf])
 ·refine a7 (by simp -dsimp) c2 ?_
  refine aC ?_
  refine ag ?_
  cases hm
  refine aB nofun ?_
  unfold aH
  dsimp only
  refine ⟨rfl, ?_⟩
  exact EE.here (by simp -dsimp [c2])
theorem eY (sv1 : List Point) (sv2 : List Point) (r : Bool) (hm : b6 sv1 sv2 = some r) : PFn Tryz.prog 164 [.u (.one (.d (.sl 2 (List.map Point.row sv1)))), .u (.one (.d (.sl 2 (List.map Point.row sv2))))] (fun v => v.wk (.u (.one (.d (.bool r))))) := by
 refine bv Tryz.func164 Tryz.ntmps164 rfl (by kernel_rfl) (by simp) fun cx hn => ?_
 unfold b6 at hm
 refine srs hn ?_
 simp -dsimp
 refine ae ?_
 refine srs hn ?_
 simp -dsimp
 rcases ai hm with ⟨c1, hm⟩ | ⟨c1, hm⟩
 ·refine a8 (by simp -dsimp) c1 ?_
  refine srs hn ?_
  simp -dsimp [c1]
  refine ac (ag ?_)
  cases hm
  refine ⟨.inr rfl, ?_⟩
  exact EE.here (by simp -dsimp)
 ·refine a7 (by simp -dsimp) c1 ?_
  refine ab (a6 (ae ?_))
  refine srs hn ?_
  simp -dsimp [c1]
  refine ah ?_
  obtain ⟨o_, g6, hm⟩ := bnd hm
  refine bf (eI cx hn sv1 sv2 g6) (by
    try dsimp only
    exact EE.here (by simp -dsimp)
  ) fun ee ρ σ x7 => ?_
  rcases o_ with r | _u
  ·unfold aH at x7
   dsimp only at x7
   obtain ⟨rfl, x7⟩ := x7
   refine aK (ag ?_)
   cases hm
   exact ⟨.inr rfl, x7⟩
  ·unfold aH at x7
   dsimp only at x7
   obtain ⟨rfl, x7⟩ := x7
   refine aD ?_
   refine a6 ?_
   refine bN (by rfl) (by rfl) x7 fun ρ σ hf => ?_
   simp only [Fits, ap, ar, and_true] at hf
   refine srs hn ?_
   simp -dsimp
   refine ac ?_
   cases hm
   refine ⟨.inr rfl, ?_⟩
   exact EE.here (by simp -dsimp)
theorem eV (sv1 : List Point) (sv2 : List Point) (r : Bool) (hm : b6 sv1 sv2 = some r) : PureCall Tryz.prog 164 [.u (.one (.d (.sl 2 (List.map Point.row sv1)))), .u (.one (.d (.sl 2 (List.map Point.row sv2))))] (.u (.one (.d (.bool r)))) := (eY sv1 sv2 r hm).pureW
theorem f_hood_Same (a : List Point) (b : List Point) (r : Bool) (hm : gK a b = some r) : PFn Tryz.prog 107 [.u (.one (.d (.sl 2 (List.map Point.row a)))), .u (.one (.d (.sl 2 (List.map Point.row b))))] (fun v => v.wk (.u (.one (.d (.bool r))))) := by
 refine bv Tryz.func107 Tryz.ntmps107 rfl (by kernel_rfl) (by simp) fun cx hn => ?_
 unfold gK at hm
 refine srs hn ?_
 simp -dsimp
 refine srs hn ?_
 obtain ⟨y, h1, hm⟩ := bnd hm
 simp -dsimp
 refine aa (eV a b y h1) (dkL hn) ?_
 simp -dsimp
 refine ac ?_
 cases hm
 refine ⟨.inr rfl, ?_⟩
 exact EE.here (by simp -dsimp)
theorem c_hood_Same (a : List Point) (b : List Point) (r : Bool) (hm : gK a b = some r) : PureCall Tryz.prog 107 [.u (.one (.d (.sl 2 (List.map Point.row a)))), .u (.one (.d (.sl 2 (List.map Point.row b))))] (.u (.one (.d (.bool r)))) := (f_hood_Same a b r hm).pureW
theorem f_lifelike_letter (l : List Point) (r : (List UInt8) × Bool) (hm : e8 l = some r) : PFn Tryz.prog 122 [.u (.one (.d (.sl 2 (List.map Point.row l))))] (fun v => v.wk (.tup [.one (.d (.str (bs r.1))), .one (.d (.bool r.2))])) := by
 refine bv Tryz.func122 Tryz.ntmps122 rfl (by kernel_rfl) (by simp) fun cx hn => ?_
 unfold e8 at hm
 refine srs hn ?_
 simp -dsimp
 refine ae (ah ?_)
 refine srs hn ?_
 obtain ⟨y, h1, hm⟩ := bnd hm
 simp -dsimp
 refine aa (il 1 y h1) (dkL hn) ?_
 obtain ⟨y1, h2, hm⟩ := bnd hm
 simp -dsimp
 refine aa (c_hood_Same l y y1 h2) (dkL hn) ?_
 simp -dsimp
 rcases ai hm with ⟨c3, hm⟩ | ⟨c3, hm⟩
 ·refine a8 (by simp -dsimp) c3 ?_
  refine srs hn ?_
  simp -dsimp [c3]
  refine ac (aK (ag ?_))
  cases hm
  refine ⟨.inr rfl, ?_⟩
  exact EE.here (by simp -dsimp)
 ·refine a7 (by simp -dsimp) c3 ?_
  refine srs hn ?_
  cases hm
theorem c_lifelike_letter (l : List Point) (r : (List UInt8) × Bool) (hm : e8 l = some r) : PureCall Tryz.prog 122 [.u (.one (.d (.sl 2 (List.map Point.row l))))] (.tup [.one (.d (.str (bs r.1))), .one (.d (.bool r.2))]) := (f_lifelike_letter l r hm).pureW
theorem f_lifelike_Right (t : Totals) (r : Bool) (hm : cn t = some r) : PFn Tryz.prog 58 [.u (.agg [.d (.sl 2 (List.map Point.row t.Hood)), .d (.int .i64 t.States), .d (.sl 1 (List.map (rI .i64) t.Birth)), .d (.sl 1 (List.map (rI .i64) t.Survive))])] (fun v => v.wk (.u (.one (.d (.bool r))))) := by
 refine bv Tryz.func58 Tryz.ntmps58 rfl (by kernel_rfl) (by simp) fun cx hn => ?_
 unfold cn at hm
 refine srs hn ?_
 simp -dsimp
 refine srs hn ?_
 obtain ⟨y, h1, hm⟩ := bnd hm
 simp -dsimp
 refine aa (c_lifelike_letter t.Hood y h1) (dkL hn) ?_
 simp -dsimp
 refine srs hn ?_
 simp -dsimp
 obtain ⟨a, j8, hm⟩ := bnd hm
 refine au [(2, .u (.one (.d (.bool a))))] [] (by rfl) (by rfl) ?_ fun ρ σ hf => ?_
 ·replace hm := j8
  clear j8
  refine sr1 hn ?_
  rcases ai hm with ⟨c2, hm⟩ | ⟨c2, hm⟩
  ·rcases ai hm with ⟨c3, hm⟩ | ⟨c3, hm⟩
   ·rcases ai hm with ⟨c4, hm⟩ | ⟨c4, hm⟩
    ·obtain ⟨y1, h5, hm⟩ := bnd hm
     simp -dsimp [c2, c3, c4]
     refine aa (eS t.Birth (aO .i64 (ak t.Hood) 1) y1 h5) (dkL hn) ?_
     rcases ai hm with ⟨c6, hm⟩ | ⟨c6, hm⟩
     ·obtain ⟨y2, h7, hm⟩ := bnd hm
      simp -dsimp [c6]
      refine aa (eS t.Survive (aO .i64 (ak t.Hood) 1) y2 h7) (dkL hn) ?_
      simp -dsimp
      refine a6 ?_
      cases hm
      exact EE.here (by simp -dsimp)
     ·simp -dsimp [c6]
      refine a6 ?_
      cases hm
      exact EE.here (by simp -dsimp)
    ·simp -dsimp [c2, c3, c4]
     refine a6 ?_
     cases hm
     exact EE.here (by simp -dsimp)
   ·simp -dsimp [c2, c3]
    refine a6 ?_
    cases hm
    exact EE.here (by simp -dsimp)
  ·simp -dsimp [c2]
   refine a6 ?_
   cases hm
   exact EE.here (by simp -dsimp)
 ·clear j8
  simp only [Fits, ap, ar, and_true] at hf
  refine ac ?_
  cases hm
  refine ⟨.inr rfl, ?_⟩
  exact EE.here (by simp -dsimp [hf])
theorem ev (t : Totals) (r : Bool) (hm : cn t = some r) : PureCall Tryz.prog 58 [.u (.agg [.d (.sl 2 (List.map Point.row t.Hood)), .d (.int .i64 t.States), .d (.sl 1 (List.map (rI .i64) t.Birth)), .d (.sl 1 (List.map (rI .i64) t.Survive))])] (.u (.one (.d (.bool r)))) := (f_lifelike_Right t r hm).pureW
theorem f_lifelike_Parse (s : List UInt8) (r : Totals × Int) (hm : dD s = some r) : PFn Tryz.prog 19 [.u (.one (.d (.str (bs s))))] (fun v => v.wk (.tup [.agg [.d (.sl 2 (List.map Point.row r.1.Hood)), .d (.int .i64 r.1.States), .d (.sl 1 (List.map (rI .i64) r.1.Birth)), .d (.sl 1 (List.map (rI .i64) r.1.Survive))], .one (.d (.int .i64 r.2))])) := by
 refine bv Tryz.func19 Tryz.ntmps19 rfl (by kernel_rfl) (by simp) fun cx hn => ?_
 unfold dD at hm
 refine srs hn ?_
 simp -dsimp
 refine srs hn ?_
 obtain ⟨y, h1, hm⟩ := bnd hm
 simp -dsimp
 refine aa (bY s ([66] : List UInt8) y h1) (dkL hn) ?_
 simp -dsimp
 refine srs hn ?_
 obtain ⟨y1, h2, hm⟩ := bnd hm
 simp -dsimp
 refine aa (c_strings_Cut y.1 ([47, 83] : List UInt8) y1 h2) (dkL hn) ?_
 simp -dsimp
 refine ae ?_
 obtain ⟨a, j17, hm⟩ := bnd hm
 refine au [(2, .u (.one (.box 2 0))), (6, .u (.one (.d (.str (bs y1.1))))), (7, .u (.one (.d (.str (bs y1.2.1))))), (30, .u (.one (.d (.bool a))))] [(2, .box [.d .nil, .d (.int .i64 0), .d .nil, .d .nil])] (by rfl) (by rfl) ?_ fun ρ σ hf => ?_
 ·replace hm := j17
  clear j17
  refine sr1 hn ?_
  rcases ai hm with ⟨c3, hm⟩ | ⟨c3, hm⟩
  ·simp -dsimp [c3]
   refine a6 ?_
   cases hm
   exact EE.here (by simp -dsimp)
  ·simp -dsimp [c3]
   refine a6 ?_
   cases hm
   exact EE.here (by simp -dsimp)
 ·clear j17
  simp only [Fits, ap, ar, and_true] at hf
  rcases ai hm with ⟨c4, hm⟩ | ⟨c4, hm⟩
  ·refine a8 (by simp -dsimp [hf]) c4 ?_
   refine srs hn ?_
   simp -dsimp [hf]
   refine ac (ag ?_)
   cases hm
   refine ⟨.inr rfl, ?_⟩
   exact EE.here (by simp -dsimp [hf])
  ·refine a7 (by simp -dsimp [hf]) c4 ?_
   refine ab (a6 ?_)
   refine srs hn ?_
   obtain ⟨y2, h5, hm⟩ := bnd hm
   simp -dsimp
   refine aa (il 1 y2 h5) (dkL hn) ?_
   simp -dsimp
   refine ae ?_
   refine srs hn ?_
   obtain ⟨y3, h6, hm⟩ := bnd hm
   simp -dsimp [hf]
   refine aa (dq y1.2.1 ([86] : List UInt8) y3 h6) (dkL hn) ?_
   simp -dsimp
   refine srs hn ?_
   simp -dsimp
   rcases ai hm with ⟨c7, hm⟩ | ⟨c7, hm⟩
   ·refine a8 (by simp -dsimp) c7 ?_
    refine sr1 hn ?_
    cases hm
   ·refine a7 (by simp -dsimp) c7 ?_
    refine srs hn ?_
    obtain ⟨y4, h8, hm⟩ := bnd hm
    simp -dsimp [hf, c7]
    refine aa (dq y1.2.1 ([72] : List UInt8) y4 h8) (dkL hn) ?_
    simp -dsimp
    refine srs hn ?_
    simp -dsimp
    rcases ai hm with ⟨c9, hm⟩ | ⟨c9, hm⟩
    ·refine a8 (by simp -dsimp) c9 ?_
     refine sr1 hn ?_
     cases hm
    ·refine a7 (by simp -dsimp) c9 ?_
     refine ab (a6 ?_)
     refine srs hn ?_
     obtain ⟨y5, h10, hm⟩ := bnd hm
     simp -dsimp [hf, c9]
     refine aa (gG y1.1 y5 h10) (dkL hn) ?_
     simp -dsimp
     refine srs hn ?_
     obtain ⟨y6, h11, hm⟩ := bnd hm
     simp -dsimp [hf]
     refine aa (gG y1.2.1 y6 h11) (dkL hn) ?_
     simp -dsimp
     refine ae ?_
     obtain ⟨a1, j16, hm⟩ := bnd hm
     refine au [(2, .u (.one (.box 2 0))), (9, .u (.one (.box 9 0))), (69, .u (.one (.d (.bool a1))))] [(2, .box [.d .nil, .d (.int .i64 0), .d .nil, .d .nil]), (9, .box [.d (.sl 2 (List.map Point.row y2)), .d (.int .i64 2), .d (.sl 1 (List.map (rI .i64) y5.1)), .d (.sl 1 (List.map (rI .i64) y6.1))])] (by rfl) (by rfl) ?_ fun ρ σ hf => ?_
     ·replace hm := j16
      clear j16
      refine sr1 hn ?_
      rcases ai hm with ⟨c12, hm⟩ | ⟨c12, hm⟩
      ·simp -dsimp [c12]
       refine a6 ?_
       cases hm
       exact EE.here (by simp -dsimp [hf])
      ·simp -dsimp [c12]
       refine a6 ?_
       cases hm
       exact EE.here (by simp -dsimp [hf])
     ·clear j16
      simp only [Fits, ap, ar, and_true] at hf
      rcases ai hm with ⟨c13, hm⟩ | ⟨c13, hm⟩
      ·refine a8 (by simp -dsimp [hf]) c13 ?_
       refine srs hn ?_
       simp -dsimp [hf]
       refine ac (ag ?_)
       cases hm
       refine ⟨.inr rfl, ?_⟩
       exact EE.here (by simp -dsimp [hf])
      ·refine a7 (by simp -dsimp [hf]) c13 ?_
       refine ab (a6 (ae ?_))
       refine srs hn ?_
       obtain ⟨y7, h14, hm⟩ := bnd hm
       simp -dsimp [hf]
       refine aa (ev (⟨y2, 2, y5.1, y6.1⟩ : Totals) y7 h14) (dkL hn) ?_
       simp -dsimp
       rcases ai hm with ⟨c15, hm⟩ | ⟨c15, hm⟩
       ·refine a8 (by simp -dsimp) c15 ?_
        refine srs hn ?_
        simp -dsimp [hf, c15]
        refine ac (ag ?_)
        cases hm
        refine ⟨.inr rfl, ?_⟩
        exact EE.here (by simp -dsimp [hf])
       ·refine a7 (by simp -dsimp) c15 ?_
        refine ab (a6 ?_)
        refine srs hn ?_
        simp -dsimp [hf, c15]
        refine ac ?_
        cases hm
        refine ⟨.inr rfl, ?_⟩
        exact EE.here (by simp -dsimp [hf])
theorem gX (s : List UInt8) (r : Totals × Int) (hm : dD s = some r) : PureCall Tryz.prog 19 [.u (.one (.d (.str (bs s))))] (.tup [.agg [.d (.sl 2 (List.map Point.row r.1.Hood)), .d (.int .i64 r.1.States), .d (.sl 1 (List.map (rI .i64) r.1.Birth)), .d (.sl 1 (List.map (rI .i64) r.1.Survive))], .one (.d (.int .i64 r.2))]) := (f_lifelike_Parse s r hm).pureW
theorem c_strings_Split (s sep : List UInt8) (r : List (List UInt8)) (hm : fX s sep = some r) : PureCall Tryz.prog 59 [.u (.one (.d (.str (bs s)))), .u (.one (.d (.str (bs sep))))] (.u (.one (.d (.sl 1 (List.map rT r))))) := split_pure splitL (by kernel_rfl) (by kernel_rfl) rfl ⟨_, Tryz.func59, by decide, rfl⟩ hm
def bz (cx : Cx) (_l : List Int) (tt : ((List Int) × Bool) ⊕ (List Int)) (ee : Exit) (ρ : Env) (σ : Sto) : Prop := match tt with
 | .inl r => ee = .ret ∧ EE cx (fun ρ σ => ∃ v, eH tb ρ σ Tryz.f60.results.toList = some v ∧ (v.frz σ).free = true ∧ (v.frz σ).wk (.tup [.one (.d (.sl 1 (List.map (rI .i64) r.1))), .one (.d (.bool r.2))])) ρ σ
 | .inr out => ee = .exit 0 ∧ EE cx (b4 [(4, .u (.one (.own 5000)))] [(5000, .row 1 3 (List.map (rI .i64) out))]) ρ σ
theorem ik (cx : Cx) (hn : cx.n = 45) (l : List Int) {fu : Nat} {stt : Int × (List Int)} {tt : ((List Int) × Bool) ⊕ (List Int)} (hh : am (dG l) fu stt = some tt) {ρ : Env} {σ : Sto}
  (hE : bT (fun stt : Int × (List Int) => match stt with | (a, _out) => [(4, .u (.one (.own 5000))), (9, .u (.one (.d (.sl 1 (List.map (rI .u8) l))))), (10, .u (.one (.d (.int .i64 (ak l))))), (11, .u (.one (.d (.int .i64 a))))]) (fun stt : Int × (List Int) => match stt with | (_a, out) => [(5000, .row 1 3 (List.map (rI .i64) out))]) stt ρ σ) : Swp Tryz.prog cx (.loop (d4 [1, 1, 0, 1, 0, 0] (aZ Tryz.f60))) ρ σ (bz cx l tt) := by
 refine cd hE hh (bz cx l) ?_
 rintro ⟨a, out⟩ r hm ρ σ hf
 simp only [Fits, ap, ar, and_true] at hf
 unfold dG at hm
 dsimp only at hm
 refine srs hn ?_
 simp -dsimp [hf]
 refine ae ?_
 rcases ai hm with ⟨c2, hm⟩ | ⟨c2, hm⟩
 ·refine a8 (by simp -dsimp) c2 ?_
  refine ab (a6 (ae (ah ?_)))
  refine srs hn ?_
  obtain ⟨x, h3, hm⟩ := bnd hm
  simp -dsimp [hf, c2, h3]
  refine srs hn ?_
  simp -dsimp
  refine ae ?_
  obtain ⟨a1, j10, hm⟩ := bnd hm
  refine au [(4, .u (.one (.own 5000))), (7, .u (.one (.d (.int .i64 (aO .i64 (d5 .i64 x) 48))))), (9, .u (.one (.d (.sl 1 (List.map (rI .u8) l))))), (10, .u (.one (.d (.int .i64 (ak l))))), (11, .u (.one (.d (.int .i64 a)))), (38, .u (.one (.d (.bool a1))))] [(5000, .row 1 3 (List.map (rI .i64) out))] (by rfl) (by rfl) ?_ fun ρ σ hf => ?_
  ·replace hm := j10
   clear j10
   refine sr1 hn ?_
   rcases ai hm with ⟨c4, hm⟩ | ⟨c4, hm⟩
   ·simp -dsimp [c4]
    refine a6 ?_
    cases hm
    exact EE.here (by simp -dsimp [hf])
   ·rcases ai hm with ⟨c5, hm⟩ | ⟨c5, hm⟩
    ·simp -dsimp [c4, c5]
     refine a6 ?_
     cases hm
     exact EE.here (by simp -dsimp [hf])
    ·rcases ai hm with ⟨c6, hm⟩ | ⟨c6, hm⟩
     ·obtain ⟨x1, h7, hm⟩ := bnd hm
      simp -dsimp [hf, c4, c5, c6, h7, idx_get h7]
      refine a6 ?_
      cases hm
      exact EE.here (by simp -dsimp [hf])
     ·simp -dsimp [hf, c4, c5, c6]
      refine a6 ?_
      cases hm
      exact EE.here (by simp -dsimp [hf])
  ·clear j10
   simp only [Fits, ap, ar, and_true] at hf
   rcases ai hm with ⟨c8, hm⟩ | ⟨c8, hm⟩
   ·refine a8 (by simp -dsimp [hf]) c8 ?_
    refine srs hn ?_
    simp -dsimp
    refine ac (ag (aK (ag ?_)))
    cases hm
    refine aB nofun ?_
    unfold bz
    dsimp only
    refine ⟨rfl, ?_⟩
    exact EE.here (by simp -dsimp [Tryz.results60])
   ·refine a7 (by simp -dsimp [hf]) c8 ?_
    refine ab (a6 ?_)
    refine sr1 hn ?_
    obtain ⟨l1, h9, hm⟩ := bnd hm
    obtain ⟨h9a, h9e⟩ := aQ h9
    replace h9e := h9e.symm
    subst h9e
    try simp only [List.length_cons, List.length_nil, Nat.zero_add] at h9a
    simp -dsimp [hf, h9a]
    refine aV ?_
    refine a6 ?_
    refine sr1 hn ?_
    simp -dsimp [hf]
    cases hm
    refine aI ?_
    refine EE.step (Wk.move 42 5000 (by decide) (.inl (by decide))) ?_
    exact EE.here (by simp -dsimp [hf])
 ·refine a7 (by simp -dsimp) c2 ?_
  refine aC ?_
  refine ag ?_
  cases hm
  refine aB nofun ?_
  unfold bz
  dsimp only
  refine ⟨rfl, ?_⟩
  exact EE.here (by simp -dsimp [hf, c2])
theorem f_generations_digits (s : List UInt8) (r : (List Int) × Bool) (hm : bm s = some r) : PFn Tryz.prog 60 [.u (.one (.d (.str (bs s))))] (fun v => v.wk (.tup [.one (.d (.sl 1 (List.map (rI .i64) r.1))), .one (.d (.bool r.2))])) := by
 refine bv Tryz.func60 Tryz.ntmps60 rfl (by kernel_rfl) (by simp) fun cx hn => ?_
 unfold bm at hm
 refine srs hn ?_
 simp -dsimp
 refine srs hn ?_
 simp -dsimp
 refine ae ?_
 refine srs hn ?_
 obtain ⟨l, h1, hm⟩ := bnd hm
 simp -dsimp [h1]
 refine ah ?_
 obtain ⟨o_, g11, hm⟩ := bnd hm
 refine bf (ik cx hn l g11) (by
   try dsimp only
   refine EE.step (Wk.own0 4 5000 1 3 (by simp -dsimp) (by decide)) ?_
   exact EE.here (by simp -dsimp)
 ) fun ee ρ σ x12 => ?_
 rcases o_ with r | out
 ·unfold bz at x12
  dsimp only at x12
  obtain ⟨rfl, x12⟩ := x12
  refine aK (ag ?_)
  cases hm
  exact ⟨.inr rfl, x12⟩
 ·unfold bz at x12
  dsimp only at x12
  obtain ⟨rfl, x12⟩ := x12
  refine aD ?_
  refine a6 ?_
  refine bN (by rfl) (by rfl) x12 fun ρ σ hf => ?_
  simp only [Fits, ap, ar, and_true] at hf
  refine srs hn ?_
  simp -dsimp [hf]
  refine ac ?_
  cases hm
  refine ⟨.inr rfl, ?_⟩
  exact EE.here (by simp -dsimp [hf])
theorem dd (s : List UInt8) (r : (List Int) × Bool) (hm : bm s = some r) : PureCall Tryz.prog 60 [.u (.one (.d (.str (bs s))))] (.tup [.one (.d (.sl 1 (List.map (rI .i64) r.1))), .one (.d (.bool r.2))]) := (f_generations_digits s r hm).pureW
end Go.Proofs.YtogdjcdmbodmiaaGreatDoor
