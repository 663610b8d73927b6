/- That the code does what the functions say (made by cc.py). -/
import Derived.Test.YtldhnnkpmhnpcaaGreatDoorTb
import Derived.Test.YtldhnnkpmhnpcaaGreatDoorLax1
namespace Go.Proofs.YtldhnnkpmhnpcaaGreatDoor
open Go.AM Go.Proofs
attribute [-simp] qlookup bv cb Ob.wipe Ob.ren Ob.frz1 cd
theorem f_L16_decimal (n : Int) (r : List UInt8) (hm : m_L16_decimal n = some r) : PFn Tryz.prog 12 [.u (.one (.d (.int .i64 n)))] (fun v => v.wk (.u (.one (.d (.str (bs r)))))) := by
 refine aH Tryz.func12 Tryz.ntmps12 rfl (by kernel_rfl) (by simp) fun cx hn => ?_
 unfold m_L16_decimal at hm
 refine srs hn ?_
 simp -dsimp
 refine srs hn ?_
 simp -dsimp
 obtain ⟨s, j10, hm⟩ := bnd hm
 refine am [(0, .u (.one (.d (.int .i64 n)))), (3, .u (.one (.d (.str (bs s)))))] [] (by rfl) (by rfl) ?_ fun ρ σ hf => ?_
 ·replace hm := j10
  clear j10
  refine srs hn ?_
  simp -dsimp
  rcases aj hm with ⟨c1, hm⟩ | ⟨c1, hm⟩
  ·refine a8 (by simp -dsimp) c1 ?_
   refine sr1 hn ?_
   obtain ⟨n1, h2, hm⟩ := bnd hm
   simp -dsimp [c1, h2]
   refine a6 ?_
   cases hm
   exact EE.here (by simp -dsimp)
  ·refine a7 (by simp -dsimp) c1 ?_
   refine ac (a6 ?_)
   cases hm
   exact EE.here (by simp -dsimp [c1])
 ·clear j10
  simp only [Fits, ar, ap, and_true] at hf
  obtain ⟨s1, j9, hm⟩ := bnd hm
  refine am [(0, .u (.one (.d (.int .i64 n)))), (3, .u (.one (.d (.str (bs s1)))))] [] (by rfl) (by rfl) ?_ fun ρ σ hf => ?_
  ·replace hm := j9
   clear j9
   refine srs hn ?_
   simp -dsimp [hf]
   rcases aj hm with ⟨c3, hm⟩ | ⟨c3, hm⟩
   ·refine a8 (by simp -dsimp) c3 ?_
    refine sr1 hn ?_
    obtain ⟨n1, h4, hm⟩ := bnd hm
    obtain ⟨n2, h5, hm⟩ := bnd hm
    obtain ⟨s1, h6, hm⟩ := bnd hm
    simp -dsimp [hf, c3, h4, h5, h6]
    refine a6 ?_
    cases hm
    exact EE.here (by simp -dsimp [hf])
   ·refine a7 (by simp -dsimp) c3 ?_
    refine ac (a6 ?_)
    cases hm
    exact EE.here (by simp -dsimp [hf, c3])
  ·clear j9
   simp only [Fits, ar, ap, and_true] at hf
   refine srs hn ?_
   obtain ⟨n1, h7, hm⟩ := bnd hm
   obtain ⟨s2, h8, hm⟩ := bnd hm
   simp -dsimp [hf, h7, h8]
   refine ab ?_
   cases hm
   refine ⟨.inr rfl, ?_⟩
   exact EE.here (by simp -dsimp)
theorem c_L16_decimal (n : Int) (r : List UInt8) (hm : m_L16_decimal n = some r) : PureCall Tryz.prog 12 [.u (.one (.d (.int .i64 n)))] (.u (.one (.d (.str (bs r))))) := (f_L16_decimal n r hm).pureW
theorem cD (s : List UInt8) (prefix_ : List UInt8) (r : Bool) (hm : m_internal_stringslite_HasPrefix s prefix_ = some r) : PFn Tryz.prog 113 [.u (.one (.d (.str (bs s)))), .u (.one (.d (.str (bs prefix_))))] (fun v => v.wk (.u (.one (.d (.bool r))))) := by
 refine aH Tryz.func113 Tryz.ntmps113 rfl (by kernel_rfl) (by simp) fun cx hn => ?_
 unfold m_internal_stringslite_HasPrefix at hm
 refine srs hn ?_
 simp -dsimp
 obtain ⟨a, j3, hm⟩ := bnd hm
 refine am [(4, .u (.one (.d (.bool a))))] [] (by rfl) (by rfl) ?_ fun ρ σ hf => ?_
 ·replace hm := j3
  clear j3
  refine sr1 hn ?_
  rcases aj hm with ⟨c1, hm⟩ | ⟨c1, hm⟩
  ·obtain ⟨s1, h2, hm⟩ := bnd hm
   simp -dsimp [c1, h2]
   refine a6 ?_
   cases hm
   exact EE.here (by simp -dsimp)
  ·simp -dsimp [c1]
   refine a6 ?_
   cases hm
   exact EE.here (by simp -dsimp)
 ·clear j3
  simp only [Fits, ar, ap, and_true] at hf
  refine ab ?_
  cases hm
  refine ⟨.inr rfl, ?_⟩
  exact EE.here (by simp -dsimp [hf])
theorem bu (s : List UInt8) (prefix_ : List UInt8) (r : Bool) (hm : m_internal_stringslite_HasPrefix s prefix_ = some r) : PureCall Tryz.prog 113 [.u (.one (.d (.str (bs s)))), .u (.one (.d (.str (bs prefix_))))] (.u (.one (.d (.bool r)))) := (cD s prefix_ r hm).pureW
theorem cy (s : List UInt8) (prefix_ : List UInt8) (r : (List UInt8) × Bool) (hm : m_internal_stringslite_CutPrefix s prefix_ = some r) : PFn Tryz.prog 121 [.u (.one (.d (.str (bs s)))), .u (.one (.d (.str (bs prefix_))))] (fun v => v.wk (.tup [.one (.d (.str (bs r.1))), .one (.d (.bool r.2))])) := by
 refine aH Tryz.func121 Tryz.ntmps121 rfl (by kernel_rfl) (by simp) fun cx hn => ?_
 unfold m_internal_stringslite_CutPrefix at hm
 refine srs hn ?_
 simp -dsimp
 refine ae ?_
 refine srs hn ?_
 obtain ⟨y, h1, hm⟩ := bnd hm
 simp -dsimp
 refine aa (bu s prefix_ y h1) (dkL hn) ?_
 simp -dsimp
 rcases aj hm with ⟨c2, hm⟩ | ⟨c2, hm⟩
 ·refine a8 (by simp -dsimp) c2 ?_
  refine srs hn ?_
  simp -dsimp [c2]
  refine ab (ag ?_)
  cases hm
  refine ⟨.inr rfl, ?_⟩
  exact EE.here (by simp -dsimp)
 ·refine a7 (by simp -dsimp) c2 ?_
  refine ac (a6 ?_)
  refine srs hn ?_
  obtain ⟨s1, h3, hm⟩ := bnd hm
  simp -dsimp [c2, h3]
  refine ab ?_
  cases hm
  refine ⟨.inr rfl, ?_⟩
  exact EE.here (by simp -dsimp)
theorem cF (s : List UInt8) (prefix_ : List UInt8) (r : (List UInt8) × Bool) (hm : m_internal_stringslite_CutPrefix s prefix_ = some r) : PureCall Tryz.prog 121 [.u (.one (.d (.str (bs s)))), .u (.one (.d (.str (bs prefix_))))] (.tup [.one (.d (.str (bs r.1))), .one (.d (.bool r.2))]) := (cy s prefix_ r hm).pureW
theorem f_strings_CutPrefix (s : List UInt8) (prefix_ : List UInt8) (r : (List UInt8) × Bool) (hm : m_strings_CutPrefix s prefix_ = some r) : PFn Tryz.prog 57 [.u (.one (.d (.str (bs s)))), .u (.one (.d (.str (bs prefix_))))] (fun v => v.wk (.tup [.one (.d (.str (bs r.1))), .one (.d (.bool r.2))])) := by
 refine aH Tryz.func57 Tryz.ntmps57 rfl (by kernel_rfl) (by simp) fun cx hn => ?_
 unfold m_strings_CutPrefix at hm
 refine srs hn ?_
 simp -dsimp
 refine srs hn ?_
 obtain ⟨y, h1, hm⟩ := bnd hm
 simp -dsimp
 refine aa (cF s prefix_ y h1) (dkL hn) ?_
 simp -dsimp
 refine ab ?_
 cases hm
 refine ⟨.inr rfl, ?_⟩
 exact EE.here (by simp -dsimp)
theorem bb (s : List UInt8) (prefix_ : List UInt8) (r : (List UInt8) × Bool) (hm : m_strings_CutPrefix s prefix_ = some r) : PureCall Tryz.prog 57 [.u (.one (.d (.str (bs s)))), .u (.one (.d (.str (bs prefix_))))] (.tup [.one (.d (.str (bs r.1))), .one (.d (.bool r.2))]) := (f_strings_CutPrefix s prefix_ r hm).pureW
theorem c_strings_Cut (s sep : List UInt8) (r : (List UInt8) × (List UInt8) × Bool) (hm : m_strings_Cut s sep = some r) : PureCall Tryz.prog 58 [.u (.one (.d (.str (bs s)))), .u (.one (.d (.str (bs sep))))] (.tup [.one (.d (.str (bs r.1))), .one (.d (.str (bs r.2.1))), .one (.d (.bool r.2.2))]) := cut_pure cutL (by kernel_rfl) rfl ⟨_, Tryz.func58, by decide, rfl⟩ hm
theorem f_hood_Moore_1 (x : Int) (y : Int) (r : Bool) (hm : m_hood_Moore_1 x y = some r) : PFn Tryz.prog 124 [.u (.one (.d (.int .i64 x))), .u (.one (.d (.int .i64 y)))] (fun v => v.wk (.u (.one (.d (.bool r))))) := by
 refine aH Tryz.func124 Tryz.ntmps124 rfl (by kernel_rfl) (by simp) fun cx hn => ?_
 unfold m_hood_Moore_1 at hm
 refine srs hn ?_
 simp -dsimp
 refine srs hn ?_
 simp -dsimp
 refine ab ?_
 cases hm
 refine ⟨.inr rfl, ?_⟩
 exact EE.here (by simp -dsimp)
theorem c_hood_Moore_1 (x : Int) (y : Int) (r : Bool) (hm : m_hood_Moore_1 x y = some r) : PureCall Tryz.prog 124 [.u (.one (.d (.int .i64 x))), .u (.one (.d (.int .i64 y)))] (.u (.one (.d (.bool r)))) := (f_hood_Moore_1 x y r hm).pureW
def b4 (cx : Cx) (r_ : Int) (y : Int) (tt : (List Point)) (ee : Exit) (ρ : Env) (σ : Sto) : Prop := match tt with
 | l1 => ee = .exit 2 ∧ EE cx (aK [(0, .u (.one (.d (.int .i64 r_)))), (1, .u (.one (.fn 124 []))), (5, .u (.one (.own 5000))), (6, .u (.one (.d (.int .i64 y))))] [(5000, .row 2 77 (List.map Point.row l1))]) ρ σ
set_option maxRecDepth 100000 in
theorem cY (cx : Cx) (hn : cx.n = 33) (r_ : Int) (y : Int) {fu : Nat} {stt : Int × (List Point)} {tt : (List Point)} (hh : ah (b_hood_collect_hood_Moore_1_2 r_ y) fu stt = some tt) {ρ : Env} {σ : Sto}
  (hE : aT (fun stt : Int × (List Point) => match stt with | (x, _l1) => [(0, .u (.one (.d (.int .i64 r_)))), (1, .u (.one (.fn 124 []))), (5, .u (.one (.own 5000))), (6, .u (.one (.d (.int .i64 y)))), (7, .u (.one (.d (.int .i64 x))))]) (fun stt : Int × (List Point) => match stt with | (_x, l1) => [(5000, .row 2 77 (List.map Point.row l1))]) stt ρ σ) : Swp Tryz.prog cx (.loop (bi [1, 1, 0, 1, 0, 0, 1, 0, 0, 1, 0, 0] (aG Tryz.f123))) ρ σ (b4 cx r_ y tt) := by
 refine b3 hE hh (b4 cx r_ y) ?_
 rintro ⟨x, l1⟩ r hm ρ σ hf
 simp only [Fits, ar, ap, and_true] at hf
 unfold b_hood_collect_hood_Moore_1_2 at hm
 dsimp only at hm
 refine ae ?_
 refine srs hn ?_
 simp -dsimp [hf]
 rcases aj hm with ⟨c2, hm⟩ | ⟨c2, hm⟩
 ·refine a8 (by simp -dsimp) c2 ?_
  refine ac (a6 ?_)
  obtain ⟨l2, j6, hm⟩ := bnd hm
  refine am [(0, .u (.one (.d (.int .i64 r_)))), (1, .u (.one (.fn 124 []))), (5, .u (.one (.own 5000))), (6, .u (.one (.d (.int .i64 y)))), (7, .u (.one (.d (.int .i64 x))))] [(5000, .row 2 77 (List.map Point.row l2))] (by rfl) (by rfl) ?_ fun ρ σ hf => ?_
  ·replace hm := j6
   clear j6
   refine ai ?_
   refine srs hn ?_
   obtain ⟨y1, h3, hm⟩ := bnd hm
   simp -dsimp [hf, c2]
   refine aa (c_hood_Moore_1 x y y1 h3) (dkL hn) ?_
   simp -dsimp
   rcases aj hm with ⟨c4, hm⟩ | ⟨c4, hm⟩
   ·refine a8 (by simp -dsimp) c4 ?_
    refine sr1 hn ?_
    obtain ⟨l2, h5, hm⟩ := bnd hm
    obtain ⟨h5a, h5e⟩ := aB h5
    replace h5e := h5e.symm
    subst h5e
    try simp only [List.length_cons, List.length_nil, Nat.zero_add] at h5a
    simp -dsimp [hf, c4, h5a]
    refine aC ?_
    refine a6 ?_
    cases hm
    refine EE.step (Wk.move 31 5000 (by decide) (.inl (by decide))) ?_
    exact EE.here (by simp -dsimp [hf])
   ·refine a7 (by simp -dsimp) c4 ?_
    refine ac ?_
    refine aC ?_
    refine a6 ?_
    cases hm
    exact EE.here (by simp -dsimp [hf, c4])
  ·clear j6
   simp only [Fits, ar, ap, and_true] at hf
   refine sr1 hn ?_
   simp -dsimp [hf]
   cases hm
   refine ax ?_
   exact EE.here (by simp -dsimp [hf])
 ·refine a7 (by simp -dsimp) c2 ?_
  refine au ?_
  refine ag ?_
  cases hm
  refine aw nofun ?_
  unfold b4
  dsimp only
  refine ⟨rfl, ?_⟩
  exact EE.here (by simp -dsimp [hf, c2])
def b5 (cx : Cx) (_r_ : Int) (tt : (List Point)) (ee : Exit) (ρ : Env) (σ : Sto) : Prop := match tt with
 | l => ee = .exit 0 ∧ EE cx (aK [(5, .u (.one (.own 5000)))] [(5000, .row 2 77 (List.map Point.row l))]) ρ σ
set_option maxRecDepth 100000 in
theorem d6 (cx : Cx) (hn : cx.n = 33) (r_ : Int) {fu : Nat} {stt : Int × (List Point)} {tt : (List Point)} (hh : ah (b_hood_collect_hood_Moore_1_1 r_) fu stt = some tt) {ρ : Env} {σ : Sto}
  (hE : aT (fun stt : Int × (List Point) => match stt with | (y, _l) => [(0, .u (.one (.d (.int .i64 r_)))), (1, .u (.one (.fn 124 []))), (5, .u (.one (.own 5000))), (6, .u (.one (.d (.int .i64 y))))]) (fun stt : Int × (List Point) => match stt with | (_y, l) => [(5000, .row 2 77 (List.map Point.row l))]) stt ρ σ) : Swp Tryz.prog cx (.loop (bi [1, 1, 0, 1, 0, 0] (aG Tryz.f123))) ρ σ (b5 cx r_ tt) := by
 refine b3 hE hh (b5 cx r_) ?_
 rintro ⟨y, l⟩ r hm ρ σ hf
 simp only [Fits, ar, ap, and_true] at hf
 unfold b_hood_collect_hood_Moore_1_1 at hm
 dsimp only at hm
 refine ae ?_
 refine srs hn ?_
 simp -dsimp [hf]
 rcases aj hm with ⟨c1, hm⟩ | ⟨c1, hm⟩
 ·refine a8 (by simp -dsimp) c1 ?_
  refine ac (a6 (ae (ai ?_)))
  refine srs hn ?_
  simp -dsimp [hf, c1]
  refine ai ?_
  obtain ⟨l1, g7, hm⟩ := bnd hm
  refine aF (cY cx hn r_ y g7) (by
    try dsimp only
    exact EE.here (by simp -dsimp [hf])
  ) fun ee ρ σ x8 => ?_
  unfold b4 at x8
  dsimp only at x8
  obtain ⟨rfl, x8⟩ := x8
  refine av ?_
  refine aC ?_
  refine a6 ?_
  refine aV (by rfl) (by rfl) x8 fun ρ σ hf => ?_
  simp only [Fits, ar, ap, and_true] at hf
  refine sr1 hn ?_
  simp -dsimp [hf]
  cases hm
  refine ax ?_
  exact EE.here (by simp -dsimp [hf])
 ·refine a7 (by simp -dsimp) c1 ?_
  refine au ?_
  refine ag ?_
  cases hm
  refine aw nofun ?_
  unfold b5
  dsimp only
  refine ⟨rfl, ?_⟩
  exact EE.here (by simp -dsimp [hf, c1])
set_option maxRecDepth 100000 in
theorem dt (r_ : Int) (r : List Point) (hm : m_hood_collect_hood_Moore_1 r_ = some r) : PFn Tryz.prog 123 [.u (.one (.d (.int .i64 r_))), .u (.one (.fn 124 []))] (fun v => v.wk (.u (.one (.d (.sl 2 (List.map Point.row r)))))) := by
 refine aH Tryz.func123 Tryz.ntmps123 rfl (by kernel_rfl) (by simp) fun cx hn => ?_
 unfold m_hood_collect_hood_Moore_1 at hm
 refine srs hn ?_
 simp -dsimp
 refine srs hn ?_
 simp -dsimp
 refine ae ?_
 refine srs hn ?_
 simp -dsimp
 refine ai ?_
 obtain ⟨l, g9, hm⟩ := bnd hm
 refine aF (d6 cx hn r_ g9) (by
   try dsimp only
   refine EE.step (Wk.own0 5 5000 2 77 (by simp -dsimp) (by decide)) ?_
   exact EE.here (by simp -dsimp)
 ) fun ee ρ σ x10 => ?_
 unfold b5 at x10
 dsimp only at x10
 obtain ⟨rfl, x10⟩ := x10
 refine av ?_
 refine a6 ?_
 refine aV (by rfl) (by rfl) x10 fun ρ σ hf => ?_
 simp only [Fits, ar, ap, and_true] at hf
 refine srs hn ?_
 simp -dsimp [hf]
 refine ab ?_
 cases hm
 refine ⟨.inr rfl, ?_⟩
 exact EE.here (by simp -dsimp [hf])
theorem dn (r_ : Int) (r : List Point) (hm : m_hood_collect_hood_Moore_1 r_ = some r) : PureCall Tryz.prog 123 [.u (.one (.d (.int .i64 r_))), .u (.one (.fn 124 []))] (.u (.one (.d (.sl 2 (List.map Point.row r))))) := (dt r_ r hm).pureW
theorem f_hood_Moore (r_ : Int) (r : List Point) (hm : m_hood_Moore r_ = some r) : PFn Tryz.prog 59 [.u (.one (.d (.int .i64 r_)))] (fun v => v.wk (.u (.one (.d (.sl 2 (List.map Point.row r)))))) := by
 refine aH Tryz.func59 Tryz.ntmps59 rfl (by kernel_rfl) (by simp) fun cx hn => ?_
 unfold m_hood_Moore at hm
 refine srs hn ?_
 simp -dsimp
 refine ae ?_
 obtain ⟨a, j4, hm⟩ := bnd hm
 refine am [(0, .u (.one (.d (.int .i64 r_)))), (8, .u (.one (.d (.bool a))))] [] (by rfl) (by rfl) ?_ fun ρ σ hf => ?_
 ·replace hm := j4
  clear j4
  refine sr1 hn ?_
  rcases aj hm with ⟨c1, hm⟩ | ⟨c1, hm⟩
  ·simp -dsimp [c1]
   refine a6 ?_
   cases hm
   exact EE.here (by simp -dsimp)
  ·simp -dsimp [c1]
   refine a6 ?_
   cases hm
   exact EE.here (by simp -dsimp)
 ·clear j4
  simp only [Fits, ar, ap, and_true] at hf
  rcases aj hm with ⟨c2, hm⟩ | ⟨c2, hm⟩
  ·refine a8 (by simp -dsimp [hf]) c2 ?_
   refine srs hn ?_
   simp -dsimp
   refine ab (ag ?_)
   cases hm
   refine ⟨.inr rfl, ?_⟩
   exact EE.here (by simp -dsimp)
  ·refine a7 (by simp -dsimp [hf]) c2 ?_
   refine ac (a6 ?_)
   refine srs hn ?_
   obtain ⟨y, h3, hm⟩ := bnd hm
   simp -dsimp [hf]
   refine aa (dn r_ y h3) (dkL hn) ?_
   simp -dsimp
   refine ab ?_
   cases hm
   refine ⟨.inr rfl, ?_⟩
   exact EE.here (by simp -dsimp)
theorem ef (r_ : Int) (r : List Point) (hm : m_hood_Moore r_ = some r) : PureCall Tryz.prog 59 [.u (.one (.d (.int .i64 r_)))] (.u (.one (.d (.sl 2 (List.map Point.row r))))) := (f_hood_Moore r_ r hm).pureW
theorem cK (s : List UInt8) (suffix : List UInt8) (r : Bool) (hm : m_internal_stringslite_HasSuffix s suffix = some r) : PFn Tryz.prog 160 [.u (.one (.d (.str (bs s)))), .u (.one (.d (.str (bs suffix))))] (fun v => v.wk (.u (.one (.d (.bool r))))) := by
 refine aH Tryz.func160 Tryz.ntmps160 rfl (by kernel_rfl) (by simp) fun cx hn => ?_
 unfold m_internal_stringslite_HasSuffix at hm
 refine srs hn ?_
 simp -dsimp
 obtain ⟨a, j3, hm⟩ := bnd hm
 refine am [(4, .u (.one (.d (.bool a))))] [] (by rfl) (by rfl) ?_ fun ρ σ hf => ?_
 ·replace hm := j3
  clear j3
  refine sr1 hn ?_
  rcases aj hm with ⟨c1, hm⟩ | ⟨c1, hm⟩
  ·obtain ⟨s1, h2, hm⟩ := bnd hm
   simp -dsimp [c1, h2]
   refine a6 ?_
   cases hm
   exact EE.here (by simp -dsimp)
  ·simp -dsimp [c1]
   refine a6 ?_
   cases hm
   exact EE.here (by simp -dsimp)
 ·clear j3
  simp only [Fits, ar, ap, and_true] at hf
  refine ab ?_
  cases hm
  refine ⟨.inr rfl, ?_⟩
  exact EE.here (by simp -dsimp [hf])
theorem cE (s : List UInt8) (suffix : List UInt8) (r : Bool) (hm : m_internal_stringslite_HasSuffix s suffix = some r) : PureCall Tryz.prog 160 [.u (.one (.d (.str (bs s)))), .u (.one (.d (.str (bs suffix))))] (.u (.one (.d (.bool r)))) := (cK s suffix r hm).pureW
theorem cA (s : List UInt8) (suffix : List UInt8) (r : (List UInt8) × Bool) (hm : m_internal_stringslite_CutSuffix s suffix = some r) : PFn Tryz.prog 125 [.u (.one (.d (.str (bs s)))), .u (.one (.d (.str (bs suffix))))] (fun v => v.wk (.tup [.one (.d (.str (bs r.1))), .one (.d (.bool r.2))])) := by
 refine aH Tryz.func125 Tryz.ntmps125 rfl (by kernel_rfl) (by simp) fun cx hn => ?_
 unfold m_internal_stringslite_CutSuffix at hm
 refine srs hn ?_
 simp -dsimp
 refine ae ?_
 refine srs hn ?_
 obtain ⟨y, h1, hm⟩ := bnd hm
 simp -dsimp
 refine aa (cE s suffix y h1) (dkL hn) ?_
 simp -dsimp
 rcases aj hm with ⟨c2, hm⟩ | ⟨c2, hm⟩
 ·refine a8 (by simp -dsimp) c2 ?_
  refine srs hn ?_
  simp -dsimp [c2]
  refine ab (ag ?_)
  cases hm
  refine ⟨.inr rfl, ?_⟩
  exact EE.here (by simp -dsimp)
 ·refine a7 (by simp -dsimp) c2 ?_
  refine ac (a6 ?_)
  refine srs hn ?_
  obtain ⟨s1, h3, hm⟩ := bnd hm
  simp -dsimp [c2, h3]
  refine ab ?_
  cases hm
  refine ⟨.inr rfl, ?_⟩
  exact EE.here (by simp -dsimp)
theorem cz (s : List UInt8) (suffix : List UInt8) (r : (List UInt8) × Bool) (hm : m_internal_stringslite_CutSuffix s suffix = some r) : PureCall Tryz.prog 125 [.u (.one (.d (.str (bs s)))), .u (.one (.d (.str (bs suffix))))] (.tup [.one (.d (.str (bs r.1))), .one (.d (.bool r.2))]) := (cA s suffix r hm).pureW
theorem f_strings_CutSuffix (s : List UInt8) (suffix : List UInt8) (r : (List UInt8) × Bool) (hm : m_strings_CutSuffix s suffix = some r) : PFn Tryz.prog 60 [.u (.one (.d (.str (bs s)))), .u (.one (.d (.str (bs suffix))))] (fun v => v.wk (.tup [.one (.d (.str (bs r.1))), .one (.d (.bool r.2))])) := by
 refine aH Tryz.func60 Tryz.ntmps60 rfl (by kernel_rfl) (by simp) fun cx hn => ?_
 unfold m_strings_CutSuffix at hm
 refine srs hn ?_
 simp -dsimp
 refine srs hn ?_
 obtain ⟨y, h1, hm⟩ := bnd hm
 simp -dsimp
 refine aa (cz s suffix y h1) (dkL hn) ?_
 simp -dsimp
 refine ab ?_
 cases hm
 refine ⟨.inr rfl, ?_⟩
 exact EE.here (by simp -dsimp)
theorem bD (s : List UInt8) (suffix : List UInt8) (r : (List UInt8) × Bool) (hm : m_strings_CutSuffix s suffix = some r) : PureCall Tryz.prog 60 [.u (.one (.d (.str (bs s)))), .u (.one (.d (.str (bs suffix))))] (.tup [.one (.d (.str (bs r.1))), .one (.d (.bool r.2))]) := (f_strings_CutSuffix s suffix r hm).pureW
theorem f_hood_Neumann_1 (x : Int) (y : Int) (a : Int) (r : Bool) (hm : m_hood_Neumann_1 x y a = some r) : PFn Tryz.prog 126 [.u (.one (.d (.int .i64 x))), .u (.one (.d (.int .i64 y))), .u (.one (.ref ((rI .i64) a) 0))] (fun v => v.wk (.u (.one (.d (.bool r))))) := by
 refine aH Tryz.func126 Tryz.ntmps126 rfl (by kernel_rfl) (by simp) fun cx hn => ?_
 unfold m_hood_Neumann_1 at hm
 refine srs hn ?_
 simp -dsimp
 refine srs hn ?_
 simp -dsimp
 refine ab ?_
 cases hm
 refine ⟨.inr rfl, ?_⟩
 exact EE.here (by simp -dsimp)
theorem c_hood_Neumann_1 (x : Int) (y : Int) (a : Int) (r : Bool) (hm : m_hood_Neumann_1 x y a = some r) : PureCall Tryz.prog 126 [.u (.one (.d (.int .i64 x))), .u (.one (.d (.int .i64 y))), .u (.one (.ref ((rI .i64) a) 0))] (.u (.one (.d (.bool r)))) := (f_hood_Neumann_1 x y a r hm).pureW
def aP (cx : Cx) (r_ : Int) (cv : Int) (y : Int) (tt : (List Point)) (ee : Exit) (ρ : Env) (σ : Sto) : Prop := match tt with
 | l1 => ee = .exit 2 ∧ EE cx (aK [(0, .u (.one (.d (.int .i64 r_)))), (1, .u (.one (.fn 126 [.box 1000000 0]))), (5, .u (.one (.own 5000))), (6, .u (.one (.d (.int .i64 y))))] [(5000, .row 2 77 (List.map Point.row l1)), (1000000, .box [.d (.int .i64 cv)])]) ρ σ
set_option maxRecDepth 100000 in
theorem cu (cx : Cx) (hn : cx.n = 33) (_hk : cx.k = 1) (r_ : Int) (cv : Int) (y : Int) {fu : Nat} {stt : Int × (List Point)} {tt : (List Point)} (hh : ah (b_hood_collect_hood_Neumann_1_o_2 r_ cv y) fu stt = some tt) {ρ : Env} {σ : Sto}
  (hE : aT (fun stt : Int × (List Point) => match stt with | (x, _l1) => [(0, .u (.one (.d (.int .i64 r_)))), (1, .u (.one (.fn 126 [.box 1000000 0]))), (5, .u (.one (.own 5000))), (6, .u (.one (.d (.int .i64 y)))), (7, .u (.one (.d (.int .i64 x))))]) (fun stt : Int × (List Point) => match stt with | (_x, l1) => [(5000, .row 2 77 (List.map Point.row l1)), (1000000, .box [.d (.int .i64 cv)])]) stt ρ σ) : Swp Tryz.prog cx (.loop (bi [1, 1, 0, 1, 0, 0, 1, 0, 0, 1, 0, 0] (aG Tryz.f123))) ρ σ (aP cx r_ cv y tt) := by
 refine b3 hE hh (aP cx r_ cv y) ?_
 rintro ⟨x, l1⟩ r hm ρ σ hf
 simp only [Fits, ar, ap, and_true] at hf
 unfold b_hood_collect_hood_Neumann_1_o_2 at hm
 dsimp only at hm
 refine ae ?_
 refine srs hn ?_
 simp -dsimp [hf]
 rcases aj hm with ⟨c2, hm⟩ | ⟨c2, hm⟩
 ·refine a8 (by simp -dsimp) c2 ?_
  refine ac (a6 ?_)
  obtain ⟨l2, j6, hm⟩ := bnd hm
  refine am [(0, .u (.one (.d (.int .i64 r_)))), (1, .u (.one (.fn 126 [.box 1000000 0]))), (5, .u (.one (.own 5000))), (6, .u (.one (.d (.int .i64 y)))), (7, .u (.one (.d (.int .i64 x))))] [(5000, .row 2 77 (List.map Point.row l2)), (1000000, .box [.d (.int .i64 cv)])] (by rfl) (by rfl) ?_ fun ρ σ hf => ?_
  ·replace hm := j6
   clear j6
   refine ai ?_
   refine srs hn ?_
   obtain ⟨y1, h3, hm⟩ := bnd hm
   simp -dsimp [hf, c2]
   refine du (us' := [.u (.one (.d (.int .i64 x))), .u (.one (.d (.int .i64 y))), .u (.one (.ref ((rI .i64) cv) 0))]) (c_hood_Neumann_1 x y cv y1 h3) (by simp -dsimp [hf]) rfl (dkL hn) ?_
   simp -dsimp
   rcases aj hm with ⟨c4, hm⟩ | ⟨c4, hm⟩
   ·refine a8 (by simp -dsimp) c4 ?_
    refine sr1 hn ?_
    obtain ⟨l2, h5, hm⟩ := bnd hm
    obtain ⟨h5a, h5e⟩ := aB h5
    replace h5e := h5e.symm
    subst h5e
    try simp only [List.length_cons, List.length_nil, Nat.zero_add] at h5a
    simp -dsimp [hf, c4, h5a]
    refine aC ?_
    refine a6 ?_
    cases hm
    refine EE.step (Wk.move 31 5000 (by decide) (.inl (by decide))) ?_
    exact EE.here (by simp -dsimp [hf])
   ·refine a7 (by simp -dsimp) c4 ?_
    refine ac ?_
    refine aC ?_
    refine a6 ?_
    cases hm
    exact EE.here (by simp -dsimp [hf, c4])
  ·clear j6
   simp only [Fits, ar, ap, and_true] at hf
   refine sr1 hn ?_
   simp -dsimp [hf]
   cases hm
   refine ax ?_
   exact EE.here (by simp -dsimp [hf])
 ·refine a7 (by simp -dsimp) c2 ?_
  refine au ?_
  refine ag ?_
  cases hm
  refine aw nofun ?_
  unfold aP
  dsimp only
  refine ⟨rfl, ?_⟩
  exact EE.here (by simp -dsimp [hf, c2])
def aQ (cx : Cx) (_r_ : Int) (cv : Int) (tt : (List Point)) (ee : Exit) (ρ : Env) (σ : Sto) : Prop := match tt with
 | l => ee = .exit 0 ∧ EE cx (aK [(5, .u (.one (.own 5000)))] [(5000, .row 2 77 (List.map Point.row l)), (1000000, .box [.d (.int .i64 cv)])]) ρ σ
set_option maxRecDepth 100000 in
theorem ct (cx : Cx) (hn : cx.n = 33) (hk : cx.k = 1) (r_ : Int) (cv : Int) {fu : Nat} {stt : Int × (List Point)} {tt : (List Point)} (hh : ah (b_hood_collect_hood_Neumann_1_o_1 r_ cv) fu stt = some tt) {ρ : Env} {σ : Sto}
  (hE : aT (fun stt : Int × (List Point) => match stt with | (y, _l) => [(0, .u (.one (.d (.int .i64 r_)))), (1, .u (.one (.fn 126 [.box 1000000 0]))), (5, .u (.one (.own 5000))), (6, .u (.one (.d (.int .i64 y))))]) (fun stt : Int × (List Point) => match stt with | (_y, l) => [(5000, .row 2 77 (List.map Point.row l)), (1000000, .box [.d (.int .i64 cv)])]) stt ρ σ) : Swp Tryz.prog cx (.loop (bi [1, 1, 0, 1, 0, 0] (aG Tryz.f123))) ρ σ (aQ cx r_ cv tt) := by
 refine b3 hE hh (aQ cx r_ cv) ?_
 rintro ⟨y, l⟩ r hm ρ σ hf
 simp only [Fits, ar, ap, and_true] at hf
 unfold b_hood_collect_hood_Neumann_1_o_1 at hm
 dsimp only at hm
 refine ae ?_
 refine srs hn ?_
 simp -dsimp [hf]
 rcases aj hm with ⟨c1, hm⟩ | ⟨c1, hm⟩
 ·refine a8 (by simp -dsimp) c1 ?_
  refine ac (a6 (ae (ai ?_)))
  refine srs hn ?_
  simp -dsimp [hf, c1]
  refine ai ?_
  obtain ⟨l1, g7, hm⟩ := bnd hm
  refine aF (cu cx hn hk r_ cv y g7) (by
    try dsimp only
    exact EE.here (by simp -dsimp [hf])
  ) fun ee ρ σ x8 => ?_
  unfold aP at x8
  dsimp only at x8
  obtain ⟨rfl, x8⟩ := x8
  refine av ?_
  refine aC ?_
  refine a6 ?_
  refine aV (by rfl) (by rfl) x8 fun ρ σ hf => ?_
  simp only [Fits, ar, ap, and_true] at hf
  refine sr1 hn ?_
  simp -dsimp [hf]
  cases hm
  refine ax ?_
  exact EE.here (by simp -dsimp [hf])
 ·refine a7 (by simp -dsimp) c1 ?_
  refine au ?_
  refine ag ?_
  cases hm
  refine aw nofun ?_
  unfold aQ
  dsimp only
  refine ⟨rfl, ?_⟩
  exact EE.here (by simp -dsimp [hf, c1])
set_option maxRecDepth 100000 in
theorem cM (r_ : Int) (cv : Int) (r : List Point) (hm : m_hood_collect_hood_Neumann_1_o r_ cv = some r) : GFn Tryz.prog 123 [.u (.one (.d (.int .i64 r_))), .u (.one (.fn 126 [.box 1000000 0]))] [.box [.d (.int .i64 cv)]] (.u (.one (.own 1000001))) [some (.box [.d (.int .i64 cv)]), some (.row 2 77 (List.map Point.row r))] := by
 refine bf aM _ Tryz.func123 rfl (by kernel_rfl) (by simp [Tryz.ntmps123]) (by simp) (by first | rfl | simp) (by first | rfl | simp) fun cx hn hk => ?_
 replace hn : cx.n = 33 := hn.trans Tryz.ntmps123
 replace hk : cx.k = 1 := hk
 unfold m_hood_collect_hood_Neumann_1_o at hm
 refine srs hn ?_
 simp -dsimp
 refine srs hn ?_
 simp -dsimp
 refine ae ?_
 refine srs hn ?_
 simp -dsimp
 refine ai ?_
 obtain ⟨l, g9, hm⟩ := bnd hm
 refine aF (ct cx hn hk r_ cv g9) (by
   try dsimp only
   refine EE.step (Wk.own0 5 5000 2 77 (by simp -dsimp) (by decide)) ?_
   exact EE.here (by simp -dsimp)
 ) fun ee ρ σ x10 => ?_
 unfold aQ at x10
 dsimp only at x10
 obtain ⟨rfl, x10⟩ := x10
 refine av ?_
 refine a6 ?_
 refine aV (by rfl) (by rfl) x10 fun ρ σ hf => ?_
 simp only [Fits, ar, ap, and_true] at hf
 refine srs hn ?_
 simp -dsimp [hf]
 refine ab ?_
 cases hm
 refine ⟨.inr rfl, ?_⟩
 refine EE.step (Wk.move 5000 1000001 (by decide) (.inr (by rw [hk]; decide))) ?_
 exact EE.here (by simp -dsimp [hf])
theorem f_hood_Neumann (r_ : Int) (r : List Point) (hm : m_hood_Neumann r_ = some r) : PFn Tryz.prog 61 [.u (.one (.d (.int .i64 r_)))] (fun v => v.wk (.u (.one (.d (.sl 2 (List.map Point.row r)))))) := by
 refine aH Tryz.func61 Tryz.ntmps61 rfl (by kernel_rfl) (by simp) fun cx hn => ?_
 unfold m_hood_Neumann at hm
 refine srs hn ?_
 simp -dsimp
 refine ae ?_
 obtain ⟨a, j4, hm⟩ := bnd hm
 refine am [(1, .u (.one (.box 1 0))), (8, .u (.one (.d (.bool a))))] [(1, .box [.d (.int .i64 r_)])] (by rfl) (by rfl) ?_ fun ρ σ hf => ?_
 ·replace hm := j4
  clear j4
  refine sr1 hn ?_
  rcases aj hm with ⟨c1, hm⟩ | ⟨c1, hm⟩
  ·simp -dsimp [c1]
   refine a6 ?_
   cases hm
   exact EE.here (by simp -dsimp)
  ·simp -dsimp [c1]
   refine a6 ?_
   cases hm
   exact EE.here (by simp -dsimp)
 ·clear j4
  simp only [Fits, ar, ap, and_true] at hf
  rcases aj hm with ⟨c2, hm⟩ | ⟨c2, hm⟩
  ·refine a8 (by simp -dsimp [hf]) c2 ?_
   refine srs hn ?_
   simp -dsimp
   refine ab (ag ?_)
   cases hm
   refine ⟨.inr rfl, ?_⟩
   exact EE.here (by simp -dsimp)
  ·refine a7 (by simp -dsimp [hf]) c2 ?_
   refine ac (a6 ?_)
   refine srs hn ?_
   obtain ⟨y, h3, hm⟩ := bnd hm
   simp -dsimp [hf]
   refine aY (cM r_ r_ y h3) [1] [5000] rfl rfl rfl (by simp -dsimp) rfl (by simp -dsimp [hf]) (by first | rfl | simp) rfl (dkL hn) ?_
   simp -dsimp
   refine ab ?_
   cases hm
   refine ⟨.inr rfl, ?_⟩
   exact EE.here (by simp -dsimp)
theorem dE (r_ : Int) (r : List Point) (hm : m_hood_Neumann r_ = some r) : PureCall Tryz.prog 61 [.u (.one (.d (.int .i64 r_)))] (.u (.one (.d (.sl 2 (List.map Point.row r))))) := (f_hood_Neumann r_ r hm).pureW
theorem f_hood_Hex_1 (x : Int) (y : Int) (r : Bool) (hm : m_hood_Hex_1 x y = some r) : PFn Tryz.prog 127 [.u (.one (.d (.int .i64 x))), .u (.one (.d (.int .i64 y)))] (fun v => v.wk (.u (.one (.d (.bool r))))) := by
 refine aH Tryz.func127 Tryz.ntmps127 rfl (by kernel_rfl) (by simp) fun cx hn => ?_
 unfold m_hood_Hex_1 at hm
 refine srs hn ?_
 simp -dsimp
 refine srs hn ?_
 simp -dsimp
 refine ab ?_
 cases hm
 refine ⟨.inr rfl, ?_⟩
 exact EE.here (by simp -dsimp)
theorem c_hood_Hex_1 (x : Int) (y : Int) (r : Bool) (hm : m_hood_Hex_1 x y = some r) : PureCall Tryz.prog 127 [.u (.one (.d (.int .i64 x))), .u (.one (.d (.int .i64 y)))] (.u (.one (.d (.bool r)))) := (f_hood_Hex_1 x y r hm).pureW
def b7 (cx : Cx) (r_ : Int) (y : Int) (tt : (List Point)) (ee : Exit) (ρ : Env) (σ : Sto) : Prop := match tt with
 | l1 => ee = .exit 2 ∧ EE cx (aK [(0, .u (.one (.d (.int .i64 r_)))), (1, .u (.one (.fn 127 []))), (5, .u (.one (.own 5000))), (6, .u (.one (.d (.int .i64 y))))] [(5000, .row 2 77 (List.map Point.row l1))]) ρ σ
set_option maxRecDepth 100000 in
theorem dm (cx : Cx) (hn : cx.n = 33) (r_ : Int) (y : Int) {fu : Nat} {stt : Int × (List Point)} {tt : (List Point)} (hh : ah (b_hood_collect_hood_Hex_1_2 r_ y) fu stt = some tt) {ρ : Env} {σ : Sto}
  (hE : aT (fun stt : Int × (List Point) => match stt with | (x, _l1) => [(0, .u (.one (.d (.int .i64 r_)))), (1, .u (.one (.fn 127 []))), (5, .u (.one (.own 5000))), (6, .u (.one (.d (.int .i64 y)))), (7, .u (.one (.d (.int .i64 x))))]) (fun stt : Int × (List Point) => match stt with | (_x, l1) => [(5000, .row 2 77 (List.map Point.row l1))]) stt ρ σ) : Swp Tryz.prog cx (.loop (bi [1, 1, 0, 1, 0, 0, 1, 0, 0, 1, 0, 0] (aG Tryz.f123))) ρ σ (b7 cx r_ y tt) := by
 refine b3 hE hh (b7 cx r_ y) ?_
 rintro ⟨x, l1⟩ r hm ρ σ hf
 simp only [Fits, ar, ap, and_true] at hf
 unfold b_hood_collect_hood_Hex_1_2 at hm
 dsimp only at hm
 refine ae ?_
 refine srs hn ?_
 simp -dsimp [hf]
 rcases aj hm with ⟨c2, hm⟩ | ⟨c2, hm⟩
 ·refine a8 (by simp -dsimp) c2 ?_
  refine ac (a6 ?_)
  obtain ⟨l2, j6, hm⟩ := bnd hm
  refine am [(0, .u (.one (.d (.int .i64 r_)))), (1, .u (.one (.fn 127 []))), (5, .u (.one (.own 5000))), (6, .u (.one (.d (.int .i64 y)))), (7, .u (.one (.d (.int .i64 x))))] [(5000, .row 2 77 (List.map Point.row l2))] (by rfl) (by rfl) ?_ fun ρ σ hf => ?_
  ·replace hm := j6
   clear j6
   refine ai ?_
   refine srs hn ?_
   obtain ⟨y1, h3, hm⟩ := bnd hm
   simp -dsimp [hf, c2]
   refine aa (c_hood_Hex_1 x y y1 h3) (dkL hn) ?_
   simp -dsimp
   rcases aj hm with ⟨c4, hm⟩ | ⟨c4, hm⟩
   ·refine a8 (by simp -dsimp) c4 ?_
    refine sr1 hn ?_
    obtain ⟨l2, h5, hm⟩ := bnd hm
    obtain ⟨h5a, h5e⟩ := aB h5
    replace h5e := h5e.symm
    subst h5e
    try simp only [List.length_cons, List.length_nil, Nat.zero_add] at h5a
    simp -dsimp [hf, c4, h5a]
    refine aC ?_
    refine a6 ?_
    cases hm
    refine EE.step (Wk.move 31 5000 (by decide) (.inl (by decide))) ?_
    exact EE.here (by simp -dsimp [hf])
   ·refine a7 (by simp -dsimp) c4 ?_
    refine ac ?_
    refine aC ?_
    refine a6 ?_
    cases hm
    exact EE.here (by simp -dsimp [hf, c4])
  ·clear j6
   simp only [Fits, ar, ap, and_true] at hf
   refine sr1 hn ?_
   simp -dsimp [hf]
   cases hm
   refine ax ?_
   exact EE.here (by simp -dsimp [hf])
 ·refine a7 (by simp -dsimp) c2 ?_
  refine au ?_
  refine ag ?_
  cases hm
  refine aw nofun ?_
  unfold b7
  dsimp only
  refine ⟨rfl, ?_⟩
  exact EE.here (by simp -dsimp [hf, c2])
def b8 (cx : Cx) (_r_ : Int) (tt : (List Point)) (ee : Exit) (ρ : Env) (σ : Sto) : Prop := match tt with
 | l => ee = .exit 0 ∧ EE cx (aK [(5, .u (.one (.own 5000)))] [(5000, .row 2 77 (List.map Point.row l))]) ρ σ
set_option maxRecDepth 100000 in
theorem dj (cx : Cx) (hn : cx.n = 33) (r_ : Int) {fu : Nat} {stt : Int × (List Point)} {tt : (List Point)} (hh : ah (b_hood_collect_hood_Hex_1_1 r_) fu stt = some tt) {ρ : Env} {σ : Sto}
  (hE : aT (fun stt : Int × (List Point) => match stt with | (y, _l) => [(0, .u (.one (.d (.int .i64 r_)))), (1, .u (.one (.fn 127 []))), (5, .u (.one (.own 5000))), (6, .u (.one (.d (.int .i64 y))))]) (fun stt : Int × (List Point) => match stt with | (_y, l) => [(5000, .row 2 77 (List.map Point.row l))]) stt ρ σ) : Swp Tryz.prog cx (.loop (bi [1, 1, 0, 1, 0, 0] (aG Tryz.f123))) ρ σ (b8 cx r_ tt) := by
 refine b3 hE hh (b8 cx r_) ?_
 rintro ⟨y, l⟩ r hm ρ σ hf
 simp only [Fits, ar, ap, and_true] at hf
 unfold b_hood_collect_hood_Hex_1_1 at hm
 dsimp only at hm
 refine ae ?_
 refine srs hn ?_
 simp -dsimp [hf]
 rcases aj hm with ⟨c1, hm⟩ | ⟨c1, hm⟩
 ·refine a8 (by simp -dsimp) c1 ?_
  refine ac (a6 (ae (ai ?_)))
  refine srs hn ?_
  simp -dsimp [hf, c1]
  refine ai ?_
  obtain ⟨l1, g7, hm⟩ := bnd hm
  refine aF (dm cx hn r_ y g7) (by
    try dsimp only
    exact EE.here (by simp -dsimp [hf])
  ) fun ee ρ σ x8 => ?_
  unfold b7 at x8
  dsimp only at x8
  obtain ⟨rfl, x8⟩ := x8
  refine av ?_
  refine aC ?_
  refine a6 ?_
  refine aV (by rfl) (by rfl) x8 fun ρ σ hf => ?_
  simp only [Fits, ar, ap, and_true] at hf
  refine sr1 hn ?_
  simp -dsimp [hf]
  cases hm
  refine ax ?_
  exact EE.here (by simp -dsimp [hf])
 ·refine a7 (by simp -dsimp) c1 ?_
  refine au ?_
  refine ag ?_
  cases hm
  refine aw nofun ?_
  unfold b8
  dsimp only
  refine ⟨rfl, ?_⟩
  exact EE.here (by simp -dsimp [hf, c1])
set_option maxRecDepth 100000 in
theorem dI (r_ : Int) (r : List Point) (hm : m_hood_collect_hood_Hex_1 r_ = some r) : PFn Tryz.prog 123 [.u (.one (.d (.int .i64 r_))), .u (.one (.fn 127 []))] (fun v => v.wk (.u (.one (.d (.sl 2 (List.map Point.row r)))))) := by
 refine aH Tryz.func123 Tryz.ntmps123 rfl (by kernel_rfl) (by simp) fun cx hn => ?_
 unfold m_hood_collect_hood_Hex_1 at hm
 refine srs hn ?_
 simp -dsimp
 refine srs hn ?_
 simp -dsimp
 refine ae ?_
 refine srs hn ?_
 simp -dsimp
 refine ai ?_
 obtain ⟨l, g9, hm⟩ := bnd hm
 refine aF (dj cx hn r_ g9) (by
   try dsimp only
   refine EE.step (Wk.own0 5 5000 2 77 (by simp -dsimp) (by decide)) ?_
   exact EE.here (by simp -dsimp)
 ) fun ee ρ σ x10 => ?_
 unfold b8 at x10
 dsimp only at x10
 obtain ⟨rfl, x10⟩ := x10
 refine av ?_
 refine a6 ?_
 refine aV (by rfl) (by rfl) x10 fun ρ σ hf => ?_
 simp only [Fits, ar, ap, and_true] at hf
 refine srs hn ?_
 simp -dsimp [hf]
 refine ab ?_
 cases hm
 refine ⟨.inr rfl, ?_⟩
 exact EE.here (by simp -dsimp [hf])
theorem dH (r_ : Int) (r : List Point) (hm : m_hood_collect_hood_Hex_1 r_ = some r) : PureCall Tryz.prog 123 [.u (.one (.d (.int .i64 r_))), .u (.one (.fn 127 []))] (.u (.one (.d (.sl 2 (List.map Point.row r))))) := (dI r_ r hm).pureW
theorem f_hood_Hex (r : List Point) (hm : m_hood_Hex = some r) : PFn Tryz.prog 62 [] (fun v => v.wk (.u (.one (.d (.sl 2 (List.map Point.row r)))))) := by
 refine aH Tryz.func62 Tryz.ntmps62 rfl (by kernel_rfl) (by simp) fun cx hn => ?_
 unfold m_hood_Hex at hm
 refine srs hn ?_
 simp -dsimp
 refine srs hn ?_
 obtain ⟨y, h1, hm⟩ := bnd hm
 simp -dsimp
 refine aa (dH 1 y h1) (dkL hn) ?_
 simp -dsimp
 refine ab ?_
 cases hm
 refine ⟨.inr rfl, ?_⟩
 exact EE.here (by simp -dsimp)
theorem c_hood_Hex (r : List Point) (hm : m_hood_Hex = some r) : PureCall Tryz.prog 62 [] (.u (.one (.d (.sl 2 (List.map Point.row r))))) := (f_hood_Hex r hm).pureW
def b6 (cx : Cx) (_l : List Int) (_n : Int) (tt : Bool ⊕ Unit) (ee : Exit) (ρ : Env) (σ : Sto) : Prop := match tt with
 | .inl r => ee = .ret ∧ EE cx (fun ρ σ => ∃ v, cC tb ρ σ Tryz.f128.results.toList = some v ∧ (v.frz σ).free = true ∧ (v.frz σ).wk (.u (.one (.d (.bool r))))) ρ σ
 | .inr _u => ee = .exit 0 ∧ EE cx (aK [] []) ρ σ
theorem l_lifelike_ascends_1 (cx : Cx) (hn : cx.n = 24) (l : List Int) (n : Int) {fu : Nat} {stt : Int × Int} {tt : Bool ⊕ Unit} (hh : ah (b_lifelike_ascends_1 l n) fu stt = some tt) {ρ : Env} {σ : Sto}
  (hE : aT (fun stt : Int × Int => match stt with | (last, a) => [(1, .u (.one (.d (.int .i64 n)))), (5, .u (.one (.d (.int .i64 last)))), (8, .u (.one (.d (.sl 1 (List.map (rI .i64) l))))), (9, .u (.one (.d (.int .i64 (al l))))), (10, .u (.one (.d (.int .i64 a))))]) (fun stt : Int × Int => match stt with | (_last, _a) => []) stt ρ σ) : Swp Tryz.prog cx (.loop (bi [1, 1, 0, 1, 0, 0] (aG Tryz.f128))) ρ σ (b6 cx l n tt) := by
 refine b3 hE hh (b6 cx l n) ?_
 rintro ⟨last, a⟩ r hm ρ σ hf
 simp only [Fits, ar, ap, and_true] at hf
 unfold b_lifelike_ascends_1 at hm
 dsimp only at hm
 refine srs hn ?_
 simp -dsimp [hf]
 refine ae ?_
 rcases aj hm with ⟨c1, hm⟩ | ⟨c1, hm⟩
 ·refine a8 (by simp -dsimp) c1 ?_
  refine ac (a6 (ae (ai ?_)))
  refine srs hn ?_
  obtain ⟨x, h2, hm⟩ := bnd hm
  simp -dsimp [hf, c1, h2]
  refine ae ?_
  obtain ⟨a1, j5, hm⟩ := bnd hm
  refine am [(1, .u (.one (.d (.int .i64 n)))), (7, .u (.one (.d (.int .i64 x)))), (8, .u (.one (.d (.sl 1 (List.map (rI .i64) l))))), (9, .u (.one (.d (.int .i64 (al l))))), (10, .u (.one (.d (.int .i64 a)))), (21, .u (.one (.d (.bool a1))))] [] (by rfl) (by rfl) ?_ fun ρ σ hf => ?_
  ·replace hm := j5
   clear j5
   refine sr1 hn ?_
   rcases aj hm with ⟨c3, hm⟩ | ⟨c3, hm⟩
   ·simp -dsimp [hf, c3]
    refine a6 ?_
    cases hm
    exact EE.here (by simp -dsimp [hf])
   ·simp -dsimp [hf, c3]
    refine a6 ?_
    cases hm
    exact EE.here (by simp -dsimp [hf])
  ·clear j5
   simp only [Fits, ar, ap, and_true] at hf
   rcases aj hm with ⟨c4, hm⟩ | ⟨c4, hm⟩
   ·refine a8 (by simp -dsimp [hf]) c4 ?_
    refine srs hn ?_
    simp -dsimp
    refine ab (ag (aL (ag ?_)))
    cases hm
    refine aw nofun ?_
    unfold b6
    dsimp only
    refine ⟨rfl, ?_⟩
    exact EE.here (by simp -dsimp [Tryz.results128])
   ·refine a7 (by simp -dsimp [hf]) c4 ?_
    refine ac (a6 ?_)
    refine sr1 hn ?_
    simp -dsimp [hf]
    refine aC ?_
    refine a6 ?_
    refine sr1 hn ?_
    simp -dsimp [hf]
    cases hm
    refine ax ?_
    exact EE.here (by simp -dsimp [hf])
 ·refine a7 (by simp -dsimp) c1 ?_
  refine au ?_
  refine ag ?_
  cases hm
  refine aw nofun ?_
  unfold b6
  dsimp only
  refine ⟨rfl, ?_⟩
  exact EE.here (by simp -dsimp [c1])
theorem f_lifelike_ascends (l : List Int) (n : Int) (r : Bool) (hm : m_lifelike_ascends l n = some r) : PFn Tryz.prog 128 [.u (.one (.d (.sl 1 (List.map (rI .i64) l)))), .u (.one (.d (.int .i64 n)))] (fun v => v.wk (.u (.one (.d (.bool r))))) := by
 refine aH Tryz.func128 Tryz.ntmps128 rfl (by kernel_rfl) (by simp) fun cx hn => ?_
 unfold m_lifelike_ascends at hm
 refine srs hn ?_
 simp -dsimp
 refine srs hn ?_
 simp -dsimp
 refine ae ?_
 refine srs hn ?_
 simp -dsimp
 refine ai ?_
 obtain ⟨o_, g6, hm⟩ := bnd hm
 refine aF (l_lifelike_ascends_1 cx hn l n g6) (by
   try dsimp only
   exact EE.here (by simp -dsimp)
 ) fun ee ρ σ x7 => ?_
 rcases o_ with r | _u
 ·unfold b6 at x7
  dsimp only at x7
  obtain ⟨rfl, x7⟩ := x7
  refine aL (ag ?_)
  cases hm
  exact ⟨.inr rfl, x7⟩
 ·unfold b6 at x7
  dsimp only at x7
  obtain ⟨rfl, x7⟩ := x7
  refine av ?_
  refine a6 ?_
  refine aV (by rfl) (by rfl) x7 fun ρ σ hf => ?_
  simp only [Fits, ar, ap, and_true] at hf
  refine srs hn ?_
  simp -dsimp
  refine ab ?_
  cases hm
  refine ⟨.inr rfl, ?_⟩
  exact EE.here (by simp -dsimp)
theorem cg (l : List Int) (n : Int) (r : Bool) (hm : m_lifelike_ascends l n = some r) : PureCall Tryz.prog 128 [.u (.one (.d (.sl 1 (List.map (rI .i64) l)))), .u (.one (.d (.int .i64 n)))] (.u (.one (.d (.bool r)))) := (f_lifelike_ascends l n r hm).pureW
def ba (cx : Cx) (_l : List Int) (tt : ((List Int) × Bool) ⊕ (List Int)) (ee : Exit) (ρ : Env) (σ : Sto) : Prop := match tt with
 | .inl r => ee = .ret ∧ EE cx (fun ρ σ => ∃ v, cC tb ρ σ Tryz.f63.results.toList = some v ∧ (v.frz σ).free = true ∧ (v.frz σ).wk (.tup [.one (.d (.sl 1 (List.map (rI .i64) r.1))), .one (.d (.bool r.2))])) ρ σ
 | .inr out => ee = .exit 0 ∧ EE cx (aK [(4, .u (.one (.own 5000)))] [(5000, .row 1 3 (List.map (rI .i64) out))]) ρ σ
set_option maxRecDepth 100000 in
theorem l_lifelike_digits_1 (cx : Cx) (hn : cx.n = 30) (l : List Int) {fu : Nat} {stt : Int × (List Int)} {tt : ((List Int) × Bool) ⊕ (List Int)} (hh : ah (b_lifelike_digits_1 l) fu stt = some tt) {ρ : Env} {σ : Sto}
  (hE : aT (fun stt : Int × (List Int) => match stt with | (a, _out) => [(4, .u (.one (.own 5000))), (8, .u (.one (.d (.sl 1 (List.map (rI .u8) l))))), (9, .u (.one (.d (.int .i64 (al l))))), (10, .u (.one (.d (.int .i64 a))))]) (fun stt : Int × (List Int) => match stt with | (_a, out) => [(5000, .row 1 3 (List.map (rI .i64) out))]) stt ρ σ) : Swp Tryz.prog cx (.loop (bi [1, 1, 0, 1, 0, 0] (aG Tryz.f63))) ρ σ (ba cx l tt) := by
 refine b3 hE hh (ba cx l) ?_
 rintro ⟨a, out⟩ r hm ρ σ hf
 simp only [Fits, ar, ap, and_true] at hf
 unfold b_lifelike_digits_1 at hm
 dsimp only at hm
 refine srs hn ?_
 simp -dsimp [hf]
 refine ae ?_
 rcases aj hm with ⟨c2, hm⟩ | ⟨c2, hm⟩
 ·refine a8 (by simp -dsimp) c2 ?_
  refine ac (a6 (ae (ai ?_)))
  refine srs hn ?_
  obtain ⟨x, h3, hm⟩ := bnd hm
  simp -dsimp [hf, c2, h3]
  refine ae ?_
  obtain ⟨a1, j7, hm⟩ := bnd hm
  refine am [(4, .u (.one (.own 5000))), (6, .u (.one (.d (.int .u8 x)))), (8, .u (.one (.d (.sl 1 (List.map (rI .u8) l))))), (9, .u (.one (.d (.int .i64 (al l))))), (10, .u (.one (.d (.int .i64 a)))), (19, .u (.one (.d (.bool a1))))] [(5000, .row 1 3 (List.map (rI .i64) out))] (by rfl) (by rfl) ?_ fun ρ σ hf => ?_
  ·replace hm := j7
   clear j7
   refine sr1 hn ?_
   rcases aj hm with ⟨c4, hm⟩ | ⟨c4, hm⟩
   ·simp -dsimp [c4]
    refine a6 ?_
    cases hm
    exact EE.here (by simp -dsimp [hf])
   ·simp -dsimp [c4]
    refine a6 ?_
    cases hm
    exact EE.here (by simp -dsimp [hf])
  ·clear j7
   simp only [Fits, ar, ap, and_true] at hf
   rcases aj hm with ⟨c5, hm⟩ | ⟨c5, hm⟩
   ·refine a8 (by simp -dsimp [hf]) c5 ?_
    refine srs hn ?_
    simp -dsimp
    refine ab (ag (aL (ag ?_)))
    cases hm
    refine aw nofun ?_
    unfold ba
    dsimp only
    refine ⟨rfl, ?_⟩
    exact EE.here (by simp -dsimp [Tryz.results63])
   ·refine a7 (by simp -dsimp [hf]) c5 ?_
    refine ac (a6 ?_)
    refine sr1 hn ?_
    obtain ⟨l1, h6, hm⟩ := bnd hm
    obtain ⟨h6a, h6e⟩ := aB h6
    replace h6e := h6e.symm
    subst h6e
    try simp only [List.length_cons, List.length_nil, Nat.zero_add] at h6a
    simp -dsimp [hf, h6a]
    refine aC ?_
    refine a6 ?_
    refine sr1 hn ?_
    simp -dsimp [hf]
    cases hm
    refine ax ?_
    refine EE.step (Wk.move 25 5000 (by decide) (.inl (by decide))) ?_
    exact EE.here (by simp -dsimp [hf])
 ·refine a7 (by simp -dsimp) c2 ?_
  refine au ?_
  refine ag ?_
  cases hm
  refine aw nofun ?_
  unfold ba
  dsimp only
  refine ⟨rfl, ?_⟩
  exact EE.here (by simp -dsimp [hf, c2])
set_option maxRecDepth 100000 in
theorem f_lifelike_digits (s : List UInt8) (r : (List Int) × Bool) (hm : m_lifelike_digits s = some r) : PFn Tryz.prog 63 [.u (.one (.d (.str (bs s))))] (fun v => v.wk (.tup [.one (.d (.sl 1 (List.map (rI .i64) r.1))), .one (.d (.bool r.2))])) := by
 refine aH Tryz.func63 Tryz.ntmps63 rfl (by kernel_rfl) (by simp) fun cx hn => ?_
 unfold m_lifelike_digits at hm
 refine srs hn ?_
 simp -dsimp
 refine srs hn ?_
 simp -dsimp
 refine ae ?_
 refine srs hn ?_
 obtain ⟨l, h1, hm⟩ := bnd hm
 simp -dsimp [h1]
 refine ai ?_
 obtain ⟨o_, g8, hm⟩ := bnd hm
 refine aF (l_lifelike_digits_1 cx hn l g8) (by
   try dsimp only
   refine EE.step (Wk.own0 4 5000 1 3 (by simp -dsimp) (by decide)) ?_
   exact EE.here (by simp -dsimp)
 ) fun ee ρ σ x9 => ?_
 rcases o_ with r | out
 ·unfold ba at x9
  dsimp only at x9
  obtain ⟨rfl, x9⟩ := x9
  refine aL (ag ?_)
  cases hm
  exact ⟨.inr rfl, x9⟩
 ·unfold ba at x9
  dsimp only at x9
  obtain ⟨rfl, x9⟩ := x9
  refine av ?_
  refine a6 ?_
  refine aV (by rfl) (by rfl) x9 fun ρ σ hf => ?_
  simp only [Fits, ar, ap, and_true] at hf
  refine srs hn ?_
  obtain ⟨y, h10, hm⟩ := bnd hm
  simp -dsimp [hf]
  refine du (us' := [.u (.one (.d (.sl 1 (List.map (rI .i64) out)))), .u (.one (.d (.int .i64 9)))]) (cg out 9 y h10) (by simp -dsimp [hf]) rfl (dkL hn) ?_
  simp -dsimp
  refine ab ?_
  cases hm
  refine ⟨.inr rfl, ?_⟩
  exact EE.here (by simp -dsimp [hf])
theorem dR (s : List UInt8) (r : (List Int) × Bool) (hm : m_lifelike_digits s = some r) : PureCall Tryz.prog 63 [.u (.one (.d (.str (bs s))))] (.tup [.one (.d (.sl 1 (List.map (rI .i64) r.1))), .one (.d (.bool r.2))]) := (f_lifelike_digits s r hm).pureW
def aA (cx : Cx) (_sv1 : List Point) (_sv2 : List Point) (tt : Bool ⊕ Unit) (ee : Exit) (ρ : Env) (σ : Sto) : Prop := match tt with
 | .inl r => ee = .ret ∧ EE cx (fun ρ σ => ∃ v, cC tb ρ σ Tryz.f100.results.toList = some v ∧ (v.frz σ).free = true ∧ (v.frz σ).wk (.u (.one (.d (.bool r))))) ρ σ
 | .inr _u => ee = .exit 0 ∧ EE cx (aK [] []) ρ σ
theorem bV (cx : Cx) (hn : cx.n = 26) (sv1 : List Point) (sv2 : List Point) {fu : Nat} {stt : Int} {tt : Bool ⊕ Unit} (hh : ah (b_slices_Equal_api_Point_api_Point_1 sv1 sv2) fu stt = some tt) {ρ : Env} {σ : Sto}
  (hE : aT (fun a : Int => [(0, .u (.one (.d (.sl 2 (List.map Point.row sv1))))), (1, .u (.one (.d (.sl 2 (List.map Point.row sv2))))), (12, .u (.one (.d (.int .i64 (al sv1))))), (13, .u (.one (.d (.int .i64 a))))]) (fun _a : Int => []) stt ρ σ) : Swp Tryz.prog cx (.loop (bi [1, 1, 0, 1, 0, 0] (aG Tryz.f100))) ρ σ (aA cx sv1 sv2 tt) := by
 refine b3 hE hh (aA cx sv1 sv2) ?_
 rintro a r hm ρ σ hf
 simp only [Fits, ar, ap, and_true] at hf
 unfold b_slices_Equal_api_Point_api_Point_1 at hm
 dsimp only at hm
 refine srs hn ?_
 simp -dsimp [hf]
 refine ae ?_
 rcases aj hm with ⟨c2, hm⟩ | ⟨c2, hm⟩
 ·refine a8 (by simp -dsimp) c2 ?_
  refine ac (a6 (ae (ai ?_)))
  refine srs hn ?_
  simp -dsimp [hf, c2]
  refine dV aM mixed (by rw [hn]; kernel_rfl) ?_
  obtain ⟨x, h3, hm⟩ := bnd hm
  obtain ⟨x1, h4, hm⟩ := bnd hm
  simp -dsimp [hf, h3, h4]
  rcases aj hm with ⟨c5, hm⟩ | ⟨c5, hm⟩
  ·refine a8 (by simp -dsimp) c5 ?_
   refine srs hn ?_
   simp -dsimp [c5]
   refine ab (aL (ag ?_))
   cases hm
   refine aw nofun ?_
   unfold aA
   dsimp only
   refine ⟨rfl, ?_⟩
   exact EE.here (by simp -dsimp [Tryz.results100])
  ·refine a7 (by simp -dsimp) c5 ?_
   refine ac ?_
   refine aC ?_
   refine a6 ?_
   refine sr1 hn ?_
   simp -dsimp [hf, c5]
   cases hm
   refine ax ?_
   exact EE.here (by simp -dsimp [hf])
 ·refine a7 (by simp -dsimp) c2 ?_
  refine au ?_
  refine ag ?_
  cases hm
  refine aw nofun ?_
  unfold aA
  dsimp only
  refine ⟨rfl, ?_⟩
  exact EE.here (by simp -dsimp [c2])
theorem cj (sv1 : List Point) (sv2 : List Point) (r : Bool) (hm : m_slices_Equal_api_Point_api_Point sv1 sv2 = some r) : PFn Tryz.prog 100 [.u (.one (.d (.sl 2 (List.map Point.row sv1)))), .u (.one (.d (.sl 2 (List.map Point.row sv2))))] (fun v => v.wk (.u (.one (.d (.bool r))))) := by
 refine aH Tryz.func100 Tryz.ntmps100 rfl (by kernel_rfl) (by simp) fun cx hn => ?_
 unfold m_slices_Equal_api_Point_api_Point at hm
 refine srs hn ?_
 simp -dsimp
 refine ae ?_
 refine srs hn ?_
 simp -dsimp
 rcases aj hm with ⟨c1, hm⟩ | ⟨c1, hm⟩
 ·refine a8 (by simp -dsimp) c1 ?_
  refine srs hn ?_
  simp -dsimp [c1]
  refine ab (ag ?_)
  cases hm
  refine ⟨.inr rfl, ?_⟩
  exact EE.here (by simp -dsimp)
 ·refine a7 (by simp -dsimp) c1 ?_
  refine ac (a6 (ae ?_))
  refine srs hn ?_
  simp -dsimp [c1]
  refine ai ?_
  obtain ⟨o_, g6, hm⟩ := bnd hm
  refine aF (bV cx hn sv1 sv2 g6) (by
    try dsimp only
    exact EE.here (by simp -dsimp)
  ) fun ee ρ σ x7 => ?_
  rcases o_ with r | _u
  ·unfold aA at x7
   dsimp only at x7
   obtain ⟨rfl, x7⟩ := x7
   refine aL (ag ?_)
   cases hm
   exact ⟨.inr rfl, x7⟩
  ·unfold aA at x7
   dsimp only at x7
   obtain ⟨rfl, x7⟩ := x7
   refine av ?_
   refine a6 ?_
   refine aV (by rfl) (by rfl) x7 fun ρ σ hf => ?_
   simp only [Fits, ar, ap, and_true] at hf
   refine srs hn ?_
   simp -dsimp
   refine ab ?_
   cases hm
   refine ⟨.inr rfl, ?_⟩
   exact EE.here (by simp -dsimp)
theorem co (sv1 : List Point) (sv2 : List Point) (r : Bool) (hm : m_slices_Equal_api_Point_api_Point sv1 sv2 = some r) : PureCall Tryz.prog 100 [.u (.one (.d (.sl 2 (List.map Point.row sv1)))), .u (.one (.d (.sl 2 (List.map Point.row sv2))))] (.u (.one (.d (.bool r)))) := (cj sv1 sv2 r hm).pureW
end Go.Proofs.YtldhnnkpmhnpcaaGreatDoor
