/-
  That the code does what the functions say (made by cc.py).
-/
import Derived.Test.YtfpjnmhdbgbmmaaGreatDoorMd1
import Derived.Test.YtfpjnmhdbgbmmaaGreatDoorTb
import Derived.Test.YtfpjnmhdbgbmmaaGreatDoorWa1
namespace Go.Proofs.YtfpjnmhdbgbmmaaGreatDoor
open Go.AM Go.Proofs
attribute [-simp] qlookup cC dS Ob.wipe Ob.ren Ob.frz1
def b9 (cx : Cx) (r_ : Int) (cv : Int) (y : Int) (tt : (List Point)) (ee : Exit) (ρ : Env) (σ : Sto) : Prop := match tt with
 | l1 => ee = .exit 2 ∧ EE cx (aU [(0, .u (.one (.d (.int .i64 r_)))), (1, .u (.one (.fn 133 [.box 1000000 0]))), (5, .u (.one (.own 5000))), (6, .u (.one (.d (.int .i64 y))))] [(5000, .row 2 71 (List.map Point.row l1)), (1000000, .box [.d (.int .i64 cv)])]) ρ σ
theorem eQ (cx : Cx) (hn : cx.n = 33) (_hk : cx.k = 1) (r_ : Int) (cv : Int) (y : Int) {fu : Nat} {stt : Int × (List Point)} {tt : (List Point)} (hh : al (bJ r_ cv y) fu stt = some tt) {ρ : Env} {σ : Sto}
  (hE : b4 (fun stt : Int × (List Point) => match stt with | (x, _l1) => [(0, .u (.one (.d (.int .i64 r_)))), (1, .u (.one (.fn 133 [.box 1000000 0]))), (5, .u (.one (.own 5000))), (6, .u (.one (.d (.int .i64 y)))), (7, .u (.one (.d (.int .i64 x))))]) (fun stt : Int × (List Point) => match stt with | (_x, l1) => [(5000, .row 2 71 (List.map Point.row l1)), (1000000, .box [.d (.int .i64 cv)])]) stt ρ σ) : Swp Tryz.prog cx (.loop (bQ [1, 1, 0, 1, 0, 0, 1, 0, 0, 1, 0, 0] (aP Tryz.f130))) ρ σ (b9 cx r_ cv y tt) := by
 refine b8 hE hh (b9 cx r_ cv y) (fun _ => by rfl) (fun _ => by rfl) ?_
 rintro ⟨x, l1⟩ r hm ρ σ hf
 simp only [Fits, am, ap, and_true] at hf
 unfold bJ at hm
 dsimp only at hm
 refine ac ?_
 refine srs hn (by kernel_rfl) ?_
 simp -dsimp [hf]
 rcases aj hm with ⟨c2, hm⟩ | ⟨c2, hm⟩
 ·refine a8 (b := (leB x r_)) (by simp -dsimp) c2 ?_
  refine ab (a6 ?_)
  obtain ⟨l2, j6, hm⟩ := bnd hm
  refine aw [(0, .u (.one (.d (.int .i64 r_)))), (1, .u (.one (.fn 133 [.box 1000000 0]))), (5, .u (.one (.own 5000))), (6, .u (.one (.d (.int .i64 y)))), (7, .u (.one (.d (.int .i64 x))))] [(5000, .row 2 71 (List.map Point.row l2)), (1000000, .box [.d (.int .i64 cv)])] (by rfl) (by rfl) ?_ fun ρ σ hf => ?_
  ·replace hm := j6
   clear j6
   refine ai ?_
   refine srs hn (by kernel_rfl) ?_
   obtain ⟨y1, h3, hm⟩ := bnd hm
   simp -dsimp [hf, c2]
   refine callL_brw (us' := [.u (.one (.d (.int .i64 x))), .u (.one (.d (.int .i64 y))), .u (.one (.ref ((rI .i64) cv) 0))]) (c_hood_Neumann_1 x y cv y1 h3) (by simp -dsimp [hf]) rfl (by rw [hn]; decide) ?_
   simp -dsimp
   rcases aj hm with ⟨c4, hm⟩ | ⟨c4, hm⟩
   ·refine a8 (b := y1) (by simp -dsimp) c4 ?_
    refine sr1 hn (by kernel_rfl) ?_
    obtain ⟨l2, h5, hm⟩ := bnd hm
    obtain ⟨h5a, h5e⟩ := aL h5
    replace h5e := h5e.symm
    subst h5e
    try simp only [List.length_cons, List.length_nil, Nat.zero_add] at h5a
    simp -dsimp [hf, c4, h5a]
    refine aJ ?_
    refine a6 ?_
    cases hm
    refine EE.step (Wk.move 31 5000 (by decide) (.inl (by decide))) ?_
    refine EE.here ?_
    simp -dsimp [hf]
   ·refine a7 (b := y1) (by simp -dsimp) c4 ?_
    refine ab ?_
    refine aJ ?_
    refine a6 ?_
    cases hm
    refine EE.here ?_
    simp -dsimp [hf, c4]
  ·clear j6
   simp only [Fits, am, ap, and_true] at hf
   refine sr1 hn (by kernel_rfl) ?_
   simp -dsimp [hf]
   cases hm
   refine aB ?_
   refine EE.here ?_
   simp -dsimp [hf]
 ·refine a7 (b := (leB x r_)) (by simp -dsimp) c2 ?_
  refine av ?_
  refine ag ?_
  cases hm
  refine ar nofun ?_
  unfold b9
  dsimp only
  refine ⟨rfl, ?_⟩
  refine EE.here ?_
  simp -dsimp [hf, c2]
def ba (cx : Cx) (_r_ : Int) (cv : Int) (tt : (List Point)) (ee : Exit) (ρ : Env) (σ : Sto) : Prop := match tt with
 | l => ee = .exit 0 ∧ EE cx (aU [(5, .u (.one (.own 5000)))] [(5000, .row 2 71 (List.map Point.row l)), (1000000, .box [.d (.int .i64 cv)])]) ρ σ
theorem eR (cx : Cx) (hn : cx.n = 33) (hk : cx.k = 1) (r_ : Int) (cv : Int) {fu : Nat} {stt : Int × (List Point)} {tt : (List Point)} (hh : al (bK r_ cv) fu stt = some tt) {ρ : Env} {σ : Sto}
  (hE : b4 (fun stt : Int × (List Point) => match stt with | (y, _l) => [(0, .u (.one (.d (.int .i64 r_)))), (1, .u (.one (.fn 133 [.box 1000000 0]))), (5, .u (.one (.own 5000))), (6, .u (.one (.d (.int .i64 y))))]) (fun stt : Int × (List Point) => match stt with | (_y, l) => [(5000, .row 2 71 (List.map Point.row l)), (1000000, .box [.d (.int .i64 cv)])]) stt ρ σ) : Swp Tryz.prog cx (.loop (bQ [1, 1, 0, 1, 0, 0] (aP Tryz.f130))) ρ σ (ba cx r_ cv tt) := by
 refine b8 hE hh (ba cx r_ cv) (fun _ => by rfl) (fun _ => by rfl) ?_
 rintro ⟨y, l⟩ r hm ρ σ hf
 simp only [Fits, am, ap, and_true] at hf
 unfold bK at hm
 dsimp only at hm
 refine ac ?_
 refine srs hn (by kernel_rfl) ?_
 simp -dsimp [hf]
 rcases aj hm with ⟨c1, hm⟩ | ⟨c1, hm⟩
 ·refine a8 (b := (leB y r_)) (by simp -dsimp) c1 ?_
  refine ab (a6 (ac (ai ?_)))
  refine srs hn (by kernel_rfl) ?_
  simp -dsimp [hf, c1]
  refine ai ?_
  obtain ⟨l1, g7, hm⟩ := bnd hm
  refine aO [(0, .u (.one (.d (.int .i64 r_)))), (1, .u (.one (.fn 133 [.box 1000000 0]))), (5, .u (.one (.own 5000))), (6, .u (.one (.d (.int .i64 y)))), (7, .u (.one (.d (.int .i64 (dl .i64 r_)))))] [(5000, .row 2 71 (List.map Point.row l)), (1000000, .box [.d (.int .i64 cv)])] (by rfl) (by rfl) (by
    refine EE.here ?_
    simp -dsimp [hf]
  ) fun ρ σ hf => ?_
  refine (eQ cx hn hk r_ cv y g7 hf).mono fun ee ρ σ x8 => ?_
  unfold b9 at x8
  dsimp only at x8
  obtain ⟨rfl, x8⟩ := x8
  refine au ?_
  refine aJ ?_
  refine a6 ?_
  refine b5 (by rfl) (by rfl) x8 fun ρ σ hf => ?_
  simp only [Fits, am, ap, and_true] at hf
  refine sr1 hn (by kernel_rfl) ?_
  simp -dsimp [hf]
  cases hm
  refine aB ?_
  refine EE.here ?_
  simp -dsimp [hf]
 ·refine a7 (b := (leB y r_)) (by simp -dsimp) c1 ?_
  refine av ?_
  refine ag ?_
  cases hm
  refine ar nofun ?_
  unfold ba
  dsimp only
  refine ⟨rfl, ?_⟩
  refine EE.here ?_
  simp -dsimp [hf, c1]
theorem ft (r_ : Int) (cv : Int) (r : List Point) (hm : bS r_ cv = some r) : GFn Tryz.prog 130 [.u (.one (.d (.int .i64 r_))), .u (.one (.fn 133 [.box 1000000 0]))] [.box [.d (.int .i64 cv)]] (.u (.one (.own 1000001))) [some (.box [.d (.int .i64 cv)]), some (.row 2 71 (List.map Point.row r))] := by
 refine bL aK _ Tryz.func130 rfl (by kernel_rfl) (by simp [Tryz.ntmps130]) (by simp) (by first | rfl | simp) (by first | rfl | simp) fun cx hn hk => ?_
 replace hn : cx.n = 33 := hn.trans Tryz.ntmps130
 replace hk : cx.k = 1 := hk
 unfold bS at hm
 refine srs hn (by kernel_rfl) ?_
 simp -dsimp []
 refine srs hn (by kernel_rfl) ?_
 simp -dsimp []
 refine ac ?_
 refine srs hn (by kernel_rfl) ?_
 simp -dsimp []
 refine ai ?_
 obtain ⟨l, g9, hm⟩ := bnd hm
 refine aO [(0, .u (.one (.d (.int .i64 r_)))), (1, .u (.one (.fn 133 [.box 1000000 0]))), (5, .u (.one (.own 5000))), (6, .u (.one (.d (.int .i64 (dl .i64 r_)))))] [(5000, .row 2 71 (List.map Point.row [])), (1000000, .box [.d (.int .i64 cv)])] (by rfl) (by rfl) (by
   refine EE.step (Wk.own0 5 5000 2 71 (by simp -dsimp []) (by decide)) ?_
   refine EE.here ?_
   simp -dsimp []
 ) fun ρ σ hf => ?_
 refine (eR cx hn hk r_ cv g9 hf).mono fun ee ρ σ x10 => ?_
 unfold ba at x10
 dsimp only at x10
 obtain ⟨rfl, x10⟩ := x10
 refine au ?_
 refine a6 ?_
 refine b5 (by rfl) (by rfl) x10 fun ρ σ hf => ?_
 simp only [Fits, am, ap, and_true] at hf
 refine srs hn (by kernel_rfl) ?_
 simp -dsimp [hf]
 refine aa ?_
 cases hm
 refine ⟨.inr rfl, ?_⟩
 refine EE.step (Wk.move 5000 1000001 (by decide) (.inr (by rw [hk]; decide))) ?_
 refine EE.here ?_
 simp -dsimp [hf]
theorem f_hood_Neumann (r_ : Int) (r : List Point) (hm : e5 r_ = some r) : PFn Tryz.prog 69 [.u (.one (.d (.int .i64 r_)))] (fun v => v.wk (.u (.one (.d (.sl 2 (List.map Point.row r)))))) := by
 refine aX Tryz.func69 Tryz.ntmps69 rfl (by kernel_rfl) (by simp) fun cx hn => ?_
 unfold e5 at hm
 refine srs hn (by kernel_rfl) ?_
 simp -dsimp []
 refine ac ?_
 obtain ⟨a, j4, hm⟩ := bnd hm
 refine aw [(1, .u (.one (.box 1 0))), (8, .u (.one (.d (.bool a))))] [(1, .box [.d (.int .i64 r_)])] (by rfl) (by rfl) ?_ fun ρ σ hf => ?_
 ·replace hm := j4
  clear j4
  refine sr1 hn (by kernel_rfl) ?_
  rcases aj hm with ⟨c1, hm⟩ | ⟨c1, hm⟩
  ·simp -dsimp [c1]
   refine a6 ?_
   cases hm
   refine EE.here ?_
   simp -dsimp
  ·simp -dsimp [c1]
   refine a6 ?_
   cases hm
   refine EE.here ?_
   simp -dsimp
 ·clear j4
  simp only [Fits, am, ap, and_true] at hf
  rcases aj hm with ⟨c2, hm⟩ | ⟨c2, hm⟩
  ·refine a8 (b := a) (by simp -dsimp [hf]) c2 ?_
   refine srs hn (by kernel_rfl) ?_
   simp -dsimp
   refine aa (ag ?_)
   cases hm
   refine ⟨.inr rfl, ?_⟩
   refine EE.here ?_
   simp -dsimp
  ·refine a7 (b := a) (by simp -dsimp [hf]) c2 ?_
   refine ab (a6 ?_)
   refine srs hn (by kernel_rfl) ?_
   obtain ⟨y, h3, hm⟩ := bnd hm
   simp -dsimp [hf]
   refine bB (ft r_ r_ y h3) [1] [5000] rfl rfl rfl (by simp -dsimp []) rfl (by simp -dsimp [hf]) (by first | rfl | simp) rfl (by rw [hn]; decide) ?_
   simp -dsimp
   refine aa ?_
   cases hm
   refine ⟨.inr rfl, ?_⟩
   refine EE.here ?_
   simp -dsimp
theorem c_hood_Neumann (r_ : Int) (r : List Point) (hm : e5 r_ = some r) : PureCall Tryz.prog 69 [.u (.one (.d (.int .i64 r_)))] (.u (.one (.d (.sl 2 (List.map Point.row r))))) := (f_hood_Neumann r_ r hm).pureW
theorem f_hood_Hex_1 (x : Int) (y : Int) (r : Bool) (hm : gI x y = some r) : PFn Tryz.prog 134 [.u (.one (.d (.int .i64 x))), .u (.one (.d (.int .i64 y)))] (fun v => v.wk (.u (.one (.d (.bool r))))) := by
 refine aX Tryz.func134 Tryz.ntmps134 rfl (by kernel_rfl) (by simp) fun cx hn => ?_
 unfold gI at hm
 refine srs hn (by kernel_rfl) ?_
 simp -dsimp []
 refine srs hn (by kernel_rfl) ?_
 simp -dsimp []
 refine aa ?_
 cases hm
 refine ⟨.inr rfl, ?_⟩
 refine EE.here ?_
 simp -dsimp
theorem c_hood_Hex_1 (x : Int) (y : Int) (r : Bool) (hm : gI x y = some r) : PureCall Tryz.prog 134 [.u (.one (.d (.int .i64 x))), .u (.one (.d (.int .i64 y)))] (.u (.one (.d (.bool r)))) := (f_hood_Hex_1 x y r hm).pureW
def bI (cx : Cx) (r_ : Int) (y : Int) (tt : (List Point)) (ee : Exit) (ρ : Env) (σ : Sto) : Prop := match tt with
 | l1 => ee = .exit 2 ∧ EE cx (aU [(0, .u (.one (.d (.int .i64 r_)))), (1, .u (.one (.fn 134 []))), (5, .u (.one (.own 5000))), (6, .u (.one (.d (.int .i64 y))))] [(5000, .row 2 71 (List.map Point.row l1))]) ρ σ
theorem gx (cx : Cx) (hn : cx.n = 33) (r_ : Int) (y : Int) {fu : Nat} {stt : Int × (List Point)} {tt : (List Point)} (hh : al (cL r_ y) fu stt = some tt) {ρ : Env} {σ : Sto}
  (hE : b4 (fun stt : Int × (List Point) => match stt with | (x, _l1) => [(0, .u (.one (.d (.int .i64 r_)))), (1, .u (.one (.fn 134 []))), (5, .u (.one (.own 5000))), (6, .u (.one (.d (.int .i64 y)))), (7, .u (.one (.d (.int .i64 x))))]) (fun stt : Int × (List Point) => match stt with | (_x, l1) => [(5000, .row 2 71 (List.map Point.row l1))]) stt ρ σ) : Swp Tryz.prog cx (.loop (bQ [1, 1, 0, 1, 0, 0, 1, 0, 0, 1, 0, 0] (aP Tryz.f130))) ρ σ (bI cx r_ y tt) := by
 refine b8 hE hh (bI cx r_ y) (fun _ => by rfl) (fun _ => by rfl) ?_
 rintro ⟨x, l1⟩ r hm ρ σ hf
 simp only [Fits, am, ap, and_true] at hf
 unfold cL at hm
 dsimp only at hm
 refine ac ?_
 refine srs hn (by kernel_rfl) ?_
 simp -dsimp [hf]
 rcases aj hm with ⟨c2, hm⟩ | ⟨c2, hm⟩
 ·refine a8 (b := (leB x r_)) (by simp -dsimp) c2 ?_
  refine ab (a6 ?_)
  obtain ⟨l2, j6, hm⟩ := bnd hm
  refine aw [(0, .u (.one (.d (.int .i64 r_)))), (1, .u (.one (.fn 134 []))), (5, .u (.one (.own 5000))), (6, .u (.one (.d (.int .i64 y)))), (7, .u (.one (.d (.int .i64 x))))] [(5000, .row 2 71 (List.map Point.row l2))] (by rfl) (by rfl) ?_ fun ρ σ hf => ?_
  ·replace hm := j6
   clear j6
   refine ai ?_
   refine srs hn (by kernel_rfl) ?_
   obtain ⟨y1, h3, hm⟩ := bnd hm
   simp -dsimp [hf, c2]
   refine ae (c_hood_Hex_1 x y y1 h3) (by rw [hn]; decide) ?_
   simp -dsimp
   rcases aj hm with ⟨c4, hm⟩ | ⟨c4, hm⟩
   ·refine a8 (b := y1) (by simp -dsimp) c4 ?_
    refine sr1 hn (by kernel_rfl) ?_
    obtain ⟨l2, h5, hm⟩ := bnd hm
    obtain ⟨h5a, h5e⟩ := aL h5
    replace h5e := h5e.symm
    subst h5e
    try simp only [List.length_cons, List.length_nil, Nat.zero_add] at h5a
    simp -dsimp [hf, c4, h5a]
    refine aJ ?_
    refine a6 ?_
    cases hm
    refine EE.step (Wk.move 31 5000 (by decide) (.inl (by decide))) ?_
    refine EE.here ?_
    simp -dsimp [hf]
   ·refine a7 (b := y1) (by simp -dsimp) c4 ?_
    refine ab ?_
    refine aJ ?_
    refine a6 ?_
    cases hm
    refine EE.here ?_
    simp -dsimp [hf, c4]
  ·clear j6
   simp only [Fits, am, ap, and_true] at hf
   refine sr1 hn (by kernel_rfl) ?_
   simp -dsimp [hf]
   cases hm
   refine aB ?_
   refine EE.here ?_
   simp -dsimp [hf]
 ·refine a7 (b := (leB x r_)) (by simp -dsimp) c2 ?_
  refine av ?_
  refine ag ?_
  cases hm
  refine ar nofun ?_
  unfold bI
  dsimp only
  refine ⟨rfl, ?_⟩
  refine EE.here ?_
  simp -dsimp [hf, c2]
def bG (cx : Cx) (_r_ : Int) (tt : (List Point)) (ee : Exit) (ρ : Env) (σ : Sto) : Prop := match tt with
 | l => ee = .exit 0 ∧ EE cx (aU [(5, .u (.one (.own 5000)))] [(5000, .row 2 71 (List.map Point.row l))]) ρ σ
theorem gF (cx : Cx) (hn : cx.n = 33) (r_ : Int) {fu : Nat} {stt : Int × (List Point)} {tt : (List Point)} (hh : al (cJ r_) fu stt = some tt) {ρ : Env} {σ : Sto}
  (hE : b4 (fun stt : Int × (List Point) => match stt with | (y, _l) => [(0, .u (.one (.d (.int .i64 r_)))), (1, .u (.one (.fn 134 []))), (5, .u (.one (.own 5000))), (6, .u (.one (.d (.int .i64 y))))]) (fun stt : Int × (List Point) => match stt with | (_y, l) => [(5000, .row 2 71 (List.map Point.row l))]) stt ρ σ) : Swp Tryz.prog cx (.loop (bQ [1, 1, 0, 1, 0, 0] (aP Tryz.f130))) ρ σ (bG cx r_ tt) := by
 refine b8 hE hh (bG cx r_) (fun _ => by rfl) (fun _ => by rfl) ?_
 rintro ⟨y, l⟩ r hm ρ σ hf
 simp only [Fits, am, ap, and_true] at hf
 unfold cJ at hm
 dsimp only at hm
 refine ac ?_
 refine srs hn (by kernel_rfl) ?_
 simp -dsimp [hf]
 rcases aj hm with ⟨c1, hm⟩ | ⟨c1, hm⟩
 ·refine a8 (b := (leB y r_)) (by simp -dsimp) c1 ?_
  refine ab (a6 (ac (ai ?_)))
  refine srs hn (by kernel_rfl) ?_
  simp -dsimp [hf, c1]
  refine ai ?_
  obtain ⟨l1, g7, hm⟩ := bnd hm
  refine aO [(0, .u (.one (.d (.int .i64 r_)))), (1, .u (.one (.fn 134 []))), (5, .u (.one (.own 5000))), (6, .u (.one (.d (.int .i64 y)))), (7, .u (.one (.d (.int .i64 (dl .i64 r_)))))] [(5000, .row 2 71 (List.map Point.row l))] (by rfl) (by rfl) (by
    refine EE.here ?_
    simp -dsimp [hf]
  ) fun ρ σ hf => ?_
  refine (gx cx hn r_ y g7 hf).mono fun ee ρ σ x8 => ?_
  unfold bI at x8
  dsimp only at x8
  obtain ⟨rfl, x8⟩ := x8
  refine au ?_
  refine aJ ?_
  refine a6 ?_
  refine b5 (by rfl) (by rfl) x8 fun ρ σ hf => ?_
  simp only [Fits, am, ap, and_true] at hf
  refine sr1 hn (by kernel_rfl) ?_
  simp -dsimp [hf]
  cases hm
  refine aB ?_
  refine EE.here ?_
  simp -dsimp [hf]
 ·refine a7 (b := (leB y r_)) (by simp -dsimp) c1 ?_
  refine av ?_
  refine ag ?_
  cases hm
  refine ar nofun ?_
  unfold bG
  dsimp only
  refine ⟨rfl, ?_⟩
  refine EE.here ?_
  simp -dsimp [hf, c1]
theorem i2 (r_ : Int) (r : List Point) (hm : bU r_ = some r) : PFn Tryz.prog 130 [.u (.one (.d (.int .i64 r_))), .u (.one (.fn 134 []))] (fun v => v.wk (.u (.one (.d (.sl 2 (List.map Point.row r)))))) := by
 refine aX Tryz.func130 Tryz.ntmps130 rfl (by kernel_rfl) (by simp) fun cx hn => ?_
 unfold bU at hm
 refine srs hn (by kernel_rfl) ?_
 simp -dsimp []
 refine srs hn (by kernel_rfl) ?_
 simp -dsimp []
 refine ac ?_
 refine srs hn (by kernel_rfl) ?_
 simp -dsimp []
 refine ai ?_
 obtain ⟨l, g9, hm⟩ := bnd hm
 refine aO [(0, .u (.one (.d (.int .i64 r_)))), (1, .u (.one (.fn 134 []))), (5, .u (.one (.own 5000))), (6, .u (.one (.d (.int .i64 (dl .i64 r_)))))] [(5000, .row 2 71 (List.map Point.row []))] (by rfl) (by rfl) (by
   refine EE.step (Wk.own0 5 5000 2 71 (by simp -dsimp []) (by decide)) ?_
   refine EE.here ?_
   simp -dsimp []
 ) fun ρ σ hf => ?_
 refine (gF cx hn r_ g9 hf).mono fun ee ρ σ x10 => ?_
 unfold bG at x10
 dsimp only at x10
 obtain ⟨rfl, x10⟩ := x10
 refine au ?_
 refine a6 ?_
 refine b5 (by rfl) (by rfl) x10 fun ρ σ hf => ?_
 simp only [Fits, am, ap, and_true] at hf
 refine srs hn (by kernel_rfl) ?_
 simp -dsimp [hf]
 refine aa ?_
 cases hm
 refine ⟨.inr rfl, ?_⟩
 refine EE.here ?_
 simp -dsimp [hf]
theorem i0 (r_ : Int) (r : List Point) (hm : bU r_ = some r) : PureCall Tryz.prog 130 [.u (.one (.d (.int .i64 r_))), .u (.one (.fn 134 []))] (.u (.one (.d (.sl 2 (List.map Point.row r))))) := (i2 r_ r hm).pureW
theorem f_hood_Hex (r : List Point) (hm : hP = some r) : PFn Tryz.prog 70 [] (fun v => v.wk (.u (.one (.d (.sl 2 (List.map Point.row r)))))) := by
 refine aX Tryz.func70 Tryz.ntmps70 rfl (by kernel_rfl) (by simp) fun cx hn => ?_
 unfold hP at hm
 refine srs hn (by kernel_rfl) ?_
 simp -dsimp []
 refine srs hn (by kernel_rfl) ?_
 obtain ⟨y, h1, hm⟩ := bnd hm
 simp -dsimp []
 refine ae (i0 1 y h1) (by rw [hn]; decide) ?_
 simp -dsimp
 refine aa ?_
 cases hm
 refine ⟨.inr rfl, ?_⟩
 refine EE.here ?_
 simp -dsimp
theorem c_hood_Hex (r : List Point) (hm : hP = some r) : PureCall Tryz.prog 70 [] (.u (.one (.d (.sl 2 (List.map Point.row r))))) := (f_hood_Hex r hm).pureW
def bF (cx : Cx) (_l : List Int) (_n : Int) (tt : Bool ⊕ Unit) (ee : Exit) (ρ : Env) (σ : Sto) : Prop := match tt with
 | .inl r => ee = .ret ∧ EE cx (fun ρ σ => ∃ v, resV tb ρ σ Tryz.f135.results.toList = some v ∧ (v.frz σ).free = true ∧ (v.frz σ).wk (.u (.one (.d (.bool r))))) ρ σ
 | .inr _u => ee = .exit 0 ∧ EE cx (aU [] []) ρ σ
theorem l_lifelike_ascends_1 (cx : Cx) (hn : cx.n = 24) (l : List Int) (n : Int) {fu : Nat} {stt : Int × Int} {tt : Bool ⊕ Unit} (hh : al (e8 l n) fu stt = some tt) {ρ : Env} {σ : Sto}
  (hE : b4 (fun stt : Int × Int => match stt with | (last, a) => [(1, .u (.one (.d (.int .i64 n)))), (5, .u (.one (.d (.int .i64 last)))), (8, .u (.one (.d (.sl 1 (List.map (rI .i64) l))))), (9, .u (.one (.d (.int .i64 (ah l))))), (10, .u (.one (.d (.int .i64 a))))]) (fun stt : Int × Int => match stt with | (_last, _a) => []) stt ρ σ) : Swp Tryz.prog cx (.loop (bQ [1, 1, 0, 1, 0, 0] (aP Tryz.f135))) ρ σ (bF cx l n tt) := by
 refine b8 hE hh (bF cx l n) (fun _ => by rfl) (fun _ => by rfl) ?_
 rintro ⟨last, a⟩ r hm ρ σ hf
 simp only [Fits, am, ap, and_true] at hf
 unfold e8 at hm
 dsimp only at hm
 refine srs hn (by kernel_rfl) ?_
 simp -dsimp [hf]
 refine ac ?_
 rcases aj hm with ⟨c1, hm⟩ | ⟨c1, hm⟩
 ·refine a8 (b := (ltB a (ah l))) (by simp -dsimp) c1 ?_
  refine ab (a6 (ac (ai ?_)))
  refine srs hn (by kernel_rfl) ?_
  obtain ⟨x, h2, hm⟩ := bnd hm
  simp -dsimp [hf, c1, h2]
  refine ac ?_
  obtain ⟨a1, j5, hm⟩ := bnd hm
  refine aw [(1, .u (.one (.d (.int .i64 n)))), (7, .u (.one (.d (.int .i64 x)))), (8, .u (.one (.d (.sl 1 (List.map (rI .i64) l))))), (9, .u (.one (.d (.int .i64 (ah l))))), (10, .u (.one (.d (.int .i64 a)))), (21, .u (.one (.d (.bool a1))))] [] (by rfl) (by rfl) ?_ fun ρ σ hf => ?_
  ·replace hm := j5
   clear j5
   refine sr1 hn (by kernel_rfl) ?_
   rcases aj hm with ⟨c3, hm⟩ | ⟨c3, hm⟩
   ·simp -dsimp [hf, c3]
    refine a6 ?_
    cases hm
    refine EE.here ?_
    simp -dsimp [hf]
   ·simp -dsimp [hf, c3]
    refine a6 ?_
    cases hm
    refine EE.here ?_
    simp -dsimp [hf]
  ·clear j5
   simp only [Fits, am, ap, and_true] at hf
   rcases aj hm with ⟨c4, hm⟩ | ⟨c4, hm⟩
   ·refine a8 (b := a1) (by simp -dsimp [hf]) c4 ?_
    refine srs hn (by kernel_rfl) ?_
    simp -dsimp
    refine aa (ag (aN (ag ?_)))
    cases hm
    refine ar nofun ?_
    unfold bF
    dsimp only
    refine ⟨rfl, ?_⟩
    refine EE.here ?_
    simp -dsimp [Tryz.results135]
   ·refine a7 (b := a1) (by simp -dsimp [hf]) c4 ?_
    refine ab (a6 ?_)
    refine sr1 hn (by kernel_rfl) ?_
    simp -dsimp [hf]
    refine aJ ?_
    refine a6 ?_
    refine sr1 hn (by kernel_rfl) ?_
    simp -dsimp [hf]
    cases hm
    refine aB ?_
    refine EE.here ?_
    simp -dsimp [hf]
 ·refine a7 (b := (ltB a (ah l))) (by simp -dsimp) c1 ?_
  refine av ?_
  refine ag ?_
  cases hm
  refine ar nofun ?_
  unfold bF
  dsimp only
  refine ⟨rfl, ?_⟩
  refine EE.here ?_
  simp -dsimp [c1]
theorem f_lifelike_ascends (l : List Int) (n : Int) (r : Bool) (hm : bW l n = some r) : PFn Tryz.prog 135 [.u (.one (.d (.sl 1 (List.map (rI .i64) l)))), .u (.one (.d (.int .i64 n)))] (fun v => v.wk (.u (.one (.d (.bool r))))) := by
 refine aX Tryz.func135 Tryz.ntmps135 rfl (by kernel_rfl) (by simp) fun cx hn => ?_
 unfold bW at hm
 refine srs hn (by kernel_rfl) ?_
 simp -dsimp []
 refine srs hn (by kernel_rfl) ?_
 simp -dsimp []
 refine ac ?_
 refine srs hn (by kernel_rfl) ?_
 simp -dsimp []
 refine ai ?_
 obtain ⟨o_, g6, hm⟩ := bnd hm
 refine aO [(1, .u (.one (.d (.int .i64 n)))), (5, .u (.one (.d (.int .i64 (-1))))), (8, .u (.one (.d (.sl 1 (List.map (rI .i64) l))))), (9, .u (.one (.d (.int .i64 (ah l))))), (10, .u (.one (.d (.int .i64 0))))] [] (by rfl) (by rfl) (by
   refine EE.here ?_
   simp -dsimp []
 ) fun ρ σ hf => ?_
 refine (l_lifelike_ascends_1 cx hn l n g6 hf).mono fun ee ρ σ x7 => ?_
 rcases o_ with r | _u
 ·unfold bF at x7
  dsimp only at x7
  obtain ⟨rfl, x7⟩ := x7
  refine aN (ag ?_)
  cases hm
  exact ⟨.inr rfl, x7⟩
 ·unfold bF at x7
  dsimp only at x7
  obtain ⟨rfl, x7⟩ := x7
  refine au ?_
  refine a6 ?_
  refine b5 (by rfl) (by rfl) x7 fun ρ σ hf => ?_
  simp only [Fits, am, ap, and_true] at hf
  refine srs hn (by kernel_rfl) ?_
  simp -dsimp
  refine aa ?_
  cases hm
  refine ⟨.inr rfl, ?_⟩
  refine EE.here ?_
  simp -dsimp
theorem eJ (l : List Int) (n : Int) (r : Bool) (hm : bW l n = some r) : PureCall Tryz.prog 135 [.u (.one (.d (.sl 1 (List.map (rI .i64) l)))), .u (.one (.d (.int .i64 n)))] (.u (.one (.d (.bool r)))) := (f_lifelike_ascends l n r hm).pureW
def bO (cx : Cx) (_l : List Int) (tt : ((List Int) × Bool) ⊕ (List Int)) (ee : Exit) (ρ : Env) (σ : Sto) : Prop := match tt with
 | .inl r => ee = .ret ∧ EE cx (fun ρ σ => ∃ v, resV tb ρ σ Tryz.f71.results.toList = some v ∧ (v.frz σ).free = true ∧ (v.frz σ).wk (.tup [.one (.d (.sl 1 (List.map (rI .i64) r.1))), .one (.d (.bool r.2))])) ρ σ
 | .inr out => ee = .exit 0 ∧ EE cx (aU [(4, .u (.one (.own 5000)))] [(5000, .row 1 3 (List.map (rI .i64) out))]) ρ σ
theorem l_lifelike_digits_1 (cx : Cx) (hn : cx.n = 30) (l : List Int) {fu : Nat} {stt : Int × (List Int)} {tt : ((List Int) × Bool) ⊕ (List Int)} (hh : al (er l) fu stt = some tt) {ρ : Env} {σ : Sto}
  (hE : b4 (fun stt : Int × (List Int) => match stt with | (a, _out) => [(4, .u (.one (.own 5000))), (8, .u (.one (.d (.sl 1 (List.map (rI .u8) l))))), (9, .u (.one (.d (.int .i64 (ah l))))), (10, .u (.one (.d (.int .i64 a))))]) (fun stt : Int × (List Int) => match stt with | (_a, out) => [(5000, .row 1 3 (List.map (rI .i64) out))]) stt ρ σ) : Swp Tryz.prog cx (.loop (bQ [1, 1, 0, 1, 0, 0] (aP Tryz.f71))) ρ σ (bO cx l tt) := by
 refine b8 hE hh (bO cx l) (fun _ => by rfl) (fun _ => by rfl) ?_
 rintro ⟨a, out⟩ r hm ρ σ hf
 simp only [Fits, am, ap, and_true] at hf
 unfold er at hm
 dsimp only at hm
 refine srs hn (by kernel_rfl) ?_
 simp -dsimp [hf]
 refine ac ?_
 rcases aj hm with ⟨c2, hm⟩ | ⟨c2, hm⟩
 ·refine a8 (b := (ltB a (ah l))) (by simp -dsimp) c2 ?_
  refine ab (a6 (ac (ai ?_)))
  refine srs hn (by kernel_rfl) ?_
  obtain ⟨x, h3, hm⟩ := bnd hm
  simp -dsimp [hf, c2, h3]
  refine ac ?_
  obtain ⟨a1, j7, hm⟩ := bnd hm
  refine aw [(4, .u (.one (.own 5000))), (6, .u (.one (.d (.int .u8 x)))), (8, .u (.one (.d (.sl 1 (List.map (rI .u8) l))))), (9, .u (.one (.d (.int .i64 (ah l))))), (10, .u (.one (.d (.int .i64 a)))), (19, .u (.one (.d (.bool a1))))] [(5000, .row 1 3 (List.map (rI .i64) out))] (by rfl) (by rfl) ?_ fun ρ σ hf => ?_
  ·replace hm := j7
   clear j7
   refine sr1 hn (by kernel_rfl) ?_
   rcases aj hm with ⟨c4, hm⟩ | ⟨c4, hm⟩
   ·simp -dsimp [c4]
    refine a6 ?_
    cases hm
    refine EE.here ?_
    simp -dsimp [hf]
   ·simp -dsimp [c4]
    refine a6 ?_
    cases hm
    refine EE.here ?_
    simp -dsimp [hf]
  ·clear j7
   simp only [Fits, am, ap, and_true] at hf
   rcases aj hm with ⟨c5, hm⟩ | ⟨c5, hm⟩
   ·refine a8 (b := a1) (by simp -dsimp [hf]) c5 ?_
    refine srs hn (by kernel_rfl) ?_
    simp -dsimp
    refine aa (ag (aN (ag ?_)))
    cases hm
    refine ar nofun ?_
    unfold bO
    dsimp only
    refine ⟨rfl, ?_⟩
    refine EE.here ?_
    simp -dsimp [Tryz.results71]
   ·refine a7 (b := a1) (by simp -dsimp [hf]) c5 ?_
    refine ab (a6 ?_)
    refine sr1 hn (by kernel_rfl) ?_
    obtain ⟨l1, h6, hm⟩ := bnd hm
    obtain ⟨h6a, h6e⟩ := aL h6
    replace h6e := h6e.symm
    subst h6e
    try simp only [List.length_cons, List.length_nil, Nat.zero_add] at h6a
    simp -dsimp [hf, h6a]
    refine aJ ?_
    refine a6 ?_
    refine sr1 hn (by kernel_rfl) ?_
    simp -dsimp [hf]
    cases hm
    refine aB ?_
    refine EE.step (Wk.move 25 5000 (by decide) (.inl (by decide))) ?_
    refine EE.here ?_
    simp -dsimp [hf]
 ·refine a7 (b := (ltB a (ah l))) (by simp -dsimp) c2 ?_
  refine av ?_
  refine ag ?_
  cases hm
  refine ar nofun ?_
  unfold bO
  dsimp only
  refine ⟨rfl, ?_⟩
  refine EE.here ?_
  simp -dsimp [hf, c2]
theorem f_lifelike_digits (s : List UInt8) (r : (List Int) × Bool) (hm : dc s = some r) : PFn Tryz.prog 71 [.u (.one (.d (.str (bs s))))] (fun v => v.wk (.tup [.one (.d (.sl 1 (List.map (rI .i64) r.1))), .one (.d (.bool r.2))])) := by
 refine aX Tryz.func71 Tryz.ntmps71 rfl (by kernel_rfl) (by simp) fun cx hn => ?_
 unfold dc at hm
 refine srs hn (by kernel_rfl) ?_
 simp -dsimp []
 refine srs hn (by kernel_rfl) ?_
 simp -dsimp []
 refine ac ?_
 refine srs hn (by kernel_rfl) ?_
 obtain ⟨l, h1, hm⟩ := bnd hm
 simp -dsimp [h1]
 refine ai ?_
 obtain ⟨o_, g8, hm⟩ := bnd hm
 refine aO [(4, .u (.one (.own 5000))), (8, .u (.one (.d (.sl 1 (List.map (rI .u8) l))))), (9, .u (.one (.d (.int .i64 (ah l))))), (10, .u (.one (.d (.int .i64 0))))] [(5000, .row 1 3 (List.map (rI .i64) []))] (by rfl) (by rfl) (by
   refine EE.step (Wk.own0 4 5000 1 3 (by simp -dsimp) (by decide)) ?_
   refine EE.here ?_
   simp -dsimp
 ) fun ρ σ hf => ?_
 refine (l_lifelike_digits_1 cx hn l g8 hf).mono fun ee ρ σ x9 => ?_
 rcases o_ with r | out
 ·unfold bO at x9
  dsimp only at x9
  obtain ⟨rfl, x9⟩ := x9
  refine aN (ag ?_)
  cases hm
  exact ⟨.inr rfl, x9⟩
 ·unfold bO at x9
  dsimp only at x9
  obtain ⟨rfl, x9⟩ := x9
  refine au ?_
  refine a6 ?_
  refine b5 (by rfl) (by rfl) x9 fun ρ σ hf => ?_
  simp only [Fits, am, ap, and_true] at hf
  refine srs hn (by kernel_rfl) ?_
  obtain ⟨y, h10, hm⟩ := bnd hm
  simp -dsimp [hf]
  refine callL_brw (us' := [.u (.one (.d (.sl 1 (List.map (rI .i64) out)))), .u (.one (.d (.int .i64 9)))]) (eJ out 9 y h10) (by simp -dsimp [hf]) rfl (by rw [hn]; decide) ?_
  simp -dsimp
  refine aa ?_
  cases hm
  refine ⟨.inr rfl, ?_⟩
  refine EE.here ?_
  simp -dsimp [hf]
theorem i6 (s : List UInt8) (r : (List Int) × Bool) (hm : dc s = some r) : PureCall Tryz.prog 71 [.u (.one (.d (.str (bs s))))] (.tup [.one (.d (.sl 1 (List.map (rI .i64) r.1))), .one (.d (.bool r.2))]) := (f_lifelike_digits s r hm).pureW
def F_slices_Equal_api_Point_api_Point_1 (cx : Cx) (_s1 : List Point) (_s2 : List Point) (tt : Bool ⊕ Unit) (ee : Exit) (ρ : Env) (σ : Sto) : Prop := match tt with
 | .inl r => ee = .ret ∧ EE cx (fun ρ σ => ∃ v, resV tb ρ σ Tryz.f169.results.toList = some v ∧ (v.frz σ).free = true ∧ (v.frz σ).wk (.u (.one (.d (.bool r))))) ρ σ
 | .inr _u => ee = .exit 0 ∧ EE cx (aU [] []) ρ σ
theorem l_slices_Equal_api_Point_api_Point_1 (cx : Cx) (hn : cx.n = 26) (s1 : List Point) (s2 : List Point) {fu : Nat} {stt : Int} {tt : Bool ⊕ Unit} (hh : al (bu s1 s2) fu stt = some tt) {ρ : Env} {σ : Sto}
  (hE : b4 (fun a : Int => [(0, .u (.one (.d (.sl 2 (List.map Point.row s1))))), (1, .u (.one (.d (.sl 2 (List.map Point.row s2))))), (12, .u (.one (.d (.int .i64 (ah s1))))), (13, .u (.one (.d (.int .i64 a))))]) (fun _a : Int => []) stt ρ σ) : Swp Tryz.prog cx (.loop (bQ [1, 1, 0, 1, 0, 0] (aP Tryz.f169))) ρ σ (F_slices_Equal_api_Point_api_Point_1 cx s1 s2 tt) := by
 refine b8 hE hh (F_slices_Equal_api_Point_api_Point_1 cx s1 s2) (fun _ => by rfl) (fun _ => by rfl) ?_
 rintro a r hm ρ σ hf
 simp only [Fits, am, ap, and_true] at hf
 unfold bu at hm
 dsimp only at hm
 refine srs hn (by kernel_rfl) ?_
 simp -dsimp [hf]
 refine ac ?_
 rcases aj hm with ⟨c2, hm⟩ | ⟨c2, hm⟩
 ·refine a8 (b := (ltB a (ah s1))) (by simp -dsimp) c2 ?_
  refine ab (a6 (ac (ai ?_)))
  refine srs hn (by kernel_rfl) ?_
  simp -dsimp [hf, c2]
  refine ck aK mixed (by rw [hn]; kernel_rfl) ?_
  obtain ⟨x, h3, hm⟩ := bnd hm
  obtain ⟨x1, h4, hm⟩ := bnd hm
  simp -dsimp [hf, h3, h4]
  rcases aj hm with ⟨c5, hm⟩ | ⟨c5, hm⟩
  ·refine a8 (b := (aM (bA (eqB x.X x1.X) (bA (eqB x.Y x1.Y) true)))) (by simp -dsimp) c5 ?_
   refine srs hn (by kernel_rfl) ?_
   simp -dsimp [c5]
   refine aa (aN (ag ?_))
   cases hm
   refine ar nofun ?_
   unfold F_slices_Equal_api_Point_api_Point_1
   dsimp only
   refine ⟨rfl, ?_⟩
   refine EE.here ?_
   simp -dsimp [Tryz.results169]
  ·refine a7 (b := (aM (bA (eqB x.X x1.X) (bA (eqB x.Y x1.Y) true)))) (by simp -dsimp) c5 ?_
   refine ab ?_
   refine aJ ?_
   refine a6 ?_
   refine sr1 hn (by kernel_rfl) ?_
   simp -dsimp [hf, c5]
   cases hm
   refine aB ?_
   refine EE.here ?_
   simp -dsimp [hf]
 ·refine a7 (b := (ltB a (ah s1))) (by simp -dsimp) c2 ?_
  refine av ?_
  refine ag ?_
  cases hm
  refine ar nofun ?_
  unfold F_slices_Equal_api_Point_api_Point_1
  dsimp only
  refine ⟨rfl, ?_⟩
  refine EE.here ?_
  simp -dsimp [c2]
theorem f_slices_Equal_api_Point_api_Point (s1 : List Point) (s2 : List Point) (r : Bool) (hm : b7 s1 s2 = some r) : PFn Tryz.prog 169 [.u (.one (.d (.sl 2 (List.map Point.row s1)))), .u (.one (.d (.sl 2 (List.map Point.row s2))))] (fun v => v.wk (.u (.one (.d (.bool r))))) := by
 refine aX Tryz.func169 Tryz.ntmps169 rfl (by kernel_rfl) (by simp) fun cx hn => ?_
 unfold b7 at hm
 refine srs hn (by kernel_rfl) ?_
 simp -dsimp []
 refine ac ?_
 refine srs hn (by kernel_rfl) ?_
 simp -dsimp []
 rcases aj hm with ⟨c1, hm⟩ | ⟨c1, hm⟩
 ·refine a8 (b := (neB (ah s1) (ah s2))) (by simp -dsimp []) c1 ?_
  refine srs hn (by kernel_rfl) ?_
  simp -dsimp [c1]
  refine aa (ag ?_)
  cases hm
  refine ⟨.inr rfl, ?_⟩
  refine EE.here ?_
  simp -dsimp
 ·refine a7 (b := (neB (ah s1) (ah s2))) (by simp -dsimp []) c1 ?_
  refine ab (a6 (ac ?_))
  refine srs hn (by kernel_rfl) ?_
  simp -dsimp [c1]
  refine ai ?_
  obtain ⟨o_, g6, hm⟩ := bnd hm
  refine aO [(0, .u (.one (.d (.sl 2 (List.map Point.row s1))))), (1, .u (.one (.d (.sl 2 (List.map Point.row s2))))), (12, .u (.one (.d (.int .i64 (ah s1))))), (13, .u (.one (.d (.int .i64 0))))] [] (by rfl) (by rfl) (by
    refine EE.here ?_
    simp -dsimp
  ) fun ρ σ hf => ?_
  refine (l_slices_Equal_api_Point_api_Point_1 cx hn s1 s2 g6 hf).mono fun ee ρ σ x7 => ?_
  rcases o_ with r | _u
  ·unfold F_slices_Equal_api_Point_api_Point_1 at x7
   dsimp only at x7
   obtain ⟨rfl, x7⟩ := x7
   refine aN (ag ?_)
   cases hm
   exact ⟨.inr rfl, x7⟩
  ·unfold F_slices_Equal_api_Point_api_Point_1 at x7
   dsimp only at x7
   obtain ⟨rfl, x7⟩ := x7
   refine au ?_
   refine a6 ?_
   refine b5 (by rfl) (by rfl) x7 fun ρ σ hf => ?_
   simp only [Fits, am, ap, and_true] at hf
   refine srs hn (by kernel_rfl) ?_
   simp -dsimp
   refine aa ?_
   cases hm
   refine ⟨.inr rfl, ?_⟩
   refine EE.here ?_
   simp -dsimp
theorem c_slices_Equal_api_Point_api_Point (s1 : List Point) (s2 : List Point) (r : Bool) (hm : b7 s1 s2 = some r) : PureCall Tryz.prog 169 [.u (.one (.d (.sl 2 (List.map Point.row s1)))), .u (.one (.d (.sl 2 (List.map Point.row s2))))] (.u (.one (.d (.bool r)))) := (f_slices_Equal_api_Point_api_Point s1 s2 r hm).pureW
theorem f_hood_Same (a : List Point) (b : List Point) (r : Bool) (hm : dA a b = some r) : PFn Tryz.prog 107 [.u (.one (.d (.sl 2 (List.map Point.row a)))), .u (.one (.d (.sl 2 (List.map Point.row b))))] (fun v => v.wk (.u (.one (.d (.bool r))))) := by
 refine aX Tryz.func107 Tryz.ntmps107 rfl (by kernel_rfl) (by simp) fun cx hn => ?_
 unfold dA at hm
 refine srs hn (by kernel_rfl) ?_
 simp -dsimp []
 refine srs hn (by kernel_rfl) ?_
 obtain ⟨y, h1, hm⟩ := bnd hm
 simp -dsimp []
 refine ae (c_slices_Equal_api_Point_api_Point a b y h1) (by rw [hn]; decide) ?_
 simp -dsimp
 refine aa ?_
 cases hm
 refine ⟨.inr rfl, ?_⟩
 refine EE.here ?_
 simp -dsimp
theorem c_hood_Same (a : List Point) (b : List Point) (r : Bool) (hm : dA a b = some r) : PureCall Tryz.prog 107 [.u (.one (.d (.sl 2 (List.map Point.row a)))), .u (.one (.d (.sl 2 (List.map Point.row b))))] (.u (.one (.d (.bool r)))) := (f_hood_Same a b r hm).pureW
theorem f_lifelike_letter (l : List Point) (r : (List UInt8) × Bool) (hm : dU l = some r) : PFn Tryz.prog 136 [.u (.one (.d (.sl 2 (List.map Point.row l))))] (fun v => v.wk (.tup [.one (.d (.str (bs r.1))), .one (.d (.bool r.2))])) := by
 refine aX Tryz.func136 Tryz.ntmps136 rfl (by kernel_rfl) (by simp) fun cx hn => ?_
 unfold dU at hm
 refine srs hn (by kernel_rfl) ?_
 simp -dsimp []
 refine ac (ai ?_)
 refine srs hn (by kernel_rfl) ?_
 obtain ⟨y, h1, hm⟩ := bnd hm
 simp -dsimp []
 refine ae (c_hood_Moore 1 y h1) (by rw [hn]; decide) ?_
 obtain ⟨y1, h2, hm⟩ := bnd hm
 simp -dsimp
 refine ae (c_hood_Same l y y1 h2) (by rw [hn]; decide) ?_
 simp -dsimp
 rcases aj hm with ⟨c3, hm⟩ | ⟨c3, hm⟩
 ·refine a8 (b := y1) (by simp -dsimp) c3 ?_
  refine srs hn (by kernel_rfl) ?_
  simp -dsimp [c3]
  refine aa (aN (ag ?_))
  cases hm
  refine ⟨.inr rfl, ?_⟩
  refine EE.here ?_
  simp -dsimp
 ·refine a7 (b := y1) (by simp -dsimp) c3 ?_
  refine srs hn (by kernel_rfl) ?_
  obtain ⟨y2, h4, hm⟩ := bnd hm
  simp -dsimp [c3]
  refine ae (c_hood_Neumann 1 y2 h4) (by rw [hn]; decide) ?_
  obtain ⟨y3, h5, hm⟩ := bnd hm
  simp -dsimp
  refine ae (c_hood_Same l y2 y3 h5) (by rw [hn]; decide) ?_
  simp -dsimp
  rcases aj hm with ⟨c6, hm⟩ | ⟨c6, hm⟩
  ·refine a8 (b := y3) (by simp -dsimp) c6 ?_
   refine srs hn (by kernel_rfl) ?_
   simp -dsimp [c6]
   refine aa (aN (ag ?_))
   cases hm
   refine ⟨.inr rfl, ?_⟩
   refine EE.here ?_
   simp -dsimp
  ·refine a7 (b := y3) (by simp -dsimp) c6 ?_
   refine srs hn (by kernel_rfl) ?_
   obtain ⟨y4, h7, hm⟩ := bnd hm
   simp -dsimp [c6]
   refine ae (c_hood_Hex y4 h7) (by rw [hn]; decide) ?_
   obtain ⟨y5, h8, hm⟩ := bnd hm
   simp -dsimp
   refine ae (c_hood_Same l y4 y5 h8) (by rw [hn]; decide) ?_
   simp -dsimp
   rcases aj hm with ⟨c9, hm⟩ | ⟨c9, hm⟩
   ·refine a8 (b := y5) (by simp -dsimp) c9 ?_
    refine srs hn (by kernel_rfl) ?_
    simp -dsimp [c9]
    refine aa (aN (ag ?_))
    cases hm
    refine ⟨.inr rfl, ?_⟩
    refine EE.here ?_
    simp -dsimp
   ·refine a7 (b := y5) (by simp -dsimp) c9 ?_
    refine ab ?_
    refine aJ ?_
    refine a6 ?_
    refine srs hn (by kernel_rfl) ?_
    simp -dsimp [c9]
    refine aa ?_
    cases hm
    refine ⟨.inr rfl, ?_⟩
    refine EE.here ?_
    simp -dsimp
theorem c_lifelike_letter (l : List Point) (r : (List UInt8) × Bool) (hm : dU l = some r) : PureCall Tryz.prog 136 [.u (.one (.d (.sl 2 (List.map Point.row l))))] (.tup [.one (.d (.str (bs r.1))), .one (.d (.bool r.2))]) := (f_lifelike_letter l r hm).pureW
theorem f_lifelike_Right (t : Totals) (r : Bool) (hm : dz t = some r) : PFn Tryz.prog 72 [.u (.agg [.d (.sl 2 (List.map Point.row t.Hood)), .d (.int .i64 t.States), .d (.sl 1 (List.map (rI .i64) t.Birth)), .d (.sl 1 (List.map (rI .i64) t.Survive))])] (fun v => v.wk (.u (.one (.d (.bool r))))) := by
 refine aX Tryz.func72 Tryz.ntmps72 rfl (by kernel_rfl) (by simp) fun cx hn => ?_
 unfold dz at hm
 refine srs hn (by kernel_rfl) ?_
 simp -dsimp []
 refine srs hn (by kernel_rfl) ?_
 obtain ⟨y, h1, hm⟩ := bnd hm
 simp -dsimp []
 refine ae (c_lifelike_letter t.Hood y h1) (by rw [hn]; decide) ?_
 simp -dsimp
 refine srs hn (by kernel_rfl) ?_
 simp -dsimp
 obtain ⟨a, j8, hm⟩ := bnd hm
 refine aw [(2, .u (.one (.d (.bool a))))] [] (by rfl) (by rfl) ?_ fun ρ σ hf => ?_
 ·replace hm := j8
  clear j8
  refine sr1 hn (by kernel_rfl) ?_
  rcases aj hm with ⟨c2, hm⟩ | ⟨c2, hm⟩
  ·rcases aj hm with ⟨c3, hm⟩ | ⟨c3, hm⟩
   ·rcases aj hm with ⟨c4, hm⟩ | ⟨c4, hm⟩
    ·obtain ⟨y1, h5, hm⟩ := bnd hm
     simp -dsimp [c2, c3, c4]
     refine ae (eJ t.Birth (aA .i64 (ah t.Hood) 1) y1 h5) (by rw [hn]; decide) ?_
     rcases aj hm with ⟨c6, hm⟩ | ⟨c6, hm⟩
     ·obtain ⟨y2, h7, hm⟩ := bnd hm
      simp -dsimp [c6]
      refine ae (eJ t.Survive (aA .i64 (ah t.Hood) 1) y2 h7) (by rw [hn]; decide) ?_
      simp -dsimp
      refine a6 ?_
      cases hm
      refine EE.here ?_
      simp -dsimp
     ·simp -dsimp [c6]
      refine a6 ?_
      cases hm
      refine EE.here ?_
      simp -dsimp
    ·simp -dsimp [c2, c3, c4]
     refine a6 ?_
     cases hm
     refine EE.here ?_
     simp -dsimp
   ·simp -dsimp [c2, c3]
    refine a6 ?_
    cases hm
    refine EE.here ?_
    simp -dsimp
  ·simp -dsimp [c2]
   refine a6 ?_
   cases hm
   refine EE.here ?_
   simp -dsimp
 ·clear j8
  simp only [Fits, am, ap, and_true] at hf
  refine aa ?_
  cases hm
  refine ⟨.inr rfl, ?_⟩
  refine EE.here ?_
  simp -dsimp [hf]
theorem ii (t : Totals) (r : Bool) (hm : dz t = some r) : PureCall Tryz.prog 72 [.u (.agg [.d (.sl 2 (List.map Point.row t.Hood)), .d (.int .i64 t.States), .d (.sl 1 (List.map (rI .i64) t.Birth)), .d (.sl 1 (List.map (rI .i64) t.Survive))])] (.u (.one (.d (.bool r)))) := (f_lifelike_Right t r hm).pureW
theorem f_lifelike_Parse (s : List UInt8) (r : Totals × Int) (hm : dw s = some r) : PFn Tryz.prog 37 [.u (.one (.d (.str (bs s))))] (fun v => v.wk (.tup [.agg [.d (.sl 2 (List.map Point.row r.1.Hood)), .d (.int .i64 r.1.States), .d (.sl 1 (List.map (rI .i64) r.1.Birth)), .d (.sl 1 (List.map (rI .i64) r.1.Survive))], .one (.d (.int .i64 r.2))])) := by
 refine aX Tryz.func37 Tryz.ntmps37 rfl (by kernel_rfl) (by simp) fun cx hn => ?_
 unfold dw at hm
 refine srs hn (by kernel_rfl) ?_
 simp -dsimp []
 refine srs hn (by kernel_rfl) ?_
 obtain ⟨y, h1, hm⟩ := bnd hm
 simp -dsimp []
 refine ae (c_strings_CutPrefix s ([66] : List UInt8) y h1) (by rw [hn]; decide) ?_
 simp -dsimp
 refine srs hn (by kernel_rfl) ?_
 obtain ⟨y1, h2, hm⟩ := bnd hm
 simp -dsimp
 refine ae (c_strings_Cut y.1 ([47, 83] : List UInt8) y1 h2) (by rw [hn]; decide) ?_
 simp -dsimp
 refine ac ?_
 obtain ⟨a, j20, hm⟩ := bnd hm
 refine aw [(2, .u (.one (.box 2 0))), (6, .u (.one (.d (.str (bs y1.1))))), (7, .u (.one (.d (.str (bs y1.2.1))))), (30, .u (.one (.d (.bool a))))] [(2, .box [.d .nil, .d (.int .i64 0), .d .nil, .d .nil])] (by rfl) (by rfl) ?_ fun ρ σ hf => ?_
 ·replace hm := j20
  clear j20
  refine sr1 hn (by kernel_rfl) ?_
  rcases aj hm with ⟨c3, hm⟩ | ⟨c3, hm⟩
  ·simp -dsimp [c3]
   refine a6 ?_
   cases hm
   refine EE.here ?_
   simp -dsimp
  ·simp -dsimp [c3]
   refine a6 ?_
   cases hm
   refine EE.here ?_
   simp -dsimp
 ·clear j20
  simp only [Fits, am, ap, and_true] at hf
  rcases aj hm with ⟨c4, hm⟩ | ⟨c4, hm⟩
  ·refine a8 (b := a) (by simp -dsimp [hf]) c4 ?_
   refine srs hn (by kernel_rfl) ?_
   simp -dsimp [hf]
   refine aa (ag ?_)
   cases hm
   refine ⟨.inr rfl, ?_⟩
   refine EE.here ?_
   simp -dsimp [hf]
  ·refine a7 (b := a) (by simp -dsimp [hf]) c4 ?_
   refine ab (a6 ?_)
   refine srs hn (by kernel_rfl) ?_
   obtain ⟨y2, h5, hm⟩ := bnd hm
   simp -dsimp
   refine ae (c_hood_Moore 1 y2 h5) (by rw [hn]; decide) ?_
   simp -dsimp
   obtain ⟨⟨survive, tHood⟩, j19, hm⟩ := bnd hm
   refine aw [(2, .u (.one (.box 2 0))), (6, .u (.one (.d (.str (bs y1.1))))), (7, .u (.one (.d (.str (bs survive))))), (9, .u (.one (.box 9 0)))] [(2, .box [.d .nil, .d (.int .i64 0), .d .nil, .d .nil]), (9, .box [.d (.sl 2 (List.map Point.row tHood)), .d (.int .i64 2), .d .nil, .d .nil])] (by rfl) (by rfl) ?_ fun ρ σ hf => ?_
   ·replace hm := j19
    clear j19
    refine srs hn (by kernel_rfl) ?_
    obtain ⟨y3, h6, hm⟩ := bnd hm
    simp -dsimp [hf]
    refine ae (gp y1.2.1 ([86] : List UInt8) y3 h6) (by rw [hn]; decide) ?_
    simp -dsimp
    refine srs hn (by kernel_rfl) ?_
    simp -dsimp
    rcases aj hm with ⟨c7, hm⟩ | ⟨c7, hm⟩
    ·refine a8 (b := y3.2) (by simp -dsimp) c7 ?_
     refine sr1 hn (by kernel_rfl) ?_
     obtain ⟨y4, h8, hm⟩ := bnd hm
     simp -dsimp [c7]
     refine ae (c_hood_Neumann 1 y4 h8) (by rw [hn]; decide) ?_
     simp -dsimp
     refine a6 ?_
     cases hm
     refine EE.here ?_
     simp -dsimp [hf]
    ·refine a7 (b := y3.2) (by simp -dsimp) c7 ?_
     refine srs hn (by kernel_rfl) ?_
     obtain ⟨y4, h9, hm⟩ := bnd hm
     simp -dsimp [hf, c7]
     refine ae (gp y1.2.1 ([72] : List UInt8) y4 h9) (by rw [hn]; decide) ?_
     simp -dsimp
     refine srs hn (by kernel_rfl) ?_
     simp -dsimp
     rcases aj hm with ⟨c10, hm⟩ | ⟨c10, hm⟩
     ·refine a8 (b := y4.2) (by simp -dsimp) c10 ?_
      refine sr1 hn (by kernel_rfl) ?_
      obtain ⟨y5, h11, hm⟩ := bnd hm
      simp -dsimp [c10]
      refine ae (c_hood_Hex y5 h11) (by rw [hn]; decide) ?_
      simp -dsimp
      refine a6 ?_
      cases hm
      refine EE.here ?_
      simp -dsimp [hf]
     ·refine a7 (b := y4.2) (by simp -dsimp) c10 ?_
      refine ab (a6 ?_)
      cases hm
      refine EE.here ?_
      simp -dsimp [hf, c10]
   ·clear j19
    simp only [Fits, am, ap, and_true] at hf
    refine srs hn (by kernel_rfl) ?_
    obtain ⟨y3, h12, hm⟩ := bnd hm
    simp -dsimp [hf]
    refine ae (i6 y1.1 y3 h12) (by rw [hn]; decide) ?_
    simp -dsimp [hf]
    refine srs hn (by kernel_rfl) ?_
    obtain ⟨y4, h13, hm⟩ := bnd hm
    simp -dsimp [hf]
    refine ae (i6 survive y4 h13) (by rw [hn]; decide) ?_
    simp -dsimp [hf]
    refine ac ?_
    obtain ⟨a1, j18, hm⟩ := bnd hm
    refine aw [(2, .u (.one (.box 2 0))), (9, .u (.one (.box 9 0))), (69, .u (.one (.d (.bool a1))))] [(2, .box [.d .nil, .d (.int .i64 0), .d .nil, .d .nil]), (9, .box [.d (.sl 2 (List.map Point.row tHood)), .d (.int .i64 2), .d (.sl 1 (List.map (rI .i64) y3.1)), .d (.sl 1 (List.map (rI .i64) y4.1))])] (by rfl) (by rfl) ?_ fun ρ σ hf => ?_
    ·replace hm := j18
     clear j18
     refine sr1 hn (by kernel_rfl) ?_
     rcases aj hm with ⟨c14, hm⟩ | ⟨c14, hm⟩
     ·simp -dsimp [c14]
      refine a6 ?_
      cases hm
      refine EE.here ?_
      simp -dsimp [hf]
     ·simp -dsimp [c14]
      refine a6 ?_
      cases hm
      refine EE.here ?_
      simp -dsimp [hf]
    ·clear j18
     simp only [Fits, am, ap, and_true] at hf
     rcases aj hm with ⟨c15, hm⟩ | ⟨c15, hm⟩
     ·refine a8 (b := a1) (by simp -dsimp [hf]) c15 ?_
      refine srs hn (by kernel_rfl) ?_
      simp -dsimp [hf]
      refine aa (ag ?_)
      cases hm
      refine ⟨.inr rfl, ?_⟩
      refine EE.here ?_
      simp -dsimp [hf]
     ·refine a7 (b := a1) (by simp -dsimp [hf]) c15 ?_
      refine ab (a6 (ac ?_))
      refine srs hn (by kernel_rfl) ?_
      obtain ⟨y5, h16, hm⟩ := bnd hm
      simp -dsimp [hf]
      refine ae (ii (⟨tHood, 2, y3.1, y4.1⟩ : Totals) y5 h16) (by rw [hn]; decide) ?_
      simp -dsimp
      rcases aj hm with ⟨c17, hm⟩ | ⟨c17, hm⟩
      ·refine a8 (b := (aM y5)) (by simp -dsimp) c17 ?_
       refine srs hn (by kernel_rfl) ?_
       simp -dsimp [hf, c17]
       refine aa (ag ?_)
       cases hm
       refine ⟨.inr rfl, ?_⟩
       refine EE.here ?_
       simp -dsimp [hf]
      ·refine a7 (b := (aM y5)) (by simp -dsimp) c17 ?_
       refine ab (a6 ?_)
       refine srs hn (by kernel_rfl) ?_
       simp -dsimp [hf, c17]
       refine aa ?_
       cases hm
       refine ⟨.inr rfl, ?_⟩
       refine EE.here ?_
       simp -dsimp [hf]
theorem im (s : List UInt8) (r : Totals × Int) (hm : dw s = some r) : PureCall Tryz.prog 37 [.u (.one (.d (.str (bs s))))] (.tup [.agg [.d (.sl 2 (List.map Point.row r.1.Hood)), .d (.int .i64 r.1.States), .d (.sl 1 (List.map (rI .i64) r.1.Birth)), .d (.sl 1 (List.map (rI .i64) r.1.Survive))], .one (.d (.int .i64 r.2))]) := (f_lifelike_Parse s r hm).pureW
theorem f_notation_Kind (s : List UInt8) (r : Int) (hm : eE s = some r) : PFn Tryz.prog 36 [.u (.one (.d (.str (bs s))))] (fun v => v.wk (.u (.one (.d (.int .i64 r))))) := by
 refine aX Tryz.func36 Tryz.ntmps36 rfl (by kernel_rfl) (by simp) fun cx hn => ?_
 unfold eE at hm
 refine srs hn (by kernel_rfl) ?_
 simp -dsimp []
 refine ac ?_
 refine srs hn (by kernel_rfl) ?_
 obtain ⟨y, h1, hm⟩ := bnd hm
 simp -dsimp []
 refine ae (im s y h1) (by rw [hn]; decide) ?_
 simp -dsimp
 refine srs hn (by kernel_rfl) ?_
 simp -dsimp
 rcases aj hm with ⟨c2, hm⟩ | ⟨c2, hm⟩
 ·refine a8 (b := (neB y.2 15)) (by simp -dsimp) c2 ?_
  refine srs hn (by kernel_rfl) ?_
  simp -dsimp [c2]
  refine aa (ag ?_)
  cases hm
  refine ⟨.inr rfl, ?_⟩
  refine EE.here ?_
  simp -dsimp
 ·refine a7 (b := (neB y.2 15)) (by simp -dsimp) c2 ?_
  refine ab (a6 (ac ?_))
  refine srs hn (by kernel_rfl) ?_
  cases hm
theorem c_notation_Kind (s : List UInt8) (r : Int) (hm : eE s = some r) : PureCall Tryz.prog 36 [.u (.one (.d (.str (bs s))))] (.u (.one (.d (.int .i64 r)))) := (f_notation_Kind s r hm).pureW
theorem f_cmp_isNaN_int (x : Int) (r : Bool) (hm : d8 x = some r) : PFn Tryz.prog 216 [.u (.one (.d (.int .i64 x)))] (fun v => v.wk (.u (.one (.d (.bool r))))) := by
 refine aX Tryz.func216 Tryz.ntmps216 rfl (by kernel_rfl) (by simp) fun cx hn => ?_
 unfold d8 at hm
 refine srs hn (by kernel_rfl) ?_
 simp -dsimp []
 refine srs hn (by kernel_rfl) ?_
 simp -dsimp []
 refine aa ?_
 cases hm
 refine ⟨.inr rfl, ?_⟩
 refine EE.here ?_
 simp -dsimp
theorem c_cmp_isNaN_int (x : Int) (r : Bool) (hm : d8 x = some r) : PureCall Tryz.prog 216 [.u (.one (.d (.int .i64 x)))] (.u (.one (.d (.bool r)))) := (f_cmp_isNaN_int x r hm).pureW
end Go.Proofs.YtfpjnmhdbgbmmaaGreatDoor
