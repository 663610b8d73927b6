/- That the code does what the functions say (made by cc.py). -/
import Derived.Test.YtfpjnmhdbgbmmaaGreatDoorWa10
namespace Go.Proofs.YtfpjnmhdbgbmmaaGreatDoor
open Go.AM Go.Proofs
attribute [-simp] qlookup du fQ Ob.wipe Ob.ren Ob.frz1
def eD (cx : Cx) (f : cellularref20_field) (y : Int) (_out : List Point) (tt : (List Point)) (ee : Exit) (ρ : Env) (σ : Sto) : Prop := match tt with
 | out1 => ee = .exit 2 ∧ EE cx (aS [(1, .u (.one (.box 1 0))), (3, .u (.one (.own 5000))), (4, .u (.one (.d (.int .i64 y))))] [(1, .box [.d (.bool f.flat), .d (.int .i64 f.box.X), .d (.int .i64 f.box.Y), .d (.int .i64 f.box.W), .d (.int .i64 f.box.H), .d (.sl 1 (List.map (rI .i64) f.cells)), .d (.sl 3 (List.map Cell.row f.list))]), (5000, .row 2 71 (List.map Point.row out1))]) ρ σ
theorem l_R20_field_near_2 (cx : Cx) (hn : cx.n = 93) (f : cellularref20_field) (y : Int) (out : List Point) {fu : Nat} {stt : Int × (List Point)} {tt : (List Point)} (hh : ak (bP f y out) fu stt = some tt) {ρ : Env} {σ : Sto}
  (hE : aW (fun stt : Int × (List Point) => match stt with | (x, _out1) => [(1, .u (.one (.box 1 0))), (3, .u (.one (.own 5000))), (4, .u (.one (.d (.int .i64 y)))), (5, .u (.one (.d (.int .i64 x))))]) (fun stt : Int × (List Point) => match stt with | (_x, out1) => [(1, .box [.d (.bool f.flat), .d (.int .i64 f.box.X), .d (.int .i64 f.box.Y), .d (.int .i64 f.box.W), .d (.int .i64 f.box.H), .d (.sl 1 (List.map (rI .i64) f.cells)), .d (.sl 3 (List.map Cell.row f.list))]), (5000, .row 2 71 (List.map Point.row out1))]) stt ρ σ) : Swp Tryz.prog cx (.loop (bg [1, 1, 0, 1, 0, 0, 1, 0, 0, 1, 0, 0, 1, 0, 0] (aK Tryz.f176))) ρ σ (eD cx f y out tt) := by
 refine aY hE hh (eD cx f y out) ?_
 rintro ⟨x, out1⟩ r hm ρ σ hf
 simp only [Fits, ar, ap, and_true] at hf
 unfold bP at hm
 dsimp only at hm
 refine ac ?_
 refine srs hn ?_
 simp -dsimp [hf]
 rcases aj hm with ⟨c3, hm⟩ | ⟨c3, hm⟩
 ·refine a8 (b := (ltB x (aG .i64 (aG .i64 f.box.X f.box.W) 2))) (by simp -dsimp) c3 ?_
  refine aa (a6 (ac (ai ?_)))
  refine sr1 hn ?_
  obtain ⟨l, h4, hm⟩ := bnd hm
  obtain ⟨h4a, h4e⟩ := aN h4
  replace h4e := h4e.symm
  subst h4e
  try simp only [List.length_cons, List.length_nil, Nat.zero_add] at h4a
  simp -dsimp [hf, c3, h4a]
  refine aM ?_
  refine a6 ?_
  refine sr1 hn ?_
  simp -dsimp [hf]
  cases hm
  refine az ?_
  refine EE.step (Wk.move 49 5000 (by decide) (.inl (by decide))) ?_
  exact EE.here (by simp -dsimp [hf])
 ·refine a7 (b := (ltB x (aG .i64 (aG .i64 f.box.X f.box.W) 2))) (by simp -dsimp) c3 ?_
  refine aw ?_
  refine ae ?_
  cases hm
  refine am nofun ?_
  unfold eD
  dsimp only
  refine ⟨rfl, ?_⟩
  exact EE.here (by simp -dsimp [hf, c3])
def eC (cx : Cx) (_f : cellularref20_field) (tt : (List Point)) (ee : Exit) (ρ : Env) (σ : Sto) : Prop := match tt with
 | out => ee = .exit 0 ∧ EE cx (aS [(3, .u (.one (.own 5000)))] [(5000, .row 2 71 (List.map Point.row out))]) ρ σ
theorem l_R20_field_near_1 (cx : Cx) (hn : cx.n = 93) (f : cellularref20_field) {fu : Nat} {stt : Int × (List Point)} {tt : (List Point)} (hh : ak (bQ f) fu stt = some tt) {ρ : Env} {σ : Sto}
  (hE : aW (fun stt : Int × (List Point) => match stt with | (y, _out) => [(1, .u (.one (.box 1 0))), (3, .u (.one (.own 5000))), (4, .u (.one (.d (.int .i64 y))))]) (fun stt : Int × (List Point) => match stt with | (_y, out) => [(1, .box [.d (.bool f.flat), .d (.int .i64 f.box.X), .d (.int .i64 f.box.Y), .d (.int .i64 f.box.W), .d (.int .i64 f.box.H), .d (.sl 1 (List.map (rI .i64) f.cells)), .d (.sl 3 (List.map Cell.row f.list))]), (5000, .row 2 71 (List.map Point.row out))]) stt ρ σ) : Swp Tryz.prog cx (.loop (bg [1, 1, 0, 1, 0, 0, 1, 0, 0] (aK Tryz.f176))) ρ σ (eC cx f tt) := by
 refine aY hE hh (eC cx f) ?_
 rintro ⟨y, out⟩ r hm ρ σ hf
 simp only [Fits, ar, ap, and_true] at hf
 unfold bQ at hm
 dsimp only at hm
 refine ac ?_
 refine srs hn ?_
 simp -dsimp [hf]
 rcases aj hm with ⟨c2, hm⟩ | ⟨c2, hm⟩
 ·refine a8 (b := (ltB y (aG .i64 (aG .i64 f.box.Y f.box.H) 2))) (by simp -dsimp) c2 ?_
  refine aa (a6 (ac (ai ?_)))
  refine srs hn ?_
  simp -dsimp [hf, c2]
  refine ai ?_
  obtain ⟨out1, g5, hm⟩ := bnd hm
  refine aJ (l_R20_field_near_2 cx hn f y out g5) (by
    try dsimp only
    exact EE.here (by simp -dsimp [hf])
  ) fun ee ρ σ x6 => ?_
  unfold eD at x6
  dsimp only at x6
  obtain ⟨rfl, x6⟩ := x6
  refine av ?_
  refine aM ?_
  refine a6 ?_
  refine aX (by rfl) (by rfl) x6 fun ρ σ hf => ?_
  simp only [Fits, ar, ap, and_true] at hf
  refine sr1 hn ?_
  simp -dsimp [hf]
  cases hm
  refine az ?_
  exact EE.here (by simp -dsimp [hf])
 ·refine a7 (b := (ltB y (aG .i64 (aG .i64 f.box.Y f.box.H) 2))) (by simp -dsimp) c2 ?_
  refine aw ?_
  refine ae ?_
  cases hm
  refine am nofun ?_
  unfold eC
  dsimp only
  refine ⟨rfl, ?_⟩
  exact EE.here (by simp -dsimp [hf, c2])
def eB (cx : Cx) (f : cellularref20_field) (i : Int) (_out : List Point) (y : Int) (tt : (List Point)) (ee : Exit) (ρ : Env) (σ : Sto) : Prop := match tt with
 | out2 => ee = .exit 8 ∧ EE cx (aS [(1, .u (.one (.box 1 0))), (3, .u (.one (.own 5000))), (6, .u (.one (.d (.int .i64 i)))), (7, .u (.one (.d (.int .i64 y))))] [(1, .box [.d (.bool f.flat), .d (.int .i64 f.box.X), .d (.int .i64 f.box.Y), .d (.int .i64 f.box.W), .d (.int .i64 f.box.H), .d (.sl 1 (List.map (rI .i64) f.cells)), .d (.sl 3 (List.map Cell.row f.list))]), (5000, .row 2 71 (List.map Point.row out2))]) ρ σ
theorem l_R20_field_near_5 (cx : Cx) (hn : cx.n = 93) (f : cellularref20_field) (i : Int) (out : List Point) (y : Int) {fu : Nat} {stt : Int × (List Point)} {tt : (List Point)} (hh : ak (bu f i out y) fu stt = some tt) {ρ : Env} {σ : Sto}
  (hE : aW (fun stt : Int × (List Point) => match stt with | (x, _out2) => [(1, .u (.one (.box 1 0))), (3, .u (.one (.own 5000))), (6, .u (.one (.d (.int .i64 i)))), (7, .u (.one (.d (.int .i64 y)))), (8, .u (.one (.d (.int .i64 x))))]) (fun stt : Int × (List Point) => match stt with | (_x, out2) => [(1, .box [.d (.bool f.flat), .d (.int .i64 f.box.X), .d (.int .i64 f.box.Y), .d (.int .i64 f.box.W), .d (.int .i64 f.box.H), .d (.sl 1 (List.map (rI .i64) f.cells)), .d (.sl 3 (List.map Cell.row f.list))]), (5000, .row 2 71 (List.map Point.row out2))]) stt ρ σ) : Swp Tryz.prog cx (.loop (bg [1, 1, 1, 0, 1, 0, 0, 1, 0, 0, 1, 0, 0, 1, 0, 0, 1, 0, 0] (aK Tryz.f176))) ρ σ (eB cx f i out y tt) := by
 refine aY hE hh (eB cx f i out y) ?_
 rintro ⟨x, out2⟩ r hm ρ σ hf
 simp only [Fits, ar, ap, and_true] at hf
 unfold bu at hm
 dsimp only at hm
 refine ac ?_
 refine srs hn ?_
 simp -dsimp [hf]
 rcases aj hm with ⟨c11, hm⟩ | ⟨c11, hm⟩
 ·refine a8 (b := (leB x 2)) (by simp -dsimp) c11 ?_
  refine aa (a6 ?_)
  obtain ⟨out3, j16, hm⟩ := bnd hm
  refine au [(1, .u (.one (.box 1 0))), (3, .u (.one (.own 5000))), (6, .u (.one (.d (.int .i64 i)))), (7, .u (.one (.d (.int .i64 y)))), (8, .u (.one (.d (.int .i64 x))))] [(1, .box [.d (.bool f.flat), .d (.int .i64 f.box.X), .d (.int .i64 f.box.Y), .d (.int .i64 f.box.W), .d (.int .i64 f.box.H), .d (.sl 1 (List.map (rI .i64) f.cells)), .d (.sl 3 (List.map Cell.row f.list))]), (5000, .row 2 71 (List.map Point.row out3))] (by rfl) (by rfl) ?_ fun ρ σ hf => ?_
  ·replace hm := j16
   clear j16
   refine ai ?_
   refine k7 aL mixed 17 18 18 0 [[0, 1, 2, 3, 4, 5, 6, 7, 8, 9, 10, 11, 12, 13, 14, 15, 16]] [[9]] [] none (by rw [hn]; kernel_rfl) gI ?_
   dsimp only [List.take, List.drop, iq, iQ, jT, pk, List.cons_append, List.nil_append, List.flatten_cons, List.flatten_nil, ff, fv, List.append_nil]
   obtain ⟨x1, h12, hm⟩ := bnd hm
   simp -dsimp [hf, c11, h12]
   refine srs hn ?_
   obtain ⟨y1, h13, hm⟩ := bnd hm
   simp -dsimp [hf]
   refine ag (c_R20_field_earlier f i (⟨(aG .i64 x1.X x), (aG .i64 x1.Y y)⟩ : Point) y1 h13) (dkL hn) ?_
   simp -dsimp
   rcases aj hm with ⟨c14, hm⟩ | ⟨c14, hm⟩
   ·refine a8 (b := (aD y1)) (by simp -dsimp) c14 ?_
    refine sr1 hn ?_
    obtain ⟨l, h15, hm⟩ := bnd hm
    obtain ⟨h15a, h15e⟩ := aN h15
    replace h15e := h15e.symm
    subst h15e
    try simp only [List.length_cons, List.length_nil, Nat.zero_add] at h15a
    simp -dsimp [hf, c14, h15a]
    refine aM ?_
    refine a6 ?_
    cases hm
    refine EE.step (Wk.move 91 5000 (by decide) (.inl (by decide))) ?_
    exact EE.here (by simp -dsimp [hf])
   ·refine a7 (b := (aD y1)) (by simp -dsimp) c14 ?_
    refine aa ?_
    refine aM ?_
    refine a6 ?_
    cases hm
    exact EE.here (by simp -dsimp [hf, c14])
  ·clear j16
   simp only [Fits, ar, ap, and_true] at hf
   refine sr1 hn ?_
   simp -dsimp [hf]
   cases hm
   refine az ?_
   exact EE.here (by simp -dsimp [hf])
 ·refine a7 (b := (leB x 2)) (by simp -dsimp) c11 ?_
  refine aw ?_
  refine ae ?_
  cases hm
  refine am nofun ?_
  unfold eB
  dsimp only
  refine ⟨rfl, ?_⟩
  exact EE.here (by simp -dsimp [hf, c11])
def er (cx : Cx) (f : cellularref20_field) (i : Int) (_out : List Point) (tt : (List Point)) (ee : Exit) (ρ : Env) (σ : Sto) : Prop := match tt with
 | out1 => ee = .exit 6 ∧ EE cx (aS [(1, .u (.one (.box 1 0))), (3, .u (.one (.own 5000))), (6, .u (.one (.d (.int .i64 i))))] [(1, .box [.d (.bool f.flat), .d (.int .i64 f.box.X), .d (.int .i64 f.box.Y), .d (.int .i64 f.box.W), .d (.int .i64 f.box.H), .d (.sl 1 (List.map (rI .i64) f.cells)), .d (.sl 3 (List.map Cell.row f.list))]), (5000, .row 2 71 (List.map Point.row out1))]) ρ σ
theorem l_R20_field_near_4 (cx : Cx) (hn : cx.n = 93) (f : cellularref20_field) (i : Int) (out : List Point) {fu : Nat} {stt : Int × (List Point)} {tt : (List Point)} (hh : ak (cj f i out) fu stt = some tt) {ρ : Env} {σ : Sto}
  (hE : aW (fun stt : Int × (List Point) => match stt with | (y, _out1) => [(1, .u (.one (.box 1 0))), (3, .u (.one (.own 5000))), (6, .u (.one (.d (.int .i64 i)))), (7, .u (.one (.d (.int .i64 y))))]) (fun stt : Int × (List Point) => match stt with | (_y, out1) => [(1, .box [.d (.bool f.flat), .d (.int .i64 f.box.X), .d (.int .i64 f.box.Y), .d (.int .i64 f.box.W), .d (.int .i64 f.box.H), .d (.sl 1 (List.map (rI .i64) f.cells)), .d (.sl 3 (List.map Cell.row f.list))]), (5000, .row 2 71 (List.map Point.row out1))]) stt ρ σ) : Swp Tryz.prog cx (.loop (bg [1, 1, 1, 0, 1, 0, 0, 1, 0, 0, 1, 0, 0] (aK Tryz.f176))) ρ σ (er cx f i out tt) := by
 refine aY hE hh (er cx f i out) ?_
 rintro ⟨y, out1⟩ r hm ρ σ hf
 simp only [Fits, ar, ap, and_true] at hf
 unfold cj at hm
 dsimp only at hm
 refine ac ?_
 refine srs hn ?_
 simp -dsimp [hf]
 rcases aj hm with ⟨c10, hm⟩ | ⟨c10, hm⟩
 ·refine a8 (b := (leB y 2)) (by simp -dsimp) c10 ?_
  refine aa (a6 (ac (ai ?_)))
  refine srs hn ?_
  simp -dsimp [c10]
  refine ai ?_
  obtain ⟨out2, g17, hm⟩ := bnd hm
  refine aJ (l_R20_field_near_5 cx hn f i out y g17) (by
    try dsimp only
    exact EE.here (by simp -dsimp [hf])
  ) fun ee ρ σ x18 => ?_
  unfold eB at x18
  dsimp only at x18
  obtain ⟨rfl, x18⟩ := x18
  refine av ?_
  refine aM ?_
  refine a6 ?_
  refine aX (by rfl) (by rfl) x18 fun ρ σ hf => ?_
  simp only [Fits, ar, ap, and_true] at hf
  refine sr1 hn ?_
  simp -dsimp [hf]
  cases hm
  refine az ?_
  exact EE.here (by simp -dsimp [hf])
 ·refine a7 (b := (leB y 2)) (by simp -dsimp) c10 ?_
  refine aw ?_
  refine ae ?_
  cases hm
  refine am nofun ?_
  unfold er
  dsimp only
  refine ⟨rfl, ?_⟩
  exact EE.here (by simp -dsimp [hf, c10])
def eL (cx : Cx) (_f : cellularref20_field) (tt : (List Point)) (ee : Exit) (ρ : Env) (σ : Sto) : Prop := match tt with
 | out => ee = .exit 4 ∧ EE cx (aS [(3, .u (.one (.own 5000)))] [(5000, .row 2 71 (List.map Point.row out))]) ρ σ
theorem l_R20_field_near_3 (cx : Cx) (hn : cx.n = 93) (f : cellularref20_field) {fu : Nat} {stt : Int × (List Point)} {tt : (List Point)} (hh : ak (bT f) fu stt = some tt) {ρ : Env} {σ : Sto}
  (hE : aW (fun stt : Int × (List Point) => match stt with | (i, _out) => [(1, .u (.one (.box 1 0))), (3, .u (.one (.own 5000))), (6, .u (.one (.d (.int .i64 i))))]) (fun stt : Int × (List Point) => match stt with | (_i, out) => [(1, .box [.d (.bool f.flat), .d (.int .i64 f.box.X), .d (.int .i64 f.box.Y), .d (.int .i64 f.box.W), .d (.int .i64 f.box.H), .d (.sl 1 (List.map (rI .i64) f.cells)), .d (.sl 3 (List.map Cell.row f.list))]), (5000, .row 2 71 (List.map Point.row out))]) stt ρ σ) : Swp Tryz.prog cx (.loop (bg [1, 1, 1, 0, 1, 0, 0] (aK Tryz.f176))) ρ σ (eL cx f tt) := by
 refine aY hE hh (eL cx f) ?_
 rintro ⟨i, out⟩ r hm ρ σ hf
 simp only [Fits, ar, ap, and_true] at hf
 unfold bT at hm
 dsimp only at hm
 refine ac ?_
 refine srs hn ?_
 simp -dsimp [hf]
 rcases aj hm with ⟨c9, hm⟩ | ⟨c9, hm⟩
 ·refine a8 (b := (ltB i (ah f.list))) (by simp -dsimp) c9 ?_
  refine aa (a6 (ac (ai ?_)))
  refine srs hn ?_
  simp -dsimp [c9]
  refine ai ?_
  obtain ⟨out1, g19, hm⟩ := bnd hm
  refine aJ (l_R20_field_near_4 cx hn f i out g19) (by
    try dsimp only
    exact EE.here (by simp -dsimp [hf])
  ) fun ee ρ σ x20 => ?_
  unfold er at x20
  dsimp only at x20
  obtain ⟨rfl, x20⟩ := x20
  refine av ?_
  refine aM ?_
  refine a6 ?_
  refine aX (by rfl) (by rfl) x20 fun ρ σ hf => ?_
  simp only [Fits, ar, ap, and_true] at hf
  refine sr1 hn ?_
  simp -dsimp [hf]
  cases hm
  refine az ?_
  exact EE.here (by simp -dsimp [hf])
 ·refine a7 (b := (ltB i (ah f.list))) (by simp -dsimp) c9 ?_
  refine aw ?_
  refine ae ?_
  cases hm
  refine am nofun ?_
  unfold eL
  dsimp only
  refine ⟨rfl, ?_⟩
  exact EE.here (by simp -dsimp [hf, c9])
theorem f_R20_field_near (f : cellularref20_field) (r : List Point) (hm : da f = some r) : PFn Tryz.prog 176 [.u (.agg [.d (.bool f.flat), .d (.int .i64 f.box.X), .d (.int .i64 f.box.Y), .d (.int .i64 f.box.W), .d (.int .i64 f.box.H), .d (.sl 1 (List.map (rI .i64) f.cells)), .d (.sl 3 (List.map Cell.row f.list))])] (fun v => v.wk (.u (.one (.d (.sl 2 (List.map Point.row r)))))) := by
 refine aV Tryz.func176 Tryz.ntmps176 rfl (by kernel_rfl) (by simp) fun cx hn => ?_
 unfold da at hm
 refine srs hn ?_
 simp -dsimp
 refine srs hn ?_
 simp -dsimp
 refine ac ?_
 refine srs hn ?_
 simp -dsimp
 rcases aj hm with ⟨c1, hm⟩ | ⟨c1, hm⟩
 ·refine a8 (by simp -dsimp) c1 ?_
  refine ac ?_
  refine srs hn ?_
  simp -dsimp [c1]
  refine ai ?_
  obtain ⟨out, g7, hm⟩ := bnd hm
  refine aJ (l_R20_field_near_1 cx hn f g7) (by
    try dsimp only
    refine EE.step (Wk.own0 3 5000 2 71 (by simp -dsimp) (by decide)) ?_
    exact EE.here (by simp -dsimp [c1])
  ) fun ee ρ σ x8 => ?_
  unfold eC at x8
  dsimp only at x8
  obtain ⟨rfl, x8⟩ := x8
  refine av ?_
  refine a6 ?_
  refine aX (by rfl) (by rfl) x8 fun ρ σ hf => ?_
  simp only [Fits, ar, ap, and_true] at hf
  refine srs hn ?_
  simp -dsimp [hf]
  refine ab (ae ?_)
  cases hm
  refine ⟨.inr rfl, ?_⟩
  exact EE.here (by simp -dsimp [hf])
 ·refine a7 (by simp -dsimp) c1 ?_
  refine aa (a6 (ac ?_))
  refine srs hn ?_
  simp -dsimp [c1]
  refine ai ?_
  obtain ⟨out, g21, hm⟩ := bnd hm
  refine aJ (l_R20_field_near_3 cx hn f g21) (by
    try dsimp only
    refine EE.step (Wk.own0 3 5000 2 71 (by simp -dsimp) (by decide)) ?_
    exact EE.here (by simp -dsimp [c1])
  ) fun ee ρ σ x22 => ?_
  unfold eL at x22
  dsimp only at x22
  obtain ⟨rfl, x22⟩ := x22
  refine av ?_
  refine a6 ?_
  refine aX (by rfl) (by rfl) x22 fun ρ σ hf => ?_
  simp only [Fits, ar, ap, and_true] at hf
  refine srs hn ?_
  simp -dsimp [hf]
  refine ab ?_
  cases hm
  refine ⟨.inr rfl, ?_⟩
  exact EE.here (by simp -dsimp [hf])
theorem c_R20_field_near (f : cellularref20_field) (r : List Point) (hm : da f = some r) : PureCall Tryz.prog 176 [.u (.agg [.d (.bool f.flat), .d (.int .i64 f.box.X), .d (.int .i64 f.box.Y), .d (.int .i64 f.box.W), .d (.int .i64 f.box.H), .d (.sl 1 (List.map (rI .i64) f.cells)), .d (.sl 3 (List.map Cell.row f.list))])] (.u (.one (.d (.sl 2 (List.map Point.row r))))) := (f_R20_field_near f r hm).pureW
def gP (cx : Cx) (_p : List Cell) (_x : Int) (_y : Int) (tt : Int ⊕ Unit) (ee : Exit) (ρ : Env) (σ : Sto) : Prop := match tt with
 | .inl r => ee = .ret ∧ EE cx (fun ρ σ => ∃ v, resV tb ρ σ Tryz.f250.results.toList = some v ∧ (v.frz σ).free = true ∧ (v.frz σ).wk (.u (.one (.d (.int .i64 r))))) ρ σ
 | .inr _u => ee = .exit 0 ∧ EE cx (aS [] []) ρ σ
theorem l_R05_Get_1 (cx : Cx) (hn : cx.n = 35) (p : List Cell) (x : Int) (y : Int) {fu : Nat} {stt : Int} {tt : Int ⊕ Unit} (hh : ak (fy p x y) fu stt = some tt) {ρ : Env} {σ : Sto}
  (hE : aW (fun i : Int => [(0, .u (.one (.d (.sl 3 (List.map Cell.row p))))), (1, .u (.one (.d (.int .i64 x)))), (2, .u (.one (.d (.int .i64 y)))), (7, .u (.one (.d (.int .i64 i))))]) (fun _i : Int => []) stt ρ σ) : Swp Tryz.prog cx (.loop (bg [1, 0, 1, 0, 0] (aK Tryz.f250))) ρ σ (gP cx p x y tt) := by
 refine aY hE hh (gP cx p x y) ?_
 rintro i r hm ρ σ hf
 simp only [Fits, ar, ap, and_true] at hf
 unfold fy at hm
 dsimp only at hm
 refine ac ?_
 refine srs hn ?_
 simp -dsimp [hf]
 rcases aj hm with ⟨c1, hm⟩ | ⟨c1, hm⟩
 ·refine a8 (b := (ltB i (ah p))) (by simp -dsimp) c1 ?_
  refine aa (a6 (ac (ai ?_)))
  obtain ⟨a, j6, hm⟩ := bnd hm
  refine au [(0, .u (.one (.d (.sl 3 (List.map Cell.row p))))), (1, .u (.one (.d (.int .i64 x)))), (2, .u (.one (.d (.int .i64 y)))), (7, .u (.one (.d (.int .i64 i)))), (29, .u (.one (.d (.bool a))))] [] (by rfl) (by rfl) ?_ fun ρ σ hf => ?_
  ·replace hm := j6
   clear j6
   refine sr1 hn ?_
   obtain ⟨x1, h2, hm⟩ := bnd hm
   rcases aj hm with ⟨c3, hm⟩ | ⟨c3, hm⟩
   ·simp -dsimp [hf, c1, h2, c3]
    refine a6 ?_
    cases hm
    exact EE.here (by simp -dsimp [hf])
   ·simp -dsimp [hf, c1, h2, c3]
    refine a6 ?_
    cases hm
    exact EE.here (by simp -dsimp [hf])
  ·clear j6
   simp only [Fits, ar, ap, and_true] at hf
   rcases aj hm with ⟨c4, hm⟩ | ⟨c4, hm⟩
   ·refine a8 (by simp -dsimp [hf]) c4 ?_
    refine srs hn ?_
    obtain ⟨x1, h5, hm⟩ := bnd hm
    simp -dsimp [hf, h5]
    refine ab (aH (ae ?_))
    cases hm
    refine am nofun ?_
    unfold gP
    dsimp only
    refine ⟨rfl, ?_⟩
    exact EE.here (by simp -dsimp [Tryz.results250])
   ·refine a7 (by simp -dsimp [hf]) c4 ?_
    refine aa ?_
    refine aM ?_
    refine a6 ?_
    refine sr1 hn ?_
    simp -dsimp [hf]
    cases hm
    refine az ?_
    exact EE.here (by simp -dsimp [hf])
 ·refine a7 (b := (ltB i (ah p))) (by simp -dsimp) c1 ?_
  refine aw ?_
  refine ae ?_
  cases hm
  refine am nofun ?_
  unfold gP
  dsimp only
  refine ⟨rfl, ?_⟩
  exact EE.here (by simp -dsimp [c1])
theorem f_R05_Get (p : List Cell) (x : Int) (y : Int) (r : Int) (hm : jz p x y = some r) : PFn Tryz.prog 250 [.u (.one (.d (.sl 3 (List.map Cell.row p)))), .u (.one (.d (.int .i64 x))), .u (.one (.d (.int .i64 y)))] (fun v => v.wk (.u (.one (.d (.int .i64 r))))) := by
 refine aV Tryz.func250 Tryz.ntmps250 rfl (by kernel_rfl) (by simp) fun cx hn => ?_
 unfold jz at hm
 refine srs hn ?_
 simp -dsimp
 refine ac ?_
 refine srs hn ?_
 simp -dsimp
 refine ai ?_
 obtain ⟨o_, g7, hm⟩ := bnd hm
 refine aJ (l_R05_Get_1 cx hn p x y g7) (by
   try dsimp only
   exact EE.here (by simp -dsimp)
 ) fun ee ρ σ x8 => ?_
 rcases o_ with r | _u
 ·unfold gP at x8
  dsimp only at x8
  obtain ⟨rfl, x8⟩ := x8
  refine aH (ae ?_)
  cases hm
  exact ⟨.inr rfl, x8⟩
 ·unfold gP at x8
  dsimp only at x8
  obtain ⟨rfl, x8⟩ := x8
  refine av ?_
  refine a6 ?_
  refine aX (by rfl) (by rfl) x8 fun ρ σ hf => ?_
  simp only [Fits, ar, ap, and_true] at hf
  refine srs hn ?_
  simp -dsimp
  refine ab ?_
  cases hm
  refine ⟨.inr rfl, ?_⟩
  exact EE.here (by simp -dsimp)
theorem c_R05_Get (p : List Cell) (x : Int) (y : Int) (r : Int) (hm : jz p x y = some r) : PureCall Tryz.prog 250 [.u (.one (.d (.sl 3 (List.map Cell.row p)))), .u (.one (.d (.int .i64 x))), .u (.one (.d (.int .i64 y)))] (.u (.one (.d (.int .i64 r)))) := (f_R05_Get p x y r hm).pureW
theorem f_R20_field_at (f : cellularref20_field) (x : Int) (y : Int) (r : Int) (hm : dj f x y = some r) : PFn Tryz.prog 220 [.u (.agg [.d (.bool f.flat), .d (.int .i64 f.box.X), .d (.int .i64 f.box.Y), .d (.int .i64 f.box.W), .d (.int .i64 f.box.H), .d (.sl 1 (List.map (rI .i64) f.cells)), .d (.sl 3 (List.map Cell.row f.list))]), .u (.one (.d (.int .i64 x))), .u (.one (.d (.int .i64 y)))] (fun v => v.wk (.u (.one (.d (.int .i64 r))))) := by
 refine aV Tryz.func220 Tryz.ntmps220 rfl (by kernel_rfl) (by simp) fun cx hn => ?_
 unfold dj at hm
 refine srs hn ?_
 simp -dsimp
 refine ac ?_
 refine srs hn ?_
 simp -dsimp
 rcases aj hm with ⟨c1, hm⟩ | ⟨c1, hm⟩
 ·refine a8 (by simp -dsimp) c1 ?_
  refine srs hn ?_
  obtain ⟨y1, h2, hm⟩ := bnd hm
  simp -dsimp [c1]
  refine ag (c_R05_Get f.list x y y1 h2) (dkL hn) ?_
  simp -dsimp
  refine ab (ae ?_)
  cases hm
  refine ⟨.inr rfl, ?_⟩
  exact EE.here (by simp -dsimp)
 ·refine a7 (by simp -dsimp) c1 ?_
  refine aa (a6 (ac ?_))
  obtain ⟨a, j8, hm⟩ := bnd hm
  refine au [(1, .u (.one (.d (.int .i64 x)))), (2, .u (.one (.d (.int .i64 y)))), (3, .u (.one (.box 3 0))), (48, .u (.one (.d (.bool a))))] [(3, .box [.d (.bool f.flat), .d (.int .i64 f.box.X), .d (.int .i64 f.box.Y), .d (.int .i64 f.box.W), .d (.int .i64 f.box.H), .d (.sl 1 (List.map (rI .i64) f.cells)), .d (.sl 3 (List.map Cell.row f.list))])] (by rfl) (by rfl) ?_ fun ρ σ hf => ?_
  ·replace hm := j8
   clear j8
   refine sr1 hn ?_
   rcases aj hm with ⟨c3, hm⟩ | ⟨c3, hm⟩
   ·simp -dsimp [c1, c3]
    refine a6 ?_
    cases hm
    exact EE.here (by simp -dsimp)
   ·rcases aj hm with ⟨c4, hm⟩ | ⟨c4, hm⟩
    ·simp -dsimp [c1, c3, c4]
     refine a6 ?_
     cases hm
     exact EE.here (by simp -dsimp)
    ·rcases aj hm with ⟨c5, hm⟩ | ⟨c5, hm⟩
     ·simp -dsimp [c1, c3, c4, c5]
      refine a6 ?_
      cases hm
      exact EE.here (by simp -dsimp)
     ·simp -dsimp [c1, c3, c4, c5]
      refine a6 ?_
      cases hm
      exact EE.here (by simp -dsimp)
  ·clear j8
   simp only [Fits, ar, ap, and_true] at hf
   rcases aj hm with ⟨c6, hm⟩ | ⟨c6, hm⟩
   ·refine a8 (by simp -dsimp [hf]) c6 ?_
    refine srs hn ?_
    simp -dsimp
    refine ab (ae ?_)
    cases hm
    refine ⟨.inr rfl, ?_⟩
    exact EE.here (by simp -dsimp)
   ·refine a7 (by simp -dsimp [hf]) c6 ?_
    refine aa (a6 ?_)
    refine srs hn ?_
    obtain ⟨x1, h7, hm⟩ := bnd hm
    simp -dsimp [hf, h7]
    refine ab ?_
    cases hm
    refine ⟨.inr rfl, ?_⟩
    exact EE.here (by simp -dsimp)
theorem c_R20_field_at (f : cellularref20_field) (x : Int) (y : Int) (r : Int) (hm : dj f x y = some r) : PureCall Tryz.prog 220 [.u (.agg [.d (.bool f.flat), .d (.int .i64 f.box.X), .d (.int .i64 f.box.Y), .d (.int .i64 f.box.W), .d (.int .i64 f.box.H), .d (.sl 1 (List.map (rI .i64) f.cells)), .d (.sl 3 (List.map Cell.row f.list))]), .u (.one (.d (.int .i64 x))), .u (.one (.d (.int .i64 y)))] (.u (.one (.d (.int .i64 r)))) := (f_R20_field_at f x y r hm).pureW
def jt (cx : Cx) (t : Tree) (_f : cellularref20_field) (_x : Int) (_y : Int) (tt : (List Int)) (ee : Exit) (ρ : Env) (σ : Sto) : Prop := match tt with
 | in_ => ee = .exit 0 ∧ EE cx (aS [(4, .u (.one (.box 4 0))), (9, .u (.one (.own 5000)))] [(4, .box [.d (.int .i64 t.States), .d (.sl 2 (List.map Point.row t.Hood)), .d (.sl 2 (List.map Node.row t.Nodes))]), (5000, .row 1 3 (List.map (rI .i64) in_))]) ρ σ
theorem l_R20_next_1 (cx : Cx) (hn : cx.n = 42) (t : Tree) (f : cellularref20_field) (x : Int) (y : Int) {fu : Nat} {stt : Int × (List Int)} {tt : (List Int)} (hh : ak (fA t f x y) fu stt = some tt) {ρ : Env} {σ : Sto}
  (hE : aW (fun stt : Int × (List Int) => match stt with | (i, _in_) => [(2, .u (.one (.d (.int .i64 x)))), (3, .u (.one (.d (.int .i64 y)))), (4, .u (.one (.box 4 0))), (5, .u (.one (.box 5 0))), (9, .u (.one (.own 5000))), (10, .u (.one (.d (.int .i64 i))))]) (fun stt : Int × (List Int) => match stt with | (_i, in_) => [(4, .box [.d (.int .i64 t.States), .d (.sl 2 (List.map Point.row t.Hood)), .d (.sl 2 (List.map Node.row t.Nodes))]), (5, .box [.d (.bool f.flat), .d (.int .i64 f.box.X), .d (.int .i64 f.box.Y), .d (.int .i64 f.box.W), .d (.int .i64 f.box.H), .d (.sl 1 (List.map (rI .i64) f.cells)), .d (.sl 3 (List.map Cell.row f.list))]), (5000, .row 1 3 (List.map (rI .i64) in_))]) stt ρ σ) : Swp Tryz.prog cx (.loop (bg [1, 1, 0, 1, 0, 0] (aK Tryz.f177))) ρ σ (jt cx t f x y tt) := by
 refine aY hE hh (jt cx t f x y) ?_
 rintro ⟨i, in_⟩ r hm ρ σ hf
 simp only [Fits, ar, ap, and_true] at hf
 unfold fA at hm
 dsimp only at hm
 refine ac ?_
 refine srs hn ?_
 simp -dsimp [hf]
 rcases aj hm with ⟨c1, hm⟩ | ⟨c1, hm⟩
 ·refine a8 (b := (ltB i (ah t.Hood))) (by simp -dsimp) c1 ?_
  refine aa (a6 (ac (ai ?_)))
  refine sw_drN aL mixed 20 (by rw [hn]; kernel_rfl) ?_
  dsimp only [List.take, List.drop]
  obtain ⟨x1, h2, hm⟩ := bnd hm
  obtain ⟨y1, h3, hm⟩ := bnd hm
  simp -dsimp [hf, c1, h2]
  refine al (c_R20_field_at f (aG .i64 x x1.X) (aG .i64 y x1.Y) y1 h3) ?_
  obtain ⟨l, h4, hm⟩ := bnd hm
  obtain ⟨h4a, h4e⟩ := aN h4
  replace h4e := h4e.symm
  subst h4e
  try simp only [List.length_cons, List.length_nil, Nat.zero_add] at h4a
  simp -dsimp [hf, h4a]
  refine aM ?_
  refine a6 ?_
  refine sr1 hn ?_
  simp -dsimp [hf]
  cases hm
  refine az ?_
  refine EE.step (Wk.move 38 5000 (by decide) (.inl (by decide))) ?_
  exact EE.here (by simp -dsimp [hf])
 ·refine a7 (b := (ltB i (ah t.Hood))) (by simp -dsimp) c1 ?_
  refine aw ?_
  refine ae ?_
  cases hm
  refine am nofun ?_
  unfold jt
  dsimp only
  refine ⟨rfl, ?_⟩
  exact EE.here (by simp -dsimp [hf, c1])
theorem f_R20_next (t : Tree) (f : cellularref20_field) (x : Int) (y : Int) (r : Int) (hm : iz t f x y = some r) : PFn Tryz.prog 177 [.u (.agg [.d (.int .i64 t.States), .d (.sl 2 (List.map Point.row t.Hood)), .d (.sl 2 (List.map Node.row t.Nodes))]), .u (.agg [.d (.bool f.flat), .d (.int .i64 f.box.X), .d (.int .i64 f.box.Y), .d (.int .i64 f.box.W), .d (.int .i64 f.box.H), .d (.sl 1 (List.map (rI .i64) f.cells)), .d (.sl 3 (List.map Cell.row f.list))]), .u (.one (.d (.int .i64 x))), .u (.one (.d (.int .i64 y)))] (fun v => v.wk (.u (.one (.d (.int .i64 r))))) := by
 refine aV Tryz.func177 Tryz.ntmps177 rfl (by kernel_rfl) (by simp) fun cx hn => ?_
 unfold iz at hm
 refine srs hn ?_
 simp -dsimp
 refine srs hn ?_
 simp -dsimp
 refine ac ?_
 refine srs hn ?_
 simp -dsimp
 refine ai ?_
 obtain ⟨in_, g5, hm⟩ := bnd hm
 refine aJ (l_R20_next_1 cx hn t f x y g5) (by
   try dsimp only
   refine EE.step (Wk.own0 9 5000 1 3 (by simp -dsimp) (by decide)) ?_
   exact EE.here (by simp -dsimp)
 ) fun ee ρ σ x6 => ?_
 unfold jt at x6
 dsimp only at x6
 obtain ⟨rfl, x6⟩ := x6
 refine av ?_
 refine a6 ?_
 refine aX (by rfl) (by rfl) x6 fun ρ σ hf => ?_
 simp only [Fits, ar, ap, and_true] at hf
 refine srs hn ?_
 obtain ⟨y1, h7, hm⟩ := bnd hm
 simp -dsimp [hf]
 refine callL_brw (us' := [.u (.agg [.d (.int .i64 t.States), .d (.sl 2 (List.map Point.row t.Hood)), .d (.sl 2 (List.map Node.row t.Nodes))]), .u (.one (.d (.sl 1 (List.map (rI .i64) in_))))]) (c_R12_Value t in_ y1 h7) (by simp -dsimp [hf]) rfl (dkL hn) ?_
 simp -dsimp
 refine ab ?_
 cases hm
 refine ⟨.inr rfl, ?_⟩
 exact EE.here (by simp -dsimp)
theorem c_R20_next (t : Tree) (f : cellularref20_field) (x : Int) (y : Int) (r : Int) (hm : iz t f x y = some r) : PureCall Tryz.prog 177 [.u (.agg [.d (.int .i64 t.States), .d (.sl 2 (List.map Point.row t.Hood)), .d (.sl 2 (List.map Node.row t.Nodes))]), .u (.agg [.d (.bool f.flat), .d (.int .i64 f.box.X), .d (.int .i64 f.box.Y), .d (.int .i64 f.box.W), .d (.int .i64 f.box.H), .d (.sl 1 (List.map (rI .i64) f.cells)), .d (.sl 3 (List.map Cell.row f.list))]), .u (.one (.d (.int .i64 x))), .u (.one (.d (.int .i64 y)))] (.u (.one (.d (.int .i64 r)))) := (f_R20_next t f x y r hm).pureW
theorem f_R20_valid (x : Int) (y : Int) (r : Bool) (hm : gC x y = some r) : PFn Tryz.prog 178 [.u (.one (.d (.int .i64 x))), .u (.one (.d (.int .i64 y)))] (fun v => v.wk (.u (.one (.d (.bool r))))) := by
 refine aV Tryz.func178 Tryz.ntmps178 rfl (by kernel_rfl) (by simp) fun cx hn => ?_
 unfold gC at hm
 refine srs hn ?_
 simp -dsimp
 obtain ⟨a, j4, hm⟩ := bnd hm
 refine au [(4, .u (.one (.d (.bool a))))] [] (by rfl) (by rfl) ?_ fun ρ σ hf => ?_
 ·replace hm := j4
  clear j4
  refine sr1 hn ?_
  rcases aj hm with ⟨c1, hm⟩ | ⟨c1, hm⟩
  ·rcases aj hm with ⟨c2, hm⟩ | ⟨c2, hm⟩
   ·rcases aj hm with ⟨c3, hm⟩ | ⟨c3, hm⟩
    ·simp -dsimp [c1, c2, c3]
     refine a6 ?_
     cases hm
     exact EE.here (by simp -dsimp)
    ·simp -dsimp [c1, c2, c3]
     refine a6 ?_
     cases hm
     exact EE.here (by simp -dsimp)
   ·simp -dsimp [c1, c2]
    refine a6 ?_
    cases hm
    exact EE.here (by simp -dsimp)
  ·simp -dsimp [c1]
   refine a6 ?_
   cases hm
   exact EE.here (by simp -dsimp)
 ·clear j4
  simp only [Fits, ar, ap, and_true] at hf
  refine ab ?_
  cases hm
  refine ⟨.inr rfl, ?_⟩
  exact EE.here (by simp -dsimp [hf])
theorem c_R20_valid (x : Int) (y : Int) (r : Bool) (hm : gC x y = some r) : PureCall Tryz.prog 178 [.u (.one (.d (.int .i64 x))), .u (.one (.d (.int .i64 y)))] (.u (.one (.d (.bool r)))) := (f_R20_valid x y r hm).pureW
def ia (cx : Cx) (_p : List Cell) (cv : Cell) (tt : (Bool × (List Cell))) (ee : Exit) (ρ : Env) (σ : Sto) : Prop := match tt with
 | (done, out) => ee = .exit 0 ∧ EE cx (aS [(3, .u (.one (.box 3 0))), (5, .u (.one (.own 5000))), (6, .u (.one (.d (.bool done))))] [(3, .box [.d (.int .i64 cv.X), .d (.int .i64 cv.Y), .d (.int .i64 cv.S)]), (5000, .row 3 57 (List.map Cell.row out))]) ρ σ
theorem l_R05_insert_1 (cx : Cx) (hn : cx.n = 42) (p : List Cell) (cv : Cell) {fu : Nat} {stt : Bool × Int × (List Cell)} {tt : (Bool × (List Cell))} (hh : ak (dm p cv) fu stt = some tt) {ρ : Env} {σ : Sto}
  (hE : aW (fun stt : Bool × Int × (List Cell) => match stt with | (done, i, _out) => [(0, .u (.one (.d (.sl 3 (List.map Cell.row p))))), (3, .u (.one (.box 3 0))), (5, .u (.one (.own 5000))), (6, .u (.one (.d (.bool done)))), (7, .u (.one (.d (.int .i64 i))))]) (fun stt : Bool × Int × (List Cell) => match stt with | (_done, _i, out) => [(3, .box [.d (.int .i64 cv.X), .d (.int .i64 cv.Y), .d (.int .i64 cv.S)]), (5000, .row 3 57 (List.map Cell.row out))]) stt ρ σ) : Swp Tryz.prog cx (.loop (bg [1, 1, 1, 0, 1, 0, 0] (aK Tryz.f221))) ρ σ (ia cx p cv tt) := by
 refine aY hE hh (ia cx p cv) ?_
 rintro ⟨done, i, out⟩ r hm ρ σ hf
 simp only [Fits, ar, ap, and_true] at hf
 unfold dm at hm
 dsimp only at hm
 refine ac ?_
 refine srs hn ?_
 simp -dsimp [hf]
 rcases aj hm with ⟨c1, hm⟩ | ⟨c1, hm⟩
 ·refine a8 (b := (ltB i (ah p))) (by simp -dsimp) c1 ?_
  refine aa (a6 (ac (ai ?_)))
  obtain ⟨⟨done1, out1⟩, j10, hm⟩ := bnd hm
  refine au [(0, .u (.one (.d (.sl 3 (List.map Cell.row p))))), (3, .u (.one (.box 3 0))), (5, .u (.one (.own 5000))), (6, .u (.one (.d (.bool done1)))), (7, .u (.one (.d (.int .i64 i))))] [(3, .box [.d (.int .i64 cv.X), .d (.int .i64 cv.Y), .d (.int .i64 cv.S)]), (5000, .row 3 57 (List.map Cell.row out1))] (by rfl) (by rfl) ?_ fun ρ σ hf => ?_
  ·replace hm := j10
   clear j10
   obtain ⟨a, j7, hm⟩ := bnd hm
   refine au [(0, .u (.one (.d (.sl 3 (List.map Cell.row p))))), (3, .u (.one (.box 3 0))), (5, .u (.one (.own 5000))), (6, .u (.one (.d (.bool done)))), (7, .u (.one (.d (.int .i64 i)))), (23, .u (.one (.d (.bool a))))] [(3, .box [.d (.int .i64 cv.X), .d (.int .i64 cv.Y), .d (.int .i64 cv.S)]), (5000, .row 3 57 (List.map Cell.row out))] (by rfl) (by rfl) ?_ fun ρ σ hf => ?_
   ·replace hm := j7
    clear j7
    refine iR aL mixed (by rw [hn]; kernel_rfl) ?_
    rcases aj hm with ⟨c2, hm⟩ | ⟨c2, hm⟩
    ·obtain ⟨x, h3, hm⟩ := bnd hm
     obtain ⟨y, h4, hm⟩ := bnd hm
     simp -dsimp [hf, c1, c2, h3]
     refine al (ky cv x y h4) ?_
     simp -dsimp
     refine a6 ?_
     cases hm
     exact EE.here (by simp -dsimp [hf])
    ·simp -dsimp [hf, c1, c2]
     refine a6 ?_
     cases hm
     exact EE.here (by simp -dsimp [hf])
   ·clear j7
    simp only [Fits, ar, ap, and_true] at hf
    rcases aj hm with ⟨c5, hm⟩ | ⟨c5, hm⟩
    ·refine a8 (by simp -dsimp [hf]) c5 ?_
     refine srs hn ?_
     obtain ⟨l, h6, hm⟩ := bnd hm
     obtain ⟨h6a, h6e⟩ := aN h6
     replace h6e := h6e.symm
     subst h6e
     try simp only [List.length_cons, List.length_nil, Nat.zero_add] at h6a
     simp -dsimp [hf, h6a]
     refine sr1 hn ?_
     simp -dsimp
     refine a6 ?_
     cases hm
     refine EE.step (Wk.move 27 5000 (by decide) (.inl (by decide))) ?_
     exact EE.here (by simp -dsimp [hf])
    ·refine a7 (by simp -dsimp [hf]) c5 ?_
     refine aa (a6 ?_)
     cases hm
     exact EE.here (by simp -dsimp [hf])
  ·clear j10
   simp only [Fits, ar, ap, and_true] at hf
   refine sr1 hn ?_
   obtain ⟨x, h8, hm⟩ := bnd hm
   obtain ⟨l, h9, hm⟩ := bnd hm
   obtain ⟨h9a, h9e⟩ := aN h9
   replace h9e := h9e.symm
   subst h9e
   try simp only [List.length_cons, List.length_nil, Nat.zero_add] at h9a
   simp -dsimp [hf, h8, h9a]
   refine aM ?_
   refine a6 ?_
   refine sr1 hn ?_
   simp -dsimp [hf]
   cases hm
   refine az ?_
   refine EE.step (Wk.move 34 5000 (by decide) (.inl (by decide))) ?_
   exact EE.here (by simp -dsimp [hf])
 ·refine a7 (b := (ltB i (ah p))) (by simp -dsimp) c1 ?_
  refine aw ?_
  refine ae ?_
  cases hm
  refine am nofun ?_
  unfold ia
  dsimp only
  refine ⟨rfl, ?_⟩
  exact EE.here (by simp -dsimp [hf, c1])
theorem f_R05_insert (p : List Cell) (cv : Cell) (r : List Cell) (hm : fE p cv = some r) : PFn Tryz.prog 221 [.u (.one (.d (.sl 3 (List.map Cell.row p)))), .u (.agg [.d (.int .i64 cv.X), .d (.int .i64 cv.Y), .d (.int .i64 cv.S)])] (fun v => v.wk (.u (.one (.d (.sl 3 (List.map Cell.row r)))))) := by
 refine aV Tryz.func221 Tryz.ntmps221 rfl (by kernel_rfl) (by simp) fun cx hn => ?_
 unfold fE at hm
 refine srs hn ?_
 simp -dsimp
 refine srs hn ?_
 simp -dsimp
 refine srs hn ?_
 simp -dsimp
 refine ac ?_
 refine srs hn ?_
 simp -dsimp
 refine ai ?_
 obtain ⟨⟨done, out⟩, g11, hm⟩ := bnd hm
 refine aJ (l_R05_insert_1 cx hn p cv g11) (by
   try dsimp only
   refine EE.step (Wk.own0 5 5000 3 57 (by simp -dsimp) (by decide)) ?_
   exact EE.here (by simp -dsimp)
 ) fun ee ρ σ x12 => ?_
 unfold ia at x12
 dsimp only at x12
 obtain ⟨rfl, x12⟩ := x12
 refine av ?_
 refine a6 ?_
 refine aX (by rfl) (by rfl) x12 fun ρ σ hf => ?_
 simp only [Fits, ar, ap, and_true] at hf
 obtain ⟨out1, j15, hm⟩ := bnd hm
 refine au [(5, .u (.one (.own 5000)))] [(5000, .row 3 57 (List.map Cell.row out1))] (by rfl) (by rfl) ?_ fun ρ σ hf => ?_
 ·replace hm := j15
  clear j15
  refine srs hn ?_
  simp -dsimp [hf]
  rcases aj hm with ⟨c13, hm⟩ | ⟨c13, hm⟩
  ·refine a8 (b := (aD done)) (by simp -dsimp) c13 ?_
   refine sr1 hn ?_
   obtain ⟨l, h14, hm⟩ := bnd hm
   obtain ⟨h14a, h14e⟩ := aN h14
   replace h14e := h14e.symm
   subst h14e
   try simp only [List.length_cons, List.length_nil, Nat.zero_add] at h14a
   simp -dsimp [hf, c13, h14a]
   refine a6 ?_
   cases hm
   refine EE.step (Wk.move 40 5000 (by decide) (.inl (by decide))) ?_
   exact EE.here (by simp -dsimp)
  ·refine a7 (b := (aD done)) (by simp -dsimp) c13 ?_
   refine aa (a6 ?_)
   cases hm
   exact EE.here (by simp -dsimp [hf, c13])
 ·clear j15
  simp only [Fits, ar, ap, and_true] at hf
  refine srs hn ?_
  simp -dsimp [hf]
  refine ab ?_
  cases hm
  refine ⟨.inr rfl, ?_⟩
  exact EE.here (by simp -dsimp [hf])
theorem c_R05_insert (p : List Cell) (cv : Cell) (r : List Cell) (hm : fE p cv = some r) : PureCall Tryz.prog 221 [.u (.one (.d (.sl 3 (List.map Cell.row p)))), .u (.agg [.d (.int .i64 cv.X), .d (.int .i64 cv.Y), .d (.int .i64 cv.S)])] (.u (.one (.d (.sl 3 (List.map Cell.row r))))) := (f_R05_insert p cv r hm).pureW
def eF (cx : Cx) (l : List Cell) (tt : ((List Cell) × Int) ⊕ Unit) (ee : Exit) (ρ : Env) (σ : Sto) : Prop := match tt with
 | .inl r => ee = .ret ∧ EE cx (fun ρ σ => ∃ v, resV tb ρ σ Tryz.f179.results.toList = some v ∧ (v.frz σ).free = true ∧ (v.frz σ).wk (.tup [.one (.d (.sl 3 (List.map Cell.row r.1))), .one (.d (.int .i64 r.2))])) ρ σ
 | .inr _u => ee = .exit 0 ∧ EE cx (aS [(0, .u (.one (.d (.sl 3 (List.map Cell.row l))))), (4, .u (.one (.d .nil)))] []) ρ σ
theorem l_R05_From_1 (cx : Cx) (hn : cx.n = 79) (l : List Cell) {fu : Nat} {stt : Int} {tt : ((List Cell) × Int) ⊕ Unit} (hh : ak (ew l) fu stt = some tt) {ρ : Env} {σ : Sto}
  (hE : aW (fun i : Int => [(0, .u (.one (.d (.sl 3 (List.map Cell.row l))))), (4, .u (.one (.d .nil))), (5, .u (.one (.d (.int .i64 i))))]) (fun _i : Int => []) stt ρ σ) : Swp Tryz.prog cx (.loop (bg [1, 1, 0, 1, 0, 0] (aK Tryz.f179))) ρ σ (eF cx l tt) := by
 refine aY hE hh (eF cx l) ?_
 rintro i r hm ρ σ hf
 simp only [Fits, ar, ap, and_true] at hf
 unfold ew at hm
 dsimp only at hm
 refine ac ?_
 refine srs hn ?_
 simp -dsimp [hf]
 rcases aj hm with ⟨c1, hm⟩ | ⟨c1, hm⟩
 ·refine a8 (b := (ltB i (ah l))) (by simp -dsimp) c1 ?_
  refine aa (a6 (ac (ai (ac ?_))))
  refine bF aL mixed (by rw [hn]; kernel_rfl) ?_
  obtain ⟨x, h2, hm⟩ := bnd hm
  obtain ⟨y, h3, hm⟩ := bnd hm
  simp -dsimp [hf, c1, h2]
  refine al (c_R05_Place x.X x.Y y h3) ?_
  simp -dsimp
  rcases aj hm with ⟨c4, hm⟩ | ⟨c4, hm⟩
  ·refine a8 (b := (aD y)) (by simp -dsimp) c4 ?_
   refine srs hn ?_
   simp -dsimp [c4]
   refine ab (ae (aH (ae ?_)))
   cases hm
   refine am nofun ?_
   unfold eF
   dsimp only
   refine ⟨rfl, ?_⟩
   exact EE.here (by simp -dsimp [Tryz.results179])
  ·refine a7 (b := (aD y)) (by simp -dsimp) c4 ?_
   refine aa (a6 ?_)
   obtain ⟨a, j7, hm⟩ := bnd hm
   refine au [(0, .u (.one (.d (.sl 3 (List.map Cell.row l))))), (4, .u (.one (.d .nil))), (5, .u (.one (.d (.int .i64 i)))), (39, .u (.one (.d (.bool a))))] [] (by rfl) (by rfl) ?_ fun ρ σ hf => ?_
   ·replace hm := j7
    clear j7
    refine sr1 hn ?_
    rcases aj hm with ⟨c5, hm⟩ | ⟨c5, hm⟩
    ·simp -dsimp [hf, h2, c4, c5]
     refine a6 ?_
     cases hm
     exact EE.here (by simp -dsimp [hf])
    ·simp -dsimp [hf, h2, c4, c5]
     refine a6 ?_
     cases hm
     exact EE.here (by simp -dsimp [hf])
   ·clear j7
    simp only [Fits, ar, ap, and_true] at hf
    rcases aj hm with ⟨c6, hm⟩ | ⟨c6, hm⟩
    ·refine a8 (by simp -dsimp [hf]) c6 ?_
     refine srs hn ?_
     simp -dsimp
     refine ab (aH (ae ?_))
     cases hm
     refine am nofun ?_
     unfold eF
     dsimp only
     refine ⟨rfl, ?_⟩
     exact EE.here (by simp -dsimp [Tryz.results179])
    ·refine a7 (by simp -dsimp [hf]) c6 ?_
     refine aa ?_
     refine aM ?_
     refine a6 ?_
     refine sr1 hn ?_
     simp -dsimp [hf]
     cases hm
     refine az ?_
     exact EE.here (by simp -dsimp [hf])
 ·refine a7 (b := (ltB i (ah l))) (by simp -dsimp) c1 ?_
  refine aw ?_
  refine ae ?_
  cases hm
  refine am nofun ?_
  unfold eF
  dsimp only
  refine ⟨rfl, ?_⟩
  exact EE.here (by simp -dsimp [hf, c1])
def jl (cx : Cx) (_l : List Cell) (tt : (List Cell)) (ee : Exit) (ρ : Env) (σ : Sto) : Prop := match tt with
 | p => ee = .exit 2 ∧ EE cx (aS [(4, .u (.one (.d (.sl 3 (List.map Cell.row p)))))] []) ρ σ
theorem l_R05_From_2 (cx : Cx) (hn : cx.n = 79) (l : List Cell) {fu : Nat} {stt : (List Cell) × Int} {tt : (List Cell)} (hh : ak (ey l) fu stt = some tt) {ρ : Env} {σ : Sto}
  (hE : aW (fun stt : (List Cell) × Int => match stt with | (p, i) => [(0, .u (.one (.d (.sl 3 (List.map Cell.row l))))), (4, .u (.one (.d (.sl 3 (List.map Cell.row p))))), (6, .u (.one (.d (.int .i64 i))))]) (fun stt : (List Cell) × Int => match stt with | (_p, _i) => []) stt ρ σ) : Swp Tryz.prog cx (.loop (bg [1, 1, 1, 0, 1, 0, 0] (aK Tryz.f179))) ρ σ (jl cx l tt) := by
 refine aY hE hh (jl cx l) ?_
 rintro ⟨p, i⟩ r hm ρ σ hf
 simp only [Fits, ar, ap, and_true] at hf
 unfold ey at hm
 dsimp only at hm
 refine ac ?_
 refine srs hn ?_
 simp -dsimp [hf]
 rcases aj hm with ⟨c10, hm⟩ | ⟨c10, hm⟩
 ·refine a8 (b := (ltB i (ah l))) (by simp -dsimp) c10 ?_
  refine aa (a6 ?_)
  obtain ⟨p1, j14, hm⟩ := bnd hm
  refine au [(0, .u (.one (.d (.sl 3 (List.map Cell.row l))))), (4, .u (.one (.d (.sl 3 (List.map Cell.row p1))))), (6, .u (.one (.d (.int .i64 i))))] [] (by rfl) (by rfl) ?_ fun ρ σ hf => ?_
  ·replace hm := j14
   clear j14
   refine ai ?_
   refine srs hn ?_
   obtain ⟨x, h11, hm⟩ := bnd hm
   simp -dsimp [hf, c10, h11]
   rcases aj hm with ⟨c12, hm⟩ | ⟨c12, hm⟩
   ·refine a8 (b := (neB x.S 0)) (by simp -dsimp) c12 ?_
    refine sr1 hn ?_
    obtain ⟨y, h13, hm⟩ := bnd hm
    simp -dsimp [hf, h11, c12]
    refine ag (c_R05_insert p x y h13) (dkL hn) ?_
    simp -dsimp
    refine aM ?_
    refine a6 ?_
    cases hm
    exact EE.here (by simp -dsimp [hf])
   ·refine a7 (b := (neB x.S 0)) (by simp -dsimp) c12 ?_
    refine aa ?_
    refine aM ?_
    refine a6 ?_
    cases hm
    exact EE.here (by simp -dsimp [hf, c12])
  ·clear j14
   simp only [Fits, ar, ap, and_true] at hf
   refine sr1 hn ?_
   simp -dsimp [hf]
   cases hm
   refine az ?_
   exact EE.here (by simp -dsimp [hf])
 ·refine a7 (b := (ltB i (ah l))) (by simp -dsimp) c10 ?_
  refine aw ?_
  refine ae ?_
  cases hm
  refine am nofun ?_
  unfold jl
  dsimp only
  refine ⟨rfl, ?_⟩
  exact EE.here (by simp -dsimp [hf, c10])
def fO (cx : Cx) (p : List Cell) (tt : ((List Cell) × Int) ⊕ Unit) (ee : Exit) (ρ : Env) (σ : Sto) : Prop := match tt with
 | .inl r => ee = .ret ∧ EE cx (fun ρ σ => ∃ v, resV tb ρ σ Tryz.f179.results.toList = some v ∧ (v.frz σ).free = true ∧ (v.frz σ).wk (.tup [.one (.d (.sl 3 (List.map Cell.row r.1))), .one (.d (.int .i64 r.2))])) ρ σ
 | .inr _u => ee = .exit 4 ∧ EE cx (aS [(4, .u (.one (.d (.sl 3 (List.map Cell.row p)))))] []) ρ σ
theorem l_R05_From_3 (cx : Cx) (hn : cx.n = 79) (p : List Cell) {fu : Nat} {stt : Int} {tt : ((List Cell) × Int) ⊕ Unit} (hh : ak (ep p) fu stt = some tt) {ρ : Env} {σ : Sto}
  (hE : aW (fun i : Int => [(4, .u (.one (.d (.sl 3 (List.map Cell.row p))))), (7, .u (.one (.d (.int .i64 i))))]) (fun _i : Int => []) stt ρ σ) : Swp Tryz.prog cx (.loop (bg [1, 1, 1, 1, 0, 1, 0, 0] (aK Tryz.f179))) ρ σ (fO cx p tt) := by
 refine aY hE hh (fO cx p) ?_
 rintro i r hm ρ σ hf
 simp only [Fits, ar, ap, and_true] at hf
 unfold ep at hm
 dsimp only at hm
 refine ac ?_
 refine srs hn ?_
 simp -dsimp [hf]
 rcases aj hm with ⟨c17, hm⟩ | ⟨c17, hm⟩
 ·refine a8 (b := (ltB i (ah p))) (by simp -dsimp) c17 ?_
  refine aa (a6 (ac (ai ?_)))
  refine bF aL mixed (by rw [hn]; kernel_rfl) ?_
  obtain ⟨x, h18, hm⟩ := bnd hm
  obtain ⟨x1, h19, hm⟩ := bnd hm
  obtain ⟨y, h20, hm⟩ := bnd hm
  simp -dsimp [hf, c17, h18, h19]
  refine al (ky x x1 y h20) ?_
  simp -dsimp
  rcases aj hm with ⟨c21, hm⟩ | ⟨c21, hm⟩
  ·refine a8 (b := (aD y)) (by simp -dsimp) c21 ?_
   refine srs hn ?_
   simp -dsimp [c21]
   refine ab (aH (ae ?_))
   cases hm
   refine am nofun ?_
   unfold fO
   dsimp only
   refine ⟨rfl, ?_⟩
   exact EE.here (by simp -dsimp [Tryz.results179])
  ·refine a7 (b := (aD y)) (by simp -dsimp) c21 ?_
   refine aa ?_
   refine aM ?_
   refine a6 ?_
   refine sr1 hn ?_
   simp -dsimp [hf, c21]
   cases hm
   refine az ?_
   exact EE.here (by simp -dsimp [hf])
 ·refine a7 (b := (ltB i (ah p))) (by simp -dsimp) c17 ?_
  refine aw ?_
  refine ae ?_
  cases hm
  refine am nofun ?_
  unfold fO
  dsimp only
  refine ⟨rfl, ?_⟩
  exact EE.here (by simp -dsimp [hf, c17])
theorem f_R05_From (l : List Cell) (r : (List Cell) × Int) (hm : iG l = some r) : PFn Tryz.prog 179 [.u (.one (.d (.sl 3 (List.map Cell.row l))))] (fun v => v.wk (.tup [.one (.d (.sl 3 (List.map Cell.row r.1))), .one (.d (.int .i64 r.2))])) := by
 refine aV Tryz.func179 Tryz.ntmps179 rfl (by kernel_rfl) (by simp) fun cx hn => ?_
 unfold iG at hm
 refine srs hn ?_
 simp -dsimp
 refine srs hn ?_
 simp -dsimp
 refine ac ?_
 refine srs hn ?_
 simp -dsimp
 refine ai ?_
 obtain ⟨o_, g8, hm⟩ := bnd hm
 refine aJ (l_R05_From_1 cx hn l g8) (by
   try dsimp only
   exact EE.here (by simp -dsimp)
 ) fun ee ρ σ x9 => ?_
 rcases o_ with r | _u
 ·unfold eF at x9
  dsimp only at x9
  obtain ⟨rfl, x9⟩ := x9
  refine aH (ae ?_)
  cases hm
  exact ⟨.inr rfl, x9⟩
 ·unfold eF at x9
  dsimp only at x9
  obtain ⟨rfl, x9⟩ := x9
  refine av ?_
  refine a6 ?_
  refine aX (by rfl) (by rfl) x9 fun ρ σ hf => ?_
  simp only [Fits, ar, ap, and_true] at hf
  refine ac ?_
  refine srs hn ?_
  simp -dsimp
  refine ai ?_
  obtain ⟨p, g15, hm⟩ := bnd hm
  refine aJ (l_R05_From_2 cx hn l g15) (by
    try dsimp only
    exact EE.here (by simp -dsimp [hf])
  ) fun ee ρ σ x16 => ?_
  unfold jl at x16
  dsimp only at x16
  obtain ⟨rfl, x16⟩ := x16
  refine av ?_
  refine a6 ?_
  refine aX (by rfl) (by rfl) x16 fun ρ σ hf => ?_
  simp only [Fits, ar, ap, and_true] at hf
  refine ac ?_
  refine srs hn ?_
  simp -dsimp
  refine ai ?_
  obtain ⟨o_2, g22, hm⟩ := bnd hm
  refine aJ (l_R05_From_3 cx hn p g22) (by
    try dsimp only
    exact EE.here (by simp -dsimp [hf])
  ) fun ee ρ σ x23 => ?_
  rcases o_2 with r | _u
  ·unfold fO at x23
   dsimp only at x23
   obtain ⟨rfl, x23⟩ := x23
   refine aH (ae ?_)
   cases hm
   exact ⟨.inr rfl, x23⟩
  ·unfold fO at x23
   dsimp only at x23
   obtain ⟨rfl, x23⟩ := x23
   refine av ?_
   refine a6 ?_
   refine aX (by rfl) (by rfl) x23 fun ρ σ hf => ?_
   simp only [Fits, ar, ap, and_true] at hf
   refine ac ?_
   refine srs hn ?_
   simp -dsimp [hf]
   rcases aj hm with ⟨c24, hm⟩ | ⟨c24, hm⟩
   ·refine a8 (b := (gtB (ah p) 5000)) (by simp -dsimp) c24 ?_
    refine srs hn ?_
    simp -dsimp [c24]
    refine ab (ae ?_)
    cases hm
    refine ⟨.inr rfl, ?_⟩
    exact EE.here (by simp -dsimp)
   ·refine a7 (b := (gtB (ah p) 5000)) (by simp -dsimp) c24 ?_
    refine aa (a6 ?_)
    refine srs hn ?_
    simp -dsimp [hf, c24]
    refine ab ?_
    cases hm
    refine ⟨.inr rfl, ?_⟩
    exact EE.here (by simp -dsimp)
theorem c_R05_From (l : List Cell) (r : (List Cell) × Int) (hm : iG l = some r) : PureCall Tryz.prog 179 [.u (.one (.d (.sl 3 (List.map Cell.row l))))] (.tup [.one (.d (.sl 3 (List.map Cell.row r.1))), .one (.d (.int .i64 r.2))]) := (f_R05_From l r hm).pureW
def ju (cx : Cx) (_t : Tree) (_y1 : cellularref20_field) (_y2 : List Point) (tt : (Bool × (List Cell))) (ee : Exit) (ρ : Env) (σ : Sto) : Prop := match tt with
 | (out, l) => ee = .exit 0 ∧ EE cx (aS [(9, .u (.one (.own 5000))), (10, .u (.one (.d (.bool out))))] [(5000, .row 3 57 (List.map Cell.row l))]) ρ σ
theorem l_R20_Step_1 (cx : Cx) (hn : cx.n = 69) (t : Tree) (y1 : cellularref20_field) (y2 : List Point) {fu : Nat} {stt : Bool × Int × (List Cell)} {tt : (Bool × (List Cell))} (hh : ak (dM t y1 y2) fu stt = some tt) {ρ : Env} {σ : Sto}
  (hE : aW (fun stt : Bool × Int × (List Cell) => match stt with | (out, i, _l) => [(2, .u (.one (.box 2 0))), (7, .u (.one (.box 7 0))), (8, .u (.one (.d (.sl 2 (List.map Point.row y2))))), (9, .u (.one (.own 5000))), (10, .u (.one (.d (.bool out)))), (11, .u (.one (.d (.int .i64 i))))]) (fun stt : Bool × Int × (List Cell) => match stt with | (_out, _i, l) => [(2, .box [.d (.int .i64 t.States), .d (.sl 2 (List.map Point.row t.Hood)), .d (.sl 2 (List.map Node.row t.Nodes))]), (7, .box [.d (.bool y1.flat), .d (.int .i64 y1.box.X), .d (.int .i64 y1.box.Y), .d (.int .i64 y1.box.W), .d (.int .i64 y1.box.H), .d (.sl 1 (List.map (rI .i64) y1.cells)), .d (.sl 3 (List.map Cell.row y1.list))]), (5000, .row 3 57 (List.map Cell.row l))]) stt ρ σ) : Swp Tryz.prog cx (.loop (bg [1, 1, 1, 1, 1, 1, 0, 1, 0, 0] (aK Tryz.f124))) ρ σ (ju cx t y1 y2 tt) := by
 refine aY hE hh (ju cx t y1 y2) ?_
 rintro ⟨out, i, l⟩ r hm ρ σ hf
 simp only [Fits, ar, ap, and_true] at hf
 unfold dM at hm
 dsimp only at hm
 refine ac ?_
 refine srs hn ?_
 simp -dsimp [hf]
 rcases aj hm with ⟨c5, hm⟩ | ⟨c5, hm⟩
 ·refine a8 (b := (ltB i (ah y2))) (by simp -dsimp) c5 ?_
  refine aa (a6 ?_)
  obtain ⟨⟨out1, l1⟩, j12, hm⟩ := bnd hm
  refine au [(2, .u (.one (.box 2 0))), (7, .u (.one (.box 7 0))), (8, .u (.one (.d (.sl 2 (List.map Point.row y2))))), (9, .u (.one (.own 5000))), (10, .u (.one (.d (.bool out1)))), (11, .u (.one (.d (.int .i64 i))))] [(2, .box [.d (.int .i64 t.States), .d (.sl 2 (List.map Point.row t.Hood)), .d (.sl 2 (List.map Node.row t.Nodes))]), (7, .box [.d (.bool y1.flat), .d (.int .i64 y1.box.X), .d (.int .i64 y1.box.Y), .d (.int .i64 y1.box.W), .d (.int .i64 y1.box.H), .d (.sl 1 (List.map (rI .i64) y1.cells)), .d (.sl 3 (List.map Cell.row y1.list))]), (5000, .row 3 57 (List.map Cell.row l1))] (by rfl) (by rfl) ?_ fun ρ σ hf => ?_
  ·replace hm := j12
   clear j12
   refine ai ?_
   refine srs hn ?_
   obtain ⟨x, h6, hm⟩ := bnd hm
   simp -dsimp [hf, c5, h6]
   refine srs hn ?_
   obtain ⟨y3, h7, hm⟩ := bnd hm
   simp -dsimp [hf]
   refine ag (c_R20_next t y1 x.X x.Y y3 h7) (dkL hn) ?_
   simp -dsimp
   refine srs hn ?_
   simp -dsimp
   rcases aj hm with ⟨c8, hm⟩ | ⟨c8, hm⟩
   ·refine a8 (b := (neB y3 0)) (by simp -dsimp) c8 ?_
    refine srs hn ?_
    obtain ⟨l1, h9, hm⟩ := bnd hm
    obtain ⟨h9a, h9e⟩ := aN h9
    replace h9e := h9e.symm
    subst h9e
    try simp only [List.length_cons, List.length_nil, Nat.zero_add] at h9a
    simp -dsimp [hf, c8, h9a]
    refine sr1 hn ?_
    rcases aj hm with ⟨c10, hm⟩ | ⟨c10, hm⟩
    ·simp -dsimp [hf, c10]
     refine aM ?_
     refine a6 ?_
     cases hm
     refine EE.step (Wk.move 51 5000 (by decide) (.inl (by decide))) ?_
     exact EE.here (by simp -dsimp [hf])
    ·obtain ⟨y4, h11, hm⟩ := bnd hm
     simp -dsimp [hf, c10]
     refine ag (c_R20_valid x.X x.Y y4 h11) (dkL hn) ?_
     simp -dsimp
     refine aM ?_
     refine a6 ?_
     cases hm
     refine EE.step (Wk.move 51 5000 (by decide) (.inl (by decide))) ?_
     exact EE.here (by simp -dsimp [hf])
   ·refine a7 (b := (neB y3 0)) (by simp -dsimp) c8 ?_
    refine aa ?_
    refine aM ?_
    refine a6 ?_
    cases hm
    exact EE.here (by simp -dsimp [hf, c8])
  ·clear j12
   simp only [Fits, ar, ap, and_true] at hf
   refine sr1 hn ?_
   simp -dsimp [hf]
   cases hm
   refine az ?_
   exact EE.here (by simp -dsimp [hf])
 ·refine a7 (b := (ltB i (ah y2))) (by simp -dsimp) c5 ?_
  refine aw ?_
  refine ae ?_
  cases hm
  refine am nofun ?_
  unfold ju
  dsimp only
  refine ⟨rfl, ?_⟩
  exact EE.here (by simp -dsimp [hf, c5])
theorem f_R20_Step (t : Tree) (p : List Cell) (r : (List Cell) × Int) (hm : dS t p = some r) : PFn Tryz.prog 124 [.u (.agg [.d (.int .i64 t.States), .d (.sl 2 (List.map Point.row t.Hood)), .d (.sl 2 (List.map Node.row t.Nodes))]), .u (.one (.d (.sl 3 (List.map Cell.row p))))] (fun v => v.wk (.tup [.one (.d (.sl 3 (List.map Cell.row r.1))), .one (.d (.int .i64 r.2))])) := by
 refine aV Tryz.func124 Tryz.ntmps124 rfl (by kernel_rfl) (by simp) fun cx hn => ?_
 unfold dS at hm
 refine srs hn ?_
 simp -dsimp
 refine ac ?_
 refine srs hn ?_
 obtain ⟨y, h1, hm⟩ := bnd hm
 simp -dsimp
 refine ag (c_R20_Fits t p y h1) (dkL hn) ?_
 simp -dsimp
 refine srs hn ?_
 simp -dsimp
 rcases aj hm with ⟨c2, hm⟩ | ⟨c2, hm⟩
 ·refine a8 (b := (neB y 0)) (by simp -dsimp) c2 ?_
  refine srs hn ?_
  simp -dsimp [c2]
  refine ab (ae ?_)
  cases hm
  refine ⟨.inr rfl, ?_⟩
  exact EE.here (by simp -dsimp)
 ·refine a7 (b := (neB y 0)) (by simp -dsimp) c2 ?_
  refine aa (a6 ?_)
  refine srs hn ?_
  obtain ⟨y1, h3, hm⟩ := bnd hm
  simp -dsimp [c2]
  refine ag (c_R20_states p y1 h3) (dkL hn) ?_
  simp -dsimp
  refine srs hn ?_
  obtain ⟨y2, h4, hm⟩ := bnd hm
  simp -dsimp
  refine ag (c_R20_field_near y1 y2 h4) (dkL hn) ?_
  simp -dsimp
  refine srs hn ?_
  simp -dsimp
  refine srs hn ?_
  simp -dsimp
  refine ac ?_
  refine srs hn ?_
  simp -dsimp
  refine ai ?_
  obtain ⟨⟨out, l⟩, g13, hm⟩ := bnd hm
  refine aJ (l_R20_Step_1 cx hn t y1 y2 g13) (by
    try dsimp only
    refine EE.step (Wk.own0 9 5000 3 57 (by simp -dsimp) (by decide)) ?_
    exact EE.here (by simp -dsimp)
  ) fun ee ρ σ x14 => ?_
  unfold ju at x14
  dsimp only at x14
  obtain ⟨rfl, x14⟩ := x14
  refine av ?_
  refine a6 ?_
  refine aX (by rfl) (by rfl) x14 fun ρ σ hf => ?_
  simp only [Fits, ar, ap, and_true] at hf
  refine ac ?_
  refine srs hn ?_
  simp -dsimp [hf]
  rcases aj hm with ⟨c15, hm⟩ | ⟨c15, hm⟩
  ·refine a8 (b := out) (by simp -dsimp) c15 ?_
   refine srs hn ?_
   simp -dsimp [c15]
   refine ab (ae ?_)
   cases hm
   refine ⟨.inr rfl, ?_⟩
   exact EE.here (by simp -dsimp)
  ·refine a7 (b := out) (by simp -dsimp) c15 ?_
   refine aa (a6 (ac ?_))
   refine srs hn ?_
   simp -dsimp [hf, c15]
   rcases aj hm with ⟨c16, hm⟩ | ⟨c16, hm⟩
   ·refine a8 (b := (gtB (ah l) 5000)) (by simp -dsimp) c16 ?_
    refine srs hn ?_
    simp -dsimp [c16]
    refine ab (ae ?_)
    cases hm
    refine ⟨.inr rfl, ?_⟩
    exact EE.here (by simp -dsimp)
   ·refine a7 (b := (gtB (ah l) 5000)) (by simp -dsimp) c16 ?_
    refine aa (a6 ?_)
    refine Swp.pre (Wk.frz 5000 3 57 (List.map Cell.row l) (by simp -dsimp [hf])) ?_
    refine srs hn ?_
    obtain ⟨y3, h17, hm⟩ := bnd hm
    simp -dsimp [hf, c16]
    refine ag (c_R05_From l y3 h17) (dkL hn) ?_
    simp -dsimp
    refine ab ?_
    cases hm
    refine ⟨.inr rfl, ?_⟩
    exact EE.here (by simp -dsimp)
theorem c_R20_Step (t : Tree) (p : List Cell) (r : (List Cell) × Int) (hm : dS t p = some r) : PureCall Tryz.prog 124 [.u (.agg [.d (.int .i64 t.States), .d (.sl 2 (List.map Point.row t.Hood)), .d (.sl 2 (List.map Node.row t.Nodes))]), .u (.one (.d (.sl 3 (List.map Cell.row p))))] (.tup [.one (.d (.sl 3 (List.map Cell.row r.1))), .one (.d (.int .i64 r.2))]) := (f_R20_Step t p r hm).pureW
def dz (cx : Cx) (_t : Tree) (_n : Int) (tt : ((List (List Cell)) × Int) ⊕ (List (List Cell))) (ee : Exit) (ρ : Env) (σ : Sto) : Prop := match tt with
 | .inl r => ee = .ret ∧ EE cx (fun ρ σ => ∃ v, resV tb ρ σ Tryz.f120.results.toList = some v ∧ (v.frz σ).free = true ∧ (v.frz σ).wk (.tup [.one (.d (.sl 1 (List.map (rS 3 Cell.row) r.1))), .one (.d (.int .i64 r.2))])) ρ σ
 | .inr out => ee = .exit 0 ∧ EE cx (aS [(9, .u (.one (.own 5000)))] [(5000, .row 1 27 (List.map (rS 3 Cell.row) out))]) ρ σ
theorem l_R20_History_1 (cx : Cx) (hn : cx.n = 49) (t : Tree) (n : Int) {fu : Nat} {stt : Int × (List (List Cell))} {tt : ((List (List Cell)) × Int) ⊕ (List (List Cell))} (hh : ak (cO t n) fu stt = some tt) {ρ : Env} {σ : Sto}
  (hE : aW (fun stt : Int × (List (List Cell)) => match stt with | (i, _out) => [(2, .u (.one (.d (.int .i64 n)))), (3, .u (.one (.box 3 0))), (9, .u (.one (.own 5000))), (10, .u (.one (.d (.int .i64 i))))]) (fun stt : Int × (List (List Cell)) => match stt with | (_i, out) => [(3, .box [.d (.int .i64 t.States), .d (.sl 2 (List.map Point.row t.Hood)), .d (.sl 2 (List.map Node.row t.Nodes))]), (5000, .row 1 27 (List.map (rS 3 Cell.row) out))]) stt ρ σ) : Swp Tryz.prog cx (.loop (bg [1, 1, 1, 1, 0, 1, 0, 0] (aK Tryz.f120))) ρ σ (dz cx t n tt) := by
 refine aY hE hh (dz cx t n) ?_
 rintro ⟨i, out⟩ r hm ρ σ hf
 simp only [Fits, ar, ap, and_true] at hf
 unfold cO at hm
 dsimp only at hm
 refine ac ?_
 refine srs hn ?_
 simp -dsimp [hf]
 rcases aj hm with ⟨c5, hm⟩ | ⟨c5, hm⟩
 ·refine a8 (b := (ltB i n)) (by simp -dsimp) c5 ?_
  refine aa (a6 (ac (ai ?_)))
  refine bF aL mixed (by rw [hn]; kernel_rfl) ?_
  obtain ⟨x, h6, hm⟩ := bnd hm
  obtain ⟨y1, h7, hm⟩ := bnd hm
  simp -dsimp [hf, c5, h6, bX h6]
  refine al (c_R20_Step t x y1 h7) ?_
  simp -dsimp
  refine ac ?_
  refine srs hn ?_
  simp -dsimp
  rcases aj hm with ⟨c8, hm⟩ | ⟨c8, hm⟩
  ·refine a8 (b := (neB y1.2 0)) (by simp -dsimp) c8 ?_
   refine srs hn ?_
   simp -dsimp [c8]
   refine ab (ae (aH (ae ?_)))
   cases hm
   refine am nofun ?_
   unfold dz
   dsimp only
   refine ⟨rfl, ?_⟩
   exact EE.here (by simp -dsimp [Tryz.results120])
  ·refine a7 (b := (neB y1.2 0)) (by simp -dsimp) c8 ?_
   refine aa (a6 ?_)
   refine sr1 hn ?_
   obtain ⟨l, h9, hm⟩ := bnd hm
   obtain ⟨h9a, h9e⟩ := aN h9
   replace h9e := h9e.symm
   subst h9e
   try simp only [List.length_cons, List.length_nil, Nat.zero_add] at h9a
   simp -dsimp [hf, c8, h9a]
   refine aM ?_
   refine a6 ?_
   refine sr1 hn ?_
   simp -dsimp [hf]
   cases hm
   refine az ?_
   refine EE.step (Wk.move 47 5000 (by decide) (.inl (by decide))) ?_
   exact EE.here (by simp -dsimp [hf])
 ·refine a7 (b := (ltB i n)) (by simp -dsimp) c5 ?_
  refine aw ?_
  refine ae ?_
  cases hm
  refine am nofun ?_
  unfold dz
  dsimp only
  refine ⟨rfl, ?_⟩
  exact EE.here (by simp -dsimp [hf, c5])
theorem f_R20_History (t : Tree) (p : List Cell) (n : Int) (r : (List (List Cell)) × Int) (hm : eR t p n = some r) : PFn Tryz.prog 120 [.u (.agg [.d (.int .i64 t.States), .d (.sl 2 (List.map Point.row t.Hood)), .d (.sl 2 (List.map Node.row t.Nodes))]), .u (.one (.d (.sl 3 (List.map Cell.row p)))), .u (.one (.d (.int .i64 n)))] (fun v => v.wk (.tup [.one (.d (.sl 1 (List.map (rS 3 Cell.row) r.1))), .one (.d (.int .i64 r.2))])) := by
 refine aV Tryz.func120 Tryz.ntmps120 rfl (by kernel_rfl) (by simp) fun cx hn => ?_
 unfold eR at hm
 refine srs hn ?_
 simp -dsimp
 refine ac ?_
 refine srs hn ?_
 obtain ⟨y, h1, hm⟩ := bnd hm
 simp -dsimp
 refine ag (c_R20_Fits t p y h1) (dkL hn) ?_
 simp -dsimp
 refine srs hn ?_
 simp -dsimp
 rcases aj hm with ⟨c2, hm⟩ | ⟨c2, hm⟩
 ·refine a8 (b := (neB y 0)) (by simp -dsimp) c2 ?_
  refine srs hn ?_
  simp -dsimp [c2]
  refine ab (ae ?_)
  cases hm
  refine ⟨.inr rfl, ?_⟩
  exact EE.here (by simp -dsimp)
 ·refine a7 (b := (neB y 0)) (by simp -dsimp) c2 ?_
  refine aa (a6 (ac ?_))
  obtain ⟨a, j12, hm⟩ := bnd hm
  refine au [(1, .u (.one (.d (.sl 3 (List.map Cell.row p))))), (2, .u (.one (.d (.int .i64 n)))), (3, .u (.one (.box 3 0))), (24, .u (.one (.d (.bool a))))] [(3, .box [.d (.int .i64 t.States), .d (.sl 2 (List.map Point.row t.Hood)), .d (.sl 2 (List.map Node.row t.Nodes))])] (by rfl) (by rfl) ?_ fun ρ σ hf => ?_
  ·replace hm := j12
   clear j12
   refine sr1 hn ?_
   rcases aj hm with ⟨c3, hm⟩ | ⟨c3, hm⟩
   ·simp -dsimp [c2, c3]
    refine a6 ?_
    cases hm
    exact EE.here (by simp -dsimp)
   ·simp -dsimp [c2, c3]
    refine a6 ?_
    cases hm
    exact EE.here (by simp -dsimp)
  ·clear j12
   simp only [Fits, ar, ap, and_true] at hf
   rcases aj hm with ⟨c4, hm⟩ | ⟨c4, hm⟩
   ·refine a8 (by simp -dsimp [hf]) c4 ?_
    refine srs hn ?_
    simp -dsimp
    refine ab (ae ?_)
    cases hm
    refine ⟨.inr rfl, ?_⟩
    exact EE.here (by simp -dsimp)
   ·refine a7 (by simp -dsimp [hf]) c4 ?_
    refine aa (a6 ?_)
    refine sw_regBs aL 1 (by rw [hn]; kernel_rfl) ?_
    dsimp only [List.take, List.drop]
    simp -dsimp [hf]
    refine ac ?_
    refine srs hn ?_
    simp -dsimp
    refine ai ?_
    obtain ⟨o_, g10, hm⟩ := bnd hm
    refine aJ (l_R20_History_1 cx hn t n g10) (by
      try dsimp only
      refine EE.step (Wk.move 26 5000 (by decide) (.inl (by decide))) ?_
      exact EE.here (by simp -dsimp [hf])
    ) fun ee ρ σ x11 => ?_
    rcases o_ with r | out
    ·unfold dz at x11
     dsimp only at x11
     obtain ⟨rfl, x11⟩ := x11
     refine aH (ae ?_)
     cases hm
     exact ⟨.inr rfl, x11⟩
    ·unfold dz at x11
     dsimp only at x11
     obtain ⟨rfl, x11⟩ := x11
     refine av ?_
     refine a6 ?_
     refine aX (by rfl) (by rfl) x11 fun ρ σ hf => ?_
     simp only [Fits, ar, ap, and_true] at hf
     refine srs hn ?_
     simp -dsimp [hf]
     refine ab ?_
     cases hm
     refine ⟨.inr rfl, ?_⟩
     exact EE.here (by simp -dsimp [hf])
theorem c_R20_History (t : Tree) (p : List Cell) (n : Int) (r : (List (List Cell)) × Int) (hm : eR t p n = some r) : PureCall Tryz.prog 120 [.u (.agg [.d (.int .i64 t.States), .d (.sl 2 (List.map Point.row t.Hood)), .d (.sl 2 (List.map Node.row t.Nodes))]), .u (.one (.d (.sl 3 (List.map Cell.row p)))), .u (.one (.d (.int .i64 n)))] (.tup [.one (.d (.sl 1 (List.map (rS 3 Cell.row) r.1))), .one (.d (.int .i64 r.2))]) := (f_R20_History t p n r hm).pureW
theorem f_R20_Run (t : Tree) (p : List Cell) (n : Int) (r : (List Cell) × Int) (hm : fD t p n = some r) : PFn Tryz.prog 58 [.u (.agg [.d (.int .i64 t.States), .d (.sl 2 (List.map Point.row t.Hood)), .d (.sl 2 (List.map Node.row t.Nodes))]), .u (.one (.d (.sl 3 (List.map Cell.row p)))), .u (.one (.d (.int .i64 n)))] (fun v => v.wk (.tup [.one (.d (.sl 3 (List.map Cell.row r.1))), .one (.d (.int .i64 r.2))])) := by
 refine aV Tryz.func58 Tryz.ntmps58 rfl (by kernel_rfl) (by simp) fun cx hn => ?_
 unfold fD at hm
 refine srs hn ?_
 simp -dsimp
 refine srs hn ?_
 obtain ⟨y, h1, hm⟩ := bnd hm
 simp -dsimp
 refine ag (c_R20_History t p n y h1) (dkL hn) ?_
 simp -dsimp
 refine ac ?_
 refine srs hn ?_
 simp -dsimp
 rcases aj hm with ⟨c2, hm⟩ | ⟨c2, hm⟩
 ·refine a8 (b := (neB y.2 0)) (by simp -dsimp) c2 ?_
  refine srs hn ?_
  simp -dsimp [c2]
  refine ab (ae ?_)
  cases hm
  refine ⟨.inr rfl, ?_⟩
  exact EE.here (by simp -dsimp)
 ·refine a7 (b := (neB y.2 0)) (by simp -dsimp) c2 ?_
  refine aa (a6 ?_)
  refine srs hn ?_
  obtain ⟨x, h3, hm⟩ := bnd hm
  simp -dsimp [c2, h3]
  refine ab ?_
  cases hm
  refine ⟨.inr rfl, ?_⟩
  exact EE.here (by simp -dsimp)
theorem c_R20_Run (t : Tree) (p : List Cell) (n : Int) (r : (List Cell) × Int) (hm : fD t p n = some r) : PureCall Tryz.prog 58 [.u (.agg [.d (.int .i64 t.States), .d (.sl 2 (List.map Point.row t.Hood)), .d (.sl 2 (List.map Node.row t.Nodes))]), .u (.one (.d (.sl 3 (List.map Cell.row p)))), .u (.one (.d (.int .i64 n)))] (.tup [.one (.d (.sl 3 (List.map Cell.row r.1))), .one (.d (.int .i64 r.2))]) := (f_R20_Run t p n r hm).pureW
def jv (cx : Cx) (_p : List Cell) (tt : (List Cell)) (ee : Exit) (ρ : Env) (σ : Sto) : Prop := match tt with
 | out => ee = .exit 0 ∧ EE cx (aS [(3, .u (.one (.own 5000)))] [(5000, .row 3 57 (List.map Cell.row out))]) ρ σ
theorem l_R34_home_1 (cx : Cx) (hn : cx.n = 41) (p : List Cell) {fu : Nat} {stt : Int × (List Cell)} {tt : (List Cell)} (hh : ak (fJ p) fu stt = some tt) {ρ : Env} {σ : Sto}
  (hE : aW (fun stt : Int × (List Cell) => match stt with | (i, _out) => [(0, .u (.one (.d (.sl 3 (List.map Cell.row p))))), (3, .u (.one (.own 5000))), (4, .u (.one (.d (.int .i64 i))))]) (fun stt : Int × (List Cell) => match stt with | (_i, out) => [(5000, .row 3 57 (List.map Cell.row out))]) stt ρ σ) : Swp Tryz.prog cx (.loop (bg [1, 1, 0, 1, 0, 0] (aK Tryz.f125))) ρ σ (jv cx p tt) := by
 refine aY hE hh (jv cx p) ?_
 rintro ⟨i, out⟩ r hm ρ σ hf
 simp only [Fits, ar, ap, and_true] at hf
 unfold fJ at hm
 dsimp only at hm
 refine ac ?_
 refine srs hn ?_
 simp -dsimp [hf]
 rcases aj hm with ⟨c1, hm⟩ | ⟨c1, hm⟩
 ·refine a8 (b := (ltB i (ah p))) (by simp -dsimp) c1 ?_
  refine aa (a6 (ac (ai ?_)))
  refine sw_drN aL mixed 28 (by rw [hn]; kernel_rfl) ?_
  dsimp only [List.take, List.drop]
  obtain ⟨x, h2, hm⟩ := bnd hm
  obtain ⟨x1, h3, hm⟩ := bnd hm
  obtain ⟨l, h4, hm⟩ := bnd hm
  obtain ⟨h4a, h4e⟩ := aN h4
  replace h4e := h4e.symm
  subst h4e
  try simp only [List.length_cons, List.length_nil, Nat.zero_add] at h4a
  simp -dsimp [hf, c1, h2, h3, h4a]
  refine aM ?_
  refine a6 ?_
  refine sr1 hn ?_
  simp -dsimp [hf]
  cases hm
  refine az ?_
  refine EE.step (Wk.move 39 5000 (by decide) (.inl (by decide))) ?_
  exact EE.here (by simp -dsimp [hf])
 ·refine a7 (b := (ltB i (ah p))) (by simp -dsimp) c1 ?_
  refine aw ?_
  refine ae ?_
  cases hm
  refine am nofun ?_
  unfold jv
  dsimp only
  refine ⟨rfl, ?_⟩
  exact EE.here (by simp -dsimp [hf, c1])
set_option maxRecDepth 20000 in
theorem f_R34_home (p : List Cell) (r : List Cell) (hm : fc p = some r) : PFn Tryz.prog 125 [.u (.one (.d (.sl 3 (List.map Cell.row p))))] (fun v => v.wk (.u (.one (.d (.sl 3 (List.map Cell.row r)))))) := by
 refine aV Tryz.func125 Tryz.ntmps125 rfl (by kernel_rfl) (by simp) fun cx hn => ?_
 unfold fc at hm
 refine srs hn ?_
 simp -dsimp
 refine srs hn ?_
 simp -dsimp
 refine ac ?_
 refine srs hn ?_
 simp -dsimp
 refine ai ?_
 obtain ⟨out, g5, hm⟩ := bnd hm
 refine aJ (l_R34_home_1 cx hn p g5) (by
   try dsimp only
   refine EE.step (Wk.own0 3 5000 3 57 (by simp -dsimp) (by decide)) ?_
   exact EE.here (by simp -dsimp)
 ) fun ee ρ σ x6 => ?_
 unfold jv at x6
 dsimp only at x6
 obtain ⟨rfl, x6⟩ := x6
 refine av ?_
 refine a6 ?_
 refine aX (by rfl) (by rfl) x6 fun ρ σ hf => ?_
 simp only [Fits, ar, ap, and_true] at hf
 refine srs hn ?_
 simp -dsimp [hf]
 refine ab ?_
 cases hm
 refine ⟨.inr rfl, ?_⟩
 exact EE.here (by simp -dsimp [hf])
theorem c_R34_home (p : List Cell) (r : List Cell) (hm : fc p = some r) : PureCall Tryz.prog 125 [.u (.one (.d (.sl 3 (List.map Cell.row p))))] (.u (.one (.d (.sl 3 (List.map Cell.row r))))) := (f_R34_home p r hm).pureW
end Go.Proofs.YtfpjnmhdbgbmmaaGreatDoor
