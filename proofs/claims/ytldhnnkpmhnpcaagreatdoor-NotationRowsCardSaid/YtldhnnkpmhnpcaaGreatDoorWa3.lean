/- That the code does what the functions say (made by cc.py). -/
import Derived.Test.YtldhnnkpmhnpcaaGreatDoorWa2
namespace Go.Proofs.YtldhnnkpmhnpcaaGreatDoor
open Go.AM Go.Proofs
attribute [-simp] qlookup bv cb Ob.wipe Ob.ren Ob.frz1 cd
def bH (cx : Cx) (_states : Int) (_y : Int) (tt : (Int × (List Int))) (ee : Exit) (ρ : Env) (σ : Sto) : Prop := match tt with
 | (n1, l) => ee = .exit 0 ∧ EE cx (aK [(1, .u (.one (.d (.int .i64 n1)))), (6, .u (.one (.own 5000)))] [(5000, .row 1 3 (List.map (rI .i64) l))]) ρ σ
set_option maxRecDepth 100000 in
theorem l_wolfram_Digits_1 (cx : Cx) (hn : cx.n = 32) (states : Int) (y : Int) {fu : Nat} {stt : Int × Int × (List Int)} {tt : (Int × (List Int))} (hh : ah (b_wolfram_Digits_1 states y) fu stt = some tt) {ρ : Env} {σ : Sto}
  (hE : aT (fun stt : Int × Int × (List Int) => match stt with | (n1, a1, _l) => [(0, .u (.one (.d (.int .i64 states)))), (1, .u (.one (.d (.int .i64 n1)))), (6, .u (.one (.own 5000))), (16, .u (.one (.d (.int .i64 y)))), (17, .u (.one (.d (.int .i64 a1))))]) (fun stt : Int × Int × (List Int) => match stt with | (_n1, _a1, l) => [(5000, .row 1 3 (List.map (rI .i64) l))]) stt ρ σ) : Swp Tryz.prog cx (.loop (bi [1, 1, 1, 1, 0, 1, 0, 0] (aG Tryz.f76))) ρ σ (bH cx states y tt) := by
 refine b3 hE hh (bH cx states y) ?_
 rintro ⟨n1, a1, l⟩ r hm ρ σ hf
 simp only [Fits, ar, ap, and_true] at hf
 unfold b_wolfram_Digits_1 at hm
 dsimp only at hm
 refine srs hn ?_
 simp -dsimp [hf]
 refine ae ?_
 rcases aj hm with ⟨c5, hm⟩ | ⟨c5, hm⟩
 ·refine a8 (by simp -dsimp) c5 ?_
  refine ac (a6 (ae (ai ?_)))
  refine srs hn ?_
  obtain ⟨n2, h6, hm⟩ := bnd hm
  obtain ⟨l1, h7, hm⟩ := bnd hm
  obtain ⟨h7a, h7e⟩ := aB h7
  replace h7e := h7e.symm
  subst h7e
  try simp only [List.length_cons, List.length_nil, Nat.zero_add] at h7a
  simp -dsimp [hf, c5, h6, h7a]
  refine sr1 hn ?_
  obtain ⟨n3, h8, hm⟩ := bnd hm
  simp -dsimp [hf, h8]
  refine aC ?_
  refine a6 ?_
  refine sr1 hn ?_
  simp -dsimp [hf]
  cases hm
  refine ax ?_
  refine EE.step (Wk.move 24 5000 (by decide) (.inl (by decide))) ?_
  exact EE.here (by simp -dsimp [hf])
 ·refine a7 (by simp -dsimp) c5 ?_
  refine au ?_
  refine ag ?_
  cases hm
  refine aw nofun ?_
  unfold bH
  dsimp only
  refine ⟨rfl, ?_⟩
  exact EE.here (by simp -dsimp [hf, c5])
set_option maxRecDepth 100000 in
theorem f_wolfram_Digits (states : Int) (n : Int) (r : (List Int) × Int) (hm : m_wolfram_Digits states n = some r) : PFn Tryz.prog 76 [.u (.one (.d (.int .i64 states))), .u (.one (.d (.int .i64 n)))] (fun v => v.wk (.tup [.one (.d (.sl 1 (List.map (rI .i64) r.1))), .one (.d (.int .i64 r.2))])) := by
 refine aH Tryz.func76 Tryz.ntmps76 rfl (by kernel_rfl) (by simp) fun cx hn => ?_
 unfold m_wolfram_Digits at hm
 refine srs hn ?_
 simp -dsimp
 refine ae ?_
 obtain ⟨a, j12, hm⟩ := bnd hm
 refine am [(0, .u (.one (.d (.int .i64 states)))), (1, .u (.one (.d (.int .i64 n)))), (12, .u (.one (.d (.bool a))))] [] (by rfl) (by rfl) ?_ fun ρ σ hf => ?_
 ·replace hm := j12
  clear j12
  refine sr1 hn ?_
  rcases aj hm with ⟨c1, hm⟩ | ⟨c1, hm⟩
  ·simp -dsimp [c1]
   refine a6 ?_
   cases hm
   exact EE.here (by simp -dsimp)
  ·simp -dsimp [c1]
   refine a6 ?_
   cases hm
   exact EE.here (by simp -dsimp)
 ·clear j12
  simp only [Fits, ar, ap, and_true] at hf
  rcases aj hm with ⟨c2, hm⟩ | ⟨c2, hm⟩
  ·refine a8 (by simp -dsimp [hf]) c2 ?_
   refine srs hn ?_
   simp -dsimp
   refine ab (ag ?_)
   cases hm
   refine ⟨.inr rfl, ?_⟩
   exact EE.here (by simp -dsimp)
  ·refine a7 (by simp -dsimp [hf]) c2 ?_
   refine ac (a6 (ae ?_))
   refine srs hn ?_
   simp -dsimp [hf]
   rcases aj hm with ⟨c3, hm⟩ | ⟨c3, hm⟩
   ·refine a8 (by simp -dsimp) c3 ?_
    refine srs hn ?_
    simp -dsimp [c3]
    refine ab (ag ?_)
    cases hm
    refine ⟨.inr rfl, ?_⟩
    exact EE.here (by simp -dsimp)
   ·refine a7 (by simp -dsimp) c3 ?_
    refine ac (a6 ?_)
    refine srs hn ?_
    simp -dsimp [c3]
    refine ae ?_
    refine srs hn ?_
    obtain ⟨y, h4, hm⟩ := bnd hm
    simp -dsimp [hf]
    refine aa (c_wolfram_sums states y h4) (dkL hn) ?_
    simp -dsimp
    refine ai ?_
    obtain ⟨⟨n1, l⟩, g9, hm⟩ := bnd hm
    refine aF (l_wolfram_Digits_1 cx hn states y g9) (by
      try dsimp only
      refine EE.step (Wk.own0 6 5000 1 3 (by simp -dsimp) (by decide)) ?_
      exact EE.here (by simp -dsimp [hf])
    ) fun ee ρ σ x10 => ?_
    unfold bH at x10
    dsimp only at x10
    obtain ⟨rfl, x10⟩ := x10
    refine av ?_
    refine a6 ?_
    refine aV (by rfl) (by rfl) x10 fun ρ σ hf => ?_
    simp only [Fits, ar, ap, and_true] at hf
    refine ae ?_
    refine srs hn ?_
    simp -dsimp [hf]
    rcases aj hm with ⟨c11, hm⟩ | ⟨c11, hm⟩
    ·refine a8 (by simp -dsimp) c11 ?_
     refine srs hn ?_
     simp -dsimp [c11]
     refine ab (ag ?_)
     cases hm
     refine ⟨.inr rfl, ?_⟩
     exact EE.here (by simp -dsimp)
    ·refine a7 (by simp -dsimp) c11 ?_
     refine ac (a6 ?_)
     refine srs hn ?_
     simp -dsimp [hf, c11]
     refine ab ?_
     cases hm
     refine ⟨.inr rfl, ?_⟩
     exact EE.here (by simp -dsimp [hf])
theorem dX (states : Int) (n : Int) (r : (List Int) × Int) (hm : m_wolfram_Digits states n = some r) : PureCall Tryz.prog 76 [.u (.one (.d (.int .i64 states))), .u (.one (.d (.int .i64 n)))] (.tup [.one (.d (.sl 1 (List.map (rI .i64) r.1))), .one (.d (.int .i64 r.2))]) := (f_wolfram_Digits states n r hm).pureW
set_option maxRecDepth 100000 in
theorem f_wolfram_Parse (s : List UInt8) (r : Int × Int × Bool × Int) (hm : m_wolfram_Parse s = some r) : PFn Tryz.prog 27 [.u (.one (.d (.str (bs s))))] (fun v => v.wk (.tup [.one (.d (.int .i64 r.1)), .one (.d (.int .i64 r.2.1)), .one (.d (.bool r.2.2.1)), .one (.d (.int .i64 r.2.2.2))])) := by
 refine aH Tryz.func27 Tryz.ntmps27 rfl (by kernel_rfl) (by simp) fun cx hn => ?_
 unfold m_wolfram_Parse at hm
 refine srs hn ?_
 simp -dsimp
 refine ae ?_
 refine srs hn ?_
 obtain ⟨y, h1, hm⟩ := bnd hm
 simp -dsimp
 refine aa (bb s ([87] : List UInt8) y h1) (dkL hn) ?_
 simp -dsimp
 refine srs hn ?_
 simp -dsimp
 rcases aj hm with ⟨c2, hm⟩ | ⟨c2, hm⟩
 ·refine a8 (by simp -dsimp) c2 ?_
  refine srs hn ?_
  obtain ⟨y1, h3, hm⟩ := bnd hm
  simp -dsimp [c2]
  refine aa (cT y.1 y1 h3) (dkL hn) ?_
  simp -dsimp
  refine ae (ai ?_)
  refine srs hn ?_
  simp -dsimp
  rcases aj hm with ⟨c4, hm⟩ | ⟨c4, hm⟩
  ·refine a8 (by simp -dsimp) c4 ?_
   refine srs hn ?_
   simp -dsimp [c4]
   refine ab (aL (ag (ag ?_)))
   cases hm
   refine ⟨.inr rfl, ?_⟩
   exact EE.here (by simp -dsimp)
  ·refine a7 (by simp -dsimp) c4 ?_
   obtain ⟨a, j7, hm⟩ := bnd hm
   refine am [(8, .u (.one (.d (.int .i64 y1.1)))), (39, .u (.one (.d (.bool a))))] [] (by rfl) (by rfl) ?_ fun ρ σ hf => ?_
   ·replace hm := j7
    clear j7
    refine sr1 hn ?_
    rcases aj hm with ⟨c5, hm⟩ | ⟨c5, hm⟩
    ·simp -dsimp [c4, c5]
     refine a6 ?_
     cases hm
     exact EE.here (by simp -dsimp)
    ·simp -dsimp [c4, c5]
     refine a6 ?_
     cases hm
     exact EE.here (by simp -dsimp)
   ·clear j7
    simp only [Fits, ar, ap, and_true] at hf
    rcases aj hm with ⟨c6, hm⟩ | ⟨c6, hm⟩
    ·refine a8 (by simp -dsimp [hf]) c6 ?_
     refine srs hn ?_
     simp -dsimp
     refine ab (aL (ag (ag ?_)))
     cases hm
     refine ⟨.inr rfl, ?_⟩
     exact EE.here (by simp -dsimp)
    ·refine a7 (by simp -dsimp [hf]) c6 ?_
     refine ac ?_
     refine aC ?_
     refine a6 ?_
     refine srs hn ?_
     simp -dsimp [hf]
     refine ab (ag ?_)
     cases hm
     refine ⟨.inr rfl, ?_⟩
     exact EE.here (by simp -dsimp)
 ·refine a7 (by simp -dsimp) c2 ?_
  refine ac (a6 ?_)
  refine srs hn ?_
  obtain ⟨y1, h8, hm⟩ := bnd hm
  simp -dsimp [c2]
  refine aa (bb s ([84] : List UInt8) y1 h8) (dkL hn) ?_
  simp -dsimp
  refine srs hn ?_
  obtain ⟨y2, h9, hm⟩ := bnd hm
  simp -dsimp
  refine aa (c_strings_Cut y1.1 ([47] : List UInt8) y2 h9) (dkL hn) ?_
  simp -dsimp
  refine srs hn ?_
  obtain ⟨y3, h10, hm⟩ := bnd hm
  simp -dsimp
  refine aa (cT y2.1 y3 h10) (dkL hn) ?_
  simp -dsimp
  refine srs hn ?_
  obtain ⟨y4, h11, hm⟩ := bnd hm
  simp -dsimp
  refine aa (cT y2.2.1 y4 h11) (dkL hn) ?_
  simp -dsimp
  refine ae (ai ?_)
  obtain ⟨a, j21, hm⟩ := bnd hm
  refine am [(16, .u (.one (.d (.int .i64 y3.1)))), (18, .u (.one (.d (.bool y3.2.2)))), (19, .u (.one (.d (.int .i64 y4.1)))), (21, .u (.one (.d (.bool y4.2.2)))), (70, .u (.one (.d (.bool a))))] [] (by rfl) (by rfl) ?_ fun ρ σ hf => ?_
  ·replace hm := j21
   clear j21
   refine sr1 hn ?_
   rcases aj hm with ⟨c12, hm⟩ | ⟨c12, hm⟩
   ·simp -dsimp [c12]
    refine a6 ?_
    cases hm
    exact EE.here (by simp -dsimp)
   ·rcases aj hm with ⟨c13, hm⟩ | ⟨c13, hm⟩
    ·simp -dsimp [c12, c13]
     refine a6 ?_
     cases hm
     exact EE.here (by simp -dsimp)
    ·rcases aj hm with ⟨c14, hm⟩ | ⟨c14, hm⟩
     ·simp -dsimp [c12, c13, c14]
      refine a6 ?_
      cases hm
      exact EE.here (by simp -dsimp)
     ·simp -dsimp [c12, c13, c14]
      refine a6 ?_
      cases hm
      exact EE.here (by simp -dsimp)
  ·clear j21
   simp only [Fits, ar, ap, and_true] at hf
   rcases aj hm with ⟨c15, hm⟩ | ⟨c15, hm⟩
   ·refine a8 (by simp -dsimp [hf]) c15 ?_
    refine srs hn ?_
    simp -dsimp
    refine ab (aL (ag ?_))
    cases hm
    refine ⟨.inr rfl, ?_⟩
    exact EE.here (by simp -dsimp)
   ·refine a7 (by simp -dsimp [hf]) c15 ?_
    obtain ⟨a1, j20, hm⟩ := bnd hm
    refine am [(16, .u (.one (.d (.int .i64 y3.1)))), (19, .u (.one (.d (.int .i64 y4.1)))), (85, .u (.one (.d (.bool a1))))] [] (by rfl) (by rfl) ?_ fun ρ σ hf => ?_
    ·replace hm := j20
     clear j20
     refine sr1 hn ?_
     rcases aj hm with ⟨c16, hm⟩ | ⟨c16, hm⟩
     ·simp -dsimp [hf, c16]
      refine a6 ?_
      cases hm
      exact EE.here (by simp -dsimp [hf])
     ·simp -dsimp [hf, c16]
      refine a6 ?_
      cases hm
      exact EE.here (by simp -dsimp [hf])
    ·clear j20
     simp only [Fits, ar, ap, and_true] at hf
     rcases aj hm with ⟨c17, hm⟩ | ⟨c17, hm⟩
     ·refine a8 (by simp -dsimp [hf]) c17 ?_
      refine srs hn ?_
      simp -dsimp
      refine ab (aL (ag ?_))
      cases hm
      refine ⟨.inr rfl, ?_⟩
      exact EE.here (by simp -dsimp)
     ·refine a7 (by simp -dsimp [hf]) c17 ?_
      refine ac ?_
      refine aC ?_
      refine a6 (ae ?_)
      refine srs hn ?_
      obtain ⟨y5, h18, hm⟩ := bnd hm
      simp -dsimp [hf]
      refine aa (dX y4.1 y3.1 y5 h18) (dkL hn) ?_
      simp -dsimp
      refine srs hn ?_
      simp -dsimp
      rcases aj hm with ⟨c19, hm⟩ | ⟨c19, hm⟩
      ·refine a8 (by simp -dsimp) c19 ?_
       refine srs hn ?_
       simp -dsimp [c19]
       refine ab (ag ?_)
       cases hm
       refine ⟨.inr rfl, ?_⟩
       exact EE.here (by simp -dsimp)
      ·refine a7 (by simp -dsimp) c19 ?_
       refine ac (a6 ?_)
       refine srs hn ?_
       simp -dsimp [hf, c19]
       refine ab ?_
       cases hm
       refine ⟨.inr rfl, ?_⟩
       exact EE.here (by simp -dsimp)
theorem da (s : List UInt8) (r : Int × Int × Bool × Int) (hm : m_wolfram_Parse s = some r) : PureCall Tryz.prog 27 [.u (.one (.d (.str (bs s))))] (.tup [.one (.d (.int .i64 r.1)), .one (.d (.int .i64 r.2.1)), .one (.d (.bool r.2.2.1)), .one (.d (.int .i64 r.2.2.2))]) := (f_wolfram_Parse s r hm).pureW
theorem f_strings_HasPrefix (s : List UInt8) (prefix_ : List UInt8) (r : Bool) (hm : m_strings_HasPrefix s prefix_ = some r) : PFn Tryz.prog 49 [.u (.one (.d (.str (bs s)))), .u (.one (.d (.str (bs prefix_))))] (fun v => v.wk (.u (.one (.d (.bool r))))) := by
 refine aH Tryz.func49 Tryz.ntmps49 rfl (by kernel_rfl) (by simp) fun cx hn => ?_
 unfold m_strings_HasPrefix at hm
 refine srs hn ?_
 simp -dsimp
 refine srs hn ?_
 obtain ⟨y, h1, hm⟩ := bnd hm
 simp -dsimp
 refine aa (bu s prefix_ y h1) (dkL hn) ?_
 simp -dsimp
 refine ab ?_
 cases hm
 refine ⟨.inr rfl, ?_⟩
 exact EE.here (by simp -dsimp)
theorem dc (s : List UInt8) (prefix_ : List UInt8) (r : Bool) (hm : m_strings_HasPrefix s prefix_ = some r) : PureCall Tryz.prog 49 [.u (.one (.d (.str (bs s)))), .u (.one (.d (.str (bs prefix_))))] (.u (.one (.d (.bool r)))) := (f_strings_HasPrefix s prefix_ r hm).pureW
theorem c_strings_Index (s sub : List UInt8) (r : Int) (hm : m_strings_Index s sub = some r) : PureCall Tryz.prog 114 [.u (.one (.d (.str (bs s)))), .u (.one (.d (.str (bs sub))))] (.u (.one (.d (.int .i64 r)))) := index_pure indexL (by kernel_rfl) rfl ⟨_, Tryz.func114, by decide, rfl⟩ hm
theorem f_strings_Contains (s : List UInt8) (substr : List UInt8) (r : Bool) (hm : m_strings_Contains s substr = some r) : PFn Tryz.prog 50 [.u (.one (.d (.str (bs s)))), .u (.one (.d (.str (bs substr))))] (fun v => v.wk (.u (.one (.d (.bool r))))) := by
 refine aH Tryz.func50 Tryz.ntmps50 rfl (by kernel_rfl) (by simp) fun cx hn => ?_
 unfold m_strings_Contains at hm
 refine srs hn ?_
 simp -dsimp
 refine srs hn ?_
 obtain ⟨y, h1, hm⟩ := bnd hm
 simp -dsimp
 refine aa (c_strings_Index s substr y h1) (dkL hn) ?_
 simp -dsimp
 refine ab ?_
 cases hm
 refine ⟨.inr rfl, ?_⟩
 exact EE.here (by simp -dsimp)
theorem dD (s : List UInt8) (substr : List UInt8) (r : Bool) (hm : m_strings_Contains s substr = some r) : PureCall Tryz.prog 50 [.u (.one (.d (.str (bs s)))), .u (.one (.d (.str (bs substr))))] (.u (.one (.d (.bool r)))) := (f_strings_Contains s substr r hm).pureW
set_option maxRecDepth 100000 in
theorem f_notation_Kind (s : List UInt8) (r : Int) (hm : m_notation_Kind s = some r) : PFn Tryz.prog 21 [.u (.one (.d (.str (bs s))))] (fun v => v.wk (.u (.one (.d (.int .i64 r))))) := by
 refine aH Tryz.func21 Tryz.ntmps21 rfl (by kernel_rfl) (by simp) fun cx hn => ?_
 unfold m_notation_Kind at hm
 refine srs hn ?_
 simp -dsimp
 refine ae ?_
 refine srs hn ?_
 obtain ⟨y, h1, hm⟩ := bnd hm
 simp -dsimp
 refine aa (cU s y h1) (dkL hn) ?_
 simp -dsimp
 refine srs hn ?_
 simp -dsimp
 rcases aj hm with ⟨c2, hm⟩ | ⟨c2, hm⟩
 ·refine a8 (by simp -dsimp) c2 ?_
  refine srs hn ?_
  simp -dsimp [c2]
  refine ab (ag ?_)
  cases hm
  refine ⟨.inr rfl, ?_⟩
  exact EE.here (by simp -dsimp)
 ·refine a7 (by simp -dsimp) c2 ?_
  refine ac (a6 (ae ?_))
  refine srs hn ?_
  obtain ⟨y1, h3, hm⟩ := bnd hm
  simp -dsimp [c2]
  refine aa (bU s y1 h3) (dkL hn) ?_
  simp -dsimp
  refine srs hn ?_
  simp -dsimp
  rcases aj hm with ⟨c4, hm⟩ | ⟨c4, hm⟩
  ·refine a8 (by simp -dsimp) c4 ?_
   refine srs hn ?_
   simp -dsimp [c4]
   refine ab (ag ?_)
   cases hm
   refine ⟨.inr rfl, ?_⟩
   exact EE.here (by simp -dsimp)
  ·refine a7 (by simp -dsimp) c4 ?_
   refine ac (a6 (ae ?_))
   refine srs hn ?_
   obtain ⟨y2, h5, hm⟩ := bnd hm
   simp -dsimp [c4]
   refine aa (da s y2 h5) (dkL hn) ?_
   simp -dsimp
   refine srs hn ?_
   simp -dsimp
   rcases aj hm with ⟨c6, hm⟩ | ⟨c6, hm⟩
   ·refine a8 (by simp -dsimp) c6 ?_
    refine ai ?_
    refine srs hn ?_
    obtain ⟨y3, h7, hm⟩ := bnd hm
    simp -dsimp [c6]
    refine aa (dc s ([87] : List UInt8) y3 h7) (dkL hn) ?_
    simp -dsimp
    rcases aj hm with ⟨c8, hm⟩ | ⟨c8, hm⟩
    ·refine a8 (by simp -dsimp) c8 ?_
     refine srs hn ?_
     simp -dsimp [c8]
     refine ab (aL (ag ?_))
     cases hm
     refine ⟨.inr rfl, ?_⟩
     exact EE.here (by simp -dsimp)
    ·refine a7 (by simp -dsimp) c8 ?_
     refine srs hn ?_
     obtain ⟨y4, h9, hm⟩ := bnd hm
     simp -dsimp [c8]
     refine aa (dc s ([84] : List UInt8) y4 h9) (dkL hn) ?_
     simp -dsimp
     rcases aj hm with ⟨c10, hm⟩ | ⟨c10, hm⟩
     ·refine a8 (by simp -dsimp) c10 ?_
      refine srs hn ?_
      simp -dsimp [c10]
      refine ab (aL (ag ?_))
      cases hm
      refine ⟨.inr rfl, ?_⟩
      exact EE.here (by simp -dsimp)
     ·refine a7 (by simp -dsimp) c10 ?_
      refine ac ?_
      refine aC ?_
      refine a6 (ae ?_)
      refine srs hn ?_
      obtain ⟨y5, h11, hm⟩ := bnd hm
      simp -dsimp [c10]
      refine aa (dD s ([10] : List UInt8) y5 h11) (dkL hn) ?_
      simp -dsimp
      rcases aj hm with ⟨c12, hm⟩ | ⟨c12, hm⟩
      ·refine a8 (by simp -dsimp) c12 ?_
       refine srs hn ?_
       simp -dsimp [c12]
       refine ab (ag ?_)
       cases hm
       refine ⟨.inr rfl, ?_⟩
       exact EE.here (by simp -dsimp)
      ·refine a7 (by simp -dsimp) c12 ?_
       refine ac (a6 ?_)
       refine srs hn ?_
       simp -dsimp [c12]
       refine ab ?_
       cases hm
       refine ⟨.inr rfl, ?_⟩
       exact EE.here (by simp -dsimp)
   ·refine a7 (by simp -dsimp) c6 ?_
    refine ac (a6 (ae ?_))
    refine srs hn ?_
    obtain ⟨y3, h13, hm⟩ := bnd hm
    simp -dsimp [c6]
    refine aa (dD s ([10] : List UInt8) y3 h13) (dkL hn) ?_
    simp -dsimp
    rcases aj hm with ⟨c14, hm⟩ | ⟨c14, hm⟩
    ·refine a8 (by simp -dsimp) c14 ?_
     refine srs hn ?_
     simp -dsimp [c14]
     refine ab (ag ?_)
     cases hm
     refine ⟨.inr rfl, ?_⟩
     exact EE.here (by simp -dsimp)
    ·refine a7 (by simp -dsimp) c14 ?_
     refine ac (a6 ?_)
     refine srs hn ?_
     simp -dsimp [c14]
     refine ab ?_
     cases hm
     refine ⟨.inr rfl, ?_⟩
     exact EE.here (by simp -dsimp)
theorem bc (s : List UInt8) (r : Int) (hm : m_notation_Kind s = some r) : PureCall Tryz.prog 21 [.u (.one (.d (.str (bs s))))] (.u (.one (.d (.int .i64 r)))) := (f_notation_Kind s r hm).pureW
theorem f_cmp_isNaN_int (x : Int) (r : Bool) (hm : m_cmp_isNaN_int x = some r) : PFn Tryz.prog 153 [.u (.one (.d (.int .i64 x)))] (fun v => v.wk (.u (.one (.d (.bool r))))) := by
 refine aH Tryz.func153 Tryz.ntmps153 rfl (by kernel_rfl) (by simp) fun cx hn => ?_
 unfold m_cmp_isNaN_int at hm
 refine srs hn ?_
 simp -dsimp
 refine srs hn ?_
 simp -dsimp
 refine ab ?_
 cases hm
 refine ⟨.inr rfl, ?_⟩
 exact EE.here (by simp -dsimp)
theorem c_cmp_isNaN_int (x : Int) (r : Bool) (hm : m_cmp_isNaN_int x = some r) : PureCall Tryz.prog 153 [.u (.one (.d (.int .i64 x)))] (.u (.one (.d (.bool r)))) := (f_cmp_isNaN_int x r hm).pureW
theorem f_cmp_Compare_int (x : Int) (y : Int) (r : Int) (hm : m_cmp_Compare_int x y = some r) : PFn Tryz.prog 97 [.u (.one (.d (.int .i64 x))), .u (.one (.d (.int .i64 y)))] (fun v => v.wk (.u (.one (.d (.int .i64 r))))) := by
 refine aH Tryz.func97 Tryz.ntmps97 rfl (by kernel_rfl) (by simp) fun cx hn => ?_
 unfold m_cmp_Compare_int at hm
 refine srs hn ?_
 simp -dsimp
 refine srs hn ?_
 obtain ⟨y1, h1, hm⟩ := bnd hm
 simp -dsimp
 refine aa (c_cmp_isNaN_int x y1 h1) (dkL hn) ?_
 simp -dsimp
 refine srs hn ?_
 obtain ⟨y2, h2, hm⟩ := bnd hm
 simp -dsimp
 refine aa (c_cmp_isNaN_int y y2 h2) (dkL hn) ?_
 simp -dsimp
 refine ae ?_
 refine srs hn ?_
 simp -dsimp
 rcases aj hm with ⟨c3, hm⟩ | ⟨c3, hm⟩
 ·refine a8 (by simp -dsimp) c3 ?_
  refine ae ?_
  refine srs hn ?_
  simp -dsimp [c3]
  rcases aj hm with ⟨c4, hm⟩ | ⟨c4, hm⟩
  ·refine a8 (by simp -dsimp) c4 ?_
   refine srs hn ?_
   simp -dsimp [c4]
   refine ab (ag (ag ?_))
   cases hm
   refine ⟨.inr rfl, ?_⟩
   exact EE.here (by simp -dsimp)
  ·refine a7 (by simp -dsimp) c4 ?_
   refine ac (a6 ?_)
   refine srs hn ?_
   simp -dsimp [c4]
   refine ab (ag ?_)
   cases hm
   refine ⟨.inr rfl, ?_⟩
   exact EE.here (by simp -dsimp)
 ·refine a7 (by simp -dsimp) c3 ?_
  refine ac (a6 (ae ?_))
  refine srs hn ?_
  simp -dsimp [c3]
  rcases aj hm with ⟨c5, hm⟩ | ⟨c5, hm⟩
  ·refine a8 (by simp -dsimp) c5 ?_
   refine srs hn ?_
   simp -dsimp [c5]
   refine ab (ag ?_)
   cases hm
   refine ⟨.inr rfl, ?_⟩
   exact EE.here (by simp -dsimp)
  ·refine a7 (by simp -dsimp) c5 ?_
   refine ac (a6 (ae ?_))
   refine srs hn ?_
   simp -dsimp [c5]
   rcases aj hm with ⟨c6, hm⟩ | ⟨c6, hm⟩
   ·refine a8 (by simp -dsimp) c6 ?_
    refine srs hn ?_
    simp -dsimp [c6]
    refine ab (ag ?_)
    cases hm
    refine ⟨.inr rfl, ?_⟩
    exact EE.here (by simp -dsimp)
   ·refine a7 (by simp -dsimp) c6 ?_
    refine ac (a6 (ae ?_))
    refine srs hn ?_
    simp -dsimp [c6]
    rcases aj hm with ⟨c7, hm⟩ | ⟨c7, hm⟩
    ·refine a8 (by simp -dsimp) c7 ?_
     refine srs hn ?_
     simp -dsimp [c7]
     refine ab (ag ?_)
     cases hm
     refine ⟨.inr rfl, ?_⟩
     exact EE.here (by simp -dsimp)
    ·refine a7 (by simp -dsimp) c7 ?_
     refine ac (a6 ?_)
     refine srs hn ?_
     simp -dsimp [c7]
     refine ab ?_
     cases hm
     refine ⟨.inr rfl, ?_⟩
     exact EE.here (by simp -dsimp)
theorem dP (x : Int) (y : Int) (r : Int) (hm : m_cmp_Compare_int x y = some r) : PureCall Tryz.prog 97 [.u (.one (.d (.int .i64 x))), .u (.one (.d (.int .i64 y)))] (.u (.one (.d (.int .i64 r)))) := (f_cmp_Compare_int x y r hm).pureW
def bG (cx : Cx) (_vals : List Int) (tt : Int ⊕ Unit) (ee : Exit) (ρ : Env) (σ : Sto) : Prop := match tt with
 | .inl r => ee = .ret ∧ EE cx (fun ρ σ => ∃ v, cC tb ρ σ Tryz.f96.results.toList = some v ∧ (v.frz σ).free = true ∧ (v.frz σ).wk (.u (.one (.d (.int .i64 r))))) ρ σ
 | .inr _u => ee = .exit 0 ∧ EE cx (aK [(3, .u (.one (.d (.int .i64 0))))] []) ρ σ
theorem l_cmp_Or_int_1 (cx : Cx) (hn : cx.n = 18) (vals : List Int) {fu : Nat} {stt : Int} {tt : Int ⊕ Unit} (hh : ah (b_cmp_Or_int_1 vals) fu stt = some tt) {ρ : Env} {σ : Sto}
  (hE : aT (fun a : Int => [(3, .u (.one (.d (.int .i64 0)))), (6, .u (.one (.d (.sl 1 (List.map (rI .i64) vals))))), (7, .u (.one (.d (.int .i64 (al vals))))), (8, .u (.one (.d (.int .i64 a))))]) (fun _a : Int => []) stt ρ σ) : Swp Tryz.prog cx (.loop (bi [1, 1, 0, 1, 0, 0] (aG Tryz.f96))) ρ σ (bG cx vals tt) := by
 refine b3 hE hh (bG cx vals) ?_
 rintro a r hm ρ σ hf
 simp only [Fits, ar, ap, and_true] at hf
 unfold b_cmp_Or_int_1 at hm
 dsimp only at hm
 refine srs hn ?_
 simp -dsimp [hf]
 refine ae ?_
 rcases aj hm with ⟨c1, hm⟩ | ⟨c1, hm⟩
 ·refine a8 (by simp -dsimp) c1 ?_
  refine ac (a6 (ae (ai ?_)))
  refine srs hn ?_
  obtain ⟨x, h2, hm⟩ := bnd hm
  simp -dsimp [hf, c1, h2]
  refine srs hn ?_
  simp -dsimp [hf]
  rcases aj hm with ⟨c3, hm⟩ | ⟨c3, hm⟩
  ·refine a8 (by simp -dsimp) c3 ?_
   refine srs hn ?_
   simp -dsimp [c3]
   refine ab (aL (ag ?_))
   cases hm
   refine aw nofun ?_
   unfold bG
   dsimp only
   refine ⟨rfl, ?_⟩
   exact EE.here (by simp -dsimp [Tryz.results96])
  ·refine a7 (by simp -dsimp) c3 ?_
   refine ac ?_
   refine aC ?_
   refine a6 ?_
   refine sr1 hn ?_
   simp -dsimp [hf, c3]
   cases hm
   refine ax ?_
   exact EE.here (by simp -dsimp [hf])
 ·refine a7 (by simp -dsimp) c1 ?_
  refine au ?_
  refine ag ?_
  cases hm
  refine aw nofun ?_
  unfold bG
  dsimp only
  refine ⟨rfl, ?_⟩
  exact EE.here (by simp -dsimp [hf, c1])
theorem f_cmp_Or_int (vals : List Int) (r : Int) (hm : m_cmp_Or_int vals = some r) : PFn Tryz.prog 96 [.u (.one (.d (.sl 1 (List.map (rI .i64) vals))))] (fun v => v.wk (.u (.one (.d (.int .i64 r))))) := by
 refine aH Tryz.func96 Tryz.ntmps96 rfl (by kernel_rfl) (by simp) fun cx hn => ?_
 unfold m_cmp_Or_int at hm
 refine srs hn ?_
 simp -dsimp
 refine srs hn ?_
 simp -dsimp
 refine ae ?_
 refine srs hn ?_
 simp -dsimp
 refine ai ?_
 obtain ⟨o_, g4, hm⟩ := bnd hm
 refine aF (l_cmp_Or_int_1 cx hn vals g4) (by
   try dsimp only
   exact EE.here (by simp -dsimp)
 ) fun ee ρ σ x5 => ?_
 rcases o_ with r | _u
 ·unfold bG at x5
  dsimp only at x5
  obtain ⟨rfl, x5⟩ := x5
  refine aL (ag ?_)
  cases hm
  exact ⟨.inr rfl, x5⟩
 ·unfold bG at x5
  dsimp only at x5
  obtain ⟨rfl, x5⟩ := x5
  refine av ?_
  refine a6 ?_
  refine aV (by rfl) (by rfl) x5 fun ρ σ hf => ?_
  simp only [Fits, ar, ap, and_true] at hf
  refine srs hn ?_
  simp -dsimp [hf]
  refine ab ?_
  cases hm
  refine ⟨.inr rfl, ?_⟩
  exact EE.here (by simp -dsimp)
theorem c_cmp_Or_int (vals : List Int) (r : Int) (hm : m_cmp_Or_int vals = some r) : PureCall Tryz.prog 96 [.u (.one (.d (.sl 1 (List.map (rI .i64) vals))))] (.u (.one (.d (.int .i64 r)))) := (f_cmp_Or_int vals r hm).pureW
theorem f_point_Compare (a : Point) (b : Point) (r : Int) (hm : m_point_Compare a b = some r) : PFn Tryz.prog 41 [.u (.agg [.d (.int .i64 a.X), .d (.int .i64 a.Y)]), .u (.agg [.d (.int .i64 b.X), .d (.int .i64 b.Y)])] (fun v => v.wk (.u (.one (.d (.int .i64 r))))) := by
 refine aH Tryz.func41 Tryz.ntmps41 rfl (by kernel_rfl) (by simp) fun cx hn => ?_
 unfold m_point_Compare at hm
 refine srs hn ?_
 simp -dsimp
 refine dV aM mixed (by rw [hn]; kernel_rfl) ?_
 obtain ⟨y, h1, hm⟩ := bnd hm
 simp -dsimp
 refine aD (dP a.Y b.Y y h1) ?_
 obtain ⟨y1, h2, hm⟩ := bnd hm
 simp -dsimp
 refine aD (dP a.X b.X y1 h2) ?_
 obtain ⟨y2, h3, hm⟩ := bnd hm
 simp -dsimp
 refine aD (c_cmp_Or_int [y, y1] y2 h3) ?_
 simp -dsimp
 refine ab ?_
 cases hm
 refine ⟨.inr rfl, ?_⟩
 exact EE.here (by simp -dsimp)
theorem c_point_Compare (a : Point) (b : Point) (r : Int) (hm : m_point_Compare a b = some r) : PureCall Tryz.prog 41 [.u (.agg [.d (.int .i64 a.X), .d (.int .i64 a.Y)]), .u (.agg [.d (.int .i64 b.X), .d (.int .i64 b.Y)])] (.u (.one (.d (.int .i64 r)))) := (f_point_Compare a b r hm).pureW
def bF (cx : Cx) (_l : List Point) (tt : Bool ⊕ Unit) (ee : Exit) (ρ : Env) (σ : Sto) : Prop := match tt with
 | .inl r => ee = .ret ∧ EE cx (fun ρ σ => ∃ v, cC tb ρ σ Tryz.f90.results.toList = some v ∧ (v.frz σ).free = true ∧ (v.frz σ).wk (.u (.one (.d (.bool r))))) ρ σ
 | .inr _u => ee = .exit 0 ∧ EE cx (aK [] []) ρ σ
set_option maxRecDepth 100000 in
theorem l_hood_Right_1 (cx : Cx) (hn : cx.n = 53) (l : List Point) {fu : Nat} {stt : Int} {tt : Bool ⊕ Unit} (hh : ah (b_hood_Right_1 l) fu stt = some tt) {ρ : Env} {σ : Sto}
  (hE : aT (fun a1 : Int => [(0, .u (.one (.d (.sl 2 (List.map Point.row l))))), (13, .u (.one (.d (.sl 2 (List.map Point.row l))))), (14, .u (.one (.d (.int .i64 (al l))))), (15, .u (.one (.d (.int .i64 a1))))]) (fun _a1 : Int => []) stt ρ σ) : Swp Tryz.prog cx (.loop (bi [1, 1, 0, 1, 0, 0] (aG Tryz.f90))) ρ σ (bF cx l tt) := by
 refine b3 hE hh (bF cx l) ?_
 rintro a1 r hm ρ σ hf
 simp only [Fits, ar, ap, and_true] at hf
 unfold b_hood_Right_1 at hm
 dsimp only at hm
 refine srs hn ?_
 simp -dsimp [hf]
 refine ae ?_
 rcases aj hm with ⟨c3, hm⟩ | ⟨c3, hm⟩
 ·refine a8 (by simp -dsimp) c3 ?_
  refine ac (a6 (ae (ai ?_)))
  refine srs hn ?_
  obtain ⟨x, h4, hm⟩ := bnd hm
  simp -dsimp [hf, c3, h4]
  obtain ⟨a2, j13, hm⟩ := bnd hm
  refine am [(0, .u (.one (.d (.sl 2 (List.map Point.row l))))), (13, .u (.one (.d (.sl 2 (List.map Point.row l))))), (14, .u (.one (.d (.int .i64 (al l))))), (15, .u (.one (.d (.int .i64 a1)))), (51, .u (.one (.d (.bool a2))))] [] (by rfl) (by rfl) ?_ fun ρ σ hf => ?_
  ·replace hm := j13
   clear j13
   refine sw_qt aM mixed (by rw [hn]; kernel_rfl) ?_
   rcases aj hm with ⟨c5, hm⟩ | ⟨c5, hm⟩
   ·simp -dsimp [c5]
    refine a6 ?_
    cases hm
    exact EE.here (by simp -dsimp [hf])
   ·rcases aj hm with ⟨c6, hm⟩ | ⟨c6, hm⟩
    ·simp -dsimp [c5, c6]
     refine a6 ?_
     cases hm
     exact EE.here (by simp -dsimp [hf])
    ·rcases aj hm with ⟨c7, hm⟩ | ⟨c7, hm⟩
     ·simp -dsimp [c5, c6, c7]
      refine a6 ?_
      cases hm
      exact EE.here (by simp -dsimp [hf])
     ·rcases aj hm with ⟨c8, hm⟩ | ⟨c8, hm⟩
      ·simp -dsimp [c5, c6, c7, c8]
       refine a6 ?_
       cases hm
       exact EE.here (by simp -dsimp [hf])
      ·rcases aj hm with ⟨c9, hm⟩ | ⟨c9, hm⟩
       ·obtain ⟨x1, h10, hm⟩ := bnd hm
        obtain ⟨y, h11, hm⟩ := bnd hm
        simp -dsimp [hf, c5, c6, c7, c8, c9, h10]
        refine aD (c_point_Compare x1 x y h11) ?_
        simp -dsimp
        refine a6 ?_
        cases hm
        exact EE.here (by simp -dsimp [hf])
       ·simp -dsimp [c5, c6, c7, c8, c9]
        refine a6 ?_
        cases hm
        exact EE.here (by simp -dsimp [hf])
  ·clear j13
   simp only [Fits, ar, ap, and_true] at hf
   rcases aj hm with ⟨c12, hm⟩ | ⟨c12, hm⟩
   ·refine a8 (by simp -dsimp [hf]) c12 ?_
    refine srs hn ?_
    simp -dsimp
    refine ab (aL (ag ?_))
    cases hm
    refine aw nofun ?_
    unfold bF
    dsimp only
    refine ⟨rfl, ?_⟩
    exact EE.here (by simp -dsimp [Tryz.results90])
   ·refine a7 (by simp -dsimp [hf]) c12 ?_
    refine ac ?_
    refine aC ?_
    refine a6 ?_
    refine sr1 hn ?_
    simp -dsimp [hf]
    cases hm
    refine ax ?_
    exact EE.here (by simp -dsimp [hf])
 ·refine a7 (by simp -dsimp) c3 ?_
  refine au ?_
  refine ag ?_
  cases hm
  refine aw nofun ?_
  unfold bF
  dsimp only
  refine ⟨rfl, ?_⟩
  exact EE.here (by simp -dsimp [c3])
set_option maxRecDepth 100000 in
theorem f_hood_Right (l : List Point) (r : Bool) (hm : m_hood_Right l = some r) : PFn Tryz.prog 90 [.u (.one (.d (.sl 2 (List.map Point.row l))))] (fun v => v.wk (.u (.one (.d (.bool r))))) := by
 refine aH Tryz.func90 Tryz.ntmps90 rfl (by kernel_rfl) (by simp) fun cx hn => ?_
 unfold m_hood_Right at hm
 refine srs hn ?_
 simp -dsimp
 refine ae ?_
 obtain ⟨a, j16, hm⟩ := bnd hm
 refine am [(0, .u (.one (.d (.sl 2 (List.map Point.row l))))), (12, .u (.one (.d (.bool a))))] [] (by rfl) (by rfl) ?_ fun ρ σ hf => ?_
 ·replace hm := j16
  clear j16
  refine sr1 hn ?_
  rcases aj hm with ⟨c1, hm⟩ | ⟨c1, hm⟩
  ·simp -dsimp [c1]
   refine a6 ?_
   cases hm
   exact EE.here (by simp -dsimp)
  ·simp -dsimp [c1]
   refine a6 ?_
   cases hm
   exact EE.here (by simp -dsimp)
 ·clear j16
  simp only [Fits, ar, ap, and_true] at hf
  rcases aj hm with ⟨c2, hm⟩ | ⟨c2, hm⟩
  ·refine a8 (by simp -dsimp [hf]) c2 ?_
   refine srs hn ?_
   simp -dsimp
   refine ab (ag ?_)
   cases hm
   refine ⟨.inr rfl, ?_⟩
   exact EE.here (by simp -dsimp)
  ·refine a7 (by simp -dsimp [hf]) c2 ?_
   refine ac (a6 (ae ?_))
   refine srs hn ?_
   simp -dsimp [hf]
   refine ai ?_
   obtain ⟨o_, g14, hm⟩ := bnd hm
   refine aF (l_hood_Right_1 cx hn l g14) (by
     try dsimp only
     exact EE.here (by simp -dsimp [hf])
   ) fun ee ρ σ x15 => ?_
   rcases o_ with r | _u
   ·unfold bF at x15
    dsimp only at x15
    obtain ⟨rfl, x15⟩ := x15
    refine aL (ag ?_)
    cases hm
    exact ⟨.inr rfl, x15⟩
   ·unfold bF at x15
    dsimp only at x15
    obtain ⟨rfl, x15⟩ := x15
    refine av ?_
    refine a6 ?_
    refine aV (by rfl) (by rfl) x15 fun ρ σ hf => ?_
    simp only [Fits, ar, ap, and_true] at hf
    refine srs hn ?_
    simp -dsimp
    refine ab ?_
    cases hm
    refine ⟨.inr rfl, ?_⟩
    exact EE.here (by simp -dsimp)
theorem c_hood_Right (l : List Point) (r : Bool) (hm : m_hood_Right l = some r) : PureCall Tryz.prog 90 [.u (.one (.d (.sl 2 (List.map Point.row l))))] (.u (.one (.d (.bool r)))) := (f_hood_Right l r hm).pureW
def az (cx : Cx) (_s : List Point) (_v : Point) (tt : Int ⊕ Unit) (ee : Exit) (ρ : Env) (σ : Sto) : Prop := match tt with
 | .inl r => ee = .ret ∧ EE cx (fun ρ σ => ∃ v, cC tb ρ σ Tryz.f132.results.toList = some v ∧ (v.frz σ).free = true ∧ (v.frz σ).wk (.u (.one (.d (.int .i64 r))))) ρ σ
 | .inr _u => ee = .exit 0 ∧ EE cx (aK [] []) ρ σ
theorem bW (cx : Cx) (hn : cx.n = 19) (s : List Point) (v : Point) {fu : Nat} {stt : Int} {tt : Int ⊕ Unit} (hh : ah (b_slices_Index_api_Point_api_Point_1 s v) fu stt = some tt) {ρ : Env} {σ : Sto}
  (hE : aT (fun a : Int => [(0, .u (.one (.d (.sl 2 (List.map Point.row s))))), (3, .u (.one (.box 3 0))), (7, .u (.one (.d (.int .i64 (al s))))), (8, .u (.one (.d (.int .i64 a))))]) (fun _a : Int => [(3, .box [.d (.int .i64 v.X), .d (.int .i64 v.Y)])]) stt ρ σ) : Swp Tryz.prog cx (.loop (bi [1, 0, 1, 0, 0] (aG Tryz.f132))) ρ σ (az cx s v tt) := by
 refine b3 hE hh (az cx s v) ?_
 rintro a r hm ρ σ hf
 simp only [Fits, ar, ap, and_true] at hf
 unfold b_slices_Index_api_Point_api_Point_1 at hm
 dsimp only at hm
 refine srs hn ?_
 simp -dsimp [hf]
 refine ae ?_
 rcases aj hm with ⟨c1, hm⟩ | ⟨c1, hm⟩
 ·refine a8 (by simp -dsimp) c1 ?_
  refine ac (a6 (ae (ai ?_)))
  refine srs hn ?_
  simp -dsimp [hf, c1]
  refine dV aM mixed (by rw [hn]; kernel_rfl) ?_
  obtain ⟨x, h2, hm⟩ := bnd hm
  simp -dsimp [hf, h2]
  rcases aj hm with ⟨c3, hm⟩ | ⟨c3, hm⟩
  ·refine a8 (by simp -dsimp) c3 ?_
   refine srs hn ?_
   simp -dsimp [c3]
   refine ab (aL (ag ?_))
   cases hm
   refine aw nofun ?_
   unfold az
   dsimp only
   refine ⟨rfl, ?_⟩
   exact EE.here (by simp -dsimp [Tryz.results132])
  ·refine a7 (by simp -dsimp) c3 ?_
   refine ac ?_
   refine aC ?_
   refine a6 ?_
   refine sr1 hn ?_
   simp -dsimp [hf, c3]
   cases hm
   refine ax ?_
   exact EE.here (by simp -dsimp [hf])
 ·refine a7 (by simp -dsimp) c1 ?_
  refine au ?_
  refine ag ?_
  cases hm
  refine aw nofun ?_
  unfold az
  dsimp only
  refine ⟨rfl, ?_⟩
  exact EE.here (by simp -dsimp [c1])
theorem ck (s : List Point) (v : Point) (r : Int) (hm : m_slices_Index_api_Point_api_Point s v = some r) : PFn Tryz.prog 132 [.u (.one (.d (.sl 2 (List.map Point.row s)))), .u (.agg [.d (.int .i64 v.X), .d (.int .i64 v.Y)])] (fun v => v.wk (.u (.one (.d (.int .i64 r))))) := by
 refine aH Tryz.func132 Tryz.ntmps132 rfl (by kernel_rfl) (by simp) fun cx hn => ?_
 unfold m_slices_Index_api_Point_api_Point at hm
 refine srs hn ?_
 simp -dsimp
 refine ae ?_
 refine srs hn ?_
 simp -dsimp
 refine ai ?_
 obtain ⟨o_, g4, hm⟩ := bnd hm
 refine aF (bW cx hn s v g4) (by
   try dsimp only
   exact EE.here (by simp -dsimp)
 ) fun ee ρ σ x5 => ?_
 rcases o_ with r | _u
 ·unfold az at x5
  dsimp only at x5
  obtain ⟨rfl, x5⟩ := x5
  refine aL (ag ?_)
  cases hm
  exact ⟨.inr rfl, x5⟩
 ·unfold az at x5
  dsimp only at x5
  obtain ⟨rfl, x5⟩ := x5
  refine av ?_
  refine a6 ?_
  refine aV (by rfl) (by rfl) x5 fun ρ σ hf => ?_
  simp only [Fits, ar, ap, and_true] at hf
  refine srs hn ?_
  simp -dsimp
  refine ab ?_
  cases hm
  refine ⟨.inr rfl, ?_⟩
  exact EE.here (by simp -dsimp)
theorem cf (s : List Point) (v : Point) (r : Int) (hm : m_slices_Index_api_Point_api_Point s v = some r) : PureCall Tryz.prog 132 [.u (.one (.d (.sl 2 (List.map Point.row s)))), .u (.agg [.d (.int .i64 v.X), .d (.int .i64 v.Y)])] (.u (.one (.d (.int .i64 r)))) := (ck s v r hm).pureW
theorem f_hood_Centre (l : List Point) (r : Int) (hm : m_hood_Centre l = some r) : PFn Tryz.prog 69 [.u (.one (.d (.sl 2 (List.map Point.row l))))] (fun v => v.wk (.u (.one (.d (.int .i64 r))))) := by
 refine aH Tryz.func69 Tryz.ntmps69 rfl (by kernel_rfl) (by simp) fun cx hn => ?_
 unfold m_hood_Centre at hm
 refine srs hn ?_
 simp -dsimp
 refine ae ?_
 refine srs hn ?_
 obtain ⟨y, h1, hm⟩ := bnd hm
 simp -dsimp
 refine aa (c_hood_Right l y h1) (dkL hn) ?_
 simp -dsimp
 rcases aj hm with ⟨c2, hm⟩ | ⟨c2, hm⟩
 ·refine a8 (by simp -dsimp) c2 ?_
  refine srs hn ?_
  simp -dsimp [c2]
  refine ab (ag ?_)
  cases hm
  refine ⟨.inr rfl, ?_⟩
  exact EE.here (by simp -dsimp)
 ·refine a7 (by simp -dsimp) c2 ?_
  refine ac (a6 ?_)
  refine srs hn ?_
  obtain ⟨y1, h3, hm⟩ := bnd hm
  simp -dsimp [c2]
  refine aa (cf l (⟨0, 0⟩ : Point) y1 h3) (dkL hn) ?_
  simp -dsimp
  refine ab ?_
  cases hm
  refine ⟨.inr rfl, ?_⟩
  exact EE.here (by simp -dsimp)
theorem c_hood_Centre (l : List Point) (r : Int) (hm : m_hood_Centre l = some r) : PureCall Tryz.prog 69 [.u (.one (.d (.sl 2 (List.map Point.row l))))] (.u (.one (.d (.int .i64 r)))) := (f_hood_Centre l r hm).pureW
theorem ch (l : List Point) (r : List Point) (hm : m_slices_Clone_api_Point_api_Point l = some r) : r = l := (aB hm).2
theorem cn (l : List Point) (r : List Point) (hm : m_slices_Clone_api_Point_api_Point l = some r) : PFn Tryz.prog 74 [.u (.one (.d (.sl 2 (List.map Point.row l))))] (fun v => v.wk (.u (.one (.d (.sl 2 (List.map Point.row r)))))) := by
 refine pfn_E aM _ Tryz.func74 rfl (by kernel_rfl) (by simp [Tryz.ntmps74]) fun cx hn => ?_
 replace hn : cx.n = 8 := hn.trans Tryz.ntmps74
 have ha := (aB hm).1
 have hr : r = l := (aB hm).2
 clear hm
 subst hr
 simp only [List.length_nil, Nat.zero_add] at ha
 refine srs hn ?_
 simp -dsimp
 refine ae ?_
 refine srs hn ?_
 cases r with
 | nil =>
  simp -dsimp
  refine ⟨?_, ?_⟩
  ·refine a8 (b := true) (by simp -dsimp) rfl ?_
   refine srs hn ?_
   simp -dsimp
   refine ab (ag ?_)
   refine ⟨.inr rfl, EE.here ?_⟩; simp -dsimp
  ·refine a7 (b := false) (by simp -dsimp) rfl ?_
   refine ac (a6 ?_)
   refine srs hn ?_
   simp -dsimp
   refine ab ?_
   refine ⟨.inr rfl, EE.here ?_⟩; simp -dsimp
 | cons x xs =>
  simp -dsimp
  refine a7 (b := false) (by simp -dsimp) rfl ?_
  refine ac (a6 ?_)
  refine srs hn ?_
  simp only [List.length_cons] at ha
  simp -dsimp [ha]
  refine ab ?_
  refine ⟨.inr rfl, EE.here ?_⟩; simp -dsimp
theorem bp (l : List Point) (r : List Point) (hm : m_slices_Clone_api_Point_api_Point l = some r) : PureCall Tryz.prog 74 [.u (.one (.d (.sl 2 (List.map Point.row l))))] (.u (.one (.d (.sl 2 (List.map Point.row r))))) := (cn l r hm).pureW
theorem cm (l : List Point) (r : List Point) (hm : m_slices_Clone_api_Point_api_Point l = some r) : NewFn Tryz.prog 74 [.u (.one (.d (.sl 2 (List.map Point.row l))))] (fun o => o = .row 2 77 (List.map Point.row r)) := by
 refine new_S aM _ Tryz.func74 rfl (by kernel_rfl) (by simp [Tryz.ntmps74]) fun cx hn => ?_
 replace hn : cx.n = 8 := hn.trans Tryz.ntmps74
 have ha := (aB hm).1
 have hr : r = l := (aB hm).2
 clear hm
 subst hr
 simp only [List.length_nil, Nat.zero_add] at ha
 refine srs hn ?_
 simp -dsimp
 refine ae ?_
 refine srs hn ?_
 cases r with
 | nil =>
  simp -dsimp
  refine ⟨?_, ?_⟩
  ·refine a8 (b := true) (by simp -dsimp) rfl ?_
   refine srs hn ?_
   simp -dsimp
   refine ab (ag ?_)
   refine ⟨.inr rfl, ?_⟩; simp -dsimp
  ·refine a7 (b := false) (by simp -dsimp) rfl ?_
   refine ac (a6 ?_)
   refine srs hn ?_
   simp -dsimp
   refine ab ?_
   refine ⟨.inr rfl, ?_⟩; simp -dsimp
 | cons x xs =>
  simp -dsimp
  refine a7 (b := false) (by simp -dsimp) rfl ?_
  refine ac (a6 ?_)
  refine srs hn ?_
  simp only [List.length_cons] at ha
  simp -dsimp [ha]
  refine ab ?_
  refine ⟨.inr rfl, ?_⟩; simp -dsimp
def aR (cx : Cx) (_s : List Int) (_v : Int) (tt : Int ⊕ Unit) (ee : Exit) (ρ : Env) (σ : Sto) : Prop := match tt with
 | .inl r => ee = .ret ∧ EE cx (fun ρ σ => ∃ v, cC tb ρ σ Tryz.f133.results.toList = some v ∧ (v.frz σ).free = true ∧ (v.frz σ).wk (.u (.one (.d (.int .i64 r))))) ρ σ
 | .inr _u => ee = .exit 0 ∧ EE cx (aK [] []) ρ σ
theorem dW (cx : Cx) (hn : cx.n = 19) (s : List Int) (v : Int) {fu : Nat} {stt : Int} {tt : Int ⊕ Unit} (hh : ah (b_slices_Index_int_int_1 s v) fu stt = some tt) {ρ : Env} {σ : Sto}
  (hE : aT (fun a : Int => [(0, .u (.one (.d (.sl 1 (List.map (rI .i64) s))))), (1, .u (.one (.d (.int .i64 v)))), (7, .u (.one (.d (.int .i64 (al s))))), (8, .u (.one (.d (.int .i64 a))))]) (fun _a : Int => []) stt ρ σ) : Swp Tryz.prog cx (.loop (bi [1, 0, 1, 0, 0] (aG Tryz.f133))) ρ σ (aR cx s v tt) := by
 refine b3 hE hh (aR cx s v) ?_
 rintro a r hm ρ σ hf
 simp only [Fits, ar, ap, and_true] at hf
 unfold b_slices_Index_int_int_1 at hm
 dsimp only at hm
 refine srs hn ?_
 simp -dsimp [hf]
 refine ae ?_
 rcases aj hm with ⟨c1, hm⟩ | ⟨c1, hm⟩
 ·refine a8 (by simp -dsimp) c1 ?_
  refine ac (a6 (ae (ai ?_)))
  refine srs hn ?_
  simp -dsimp [hf, c1]
  refine srs hn ?_
  obtain ⟨x, h2, hm⟩ := bnd hm
  simp -dsimp [hf, h2]
  rcases aj hm with ⟨c3, hm⟩ | ⟨c3, hm⟩
  ·refine a8 (by simp -dsimp) c3 ?_
   refine srs hn ?_
   simp -dsimp [c3]
   refine ab (aL (ag ?_))
   cases hm
   refine aw nofun ?_
   unfold aR
   dsimp only
   refine ⟨rfl, ?_⟩
   exact EE.here (by simp -dsimp [Tryz.results133])
  ·refine a7 (by simp -dsimp) c3 ?_
   refine ac ?_
   refine aC ?_
   refine a6 ?_
   refine sr1 hn ?_
   simp -dsimp [hf, c3]
   cases hm
   refine ax ?_
   exact EE.here (by simp -dsimp [hf])
 ·refine a7 (by simp -dsimp) c1 ?_
  refine au ?_
  refine ag ?_
  cases hm
  refine aw nofun ?_
  unfold aR
  dsimp only
  refine ⟨rfl, ?_⟩
  exact EE.here (by simp -dsimp [c1])
theorem eu (s : List Int) (v : Int) (r : Int) (hm : m_slices_Index_int_int s v = some r) : PFn Tryz.prog 133 [.u (.one (.d (.sl 1 (List.map (rI .i64) s)))), .u (.one (.d (.int .i64 v)))] (fun v => v.wk (.u (.one (.d (.int .i64 r))))) := by
 refine aH Tryz.func133 Tryz.ntmps133 rfl (by kernel_rfl) (by simp) fun cx hn => ?_
 unfold m_slices_Index_int_int at hm
 refine srs hn ?_
 simp -dsimp
 refine ae ?_
 refine srs hn ?_
 simp -dsimp
 refine ai ?_
 obtain ⟨o_, g4, hm⟩ := bnd hm
 refine aF (dW cx hn s v g4) (by
   try dsimp only
   exact EE.here (by simp -dsimp)
 ) fun ee ρ σ x5 => ?_
 rcases o_ with r | _u
 ·unfold aR at x5
  dsimp only at x5
  obtain ⟨rfl, x5⟩ := x5
  refine aL (ag ?_)
  cases hm
  exact ⟨.inr rfl, x5⟩
 ·unfold aR at x5
  dsimp only at x5
  obtain ⟨rfl, x5⟩ := x5
  refine av ?_
  refine a6 ?_
  refine aV (by rfl) (by rfl) x5 fun ρ σ hf => ?_
  simp only [Fits, ar, ap, and_true] at hf
  refine srs hn ?_
  simp -dsimp
  refine ab ?_
  cases hm
  refine ⟨.inr rfl, ?_⟩
  exact EE.here (by simp -dsimp)
theorem ea (s : List Int) (v : Int) (r : Int) (hm : m_slices_Index_int_int s v = some r) : PureCall Tryz.prog 133 [.u (.one (.d (.sl 1 (List.map (rI .i64) s)))), .u (.one (.d (.int .i64 v)))] (.u (.one (.d (.int .i64 r)))) := (eu s v r hm).pureW
theorem dG (s : List Int) (v : Int) (r : Bool) (hm : m_slices_Contains_int_int s v = some r) : PFn Tryz.prog 72 [.u (.one (.d (.sl 1 (List.map (rI .i64) s)))), .u (.one (.d (.int .i64 v)))] (fun v => v.wk (.u (.one (.d (.bool r))))) := by
 refine aH Tryz.func72 Tryz.ntmps72 rfl (by kernel_rfl) (by simp) fun cx hn => ?_
 unfold m_slices_Contains_int_int at hm
 refine srs hn ?_
 simp -dsimp
 refine srs hn ?_
 obtain ⟨y, h1, hm⟩ := bnd hm
 simp -dsimp
 refine aa (ea s v y h1) (dkL hn) ?_
 simp -dsimp
 refine ab ?_
 cases hm
 refine ⟨.inr rfl, ?_⟩
 exact EE.here (by simp -dsimp)
theorem bS (s : List Int) (v : Int) (r : Bool) (hm : m_slices_Contains_int_int s v = some r) : PureCall Tryz.prog 72 [.u (.one (.d (.sl 1 (List.map (rI .i64) s)))), .u (.one (.d (.int .i64 v)))] (.u (.one (.d (.bool r)))) := (dG s v r hm).pureW
end Go.Proofs.YtldhnnkpmhnpcaaGreatDoor
