/- That the code does what the functions say (made by cc.py). -/
import Derived.Test.YtldhnnkpmhnpcaaGreatDoorWa1
namespace Go.Proofs.YtldhnnkpmhnpcaaGreatDoor
open Go.AM Go.Proofs
attribute [-simp] qlookup bv cb Ob.wipe Ob.ren Ob.frz1 cd
theorem f_hood_Same (a : List Point) (b : List Point) (r : Bool) (hm : m_hood_Same a b = some r) : PFn Tryz.prog 44 [.u (.one (.d (.sl 2 (List.map Point.row a)))), .u (.one (.d (.sl 2 (List.map Point.row b))))] (fun v => v.wk (.u (.one (.d (.bool r))))) := by
 refine aH Tryz.func44 Tryz.ntmps44 rfl (by kernel_rfl) (by simp) fun cx hn => ?_
 unfold m_hood_Same at hm
 refine srs hn ?_
 simp -dsimp
 refine srs hn ?_
 obtain ⟨y, h1, hm⟩ := bnd hm
 simp -dsimp
 refine aa (co a b y h1) (dkL hn) ?_
 simp -dsimp
 refine ab ?_
 cases hm
 refine ⟨.inr rfl, ?_⟩
 exact EE.here (by simp -dsimp)
theorem cZ (a : List Point) (b : List Point) (r : Bool) (hm : m_hood_Same a b = some r) : PureCall Tryz.prog 44 [.u (.one (.d (.sl 2 (List.map Point.row a)))), .u (.one (.d (.sl 2 (List.map Point.row b))))] (.u (.one (.d (.bool r)))) := (f_hood_Same a b r hm).pureW
theorem f_lifelike_letter (l : List Point) (r : (List UInt8) × Bool) (hm : m_lifelike_letter l = some r) : PFn Tryz.prog 107 [.u (.one (.d (.sl 2 (List.map Point.row l))))] (fun v => v.wk (.tup [.one (.d (.str (bs r.1))), .one (.d (.bool r.2))])) := by
 refine aH Tryz.func107 Tryz.ntmps107 rfl (by kernel_rfl) (by simp) fun cx hn => ?_
 unfold m_lifelike_letter at hm
 refine srs hn ?_
 simp -dsimp
 refine ae (ai ?_)
 refine srs hn ?_
 obtain ⟨y, h1, hm⟩ := bnd hm
 simp -dsimp
 refine aa (ef 1 y h1) (dkL hn) ?_
 obtain ⟨y1, h2, hm⟩ := bnd hm
 simp -dsimp
 refine aa (cZ l y y1 h2) (dkL hn) ?_
 simp -dsimp
 rcases aj hm with ⟨c3, hm⟩ | ⟨c3, hm⟩
 ·refine a8 (by simp -dsimp) c3 ?_
  refine srs hn ?_
  simp -dsimp [c3]
  refine ab (aL (ag ?_))
  cases hm
  refine ⟨.inr rfl, ?_⟩
  exact EE.here (by simp -dsimp)
 ·refine a7 (by simp -dsimp) c3 ?_
  refine srs hn ?_
  obtain ⟨y2, h4, hm⟩ := bnd hm
  simp -dsimp [c3]
  refine aa (dE 1 y2 h4) (dkL hn) ?_
  obtain ⟨y3, h5, hm⟩ := bnd hm
  simp -dsimp
  refine aa (cZ l y2 y3 h5) (dkL hn) ?_
  simp -dsimp
  rcases aj hm with ⟨c6, hm⟩ | ⟨c6, hm⟩
  ·refine a8 (by simp -dsimp) c6 ?_
   refine srs hn ?_
   simp -dsimp [c6]
   refine ab (aL (ag ?_))
   cases hm
   refine ⟨.inr rfl, ?_⟩
   exact EE.here (by simp -dsimp)
  ·refine a7 (by simp -dsimp) c6 ?_
   refine srs hn ?_
   obtain ⟨y4, h7, hm⟩ := bnd hm
   simp -dsimp [c6]
   refine aa (c_hood_Hex y4 h7) (dkL hn) ?_
   obtain ⟨y5, h8, hm⟩ := bnd hm
   simp -dsimp
   refine aa (cZ l y4 y5 h8) (dkL hn) ?_
   simp -dsimp
   rcases aj hm with ⟨c9, hm⟩ | ⟨c9, hm⟩
   ·refine a8 (by simp -dsimp) c9 ?_
    refine srs hn ?_
    simp -dsimp [c9]
    refine ab (aL (ag ?_))
    cases hm
    refine ⟨.inr rfl, ?_⟩
    exact EE.here (by simp -dsimp)
   ·refine a7 (by simp -dsimp) c9 ?_
    refine ac ?_
    refine aC ?_
    refine a6 ?_
    refine srs hn ?_
    simp -dsimp [c9]
    refine ab ?_
    cases hm
    refine ⟨.inr rfl, ?_⟩
    exact EE.here (by simp -dsimp)
theorem dL (l : List Point) (r : (List UInt8) × Bool) (hm : m_lifelike_letter l = some r) : PureCall Tryz.prog 107 [.u (.one (.d (.sl 2 (List.map Point.row l))))] (.tup [.one (.d (.str (bs r.1))), .one (.d (.bool r.2))]) := (f_lifelike_letter l r hm).pureW
theorem f_lifelike_Right (t : Totals) (r : Bool) (hm : m_lifelike_Right t = some r) : PFn Tryz.prog 64 [.u (.agg [.d (.sl 2 (List.map Point.row t.Hood)), .d (.int .i64 t.States), .d (.sl 1 (List.map (rI .i64) t.Birth)), .d (.sl 1 (List.map (rI .i64) t.Survive))])] (fun v => v.wk (.u (.one (.d (.bool r))))) := by
 refine aH Tryz.func64 Tryz.ntmps64 rfl (by kernel_rfl) (by simp) fun cx hn => ?_
 unfold m_lifelike_Right at hm
 refine srs hn ?_
 simp -dsimp
 refine srs hn ?_
 obtain ⟨y, h1, hm⟩ := bnd hm
 simp -dsimp
 refine aa (dL t.Hood y h1) (dkL hn) ?_
 simp -dsimp
 refine srs hn ?_
 simp -dsimp
 obtain ⟨a, j8, hm⟩ := bnd hm
 refine am [(2, .u (.one (.d (.bool a))))] [] (by rfl) (by rfl) ?_ fun ρ σ hf => ?_
 ·replace hm := j8
  clear j8
  refine sr1 hn ?_
  rcases aj hm with ⟨c2, hm⟩ | ⟨c2, hm⟩
  ·rcases aj hm with ⟨c3, hm⟩ | ⟨c3, hm⟩
   ·rcases aj hm with ⟨c4, hm⟩ | ⟨c4, hm⟩
    ·obtain ⟨y1, h5, hm⟩ := bnd hm
     simp -dsimp [c2, c3, c4]
     refine aa (cg t.Birth (aO .i64 (al t.Hood) 1) y1 h5) (dkL hn) ?_
     rcases aj hm with ⟨c6, hm⟩ | ⟨c6, hm⟩
     ·obtain ⟨y2, h7, hm⟩ := bnd hm
      simp -dsimp [c6]
      refine aa (cg t.Survive (aO .i64 (al t.Hood) 1) y2 h7) (dkL hn) ?_
      simp -dsimp
      refine a6 ?_
      cases hm
      exact EE.here (by simp -dsimp)
     ·simp -dsimp [c6]
      refine a6 ?_
      cases hm
      exact EE.here (by simp -dsimp)
    ·simp -dsimp [c2, c3, c4]
     refine a6 ?_
     cases hm
     exact EE.here (by simp -dsimp)
   ·simp -dsimp [c2, c3]
    refine a6 ?_
    cases hm
    exact EE.here (by simp -dsimp)
  ·simp -dsimp [c2]
   refine a6 ?_
   cases hm
   exact EE.here (by simp -dsimp)
 ·clear j8
  simp only [Fits, ar, ap, and_true] at hf
  refine ab ?_
  cases hm
  refine ⟨.inr rfl, ?_⟩
  exact EE.here (by simp -dsimp [hf])
theorem bg (t : Totals) (r : Bool) (hm : m_lifelike_Right t = some r) : PureCall Tryz.prog 64 [.u (.agg [.d (.sl 2 (List.map Point.row t.Hood)), .d (.int .i64 t.States), .d (.sl 1 (List.map (rI .i64) t.Birth)), .d (.sl 1 (List.map (rI .i64) t.Survive))])] (.u (.one (.d (.bool r)))) := (f_lifelike_Right t r hm).pureW
set_option maxRecDepth 100000 in
theorem f_lifelike_Parse (s : List UInt8) (r : Totals × Int) (hm : m_lifelike_Parse s = some r) : PFn Tryz.prog 24 [.u (.one (.d (.str (bs s))))] (fun v => v.wk (.tup [.agg [.d (.sl 2 (List.map Point.row r.1.Hood)), .d (.int .i64 r.1.States), .d (.sl 1 (List.map (rI .i64) r.1.Birth)), .d (.sl 1 (List.map (rI .i64) r.1.Survive))], .one (.d (.int .i64 r.2))])) := by
 refine aH Tryz.func24 Tryz.ntmps24 rfl (by kernel_rfl) (by simp) fun cx hn => ?_
 unfold m_lifelike_Parse at hm
 refine srs hn ?_
 simp -dsimp
 refine srs hn ?_
 obtain ⟨y, h1, hm⟩ := bnd hm
 simp -dsimp
 refine aa (bb s ([66] : List UInt8) y h1) (dkL hn) ?_
 simp -dsimp
 refine srs hn ?_
 obtain ⟨y1, h2, hm⟩ := bnd hm
 simp -dsimp
 refine aa (c_strings_Cut y.1 ([47, 83] : List UInt8) y1 h2) (dkL hn) ?_
 simp -dsimp
 refine ae ?_
 obtain ⟨a, j20, hm⟩ := bnd hm
 refine am [(2, .u (.one (.box 2 0))), (6, .u (.one (.d (.str (bs y1.1))))), (7, .u (.one (.d (.str (bs y1.2.1))))), (30, .u (.one (.d (.bool a))))] [(2, .box [.d .nil, .d (.int .i64 0), .d .nil, .d .nil])] (by rfl) (by rfl) ?_ fun ρ σ hf => ?_
 ·replace hm := j20
  clear j20
  refine sr1 hn ?_
  rcases aj hm with ⟨c3, hm⟩ | ⟨c3, hm⟩
  ·simp -dsimp [c3]
   refine a6 ?_
   cases hm
   exact EE.here (by simp -dsimp)
  ·simp -dsimp [c3]
   refine a6 ?_
   cases hm
   exact EE.here (by simp -dsimp)
 ·clear j20
  simp only [Fits, ar, ap, and_true] at hf
  rcases aj hm with ⟨c4, hm⟩ | ⟨c4, hm⟩
  ·refine a8 (by simp -dsimp [hf]) c4 ?_
   refine srs hn ?_
   simp -dsimp [hf]
   refine ab (ag ?_)
   cases hm
   refine ⟨.inr rfl, ?_⟩
   exact EE.here (by simp -dsimp [hf])
  ·refine a7 (by simp -dsimp [hf]) c4 ?_
   refine ac (a6 ?_)
   refine srs hn ?_
   obtain ⟨y2, h5, hm⟩ := bnd hm
   simp -dsimp
   refine aa (ef 1 y2 h5) (dkL hn) ?_
   simp -dsimp
   obtain ⟨⟨survive, tHood⟩, j19, hm⟩ := bnd hm
   refine am [(2, .u (.one (.box 2 0))), (6, .u (.one (.d (.str (bs y1.1))))), (7, .u (.one (.d (.str (bs survive))))), (9, .u (.one (.box 9 0)))] [(2, .box [.d .nil, .d (.int .i64 0), .d .nil, .d .nil]), (9, .box [.d (.sl 2 (List.map Point.row tHood)), .d (.int .i64 2), .d .nil, .d .nil])] (by rfl) (by rfl) ?_ fun ρ σ hf => ?_
   ·replace hm := j19
    clear j19
    refine srs hn ?_
    obtain ⟨y3, h6, hm⟩ := bnd hm
    simp -dsimp [hf]
    refine aa (bD y1.2.1 ([86] : List UInt8) y3 h6) (dkL hn) ?_
    simp -dsimp
    refine srs hn ?_
    simp -dsimp
    rcases aj hm with ⟨c7, hm⟩ | ⟨c7, hm⟩
    ·refine a8 (by simp -dsimp) c7 ?_
     refine sr1 hn ?_
     obtain ⟨y4, h8, hm⟩ := bnd hm
     simp -dsimp [c7]
     refine aa (dE 1 y4 h8) (dkL hn) ?_
     simp -dsimp
     refine a6 ?_
     cases hm
     exact EE.here (by simp -dsimp [hf])
    ·refine a7 (by simp -dsimp) c7 ?_
     refine srs hn ?_
     obtain ⟨y4, h9, hm⟩ := bnd hm
     simp -dsimp [hf, c7]
     refine aa (bD y1.2.1 ([72] : List UInt8) y4 h9) (dkL hn) ?_
     simp -dsimp
     refine srs hn ?_
     simp -dsimp
     rcases aj hm with ⟨c10, hm⟩ | ⟨c10, hm⟩
     ·refine a8 (by simp -dsimp) c10 ?_
      refine sr1 hn ?_
      obtain ⟨y5, h11, hm⟩ := bnd hm
      simp -dsimp [c10]
      refine aa (c_hood_Hex y5 h11) (dkL hn) ?_
      simp -dsimp
      refine a6 ?_
      cases hm
      exact EE.here (by simp -dsimp [hf])
     ·refine a7 (by simp -dsimp) c10 ?_
      refine ac (a6 ?_)
      cases hm
      exact EE.here (by simp -dsimp [hf, c10])
   ·clear j19
    simp only [Fits, ar, ap, and_true] at hf
    refine srs hn ?_
    obtain ⟨y3, h12, hm⟩ := bnd hm
    simp -dsimp [hf]
    refine aa (dR y1.1 y3 h12) (dkL hn) ?_
    simp -dsimp [hf]
    refine srs hn ?_
    obtain ⟨y4, h13, hm⟩ := bnd hm
    simp -dsimp [hf]
    refine aa (dR survive y4 h13) (dkL hn) ?_
    simp -dsimp [hf]
    refine ae ?_
    obtain ⟨a1, j18, hm⟩ := bnd hm
    refine am [(2, .u (.one (.box 2 0))), (9, .u (.one (.box 9 0))), (69, .u (.one (.d (.bool a1))))] [(2, .box [.d .nil, .d (.int .i64 0), .d .nil, .d .nil]), (9, .box [.d (.sl 2 (List.map Point.row tHood)), .d (.int .i64 2), .d (.sl 1 (List.map (rI .i64) y3.1)), .d (.sl 1 (List.map (rI .i64) y4.1))])] (by rfl) (by rfl) ?_ fun ρ σ hf => ?_
    ·replace hm := j18
     clear j18
     refine sr1 hn ?_
     rcases aj hm with ⟨c14, hm⟩ | ⟨c14, hm⟩
     ·simp -dsimp [c14]
      refine a6 ?_
      cases hm
      exact EE.here (by simp -dsimp [hf])
     ·simp -dsimp [c14]
      refine a6 ?_
      cases hm
      exact EE.here (by simp -dsimp [hf])
    ·clear j18
     simp only [Fits, ar, ap, and_true] at hf
     rcases aj hm with ⟨c15, hm⟩ | ⟨c15, hm⟩
     ·refine a8 (by simp -dsimp [hf]) c15 ?_
      refine srs hn ?_
      simp -dsimp [hf]
      refine ab (ag ?_)
      cases hm
      refine ⟨.inr rfl, ?_⟩
      exact EE.here (by simp -dsimp [hf])
     ·refine a7 (by simp -dsimp [hf]) c15 ?_
      refine ac (a6 (ae ?_))
      refine srs hn ?_
      obtain ⟨y5, h16, hm⟩ := bnd hm
      simp -dsimp [hf]
      refine aa (bg (⟨tHood, 2, y3.1, y4.1⟩ : Totals) y5 h16) (dkL hn) ?_
      simp -dsimp
      rcases aj hm with ⟨c17, hm⟩ | ⟨c17, hm⟩
      ·refine a8 (by simp -dsimp) c17 ?_
       refine srs hn ?_
       simp -dsimp [hf, c17]
       refine ab (ag ?_)
       cases hm
       refine ⟨.inr rfl, ?_⟩
       exact EE.here (by simp -dsimp [hf])
      ·refine a7 (by simp -dsimp) c17 ?_
       refine ac (a6 ?_)
       refine srs hn ?_
       simp -dsimp [hf, c17]
       refine ab ?_
       cases hm
       refine ⟨.inr rfl, ?_⟩
       exact EE.here (by simp -dsimp [hf])
theorem cU (s : List UInt8) (r : Totals × Int) (hm : m_lifelike_Parse s = some r) : PureCall Tryz.prog 24 [.u (.one (.d (.str (bs s))))] (.tup [.agg [.d (.sl 2 (List.map Point.row r.1.Hood)), .d (.int .i64 r.1.States), .d (.sl 1 (List.map (rI .i64) r.1.Birth)), .d (.sl 1 (List.map (rI .i64) r.1.Survive))], .one (.d (.int .i64 r.2))]) := (f_lifelike_Parse s r hm).pureW
theorem c_strings_Split (s sep : List UInt8) (r : List (List UInt8)) (hm : m_strings_Split s sep = some r) : PureCall Tryz.prog 65 [.u (.one (.d (.str (bs s)))), .u (.one (.d (.str (bs sep))))] (.u (.one (.d (.sl 1 (List.map rT r))))) := split_pure splitL (by kernel_rfl) (by kernel_rfl) rfl ⟨_, Tryz.func65, by decide, rfl⟩ hm
def aX (cx : Cx) (_l : List Int) (tt : ((List Int) × Bool) ⊕ (List Int)) (ee : Exit) (ρ : Env) (σ : Sto) : Prop := match tt with
 | .inl r => ee = .ret ∧ EE cx (fun ρ σ => ∃ v, cC tb ρ σ Tryz.f66.results.toList = some v ∧ (v.frz σ).free = true ∧ (v.frz σ).wk (.tup [.one (.d (.sl 1 (List.map (rI .i64) r.1))), .one (.d (.bool r.2))])) ρ σ
 | .inr out => ee = .exit 0 ∧ EE cx (aK [(4, .u (.one (.own 5000)))] [(5000, .row 1 3 (List.map (rI .i64) out))]) ρ σ
set_option maxRecDepth 100000 in
theorem ec (cx : Cx) (hn : cx.n = 45) (l : List Int) {fu : Nat} {stt : Int × (List Int)} {tt : ((List Int) × Bool) ⊕ (List Int)} (hh : ah (b_generations_digits_1 l) fu stt = some tt) {ρ : Env} {σ : Sto}
  (hE : aT (fun stt : Int × (List Int) => match stt with | (a, _out) => [(4, .u (.one (.own 5000))), (9, .u (.one (.d (.sl 1 (List.map (rI .u8) l))))), (10, .u (.one (.d (.int .i64 (al l))))), (11, .u (.one (.d (.int .i64 a))))]) (fun stt : Int × (List Int) => match stt with | (_a, out) => [(5000, .row 1 3 (List.map (rI .i64) out))]) stt ρ σ) : Swp Tryz.prog cx (.loop (bi [1, 1, 0, 1, 0, 0] (aG Tryz.f66))) ρ σ (aX cx l tt) := by
 refine b3 hE hh (aX cx l) ?_
 rintro ⟨a, out⟩ r hm ρ σ hf
 simp only [Fits, ar, ap, and_true] at hf
 unfold b_generations_digits_1 at hm
 dsimp only at hm
 refine srs hn ?_
 simp -dsimp [hf]
 refine ae ?_
 rcases aj hm with ⟨c2, hm⟩ | ⟨c2, hm⟩
 ·refine a8 (by simp -dsimp) c2 ?_
  refine ac (a6 (ae (ai ?_)))
  refine srs hn ?_
  obtain ⟨x, h3, hm⟩ := bnd hm
  simp -dsimp [hf, c2, h3]
  refine srs hn ?_
  simp -dsimp
  refine ae ?_
  obtain ⟨a1, j10, hm⟩ := bnd hm
  refine am [(4, .u (.one (.own 5000))), (7, .u (.one (.d (.int .i64 (aO .i64 (be .i64 x) 48))))), (9, .u (.one (.d (.sl 1 (List.map (rI .u8) l))))), (10, .u (.one (.d (.int .i64 (al l))))), (11, .u (.one (.d (.int .i64 a)))), (38, .u (.one (.d (.bool a1))))] [(5000, .row 1 3 (List.map (rI .i64) out))] (by rfl) (by rfl) ?_ fun ρ σ hf => ?_
  ·replace hm := j10
   clear j10
   refine sr1 hn ?_
   rcases aj hm with ⟨c4, hm⟩ | ⟨c4, hm⟩
   ·simp -dsimp [c4]
    refine a6 ?_
    cases hm
    exact EE.here (by simp -dsimp [hf])
   ·rcases aj hm with ⟨c5, hm⟩ | ⟨c5, hm⟩
    ·simp -dsimp [c4, c5]
     refine a6 ?_
     cases hm
     exact EE.here (by simp -dsimp [hf])
    ·rcases aj hm with ⟨c6, hm⟩ | ⟨c6, hm⟩
     ·obtain ⟨x1, h7, hm⟩ := bnd hm
      simp -dsimp [hf, c4, c5, c6, h7, aN h7]
      refine a6 ?_
      cases hm
      exact EE.here (by simp -dsimp [hf])
     ·simp -dsimp [hf, c4, c5, c6]
      refine a6 ?_
      cases hm
      exact EE.here (by simp -dsimp [hf])
  ·clear j10
   simp only [Fits, ar, ap, and_true] at hf
   rcases aj hm with ⟨c8, hm⟩ | ⟨c8, hm⟩
   ·refine a8 (by simp -dsimp [hf]) c8 ?_
    refine srs hn ?_
    simp -dsimp
    refine ab (ag (aL (ag ?_)))
    cases hm
    refine aw nofun ?_
    unfold aX
    dsimp only
    refine ⟨rfl, ?_⟩
    exact EE.here (by simp -dsimp [Tryz.results66])
   ·refine a7 (by simp -dsimp [hf]) c8 ?_
    refine ac (a6 ?_)
    refine sr1 hn ?_
    obtain ⟨l1, h9, hm⟩ := bnd hm
    obtain ⟨h9a, h9e⟩ := aB h9
    replace h9e := h9e.symm
    subst h9e
    try simp only [List.length_cons, List.length_nil, Nat.zero_add] at h9a
    simp -dsimp [hf, h9a]
    refine aC ?_
    refine a6 ?_
    refine sr1 hn ?_
    simp -dsimp [hf]
    cases hm
    refine ax ?_
    refine EE.step (Wk.move 42 5000 (by decide) (.inl (by decide))) ?_
    exact EE.here (by simp -dsimp [hf])
 ·refine a7 (by simp -dsimp) c2 ?_
  refine au ?_
  refine ag ?_
  cases hm
  refine aw nofun ?_
  unfold aX
  dsimp only
  refine ⟨rfl, ?_⟩
  exact EE.here (by simp -dsimp [hf, c2])
set_option maxRecDepth 100000 in
theorem f_generations_digits (s : List UInt8) (r : (List Int) × Bool) (hm : m_generations_digits s = some r) : PFn Tryz.prog 66 [.u (.one (.d (.str (bs s))))] (fun v => v.wk (.tup [.one (.d (.sl 1 (List.map (rI .i64) r.1))), .one (.d (.bool r.2))])) := by
 refine aH Tryz.func66 Tryz.ntmps66 rfl (by kernel_rfl) (by simp) fun cx hn => ?_
 unfold m_generations_digits at hm
 refine srs hn ?_
 simp -dsimp
 refine srs hn ?_
 simp -dsimp
 refine ae ?_
 refine srs hn ?_
 obtain ⟨l, h1, hm⟩ := bnd hm
 simp -dsimp [h1]
 refine ai ?_
 obtain ⟨o_, g11, hm⟩ := bnd hm
 refine aF (ec cx hn l g11) (by
   try dsimp only
   refine EE.step (Wk.own0 4 5000 1 3 (by simp -dsimp) (by decide)) ?_
   exact EE.here (by simp -dsimp)
 ) fun ee ρ σ x12 => ?_
 rcases o_ with r | out
 ·unfold aX at x12
  dsimp only at x12
  obtain ⟨rfl, x12⟩ := x12
  refine aL (ag ?_)
  cases hm
  exact ⟨.inr rfl, x12⟩
 ·unfold aX at x12
  dsimp only at x12
  obtain ⟨rfl, x12⟩ := x12
  refine av ?_
  refine a6 ?_
  refine aV (by rfl) (by rfl) x12 fun ρ σ hf => ?_
  simp only [Fits, ar, ap, and_true] at hf
  refine srs hn ?_
  simp -dsimp [hf]
  refine ab ?_
  cases hm
  refine ⟨.inr rfl, ?_⟩
  exact EE.here (by simp -dsimp [hf])
theorem bw (s : List UInt8) (r : (List Int) × Bool) (hm : m_generations_digits s = some r) : PureCall Tryz.prog 66 [.u (.one (.d (.str (bs s))))] (.tup [.one (.d (.sl 1 (List.map (rI .i64) r.1))), .one (.d (.bool r.2))]) := (f_generations_digits s r hm).pureW
def aW (cx : Cx) (s : List UInt8) (_l : List Int) (tt : Bool ⊕ Unit) (ee : Exit) (ρ : Env) (σ : Sto) : Prop := match tt with
 | .inl r => ee = .ret ∧ EE cx (fun ρ σ => ∃ v, cC tb ρ σ Tryz.f67.results.toList = some v ∧ (v.frz σ).free = true ∧ (v.frz σ).wk (.u (.one (.d (.bool r))))) ρ σ
 | .inr _u => ee = .exit 0 ∧ EE cx (aK [(0, .u (.one (.d (.str (bs s)))))] []) ρ σ
theorem eq (cx : Cx) (hn : cx.n = 32) (s : List UInt8) (l : List Int) {fu : Nat} {stt : Int} {tt : Bool ⊕ Unit} (hh : ah (b_generations_number_1 s l) fu stt = some tt) {ρ : Env} {σ : Sto}
  (hE : aT (fun a : Int => [(0, .u (.one (.d (.str (bs s))))), (6, .u (.one (.d (.sl 1 (List.map (rI .u8) l))))), (7, .u (.one (.d (.int .i64 (al l))))), (8, .u (.one (.d (.int .i64 a))))]) (fun _a : Int => []) stt ρ σ) : Swp Tryz.prog cx (.loop (bi [1, 0, 1, 0, 0] (aG Tryz.f67))) ρ σ (aW cx s l tt) := by
 refine b3 hE hh (aW cx s l) ?_
 rintro a r hm ρ σ hf
 simp only [Fits, ar, ap, and_true] at hf
 unfold b_generations_number_1 at hm
 dsimp only at hm
 refine srs hn ?_
 simp -dsimp [hf]
 refine ae ?_
 rcases aj hm with ⟨c2, hm⟩ | ⟨c2, hm⟩
 ·refine a8 (by simp -dsimp) c2 ?_
  refine ac (a6 (ae (ai ?_)))
  refine srs hn ?_
  obtain ⟨x, h3, hm⟩ := bnd hm
  simp -dsimp [hf, c2, h3]
  obtain ⟨a1, j6, hm⟩ := bnd hm
  refine am [(0, .u (.one (.d (.str (bs s))))), (6, .u (.one (.d (.sl 1 (List.map (rI .u8) l))))), (7, .u (.one (.d (.int .i64 (al l))))), (8, .u (.one (.d (.int .i64 a)))), (17, .u (.one (.d (.bool a1))))] [] (by rfl) (by rfl) ?_ fun ρ σ hf => ?_
  ·replace hm := j6
   clear j6
   refine sr1 hn ?_
   rcases aj hm with ⟨c4, hm⟩ | ⟨c4, hm⟩
   ·simp -dsimp [c4]
    refine a6 ?_
    cases hm
    exact EE.here (by simp -dsimp [hf])
   ·simp -dsimp [c4]
    refine a6 ?_
    cases hm
    exact EE.here (by simp -dsimp [hf])
  ·clear j6
   simp only [Fits, ar, ap, and_true] at hf
   rcases aj hm with ⟨c5, hm⟩ | ⟨c5, hm⟩
   ·refine a8 (by simp -dsimp [hf]) c5 ?_
    refine srs hn ?_
    simp -dsimp
    refine ab (aL (ag ?_))
    cases hm
    refine aw nofun ?_
    unfold aW
    dsimp only
    refine ⟨rfl, ?_⟩
    exact EE.here (by simp -dsimp [Tryz.results67])
   ·refine a7 (by simp -dsimp [hf]) c5 ?_
    refine ac ?_
    refine aC ?_
    refine a6 ?_
    refine sr1 hn ?_
    simp -dsimp [hf]
    cases hm
    refine ax ?_
    exact EE.here (by simp -dsimp [hf])
 ·refine a7 (by simp -dsimp) c2 ?_
  refine au ?_
  refine ag ?_
  cases hm
  refine aw nofun ?_
  unfold aW
  dsimp only
  refine ⟨rfl, ?_⟩
  exact EE.here (by simp -dsimp [hf, c2])
theorem f_generations_number (s : List UInt8) (r : Bool) (hm : m_generations_number s = some r) : PFn Tryz.prog 67 [.u (.one (.d (.str (bs s))))] (fun v => v.wk (.u (.one (.d (.bool r))))) := by
 refine aH Tryz.func67 Tryz.ntmps67 rfl (by kernel_rfl) (by simp) fun cx hn => ?_
 unfold m_generations_number at hm
 refine srs hn ?_
 simp -dsimp
 refine ae ?_
 refine srs hn ?_
 obtain ⟨l, h1, hm⟩ := bnd hm
 simp -dsimp [h1]
 refine ai ?_
 obtain ⟨o_, g7, hm⟩ := bnd hm
 refine aF (eq cx hn s l g7) (by
   try dsimp only
   exact EE.here (by simp -dsimp)
 ) fun ee ρ σ x8 => ?_
 rcases o_ with r | _u
 ·unfold aW at x8
  dsimp only at x8
  obtain ⟨rfl, x8⟩ := x8
  refine aL (ag ?_)
  cases hm
  exact ⟨.inr rfl, x8⟩
 ·unfold aW at x8
  dsimp only at x8
  obtain ⟨rfl, x8⟩ := x8
  refine av ?_
  refine a6 ?_
  refine aV (by rfl) (by rfl) x8 fun ρ σ hf => ?_
  simp only [Fits, ar, ap, and_true] at hf
  obtain ⟨a, j12, hm⟩ := bnd hm
  refine am [(2, .u (.one (.d (.bool a))))] [] (by rfl) (by rfl) ?_ fun ρ σ hf => ?_
  ·replace hm := j12
   clear j12
   refine sr1 hn ?_
   rcases aj hm with ⟨c9, hm⟩ | ⟨c9, hm⟩
   ·rcases aj hm with ⟨c10, hm⟩ | ⟨c10, hm⟩
    ·obtain ⟨b, h11, hm⟩ := bnd hm
     simp -dsimp [hf, c9, c10, h11]
     refine a6 ?_
     cases hm
     exact EE.here (by simp -dsimp)
    ·simp -dsimp [hf, c9, c10]
     refine a6 ?_
     cases hm
     exact EE.here (by simp -dsimp)
   ·simp -dsimp [hf, c9]
    refine a6 ?_
    cases hm
    exact EE.here (by simp -dsimp)
  ·clear j12
   simp only [Fits, ar, ap, and_true] at hf
   refine ab ?_
   cases hm
   refine ⟨.inr rfl, ?_⟩
   exact EE.here (by simp -dsimp [hf])
theorem d4 (s : List UInt8) (r : Bool) (hm : m_generations_number s = some r) : PureCall Tryz.prog 67 [.u (.one (.d (.str (bs s))))] (.u (.one (.d (.bool r)))) := (f_generations_number s r hm).pureW
theorem dv (s : List UInt8) (r : Int) (hm : m_strconv_Atoi s = some r) : PureCall Tryz.prog 68 [.u (.one (.d (.str (bs s))))] (.tup [.one (.d (.int .i64 r)), .one (.d .ni)]) := atoi_pure atoiL rfl ⟨_, Tryz.func68, by decide, rfl⟩ hm
set_option maxRecDepth 100000 in
theorem f_generations_Parse (s : List UInt8) (r : Totals × Int) (hm : m_generations_Parse s = some r) : PFn Tryz.prog 25 [.u (.one (.d (.str (bs s))))] (fun v => v.wk (.tup [.agg [.d (.sl 2 (List.map Point.row r.1.Hood)), .d (.int .i64 r.1.States), .d (.sl 1 (List.map (rI .i64) r.1.Birth)), .d (.sl 1 (List.map (rI .i64) r.1.Survive))], .one (.d (.int .i64 r.2))])) := by
 refine aH Tryz.func25 Tryz.ntmps25 rfl (by kernel_rfl) (by simp) fun cx hn => ?_
 unfold m_generations_Parse at hm
 refine srs hn ?_
 simp -dsimp
 refine srs hn ?_
 obtain ⟨y, h1, hm⟩ := bnd hm
 simp -dsimp
 refine aa (ef 1 y h1) (dkL hn) ?_
 simp -dsimp
 obtain ⟨⟨s1, tHood⟩, j50, hm⟩ := bnd hm
 refine am [(0, .u (.one (.d (.str (bs s1))))), (2, .u (.one (.box 2 0))), (4, .u (.one (.box 4 0)))] [(2, .box [.d .nil, .d (.int .i64 0), .d .nil, .d .nil]), (4, .box [.d (.sl 2 (List.map Point.row tHood)), .d (.int .i64 0), .d .nil, .d .nil])] (by rfl) (by rfl) ?_ fun ρ σ hf => ?_
 ·replace hm := j50
  clear j50
  refine srs hn ?_
  obtain ⟨y1, h2, hm⟩ := bnd hm
  simp -dsimp
  refine aa (bD s ([86] : List UInt8) y1 h2) (dkL hn) ?_
  simp -dsimp
  refine srs hn ?_
  simp -dsimp
  rcases aj hm with ⟨c3, hm⟩ | ⟨c3, hm⟩
  ·refine a8 (by simp -dsimp) c3 ?_
   refine sr1 hn ?_
   obtain ⟨y2, h4, hm⟩ := bnd hm
   simp -dsimp [c3]
   refine aa (dE 1 y2 h4) (dkL hn) ?_
   simp -dsimp
   refine a6 ?_
   cases hm
   exact EE.here (by simp -dsimp)
  ·refine a7 (by simp -dsimp) c3 ?_
   refine srs hn ?_
   obtain ⟨y2, h5, hm⟩ := bnd hm
   simp -dsimp [c3]
   refine aa (bD s ([72] : List UInt8) y2 h5) (dkL hn) ?_
   simp -dsimp
   refine srs hn ?_
   simp -dsimp
   rcases aj hm with ⟨c6, hm⟩ | ⟨c6, hm⟩
   ·refine a8 (by simp -dsimp) c6 ?_
    refine sr1 hn ?_
    obtain ⟨y3, h7, hm⟩ := bnd hm
    simp -dsimp [c6]
    refine aa (c_hood_Hex y3 h7) (dkL hn) ?_
    simp -dsimp
    refine a6 ?_
    cases hm
    exact EE.here (by simp -dsimp)
   ·refine a7 (by simp -dsimp) c6 ?_
    refine ac (a6 ?_)
    cases hm
    exact EE.here (by simp -dsimp [c6])
 ·clear j50
  simp only [Fits, ar, ap, and_true] at hf
  refine srs hn ?_
  obtain ⟨y1, h8, hm⟩ := bnd hm
  simp -dsimp [hf]
  refine aa (c_strings_Split s1 ([47] : List UInt8) y1 h8) (dkL hn) ?_
  simp -dsimp
  refine ae ?_
  refine srs hn ?_
  simp -dsimp
  rcases aj hm with ⟨c9, hm⟩ | ⟨c9, hm⟩
  ·refine a8 (by simp -dsimp) c9 ?_
   refine srs hn ?_
   simp -dsimp [hf, c9]
   refine ab (ag ?_)
   cases hm
   refine ⟨.inr rfl, ?_⟩
   exact EE.here (by simp -dsimp [hf])
  ·refine a7 (by simp -dsimp) c9 ?_
   refine ac (a6 ?_)
   refine dV aM mixed (by rw [hn]; kernel_rfl) ?_
   obtain ⟨x, h10, hm⟩ := bnd hm
   obtain ⟨x1, h11, hm⟩ := bnd hm
   obtain ⟨x2, h12, hm⟩ := bnd hm
   simp -dsimp [c9, h10, h11, h12]
   refine ae ?_
   refine srs hn ?_
   obtain ⟨y2, h13, hm⟩ := bnd hm
   simp -dsimp [hf]
   refine aa (bb s1 ([66] : List UInt8) y2 h13) (dkL hn) ?_
   simp -dsimp
   refine srs hn ?_
   simp -dsimp
   rcases aj hm with ⟨c14, hm⟩ | ⟨c14, hm⟩
   ·refine a8 (by simp -dsimp) c14 ?_
    refine srs hn ?_
    obtain ⟨y3, h15, hm⟩ := bnd hm
    simp -dsimp [c14]
    refine aa (c_strings_Split y2.1 ([47] : List UInt8) y3 h15) (dkL hn) ?_
    simp -dsimp
    refine srs hn ?_
    obtain ⟨x3, h16, hm⟩ := bnd hm
    obtain ⟨y4, h17, hm⟩ := bnd hm
    simp -dsimp [h16]
    refine aa (bb x3 ([83] : List UInt8) y4 h17) (dkL hn) ?_
    simp -dsimp
    refine srs hn ?_
    obtain ⟨x4, h18, hm⟩ := bnd hm
    obtain ⟨y5, h19, hm⟩ := bnd hm
    simp -dsimp [h18]
    refine aa (bb x4 ([67] : List UInt8) y5 h19) (dkL hn) ?_
    simp -dsimp
    refine ae ?_
    obtain ⟨a, j36, hm⟩ := bnd hm
    refine am [(2, .u (.one (.box 2 0))), (4, .u (.one (.box 4 0))), (9, .u (.one (.d (.sl 1 (List.map rT y3))))), (15, .u (.one (.d (.str (bs y4.1))))), (17, .u (.one (.d (.str (bs y5.1))))), (85, .u (.one (.d (.bool a))))] [(2, .box [.d .nil, .d (.int .i64 0), .d .nil, .d .nil]), (4, .box [.d (.sl 2 (List.map Point.row tHood)), .d (.int .i64 0), .d .nil, .d .nil])] (by rfl) (by rfl) ?_ fun ρ σ hf => ?_
    ·replace hm := j36
     clear j36
     refine sr1 hn ?_
     rcases aj hm with ⟨c20, hm⟩ | ⟨c20, hm⟩
     ·simp -dsimp [c20]
      refine a6 ?_
      cases hm
      exact EE.here (by simp -dsimp [hf])
     ·simp -dsimp [c20]
      refine a6 ?_
      cases hm
      exact EE.here (by simp -dsimp [hf])
    ·clear j36
     simp only [Fits, ar, ap, and_true] at hf
     rcases aj hm with ⟨c21, hm⟩ | ⟨c21, hm⟩
     ·refine a8 (by simp -dsimp [hf]) c21 ?_
      refine srs hn ?_
      simp -dsimp [hf]
      refine ab (ag (ag ?_))
      cases hm
      refine ⟨.inr rfl, ?_⟩
      exact EE.here (by simp -dsimp [hf])
     ·refine a7 (by simp -dsimp [hf]) c21 ?_
      refine ac (a6 ?_)
      refine sr1 hn ?_
      obtain ⟨x5, h22, hm⟩ := bnd hm
      simp -dsimp [hf, h22]
      refine a6 ?_
      refine srs hn ?_
      obtain ⟨y6, h23, hm⟩ := bnd hm
      simp -dsimp
      refine aa (bw x5 y6 h23) (dkL hn) ?_
      simp -dsimp
      refine srs hn ?_
      obtain ⟨y7, h24, hm⟩ := bnd hm
      simp -dsimp
      refine aa (bw y4.1 y7 h24) (dkL hn) ?_
      simp -dsimp
      refine ae ?_
      obtain ⟨a1, j35, hm⟩ := bnd hm
      refine am [(2, .u (.one (.box 2 0))), (4, .u (.one (.box 4 0))), (12, .u (.one (.d (.str (bs y5.1))))), (19, .u (.one (.d (.sl 1 (List.map (rI .i64) y6.1))))), (21, .u (.one (.d (.sl 1 (List.map (rI .i64) y7.1))))), (112, .u (.one (.d (.bool a1))))] [(2, .box [.d .nil, .d (.int .i64 0), .d .nil, .d .nil]), (4, .box [.d (.sl 2 (List.map Point.row tHood)), .d (.int .i64 0), .d .nil, .d .nil])] (by rfl) (by rfl) ?_ fun ρ σ hf => ?_
      ·replace hm := j35
       clear j35
       refine sr1 hn ?_
       rcases aj hm with ⟨c25, hm⟩ | ⟨c25, hm⟩
       ·simp -dsimp [c25]
        refine a6 ?_
        cases hm
        exact EE.here (by simp -dsimp [hf])
       ·rcases aj hm with ⟨c26, hm⟩ | ⟨c26, hm⟩
        ·simp -dsimp [c25, c26]
         refine a6 ?_
         cases hm
         exact EE.here (by simp -dsimp [hf])
        ·obtain ⟨y8, h27, hm⟩ := bnd hm
         simp -dsimp [c25, c26]
         refine aa (d4 y5.1 y8 h27) (dkL hn) ?_
         simp -dsimp
         refine a6 ?_
         cases hm
         exact EE.here (by simp -dsimp [hf])
      ·clear j35
       simp only [Fits, ar, ap, and_true] at hf
       rcases aj hm with ⟨c28, hm⟩ | ⟨c28, hm⟩
       ·refine a8 (by simp -dsimp [hf]) c28 ?_
        refine srs hn ?_
        simp -dsimp [hf]
        refine ab (ag ?_)
        cases hm
        refine ⟨.inr rfl, ?_⟩
        exact EE.here (by simp -dsimp [hf])
       ·refine a7 (by simp -dsimp [hf]) c28 ?_
        refine ac (a6 ?_)
        refine srs hn ?_
        obtain ⟨y8, h29, hm⟩ := bnd hm
        simp -dsimp [hf]
        refine aa (dv y5.1 y8 h29) (dkL hn) ?_
        simp -dsimp [hf]
        refine srs hn ?_
        simp -dsimp [hf]
        refine ae ?_
        obtain ⟨a2, j34, hm⟩ := bnd hm
        refine am [(2, .u (.one (.box 2 0))), (4, .u (.one (.box 4 0))), (136, .u (.one (.d (.bool a2))))] [(2, .box [.d .nil, .d (.int .i64 0), .d .nil, .d .nil]), (4, .box [.d (.sl 2 (List.map Point.row tHood)), .d (.int .i64 y8), .d (.sl 1 (List.map (rI .i64) y6.1)), .d (.sl 1 (List.map (rI .i64) y7.1))])] (by rfl) (by rfl) ?_ fun ρ σ hf => ?_
        ·replace hm := j34
         clear j34
         refine sr1 hn ?_
         rcases aj hm with ⟨c30, hm⟩ | ⟨c30, hm⟩
         ·simp -dsimp [hf, c30]
          refine a6 ?_
          cases hm
          exact EE.here (by simp -dsimp [hf])
         ·rcases aj hm with ⟨c31, hm⟩ | ⟨c31, hm⟩
          ·simp -dsimp [hf, c30, c31]
           refine a6 ?_
           cases hm
           exact EE.here (by simp -dsimp [hf])
          ·obtain ⟨y9, h32, hm⟩ := bnd hm
           simp -dsimp [hf, c30, c31]
           refine aa (bg (⟨tHood, y8, y6.1, y7.1⟩ : Totals) y9 h32) (dkL hn) ?_
           simp -dsimp
           refine a6 ?_
           cases hm
           exact EE.here (by simp -dsimp [hf])
        ·clear j34
         simp only [Fits, ar, ap, and_true] at hf
         rcases aj hm with ⟨c33, hm⟩ | ⟨c33, hm⟩
         ·refine a8 (by simp -dsimp [hf]) c33 ?_
          refine srs hn ?_
          simp -dsimp [hf]
          refine ab (ag ?_)
          cases hm
          refine ⟨.inr rfl, ?_⟩
          exact EE.here (by simp -dsimp [hf])
         ·refine a7 (by simp -dsimp [hf]) c33 ?_
          refine ac (a6 ?_)
          refine srs hn ?_
          simp -dsimp [hf]
          refine ab ?_
          cases hm
          refine ⟨.inr rfl, ?_⟩
          exact EE.here (by simp -dsimp [hf])
   ·refine a7 (by simp -dsimp) c14 ?_
    refine ac (a6 ?_)
    refine srs hn ?_
    obtain ⟨y3, h37, hm⟩ := bnd hm
    simp -dsimp [c14]
    refine aa (bw x y3 h37) (dkL hn) ?_
    simp -dsimp
    refine srs hn ?_
    obtain ⟨y4, h38, hm⟩ := bnd hm
    simp -dsimp
    refine aa (bw x1 y4 h38) (dkL hn) ?_
    simp -dsimp
    refine ae ?_
    obtain ⟨a, j49, hm⟩ := bnd hm
    refine am [(2, .u (.one (.box 2 0))), (4, .u (.one (.box 4 0))), (12, .u (.one (.d (.str (bs x2))))), (19, .u (.one (.d (.sl 1 (List.map (rI .i64) y3.1))))), (21, .u (.one (.d (.sl 1 (List.map (rI .i64) y4.1))))), (112, .u (.one (.d (.bool a))))] [(2, .box [.d .nil, .d (.int .i64 0), .d .nil, .d .nil]), (4, .box [.d (.sl 2 (List.map Point.row tHood)), .d (.int .i64 0), .d .nil, .d .nil])] (by rfl) (by rfl) ?_ fun ρ σ hf => ?_
    ·replace hm := j49
     clear j49
     refine sr1 hn ?_
     rcases aj hm with ⟨c39, hm⟩ | ⟨c39, hm⟩
     ·simp -dsimp [c39]
      refine a6 ?_
      cases hm
      exact EE.here (by simp -dsimp [hf])
     ·rcases aj hm with ⟨c40, hm⟩ | ⟨c40, hm⟩
      ·simp -dsimp [c39, c40]
       refine a6 ?_
       cases hm
       exact EE.here (by simp -dsimp [hf])
      ·obtain ⟨y5, h41, hm⟩ := bnd hm
       simp -dsimp [c39, c40]
       refine aa (d4 x2 y5 h41) (dkL hn) ?_
       simp -dsimp
       refine a6 ?_
       cases hm
       exact EE.here (by simp -dsimp [hf])
    ·clear j49
     simp only [Fits, ar, ap, and_true] at hf
     rcases aj hm with ⟨c42, hm⟩ | ⟨c42, hm⟩
     ·refine a8 (by simp -dsimp [hf]) c42 ?_
      refine srs hn ?_
      simp -dsimp [hf]
      refine ab (ag ?_)
      cases hm
      refine ⟨.inr rfl, ?_⟩
      exact EE.here (by simp -dsimp [hf])
     ·refine a7 (by simp -dsimp [hf]) c42 ?_
      refine ac (a6 ?_)
      refine srs hn ?_
      obtain ⟨y5, h43, hm⟩ := bnd hm
      simp -dsimp [hf]
      refine aa (dv x2 y5 h43) (dkL hn) ?_
      simp -dsimp [hf]
      refine srs hn ?_
      simp -dsimp [hf]
      refine ae ?_
      obtain ⟨a1, j48, hm⟩ := bnd hm
      refine am [(2, .u (.one (.box 2 0))), (4, .u (.one (.box 4 0))), (136, .u (.one (.d (.bool a1))))] [(2, .box [.d .nil, .d (.int .i64 0), .d .nil, .d .nil]), (4, .box [.d (.sl 2 (List.map Point.row tHood)), .d (.int .i64 y5), .d (.sl 1 (List.map (rI .i64) y3.1)), .d (.sl 1 (List.map (rI .i64) y4.1))])] (by rfl) (by rfl) ?_ fun ρ σ hf => ?_
      ·replace hm := j48
       clear j48
       refine sr1 hn ?_
       rcases aj hm with ⟨c44, hm⟩ | ⟨c44, hm⟩
       ·simp -dsimp [hf, c44]
        refine a6 ?_
        cases hm
        exact EE.here (by simp -dsimp [hf])
       ·rcases aj hm with ⟨c45, hm⟩ | ⟨c45, hm⟩
        ·simp -dsimp [hf, c44, c45]
         refine a6 ?_
         cases hm
         exact EE.here (by simp -dsimp [hf])
        ·obtain ⟨y6, h46, hm⟩ := bnd hm
         simp -dsimp [hf, c44, c45]
         refine aa (bg (⟨tHood, y5, y3.1, y4.1⟩ : Totals) y6 h46) (dkL hn) ?_
         simp -dsimp
         refine a6 ?_
         cases hm
         exact EE.here (by simp -dsimp [hf])
      ·clear j48
       simp only [Fits, ar, ap, and_true] at hf
       rcases aj hm with ⟨c47, hm⟩ | ⟨c47, hm⟩
       ·refine a8 (by simp -dsimp [hf]) c47 ?_
        refine srs hn ?_
        simp -dsimp [hf]
        refine ab (ag ?_)
        cases hm
        refine ⟨.inr rfl, ?_⟩
        exact EE.here (by simp -dsimp [hf])
       ·refine a7 (by simp -dsimp [hf]) c47 ?_
        refine ac (a6 ?_)
        refine srs hn ?_
        simp -dsimp [hf]
        refine ab ?_
        cases hm
        refine ⟨.inr rfl, ?_⟩
        exact EE.here (by simp -dsimp [hf])
theorem bU (s : List UInt8) (r : Totals × Int) (hm : m_generations_Parse s = some r) : PureCall Tryz.prog 25 [.u (.one (.d (.str (bs s))))] (.tup [.agg [.d (.sl 2 (List.map Point.row r.1.Hood)), .d (.int .i64 r.1.States), .d (.sl 1 (List.map (rI .i64) r.1.Birth)), .d (.sl 1 (List.map (rI .i64) r.1.Survive))], .one (.d (.int .i64 r.2))]) := (f_generations_Parse s r hm).pureW
set_option maxRecDepth 20000 in
theorem c_strings_Trim (s cs : List UInt8) (r : List UInt8) (hm : m_strings_Trim s cs = some r) : PureCall Tryz.prog 136 [.u (.one (.d (.str (bs s)))), .u (.one (.d (.str (bs cs))))] (.u (.one (.d (.str (bs r))))) := trim_pure trimL (by intro w; exact (Tryz.zeroValue204 w).trans (by rfl)) (by kernel_rfl) rfl ⟨_, Tryz.func136, by decide, rfl⟩ hm
theorem f_wolfram_number (s : List UInt8) (r : Int × Bool × Bool) (hm : m_wolfram_number s = some r) : PFn Tryz.prog 75 [.u (.one (.d (.str (bs s))))] (fun v => v.wk (.tup [.one (.d (.int .i64 r.1)), .one (.d (.bool r.2.1)), .one (.d (.bool r.2.2))])) := by
 refine aH Tryz.func75 Tryz.ntmps75 rfl (by kernel_rfl) (by simp) fun cx hn => ?_
 unfold m_wolfram_number at hm
 refine srs hn ?_
 simp -dsimp
 refine ae ?_
 obtain ⟨a, j9, hm⟩ := bnd hm
 refine am [(0, .u (.one (.d (.str (bs s))))), (22, .u (.one (.d (.bool a))))] [] (by rfl) (by rfl) ?_ fun ρ σ hf => ?_
 ·replace hm := j9
  clear j9
  refine sr1 hn ?_
  rcases aj hm with ⟨c1, hm⟩ | ⟨c1, hm⟩
  ·simp -dsimp [c1]
   refine a6 ?_
   cases hm
   exact EE.here (by simp -dsimp)
  ·rcases aj hm with ⟨c2, hm⟩ | ⟨c2, hm⟩
   ·obtain ⟨b, h3, hm⟩ := bnd hm
    rcases aj hm with ⟨c4, hm⟩ | ⟨c4, hm⟩
    ·simp -dsimp [c1, c2, h3, c4]
     refine a6 ?_
     cases hm
     exact EE.here (by simp -dsimp)
    ·obtain ⟨y, h5, hm⟩ := bnd hm
     simp -dsimp [c1, c2, h3, c4]
     refine aa (c_strings_Trim s ([48, 49, 50, 51, 52, 53, 54, 55, 56, 57] : List UInt8) y h5) (dkL hn) ?_
     simp -dsimp
     refine a6 ?_
     cases hm
     exact EE.here (by simp -dsimp)
   ·obtain ⟨y, h6, hm⟩ := bnd hm
    simp -dsimp [c1, c2]
    refine aa (c_strings_Trim s ([48, 49, 50, 51, 52, 53, 54, 55, 56, 57] : List UInt8) y h6) (dkL hn) ?_
    simp -dsimp
    refine a6 ?_
    cases hm
    exact EE.here (by simp -dsimp)
 ·clear j9
  simp only [Fits, ar, ap, and_true] at hf
  rcases aj hm with ⟨c7, hm⟩ | ⟨c7, hm⟩
  ·refine a8 (by simp -dsimp [hf]) c7 ?_
   refine srs hn ?_
   simp -dsimp
   refine ab (ag ?_)
   cases hm
   refine ⟨.inr rfl, ?_⟩
   exact EE.here (by simp -dsimp)
  ·refine a7 (by simp -dsimp [hf]) c7 ?_
   refine ac (a6 ?_)
   refine srs hn ?_
   obtain ⟨y, h8, hm⟩ := bnd hm
   simp -dsimp [hf]
   refine aa (dv s y h8) (dkL hn) ?_
   simp -dsimp
   refine dV aM mixed (by rw [hn]; kernel_rfl) ?_
   simp -dsimp
   refine ab ?_
   cases hm
   refine ⟨.inr rfl, ?_⟩
   exact EE.here (by simp -dsimp)
theorem cT (s : List UInt8) (r : Int × Bool × Bool) (hm : m_wolfram_number s = some r) : PureCall Tryz.prog 75 [.u (.one (.d (.str (bs s))))] (.tup [.one (.d (.int .i64 r.1)), .one (.d (.bool r.2.1)), .one (.d (.bool r.2.2))]) := (f_wolfram_number s r hm).pureW
theorem f_wolfram_sums (states : Int) (r : Int) (hm : m_wolfram_sums states = some r) : PFn Tryz.prog 137 [.u (.one (.d (.int .i64 states)))] (fun v => v.wk (.u (.one (.d (.int .i64 r))))) := by
 refine aH Tryz.func137 Tryz.ntmps137 rfl (by kernel_rfl) (by simp) fun cx hn => ?_
 unfold m_wolfram_sums at hm
 refine srs hn ?_
 simp -dsimp
 refine srs hn ?_
 simp -dsimp
 refine ab ?_
 cases hm
 refine ⟨.inr rfl, ?_⟩
 exact EE.here (by simp -dsimp)
theorem c_wolfram_sums (states : Int) (r : Int) (hm : m_wolfram_sums states = some r) : PureCall Tryz.prog 137 [.u (.one (.d (.int .i64 states)))] (.u (.one (.d (.int .i64 r)))) := (f_wolfram_sums states r hm).pureW
end Go.Proofs.YtldhnnkpmhnpcaaGreatDoor
