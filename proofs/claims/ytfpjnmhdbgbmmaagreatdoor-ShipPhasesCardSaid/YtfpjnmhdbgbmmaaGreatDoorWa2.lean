/- That the code does what the functions say (made by cc.py). -/
import Derived.Test.YtfpjnmhdbgbmmaaGreatDoorWa1
namespace Go.Proofs.YtfpjnmhdbgbmmaaGreatDoor
open Go.AM Go.Proofs
attribute [-simp] qlookup du fQ Ob.wipe Ob.ren Ob.frz1
theorem e_slices_Clone_api_Point_api_Point (l : List Point) (r : List Point) (hm : aQ l = some r) : r = l := (aN hm).2
theorem f_slices_Clone_api_Point_api_Point (l : List Point) (r : List Point) (hm : aQ l = some r) : PFn Tryz.prog 82 [.u (.one (.d (.sl 2 (List.map Point.row l))))] (fun v => v.wk (.u (.one (.d (.sl 2 (List.map Point.row r)))))) := by
 refine pfn_E aL _ Tryz.func82 rfl (by kernel_rfl) (by simp [Tryz.ntmps82]) fun cx hn => ?_
 replace hn : cx.n = 8 := hn.trans Tryz.ntmps82
 have ha := (aN hm).1
 have hr : r = l := (aN hm).2
 clear hm
 subst hr
 simp only [List.length_nil, Nat.zero_add] at ha
 refine srs hn ?_
 simp -dsimp
 refine ac ?_
 refine srs hn ?_
 cases r with
 | nil =>
  simp -dsimp
  refine ⟨?_, ?_⟩
  ·refine a8 (b := true) (by simp -dsimp) rfl ?_
   refine srs hn ?_
   simp -dsimp
   refine ab (ae ?_)
   refine ⟨.inr rfl, EE.here ?_⟩; simp -dsimp
  ·refine a7 (b := false) (by simp -dsimp) rfl ?_
   refine aa (a6 ?_)
   refine srs hn ?_
   simp -dsimp
   refine ab ?_
   refine ⟨.inr rfl, EE.here ?_⟩; simp -dsimp
 | cons x xs =>
  simp -dsimp
  refine a7 (b := false) (by simp -dsimp) rfl ?_
  refine aa (a6 ?_)
  refine srs hn ?_
  simp only [List.length_cons] at ha
  simp -dsimp [ha]
  refine ab ?_
  refine ⟨.inr rfl, EE.here ?_⟩; simp -dsimp
theorem c_slices_Clone_api_Point_api_Point (l : List Point) (r : List Point) (hm : aQ l = some r) : PureCall Tryz.prog 82 [.u (.one (.d (.sl 2 (List.map Point.row l))))] (.u (.one (.d (.sl 2 (List.map Point.row r))))) := (f_slices_Clone_api_Point_api_Point l r hm).pureW
theorem n_slices_Clone_api_Point_api_Point (l : List Point) (r : List Point) (hm : aQ l = some r) : NewFn Tryz.prog 82 [.u (.one (.d (.sl 2 (List.map Point.row l))))] (fun o => o = .row 2 71 (List.map Point.row r)) := by
 refine new_S aL _ Tryz.func82 rfl (by kernel_rfl) (by simp [Tryz.ntmps82]) fun cx hn => ?_
 replace hn : cx.n = 8 := hn.trans Tryz.ntmps82
 have ha := (aN hm).1
 have hr : r = l := (aN hm).2
 clear hm
 subst hr
 simp only [List.length_nil, Nat.zero_add] at ha
 refine srs hn ?_
 simp -dsimp
 refine ac ?_
 refine srs hn ?_
 cases r with
 | nil =>
  simp -dsimp
  refine ⟨?_, ?_⟩
  ·refine a8 (b := true) (by simp -dsimp) rfl ?_
   refine srs hn ?_
   simp -dsimp
   refine ab (ae ?_)
   refine ⟨.inr rfl, ?_⟩; simp -dsimp
  ·refine a7 (b := false) (by simp -dsimp) rfl ?_
   refine aa (a6 ?_)
   refine srs hn ?_
   simp -dsimp
   refine ab ?_
   refine ⟨.inr rfl, ?_⟩; simp -dsimp
 | cons x xs =>
  simp -dsimp
  refine a7 (b := false) (by simp -dsimp) rfl ?_
  refine aa (a6 ?_)
  refine srs hn ?_
  simp only [List.length_cons] at ha
  simp -dsimp [ha]
  refine ab ?_
  refine ⟨.inr rfl, ?_⟩; simp -dsimp
def bf (cx : Cx) (_s : List Int) (_v : Int) (tt : Int ⊕ Unit) (ee : Exit) (ρ : Env) (σ : Sto) : Prop := match tt with
 | .inl r => ee = .ret ∧ EE cx (fun ρ σ => ∃ v, resV tb ρ σ Tryz.f141.results.toList = some v ∧ (v.frz σ).free = true ∧ (v.frz σ).wk (.u (.one (.d (.int .i64 r))))) ρ σ
 | .inr _u => ee = .exit 0 ∧ EE cx (aS [] []) ρ σ
theorem jZ (cx : Cx) (hn : cx.n = 19) (s : List Int) (v : Int) {fu : Nat} {stt : Int} {tt : Int ⊕ Unit} (hh : ak (dT s v) fu stt = some tt) {ρ : Env} {σ : Sto}
  (hE : aW (fun a : Int => [(0, .u (.one (.d (.sl 1 (List.map (rI .i64) s))))), (1, .u (.one (.d (.int .i64 v)))), (7, .u (.one (.d (.int .i64 (ah s))))), (8, .u (.one (.d (.int .i64 a))))]) (fun _a : Int => []) stt ρ σ) : Swp Tryz.prog cx (.loop (bg [1, 0, 1, 0, 0] (aK Tryz.f141))) ρ σ (bf cx s v tt) := by
 refine aY hE hh (bf cx s v) ?_
 rintro a r hm ρ σ hf
 simp only [Fits, ar, ap, and_true] at hf
 unfold dT at hm
 dsimp only at hm
 refine srs hn ?_
 simp -dsimp [hf]
 refine ac ?_
 rcases aj hm with ⟨c1, hm⟩ | ⟨c1, hm⟩
 ·refine a8 (b := (ltB a (ah s))) (by simp -dsimp) c1 ?_
  refine aa (a6 (ac (ai ?_)))
  refine srs hn ?_
  simp -dsimp [hf, c1]
  refine srs hn ?_
  obtain ⟨x, h2, hm⟩ := bnd hm
  simp -dsimp [hf, h2]
  rcases aj hm with ⟨c3, hm⟩ | ⟨c3, hm⟩
  ·refine a8 (b := (eqB v x)) (by simp -dsimp) c3 ?_
   refine srs hn ?_
   simp -dsimp [c3]
   refine ab (aH (ae ?_))
   cases hm
   refine am nofun ?_
   unfold bf
   dsimp only
   refine ⟨rfl, ?_⟩
   exact EE.here (by simp -dsimp [Tryz.results141])
  ·refine a7 (b := (eqB v x)) (by simp -dsimp) c3 ?_
   refine aa ?_
   refine aM ?_
   refine a6 ?_
   refine sr1 hn ?_
   simp -dsimp [hf, c3]
   cases hm
   refine az ?_
   exact EE.here (by simp -dsimp [hf])
 ·refine a7 (b := (ltB a (ah s))) (by simp -dsimp) c1 ?_
  refine aw ?_
  refine ae ?_
  cases hm
  refine am nofun ?_
  unfold bf
  dsimp only
  refine ⟨rfl, ?_⟩
  exact EE.here (by simp -dsimp [c1])
theorem ki (s : List Int) (v : Int) (r : Int) (hm : d5 s v = some r) : PFn Tryz.prog 141 [.u (.one (.d (.sl 1 (List.map (rI .i64) s)))), .u (.one (.d (.int .i64 v)))] (fun v => v.wk (.u (.one (.d (.int .i64 r))))) := by
 refine aV Tryz.func141 Tryz.ntmps141 rfl (by kernel_rfl) (by simp) fun cx hn => ?_
 unfold d5 at hm
 refine srs hn ?_
 simp -dsimp
 refine ac ?_
 refine srs hn ?_
 simp -dsimp
 refine ai ?_
 obtain ⟨o_, g4, hm⟩ := bnd hm
 refine aJ (jZ cx hn s v g4) (by
   try dsimp only
   exact EE.here (by simp -dsimp)
 ) fun ee ρ σ x5 => ?_
 rcases o_ with r | _u
 ·unfold bf at x5
  dsimp only at x5
  obtain ⟨rfl, x5⟩ := x5
  refine aH (ae ?_)
  cases hm
  exact ⟨.inr rfl, x5⟩
 ·unfold bf at x5
  dsimp only at x5
  obtain ⟨rfl, x5⟩ := x5
  refine av ?_
  refine a6 ?_
  refine aX (by rfl) (by rfl) x5 fun ρ σ hf => ?_
  simp only [Fits, ar, ap, and_true] at hf
  refine srs hn ?_
  simp -dsimp
  refine ab ?_
  cases hm
  refine ⟨.inr rfl, ?_⟩
  exact EE.here (by simp -dsimp)
theorem kr (s : List Int) (v : Int) (r : Int) (hm : d5 s v = some r) : PureCall Tryz.prog 141 [.u (.one (.d (.sl 1 (List.map (rI .i64) s)))), .u (.one (.d (.int .i64 v)))] (.u (.one (.d (.int .i64 r)))) := (ki s v r hm).pureW
theorem jN (s : List Int) (v : Int) (r : Bool) (hm : bB s v = some r) : PFn Tryz.prog 80 [.u (.one (.d (.sl 1 (List.map (rI .i64) s)))), .u (.one (.d (.int .i64 v)))] (fun v => v.wk (.u (.one (.d (.bool r))))) := by
 refine aV Tryz.func80 Tryz.ntmps80 rfl (by kernel_rfl) (by simp) fun cx hn => ?_
 unfold bB at hm
 refine srs hn ?_
 simp -dsimp
 refine srs hn ?_
 obtain ⟨y, h1, hm⟩ := bnd hm
 simp -dsimp
 refine ag (kr s v y h1) (dkL hn) ?_
 simp -dsimp
 refine ab ?_
 cases hm
 refine ⟨.inr rfl, ?_⟩
 exact EE.here (by simp -dsimp)
theorem fW (s : List Int) (v : Int) (r : Bool) (hm : bB s v = some r) : PureCall Tryz.prog 80 [.u (.one (.d (.sl 1 (List.map (rI .i64) s)))), .u (.one (.d (.int .i64 v)))] (.u (.one (.d (.bool r)))) := (jN s v r hm).pureW
theorem f_totaltree_Totals_2 (s : totaltree_sum) (a : Totals) (r : Int) (hm : dG s a = some r) : PFn Tryz.prog 79 [.u (.agg [.d (.int .i64 s.ones), .d (.int .i64 s.centre)]), .u (.one (.ref (Totals.row a) 0))] (fun v => v.wk (.u (.one (.d (.int .i64 r))))) := by
 refine aV Tryz.func79 Tryz.ntmps79 rfl (by kernel_rfl) (by simp) fun cx hn => ?_
 unfold dG at hm
 refine srs hn ?_
 simp -dsimp
 refine srs hn ?_
 simp -dsimp
 refine ac (ai ?_)
 refine srs hn ?_
 simp -dsimp
 rcases aj hm with ⟨c1, hm⟩ | ⟨c1, hm⟩
 ·refine a8 (by simp -dsimp) c1 ?_
  obtain ⟨next, j4, hm⟩ := bnd hm
  refine au [(4, .u (.one (.d (.int .i64 next))))] [] (by rfl) (by rfl) ?_ fun ρ σ hf => ?_
  ·replace hm := j4
   clear j4
   refine srs hn ?_
   obtain ⟨y, h2, hm⟩ := bnd hm
   simp -dsimp [c1]
   refine ag (fW a.Birth s.ones y h2) (dkL hn) ?_
   simp -dsimp
   rcases aj hm with ⟨c3, hm⟩ | ⟨c3, hm⟩
   ·refine a8 (b := y) (by simp -dsimp) c3 ?_
    refine sr1 hn ?_
    simp -dsimp [c3]
    refine a6 ?_
    cases hm
    exact EE.here (by simp -dsimp)
   ·refine a7 (b := y) (by simp -dsimp) c3 ?_
    refine aa (a6 ?_)
    cases hm
    exact EE.here (by simp -dsimp [c3])
  ·clear j4
   simp only [Fits, ar, ap, and_true] at hf
   refine srs hn ?_
   simp -dsimp [hf]
   refine ab (aH (ae ?_))
   cases hm
   refine ⟨.inr rfl, ?_⟩
   exact EE.here (by simp -dsimp)
 ·refine a7 (by simp -dsimp) c1 ?_
  obtain ⟨a1, j9, hm⟩ := bnd hm
  refine au [(1, .u (.one (.ref (Totals.row a) 0))), (4, .u (.one (.d (.int .i64 s.centre)))), (17, .u (.one (.d (.bool a1))))] [] (by rfl) (by rfl) ?_ fun ρ σ hf => ?_
  ·replace hm := j9
   clear j9
   refine sr1 hn ?_
   rcases aj hm with ⟨c5, hm⟩ | ⟨c5, hm⟩
   ·obtain ⟨y, h6, hm⟩ := bnd hm
    simp -dsimp [c1, c5]
    refine ag (fW a.Survive s.ones y h6) (dkL hn) ?_
    simp -dsimp
    refine a6 ?_
    cases hm
    exact EE.here (by simp -dsimp)
   ·simp -dsimp [c1, c5]
    refine a6 ?_
    cases hm
    exact EE.here (by simp -dsimp)
  ·clear j9
   simp only [Fits, ar, ap, and_true] at hf
   rcases aj hm with ⟨c7, hm⟩ | ⟨c7, hm⟩
   ·refine a8 (by simp -dsimp [hf]) c7 ?_
    refine srs hn ?_
    simp -dsimp
    refine ab (aH (ae ?_))
    cases hm
    refine ⟨.inr rfl, ?_⟩
    exact EE.here (by simp -dsimp)
   ·refine a7 (by simp -dsimp [hf]) c7 ?_
    refine aa ?_
    refine aM ?_
    refine a6 ?_
    refine srs hn ?_
    obtain ⟨n, h8, hm⟩ := bnd hm
    simp -dsimp [hf, h8]
    refine ab ?_
    cases hm
    refine ⟨.inr rfl, ?_⟩
    exact EE.here (by simp -dsimp)
theorem c_totaltree_Totals_2 (s : totaltree_sum) (a : Totals) (r : Int) (hm : dG s a = some r) : PureCall Tryz.prog 79 [.u (.agg [.d (.int .i64 s.ones), .d (.int .i64 s.centre)]), .u (.one (.ref (Totals.row a) 0))] (.u (.one (.d (.int .i64 r)))) := (f_totaltree_Totals_2 s a r hm).pureW
theorem ko (s : totaltree_sum) (at_ : Int) (state : Int) (a : Int) (r : Int × Int) (hm : eK s at_ state a = some r) : GFn Tryz.prog 78 [.u (.agg [.d (.int .i64 s.ones), .d (.int .i64 s.centre)]), .u (.one (.d (.int .i64 at_))), .u (.one (.d (.int .i64 state))), .u (.one (.box 1000000 0))] [.box [.d (.int .i64 a)]] (.u (.agg [.d (.int .i64 r.1), .d (.int .i64 r.2)])) [some (.box [.d (.int .i64 a)])] := by
 refine cV aL _ Tryz.func78 rfl (by kernel_rfl) (by simp [Tryz.ntmps78]) (by simp) (by first | rfl | simp) (by first | rfl | simp) fun cx hn hk => ?_
 replace hn : cx.n = 22 := hn.trans Tryz.ntmps78
 replace hk : cx.k = 1 := hk
 unfold eK at hm
 refine srs hn ?_
 simp -dsimp
 obtain ⟨⟨sones, scentre⟩, j3, hm⟩ := bnd hm
 refine au [(4, .u (.one (.box 4 0))), (7, .u (.one (.box 7 0)))] [(4, .box [.d (.int .i64 sones), .d (.int .i64 scentre)]), (7, .box [.d (.int .i64 0), .d (.int .i64 0)]), (1000000, .box [.d (.int .i64 a)])] (by rfl) (by rfl) ?_ fun ρ σ hf => ?_
 ·replace hm := j3
  clear j3
  refine ai ?_
  refine srs hn ?_
  simp -dsimp
  rcases aj hm with ⟨c1, hm⟩ | ⟨c1, hm⟩
  ·refine a8 (by simp -dsimp) c1 ?_
   refine sr1 hn ?_
   simp -dsimp [c1]
   refine aM ?_
   refine a6 ?_
   cases hm
   exact EE.here (by simp -dsimp)
  ·refine a7 (by simp -dsimp) c1 ?_
   refine srs hn ?_
   simp -dsimp [c1]
   rcases aj hm with ⟨c2, hm⟩ | ⟨c2, hm⟩
   ·refine a8 (b := (eqB state 1)) (by simp -dsimp) c2 ?_
    refine sr1 hn ?_
    simp -dsimp [c2]
    refine aM ?_
    refine a6 ?_
    cases hm
    exact EE.here (by simp -dsimp)
   ·refine a7 (b := (eqB state 1)) (by simp -dsimp) c2 ?_
    refine aa ?_
    refine aM ?_
    refine a6 ?_
    cases hm
    exact EE.here (by simp -dsimp [c2])
 ·clear j3
  simp only [Fits, ar, ap, and_true] at hf
  refine srs hn ?_
  simp -dsimp [hf]
  refine ab ?_
  cases hm
  refine ⟨.inr rfl, ?_⟩
  exact EE.here (by simp -dsimp [hf])
theorem f_internal_strconv_small (i : Int) (r : List UInt8) (hm : cA i = some r) : PFn Tryz.prog 257 [.u (.one (.d (.int .i64 i)))] (fun v => v.wk (.u (.one (.d (.str (bs r)))))) := by
 refine aV Tryz.func257 Tryz.ntmps257 rfl (by kernel_rfl) (by simp) fun cx hn => ?_
 unfold cA at hm
 refine srs hn ?_
 simp -dsimp
 refine ac ?_
 refine srs hn ?_
 simp -dsimp
 rcases aj hm with ⟨c1, hm⟩ | ⟨c1, hm⟩
 ·refine a8 (by simp -dsimp) c1 ?_
  refine srs hn ?_
  obtain ⟨s, h2, hm⟩ := bnd hm
  simp -dsimp [c1, h2]
  refine ab (ae ?_)
  cases hm
  refine ⟨.inr rfl, ?_⟩
  exact EE.here (by simp -dsimp)
 ·refine a7 (by simp -dsimp) c1 ?_
  refine aa (a6 ?_)
  refine srs hn ?_
  obtain ⟨s, h3, hm⟩ := bnd hm
  simp -dsimp [c1, h3]
  refine ab ?_
  cases hm
  refine ⟨.inr rfl, ?_⟩
  exact EE.here (by simp -dsimp)
theorem c_internal_strconv_small (i : Int) (r : List UInt8) (hm : cA i = some r) : PureCall Tryz.prog 257 [.u (.one (.d (.int .i64 i)))] (.u (.one (.d (.str (bs r))))) := (f_internal_strconv_small i r hm).pureW
theorem g_internal_strconv_AppendUint_o (dst : List Int) (i : Int) (base : Int) (r : List Int) (hm : br dst i base = some r) : GFn Tryz.prog 233 [.u (.one (.own 1000000)), .u (.one (.d (.int .u64 i))), .u (.one (.d (.int .i64 base)))] [.row 1 5 (List.map (rI .u8) dst)] (.u (.one (.own 1000001))) [none, some (.row 1 5 (List.map (rI .u8) r))] := by
 refine cV aL _ Tryz.func233 rfl (by kernel_rfl) (by simp [Tryz.ntmps233]) (by simp) (by first | rfl | simp) (by first | rfl | simp) fun cx hn hk => ?_
 replace hn : cx.n = 36 := hn.trans Tryz.ntmps233
 replace hk : cx.k = 1 := hk
 unfold br at hm
 refine srs hn ?_
 simp -dsimp
 refine ac ?_
 refine srs hn ?_
 simp -dsimp
 rcases aj hm with ⟨c1, hm⟩ | ⟨c1, hm⟩
 ·refine a8 (by simp -dsimp) c1 ?_
  refine ac ?_
  refine srs hn ?_
  simp -dsimp [c1]
  rcases aj hm with ⟨c2, hm⟩ | ⟨c2, hm⟩
  ·refine a8 (b := (ltB i 100)) (by simp -dsimp) c2 ?_
   refine srs hn ?_
   obtain ⟨y, h3, hm⟩ := bnd hm
   simp -dsimp [c2]
   refine ag (c_internal_strconv_small (je .i64 i) y h3) (dkL hn) ?_
   obtain ⟨l, h4, hm⟩ := bnd hm
   obtain ⟨h4a, h4e⟩ := aN h4
   replace h4e := h4e.symm
   subst h4e
   try simp only [List.length_cons, List.length_nil, Nat.zero_add, List.nil_append, List.length_append, List.length_map, List.length_replicate] at h4a
   try simp only [Nat.mul_one, toB_len] at h4a
   simp -dsimp [h4a]
   refine ab (ae (ae ?_))
   cases hm
   refine ⟨.inr rfl, ?_⟩
   refine EE.step (Wk.move 17 1000001 (by decide) (.inr (by rw [hk]; decide))) ?_
   exact EE.here (by simp -dsimp)
  ·refine a7 (b := (ltB i 100)) (by simp -dsimp) c2 ?_
   refine aa (a6 ?_)
   refine srs hn ?_
   simp -dsimp [c2]
   refine srs hn ?_
   cases hm
 ·refine a7 (by simp -dsimp) c1 ?_
  refine aa (a6 ?_)
  refine srs hn ?_
  cases hm
theorem g_internal_strconv_AppendInt_o (dst : List Int) (i : Int) (base : Int) (r : List Int) (hm : ck dst i base = some r) : GFn Tryz.prog 189 [.u (.one (.own 1000000)), .u (.one (.d (.int .i64 i))), .u (.one (.d (.int .i64 base)))] [.row 1 5 (List.map (rI .u8) dst)] (.u (.one (.own 1000001))) [none, some (.row 1 5 (List.map (rI .u8) r))] := by
 refine cV aL _ Tryz.func189 rfl (by kernel_rfl) (by simp [Tryz.ntmps189]) (by simp) (by first | rfl | simp) (by first | rfl | simp) fun cx hn hk => ?_
 replace hn : cx.n = 21 := hn.trans Tryz.ntmps189
 replace hk : cx.k = 1 := hk
 unfold ck at hm
 refine srs hn ?_
 simp -dsimp
 refine srs hn ?_
 simp -dsimp
 obtain ⟨⟨u, dst1⟩, j4, hm⟩ := bnd hm
 refine au [(0, .u (.one (.own 5000))), (2, .u (.one (.d (.int .i64 base)))), (7, .u (.one (.d (.int .u64 u))))] [(5000, .row 1 5 (List.map (rI .u8) dst1))] (by rfl) (by rfl) ?_ fun ρ σ hf => ?_
 ·replace hm := j4
  clear j4
  refine srs hn ?_
  simp -dsimp
  rcases aj hm with ⟨c1, hm⟩ | ⟨c1, hm⟩
  ·refine a8 (by simp -dsimp) c1 ?_
   refine srs hn ?_
   obtain ⟨l, h2, hm⟩ := bnd hm
   obtain ⟨h2a, h2e⟩ := aN h2
   replace h2e := h2e.symm
   subst h2e
   try simp only [List.length_cons, List.length_nil, Nat.zero_add] at h2a
   try simp only [Nat.mul_one, Nat.reduceLeDiff] at h2a
   simp -dsimp [c1, h2a]
   refine sr1 hn ?_
   simp -dsimp
   refine a6 ?_
   cases hm
   refine EE.step (Wk.move 14 5000 (by decide) (.inl (by decide))) ?_
   exact EE.here (by simp -dsimp)
  ·refine a7 (by simp -dsimp) c1 ?_
   refine aa (a6 ?_)
   cases hm
   refine EE.step (Wk.move 1000000 5000 (by decide) (.inl (by decide))) ?_
   exact EE.here (by simp -dsimp [c1])
 ·clear j4
  simp only [Fits, ar, ap, and_true] at hf
  refine srs hn ?_
  obtain ⟨y, h3, hm⟩ := bnd hm
  simp -dsimp [hf]
  refine d3 (g_internal_strconv_AppendUint_o dst1 u base y h3) [5000] [5001] rfl rfl rfl (by simp -dsimp) rfl (by simp -dsimp [hf]) (by first | rfl | simp) rfl (dkL hn) ?_
  simp -dsimp
  refine ab ?_
  cases hm
  refine ⟨.inr rfl, ?_⟩
  refine EE.step (Wk.move 5001 1000001 (by decide) (.inr (by rw [hk]; decide))) ?_
  exact EE.here (by simp -dsimp)
theorem g_strconv_AppendInt_o (dst : List Int) (i : Int) (base : Int) (r : List Int) (hm : dt dst i base = some r) : GFn Tryz.prog 143 [.u (.one (.own 1000000)), .u (.one (.d (.int .i64 i))), .u (.one (.d (.int .i64 base)))] [.row 1 5 (List.map (rI .u8) dst)] (.u (.one (.own 1000001))) [none, some (.row 1 5 (List.map (rI .u8) r))] := by
 refine cV aL _ Tryz.func143 rfl (by kernel_rfl) (by simp [Tryz.ntmps143]) (by simp) (by first | rfl | simp) (by first | rfl | simp) fun cx hn hk => ?_
 replace hn : cx.n = 11 := hn.trans Tryz.ntmps143
 replace hk : cx.k = 1 := hk
 unfold dt at hm
 refine srs hn ?_
 simp -dsimp
 refine srs hn ?_
 obtain ⟨y, h1, hm⟩ := bnd hm
 simp -dsimp
 refine d3 (g_internal_strconv_AppendInt_o dst i base y h1) [1000000] [5000] rfl rfl rfl (by simp -dsimp) rfl (by simp -dsimp) (by first | rfl | simp) rfl (dkL hn) ?_
 simp -dsimp
 refine ab ?_
 cases hm
 refine ⟨.inr rfl, ?_⟩
 refine EE.step (Wk.move 5000 1000001 (by decide) (.inr (by rw [hk]; decide))) ?_
 exact EE.here (by simp -dsimp)
def b7 (rcv : (totaltree_place → (List Point) → (List Point) → Int → (List Int) → (List Int) → (List (totaltree_place × Int)) → Int → Int → (List (List UInt8 × Int)) → Int → (List Point) → (List Node) → Option (Int × (List (totaltree_place × Int)) × (List (List UInt8 × Int)) × (List Node)))) : Prop := ∀ (p : totaltree_place) (a : List Point) (cHood : List Point) (cStates : Int) (cBirth : List Int) (cSurvive : List Int) (a1 : List (totaltree_place × Int)) (a2 : Int) (cv : Int) (cv1 : List (List UInt8 × Int)) (cStates1 : Int) (cHood1 : List Point) (cNodes : List Node) (r : Int × (List (totaltree_place × Int)) × (List (List UInt8 × Int)) × (List Node)), rcv p a cHood cStates cBirth cSurvive a1 a2 cv cv1 cStates1 cHood1 cNodes = some r → GFn Tryz.prog 142 [.u (.agg [.d (.int .i64 p.at_), .d (.int .i64 p.s.ones), .d (.int .i64 p.s.centre)]), .u (.one (.box 1000000 0)), .u (.one (.box 1000001 0)), .u (.one (.box 1000003 0)), .u (.one (.box 1000005 0)), .u (.one (.box 1000006 0)), .u (.one (.box 1000007 0)), .u (.one (.box 1000009 0)), .u (.one (.box 1000011 0))] [.box [.d (.sl 2 (List.map Point.row a))], .box [.fn 79 [.box 1000002 0]], .box [.d (.sl 2 (List.map Point.row cHood)), .d (.int .i64 cStates), .d (.sl 1 (List.map (rI .i64) cBirth)), .d (.sl 1 (List.map (rI .i64) cSurvive))], .box [.map 1000004], mOb (.ints 3) totaltree_place.key (uL (L.int .i64)) a1, .box [.d (.int .i64 a2)], .box [.fn 142 [.box 1000000 0, .box 1000001 0, .box 1000003 0, .box 1000005 0, .box 1000006 0, .box 1000007 0, .box 1000009 0, .box 1000011 0]], .box [.fn 78 [.box 1000008 0]], .box [.d (.int .i64 cv)], .box [.map 1000010], mOb .str kS (uL (L.int .i64)) cv1, .box [.d (.int .i64 cStates1), .d (.sl 2 (List.map Point.row cHood1)), .own 1000012], .row 2 75 (List.map Node.row cNodes)] (.u (.one (.d (.int .i64 r.1)))) [some (.box [.d (.sl 2 (List.map Point.row a))]), some (.box [.fn 79 [.box 1000002 0]]), some (.box [.d (.sl 2 (List.map Point.row cHood)), .d (.int .i64 cStates), .d (.sl 1 (List.map (rI .i64) cBirth)), .d (.sl 1 (List.map (rI .i64) cSurvive))]), some (.box [.map 1000004]), some (mOb (.ints 3) totaltree_place.key (uL (L.int .i64)) r.2.1), some (.box [.d (.int .i64 a2)]), some (.box [.fn 142 [.box 1000000 0, .box 1000001 0, .box 1000003 0, .box 1000005 0, .box 1000006 0, .box 1000007 0, .box 1000009 0, .box 1000011 0]]), some (.box [.fn 78 [.box 1000008 0]]), some (.box [.d (.int .i64 cv)]), some (.box [.map 1000010]), some (mOb .str kS (uL (L.int .i64)) r.2.2.1), some (.box [.d (.int .i64 cStates1), .d (.sl 2 (List.map Point.row cHood1)), .own 1000013]), none, some (.row 2 75 (List.map Node.row r.2.2.2))]
def aT (cx : Cx) (_rcv : (totaltree_place → (List Point) → (List Point) → Int → (List Int) → (List Int) → (List (totaltree_place × Int)) → Int → Int → (List (List UInt8 × Int)) → Int → (List Point) → (List Node) → Option (Int × (List (totaltree_place × Int)) × (List (List UInt8 × Int)) × (List Node)))) (p : totaltree_place) (a : List Point) (cHood : List Point) (cStates : Int) (cBirth : List Int) (cSurvive : List Int) (a2 : Int) (cv : Int) (cStates1 : Int) (cHood1 : List Point) (_u : Unit) (tt : ((List Node) × (List Int) × (List Int) × (List (totaltree_place × Int)) × (List (List UInt8 × Int)))) (ee : Exit) (ρ : Env) (σ : Sto) : Prop := match tt with
 | (l, keyv, l1, mp, mp1) => ee = .exit 0 ∧ EE cx (aS [(3, .u (.one (.box 1000003 0))), (7, .u (.one (.box 1000009 0))), (8, .u (.one (.box 1000011 0))), (9, .u (.one (.box 9 0))), (13, .u (.one (.box 13 0))), (14, .u (.one (.own 5003)))] [(9, .box [.d (.int .i64 p.at_), .d (.int .i64 p.s.ones), .d (.int .i64 p.s.centre)]), (13, .box [.d (.int .i64 (aC .i64 (ah a) p.at_)), .own 5004]), (5000, .row 2 75 (List.map Node.row l)), (5003, .row 1 5 (List.map (rI .u8) keyv)), (5004, .row 1 3 (List.map (rI .i64) l1)), (1000000, .box [.d (.sl 2 (List.map Point.row a))]), (1000001, .box [.fn 79 [.box 1000002 0]]), (1000002, .box [.d (.sl 2 (List.map Point.row cHood)), .d (.int .i64 cStates), .d (.sl 1 (List.map (rI .i64) cBirth)), .d (.sl 1 (List.map (rI .i64) cSurvive))]), (1000003, .box [.map 1000004]), (1000004, mOb (.ints 3) totaltree_place.key (uL (L.int .i64)) mp), (1000005, .box [.d (.int .i64 a2)]), (1000006, .box [.fn 142 [.box 1000000 0, .box 1000001 0, .box 1000003 0, .box 1000005 0, .box 1000006 0, .box 1000007 0, .box 1000009 0, .box 1000011 0]]), (1000007, .box [.fn 78 [.box 1000008 0]]), (1000008, .box [.d (.int .i64 cv)]), (1000009, .box [.map 1000010]), (1000010, mOb .str kS (uL (L.int .i64)) mp1), (1000011, .box [.d (.int .i64 cStates1), .d (.sl 2 (List.map Point.row cHood1)), .own 5000])]) ρ σ
theorem dd (cx : Cx) (hn : cx.n = 101) (_hk : cx.k = 13) (rcv : (totaltree_place → (List Point) → (List Point) → Int → (List Int) → (List Int) → (List (totaltree_place × Int)) → Int → Int → (List (List UInt8 × Int)) → Int → (List Point) → (List Node) → Option (Int × (List (totaltree_place × Int)) × (List (List UInt8 × Int)) × (List Node)))) (p : totaltree_place) (a : List Point) (cHood : List Point) (cStates : Int) (cBirth : List Int) (cSurvive : List Int) (a2 : Int) (cv : Int) (cStates1 : Int) (cHood1 : List Point) (u : Unit) (hrcv : b7 rcv) {fu : Nat} {stt : Int × (List Node) × (List Int) × (List Int) × (List (totaltree_place × Int)) × (List (List UInt8 × Int))} {tt : ((List Node) × (List Int) × (List Int) × (List (totaltree_place × Int)) × (List (List UInt8 × Int)))} (hh : ak (b5 rcv p a cHood cStates cBirth cSurvive a2 cv cStates1 cHood1 u) fu stt = some tt) {ρ : Env} {σ : Sto}
  (hE : aW (fun stt : Int × (List Node) × (List Int) × (List Int) × (List (totaltree_place × Int)) × (List (List UInt8 × Int)) => match stt with | (a3, _l, _keyv, _l1, _mp, _mp1) => [(3, .u (.one (.box 1000003 0))), (5, .u (.one (.box 1000006 0))), (6, .u (.one (.box 1000007 0))), (7, .u (.one (.box 1000009 0))), (8, .u (.one (.box 1000011 0))), (9, .u (.one (.box 9 0))), (13, .u (.one (.box 13 0))), (14, .u (.one (.own 5003))), (46, .u (.one (.d (.int .i64 a2)))), (47, .u (.one (.d (.int .i64 a3))))]) (fun stt : Int × (List Node) × (List Int) × (List Int) × (List (totaltree_place × Int)) × (List (List UInt8 × Int)) => match stt with | (_a3, l, keyv, l1, mp, mp1) => [(9, .box [.d (.int .i64 p.at_), .d (.int .i64 p.s.ones), .d (.int .i64 p.s.centre)]), (13, .box [.d (.int .i64 (aC .i64 (ah a) p.at_)), .own 5004]), (5000, .row 2 75 (List.map Node.row l)), (5003, .row 1 5 (List.map (rI .u8) keyv)), (5004, .row 1 3 (List.map (rI .i64) l1)), (1000000, .box [.d (.sl 2 (List.map Point.row a))]), (1000001, .box [.fn 79 [.box 1000002 0]]), (1000002, .box [.d (.sl 2 (List.map Point.row cHood)), .d (.int .i64 cStates), .d (.sl 1 (List.map (rI .i64) cBirth)), .d (.sl 1 (List.map (rI .i64) cSurvive))]), (1000003, .box [.map 1000004]), (1000004, mOb (.ints 3) totaltree_place.key (uL (L.int .i64)) mp), (1000005, .box [.d (.int .i64 a2)]), (1000006, .box [.fn 142 [.box 1000000 0, .box 1000001 0, .box 1000003 0, .box 1000005 0, .box 1000006 0, .box 1000007 0, .box 1000009 0, .box 1000011 0]]), (1000007, .box [.fn 78 [.box 1000008 0]]), (1000008, .box [.d (.int .i64 cv)]), (1000009, .box [.map 1000010]), (1000010, mOb .str kS (uL (L.int .i64)) mp1), (1000011, .box [.d (.int .i64 cStates1), .d (.sl 2 (List.map Point.row cHood1)), .own 5000])]) stt ρ σ) : Swp Tryz.prog cx (.loop (bg [1, 1, 1, 1, 1, 0, 1, 0, 0] (aK Tryz.f142))) ρ σ (aT cx rcv p a cHood cStates cBirth cSurvive a2 cv cStates1 cHood1 u tt) := by
 refine aY hE hh (aT cx rcv p a cHood cStates cBirth cSurvive a2 cv cStates1 cHood1 u) ?_
 rintro ⟨a3, l, keyv, l1, mp, mp1⟩ r hm ρ σ hf
 simp only [Fits, ar, ap, and_true] at hf
 unfold b5 at hm
 dsimp only at hm
 refine srs hn ?_
 simp -dsimp [hf]
 refine ac ?_
 rcases aj hm with ⟨c5, hm⟩ | ⟨c5, hm⟩
 ·refine a8 (b := (ltB a3 a2)) (by simp -dsimp) c5 ?_
  refine aa (a6 (ac (ai ?_)))
  refine srs hn ?_
  simp -dsimp [hf, c5]
  refine k7 aL mixed 10 11 12 0 [[0, 1, 2, 3]] [[]] [true] none (by rw [hn]; kernel_rfl) gI ?_
  dsimp only [List.take, List.drop, iq, iQ, jT, pk, List.cons_append, List.nil_append, List.flatten_cons, List.flatten_nil, ff, fv, List.append_nil]
  obtain ⟨y, h6, hm⟩ := bnd hm
  simp -dsimp [hf]
  refine callE_g (ko p.s p.at_ a3 cv y h6) [1000008] [] rfl rfl rfl (by simp -dsimp) rfl (by simp -dsimp [hf]) (by first | rfl | simp) rfl (dkL hn) rfl rfl (by simp) nofun (by simp) ?_
  obtain ⟨y1, h7, hm⟩ := bnd hm
  simp -dsimp [hf]
  refine d3 (hrcv (⟨(aG .i64 p.at_ 1), ⟨y.1, y.2⟩⟩ : totaltree_place) a cHood cStates cBirth cSurvive mp a2 cv mp1 cStates1 cHood1 l y1 h7) [1000000, 1000001, 1000002, 1000003, 1000004, 1000005, 1000006, 1000007, 1000008, 1000009, 1000010, 1000011, 5000] [5001] rfl rfl rfl (by simp -dsimp) rfl (by simp -dsimp [hf]) (by first | rfl | simp) rfl (dkL hn) ?_
  simp -dsimp
  refine srs hn ?_
  obtain ⟨l2, h8, hm⟩ := bnd hm
  obtain ⟨h8a, h8e⟩ := aN h8
  replace h8e := h8e.symm
  subst h8e
  try simp only [List.length_cons, List.length_nil, Nat.zero_add] at h8a
  simp -dsimp [hf, h8a]
  refine sr1 hn ?_
  obtain ⟨l3, h9, hm⟩ := bnd hm
  obtain ⟨h9a, h9e⟩ := aN h9
  replace h9e := h9e.symm
  subst h9e
  try simp only [List.length_cons, List.length_nil, Nat.zero_add] at h9a
  try simp only [Nat.mul_one, Nat.reduceLeDiff] at h9a
  obtain ⟨y2, h10, hm⟩ := bnd hm
  simp -dsimp [hf, h9a]
  refine d3 (g_strconv_AppendInt_o (keyv ++ [32]) y1.1 10 y2 h10) [71] [5002] rfl rfl rfl (by simp -dsimp) rfl (by simp -dsimp) (by first | rfl | simp) rfl (dkL hn) ?_
  simp -dsimp
  refine aM ?_
  refine a6 ?_
  refine sr1 hn ?_
  simp -dsimp [hf]
  cases hm
  refine az ?_
  refine EE.step (Wk.move 5002 5003 (by decide) (.inl (by decide))) ?_
  refine EE.step (Wk.move 67 5004 (by decide) (.inl (by decide))) ?_
  refine EE.step (Wk.move 5001 5000 (by decide) (.inl (by decide))) ?_
  exact EE.here (by simp -dsimp [hf])
 ·refine a7 (b := (ltB a3 a2)) (by simp -dsimp) c5 ?_
  refine aw ?_
  refine ae ?_
  cases hm
  refine am nofun ?_
  unfold aT
  dsimp only
  refine ⟨rfl, ?_⟩
  exact EE.here (by simp -dsimp [hf, c5])
theorem dp (rcv : (totaltree_place → (List Point) → (List Point) → Int → (List Int) → (List Int) → (List (totaltree_place × Int)) → Int → Int → (List (List UInt8 × Int)) → Int → (List Point) → (List Node) → Option (Int × (List (totaltree_place × Int)) × (List (List UInt8 × Int)) × (List Node)))) (hrcv : b7 rcv) (p : totaltree_place) (a : List Point) (cHood : List Point) (cStates : Int) (cBirth : List Int) (cSurvive : List Int) (a1 : List (totaltree_place × Int)) (a2 : Int) (cv : Int) (cv1 : List (List UInt8 × Int)) (cStates1 : Int) (cHood1 : List Point) (cNodes : List Node) (r : Int × (List (totaltree_place × Int)) × (List (List UInt8 × Int)) × (List Node)) (hm : b6 rcv p a cHood cStates cBirth cSurvive a1 a2 cv cv1 cStates1 cHood1 cNodes = some r) : GFn Tryz.prog 142 [.u (.agg [.d (.int .i64 p.at_), .d (.int .i64 p.s.ones), .d (.int .i64 p.s.centre)]), .u (.one (.box 1000000 0)), .u (.one (.box 1000001 0)), .u (.one (.box 1000003 0)), .u (.one (.box 1000005 0)), .u (.one (.box 1000006 0)), .u (.one (.box 1000007 0)), .u (.one (.box 1000009 0)), .u (.one (.box 1000011 0))] [.box [.d (.sl 2 (List.map Point.row a))], .box [.fn 79 [.box 1000002 0]], .box [.d (.sl 2 (List.map Point.row cHood)), .d (.int .i64 cStates), .d (.sl 1 (List.map (rI .i64) cBirth)), .d (.sl 1 (List.map (rI .i64) cSurvive))], .box [.map 1000004], mOb (.ints 3) totaltree_place.key (uL (L.int .i64)) a1, .box [.d (.int .i64 a2)], .box [.fn 142 [.box 1000000 0, .box 1000001 0, .box 1000003 0, .box 1000005 0, .box 1000006 0, .box 1000007 0, .box 1000009 0, .box 1000011 0]], .box [.fn 78 [.box 1000008 0]], .box [.d (.int .i64 cv)], .box [.map 1000010], mOb .str kS (uL (L.int .i64)) cv1, .box [.d (.int .i64 cStates1), .d (.sl 2 (List.map Point.row cHood1)), .own 1000012], .row 2 75 (List.map Node.row cNodes)] (.u (.one (.d (.int .i64 r.1)))) [some (.box [.d (.sl 2 (List.map Point.row a))]), some (.box [.fn 79 [.box 1000002 0]]), some (.box [.d (.sl 2 (List.map Point.row cHood)), .d (.int .i64 cStates), .d (.sl 1 (List.map (rI .i64) cBirth)), .d (.sl 1 (List.map (rI .i64) cSurvive))]), some (.box [.map 1000004]), some (mOb (.ints 3) totaltree_place.key (uL (L.int .i64)) r.2.1), some (.box [.d (.int .i64 a2)]), some (.box [.fn 142 [.box 1000000 0, .box 1000001 0, .box 1000003 0, .box 1000005 0, .box 1000006 0, .box 1000007 0, .box 1000009 0, .box 1000011 0]]), some (.box [.fn 78 [.box 1000008 0]]), some (.box [.d (.int .i64 cv)]), some (.box [.map 1000010]), some (mOb .str kS (uL (L.int .i64)) r.2.2.1), some (.box [.d (.int .i64 cStates1), .d (.sl 2 (List.map Point.row cHood1)), .own 1000013]), none, some (.row 2 75 (List.map Node.row r.2.2.2))] := by
 refine cV aL _ Tryz.func142 rfl (by kernel_rfl) (by simp [Tryz.ntmps142]) (by simp) (by first | rfl | simp) (by first | rfl | simp) fun cx hn hk => ?_
 replace hn : cx.n = 101 := hn.trans Tryz.ntmps142
 replace hk : cx.k = 13 := hk
 unfold b6 at hm
 refine srs hn ?_
 simp -dsimp
 refine ac ?_
 refine srs hn ?_
 simp -dsimp
 rcases aj hm with ⟨c1, hm⟩ | ⟨c1, hm⟩
 ·refine a8 (by simp -dsimp) c1 ?_
  refine srs hn ?_
  obtain ⟨y, h2, hm⟩ := bnd hm
  simp -dsimp [c1]
  refine callL_brw (us' := [.u (.agg [.d (.int .i64 p.s.ones), .d (.int .i64 p.s.centre)]), .u (.one (.ref (Totals.row (⟨cHood, cStates, cBirth, cSurvive⟩ : Totals)) 0))]) (c_totaltree_Totals_2 p.s (⟨cHood, cStates, cBirth, cSurvive⟩ : Totals) y h2) (by simp -dsimp) rfl (dkL hn) ?_
  simp -dsimp
  refine ab (ae ?_)
  cases hm
  refine ⟨.inr rfl, ?_⟩
  refine EE.step (Wk.move 1000012 1000013 (by decide) (.inr (by rw [hk]; decide))) ?_
  exact EE.here (by simp -dsimp)
 ·refine a7 (by simp -dsimp) c1 ?_
  refine aa (a6 (ac ?_))
  refine srs hn ?_
  obtain ⟨u, h3, hm⟩ := bnd hm
  simp -dsimp [c1, f7 h3 (.head _), f7 h3 (.tail _ (.head _)), f7 h3 (.tail _ (.tail _ (.head _))), (@id (lkM (jY (mOb (.ints 3) totaltree_place.key (uL (L.int .i64)) a1) (.ints [p.at_, p.s.ones, p.s.centre])) true (.one (.d (.int .i64 0))) = some (.tup [.one (.d (.int .i64 (dV a1 p 0))), .one (.d (.bool (jS a1 p)))])) (lk_two p 0))]
  refine srs hn ?_
  simp -dsimp
  rcases aj hm with ⟨c4, hm⟩ | ⟨c4, hm⟩
  ·refine a8 (b := (jS a1 p)) (by simp -dsimp) c4 ?_
   refine srs hn ?_
   simp -dsimp [c4]
   refine ab (ae ?_)
   cases hm
   refine ⟨.inr rfl, ?_⟩
   refine EE.step (Wk.move 1000012 1000013 (by decide) (.inr (by rw [hk]; decide))) ?_
   exact EE.here (by simp -dsimp)
  ·refine a7 (b := (jS a1 p)) (by simp -dsimp) c4 ?_
   refine aa (a6 ?_)
   refine srs hn ?_
   simp -dsimp [c4]
   refine sw_regBs aL 3 (by rw [hn]; kernel_rfl) ?_
   dsimp only [List.take, List.drop]
   simp -dsimp
   refine ac ?_
   refine srs hn ?_
   simp -dsimp
   refine ai ?_
   obtain ⟨⟨l, keyv, l1, mp, mp1⟩, g11, hm⟩ := bnd hm
   refine aJ (dd cx hn hk rcv p a cHood cStates cBirth cSurvive a2 cv cStates1 cHood1 u hrcv g11) (by
     try dsimp only
     refine EE.step (Wk.move 45 5003 (by decide) (.inl (by decide))) ?_
     refine EE.step (Wk.move 1000012 5000 (by decide) (.inl (by decide))) ?_
     refine EE.step (Wk.own0b 13 1 5004 1 3 [.d (.int .i64 (aC .i64 (ah a) p.at_)), .d .nil] (by simp -dsimp) (by rfl) (by decide) (by decide)) ?_
     exact EE.here (by simp -dsimp)
   ) fun ee ρ σ x12 => ?_
   unfold aT at x12
   dsimp only at x12
   obtain ⟨rfl, x12⟩ := x12
   refine av ?_
   refine a6 ?_
   refine aX (by rfl) (by rfl) x12 fun ρ σ hf => ?_
   simp only [Fits, ar, ap, and_true] at hf
   refine srs hn ?_
   obtain ⟨u1, h13, hm⟩ := bnd hm
   simp -dsimp [hf, kckS_len h13, (@id (lkM (jY (mOb .str kS (uL (L.int .i64)) mp1) (.str (ofBytes keyv))) true (.one (.d (.int .i64 0))) = some (.tup [.one (.d (.int .i64 (dV mp1 (ofBytes keyv) 0))), .one (.d (.bool (jS mp1 (ofBytes keyv))))])) (lk_two (ofBytes keyv) 0))]
   obtain ⟨⟨idv, mp2, l2⟩, j16, hm⟩ := bnd hm
   refine au [(3, .u (.one (.box 1000003 0))), (9, .u (.one (.box 9 0))), (17, .u (.one (.d (.int .i64 idv))))] [(9, .box [.d (.int .i64 p.at_), .d (.int .i64 p.s.ones), .d (.int .i64 p.s.centre)]), (5000, .row 2 75 (List.map Node.row l2)), (1000000, .box [.d (.sl 2 (List.map Point.row a))]), (1000001, .box [.fn 79 [.box 1000002 0]]), (1000002, .box [.d (.sl 2 (List.map Point.row cHood)), .d (.int .i64 cStates), .d (.sl 1 (List.map (rI .i64) cBirth)), .d (.sl 1 (List.map (rI .i64) cSurvive))]), (1000003, .box [.map 1000004]), (1000004, mOb (.ints 3) totaltree_place.key (uL (L.int .i64)) mp), (1000005, .box [.d (.int .i64 a2)]), (1000006, .box [.fn 142 [.box 1000000 0, .box 1000001 0, .box 1000003 0, .box 1000005 0, .box 1000006 0, .box 1000007 0, .box 1000009 0, .box 1000011 0]]), (1000007, .box [.fn 78 [.box 1000008 0]]), (1000008, .box [.d (.int .i64 cv)]), (1000009, .box [.map 1000010]), (1000010, mOb .str kS (uL (L.int .i64)) mp2), (1000011, .box [.d (.int .i64 cStates1), .d (.sl 2 (List.map Point.row cHood1)), .own 5000])] (by rfl) (by rfl) ?_ fun ρ σ hf => ?_
   ·replace hm := j16
    clear j16
    refine srs hn ?_
    simp -dsimp
    rcases aj hm with ⟨c14, hm⟩ | ⟨c14, hm⟩
    ·refine a8 (b := (aD (jS mp1 (ofBytes keyv)))) (by simp -dsimp) c14 ?_
     refine srs hn ?_
     simp -dsimp [hf, c14]
     refine Swp.pre (Wk.frz 5004 1 3 (List.map (rI .i64) l1) (by simp -dsimp [hf])) ?_
     refine srs hn ?_
     obtain ⟨l2, h15, hm⟩ := bnd hm
     obtain ⟨h15a, h15e⟩ := aN h15
     replace h15e := h15e.symm
     subst h15e
     try simp only [List.length_cons, List.length_nil, Nat.zero_add] at h15a
     simp -dsimp [hf, h15a]
     refine sr1 hn ?_
     simp -dsimp [hf, kckS_len h13, (@id (msetOb (mOb .str kS (uL (L.int .i64)) mp1) (.str (ofBytes keyv)) (.one (.d (.int .i64 (ah l)))) = mOb .str kS (uL (L.int .i64)) (io mp1 (ofBytes keyv) (ah l))) (mset_ob .str kS (uL (L.int .i64)) mp1 (ofBytes keyv) (ah l)))]
     refine a6 ?_
     cases hm
     refine EE.step (Wk.move 91 5000 (by decide) (.inl (by decide))) ?_
     exact EE.here (by simp -dsimp [hf])
    ·refine a7 (b := (aD (jS mp1 (ofBytes keyv)))) (by simp -dsimp) c14 ?_
     refine aa (a6 ?_)
     cases hm
     exact EE.here (by simp -dsimp [hf, c14])
   ·clear j16
    simp only [Fits, ar, ap, and_true] at hf
    refine srs hn ?_
    simp -dsimp [hf, f7 h3 (.head _), f7 h3 (.tail _ (.head _)), f7 h3 (.tail _ (.tail _ (.head _))), (@id (msetOb (mOb (.ints 3) totaltree_place.key (uL (L.int .i64)) mp) (.ints [p.at_, p.s.ones, p.s.centre]) (.one (.d (.int .i64 idv))) = mOb (.ints 3) totaltree_place.key (uL (L.int .i64)) (io mp p idv)) (mset_ob (.ints 3) totaltree_place.key (uL (L.int .i64)) mp p idv))]
    refine srs hn ?_
    simp -dsimp [hf]
    refine ab ?_
    cases hm
    refine ⟨.inr rfl, ?_⟩
    refine EE.step (Wk.move 5000 1000013 (by decide) (.inr (by rw [hk]; decide))) ?_
    exact EE.here (by simp -dsimp [hf])
theorem dv (p : totaltree_place) (a : List Point) (cHood : List Point) (cStates : Int) (cBirth : List Int) (cSurvive : List Int) (a1 : List (totaltree_place × Int)) (a2 : Int) (cv : Int) (cv1 : List (List UInt8 × Int)) (cStates1 : Int) (cHood1 : List Point) (cNodes : List Node) (r : Int × (List (totaltree_place × Int)) × (List (List UInt8 × Int)) × (List Node)) (hm : bz p a cHood cStates cBirth cSurvive a1 a2 cv cv1 cStates1 cHood1 cNodes = some r) : GFn Tryz.prog 142 [.u (.agg [.d (.int .i64 p.at_), .d (.int .i64 p.s.ones), .d (.int .i64 p.s.centre)]), .u (.one (.box 1000000 0)), .u (.one (.box 1000001 0)), .u (.one (.box 1000003 0)), .u (.one (.box 1000005 0)), .u (.one (.box 1000006 0)), .u (.one (.box 1000007 0)), .u (.one (.box 1000009 0)), .u (.one (.box 1000011 0))] [.box [.d (.sl 2 (List.map Point.row a))], .box [.fn 79 [.box 1000002 0]], .box [.d (.sl 2 (List.map Point.row cHood)), .d (.int .i64 cStates), .d (.sl 1 (List.map (rI .i64) cBirth)), .d (.sl 1 (List.map (rI .i64) cSurvive))], .box [.map 1000004], mOb (.ints 3) totaltree_place.key (uL (L.int .i64)) a1, .box [.d (.int .i64 a2)], .box [.fn 142 [.box 1000000 0, .box 1000001 0, .box 1000003 0, .box 1000005 0, .box 1000006 0, .box 1000007 0, .box 1000009 0, .box 1000011 0]], .box [.fn 78 [.box 1000008 0]], .box [.d (.int .i64 cv)], .box [.map 1000010], mOb .str kS (uL (L.int .i64)) cv1, .box [.d (.int .i64 cStates1), .d (.sl 2 (List.map Point.row cHood1)), .own 1000012], .row 2 75 (List.map Node.row cNodes)] (.u (.one (.d (.int .i64 r.1)))) [some (.box [.d (.sl 2 (List.map Point.row a))]), some (.box [.fn 79 [.box 1000002 0]]), some (.box [.d (.sl 2 (List.map Point.row cHood)), .d (.int .i64 cStates), .d (.sl 1 (List.map (rI .i64) cBirth)), .d (.sl 1 (List.map (rI .i64) cSurvive))]), some (.box [.map 1000004]), some (mOb (.ints 3) totaltree_place.key (uL (L.int .i64)) r.2.1), some (.box [.d (.int .i64 a2)]), some (.box [.fn 142 [.box 1000000 0, .box 1000001 0, .box 1000003 0, .box 1000005 0, .box 1000006 0, .box 1000007 0, .box 1000009 0, .box 1000011 0]]), some (.box [.fn 78 [.box 1000008 0]]), some (.box [.d (.int .i64 cv)]), some (.box [.map 1000010]), some (mOb .str kS (uL (L.int .i64)) r.2.2.1), some (.box [.d (.int .i64 cStates1), .d (.sl 2 (List.map Point.row cHood1)), .own 1000013]), none, some (.row 2 75 (List.map Node.row r.2.2.2))] := recN_ind b7 (by intro _; intro _; intro _; intro _; intro _; intro _; intro _; intro _; intro _; intro _; intro _; intro _; intro _; intro _; intro hm; cases hm) dp recF p a cHood cStates cBirth cSurvive a1 a2 cv cv1 cStates1 cHood1 cNodes r hm
theorem bw (states : Int) (l : List Point) (start : totaltree_sum) (cv : Int) (cHood : List Point) (cStates : Int) (cBirth : List Int) (cSurvive : List Int) (r : List Node) (hm : aI states l start cv cHood cStates cBirth cSurvive = some r) : GFn Tryz.prog 81 [.u (.one (.d (.int .i64 states))), .u (.one (.d (.sl 2 (List.map Point.row l)))), .u (.agg [.d (.int .i64 start.ones), .d (.int .i64 start.centre)]), .u (.one (.fn 78 [.box 1000000 0])), .u (.one (.fn 79 [.box 1000001 0]))] [.box [.d (.int .i64 cv)], .box [.d (.sl 2 (List.map Point.row cHood)), .d (.int .i64 cStates), .d (.sl 1 (List.map (rI .i64) cBirth)), .d (.sl 1 (List.map (rI .i64) cSurvive))]] (.u (.agg [.d (.int .i64 states), .d (.sl 2 (List.map Point.row l)), .own 1000002])) [some (.box [.d (.int .i64 cv)]), some (.box [.d (.sl 2 (List.map Point.row cHood)), .d (.int .i64 cStates), .d (.sl 1 (List.map (rI .i64) cBirth)), .d (.sl 1 (List.map (rI .i64) cSurvive))]), some (.row 2 75 (List.map Node.row r))] := by
 refine cV aL _ Tryz.func81 rfl (by kernel_rfl) (by simp [Tryz.ntmps81]) (by simp) (by first | rfl | simp) (by first | rfl | simp) fun cx hn hk => ?_
 replace hn : cx.n = 26 := hn.trans Tryz.ntmps81
 replace hk : cx.k = 2 := hk
 unfold aI at hm
 refine srs hn ?_
 simp -dsimp
 refine srs hn ?_
 simp -dsimp
 refine srs hn ?_
 simp -dsimp [(@id (Ob.map (.ints 3) [] = mOb (.ints 3) totaltree_place.key (uL (L.int .i64)) ([] : List (totaltree_place × Int))) (mOb_nil (.ints 3) totaltree_place.key (uL (L.int .i64))))]
 refine srs hn ?_
 simp -dsimp [(@id (Ob.map .str [] = mOb .str kS (uL (L.int .i64)) ([] : List (List UInt8 × Int))) (mOb_nil .str kS (uL (L.int .i64))))]
 refine srs hn ?_
 simp -dsimp
 refine srs hn ?_
 simp -dsimp
 refine Swp.pre (Wk.own0b 10 2 5000 2 75 [.d (.int .i64 0), .d .nil, .d .nil] (by simp -dsimp) (by rfl) (by decide) (by decide)) ?_
 refine Swp.pre (Wk.own0b 11 2 5001 2 75 [.d (.int .i64 states), .d (.sl 2 (List.map Point.row l)), .d .nil] (by simp -dsimp) (by rfl) (by decide) (by decide)) ?_
 refine srs hn ?_
 obtain ⟨y, h1, hm⟩ := bnd hm
 simp -dsimp
 refine d3 (dv (⟨0, ⟨start.ones, start.centre⟩⟩ : totaltree_place) l cHood cStates cBirth cSurvive [] states cv [] states l [] y h1) [6, 9, 1000001, 12, 18, 5, 14, 8, 1000000, 13, 19, 11, 5001] [5002] rfl rfl rfl (by simp -dsimp) rfl (by simp -dsimp) (by first | rfl | simp) rfl (dkL hn) ?_
 simp -dsimp
 refine srs hn ?_
 simp -dsimp
 refine ab ?_
 cases hm
 refine ⟨.inr rfl, ?_⟩
 refine EE.step (Wk.move 5002 1000002 (by decide) (.inr (by rw [hk]; decide))) ?_
 exact EE.here (by simp -dsimp)
theorem f_totaltree_Totals (x : Totals) (r : Tree × Int) (hm : eJ x = some r) : PFn Tryz.prog 39 [.u (.agg [.d (.sl 2 (List.map Point.row x.Hood)), .d (.int .i64 x.States), .d (.sl 1 (List.map (rI .i64) x.Birth)), .d (.sl 1 (List.map (rI .i64) x.Survive))])] (fun v => v.wk (.tup [.agg [.d (.int .i64 r.1.States), .d (.sl 2 (List.map Point.row r.1.Hood)), .d (.sl 2 (List.map Node.row r.1.Nodes))], .one (.d (.int .i64 r.2))])) := by
 refine aV Tryz.func39 Tryz.ntmps39 rfl (by kernel_rfl) (by simp) fun cx hn => ?_
 unfold eJ at hm
 refine srs hn ?_
 simp -dsimp
 refine ac ?_
 refine srs hn ?_
 obtain ⟨y, h1, hm⟩ := bnd hm
 simp -dsimp
 refine ag (k6 x y h1) (dkL hn) ?_
 simp -dsimp
 rcases aj hm with ⟨c2, hm⟩ | ⟨c2, hm⟩
 ·refine a8 (b := (aD y)) (by simp -dsimp) c2 ?_
  refine srs hn ?_
  simp -dsimp [c2]
  refine ab (ae ?_)
  cases hm
  refine ⟨.inr rfl, ?_⟩
  exact EE.here (by simp -dsimp)
 ·refine a7 (b := (aD y)) (by simp -dsimp) c2 ?_
  refine aa (a6 ?_)
  refine srs hn ?_
  obtain ⟨y1, h3, hm⟩ := bnd hm
  simp -dsimp [c2]
  refine ag (c_hood_Centre x.Hood y1 h3) (dkL hn) ?_
  simp -dsimp
  refine srs hn ?_
  simp -dsimp
  refine srs hn ?_
  simp -dsimp
  refine sw_drNs aL mixed 8 (by rw [hn]; kernel_rfl) ?_
  dsimp only [List.take, List.drop]
  obtain ⟨y2, h4, hm⟩ := bnd hm
  simp -dsimp
  refine al (c_slices_Clone_api_Point_api_Point x.Hood y2 h4) ?_
  obtain ⟨y3, h5, hm⟩ := bnd hm
  simp -dsimp
  refine d3 (bw x.States y2 (⟨0, 0⟩ : totaltree_sum) y1 x.Hood x.States x.Birth x.Survive y3 h5) [4, 1] [5000] rfl rfl rfl (by simp -dsimp) rfl (by simp -dsimp) (by first | rfl | simp) rfl (dkL hn) ?_
  simp -dsimp
  refine ab ?_
  cases hm
  refine ⟨.inr rfl, ?_⟩
  exact EE.here (by simp -dsimp)
theorem c_totaltree_Totals (x : Totals) (r : Tree × Int) (hm : eJ x = some r) : PureCall Tryz.prog 39 [.u (.agg [.d (.sl 2 (List.map Point.row x.Hood)), .d (.int .i64 x.States), .d (.sl 1 (List.map (rI .i64) x.Birth)), .d (.sl 1 (List.map (rI .i64) x.Survive))])] (.tup [.agg [.d (.int .i64 r.1.States), .d (.sl 2 (List.map Point.row r.1.Hood)), .d (.sl 2 (List.map Node.row r.1.Nodes))], .one (.d (.int .i64 r.2))]) := (f_totaltree_Totals x r hm).pureW
theorem f_notation_Parse (s : List UInt8) (r : Tree × Int) (hm : fT s = some r) : PFn Tryz.prog 17 [.u (.one (.d (.str (bs s))))] (fun v => v.wk (.tup [.agg [.d (.int .i64 r.1.States), .d (.sl 2 (List.map Point.row r.1.Hood)), .d (.sl 2 (List.map Node.row r.1.Nodes))], .one (.d (.int .i64 r.2))])) := by
 refine aV Tryz.func17 Tryz.ntmps17 rfl (by kernel_rfl) (by simp) fun cx hn => ?_
 unfold fT at hm
 refine srs hn ?_
 simp -dsimp
 refine ac ?_
 refine srs hn ?_
 obtain ⟨y, h1, hm⟩ := bnd hm
 simp -dsimp
 refine ag (c_notation_Kind s y h1) (dkL hn) ?_
 simp -dsimp
 refine srs hn ?_
 simp -dsimp
 refine ai ?_
 obtain ⟨a, j12, hm⟩ := bnd hm
 refine au [(0, .u (.one (.d (.str (bs s))))), (2, .u (.one (.box 2 0))), (4, .u (.one (.d (.int .i64 y)))), (17, .u (.one (.d (.int .i64 y)))), (18, .u (.one (.d (.bool a))))] [(2, .box [.d (.int .i64 0), .d .nil, .d .nil])] (by rfl) (by rfl) ?_ fun ρ σ hf => ?_
 ·replace hm := j12
  clear j12
  refine srs hn ?_
  simp -dsimp
  rcases aj hm with ⟨c2, hm⟩ | ⟨c2, hm⟩
  ·refine a8 (b := (eqB y 1)) (by simp -dsimp) c2 ?_
   refine aa (a6 ?_)
   cases hm
   exact EE.here (by simp -dsimp [c2])
  ·refine a7 (b := (eqB y 1)) (by simp -dsimp) c2 ?_
   refine sr1 hn ?_
   simp -dsimp [c2]
   refine a6 ?_
   cases hm
   exact EE.here (by simp -dsimp)
 ·clear j12
  simp only [Fits, ar, ap, and_true] at hf
  rcases aj hm with ⟨c3, hm⟩ | ⟨c3, hm⟩
  ·refine a8 (by simp -dsimp [hf]) c3 ?_
   refine srs hn ?_
   simp -dsimp
   refine ac ?_
   refine srs hn ?_
   simp -dsimp [hf]
   rcases aj hm with ⟨c4, hm⟩ | ⟨c4, hm⟩
   ·refine a8 (b := (eqB y 2)) (by simp -dsimp) c4 ?_
    refine sr1 hn ?_
    simp -dsimp [c4]
    refine a6 ?_
    refine srs hn ?_
    cases hm
   ·refine a7 (b := (eqB y 2)) (by simp -dsimp) c4 ?_
    refine aa (a6 ?_)
    refine srs hn ?_
    obtain ⟨y1, h5, hm⟩ := bnd hm
    simp -dsimp [hf, c4]
    refine ag (k5 s y1 h5) (dkL hn) ?_
    simp -dsimp
    refine ac ?_
    refine srs hn ?_
    simp -dsimp
    rcases aj hm with ⟨c6, hm⟩ | ⟨c6, hm⟩
    ·refine a8 (b := (neB y1.2 0)) (by simp -dsimp) c6 ?_
     refine srs hn ?_
     simp -dsimp [hf, c6]
     refine ab (ae (aH (ae ?_)))
     cases hm
     refine ⟨.inr rfl, ?_⟩
     exact EE.here (by simp -dsimp [hf])
    ·refine a7 (b := (neB y1.2 0)) (by simp -dsimp) c6 ?_
     refine aa (a6 ?_)
     refine srs hn ?_
     obtain ⟨y2, h7, hm⟩ := bnd hm
     simp -dsimp [c6]
     refine ag (c_totaltree_Totals y1.1 y2 h7) (dkL hn) ?_
     simp -dsimp [hf]
     refine ab (aH (ae ?_))
     cases hm
     refine ⟨.inr rfl, ?_⟩
     exact EE.here (by simp -dsimp [hf])
  ·refine a7 (by simp -dsimp [hf]) c3 ?_
   obtain ⟨a1, j11, hm⟩ := bnd hm
   refine au [(0, .u (.one (.d (.str (bs s))))), (2, .u (.one (.box 2 0))), (4, .u (.one (.d (.int .i64 y)))), (17, .u (.one (.d (.int .i64 y)))), (37, .u (.one (.d (.bool a1))))] [(2, .box [.d (.int .i64 0), .d .nil, .d .nil])] (by rfl) (by rfl) ?_ fun ρ σ hf => ?_
   ·replace hm := j11
    clear j11
    refine srs hn ?_
    simp -dsimp [hf]
    rcases aj hm with ⟨c8, hm⟩ | ⟨c8, hm⟩
    ·refine a8 (b := (eqB y 3)) (by simp -dsimp) c8 ?_
     refine aa (a6 ?_)
     cases hm
     exact EE.here (by simp -dsimp [hf, c8])
    ·refine a7 (b := (eqB y 3)) (by simp -dsimp) c8 ?_
     refine sr1 hn ?_
     simp -dsimp [hf, c8]
     refine a6 ?_
     cases hm
     exact EE.here (by simp -dsimp [hf])
   ·clear j11
    simp only [Fits, ar, ap, and_true] at hf
    rcases aj hm with ⟨c9, hm⟩ | ⟨c9, hm⟩
    ·refine a8 (by simp -dsimp [hf]) c9 ?_
     refine srs hn ?_
     cases hm
    ·refine a7 (by simp -dsimp [hf]) c9 ?_
     refine srs hn ?_
     simp -dsimp [hf]
     rcases aj hm with ⟨c10, hm⟩ | ⟨c10, hm⟩
     ·refine a8 (b := (eqB y 5)) (by simp -dsimp) c10 ?_
      refine srs hn ?_
      cases hm
     ·refine a7 (b := (eqB y 5)) (by simp -dsimp) c10 ?_
      refine aa ?_
      refine aM ?_
      refine a6 ?_
      refine srs hn ?_
      simp -dsimp [hf, c10]
      refine ab ?_
      cases hm
      refine ⟨.inr rfl, ?_⟩
      exact EE.here (by simp -dsimp [hf])
theorem c_notation_Parse (s : List UInt8) (r : Tree × Int) (hm : fT s = some r) : PureCall Tryz.prog 17 [.u (.one (.d (.str (bs s))))] (.tup [.agg [.d (.int .i64 r.1.States), .d (.sl 2 (List.map Point.row r.1.Hood)), .d (.sl 2 (List.map Node.row r.1.Nodes))], .one (.d (.int .i64 r.2))]) := (f_notation_Parse s r hm).pureW
theorem f_L50_glider (r : Ship) (hm : jm = some r) : PFn Tryz.prog 18 [] (fun v => v.wk (.u (.agg [.d (.sl 3 (List.map Cell.row r.Cells)), .d (.int .i64 r.Motion.Period), .d (.int .i64 r.Motion.DX), .d (.int .i64 r.Motion.DY)]))) := by
 refine aV Tryz.func18 Tryz.ntmps18 rfl (by kernel_rfl) (by simp) fun cx hn => ?_
 unfold jm at hm
 refine srs hn ?_
 simp -dsimp
 refine srs hn ?_
 simp -dsimp
 refine ab ?_
 cases hm
 refine ⟨.inr rfl, ?_⟩
 exact EE.here (by simp -dsimp)
theorem c_L50_glider (r : Ship) (hm : jm = some r) : PureCall Tryz.prog 18 [] (.u (.agg [.d (.sl 3 (List.map Cell.row r.Cells)), .d (.int .i64 r.Motion.Period), .d (.int .i64 r.Motion.DX), .d (.int .i64 r.Motion.DY)])) := (f_L50_glider r hm).pureW
end Go.Proofs.YtfpjnmhdbgbmmaaGreatDoor
