/- That the code does what the functions say (made by cc.py). -/
import Derived.Test.YtldhnnkpmhnpcaaGreatDoorWa3
namespace Go.Proofs.YtldhnnkpmhnpcaaGreatDoor
open Go.AM Go.Proofs
attribute [-simp] qlookup bv cb Ob.wipe Ob.ren Ob.frz1 cd
theorem f_totaltree_Totals_2 (s : totaltree_sum) (a : Totals) (r : Int) (hm : m_totaltree_Totals_2 s a = some r) : PFn Tryz.prog 71 [.u (.agg [.d (.int .i64 s.ones), .d (.int .i64 s.centre)]), .u (.one (.ref (Totals.row a) 0))] (fun v => v.wk (.u (.one (.d (.int .i64 r))))) := by
 refine aH Tryz.func71 Tryz.ntmps71 rfl (by kernel_rfl) (by simp) fun cx hn => ?_
 unfold m_totaltree_Totals_2 at hm
 refine srs hn ?_
 simp -dsimp
 refine srs hn ?_
 simp -dsimp
 refine ae (ai ?_)
 refine srs hn ?_
 simp -dsimp
 rcases aj hm with ⟨c1, hm⟩ | ⟨c1, hm⟩
 ·refine a8 (by simp -dsimp) c1 ?_
  obtain ⟨next, j4, hm⟩ := bnd hm
  refine am [(4, .u (.one (.d (.int .i64 next))))] [] (by rfl) (by rfl) ?_ fun ρ σ hf => ?_
  ·replace hm := j4
   clear j4
   refine srs hn ?_
   obtain ⟨y, h2, hm⟩ := bnd hm
   simp -dsimp [c1]
   refine aa (bS a.Birth s.ones y h2) (dkL hn) ?_
   simp -dsimp
   rcases aj hm with ⟨c3, hm⟩ | ⟨c3, hm⟩
   ·refine a8 (by simp -dsimp) c3 ?_
    refine sr1 hn ?_
    simp -dsimp [c3]
    refine a6 ?_
    cases hm
    exact EE.here (by simp -dsimp)
   ·refine a7 (by simp -dsimp) c3 ?_
    refine ac (a6 ?_)
    cases hm
    exact EE.here (by simp -dsimp [c3])
  ·clear j4
   simp only [Fits, ar, ap, and_true] at hf
   refine srs hn ?_
   simp -dsimp [hf]
   refine ab (aL (ag ?_))
   cases hm
   refine ⟨.inr rfl, ?_⟩
   exact EE.here (by simp -dsimp)
 ·refine a7 (by simp -dsimp) c1 ?_
  obtain ⟨a1, j9, hm⟩ := bnd hm
  refine am [(1, .u (.one (.ref (Totals.row a) 0))), (4, .u (.one (.d (.int .i64 s.centre)))), (17, .u (.one (.d (.bool a1))))] [] (by rfl) (by rfl) ?_ fun ρ σ hf => ?_
  ·replace hm := j9
   clear j9
   refine sr1 hn ?_
   rcases aj hm with ⟨c5, hm⟩ | ⟨c5, hm⟩
   ·obtain ⟨y, h6, hm⟩ := bnd hm
    simp -dsimp [c1, c5]
    refine aa (bS a.Survive s.ones y h6) (dkL hn) ?_
    simp -dsimp
    refine a6 ?_
    cases hm
    exact EE.here (by simp -dsimp)
   ·simp -dsimp [c1, c5]
    refine a6 ?_
    cases hm
    exact EE.here (by simp -dsimp)
  ·clear j9
   simp only [Fits, ar, ap, and_true] at hf
   rcases aj hm with ⟨c7, hm⟩ | ⟨c7, hm⟩
   ·refine a8 (by simp -dsimp [hf]) c7 ?_
    refine srs hn ?_
    simp -dsimp
    refine ab (aL (ag ?_))
    cases hm
    refine ⟨.inr rfl, ?_⟩
    exact EE.here (by simp -dsimp)
   ·refine a7 (by simp -dsimp [hf]) c7 ?_
    refine ac ?_
    refine aC ?_
    refine a6 ?_
    refine srs hn ?_
    obtain ⟨n, h8, hm⟩ := bnd hm
    simp -dsimp [hf, h8]
    refine ab ?_
    cases hm
    refine ⟨.inr rfl, ?_⟩
    exact EE.here (by simp -dsimp)
theorem c_totaltree_Totals_2 (s : totaltree_sum) (a : Totals) (r : Int) (hm : m_totaltree_Totals_2 s a = some r) : PureCall Tryz.prog 71 [.u (.agg [.d (.int .i64 s.ones), .d (.int .i64 s.centre)]), .u (.one (.ref (Totals.row a) 0))] (.u (.one (.d (.int .i64 r)))) := (f_totaltree_Totals_2 s a r hm).pureW
theorem eb (s : totaltree_sum) (at_ : Int) (state : Int) (a : Int) (r : Int × Int) (hm : m_totaltree_Totals_1_o s at_ state a = some r) : GFn Tryz.prog 70 [.u (.agg [.d (.int .i64 s.ones), .d (.int .i64 s.centre)]), .u (.one (.d (.int .i64 at_))), .u (.one (.d (.int .i64 state))), .u (.one (.box 1000000 0))] [.box [.d (.int .i64 a)]] (.u (.agg [.d (.int .i64 r.1), .d (.int .i64 r.2)])) [some (.box [.d (.int .i64 a)])] := by
 refine bf aM _ Tryz.func70 rfl (by kernel_rfl) (by simp [Tryz.ntmps70]) (by simp) (by first | rfl | simp) (by first | rfl | simp) fun cx hn hk => ?_
 replace hn : cx.n = 22 := hn.trans Tryz.ntmps70
 replace hk : cx.k = 1 := hk
 unfold m_totaltree_Totals_1_o at hm
 refine srs hn ?_
 simp -dsimp
 obtain ⟨⟨sones, scentre⟩, j3, hm⟩ := bnd hm
 refine am [(4, .u (.one (.box 4 0))), (7, .u (.one (.box 7 0)))] [(4, .box [.d (.int .i64 sones), .d (.int .i64 scentre)]), (7, .box [.d (.int .i64 0), .d (.int .i64 0)]), (1000000, .box [.d (.int .i64 a)])] (by rfl) (by rfl) ?_ fun ρ σ hf => ?_
 ·replace hm := j3
  clear j3
  refine ai ?_
  refine srs hn ?_
  simp -dsimp
  rcases aj hm with ⟨c1, hm⟩ | ⟨c1, hm⟩
  ·refine a8 (by simp -dsimp) c1 ?_
   refine sr1 hn ?_
   simp -dsimp [c1]
   refine aC ?_
   refine a6 ?_
   cases hm
   exact EE.here (by simp -dsimp)
  ·refine a7 (by simp -dsimp) c1 ?_
   refine srs hn ?_
   simp -dsimp [c1]
   rcases aj hm with ⟨c2, hm⟩ | ⟨c2, hm⟩
   ·refine a8 (by simp -dsimp) c2 ?_
    refine sr1 hn ?_
    simp -dsimp [c2]
    refine aC ?_
    refine a6 ?_
    cases hm
    exact EE.here (by simp -dsimp)
   ·refine a7 (by simp -dsimp) c2 ?_
    refine ac ?_
    refine aC ?_
    refine a6 ?_
    cases hm
    exact EE.here (by simp -dsimp [c2])
 ·clear j3
  simp only [Fits, ar, ap, and_true] at hf
  refine srs hn ?_
  simp -dsimp [hf]
  refine ab ?_
  cases hm
  refine ⟨.inr rfl, ?_⟩
  exact EE.here (by simp -dsimp [hf])
theorem bC (l : List Int) (n base : Int) (r : List Int) (hm : m_internal_strconv_AppendUint_o l n base = some r) : GFn Tryz.prog 195 [.u (.one (.own 1000000)), .u (.one (.d (.int .u64 n))), .u (.one (.d (.int .i64 base)))] [.row 1 5 (List.map (rI .u8) l)] (.u (.one (.own 1000001))) [none, some (.row 1 5 (List.map (rI .u8) r))] := appU_g appL rfl tf5 rfl rfl rfl rfl ⟨_, Tryz.func195, by decide, by kernel_rfl⟩ hm
theorem cS (dst : List Int) (i : Int) (base : Int) (r : List Int) (hm : m_internal_strconv_AppendInt_o dst i base = some r) : GFn Tryz.prog 168 [.u (.one (.own 1000000)), .u (.one (.d (.int .i64 i))), .u (.one (.d (.int .i64 base)))] [.row 1 5 (List.map (rI .u8) dst)] (.u (.one (.own 1000001))) [none, some (.row 1 5 (List.map (rI .u8) r))] := by
 refine bf aM _ Tryz.func168 rfl (by kernel_rfl) (by simp [Tryz.ntmps168]) (by simp) (by first | rfl | simp) (by first | rfl | simp) fun cx hn hk => ?_
 replace hn : cx.n = 21 := hn.trans Tryz.ntmps168
 replace hk : cx.k = 1 := hk
 unfold m_internal_strconv_AppendInt_o at hm
 refine srs hn ?_
 simp -dsimp
 refine srs hn ?_
 simp -dsimp
 obtain ⟨⟨u, dst1⟩, j4, hm⟩ := bnd hm
 refine am [(0, .u (.one (.own 5000))), (2, .u (.one (.d (.int .i64 base)))), (7, .u (.one (.d (.int .u64 u))))] [(5000, .row 1 5 (List.map (rI .u8) dst1))] (by rfl) (by rfl) ?_ fun ρ σ hf => ?_
 ·replace hm := j4
  clear j4
  refine srs hn ?_
  simp -dsimp
  rcases aj hm with ⟨c1, hm⟩ | ⟨c1, hm⟩
  ·refine a8 (by simp -dsimp) c1 ?_
   refine srs hn ?_
   obtain ⟨l, h2, hm⟩ := bnd hm
   obtain ⟨h2a, h2e⟩ := aB h2
   replace h2e := h2e.symm
   subst h2e
   try simp only [List.length_cons, List.length_nil, Nat.zero_add] at h2a
   try simp only [Nat.mul_one, Nat.reduceLeDiff] at h2a
   simp -dsimp [c1, h2a]
   refine sr1 hn ?_
   simp -dsimp
   refine a6 ?_
   cases hm
   refine EE.step (Wk.move 14 5000 (by decide) (.inl (by decide))) ?_
   exact EE.here (by simp -dsimp)
  ·refine a7 (by simp -dsimp) c1 ?_
   refine ac (a6 ?_)
   cases hm
   refine EE.step (Wk.move 1000000 5000 (by decide) (.inl (by decide))) ?_
   exact EE.here (by simp -dsimp [c1])
 ·clear j4
  simp only [Fits, ar, ap, and_true] at hf
  refine srs hn ?_
  obtain ⟨y, h3, hm⟩ := bnd hm
  simp -dsimp [hf]
  refine aY (bC dst1 u base y h3) [5000] [5001] rfl rfl rfl (by simp -dsimp) rfl (by simp -dsimp [hf]) (by first | rfl | simp) rfl (dkL hn) ?_
  simp -dsimp
  refine ab ?_
  cases hm
  refine ⟨.inr rfl, ?_⟩
  refine EE.step (Wk.move 5001 1000001 (by decide) (.inr (by rw [hk]; decide))) ?_
  exact EE.here (by simp -dsimp)
theorem bd (dst : List Int) (i : Int) (base : Int) (r : List Int) (hm : m_strconv_AppendInt_o dst i base = some r) : GFn Tryz.prog 135 [.u (.one (.own 1000000)), .u (.one (.d (.int .i64 i))), .u (.one (.d (.int .i64 base)))] [.row 1 5 (List.map (rI .u8) dst)] (.u (.one (.own 1000001))) [none, some (.row 1 5 (List.map (rI .u8) r))] := by
 refine bf aM _ Tryz.func135 rfl (by kernel_rfl) (by simp [Tryz.ntmps135]) (by simp) (by first | rfl | simp) (by first | rfl | simp) fun cx hn hk => ?_
 replace hn : cx.n = 11 := hn.trans Tryz.ntmps135
 replace hk : cx.k = 1 := hk
 unfold m_strconv_AppendInt_o at hm
 refine srs hn ?_
 simp -dsimp
 refine srs hn ?_
 obtain ⟨y, h1, hm⟩ := bnd hm
 simp -dsimp
 refine aY (cS dst i base y h1) [1000000] [5000] rfl rfl rfl (by simp -dsimp) rfl (by simp -dsimp) (by first | rfl | simp) rfl (dkL hn) ?_
 simp -dsimp
 refine ab ?_
 cases hm
 refine ⟨.inr rfl, ?_⟩
 refine EE.step (Wk.move 5000 1000001 (by decide) (.inr (by rw [hk]; decide))) ?_
 exact EE.here (by simp -dsimp)
def aE (rcv : (totaltree_place → (List Point) → (List Point) → Int → (List Int) → (List Int) → (List (totaltree_place × Int)) → Int → Int → (List (List UInt8 × Int)) → Int → (List Point) → (List Node) → Option (Int × (List (totaltree_place × Int)) × (List (List UInt8 × Int)) × (List Node)))) : Prop := ∀ (p : totaltree_place) (a : List Point) (cHood : List Point) (cStates : Int) (cBirth : List Int) (cSurvive : List Int) (a1 : List (totaltree_place × Int)) (a2 : Int) (cv : Int) (cv1 : List (List UInt8 × Int)) (cStates1 : Int) (cHood1 : List Point) (cNodes : List Node) (r : Int × (List (totaltree_place × Int)) × (List (List UInt8 × Int)) × (List Node)), rcv p a cHood cStates cBirth cSurvive a1 a2 cv cv1 cStates1 cHood1 cNodes = some r → GFn Tryz.prog 134 [.u (.agg [.d (.int .i64 p.at_), .d (.int .i64 p.s.ones), .d (.int .i64 p.s.centre)]), .u (.one (.box 1000000 0)), .u (.one (.box 1000001 0)), .u (.one (.box 1000003 0)), .u (.one (.box 1000005 0)), .u (.one (.box 1000006 0)), .u (.one (.box 1000007 0)), .u (.one (.box 1000009 0)), .u (.one (.box 1000011 0))] [.box [.d (.sl 2 (List.map Point.row a))], .box [.fn 71 [.box 1000002 0]], .box [.d (.sl 2 (List.map Point.row cHood)), .d (.int .i64 cStates), .d (.sl 1 (List.map (rI .i64) cBirth)), .d (.sl 1 (List.map (rI .i64) cSurvive))], .box [.map 1000004], mOb (.ints 3) totaltree_place.key (uL (L.int .i64)) a1, .box [.d (.int .i64 a2)], .box [.fn 134 [.box 1000000 0, .box 1000001 0, .box 1000003 0, .box 1000005 0, .box 1000006 0, .box 1000007 0, .box 1000009 0, .box 1000011 0]], .box [.fn 70 [.box 1000008 0]], .box [.d (.int .i64 cv)], .box [.map 1000010], mOb .str kS (uL (L.int .i64)) cv1, .box [.d (.int .i64 cStates1), .d (.sl 2 (List.map Point.row cHood1)), .own 1000012], .row 2 46 (List.map Node.row cNodes)] (.u (.one (.d (.int .i64 r.1)))) [some (.box [.d (.sl 2 (List.map Point.row a))]), some (.box [.fn 71 [.box 1000002 0]]), some (.box [.d (.sl 2 (List.map Point.row cHood)), .d (.int .i64 cStates), .d (.sl 1 (List.map (rI .i64) cBirth)), .d (.sl 1 (List.map (rI .i64) cSurvive))]), some (.box [.map 1000004]), some (mOb (.ints 3) totaltree_place.key (uL (L.int .i64)) r.2.1), some (.box [.d (.int .i64 a2)]), some (.box [.fn 134 [.box 1000000 0, .box 1000001 0, .box 1000003 0, .box 1000005 0, .box 1000006 0, .box 1000007 0, .box 1000009 0, .box 1000011 0]]), some (.box [.fn 70 [.box 1000008 0]]), some (.box [.d (.int .i64 cv)]), some (.box [.map 1000010]), some (mOb .str kS (uL (L.int .i64)) r.2.2.1), some (.box [.d (.int .i64 cStates1), .d (.sl 2 (List.map Point.row cHood1)), .own 1000013]), none, some (.row 2 46 (List.map Node.row r.2.2.2))]
def ay (cx : Cx) (_rcv : (totaltree_place → (List Point) → (List Point) → Int → (List Int) → (List Int) → (List (totaltree_place × Int)) → Int → Int → (List (List UInt8 × Int)) → Int → (List Point) → (List Node) → Option (Int × (List (totaltree_place × Int)) × (List (List UInt8 × Int)) × (List Node)))) (p : totaltree_place) (a : List Point) (cHood : List Point) (cStates : Int) (cBirth : List Int) (cSurvive : List Int) (a2 : Int) (cv : Int) (cStates1 : Int) (cHood1 : List Point) (_u : Unit) (tt : ((List Node) × (List Int) × (List Int) × (List (totaltree_place × Int)) × (List (List UInt8 × Int)))) (ee : Exit) (ρ : Env) (σ : Sto) : Prop := match tt with
 | (l, keyv, l1, mp, mp1) => ee = .exit 0 ∧ EE cx (aK [(3, .u (.one (.box 1000003 0))), (7, .u (.one (.box 1000009 0))), (8, .u (.one (.box 1000011 0))), (9, .u (.one (.box 9 0))), (13, .u (.one (.box 13 0))), (14, .u (.one (.own 5003)))] [(9, .box [.d (.int .i64 p.at_), .d (.int .i64 p.s.ones), .d (.int .i64 p.s.centre)]), (13, .box [.d (.int .i64 (aO .i64 (al a) p.at_)), .own 5004]), (5000, .row 2 46 (List.map Node.row l)), (5003, .row 1 5 (List.map (rI .u8) keyv)), (5004, .row 1 3 (List.map (rI .i64) l1)), (1000000, .box [.d (.sl 2 (List.map Point.row a))]), (1000001, .box [.fn 71 [.box 1000002 0]]), (1000002, .box [.d (.sl 2 (List.map Point.row cHood)), .d (.int .i64 cStates), .d (.sl 1 (List.map (rI .i64) cBirth)), .d (.sl 1 (List.map (rI .i64) cSurvive))]), (1000003, .box [.map 1000004]), (1000004, mOb (.ints 3) totaltree_place.key (uL (L.int .i64)) mp), (1000005, .box [.d (.int .i64 a2)]), (1000006, .box [.fn 134 [.box 1000000 0, .box 1000001 0, .box 1000003 0, .box 1000005 0, .box 1000006 0, .box 1000007 0, .box 1000009 0, .box 1000011 0]]), (1000007, .box [.fn 70 [.box 1000008 0]]), (1000008, .box [.d (.int .i64 cv)]), (1000009, .box [.map 1000010]), (1000010, mOb .str kS (uL (L.int .i64)) mp1), (1000011, .box [.d (.int .i64 cStates1), .d (.sl 2 (List.map Point.row cHood1)), .own 5000])]) ρ σ
set_option maxRecDepth 100000 in
theorem bo (cx : Cx) (hn : cx.n = 101) (_hk : cx.k = 13) (rcv : (totaltree_place → (List Point) → (List Point) → Int → (List Int) → (List Int) → (List (totaltree_place × Int)) → Int → Int → (List (List UInt8 × Int)) → Int → (List Point) → (List Node) → Option (Int × (List (totaltree_place × Int)) × (List (List UInt8 × Int)) × (List Node)))) (p : totaltree_place) (a : List Point) (cHood : List Point) (cStates : Int) (cBirth : List Int) (cSurvive : List Int) (a2 : Int) (cv : Int) (cStates1 : Int) (cHood1 : List Point) (u : Unit) (hrcv : aE rcv) {fu : Nat} {stt : Int × (List Node) × (List Int) × (List Int) × (List (totaltree_place × Int)) × (List (List UInt8 × Int))} {tt : ((List Node) × (List Int) × (List Int) × (List (totaltree_place × Int)) × (List (List UInt8 × Int)))} (hh : ah (b_totaltree_build_totaltree_sum_1_o_o_o_o_o_o_o_o_1 rcv p a cHood cStates cBirth cSurvive a2 cv cStates1 cHood1 u) fu stt = some tt) {ρ : Env} {σ : Sto}
  (hE : aT (fun stt : Int × (List Node) × (List Int) × (List Int) × (List (totaltree_place × Int)) × (List (List UInt8 × Int)) => match stt with | (a3, _l, _keyv, _l1, _mp, _mp1) => [(3, .u (.one (.box 1000003 0))), (5, .u (.one (.box 1000006 0))), (6, .u (.one (.box 1000007 0))), (7, .u (.one (.box 1000009 0))), (8, .u (.one (.box 1000011 0))), (9, .u (.one (.box 9 0))), (13, .u (.one (.box 13 0))), (14, .u (.one (.own 5003))), (46, .u (.one (.d (.int .i64 a2)))), (47, .u (.one (.d (.int .i64 a3))))]) (fun stt : Int × (List Node) × (List Int) × (List Int) × (List (totaltree_place × Int)) × (List (List UInt8 × Int)) => match stt with | (_a3, l, keyv, l1, mp, mp1) => [(9, .box [.d (.int .i64 p.at_), .d (.int .i64 p.s.ones), .d (.int .i64 p.s.centre)]), (13, .box [.d (.int .i64 (aO .i64 (al a) p.at_)), .own 5004]), (5000, .row 2 46 (List.map Node.row l)), (5003, .row 1 5 (List.map (rI .u8) keyv)), (5004, .row 1 3 (List.map (rI .i64) l1)), (1000000, .box [.d (.sl 2 (List.map Point.row a))]), (1000001, .box [.fn 71 [.box 1000002 0]]), (1000002, .box [.d (.sl 2 (List.map Point.row cHood)), .d (.int .i64 cStates), .d (.sl 1 (List.map (rI .i64) cBirth)), .d (.sl 1 (List.map (rI .i64) cSurvive))]), (1000003, .box [.map 1000004]), (1000004, mOb (.ints 3) totaltree_place.key (uL (L.int .i64)) mp), (1000005, .box [.d (.int .i64 a2)]), (1000006, .box [.fn 134 [.box 1000000 0, .box 1000001 0, .box 1000003 0, .box 1000005 0, .box 1000006 0, .box 1000007 0, .box 1000009 0, .box 1000011 0]]), (1000007, .box [.fn 70 [.box 1000008 0]]), (1000008, .box [.d (.int .i64 cv)]), (1000009, .box [.map 1000010]), (1000010, mOb .str kS (uL (L.int .i64)) mp1), (1000011, .box [.d (.int .i64 cStates1), .d (.sl 2 (List.map Point.row cHood1)), .own 5000])]) stt ρ σ) : Swp Tryz.prog cx (.loop (bi [1, 1, 1, 1, 1, 0, 1, 0, 0] (aG Tryz.f134))) ρ σ (ay cx rcv p a cHood cStates cBirth cSurvive a2 cv cStates1 cHood1 u tt) := by
 refine b3 hE hh (ay cx rcv p a cHood cStates cBirth cSurvive a2 cv cStates1 cHood1 u) ?_
 rintro ⟨a3, l, keyv, l1, mp, mp1⟩ r hm ρ σ hf
 simp only [Fits, ar, ap, and_true] at hf
 unfold b_totaltree_build_totaltree_sum_1_o_o_o_o_o_o_o_o_1 at hm
 dsimp only at hm
 refine srs hn ?_
 simp -dsimp [hf]
 refine ae ?_
 rcases aj hm with ⟨c5, hm⟩ | ⟨c5, hm⟩
 ·refine a8 (by simp -dsimp) c5 ?_
  refine ac (a6 (ae (ai ?_)))
  refine srs hn ?_
  simp -dsimp [hf, c5]
  refine sw_midcs aM mixed 10 11 12 0 [[0, 1, 2, 3]] [[]] [true] none (by rw [hn]; kernel_rfl) dY ?_
  dsimp only [List.take, List.drop, dx, dQ, uopsD, pk, List.cons_append, List.nil_append, List.flatten_cons, List.flatten_nil, d3, d8, List.append_nil]
  obtain ⟨y, h6, hm⟩ := bnd hm
  simp -dsimp [hf]
  refine callE_g (eb p.s p.at_ a3 cv y h6) [1000008] [] rfl rfl rfl (by simp -dsimp) rfl (by simp -dsimp [hf]) (by first | rfl | simp) rfl (dkL hn) rfl rfl (by simp) nofun (by simp) ?_
  obtain ⟨y1, h7, hm⟩ := bnd hm
  simp -dsimp [hf]
  refine aY (hrcv (⟨(aZ .i64 p.at_ 1), ⟨y.1, y.2⟩⟩ : totaltree_place) a cHood cStates cBirth cSurvive mp a2 cv mp1 cStates1 cHood1 l y1 h7) [1000000, 1000001, 1000002, 1000003, 1000004, 1000005, 1000006, 1000007, 1000008, 1000009, 1000010, 1000011, 5000] [5001] rfl rfl rfl (by simp -dsimp) rfl (by simp -dsimp [hf]) (by first | rfl | simp) rfl (dkL hn) ?_
  simp -dsimp
  refine srs hn ?_
  obtain ⟨l2, h8, hm⟩ := bnd hm
  obtain ⟨h8a, h8e⟩ := aB h8
  replace h8e := h8e.symm
  subst h8e
  try simp only [List.length_cons, List.length_nil, Nat.zero_add] at h8a
  simp -dsimp [hf, h8a]
  refine sr1 hn ?_
  obtain ⟨l3, h9, hm⟩ := bnd hm
  obtain ⟨h9a, h9e⟩ := aB h9
  replace h9e := h9e.symm
  subst h9e
  try simp only [List.length_cons, List.length_nil, Nat.zero_add] at h9a
  try simp only [Nat.mul_one, Nat.reduceLeDiff] at h9a
  obtain ⟨y2, h10, hm⟩ := bnd hm
  simp -dsimp [hf, h9a]
  refine aY (bd (keyv ++ [32]) y1.1 10 y2 h10) [71] [5002] rfl rfl rfl (by simp -dsimp) rfl (by simp -dsimp) (by first | rfl | simp) rfl (dkL hn) ?_
  simp -dsimp
  refine aC ?_
  refine a6 ?_
  refine sr1 hn ?_
  simp -dsimp [hf]
  cases hm
  refine ax ?_
  refine EE.step (Wk.move 5002 5003 (by decide) (.inl (by decide))) ?_
  refine EE.step (Wk.move 67 5004 (by decide) (.inl (by decide))) ?_
  refine EE.step (Wk.move 5001 5000 (by decide) (.inl (by decide))) ?_
  exact EE.here (by simp -dsimp [hf])
 ·refine a7 (by simp -dsimp) c5 ?_
  refine au ?_
  refine ag ?_
  cases hm
  refine aw nofun ?_
  unfold ay
  dsimp only
  refine ⟨rfl, ?_⟩
  exact EE.here (by simp -dsimp [hf, c5])
theorem bq (rcv : (totaltree_place → (List Point) → (List Point) → Int → (List Int) → (List Int) → (List (totaltree_place × Int)) → Int → Int → (List (List UInt8 × Int)) → Int → (List Point) → (List Node) → Option (Int × (List (totaltree_place × Int)) × (List (List UInt8 × Int)) × (List Node)))) (hrcv : aE rcv) (p : totaltree_place) (a : List Point) (cHood : List Point) (cStates : Int) (cBirth : List Int) (cSurvive : List Int) (a1 : List (totaltree_place × Int)) (a2 : Int) (cv : Int) (cv1 : List (List UInt8 × Int)) (cStates1 : Int) (cHood1 : List Point) (cNodes : List Node) (r : Int × (List (totaltree_place × Int)) × (List (List UInt8 × Int)) × (List Node)) (hm : mb_totaltree_build_totaltree_sum_1_o_o_o_o_o_o_o_o rcv p a cHood cStates cBirth cSurvive a1 a2 cv cv1 cStates1 cHood1 cNodes = some r) : GFn Tryz.prog 134 [.u (.agg [.d (.int .i64 p.at_), .d (.int .i64 p.s.ones), .d (.int .i64 p.s.centre)]), .u (.one (.box 1000000 0)), .u (.one (.box 1000001 0)), .u (.one (.box 1000003 0)), .u (.one (.box 1000005 0)), .u (.one (.box 1000006 0)), .u (.one (.box 1000007 0)), .u (.one (.box 1000009 0)), .u (.one (.box 1000011 0))] [.box [.d (.sl 2 (List.map Point.row a))], .box [.fn 71 [.box 1000002 0]], .box [.d (.sl 2 (List.map Point.row cHood)), .d (.int .i64 cStates), .d (.sl 1 (List.map (rI .i64) cBirth)), .d (.sl 1 (List.map (rI .i64) cSurvive))], .box [.map 1000004], mOb (.ints 3) totaltree_place.key (uL (L.int .i64)) a1, .box [.d (.int .i64 a2)], .box [.fn 134 [.box 1000000 0, .box 1000001 0, .box 1000003 0, .box 1000005 0, .box 1000006 0, .box 1000007 0, .box 1000009 0, .box 1000011 0]], .box [.fn 70 [.box 1000008 0]], .box [.d (.int .i64 cv)], .box [.map 1000010], mOb .str kS (uL (L.int .i64)) cv1, .box [.d (.int .i64 cStates1), .d (.sl 2 (List.map Point.row cHood1)), .own 1000012], .row 2 46 (List.map Node.row cNodes)] (.u (.one (.d (.int .i64 r.1)))) [some (.box [.d (.sl 2 (List.map Point.row a))]), some (.box [.fn 71 [.box 1000002 0]]), some (.box [.d (.sl 2 (List.map Point.row cHood)), .d (.int .i64 cStates), .d (.sl 1 (List.map (rI .i64) cBirth)), .d (.sl 1 (List.map (rI .i64) cSurvive))]), some (.box [.map 1000004]), some (mOb (.ints 3) totaltree_place.key (uL (L.int .i64)) r.2.1), some (.box [.d (.int .i64 a2)]), some (.box [.fn 134 [.box 1000000 0, .box 1000001 0, .box 1000003 0, .box 1000005 0, .box 1000006 0, .box 1000007 0, .box 1000009 0, .box 1000011 0]]), some (.box [.fn 70 [.box 1000008 0]]), some (.box [.d (.int .i64 cv)]), some (.box [.map 1000010]), some (mOb .str kS (uL (L.int .i64)) r.2.2.1), some (.box [.d (.int .i64 cStates1), .d (.sl 2 (List.map Point.row cHood1)), .own 1000013]), none, some (.row 2 46 (List.map Node.row r.2.2.2))] := by
 refine bf aM _ Tryz.func134 rfl (by kernel_rfl) (by simp [Tryz.ntmps134]) (by simp) (by first | rfl | simp) (by first | rfl | simp) fun cx hn hk => ?_
 replace hn : cx.n = 101 := hn.trans Tryz.ntmps134
 replace hk : cx.k = 13 := hk
 unfold mb_totaltree_build_totaltree_sum_1_o_o_o_o_o_o_o_o at hm
 refine srs hn ?_
 simp -dsimp
 refine ae ?_
 refine srs hn ?_
 simp -dsimp
 rcases aj hm with ⟨c1, hm⟩ | ⟨c1, hm⟩
 ·refine a8 (by simp -dsimp) c1 ?_
  refine srs hn ?_
  obtain ⟨y, h2, hm⟩ := bnd hm
  simp -dsimp [c1]
  refine du (us' := [.u (.agg [.d (.int .i64 p.s.ones), .d (.int .i64 p.s.centre)]), .u (.one (.ref (Totals.row (⟨cHood, cStates, cBirth, cSurvive⟩ : Totals)) 0))]) (c_totaltree_Totals_2 p.s (⟨cHood, cStates, cBirth, cSurvive⟩ : Totals) y h2) (by simp -dsimp) rfl (dkL hn) ?_
  simp -dsimp
  refine ab (ag ?_)
  cases hm
  refine ⟨.inr rfl, ?_⟩
  refine EE.step (Wk.move 1000012 1000013 (by decide) (.inr (by rw [hk]; decide))) ?_
  exact EE.here (by simp -dsimp)
 ·refine a7 (by simp -dsimp) c1 ?_
  refine ac (a6 (ae ?_))
  refine srs hn ?_
  obtain ⟨u, h3, hm⟩ := bnd hm
  simp -dsimp [c1, bM h3 (.head _), bM h3 (.tail _ (.head _)), bM h3 (.tail _ (.tail _ (.head _))), (@id (lkM (db (mOb (.ints 3) totaltree_place.key (uL (L.int .i64)) a1) (.ints [p.at_, p.s.ones, p.s.centre])) true (.one (.d (.int .i64 0))) = some (.tup [.one (.d (.int .i64 (cN a1 p 0))), .one (.d (.bool (bh a1 p)))])) (lk_two p 0))]
  refine srs hn ?_
  simp -dsimp
  rcases aj hm with ⟨c4, hm⟩ | ⟨c4, hm⟩
  ·refine a8 (b := (bh a1 p)) (by simp -dsimp) c4 ?_
   refine srs hn ?_
   simp -dsimp [c4]
   refine ab (ag ?_)
   cases hm
   refine ⟨.inr rfl, ?_⟩
   refine EE.step (Wk.move 1000012 1000013 (by decide) (.inr (by rw [hk]; decide))) ?_
   exact EE.here (by simp -dsimp)
  ·refine a7 (b := (bh a1 p)) (by simp -dsimp) c4 ?_
   refine ac (a6 ?_)
   refine srs hn ?_
   simp -dsimp [c4]
   refine sw_regBs aM 3 (by rw [hn]; kernel_rfl) ?_
   dsimp only [List.take, List.drop]
   simp -dsimp
   refine ae ?_
   refine srs hn ?_
   simp -dsimp
   refine ai ?_
   obtain ⟨⟨l, keyv, l1, mp, mp1⟩, g11, hm⟩ := bnd hm
   refine aF (bo cx hn hk rcv p a cHood cStates cBirth cSurvive a2 cv cStates1 cHood1 u hrcv g11) (by
     try dsimp only
     refine EE.step (Wk.move 45 5003 (by decide) (.inl (by decide))) ?_
     refine EE.step (Wk.move 1000012 5000 (by decide) (.inl (by decide))) ?_
     refine EE.step (Wk.own0b 13 1 5004 1 3 [.d (.int .i64 (aO .i64 (al a) p.at_)), .d .nil] (by simp -dsimp) (by rfl) (by decide) (by decide)) ?_
     exact EE.here (by simp -dsimp)
   ) fun ee ρ σ x12 => ?_
   unfold ay at x12
   dsimp only at x12
   obtain ⟨rfl, x12⟩ := x12
   refine av ?_
   refine a6 ?_
   refine aV (by rfl) (by rfl) x12 fun ρ σ hf => ?_
   simp only [Fits, ar, ap, and_true] at hf
   refine srs hn ?_
   obtain ⟨u1, h13, hm⟩ := bnd hm
   simp -dsimp [hf, ca h13, (@id (lkM (db (mOb .str kS (uL (L.int .i64)) mp1) (.str (ofBytes keyv))) true (.one (.d (.int .i64 0))) = some (.tup [.one (.d (.int .i64 (cN mp1 (ofBytes keyv) 0))), .one (.d (.bool (bh mp1 (ofBytes keyv))))])) (lk_two (ofBytes keyv) 0))]
   obtain ⟨⟨idv, mp2, l2⟩, j16, hm⟩ := bnd hm
   refine am [(3, .u (.one (.box 1000003 0))), (9, .u (.one (.box 9 0))), (17, .u (.one (.d (.int .i64 idv))))] [(9, .box [.d (.int .i64 p.at_), .d (.int .i64 p.s.ones), .d (.int .i64 p.s.centre)]), (5000, .row 2 46 (List.map Node.row l2)), (1000000, .box [.d (.sl 2 (List.map Point.row a))]), (1000001, .box [.fn 71 [.box 1000002 0]]), (1000002, .box [.d (.sl 2 (List.map Point.row cHood)), .d (.int .i64 cStates), .d (.sl 1 (List.map (rI .i64) cBirth)), .d (.sl 1 (List.map (rI .i64) cSurvive))]), (1000003, .box [.map 1000004]), (1000004, mOb (.ints 3) totaltree_place.key (uL (L.int .i64)) mp), (1000005, .box [.d (.int .i64 a2)]), (1000006, .box [.fn 134 [.box 1000000 0, .box 1000001 0, .box 1000003 0, .box 1000005 0, .box 1000006 0, .box 1000007 0, .box 1000009 0, .box 1000011 0]]), (1000007, .box [.fn 70 [.box 1000008 0]]), (1000008, .box [.d (.int .i64 cv)]), (1000009, .box [.map 1000010]), (1000010, mOb .str kS (uL (L.int .i64)) mp2), (1000011, .box [.d (.int .i64 cStates1), .d (.sl 2 (List.map Point.row cHood1)), .own 5000])] (by rfl) (by rfl) ?_ fun ρ σ hf => ?_
   ·replace hm := j16
    clear j16
    refine srs hn ?_
    simp -dsimp
    rcases aj hm with ⟨c14, hm⟩ | ⟨c14, hm⟩
    ·refine a8 (b := (b9 (bh mp1 (ofBytes keyv)))) (by simp -dsimp) c14 ?_
     refine srs hn ?_
     simp -dsimp [hf, c14]
     refine Swp.pre (Wk.frz 5004 1 3 (List.map (rI .i64) l1) (by simp -dsimp [hf])) ?_
     refine srs hn ?_
     obtain ⟨l2, h15, hm⟩ := bnd hm
     obtain ⟨h15a, h15e⟩ := aB h15
     replace h15e := h15e.symm
     subst h15e
     try simp only [List.length_cons, List.length_nil, Nat.zero_add] at h15a
     simp -dsimp [hf, h15a]
     refine sr1 hn ?_
     simp -dsimp [hf, ca h13, (@id (dy (mOb .str kS (uL (L.int .i64)) mp1) (.str (ofBytes keyv)) (.one (.d (.int .i64 (al l)))) = mOb .str kS (uL (L.int .i64)) (cH mp1 (ofBytes keyv) (al l))) (dO .str kS (uL (L.int .i64)) mp1 (ofBytes keyv) (al l)))]
     refine a6 ?_
     cases hm
     refine EE.step (Wk.move 91 5000 (by decide) (.inl (by decide))) ?_
     exact EE.here (by simp -dsimp [hf])
    ·refine a7 (b := (b9 (bh mp1 (ofBytes keyv)))) (by simp -dsimp) c14 ?_
     refine ac (a6 ?_)
     cases hm
     exact EE.here (by simp -dsimp [hf, c14])
   ·clear j16
    simp only [Fits, ar, ap, and_true] at hf
    refine srs hn ?_
    simp -dsimp [hf, bM h3 (.head _), bM h3 (.tail _ (.head _)), bM h3 (.tail _ (.tail _ (.head _))), (@id (dy (mOb (.ints 3) totaltree_place.key (uL (L.int .i64)) mp) (.ints [p.at_, p.s.ones, p.s.centre]) (.one (.d (.int .i64 idv))) = mOb (.ints 3) totaltree_place.key (uL (L.int .i64)) (cH mp p idv)) (dO (.ints 3) totaltree_place.key (uL (L.int .i64)) mp p idv))]
    refine srs hn ?_
    simp -dsimp [hf]
    refine ab ?_
    cases hm
    refine ⟨.inr rfl, ?_⟩
    refine EE.step (Wk.move 5000 1000013 (by decide) (.inr (by rw [hk]; decide))) ?_
    exact EE.here (by simp -dsimp [hf])
set_option maxRecDepth 100000 in
theorem br (p : totaltree_place) (a : List Point) (cHood : List Point) (cStates : Int) (cBirth : List Int) (cSurvive : List Int) (a1 : List (totaltree_place × Int)) (a2 : Int) (cv : Int) (cv1 : List (List UInt8 × Int)) (cStates1 : Int) (cHood1 : List Point) (cNodes : List Node) (r : Int × (List (totaltree_place × Int)) × (List (List UInt8 × Int)) × (List Node)) (hm : m_totaltree_build_totaltree_sum_1_o_o_o_o_o_o_o_o p a cHood cStates cBirth cSurvive a1 a2 cv cv1 cStates1 cHood1 cNodes = some r) : GFn Tryz.prog 134 [.u (.agg [.d (.int .i64 p.at_), .d (.int .i64 p.s.ones), .d (.int .i64 p.s.centre)]), .u (.one (.box 1000000 0)), .u (.one (.box 1000001 0)), .u (.one (.box 1000003 0)), .u (.one (.box 1000005 0)), .u (.one (.box 1000006 0)), .u (.one (.box 1000007 0)), .u (.one (.box 1000009 0)), .u (.one (.box 1000011 0))] [.box [.d (.sl 2 (List.map Point.row a))], .box [.fn 71 [.box 1000002 0]], .box [.d (.sl 2 (List.map Point.row cHood)), .d (.int .i64 cStates), .d (.sl 1 (List.map (rI .i64) cBirth)), .d (.sl 1 (List.map (rI .i64) cSurvive))], .box [.map 1000004], mOb (.ints 3) totaltree_place.key (uL (L.int .i64)) a1, .box [.d (.int .i64 a2)], .box [.fn 134 [.box 1000000 0, .box 1000001 0, .box 1000003 0, .box 1000005 0, .box 1000006 0, .box 1000007 0, .box 1000009 0, .box 1000011 0]], .box [.fn 70 [.box 1000008 0]], .box [.d (.int .i64 cv)], .box [.map 1000010], mOb .str kS (uL (L.int .i64)) cv1, .box [.d (.int .i64 cStates1), .d (.sl 2 (List.map Point.row cHood1)), .own 1000012], .row 2 46 (List.map Node.row cNodes)] (.u (.one (.d (.int .i64 r.1)))) [some (.box [.d (.sl 2 (List.map Point.row a))]), some (.box [.fn 71 [.box 1000002 0]]), some (.box [.d (.sl 2 (List.map Point.row cHood)), .d (.int .i64 cStates), .d (.sl 1 (List.map (rI .i64) cBirth)), .d (.sl 1 (List.map (rI .i64) cSurvive))]), some (.box [.map 1000004]), some (mOb (.ints 3) totaltree_place.key (uL (L.int .i64)) r.2.1), some (.box [.d (.int .i64 a2)]), some (.box [.fn 134 [.box 1000000 0, .box 1000001 0, .box 1000003 0, .box 1000005 0, .box 1000006 0, .box 1000007 0, .box 1000009 0, .box 1000011 0]]), some (.box [.fn 70 [.box 1000008 0]]), some (.box [.d (.int .i64 cv)]), some (.box [.map 1000010]), some (mOb .str kS (uL (L.int .i64)) r.2.2.1), some (.box [.d (.int .i64 cStates1), .d (.sl 2 (List.map Point.row cHood1)), .own 1000013]), none, some (.row 2 46 (List.map Node.row r.2.2.2))] := recN_ind aE (by intro _; intro _; intro _; intro _; intro _; intro _; intro _; intro _; intro _; intro _; intro _; intro _; intro _; intro _; intro hm; cases hm) bq recF p a cHood cStates cBirth cSurvive a1 a2 cv cv1 cStates1 cHood1 cNodes r hm
theorem g_totaltree_build_totaltree_sum_totaltree_Totals_1_o_totaltree_Totals_2_o (states : Int) (l : List Point) (start : totaltree_sum) (cv : Int) (cHood : List Point) (cStates : Int) (cBirth : List Int) (cSurvive : List Int) (r : List Node) (hm : m_totaltree_build_totaltree_sum_totaltree_Totals_1_o_totaltree_Totals_2_o states l start cv cHood cStates cBirth cSurvive = some r) : GFn Tryz.prog 73 [.u (.one (.d (.int .i64 states))), .u (.one (.d (.sl 2 (List.map Point.row l)))), .u (.agg [.d (.int .i64 start.ones), .d (.int .i64 start.centre)]), .u (.one (.fn 70 [.box 1000000 0])), .u (.one (.fn 71 [.box 1000001 0]))] [.box [.d (.int .i64 cv)], .box [.d (.sl 2 (List.map Point.row cHood)), .d (.int .i64 cStates), .d (.sl 1 (List.map (rI .i64) cBirth)), .d (.sl 1 (List.map (rI .i64) cSurvive))]] (.u (.agg [.d (.int .i64 states), .d (.sl 2 (List.map Point.row l)), .d (.sl 2 (List.map Node.row r))])) [some (.box [.d (.int .i64 cv)]), some (.box [.d (.sl 2 (List.map Point.row cHood)), .d (.int .i64 cStates), .d (.sl 1 (List.map (rI .i64) cBirth)), .d (.sl 1 (List.map (rI .i64) cSurvive))])] := by
 refine bf aM _ Tryz.func73 rfl (by kernel_rfl) (by simp [Tryz.ntmps73]) (by simp) (by first | rfl | simp) (by first | rfl | simp) fun cx hn hk => ?_
 replace hn : cx.n = 26 := hn.trans Tryz.ntmps73
 replace hk : cx.k = 2 := hk
 unfold m_totaltree_build_totaltree_sum_totaltree_Totals_1_o_totaltree_Totals_2_o at hm
 refine srs hn ?_
 simp -dsimp
 refine srs hn ?_
 simp -dsimp
 refine srs hn ?_
 simp -dsimp [(@id (Ob.map (.ints 3) [] = mOb (.ints 3) totaltree_place.key (uL (L.int .i64)) ([] : List (totaltree_place × Int))) (dh (.ints 3) totaltree_place.key (uL (L.int .i64))))]
 refine srs hn ?_
 simp -dsimp [(@id (Ob.map .str [] = mOb .str kS (uL (L.int .i64)) ([] : List (List UInt8 × Int))) (dh .str kS (uL (L.int .i64))))]
 refine srs hn ?_
 simp -dsimp
 refine srs hn ?_
 simp -dsimp
 refine Swp.pre (Wk.own0b 10 2 5000 2 46 [.d (.int .i64 0), .d .nil, .d .nil] (by simp -dsimp) (by rfl) (by decide) (by decide)) ?_
 refine Swp.pre (Wk.own0b 11 2 5001 2 46 [.d (.int .i64 states), .d (.sl 2 (List.map Point.row l)), .d .nil] (by simp -dsimp) (by rfl) (by decide) (by decide)) ?_
 refine srs hn ?_
 obtain ⟨y, h1, hm⟩ := bnd hm
 simp -dsimp
 refine aY (br (⟨0, ⟨start.ones, start.centre⟩⟩ : totaltree_place) l cHood cStates cBirth cSurvive [] states cv [] states l [] y h1) [6, 9, 1000001, 12, 18, 5, 14, 8, 1000000, 13, 19, 11, 5001] [5002] rfl rfl rfl (by simp -dsimp) rfl (by simp -dsimp) (by first | rfl | simp) rfl (dkL hn) ?_
 simp -dsimp
 refine Swp.pre (Wk.frz 5002 2 46 (List.map Node.row y.2.2.2) (by simp -dsimp)) ?_
 refine srs hn ?_
 simp -dsimp
 refine ab ?_
 cases hm
 refine ⟨.inr rfl, ?_⟩
 exact EE.here (by simp -dsimp)
theorem f_totaltree_Totals (x : Totals) (r : Tree × Int) (hm : m_totaltree_Totals x = some r) : PFn Tryz.prog 26 [.u (.agg [.d (.sl 2 (List.map Point.row x.Hood)), .d (.int .i64 x.States), .d (.sl 1 (List.map (rI .i64) x.Birth)), .d (.sl 1 (List.map (rI .i64) x.Survive))])] (fun v => v.wk (.tup [.agg [.d (.int .i64 r.1.States), .d (.sl 2 (List.map Point.row r.1.Hood)), .d (.sl 2 (List.map Node.row r.1.Nodes))], .one (.d (.int .i64 r.2))])) := by
 refine aH Tryz.func26 Tryz.ntmps26 rfl (by kernel_rfl) (by simp) fun cx hn => ?_
 unfold m_totaltree_Totals at hm
 refine srs hn ?_
 simp -dsimp
 refine ae ?_
 refine srs hn ?_
 obtain ⟨y, h1, hm⟩ := bnd hm
 simp -dsimp
 refine aa (bg x y h1) (dkL hn) ?_
 simp -dsimp
 rcases aj hm with ⟨c2, hm⟩ | ⟨c2, hm⟩
 ·refine a8 (by simp -dsimp) c2 ?_
  refine srs hn ?_
  simp -dsimp [c2]
  refine ab (ag ?_)
  cases hm
  refine ⟨.inr rfl, ?_⟩
  exact EE.here (by simp -dsimp)
 ·refine a7 (by simp -dsimp) c2 ?_
  refine ac (a6 ?_)
  refine srs hn ?_
  obtain ⟨y1, h3, hm⟩ := bnd hm
  simp -dsimp [c2]
  refine aa (c_hood_Centre x.Hood y1 h3) (dkL hn) ?_
  simp -dsimp
  refine srs hn ?_
  simp -dsimp
  refine srs hn ?_
  simp -dsimp
  refine eg aM mixed 8 (by rw [hn]; kernel_rfl) ?_
  dsimp only [List.take, List.drop]
  obtain ⟨y2, h4, hm⟩ := bnd hm
  simp -dsimp
  refine aD (bp x.Hood y2 h4) ?_
  obtain ⟨y3, h5, hm⟩ := bnd hm
  simp -dsimp
  refine aY (g_totaltree_build_totaltree_sum_totaltree_Totals_1_o_totaltree_Totals_2_o x.States y2 (⟨0, 0⟩ : totaltree_sum) y1 x.Hood x.States x.Birth x.Survive y3 h5) [4, 1] [] rfl rfl rfl (by simp -dsimp) rfl (by simp -dsimp) (by first | rfl | simp) rfl (dkL hn) ?_
  simp -dsimp
  refine ab ?_
  cases hm
  refine ⟨.inr rfl, ?_⟩
  exact EE.here (by simp -dsimp)
theorem c_totaltree_Totals (x : Totals) (r : Tree × Int) (hm : m_totaltree_Totals x = some r) : PureCall Tryz.prog 26 [.u (.agg [.d (.sl 2 (List.map Point.row x.Hood)), .d (.int .i64 x.States), .d (.sl 1 (List.map (rI .i64) x.Birth)), .d (.sl 1 (List.map (rI .i64) x.Survive))])] (.tup [.agg [.d (.int .i64 r.1.States), .d (.sl 2 (List.map Point.row r.1.Hood)), .d (.sl 2 (List.map Node.row r.1.Nodes))], .one (.d (.int .i64 r.2))]) := (f_totaltree_Totals x r hm).pureW
def F_wolfram_Elementary_1 (cx : Cx) (_n : Int) (tt : (List Int)) (ee : Exit) (ρ : Env) (σ : Sto) : Prop := match tt with
 | l => ee = .exit 0 ∧ EE cx (aK [(2, .u (.one (.box 2 0))), (4, .u (.one (.box 4 0)))] [(2, .box (List.map (cI .i64) [0, 0, 0, 0, 0, 0, 0, 0])), (4, .box (List.map (cI .i64) l))]) ρ σ
set_option maxRecDepth 100000 in
theorem l_wolfram_Elementary_1 (cx : Cx) (hn : cx.n = 24) (n : Int) {fu : Nat} {stt : Int × (List Int)} {tt : (List Int)} (hh : ah (b_wolfram_Elementary_1 n) fu stt = some tt) {ρ : Env} {σ : Sto}
  (hE : aT (fun stt : Int × (List Int) => match stt with | (a1, _l) => [(0, .u (.one (.d (.int .i64 n)))), (2, .u (.one (.box 2 0))), (4, .u (.one (.box 4 0))), (13, .u (.one (.d (.int .i64 a1))))]) (fun stt : Int × (List Int) => match stt with | (_a1, l) => [(2, .box (List.map (cI .i64) [0, 0, 0, 0, 0, 0, 0, 0])), (4, .box (List.map (cI .i64) l))]) stt ρ σ) : Swp Tryz.prog cx (.loop (bi [1, 1, 1, 0, 1, 0, 0] (aG Tryz.f14))) ρ σ (F_wolfram_Elementary_1 cx n tt) := by
 refine b3 hE hh (F_wolfram_Elementary_1 cx n) ?_
 rintro ⟨a1, l⟩ r hm ρ σ hf
 simp only [Fits, ar, ap, and_true] at hf
 unfold b_wolfram_Elementary_1 at hm
 dsimp only at hm
 refine srs hn ?_
 simp -dsimp [hf]
 refine ae ?_
 rcases aj hm with ⟨c4, hm⟩ | ⟨c4, hm⟩
 ·refine a8 (by simp -dsimp) c4 ?_
  refine ac (a6 (ae (ai ?_)))
  refine srs hn ?_
  simp -dsimp [hf, c4]
  refine sr1 hn ?_
  obtain ⟨n1, h5, hm⟩ := bnd hm
  obtain ⟨x, h6, hm⟩ := bnd hm
  simp -dsimp [hf, h5, dK h6, aidx_lt2 h6, asetI .i64 h6 (iand .i64 n1 1)]
  refine aC ?_
  refine a6 ?_
  refine sr1 hn ?_
  simp -dsimp [hf]
  cases hm
  refine ax ?_
  exact EE.here (by simp -dsimp [hf])
 ·refine a7 (by simp -dsimp) c4 ?_
  refine au ?_
  refine ag ?_
  cases hm
  refine aw nofun ?_
  unfold F_wolfram_Elementary_1
  dsimp only
  refine ⟨rfl, ?_⟩
  exact EE.here (by simp -dsimp [hf, c4])
set_option maxRecDepth 100000 in
theorem f_wolfram_Elementary (n : Int) (r : (Int × Int × Int × Int × Int × Int × Int × Int) × Int) (hm : m_wolfram_Elementary n = some r) : PFn Tryz.prog 14 [.u (.one (.d (.int .i64 n)))] (fun v => v.wk (.tup [.agg [.d (.int .i64 r.1.1), .d (.int .i64 r.1.2.1), .d (.int .i64 r.1.2.2.1), .d (.int .i64 r.1.2.2.2.1), .d (.int .i64 r.1.2.2.2.2.1), .d (.int .i64 r.1.2.2.2.2.2.1), .d (.int .i64 r.1.2.2.2.2.2.2.1), .d (.int .i64 r.1.2.2.2.2.2.2.2)], .one (.d (.int .i64 r.2))])) := by
 refine aH Tryz.func14 Tryz.ntmps14 rfl (by kernel_rfl) (by simp) fun cx hn => ?_
 unfold m_wolfram_Elementary at hm
 refine srs hn ?_
 simp -dsimp
 refine srs hn ?_
 simp -dsimp
 refine ae ?_
 obtain ⟨a, j10, hm⟩ := bnd hm
 refine am [(0, .u (.one (.d (.int .i64 n)))), (2, .u (.one (.box 2 0))), (4, .u (.one (.box 4 0))), (11, .u (.one (.d (.bool a))))] [(2, .box (List.map (cI .i64) [0, 0, 0, 0, 0, 0, 0, 0])), (4, .box (List.map (cI .i64) [0, 0, 0, 0, 0, 0, 0, 0]))] (by rfl) (by rfl) ?_ fun ρ σ hf => ?_
 ·replace hm := j10
  clear j10
  refine sr1 hn ?_
  rcases aj hm with ⟨c1, hm⟩ | ⟨c1, hm⟩
  ·simp -dsimp [c1]
   refine a6 ?_
   cases hm
   exact EE.here (by simp -dsimp)
  ·simp -dsimp [c1]
   refine a6 ?_
   cases hm
   exact EE.here (by simp -dsimp)
 ·clear j10
  simp only [Fits, ar, ap, and_true] at hf
  rcases aj hm with ⟨c2, hm⟩ | ⟨c2, hm⟩
  ·refine a8 (by simp -dsimp [hf]) c2 ?_
   refine srs hn ?_
   obtain ⟨arr, h3, hm⟩ := bnd hm
   simp -dsimp [hf, arr8_map (cI .i64) h3]
   refine ab (ag ?_)
   cases hm
   refine ⟨.inr rfl, ?_⟩
   exact EE.here (by simp -dsimp [hf])
  ·refine a7 (by simp -dsimp [hf]) c2 ?_
   refine ac (a6 (ae ?_))
   refine srs hn ?_
   simp -dsimp
   refine ai ?_
   obtain ⟨l, g7, hm⟩ := bnd hm
   refine aF (l_wolfram_Elementary_1 cx hn n g7) (by
     try dsimp only
     exact EE.here (by simp -dsimp [hf])
   ) fun ee ρ σ x8 => ?_
   unfold F_wolfram_Elementary_1 at x8
   dsimp only at x8
   obtain ⟨rfl, x8⟩ := x8
   refine av ?_
   refine a6 ?_
   refine aV (by rfl) (by rfl) x8 fun ρ σ hf => ?_
   simp only [Fits, ar, ap, and_true] at hf
   refine srs hn ?_
   obtain ⟨arr, h9, hm⟩ := bnd hm
   simp -dsimp [hf, arr8_map (cI .i64) h9]
   refine ab ?_
   cases hm
   refine ⟨.inr rfl, ?_⟩
   exact EE.here (by simp -dsimp [hf])
theorem c_wolfram_Elementary (n : Int) (r : (Int × Int × Int × Int × Int × Int × Int × Int) × Int) (hm : m_wolfram_Elementary n = some r) : PureCall Tryz.prog 14 [.u (.one (.d (.int .i64 n)))] (.tup [.agg [.d (.int .i64 r.1.1), .d (.int .i64 r.1.2.1), .d (.int .i64 r.1.2.2.1), .d (.int .i64 r.1.2.2.2.1), .d (.int .i64 r.1.2.2.2.2.1), .d (.int .i64 r.1.2.2.2.2.2.1), .d (.int .i64 r.1.2.2.2.2.2.2.1), .d (.int .i64 r.1.2.2.2.2.2.2.2)], .one (.d (.int .i64 r.2))]) := (f_wolfram_Elementary n r hm).pureW
end Go.Proofs.YtldhnnkpmhnpcaaGreatDoor
