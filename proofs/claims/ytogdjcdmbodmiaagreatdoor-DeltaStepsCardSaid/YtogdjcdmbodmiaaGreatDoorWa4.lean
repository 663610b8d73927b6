/- That the code does what the functions say (made by cc.py). -/
import Derived.Test.YtogdjcdmbodmiaaGreatDoorWa3
namespace Go.Proofs.YtogdjcdmbodmiaaGreatDoor
open Go.AM Go.Proofs
attribute [-simp] qlookup cJ cG Ob.wipe Ob.ren Ob.frz1 bX dz dJ fw Prod.forall Key.u
def aT (rcv : (totaltree_place → (List Point) → (List Point) → Int → (List Int) → (List Int) → (List (totaltree_place × Int)) → Int → Int → (List (List UInt8 × Int)) → Int → (List Point) → (List Node) → Option (Int × (List (totaltree_place × Int)) × (List (List UInt8 × Int)) × (List Node)))) : Prop := ∀ (p : totaltree_place) (a : List Point) (cHood : List Point) (cStates : Int) (cBirth : List Int) (cSurvive : List Int) (a1 : List (totaltree_place × Int)) (a2 : Int) (cv : Int) (cv1 : List (List UInt8 × Int)) (cStates1 : Int) (cHood1 : List Point) (cNodes : List Node) (r : Int × (List (totaltree_place × Int)) × (List (List UInt8 × Int)) × (List Node)), rcv p a cHood cStates cBirth cSurvive a1 a2 cv cv1 cStates1 cHood1 cNodes = some r → GFn Tryz.prog 128 [.u (.agg [.d (.int .i64 p.at_), .d (.int .i64 p.s.ones), .d (.int .i64 p.s.centre)]), .u (.one (.box 1000000 0)), .u (.one (.box 1000001 0)), .u (.one (.box 1000003 0)), .u (.one (.box 1000005 0)), .u (.one (.box 1000006 0)), .u (.one (.box 1000007 0)), .u (.one (.box 1000009 0)), .u (.one (.box 1000011 0))] [.box [.d (.sl 2 (List.map Point.row a))], .box [.fn 65 [.box 1000002 0]], .box [.d (.sl 2 (List.map Point.row cHood)), .d (.int .i64 cStates), .d (.sl 1 (List.map (rI .i64) cBirth)), .d (.sl 1 (List.map (rI .i64) cSurvive))], .box [.map 1000004], mOb (.ints 3) totaltree_place.key (uL (L.int .i64)) a1, .box [.d (.int .i64 a2)], .box [.fn 128 [.box 1000000 0, .box 1000001 0, .box 1000003 0, .box 1000005 0, .box 1000006 0, .box 1000007 0, .box 1000009 0, .box 1000011 0]], .box [.fn 64 [.box 1000008 0]], .box [.d (.int .i64 cv)], .box [.map 1000010], mOb .str kS (uL (L.int .i64)) cv1, .box [.d (.int .i64 cStates1), .d (.sl 2 (List.map Point.row cHood1)), .own 1000012], .row 2 163 (List.map Node.row cNodes)] (.u (.one (.d (.int .i64 r.1)))) [some (.box [.d (.sl 2 (List.map Point.row a))]), some (.box [.fn 65 [.box 1000002 0]]), some (.box [.d (.sl 2 (List.map Point.row cHood)), .d (.int .i64 cStates), .d (.sl 1 (List.map (rI .i64) cBirth)), .d (.sl 1 (List.map (rI .i64) cSurvive))]), some (.box [.map 1000004]), some (mOb (.ints 3) totaltree_place.key (uL (L.int .i64)) r.2.1), some (.box [.d (.int .i64 a2)]), some (.box [.fn 128 [.box 1000000 0, .box 1000001 0, .box 1000003 0, .box 1000005 0, .box 1000006 0, .box 1000007 0, .box 1000009 0, .box 1000011 0]]), some (.box [.fn 64 [.box 1000008 0]]), some (.box [.d (.int .i64 cv)]), some (.box [.map 1000010]), some (mOb .str kS (uL (L.int .i64)) r.2.2.1), some (.box [.d (.int .i64 cStates1), .d (.sl 2 (List.map Point.row cHood1)), .own 1000013]), none, some (.row 2 163 (List.map Node.row r.2.2.2))]
def aF (cx : Cx) (_rcv : (totaltree_place → (List Point) → (List Point) → Int → (List Int) → (List Int) → (List (totaltree_place × Int)) → Int → Int → (List (List UInt8 × Int)) → Int → (List Point) → (List Node) → Option (Int × (List (totaltree_place × Int)) × (List (List UInt8 × Int)) × (List Node)))) (p : totaltree_place) (a : List Point) (cHood : List Point) (cStates : Int) (cBirth : List Int) (cSurvive : List Int) (a2 : Int) (cv : Int) (cStates1 : Int) (cHood1 : List Point) (_u : Unit) (tt : ((List Node) × (List Int) × (List Int) × (List (totaltree_place × Int)) × (List (List UInt8 × Int)))) (ee : Exit) (ρ : Env) (σ : Sto) : Prop := match tt with
 | (l, keyv, l1, mp, mp1) => ee = .exit 0 ∧ EE cx (b4 [(3, .u (.one (.box 1000003 0))), (7, .u (.one (.box 1000009 0))), (8, .u (.one (.box 1000011 0))), (9, .u (.one (.box 9 0))), (13, .u (.one (.box 13 0))), (14, .u (.one (.own 5003)))] [(9, .box [.d (.int .i64 p.at_), .d (.int .i64 p.s.ones), .d (.int .i64 p.s.centre)]), (13, .box [.d (.int .i64 (aO .i64 (ak a) p.at_)), .own 5004]), (5000, .row 2 163 (List.map Node.row l)), (5003, .row 1 5 (List.map (rI .u8) keyv)), (5004, .row 1 3 (List.map (rI .i64) l1)), (1000000, .box [.d (.sl 2 (List.map Point.row a))]), (1000001, .box [.fn 65 [.box 1000002 0]]), (1000002, .box [.d (.sl 2 (List.map Point.row cHood)), .d (.int .i64 cStates), .d (.sl 1 (List.map (rI .i64) cBirth)), .d (.sl 1 (List.map (rI .i64) cSurvive))]), (1000003, .box [.map 1000004]), (1000004, mOb (.ints 3) totaltree_place.key (uL (L.int .i64)) mp), (1000005, .box [.d (.int .i64 a2)]), (1000006, .box [.fn 128 [.box 1000000 0, .box 1000001 0, .box 1000003 0, .box 1000005 0, .box 1000006 0, .box 1000007 0, .box 1000009 0, .box 1000011 0]]), (1000007, .box [.fn 64 [.box 1000008 0]]), (1000008, .box [.d (.int .i64 cv)]), (1000009, .box [.map 1000010]), (1000010, mOb .str kS (uL (L.int .i64)) mp1), (1000011, .box [.d (.int .i64 cStates1), .d (.sl 2 (List.map Point.row cHood1)), .own 5000])]) ρ σ
theorem cS (cx : Cx) (hn : cx.n = 101) (_hk : cx.k = 13) (rcv : (totaltree_place → (List Point) → (List Point) → Int → (List Int) → (List Int) → (List (totaltree_place × Int)) → Int → Int → (List (List UInt8 × Int)) → Int → (List Point) → (List Node) → Option (Int × (List (totaltree_place × Int)) × (List (List UInt8 × Int)) × (List Node)))) (p : totaltree_place) (a : List Point) (cHood : List Point) (cStates : Int) (cBirth : List Int) (cSurvive : List Int) (a2 : Int) (cv : Int) (cStates1 : Int) (cHood1 : List Point) (u : Unit) (hrcv : aT rcv) {fu : Nat} {stt : Int × (List Node) × (List Int) × (List Int) × (List (totaltree_place × Int)) × (List (List UInt8 × Int))} {tt : ((List Node) × (List Int) × (List Int) × (List (totaltree_place × Int)) × (List (List UInt8 × Int)))} (hh : am (aP rcv p a cHood cStates cBirth cSurvive a2 cv cStates1 cHood1 u) fu stt = some tt) {ρ : Env} {σ : Sto}
  (hE : bT (fun stt : Int × (List Node) × (List Int) × (List Int) × (List (totaltree_place × Int)) × (List (List UInt8 × Int)) => match stt with | (a3, _l, _keyv, _l1, _mp, _mp1) => [(3, .u (.one (.box 1000003 0))), (5, .u (.one (.box 1000006 0))), (6, .u (.one (.box 1000007 0))), (7, .u (.one (.box 1000009 0))), (8, .u (.one (.box 1000011 0))), (9, .u (.one (.box 9 0))), (13, .u (.one (.box 13 0))), (14, .u (.one (.own 5003))), (46, .u (.one (.d (.int .i64 a2)))), (47, .u (.one (.d (.int .i64 a3))))]) (fun stt : Int × (List Node) × (List Int) × (List Int) × (List (totaltree_place × Int)) × (List (List UInt8 × Int)) => match stt with | (_a3, l, keyv, l1, mp, mp1) => [(9, .box [.d (.int .i64 p.at_), .d (.int .i64 p.s.ones), .d (.int .i64 p.s.centre)]), (13, .box [.d (.int .i64 (aO .i64 (ak a) p.at_)), .own 5004]), (5000, .row 2 163 (List.map Node.row l)), (5003, .row 1 5 (List.map (rI .u8) keyv)), (5004, .row 1 3 (List.map (rI .i64) l1)), (1000000, .box [.d (.sl 2 (List.map Point.row a))]), (1000001, .box [.fn 65 [.box 1000002 0]]), (1000002, .box [.d (.sl 2 (List.map Point.row cHood)), .d (.int .i64 cStates), .d (.sl 1 (List.map (rI .i64) cBirth)), .d (.sl 1 (List.map (rI .i64) cSurvive))]), (1000003, .box [.map 1000004]), (1000004, mOb (.ints 3) totaltree_place.key (uL (L.int .i64)) mp), (1000005, .box [.d (.int .i64 a2)]), (1000006, .box [.fn 128 [.box 1000000 0, .box 1000001 0, .box 1000003 0, .box 1000005 0, .box 1000006 0, .box 1000007 0, .box 1000009 0, .box 1000011 0]]), (1000007, .box [.fn 64 [.box 1000008 0]]), (1000008, .box [.d (.int .i64 cv)]), (1000009, .box [.map 1000010]), (1000010, mOb .str kS (uL (L.int .i64)) mp1), (1000011, .box [.d (.int .i64 cStates1), .d (.sl 2 (List.map Point.row cHood1)), .own 5000])]) stt ρ σ) : Swp Tryz.prog cx (.loop (d4 [1, 1, 1, 1, 1, 0, 1, 0, 0] (aZ Tryz.f128))) ρ σ (aF cx rcv p a cHood cStates cBirth cSurvive a2 cv cStates1 cHood1 u tt) := by
 refine cd hE hh (aF cx rcv p a cHood cStates cBirth cSurvive a2 cv cStates1 cHood1 u) ?_
 rintro ⟨a3, l, keyv, l1, mp, mp1⟩ r hm ρ σ hf
 simp only [Fits, ap, ar, and_true] at hf
 unfold aP at hm
 dsimp only at hm
 refine srs hn ?_
 simp -dsimp [hf]
 refine ae ?_
 rcases ai hm with ⟨c5, hm⟩ | ⟨c5, hm⟩
 ·refine a8 (by simp -dsimp) c5 ?_
  refine ab (a6 (ae (ah ?_)))
  refine srs hn ?_
  simp -dsimp [hf, c5]
  refine sw_midcs aW mixed 10 11 12 0 [[0, 1, 2, 3]] [[]] [true] none (by rw [hn]; kernel_rfl) fltT_none ?_
  dsimp only [List.take, List.drop, midsD, lateD, uopsD, pk, List.cons_append, List.nil_append, List.flatten_cons, List.flatten_nil, flN_none, flN_some, List.append_nil]
  obtain ⟨y, h6, hm⟩ := bnd hm
  simp -dsimp [hf]
  refine callE_g (i3 p.s p.at_ a3 cv y h6) [1000008] [] rfl rfl rfl (by simp -dsimp) rfl (by simp -dsimp [hf]) (by first | rfl | simp) rfl (dkL hn) rfl rfl (by simp) nofun (by simp) ?_
  obtain ⟨y1, h7, hm⟩ := bnd hm
  simp -dsimp [hf]
  refine bA (hrcv (⟨(bd .i64 p.at_ 1), ⟨y.1, y.2⟩⟩ : totaltree_place) a cHood cStates cBirth cSurvive mp a2 cv mp1 cStates1 cHood1 l y1 h7) [1000000, 1000001, 1000002, 1000003, 1000004, 1000005, 1000006, 1000007, 1000008, 1000009, 1000010, 1000011, 5000] [5001] rfl rfl rfl (by simp -dsimp) rfl (by simp -dsimp [hf]) (by first | rfl | simp) rfl (dkL hn) ?_
  simp -dsimp
  refine srs hn ?_
  obtain ⟨l2, h8, hm⟩ := bnd hm
  obtain ⟨h8a, h8e⟩ := aQ h8
  replace h8e := h8e.symm
  subst h8e
  try simp only [List.length_cons, List.length_nil, Nat.zero_add] at h8a
  simp -dsimp [hf, h8a]
  refine sr1 hn ?_
  obtain ⟨l3, h9, hm⟩ := bnd hm
  obtain ⟨h9a, h9e⟩ := aQ h9
  replace h9e := h9e.symm
  subst h9e
  try simp only [List.length_cons, List.length_nil, Nat.zero_add] at h9a
  try simp only [Nat.mul_one, Nat.reduceLeDiff] at h9a
  obtain ⟨y2, h10, hm⟩ := bnd hm
  simp -dsimp [hf, h9a]
  refine bA (e7 (keyv ++ [32]) y1.1 10 y2 h10) [71] [5002] rfl rfl rfl (by simp -dsimp) rfl (by simp -dsimp) (by first | rfl | simp) rfl (dkL hn) ?_
  simp -dsimp
  refine aV ?_
  refine a6 ?_
  refine sr1 hn ?_
  simp -dsimp [hf]
  cases hm
  refine aI ?_
  refine EE.step (Wk.move 5002 5003 (by decide) (.inl (by decide))) ?_
  refine EE.step (Wk.move 67 5004 (by decide) (.inl (by decide))) ?_
  refine EE.step (Wk.move 5001 5000 (by decide) (.inl (by decide))) ?_
  exact EE.here (by simp -dsimp [hf])
 ·refine a7 (by simp -dsimp) c5 ?_
  refine aC ?_
  refine ag ?_
  cases hm
  refine aB nofun ?_
  unfold aF
  dsimp only
  refine ⟨rfl, ?_⟩
  exact EE.here (by simp -dsimp [hf, c5])
theorem cY (rcv : (totaltree_place → (List Point) → (List Point) → Int → (List Int) → (List Int) → (List (totaltree_place × Int)) → Int → Int → (List (List UInt8 × Int)) → Int → (List Point) → (List Node) → Option (Int × (List (totaltree_place × Int)) × (List (List UInt8 × Int)) × (List Node)))) (hrcv : aT rcv) (p : totaltree_place) (a : List Point) (cHood : List Point) (cStates : Int) (cBirth : List Int) (cSurvive : List Int) (a1 : List (totaltree_place × Int)) (a2 : Int) (cv : Int) (cv1 : List (List UInt8 × Int)) (cStates1 : Int) (cHood1 : List Point) (cNodes : List Node) (r : Int × (List (totaltree_place × Int)) × (List (List UInt8 × Int)) × (List Node)) (hm : aS rcv p a cHood cStates cBirth cSurvive a1 a2 cv cv1 cStates1 cHood1 cNodes = some r) : GFn Tryz.prog 128 [.u (.agg [.d (.int .i64 p.at_), .d (.int .i64 p.s.ones), .d (.int .i64 p.s.centre)]), .u (.one (.box 1000000 0)), .u (.one (.box 1000001 0)), .u (.one (.box 1000003 0)), .u (.one (.box 1000005 0)), .u (.one (.box 1000006 0)), .u (.one (.box 1000007 0)), .u (.one (.box 1000009 0)), .u (.one (.box 1000011 0))] [.box [.d (.sl 2 (List.map Point.row a))], .box [.fn 65 [.box 1000002 0]], .box [.d (.sl 2 (List.map Point.row cHood)), .d (.int .i64 cStates), .d (.sl 1 (List.map (rI .i64) cBirth)), .d (.sl 1 (List.map (rI .i64) cSurvive))], .box [.map 1000004], mOb (.ints 3) totaltree_place.key (uL (L.int .i64)) a1, .box [.d (.int .i64 a2)], .box [.fn 128 [.box 1000000 0, .box 1000001 0, .box 1000003 0, .box 1000005 0, .box 1000006 0, .box 1000007 0, .box 1000009 0, .box 1000011 0]], .box [.fn 64 [.box 1000008 0]], .box [.d (.int .i64 cv)], .box [.map 1000010], mOb .str kS (uL (L.int .i64)) cv1, .box [.d (.int .i64 cStates1), .d (.sl 2 (List.map Point.row cHood1)), .own 1000012], .row 2 163 (List.map Node.row cNodes)] (.u (.one (.d (.int .i64 r.1)))) [some (.box [.d (.sl 2 (List.map Point.row a))]), some (.box [.fn 65 [.box 1000002 0]]), some (.box [.d (.sl 2 (List.map Point.row cHood)), .d (.int .i64 cStates), .d (.sl 1 (List.map (rI .i64) cBirth)), .d (.sl 1 (List.map (rI .i64) cSurvive))]), some (.box [.map 1000004]), some (mOb (.ints 3) totaltree_place.key (uL (L.int .i64)) r.2.1), some (.box [.d (.int .i64 a2)]), some (.box [.fn 128 [.box 1000000 0, .box 1000001 0, .box 1000003 0, .box 1000005 0, .box 1000006 0, .box 1000007 0, .box 1000009 0, .box 1000011 0]]), some (.box [.fn 64 [.box 1000008 0]]), some (.box [.d (.int .i64 cv)]), some (.box [.map 1000010]), some (mOb .str kS (uL (L.int .i64)) r.2.2.1), some (.box [.d (.int .i64 cStates1), .d (.sl 2 (List.map Point.row cHood1)), .own 1000013]), none, some (.row 2 163 (List.map Node.row r.2.2.2))] := by
 refine cg aW _ Tryz.func128 rfl (by kernel_rfl) (by simp [Tryz.ntmps128]) (by simp) (by first | rfl | simp) (by first | rfl | simp) fun cx hn hk => ?_
 replace hn : cx.n = 101 := hn.trans Tryz.ntmps128
 replace hk : cx.k = 13 := hk
 unfold aS at hm
 refine srs hn ?_
 simp -dsimp
 refine ae ?_
 refine srs hn ?_
 simp -dsimp
 rcases ai hm with ⟨c1, hm⟩ | ⟨c1, hm⟩
 ·refine a8 (by simp -dsimp) c1 ?_
  refine srs hn ?_
  obtain ⟨y, h2, hm⟩ := bnd hm
  simp -dsimp [c1]
  refine callL_brw (us' := [.u (.agg [.d (.int .i64 p.s.ones), .d (.int .i64 p.s.centre)]), .u (.one (.ref (Totals.row (⟨cHood, cStates, cBirth, cSurvive⟩ : Totals)) 0))]) (c_totaltree_Totals_2 p.s (⟨cHood, cStates, cBirth, cSurvive⟩ : Totals) y h2) (by simp -dsimp) rfl (dkL hn) ?_
  simp -dsimp
  refine ac (ag ?_)
  cases hm
  refine ⟨.inr rfl, ?_⟩
  refine EE.step (Wk.move 1000012 1000013 (by decide) (.inr (by rw [hk]; decide))) ?_
  exact EE.here (by simp -dsimp)
 ·refine a7 (by simp -dsimp) c1 ?_
  refine ab (a6 (ae ?_))
  refine srs hn ?_
  obtain ⟨u, h3, hm⟩ := bnd hm
  simp -dsimp [c1, aJ h3 (.head _), aJ h3 (.tail _ (.head _)), aJ h3 (.tail _ (.tail _ (.head _))), (@id (lkM (eo (mOb (.ints 3) totaltree_place.key (uL (L.int .i64)) a1) (.ints [p.at_, p.s.ones, p.s.centre])) true (.one (.d (.int .i64 0))) = some (.tup [.one (.d (.int .i64 (aL a1 p 0))), .one (.d (.bool (cO a1 p)))])) (lk_two p 0))]
  refine srs hn ?_
  simp -dsimp
  rcases ai hm with ⟨c4, hm⟩ | ⟨c4, hm⟩
  ·refine a8 (b := (cO a1 p)) (by simp -dsimp) c4 ?_
   refine srs hn ?_
   simp -dsimp [c4]
   refine ac (ag ?_)
   cases hm
   refine ⟨.inr rfl, ?_⟩
   refine EE.step (Wk.move 1000012 1000013 (by decide) (.inr (by rw [hk]; decide))) ?_
   exact EE.here (by simp -dsimp)
  ·refine a7 (b := (cO a1 p)) (by simp -dsimp) c4 ?_
   refine ab (a6 ?_)
   refine srs hn ?_
   simp -dsimp [c4]
   refine sw_regBs aW 3 (by rw [hn]; kernel_rfl) ?_
   dsimp only [List.take, List.drop]
   simp -dsimp
   refine ae ?_
   refine srs hn ?_
   simp -dsimp
   refine ah ?_
   obtain ⟨⟨l, keyv, l1, mp, mp1⟩, g11, hm⟩ := bnd hm
   refine bf (cS cx hn hk rcv p a cHood cStates cBirth cSurvive a2 cv cStates1 cHood1 u hrcv g11) (by
     try dsimp only
     refine EE.step (Wk.move 45 5003 (by decide) (.inl (by decide))) ?_
     refine EE.step (Wk.move 1000012 5000 (by decide) (.inl (by decide))) ?_
     refine EE.step (Wk.own0b 13 1 5004 1 3 [.d (.int .i64 (aO .i64 (ak a) p.at_)), .d .nil] (by simp -dsimp) (by rfl) (by decide) (by decide)) ?_
     exact EE.here (by simp -dsimp)
   ) fun ee ρ σ x12 => ?_
   unfold aF at x12
   dsimp only at x12
   obtain ⟨rfl, x12⟩ := x12
   refine aD ?_
   refine a6 ?_
   refine bN (by rfl) (by rfl) x12 fun ρ σ hf => ?_
   simp only [Fits, ap, ar, and_true] at hf
   refine srs hn ?_
   obtain ⟨u1, h13, hm⟩ := bnd hm
   simp -dsimp [hf, gW h13, (@id (lkM (eo (mOb .str kS (uL (L.int .i64)) mp1) (.str (ofBytes keyv))) true (.one (.d (.int .i64 0))) = some (.tup [.one (.d (.int .i64 (aL mp1 (ofBytes keyv) 0))), .one (.d (.bool (cO mp1 (ofBytes keyv))))])) (lk_two (ofBytes keyv) 0))]
   obtain ⟨⟨idv, mp2, l2⟩, j16, hm⟩ := bnd hm
   refine au [(3, .u (.one (.box 1000003 0))), (9, .u (.one (.box 9 0))), (17, .u (.one (.d (.int .i64 idv))))] [(9, .box [.d (.int .i64 p.at_), .d (.int .i64 p.s.ones), .d (.int .i64 p.s.centre)]), (5000, .row 2 163 (List.map Node.row l2)), (1000000, .box [.d (.sl 2 (List.map Point.row a))]), (1000001, .box [.fn 65 [.box 1000002 0]]), (1000002, .box [.d (.sl 2 (List.map Point.row cHood)), .d (.int .i64 cStates), .d (.sl 1 (List.map (rI .i64) cBirth)), .d (.sl 1 (List.map (rI .i64) cSurvive))]), (1000003, .box [.map 1000004]), (1000004, mOb (.ints 3) totaltree_place.key (uL (L.int .i64)) mp), (1000005, .box [.d (.int .i64 a2)]), (1000006, .box [.fn 128 [.box 1000000 0, .box 1000001 0, .box 1000003 0, .box 1000005 0, .box 1000006 0, .box 1000007 0, .box 1000009 0, .box 1000011 0]]), (1000007, .box [.fn 64 [.box 1000008 0]]), (1000008, .box [.d (.int .i64 cv)]), (1000009, .box [.map 1000010]), (1000010, mOb .str kS (uL (L.int .i64)) mp2), (1000011, .box [.d (.int .i64 cStates1), .d (.sl 2 (List.map Point.row cHood1)), .own 5000])] (by rfl) (by rfl) ?_ fun ρ σ hf => ?_
   ·replace hm := j16
    clear j16
    refine srs hn ?_
    simp -dsimp
    rcases ai hm with ⟨c14, hm⟩ | ⟨c14, hm⟩
    ·refine a8 (b := (br (cO mp1 (ofBytes keyv)))) (by simp -dsimp) c14 ?_
     refine srs hn ?_
     simp -dsimp [hf, c14]
     refine Swp.pre (Wk.frz 5004 1 3 (List.map (rI .i64) l1) (by simp -dsimp [hf])) ?_
     refine srs hn ?_
     obtain ⟨l2, h15, hm⟩ := bnd hm
     obtain ⟨h15a, h15e⟩ := aQ h15
     replace h15e := h15e.symm
     subst h15e
     try simp only [List.length_cons, List.length_nil, Nat.zero_add] at h15a
     simp -dsimp [hf, h15a]
     refine sr1 hn ?_
     simp -dsimp [hf, gW h13, (@id (fB (mOb .str kS (uL (L.int .i64)) mp1) (.str (ofBytes keyv)) (.one (.d (.int .i64 (ak l)))) = mOb .str kS (uL (L.int .i64)) (bD mp1 (ofBytes keyv) (ak l))) (ff .str kS (uL (L.int .i64)) mp1 (ofBytes keyv) (ak l)))]
     refine a6 ?_
     cases hm
     refine EE.step (Wk.move 91 5000 (by decide) (.inl (by decide))) ?_
     exact EE.here (by simp -dsimp [hf])
    ·refine a7 (b := (br (cO mp1 (ofBytes keyv)))) (by simp -dsimp) c14 ?_
     refine ab (a6 ?_)
     cases hm
     exact EE.here (by simp -dsimp [hf, c14])
   ·clear j16
    simp only [Fits, ap, ar, and_true] at hf
    refine srs hn ?_
    simp -dsimp [hf, aJ h3 (.head _), aJ h3 (.tail _ (.head _)), aJ h3 (.tail _ (.tail _ (.head _))), (@id (fB (mOb (.ints 3) totaltree_place.key (uL (L.int .i64)) mp) (.ints [p.at_, p.s.ones, p.s.centre]) (.one (.d (.int .i64 idv))) = mOb (.ints 3) totaltree_place.key (uL (L.int .i64)) (bD mp p idv)) (ff (.ints 3) totaltree_place.key (uL (L.int .i64)) mp p idv))]
    refine srs hn ?_
    simp -dsimp [hf]
    refine ac ?_
    cases hm
    refine ⟨.inr rfl, ?_⟩
    refine EE.step (Wk.move 5000 1000013 (by decide) (.inr (by rw [hk]; decide))) ?_
    exact EE.here (by simp -dsimp [hf])
theorem d3 (p : totaltree_place) (a : List Point) (cHood : List Point) (cStates : Int) (cBirth : List Int) (cSurvive : List Int) (a1 : List (totaltree_place × Int)) (a2 : Int) (cv : Int) (cv1 : List (List UInt8 × Int)) (cStates1 : Int) (cHood1 : List Point) (cNodes : List Node) (r : Int × (List (totaltree_place × Int)) × (List (List UInt8 × Int)) × (List Node)) (hm : bw p a cHood cStates cBirth cSurvive a1 a2 cv cv1 cStates1 cHood1 cNodes = some r) : GFn Tryz.prog 128 [.u (.agg [.d (.int .i64 p.at_), .d (.int .i64 p.s.ones), .d (.int .i64 p.s.centre)]), .u (.one (.box 1000000 0)), .u (.one (.box 1000001 0)), .u (.one (.box 1000003 0)), .u (.one (.box 1000005 0)), .u (.one (.box 1000006 0)), .u (.one (.box 1000007 0)), .u (.one (.box 1000009 0)), .u (.one (.box 1000011 0))] [.box [.d (.sl 2 (List.map Point.row a))], .box [.fn 65 [.box 1000002 0]], .box [.d (.sl 2 (List.map Point.row cHood)), .d (.int .i64 cStates), .d (.sl 1 (List.map (rI .i64) cBirth)), .d (.sl 1 (List.map (rI .i64) cSurvive))], .box [.map 1000004], mOb (.ints 3) totaltree_place.key (uL (L.int .i64)) a1, .box [.d (.int .i64 a2)], .box [.fn 128 [.box 1000000 0, .box 1000001 0, .box 1000003 0, .box 1000005 0, .box 1000006 0, .box 1000007 0, .box 1000009 0, .box 1000011 0]], .box [.fn 64 [.box 1000008 0]], .box [.d (.int .i64 cv)], .box [.map 1000010], mOb .str kS (uL (L.int .i64)) cv1, .box [.d (.int .i64 cStates1), .d (.sl 2 (List.map Point.row cHood1)), .own 1000012], .row 2 163 (List.map Node.row cNodes)] (.u (.one (.d (.int .i64 r.1)))) [some (.box [.d (.sl 2 (List.map Point.row a))]), some (.box [.fn 65 [.box 1000002 0]]), some (.box [.d (.sl 2 (List.map Point.row cHood)), .d (.int .i64 cStates), .d (.sl 1 (List.map (rI .i64) cBirth)), .d (.sl 1 (List.map (rI .i64) cSurvive))]), some (.box [.map 1000004]), some (mOb (.ints 3) totaltree_place.key (uL (L.int .i64)) r.2.1), some (.box [.d (.int .i64 a2)]), some (.box [.fn 128 [.box 1000000 0, .box 1000001 0, .box 1000003 0, .box 1000005 0, .box 1000006 0, .box 1000007 0, .box 1000009 0, .box 1000011 0]]), some (.box [.fn 64 [.box 1000008 0]]), some (.box [.d (.int .i64 cv)]), some (.box [.map 1000010]), some (mOb .str kS (uL (L.int .i64)) r.2.2.1), some (.box [.d (.int .i64 cStates1), .d (.sl 2 (List.map Point.row cHood1)), .own 1000013]), none, some (.row 2 163 (List.map Node.row r.2.2.2))] := recN_ind aT (by intro _; intro _; intro _; intro _; intro _; intro _; intro _; intro _; intro _; intro _; intro _; intro _; intro _; intro _; intro hm; cases hm) cY recF p a cHood cStates cBirth cSurvive a1 a2 cv cv1 cStates1 cHood1 cNodes r hm
theorem bu (states : Int) (l : List Point) (start : totaltree_sum) (cv : Int) (cHood : List Point) (cStates : Int) (cBirth : List Int) (cSurvive : List Int) (r : List Node) (hm : av states l start cv cHood cStates cBirth cSurvive = some r) : GFn Tryz.prog 67 [.u (.one (.d (.int .i64 states))), .u (.one (.d (.sl 2 (List.map Point.row l)))), .u (.agg [.d (.int .i64 start.ones), .d (.int .i64 start.centre)]), .u (.one (.fn 64 [.box 1000000 0])), .u (.one (.fn 65 [.box 1000001 0]))] [.box [.d (.int .i64 cv)], .box [.d (.sl 2 (List.map Point.row cHood)), .d (.int .i64 cStates), .d (.sl 1 (List.map (rI .i64) cBirth)), .d (.sl 1 (List.map (rI .i64) cSurvive))]] (.u (.agg [.d (.int .i64 states), .d (.sl 2 (List.map Point.row l)), .own 1000002])) [some (.box [.d (.int .i64 cv)]), some (.box [.d (.sl 2 (List.map Point.row cHood)), .d (.int .i64 cStates), .d (.sl 1 (List.map (rI .i64) cBirth)), .d (.sl 1 (List.map (rI .i64) cSurvive))]), some (.row 2 163 (List.map Node.row r))] := by
 refine cg aW _ Tryz.func67 rfl (by kernel_rfl) (by simp [Tryz.ntmps67]) (by simp) (by first | rfl | simp) (by first | rfl | simp) fun cx hn hk => ?_
 replace hn : cx.n = 26 := hn.trans Tryz.ntmps67
 replace hk : cx.k = 2 := hk
 unfold av at hm
 refine srs hn ?_
 simp -dsimp
 refine srs hn ?_
 simp -dsimp
 refine srs hn ?_
 simp -dsimp [(@id (Ob.map (.ints 3) [] = mOb (.ints 3) totaltree_place.key (uL (L.int .i64)) ([] : List (totaltree_place × Int))) (gJ (.ints 3) totaltree_place.key (uL (L.int .i64))))]
 refine srs hn ?_
 simp -dsimp [(@id (Ob.map .str [] = mOb .str kS (uL (L.int .i64)) ([] : List (List UInt8 × Int))) (gJ .str kS (uL (L.int .i64))))]
 refine srs hn ?_
 simp -dsimp
 refine srs hn ?_
 simp -dsimp
 refine Swp.pre (Wk.own0b 10 2 5000 2 163 [.d (.int .i64 0), .d .nil, .d .nil] (by simp -dsimp) (by rfl) (by decide) (by decide)) ?_
 refine Swp.pre (Wk.own0b 11 2 5001 2 163 [.d (.int .i64 states), .d (.sl 2 (List.map Point.row l)), .d .nil] (by simp -dsimp) (by rfl) (by decide) (by decide)) ?_
 refine srs hn ?_
 obtain ⟨y, h1, hm⟩ := bnd hm
 simp -dsimp
 refine bA (d3 (⟨0, ⟨start.ones, start.centre⟩⟩ : totaltree_place) l cHood cStates cBirth cSurvive [] states cv [] states l [] y h1) [6, 9, 1000001, 12, 18, 5, 14, 8, 1000000, 13, 19, 11, 5001] [5002] rfl rfl rfl (by simp -dsimp) rfl (by simp -dsimp) (by first | rfl | simp) rfl (dkL hn) ?_
 simp -dsimp
 refine srs hn ?_
 simp -dsimp
 refine ac ?_
 cases hm
 refine ⟨.inr rfl, ?_⟩
 refine EE.step (Wk.move 5002 1000002 (by decide) (.inr (by rw [hk]; decide))) ?_
 exact EE.here (by simp -dsimp)
theorem f_totaltree_Totals (x : Totals) (r : Tree × Int) (hm : cX x = some r) : PFn Tryz.prog 21 [.u (.agg [.d (.sl 2 (List.map Point.row x.Hood)), .d (.int .i64 x.States), .d (.sl 1 (List.map (rI .i64) x.Birth)), .d (.sl 1 (List.map (rI .i64) x.Survive))])] (fun v => v.wk (.tup [.agg [.d (.int .i64 r.1.States), .d (.sl 2 (List.map Point.row r.1.Hood)), .d (.sl 2 (List.map Node.row r.1.Nodes))], .one (.d (.int .i64 r.2))])) := by
 refine bv Tryz.func21 Tryz.ntmps21 rfl (by kernel_rfl) (by simp) fun cx hn => ?_
 unfold cX at hm
 refine srs hn ?_
 simp -dsimp
 refine ae ?_
 refine srs hn ?_
 obtain ⟨y, h1, hm⟩ := bnd hm
 simp -dsimp
 refine aa (ev x y h1) (dkL hn) ?_
 simp -dsimp
 rcases ai hm with ⟨c2, hm⟩ | ⟨c2, hm⟩
 ·refine a8 (by simp -dsimp) c2 ?_
  refine srs hn ?_
  simp -dsimp [c2]
  refine ac (ag ?_)
  cases hm
  refine ⟨.inr rfl, ?_⟩
  exact EE.here (by simp -dsimp)
 ·refine a7 (by simp -dsimp) c2 ?_
  refine ab (a6 ?_)
  refine srs hn ?_
  obtain ⟨y1, h3, hm⟩ := bnd hm
  simp -dsimp [c2]
  refine aa (c_hood_Centre x.Hood y1 h3) (dkL hn) ?_
  simp -dsimp
  refine srs hn ?_
  simp -dsimp
  refine srs hn ?_
  simp -dsimp
  refine sw_drNs aW mixed 8 (by rw [hn]; kernel_rfl) ?_
  dsimp only [List.take, List.drop]
  obtain ⟨y2, h4, hm⟩ := bnd hm
  simp -dsimp
  refine aw (eT x.Hood y2 h4) ?_
  obtain ⟨y3, h5, hm⟩ := bnd hm
  simp -dsimp
  refine bA (bu x.States y2 (⟨0, 0⟩ : totaltree_sum) y1 x.Hood x.States x.Birth x.Survive y3 h5) [4, 1] [5000] rfl rfl rfl (by simp -dsimp) rfl (by simp -dsimp) (by first | rfl | simp) rfl (dkL hn) ?_
  simp -dsimp
  refine ac ?_
  cases hm
  refine ⟨.inr rfl, ?_⟩
  exact EE.here (by simp -dsimp)
theorem gA (x : Totals) (r : Tree × Int) (hm : cX x = some r) : PureCall Tryz.prog 21 [.u (.agg [.d (.sl 2 (List.map Point.row x.Hood)), .d (.int .i64 x.States), .d (.sl 1 (List.map (rI .i64) x.Birth)), .d (.sl 1 (List.map (rI .i64) x.Survive))])] (.tup [.agg [.d (.int .i64 r.1.States), .d (.sl 2 (List.map Point.row r.1.Hood)), .d (.sl 2 (List.map Node.row r.1.Nodes))], .one (.d (.int .i64 r.2))]) := (f_totaltree_Totals x r hm).pureW
def cH (cx : Cx) (_n : Int) (tt : (List Int)) (ee : Exit) (ρ : Env) (σ : Sto) : Prop := match tt with
 | l => ee = .exit 0 ∧ EE cx (b4 [(2, .u (.one (.box 2 0))), (4, .u (.one (.box 4 0)))] [(2, .box (List.map (cI .i64) [0, 0, 0, 0, 0, 0, 0, 0])), (4, .box (List.map (cI .i64) l))]) ρ σ
theorem hZ (cx : Cx) (hn : cx.n = 24) (n : Int) {fu : Nat} {stt : Int × (List Int)} {tt : (List Int)} (hh : am (dO n) fu stt = some tt) {ρ : Env} {σ : Sto}
  (hE : bT (fun stt : Int × (List Int) => match stt with | (a1, _l) => [(0, .u (.one (.d (.int .i64 n)))), (2, .u (.one (.box 2 0))), (4, .u (.one (.box 4 0))), (13, .u (.one (.d (.int .i64 a1))))]) (fun stt : Int × (List Int) => match stt with | (_a1, l) => [(2, .box (List.map (cI .i64) [0, 0, 0, 0, 0, 0, 0, 0])), (4, .box (List.map (cI .i64) l))]) stt ρ σ) : Swp Tryz.prog cx (.loop (d4 [1, 1, 1, 0, 1, 0, 0] (aZ Tryz.f13))) ρ σ (cH cx n tt) := by
 refine cd hE hh (cH cx n) ?_
 rintro ⟨a1, l⟩ r hm ρ σ hf
 simp only [Fits, ap, ar, and_true] at hf
 unfold dO at hm
 dsimp only at hm
 refine srs hn ?_
 simp -dsimp [hf]
 refine ae ?_
 rcases ai hm with ⟨c4, hm⟩ | ⟨c4, hm⟩
 ·refine a8 (by simp -dsimp) c4 ?_
  refine ab (a6 (ae (ah ?_)))
  refine srs hn ?_
  simp -dsimp [hf, c4]
  refine sr1 hn ?_
  obtain ⟨n1, h5, hm⟩ := bnd hm
  obtain ⟨x, h6, hm⟩ := bnd hm
  simp -dsimp [hf, h5, aidx_ok h6, aidx_lt2 h6, asetI .i64 h6 (iand .i64 n1 1)]
  refine aV ?_
  refine a6 ?_
  refine sr1 hn ?_
  simp -dsimp [hf]
  cases hm
  refine aI ?_
  exact EE.here (by simp -dsimp [hf])
 ·refine a7 (by simp -dsimp) c4 ?_
  refine aC ?_
  refine ag ?_
  cases hm
  refine aB nofun ?_
  unfold cH
  dsimp only
  refine ⟨rfl, ?_⟩
  exact EE.here (by simp -dsimp [hf, c4])
theorem f_wolfram_Elementary (n : Int) (r : (Int × Int × Int × Int × Int × Int × Int × Int) × Int) (hm : da n = some r) : PFn Tryz.prog 13 [.u (.one (.d (.int .i64 n)))] (fun v => v.wk (.tup [.agg [.d (.int .i64 r.1.1), .d (.int .i64 r.1.2.1), .d (.int .i64 r.1.2.2.1), .d (.int .i64 r.1.2.2.2.1), .d (.int .i64 r.1.2.2.2.2.1), .d (.int .i64 r.1.2.2.2.2.2.1), .d (.int .i64 r.1.2.2.2.2.2.2.1), .d (.int .i64 r.1.2.2.2.2.2.2.2)], .one (.d (.int .i64 r.2))])) := by
 refine bv Tryz.func13 Tryz.ntmps13 rfl (by kernel_rfl) (by simp) fun cx hn => ?_
 unfold da at hm
 refine srs hn ?_
 simp -dsimp
 refine srs hn ?_
 simp -dsimp
 refine ae ?_
 obtain ⟨a, j10, hm⟩ := bnd hm
 refine au [(0, .u (.one (.d (.int .i64 n)))), (2, .u (.one (.box 2 0))), (4, .u (.one (.box 4 0))), (11, .u (.one (.d (.bool a))))] [(2, .box (List.map (cI .i64) [0, 0, 0, 0, 0, 0, 0, 0])), (4, .box (List.map (cI .i64) [0, 0, 0, 0, 0, 0, 0, 0]))] (by rfl) (by rfl) ?_ fun ρ σ hf => ?_
 ·replace hm := j10
  clear j10
  refine sr1 hn ?_
  rcases ai hm with ⟨c1, hm⟩ | ⟨c1, hm⟩
  ·simp -dsimp [c1]
   refine a6 ?_
   cases hm
   exact EE.here (by simp -dsimp)
  ·simp -dsimp [c1]
   refine a6 ?_
   cases hm
   exact EE.here (by simp -dsimp)
 ·clear j10
  simp only [Fits, ap, ar, and_true] at hf
  rcases ai hm with ⟨c2, hm⟩ | ⟨c2, hm⟩
  ·refine a8 (by simp -dsimp [hf]) c2 ?_
   refine srs hn ?_
   obtain ⟨arr, h3, hm⟩ := bnd hm
   simp -dsimp [hf, arr8_map (cI .i64) h3]
   refine ac (ag ?_)
   cases hm
   refine ⟨.inr rfl, ?_⟩
   exact EE.here (by simp -dsimp [hf])
  ·refine a7 (by simp -dsimp [hf]) c2 ?_
   refine ab (a6 (ae ?_))
   refine srs hn ?_
   simp -dsimp
   refine ah ?_
   obtain ⟨l, g7, hm⟩ := bnd hm
   refine bf (hZ cx hn n g7) (by
     try dsimp only
     exact EE.here (by simp -dsimp [hf])
   ) fun ee ρ σ x8 => ?_
   unfold cH at x8
   dsimp only at x8
   obtain ⟨rfl, x8⟩ := x8
   refine aD ?_
   refine a6 ?_
   refine bN (by rfl) (by rfl) x8 fun ρ σ hf => ?_
   simp only [Fits, ap, ar, and_true] at hf
   refine srs hn ?_
   obtain ⟨arr, h9, hm⟩ := bnd hm
   simp -dsimp [hf, arr8_map (cI .i64) h9]
   refine ac ?_
   cases hm
   refine ⟨.inr rfl, ?_⟩
   exact EE.here (by simp -dsimp [hf])
theorem c_wolfram_Elementary (n : Int) (r : (Int × Int × Int × Int × Int × Int × Int × Int) × Int) (hm : da n = some r) : PureCall Tryz.prog 13 [.u (.one (.d (.int .i64 n)))] (.tup [.agg [.d (.int .i64 r.1.1), .d (.int .i64 r.1.2.1), .d (.int .i64 r.1.2.2.1), .d (.int .i64 r.1.2.2.2.1), .d (.int .i64 r.1.2.2.2.2.1), .d (.int .i64 r.1.2.2.2.2.2.1), .d (.int .i64 r.1.2.2.2.2.2.2.1), .d (.int .i64 r.1.2.2.2.2.2.2.2)], .one (.d (.int .i64 r.2))]) := (f_wolfram_Elementary n r hm).pureW
theorem f_totaltree_row (r : List Point) (hm : eR = some r) : PFn Tryz.prog 72 [] (fun v => v.wk (.u (.one (.d (.sl 2 (List.map Point.row r)))))) := by
 refine bv Tryz.func72 Tryz.ntmps72 rfl (by kernel_rfl) (by simp) fun cx hn => ?_
 unfold eR at hm
 refine srs hn ?_
 simp -dsimp
 refine srs hn ?_
 simp -dsimp
 refine ac ?_
 cases hm
 refine ⟨.inr rfl, ?_⟩
 exact EE.here (by simp -dsimp)
theorem c_totaltree_row (r : List Point) (hm : eR = some r) : PureCall Tryz.prog 72 [] (.u (.one (.d (.sl 2 (List.map Point.row r))))) := (f_totaltree_row r hm).pureW
theorem gv (i : Int) (av1 : Int) (av21 : Int) (av221 : Int) (av2221 : Int) (av22221 : Int) (av222221 : Int) (av2222221 : Int) (av2222222 : Int) (r : Int) (hm : cW i av1 av21 av221 av2221 av22221 av222221 av2222221 av2222222 = some r) : GFn Tryz.prog 74 [.u (.one (.d (.int .i64 i))), .u (.one (.box 1000000 0))] [.box [.d (.int .i64 av1), .d (.int .i64 av21), .d (.int .i64 av221), .d (.int .i64 av2221), .d (.int .i64 av22221), .d (.int .i64 av222221), .d (.int .i64 av2222221), .d (.int .i64 av2222222)]] (.u (.one (.d (.int .i64 r)))) [some (.box (List.map (cI .i64) [av1, av21, av221, av2221, av22221, av222221, av2222221, av2222222]))] := by
 refine cg aW _ Tryz.func74 rfl (by kernel_rfl) (by simp [Tryz.ntmps74]) (by simp) (by first | rfl | simp) (by first | rfl | simp) fun cx hn hk => ?_
 replace hn : cx.n = 7 := hn.trans Tryz.ntmps74
 replace hk : cx.k = 1 := hk
 unfold cW at hm
 refine srs hn ?_
 simp -dsimp
 refine srs hn ?_
 obtain ⟨x, h1, hm⟩ := bnd hm
 simp -dsimp [aidx_ok h1, (@id (([.d (.int .i64 av1), .d (.int .i64 av21), .d (.int .i64 av221), .d (.int .i64 av2221), .d (.int .i64 av22221), .d (.int .i64 av222221), .d (.int .i64 av2222221), .d (.int .i64 av2222222)] : List C)[i.toNat]? = some ((cI .i64) _)) (aidx_map (cI .i64) h1))]
 refine ac ?_
 cases hm
 refine ⟨.inr rfl, ?_⟩
 exact EE.here (by simp -dsimp)
theorem gU (i : Int) (at_ : Int) (state : Int) (r : Int) (hm : bL i at_ state = some r) : PFn Tryz.prog 73 [.u (.one (.d (.int .i64 i))), .u (.one (.d (.int .i64 at_))), .u (.one (.d (.int .i64 state)))] (fun v => v.wk (.u (.one (.d (.int .i64 r))))) := by
 refine bv Tryz.func73 Tryz.ntmps73 rfl (by kernel_rfl) (by simp) fun cx hn => ?_
 unfold bL at hm
 refine srs hn ?_
 simp -dsimp
 refine srs hn ?_
 simp -dsimp
 refine ac ?_
 cases hm
 refine ⟨.inr rfl, ?_⟩
 exact EE.here (by simp -dsimp)
theorem eK (i : Int) (at_ : Int) (state : Int) (r : Int) (hm : bL i at_ state = some r) : PureCall Tryz.prog 73 [.u (.one (.d (.int .i64 i))), .u (.one (.d (.int .i64 at_))), .u (.one (.d (.int .i64 state)))] (.u (.one (.d (.int .i64 r)))) := (gU i at_ state r hm).pureW
theorem gk (i : Int) (a : List Int) (r : Int) (hm : cM i a = some r) : GFn Tryz.prog 74 [.u (.one (.d (.int .i64 i))), .u (.one (.box 1000000 0))] [.box (List.map (cI .i64) a)] (.u (.one (.d (.int .i64 r)))) [some (.box (List.map (cI .i64) a))] := by
 refine cg aW _ Tryz.func74 rfl (by kernel_rfl) (by simp [Tryz.ntmps74]) (by simp) (by first | rfl | simp) (by first | rfl | simp) fun cx hn hk => ?_
 replace hn : cx.n = 7 := hn.trans Tryz.ntmps74
 replace hk : cx.k = 1 := hk
 unfold cM at hm
 refine srs hn ?_
 simp -dsimp
 refine srs hn ?_
 obtain ⟨x, h1, hm⟩ := bnd hm
 simp -dsimp [aidx_ok h1, aidx_get h1]
 refine ac ?_
 cases hm
 refine ⟨.inr rfl, ?_⟩
 exact EE.here (by simp -dsimp)
end Go.Proofs.YtogdjcdmbodmiaaGreatDoor
