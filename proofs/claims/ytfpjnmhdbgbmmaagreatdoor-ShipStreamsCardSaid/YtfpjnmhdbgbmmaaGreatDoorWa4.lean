/-
  That the code does what the functions say (made by cc.py).
-/
import Derived.Test.YtfpjnmhdbgbmmaaGreatDoorMd1
import Derived.Test.YtfpjnmhdbgbmmaaGreatDoorTb
import Derived.Test.YtfpjnmhdbgbmmaaGreatDoorWa2
import Derived.Test.YtfpjnmhdbgbmmaaGreatDoorWa3
namespace Go.Proofs.YtfpjnmhdbgbmmaaGreatDoor
open Go.AM Go.Proofs
attribute [-simp] qlookup cC dS Ob.wipe Ob.ren Ob.frz1
def aV (rcv : (totaltree_place → (List Point) → (List Point) → Int → (List Int) → (List Int) → (List (totaltree_place × Int)) → Int → Int → (List (List UInt8 × Int)) → Int → (List Point) → (List Node) → Option (Int × (List (totaltree_place × Int)) × (List (List UInt8 × Int)) × (List Node)))) : Prop := ∀ (p : totaltree_place) (a : List Point) (cHood : List Point) (cStates : Int) (cBirth : List Int) (cSurvive : List Int) (a1 : List (totaltree_place × Int)) (a2 : Int) (cv : Int) (cv1 : List (List UInt8 × Int)) (cStates1 : Int) (cHood1 : List Point) (cNodes : List Node) (r : Int × (List (totaltree_place × Int)) × (List (List UInt8 × Int)) × (List Node)), rcv p a cHood cStates cBirth cSurvive a1 a2 cv cv1 cStates1 cHood1 cNodes = some r → GFn Tryz.prog 142 [.u (.agg [.d (.int .i64 p.at_), .d (.int .i64 p.s.ones), .d (.int .i64 p.s.centre)]), .u (.one (.box 1000000 0)), .u (.one (.box 1000001 0)), .u (.one (.box 1000003 0)), .u (.one (.box 1000005 0)), .u (.one (.box 1000006 0)), .u (.one (.box 1000007 0)), .u (.one (.box 1000009 0)), .u (.one (.box 1000011 0))] [.box [.d (.sl 2 (List.map Point.row a))], .box [.fn 79 [.box 1000002 0]], .box [.d (.sl 2 (List.map Point.row cHood)), .d (.int .i64 cStates), .d (.sl 1 (List.map (rI .i64) cBirth)), .d (.sl 1 (List.map (rI .i64) cSurvive))], .box [.map 1000004], mOb (.ints 3) totaltree_place.key (uL (L.int .i64)) a1, .box [.d (.int .i64 a2)], .box [.fn 142 [.box 1000000 0, .box 1000001 0, .box 1000003 0, .box 1000005 0, .box 1000006 0, .box 1000007 0, .box 1000009 0, .box 1000011 0]], .box [.fn 78 [.box 1000008 0]], .box [.d (.int .i64 cv)], .box [.map 1000010], mOb .str kS (uL (L.int .i64)) cv1, .box [.d (.int .i64 cStates1), .d (.sl 2 (List.map Point.row cHood1)), .own 1000012], .row 2 75 (List.map Node.row cNodes)] (.u (.one (.d (.int .i64 r.1)))) [some (.box [.d (.sl 2 (List.map Point.row a))]), some (.box [.fn 79 [.box 1000002 0]]), some (.box [.d (.sl 2 (List.map Point.row cHood)), .d (.int .i64 cStates), .d (.sl 1 (List.map (rI .i64) cBirth)), .d (.sl 1 (List.map (rI .i64) cSurvive))]), some (.box [.map 1000004]), some (mOb (.ints 3) totaltree_place.key (uL (L.int .i64)) r.2.1), some (.box [.d (.int .i64 a2)]), some (.box [.fn 142 [.box 1000000 0, .box 1000001 0, .box 1000003 0, .box 1000005 0, .box 1000006 0, .box 1000007 0, .box 1000009 0, .box 1000011 0]]), some (.box [.fn 78 [.box 1000008 0]]), some (.box [.d (.int .i64 cv)]), some (.box [.map 1000010]), some (mOb .str kS (uL (L.int .i64)) r.2.2.1), some (.box [.d (.int .i64 cStates1), .d (.sl 2 (List.map Point.row cHood1)), .own 1000013]), none, some (.row 2 75 (List.map Node.row r.2.2.2))]
def aG (cx : Cx) (_rcv : (totaltree_place → (List Point) → (List Point) → Int → (List Int) → (List Int) → (List (totaltree_place × Int)) → Int → Int → (List (List UInt8 × Int)) → Int → (List Point) → (List Node) → Option (Int × (List (totaltree_place × Int)) × (List (List UInt8 × Int)) × (List Node)))) (p : totaltree_place) (a : List Point) (cHood : List Point) (cStates : Int) (cBirth : List Int) (cSurvive : List Int) (a2 : Int) (cv : Int) (cStates1 : Int) (cHood1 : List Point) (_u : Unit) (tt : ((List Node) × (List Int) × (List Int) × (List (totaltree_place × Int)) × (List (List UInt8 × Int)))) (ee : Exit) (ρ : Env) (σ : Sto) : Prop := match tt with
 | (l, keyv, l1, mp, mp1) => ee = .exit 0 ∧ EE cx (aU [(3, .u (.one (.box 1000003 0))), (7, .u (.one (.box 1000009 0))), (8, .u (.one (.box 1000011 0))), (9, .u (.one (.box 9 0))), (13, .u (.one (.box 13 0))), (14, .u (.one (.own 5003)))] [(9, .box [.d (.int .i64 p.at_), .d (.int .i64 p.s.ones), .d (.int .i64 p.s.centre)]), (13, .box [.d (.int .i64 (aA .i64 (ah a) p.at_)), .own 5004]), (5000, .row 2 75 (List.map Node.row l)), (5003, .row 1 5 (List.map (rI .u8) keyv)), (5004, .row 1 3 (List.map (rI .i64) l1)), (1000000, .box [.d (.sl 2 (List.map Point.row a))]), (1000001, .box [.fn 79 [.box 1000002 0]]), (1000002, .box [.d (.sl 2 (List.map Point.row cHood)), .d (.int .i64 cStates), .d (.sl 1 (List.map (rI .i64) cBirth)), .d (.sl 1 (List.map (rI .i64) cSurvive))]), (1000003, .box [.map 1000004]), (1000004, mOb (.ints 3) totaltree_place.key (uL (L.int .i64)) mp), (1000005, .box [.d (.int .i64 a2)]), (1000006, .box [.fn 142 [.box 1000000 0, .box 1000001 0, .box 1000003 0, .box 1000005 0, .box 1000006 0, .box 1000007 0, .box 1000009 0, .box 1000011 0]]), (1000007, .box [.fn 78 [.box 1000008 0]]), (1000008, .box [.d (.int .i64 cv)]), (1000009, .box [.map 1000010]), (1000010, mOb .str kS (uL (L.int .i64)) mp1), (1000011, .box [.d (.int .i64 cStates1), .d (.sl 2 (List.map Point.row cHood1)), .own 5000])]) ρ σ
theorem cR (cx : Cx) (hn : cx.n = 101) (_hk : cx.k = 13) (rcv : (totaltree_place → (List Point) → (List Point) → Int → (List Int) → (List Int) → (List (totaltree_place × Int)) → Int → Int → (List (List UInt8 × Int)) → Int → (List Point) → (List Node) → Option (Int × (List (totaltree_place × Int)) × (List (List UInt8 × Int)) × (List Node)))) (p : totaltree_place) (a : List Point) (cHood : List Point) (cStates : Int) (cBirth : List Int) (cSurvive : List Int) (a2 : Int) (cv : Int) (cStates1 : Int) (cHood1 : List Point) (u : Unit) (hrcv : aV rcv) {fu : Nat} {stt : Int × (List Node) × (List Int) × (List Int) × (List (totaltree_place × Int)) × (List (List UInt8 × Int))} {tt : ((List Node) × (List Int) × (List Int) × (List (totaltree_place × Int)) × (List (List UInt8 × Int)))} (hh : al (aS rcv p a cHood cStates cBirth cSurvive a2 cv cStates1 cHood1 u) fu stt = some tt) {ρ : Env} {σ : Sto}
  (hE : b4 (fun stt : Int × (List Node) × (List Int) × (List Int) × (List (totaltree_place × Int)) × (List (List UInt8 × Int)) => match stt with | (a3, _l, _keyv, _l1, _mp, _mp1) => [(3, .u (.one (.box 1000003 0))), (5, .u (.one (.box 1000006 0))), (6, .u (.one (.box 1000007 0))), (7, .u (.one (.box 1000009 0))), (8, .u (.one (.box 1000011 0))), (9, .u (.one (.box 9 0))), (13, .u (.one (.box 13 0))), (14, .u (.one (.own 5003))), (46, .u (.one (.d (.int .i64 a2)))), (47, .u (.one (.d (.int .i64 a3))))]) (fun stt : Int × (List Node) × (List Int) × (List Int) × (List (totaltree_place × Int)) × (List (List UInt8 × Int)) => match stt with | (_a3, l, keyv, l1, mp, mp1) => [(9, .box [.d (.int .i64 p.at_), .d (.int .i64 p.s.ones), .d (.int .i64 p.s.centre)]), (13, .box [.d (.int .i64 (aA .i64 (ah a) p.at_)), .own 5004]), (5000, .row 2 75 (List.map Node.row l)), (5003, .row 1 5 (List.map (rI .u8) keyv)), (5004, .row 1 3 (List.map (rI .i64) l1)), (1000000, .box [.d (.sl 2 (List.map Point.row a))]), (1000001, .box [.fn 79 [.box 1000002 0]]), (1000002, .box [.d (.sl 2 (List.map Point.row cHood)), .d (.int .i64 cStates), .d (.sl 1 (List.map (rI .i64) cBirth)), .d (.sl 1 (List.map (rI .i64) cSurvive))]), (1000003, .box [.map 1000004]), (1000004, mOb (.ints 3) totaltree_place.key (uL (L.int .i64)) mp), (1000005, .box [.d (.int .i64 a2)]), (1000006, .box [.fn 142 [.box 1000000 0, .box 1000001 0, .box 1000003 0, .box 1000005 0, .box 1000006 0, .box 1000007 0, .box 1000009 0, .box 1000011 0]]), (1000007, .box [.fn 78 [.box 1000008 0]]), (1000008, .box [.d (.int .i64 cv)]), (1000009, .box [.map 1000010]), (1000010, mOb .str kS (uL (L.int .i64)) mp1), (1000011, .box [.d (.int .i64 cStates1), .d (.sl 2 (List.map Point.row cHood1)), .own 5000])]) stt ρ σ) : Swp Tryz.prog cx (.loop (bQ [1, 1, 1, 1, 1, 0, 1, 0, 0] (aP Tryz.f142))) ρ σ (aG cx rcv p a cHood cStates cBirth cSurvive a2 cv cStates1 cHood1 u tt) := by
 refine b8 hE hh (aG cx rcv p a cHood cStates cBirth cSurvive a2 cv cStates1 cHood1 u) (fun _ => by rfl) (fun _ => by rfl) ?_
 rintro ⟨a3, l, keyv, l1, mp, mp1⟩ r hm ρ σ hf
 simp only [Fits, am, ap, and_true] at hf
 unfold aS at hm
 dsimp only at hm
 refine srs hn (by kernel_rfl) ?_
 simp -dsimp [hf]
 refine ac ?_
 rcases aj hm with ⟨c5, hm⟩ | ⟨c5, hm⟩
 ·refine a8 (b := (ltB a3 a2)) (by simp -dsimp) c5 ?_
  refine ab (a6 (ac (ai ?_)))
  refine srs hn (by kernel_rfl) ?_
  simp -dsimp [hf, c5]
  refine sw_midcs aK mixed 10 11 12 0 [[0, 1, 2, 3]] [[]] [true] none (by rw [hn]; kernel_rfl) fH ?_
  dsimp only [List.take, List.drop, fV, gq, il, pk, List.cons_append, List.nil_append, List.flatten_cons, List.flatten_nil, ey, ez, List.append_nil]
  obtain ⟨y, h6, hm⟩ := bnd hm
  simp -dsimp [hf]
  refine callE_g (iG p.s p.at_ a3 cv y h6) [1000008] [] rfl rfl rfl (by simp -dsimp []) rfl (by simp -dsimp [hf]) (by first | rfl | simp) rfl (by rw [hn]; decide) rfl rfl (by simp) nofun (by simp) ?_
  obtain ⟨y1, h7, hm⟩ := bnd hm
  simp -dsimp [hf]
  refine bB (hrcv (⟨(aH .i64 p.at_ 1), ⟨y.1, y.2⟩⟩ : totaltree_place) a cHood cStates cBirth cSurvive mp a2 cv mp1 cStates1 cHood1 l y1 h7) [1000000, 1000001, 1000002, 1000003, 1000004, 1000005, 1000006, 1000007, 1000008, 1000009, 1000010, 1000011, 5000] [5001] rfl rfl rfl (by simp -dsimp []) rfl (by simp -dsimp [hf]) (by first | rfl | simp) rfl (by rw [hn]; decide) ?_
  simp -dsimp
  refine srs hn (by kernel_rfl) ?_
  obtain ⟨l2, h8, hm⟩ := bnd hm
  obtain ⟨h8a, h8e⟩ := aL h8
  replace h8e := h8e.symm
  subst h8e
  try simp only [List.length_cons, List.length_nil, Nat.zero_add] at h8a
  simp -dsimp [hf, h8a]
  refine sr1 hn (by kernel_rfl) ?_
  obtain ⟨l3, h9, hm⟩ := bnd hm
  obtain ⟨h9a, h9e⟩ := aL h9
  replace h9e := h9e.symm
  subst h9e
  try simp only [List.length_cons, List.length_nil, Nat.zero_add] at h9a
  try simp only [Nat.mul_one, Nat.reduceLeDiff] at h9a
  obtain ⟨y2, h10, hm⟩ := bnd hm
  simp -dsimp [hf, h9a]
  refine bB (g_strconv_AppendInt_o (keyv ++ [32]) y1.1 10 y2 h10) [71] [5002] rfl rfl rfl (by simp -dsimp []) rfl (by simp -dsimp) (by first | rfl | simp) rfl (by rw [hn]; decide) ?_
  simp -dsimp
  refine aJ ?_
  refine a6 ?_
  refine sr1 hn (by kernel_rfl) ?_
  simp -dsimp [hf]
  cases hm
  refine aB ?_
  refine EE.step (Wk.move 5002 5003 (by decide) (.inl (by decide))) ?_
  refine EE.step (Wk.move 67 5004 (by decide) (.inl (by decide))) ?_
  refine EE.step (Wk.move 5001 5000 (by decide) (.inl (by decide))) ?_
  refine EE.here ?_
  simp -dsimp [hf]
 ·refine a7 (b := (ltB a3 a2)) (by simp -dsimp) c5 ?_
  refine av ?_
  refine ag ?_
  cases hm
  refine ar nofun ?_
  unfold aG
  dsimp only
  refine ⟨rfl, ?_⟩
  refine EE.here ?_
  simp -dsimp [hf, c5]
theorem cW (rcv : (totaltree_place → (List Point) → (List Point) → Int → (List Int) → (List Int) → (List (totaltree_place × Int)) → Int → Int → (List (List UInt8 × Int)) → Int → (List Point) → (List Node) → Option (Int × (List (totaltree_place × Int)) × (List (List UInt8 × Int)) × (List Node)))) (hrcv : aV rcv) (p : totaltree_place) (a : List Point) (cHood : List Point) (cStates : Int) (cBirth : List Int) (cSurvive : List Int) (a1 : List (totaltree_place × Int)) (a2 : Int) (cv : Int) (cv1 : List (List UInt8 × Int)) (cStates1 : Int) (cHood1 : List Point) (cNodes : List Node) (r : Int × (List (totaltree_place × Int)) × (List (List UInt8 × Int)) × (List Node)) (hm : aT rcv p a cHood cStates cBirth cSurvive a1 a2 cv cv1 cStates1 cHood1 cNodes = some r) : GFn Tryz.prog 142 [.u (.agg [.d (.int .i64 p.at_), .d (.int .i64 p.s.ones), .d (.int .i64 p.s.centre)]), .u (.one (.box 1000000 0)), .u (.one (.box 1000001 0)), .u (.one (.box 1000003 0)), .u (.one (.box 1000005 0)), .u (.one (.box 1000006 0)), .u (.one (.box 1000007 0)), .u (.one (.box 1000009 0)), .u (.one (.box 1000011 0))] [.box [.d (.sl 2 (List.map Point.row a))], .box [.fn 79 [.box 1000002 0]], .box [.d (.sl 2 (List.map Point.row cHood)), .d (.int .i64 cStates), .d (.sl 1 (List.map (rI .i64) cBirth)), .d (.sl 1 (List.map (rI .i64) cSurvive))], .box [.map 1000004], mOb (.ints 3) totaltree_place.key (uL (L.int .i64)) a1, .box [.d (.int .i64 a2)], .box [.fn 142 [.box 1000000 0, .box 1000001 0, .box 1000003 0, .box 1000005 0, .box 1000006 0, .box 1000007 0, .box 1000009 0, .box 1000011 0]], .box [.fn 78 [.box 1000008 0]], .box [.d (.int .i64 cv)], .box [.map 1000010], mOb .str kS (uL (L.int .i64)) cv1, .box [.d (.int .i64 cStates1), .d (.sl 2 (List.map Point.row cHood1)), .own 1000012], .row 2 75 (List.map Node.row cNodes)] (.u (.one (.d (.int .i64 r.1)))) [some (.box [.d (.sl 2 (List.map Point.row a))]), some (.box [.fn 79 [.box 1000002 0]]), some (.box [.d (.sl 2 (List.map Point.row cHood)), .d (.int .i64 cStates), .d (.sl 1 (List.map (rI .i64) cBirth)), .d (.sl 1 (List.map (rI .i64) cSurvive))]), some (.box [.map 1000004]), some (mOb (.ints 3) totaltree_place.key (uL (L.int .i64)) r.2.1), some (.box [.d (.int .i64 a2)]), some (.box [.fn 142 [.box 1000000 0, .box 1000001 0, .box 1000003 0, .box 1000005 0, .box 1000006 0, .box 1000007 0, .box 1000009 0, .box 1000011 0]]), some (.box [.fn 78 [.box 1000008 0]]), some (.box [.d (.int .i64 cv)]), some (.box [.map 1000010]), some (mOb .str kS (uL (L.int .i64)) r.2.2.1), some (.box [.d (.int .i64 cStates1), .d (.sl 2 (List.map Point.row cHood1)), .own 1000013]), none, some (.row 2 75 (List.map Node.row r.2.2.2))] := by
 refine bL aK _ Tryz.func142 rfl (by kernel_rfl) (by simp [Tryz.ntmps142]) (by simp) (by first | rfl | simp) (by first | rfl | simp) fun cx hn hk => ?_
 replace hn : cx.n = 101 := hn.trans Tryz.ntmps142
 replace hk : cx.k = 13 := hk
 unfold aT at hm
 refine srs hn (by kernel_rfl) ?_
 simp -dsimp []
 refine ac ?_
 refine srs hn (by kernel_rfl) ?_
 simp -dsimp []
 rcases aj hm with ⟨c1, hm⟩ | ⟨c1, hm⟩
 ·refine a8 (b := (eqB p.at_ (ah a))) (by simp -dsimp []) c1 ?_
  refine srs hn (by kernel_rfl) ?_
  obtain ⟨y, h2, hm⟩ := bnd hm
  simp -dsimp [c1]
  refine callL_brw (us' := [.u (.agg [.d (.int .i64 p.s.ones), .d (.int .i64 p.s.centre)]), .u (.one (.ref (Totals.row (⟨cHood, cStates, cBirth, cSurvive⟩ : Totals)) 0))]) (c_totaltree_Totals_2 p.s (⟨cHood, cStates, cBirth, cSurvive⟩ : Totals) y h2) (by simp -dsimp) rfl (by rw [hn]; decide) ?_
  simp -dsimp
  refine aa (ag ?_)
  cases hm
  refine ⟨.inr rfl, ?_⟩
  refine EE.step (Wk.move 1000012 1000013 (by decide) (.inr (by rw [hk]; decide))) ?_
  refine EE.here ?_
  simp -dsimp
 ·refine a7 (b := (eqB p.at_ (ah a))) (by simp -dsimp []) c1 ?_
  refine ab (a6 (ac ?_))
  refine srs hn (by kernel_rfl) ?_
  obtain ⟨u, h3, hm⟩ := bnd hm
  simp -dsimp [c1, dQ h3 (.head _), dQ h3 (.tail _ (.head _)), dQ h3 (.tail _ (.tail _ (.head _))), (@id (lkM (gM (mOb (.ints 3) totaltree_place.key (uL (L.int .i64)) a1) (.ints [p.at_, p.s.ones, p.s.centre])) true (.one (.d (.int .i64 0))) = some (.tup [.one (.d (.int .i64 (fx a1 p 0))), .one (.d (.bool (fv a1 p)))])) (lk_two p 0))]
  refine srs hn (by kernel_rfl) ?_
  simp -dsimp
  rcases aj hm with ⟨c4, hm⟩ | ⟨c4, hm⟩
  ·refine a8 (b := (fv a1 p)) (by simp -dsimp) c4 ?_
   refine srs hn (by kernel_rfl) ?_
   simp -dsimp [c4]
   refine aa (ag ?_)
   cases hm
   refine ⟨.inr rfl, ?_⟩
   refine EE.step (Wk.move 1000012 1000013 (by decide) (.inr (by rw [hk]; decide))) ?_
   refine EE.here ?_
   simp -dsimp
  ·refine a7 (b := (fv a1 p)) (by simp -dsimp) c4 ?_
   refine ab (a6 ?_)
   refine srs hn (by kernel_rfl) ?_
   simp -dsimp [c4]
   refine sw_regBs aK 3 (by rw [hn]; kernel_rfl) ?_
   dsimp only [List.take, List.drop]
   simp -dsimp
   refine ac ?_
   refine srs hn (by kernel_rfl) ?_
   simp -dsimp
   refine ai ?_
   obtain ⟨⟨l, keyv, l1, mp, mp1⟩, g11, hm⟩ := bnd hm
   refine aO [(3, .u (.one (.box 1000003 0))), (5, .u (.one (.box 1000006 0))), (6, .u (.one (.box 1000007 0))), (7, .u (.one (.box 1000009 0))), (8, .u (.one (.box 1000011 0))), (9, .u (.one (.box 9 0))), (13, .u (.one (.box 13 0))), (14, .u (.one (.own 5003))), (46, .u (.one (.d (.int .i64 a2)))), (47, .u (.one (.d (.int .i64 0))))] [(9, .box [.d (.int .i64 p.at_), .d (.int .i64 p.s.ones), .d (.int .i64 p.s.centre)]), (13, .box [.d (.int .i64 (aA .i64 (ah a) p.at_)), .own 5004]), (5000, .row 2 75 (List.map Node.row cNodes)), (5003, .row 1 5 (List.map (rI .u8) [(fZ .u8 (aA .i64 (ah a) p.at_))])), (5004, .row 1 3 (List.map (rI .i64) [])), (1000000, .box [.d (.sl 2 (List.map Point.row a))]), (1000001, .box [.fn 79 [.box 1000002 0]]), (1000002, .box [.d (.sl 2 (List.map Point.row cHood)), .d (.int .i64 cStates), .d (.sl 1 (List.map (rI .i64) cBirth)), .d (.sl 1 (List.map (rI .i64) cSurvive))]), (1000003, .box [.map 1000004]), (1000004, mOb (.ints 3) totaltree_place.key (uL (L.int .i64)) a1), (1000005, .box [.d (.int .i64 a2)]), (1000006, .box [.fn 142 [.box 1000000 0, .box 1000001 0, .box 1000003 0, .box 1000005 0, .box 1000006 0, .box 1000007 0, .box 1000009 0, .box 1000011 0]]), (1000007, .box [.fn 78 [.box 1000008 0]]), (1000008, .box [.d (.int .i64 cv)]), (1000009, .box [.map 1000010]), (1000010, mOb .str kS (uL (L.int .i64)) cv1), (1000011, .box [.d (.int .i64 cStates1), .d (.sl 2 (List.map Point.row cHood1)), .own 5000])] (by rfl) (by rfl) (by
     refine EE.step (Wk.move 45 5003 (by decide) (.inl (by decide))) ?_
     refine EE.step (Wk.move 1000012 5000 (by decide) (.inl (by decide))) ?_
     refine EE.step (Wk.own0b 13 1 5004 1 3 [.d (.int .i64 (aA .i64 (ah a) p.at_)), .d .nil] (by simp -dsimp) (by rfl) (by decide) (by decide)) ?_
     refine EE.here ?_
     simp -dsimp
   ) fun ρ σ hf => ?_
   refine (cR cx hn hk rcv p a cHood cStates cBirth cSurvive a2 cv cStates1 cHood1 u hrcv g11 hf).mono fun ee ρ σ x12 => ?_
   unfold aG at x12
   dsimp only at x12
   obtain ⟨rfl, x12⟩ := x12
   refine au ?_
   refine a6 ?_
   refine b5 (by rfl) (by rfl) x12 fun ρ σ hf => ?_
   simp only [Fits, am, ap, and_true] at hf
   refine srs hn (by kernel_rfl) ?_
   obtain ⟨u1, h13, hm⟩ := bnd hm
   simp -dsimp [hf, io h13, (@id (lkM (gM (mOb .str kS (uL (L.int .i64)) mp1) (.str (ofBytes keyv))) true (.one (.d (.int .i64 0))) = some (.tup [.one (.d (.int .i64 (fx mp1 (ofBytes keyv) 0))), .one (.d (.bool (fv mp1 (ofBytes keyv))))])) (lk_two (ofBytes keyv) 0))]
   obtain ⟨⟨idv, mp2, l2⟩, j16, hm⟩ := bnd hm
   refine aw [(3, .u (.one (.box 1000003 0))), (9, .u (.one (.box 9 0))), (17, .u (.one (.d (.int .i64 idv))))] [(9, .box [.d (.int .i64 p.at_), .d (.int .i64 p.s.ones), .d (.int .i64 p.s.centre)]), (5000, .row 2 75 (List.map Node.row l2)), (1000000, .box [.d (.sl 2 (List.map Point.row a))]), (1000001, .box [.fn 79 [.box 1000002 0]]), (1000002, .box [.d (.sl 2 (List.map Point.row cHood)), .d (.int .i64 cStates), .d (.sl 1 (List.map (rI .i64) cBirth)), .d (.sl 1 (List.map (rI .i64) cSurvive))]), (1000003, .box [.map 1000004]), (1000004, mOb (.ints 3) totaltree_place.key (uL (L.int .i64)) mp), (1000005, .box [.d (.int .i64 a2)]), (1000006, .box [.fn 142 [.box 1000000 0, .box 1000001 0, .box 1000003 0, .box 1000005 0, .box 1000006 0, .box 1000007 0, .box 1000009 0, .box 1000011 0]]), (1000007, .box [.fn 78 [.box 1000008 0]]), (1000008, .box [.d (.int .i64 cv)]), (1000009, .box [.map 1000010]), (1000010, mOb .str kS (uL (L.int .i64)) mp2), (1000011, .box [.d (.int .i64 cStates1), .d (.sl 2 (List.map Point.row cHood1)), .own 5000])] (by rfl) (by rfl) ?_ fun ρ σ hf => ?_
   ·replace hm := j16
    clear j16
    refine srs hn (by kernel_rfl) ?_
    simp -dsimp
    rcases aj hm with ⟨c14, hm⟩ | ⟨c14, hm⟩
    ·refine a8 (b := (aM (fv mp1 (ofBytes keyv)))) (by simp -dsimp) c14 ?_
     refine srs hn (by kernel_rfl) ?_
     simp -dsimp [hf, c14]
     refine Swp.pre (Wk.frz 5004 1 3 (List.map (rI .i64) l1) (by simp -dsimp [hf])) ?_
     refine srs hn (by kernel_rfl) ?_
     obtain ⟨l2, h15, hm⟩ := bnd hm
     obtain ⟨h15a, h15e⟩ := aL h15
     replace h15e := h15e.symm
     subst h15e
     try simp only [List.length_cons, List.length_nil, Nat.zero_add] at h15a
     simp -dsimp [hf, h15a]
     refine sr1 hn (by kernel_rfl) ?_
     simp -dsimp [hf, io h13, (@id (ir (mOb .str kS (uL (L.int .i64)) mp1) (.str (ofBytes keyv)) (.one (.d (.int .i64 (ah l)))) = mOb .str kS (uL (L.int .i64)) (gr mp1 (ofBytes keyv) (ah l))) (mset_ob .str kS (uL (L.int .i64)) mp1 (ofBytes keyv) (ah l)))]
     refine a6 ?_
     cases hm
     refine EE.step (Wk.move 91 5000 (by decide) (.inl (by decide))) ?_
     refine EE.here ?_
     simp -dsimp [hf]
    ·refine a7 (b := (aM (fv mp1 (ofBytes keyv)))) (by simp -dsimp) c14 ?_
     refine ab (a6 ?_)
     cases hm
     refine EE.here ?_
     simp -dsimp [hf, c14]
   ·clear j16
    simp only [Fits, am, ap, and_true] at hf
    refine srs hn (by kernel_rfl) ?_
    simp -dsimp [hf, dQ h3 (.head _), dQ h3 (.tail _ (.head _)), dQ h3 (.tail _ (.tail _ (.head _))), (@id (ir (mOb (.ints 3) totaltree_place.key (uL (L.int .i64)) mp) (.ints [p.at_, p.s.ones, p.s.centre]) (.one (.d (.int .i64 idv))) = mOb (.ints 3) totaltree_place.key (uL (L.int .i64)) (gr mp p idv)) (mset_ob (.ints 3) totaltree_place.key (uL (L.int .i64)) mp p idv))]
    refine srs hn (by kernel_rfl) ?_
    simp -dsimp [hf]
    refine aa ?_
    cases hm
    refine ⟨.inr rfl, ?_⟩
    refine EE.step (Wk.move 5000 1000013 (by decide) (.inr (by rw [hk]; decide))) ?_
    refine EE.here ?_
    simp -dsimp [hf]
theorem cZ (p : totaltree_place) (a : List Point) (cHood : List Point) (cStates : Int) (cBirth : List Int) (cSurvive : List Int) (a1 : List (totaltree_place × Int)) (a2 : Int) (cv : Int) (cv1 : List (List UInt8 × Int)) (cStates1 : Int) (cHood1 : List Point) (cNodes : List Node) (r : Int × (List (totaltree_place × Int)) × (List (List UInt8 × Int)) × (List Node)) (hm : bm p a cHood cStates cBirth cSurvive a1 a2 cv cv1 cStates1 cHood1 cNodes = some r) : GFn Tryz.prog 142 [.u (.agg [.d (.int .i64 p.at_), .d (.int .i64 p.s.ones), .d (.int .i64 p.s.centre)]), .u (.one (.box 1000000 0)), .u (.one (.box 1000001 0)), .u (.one (.box 1000003 0)), .u (.one (.box 1000005 0)), .u (.one (.box 1000006 0)), .u (.one (.box 1000007 0)), .u (.one (.box 1000009 0)), .u (.one (.box 1000011 0))] [.box [.d (.sl 2 (List.map Point.row a))], .box [.fn 79 [.box 1000002 0]], .box [.d (.sl 2 (List.map Point.row cHood)), .d (.int .i64 cStates), .d (.sl 1 (List.map (rI .i64) cBirth)), .d (.sl 1 (List.map (rI .i64) cSurvive))], .box [.map 1000004], mOb (.ints 3) totaltree_place.key (uL (L.int .i64)) a1, .box [.d (.int .i64 a2)], .box [.fn 142 [.box 1000000 0, .box 1000001 0, .box 1000003 0, .box 1000005 0, .box 1000006 0, .box 1000007 0, .box 1000009 0, .box 1000011 0]], .box [.fn 78 [.box 1000008 0]], .box [.d (.int .i64 cv)], .box [.map 1000010], mOb .str kS (uL (L.int .i64)) cv1, .box [.d (.int .i64 cStates1), .d (.sl 2 (List.map Point.row cHood1)), .own 1000012], .row 2 75 (List.map Node.row cNodes)] (.u (.one (.d (.int .i64 r.1)))) [some (.box [.d (.sl 2 (List.map Point.row a))]), some (.box [.fn 79 [.box 1000002 0]]), some (.box [.d (.sl 2 (List.map Point.row cHood)), .d (.int .i64 cStates), .d (.sl 1 (List.map (rI .i64) cBirth)), .d (.sl 1 (List.map (rI .i64) cSurvive))]), some (.box [.map 1000004]), some (mOb (.ints 3) totaltree_place.key (uL (L.int .i64)) r.2.1), some (.box [.d (.int .i64 a2)]), some (.box [.fn 142 [.box 1000000 0, .box 1000001 0, .box 1000003 0, .box 1000005 0, .box 1000006 0, .box 1000007 0, .box 1000009 0, .box 1000011 0]]), some (.box [.fn 78 [.box 1000008 0]]), some (.box [.d (.int .i64 cv)]), some (.box [.map 1000010]), some (mOb .str kS (uL (L.int .i64)) r.2.2.1), some (.box [.d (.int .i64 cStates1), .d (.sl 2 (List.map Point.row cHood1)), .own 1000013]), none, some (.row 2 75 (List.map Node.row r.2.2.2))] := recN_ind aV (by intro _; intro _; intro _; intro _; intro _; intro _; intro _; intro _; intro _; intro _; intro _; intro _; intro _; intro _; intro hm; cases hm) cW recF p a cHood cStates cBirth cSurvive a1 a2 cv cv1 cStates1 cHood1 cNodes r hm
theorem bl (states : Int) (l : List Point) (start : totaltree_sum) (cv : Int) (cHood : List Point) (cStates : Int) (cBirth : List Int) (cSurvive : List Int) (r : List Node) (hm : aC states l start cv cHood cStates cBirth cSurvive = some r) : GFn Tryz.prog 81 [.u (.one (.d (.int .i64 states))), .u (.one (.d (.sl 2 (List.map Point.row l)))), .u (.agg [.d (.int .i64 start.ones), .d (.int .i64 start.centre)]), .u (.one (.fn 78 [.box 1000000 0])), .u (.one (.fn 79 [.box 1000001 0]))] [.box [.d (.int .i64 cv)], .box [.d (.sl 2 (List.map Point.row cHood)), .d (.int .i64 cStates), .d (.sl 1 (List.map (rI .i64) cBirth)), .d (.sl 1 (List.map (rI .i64) cSurvive))]] (.u (.agg [.d (.int .i64 states), .d (.sl 2 (List.map Point.row l)), .own 1000002])) [some (.box [.d (.int .i64 cv)]), some (.box [.d (.sl 2 (List.map Point.row cHood)), .d (.int .i64 cStates), .d (.sl 1 (List.map (rI .i64) cBirth)), .d (.sl 1 (List.map (rI .i64) cSurvive))]), some (.row 2 75 (List.map Node.row r))] := by
 refine bL aK _ Tryz.func81 rfl (by kernel_rfl) (by simp [Tryz.ntmps81]) (by simp) (by first | rfl | simp) (by first | rfl | simp) fun cx hn hk => ?_
 replace hn : cx.n = 26 := hn.trans Tryz.ntmps81
 replace hk : cx.k = 2 := hk
 unfold aC at hm
 refine srs hn (by kernel_rfl) ?_
 simp -dsimp []
 refine srs hn (by kernel_rfl) ?_
 simp -dsimp []
 refine srs hn (by kernel_rfl) ?_
 simp -dsimp [(@id (Ob.map (.ints 3) [] = mOb (.ints 3) totaltree_place.key (uL (L.int .i64)) ([] : List (totaltree_place × Int))) (iv (.ints 3) totaltree_place.key (uL (L.int .i64))))]
 refine srs hn (by kernel_rfl) ?_
 simp -dsimp [(@id (Ob.map .str [] = mOb .str kS (uL (L.int .i64)) ([] : List (List UInt8 × Int))) (iv .str kS (uL (L.int .i64))))]
 refine srs hn (by kernel_rfl) ?_
 simp -dsimp
 refine srs hn (by kernel_rfl) ?_
 simp -dsimp
 refine Swp.pre (Wk.own0b 10 2 5000 2 75 [.d (.int .i64 0), .d .nil, .d .nil] (by simp -dsimp) (by rfl) (by decide) (by decide)) ?_
 refine Swp.pre (Wk.own0b 11 2 5001 2 75 [.d (.int .i64 states), .d (.sl 2 (List.map Point.row l)), .d .nil] (by simp -dsimp) (by rfl) (by decide) (by decide)) ?_
 refine srs hn (by kernel_rfl) ?_
 obtain ⟨y, h1, hm⟩ := bnd hm
 simp -dsimp
 refine bB (cZ (⟨0, ⟨start.ones, start.centre⟩⟩ : totaltree_place) l cHood cStates cBirth cSurvive [] states cv [] states l [] y h1) [6, 9, 1000001, 12, 18, 5, 14, 8, 1000000, 13, 19, 11, 5001] [5002] rfl rfl rfl (by simp -dsimp []) rfl (by simp -dsimp) (by first | rfl | simp) rfl (by rw [hn]; decide) ?_
 simp -dsimp
 refine srs hn (by kernel_rfl) ?_
 simp -dsimp
 refine aa ?_
 cases hm
 refine ⟨.inr rfl, ?_⟩
 refine EE.step (Wk.move 5002 1000002 (by decide) (.inr (by rw [hk]; decide))) ?_
 refine EE.here ?_
 simp -dsimp
theorem f_totaltree_Totals (x : Totals) (r : Tree × Int) (hm : dI x = some r) : PFn Tryz.prog 39 [.u (.agg [.d (.sl 2 (List.map Point.row x.Hood)), .d (.int .i64 x.States), .d (.sl 1 (List.map (rI .i64) x.Birth)), .d (.sl 1 (List.map (rI .i64) x.Survive))])] (fun v => v.wk (.tup [.agg [.d (.int .i64 r.1.States), .d (.sl 2 (List.map Point.row r.1.Hood)), .d (.sl 2 (List.map Node.row r.1.Nodes))], .one (.d (.int .i64 r.2))])) := by
 refine aX Tryz.func39 Tryz.ntmps39 rfl (by kernel_rfl) (by simp) fun cx hn => ?_
 unfold dI at hm
 refine srs hn (by kernel_rfl) ?_
 simp -dsimp []
 refine ac ?_
 refine srs hn (by kernel_rfl) ?_
 obtain ⟨y, h1, hm⟩ := bnd hm
 simp -dsimp []
 refine ae (ii x y h1) (by rw [hn]; decide) ?_
 simp -dsimp
 rcases aj hm with ⟨c2, hm⟩ | ⟨c2, hm⟩
 ·refine a8 (b := (aM y)) (by simp -dsimp) c2 ?_
  refine srs hn (by kernel_rfl) ?_
  simp -dsimp [c2]
  refine aa (ag ?_)
  cases hm
  refine ⟨.inr rfl, ?_⟩
  refine EE.here ?_
  simp -dsimp
 ·refine a7 (b := (aM y)) (by simp -dsimp) c2 ?_
  refine ab (a6 ?_)
  refine srs hn (by kernel_rfl) ?_
  obtain ⟨y1, h3, hm⟩ := bnd hm
  simp -dsimp [c2]
  refine ae (c_hood_Centre x.Hood y1 h3) (by rw [hn]; decide) ?_
  simp -dsimp
  refine srs hn (by kernel_rfl) ?_
  simp -dsimp
  refine srs hn (by kernel_rfl) ?_
  simp -dsimp
  refine sw_drNs aK mixed 8 (by rw [hn]; kernel_rfl) ?_
  dsimp only [List.take, List.drop]
  obtain ⟨y2, h4, hm⟩ := bnd hm
  simp -dsimp
  refine ak (c_slices_Clone_api_Point_api_Point x.Hood y2 h4) ?_
  obtain ⟨y3, h5, hm⟩ := bnd hm
  simp -dsimp
  refine bB (bl x.States y2 (⟨0, 0⟩ : totaltree_sum) y1 x.Hood x.States x.Birth x.Survive y3 h5) [4, 1] [5000] rfl rfl rfl (by simp -dsimp []) rfl (by simp -dsimp) (by first | rfl | simp) rfl (by rw [hn]; decide) ?_
  simp -dsimp
  refine aa ?_
  cases hm
  refine ⟨.inr rfl, ?_⟩
  refine EE.here ?_
  simp -dsimp
theorem c_totaltree_Totals (x : Totals) (r : Tree × Int) (hm : dI x = some r) : PureCall Tryz.prog 39 [.u (.agg [.d (.sl 2 (List.map Point.row x.Hood)), .d (.int .i64 x.States), .d (.sl 1 (List.map (rI .i64) x.Birth)), .d (.sl 1 (List.map (rI .i64) x.Survive))])] (.tup [.agg [.d (.int .i64 r.1.States), .d (.sl 2 (List.map Point.row r.1.Hood)), .d (.sl 2 (List.map Node.row r.1.Nodes))], .one (.d (.int .i64 r.2))]) := (f_totaltree_Totals x r hm).pureW
theorem f_notation_Parse (s : List UInt8) (r : Tree × Int) (hm : eh s = some r) : PFn Tryz.prog 17 [.u (.one (.d (.str (bs s))))] (fun v => v.wk (.tup [.agg [.d (.int .i64 r.1.States), .d (.sl 2 (List.map Point.row r.1.Hood)), .d (.sl 2 (List.map Node.row r.1.Nodes))], .one (.d (.int .i64 r.2))])) := by
 refine aX Tryz.func17 Tryz.ntmps17 rfl (by kernel_rfl) (by simp) fun cx hn => ?_
 unfold eh at hm
 refine srs hn (by kernel_rfl) ?_
 simp -dsimp []
 refine ac ?_
 refine srs hn (by kernel_rfl) ?_
 obtain ⟨y, h1, hm⟩ := bnd hm
 simp -dsimp []
 refine ae (c_notation_Kind s y h1) (by rw [hn]; decide) ?_
 simp -dsimp
 refine srs hn (by kernel_rfl) ?_
 simp -dsimp
 refine ai ?_
 obtain ⟨a, j12, hm⟩ := bnd hm
 refine aw [(0, .u (.one (.d (.str (bs s))))), (2, .u (.one (.box 2 0))), (4, .u (.one (.d (.int .i64 y)))), (17, .u (.one (.d (.int .i64 y)))), (18, .u (.one (.d (.bool a))))] [(2, .box [.d (.int .i64 0), .d .nil, .d .nil])] (by rfl) (by rfl) ?_ fun ρ σ hf => ?_
 ·replace hm := j12
  clear j12
  refine srs hn (by kernel_rfl) ?_
  simp -dsimp
  rcases aj hm with ⟨c2, hm⟩ | ⟨c2, hm⟩
  ·refine a8 (b := (eqB y 1)) (by simp -dsimp) c2 ?_
   refine ab (a6 ?_)
   cases hm
   refine EE.here ?_
   simp -dsimp [c2]
  ·refine a7 (b := (eqB y 1)) (by simp -dsimp) c2 ?_
   refine sr1 hn (by kernel_rfl) ?_
   simp -dsimp [c2]
   refine a6 ?_
   cases hm
   refine EE.here ?_
   simp -dsimp
 ·clear j12
  simp only [Fits, am, ap, and_true] at hf
  rcases aj hm with ⟨c3, hm⟩ | ⟨c3, hm⟩
  ·refine a8 (b := a) (by simp -dsimp [hf]) c3 ?_
   refine srs hn (by kernel_rfl) ?_
   simp -dsimp
   refine ac ?_
   refine srs hn (by kernel_rfl) ?_
   simp -dsimp [hf]
   rcases aj hm with ⟨c4, hm⟩ | ⟨c4, hm⟩
   ·refine a8 (b := (eqB y 2)) (by simp -dsimp) c4 ?_
    refine sr1 hn (by kernel_rfl) ?_
    simp -dsimp [c4]
    refine a6 ?_
    refine srs hn (by kernel_rfl) ?_
    cases hm
   ·refine a7 (b := (eqB y 2)) (by simp -dsimp) c4 ?_
    refine ab (a6 ?_)
    refine srs hn (by kernel_rfl) ?_
    obtain ⟨y1, h5, hm⟩ := bnd hm
    simp -dsimp [hf, c4]
    refine ae (im s y1 h5) (by rw [hn]; decide) ?_
    simp -dsimp
    refine ac ?_
    refine srs hn (by kernel_rfl) ?_
    simp -dsimp
    rcases aj hm with ⟨c6, hm⟩ | ⟨c6, hm⟩
    ·refine a8 (b := (neB y1.2 0)) (by simp -dsimp) c6 ?_
     refine srs hn (by kernel_rfl) ?_
     simp -dsimp [hf, c6]
     refine aa (ag (aN (ag ?_)))
     cases hm
     refine ⟨.inr rfl, ?_⟩
     refine EE.here ?_
     simp -dsimp [hf]
    ·refine a7 (b := (neB y1.2 0)) (by simp -dsimp) c6 ?_
     refine ab (a6 ?_)
     refine srs hn (by kernel_rfl) ?_
     obtain ⟨y2, h7, hm⟩ := bnd hm
     simp -dsimp [c6]
     refine ae (c_totaltree_Totals y1.1 y2 h7) (by rw [hn]; decide) ?_
     simp -dsimp [hf]
     refine aa (aN (ag ?_))
     cases hm
     refine ⟨.inr rfl, ?_⟩
     refine EE.here ?_
     simp -dsimp [hf]
  ·refine a7 (b := a) (by simp -dsimp [hf]) c3 ?_
   obtain ⟨a1, j11, hm⟩ := bnd hm
   refine aw [(0, .u (.one (.d (.str (bs s))))), (2, .u (.one (.box 2 0))), (4, .u (.one (.d (.int .i64 y)))), (17, .u (.one (.d (.int .i64 y)))), (37, .u (.one (.d (.bool a1))))] [(2, .box [.d (.int .i64 0), .d .nil, .d .nil])] (by rfl) (by rfl) ?_ fun ρ σ hf => ?_
   ·replace hm := j11
    clear j11
    refine srs hn (by kernel_rfl) ?_
    simp -dsimp [hf]
    rcases aj hm with ⟨c8, hm⟩ | ⟨c8, hm⟩
    ·refine a8 (b := (eqB y 3)) (by simp -dsimp) c8 ?_
     refine ab (a6 ?_)
     cases hm
     refine EE.here ?_
     simp -dsimp [hf, c8]
    ·refine a7 (b := (eqB y 3)) (by simp -dsimp) c8 ?_
     refine sr1 hn (by kernel_rfl) ?_
     simp -dsimp [hf, c8]
     refine a6 ?_
     cases hm
     refine EE.here ?_
     simp -dsimp [hf]
   ·clear j11
    simp only [Fits, am, ap, and_true] at hf
    rcases aj hm with ⟨c9, hm⟩ | ⟨c9, hm⟩
    ·refine a8 (b := a1) (by simp -dsimp [hf]) c9 ?_
     refine srs hn (by kernel_rfl) ?_
     cases hm
    ·refine a7 (b := a1) (by simp -dsimp [hf]) c9 ?_
     refine srs hn (by kernel_rfl) ?_
     simp -dsimp [hf]
     rcases aj hm with ⟨c10, hm⟩ | ⟨c10, hm⟩
     ·refine a8 (b := (eqB y 5)) (by simp -dsimp) c10 ?_
      refine srs hn (by kernel_rfl) ?_
      cases hm
     ·refine a7 (b := (eqB y 5)) (by simp -dsimp) c10 ?_
      refine ab ?_
      refine aJ ?_
      refine a6 ?_
      refine srs hn (by kernel_rfl) ?_
      simp -dsimp [hf, c10]
      refine aa ?_
      cases hm
      refine ⟨.inr rfl, ?_⟩
      refine EE.here ?_
      simp -dsimp [hf]
theorem c_notation_Parse (s : List UInt8) (r : Tree × Int) (hm : eh s = some r) : PureCall Tryz.prog 17 [.u (.one (.d (.str (bs s))))] (.tup [.agg [.d (.int .i64 r.1.States), .d (.sl 2 (List.map Point.row r.1.Hood)), .d (.sl 2 (List.map Node.row r.1.Nodes))], .one (.d (.int .i64 r.2))]) := (f_notation_Parse s r hm).pureW
theorem f_L50_glider (r : Ship) (hm : gD = some r) : PFn Tryz.prog 18 [] (fun v => v.wk (.u (.agg [.d (.sl 3 (List.map Cell.row r.Cells)), .d (.int .i64 r.Motion.Period), .d (.int .i64 r.Motion.DX), .d (.int .i64 r.Motion.DY)]))) := by
 refine aX Tryz.func18 Tryz.ntmps18 rfl (by kernel_rfl) (by simp) fun cx hn => ?_
 unfold gD at hm
 refine srs hn (by kernel_rfl) ?_
 simp -dsimp []
 refine srs hn (by kernel_rfl) ?_
 simp -dsimp []
 refine aa ?_
 cases hm
 refine ⟨.inr rfl, ?_⟩
 refine EE.here ?_
 simp -dsimp
theorem c_L50_glider (r : Ship) (hm : gD = some r) : PureCall Tryz.prog 18 [] (.u (.agg [.d (.sl 3 (List.map Cell.row r.Cells)), .d (.int .i64 r.Motion.Period), .d (.int .i64 r.Motion.DX), .d (.int .i64 r.Motion.DY)])) := (f_L50_glider r hm).pureW
end Go.Proofs.YtfpjnmhdbgbmmaaGreatDoor
