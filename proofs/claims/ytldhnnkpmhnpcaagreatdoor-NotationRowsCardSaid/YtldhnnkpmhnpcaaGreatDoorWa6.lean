/- That the code does what the functions say (made by cc.py). -/
import Derived.Test.YtldhnnkpmhnpcaaGreatDoorWa5
namespace Go.Proofs.YtldhnnkpmhnpcaaGreatDoor
open Go.AM Go.Proofs
attribute [-simp] qlookup bv cb Ob.wipe Ob.ren Ob.frz1 cd
def H_totaltree_build_int_1_o_o_o_o_o_o_o_ox (rcv : (totaltree_place180 → (List Point) → (List Int) → (List (totaltree_place180 × Int)) → Int → (List (List UInt8 × Int)) → Int → (List Point) → (List Node) → Option (Int × (List (totaltree_place180 × Int)) × (List (List UInt8 × Int)) × (List Node)))) : Prop := ∀ (p : totaltree_place180) (a : List Point) (cv : List Int) (a1 : List (totaltree_place180 × Int)) (a2 : Int) (cv1 : List (List UInt8 × Int)) (cStates : Int) (cHood : List Point) (cNodes : List Node) (r : Int × (List (totaltree_place180 × Int)) × (List (List UInt8 × Int)) × (List Node)), rcv p a cv a1 a2 cv1 cStates cHood cNodes = some r → GFn Tryz.prog 138 [.u (.agg [.d (.int .i64 p.at_), .d (.int .i64 p.s)]), .u (.one (.box 1000000 0)), .u (.one (.box 1000001 0)), .u (.one (.box 1000003 0)), .u (.one (.box 1000005 0)), .u (.one (.box 1000006 0)), .u (.one (.box 1000007 0)), .u (.one (.box 1000008 0)), .u (.one (.box 1000010 0))] [.box [.d (.sl 2 (List.map Point.row a))], .box [.fn 82 [.box 1000002 0]], .box [.d (.sl 1 (List.map (rI .i64) cv))], .box [.map 1000004], mOb (.ints 2) totaltree_place180.key (uL (L.int .i64)) a1, .box [.d (.int .i64 a2)], .box [.fn 138 [.box 1000000 0, .box 1000001 0, .box 1000003 0, .box 1000005 0, .box 1000006 0, .box 1000007 0, .box 1000008 0, .box 1000010 0]], .box [.fn 81 []], .box [.map 1000009], mOb .str kS (uL (L.int .i64)) cv1, .box [.d (.int .i64 cStates), .d (.sl 2 (List.map Point.row cHood)), .own 1000011], .row 2 46 (List.map Node.row cNodes)] (.u (.one (.d (.int .i64 r.1)))) [some (.box [.d (.sl 2 (List.map Point.row a))]), some (.box [.fn 82 [.box 1000002 0]]), some (.box [.d (.sl 1 (List.map (rI .i64) cv))]), some (.box [.map 1000004]), some (mOb (.ints 2) totaltree_place180.key (uL (L.int .i64)) r.2.1), some (.box [.d (.int .i64 a2)]), some (.box [.fn 138 [.box 1000000 0, .box 1000001 0, .box 1000003 0, .box 1000005 0, .box 1000006 0, .box 1000007 0, .box 1000008 0, .box 1000010 0]]), some (.box [.fn 81 []]), some (.box [.map 1000009]), some (mOb .str kS (uL (L.int .i64)) r.2.2.1), some (.box [.d (.int .i64 cStates), .d (.sl 2 (List.map Point.row cHood)), .own 1000012]), none, some (.row 2 46 (List.map Node.row r.2.2.2))]
def F_totaltree_build_int_1_o_o_o_o_o_o_o_ox_1 (cx : Cx) (_rcv : (totaltree_place180 → (List Point) → (List Int) → (List (totaltree_place180 × Int)) → Int → (List (List UInt8 × Int)) → Int → (List Point) → (List Node) → Option (Int × (List (totaltree_place180 × Int)) × (List (List UInt8 × Int)) × (List Node)))) (p : totaltree_place180) (a : List Point) (cv : List Int) (a2 : Int) (cStates : Int) (cHood : List Point) (_u : Unit) (tt : ((List Node) × (List Int) × (List Int) × (List (totaltree_place180 × Int)) × (List (List UInt8 × Int)))) (ee : Exit) (ρ : Env) (σ : Sto) : Prop := match tt with
 | (l, keyv, l1, mp, mp1) => ee = .exit 0 ∧ EE cx (aK [(3, .u (.one (.box 1000003 0))), (7, .u (.one (.box 1000008 0))), (8, .u (.one (.box 1000010 0))), (9, .u (.one (.box 9 0))), (13, .u (.one (.box 13 0))), (14, .u (.one (.own 5003)))] [(9, .box [.d (.int .i64 p.at_), .d (.int .i64 p.s)]), (13, .box [.d (.int .i64 (aO .i64 (al a) p.at_)), .own 5004]), (5000, .row 2 46 (List.map Node.row l)), (5003, .row 1 5 (List.map (rI .u8) keyv)), (5004, .row 1 3 (List.map (rI .i64) l1)), (1000000, .box [.d (.sl 2 (List.map Point.row a))]), (1000001, .box [.fn 82 [.box 1000002 0]]), (1000002, .box [.d (.sl 1 (List.map (rI .i64) cv))]), (1000003, .box [.map 1000004]), (1000004, mOb (.ints 2) totaltree_place180.key (uL (L.int .i64)) mp), (1000005, .box [.d (.int .i64 a2)]), (1000006, .box [.fn 138 [.box 1000000 0, .box 1000001 0, .box 1000003 0, .box 1000005 0, .box 1000006 0, .box 1000007 0, .box 1000008 0, .box 1000010 0]]), (1000007, .box [.fn 81 []]), (1000008, .box [.map 1000009]), (1000009, mOb .str kS (uL (L.int .i64)) mp1), (1000010, .box [.d (.int .i64 cStates), .d (.sl 2 (List.map Point.row cHood)), .own 5000])]) ρ σ
set_option maxRecDepth 100000 in
theorem l_totaltree_build_int_1_o_o_o_o_o_o_o_ox_1 (cx : Cx) (hn : cx.n = 101) (_hk : cx.k = 12) (rcv : (totaltree_place180 → (List Point) → (List Int) → (List (totaltree_place180 × Int)) → Int → (List (List UInt8 × Int)) → Int → (List Point) → (List Node) → Option (Int × (List (totaltree_place180 × Int)) × (List (List UInt8 × Int)) × (List Node)))) (p : totaltree_place180) (a : List Point) (cv : List Int) (a2 : Int) (cStates : Int) (cHood : List Point) (u : Unit) (hrcv : H_totaltree_build_int_1_o_o_o_o_o_o_o_ox rcv) {fu : Nat} {stt : Int × (List Node) × (List Int) × (List Int) × (List (totaltree_place180 × Int)) × (List (List UInt8 × Int))} {tt : ((List Node) × (List Int) × (List Int) × (List (totaltree_place180 × Int)) × (List (List UInt8 × Int)))} (hh : ah (b_totaltree_build_int_1_o_o_o_o_o_o_o_ox_1 rcv p a cv a2 cStates cHood u) fu stt = some tt) {ρ : Env} {σ : Sto}
  (hE : aT (fun stt : Int × (List Node) × (List Int) × (List Int) × (List (totaltree_place180 × Int)) × (List (List UInt8 × Int)) => match stt with | (a3, _l, _keyv, _l1, _mp, _mp1) => [(3, .u (.one (.box 1000003 0))), (5, .u (.one (.box 1000006 0))), (6, .u (.one (.box 1000007 0))), (7, .u (.one (.box 1000008 0))), (8, .u (.one (.box 1000010 0))), (9, .u (.one (.box 9 0))), (13, .u (.one (.box 13 0))), (14, .u (.one (.own 5003))), (46, .u (.one (.d (.int .i64 a2)))), (47, .u (.one (.d (.int .i64 a3))))]) (fun stt : Int × (List Node) × (List Int) × (List Int) × (List (totaltree_place180 × Int)) × (List (List UInt8 × Int)) => match stt with | (_a3, l, keyv, l1, mp, mp1) => [(9, .box [.d (.int .i64 p.at_), .d (.int .i64 p.s)]), (13, .box [.d (.int .i64 (aO .i64 (al a) p.at_)), .own 5004]), (5000, .row 2 46 (List.map Node.row l)), (5003, .row 1 5 (List.map (rI .u8) keyv)), (5004, .row 1 3 (List.map (rI .i64) l1)), (1000000, .box [.d (.sl 2 (List.map Point.row a))]), (1000001, .box [.fn 82 [.box 1000002 0]]), (1000002, .box [.d (.sl 1 (List.map (rI .i64) cv))]), (1000003, .box [.map 1000004]), (1000004, mOb (.ints 2) totaltree_place180.key (uL (L.int .i64)) mp), (1000005, .box [.d (.int .i64 a2)]), (1000006, .box [.fn 138 [.box 1000000 0, .box 1000001 0, .box 1000003 0, .box 1000005 0, .box 1000006 0, .box 1000007 0, .box 1000008 0, .box 1000010 0]]), (1000007, .box [.fn 81 []]), (1000008, .box [.map 1000009]), (1000009, mOb .str kS (uL (L.int .i64)) mp1), (1000010, .box [.d (.int .i64 cStates), .d (.sl 2 (List.map Point.row cHood)), .own 5000])]) stt ρ σ) : Swp Tryz.prog cx (.loop (bi [1, 1, 1, 1, 1, 0, 1, 0, 0] (aG Tryz.f138))) ρ σ (F_totaltree_build_int_1_o_o_o_o_o_o_o_ox_1 cx rcv p a cv a2 cStates cHood u tt) := by
 refine b3 hE hh (F_totaltree_build_int_1_o_o_o_o_o_o_o_ox_1 cx rcv p a cv a2 cStates cHood u) ?_
 rintro ⟨a3, l, keyv, l1, mp, mp1⟩ r hm ρ σ hf
 simp only [Fits, ar, ap, and_true] at hf
 unfold b_totaltree_build_int_1_o_o_o_o_o_o_o_ox_1 at hm
 dsimp only at hm
 refine srs hn ?_
 simp -dsimp [hf]
 refine ae ?_
 rcases aj hm with ⟨c5, hm⟩ | ⟨c5, hm⟩
 ·refine a8 (by simp -dsimp) c5 ?_
  refine ac (a6 (ae (ai ?_)))
  refine srs hn ?_
  simp -dsimp [hf, c5]
  refine eg aM mixed 12 (by rw [hn]; kernel_rfl) ?_
  dsimp only [List.take, List.drop]
  obtain ⟨y, h6, hm⟩ := bnd hm
  simp -dsimp [hf]
  refine aD (c_totaltree_Sums_1 p.s p.at_ a3 y h6) ?_
  obtain ⟨y1, h7, hm⟩ := bnd hm
  simp -dsimp
  refine aY (hrcv (⟨(aZ .i64 p.at_ 1), y⟩ : totaltree_place180) a cv mp a2 mp1 cStates cHood l y1 h7) [1000000, 1000001, 1000002, 1000003, 1000004, 1000005, 1000006, 1000007, 1000008, 1000009, 1000010, 5000] [5001] rfl rfl rfl (by simp -dsimp) rfl (by simp -dsimp [hf]) (by first | rfl | simp) rfl (dkL hn) ?_
  simp -dsimp
  refine srs hn ?_
  obtain ⟨l2, h8, hm⟩ := bnd hm
  obtain ⟨h8a, h8e⟩ := aB h8
  replace h8e := h8e.symm
  subst h8e
  try simp only [List.length_cons, List.length_nil, Nat.zero_add] at h8a
  simp -dsimp [hf, h8a]
  refine sr1 hn ?_
  obtain ⟨l3, h9, hm⟩ := bnd hm
  obtain ⟨h9a, h9e⟩ := aB h9
  replace h9e := h9e.symm
  subst h9e
  try simp only [List.length_cons, List.length_nil, Nat.zero_add] at h9a
  try simp only [Nat.mul_one, Nat.reduceLeDiff] at h9a
  obtain ⟨y2, h10, hm⟩ := bnd hm
  simp -dsimp [hf, h9a]
  refine aY (bd (keyv ++ [32]) y1.1 10 y2 h10) [71] [5002] rfl rfl rfl (by simp -dsimp) rfl (by simp -dsimp) (by first | rfl | simp) rfl (dkL hn) ?_
  simp -dsimp
  refine aC ?_
  refine a6 ?_
  refine sr1 hn ?_
  simp -dsimp [hf]
  cases hm
  refine ax ?_
  refine EE.step (Wk.move 5002 5003 (by decide) (.inl (by decide))) ?_
  refine EE.step (Wk.move 67 5004 (by decide) (.inl (by decide))) ?_
  refine EE.step (Wk.move 5001 5000 (by decide) (.inl (by decide))) ?_
  exact EE.here (by simp -dsimp [hf])
 ·refine a7 (by simp -dsimp) c5 ?_
  refine au ?_
  refine ag ?_
  cases hm
  refine aw nofun ?_
  unfold F_totaltree_build_int_1_o_o_o_o_o_o_o_ox_1
  dsimp only
  refine ⟨rfl, ?_⟩
  exact EE.here (by simp -dsimp [hf, c5])
theorem fb_totaltree_build_int_1_o_o_o_o_o_o_o_ox (rcv : (totaltree_place180 → (List Point) → (List Int) → (List (totaltree_place180 × Int)) → Int → (List (List UInt8 × Int)) → Int → (List Point) → (List Node) → Option (Int × (List (totaltree_place180 × Int)) × (List (List UInt8 × Int)) × (List Node)))) (hrcv : H_totaltree_build_int_1_o_o_o_o_o_o_o_ox rcv) (p : totaltree_place180) (a : List Point) (cv : List Int) (a1 : List (totaltree_place180 × Int)) (a2 : Int) (cv1 : List (List UInt8 × Int)) (cStates : Int) (cHood : List Point) (cNodes : List Node) (r : Int × (List (totaltree_place180 × Int)) × (List (List UInt8 × Int)) × (List Node)) (hm : mb_totaltree_build_int_1_o_o_o_o_o_o_o_ox rcv p a cv a1 a2 cv1 cStates cHood cNodes = some r) : GFn Tryz.prog 138 [.u (.agg [.d (.int .i64 p.at_), .d (.int .i64 p.s)]), .u (.one (.box 1000000 0)), .u (.one (.box 1000001 0)), .u (.one (.box 1000003 0)), .u (.one (.box 1000005 0)), .u (.one (.box 1000006 0)), .u (.one (.box 1000007 0)), .u (.one (.box 1000008 0)), .u (.one (.box 1000010 0))] [.box [.d (.sl 2 (List.map Point.row a))], .box [.fn 82 [.box 1000002 0]], .box [.d (.sl 1 (List.map (rI .i64) cv))], .box [.map 1000004], mOb (.ints 2) totaltree_place180.key (uL (L.int .i64)) a1, .box [.d (.int .i64 a2)], .box [.fn 138 [.box 1000000 0, .box 1000001 0, .box 1000003 0, .box 1000005 0, .box 1000006 0, .box 1000007 0, .box 1000008 0, .box 1000010 0]], .box [.fn 81 []], .box [.map 1000009], mOb .str kS (uL (L.int .i64)) cv1, .box [.d (.int .i64 cStates), .d (.sl 2 (List.map Point.row cHood)), .own 1000011], .row 2 46 (List.map Node.row cNodes)] (.u (.one (.d (.int .i64 r.1)))) [some (.box [.d (.sl 2 (List.map Point.row a))]), some (.box [.fn 82 [.box 1000002 0]]), some (.box [.d (.sl 1 (List.map (rI .i64) cv))]), some (.box [.map 1000004]), some (mOb (.ints 2) totaltree_place180.key (uL (L.int .i64)) r.2.1), some (.box [.d (.int .i64 a2)]), some (.box [.fn 138 [.box 1000000 0, .box 1000001 0, .box 1000003 0, .box 1000005 0, .box 1000006 0, .box 1000007 0, .box 1000008 0, .box 1000010 0]]), some (.box [.fn 81 []]), some (.box [.map 1000009]), some (mOb .str kS (uL (L.int .i64)) r.2.2.1), some (.box [.d (.int .i64 cStates), .d (.sl 2 (List.map Point.row cHood)), .own 1000012]), none, some (.row 2 46 (List.map Node.row r.2.2.2))] := by
 refine bf aM _ Tryz.func138 rfl (by kernel_rfl) (by simp [Tryz.ntmps138]) (by simp) (by first | rfl | simp) (by first | rfl | simp) fun cx hn hk => ?_
 replace hn : cx.n = 101 := hn.trans Tryz.ntmps138
 replace hk : cx.k = 12 := hk
 unfold mb_totaltree_build_int_1_o_o_o_o_o_o_o_ox at hm
 refine srs hn ?_
 simp -dsimp
 refine ae ?_
 refine srs hn ?_
 simp -dsimp
 rcases aj hm with ⟨c1, hm⟩ | ⟨c1, hm⟩
 ·refine a8 (by simp -dsimp) c1 ?_
  refine srs hn ?_
  obtain ⟨y, h2, hm⟩ := bnd hm
  simp -dsimp [c1]
  refine du (us' := [.u (.one (.d (.int .i64 p.s))), .u (.one (.ref ((rS 1 (rI .i64)) cv) 0))]) (c_totaltree_Sums_2 p.s cv y h2) (by simp -dsimp) rfl (dkL hn) ?_
  simp -dsimp
  refine ab (ag ?_)
  cases hm
  refine ⟨.inr rfl, ?_⟩
  refine EE.step (Wk.move 1000011 1000012 (by decide) (.inr (by rw [hk]; decide))) ?_
  exact EE.here (by simp -dsimp)
 ·refine a7 (by simp -dsimp) c1 ?_
  refine ac (a6 (ae ?_))
  refine srs hn ?_
  obtain ⟨u, h3, hm⟩ := bnd hm
  simp -dsimp [c1, bM h3 (.head _), bM h3 (.tail _ (.head _)), (@id (lkM (db (mOb (.ints 2) totaltree_place180.key (uL (L.int .i64)) a1) (.ints [p.at_, p.s])) true (.one (.d (.int .i64 0))) = some (.tup [.one (.d (.int .i64 (cN a1 p 0))), .one (.d (.bool (bh a1 p)))])) (lk_two p 0))]
  refine srs hn ?_
  simp -dsimp
  rcases aj hm with ⟨c4, hm⟩ | ⟨c4, hm⟩
  ·refine a8 (b := (bh a1 p)) (by simp -dsimp) c4 ?_
   refine srs hn ?_
   simp -dsimp [c4]
   refine ab (ag ?_)
   cases hm
   refine ⟨.inr rfl, ?_⟩
   refine EE.step (Wk.move 1000011 1000012 (by decide) (.inr (by rw [hk]; decide))) ?_
   exact EE.here (by simp -dsimp)
  ·refine a7 (b := (bh a1 p)) (by simp -dsimp) c4 ?_
   refine ac (a6 ?_)
   refine srs hn ?_
   simp -dsimp [c4]
   refine sw_regBs aM 3 (by rw [hn]; kernel_rfl) ?_
   dsimp only [List.take, List.drop]
   simp -dsimp
   refine ae ?_
   refine srs hn ?_
   simp -dsimp
   refine ai ?_
   obtain ⟨⟨l, keyv, l1, mp, mp1⟩, g11, hm⟩ := bnd hm
   refine aF (l_totaltree_build_int_1_o_o_o_o_o_o_o_ox_1 cx hn hk rcv p a cv a2 cStates cHood u hrcv g11) (by
     try dsimp only
     refine EE.step (Wk.move 45 5003 (by decide) (.inl (by decide))) ?_
     refine EE.step (Wk.move 1000011 5000 (by decide) (.inl (by decide))) ?_
     refine EE.step (Wk.own0b 13 1 5004 1 3 [.d (.int .i64 (aO .i64 (al a) p.at_)), .d .nil] (by simp -dsimp) (by rfl) (by decide) (by decide)) ?_
     exact EE.here (by simp -dsimp)
   ) fun ee ρ σ x12 => ?_
   unfold F_totaltree_build_int_1_o_o_o_o_o_o_o_ox_1 at x12
   dsimp only at x12
   obtain ⟨rfl, x12⟩ := x12
   refine av ?_
   refine a6 ?_
   refine aV (by rfl) (by rfl) x12 fun ρ σ hf => ?_
   simp only [Fits, ar, ap, and_true] at hf
   refine srs hn ?_
   obtain ⟨u1, h13, hm⟩ := bnd hm
   simp -dsimp [hf, ca h13, (@id (lkM (db (mOb .str kS (uL (L.int .i64)) mp1) (.str (ofBytes keyv))) true (.one (.d (.int .i64 0))) = some (.tup [.one (.d (.int .i64 (cN mp1 (ofBytes keyv) 0))), .one (.d (.bool (bh mp1 (ofBytes keyv))))])) (lk_two (ofBytes keyv) 0))]
   obtain ⟨⟨idv, mp2, l2⟩, j16, hm⟩ := bnd hm
   refine am [(3, .u (.one (.box 1000003 0))), (9, .u (.one (.box 9 0))), (17, .u (.one (.d (.int .i64 idv))))] [(9, .box [.d (.int .i64 p.at_), .d (.int .i64 p.s)]), (5000, .row 2 46 (List.map Node.row l2)), (1000000, .box [.d (.sl 2 (List.map Point.row a))]), (1000001, .box [.fn 82 [.box 1000002 0]]), (1000002, .box [.d (.sl 1 (List.map (rI .i64) cv))]), (1000003, .box [.map 1000004]), (1000004, mOb (.ints 2) totaltree_place180.key (uL (L.int .i64)) mp), (1000005, .box [.d (.int .i64 a2)]), (1000006, .box [.fn 138 [.box 1000000 0, .box 1000001 0, .box 1000003 0, .box 1000005 0, .box 1000006 0, .box 1000007 0, .box 1000008 0, .box 1000010 0]]), (1000007, .box [.fn 81 []]), (1000008, .box [.map 1000009]), (1000009, mOb .str kS (uL (L.int .i64)) mp2), (1000010, .box [.d (.int .i64 cStates), .d (.sl 2 (List.map Point.row cHood)), .own 5000])] (by rfl) (by rfl) ?_ fun ρ σ hf => ?_
   ·replace hm := j16
    clear j16
    refine srs hn ?_
    simp -dsimp
    rcases aj hm with ⟨c14, hm⟩ | ⟨c14, hm⟩
    ·refine a8 (b := (b9 (bh mp1 (ofBytes keyv)))) (by simp -dsimp) c14 ?_
     refine srs hn ?_
     simp -dsimp [hf, c14]
     refine Swp.pre (Wk.frz 5004 1 3 (List.map (rI .i64) l1) (by simp -dsimp [hf])) ?_
     refine srs hn ?_
     obtain ⟨l2, h15, hm⟩ := bnd hm
     obtain ⟨h15a, h15e⟩ := aB h15
     replace h15e := h15e.symm
     subst h15e
     try simp only [List.length_cons, List.length_nil, Nat.zero_add] at h15a
     simp -dsimp [hf, h15a]
     refine sr1 hn ?_
     simp -dsimp [hf, ca h13, (@id (dy (mOb .str kS (uL (L.int .i64)) mp1) (.str (ofBytes keyv)) (.one (.d (.int .i64 (al l)))) = mOb .str kS (uL (L.int .i64)) (cH mp1 (ofBytes keyv) (al l))) (dO .str kS (uL (L.int .i64)) mp1 (ofBytes keyv) (al l)))]
     refine a6 ?_
     cases hm
     refine EE.step (Wk.move 91 5000 (by decide) (.inl (by decide))) ?_
     exact EE.here (by simp -dsimp [hf])
    ·refine a7 (b := (b9 (bh mp1 (ofBytes keyv)))) (by simp -dsimp) c14 ?_
     refine ac (a6 ?_)
     cases hm
     exact EE.here (by simp -dsimp [hf, c14])
   ·clear j16
    simp only [Fits, ar, ap, and_true] at hf
    refine srs hn ?_
    simp -dsimp [hf, bM h3 (.head _), bM h3 (.tail _ (.head _)), (@id (dy (mOb (.ints 2) totaltree_place180.key (uL (L.int .i64)) mp) (.ints [p.at_, p.s]) (.one (.d (.int .i64 idv))) = mOb (.ints 2) totaltree_place180.key (uL (L.int .i64)) (cH mp p idv)) (dO (.ints 2) totaltree_place180.key (uL (L.int .i64)) mp p idv))]
    refine srs hn ?_
    simp -dsimp [hf]
    refine ab ?_
    cases hm
    refine ⟨.inr rfl, ?_⟩
    refine EE.step (Wk.move 5000 1000012 (by decide) (.inr (by rw [hk]; decide))) ?_
    exact EE.here (by simp -dsimp [hf])
set_option maxRecDepth 100000 in
theorem g_totaltree_build_int_1_o_o_o_o_o_o_o_ox (p : totaltree_place180) (a : List Point) (cv : List Int) (a1 : List (totaltree_place180 × Int)) (a2 : Int) (cv1 : List (List UInt8 × Int)) (cStates : Int) (cHood : List Point) (cNodes : List Node) (r : Int × (List (totaltree_place180 × Int)) × (List (List UInt8 × Int)) × (List Node)) (hm : m_totaltree_build_int_1_o_o_o_o_o_o_o_ox p a cv a1 a2 cv1 cStates cHood cNodes = some r) : GFn Tryz.prog 138 [.u (.agg [.d (.int .i64 p.at_), .d (.int .i64 p.s)]), .u (.one (.box 1000000 0)), .u (.one (.box 1000001 0)), .u (.one (.box 1000003 0)), .u (.one (.box 1000005 0)), .u (.one (.box 1000006 0)), .u (.one (.box 1000007 0)), .u (.one (.box 1000008 0)), .u (.one (.box 1000010 0))] [.box [.d (.sl 2 (List.map Point.row a))], .box [.fn 82 [.box 1000002 0]], .box [.d (.sl 1 (List.map (rI .i64) cv))], .box [.map 1000004], mOb (.ints 2) totaltree_place180.key (uL (L.int .i64)) a1, .box [.d (.int .i64 a2)], .box [.fn 138 [.box 1000000 0, .box 1000001 0, .box 1000003 0, .box 1000005 0, .box 1000006 0, .box 1000007 0, .box 1000008 0, .box 1000010 0]], .box [.fn 81 []], .box [.map 1000009], mOb .str kS (uL (L.int .i64)) cv1, .box [.d (.int .i64 cStates), .d (.sl 2 (List.map Point.row cHood)), .own 1000011], .row 2 46 (List.map Node.row cNodes)] (.u (.one (.d (.int .i64 r.1)))) [some (.box [.d (.sl 2 (List.map Point.row a))]), some (.box [.fn 82 [.box 1000002 0]]), some (.box [.d (.sl 1 (List.map (rI .i64) cv))]), some (.box [.map 1000004]), some (mOb (.ints 2) totaltree_place180.key (uL (L.int .i64)) r.2.1), some (.box [.d (.int .i64 a2)]), some (.box [.fn 138 [.box 1000000 0, .box 1000001 0, .box 1000003 0, .box 1000005 0, .box 1000006 0, .box 1000007 0, .box 1000008 0, .box 1000010 0]]), some (.box [.fn 81 []]), some (.box [.map 1000009]), some (mOb .str kS (uL (L.int .i64)) r.2.2.1), some (.box [.d (.int .i64 cStates), .d (.sl 2 (List.map Point.row cHood)), .own 1000012]), none, some (.row 2 46 (List.map Node.row r.2.2.2))] := recN_ind H_totaltree_build_int_1_o_o_o_o_o_o_o_ox (by intro _; intro _; intro _; intro _; intro _; intro _; intro _; intro _; intro _; intro _; intro hm; cases hm) fb_totaltree_build_int_1_o_o_o_o_o_o_o_ox recF p a cv a1 a2 cv1 cStates cHood cNodes r hm
theorem g_totaltree_build_int_totaltree_Sums_1_totaltree_Sums_2_o (states : Int) (l : List Point) (start : Int) (cv : List Int) (r : List Node) (hm : m_totaltree_build_int_totaltree_Sums_1_totaltree_Sums_2_o states l start cv = some r) : GFn Tryz.prog 77 [.u (.one (.d (.int .i64 states))), .u (.one (.d (.sl 2 (List.map Point.row l)))), .u (.one (.d (.int .i64 start))), .u (.one (.fn 81 [])), .u (.one (.fn 82 [.box 1000000 0]))] [.box [.d (.sl 1 (List.map (rI .i64) cv))]] (.u (.agg [.d (.int .i64 states), .d (.sl 2 (List.map Point.row l)), .d (.sl 2 (List.map Node.row r))])) [some (.box [.d (.sl 1 (List.map (rI .i64) cv))])] := by
 refine bf aM _ Tryz.func77 rfl (by kernel_rfl) (by simp [Tryz.ntmps77]) (by simp) (by first | rfl | simp) (by first | rfl | simp) fun cx hn hk => ?_
 replace hn : cx.n = 26 := hn.trans Tryz.ntmps77
 replace hk : cx.k = 1 := hk
 unfold m_totaltree_build_int_totaltree_Sums_1_totaltree_Sums_2_o at hm
 refine srs hn ?_
 simp -dsimp
 refine srs hn ?_
 simp -dsimp
 refine srs hn ?_
 simp -dsimp [(@id (Ob.map (.ints 2) [] = mOb (.ints 2) totaltree_place180.key (uL (L.int .i64)) ([] : List (totaltree_place180 × Int))) (dh (.ints 2) totaltree_place180.key (uL (L.int .i64))))]
 refine srs hn ?_
 simp -dsimp [(@id (Ob.map .str [] = mOb .str kS (uL (L.int .i64)) ([] : List (List UInt8 × Int))) (dh .str kS (uL (L.int .i64))))]
 refine srs hn ?_
 simp -dsimp
 refine srs hn ?_
 simp -dsimp
 refine Swp.pre (Wk.own0b 10 2 5000 2 46 [.d (.int .i64 0), .d .nil, .d .nil] (by simp -dsimp) (by rfl) (by decide) (by decide)) ?_
 refine Swp.pre (Wk.own0b 11 2 5001 2 46 [.d (.int .i64 states), .d (.sl 2 (List.map Point.row l)), .d .nil] (by simp -dsimp) (by rfl) (by decide) (by decide)) ?_
 refine srs hn ?_
 obtain ⟨y, h1, hm⟩ := bnd hm
 simp -dsimp
 refine aY (g_totaltree_build_int_1_o_o_o_o_o_o_o_ox (⟨0, start⟩ : totaltree_place180) l cv [] states [] states l [] y h1) [6, 9, 1000000, 12, 18, 5, 14, 8, 13, 19, 11, 5001] [5002] rfl rfl rfl (by simp -dsimp) rfl (by simp -dsimp) (by first | rfl | simp) rfl (dkL hn) ?_
 simp -dsimp
 refine Swp.pre (Wk.frz 5002 2 46 (List.map Node.row y.2.2.2) (by simp -dsimp)) ?_
 refine srs hn ?_
 simp -dsimp
 refine ab ?_
 cases hm
 refine ⟨.inr rfl, ?_⟩
 exact EE.here (by simp -dsimp)
theorem f_totaltree_Sums (states : Int) (n : Int) (r : Tree × Int) (hm : m_totaltree_Sums states n = some r) : PFn Tryz.prog 29 [.u (.one (.d (.int .i64 states))), .u (.one (.d (.int .i64 n)))] (fun v => v.wk (.tup [.agg [.d (.int .i64 r.1.States), .d (.sl 2 (List.map Point.row r.1.Hood)), .d (.sl 2 (List.map Node.row r.1.Nodes))], .one (.d (.int .i64 r.2))])) := by
 refine aH Tryz.func29 Tryz.ntmps29 rfl (by kernel_rfl) (by simp) fun cx hn => ?_
 unfold m_totaltree_Sums at hm
 refine srs hn ?_
 simp -dsimp
 refine srs hn ?_
 obtain ⟨y, h1, hm⟩ := bnd hm
 simp -dsimp
 refine aa (dX states n y h1) (dkL hn) ?_
 simp -dsimp
 refine ae ?_
 refine srs hn ?_
 simp -dsimp
 rcases aj hm with ⟨c2, hm⟩ | ⟨c2, hm⟩
 ·refine a8 (by simp -dsimp) c2 ?_
  refine srs hn ?_
  simp -dsimp [c2]
  refine ab (ag ?_)
  cases hm
  refine ⟨.inr rfl, ?_⟩
  exact EE.here (by simp -dsimp)
 ·refine a7 (by simp -dsimp) c2 ?_
  refine ac (a6 ?_)
  refine srs hn ?_
  obtain ⟨y1, h3, hm⟩ := bnd hm
  simp -dsimp [c2]
  refine aa (c_totaltree_row y1 h3) (dkL hn) ?_
  obtain ⟨y2, h4, hm⟩ := bnd hm
  simp -dsimp
  refine aY (g_totaltree_build_int_totaltree_Sums_1_totaltree_Sums_2_o states y1 0 y.1 y2 h4) [6] [] rfl rfl rfl (by simp -dsimp) rfl (by simp -dsimp) (by first | rfl | simp) rfl (dkL hn) ?_
  simp -dsimp
  refine ab ?_
  cases hm
  refine ⟨.inr rfl, ?_⟩
  exact EE.here (by simp -dsimp)
theorem c_totaltree_Sums (states : Int) (n : Int) (r : Tree × Int) (hm : m_totaltree_Sums states n = some r) : PureCall Tryz.prog 29 [.u (.one (.d (.int .i64 states))), .u (.one (.d (.int .i64 n)))] (.tup [.agg [.d (.int .i64 r.1.States), .d (.sl 2 (List.map Point.row r.1.Hood)), .d (.sl 2 (List.map Node.row r.1.Nodes))], .one (.d (.int .i64 r.2))]) := (f_totaltree_Sums states n r hm).pureW
set_option maxRecDepth 100000 in
theorem f_notation_Parse (s : List UInt8) (r : Tree × Int) (hm : m_notation_Parse s = some r) : PFn Tryz.prog 11 [.u (.one (.d (.str (bs s))))] (fun v => v.wk (.tup [.agg [.d (.int .i64 r.1.States), .d (.sl 2 (List.map Point.row r.1.Hood)), .d (.sl 2 (List.map Node.row r.1.Nodes))], .one (.d (.int .i64 r.2))])) := by
 refine aH Tryz.func11 Tryz.ntmps11 rfl (by kernel_rfl) (by simp) fun cx hn => ?_
 unfold m_notation_Parse at hm
 refine srs hn ?_
 simp -dsimp
 refine ae ?_
 refine srs hn ?_
 obtain ⟨y, h1, hm⟩ := bnd hm
 simp -dsimp
 refine aa (bc s y h1) (dkL hn) ?_
 simp -dsimp
 refine srs hn ?_
 simp -dsimp
 refine ai ?_
 obtain ⟨a, j20, hm⟩ := bnd hm
 refine am [(0, .u (.one (.d (.str (bs s))))), (2, .u (.one (.box 2 0))), (4, .u (.one (.d (.int .i64 y)))), (17, .u (.one (.d (.int .i64 y)))), (18, .u (.one (.d (.bool a))))] [(2, .box [.d (.int .i64 0), .d .nil, .d .nil])] (by rfl) (by rfl) ?_ fun ρ σ hf => ?_
 ·replace hm := j20
  clear j20
  refine srs hn ?_
  simp -dsimp
  rcases aj hm with ⟨c2, hm⟩ | ⟨c2, hm⟩
  ·refine a8 (by simp -dsimp) c2 ?_
   refine ac (a6 ?_)
   cases hm
   exact EE.here (by simp -dsimp [c2])
  ·refine a7 (by simp -dsimp) c2 ?_
   refine sr1 hn ?_
   simp -dsimp [c2]
   refine a6 ?_
   cases hm
   exact EE.here (by simp -dsimp)
 ·clear j20
  simp only [Fits, ar, ap, and_true] at hf
  rcases aj hm with ⟨c3, hm⟩ | ⟨c3, hm⟩
  ·refine a8 (by simp -dsimp [hf]) c3 ?_
   refine srs hn ?_
   simp -dsimp
   refine ae ?_
   refine srs hn ?_
   simp -dsimp [hf]
   rcases aj hm with ⟨c4, hm⟩ | ⟨c4, hm⟩
   ·refine a8 (by simp -dsimp) c4 ?_
    refine sr1 hn ?_
    simp -dsimp [c4]
    refine a6 ?_
    refine srs hn ?_
    obtain ⟨y1, h5, hm⟩ := bnd hm
    simp -dsimp [hf]
    refine aa (bU s y1 h5) (dkL hn) ?_
    simp -dsimp
    refine ae ?_
    refine srs hn ?_
    simp -dsimp
    rcases aj hm with ⟨c6, hm⟩ | ⟨c6, hm⟩
    ·refine a8 (by simp -dsimp) c6 ?_
     refine srs hn ?_
     simp -dsimp [hf, c6]
     refine ab (ag (aL (ag ?_)))
     cases hm
     refine ⟨.inr rfl, ?_⟩
     exact EE.here (by simp -dsimp [hf])
    ·refine a7 (by simp -dsimp) c6 ?_
     refine ac (a6 ?_)
     refine srs hn ?_
     obtain ⟨y2, h7, hm⟩ := bnd hm
     simp -dsimp [c6]
     refine aa (c_totaltree_Totals y1.1 y2 h7) (dkL hn) ?_
     simp -dsimp [hf]
     refine ab (aL (ag ?_))
     cases hm
     refine ⟨.inr rfl, ?_⟩
     exact EE.here (by simp -dsimp [hf])
   ·refine a7 (by simp -dsimp) c4 ?_
    refine ac (a6 ?_)
    refine srs hn ?_
    obtain ⟨y1, h8, hm⟩ := bnd hm
    simp -dsimp [hf, c4]
    refine aa (cU s y1 h8) (dkL hn) ?_
    simp -dsimp
    refine ae ?_
    refine srs hn ?_
    simp -dsimp
    rcases aj hm with ⟨c9, hm⟩ | ⟨c9, hm⟩
    ·refine a8 (by simp -dsimp) c9 ?_
     refine srs hn ?_
     simp -dsimp [hf, c9]
     refine ab (ag (aL (ag ?_)))
     cases hm
     refine ⟨.inr rfl, ?_⟩
     exact EE.here (by simp -dsimp [hf])
    ·refine a7 (by simp -dsimp) c9 ?_
     refine ac (a6 ?_)
     refine srs hn ?_
     obtain ⟨y2, h10, hm⟩ := bnd hm
     simp -dsimp [c9]
     refine aa (c_totaltree_Totals y1.1 y2 h10) (dkL hn) ?_
     simp -dsimp [hf]
     refine ab (aL (ag ?_))
     cases hm
     refine ⟨.inr rfl, ?_⟩
     exact EE.here (by simp -dsimp [hf])
  ·refine a7 (by simp -dsimp [hf]) c3 ?_
   obtain ⟨a1, j19, hm⟩ := bnd hm
   refine am [(0, .u (.one (.d (.str (bs s))))), (2, .u (.one (.box 2 0))), (4, .u (.one (.d (.int .i64 y)))), (17, .u (.one (.d (.int .i64 y)))), (37, .u (.one (.d (.bool a1))))] [(2, .box [.d (.int .i64 0), .d .nil, .d .nil])] (by rfl) (by rfl) ?_ fun ρ σ hf => ?_
   ·replace hm := j19
    clear j19
    refine srs hn ?_
    simp -dsimp [hf]
    rcases aj hm with ⟨c11, hm⟩ | ⟨c11, hm⟩
    ·refine a8 (by simp -dsimp) c11 ?_
     refine ac (a6 ?_)
     cases hm
     exact EE.here (by simp -dsimp [hf, c11])
    ·refine a7 (by simp -dsimp) c11 ?_
     refine sr1 hn ?_
     simp -dsimp [hf, c11]
     refine a6 ?_
     cases hm
     exact EE.here (by simp -dsimp [hf])
   ·clear j19
    simp only [Fits, ar, ap, and_true] at hf
    rcases aj hm with ⟨c12, hm⟩ | ⟨c12, hm⟩
    ·refine a8 (by simp -dsimp [hf]) c12 ?_
     refine srs hn ?_
     obtain ⟨y1, h13, hm⟩ := bnd hm
     simp -dsimp [hf]
     refine aa (da s y1 h13) (dkL hn) ?_
     simp -dsimp
     refine ae ?_
     refine srs hn ?_
     simp -dsimp
     rcases aj hm with ⟨c14, hm⟩ | ⟨c14, hm⟩
     ·refine a8 (by simp -dsimp) c14 ?_
      refine srs hn ?_
      simp -dsimp [hf, c14]
      refine ab (ag (aL (ag ?_)))
      cases hm
      refine ⟨.inr rfl, ?_⟩
      exact EE.here (by simp -dsimp [hf])
     ·refine a7 (by simp -dsimp) c14 ?_
      refine ac (a6 (ae ?_))
      refine srs hn ?_
      simp -dsimp [hf, c14]
      rcases aj hm with ⟨c15, hm⟩ | ⟨c15, hm⟩
      ·refine a8 (by simp -dsimp) c15 ?_
       refine srs hn ?_
       obtain ⟨y2, h16, hm⟩ := bnd hm
       simp -dsimp [c15]
       refine aa (c_totaltree_Elementary y1.2.1 y2 h16) (dkL hn) ?_
       simp -dsimp [hf]
       refine ab (ag (aL (ag ?_)))
       cases hm
       refine ⟨.inr rfl, ?_⟩
       exact EE.here (by simp -dsimp [hf])
      ·refine a7 (by simp -dsimp) c15 ?_
       refine ac (a6 ?_)
       refine srs hn ?_
       obtain ⟨y2, h17, hm⟩ := bnd hm
       simp -dsimp [c15]
       refine aa (c_totaltree_Sums y1.1 y1.2.1 y2 h17) (dkL hn) ?_
       simp -dsimp [hf]
       refine ab (aL (ag ?_))
       cases hm
       refine ⟨.inr rfl, ?_⟩
       exact EE.here (by simp -dsimp [hf])
    ·refine a7 (by simp -dsimp [hf]) c12 ?_
     refine srs hn ?_
     simp -dsimp [hf]
     rcases aj hm with ⟨c18, hm⟩ | ⟨c18, hm⟩
     ·refine a8 (by simp -dsimp) c18 ?_
      refine srs hn ?_
      cases hm
     ·refine a7 (by simp -dsimp) c18 ?_
      refine ac ?_
      refine aC ?_
      refine a6 ?_
      refine srs hn ?_
      simp -dsimp [hf, c18]
      refine ab ?_
      cases hm
      refine ⟨.inr rfl, ?_⟩
      exact EE.here (by simp -dsimp [hf])
theorem c_notation_Parse (s : List UInt8) (r : Tree × Int) (hm : m_notation_Parse s = some r) : PureCall Tryz.prog 11 [.u (.one (.d (.str (bs s))))] (.tup [.agg [.d (.int .i64 r.1.States), .d (.sl 2 (List.map Point.row r.1.Hood)), .d (.sl 2 (List.map Node.row r.1.Nodes))], .one (.d (.int .i64 r.2))]) := (f_notation_Parse s r hm).pureW
theorem f_wolfram_Number_1 (s : Int) (r : Bool) (hm : m_wolfram_Number_1 s = some r) : PFn Tryz.prog 89 [.u (.one (.d (.int .i64 s)))] (fun v => v.wk (.u (.one (.d (.bool r))))) := by
 refine aH Tryz.func89 Tryz.ntmps89 rfl (by kernel_rfl) (by simp) fun cx hn => ?_
 unfold m_wolfram_Number_1 at hm
 refine srs hn ?_
 simp -dsimp
 obtain ⟨a, j2, hm⟩ := bnd hm
 refine am [(2, .u (.one (.d (.bool a))))] [] (by rfl) (by rfl) ?_ fun ρ σ hf => ?_
 ·replace hm := j2
  clear j2
  refine sr1 hn ?_
  rcases aj hm with ⟨c1, hm⟩ | ⟨c1, hm⟩
  ·simp -dsimp [c1]
   refine a6 ?_
   cases hm
   exact EE.here (by simp -dsimp)
  ·simp -dsimp [c1]
   refine a6 ?_
   cases hm
   exact EE.here (by simp -dsimp)
 ·clear j2
  simp only [Fits, ar, ap, and_true] at hf
  refine ab ?_
  cases hm
  refine ⟨.inr rfl, ?_⟩
  exact EE.here (by simp -dsimp [hf])
theorem c_wolfram_Number_1 (s : Int) (r : Bool) (hm : m_wolfram_Number_1 s = some r) : PureCall Tryz.prog 89 [.u (.one (.d (.int .i64 s)))] (.u (.one (.d (.bool r)))) := (f_wolfram_Number_1 s r hm).pureW
def F_slices_IndexFunc_int_int_wolfram_Number_1_1 (cx : Cx) (_s : List Int) (tt : Int ⊕ Unit) (ee : Exit) (ρ : Env) (σ : Sto) : Prop := match tt with
 | .inl r => ee = .ret ∧ EE cx (fun ρ σ => ∃ v, cC tb ρ σ Tryz.f91.results.toList = some v ∧ (v.frz σ).free = true ∧ (v.frz σ).wk (.u (.one (.d (.int .i64 r))))) ρ σ
 | .inr _u => ee = .exit 0 ∧ EE cx (aK [] []) ρ σ
theorem l_slices_IndexFunc_int_int_wolfram_Number_1_1 (cx : Cx) (hn : cx.n = 19) (s : List Int) {fu : Nat} {stt : Int} {tt : Int ⊕ Unit} (hh : ah (b_slices_IndexFunc_int_int_wolfram_Number_1_1 s) fu stt = some tt) {ρ : Env} {σ : Sto}
  (hE : aT (fun a : Int => [(0, .u (.one (.d (.sl 1 (List.map (rI .i64) s))))), (1, .u (.one (.fn 89 []))), (7, .u (.one (.d (.int .i64 (al s))))), (8, .u (.one (.d (.int .i64 a))))]) (fun _a : Int => []) stt ρ σ) : Swp Tryz.prog cx (.loop (bi [1, 0, 1, 0, 0] (aG Tryz.f91))) ρ σ (F_slices_IndexFunc_int_int_wolfram_Number_1_1 cx s tt) := by
 refine b3 hE hh (F_slices_IndexFunc_int_int_wolfram_Number_1_1 cx s) ?_
 rintro a r hm ρ σ hf
 simp only [Fits, ar, ap, and_true] at hf
 unfold b_slices_IndexFunc_int_int_wolfram_Number_1_1 at hm
 dsimp only at hm
 refine srs hn ?_
 simp -dsimp [hf]
 refine ae ?_
 rcases aj hm with ⟨c1, hm⟩ | ⟨c1, hm⟩
 ·refine a8 (by simp -dsimp) c1 ?_
  refine ac (a6 (ae (ai ?_)))
  refine srs hn ?_
  simp -dsimp [hf, c1]
  refine srs hn ?_
  obtain ⟨x, h2, hm⟩ := bnd hm
  obtain ⟨y, h3, hm⟩ := bnd hm
  simp -dsimp [hf, h2]
  refine aa (c_wolfram_Number_1 x y h3) (dkL hn) ?_
  simp -dsimp
  rcases aj hm with ⟨c4, hm⟩ | ⟨c4, hm⟩
  ·refine a8 (by simp -dsimp) c4 ?_
   refine srs hn ?_
   simp -dsimp [c4]
   refine ab (aL (ag ?_))
   cases hm
   refine aw nofun ?_
   unfold F_slices_IndexFunc_int_int_wolfram_Number_1_1
   dsimp only
   refine ⟨rfl, ?_⟩
   exact EE.here (by simp -dsimp [Tryz.results91])
  ·refine a7 (by simp -dsimp) c4 ?_
   refine ac ?_
   refine aC ?_
   refine a6 ?_
   refine sr1 hn ?_
   simp -dsimp [hf, c4]
   cases hm
   refine ax ?_
   exact EE.here (by simp -dsimp [hf])
 ·refine a7 (by simp -dsimp) c1 ?_
  refine au ?_
  refine ag ?_
  cases hm
  refine aw nofun ?_
  unfold F_slices_IndexFunc_int_int_wolfram_Number_1_1
  dsimp only
  refine ⟨rfl, ?_⟩
  exact EE.here (by simp -dsimp [c1])
theorem f_slices_IndexFunc_int_int_wolfram_Number_1 (s : List Int) (r : Int) (hm : m_slices_IndexFunc_int_int_wolfram_Number_1 s = some r) : PFn Tryz.prog 91 [.u (.one (.d (.sl 1 (List.map (rI .i64) s)))), .u (.one (.fn 89 []))] (fun v => v.wk (.u (.one (.d (.int .i64 r))))) := by
 refine aH Tryz.func91 Tryz.ntmps91 rfl (by kernel_rfl) (by simp) fun cx hn => ?_
 unfold m_slices_IndexFunc_int_int_wolfram_Number_1 at hm
 refine srs hn ?_
 simp -dsimp
 refine ae ?_
 refine srs hn ?_
 simp -dsimp
 refine ai ?_
 obtain ⟨o_, g5, hm⟩ := bnd hm
 refine aF (l_slices_IndexFunc_int_int_wolfram_Number_1_1 cx hn s g5) (by
   try dsimp only
   exact EE.here (by simp -dsimp)
 ) fun ee ρ σ x6 => ?_
 rcases o_ with r | _u
 ·unfold F_slices_IndexFunc_int_int_wolfram_Number_1_1 at x6
  dsimp only at x6
  obtain ⟨rfl, x6⟩ := x6
  refine aL (ag ?_)
  cases hm
  exact ⟨.inr rfl, x6⟩
 ·unfold F_slices_IndexFunc_int_int_wolfram_Number_1_1 at x6
  dsimp only at x6
  obtain ⟨rfl, x6⟩ := x6
  refine av ?_
  refine a6 ?_
  refine aV (by rfl) (by rfl) x6 fun ρ σ hf => ?_
  simp only [Fits, ar, ap, and_true] at hf
  refine srs hn ?_
  simp -dsimp
  refine ab ?_
  cases hm
  refine ⟨.inr rfl, ?_⟩
  exact EE.here (by simp -dsimp)
theorem c_slices_IndexFunc_int_int_wolfram_Number_1 (s : List Int) (r : Int) (hm : m_slices_IndexFunc_int_int_wolfram_Number_1 s = some r) : PureCall Tryz.prog 91 [.u (.one (.d (.sl 1 (List.map (rI .i64) s)))), .u (.one (.fn 89 []))] (.u (.one (.d (.int .i64 r)))) := (f_slices_IndexFunc_int_int_wolfram_Number_1 s r hm).pureW
theorem f_slices_ContainsFunc_int_int_wolfram_Number_1 (s : List Int) (r : Bool) (hm : m_slices_ContainsFunc_int_int_wolfram_Number_1 s = some r) : PFn Tryz.prog 34 [.u (.one (.d (.sl 1 (List.map (rI .i64) s)))), .u (.one (.fn 89 []))] (fun v => v.wk (.u (.one (.d (.bool r))))) := by
 refine aH Tryz.func34 Tryz.ntmps34 rfl (by kernel_rfl) (by simp) fun cx hn => ?_
 unfold m_slices_ContainsFunc_int_int_wolfram_Number_1 at hm
 refine srs hn ?_
 simp -dsimp
 refine srs hn ?_
 obtain ⟨y, h1, hm⟩ := bnd hm
 simp -dsimp
 refine aa (c_slices_IndexFunc_int_int_wolfram_Number_1 s y h1) (dkL hn) ?_
 simp -dsimp
 refine ab ?_
 cases hm
 refine ⟨.inr rfl, ?_⟩
 exact EE.here (by simp -dsimp)
theorem c_slices_ContainsFunc_int_int_wolfram_Number_1 (s : List Int) (r : Bool) (hm : m_slices_ContainsFunc_int_int_wolfram_Number_1 s = some r) : PureCall Tryz.prog 34 [.u (.one (.d (.sl 1 (List.map (rI .i64) s)))), .u (.one (.fn 89 []))] (.u (.one (.d (.bool r)))) := (f_slices_ContainsFunc_int_int_wolfram_Number_1 s r hm).pureW
end Go.Proofs.YtldhnnkpmhnpcaaGreatDoor
