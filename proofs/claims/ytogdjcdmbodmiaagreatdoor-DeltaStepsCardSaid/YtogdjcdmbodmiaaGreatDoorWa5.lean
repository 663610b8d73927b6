/- That the code does what the functions say (made by cc.py). -/
import Derived.Test.YtogdjcdmbodmiaaGreatDoorWa4
namespace Go.Proofs.YtogdjcdmbodmiaaGreatDoor
open Go.AM Go.Proofs
attribute [-simp] qlookup cJ cG Ob.wipe Ob.ren Ob.frz1 bX dz dJ fw Prod.forall Key.u
def be (rcv : (totaltree_place190 → (List Point) → (List Int) → (List (totaltree_place190 × Int)) → Int → (List (List UInt8 × Int)) → Int → (List Point) → (List Node) → Option (Int × (List (totaltree_place190 × Int)) × (List (List UInt8 × Int)) × (List Node)))) : Prop := ∀ (p : totaltree_place190) (a : List Point) (arr : List Int) (a1 : List (totaltree_place190 × Int)) (a2 : Int) (cv : List (List UInt8 × Int)) (cStates : Int) (cHood : List Point) (cNodes : List Node) (r : Int × (List (totaltree_place190 × Int)) × (List (List UInt8 × Int)) × (List Node)), rcv p a arr a1 a2 cv cStates cHood cNodes = some r → GFn Tryz.prog 132 [.u (.agg [.d (.int .i64 p.at_), .d (.int .i64 p.s)]), .u (.one (.box 1000000 0)), .u (.one (.box 1000001 0)), .u (.one (.box 1000003 0)), .u (.one (.box 1000005 0)), .u (.one (.box 1000006 0)), .u (.one (.box 1000007 0)), .u (.one (.box 1000008 0)), .u (.one (.box 1000010 0))] [.box [.d (.sl 2 (List.map Point.row a))], .box [.fn 74 [.box 1000002 0]], .box (List.map (cI .i64) arr), .box [.map 1000004], mOb (.ints 2) totaltree_place190.key (uL (L.int .i64)) a1, .box [.d (.int .i64 a2)], .box [.fn 132 [.box 1000000 0, .box 1000001 0, .box 1000003 0, .box 1000005 0, .box 1000006 0, .box 1000007 0, .box 1000008 0, .box 1000010 0]], .box [.fn 73 []], .box [.map 1000009], mOb .str kS (uL (L.int .i64)) cv, .box [.d (.int .i64 cStates), .d (.sl 2 (List.map Point.row cHood)), .own 1000011], .row 2 163 (List.map Node.row cNodes)] (.u (.one (.d (.int .i64 r.1)))) [some (.box [.d (.sl 2 (List.map Point.row a))]), some (.box [.fn 74 [.box 1000002 0]]), some (.box (List.map (cI .i64) arr)), some (.box [.map 1000004]), some (mOb (.ints 2) totaltree_place190.key (uL (L.int .i64)) r.2.1), some (.box [.d (.int .i64 a2)]), some (.box [.fn 132 [.box 1000000 0, .box 1000001 0, .box 1000003 0, .box 1000005 0, .box 1000006 0, .box 1000007 0, .box 1000008 0, .box 1000010 0]]), some (.box [.fn 73 []]), some (.box [.map 1000009]), some (mOb .str kS (uL (L.int .i64)) r.2.2.1), some (.box [.d (.int .i64 cStates), .d (.sl 2 (List.map Point.row cHood)), .own 1000012]), none, some (.row 2 163 (List.map Node.row r.2.2.2))]
def aN (cx : Cx) (_rcv : (totaltree_place190 → (List Point) → (List Int) → (List (totaltree_place190 × Int)) → Int → (List (List UInt8 × Int)) → Int → (List Point) → (List Node) → Option (Int × (List (totaltree_place190 × Int)) × (List (List UInt8 × Int)) × (List Node)))) (p : totaltree_place190) (a : List Point) (arr : List Int) (a2 : Int) (cStates : Int) (cHood : List Point) (_u : Unit) (tt : ((List Node) × (List Int) × (List Int) × (List (totaltree_place190 × Int)) × (List (List UInt8 × Int)))) (ee : Exit) (ρ : Env) (σ : Sto) : Prop := match tt with
 | (l, keyv, l1, mp, mp1) => ee = .exit 0 ∧ EE cx (b4 [(3, .u (.one (.box 1000003 0))), (7, .u (.one (.box 1000008 0))), (8, .u (.one (.box 1000010 0))), (9, .u (.one (.box 9 0))), (13, .u (.one (.box 13 0))), (14, .u (.one (.own 5003)))] [(9, .box [.d (.int .i64 p.at_), .d (.int .i64 p.s)]), (13, .box [.d (.int .i64 (aO .i64 (ak a) p.at_)), .own 5004]), (5000, .row 2 163 (List.map Node.row l)), (5003, .row 1 5 (List.map (rI .u8) keyv)), (5004, .row 1 3 (List.map (rI .i64) l1)), (1000000, .box [.d (.sl 2 (List.map Point.row a))]), (1000001, .box [.fn 74 [.box 1000002 0]]), (1000002, .box (List.map (cI .i64) arr)), (1000003, .box [.map 1000004]), (1000004, mOb (.ints 2) totaltree_place190.key (uL (L.int .i64)) mp), (1000005, .box [.d (.int .i64 a2)]), (1000006, .box [.fn 132 [.box 1000000 0, .box 1000001 0, .box 1000003 0, .box 1000005 0, .box 1000006 0, .box 1000007 0, .box 1000008 0, .box 1000010 0]]), (1000007, .box [.fn 73 []]), (1000008, .box [.map 1000009]), (1000009, mOb .str kS (uL (L.int .i64)) mp1), (1000010, .box [.d (.int .i64 cStates), .d (.sl 2 (List.map Point.row cHood)), .own 5000])]) ρ σ
theorem dN (cx : Cx) (hn : cx.n = 101) (_hk : cx.k = 12) (rcv : (totaltree_place190 → (List Point) → (List Int) → (List (totaltree_place190 × Int)) → Int → (List (List UInt8 × Int)) → Int → (List Point) → (List Node) → Option (Int × (List (totaltree_place190 × Int)) × (List (List UInt8 × Int)) × (List Node)))) (p : totaltree_place190) (a : List Point) (arr : List Int) (a2 : Int) (cStates : Int) (cHood : List Point) (u : Unit) (hrcv : be rcv) {fu : Nat} {stt : Int × (List Node) × (List Int) × (List Int) × (List (totaltree_place190 × Int)) × (List (List UInt8 × Int))} {tt : ((List Node) × (List Int) × (List Int) × (List (totaltree_place190 × Int)) × (List (List UInt8 × Int)))} (hh : am (b5 rcv p a arr a2 cStates cHood u) fu stt = some tt) {ρ : Env} {σ : Sto}
  (hE : bT (fun stt : Int × (List Node) × (List Int) × (List Int) × (List (totaltree_place190 × Int)) × (List (List UInt8 × Int)) => match stt with | (a3, _l, _keyv, _l1, _mp, _mp1) => [(3, .u (.one (.box 1000003 0))), (5, .u (.one (.box 1000006 0))), (6, .u (.one (.box 1000007 0))), (7, .u (.one (.box 1000008 0))), (8, .u (.one (.box 1000010 0))), (9, .u (.one (.box 9 0))), (13, .u (.one (.box 13 0))), (14, .u (.one (.own 5003))), (46, .u (.one (.d (.int .i64 a2)))), (47, .u (.one (.d (.int .i64 a3))))]) (fun stt : Int × (List Node) × (List Int) × (List Int) × (List (totaltree_place190 × Int)) × (List (List UInt8 × Int)) => match stt with | (_a3, l, keyv, l1, mp, mp1) => [(9, .box [.d (.int .i64 p.at_), .d (.int .i64 p.s)]), (13, .box [.d (.int .i64 (aO .i64 (ak a) p.at_)), .own 5004]), (5000, .row 2 163 (List.map Node.row l)), (5003, .row 1 5 (List.map (rI .u8) keyv)), (5004, .row 1 3 (List.map (rI .i64) l1)), (1000000, .box [.d (.sl 2 (List.map Point.row a))]), (1000001, .box [.fn 74 [.box 1000002 0]]), (1000002, .box (List.map (cI .i64) arr)), (1000003, .box [.map 1000004]), (1000004, mOb (.ints 2) totaltree_place190.key (uL (L.int .i64)) mp), (1000005, .box [.d (.int .i64 a2)]), (1000006, .box [.fn 132 [.box 1000000 0, .box 1000001 0, .box 1000003 0, .box 1000005 0, .box 1000006 0, .box 1000007 0, .box 1000008 0, .box 1000010 0]]), (1000007, .box [.fn 73 []]), (1000008, .box [.map 1000009]), (1000009, mOb .str kS (uL (L.int .i64)) mp1), (1000010, .box [.d (.int .i64 cStates), .d (.sl 2 (List.map Point.row cHood)), .own 5000])]) stt ρ σ) : Swp Tryz.prog cx (.loop (d4 [1, 1, 1, 1, 1, 0, 1, 0, 0] (aZ Tryz.f132))) ρ σ (aN cx rcv p a arr a2 cStates cHood u tt) := by
 refine cd hE hh (aN cx rcv p a arr a2 cStates cHood u) ?_
 rintro ⟨a3, l, keyv, l1, mp, mp1⟩ r hm ρ σ hf
 simp only [Fits, ap, ar, and_true] at hf
 unfold b5 at hm
 dsimp only at hm
 refine srs hn ?_
 simp -dsimp [hf]
 refine ae ?_
 rcases ai hm with ⟨c5, hm⟩ | ⟨c5, hm⟩
 ·refine a8 (by simp -dsimp) c5 ?_
  refine ab (a6 (ae (ah ?_)))
  refine srs hn ?_
  simp -dsimp [hf, c5]
  refine sw_drNs aW mixed 12 (by rw [hn]; kernel_rfl) ?_
  dsimp only [List.take, List.drop]
  obtain ⟨y, h6, hm⟩ := bnd hm
  simp -dsimp [hf]
  refine aw (eK p.s p.at_ a3 y h6) ?_
  obtain ⟨y1, h7, hm⟩ := bnd hm
  simp -dsimp
  refine bA (hrcv (⟨(bd .i64 p.at_ 1), y⟩ : totaltree_place190) a arr mp a2 mp1 cStates cHood l y1 h7) [1000000, 1000001, 1000002, 1000003, 1000004, 1000005, 1000006, 1000007, 1000008, 1000009, 1000010, 5000] [5001] rfl rfl rfl (by simp -dsimp) rfl (by simp -dsimp [hf]) (by first | rfl | simp) rfl (dkL hn) ?_
  simp -dsimp
  refine srs hn ?_
  obtain ⟨l2, h8, hm⟩ := bnd hm
  obtain ⟨h8a, h8e⟩ := aQ h8
  replace h8e := h8e.symm
  subst h8e
  try simp only [List.length_cons, List.length_nil, Nat.zero_add] at h8a
  simp -dsimp [hf, h8a]
  refine sr1 hn ?_
  obtain ⟨l3, h9, hm⟩ := bnd hm
  obtain ⟨h9a, h9e⟩ := aQ h9
  replace h9e := h9e.symm
  subst h9e
  try simp only [List.length_cons, List.length_nil, Nat.zero_add] at h9a
  try simp only [Nat.mul_one, Nat.reduceLeDiff] at h9a
  obtain ⟨y2, h10, hm⟩ := bnd hm
  simp -dsimp [hf, h9a]
  refine bA (e7 (keyv ++ [32]) y1.1 10 y2 h10) [71] [5002] rfl rfl rfl (by simp -dsimp) rfl (by simp -dsimp) (by first | rfl | simp) rfl (dkL hn) ?_
  simp -dsimp
  refine aV ?_
  refine a6 ?_
  refine sr1 hn ?_
  simp -dsimp [hf]
  cases hm
  refine aI ?_
  refine EE.step (Wk.move 5002 5003 (by decide) (.inl (by decide))) ?_
  refine EE.step (Wk.move 67 5004 (by decide) (.inl (by decide))) ?_
  refine EE.step (Wk.move 5001 5000 (by decide) (.inl (by decide))) ?_
  exact EE.here (by simp -dsimp [hf])
 ·refine a7 (by simp -dsimp) c5 ?_
  refine aC ?_
  refine ag ?_
  cases hm
  refine aB nofun ?_
  unfold aN
  dsimp only
  refine ⟨rfl, ?_⟩
  exact EE.here (by simp -dsimp [hf, c5])
theorem dR (rcv : (totaltree_place190 → (List Point) → (List Int) → (List (totaltree_place190 × Int)) → Int → (List (List UInt8 × Int)) → Int → (List Point) → (List Node) → Option (Int × (List (totaltree_place190 × Int)) × (List (List UInt8 × Int)) × (List Node)))) (hrcv : be rcv) (p : totaltree_place190) (a : List Point) (arr : List Int) (a1 : List (totaltree_place190 × Int)) (a2 : Int) (cv : List (List UInt8 × Int)) (cStates : Int) (cHood : List Point) (cNodes : List Node) (r : Int × (List (totaltree_place190 × Int)) × (List (List UInt8 × Int)) × (List Node)) (hm : bb rcv p a arr a1 a2 cv cStates cHood cNodes = some r) : GFn Tryz.prog 132 [.u (.agg [.d (.int .i64 p.at_), .d (.int .i64 p.s)]), .u (.one (.box 1000000 0)), .u (.one (.box 1000001 0)), .u (.one (.box 1000003 0)), .u (.one (.box 1000005 0)), .u (.one (.box 1000006 0)), .u (.one (.box 1000007 0)), .u (.one (.box 1000008 0)), .u (.one (.box 1000010 0))] [.box [.d (.sl 2 (List.map Point.row a))], .box [.fn 74 [.box 1000002 0]], .box (List.map (cI .i64) arr), .box [.map 1000004], mOb (.ints 2) totaltree_place190.key (uL (L.int .i64)) a1, .box [.d (.int .i64 a2)], .box [.fn 132 [.box 1000000 0, .box 1000001 0, .box 1000003 0, .box 1000005 0, .box 1000006 0, .box 1000007 0, .box 1000008 0, .box 1000010 0]], .box [.fn 73 []], .box [.map 1000009], mOb .str kS (uL (L.int .i64)) cv, .box [.d (.int .i64 cStates), .d (.sl 2 (List.map Point.row cHood)), .own 1000011], .row 2 163 (List.map Node.row cNodes)] (.u (.one (.d (.int .i64 r.1)))) [some (.box [.d (.sl 2 (List.map Point.row a))]), some (.box [.fn 74 [.box 1000002 0]]), some (.box (List.map (cI .i64) arr)), some (.box [.map 1000004]), some (mOb (.ints 2) totaltree_place190.key (uL (L.int .i64)) r.2.1), some (.box [.d (.int .i64 a2)]), some (.box [.fn 132 [.box 1000000 0, .box 1000001 0, .box 1000003 0, .box 1000005 0, .box 1000006 0, .box 1000007 0, .box 1000008 0, .box 1000010 0]]), some (.box [.fn 73 []]), some (.box [.map 1000009]), some (mOb .str kS (uL (L.int .i64)) r.2.2.1), some (.box [.d (.int .i64 cStates), .d (.sl 2 (List.map Point.row cHood)), .own 1000012]), none, some (.row 2 163 (List.map Node.row r.2.2.2))] := by
 refine cg aW _ Tryz.func132 rfl (by kernel_rfl) (by simp [Tryz.ntmps132]) (by simp) (by first | rfl | simp) (by first | rfl | simp) fun cx hn hk => ?_
 replace hn : cx.n = 101 := hn.trans Tryz.ntmps132
 replace hk : cx.k = 12 := hk
 unfold bb at hm
 refine srs hn ?_
 simp -dsimp
 refine ae ?_
 refine srs hn ?_
 simp -dsimp
 rcases ai hm with ⟨c1, hm⟩ | ⟨c1, hm⟩
 ·refine a8 (by simp -dsimp) c1 ?_
  refine srs hn ?_
  obtain ⟨y, h2, hm⟩ := bnd hm
  simp -dsimp [c1]
  refine bA (gk p.s arr y h2) [1000002] [] rfl rfl rfl (by simp -dsimp) rfl (by simp -dsimp) (by first | rfl | simp) rfl (dkL hn) ?_
  simp -dsimp
  refine ac (ag ?_)
  cases hm
  refine ⟨.inr rfl, ?_⟩
  refine EE.step (Wk.move 1000011 1000012 (by decide) (.inr (by rw [hk]; decide))) ?_
  exact EE.here (by simp -dsimp)
 ·refine a7 (by simp -dsimp) c1 ?_
  refine ab (a6 (ae ?_))
  refine srs hn ?_
  obtain ⟨u, h3, hm⟩ := bnd hm
  simp -dsimp [c1, aJ h3 (.head _), aJ h3 (.tail _ (.head _)), (@id (lkM (eo (mOb (.ints 2) totaltree_place190.key (uL (L.int .i64)) a1) (.ints [p.at_, p.s])) true (.one (.d (.int .i64 0))) = some (.tup [.one (.d (.int .i64 (aL a1 p 0))), .one (.d (.bool (cO a1 p)))])) (lk_two p 0))]
  refine srs hn ?_
  simp -dsimp
  rcases ai hm with ⟨c4, hm⟩ | ⟨c4, hm⟩
  ·refine a8 (b := (cO a1 p)) (by simp -dsimp) c4 ?_
   refine srs hn ?_
   simp -dsimp [c4]
   refine ac (ag ?_)
   cases hm
   refine ⟨.inr rfl, ?_⟩
   refine EE.step (Wk.move 1000011 1000012 (by decide) (.inr (by rw [hk]; decide))) ?_
   exact EE.here (by simp -dsimp)
  ·refine a7 (b := (cO a1 p)) (by simp -dsimp) c4 ?_
   refine ab (a6 ?_)
   refine srs hn ?_
   simp -dsimp [c4]
   refine sw_regBs aW 3 (by rw [hn]; kernel_rfl) ?_
   dsimp only [List.take, List.drop]
   simp -dsimp
   refine ae ?_
   refine srs hn ?_
   simp -dsimp
   refine ah ?_
   obtain ⟨⟨l, keyv, l1, mp, mp1⟩, g11, hm⟩ := bnd hm
   refine bf (dN cx hn hk rcv p a arr a2 cStates cHood u hrcv g11) (by
     try dsimp only
     refine EE.step (Wk.move 45 5003 (by decide) (.inl (by decide))) ?_
     refine EE.step (Wk.move 1000011 5000 (by decide) (.inl (by decide))) ?_
     refine EE.step (Wk.own0b 13 1 5004 1 3 [.d (.int .i64 (aO .i64 (ak a) p.at_)), .d .nil] (by simp -dsimp) (by rfl) (by decide) (by decide)) ?_
     exact EE.here (by simp -dsimp)
   ) fun ee ρ σ x12 => ?_
   unfold aN at x12
   dsimp only at x12
   obtain ⟨rfl, x12⟩ := x12
   refine aD ?_
   refine a6 ?_
   refine bN (by rfl) (by rfl) x12 fun ρ σ hf => ?_
   simp only [Fits, ap, ar, and_true] at hf
   refine srs hn ?_
   obtain ⟨u1, h13, hm⟩ := bnd hm
   simp -dsimp [hf, gW h13, (@id (lkM (eo (mOb .str kS (uL (L.int .i64)) mp1) (.str (ofBytes keyv))) true (.one (.d (.int .i64 0))) = some (.tup [.one (.d (.int .i64 (aL mp1 (ofBytes keyv) 0))), .one (.d (.bool (cO mp1 (ofBytes keyv))))])) (lk_two (ofBytes keyv) 0))]
   obtain ⟨⟨idv, mp2, l2⟩, j16, hm⟩ := bnd hm
   refine au [(3, .u (.one (.box 1000003 0))), (9, .u (.one (.box 9 0))), (17, .u (.one (.d (.int .i64 idv))))] [(9, .box [.d (.int .i64 p.at_), .d (.int .i64 p.s)]), (5000, .row 2 163 (List.map Node.row l2)), (1000000, .box [.d (.sl 2 (List.map Point.row a))]), (1000001, .box [.fn 74 [.box 1000002 0]]), (1000002, .box (List.map (cI .i64) arr)), (1000003, .box [.map 1000004]), (1000004, mOb (.ints 2) totaltree_place190.key (uL (L.int .i64)) mp), (1000005, .box [.d (.int .i64 a2)]), (1000006, .box [.fn 132 [.box 1000000 0, .box 1000001 0, .box 1000003 0, .box 1000005 0, .box 1000006 0, .box 1000007 0, .box 1000008 0, .box 1000010 0]]), (1000007, .box [.fn 73 []]), (1000008, .box [.map 1000009]), (1000009, mOb .str kS (uL (L.int .i64)) mp2), (1000010, .box [.d (.int .i64 cStates), .d (.sl 2 (List.map Point.row cHood)), .own 5000])] (by rfl) (by rfl) ?_ fun ρ σ hf => ?_
   ·replace hm := j16
    clear j16
    refine srs hn ?_
    simp -dsimp
    rcases ai hm with ⟨c14, hm⟩ | ⟨c14, hm⟩
    ·refine a8 (b := (br (cO mp1 (ofBytes keyv)))) (by simp -dsimp) c14 ?_
     refine srs hn ?_
     simp -dsimp [hf, c14]
     refine Swp.pre (Wk.frz 5004 1 3 (List.map (rI .i64) l1) (by simp -dsimp [hf])) ?_
     refine srs hn ?_
     obtain ⟨l2, h15, hm⟩ := bnd hm
     obtain ⟨h15a, h15e⟩ := aQ h15
     replace h15e := h15e.symm
     subst h15e
     try simp only [List.length_cons, List.length_nil, Nat.zero_add] at h15a
     simp -dsimp [hf, h15a]
     refine sr1 hn ?_
     simp -dsimp [hf, gW h13, (@id (fB (mOb .str kS (uL (L.int .i64)) mp1) (.str (ofBytes keyv)) (.one (.d (.int .i64 (ak l)))) = mOb .str kS (uL (L.int .i64)) (bD mp1 (ofBytes keyv) (ak l))) (ff .str kS (uL (L.int .i64)) mp1 (ofBytes keyv) (ak l)))]
     refine a6 ?_
     cases hm
     refine EE.step (Wk.move 91 5000 (by decide) (.inl (by decide))) ?_
     exact EE.here (by simp -dsimp [hf])
    ·refine a7 (b := (br (cO mp1 (ofBytes keyv)))) (by simp -dsimp) c14 ?_
     refine ab (a6 ?_)
     cases hm
     exact EE.here (by simp -dsimp [hf, c14])
   ·clear j16
    simp only [Fits, ap, ar, and_true] at hf
    refine srs hn ?_
    simp -dsimp [hf, aJ h3 (.head _), aJ h3 (.tail _ (.head _)), (@id (fB (mOb (.ints 2) totaltree_place190.key (uL (L.int .i64)) mp) (.ints [p.at_, p.s]) (.one (.d (.int .i64 idv))) = mOb (.ints 2) totaltree_place190.key (uL (L.int .i64)) (bD mp p idv)) (ff (.ints 2) totaltree_place190.key (uL (L.int .i64)) mp p idv))]
    refine srs hn ?_
    simp -dsimp [hf]
    refine ac ?_
    cases hm
    refine ⟨.inr rfl, ?_⟩
    refine EE.step (Wk.move 5000 1000012 (by decide) (.inr (by rw [hk]; decide))) ?_
    exact EE.here (by simp -dsimp [hf])
theorem dZ (p : totaltree_place190) (a : List Point) (arr : List Int) (a1 : List (totaltree_place190 × Int)) (a2 : Int) (cv : List (List UInt8 × Int)) (cStates : Int) (cHood : List Point) (cNodes : List Node) (r : Int × (List (totaltree_place190 × Int)) × (List (List UInt8 × Int)) × (List Node)) (hm : ch p a arr a1 a2 cv cStates cHood cNodes = some r) : GFn Tryz.prog 132 [.u (.agg [.d (.int .i64 p.at_), .d (.int .i64 p.s)]), .u (.one (.box 1000000 0)), .u (.one (.box 1000001 0)), .u (.one (.box 1000003 0)), .u (.one (.box 1000005 0)), .u (.one (.box 1000006 0)), .u (.one (.box 1000007 0)), .u (.one (.box 1000008 0)), .u (.one (.box 1000010 0))] [.box [.d (.sl 2 (List.map Point.row a))], .box [.fn 74 [.box 1000002 0]], .box (List.map (cI .i64) arr), .box [.map 1000004], mOb (.ints 2) totaltree_place190.key (uL (L.int .i64)) a1, .box [.d (.int .i64 a2)], .box [.fn 132 [.box 1000000 0, .box 1000001 0, .box 1000003 0, .box 1000005 0, .box 1000006 0, .box 1000007 0, .box 1000008 0, .box 1000010 0]], .box [.fn 73 []], .box [.map 1000009], mOb .str kS (uL (L.int .i64)) cv, .box [.d (.int .i64 cStates), .d (.sl 2 (List.map Point.row cHood)), .own 1000011], .row 2 163 (List.map Node.row cNodes)] (.u (.one (.d (.int .i64 r.1)))) [some (.box [.d (.sl 2 (List.map Point.row a))]), some (.box [.fn 74 [.box 1000002 0]]), some (.box (List.map (cI .i64) arr)), some (.box [.map 1000004]), some (mOb (.ints 2) totaltree_place190.key (uL (L.int .i64)) r.2.1), some (.box [.d (.int .i64 a2)]), some (.box [.fn 132 [.box 1000000 0, .box 1000001 0, .box 1000003 0, .box 1000005 0, .box 1000006 0, .box 1000007 0, .box 1000008 0, .box 1000010 0]]), some (.box [.fn 73 []]), some (.box [.map 1000009]), some (mOb .str kS (uL (L.int .i64)) r.2.2.1), some (.box [.d (.int .i64 cStates), .d (.sl 2 (List.map Point.row cHood)), .own 1000012]), none, some (.row 2 163 (List.map Node.row r.2.2.2))] := recN_ind be (by intro _; intro _; intro _; intro _; intro _; intro _; intro _; intro _; intro _; intro _; intro hm; cases hm) dR recF p a arr a1 a2 cv cStates cHood cNodes r hm
end Go.Proofs.YtogdjcdmbodmiaaGreatDoor
