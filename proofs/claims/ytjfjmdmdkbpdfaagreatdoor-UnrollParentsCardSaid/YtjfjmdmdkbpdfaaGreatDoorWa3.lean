/- That the code does what the functions say (made by cc.py). -/
import Derived.Test.YtjfjmdmdkbpdfaaGreatDoorWa2
namespace Go.Proofs.YtjfjmdmdkbpdfaaGreatDoor
open Go.AM Go.Proofs
set_option maxRecDepth 100000
attribute [-simp] qlookup ct d7 Ob.wipe Ob.ren Ob.frz1
section
attribute [-simp] List.map_set List.set_set
def cE (rcv : (Int -> (List Int) -> (List Node) -> (List Node) -> Option (Int × (List Int) × (List Node)))) : Prop := ∀ (k : Int) (a : List Int) (a1 cv : List Node) (r : Int × (List Int) × (List Node)), rcv k a a1 cv = some r -> GFn Tryz.prog 144 [vI k, vX 1000000, vX 1000002, vX 1000003, vX 1000004] [.box [.own 1000001], .row 1 3 (List.map (rI .i64) a), .box [dR1 a1], .box [.fn 144 [.box 1000000 0, .box 1000002 0, .box 1000003 0, .box 1000004 0]], .box [.own 1000005], .row 2 60 (List.map Node.row cv)] (vI r.1) [some (.box [.own 1000001]), some (.row 1 3 (List.map (rI .i64) r.2.1)), some (.box [dR1 a1]), some (.box [.fn 144 [.box 1000000 0, .box 1000002 0, .box 1000003 0, .box 1000004 0]]), some (.box [.own 1000006]), none, some (.row 2 60 (List.map Node.row r.2.2))]
def bS (cx : Cx) (_rcv : (Int -> (List Int) -> (List Node) -> (List Node) -> Option (Int × (List Int) × (List Node)))) (k : Int) (a1 : List Node) (x1 : Node) (_y : List Int) (tt : ((List Int) × (List Node) × (List Int))) (ee : Exit) (Z : Env) (O : Sto) : Prop := match tt with
 | (l, l1, l2) => ee = .exit 0 /\ EE cx (bp [(0, vI k), (1, vX 1000000), (4, vX 1000004), (7, vX 7)] [(7, .box [dI x1.Level, .own 30]), (30, .row 1 3 (List.map (rI .i64) l)), (5000, .row 2 60 (List.map Node.row l1)), (1000000, .box [.own 1000001]), (1000001, .row 1 3 (List.map (rI .i64) l2)), (1000002, .box [dR1 a1]), (1000003, .box [.fn 144 [.box 1000000 0, .box 1000002 0, .box 1000003 0, .box 1000004 0]]), (1000004, .box [.own 5000])]) Z O
theorem ec (cx : Cx) (hn : cx.n = 63) (_hk : cx.k = 6) (rcv : (Int -> (List Int) -> (List Node) -> (List Node) -> Option (Int × (List Int) × (List Node)))) (k : Int) (a1 : List Node) (x1 : Node) (y : List Int) (hrcv : cE rcv) {fu : Nat} {stt : Int × (List Int) × (List Node) × (List Int)} {tt : ((List Int) × (List Node) × (List Int))} (hh : b0 (b_reduce_ordered_1_o_o_o_o_1 rcv k a1 x1 y) fu stt = some tt) {Z : Env} {O : Sto}
  (hE : bu (fun stt : Int × (List Int) × (List Node) × (List Int) => match stt with | (a2, _l, _l2, _l1) => [(0, vI k), (1, vX 1000000), (3, vX 1000003), (4, vX 1000004), (7, vX 7), (33, vO 30), (34, vI (aY y)), (35, vI a2)]) (fun stt : Int × (List Int) × (List Node) × (List Int) => match stt with | (_a2, l, l2, l1) => [(7, .box [dI x1.Level, .own 30]), (30, .row 1 3 (List.map (rI .i64) l)), (5000, .row 2 60 (List.map Node.row l2)), (1000000, .box [.own 1000001]), (1000001, .row 1 3 (List.map (rI .i64) l1)), (1000002, .box [dR1 a1]), (1000003, .box [.fn 144 [.box 1000000 0, .box 1000002 0, .box 1000003 0, .box 1000004 0]]), (1000004, .box [.own 5000])]) stt Z O) : Swp Tryz.prog cx (.loop (bL [1, 1, 1, 0, 1, 0, 0] (bn Tryz.f144))) Z O (bS cx rcv k a1 x1 y tt) := by
 refine bv hE hh (bS cx rcv k a1 x1 y) ?_
 rintro ⟨a2, l, l2, l1⟩ r hm Z O hf
 simp only [Fits, ba, bc, and_true] at hf
 unfold b_reduce_ordered_1_o_o_o_o_1 at hm
 dsimp only at hm
 refine srs hn ?_
 simp -dsimp [hf]
 refine aU ?_
 rcases aZ hm with ⟨c5, hm⟩ | ⟨c5, hm⟩
 ·refine aS (by simp -dsimp) c5 ?_
  refine aT (aP ?_)
  obtain ⟨⟨l3, l4, l5⟩, j9, hm⟩ := bnd hm
  refine scE [(0, vI k), (1, vX 1000000), (3, vX 1000003), (4, vX 1000004), (7, vX 7), (33, vO 30), (34, vI (aY y)), (35, vI a2)] [(7, .box [dI x1.Level, .own 30]), (30, .row 1 3 (List.map (rI .i64) l3)), (5000, .row 2 60 (List.map Node.row l5)), (1000000, .box [.own 1000001]), (1000001, .row 1 3 (List.map (rI .i64) l4)), (1000002, .box [dR1 a1]), (1000003, .box [.fn 144 [.box 1000000 0, .box 1000002 0, .box 1000003 0, .box 1000004 0]]), (1000004, .box [.own 5000])] ?_ fun Z O hf => ?_
  ·replace hm := j9
   clear j9
   refine aW ?_
   refine srs hn ?_
   obtain ⟨x2, h6, hm⟩ := bnd hm
   simp -dsimp [hf, c5, h6, bC h6]
   refine srs hn ?_
   simp -dsimp [hf]
   rcases aZ hm with ⟨c7, hm⟩ | ⟨c7, hm⟩
   ·refine aS (by simp -dsimp) c7 ?_
    refine sw_midc bm mixed 5 6 6 0 [[0, 1, 2]] [[5001]] [] none (by rw [hn]; kernel_rfl) bY ?_
    dsimp only [List.take, List.drop, cM, cO, dp, pk, List.cons_append, List.nil_append, List.flatten_cons, List.flatten_nil, bV, bU, List.append_nil]
    obtain ⟨y1, h8, hm⟩ := bnd hm
    simp -dsimp [hf, c7]
    refine fy (hrcv x2 l1 a1 l2 y1 h8) [1000000, 1000001, 1000002, 1000003, 1000004, 5000] [5001] rfl rfl rfl (by simp -dsimp) rfl (by simp -dsimp [hf]) (by first | rfl | simp) rfl (dkL hn) rfl rfl (by simp) nofun (by simp) ?_
    simp -dsimp [hf, h6, bC h6, rsetI .i64 l a2.toNat y1.1]
    refine bk ?_
    refine aP ?_
    cases hm
    refine emv 5001 5000 ?_
    exact EE.here (by simp -dsimp [hf])
   ·refine aR (by simp -dsimp) c7 ?_
    refine aT ?_
    refine bk ?_
    cases hm
    exact EE.here (by simp -dsimp [hf, c7])
  ·clear j9
   simp only [Fits, ba, bc, and_true] at hf
   refine sr1 hn ?_
   simp -dsimp [hf]
   cases hm
   refine bh ?_
   exact EE.here (by simp -dsimp [hf])
 ·refine aR (by simp -dsimp) c5 ?_
  refine b9 ?_
  refine aX ?_
  cases hm
  refine bd nofun ?_
  exact ⟨rfl, EE.here (by simp -dsimp [hf, c5])⟩
theorem el (rcv : (Int -> (List Int) -> (List Node) -> (List Node) -> Option (Int × (List Int) × (List Node)))) (hrcv : cE rcv) (k : Int) (a : List Int) (a1 cv : List Node) (r : Int × (List Int) × (List Node)) (hm : mb_reduce_ordered_1_o_o_o_o rcv k a a1 cv = some r) : GFn Tryz.prog 144 [vI k, vX 1000000, vX 1000002, vX 1000003, vX 1000004] [.box [.own 1000001], .row 1 3 (List.map (rI .i64) a), .box [dR1 a1], .box [.fn 144 [.box 1000000 0, .box 1000002 0, .box 1000003 0, .box 1000004 0]], .box [.own 1000005], .row 2 60 (List.map Node.row cv)] (vI r.1) [some (.box [.own 1000001]), some (.row 1 3 (List.map (rI .i64) r.2.1)), some (.box [dR1 a1]), some (.box [.fn 144 [.box 1000000 0, .box 1000002 0, .box 1000003 0, .box 1000004 0]]), some (.box [.own 1000006]), none, some (.row 2 60 (List.map Node.row r.2.2))] := by
 refine bD bm _ Tryz.func144 rfl (by kernel_rfl) (by simp [Tryz.ntmps144]) (by simp) (by first | rfl | simp) (by first | rfl | simp) fun cx hn hk => ?_
 replace hn : cx.n = 63 := hn.trans Tryz.ntmps144
 replace hk : cx.k = 6 := hk
 unfold mb_reduce_ordered_1_o_o_o_o at hm
 refine srs hn ?_
 simp -dsimp
 refine aU ?_
 refine srs hn ?_
 obtain ⟨x, h1, hm⟩ := bnd hm
 simp -dsimp [h1, bC h1]
 rcases aZ hm with ⟨c2, hm⟩ | ⟨c2, hm⟩
 ·refine aS (by simp -dsimp) c2 ?_
  refine srs hn ?_
  simp -dsimp [h1, bC h1, c2]
  refine aV (aX ?_)
  cases hm
  refine ⟨.inr rfl, ?_⟩
  refine emr 1000005 1000006 hk ?_
  exact EE.here (by simp -dsimp)
 ·refine aR (by simp -dsimp) c2 ?_
  refine aT (aP ?_)
  refine dd bm mixed 10 11 13 12 [[0, 1, 2, 3, 4]] [[30]] [true, false] (some (7, .box [dI 0, .d .nil])) (by rw [hn]; kernel_rfl) (fltT_some 60 _ (by kernel_rfl) rfl rfl rfl (by simp [C.wipe])) ?_
  dsimp only [List.take, List.drop, cM, cO, dp, pk, List.cons_append, List.nil_append, List.flatten_cons, List.flatten_nil, bV, bU, List.append_nil]
  obtain ⟨x1, h3, hm⟩ := bnd hm
  obtain ⟨y, h4, hm⟩ := bnd hm
  simp -dsimp [c2, h3]
  refine callE_new (cw x1.Next y h4) (dkL hn) (by decide) rfl rfl (by simp) (by rintro _ _ ⟨⟩; simp [C.wipe]) (by simp) ?_
  simp -dsimp [h3]
  refine aU ?_
  refine srs hn ?_
  simp -dsimp
  refine aW ?_
  obtain ⟨⟨l, l1, l2⟩, g10, hm⟩ := bnd hm
  refine bo (ec cx hn hk rcv k a1 x1 y hrcv g10) (by
    try dsimp only
    refine emv 1000005 5000 ?_
    exact EE.here (by simp -dsimp)
  ) fun ee Z O x11 => ?_
  unfold bS at x11
  dsimp only at x11
  obtain ⟨rfl, x11⟩ := x11
  refine b8 ?_
  refine aP ?_
  refine see x11 fun Z O hf => ?_
  simp only [Fits, ba, bc, and_true] at hf
  refine Swp.pre (Wk.frz 30 1 3 (List.map (rI .i64) l) (by simp -dsimp [hf])) ?_
  refine srs hn ?_
  obtain ⟨l3, h12, hm⟩ := bnd hm
  obtain ⟨h12a, h12e⟩ := bj h12
  replace h12e := h12e.symm
  subst h12e
  try simp only [List.length_cons, List.length_nil, Nat.zero_add] at h12a
  simp -dsimp [hf, h12a]
  refine srs hn ?_
  obtain ⟨x2, h13, hm⟩ := bnd hm
  simp -dsimp [hf, h13, bC h13, rsetI .i64 l2 k.toNat ((aY l1) + 1)]
  refine srs hn ?_
  simp -dsimp [hf]
  refine aV ?_
  cases hm
  refine ⟨.inr rfl, ?_⟩
  refine emr 54 1000006 hk ?_
  exact EE.here (by simp -dsimp [hf])
theorem eB (k : Int) (a : List Int) (a1 cv : List Node) (r : Int × (List Int) × (List Node)) (hm : m_reduce_ordered_1_o_o_o_o k a a1 cv = some r) : GFn Tryz.prog 144 [vI k, vX 1000000, vX 1000002, vX 1000003, vX 1000004] [.box [.own 1000001], .row 1 3 (List.map (rI .i64) a), .box [dR1 a1], .box [.fn 144 [.box 1000000 0, .box 1000002 0, .box 1000003 0, .box 1000004 0]], .box [.own 1000005], .row 2 60 (List.map Node.row cv)] (vI r.1) [some (.box [.own 1000001]), some (.row 1 3 (List.map (rI .i64) r.2.1)), some (.box [dR1 a1]), some (.box [.fn 144 [.box 1000000 0, .box 1000002 0, .box 1000003 0, .box 1000004 0]]), some (.box [.own 1000006]), none, some (.row 2 60 (List.map Node.row r.2.2))] := recN_ind cE (by intro _; intro _; intro _; intro _; intro _; intro hm; cases hm) el recF k a a1 cv r hm
end
theorem c_reduce_ordered (nodes : List Node) (root : Int) (r : List Node) (hm : m_reduce_ordered nodes root = some r) : PureCall Tryz.prog 131 [.u (.one (dR1 nodes)), vI root] (.u (.one (dR1 r))) := by
 refine bN Tryz.func131 Tryz.ntmps131 fun cx hn => ?_
 unfold m_reduce_ordered at hm
 refine srs hn ?_
 simp -dsimp
 refine srs hn ?_
 obtain ⟨l, h1, hm⟩ := bnd hm
 obtain ⟨⟨h1a, h1b, h1c⟩, rfl⟩ := mkL_some h1
 simp -dsimp [h1a, h1c]
 refine srs hn ?_
 simp -dsimp
 refine srs hn ?_
 simp -dsimp
 refine srs hn ?_
 simp -dsimp
 refine Swp.pre (Wk.own0b 6 0 5000 2 60 [.d .nil] (by simp -dsimp) (by rfl) (by decide) (by decide)) ?_
 refine srs hn ?_
 obtain ⟨y, h2, hm⟩ := bnd hm
 simp -dsimp
 refine clg (eB root (List.replicate (aY nodes).toNat 0) nodes [] y h2) [5, 10, 2, 7, 6, 5000] [5001] (by simp -dsimp) (dkL hn) ?_
 simp -dsimp
 refine srs hn ?_
 simp -dsimp
 cases hm
 exact aV ⟨.inr rfl, EE.here (by simp -dsimp)⟩
section
attribute [-simp] List.map_set List.set_set
def bM (cx : Cx) (t : Tree) (a : Int) (mp : List (List UInt8 × Int)) (l : List Node) (to_ : List Int) (x : Node) (_y : List Int) (tt : (List Int)) (ee : Exit) (Z : Env) (O : Sto) : Prop := match tt with
 | next => ee = .exit 2 /\ EE cx (bp [(1, .u (.one (.fn 107 []))), (2, vX 2), (4, vX 4), (5, vX 5), (6, vO 5002), (8, vX 8), (9, vO 23), (15, .u (.one (dR1 t.Nodes))), (16, vI (aY t.Nodes)), (17, vI a)] [(2, .box [dI t.States, dR2 t.Hood, dR1 t.Nodes]), (4, .box [dI 0, .d .nil, .d .nil]), (5, .box [.own 5000, .map 12]), (8, .box [dI x.Level, dL x.Next]), (12, mOb .str kS (uL (L.int .i64)) mp), (23, .row 1 3 (List.map (rI .i64) next)), (5000, .row 2 60 (List.map Node.row l)), (5002, .row 1 3 (List.map (rI .i64) to_))]) Z O
theorem dC (cx : Cx) (hn : cx.n = 69) (t : Tree) (a : Int) (mp : List (List UInt8 × Int)) (l : List Node) (to_ : List Int) (x : Node) (y : List Int) {fu : Nat} {stt : Int × (List Int)} {tt : (List Int)} (hh : b0 (b_reduce_rebuilt_reduce_Reduce_1_2 t a mp l to_ x y) fu stt = some tt) {Z : Env} {O : Sto}
  (hE : bu (fun stt : Int × (List Int) => match stt with | (a1, _next) => [(1, .u (.one (.fn 107 []))), (2, vX 2), (4, vX 4), (5, vX 5), (6, vO 5002), (8, vX 8), (9, vO 23), (15, .u (.one (dR1 t.Nodes))), (16, vI (aY t.Nodes)), (17, vI a), (24, vO 23), (25, vI (aY y)), (26, vI a1)]) (fun stt : Int × (List Int) => match stt with | (_a1, next) => [(2, .box [dI t.States, dR2 t.Hood, dR1 t.Nodes]), (4, .box [dI 0, .d .nil, .d .nil]), (5, .box [.own 5000, .map 12]), (8, .box [dI x.Level, dL x.Next]), (12, mOb .str kS (uL (L.int .i64)) mp), (23, .row 1 3 (List.map (rI .i64) next)), (5000, .row 2 60 (List.map Node.row l)), (5002, .row 1 3 (List.map (rI .i64) to_))]) stt Z O) : Swp Tryz.prog cx (.loop (bL [1, 1, 1, 0, 1, 0, 0, 1, 1, 0, 0, 1, 1, 0, 1, 0, 0] (bn Tryz.f106))) Z O (bM cx t a mp l to_ x y tt) := by
 refine bv hE hh (bM cx t a mp l to_ x y) ?_
 rintro ⟨a1, next⟩ r hm Z O hf
 simp only [Fits, ba, bc, and_true] at hf
 unfold b_reduce_rebuilt_reduce_Reduce_1_2 at hm
 dsimp only at hm
 refine srs hn ?_
 simp -dsimp [hf]
 refine aU ?_
 rcases aZ hm with ⟨c4, hm⟩ | ⟨c4, hm⟩
 ·refine aS (by simp -dsimp) c4 ?_
  refine aT (aP ?_)
  obtain ⟨next1, j8, hm⟩ := bnd hm
  refine scE [(1, .u (.one (.fn 107 []))), (2, vX 2), (4, vX 4), (5, vX 5), (6, vO 5002), (8, vX 8), (9, vO 23), (15, .u (.one (dR1 t.Nodes))), (16, vI (aY t.Nodes)), (17, vI a), (24, vO 23), (25, vI (aY y)), (26, vI a1)] [(2, .box [dI t.States, dR2 t.Hood, dR1 t.Nodes]), (4, .box [dI 0, .d .nil, .d .nil]), (5, .box [.own 5000, .map 12]), (8, .box [dI x.Level, dL x.Next]), (12, mOb .str kS (uL (L.int .i64)) mp), (23, .row 1 3 (List.map (rI .i64) next1)), (5000, .row 2 60 (List.map Node.row l)), (5002, .row 1 3 (List.map (rI .i64) to_))] ?_ fun Z O hf => ?_
  ·replace hm := j8
   clear j8
   refine aW ?_
   refine srs hn ?_
   obtain ⟨x1, h5, hm⟩ := bnd hm
   simp -dsimp [hf, c4, h5, bC h5]
   refine srs hn ?_
   simp -dsimp [hf]
   rcases aZ hm with ⟨c6, hm⟩ | ⟨c6, hm⟩
   ·refine aS (by simp -dsimp) c6 ?_
    refine sr1 hn ?_
    obtain ⟨x2, h7, hm⟩ := bnd hm
    simp -dsimp [hf, h5, bC h5, c6, h7, bC h7, rsetI .i64 next a1.toNat x2]
    refine bk ?_
    cases hm
    exact EE.here (by simp -dsimp [hf])
   ·refine aR (by simp -dsimp) c6 ?_
    refine aT ?_
    refine bk ?_
    cases hm
    exact EE.here (by simp -dsimp [hf, c6])
  ·clear j8
   simp only [Fits, ba, bc, and_true] at hf
   refine sr1 hn ?_
   simp -dsimp [hf]
   cases hm
   refine bh ?_
   exact EE.here (by simp -dsimp [hf])
 ·refine aR (by simp -dsimp) c4 ?_
  refine b9 ?_
  refine aX ?_
  cases hm
  refine bd nofun ?_
  exact ⟨rfl, EE.here (by simp -dsimp [hf, c4])⟩
def bJ (cx : Cx) (t : Tree) (tt : ((List (List UInt8 × Int)) × (List Node) × (List Int))) (ee : Exit) (Z : Env) (O : Sto) : Prop := match tt with
 | (mp, l, to_) => ee = .exit 0 /\ EE cx (bp [(2, vX 2), (4, vX 4), (5, vX 5), (6, vO 5002)] [(2, .box [dI t.States, dR2 t.Hood, dR1 t.Nodes]), (4, .box [dI 0, .d .nil, .d .nil]), (5, .box [.own 5000, .map 12]), (12, mOb .str kS (uL (L.int .i64)) mp), (5000, .row 2 60 (List.map Node.row l)), (5002, .row 1 3 (List.map (rI .i64) to_))]) Z O
theorem dD (cx : Cx) (hn : cx.n = 69) (t : Tree) {fu : Nat} {stt : Int × (List (List UInt8 × Int)) × (List Node) × (List Int)} {tt : ((List (List UInt8 × Int)) × (List Node) × (List Int))} (hh : b0 (b_reduce_rebuilt_reduce_Reduce_1_1 t) fu stt = some tt) {Z : Env} {O : Sto}
  (hE : bu (fun stt : Int × (List (List UInt8 × Int)) × (List Node) × (List Int) => match stt with | (a, _mp, _l, _to_) => [(1, .u (.one (.fn 107 []))), (2, vX 2), (4, vX 4), (5, vX 5), (6, vO 5002), (15, .u (.one (dR1 t.Nodes))), (16, vI (aY t.Nodes)), (17, vI a)]) (fun stt : Int × (List (List UInt8 × Int)) × (List Node) × (List Int) => match stt with | (_a, mp, l, to_) => [(2, .box [dI t.States, dR2 t.Hood, dR1 t.Nodes]), (4, .box [dI 0, .d .nil, .d .nil]), (5, .box [.own 5000, .map 12]), (12, mOb .str kS (uL (L.int .i64)) mp), (5000, .row 2 60 (List.map Node.row l)), (5002, .row 1 3 (List.map (rI .i64) to_))]) stt Z O) : Swp Tryz.prog cx (.loop (bL [1, 1, 1, 0, 1, 0, 0] (bn Tryz.f106))) Z O (bJ cx t tt) := by
 refine bv hE hh (bJ cx t) ?_
 rintro ⟨a, mp, l, to_⟩ r hm Z O hf
 simp only [Fits, ba, bc, and_true] at hf
 unfold b_reduce_rebuilt_reduce_Reduce_1_1 at hm
 dsimp only at hm
 refine srs hn ?_
 simp -dsimp [hf]
 refine aU ?_
 rcases aZ hm with ⟨c1, hm⟩ | ⟨c1, hm⟩
 ·refine aS (by simp -dsimp) c1 ?_
  refine aT (aP (aU (aW ?_)))
  refine srs hn ?_
  obtain ⟨x, h2, hm⟩ := bnd hm
  simp -dsimp [hf, c1, h2]
  refine srs hn ?_
  obtain ⟨y, h3, hm⟩ := bnd hm
  simp -dsimp
  refine callL_new (cw x.Next y h3) (dkL hn) (by decide) ?_
  simp -dsimp
  refine aU ?_
  refine srs hn ?_
  simp -dsimp
  refine aW ?_
  obtain ⟨next, g9, hm⟩ := bnd hm
  refine bo (dC cx hn t a mp l to_ x y g9) (by
    try dsimp only
    exact EE.here (by simp -dsimp [hf])
  ) fun ee Z O x10 => ?_
  unfold bM at x10
  dsimp only at x10
  obtain ⟨rfl, x10⟩ := x10
  refine b8 ?_
  refine aP ?_
  refine see x10 fun Z O hf => ?_
  simp only [Fits, ba, bc, and_true] at hf
  refine Swp.pre (Wk.frz 23 1 3 (List.map (rI .i64) next) (by simp -dsimp [hf])) ?_
  refine sw_midc bm mixed 8 9 10 0 [[0]] [[5001]] [true] none (by rw [hn]; kernel_rfl) bY ?_
  dsimp only [List.take, List.drop, cM, cO, dp, pk, List.cons_append, List.nil_append, List.flatten_cons, List.flatten_nil, bV, bU, List.append_nil]
  obtain ⟨y1, h11, hm⟩ := bnd hm
  simp -dsimp [hf]
  refine bi (c_reduce_Reduce_1 x.Level next y1 h11) ?_
  obtain ⟨y2, h12, hm⟩ := bnd hm
  simp -dsimp [hf]
  refine fy (f5 l mp x.Level y1 y2 h12) [5, 5000, 12] [5001] rfl rfl rfl (by simp -dsimp) rfl (by simp -dsimp [hf]) (by first | rfl | simp) rfl (dkL hn) rfl rfl (by simp) nofun (by simp) ?_
  obtain ⟨l1, h13, hm⟩ := bnd hm
  obtain ⟨h13a, h13e⟩ := bj h13
  replace h13e := h13e.symm
  subst h13e
  try simp only [List.length_cons, List.length_nil, Nat.zero_add] at h13a
  simp -dsimp [hf, h13a]
  refine bk ?_
  refine aP ?_
  refine sr1 hn ?_
  simp -dsimp [hf]
  cases hm
  refine bh ?_
  refine emv 52 5002 ?_
  refine emv 5001 5000 ?_
  exact EE.here (by simp -dsimp [hf])
 ·refine aR (by simp -dsimp) c1 ?_
  refine b9 ?_
  refine aX ?_
  cases hm
  refine bd nofun ?_
  exact ⟨rfl, EE.here (by simp -dsimp [hf, c1])⟩
theorem dN (t r : Tree) (hm : m_reduce_rebuilt_reduce_Reduce_1 t = some r) : PureCall Tryz.prog 106 [.u (.agg [dI t.States, dR2 t.Hood, dR1 t.Nodes]), .u (.one (.fn 107 []))] (.u (.agg [dI r.States, dR2 r.Hood, dR1 r.Nodes])) := by
 refine bN Tryz.func106 Tryz.ntmps106 fun cx hn => ?_
 unfold m_reduce_rebuilt_reduce_Reduce_1 at hm
 refine srs hn ?_
 simp -dsimp
 refine srs hn ?_
 simp -dsimp [(@id (Ob.map .str [] = mOb .str kS (uL (L.int .i64)) ([] : List (List UInt8 × Int))) (mOb_nil .str kS (uL (L.int .i64))))]
 refine srs hn ?_
 simp -dsimp
 refine aU ?_
 refine srs hn ?_
 simp -dsimp
 refine aW ?_
 obtain ⟨⟨mp, l, to_⟩, g14, hm⟩ := bnd hm
 refine bo (dD cx hn t g14) (by
   try dsimp only
   refine EE.step (Wk.own0 6 5002 1 3 (by simp -dsimp) (by decide)) ?_
   refine EE.step (Wk.own0b 5 0 5000 2 60 [.d .nil, .map 12] (by simp -dsimp) (by rfl) (by decide) (by decide)) ?_
   exact EE.here (by simp -dsimp)
 ) fun ee Z O x15 => ?_
 unfold bJ at x15
 dsimp only at x15
 obtain ⟨rfl, x15⟩ := x15
 refine b8 ?_
 refine aP ?_
 refine see x15 fun Z O hf => ?_
 simp only [Fits, ba, bc, and_true] at hf
 refine Swp.pre (Wk.frz 5000 2 60 (List.map Node.row l) (by simp -dsimp [hf])) ?_
 refine sw_drNs bm mixed 14 (by rw [hn]; kernel_rfl) ?_
 dsimp only [List.take, List.drop]
 obtain ⟨y, h16, hm⟩ := bnd hm
 simp -dsimp [hf]
 refine bi (dF t.Hood y h16) ?_
 obtain ⟨x, h17, hm⟩ := bnd hm
 obtain ⟨y1, h18, hm⟩ := bnd hm
 simp -dsimp [hf, h17, bC h17]
 refine bi (c_reduce_ordered l x y1 h18) ?_
 simp -dsimp [hf]
 cases hm
 exact aV ⟨.inr rfl, EE.here (by simp -dsimp [hf])⟩
end
theorem c_reduce_Reduce (t r : Tree) (hm : m_reduce_Reduce t = some r) : PureCall Tryz.prog 67 [.u (.agg [dI t.States, dR2 t.Hood, dR1 t.Nodes])] (.u (.agg [dI r.States, dR2 r.Hood, dR1 r.Nodes])) := by
 refine bN Tryz.func67 Tryz.ntmps67 fun cx hn => ?_
 unfold m_reduce_Reduce at hm
 refine srs hn ?_
 simp -dsimp
 refine aU ?_
 refine srs hn ?_
 obtain ⟨y, h1, hm⟩ := bnd hm
 simp -dsimp
 refine b7 (ft t y h1) (dkL hn) ?_
 simp -dsimp
 rcases aZ hm with ⟨c2, hm⟩ | ⟨c2, hm⟩
 ·refine aS (by simp -dsimp) c2 ?_
  refine srs hn ?_
  simp -dsimp [c2]
  refine aV (aX ?_)
  cases hm
  refine ⟨.inr rfl, ?_⟩
  exact EE.here (by simp -dsimp)
 ·refine aR (by simp -dsimp) c2 ?_
  refine aT (aP ?_)
  refine srs hn ?_
  obtain ⟨y1, h3, hm⟩ := bnd hm
  simp -dsimp [c2]
  refine b7 (dN t y1 h3) (dkL hn) ?_
  simp -dsimp
  cases hm
  exact aV ⟨.inr rfl, EE.here (by simp -dsimp)⟩
theorem ev (states r : Int) (hm : m_lower_Bits states = some r) : PureCall Tryz.prog 55 [vI states] (vI r) := by
 refine bN Tryz.func55 Tryz.ntmps55 fun cx hn => ?_
 unfold m_lower_Bits at hm
 refine srs hn ?_
 simp -dsimp
 refine aU (aW ?_)
 refine srs hn ?_
 simp -dsimp
 rcases aZ hm with ⟨c1, hm⟩ | ⟨c1, hm⟩
 ·refine sct c1 ?_
  refine srs hn ?_
  simp -dsimp [c1]
  refine aV (bz (aX ?_))
  cases hm
  refine ⟨.inr rfl, ?_⟩
  exact EE.here (by simp -dsimp)
 ·refine scf c1 ?_
  obtain ⟨a, j7, hm⟩ := bnd hm
  refine scE [(0, vI states), (6, vT a)] [] ?_ fun Z O hf => ?_
  ·replace hm := j7
   clear j7
   refine srs hn ?_
   simp -dsimp [c1]
   rcases aZ hm with ⟨c2, hm⟩ | ⟨c2, hm⟩
   ·refine aS (by simp -dsimp) c2 ?_
    refine aT (aP ?_)
    cases hm
    exact EE.here (by simp -dsimp [c2])
   ·refine aR (by simp -dsimp) c2 ?_
    refine sr1 hn ?_
    simp -dsimp [c2]
    cases hm
    exact EE.here (by simp -dsimp)
  ·clear j7
   simp only [Fits, ba, bc, and_true] at hf
   rcases aZ hm with ⟨c3, hm⟩ | ⟨c3, hm⟩
   ·refine aS (by simp -dsimp [hf]) c3 ?_
    refine srs hn ?_
    simp -dsimp
    refine aV (bz (aX ?_))
    cases hm
    refine ⟨.inr rfl, ?_⟩
    exact EE.here (by simp -dsimp)
   ·refine aR (by simp -dsimp [hf]) c3 ?_
    obtain ⟨a1, j6, hm⟩ := bnd hm
    refine scE [(11, vT a1)] [] ?_ fun Z O hf => ?_
    ·replace hm := j6
     clear j6
     refine sr1 hn ?_
     rcases aZ hm with ⟨c4, hm⟩ | ⟨c4, hm⟩
     ·simp -dsimp [hf, c4]
      cases hm
      exact EE.here (by simp -dsimp)
     ·simp -dsimp [hf, c4]
      cases hm
      exact EE.here (by simp -dsimp)
    ·clear j6
     simp only [Fits, ba, bc, and_true] at hf
     rcases aZ hm with ⟨c5, hm⟩ | ⟨c5, hm⟩
     ·refine aS (by simp -dsimp [hf]) c5 ?_
      refine srs hn ?_
      simp -dsimp
      refine aV (bz (aX ?_))
      cases hm
      refine ⟨.inr rfl, ?_⟩
      exact EE.here (by simp -dsimp)
     ·refine aR (by simp -dsimp [hf]) c5 ?_
      refine aT ?_
      refine bk ?_
      refine aP ?_
      refine srs hn ?_
      simp -dsimp
      cases hm
      exact aV ⟨.inr rfl, EE.here (by simp -dsimp)⟩
theorem g_unroll_start (t : Tree) (r : Int × (List Point) × (List Node) × Int) (hm : m_unroll_start t = some r) : GFn Tryz.prog 24 [.u (.agg [dI t.States, dR2 t.Hood, dR1 t.Nodes])] [] (vX 1000001) [some (mOb .str kS (uA Tree.row) []), some (.box [dI 0, .d .nil, dI r.1, dR2 r.2.1, dR1 r.2.2.1, dI r.2.2.2, .map 1000000])] := by
 refine bD bm _ Tryz.func24 rfl (by kernel_rfl) (by simp [Tryz.ntmps24]) (by simp) (by first | rfl | simp) (by first | rfl | simp) fun cx hn hk => ?_
 replace hn : cx.n = 11 := hn.trans Tryz.ntmps24
 replace hk : cx.k = 0 := hk
 unfold m_unroll_start at hm
 refine srs hn ?_
 simp -dsimp
 refine dd bm mixed 5 6 6 0 [[0, 1, 2, 3, 4]] [[8]] [] none (by rw [hn]; kernel_rfl) bY ?_
 dsimp only [List.take, List.drop, cM, cO, dp, pk, List.cons_append, List.nil_append, List.flatten_cons, List.flatten_nil, bV, bU, List.append_nil]
 obtain ⟨y, h1, hm⟩ := bnd hm
 simp -dsimp
 refine bi (c_reduce_Reduce t y h1) ?_
 obtain ⟨y1, h2, hm⟩ := bnd hm
 simp -dsimp
 refine bi (ev t.States y1 h2) ?_
 simp -dsimp [(@id (Ob.map .str [] = mOb .str kS (uA Tree.row) ([] : List (List UInt8 × Tree))) (mOb_nil .str kS (uA Tree.row)))]
 refine bi (c_reduce_Reduce t y h1) ?_
 simp -dsimp
 refine bi (ev t.States y1 h2) ?_
 simp -dsimp
 refine aV ?_
 cases hm
 refine ⟨.inr rfl, ?_⟩
 refine emr 8 1000000 hk ?_
 refine emr 10 1000001 hk ?_
 exact EE.here (by simp -dsimp)
def dA (cx : Cx) (_l : List Point) (tt : Int) (ee : Exit) (Z : Env) (O : Sto) : Prop := match tt with
 | r_ => ee = .exit 0 /\ EE cx (bp [(3, vI r_)] []) Z O
theorem l_hood_Radius_1 (cx : Cx) (hn : cx.n = 28) (l : List Point) {fu : Nat} {stt : Int × Int} {tt : Int} (hh : b0 (b_hood_Radius_1 l) fu stt = some tt) {Z : Env} {O : Sto}
  (hE : bu (fun stt : Int × Int => match stt with | (r_, a) => [(3, vI r_), (8, .u (.one (dR2 l))), (9, vI (aY l)), (10, vI a)]) (fun stt : Int × Int => match stt with | (_r_, _a) => []) stt Z O) : Swp Tryz.prog cx (.loop (bL [1, 1, 0, 1, 0, 1, 0, 0] (bn Tryz.f25))) Z O (dA cx l tt) := by
 refine bv hE hh (dA cx l) ?_
 rintro ⟨r_, a⟩ r hm Z O hf
 simp only [Fits, ba, bc, and_true] at hf
 unfold b_hood_Radius_1 at hm
 dsimp only at hm
 refine srs hn ?_
 simp -dsimp [hf]
 refine aU ?_
 rcases aZ hm with ⟨c3, hm⟩ | ⟨c3, hm⟩
 ·refine aS (by simp -dsimp) c3 ?_
  refine aT (aP (aU (aW ?_)))
  refine srs hn ?_
  obtain ⟨x, h4, hm⟩ := bnd hm
  simp -dsimp [hf, c3, h4]
  refine sr1 hn ?_
  simp -dsimp [hf]
  refine bk ?_
  refine aP ?_
  refine sr1 hn ?_
  simp -dsimp [hf]
  cases hm
  refine bh ?_
  exact EE.here (by simp -dsimp [hf])
 ·refine aR (by simp -dsimp) c3 ?_
  refine b9 ?_
  refine aX ?_
  cases hm
  refine bd nofun ?_
  exact ⟨rfl, EE.here (by simp -dsimp [hf, c3])⟩
theorem c_hood_Radius (l : List Point) (r : Int) (hm : m_hood_Radius l = some r) : PureCall Tryz.prog 25 [.u (.one (dR2 l))] (vI r) := by
 refine bN Tryz.func25 Tryz.ntmps25 fun cx hn => ?_
 unfold m_hood_Radius at hm
 refine srs hn ?_
 simp -dsimp
 refine srs hn ?_
 simp -dsimp
 obtain ⟨r_, j7, hm⟩ := bnd hm
 refine scE [(3, vI r_)] [] ?_ fun Z O hf => ?_
 ·replace hm := j7
  clear j7
  refine srs hn ?_
  obtain ⟨y, h1, hm⟩ := bnd hm
  simp -dsimp
  refine b7 (c_hood_Right l y h1) (dkL hn) ?_
  simp -dsimp
  rcases aZ hm with ⟨c2, hm⟩ | ⟨c2, hm⟩
  ·refine aS (by simp -dsimp) c2 ?_
   refine srs hn ?_
   simp -dsimp [c2]
   refine aW ?_
   obtain ⟨r_, g5, hm⟩ := bnd hm
   refine bo (l_hood_Radius_1 cx hn l g5) (by
     try dsimp only
     exact EE.here (by simp -dsimp)
   ) fun ee Z O x6 => ?_
   unfold dA at x6
   dsimp only at x6
   obtain ⟨rfl, x6⟩ := x6
   refine b8 ?_
   refine aP ?_
   cases hm
   refine ee_bind (by rfl) (by rfl) x6 fun Z O hf => ?_
   simp only [Fits, ba, bc, and_true] at hf
   exact EE.here (by simp -dsimp [hf])
  ·refine aR (by simp -dsimp) c2 ?_
   refine aT (aP ?_)
   cases hm
   exact EE.here (by simp -dsimp [c2])
 ·clear j7
  simp only [Fits, ba, bc, and_true] at hf
  refine srs hn ?_
  simp -dsimp [hf]
  cases hm
  exact aV ⟨.inr rfl, EE.here (by simp -dsimp)⟩
def bW (cx : Cx) (ag : List (List Int)) (a8 : Int) (ae : List Point) (aa : List Node) (aj : Int) (ah : List (List UInt8 × Tree)) (tt : ((List Int) × Int)) (ee : Exit) (Z : Env) (O : Sto) : Prop := match tt with
 | (l, ai) => ee = .exit 0 /\ EE cx (bp [(3, vO 5000)] [(5000, .row 1 3 (List.map (rI .i64) l)), (1000000, .box [dI ai, .own 1000001, dI a8, dR2 ae, dR1 aa, dI aj, .map 1000002]), (1000001, .row 1 26 (List.map (rS 1 (rI .i64)) ag)), (1000002, mOb .str kS (uA Tree.row) ah)]) Z O
theorem ez (cx : Cx) (hn : cx.n = 29) (_hk : cx.k = 3) (ag : List (List Int)) (a8 : Int) (ae : List Point) (aa : List Node) (aj : Int) (ah : List (List UInt8 × Tree)) {fu : Nat} {stt : Int × (List Int) × Int} {tt : ((List Int) × Int)} (hh : b0 (b_unroll_builder_fresh_o_1 ag a8 ae aa aj ah) fu stt = some tt) {Z : Env} {O : Sto}
  (hE : bu (fun stt : Int × (List Int) × Int => match stt with | (a, _l, _ai) => [(0, vX 1000000), (3, vO 5000), (7, vI aj), (8, vI a)]) (fun stt : Int × (List Int) × Int => match stt with | (_a, l, ai) => [(5000, .row 1 3 (List.map (rI .i64) l)), (1000000, .box [dI ai, .own 1000001, dI a8, dR2 ae, dR1 aa, dI aj, .map 1000002]), (1000001, .row 1 26 (List.map (rS 1 (rI .i64)) ag)), (1000002, mOb .str kS (uA Tree.row) ah)]) stt Z O) : Swp Tryz.prog cx (.loop (bL [1, 1, 0, 1, 0, 0] (bn Tryz.f69))) Z O (bW cx ag a8 ae aa aj ah tt) := by
 refine bv hE hh (bW cx ag a8 ae aa aj ah) ?_
 rintro ⟨a, l, ai⟩ r hm Z O hf
 simp only [Fits, ba, bc, and_true] at hf
 unfold b_unroll_builder_fresh_o_1 at hm
 dsimp only at hm
 refine srs hn ?_
 simp -dsimp [hf]
 refine aU ?_
 rcases aZ hm with ⟨c1, hm⟩ | ⟨c1, hm⟩
 ·refine aS (by simp -dsimp) c1 ?_
  refine aT (aP (aU (aW ?_)))
  refine srs hn ?_
  simp -dsimp [hf, c1]
  refine sr1 hn ?_
  obtain ⟨l1, h2, hm⟩ := bnd hm
  obtain ⟨h2a, h2e⟩ := bj h2
  replace h2e := h2e.symm
  subst h2e
  try simp only [List.length_cons, List.length_nil, Nat.zero_add] at h2a
  simp -dsimp [hf, h2a]
  refine bk ?_
  refine aP ?_
  refine sr1 hn ?_
  simp -dsimp [hf]
  cases hm
  refine bh ?_
  refine emv 26 5000 ?_
  exact EE.here (by simp -dsimp [hf])
 ·refine aR (by simp -dsimp) c1 ?_
  refine b9 ?_
  refine aX ?_
  cases hm
  refine bd nofun ?_
  exact ⟨rfl, EE.here (by simp -dsimp [hf, c1])⟩
theorem dw (ab : Int) (ag : List (List Int)) (a8 : Int) (ae : List Point) (aa : List Node) (aj : Int) (ah : List (List UInt8 × Tree)) (r : (List Int) × Int) (hm : m_unroll_builder_fresh_o ab ag a8 ae aa aj ah = some r) : GFn Tryz.prog 69 [vX 1000000] [.box [dI ab, .own 1000001, dI a8, dR2 ae, dR1 aa, dI aj, .map 1000002], .row 1 26 (List.map (rS 1 (rI .i64)) ag), mOb .str kS (uA Tree.row) ah] (.u (.one (dL r.1))) [some (.box [dI r.2, .own 1000001, dI a8, dR2 ae, dR1 aa, dI aj, .map 1000002]), some (.row 1 26 (List.map (rS 1 (rI .i64)) ag)), some (mOb .str kS (uA Tree.row) ah)] := by
 refine bD bm _ Tryz.func69 rfl (by kernel_rfl) (by simp [Tryz.ntmps69]) (by simp) (by first | rfl | simp) (by first | rfl | simp) fun cx hn hk => ?_
 replace hn : cx.n = 29 := hn.trans Tryz.ntmps69
 replace hk : cx.k = 3 := hk
 unfold m_unroll_builder_fresh_o at hm
 refine srs hn ?_
 simp -dsimp
 refine srs hn ?_
 simp -dsimp
 refine aU ?_
 refine srs hn ?_
 simp -dsimp
 refine aW ?_
 obtain ⟨⟨l, ai⟩, g3, hm⟩ := bnd hm
 refine bo (ez cx hn hk ag a8 ae aa aj ah g3) (by
   try dsimp only
   refine EE.step (Wk.own0 3 5000 1 3 (by simp -dsimp) (by decide)) ?_
   exact eeh
 ) fun ee Z O x4 => ?_
 unfold bW at x4
 dsimp only at x4
 obtain ⟨rfl, x4⟩ := x4
 refine b8 ?_
 refine aP ?_
 refine see x4 fun Z O hf => ?_
 simp only [Fits, ba, bc, and_true] at hf
 refine srs hn ?_
 simp -dsimp [hf]
 cases hm
 exact aV ⟨.inr rfl, EE.here (by simp -dsimp [hf])⟩
section
attribute [-simp] List.map_set List.set_set
def cT (cx : Cx) (_cv : Int) (_y : List Int) (tt : (List Int)) (ee : Exit) (Z : Env) (O : Sto) : Prop := match tt with
 | l => ee = .exit 0 /\ EE cx (bp [(5, vO 8)] [(8, .row 1 3 (List.map (rI .i64) l))]) Z O
theorem l_unroll_against_1 (cx : Cx) (hn : cx.n = 29) (cv : Int) (y : List Int) {fu : Nat} {stt : Int × (List Int)} {tt : (List Int)} (hh : b0 (b_unroll_against_1 cv y) fu stt = some tt) {Z : Env} {O : Sto}
  (hE : bu (fun stt : Int × (List Int) => match stt with | (a, _l) => [(1, vI cv), (5, vO 8), (10, vI (aY y)), (11, vI a)]) (fun stt : Int × (List Int) => match stt with | (_a, l) => [(8, .row 1 3 (List.map (rI .i64) l))]) stt Z O) : Swp Tryz.prog cx (.loop (bL [1, 1, 0, 1, 0, 0] (bn Tryz.f70))) Z O (cT cx cv y tt) := by
 refine bv hE hh (cT cx cv y) ?_
 rintro ⟨a, l⟩ r hm Z O hf
 simp only [Fits, ba, bc, and_true] at hf
 unfold b_unroll_against_1 at hm
 dsimp only at hm
 refine srs hn ?_
 simp -dsimp [hf]
 refine aU ?_
 rcases aZ hm with ⟨c2, hm⟩ | ⟨c2, hm⟩
 ·refine aS (by simp -dsimp) c2 ?_
  refine aT (aP ?_)
  obtain ⟨l1, j6, hm⟩ := bnd hm
  refine scE [(1, vI cv), (5, vO 8), (10, vI (aY y)), (11, vI a)] [(8, .row 1 3 (List.map (rI .i64) l1))] ?_ fun Z O hf => ?_
  ·replace hm := j6
   clear j6
   refine aW ?_
   refine srs hn ?_
   simp -dsimp [hf, c2]
   refine srs hn ?_
   obtain ⟨n, h3, hm⟩ := bnd hm
   simp -dsimp [hf, h3]
   rcases aZ hm with ⟨c4, hm⟩ | ⟨c4, hm⟩
   ·refine aS (by simp -dsimp) c4 ?_
    refine sr1 hn ?_
    obtain ⟨x, h5, hm⟩ := bnd hm
    simp -dsimp [hf, c4, h5, bC h5, rsetI .i64 l a.toNat (bE .i64 x)]
    refine bk ?_
    cases hm
    exact EE.here (by simp -dsimp [hf])
   ·refine aR (by simp -dsimp) c4 ?_
    refine aT ?_
    refine bk ?_
    cases hm
    exact EE.here (by simp -dsimp [hf, c4])
  ·clear j6
   simp only [Fits, ba, bc, and_true] at hf
   refine sr1 hn ?_
   simp -dsimp [hf]
   cases hm
   refine bh ?_
   exact EE.here (by simp -dsimp [hf])
 ·refine aR (by simp -dsimp) c2 ?_
  refine b9 ?_
  refine aX ?_
  cases hm
  refine bd nofun ?_
  exact ⟨rfl, EE.here (by simp -dsimp [hf, c2])⟩
theorem fh (vars : List Int) (cv : Int) (r : List Int) (hm : m_unroll_against vars cv = some r) : PureCall Tryz.prog 70 [.u (.one (dL vars)), vI cv] (.u (.one (dL r))) := by
 refine bN Tryz.func70 Tryz.ntmps70 fun cx hn => ?_
 unfold m_unroll_against at hm
 refine srs hn ?_
 simp -dsimp
 refine srs hn ?_
 obtain ⟨y, h1, hm⟩ := bnd hm
 simp -dsimp
 refine callL_new (cw vars y h1) (dkL hn) (by decide) ?_
 simp -dsimp
 refine aU ?_
 refine srs hn ?_
 simp -dsimp
 refine aW ?_
 obtain ⟨l, g7, hm⟩ := bnd hm
 refine bo (l_unroll_against_1 cx hn cv y g7) (by
   try dsimp only
   exact EE.here (by simp -dsimp)
 ) fun ee Z O x8 => ?_
 unfold cT at x8
 dsimp only at x8
 obtain ⟨rfl, x8⟩ := x8
 refine b8 ?_
 refine aP ?_
 refine see x8 fun Z O hf => ?_
 simp only [Fits, ba, bc, and_true] at hf
 refine srs hn ?_
 simp -dsimp [hf]
 cases hm
 exact aV ⟨.inr rfl, EE.here (by simp -dsimp [hf])⟩
end
theorem cf (ab : Int) (ag : List (List Int)) (a8 : Int) (ae : List Point) (aa : List Node) (aj : Int) (ah : List (List UInt8 × Tree)) (l : List Int) (r : Unit) (hm : m_unroll_builder_clause_o ab ag a8 ae aa aj ah l = some r) : GFn Tryz.prog 45 [vX 1000000, .u (.one (dL l))] [.box [dI ab, .own 1000001, dI a8, dR2 ae, dR1 aa, dI aj, .map 1000002], .row 1 26 (List.map (rS 1 (rI .i64)) ag), mOb .str kS (uA Tree.row) ah] (.tup []) [some (.box [dI ab, .own 1000003, dI a8, dR2 ae, dR1 aa, dI aj, .map 1000002]), none, some (mOb .str kS (uA Tree.row) ah), some (.row 1 26 (List.map (rS 1 (rI .i64)) (ag ++ [l])))] := by
 refine bD bm _ Tryz.func45 rfl (by kernel_rfl) (by simp [Tryz.ntmps45]) (by simp) (by first | rfl | simp) (by first | rfl | simp) fun cx hn hk => ?_
 replace hn : cx.n = 16 := hn.trans Tryz.ntmps45
 replace hk : cx.k = 3 := hk
 unfold m_unroll_builder_clause_o at hm
 refine sr1 hn ?_
 obtain ⟨l1, h1, hm⟩ := bnd hm
 obtain ⟨h1a, h1e⟩ := bj h1
 replace h1e := h1e.symm
 subst h1e
 try simp only [List.length_cons, List.length_nil, Nat.zero_add] at h1a
 simp -dsimp [h1a]
 cases hm
 try refine ⟨.inl rfl, ?_⟩
 refine emr 12 1000003 hk ?_
 exact EE.here (by simp -dsimp)
end Go.Proofs.YtjfjmdmdkbpdfaaGreatDoor
