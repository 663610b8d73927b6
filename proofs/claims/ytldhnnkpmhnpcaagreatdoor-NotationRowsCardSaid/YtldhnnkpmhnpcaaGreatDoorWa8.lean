/- That the code does what the functions say (made by cc.py). -/
import Derived.Test.YtldhnnkpmhnpcaaGreatDoorWa7
namespace Go.Proofs.YtldhnnkpmhnpcaaGreatDoor
open Go.AM Go.Proofs
attribute [-simp] qlookup bv cb Ob.wipe Ob.ren Ob.frz1 cd
def F_reduce_builder_node_o_1 (cx : Cx) (bnodes : List Node) (bknown : List (List UInt8 × Int)) (level : Int) (next : List Int) (tt : (List Int)) (ee : Exit) (ρ : Env) (σ : Sto) : Prop := match tt with
 | keyv => ee = .exit 0 ∧ EE cx (aK [(0, .u (.one (.box 1000000 0))), (1, .u (.one (.d (.int .i64 level)))), (2, .u (.one (.d (.sl 1 (List.map (rI .i64) next))))), (7, .u (.one (.own 5002)))] [(5002, .row 1 5 (List.map (rI .u8) keyv)), (1000000, .box [.own 1000001, .map 1000002]), (1000001, .row 2 46 (List.map Node.row bnodes)), (1000002, mOb .str kS (uL (L.int .i64)) bknown)]) ρ σ
set_option maxRecDepth 100000 in
theorem l_reduce_builder_node_o_1 (cx : Cx) (hn : cx.n = 68) (_hk : cx.k = 3) (bnodes : List Node) (bknown : List (List UInt8 × Int)) (level : Int) (next : List Int) {fu : Nat} {stt : Int × (List Int)} {tt : (List Int)} (hh : ah (b_reduce_builder_node_o_1 bnodes bknown level next) fu stt = some tt) {ρ : Env} {σ : Sto}
  (hE : aT (fun stt : Int × (List Int) => match stt with | (a, _keyv) => [(0, .u (.one (.box 1000000 0))), (1, .u (.one (.d (.int .i64 level)))), (2, .u (.one (.d (.sl 1 (List.map (rI .i64) next))))), (7, .u (.one (.own 5002))), (14, .u (.one (.d (.sl 1 (List.map (rI .i64) next))))), (15, .u (.one (.d (.int .i64 (al next))))), (16, .u (.one (.d (.int .i64 a))))]) (fun stt : Int × (List Int) => match stt with | (_a, keyv) => [(5002, .row 1 5 (List.map (rI .u8) keyv)), (1000000, .box [.own 1000001, .map 1000002]), (1000001, .row 2 46 (List.map Node.row bnodes)), (1000002, mOb .str kS (uL (L.int .i64)) bknown)]) stt ρ σ) : Swp Tryz.prog cx (.loop (bi [1, 1, 0, 1, 0, 0] (aG Tryz.f98))) ρ σ (F_reduce_builder_node_o_1 cx bnodes bknown level next tt) := by
 refine b3 hE hh (F_reduce_builder_node_o_1 cx bnodes bknown level next) ?_
 rintro ⟨a, keyv⟩ r hm ρ σ hf
 simp only [Fits, ar, ap, and_true] at hf
 unfold b_reduce_builder_node_o_1 at hm
 dsimp only at hm
 refine srs hn ?_
 simp -dsimp [hf]
 refine ae ?_
 rcases aj hm with ⟨c2, hm⟩ | ⟨c2, hm⟩
 ·refine a8 (by simp -dsimp) c2 ?_
  refine ac (a6 (ae (ai ?_)))
  refine srs hn ?_
  obtain ⟨x, h3, hm⟩ := bnd hm
  simp -dsimp [hf, c2, h3]
  refine sr1 hn ?_
  obtain ⟨l, h4, hm⟩ := bnd hm
  obtain ⟨h4a, h4e⟩ := aB h4
  replace h4e := h4e.symm
  subst h4e
  try simp only [List.length_cons, List.length_nil, Nat.zero_add] at h4a
  try simp only [Nat.mul_one, Nat.reduceLeDiff] at h4a
  obtain ⟨y1, h5, hm⟩ := bnd hm
  simp -dsimp [hf, h4a]
  refine aY (bd (keyv ++ [32]) x 10 y1 h5) [22] [5001] rfl rfl rfl (by simp -dsimp) rfl (by simp -dsimp) (by first | rfl | simp) rfl (dkL hn) ?_
  simp -dsimp
  refine aC ?_
  refine a6 ?_
  refine sr1 hn ?_
  simp -dsimp [hf]
  cases hm
  refine ax ?_
  refine EE.step (Wk.move 5001 5002 (by decide) (.inl (by decide))) ?_
  exact EE.here (by simp -dsimp [hf])
 ·refine a7 (by simp -dsimp) c2 ?_
  refine au ?_
  refine ag ?_
  cases hm
  refine aw nofun ?_
  unfold F_reduce_builder_node_o_1
  dsimp only
  refine ⟨rfl, ?_⟩
  exact EE.here (by simp -dsimp [hf, c2])
set_option maxRecDepth 100000 in
theorem g_reduce_builder_node_o (bnodes : List Node) (bknown : List (List UInt8 × Int)) (level : Int) (next : List Int) (r : Int × (List (List UInt8 × Int)) × (List Node)) (hm : m_reduce_builder_node_o bnodes bknown level next = some r) : GFn Tryz.prog 98 [.u (.one (.box 1000000 0)), .u (.one (.d (.int .i64 level))), .u (.one (.d (.sl 1 (List.map (rI .i64) next))))] [.box [.own 1000001, .map 1000002], .row 2 46 (List.map Node.row bnodes), mOb .str kS (uL (L.int .i64)) bknown] (.u (.one (.d (.int .i64 r.1)))) [some (.box [.own 1000003, .map 1000002]), none, some (mOb .str kS (uL (L.int .i64)) r.2.1), some (.row 2 46 (List.map Node.row r.2.2))] := by
 refine bf aM _ Tryz.func98 rfl (by kernel_rfl) (by simp [Tryz.ntmps98]) (by simp) (by first | rfl | simp) (by first | rfl | simp) fun cx hn hk => ?_
 replace hn : cx.n = 68 := hn.trans Tryz.ntmps98
 replace hk : cx.k = 3 := hk
 unfold m_reduce_builder_node_o at hm
 refine srs hn ?_
 simp -dsimp
 refine srs hn ?_
 obtain ⟨y, h1, hm⟩ := bnd hm
 simp -dsimp
 refine aY (g_strconv_AppendInt_N level 10 y h1) [] [5000] rfl rfl rfl (by simp -dsimp) rfl (by simp -dsimp) (by first | rfl | simp) rfl (dkL hn) ?_
 simp -dsimp
 refine ae ?_
 refine srs hn ?_
 simp -dsimp
 refine ai ?_
 obtain ⟨keyv, g6, hm⟩ := bnd hm
 refine aF (l_reduce_builder_node_o_1 cx hn hk bnodes bknown level next g6) (by
   try dsimp only
   refine EE.step (Wk.move 5000 5002 (by decide) (.inl (by decide))) ?_
   exact EE.here (by simp -dsimp)
 ) fun ee ρ σ x7 => ?_
 unfold F_reduce_builder_node_o_1 at x7
 dsimp only at x7
 obtain ⟨rfl, x7⟩ := x7
 refine av ?_
 refine a6 ?_
 refine aV (by rfl) (by rfl) x7 fun ρ σ hf => ?_
 simp only [Fits, ar, ap, and_true] at hf
 refine ae ?_
 refine dV aM mixed (by rw [hn]; kernel_rfl) ?_
 obtain ⟨u, h8, hm⟩ := bnd hm
 simp -dsimp [hf, ca h8, (@id (lkM (db (mOb .str kS (uL (L.int .i64)) bknown) (.str (ofBytes keyv))) true (.one (.d (.int .i64 0))) = some (.tup [.one (.d (.int .i64 (cN bknown (ofBytes keyv) 0))), .one (.d (.bool (bh bknown (ofBytes keyv))))])) (lk_two (ofBytes keyv) 0))]
 refine srs hn ?_
 simp -dsimp
 rcases aj hm with ⟨c9, hm⟩ | ⟨c9, hm⟩
 ·refine a8 (b := (bh bknown (ofBytes keyv))) (by simp -dsimp) c9 ?_
  refine srs hn ?_
  simp -dsimp [c9]
  refine ab (ag ?_)
  cases hm
  refine ⟨.inr rfl, ?_⟩
  refine EE.step (Wk.move 1000001 1000003 (by decide) (.inr (by rw [hk]; decide))) ?_
  exact EE.here (by simp -dsimp [hf])
 ·refine a7 (b := (bh bknown (ofBytes keyv))) (by simp -dsimp) c9 ?_
  refine ac (a6 ?_)
  refine srs hn ?_
  obtain ⟨l, h10, hm⟩ := bnd hm
  obtain ⟨h10a, h10e⟩ := aB h10
  replace h10e := h10e.symm
  subst h10e
  try simp only [List.length_cons, List.length_nil, Nat.zero_add] at h10a
  simp -dsimp [hf, c9, h10a]
  refine eg aM mixed 12 (by rw [hn]; kernel_rfl) ?_
  dsimp only [List.take, List.drop]
  simp -dsimp [hf, ca h8, (@id (dy (mOb .str kS (uL (L.int .i64)) bknown) (.str (ofBytes keyv)) (.one (.d (.int .i64 (aO .i64 ((al bnodes) + 1) 1)))) = mOb .str kS (uL (L.int .i64)) (cH bknown (ofBytes keyv) (aO .i64 ((al bnodes) + 1) 1))) (dO .str kS (uL (L.int .i64)) bknown (ofBytes keyv) (aO .i64 ((al bnodes) + 1) 1)))]
  refine srs hn ?_
  simp -dsimp [hf]
  refine ab ?_
  cases hm
  refine ⟨.inr rfl, ?_⟩
  refine EE.step (Wk.move 47 1000003 (by decide) (.inr (by rw [hk]; decide))) ?_
  exact EE.here (by simp -dsimp)
section
attribute [-simp] List.map_set List.set_set
def H_reduce_ordered_1_o_o_o_o (rcv : (Int → (List Int) → (List Node) → (List Node) → Option (Int × (List Int) × (List Node)))) : Prop := ∀ (k : Int) (a : List Int) (a1 : List Node) (cv : List Node) (r : Int × (List Int) × (List Node)), rcv k a a1 cv = some r → GFn Tryz.prog 154 [.u (.one (.d (.int .i64 k))), .u (.one (.box 1000000 0)), .u (.one (.box 1000002 0)), .u (.one (.box 1000003 0)), .u (.one (.box 1000004 0))] [.box [.own 1000001], .row 1 3 (List.map (rI .i64) a), .box [.d (.sl 2 (List.map Node.row a1))], .box [.fn 154 [.box 1000000 0, .box 1000002 0, .box 1000003 0, .box 1000004 0]], .box [.own 1000005], .row 2 46 (List.map Node.row cv)] (.u (.one (.d (.int .i64 r.1)))) [some (.box [.own 1000001]), some (.row 1 3 (List.map (rI .i64) r.2.1)), some (.box [.d (.sl 2 (List.map Node.row a1))]), some (.box [.fn 154 [.box 1000000 0, .box 1000002 0, .box 1000003 0, .box 1000004 0]]), some (.box [.own 1000006]), none, some (.row 2 46 (List.map Node.row r.2.2))]
def F_reduce_ordered_1_o_o_o_o_1 (cx : Cx) (_rcv : (Int → (List Int) → (List Node) → (List Node) → Option (Int × (List Int) × (List Node)))) (k : Int) (a1 : List Node) (x1 : Node) (_y : List Int) (tt : ((List Int) × (List Node) × (List Int))) (ee : Exit) (ρ : Env) (σ : Sto) : Prop := match tt with
 | (l, l1, l2) => ee = .exit 0 ∧ EE cx (aK [(0, .u (.one (.d (.int .i64 k)))), (1, .u (.one (.box 1000000 0))), (4, .u (.one (.box 1000004 0))), (7, .u (.one (.box 7 0)))] [(7, .box [.d (.int .i64 x1.Level), .own 30]), (30, .row 1 3 (List.map (rI .i64) l)), (5000, .row 2 46 (List.map Node.row l1)), (1000000, .box [.own 1000001]), (1000001, .row 1 3 (List.map (rI .i64) l2)), (1000002, .box [.d (.sl 2 (List.map Node.row a1))]), (1000003, .box [.fn 154 [.box 1000000 0, .box 1000002 0, .box 1000003 0, .box 1000004 0]]), (1000004, .box [.own 5000])]) ρ σ
set_option maxRecDepth 100000 in
theorem l_reduce_ordered_1_o_o_o_o_1 (cx : Cx) (hn : cx.n = 63) (_hk : cx.k = 6) (rcv : (Int → (List Int) → (List Node) → (List Node) → Option (Int × (List Int) × (List Node)))) (k : Int) (a1 : List Node) (x1 : Node) (y : List Int) (hrcv : H_reduce_ordered_1_o_o_o_o rcv) {fu : Nat} {stt : Int × (List Int) × (List Node) × (List Int)} {tt : ((List Int) × (List Node) × (List Int))} (hh : ah (b_reduce_ordered_1_o_o_o_o_1 rcv k a1 x1 y) fu stt = some tt) {ρ : Env} {σ : Sto}
  (hE : aT (fun stt : Int × (List Int) × (List Node) × (List Int) => match stt with | (a2, _l, _l2, _l1) => [(0, .u (.one (.d (.int .i64 k)))), (1, .u (.one (.box 1000000 0))), (3, .u (.one (.box 1000003 0))), (4, .u (.one (.box 1000004 0))), (7, .u (.one (.box 7 0))), (33, .u (.one (.own 30))), (34, .u (.one (.d (.int .i64 (al y))))), (35, .u (.one (.d (.int .i64 a2))))]) (fun stt : Int × (List Int) × (List Node) × (List Int) => match stt with | (_a2, l, l2, l1) => [(7, .box [.d (.int .i64 x1.Level), .own 30]), (30, .row 1 3 (List.map (rI .i64) l)), (5000, .row 2 46 (List.map Node.row l2)), (1000000, .box [.own 1000001]), (1000001, .row 1 3 (List.map (rI .i64) l1)), (1000002, .box [.d (.sl 2 (List.map Node.row a1))]), (1000003, .box [.fn 154 [.box 1000000 0, .box 1000002 0, .box 1000003 0, .box 1000004 0]]), (1000004, .box [.own 5000])]) stt ρ σ) : Swp Tryz.prog cx (.loop (bi [1, 1, 1, 0, 1, 0, 0] (aG Tryz.f154))) ρ σ (F_reduce_ordered_1_o_o_o_o_1 cx rcv k a1 x1 y tt) := by
 refine b3 hE hh (F_reduce_ordered_1_o_o_o_o_1 cx rcv k a1 x1 y) ?_
 rintro ⟨a2, l, l2, l1⟩ r hm ρ σ hf
 simp only [Fits, ar, ap, and_true] at hf
 unfold b_reduce_ordered_1_o_o_o_o_1 at hm
 dsimp only at hm
 refine srs hn ?_
 simp -dsimp [hf]
 refine ae ?_
 rcases aj hm with ⟨c5, hm⟩ | ⟨c5, hm⟩
 ·refine a8 (by simp -dsimp) c5 ?_
  refine ac (a6 ?_)
  obtain ⟨⟨l3, l4, l5⟩, j9, hm⟩ := bnd hm
  refine am [(0, .u (.one (.d (.int .i64 k)))), (1, .u (.one (.box 1000000 0))), (3, .u (.one (.box 1000003 0))), (4, .u (.one (.box 1000004 0))), (7, .u (.one (.box 7 0))), (33, .u (.one (.own 30))), (34, .u (.one (.d (.int .i64 (al y))))), (35, .u (.one (.d (.int .i64 a2))))] [(7, .box [.d (.int .i64 x1.Level), .own 30]), (30, .row 1 3 (List.map (rI .i64) l3)), (5000, .row 2 46 (List.map Node.row l5)), (1000000, .box [.own 1000001]), (1000001, .row 1 3 (List.map (rI .i64) l4)), (1000002, .box [.d (.sl 2 (List.map Node.row a1))]), (1000003, .box [.fn 154 [.box 1000000 0, .box 1000002 0, .box 1000003 0, .box 1000004 0]]), (1000004, .box [.own 5000])] (by rfl) (by rfl) ?_ fun ρ σ hf => ?_
  ·replace hm := j9
   clear j9
   refine ai ?_
   refine srs hn ?_
   obtain ⟨x2, h6, hm⟩ := bnd hm
   simp -dsimp [hf, c5, h6, aN h6]
   refine srs hn ?_
   simp -dsimp [hf]
   rcases aj hm with ⟨c7, hm⟩ | ⟨c7, hm⟩
   ·refine a8 (by simp -dsimp) c7 ?_
    refine sw_midc aM mixed 5 6 6 0 [[0, 1, 2]] [[5001]] [] none (by rw [hn]; kernel_rfl) dY ?_
    dsimp only [List.take, List.drop, dx, dQ, uopsD, pk, List.cons_append, List.nil_append, List.flatten_cons, List.flatten_nil, d3, d8, List.append_nil]
    obtain ⟨y1, h8, hm⟩ := bnd hm
    simp -dsimp [hf, c7]
    refine callE_g (hrcv x2 l1 a1 l2 y1 h8) [1000000, 1000001, 1000002, 1000003, 1000004, 5000] [5001] rfl rfl rfl (by simp -dsimp) rfl (by simp -dsimp [hf]) (by first | rfl | simp) rfl (dkL hn) rfl rfl (by simp) nofun (by simp) ?_
    simp -dsimp [hf, h6, aN h6, rsetI .i64 l a2.toNat y1.1]
    refine aC ?_
    refine a6 ?_
    cases hm
    refine EE.step (Wk.move 5001 5000 (by decide) (.inl (by decide))) ?_
    exact EE.here (by simp -dsimp [hf])
   ·refine a7 (by simp -dsimp) c7 ?_
    refine ac ?_
    refine aC ?_
    refine a6 ?_
    cases hm
    exact EE.here (by simp -dsimp [hf, c7])
  ·clear j9
   simp only [Fits, ar, ap, and_true] at hf
   refine sr1 hn ?_
   simp -dsimp [hf]
   cases hm
   refine ax ?_
   exact EE.here (by simp -dsimp [hf])
 ·refine a7 (by simp -dsimp) c5 ?_
  refine au ?_
  refine ag ?_
  cases hm
  refine aw nofun ?_
  unfold F_reduce_ordered_1_o_o_o_o_1
  dsimp only
  refine ⟨rfl, ?_⟩
  exact EE.here (by simp -dsimp [hf, c5])
theorem fb_reduce_ordered_1_o_o_o_o (rcv : (Int → (List Int) → (List Node) → (List Node) → Option (Int × (List Int) × (List Node)))) (hrcv : H_reduce_ordered_1_o_o_o_o rcv) (k : Int) (a : List Int) (a1 : List Node) (cv : List Node) (r : Int × (List Int) × (List Node)) (hm : mb_reduce_ordered_1_o_o_o_o rcv k a a1 cv = some r) : GFn Tryz.prog 154 [.u (.one (.d (.int .i64 k))), .u (.one (.box 1000000 0)), .u (.one (.box 1000002 0)), .u (.one (.box 1000003 0)), .u (.one (.box 1000004 0))] [.box [.own 1000001], .row 1 3 (List.map (rI .i64) a), .box [.d (.sl 2 (List.map Node.row a1))], .box [.fn 154 [.box 1000000 0, .box 1000002 0, .box 1000003 0, .box 1000004 0]], .box [.own 1000005], .row 2 46 (List.map Node.row cv)] (.u (.one (.d (.int .i64 r.1)))) [some (.box [.own 1000001]), some (.row 1 3 (List.map (rI .i64) r.2.1)), some (.box [.d (.sl 2 (List.map Node.row a1))]), some (.box [.fn 154 [.box 1000000 0, .box 1000002 0, .box 1000003 0, .box 1000004 0]]), some (.box [.own 1000006]), none, some (.row 2 46 (List.map Node.row r.2.2))] := by
 refine bf aM _ Tryz.func154 rfl (by kernel_rfl) (by simp [Tryz.ntmps154]) (by simp) (by first | rfl | simp) (by first | rfl | simp) fun cx hn hk => ?_
 replace hn : cx.n = 63 := hn.trans Tryz.ntmps154
 replace hk : cx.k = 6 := hk
 unfold mb_reduce_ordered_1_o_o_o_o at hm
 refine srs hn ?_
 simp -dsimp
 refine ae ?_
 refine srs hn ?_
 obtain ⟨x, h1, hm⟩ := bnd hm
 simp -dsimp [h1, aN h1]
 rcases aj hm with ⟨c2, hm⟩ | ⟨c2, hm⟩
 ·refine a8 (by simp -dsimp) c2 ?_
  refine srs hn ?_
  simp -dsimp [h1, aN h1, c2]
  refine ab (ag ?_)
  cases hm
  refine ⟨.inr rfl, ?_⟩
  refine EE.step (Wk.move 1000005 1000006 (by decide) (.inr (by rw [hk]; decide))) ?_
  exact EE.here (by simp -dsimp)
 ·refine a7 (by simp -dsimp) c2 ?_
  refine ac (a6 ?_)
  refine sw_midcs aM mixed 10 11 13 12 [[0, 1, 2, 3, 4]] [[30]] [true, false] (some (7, .box [.d (.int .i64 0), .d .nil])) (by rw [hn]; kernel_rfl) (fltT_some 46 _ (by kernel_rfl) rfl rfl rfl (by simp [C.wipe])) ?_
  dsimp only [List.take, List.drop, dx, dQ, uopsD, pk, List.cons_append, List.nil_append, List.flatten_cons, List.flatten_nil, d3, d8, List.append_nil]
  obtain ⟨x1, h3, hm⟩ := bnd hm
  obtain ⟨y, h4, hm⟩ := bnd hm
  simp -dsimp [c2, h3]
  refine callE_new (n_slices_Clone_int_int x1.Next y h4) (dkL hn) (by decide) rfl rfl (by simp) (by rintro _ _ ⟨⟩; simp [C.wipe]) (by simp) ?_
  simp -dsimp [h3]
  refine ae ?_
  refine srs hn ?_
  simp -dsimp
  refine ai ?_
  obtain ⟨⟨l, l1, l2⟩, g10, hm⟩ := bnd hm
  refine aF (l_reduce_ordered_1_o_o_o_o_1 cx hn hk rcv k a1 x1 y hrcv g10) (by
    try dsimp only
    refine EE.step (Wk.move 1000005 5000 (by decide) (.inl (by decide))) ?_
    exact EE.here (by simp -dsimp)
  ) fun ee ρ σ x11 => ?_
  unfold F_reduce_ordered_1_o_o_o_o_1 at x11
  dsimp only at x11
  obtain ⟨rfl, x11⟩ := x11
  refine av ?_
  refine a6 ?_
  refine aV (by rfl) (by rfl) x11 fun ρ σ hf => ?_
  simp only [Fits, ar, ap, and_true] at hf
  refine Swp.pre (Wk.frz 30 1 3 (List.map (rI .i64) l) (by simp -dsimp [hf])) ?_
  refine srs hn ?_
  obtain ⟨l3, h12, hm⟩ := bnd hm
  obtain ⟨h12a, h12e⟩ := aB h12
  replace h12e := h12e.symm
  subst h12e
  try simp only [List.length_cons, List.length_nil, Nat.zero_add] at h12a
  simp -dsimp [hf, h12a]
  refine srs hn ?_
  obtain ⟨x2, h13, hm⟩ := bnd hm
  simp -dsimp [hf, h13, aN h13, rsetI .i64 l2 k.toNat ((al l1) + 1)]
  refine srs hn ?_
  simp -dsimp [hf]
  refine ab ?_
  cases hm
  refine ⟨.inr rfl, ?_⟩
  refine EE.step (Wk.move 54 1000006 (by decide) (.inr (by rw [hk]; decide))) ?_
  exact EE.here (by simp -dsimp [hf])
set_option maxRecDepth 100000 in
theorem g_reduce_ordered_1_o_o_o_o (k : Int) (a : List Int) (a1 : List Node) (cv : List Node) (r : Int × (List Int) × (List Node)) (hm : m_reduce_ordered_1_o_o_o_o k a a1 cv = some r) : GFn Tryz.prog 154 [.u (.one (.d (.int .i64 k))), .u (.one (.box 1000000 0)), .u (.one (.box 1000002 0)), .u (.one (.box 1000003 0)), .u (.one (.box 1000004 0))] [.box [.own 1000001], .row 1 3 (List.map (rI .i64) a), .box [.d (.sl 2 (List.map Node.row a1))], .box [.fn 154 [.box 1000000 0, .box 1000002 0, .box 1000003 0, .box 1000004 0]], .box [.own 1000005], .row 2 46 (List.map Node.row cv)] (.u (.one (.d (.int .i64 r.1)))) [some (.box [.own 1000001]), some (.row 1 3 (List.map (rI .i64) r.2.1)), some (.box [.d (.sl 2 (List.map Node.row a1))]), some (.box [.fn 154 [.box 1000000 0, .box 1000002 0, .box 1000003 0, .box 1000004 0]]), some (.box [.own 1000006]), none, some (.row 2 46 (List.map Node.row r.2.2))] := recN_ind H_reduce_ordered_1_o_o_o_o (by intro _; intro _; intro _; intro _; intro _; intro hm; cases hm) fb_reduce_ordered_1_o_o_o_o recF k a a1 cv r hm
end
theorem f_reduce_ordered (nodes : List Node) (root : Int) (r : List Node) (hm : m_reduce_ordered nodes root = some r) : PFn Tryz.prog 99 [.u (.one (.d (.sl 2 (List.map Node.row nodes)))), .u (.one (.d (.int .i64 root)))] (fun v => v.wk (.u (.one (.d (.sl 2 (List.map Node.row r)))))) := by
 refine aH Tryz.func99 Tryz.ntmps99 rfl (by kernel_rfl) (by simp) fun cx hn => ?_
 unfold m_reduce_ordered at hm
 refine srs hn ?_
 simp -dsimp
 refine srs hn ?_
 obtain ⟨l, h1, hm⟩ := bnd hm
 obtain ⟨⟨h1a, h1b, h1c⟩, rfl⟩ := mkL_some h1
 simp -dsimp [h1a, h1c]
 refine srs hn ?_
 simp -dsimp
 refine srs hn ?_
 simp -dsimp
 refine srs hn ?_
 simp -dsimp
 refine Swp.pre (Wk.own0b 6 0 5000 2 46 [.d .nil] (by simp -dsimp) (by rfl) (by decide) (by decide)) ?_
 refine srs hn ?_
 obtain ⟨y, h2, hm⟩ := bnd hm
 simp -dsimp
 refine aY (g_reduce_ordered_1_o_o_o_o root (List.replicate (al nodes).toNat 0) nodes [] y h2) [5, 10, 2, 7, 6, 5000] [5001] rfl rfl rfl (by simp -dsimp) rfl (by simp -dsimp) (by first | rfl | simp) rfl (dkL hn) ?_
 simp -dsimp
 refine srs hn ?_
 simp -dsimp
 refine ab ?_
 cases hm
 refine ⟨.inr rfl, ?_⟩
 exact EE.here (by simp -dsimp)
theorem c_reduce_ordered (nodes : List Node) (root : Int) (r : List Node) (hm : m_reduce_ordered nodes root = some r) : PureCall Tryz.prog 99 [.u (.one (.d (.sl 2 (List.map Node.row nodes)))), .u (.one (.d (.int .i64 root)))] (.u (.one (.d (.sl 2 (List.map Node.row r))))) := (f_reduce_ordered nodes root r hm).pureW
section
attribute [-simp] List.map_set List.set_set
def F_reduce_rebuilt_reduce_Reduce_1_w_2 (cx : Cx) (t : Tree) (a : Int) (mp : List (List UInt8 × Int)) (l : List Node) (to_ : List Int) (x : Node) (_y : List Int) (tt : (List Int)) (ee : Exit) (ρ : Env) (σ : Sto) : Prop := match tt with
 | next => ee = .exit 2 ∧ EE cx (aK [(1, .u (.one (.fn 95 []))), (2, .u (.one (.box 2 0))), (4, .u (.one (.box 4 0))), (5, .u (.one (.box 5 0))), (6, .u (.one (.own 5002))), (8, .u (.one (.box 8 0))), (9, .u (.one (.own 23))), (15, .u (.one (.d (.sl 2 (List.map Node.row t.Nodes))))), (16, .u (.one (.d (.int .i64 (al t.Nodes))))), (17, .u (.one (.d (.int .i64 a))))] [(2, .box [.d (.int .i64 t.States), .d (.sl 2 (List.map Point.row t.Hood)), .d (.sl 2 (List.map Node.row t.Nodes))]), (4, .box [.d (.int .i64 0), .d .nil, .d .nil]), (5, .box [.own 5000, .map 12]), (8, .box [.d (.int .i64 x.Level), .d (.sl 1 (List.map (rI .i64) x.Next))]), (12, mOb .str kS (uL (L.int .i64)) mp), (23, .row 1 3 (List.map (rI .i64) next)), (5000, .row 2 46 (List.map Node.row l)), (5002, .row 1 3 (List.map (rI .i64) to_))]) ρ σ
set_option maxRecDepth 100000 in
theorem l_reduce_rebuilt_reduce_Reduce_1_w_2 (cx : Cx) (hn : cx.n = 69) (_hk : cx.k = 0) (t : Tree) (a : Int) (mp : List (List UInt8 × Int)) (l : List Node) (to_ : List Int) (x : Node) (y : List Int) {fu : Nat} {stt : Int × (List Int)} {tt : (List Int)} (hh : ah (b_reduce_rebuilt_reduce_Reduce_1_w_2 t a mp l to_ x y) fu stt = some tt) {ρ : Env} {σ : Sto}
  (hE : aT (fun stt : Int × (List Int) => match stt with | (a1, _next) => [(1, .u (.one (.fn 95 []))), (2, .u (.one (.box 2 0))), (4, .u (.one (.box 4 0))), (5, .u (.one (.box 5 0))), (6, .u (.one (.own 5002))), (8, .u (.one (.box 8 0))), (9, .u (.one (.own 23))), (15, .u (.one (.d (.sl 2 (List.map Node.row t.Nodes))))), (16, .u (.one (.d (.int .i64 (al t.Nodes))))), (17, .u (.one (.d (.int .i64 a)))), (24, .u (.one (.own 23))), (25, .u (.one (.d (.int .i64 (al y))))), (26, .u (.one (.d (.int .i64 a1))))]) (fun stt : Int × (List Int) => match stt with | (_a1, next) => [(2, .box [.d (.int .i64 t.States), .d (.sl 2 (List.map Point.row t.Hood)), .d (.sl 2 (List.map Node.row t.Nodes))]), (4, .box [.d (.int .i64 0), .d .nil, .d .nil]), (5, .box [.own 5000, .map 12]), (8, .box [.d (.int .i64 x.Level), .d (.sl 1 (List.map (rI .i64) x.Next))]), (12, mOb .str kS (uL (L.int .i64)) mp), (23, .row 1 3 (List.map (rI .i64) next)), (5000, .row 2 46 (List.map Node.row l)), (5002, .row 1 3 (List.map (rI .i64) to_))]) stt ρ σ) : Swp Tryz.prog cx (.loop (bi [1, 1, 1, 0, 1, 0, 0, 1, 1, 0, 0, 1, 1, 0, 1, 0, 0] (aG Tryz.f94))) ρ σ (F_reduce_rebuilt_reduce_Reduce_1_w_2 cx t a mp l to_ x y tt) := by
 refine b3 hE hh (F_reduce_rebuilt_reduce_Reduce_1_w_2 cx t a mp l to_ x y) ?_
 rintro ⟨a1, next⟩ r hm ρ σ hf
 simp only [Fits, ar, ap, and_true] at hf
 unfold b_reduce_rebuilt_reduce_Reduce_1_w_2 at hm
 dsimp only at hm
 refine srs hn ?_
 simp -dsimp [hf]
 refine ae ?_
 rcases aj hm with ⟨c4, hm⟩ | ⟨c4, hm⟩
 ·refine a8 (by simp -dsimp) c4 ?_
  refine ac (a6 ?_)
  obtain ⟨next1, j8, hm⟩ := bnd hm
  refine am [(1, .u (.one (.fn 95 []))), (2, .u (.one (.box 2 0))), (4, .u (.one (.box 4 0))), (5, .u (.one (.box 5 0))), (6, .u (.one (.own 5002))), (8, .u (.one (.box 8 0))), (9, .u (.one (.own 23))), (15, .u (.one (.d (.sl 2 (List.map Node.row t.Nodes))))), (16, .u (.one (.d (.int .i64 (al t.Nodes))))), (17, .u (.one (.d (.int .i64 a)))), (24, .u (.one (.own 23))), (25, .u (.one (.d (.int .i64 (al y))))), (26, .u (.one (.d (.int .i64 a1))))] [(2, .box [.d (.int .i64 t.States), .d (.sl 2 (List.map Point.row t.Hood)), .d (.sl 2 (List.map Node.row t.Nodes))]), (4, .box [.d (.int .i64 0), .d .nil, .d .nil]), (5, .box [.own 5000, .map 12]), (8, .box [.d (.int .i64 x.Level), .d (.sl 1 (List.map (rI .i64) x.Next))]), (12, mOb .str kS (uL (L.int .i64)) mp), (23, .row 1 3 (List.map (rI .i64) next1)), (5000, .row 2 46 (List.map Node.row l)), (5002, .row 1 3 (List.map (rI .i64) to_))] (by rfl) (by rfl) ?_ fun ρ σ hf => ?_
  ·replace hm := j8
   clear j8
   refine ai ?_
   refine srs hn ?_
   obtain ⟨x1, h5, hm⟩ := bnd hm
   simp -dsimp [hf, c4, h5, aN h5]
   refine srs hn ?_
   simp -dsimp [hf]
   rcases aj hm with ⟨c6, hm⟩ | ⟨c6, hm⟩
   ·refine a8 (by simp -dsimp) c6 ?_
    refine sr1 hn ?_
    obtain ⟨x2, h7, hm⟩ := bnd hm
    simp -dsimp [hf, h5, aN h5, c6, h7, aN h7, rsetI .i64 next a1.toNat x2]
    refine aC ?_
    refine a6 ?_
    cases hm
    exact EE.here (by simp -dsimp [hf])
   ·refine a7 (by simp -dsimp) c6 ?_
    refine ac ?_
    refine aC ?_
    refine a6 ?_
    cases hm
    exact EE.here (by simp -dsimp [hf, c6])
  ·clear j8
   simp only [Fits, ar, ap, and_true] at hf
   refine sr1 hn ?_
   simp -dsimp [hf]
   cases hm
   refine ax ?_
   exact EE.here (by simp -dsimp [hf])
 ·refine a7 (by simp -dsimp) c4 ?_
  refine au ?_
  refine ag ?_
  cases hm
  refine aw nofun ?_
  unfold F_reduce_rebuilt_reduce_Reduce_1_w_2
  dsimp only
  refine ⟨rfl, ?_⟩
  exact EE.here (by simp -dsimp [hf, c4])
def F_reduce_rebuilt_reduce_Reduce_1_w_1 (cx : Cx) (t : Tree) (tt : ((List (List UInt8 × Int)) × (List Node) × (List Int))) (ee : Exit) (ρ : Env) (σ : Sto) : Prop := match tt with
 | (mp, l, to_) => ee = .exit 0 ∧ EE cx (aK [(2, .u (.one (.box 2 0))), (4, .u (.one (.box 4 0))), (5, .u (.one (.box 5 0))), (6, .u (.one (.own 5002)))] [(2, .box [.d (.int .i64 t.States), .d (.sl 2 (List.map Point.row t.Hood)), .d (.sl 2 (List.map Node.row t.Nodes))]), (4, .box [.d (.int .i64 0), .d .nil, .d .nil]), (5, .box [.own 5000, .map 12]), (12, mOb .str kS (uL (L.int .i64)) mp), (5000, .row 2 46 (List.map Node.row l)), (5002, .row 1 3 (List.map (rI .i64) to_))]) ρ σ
set_option maxRecDepth 100000 in
theorem l_reduce_rebuilt_reduce_Reduce_1_w_1 (cx : Cx) (hn : cx.n = 69) (hk : cx.k = 0) (t : Tree) {fu : Nat} {stt : Int × (List (List UInt8 × Int)) × (List Node) × (List Int)} {tt : ((List (List UInt8 × Int)) × (List Node) × (List Int))} (hh : ah (b_reduce_rebuilt_reduce_Reduce_1_w_1 t) fu stt = some tt) {ρ : Env} {σ : Sto}
  (hE : aT (fun stt : Int × (List (List UInt8 × Int)) × (List Node) × (List Int) => match stt with | (a, _mp, _l, _to_) => [(1, .u (.one (.fn 95 []))), (2, .u (.one (.box 2 0))), (4, .u (.one (.box 4 0))), (5, .u (.one (.box 5 0))), (6, .u (.one (.own 5002))), (15, .u (.one (.d (.sl 2 (List.map Node.row t.Nodes))))), (16, .u (.one (.d (.int .i64 (al t.Nodes))))), (17, .u (.one (.d (.int .i64 a))))]) (fun stt : Int × (List (List UInt8 × Int)) × (List Node) × (List Int) => match stt with | (_a, mp, l, to_) => [(2, .box [.d (.int .i64 t.States), .d (.sl 2 (List.map Point.row t.Hood)), .d (.sl 2 (List.map Node.row t.Nodes))]), (4, .box [.d (.int .i64 0), .d .nil, .d .nil]), (5, .box [.own 5000, .map 12]), (12, mOb .str kS (uL (L.int .i64)) mp), (5000, .row 2 46 (List.map Node.row l)), (5002, .row 1 3 (List.map (rI .i64) to_))]) stt ρ σ) : Swp Tryz.prog cx (.loop (bi [1, 1, 1, 0, 1, 0, 0] (aG Tryz.f94))) ρ σ (F_reduce_rebuilt_reduce_Reduce_1_w_1 cx t tt) := by
 refine b3 hE hh (F_reduce_rebuilt_reduce_Reduce_1_w_1 cx t) ?_
 rintro ⟨a, mp, l, to_⟩ r hm ρ σ hf
 simp only [Fits, ar, ap, and_true] at hf
 unfold b_reduce_rebuilt_reduce_Reduce_1_w_1 at hm
 dsimp only at hm
 refine srs hn ?_
 simp -dsimp [hf]
 refine ae ?_
 rcases aj hm with ⟨c1, hm⟩ | ⟨c1, hm⟩
 ·refine a8 (by simp -dsimp) c1 ?_
  refine ac (a6 (ae (ai ?_)))
  refine srs hn ?_
  obtain ⟨x, h2, hm⟩ := bnd hm
  simp -dsimp [hf, c1, h2]
  refine srs hn ?_
  obtain ⟨y, h3, hm⟩ := bnd hm
  simp -dsimp
  refine callL_new (n_slices_Clone_int_int x.Next y h3) (dkL hn) (by decide) ?_
  simp -dsimp
  refine ae ?_
  refine srs hn ?_
  simp -dsimp
  refine ai ?_
  obtain ⟨next, g9, hm⟩ := bnd hm
  refine aF (l_reduce_rebuilt_reduce_Reduce_1_w_2 cx hn hk t a mp l to_ x y g9) (by
    try dsimp only
    exact EE.here (by simp -dsimp [hf])
  ) fun ee ρ σ x10 => ?_
  unfold F_reduce_rebuilt_reduce_Reduce_1_w_2 at x10
  dsimp only at x10
  obtain ⟨rfl, x10⟩ := x10
  refine av ?_
  refine a6 ?_
  refine aV (by rfl) (by rfl) x10 fun ρ σ hf => ?_
  simp only [Fits, ar, ap, and_true] at hf
  refine Swp.pre (Wk.frz 23 1 3 (List.map (rI .i64) next) (by simp -dsimp [hf])) ?_
  refine sw_midc aM mixed 8 9 10 0 [[0]] [[5001]] [true] none (by rw [hn]; kernel_rfl) dY ?_
  dsimp only [List.take, List.drop, dx, dQ, uopsD, pk, List.cons_append, List.nil_append, List.flatten_cons, List.flatten_nil, d3, d8, List.append_nil]
  obtain ⟨y1, h11, hm⟩ := bnd hm
  simp -dsimp [hf]
  refine aD (c_reduce_Reduce_1 x.Level next y1 h11) ?_
  obtain ⟨y2, h12, hm⟩ := bnd hm
  simp -dsimp [hf]
  refine callE_g (g_reduce_builder_node_o l mp x.Level y1 y2 h12) [5, 5000, 12] [5001] rfl rfl rfl (by simp -dsimp) rfl (by simp -dsimp [hf]) (by first | rfl | simp) rfl (dkL hn) rfl rfl (by simp) nofun (by simp) ?_
  obtain ⟨l1, h13, hm⟩ := bnd hm
  obtain ⟨h13a, h13e⟩ := aB h13
  replace h13e := h13e.symm
  subst h13e
  try simp only [List.length_cons, List.length_nil, Nat.zero_add] at h13a
  simp -dsimp [hf, h13a]
  refine aC ?_
  refine a6 ?_
  refine sr1 hn ?_
  simp -dsimp [hf]
  cases hm
  refine ax ?_
  refine EE.step (Wk.move 52 5002 (by decide) (.inl (by decide))) ?_
  refine EE.step (Wk.move 5001 5000 (by decide) (.inl (by decide))) ?_
  exact EE.here (by simp -dsimp [hf])
 ·refine a7 (by simp -dsimp) c1 ?_
  refine au ?_
  refine ag ?_
  cases hm
  refine aw nofun ?_
  unfold F_reduce_rebuilt_reduce_Reduce_1_w_1
  dsimp only
  refine ⟨rfl, ?_⟩
  exact EE.here (by simp -dsimp [hf, c1])
set_option maxRecDepth 100000 in
theorem g_reduce_rebuilt_reduce_Reduce_1_w (t : Tree) (r : List Node) (hm : m_reduce_rebuilt_reduce_Reduce_1_w t = some r) : GFn Tryz.prog 94 [.u (.agg [.d (.int .i64 t.States), .d (.sl 2 (List.map Point.row t.Hood)), .d (.sl 2 (List.map Node.row t.Nodes))]), .u (.one (.fn 95 []))] [] (.u (.agg [.d (.int .i64 t.States), .own 1000000, .d (.sl 2 (List.map Node.row r))])) [some (.row 2 77 (List.map Point.row t.Hood))] := by
 refine bf aM _ Tryz.func94 rfl (by kernel_rfl) (by simp [Tryz.ntmps94]) (by simp) (by first | rfl | simp) (by first | rfl | simp) fun cx hn hk => ?_
 replace hn : cx.n = 69 := hn.trans Tryz.ntmps94
 replace hk : cx.k = 0 := hk
 unfold m_reduce_rebuilt_reduce_Reduce_1_w at hm
 refine srs hn ?_
 simp -dsimp
 refine srs hn ?_
 simp -dsimp [(@id (Ob.map .str [] = mOb .str kS (uL (L.int .i64)) ([] : List (List UInt8 × Int))) (dh .str kS (uL (L.int .i64))))]
 refine srs hn ?_
 simp -dsimp
 refine ae ?_
 refine srs hn ?_
 simp -dsimp
 refine ai ?_
 obtain ⟨⟨mp, l, to_⟩, g14, hm⟩ := bnd hm
 refine aF (l_reduce_rebuilt_reduce_Reduce_1_w_1 cx hn hk t g14) (by
   try dsimp only
   refine EE.step (Wk.own0 6 5002 1 3 (by simp -dsimp) (by decide)) ?_
   refine EE.step (Wk.own0b 5 0 5000 2 46 [.d .nil, .map 12] (by simp -dsimp) (by rfl) (by decide) (by decide)) ?_
   exact EE.here (by simp -dsimp)
 ) fun ee ρ σ x15 => ?_
 unfold F_reduce_rebuilt_reduce_Reduce_1_w_1 at x15
 dsimp only at x15
 obtain ⟨rfl, x15⟩ := x15
 refine av ?_
 refine a6 ?_
 refine aV (by rfl) (by rfl) x15 fun ρ σ hf => ?_
 simp only [Fits, ar, ap, and_true] at hf
 refine Swp.pre (Wk.frz 5000 2 46 (List.map Node.row l) (by simp -dsimp [hf])) ?_
 refine sw_midcs aM mixed 0 0 14 4 [] [] [true, true, true, true, true, true, true, true, true, true, true, true, true, true] (some (58, .row 2 77 (List.map Point.row t.Hood))) (by rw [hn]; kernel_rfl) fltT_row ?_
 dsimp only [List.take, List.drop, dx, dQ, uopsD, pk, List.cons_append, List.nil_append, List.flatten_cons, List.flatten_nil, d3, d8, List.append_nil]
 obtain ⟨l1, h16, hm⟩ := bnd hm
 obtain rfl := ch _ _ h16
 simp -dsimp [hf]
 refine callE_flt (cm _ _ h16) (dkL hn) (by decide) rfl rfl ?_
 obtain ⟨x, h17, hm⟩ := bnd hm
 obtain ⟨y, h18, hm⟩ := bnd hm
 simp -dsimp [hf, h17, aN h17]
 refine aD (c_reduce_ordered l x y h18) ?_
 simp -dsimp [hf]
 refine ab ?_
 cases hm
 refine ⟨.inr rfl, ?_⟩
 refine EE.step (Wk.move 58 1000000 (by decide) (.inr (by rw [hk]; decide))) ?_
 exact EE.here (by simp -dsimp [hf])
end
theorem g_reduce_Reduce_w (t : Tree) (r : Int × (List Node) × (List Point)) (hm : m_reduce_Reduce_w t = some r) : GFn Tryz.prog 39 [.u (.agg [.d (.int .i64 t.States), .d (.sl 2 (List.map Point.row t.Hood)), .d (.sl 2 (List.map Node.row t.Nodes))])] [] (.u (.agg [.d (.int .i64 r.1), .own 1000000, .d (.sl 2 (List.map Node.row r.2.1))])) [some (.row 2 77 (List.map Point.row r.2.2))] := by
 refine bf aM _ Tryz.func39 rfl (by kernel_rfl) (by simp [Tryz.ntmps39]) (by simp) (by first | rfl | simp) (by first | rfl | simp) fun cx hn hk => ?_
 replace hn : cx.n = 9 := hn.trans Tryz.ntmps39
 replace hk : cx.k = 0 := hk
 unfold m_reduce_Reduce_w at hm
 refine srs hn ?_
 simp -dsimp
 refine ae ?_
 refine srs hn ?_
 obtain ⟨y, h1, hm⟩ := bnd hm
 simp -dsimp
 refine aa (c_tree_Right t y h1) (dkL hn) ?_
 simp -dsimp
 rcases aj hm with ⟨c2, hm⟩ | ⟨c2, hm⟩
 ·refine a8 (by simp -dsimp) c2 ?_
  refine srs hn ?_
  simp -dsimp [c2]
  refine ab (ag ?_)
  cases hm
  refine ⟨.inr rfl, ?_⟩
  refine EE.step (Wk.move 5001 1000000 (by decide) (.inr (by rw [hk]; decide))) ?_
  refine EE.step (Wk.own0b 2 1 5001 2 77 [.d (.int .i64 0), .d .nil, .d .nil] (by simp -dsimp) (by rfl) (by decide) (by decide)) ?_
  refine EE.step (Wk.move 5001 1000000 (by decide) (.inr (by rw [hk]; decide))) ?_
  exact EE.here (by simp -dsimp)
 ·refine a7 (by simp -dsimp) c2 ?_
  refine ac (a6 ?_)
  refine srs hn ?_
  obtain ⟨y1, h3, hm⟩ := bnd hm
  simp -dsimp [c2]
  refine aY (g_reduce_rebuilt_reduce_Reduce_1_w t y1 h3) [] [5000] rfl rfl rfl (by simp -dsimp) rfl (by simp -dsimp) (by first | rfl | simp) rfl (dkL hn) ?_
  simp -dsimp
  refine ab ?_
  cases hm
  refine ⟨.inr rfl, ?_⟩
  refine EE.step (Wk.move 5000 1000000 (by decide) (.inr (by rw [hk]; decide))) ?_
  exact EE.here (by simp -dsimp)
theorem f_symmetry_Apply (k : Int) (p : Point) (r : Point) (hm : m_symmetry_Apply k p = some r) : PFn Tryz.prog 40 [.u (.one (.d (.int .i64 k))), .u (.agg [.d (.int .i64 p.X), .d (.int .i64 p.Y)])] (fun v => v.wk (.u (.agg [.d (.int .i64 r.X), .d (.int .i64 r.Y)]))) := by
 refine aH Tryz.func40 Tryz.ntmps40 rfl (by kernel_rfl) (by simp) fun cx hn => ?_
 unfold m_symmetry_Apply at hm
 refine srs hn ?_
 simp -dsimp
 refine srs hn ?_
 obtain ⟨x, h1, hm⟩ := bnd hm
 simp -dsimp [dK h1, g0_get h1]
 refine srs hn ?_
 simp -dsimp [(@id (aok 4 0 = true) rfl), (@id (aok 4 1 = true) rfl), (@id (aok 4 2 = true) rfl), (@id (aok 4 3 = true) rfl)]
 refine ab ?_
 cases hm
 refine ⟨.inr rfl, ?_⟩
 exact EE.here (by simp -dsimp)
theorem c_symmetry_Apply (k : Int) (p : Point) (r : Point) (hm : m_symmetry_Apply k p = some r) : PureCall Tryz.prog 40 [.u (.one (.d (.int .i64 k))), .u (.agg [.d (.int .i64 p.X), .d (.int .i64 p.Y)])] (.u (.agg [.d (.int .i64 r.X), .d (.int .i64 r.Y)])) := (f_symmetry_Apply k p r hm).pureW
def F_reduce_builder_node_o_o_1 (cx : Cx) (bnodes : List Node) (bknown : List (List UInt8 × Int)) (level : Int) (next : List Int) (tt : (List Int)) (ee : Exit) (ρ : Env) (σ : Sto) : Prop := match tt with
 | keyv => ee = .exit 0 ∧ EE cx (aK [(0, .u (.one (.box 1000000 0))), (1, .u (.one (.d (.int .i64 level)))), (2, .u (.one (.own 1000003))), (7, .u (.one (.own 5002)))] [(5002, .row 1 5 (List.map (rI .u8) keyv)), (1000000, .box [.own 1000001, .map 1000002]), (1000001, .row 2 46 (List.map Node.row bnodes)), (1000002, mOb .str kS (uL (L.int .i64)) bknown), (1000003, .row 1 3 (List.map (rI .i64) next))]) ρ σ
set_option maxRecDepth 100000 in
theorem l_reduce_builder_node_o_o_1 (cx : Cx) (hn : cx.n = 68) (_hk : cx.k = 4) (bnodes : List Node) (bknown : List (List UInt8 × Int)) (level : Int) (next : List Int) {fu : Nat} {stt : Int × (List Int)} {tt : (List Int)} (hh : ah (b_reduce_builder_node_o_o_1 bnodes bknown level next) fu stt = some tt) {ρ : Env} {σ : Sto}
  (hE : aT (fun stt : Int × (List Int) => match stt with | (a, _keyv) => [(0, .u (.one (.box 1000000 0))), (1, .u (.one (.d (.int .i64 level)))), (2, .u (.one (.own 1000003))), (7, .u (.one (.own 5002))), (14, .u (.one (.own 1000003))), (15, .u (.one (.d (.int .i64 (al next))))), (16, .u (.one (.d (.int .i64 a))))]) (fun stt : Int × (List Int) => match stt with | (_a, keyv) => [(5002, .row 1 5 (List.map (rI .u8) keyv)), (1000000, .box [.own 1000001, .map 1000002]), (1000001, .row 2 46 (List.map Node.row bnodes)), (1000002, mOb .str kS (uL (L.int .i64)) bknown), (1000003, .row 1 3 (List.map (rI .i64) next))]) stt ρ σ) : Swp Tryz.prog cx (.loop (bi [1, 1, 0, 1, 0, 0] (aG Tryz.f98))) ρ σ (F_reduce_builder_node_o_o_1 cx bnodes bknown level next tt) := by
 refine b3 hE hh (F_reduce_builder_node_o_o_1 cx bnodes bknown level next) ?_
 rintro ⟨a, keyv⟩ r hm ρ σ hf
 simp only [Fits, ar, ap, and_true] at hf
 unfold b_reduce_builder_node_o_o_1 at hm
 dsimp only at hm
 refine srs hn ?_
 simp -dsimp [hf]
 refine ae ?_
 rcases aj hm with ⟨c2, hm⟩ | ⟨c2, hm⟩
 ·refine a8 (by simp -dsimp) c2 ?_
  refine ac (a6 (ae (ai ?_)))
  refine srs hn ?_
  obtain ⟨x, h3, hm⟩ := bnd hm
  simp -dsimp [hf, c2, h3, aN h3]
  refine sr1 hn ?_
  obtain ⟨l, h4, hm⟩ := bnd hm
  obtain ⟨h4a, h4e⟩ := aB h4
  replace h4e := h4e.symm
  subst h4e
  try simp only [List.length_cons, List.length_nil, Nat.zero_add] at h4a
  try simp only [Nat.mul_one, Nat.reduceLeDiff] at h4a
  obtain ⟨y1, h5, hm⟩ := bnd hm
  simp -dsimp [hf, h4a]
  refine aY (bd (keyv ++ [32]) x 10 y1 h5) [22] [5001] rfl rfl rfl (by simp -dsimp) rfl (by simp -dsimp) (by first | rfl | simp) rfl (dkL hn) ?_
  simp -dsimp
  refine aC ?_
  refine a6 ?_
  refine sr1 hn ?_
  simp -dsimp [hf]
  cases hm
  refine ax ?_
  refine EE.step (Wk.move 5001 5002 (by decide) (.inl (by decide))) ?_
  exact EE.here (by simp -dsimp [hf])
 ·refine a7 (by simp -dsimp) c2 ?_
  refine au ?_
  refine ag ?_
  cases hm
  refine aw nofun ?_
  unfold F_reduce_builder_node_o_o_1
  dsimp only
  refine ⟨rfl, ?_⟩
  exact EE.here (by simp -dsimp [hf, c2])
set_option maxRecDepth 100000 in
theorem g_reduce_builder_node_o_o (bnodes : List Node) (bknown : List (List UInt8 × Int)) (level : Int) (next : List Int) (r : Int × (List (List UInt8 × Int)) × (List Node)) (hm : m_reduce_builder_node_o_o bnodes bknown level next = some r) : GFn Tryz.prog 98 [.u (.one (.box 1000000 0)), .u (.one (.d (.int .i64 level))), .u (.one (.own 1000003))] [.box [.own 1000001, .map 1000002], .row 2 46 (List.map Node.row bnodes), mOb .str kS (uL (L.int .i64)) bknown, .row 1 3 (List.map (rI .i64) next)] (.u (.one (.d (.int .i64 r.1)))) [some (.box [.own 1000004, .map 1000002]), none, some (mOb .str kS (uL (L.int .i64)) r.2.1), none, some (.row 2 46 (List.map Node.row r.2.2))] := by
 refine bf aM _ Tryz.func98 rfl (by kernel_rfl) (by simp [Tryz.ntmps98]) (by simp) (by first | rfl | simp) (by first | rfl | simp) fun cx hn hk => ?_
 replace hn : cx.n = 68 := hn.trans Tryz.ntmps98
 replace hk : cx.k = 4 := hk
 unfold m_reduce_builder_node_o_o at hm
 refine srs hn ?_
 simp -dsimp
 refine srs hn ?_
 obtain ⟨y, h1, hm⟩ := bnd hm
 simp -dsimp
 refine aY (g_strconv_AppendInt_N level 10 y h1) [] [5000] rfl rfl rfl (by simp -dsimp) rfl (by simp -dsimp) (by first | rfl | simp) rfl (dkL hn) ?_
 simp -dsimp
 refine ae ?_
 refine srs hn ?_
 simp -dsimp
 refine ai ?_
 obtain ⟨keyv, g6, hm⟩ := bnd hm
 refine aF (l_reduce_builder_node_o_o_1 cx hn hk bnodes bknown level next g6) (by
   try dsimp only
   refine EE.step (Wk.move 5000 5002 (by decide) (.inl (by decide))) ?_
   exact EE.here (by simp -dsimp)
 ) fun ee ρ σ x7 => ?_
 unfold F_reduce_builder_node_o_o_1 at x7
 dsimp only at x7
 obtain ⟨rfl, x7⟩ := x7
 refine av ?_
 refine a6 ?_
 refine aV (by rfl) (by rfl) x7 fun ρ σ hf => ?_
 simp only [Fits, ar, ap, and_true] at hf
 refine ae ?_
 refine dV aM mixed (by rw [hn]; kernel_rfl) ?_
 obtain ⟨u, h8, hm⟩ := bnd hm
 simp -dsimp [hf, ca h8, (@id (lkM (db (mOb .str kS (uL (L.int .i64)) bknown) (.str (ofBytes keyv))) true (.one (.d (.int .i64 0))) = some (.tup [.one (.d (.int .i64 (cN bknown (ofBytes keyv) 0))), .one (.d (.bool (bh bknown (ofBytes keyv))))])) (lk_two (ofBytes keyv) 0))]
 refine srs hn ?_
 simp -dsimp
 rcases aj hm with ⟨c9, hm⟩ | ⟨c9, hm⟩
 ·refine a8 (b := (bh bknown (ofBytes keyv))) (by simp -dsimp) c9 ?_
  refine srs hn ?_
  simp -dsimp [c9]
  refine ab (ag ?_)
  cases hm
  refine ⟨.inr rfl, ?_⟩
  refine EE.step (Wk.move 1000001 1000004 (by decide) (.inr (by rw [hk]; decide))) ?_
  exact EE.here (by simp -dsimp [hf])
 ·refine a7 (b := (bh bknown (ofBytes keyv))) (by simp -dsimp) c9 ?_
  refine ac (a6 ?_)
  refine Swp.pre (Wk.frz 1000003 1 3 (List.map (rI .i64) next) (by simp -dsimp [hf])) ?_
  refine srs hn ?_
  obtain ⟨l, h10, hm⟩ := bnd hm
  obtain ⟨h10a, h10e⟩ := aB h10
  replace h10e := h10e.symm
  subst h10e
  try simp only [List.length_cons, List.length_nil, Nat.zero_add] at h10a
  simp -dsimp [hf, c9, h10a]
  refine eg aM mixed 12 (by rw [hn]; kernel_rfl) ?_
  dsimp only [List.take, List.drop]
  simp -dsimp [hf, ca h8, (@id (dy (mOb .str kS (uL (L.int .i64)) bknown) (.str (ofBytes keyv)) (.one (.d (.int .i64 (aO .i64 ((al bnodes) + 1) 1)))) = mOb .str kS (uL (L.int .i64)) (cH bknown (ofBytes keyv) (aO .i64 ((al bnodes) + 1) 1))) (dO .str kS (uL (L.int .i64)) bknown (ofBytes keyv) (aO .i64 ((al bnodes) + 1) 1)))]
  refine srs hn ?_
  simp -dsimp [hf]
  refine ab ?_
  cases hm
  refine ⟨.inr rfl, ?_⟩
  refine EE.step (Wk.move 47 1000004 (by decide) (.inr (by rw [hk]; decide))) ?_
  exact EE.here (by simp -dsimp)
end Go.Proofs.YtldhnnkpmhnpcaaGreatDoor
