/- That the code does what the functions say (made by cc.py). -/
import Derived.Test.YtldhnnkpmhnpcaaGreatDoorWa8
namespace Go.Proofs.YtldhnnkpmhnpcaaGreatDoor
open Go.AM Go.Proofs
attribute [-simp] qlookup bv cb Ob.wipe Ob.ren Ob.frz1 cd
section
attribute [-simp] List.map_set List.set_set
def F_reduce_swapped_o_w_3 (cx : Cx) (tStates : Int) (tHood : List Point) (tNodes : List Node) (i : Int) (a : Int) (to_ : List Int) (x : Node) (a1 : Int) (mp1 : List (List UInt8 × Int)) (next : List Int) (l3 : List Node) (tt : (List Int)) (ee : Exit) (ρ : Env) (σ : Sto) : Prop := match tt with
 | inner => ee = .exit 5 ∧ EE cx (aK [(2, .u (.one (.box 2 0))), (4, .u (.one (.box 4 0))), (5, .u (.one (.d (.int .i64 (aO .i64 (al tHood) i))))), (6, .u (.one (.box 6 0))), (7, .u (.one (.own 26))), (8, .u (.one (.d (.int .i64 a)))), (9, .u (.one (.box 9 0))), (10, .u (.one (.own 42))), (11, .u (.one (.d (.int .i64 a1)))), (13, .u (.one (.own 62))), (28, .u (.one (.d (.sl 2 (List.map Node.row tNodes))))), (29, .u (.one (.d (.int .i64 (al tNodes))))), (30, .u (.one (.d (.int .i64 a)))), (44, .u (.one (.d (.sl 1 (List.map (rI .i64) x.Next))))), (45, .u (.one (.d (.int .i64 (al x.Next))))), (46, .u (.one (.d (.int .i64 a1))))] [(2, .box [.d (.int .i64 tStates), .own 1000000, .d (.sl 2 (List.map Node.row tNodes))]), (4, .box [.d (.int .i64 0), .d .nil, .d .nil]), (6, .box [.own 5000, .map 21]), (9, .box [.d (.int .i64 x.Level), .d (.sl 1 (List.map (rI .i64) x.Next))]), (21, mOb .str kS (uL (L.int .i64)) mp1), (26, .row 1 3 (List.map (rI .i64) to_)), (42, .row 1 3 (List.map (rI .i64) next)), (62, .row 1 3 (List.map (rI .i64) inner)), (5000, .row 2 46 (List.map Node.row l3)), (1000000, .row 2 77 (List.map Point.row tHood))]) ρ σ
set_option maxRecDepth 100000 in
theorem l_reduce_swapped_o_w_3 (cx : Cx) (hn : cx.n = 137) (_hk : cx.k = 1) (tStates : Int) (tHood : List Point) (tNodes : List Node) (i : Int) (a : Int) (to_ : List Int) (x : Node) (a1 : Int) (mp1 : List (List UInt8 × Int)) (next : List Int) (l3 : List Node) {fu : Nat} {stt : Int × (List Int)} {tt : (List Int)} (hh : ah (b_reduce_swapped_o_w_3 tStates tHood tNodes i a to_ x a1 mp1 next l3) fu stt = some tt) {ρ : Env} {σ : Sto}
  (hE : aT (fun stt : Int × (List Int) => match stt with | (a2, _inner) => [(2, .u (.one (.box 2 0))), (4, .u (.one (.box 4 0))), (5, .u (.one (.d (.int .i64 (aO .i64 (al tHood) i))))), (6, .u (.one (.box 6 0))), (7, .u (.one (.own 26))), (8, .u (.one (.d (.int .i64 a)))), (9, .u (.one (.box 9 0))), (10, .u (.one (.own 42))), (11, .u (.one (.d (.int .i64 a1)))), (13, .u (.one (.own 62))), (28, .u (.one (.d (.sl 2 (List.map Node.row tNodes))))), (29, .u (.one (.d (.int .i64 (al tNodes))))), (30, .u (.one (.d (.int .i64 a)))), (44, .u (.one (.d (.sl 1 (List.map (rI .i64) x.Next))))), (45, .u (.one (.d (.int .i64 (al x.Next))))), (46, .u (.one (.d (.int .i64 a1)))), (64, .u (.one (.d (.sl 1 (List.map (rI .i64) x.Next))))), (65, .u (.one (.d (.int .i64 (al x.Next))))), (66, .u (.one (.d (.int .i64 a2))))]) (fun stt : Int × (List Int) => match stt with | (_a2, inner) => [(2, .box [.d (.int .i64 tStates), .own 1000000, .d (.sl 2 (List.map Node.row tNodes))]), (4, .box [.d (.int .i64 0), .d .nil, .d .nil]), (6, .box [.own 5000, .map 21]), (9, .box [.d (.int .i64 x.Level), .d (.sl 1 (List.map (rI .i64) x.Next))]), (21, mOb .str kS (uL (L.int .i64)) mp1), (26, .row 1 3 (List.map (rI .i64) to_)), (42, .row 1 3 (List.map (rI .i64) next)), (62, .row 1 3 (List.map (rI .i64) inner)), (5000, .row 2 46 (List.map Node.row l3)), (1000000, .row 2 77 (List.map Point.row tHood))]) stt ρ σ) : Swp Tryz.prog cx (.loop (bi [1, 1, 1, 1, 0, 1, 0, 0, 1, 1, 0, 0, 1, 1, 1, 0, 1, 0, 0, 1, 1, 0, 0, 1, 0, 1, 0, 1, 0, 1, 0, 0] (aG Tryz.f42))) ρ σ (F_reduce_swapped_o_w_3 cx tStates tHood tNodes i a to_ x a1 mp1 next l3 tt) := by
 refine b3 hE hh (F_reduce_swapped_o_w_3 cx tStates tHood tNodes i a to_ x a1 mp1 next l3) ?_
 rintro ⟨a2, inner⟩ r hm ρ σ hf
 simp only [Fits, ar, ap, and_true] at hf
 unfold b_reduce_swapped_o_w_3 at hm
 dsimp only at hm
 refine srs hn ?_
 simp -dsimp [hf]
 refine ae ?_
 rcases aj hm with ⟨c10, hm⟩ | ⟨c10, hm⟩
 ·refine a8 (by simp -dsimp) c10 ?_
  refine ac (a6 ?_)
  obtain ⟨inner1, j18, hm⟩ := bnd hm
  refine am [(2, .u (.one (.box 2 0))), (4, .u (.one (.box 4 0))), (5, .u (.one (.d (.int .i64 (aO .i64 (al tHood) i))))), (6, .u (.one (.box 6 0))), (7, .u (.one (.own 26))), (8, .u (.one (.d (.int .i64 a)))), (9, .u (.one (.box 9 0))), (10, .u (.one (.own 42))), (11, .u (.one (.d (.int .i64 a1)))), (13, .u (.one (.own 62))), (28, .u (.one (.d (.sl 2 (List.map Node.row tNodes))))), (29, .u (.one (.d (.int .i64 (al tNodes))))), (30, .u (.one (.d (.int .i64 a)))), (44, .u (.one (.d (.sl 1 (List.map (rI .i64) x.Next))))), (45, .u (.one (.d (.int .i64 (al x.Next))))), (46, .u (.one (.d (.int .i64 a1)))), (64, .u (.one (.d (.sl 1 (List.map (rI .i64) x.Next))))), (65, .u (.one (.d (.int .i64 (al x.Next))))), (66, .u (.one (.d (.int .i64 a2))))] [(2, .box [.d (.int .i64 tStates), .own 1000000, .d (.sl 2 (List.map Node.row tNodes))]), (4, .box [.d (.int .i64 0), .d .nil, .d .nil]), (6, .box [.own 5000, .map 21]), (9, .box [.d (.int .i64 x.Level), .d (.sl 1 (List.map (rI .i64) x.Next))]), (21, mOb .str kS (uL (L.int .i64)) mp1), (26, .row 1 3 (List.map (rI .i64) to_)), (42, .row 1 3 (List.map (rI .i64) next)), (62, .row 1 3 (List.map (rI .i64) inner1)), (5000, .row 2 46 (List.map Node.row l3)), (1000000, .row 2 77 (List.map Point.row tHood))] (by rfl) (by rfl) ?_ fun ρ σ hf => ?_
  ·replace hm := j18
   clear j18
   refine ai ?_
   refine srs hn ?_
   obtain ⟨x2, h11, hm⟩ := bnd hm
   simp -dsimp [hf, c10, h11]
   refine srs hn ?_
   obtain ⟨x3, h12, hm⟩ := bnd hm
   obtain ⟨x4, h13, hm⟩ := bnd hm
   obtain ⟨x5, h14, hm⟩ := bnd hm
   simp -dsimp [hf, h12, h13, h14, aN h14, rsetI .i64 inner a2.toNat x4]
   refine srs hn ?_
   simp -dsimp [hf]
   rcases aj hm with ⟨c15, hm⟩ | ⟨c15, hm⟩
   ·refine a8 (by simp -dsimp) c15 ?_
    refine sr1 hn ?_
    obtain ⟨x6, h16, hm⟩ := bnd hm
    obtain ⟨x7, h17, hm⟩ := bnd hm
    simp -dsimp [hf, c15, h16, aN h16, h17, aN h17, rsetI .i64 (inner.set a2.toNat x4) a2.toNat x7]
    refine aC ?_
    refine a6 ?_
    cases hm
    exact EE.here (by simp -dsimp [hf])
   ·refine a7 (by simp -dsimp) c15 ?_
    refine ac ?_
    refine aC ?_
    refine a6 ?_
    cases hm
    exact EE.here (by simp -dsimp [hf, c15])
  ·clear j18
   simp only [Fits, ar, ap, and_true] at hf
   refine sr1 hn ?_
   simp -dsimp [hf]
   cases hm
   refine ax ?_
   exact EE.here (by simp -dsimp [hf])
 ·refine a7 (by simp -dsimp) c10 ?_
  refine au ?_
  refine ag ?_
  cases hm
  refine aw nofun ?_
  unfold F_reduce_swapped_o_w_3
  dsimp only
  refine ⟨rfl, ?_⟩
  exact EE.here (by simp -dsimp [hf, c10])
def F_reduce_swapped_o_w_2 (cx : Cx) (tStates : Int) (tHood : List Point) (tNodes : List Node) (i : Int) (a : Int) (to_ : List Int) (x : Node) (tt : ((List (List UInt8 × Int)) × (List Int) × (List Node))) (ee : Exit) (ρ : Env) (σ : Sto) : Prop := match tt with
 | (mp1, next, l3) => ee = .exit 2 ∧ EE cx (aK [(2, .u (.one (.box 2 0))), (4, .u (.one (.box 4 0))), (5, .u (.one (.d (.int .i64 (aO .i64 (al tHood) i))))), (6, .u (.one (.box 6 0))), (7, .u (.one (.own 26))), (8, .u (.one (.d (.int .i64 a)))), (9, .u (.one (.box 9 0))), (10, .u (.one (.own 42))), (28, .u (.one (.d (.sl 2 (List.map Node.row tNodes))))), (29, .u (.one (.d (.int .i64 (al tNodes))))), (30, .u (.one (.d (.int .i64 a))))] [(2, .box [.d (.int .i64 tStates), .own 1000000, .d (.sl 2 (List.map Node.row tNodes))]), (4, .box [.d (.int .i64 0), .d .nil, .d .nil]), (6, .box [.own 5000, .map 21]), (9, .box [.d (.int .i64 x.Level), .d (.sl 1 (List.map (rI .i64) x.Next))]), (21, mOb .str kS (uL (L.int .i64)) mp1), (26, .row 1 3 (List.map (rI .i64) to_)), (42, .row 1 3 (List.map (rI .i64) next)), (5000, .row 2 46 (List.map Node.row l3)), (1000000, .row 2 77 (List.map Point.row tHood))]) ρ σ
set_option maxRecDepth 100000 in
theorem l_reduce_swapped_o_w_2 (cx : Cx) (hn : cx.n = 137) (hk : cx.k = 1) (tStates : Int) (tHood : List Point) (tNodes : List Node) (i : Int) (a : Int) (to_ : List Int) (x : Node) {fu : Nat} {stt : Int × (List (List UInt8 × Int)) × (List Int) × (List Node)} {tt : ((List (List UInt8 × Int)) × (List Int) × (List Node))} (hh : ah (b_reduce_swapped_o_w_2 tStates tHood tNodes i a to_ x) fu stt = some tt) {ρ : Env} {σ : Sto}
  (hE : aT (fun stt : Int × (List (List UInt8 × Int)) × (List Int) × (List Node) => match stt with | (a1, _mp1, _next, _l3) => [(2, .u (.one (.box 2 0))), (4, .u (.one (.box 4 0))), (5, .u (.one (.d (.int .i64 (aO .i64 (al tHood) i))))), (6, .u (.one (.box 6 0))), (7, .u (.one (.own 26))), (8, .u (.one (.d (.int .i64 a)))), (9, .u (.one (.box 9 0))), (10, .u (.one (.own 42))), (28, .u (.one (.d (.sl 2 (List.map Node.row tNodes))))), (29, .u (.one (.d (.int .i64 (al tNodes))))), (30, .u (.one (.d (.int .i64 a)))), (44, .u (.one (.d (.sl 1 (List.map (rI .i64) x.Next))))), (45, .u (.one (.d (.int .i64 (al x.Next))))), (46, .u (.one (.d (.int .i64 a1))))]) (fun stt : Int × (List (List UInt8 × Int)) × (List Int) × (List Node) => match stt with | (_a1, mp1, next, l3) => [(2, .box [.d (.int .i64 tStates), .own 1000000, .d (.sl 2 (List.map Node.row tNodes))]), (4, .box [.d (.int .i64 0), .d .nil, .d .nil]), (6, .box [.own 5000, .map 21]), (9, .box [.d (.int .i64 x.Level), .d (.sl 1 (List.map (rI .i64) x.Next))]), (21, mOb .str kS (uL (L.int .i64)) mp1), (26, .row 1 3 (List.map (rI .i64) to_)), (42, .row 1 3 (List.map (rI .i64) next)), (5000, .row 2 46 (List.map Node.row l3)), (1000000, .row 2 77 (List.map Point.row tHood))]) stt ρ σ) : Swp Tryz.prog cx (.loop (bi [1, 1, 1, 1, 0, 1, 0, 0, 1, 1, 0, 0, 1, 1, 1, 0, 1, 0, 0] (aG Tryz.f42))) ρ σ (F_reduce_swapped_o_w_2 cx tStates tHood tNodes i a to_ x tt) := by
 refine b3 hE hh (F_reduce_swapped_o_w_2 cx tStates tHood tNodes i a to_ x) ?_
 rintro ⟨a1, mp1, next, l3⟩ r hm ρ σ hf
 simp only [Fits, ar, ap, and_true] at hf
 unfold b_reduce_swapped_o_w_2 at hm
 dsimp only at hm
 refine srs hn ?_
 simp -dsimp [hf]
 refine ae ?_
 rcases aj hm with ⟨c6, hm⟩ | ⟨c6, hm⟩
 ·refine a8 (by simp -dsimp) c6 ?_
  refine ac (a6 (ae (ai ?_)))
  refine srs hn ?_
  obtain ⟨x1, h7, hm⟩ := bnd hm
  simp -dsimp [hf, c6, h7]
  refine ai ?_
  refine srs hn ?_
  simp -dsimp [hf]
  rcases aj hm with ⟨c8, hm⟩ | ⟨c8, hm⟩
  ·refine a8 (by simp -dsimp) c8 ?_
   refine srs hn ?_
   obtain ⟨l4, h9, hm⟩ := bnd hm
   obtain ⟨⟨h9a, h9b, h9c⟩, rfl⟩ := mkL_some h9
   simp -dsimp [hf, c8, h9a, h9c]
   refine ae ?_
   refine srs hn ?_
   simp -dsimp [hf]
   refine ai ?_
   obtain ⟨inner, g19, hm⟩ := bnd hm
   refine aF (l_reduce_swapped_o_w_3 cx hn hk tStates tHood tNodes i a to_ x a1 mp1 next l3 g19) (by
     try dsimp only
     exact EE.here (by simp -dsimp [hf])
   ) fun ee ρ σ x20 => ?_
   unfold F_reduce_swapped_o_w_3 at x20
   dsimp only at x20
   obtain ⟨rfl, x20⟩ := x20
   refine av ?_
   refine a6 ?_
   refine aV (by rfl) (by rfl) x20 fun ρ σ hf => ?_
   simp only [Fits, ar, ap, and_true] at hf
   refine sr1 hn ?_
   obtain ⟨y, h21, hm⟩ := bnd hm
   simp -dsimp [hf]
   refine aY (g_reduce_builder_node_o_o l3 mp1 (aO .i64 (aO .i64 (al tHood) i) 1) inner y h21) [6, 5000, 21, 62] [5001] rfl rfl rfl (by simp -dsimp) rfl (by simp -dsimp [hf]) (by first | rfl | simp) rfl (dkL hn) ?_
   obtain ⟨x2, h22, hm⟩ := bnd hm
   simp -dsimp [hf, h22, aN h22, rsetI .i64 next a1.toNat y.1]
   refine aC ?_
   refine aC ?_
   refine a6 ?_
   refine sr1 hn ?_
   simp -dsimp [hf]
   cases hm
   refine ax ?_
   refine EE.step (Wk.move 5001 5000 (by decide) (.inl (by decide))) ?_
   exact EE.here (by simp -dsimp [hf])
  ·refine a7 (by simp -dsimp) c8 ?_
   refine srs hn ?_
   simp -dsimp [hf, c8]
   rcases aj hm with ⟨c23, hm⟩ | ⟨c23, hm⟩
   ·refine a8 (by simp -dsimp) c23 ?_
    refine sr1 hn ?_
    obtain ⟨x2, h24, hm⟩ := bnd hm
    obtain ⟨x3, h25, hm⟩ := bnd hm
    simp -dsimp [hf, c23, h24, aN h24, h25, aN h25, rsetI .i64 next a1.toNat x2]
    refine aC ?_
    refine aC ?_
    refine a6 ?_
    refine sr1 hn ?_
    simp -dsimp [hf]
    cases hm
    refine ax ?_
    exact EE.here (by simp -dsimp [hf])
   ·refine a7 (by simp -dsimp) c23 ?_
    refine sr1 hn ?_
    obtain ⟨x2, h26, hm⟩ := bnd hm
    simp -dsimp [hf, c23, h26, aN h26, rsetI .i64 next a1.toNat x1]
    refine aC ?_
    refine aC ?_
    refine a6 ?_
    refine sr1 hn ?_
    simp -dsimp [hf]
    cases hm
    refine ax ?_
    exact EE.here (by simp -dsimp [hf])
 ·refine a7 (by simp -dsimp) c6 ?_
  refine au ?_
  refine ag ?_
  cases hm
  refine aw nofun ?_
  unfold F_reduce_swapped_o_w_2
  dsimp only
  refine ⟨rfl, ?_⟩
  exact EE.here (by simp -dsimp [hf, c6])
def F_reduce_swapped_o_w_1 (cx : Cx) (tStates : Int) (tHood : List Point) (tNodes : List Node) (_i : Int) (tt : ((List (List UInt8 × Int)) × (List Int) × (List Node))) (ee : Exit) (ρ : Env) (σ : Sto) : Prop := match tt with
 | (mp, to_, l1) => ee = .exit 0 ∧ EE cx (aK [(2, .u (.one (.box 2 0))), (4, .u (.one (.box 4 0))), (6, .u (.one (.box 6 0))), (7, .u (.one (.own 26)))] [(2, .box [.d (.int .i64 tStates), .own 1000000, .d (.sl 2 (List.map Node.row tNodes))]), (4, .box [.d (.int .i64 0), .d .nil, .d .nil]), (6, .box [.own 5000, .map 21]), (21, mOb .str kS (uL (L.int .i64)) mp), (26, .row 1 3 (List.map (rI .i64) to_)), (5000, .row 2 46 (List.map Node.row l1)), (1000000, .row 2 77 (List.map Point.row tHood))]) ρ σ
set_option maxRecDepth 100000 in
theorem l_reduce_swapped_o_w_1 (cx : Cx) (hn : cx.n = 137) (hk : cx.k = 1) (tStates : Int) (tHood : List Point) (tNodes : List Node) (i : Int) {fu : Nat} {stt : Int × (List (List UInt8 × Int)) × (List Int) × (List Node)} {tt : ((List (List UInt8 × Int)) × (List Int) × (List Node))} (hh : ah (b_reduce_swapped_o_w_1 tStates tHood tNodes i) fu stt = some tt) {ρ : Env} {σ : Sto}
  (hE : aT (fun stt : Int × (List (List UInt8 × Int)) × (List Int) × (List Node) => match stt with | (a, _mp, _to_, _l1) => [(2, .u (.one (.box 2 0))), (4, .u (.one (.box 4 0))), (5, .u (.one (.d (.int .i64 (aO .i64 (al tHood) i))))), (6, .u (.one (.box 6 0))), (7, .u (.one (.own 26))), (28, .u (.one (.d (.sl 2 (List.map Node.row tNodes))))), (29, .u (.one (.d (.int .i64 (al tNodes))))), (30, .u (.one (.d (.int .i64 a))))]) (fun stt : Int × (List (List UInt8 × Int)) × (List Int) × (List Node) => match stt with | (_a, mp, to_, l1) => [(2, .box [.d (.int .i64 tStates), .own 1000000, .d (.sl 2 (List.map Node.row tNodes))]), (4, .box [.d (.int .i64 0), .d .nil, .d .nil]), (6, .box [.own 5000, .map 21]), (21, mOb .str kS (uL (L.int .i64)) mp), (26, .row 1 3 (List.map (rI .i64) to_)), (5000, .row 2 46 (List.map Node.row l1)), (1000000, .row 2 77 (List.map Point.row tHood))]) stt ρ σ) : Swp Tryz.prog cx (.loop (bi [1, 1, 1, 1, 0, 1, 0, 0] (aG Tryz.f42))) ρ σ (F_reduce_swapped_o_w_1 cx tStates tHood tNodes i tt) := by
 refine b3 hE hh (F_reduce_swapped_o_w_1 cx tStates tHood tNodes i) ?_
 rintro ⟨a, mp, to_, l1⟩ r hm ρ σ hf
 simp only [Fits, ar, ap, and_true] at hf
 unfold b_reduce_swapped_o_w_1 at hm
 dsimp only at hm
 refine srs hn ?_
 simp -dsimp [hf]
 refine ae ?_
 rcases aj hm with ⟨c2, hm⟩ | ⟨c2, hm⟩
 ·refine a8 (by simp -dsimp) c2 ?_
  refine ac (a6 (ae (ai ?_)))
  refine srs hn ?_
  obtain ⟨x, h3, hm⟩ := bnd hm
  simp -dsimp [hf, c2, h3]
  refine ae ?_
  refine srs hn ?_
  simp -dsimp [hf]
  rcases aj hm with ⟨c4, hm⟩ | ⟨c4, hm⟩
  ·refine a8 (by simp -dsimp) c4 ?_
   refine au ?_
   refine ag ?_
   refine av ?_
   refine a6 ?_
   refine sr1 hn ?_
   simp -dsimp [hf, c4]
   cases hm
   refine ax ?_
   exact EE.here (by simp -dsimp [hf])
  ·refine a7 (by simp -dsimp) c4 ?_
   refine ac (a6 ?_)
   refine srs hn ?_
   obtain ⟨l2, h5, hm⟩ := bnd hm
   obtain ⟨⟨h5a, h5b, h5c⟩, rfl⟩ := mkL_some h5
   simp -dsimp [hf, c4, h5a, h5c]
   refine ae ?_
   refine srs hn ?_
   simp -dsimp
   refine ai ?_
   obtain ⟨⟨mp1, next, l3⟩, g27, hm⟩ := bnd hm
   refine aF (l_reduce_swapped_o_w_2 cx hn hk tStates tHood tNodes i a to_ x g27) (by
     try dsimp only
     exact EE.here (by simp -dsimp [hf])
   ) fun ee ρ σ x28 => ?_
   unfold F_reduce_swapped_o_w_2 at x28
   dsimp only at x28
   obtain ⟨rfl, x28⟩ := x28
   refine av ?_
   refine a6 ?_
   refine aV (by rfl) (by rfl) x28 fun ρ σ hf => ?_
   simp only [Fits, ar, ap, and_true] at hf
   refine sr1 hn ?_
   obtain ⟨y, h29, hm⟩ := bnd hm
   simp -dsimp [hf]
   refine aY (g_reduce_builder_node_o_o l3 mp1 x.Level next y h29) [6, 5000, 21, 42] [5002] rfl rfl rfl (by simp -dsimp) rfl (by simp -dsimp [hf]) (by first | rfl | simp) rfl (dkL hn) ?_
   obtain ⟨x1, h30, hm⟩ := bnd hm
   simp -dsimp [hf, h30, aN h30, rsetI .i64 to_ a.toNat y.1]
   refine aC ?_
   refine a6 ?_
   refine sr1 hn ?_
   simp -dsimp [hf]
   cases hm
   refine ax ?_
   refine EE.step (Wk.move 5002 5000 (by decide) (.inl (by decide))) ?_
   exact EE.here (by simp -dsimp [hf])
 ·refine a7 (by simp -dsimp) c2 ?_
  refine au ?_
  refine ag ?_
  cases hm
  refine aw nofun ?_
  unfold F_reduce_swapped_o_w_1
  dsimp only
  refine ⟨rfl, ?_⟩
  exact EE.here (by simp -dsimp [hf, c2])
set_option maxRecDepth 100000 in
theorem g_reduce_swapped_o_w (tStates : Int) (tHood : List Point) (tNodes : List Node) (i : Int) (r : List Node) (hm : m_reduce_swapped_o_w tStates tHood tNodes i = some r) : GFn Tryz.prog 42 [.u (.agg [.d (.int .i64 tStates), .own 1000000, .d (.sl 2 (List.map Node.row tNodes))]), .u (.one (.d (.int .i64 i)))] [.row 2 77 (List.map Point.row tHood)] (.u (.agg [.d (.int .i64 tStates), .own 1000000, .d (.sl 2 (List.map Node.row r))])) [some (.row 2 77 (List.map Point.row tHood))] := by
 refine bf aM _ Tryz.func42 rfl (by kernel_rfl) (by simp [Tryz.ntmps42]) (by simp) (by first | rfl | simp) (by first | rfl | simp) fun cx hn hk => ?_
 replace hn : cx.n = 137 := hn.trans Tryz.ntmps42
 replace hk : cx.k = 1 := hk
 unfold m_reduce_swapped_o_w at hm
 refine srs hn ?_
 simp -dsimp
 refine srs hn ?_
 simp -dsimp
 refine srs hn ?_
 simp -dsimp [(@id (Ob.map .str [] = mOb .str kS (uL (L.int .i64)) ([] : List (List UInt8 × Int))) (dh .str kS (uL (L.int .i64))))]
 refine srs hn ?_
 obtain ⟨l, h1, hm⟩ := bnd hm
 obtain ⟨⟨h1a, h1b, h1c⟩, rfl⟩ := mkL_some h1
 simp -dsimp [h1a, h1c]
 refine ae ?_
 refine srs hn ?_
 simp -dsimp
 refine ai ?_
 obtain ⟨⟨mp, to_, l1⟩, g31, hm⟩ := bnd hm
 refine aF (l_reduce_swapped_o_w_1 cx hn hk tStates tHood tNodes i g31) (by
   try dsimp only
   refine EE.step (Wk.own0b 6 0 5000 2 46 [.d .nil, .map 21] (by simp -dsimp) (by rfl) (by decide) (by decide)) ?_
   exact EE.here (by simp -dsimp)
 ) fun ee ρ σ x32 => ?_
 unfold F_reduce_swapped_o_w_1 at x32
 dsimp only at x32
 obtain ⟨rfl, x32⟩ := x32
 refine av ?_
 refine a6 ?_
 refine aV (by rfl) (by rfl) x32 fun ρ σ hf => ?_
 simp only [Fits, ar, ap, and_true] at hf
 refine Swp.pre (Wk.frz 5000 2 46 (List.map Node.row l1) (by simp -dsimp [hf])) ?_
 refine eg aM mixed 13 (by rw [hn]; kernel_rfl) ?_
 dsimp only [List.take, List.drop]
 obtain ⟨x, h33, hm⟩ := bnd hm
 obtain ⟨y, h34, hm⟩ := bnd hm
 simp -dsimp [hf, h33, aN h33]
 refine aD (c_reduce_ordered l1 x y h34) ?_
 simp -dsimp [hf]
 refine ab ?_
 cases hm
 refine ⟨.inr rfl, ?_⟩
 exact EE.here (by simp -dsimp [hf])
end
theorem f_reduce_sized (t : Tree) (r : Tree × Int) (hm : m_reduce_sized t = some r) : PFn Tryz.prog 43 [.u (.agg [.d (.int .i64 t.States), .d (.sl 2 (List.map Point.row t.Hood)), .d (.sl 2 (List.map Node.row t.Nodes))])] (fun v => v.wk (.tup [.agg [.d (.int .i64 r.1.States), .d (.sl 2 (List.map Point.row r.1.Hood)), .d (.sl 2 (List.map Node.row r.1.Nodes))], .one (.d (.int .i64 r.2))])) := by
 refine aH Tryz.func43 Tryz.ntmps43 rfl (by kernel_rfl) (by simp) fun cx hn => ?_
 unfold m_reduce_sized at hm
 refine srs hn ?_
 simp -dsimp
 refine ae ?_
 refine srs hn ?_
 simp -dsimp
 rcases aj hm with ⟨c1, hm⟩ | ⟨c1, hm⟩
 ·refine a8 (by simp -dsimp) c1 ?_
  refine srs hn ?_
  simp -dsimp [c1]
  refine ab (ag ?_)
  cases hm
  refine ⟨.inr rfl, ?_⟩
  exact EE.here (by simp -dsimp)
 ·refine a7 (by simp -dsimp) c1 ?_
  refine ac (a6 ?_)
  refine srs hn ?_
  simp -dsimp [c1]
  refine ab ?_
  cases hm
  refine ⟨.inr rfl, ?_⟩
  exact EE.here (by simp -dsimp)
theorem c_reduce_sized (t : Tree) (r : Tree × Int) (hm : m_reduce_sized t = some r) : PureCall Tryz.prog 43 [.u (.agg [.d (.int .i64 t.States), .d (.sl 2 (List.map Point.row t.Hood)), .d (.sl 2 (List.map Node.row t.Nodes))])] (.tup [.agg [.d (.int .i64 r.1.States), .d (.sl 2 (List.map Point.row r.1.Hood)), .d (.sl 2 (List.map Node.row r.1.Nodes))], .one (.d (.int .i64 r.2))]) := (f_reduce_sized t r hm).pureW
section
attribute [-simp] List.map_set List.set_set
def F_reduce_Turn_1 (cx : Cx) (_k : Int) (y1 : Int × (List Node) × (List Point)) (tt : (List Point)) (ee : Exit) (ρ : Env) (σ : Sto) : Prop := match tt with
 | l => ee = .exit 0 ∧ EE cx (aK [(4, .u (.one (.box 4 0))), (6, .u (.one (.box 6 0)))] [(4, .box [.d (.int .i64 0), .d .nil, .d .nil]), (6, .box [.d (.int .i64 y1.1), .own 5000, .d (.sl 2 (List.map Node.row y1.2.1))]), (5000, .row 2 77 (List.map Point.row l))]) ρ σ
set_option maxRecDepth 100000 in
theorem l_reduce_Turn_1 (cx : Cx) (hn : cx.n = 83) (k : Int) (y1 : Int × (List Node) × (List Point)) {fu : Nat} {stt : Int × (List Point)} {tt : (List Point)} (hh : ah (b_reduce_Turn_1 k y1) fu stt = some tt) {ρ : Env} {σ : Sto}
  (hE : aT (fun stt : Int × (List Point) => match stt with | (a, _l) => [(0, .u (.one (.d (.int .i64 k)))), (4, .u (.one (.box 4 0))), (6, .u (.one (.box 6 0))), (18, .u (.one (.own 5000))), (19, .u (.one (.d (.int .i64 (al y1.2.2))))), (20, .u (.one (.d (.int .i64 a))))]) (fun stt : Int × (List Point) => match stt with | (_a, l) => [(4, .box [.d (.int .i64 0), .d .nil, .d .nil]), (6, .box [.d (.int .i64 y1.1), .own 5000, .d (.sl 2 (List.map Node.row y1.2.1))]), (5000, .row 2 77 (List.map Point.row l))]) stt ρ σ) : Swp Tryz.prog cx (.loop (bi [1, 1, 1, 0, 1, 0, 0] (aG Tryz.f18))) ρ σ (F_reduce_Turn_1 cx k y1 tt) := by
 refine b3 hE hh (F_reduce_Turn_1 cx k y1) ?_
 rintro ⟨a, l⟩ r hm ρ σ hf
 simp only [Fits, ar, ap, and_true] at hf
 unfold b_reduce_Turn_1 at hm
 dsimp only at hm
 refine srs hn ?_
 simp -dsimp [hf]
 refine ae ?_
 rcases aj hm with ⟨c4, hm⟩ | ⟨c4, hm⟩
 ·refine a8 (by simp -dsimp) c4 ?_
  refine ac (a6 (ae (ai ?_)))
  refine srs hn ?_
  obtain ⟨x, h5, hm⟩ := bnd hm
  simp -dsimp [hf, c4, h5, aN h5]
  refine sw_drN aM mixed 6 (by rw [hn]; kernel_rfl) ?_
  dsimp only [List.take, List.drop]
  obtain ⟨y2, h6, hm⟩ := bnd hm
  simp -dsimp [hf]
  refine aD (c_symmetry_Apply k x y2 h6) ?_
  simp -dsimp [hf, h5, aN h5, Point.rset l a.toNat y2.X y2.Y]
  refine aC ?_
  refine a6 ?_
  refine sr1 hn ?_
  simp -dsimp [hf]
  cases hm
  refine ax ?_
  exact EE.here (by simp -dsimp [hf])
 ·refine a7 (by simp -dsimp) c4 ?_
  refine au ?_
  refine ag ?_
  cases hm
  refine aw nofun ?_
  unfold F_reduce_Turn_1
  dsimp only
  refine ⟨rfl, ?_⟩
  exact EE.here (by simp -dsimp [hf, c4])
def F_reduce_Turn_3 (cx : Cx) (y1 : Int × (List Node) × (List Point)) (tt : (Bool × (List Node) × (List Point))) (ee : Exit) (ρ : Env) (σ : Sto) : Prop := match tt with
 | (sorted1, uNodes1, l2) => ee = .exit 4 ∧ EE cx (aK [(4, .u (.one (.box 4 0))), (6, .u (.one (.box 6 0))), (9, .u (.one (.d (.bool sorted1))))] [(4, .box [.d (.int .i64 0), .d .nil, .d .nil]), (6, .box [.d (.int .i64 y1.1), .own 5000, .d (.sl 2 (List.map Node.row uNodes1))]), (5000, .row 2 77 (List.map Point.row l2))]) ρ σ
set_option maxRecDepth 100000 in
theorem l_reduce_Turn_3 (cx : Cx) (hn : cx.n = 83) (y1 : Int × (List Node) × (List Point)) {fu : Nat} {stt : Bool × Int × (List Node) × (List Point)} {tt : (Bool × (List Node) × (List Point))} (hh : ah (b_reduce_Turn_3 y1) fu stt = some tt) {ρ : Env} {σ : Sto}
  (hE : aT (fun stt : Bool × Int × (List Node) × (List Point) => match stt with | (sorted1, i, _uNodes1, _l2) => [(4, .u (.one (.box 4 0))), (6, .u (.one (.box 6 0))), (9, .u (.one (.d (.bool sorted1)))), (10, .u (.one (.d (.int .i64 i))))]) (fun stt : Bool × Int × (List Node) × (List Point) => match stt with | (_sorted1, _i, uNodes1, l2) => [(4, .box [.d (.int .i64 0), .d .nil, .d .nil]), (6, .box [.d (.int .i64 y1.1), .own 5000, .d (.sl 2 (List.map Node.row uNodes1))]), (5000, .row 2 77 (List.map Point.row l2))]) stt ρ σ) : Swp Tryz.prog cx (.loop (bi [1, 1, 1, 1, 0, 1, 0, 0, 1, 0, 1, 1, 0, 0] (aG Tryz.f18))) ρ σ (F_reduce_Turn_3 cx y1 tt) := by
 refine b3 hE hh (F_reduce_Turn_3 cx y1) ?_
 rintro ⟨sorted1, i, uNodes1, l2⟩ r hm ρ σ hf
 simp only [Fits, ar, ap, and_true] at hf
 unfold b_reduce_Turn_3 at hm
 dsimp only at hm
 refine ae ?_
 refine srs hn ?_
 simp -dsimp [hf]
 rcases aj hm with ⟨c10, hm⟩ | ⟨c10, hm⟩
 ·refine a8 (by simp -dsimp) c10 ?_
  refine ac (a6 ?_)
  obtain ⟨⟨sorted2, uNodes2, l3⟩, j17, hm⟩ := bnd hm
  refine am [(4, .u (.one (.box 4 0))), (6, .u (.one (.box 6 0))), (9, .u (.one (.d (.bool sorted2)))), (10, .u (.one (.d (.int .i64 i))))] [(4, .box [.d (.int .i64 0), .d .nil, .d .nil]), (6, .box [.d (.int .i64 y1.1), .own 5000, .d (.sl 2 (List.map Node.row uNodes2))]), (5000, .row 2 77 (List.map Point.row l3))] (by rfl) (by rfl) ?_ fun ρ σ hf => ?_
  ·replace hm := j17
   clear j17
   refine ai ?_
   refine dV aM mixed (by rw [hn]; kernel_rfl) ?_
   obtain ⟨x, h11, hm⟩ := bnd hm
   obtain ⟨x1, h12, hm⟩ := bnd hm
   obtain ⟨y2, h13, hm⟩ := bnd hm
   simp -dsimp [hf, c10, h11, aN h11, h12, aN h12]
   refine aD (c_point_Compare x x1 y2 h13) ?_
   simp -dsimp
   rcases aj hm with ⟨c14, hm⟩ | ⟨c14, hm⟩
   ·refine a8 (by simp -dsimp) c14 ?_
    refine srs hn ?_
    obtain ⟨y3, h15, hm⟩ := bnd hm
    simp -dsimp [hf, c14]
    refine aY (g_reduce_swapped_o_w y1.1 l2 uNodes1 (aO .i64 i 1) y3 h15) [5000] [] rfl rfl rfl (by simp -dsimp) rfl (by simp -dsimp [hf]) (by first | rfl | simp) rfl (dkL hn) ?_
    simp -dsimp [hf]
    refine sw_midcs aM mixed 19 20 20 0 [[4, 5, 6]] [[]] [] none (by rw [hn]; kernel_rfl) dY ?_
    dsimp only [List.take, List.drop, dx, dQ, uopsD, pk, List.cons_append, List.nil_append, List.flatten_cons, List.flatten_nil, d3, d8, List.append_nil]
    obtain ⟨x2, h16, hm⟩ := bnd hm
    simp -dsimp [hf, h11, aN h11, h12, aN h12, Point.rset l2 (aO .i64 i 1).toNat x1.X x1.Y, h16, aN h16, Point.rset (l2.set (aO .i64 i 1).toNat x1) i.toNat x.X x.Y]
    refine sr1 hn ?_
    simp -dsimp
    refine aC ?_
    refine a6 ?_
    cases hm
    exact EE.here (by simp -dsimp [hf])
   ·refine a7 (by simp -dsimp) c14 ?_
    refine ac ?_
    refine aC ?_
    refine a6 ?_
    cases hm
    exact EE.here (by simp -dsimp [hf, c14])
  ·clear j17
   simp only [Fits, ar, ap, and_true] at hf
   refine sr1 hn ?_
   simp -dsimp [hf]
   cases hm
   refine ax ?_
   exact EE.here (by simp -dsimp [hf])
 ·refine a7 (by simp -dsimp) c10 ?_
  refine au ?_
  refine ag ?_
  cases hm
  refine aw nofun ?_
  unfold F_reduce_Turn_3
  dsimp only
  refine ⟨rfl, ?_⟩
  exact EE.here (by simp -dsimp [hf, c10])
def F_reduce_Turn_2 (cx : Cx) (y1 : Int × (List Node) × (List Point)) (tt : ((List Node) × (List Point))) (ee : Exit) (ρ : Env) (σ : Sto) : Prop := match tt with
 | (uNodes, l1) => ee = .exit 2 ∧ EE cx (aK [(4, .u (.one (.box 4 0))), (6, .u (.one (.box 6 0)))] [(4, .box [.d (.int .i64 0), .d .nil, .d .nil]), (6, .box [.d (.int .i64 y1.1), .own 5000, .d (.sl 2 (List.map Node.row uNodes))]), (5000, .row 2 77 (List.map Point.row l1))]) ρ σ
set_option maxRecDepth 100000 in
theorem l_reduce_Turn_2 (cx : Cx) (hn : cx.n = 83) (y1 : Int × (List Node) × (List Point)) {fu : Nat} {stt : Bool × (List Node) × (List Point)} {tt : ((List Node) × (List Point))} (hh : ah (b_reduce_Turn_2 y1) fu stt = some tt) {ρ : Env} {σ : Sto}
  (hE : aT (fun stt : Bool × (List Node) × (List Point) => match stt with | (sorted, _uNodes, _l1) => [(4, .u (.one (.box 4 0))), (6, .u (.one (.box 6 0))), (9, .u (.one (.d (.bool sorted))))]) (fun stt : Bool × (List Node) × (List Point) => match stt with | (_sorted, uNodes, l1) => [(4, .box [.d (.int .i64 0), .d .nil, .d .nil]), (6, .box [.d (.int .i64 y1.1), .own 5000, .d (.sl 2 (List.map Node.row uNodes))]), (5000, .row 2 77 (List.map Point.row l1))]) stt ρ σ) : Swp Tryz.prog cx (.loop (bi [1, 1, 1, 1, 0, 1, 0, 0] (aG Tryz.f18))) ρ σ (F_reduce_Turn_2 cx y1 tt) := by
 refine b3 hE hh (F_reduce_Turn_2 cx y1) ?_
 rintro ⟨sorted, uNodes, l1⟩ r hm ρ σ hf
 simp only [Fits, ar, ap, and_true] at hf
 unfold b_reduce_Turn_2 at hm
 dsimp only at hm
 refine ae ?_
 refine srs hn ?_
 simp -dsimp [hf]
 rcases aj hm with ⟨c9, hm⟩ | ⟨c9, hm⟩
 ·refine a8 (by simp -dsimp) c9 ?_
  refine ac (a6 (ai ?_))
  refine srs hn ?_
  simp -dsimp [c9]
  refine srs hn ?_
  simp -dsimp
  refine ai ?_
  obtain ⟨⟨sorted1, uNodes1, l2⟩, g18, hm⟩ := bnd hm
  refine aF (l_reduce_Turn_3 cx hn y1 g18) (by
    try dsimp only
    exact EE.here (by simp -dsimp [hf])
  ) fun ee ρ σ x19 => ?_
  unfold F_reduce_Turn_3 at x19
  dsimp only at x19
  obtain ⟨rfl, x19⟩ := x19
  refine av ?_
  refine aC ?_
  cases hm
  refine ax ?_
  refine ee_bind (by rfl) (by rfl) x19 fun ρ σ hf => ?_
  simp only [Fits, ar, ap, and_true] at hf
  exact EE.here (by simp -dsimp [hf])
 ·refine a7 (by simp -dsimp) c9 ?_
  refine au ?_
  refine ag ?_
  cases hm
  refine aw nofun ?_
  unfold F_reduce_Turn_2
  dsimp only
  refine ⟨rfl, ?_⟩
  exact EE.here (by simp -dsimp [hf, c9])
set_option maxRecDepth 100000 in
theorem f_reduce_Turn (k : Int) (t : Tree) (r : Tree × Int) (hm : m_reduce_Turn k t = some r) : PFn Tryz.prog 18 [.u (.one (.d (.int .i64 k))), .u (.agg [.d (.int .i64 t.States), .d (.sl 2 (List.map Point.row t.Hood)), .d (.sl 2 (List.map Node.row t.Nodes))])] (fun v => v.wk (.tup [.agg [.d (.int .i64 r.1.States), .d (.sl 2 (List.map Point.row r.1.Hood)), .d (.sl 2 (List.map Node.row r.1.Nodes))], .one (.d (.int .i64 r.2))])) := by
 refine aH Tryz.func18 Tryz.ntmps18 rfl (by kernel_rfl) (by simp) fun cx hn => ?_
 unfold m_reduce_Turn at hm
 refine srs hn ?_
 simp -dsimp
 refine ae ?_
 refine srs hn ?_
 obtain ⟨y, h1, hm⟩ := bnd hm
 simp -dsimp
 refine aa (c_tree_Right t y h1) (dkL hn) ?_
 simp -dsimp
 rcases aj hm with ⟨c2, hm⟩ | ⟨c2, hm⟩
 ·refine a8 (by simp -dsimp) c2 ?_
  refine srs hn ?_
  simp -dsimp [c2]
  refine ab (ag ?_)
  cases hm
  refine ⟨.inr rfl, ?_⟩
  exact EE.here (by simp -dsimp)
 ·refine a7 (by simp -dsimp) c2 ?_
  refine ac (a6 ?_)
  refine srs hn ?_
  obtain ⟨y1, h3, hm⟩ := bnd hm
  simp -dsimp [c2]
  refine aY (g_reduce_Reduce_w t y1 h3) [] [5000] rfl rfl rfl (by simp -dsimp) rfl (by simp -dsimp) (by first | rfl | simp) rfl (dkL hn) ?_
  simp -dsimp
  refine ae ?_
  refine srs hn ?_
  simp -dsimp
  refine ai ?_
  obtain ⟨l, g7, hm⟩ := bnd hm
  refine aF (l_reduce_Turn_1 cx hn k y1 g7) (by
    try dsimp only
    exact EE.here (by simp -dsimp)
  ) fun ee ρ σ x8 => ?_
  unfold F_reduce_Turn_1 at x8
  dsimp only at x8
  obtain ⟨rfl, x8⟩ := x8
  refine av ?_
  refine a6 ?_
  refine aV (by rfl) (by rfl) x8 fun ρ σ hf => ?_
  simp only [Fits, ar, ap, and_true] at hf
  refine ae ?_
  refine srs hn ?_
  simp -dsimp
  refine ai ?_
  obtain ⟨⟨uNodes, l1⟩, g20, hm⟩ := bnd hm
  refine aF (l_reduce_Turn_2 cx hn y1 g20) (by
    try dsimp only
    exact EE.here (by simp -dsimp [hf])
  ) fun ee ρ σ x21 => ?_
  unfold F_reduce_Turn_2 at x21
  dsimp only at x21
  obtain ⟨rfl, x21⟩ := x21
  refine av ?_
  refine a6 ?_
  refine aV (by rfl) (by rfl) x21 fun ρ σ hf => ?_
  simp only [Fits, ar, ap, and_true] at hf
  refine Swp.pre (Wk.frz 5000 2 77 (List.map Point.row l1) (by simp -dsimp [hf])) ?_
  refine srs hn ?_
  obtain ⟨y2, h22, hm⟩ := bnd hm
  simp -dsimp [hf]
  refine aa (c_reduce_sized (⟨y1.1, l1, uNodes⟩ : Tree) y2 h22) (dkL hn) ?_
  simp -dsimp [hf]
  refine ab ?_
  cases hm
  refine ⟨.inr rfl, ?_⟩
  exact EE.here (by simp -dsimp [hf])
theorem c_reduce_Turn (k : Int) (t : Tree) (r : Tree × Int) (hm : m_reduce_Turn k t = some r) : PureCall Tryz.prog 18 [.u (.one (.d (.int .i64 k))), .u (.agg [.d (.int .i64 t.States), .d (.sl 2 (List.map Point.row t.Hood)), .d (.sl 2 (List.map Node.row t.Nodes))])] (.tup [.agg [.d (.int .i64 r.1.States), .d (.sl 2 (List.map Point.row r.1.Hood)), .d (.sl 2 (List.map Node.row r.1.Nodes))], .one (.d (.int .i64 r.2))]) := (f_reduce_Turn k t r hm).pureW
end
section
attribute [-simp] List.map_set List.set_set
def F_reduce_rebuilt_reduce_Reduce_1_2 (cx : Cx) (t : Tree) (a : Int) (mp : List (List UInt8 × Int)) (l : List Node) (to_ : List Int) (x : Node) (_y : List Int) (tt : (List Int)) (ee : Exit) (ρ : Env) (σ : Sto) : Prop := match tt with
 | next => ee = .exit 2 ∧ EE cx (aK [(1, .u (.one (.fn 95 []))), (2, .u (.one (.box 2 0))), (4, .u (.one (.box 4 0))), (5, .u (.one (.box 5 0))), (6, .u (.one (.own 5002))), (8, .u (.one (.box 8 0))), (9, .u (.one (.own 23))), (15, .u (.one (.d (.sl 2 (List.map Node.row t.Nodes))))), (16, .u (.one (.d (.int .i64 (al t.Nodes))))), (17, .u (.one (.d (.int .i64 a))))] [(2, .box [.d (.int .i64 t.States), .d (.sl 2 (List.map Point.row t.Hood)), .d (.sl 2 (List.map Node.row t.Nodes))]), (4, .box [.d (.int .i64 0), .d .nil, .d .nil]), (5, .box [.own 5000, .map 12]), (8, .box [.d (.int .i64 x.Level), .d (.sl 1 (List.map (rI .i64) x.Next))]), (12, mOb .str kS (uL (L.int .i64)) mp), (23, .row 1 3 (List.map (rI .i64) next)), (5000, .row 2 46 (List.map Node.row l)), (5002, .row 1 3 (List.map (rI .i64) to_))]) ρ σ
set_option maxRecDepth 100000 in
theorem l_reduce_rebuilt_reduce_Reduce_1_2 (cx : Cx) (hn : cx.n = 69) (t : Tree) (a : Int) (mp : List (List UInt8 × Int)) (l : List Node) (to_ : List Int) (x : Node) (y : List Int) {fu : Nat} {stt : Int × (List Int)} {tt : (List Int)} (hh : ah (b_reduce_rebuilt_reduce_Reduce_1_2 t a mp l to_ x y) fu stt = some tt) {ρ : Env} {σ : Sto}
  (hE : aT (fun stt : Int × (List Int) => match stt with | (a1, _next) => [(1, .u (.one (.fn 95 []))), (2, .u (.one (.box 2 0))), (4, .u (.one (.box 4 0))), (5, .u (.one (.box 5 0))), (6, .u (.one (.own 5002))), (8, .u (.one (.box 8 0))), (9, .u (.one (.own 23))), (15, .u (.one (.d (.sl 2 (List.map Node.row t.Nodes))))), (16, .u (.one (.d (.int .i64 (al t.Nodes))))), (17, .u (.one (.d (.int .i64 a)))), (24, .u (.one (.own 23))), (25, .u (.one (.d (.int .i64 (al y))))), (26, .u (.one (.d (.int .i64 a1))))]) (fun stt : Int × (List Int) => match stt with | (_a1, next) => [(2, .box [.d (.int .i64 t.States), .d (.sl 2 (List.map Point.row t.Hood)), .d (.sl 2 (List.map Node.row t.Nodes))]), (4, .box [.d (.int .i64 0), .d .nil, .d .nil]), (5, .box [.own 5000, .map 12]), (8, .box [.d (.int .i64 x.Level), .d (.sl 1 (List.map (rI .i64) x.Next))]), (12, mOb .str kS (uL (L.int .i64)) mp), (23, .row 1 3 (List.map (rI .i64) next)), (5000, .row 2 46 (List.map Node.row l)), (5002, .row 1 3 (List.map (rI .i64) to_))]) stt ρ σ) : Swp Tryz.prog cx (.loop (bi [1, 1, 1, 0, 1, 0, 0, 1, 1, 0, 0, 1, 1, 0, 1, 0, 0] (aG Tryz.f94))) ρ σ (F_reduce_rebuilt_reduce_Reduce_1_2 cx t a mp l to_ x y tt) := by
 refine b3 hE hh (F_reduce_rebuilt_reduce_Reduce_1_2 cx t a mp l to_ x y) ?_
 rintro ⟨a1, next⟩ r hm ρ σ hf
 simp only [Fits, ar, ap, and_true] at hf
 unfold b_reduce_rebuilt_reduce_Reduce_1_2 at hm
 dsimp only at hm
 refine srs hn ?_
 simp -dsimp [hf]
 refine ae ?_
 rcases aj hm with ⟨c4, hm⟩ | ⟨c4, hm⟩
 ·refine a8 (by simp -dsimp) c4 ?_
  refine ac (a6 ?_)
  obtain ⟨next1, j8, hm⟩ := bnd hm
  refine am [(1, .u (.one (.fn 95 []))), (2, .u (.one (.box 2 0))), (4, .u (.one (.box 4 0))), (5, .u (.one (.box 5 0))), (6, .u (.one (.own 5002))), (8, .u (.one (.box 8 0))), (9, .u (.one (.own 23))), (15, .u (.one (.d (.sl 2 (List.map Node.row t.Nodes))))), (16, .u (.one (.d (.int .i64 (al t.Nodes))))), (17, .u (.one (.d (.int .i64 a)))), (24, .u (.one (.own 23))), (25, .u (.one (.d (.int .i64 (al y))))), (26, .u (.one (.d (.int .i64 a1))))] [(2, .box [.d (.int .i64 t.States), .d (.sl 2 (List.map Point.row t.Hood)), .d (.sl 2 (List.map Node.row t.Nodes))]), (4, .box [.d (.int .i64 0), .d .nil, .d .nil]), (5, .box [.own 5000, .map 12]), (8, .box [.d (.int .i64 x.Level), .d (.sl 1 (List.map (rI .i64) x.Next))]), (12, mOb .str kS (uL (L.int .i64)) mp), (23, .row 1 3 (List.map (rI .i64) next1)), (5000, .row 2 46 (List.map Node.row l)), (5002, .row 1 3 (List.map (rI .i64) to_))] (by rfl) (by rfl) ?_ fun ρ σ hf => ?_
  ·replace hm := j8
   clear j8
   refine ai ?_
   refine srs hn ?_
   obtain ⟨x1, h5, hm⟩ := bnd hm
   simp -dsimp [hf, c4, h5, aN h5]
   refine srs hn ?_
   simp -dsimp [hf]
   rcases aj hm with ⟨c6, hm⟩ | ⟨c6, hm⟩
   ·refine a8 (by simp -dsimp) c6 ?_
    refine sr1 hn ?_
    obtain ⟨x2, h7, hm⟩ := bnd hm
    simp -dsimp [hf, h5, aN h5, c6, h7, aN h7, rsetI .i64 next a1.toNat x2]
    refine aC ?_
    refine a6 ?_
    cases hm
    exact EE.here (by simp -dsimp [hf])
   ·refine a7 (by simp -dsimp) c6 ?_
    refine ac ?_
    refine aC ?_
    refine a6 ?_
    cases hm
    exact EE.here (by simp -dsimp [hf, c6])
  ·clear j8
   simp only [Fits, ar, ap, and_true] at hf
   refine sr1 hn ?_
   simp -dsimp [hf]
   cases hm
   refine ax ?_
   exact EE.here (by simp -dsimp [hf])
 ·refine a7 (by simp -dsimp) c4 ?_
  refine au ?_
  refine ag ?_
  cases hm
  refine aw nofun ?_
  unfold F_reduce_rebuilt_reduce_Reduce_1_2
  dsimp only
  refine ⟨rfl, ?_⟩
  exact EE.here (by simp -dsimp [hf, c4])
def F_reduce_rebuilt_reduce_Reduce_1_1 (cx : Cx) (t : Tree) (tt : ((List (List UInt8 × Int)) × (List Node) × (List Int))) (ee : Exit) (ρ : Env) (σ : Sto) : Prop := match tt with
 | (mp, l, to_) => ee = .exit 0 ∧ EE cx (aK [(2, .u (.one (.box 2 0))), (4, .u (.one (.box 4 0))), (5, .u (.one (.box 5 0))), (6, .u (.one (.own 5002)))] [(2, .box [.d (.int .i64 t.States), .d (.sl 2 (List.map Point.row t.Hood)), .d (.sl 2 (List.map Node.row t.Nodes))]), (4, .box [.d (.int .i64 0), .d .nil, .d .nil]), (5, .box [.own 5000, .map 12]), (12, mOb .str kS (uL (L.int .i64)) mp), (5000, .row 2 46 (List.map Node.row l)), (5002, .row 1 3 (List.map (rI .i64) to_))]) ρ σ
set_option maxRecDepth 100000 in
theorem l_reduce_rebuilt_reduce_Reduce_1_1 (cx : Cx) (hn : cx.n = 69) (t : Tree) {fu : Nat} {stt : Int × (List (List UInt8 × Int)) × (List Node) × (List Int)} {tt : ((List (List UInt8 × Int)) × (List Node) × (List Int))} (hh : ah (b_reduce_rebuilt_reduce_Reduce_1_1 t) fu stt = some tt) {ρ : Env} {σ : Sto}
  (hE : aT (fun stt : Int × (List (List UInt8 × Int)) × (List Node) × (List Int) => match stt with | (a, _mp, _l, _to_) => [(1, .u (.one (.fn 95 []))), (2, .u (.one (.box 2 0))), (4, .u (.one (.box 4 0))), (5, .u (.one (.box 5 0))), (6, .u (.one (.own 5002))), (15, .u (.one (.d (.sl 2 (List.map Node.row t.Nodes))))), (16, .u (.one (.d (.int .i64 (al t.Nodes))))), (17, .u (.one (.d (.int .i64 a))))]) (fun stt : Int × (List (List UInt8 × Int)) × (List Node) × (List Int) => match stt with | (_a, mp, l, to_) => [(2, .box [.d (.int .i64 t.States), .d (.sl 2 (List.map Point.row t.Hood)), .d (.sl 2 (List.map Node.row t.Nodes))]), (4, .box [.d (.int .i64 0), .d .nil, .d .nil]), (5, .box [.own 5000, .map 12]), (12, mOb .str kS (uL (L.int .i64)) mp), (5000, .row 2 46 (List.map Node.row l)), (5002, .row 1 3 (List.map (rI .i64) to_))]) stt ρ σ) : Swp Tryz.prog cx (.loop (bi [1, 1, 1, 0, 1, 0, 0] (aG Tryz.f94))) ρ σ (F_reduce_rebuilt_reduce_Reduce_1_1 cx t tt) := by
 refine b3 hE hh (F_reduce_rebuilt_reduce_Reduce_1_1 cx t) ?_
 rintro ⟨a, mp, l, to_⟩ r hm ρ σ hf
 simp only [Fits, ar, ap, and_true] at hf
 unfold b_reduce_rebuilt_reduce_Reduce_1_1 at hm
 dsimp only at hm
 refine srs hn ?_
 simp -dsimp [hf]
 refine ae ?_
 rcases aj hm with ⟨c1, hm⟩ | ⟨c1, hm⟩
 ·refine a8 (by simp -dsimp) c1 ?_
  refine ac (a6 (ae (ai ?_)))
  refine srs hn ?_
  obtain ⟨x, h2, hm⟩ := bnd hm
  simp -dsimp [hf, c1, h2]
  refine srs hn ?_
  obtain ⟨y, h3, hm⟩ := bnd hm
  simp -dsimp
  refine callL_new (n_slices_Clone_int_int x.Next y h3) (dkL hn) (by decide) ?_
  simp -dsimp
  refine ae ?_
  refine srs hn ?_
  simp -dsimp
  refine ai ?_
  obtain ⟨next, g9, hm⟩ := bnd hm
  refine aF (l_reduce_rebuilt_reduce_Reduce_1_2 cx hn t a mp l to_ x y g9) (by
    try dsimp only
    exact EE.here (by simp -dsimp [hf])
  ) fun ee ρ σ x10 => ?_
  unfold F_reduce_rebuilt_reduce_Reduce_1_2 at x10
  dsimp only at x10
  obtain ⟨rfl, x10⟩ := x10
  refine av ?_
  refine a6 ?_
  refine aV (by rfl) (by rfl) x10 fun ρ σ hf => ?_
  simp only [Fits, ar, ap, and_true] at hf
  refine Swp.pre (Wk.frz 23 1 3 (List.map (rI .i64) next) (by simp -dsimp [hf])) ?_
  refine sw_midc aM mixed 8 9 10 0 [[0]] [[5001]] [true] none (by rw [hn]; kernel_rfl) dY ?_
  dsimp only [List.take, List.drop, dx, dQ, uopsD, pk, List.cons_append, List.nil_append, List.flatten_cons, List.flatten_nil, d3, d8, List.append_nil]
  obtain ⟨y1, h11, hm⟩ := bnd hm
  simp -dsimp [hf]
  refine aD (c_reduce_Reduce_1 x.Level next y1 h11) ?_
  obtain ⟨y2, h12, hm⟩ := bnd hm
  simp -dsimp [hf]
  refine callE_g (g_reduce_builder_node_o l mp x.Level y1 y2 h12) [5, 5000, 12] [5001] rfl rfl rfl (by simp -dsimp) rfl (by simp -dsimp [hf]) (by first | rfl | simp) rfl (dkL hn) rfl rfl (by simp) nofun (by simp) ?_
  obtain ⟨l1, h13, hm⟩ := bnd hm
  obtain ⟨h13a, h13e⟩ := aB h13
  replace h13e := h13e.symm
  subst h13e
  try simp only [List.length_cons, List.length_nil, Nat.zero_add] at h13a
  simp -dsimp [hf, h13a]
  refine aC ?_
  refine a6 ?_
  refine sr1 hn ?_
  simp -dsimp [hf]
  cases hm
  refine ax ?_
  refine EE.step (Wk.move 52 5002 (by decide) (.inl (by decide))) ?_
  refine EE.step (Wk.move 5001 5000 (by decide) (.inl (by decide))) ?_
  exact EE.here (by simp -dsimp [hf])
 ·refine a7 (by simp -dsimp) c1 ?_
  refine au ?_
  refine ag ?_
  cases hm
  refine aw nofun ?_
  unfold F_reduce_rebuilt_reduce_Reduce_1_1
  dsimp only
  refine ⟨rfl, ?_⟩
  exact EE.here (by simp -dsimp [hf, c1])
set_option maxRecDepth 100000 in
theorem f_reduce_rebuilt_reduce_Reduce_1 (t : Tree) (r : Tree) (hm : m_reduce_rebuilt_reduce_Reduce_1 t = some r) : PFn Tryz.prog 94 [.u (.agg [.d (.int .i64 t.States), .d (.sl 2 (List.map Point.row t.Hood)), .d (.sl 2 (List.map Node.row t.Nodes))]), .u (.one (.fn 95 []))] (fun v => v.wk (.u (.agg [.d (.int .i64 r.States), .d (.sl 2 (List.map Point.row r.Hood)), .d (.sl 2 (List.map Node.row r.Nodes))]))) := by
 refine aH Tryz.func94 Tryz.ntmps94 rfl (by kernel_rfl) (by simp) fun cx hn => ?_
 unfold m_reduce_rebuilt_reduce_Reduce_1 at hm
 refine srs hn ?_
 simp -dsimp
 refine srs hn ?_
 simp -dsimp [(@id (Ob.map .str [] = mOb .str kS (uL (L.int .i64)) ([] : List (List UInt8 × Int))) (dh .str kS (uL (L.int .i64))))]
 refine srs hn ?_
 simp -dsimp
 refine ae ?_
 refine srs hn ?_
 simp -dsimp
 refine ai ?_
 obtain ⟨⟨mp, l, to_⟩, g14, hm⟩ := bnd hm
 refine aF (l_reduce_rebuilt_reduce_Reduce_1_1 cx hn t g14) (by
   try dsimp only
   refine EE.step (Wk.own0 6 5002 1 3 (by simp -dsimp) (by decide)) ?_
   refine EE.step (Wk.own0b 5 0 5000 2 46 [.d .nil, .map 12] (by simp -dsimp) (by rfl) (by decide) (by decide)) ?_
   exact EE.here (by simp -dsimp)
 ) fun ee ρ σ x15 => ?_
 unfold F_reduce_rebuilt_reduce_Reduce_1_1 at x15
 dsimp only at x15
 obtain ⟨rfl, x15⟩ := x15
 refine av ?_
 refine a6 ?_
 refine aV (by rfl) (by rfl) x15 fun ρ σ hf => ?_
 simp only [Fits, ar, ap, and_true] at hf
 refine Swp.pre (Wk.frz 5000 2 46 (List.map Node.row l) (by simp -dsimp [hf])) ?_
 refine eg aM mixed 14 (by rw [hn]; kernel_rfl) ?_
 dsimp only [List.take, List.drop]
 obtain ⟨y, h16, hm⟩ := bnd hm
 simp -dsimp [hf]
 refine aD (bp t.Hood y h16) ?_
 obtain ⟨x, h17, hm⟩ := bnd hm
 obtain ⟨y1, h18, hm⟩ := bnd hm
 simp -dsimp [hf, h17, aN h17]
 refine aD (c_reduce_ordered l x y1 h18) ?_
 simp -dsimp [hf]
 refine ab ?_
 cases hm
 refine ⟨.inr rfl, ?_⟩
 exact EE.here (by simp -dsimp [hf])
theorem c_reduce_rebuilt_reduce_Reduce_1 (t : Tree) (r : Tree) (hm : m_reduce_rebuilt_reduce_Reduce_1 t = some r) : PureCall Tryz.prog 94 [.u (.agg [.d (.int .i64 t.States), .d (.sl 2 (List.map Point.row t.Hood)), .d (.sl 2 (List.map Node.row t.Nodes))]), .u (.one (.fn 95 []))] (.u (.agg [.d (.int .i64 r.States), .d (.sl 2 (List.map Point.row r.Hood)), .d (.sl 2 (List.map Node.row r.Nodes))])) := (f_reduce_rebuilt_reduce_Reduce_1 t r hm).pureW
end
end Go.Proofs.YtldhnnkpmhnpcaaGreatDoor
