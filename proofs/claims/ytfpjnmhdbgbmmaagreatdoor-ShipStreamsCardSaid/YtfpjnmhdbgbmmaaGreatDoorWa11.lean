/-
  That the code does what the functions say (made by cc.py).
-/
import Derived.Test.YtfpjnmhdbgbmmaaGreatDoorMd1
import Derived.Test.YtfpjnmhdbgbmmaaGreatDoorTb
import Derived.Test.YtfpjnmhdbgbmmaaGreatDoorWa3
import Derived.Test.YtfpjnmhdbgbmmaaGreatDoorWa5
import Derived.Test.YtfpjnmhdbgbmmaaGreatDoorWa10
namespace Go.Proofs.YtfpjnmhdbgbmmaaGreatDoor
open Go.AM Go.Proofs
attribute [-simp] qlookup cC dS Ob.wipe Ob.ren Ob.frz1
theorem f_reduce_ordered (nodes : List Node) (root : Int) (r : List Node) (hm : cS nodes root = some r) : PFn Tryz.prog 168 [.u (.one (.d (.sl 2 (List.map Node.row nodes)))), .u (.one (.d (.int .i64 root)))] (fun v => v.wk (.u (.one (.d (.sl 2 (List.map Node.row r)))))) := by
 refine aX Tryz.func168 Tryz.ntmps168 rfl (by kernel_rfl) (by simp) fun cx hn => ?_
 unfold cS at hm
 refine srs hn (by kernel_rfl) ?_
 simp -dsimp []
 refine srs hn (by kernel_rfl) ?_
 obtain ⟨l, h1, hm⟩ := bnd hm
 obtain ⟨⟨h1a, h1b, h1c⟩, rfl⟩ := gV h1
 simp -dsimp [h1a, h1c]
 refine srs hn (by kernel_rfl) ?_
 simp -dsimp
 refine srs hn (by kernel_rfl) ?_
 simp -dsimp
 refine srs hn (by kernel_rfl) ?_
 simp -dsimp
 refine Swp.pre (Wk.own0b 6 0 5000 2 75 [.d .nil] (by simp -dsimp) (by rfl) (by decide) (by decide)) ?_
 refine srs hn (by kernel_rfl) ?_
 obtain ⟨y, h2, hm⟩ := bnd hm
 simp -dsimp
 refine bB (g_reduce_ordered_1_o_o_o_o root (List.replicate (ah nodes).toNat 0) nodes [] y h2) [5, 10, 2, 7, 6, 5000] [5001] rfl rfl rfl (by simp -dsimp []) rfl (by simp -dsimp) (by first | rfl | simp) rfl (by rw [hn]; decide) ?_
 simp -dsimp
 refine srs hn (by kernel_rfl) ?_
 simp -dsimp
 refine aa ?_
 cases hm
 refine ⟨.inr rfl, ?_⟩
 refine EE.here ?_
 simp -dsimp
theorem c_reduce_ordered (nodes : List Node) (root : Int) (r : List Node) (hm : cS nodes root = some r) : PureCall Tryz.prog 168 [.u (.one (.d (.sl 2 (List.map Node.row nodes)))), .u (.one (.d (.int .i64 root)))] (.u (.one (.d (.sl 2 (List.map Node.row r))))) := (f_reduce_ordered nodes root r hm).pureW
section
attribute [-simp] List.map_set List.set_set
def F_reduce_rebuilt_reduce_Reduce_1_w_2 (cx : Cx) (t : Tree) (a : Int) (mp : List (List UInt8 × Int)) (l : List Node) (to_ : List Int) (x : Node) (_y : List Int) (tt : (List Int)) (ee : Exit) (ρ : Env) (σ : Sto) : Prop := match tt with
 | next => ee = .exit 2 ∧ EE cx (aU [(1, .u (.one (.fn 166 []))), (2, .u (.one (.box 2 0))), (4, .u (.one (.box 4 0))), (5, .u (.one (.box 5 0))), (6, .u (.one (.own 5002))), (8, .u (.one (.box 8 0))), (9, .u (.one (.own 23))), (15, .u (.one (.d (.sl 2 (List.map Node.row t.Nodes))))), (16, .u (.one (.d (.int .i64 (ah t.Nodes))))), (17, .u (.one (.d (.int .i64 a))))] [(2, .box [.d (.int .i64 t.States), .d (.sl 2 (List.map Point.row t.Hood)), .d (.sl 2 (List.map Node.row t.Nodes))]), (4, .box [.d (.int .i64 0), .d .nil, .d .nil]), (5, .box [.own 5000, .map 12]), (8, .box [.d (.int .i64 x.Level), .d (.sl 1 (List.map (rI .i64) x.Next))]), (12, mOb .str kS (uL (L.int .i64)) mp), (23, .row 1 3 (List.map (rI .i64) next)), (5000, .row 2 75 (List.map Node.row l)), (5002, .row 1 3 (List.map (rI .i64) to_))]) ρ σ
theorem l_reduce_rebuilt_reduce_Reduce_1_w_2 (cx : Cx) (hn : cx.n = 69) (_hk : cx.k = 0) (t : Tree) (a : Int) (mp : List (List UInt8 × Int)) (l : List Node) (to_ : List Int) (x : Node) (y : List Int) {fu : Nat} {stt : Int × (List Int)} {tt : (List Int)} (hh : al (bv t a mp l to_ x y) fu stt = some tt) {ρ : Env} {σ : Sto}
  (hE : b4 (fun stt : Int × (List Int) => match stt with | (a1, _next) => [(1, .u (.one (.fn 166 []))), (2, .u (.one (.box 2 0))), (4, .u (.one (.box 4 0))), (5, .u (.one (.box 5 0))), (6, .u (.one (.own 5002))), (8, .u (.one (.box 8 0))), (9, .u (.one (.own 23))), (15, .u (.one (.d (.sl 2 (List.map Node.row t.Nodes))))), (16, .u (.one (.d (.int .i64 (ah t.Nodes))))), (17, .u (.one (.d (.int .i64 a)))), (24, .u (.one (.own 23))), (25, .u (.one (.d (.int .i64 (ah y))))), (26, .u (.one (.d (.int .i64 a1))))]) (fun stt : Int × (List Int) => match stt with | (_a1, next) => [(2, .box [.d (.int .i64 t.States), .d (.sl 2 (List.map Point.row t.Hood)), .d (.sl 2 (List.map Node.row t.Nodes))]), (4, .box [.d (.int .i64 0), .d .nil, .d .nil]), (5, .box [.own 5000, .map 12]), (8, .box [.d (.int .i64 x.Level), .d (.sl 1 (List.map (rI .i64) x.Next))]), (12, mOb .str kS (uL (L.int .i64)) mp), (23, .row 1 3 (List.map (rI .i64) next)), (5000, .row 2 75 (List.map Node.row l)), (5002, .row 1 3 (List.map (rI .i64) to_))]) stt ρ σ) : Swp Tryz.prog cx (.loop (bQ [1, 1, 1, 0, 1, 0, 0, 1, 1, 0, 0, 1, 1, 0, 1, 0, 0] (aP Tryz.f165))) ρ σ (F_reduce_rebuilt_reduce_Reduce_1_w_2 cx t a mp l to_ x y tt) := by
 refine b8 hE hh (F_reduce_rebuilt_reduce_Reduce_1_w_2 cx t a mp l to_ x y) (fun _ => by rfl) (fun _ => by rfl) ?_
 rintro ⟨a1, next⟩ r hm ρ σ hf
 simp only [Fits, am, ap, and_true] at hf
 unfold bv at hm
 dsimp only at hm
 refine srs hn (by kernel_rfl) ?_
 simp -dsimp [hf]
 refine ac ?_
 rcases aj hm with ⟨c4, hm⟩ | ⟨c4, hm⟩
 ·refine a8 (b := (ltB a1 (ah y))) (by simp -dsimp) c4 ?_
  refine ab (a6 ?_)
  obtain ⟨next1, j8, hm⟩ := bnd hm
  refine aw [(1, .u (.one (.fn 166 []))), (2, .u (.one (.box 2 0))), (4, .u (.one (.box 4 0))), (5, .u (.one (.box 5 0))), (6, .u (.one (.own 5002))), (8, .u (.one (.box 8 0))), (9, .u (.one (.own 23))), (15, .u (.one (.d (.sl 2 (List.map Node.row t.Nodes))))), (16, .u (.one (.d (.int .i64 (ah t.Nodes))))), (17, .u (.one (.d (.int .i64 a)))), (24, .u (.one (.own 23))), (25, .u (.one (.d (.int .i64 (ah y))))), (26, .u (.one (.d (.int .i64 a1))))] [(2, .box [.d (.int .i64 t.States), .d (.sl 2 (List.map Point.row t.Hood)), .d (.sl 2 (List.map Node.row t.Nodes))]), (4, .box [.d (.int .i64 0), .d .nil, .d .nil]), (5, .box [.own 5000, .map 12]), (8, .box [.d (.int .i64 x.Level), .d (.sl 1 (List.map (rI .i64) x.Next))]), (12, mOb .str kS (uL (L.int .i64)) mp), (23, .row 1 3 (List.map (rI .i64) next1)), (5000, .row 2 75 (List.map Node.row l)), (5002, .row 1 3 (List.map (rI .i64) to_))] (by rfl) (by rfl) ?_ fun ρ σ hf => ?_
  ·replace hm := j8
   clear j8
   refine ai ?_
   refine srs hn (by kernel_rfl) ?_
   obtain ⟨x1, h5, hm⟩ := bnd hm
   simp -dsimp [hf, c4, h5, aW h5]
   refine srs hn (by kernel_rfl) ?_
   simp -dsimp [hf]
   rcases aj hm with ⟨c6, hm⟩ | ⟨c6, hm⟩
   ·refine a8 (b := (gtB x.Level 1)) (by simp -dsimp) c6 ?_
    refine sr1 hn (by kernel_rfl) ?_
    obtain ⟨x2, h7, hm⟩ := bnd hm
    simp -dsimp [hf, h5, aW h5, c6, h7, aW h7, rsetI .i64 next a1.toNat x2]
    refine aJ ?_
    refine a6 ?_
    cases hm
    refine EE.here ?_
    simp -dsimp [hf]
   ·refine a7 (b := (gtB x.Level 1)) (by simp -dsimp) c6 ?_
    refine ab ?_
    refine aJ ?_
    refine a6 ?_
    cases hm
    refine EE.here ?_
    simp -dsimp [hf, c6]
  ·clear j8
   simp only [Fits, am, ap, and_true] at hf
   refine sr1 hn (by kernel_rfl) ?_
   simp -dsimp [hf]
   cases hm
   refine aB ?_
   refine EE.here ?_
   simp -dsimp [hf]
 ·refine a7 (b := (ltB a1 (ah y))) (by simp -dsimp) c4 ?_
  refine av ?_
  refine ag ?_
  cases hm
  refine ar nofun ?_
  unfold F_reduce_rebuilt_reduce_Reduce_1_w_2
  dsimp only
  refine ⟨rfl, ?_⟩
  refine EE.here ?_
  simp -dsimp [hf, c4]
def F_reduce_rebuilt_reduce_Reduce_1_w_1 (cx : Cx) (t : Tree) (tt : ((List (List UInt8 × Int)) × (List Node) × (List Int))) (ee : Exit) (ρ : Env) (σ : Sto) : Prop := match tt with
 | (mp, l, to_) => ee = .exit 0 ∧ EE cx (aU [(2, .u (.one (.box 2 0))), (4, .u (.one (.box 4 0))), (5, .u (.one (.box 5 0))), (6, .u (.one (.own 5002)))] [(2, .box [.d (.int .i64 t.States), .d (.sl 2 (List.map Point.row t.Hood)), .d (.sl 2 (List.map Node.row t.Nodes))]), (4, .box [.d (.int .i64 0), .d .nil, .d .nil]), (5, .box [.own 5000, .map 12]), (12, mOb .str kS (uL (L.int .i64)) mp), (5000, .row 2 75 (List.map Node.row l)), (5002, .row 1 3 (List.map (rI .i64) to_))]) ρ σ
theorem l_reduce_rebuilt_reduce_Reduce_1_w_1 (cx : Cx) (hn : cx.n = 69) (hk : cx.k = 0) (t : Tree) {fu : Nat} {stt : Int × (List (List UInt8 × Int)) × (List Node) × (List Int)} {tt : ((List (List UInt8 × Int)) × (List Node) × (List Int))} (hh : al (bq t) fu stt = some tt) {ρ : Env} {σ : Sto}
  (hE : b4 (fun stt : Int × (List (List UInt8 × Int)) × (List Node) × (List Int) => match stt with | (a, _mp, _l, _to_) => [(1, .u (.one (.fn 166 []))), (2, .u (.one (.box 2 0))), (4, .u (.one (.box 4 0))), (5, .u (.one (.box 5 0))), (6, .u (.one (.own 5002))), (15, .u (.one (.d (.sl 2 (List.map Node.row t.Nodes))))), (16, .u (.one (.d (.int .i64 (ah t.Nodes))))), (17, .u (.one (.d (.int .i64 a))))]) (fun stt : Int × (List (List UInt8 × Int)) × (List Node) × (List Int) => match stt with | (_a, mp, l, to_) => [(2, .box [.d (.int .i64 t.States), .d (.sl 2 (List.map Point.row t.Hood)), .d (.sl 2 (List.map Node.row t.Nodes))]), (4, .box [.d (.int .i64 0), .d .nil, .d .nil]), (5, .box [.own 5000, .map 12]), (12, mOb .str kS (uL (L.int .i64)) mp), (5000, .row 2 75 (List.map Node.row l)), (5002, .row 1 3 (List.map (rI .i64) to_))]) stt ρ σ) : Swp Tryz.prog cx (.loop (bQ [1, 1, 1, 0, 1, 0, 0] (aP Tryz.f165))) ρ σ (F_reduce_rebuilt_reduce_Reduce_1_w_1 cx t tt) := by
 refine b8 hE hh (F_reduce_rebuilt_reduce_Reduce_1_w_1 cx t) (fun _ => by rfl) (fun _ => by rfl) ?_
 rintro ⟨a, mp, l, to_⟩ r hm ρ σ hf
 simp only [Fits, am, ap, and_true] at hf
 unfold bq at hm
 dsimp only at hm
 refine srs hn (by kernel_rfl) ?_
 simp -dsimp [hf]
 refine ac ?_
 rcases aj hm with ⟨c1, hm⟩ | ⟨c1, hm⟩
 ·refine a8 (b := (ltB a (ah t.Nodes))) (by simp -dsimp) c1 ?_
  refine ab (a6 (ac (ai ?_)))
  refine srs hn (by kernel_rfl) ?_
  obtain ⟨x, h2, hm⟩ := bnd hm
  simp -dsimp [hf, c1, h2]
  refine srs hn (by kernel_rfl) ?_
  obtain ⟨y, h3, hm⟩ := bnd hm
  simp -dsimp
  refine callL_new (n_slices_Clone_int_int x.Next y h3) (by rw [hn]; decide) (by decide) ?_
  simp -dsimp
  refine ac ?_
  refine srs hn (by kernel_rfl) ?_
  simp -dsimp
  refine ai ?_
  obtain ⟨next, g9, hm⟩ := bnd hm
  refine aO [(1, .u (.one (.fn 166 []))), (2, .u (.one (.box 2 0))), (4, .u (.one (.box 4 0))), (5, .u (.one (.box 5 0))), (6, .u (.one (.own 5002))), (8, .u (.one (.box 8 0))), (9, .u (.one (.own 23))), (15, .u (.one (.d (.sl 2 (List.map Node.row t.Nodes))))), (16, .u (.one (.d (.int .i64 (ah t.Nodes))))), (17, .u (.one (.d (.int .i64 a)))), (24, .u (.one (.own 23))), (25, .u (.one (.d (.int .i64 (ah y))))), (26, .u (.one (.d (.int .i64 0))))] [(2, .box [.d (.int .i64 t.States), .d (.sl 2 (List.map Point.row t.Hood)), .d (.sl 2 (List.map Node.row t.Nodes))]), (4, .box [.d (.int .i64 0), .d .nil, .d .nil]), (5, .box [.own 5000, .map 12]), (8, .box [.d (.int .i64 x.Level), .d (.sl 1 (List.map (rI .i64) x.Next))]), (12, mOb .str kS (uL (L.int .i64)) mp), (23, .row 1 3 (List.map (rI .i64) y)), (5000, .row 2 75 (List.map Node.row l)), (5002, .row 1 3 (List.map (rI .i64) to_))] (by rfl) (by rfl) (by
    refine EE.here ?_
    simp -dsimp [hf]
  ) fun ρ σ hf => ?_
  refine (l_reduce_rebuilt_reduce_Reduce_1_w_2 cx hn hk t a mp l to_ x y g9 hf).mono fun ee ρ σ x10 => ?_
  unfold F_reduce_rebuilt_reduce_Reduce_1_w_2 at x10
  dsimp only at x10
  obtain ⟨rfl, x10⟩ := x10
  refine au ?_
  refine a6 ?_
  refine b5 (by rfl) (by rfl) x10 fun ρ σ hf => ?_
  simp only [Fits, am, ap, and_true] at hf
  refine Swp.pre (Wk.frz 23 1 3 (List.map (rI .i64) next) (by simp -dsimp [hf])) ?_
  refine sw_midc aK mixed 8 9 10 0 [[0]] [[5001]] [true] none (by rw [hn]; kernel_rfl) fH ?_
  dsimp only [List.take, List.drop, fV, gq, il, pk, List.cons_append, List.nil_append, List.flatten_cons, List.flatten_nil, ey, ez, List.append_nil]
  obtain ⟨y1, h11, hm⟩ := bnd hm
  simp -dsimp [hf]
  refine ak (c_reduce_Reduce_1 x.Level next y1 h11) ?_
  obtain ⟨y2, h12, hm⟩ := bnd hm
  simp -dsimp [hf]
  refine callE_g (g_reduce_builder_node_o l mp x.Level y1 y2 h12) [5, 5000, 12] [5001] rfl rfl rfl (by simp -dsimp []) rfl (by simp -dsimp [hf]) (by first | rfl | simp) rfl (by rw [hn]; decide) rfl rfl (by simp) nofun (by simp) ?_
  obtain ⟨l1, h13, hm⟩ := bnd hm
  obtain ⟨h13a, h13e⟩ := aL h13
  replace h13e := h13e.symm
  subst h13e
  try simp only [List.length_cons, List.length_nil, Nat.zero_add] at h13a
  simp -dsimp [hf, h13a]
  refine aJ ?_
  refine a6 ?_
  refine sr1 hn (by kernel_rfl) ?_
  simp -dsimp [hf]
  cases hm
  refine aB ?_
  refine EE.step (Wk.move 52 5002 (by decide) (.inl (by decide))) ?_
  refine EE.step (Wk.move 5001 5000 (by decide) (.inl (by decide))) ?_
  refine EE.here ?_
  simp -dsimp [hf]
 ·refine a7 (b := (ltB a (ah t.Nodes))) (by simp -dsimp) c1 ?_
  refine av ?_
  refine ag ?_
  cases hm
  refine ar nofun ?_
  unfold F_reduce_rebuilt_reduce_Reduce_1_w_1
  dsimp only
  refine ⟨rfl, ?_⟩
  refine EE.here ?_
  simp -dsimp [hf, c1]
theorem g_reduce_rebuilt_reduce_Reduce_1_w (t : Tree) (r : List Node) (hm : bE t = some r) : GFn Tryz.prog 165 [.u (.agg [.d (.int .i64 t.States), .d (.sl 2 (List.map Point.row t.Hood)), .d (.sl 2 (List.map Node.row t.Nodes))]), .u (.one (.fn 166 []))] [] (.u (.agg [.d (.int .i64 t.States), .own 1000000, .d (.sl 2 (List.map Node.row r))])) [some (.row 2 71 (List.map Point.row t.Hood))] := by
 refine bL aK _ Tryz.func165 rfl (by kernel_rfl) (by simp [Tryz.ntmps165]) (by simp) (by first | rfl | simp) (by first | rfl | simp) fun cx hn hk => ?_
 replace hn : cx.n = 69 := hn.trans Tryz.ntmps165
 replace hk : cx.k = 0 := hk
 unfold bE at hm
 refine srs hn (by kernel_rfl) ?_
 simp -dsimp []
 refine srs hn (by kernel_rfl) ?_
 simp -dsimp [(@id (Ob.map .str [] = mOb .str kS (uL (L.int .i64)) ([] : List (List UInt8 × Int))) (iv .str kS (uL (L.int .i64))))]
 refine srs hn (by kernel_rfl) ?_
 simp -dsimp
 refine ac ?_
 refine srs hn (by kernel_rfl) ?_
 simp -dsimp
 refine ai ?_
 obtain ⟨⟨mp, l, to_⟩, g14, hm⟩ := bnd hm
 refine aO [(1, .u (.one (.fn 166 []))), (2, .u (.one (.box 2 0))), (4, .u (.one (.box 4 0))), (5, .u (.one (.box 5 0))), (6, .u (.one (.own 5002))), (15, .u (.one (.d (.sl 2 (List.map Node.row t.Nodes))))), (16, .u (.one (.d (.int .i64 (ah t.Nodes))))), (17, .u (.one (.d (.int .i64 0))))] [(2, .box [.d (.int .i64 t.States), .d (.sl 2 (List.map Point.row t.Hood)), .d (.sl 2 (List.map Node.row t.Nodes))]), (4, .box [.d (.int .i64 0), .d .nil, .d .nil]), (5, .box [.own 5000, .map 12]), (12, mOb .str kS (uL (L.int .i64)) []), (5000, .row 2 75 (List.map Node.row [])), (5002, .row 1 3 (List.map (rI .i64) []))] (by rfl) (by rfl) (by
   refine EE.step (Wk.own0 6 5002 1 3 (by simp -dsimp) (by decide)) ?_
   refine EE.step (Wk.own0b 5 0 5000 2 75 [.d .nil, .map 12] (by simp -dsimp) (by rfl) (by decide) (by decide)) ?_
   refine EE.here ?_
   simp -dsimp
 ) fun ρ σ hf => ?_
 refine (l_reduce_rebuilt_reduce_Reduce_1_w_1 cx hn hk t g14 hf).mono fun ee ρ σ x15 => ?_
 unfold F_reduce_rebuilt_reduce_Reduce_1_w_1 at x15
 dsimp only at x15
 obtain ⟨rfl, x15⟩ := x15
 refine au ?_
 refine a6 ?_
 refine b5 (by rfl) (by rfl) x15 fun ρ σ hf => ?_
 simp only [Fits, am, ap, and_true] at hf
 refine Swp.pre (Wk.frz 5000 2 75 (List.map Node.row l) (by simp -dsimp [hf])) ?_
 refine sw_midcs aK mixed 0 0 14 4 [] [] [true, true, true, true, true, true, true, true, true, true, true, true, true, true] (some (58, .row 2 71 (List.map Point.row t.Hood))) (by rw [hn]; kernel_rfl) fltT_row ?_
 dsimp only [List.take, List.drop, fV, gq, il, pk, List.cons_append, List.nil_append, List.flatten_cons, List.flatten_nil, ey, ez, List.append_nil]
 obtain ⟨l1, h16, hm⟩ := bnd hm
 obtain rfl := e_slices_Clone_api_Point_api_Point _ _ h16
 simp -dsimp [hf]
 refine callE_flt (n_slices_Clone_api_Point_api_Point _ _ h16) (by rw [hn]; decide) (by decide) rfl rfl ?_
 obtain ⟨x, h17, hm⟩ := bnd hm
 obtain ⟨y, h18, hm⟩ := bnd hm
 simp -dsimp [hf, h17, aW h17]
 refine ak (c_reduce_ordered l x y h18) ?_
 simp -dsimp [hf]
 refine aa ?_
 cases hm
 refine ⟨.inr rfl, ?_⟩
 refine EE.step (Wk.move 58 1000000 (by decide) (.inr (by rw [hk]; decide))) ?_
 refine EE.here ?_
 simp -dsimp [hf]
end
theorem g_reduce_Reduce_w (t : Tree) (r : Int × (List Node) × (List Point)) (hm : f6 t = some r) : GFn Tryz.prog 103 [.u (.agg [.d (.int .i64 t.States), .d (.sl 2 (List.map Point.row t.Hood)), .d (.sl 2 (List.map Node.row t.Nodes))])] [] (.u (.agg [.d (.int .i64 r.1), .own 1000000, .d (.sl 2 (List.map Node.row r.2.1))])) [some (.row 2 71 (List.map Point.row r.2.2))] := by
 refine bL aK _ Tryz.func103 rfl (by kernel_rfl) (by simp [Tryz.ntmps103]) (by simp) (by first | rfl | simp) (by first | rfl | simp) fun cx hn hk => ?_
 replace hn : cx.n = 9 := hn.trans Tryz.ntmps103
 replace hk : cx.k = 0 := hk
 unfold f6 at hm
 refine srs hn (by kernel_rfl) ?_
 simp -dsimp []
 refine ac ?_
 refine srs hn (by kernel_rfl) ?_
 obtain ⟨y, h1, hm⟩ := bnd hm
 simp -dsimp []
 refine ae (el t y h1) (by rw [hn]; decide) ?_
 simp -dsimp
 rcases aj hm with ⟨c2, hm⟩ | ⟨c2, hm⟩
 ·refine a8 (b := (aM y)) (by simp -dsimp) c2 ?_
  refine srs hn (by kernel_rfl) ?_
  simp -dsimp [c2]
  refine aa (ag ?_)
  cases hm
  refine ⟨.inr rfl, ?_⟩
  refine EE.step (Wk.move 5001 1000000 (by decide) (.inr (by rw [hk]; decide))) ?_
  refine EE.step (Wk.own0b 2 1 5001 2 71 [.d (.int .i64 0), .d .nil, .d .nil] (by simp -dsimp) (by rfl) (by decide) (by decide)) ?_
  refine EE.step (Wk.move 5001 1000000 (by decide) (.inr (by rw [hk]; decide))) ?_
  refine EE.here ?_
  simp -dsimp
 ·refine a7 (b := (aM y)) (by simp -dsimp) c2 ?_
  refine ab (a6 ?_)
  refine srs hn (by kernel_rfl) ?_
  obtain ⟨y1, h3, hm⟩ := bnd hm
  simp -dsimp [c2]
  refine bB (g_reduce_rebuilt_reduce_Reduce_1_w t y1 h3) [] [5000] rfl rfl rfl (by simp -dsimp []) rfl (by simp -dsimp) (by first | rfl | simp) rfl (by rw [hn]; decide) ?_
  simp -dsimp
  refine aa ?_
  cases hm
  refine ⟨.inr rfl, ?_⟩
  refine EE.step (Wk.move 5000 1000000 (by decide) (.inr (by rw [hk]; decide))) ?_
  refine EE.here ?_
  simp -dsimp
def F_reduce_builder_node_o_o_1 (cx : Cx) (bnodes : List Node) (bknown : List (List UInt8 × Int)) (level : Int) (next : List Int) (tt : (List Int)) (ee : Exit) (ρ : Env) (σ : Sto) : Prop := match tt with
 | keyv => ee = .exit 0 ∧ EE cx (aU [(0, .u (.one (.box 1000000 0))), (1, .u (.one (.d (.int .i64 level)))), (2, .u (.one (.own 1000003))), (7, .u (.one (.own 5002)))] [(5002, .row 1 5 (List.map (rI .u8) keyv)), (1000000, .box [.own 1000001, .map 1000002]), (1000001, .row 2 75 (List.map Node.row bnodes)), (1000002, mOb .str kS (uL (L.int .i64)) bknown), (1000003, .row 1 3 (List.map (rI .i64) next))]) ρ σ
theorem l_reduce_builder_node_o_o_1 (cx : Cx) (hn : cx.n = 68) (_hk : cx.k = 4) (bnodes : List Node) (bknown : List (List UInt8 × Int)) (level : Int) (next : List Int) {fu : Nat} {stt : Int × (List Int)} {tt : (List Int)} (hh : al (cK bnodes bknown level next) fu stt = some tt) {ρ : Env} {σ : Sto}
  (hE : b4 (fun stt : Int × (List Int) => match stt with | (a, _keyv) => [(0, .u (.one (.box 1000000 0))), (1, .u (.one (.d (.int .i64 level)))), (2, .u (.one (.own 1000003))), (7, .u (.one (.own 5002))), (14, .u (.one (.own 1000003))), (15, .u (.one (.d (.int .i64 (ah next))))), (16, .u (.one (.d (.int .i64 a))))]) (fun stt : Int × (List Int) => match stt with | (_a, keyv) => [(5002, .row 1 5 (List.map (rI .u8) keyv)), (1000000, .box [.own 1000001, .map 1000002]), (1000001, .row 2 75 (List.map Node.row bnodes)), (1000002, mOb .str kS (uL (L.int .i64)) bknown), (1000003, .row 1 3 (List.map (rI .i64) next))]) stt ρ σ) : Swp Tryz.prog cx (.loop (bQ [1, 1, 0, 1, 0, 0] (aP Tryz.f167))) ρ σ (F_reduce_builder_node_o_o_1 cx bnodes bknown level next tt) := by
 refine b8 hE hh (F_reduce_builder_node_o_o_1 cx bnodes bknown level next) (fun _ => by rfl) (fun _ => by rfl) ?_
 rintro ⟨a, keyv⟩ r hm ρ σ hf
 simp only [Fits, am, ap, and_true] at hf
 unfold cK at hm
 dsimp only at hm
 refine srs hn (by kernel_rfl) ?_
 simp -dsimp [hf]
 refine ac ?_
 rcases aj hm with ⟨c2, hm⟩ | ⟨c2, hm⟩
 ·refine a8 (b := (ltB a (ah next))) (by simp -dsimp) c2 ?_
  refine ab (a6 (ac (ai ?_)))
  refine srs hn (by kernel_rfl) ?_
  obtain ⟨x, h3, hm⟩ := bnd hm
  simp -dsimp [hf, c2, h3, aW h3]
  refine sr1 hn (by kernel_rfl) ?_
  obtain ⟨l, h4, hm⟩ := bnd hm
  obtain ⟨h4a, h4e⟩ := aL h4
  replace h4e := h4e.symm
  subst h4e
  try simp only [List.length_cons, List.length_nil, Nat.zero_add] at h4a
  try simp only [Nat.mul_one, Nat.reduceLeDiff] at h4a
  obtain ⟨y1, h5, hm⟩ := bnd hm
  simp -dsimp [hf, h4a]
  refine bB (g_strconv_AppendInt_o (keyv ++ [32]) x 10 y1 h5) [22] [5001] rfl rfl rfl (by simp -dsimp []) rfl (by simp -dsimp) (by first | rfl | simp) rfl (by rw [hn]; decide) ?_
  simp -dsimp
  refine aJ ?_
  refine a6 ?_
  refine sr1 hn (by kernel_rfl) ?_
  simp -dsimp [hf]
  cases hm
  refine aB ?_
  refine EE.step (Wk.move 5001 5002 (by decide) (.inl (by decide))) ?_
  refine EE.here ?_
  simp -dsimp [hf]
 ·refine a7 (b := (ltB a (ah next))) (by simp -dsimp) c2 ?_
  refine av ?_
  refine ag ?_
  cases hm
  refine ar nofun ?_
  unfold F_reduce_builder_node_o_o_1
  dsimp only
  refine ⟨rfl, ?_⟩
  refine EE.here ?_
  simp -dsimp [hf, c2]
theorem g_reduce_builder_node_o_o (bnodes : List Node) (bknown : List (List UInt8 × Int)) (level : Int) (next : List Int) (r : Int × (List (List UInt8 × Int)) × (List Node)) (hm : bT bnodes bknown level next = some r) : GFn Tryz.prog 167 [.u (.one (.box 1000000 0)), .u (.one (.d (.int .i64 level))), .u (.one (.own 1000003))] [.box [.own 1000001, .map 1000002], .row 2 75 (List.map Node.row bnodes), mOb .str kS (uL (L.int .i64)) bknown, .row 1 3 (List.map (rI .i64) next)] (.u (.one (.d (.int .i64 r.1)))) [some (.box [.own 1000004, .map 1000002]), none, some (mOb .str kS (uL (L.int .i64)) r.2.1), none, some (.row 2 75 (List.map Node.row r.2.2))] := by
 refine bL aK _ Tryz.func167 rfl (by kernel_rfl) (by simp [Tryz.ntmps167]) (by simp) (by first | rfl | simp) (by first | rfl | simp) fun cx hn hk => ?_
 replace hn : cx.n = 68 := hn.trans Tryz.ntmps167
 replace hk : cx.k = 4 := hk
 unfold bT at hm
 refine srs hn (by kernel_rfl) ?_
 simp -dsimp []
 refine srs hn (by kernel_rfl) ?_
 obtain ⟨y, h1, hm⟩ := bnd hm
 simp -dsimp []
 refine bB (g_strconv_AppendInt_N level 10 y h1) [] [5000] rfl rfl rfl (by simp -dsimp []) rfl (by simp -dsimp []) (by first | rfl | simp) rfl (by rw [hn]; decide) ?_
 simp -dsimp
 refine ac ?_
 refine srs hn (by kernel_rfl) ?_
 simp -dsimp
 refine ai ?_
 obtain ⟨keyv, g6, hm⟩ := bnd hm
 refine aO [(0, .u (.one (.box 1000000 0))), (1, .u (.one (.d (.int .i64 level)))), (2, .u (.one (.own 1000003))), (7, .u (.one (.own 5002))), (14, .u (.one (.own 1000003))), (15, .u (.one (.d (.int .i64 (ah next))))), (16, .u (.one (.d (.int .i64 0))))] [(5002, .row 1 5 (List.map (rI .u8) y)), (1000000, .box [.own 1000001, .map 1000002]), (1000001, .row 2 75 (List.map Node.row bnodes)), (1000002, mOb .str kS (uL (L.int .i64)) bknown), (1000003, .row 1 3 (List.map (rI .i64) next))] (by rfl) (by rfl) (by
   refine EE.step (Wk.move 5000 5002 (by decide) (.inl (by decide))) ?_
   refine EE.here ?_
   simp -dsimp
 ) fun ρ σ hf => ?_
 refine (l_reduce_builder_node_o_o_1 cx hn hk bnodes bknown level next g6 hf).mono fun ee ρ σ x7 => ?_
 unfold F_reduce_builder_node_o_o_1 at x7
 dsimp only at x7
 obtain ⟨rfl, x7⟩ := x7
 refine au ?_
 refine a6 ?_
 refine b5 (by rfl) (by rfl) x7 fun ρ σ hf => ?_
 simp only [Fits, am, ap, and_true] at hf
 refine ac ?_
 refine ck aK mixed (by rw [hn]; kernel_rfl) ?_
 obtain ⟨u, h8, hm⟩ := bnd hm
 simp -dsimp [hf, io h8, (@id (lkM (gM (mOb .str kS (uL (L.int .i64)) bknown) (.str (ofBytes keyv))) true (.one (.d (.int .i64 0))) = some (.tup [.one (.d (.int .i64 (fx bknown (ofBytes keyv) 0))), .one (.d (.bool (fv bknown (ofBytes keyv))))])) (lk_two (ofBytes keyv) 0))]
 refine srs hn (by kernel_rfl) ?_
 simp -dsimp
 rcases aj hm with ⟨c9, hm⟩ | ⟨c9, hm⟩
 ·refine a8 (b := (fv bknown (ofBytes keyv))) (by simp -dsimp) c9 ?_
  refine srs hn (by kernel_rfl) ?_
  simp -dsimp [c9]
  refine aa (ag ?_)
  cases hm
  refine ⟨.inr rfl, ?_⟩
  refine EE.step (Wk.move 1000001 1000004 (by decide) (.inr (by rw [hk]; decide))) ?_
  refine EE.here ?_
  simp -dsimp [hf]
 ·refine a7 (b := (fv bknown (ofBytes keyv))) (by simp -dsimp) c9 ?_
  refine ab (a6 ?_)
  refine Swp.pre (Wk.frz 1000003 1 3 (List.map (rI .i64) next) (by simp -dsimp [hf])) ?_
  refine srs hn (by kernel_rfl) ?_
  obtain ⟨l, h10, hm⟩ := bnd hm
  obtain ⟨h10a, h10e⟩ := aL h10
  replace h10e := h10e.symm
  subst h10e
  try simp only [List.length_cons, List.length_nil, Nat.zero_add] at h10a
  simp -dsimp [hf, c9, h10a]
  refine sw_drNs aK mixed 12 (by rw [hn]; kernel_rfl) ?_
  dsimp only [List.take, List.drop]
  simp -dsimp [hf, io h8, (@id (ir (mOb .str kS (uL (L.int .i64)) bknown) (.str (ofBytes keyv)) (.one (.d (.int .i64 (aA .i64 ((ah bnodes) + 1) 1)))) = mOb .str kS (uL (L.int .i64)) (gr bknown (ofBytes keyv) (aA .i64 ((ah bnodes) + 1) 1))) (mset_ob .str kS (uL (L.int .i64)) bknown (ofBytes keyv) (aA .i64 ((ah bnodes) + 1) 1)))]
  refine srs hn (by kernel_rfl) ?_
  simp -dsimp [hf]
  refine aa ?_
  cases hm
  refine ⟨.inr rfl, ?_⟩
  refine EE.step (Wk.move 47 1000004 (by decide) (.inr (by rw [hk]; decide))) ?_
  refine EE.here ?_
  simp -dsimp
section
attribute [-simp] List.map_set List.set_set
def F_reduce_swapped_o_w_3 (cx : Cx) (tStates : Int) (tHood : List Point) (tNodes : List Node) (i : Int) (a : Int) (to_ : List Int) (x : Node) (a1 : Int) (mp1 : List (List UInt8 × Int)) (next : List Int) (l3 : List Node) (tt : (List Int)) (ee : Exit) (ρ : Env) (σ : Sto) : Prop := match tt with
 | inner => ee = .exit 5 ∧ EE cx (aU [(2, .u (.one (.box 2 0))), (4, .u (.one (.box 4 0))), (5, .u (.one (.d (.int .i64 (aA .i64 (ah tHood) i))))), (6, .u (.one (.box 6 0))), (7, .u (.one (.own 26))), (8, .u (.one (.d (.int .i64 a)))), (9, .u (.one (.box 9 0))), (10, .u (.one (.own 42))), (11, .u (.one (.d (.int .i64 a1)))), (13, .u (.one (.own 62))), (28, .u (.one (.d (.sl 2 (List.map Node.row tNodes))))), (29, .u (.one (.d (.int .i64 (ah tNodes))))), (30, .u (.one (.d (.int .i64 a)))), (44, .u (.one (.d (.sl 1 (List.map (rI .i64) x.Next))))), (45, .u (.one (.d (.int .i64 (ah x.Next))))), (46, .u (.one (.d (.int .i64 a1))))] [(2, .box [.d (.int .i64 tStates), .own 1000000, .d (.sl 2 (List.map Node.row tNodes))]), (4, .box [.d (.int .i64 0), .d .nil, .d .nil]), (6, .box [.own 5000, .map 21]), (9, .box [.d (.int .i64 x.Level), .d (.sl 1 (List.map (rI .i64) x.Next))]), (21, mOb .str kS (uL (L.int .i64)) mp1), (26, .row 1 3 (List.map (rI .i64) to_)), (42, .row 1 3 (List.map (rI .i64) next)), (62, .row 1 3 (List.map (rI .i64) inner)), (5000, .row 2 75 (List.map Node.row l3)), (1000000, .row 2 71 (List.map Point.row tHood))]) ρ σ
theorem l_reduce_swapped_o_w_3 (cx : Cx) (hn : cx.n = 137) (_hk : cx.k = 1) (tStates : Int) (tHood : List Point) (tNodes : List Node) (i : Int) (a : Int) (to_ : List Int) (x : Node) (a1 : Int) (mp1 : List (List UInt8 × Int)) (next : List Int) (l3 : List Node) {fu : Nat} {stt : Int × (List Int)} {tt : (List Int)} (hh : al (dF tStates tHood tNodes i a to_ x a1 mp1 next l3) fu stt = some tt) {ρ : Env} {σ : Sto}
  (hE : b4 (fun stt : Int × (List Int) => match stt with | (a2, _inner) => [(2, .u (.one (.box 2 0))), (4, .u (.one (.box 4 0))), (5, .u (.one (.d (.int .i64 (aA .i64 (ah tHood) i))))), (6, .u (.one (.box 6 0))), (7, .u (.one (.own 26))), (8, .u (.one (.d (.int .i64 a)))), (9, .u (.one (.box 9 0))), (10, .u (.one (.own 42))), (11, .u (.one (.d (.int .i64 a1)))), (13, .u (.one (.own 62))), (28, .u (.one (.d (.sl 2 (List.map Node.row tNodes))))), (29, .u (.one (.d (.int .i64 (ah tNodes))))), (30, .u (.one (.d (.int .i64 a)))), (44, .u (.one (.d (.sl 1 (List.map (rI .i64) x.Next))))), (45, .u (.one (.d (.int .i64 (ah x.Next))))), (46, .u (.one (.d (.int .i64 a1)))), (64, .u (.one (.d (.sl 1 (List.map (rI .i64) x.Next))))), (65, .u (.one (.d (.int .i64 (ah x.Next))))), (66, .u (.one (.d (.int .i64 a2))))]) (fun stt : Int × (List Int) => match stt with | (_a2, inner) => [(2, .box [.d (.int .i64 tStates), .own 1000000, .d (.sl 2 (List.map Node.row tNodes))]), (4, .box [.d (.int .i64 0), .d .nil, .d .nil]), (6, .box [.own 5000, .map 21]), (9, .box [.d (.int .i64 x.Level), .d (.sl 1 (List.map (rI .i64) x.Next))]), (21, mOb .str kS (uL (L.int .i64)) mp1), (26, .row 1 3 (List.map (rI .i64) to_)), (42, .row 1 3 (List.map (rI .i64) next)), (62, .row 1 3 (List.map (rI .i64) inner)), (5000, .row 2 75 (List.map Node.row l3)), (1000000, .row 2 71 (List.map Point.row tHood))]) stt ρ σ) : Swp Tryz.prog cx (.loop (bQ [1, 1, 1, 1, 0, 1, 0, 0, 1, 1, 0, 0, 1, 1, 1, 0, 1, 0, 0, 1, 1, 0, 0, 1, 0, 1, 0, 1, 0, 1, 0, 0] (aP Tryz.f105))) ρ σ (F_reduce_swapped_o_w_3 cx tStates tHood tNodes i a to_ x a1 mp1 next l3 tt) := by
 refine b8 hE hh (F_reduce_swapped_o_w_3 cx tStates tHood tNodes i a to_ x a1 mp1 next l3) (fun _ => by rfl) (fun _ => by rfl) ?_
 rintro ⟨a2, inner⟩ r hm ρ σ hf
 simp only [Fits, am, ap, and_true] at hf
 unfold dF at hm
 dsimp only at hm
 refine srs hn (by kernel_rfl) ?_
 simp -dsimp [hf]
 refine ac ?_
 rcases aj hm with ⟨c10, hm⟩ | ⟨c10, hm⟩
 ·refine a8 (b := (ltB a2 (ah x.Next))) (by simp -dsimp) c10 ?_
  refine ab (a6 ?_)
  obtain ⟨inner1, j18, hm⟩ := bnd hm
  refine aw [(2, .u (.one (.box 2 0))), (4, .u (.one (.box 4 0))), (5, .u (.one (.d (.int .i64 (aA .i64 (ah tHood) i))))), (6, .u (.one (.box 6 0))), (7, .u (.one (.own 26))), (8, .u (.one (.d (.int .i64 a)))), (9, .u (.one (.box 9 0))), (10, .u (.one (.own 42))), (11, .u (.one (.d (.int .i64 a1)))), (13, .u (.one (.own 62))), (28, .u (.one (.d (.sl 2 (List.map Node.row tNodes))))), (29, .u (.one (.d (.int .i64 (ah tNodes))))), (30, .u (.one (.d (.int .i64 a)))), (44, .u (.one (.d (.sl 1 (List.map (rI .i64) x.Next))))), (45, .u (.one (.d (.int .i64 (ah x.Next))))), (46, .u (.one (.d (.int .i64 a1)))), (64, .u (.one (.d (.sl 1 (List.map (rI .i64) x.Next))))), (65, .u (.one (.d (.int .i64 (ah x.Next))))), (66, .u (.one (.d (.int .i64 a2))))] [(2, .box [.d (.int .i64 tStates), .own 1000000, .d (.sl 2 (List.map Node.row tNodes))]), (4, .box [.d (.int .i64 0), .d .nil, .d .nil]), (6, .box [.own 5000, .map 21]), (9, .box [.d (.int .i64 x.Level), .d (.sl 1 (List.map (rI .i64) x.Next))]), (21, mOb .str kS (uL (L.int .i64)) mp1), (26, .row 1 3 (List.map (rI .i64) to_)), (42, .row 1 3 (List.map (rI .i64) next)), (62, .row 1 3 (List.map (rI .i64) inner1)), (5000, .row 2 75 (List.map Node.row l3)), (1000000, .row 2 71 (List.map Point.row tHood))] (by rfl) (by rfl) ?_ fun ρ σ hf => ?_
  ·replace hm := j18
   clear j18
   refine ai ?_
   refine srs hn (by kernel_rfl) ?_
   obtain ⟨x2, h11, hm⟩ := bnd hm
   simp -dsimp [hf, c10, h11]
   refine srs hn (by kernel_rfl) ?_
   obtain ⟨x3, h12, hm⟩ := bnd hm
   obtain ⟨x4, h13, hm⟩ := bnd hm
   obtain ⟨x5, h14, hm⟩ := bnd hm
   simp -dsimp [hf, h12, h13, h14, aW h14, rsetI .i64 inner a2.toNat x4]
   refine srs hn (by kernel_rfl) ?_
   simp -dsimp [hf]
   rcases aj hm with ⟨c15, hm⟩ | ⟨c15, hm⟩
   ·refine a8 (b := (gtB (aA .i64 (ah tHood) i) 2)) (by simp -dsimp) c15 ?_
    refine sr1 hn (by kernel_rfl) ?_
    obtain ⟨x6, h16, hm⟩ := bnd hm
    obtain ⟨x7, h17, hm⟩ := bnd hm
    simp -dsimp [hf, c15, h16, aW h16, h17, aW h17, rsetI .i64 (inner.set a2.toNat x4) a2.toNat x7]
    refine aJ ?_
    refine a6 ?_
    cases hm
    refine EE.here ?_
    simp -dsimp [hf]
   ·refine a7 (b := (gtB (aA .i64 (ah tHood) i) 2)) (by simp -dsimp) c15 ?_
    refine ab ?_
    refine aJ ?_
    refine a6 ?_
    cases hm
    refine EE.here ?_
    simp -dsimp [hf, c15]
  ·clear j18
   simp only [Fits, am, ap, and_true] at hf
   refine sr1 hn (by kernel_rfl) ?_
   simp -dsimp [hf]
   cases hm
   refine aB ?_
   refine EE.here ?_
   simp -dsimp [hf]
 ·refine a7 (b := (ltB a2 (ah x.Next))) (by simp -dsimp) c10 ?_
  refine av ?_
  refine ag ?_
  cases hm
  refine ar nofun ?_
  unfold F_reduce_swapped_o_w_3
  dsimp only
  refine ⟨rfl, ?_⟩
  refine EE.here ?_
  simp -dsimp [hf, c10]
def F_reduce_swapped_o_w_2 (cx : Cx) (tStates : Int) (tHood : List Point) (tNodes : List Node) (i : Int) (a : Int) (to_ : List Int) (x : Node) (tt : ((List (List UInt8 × Int)) × (List Int) × (List Node))) (ee : Exit) (ρ : Env) (σ : Sto) : Prop := match tt with
 | (mp1, next, l3) => ee = .exit 2 ∧ EE cx (aU [(2, .u (.one (.box 2 0))), (4, .u (.one (.box 4 0))), (5, .u (.one (.d (.int .i64 (aA .i64 (ah tHood) i))))), (6, .u (.one (.box 6 0))), (7, .u (.one (.own 26))), (8, .u (.one (.d (.int .i64 a)))), (9, .u (.one (.box 9 0))), (10, .u (.one (.own 42))), (28, .u (.one (.d (.sl 2 (List.map Node.row tNodes))))), (29, .u (.one (.d (.int .i64 (ah tNodes))))), (30, .u (.one (.d (.int .i64 a))))] [(2, .box [.d (.int .i64 tStates), .own 1000000, .d (.sl 2 (List.map Node.row tNodes))]), (4, .box [.d (.int .i64 0), .d .nil, .d .nil]), (6, .box [.own 5000, .map 21]), (9, .box [.d (.int .i64 x.Level), .d (.sl 1 (List.map (rI .i64) x.Next))]), (21, mOb .str kS (uL (L.int .i64)) mp1), (26, .row 1 3 (List.map (rI .i64) to_)), (42, .row 1 3 (List.map (rI .i64) next)), (5000, .row 2 75 (List.map Node.row l3)), (1000000, .row 2 71 (List.map Point.row tHood))]) ρ σ
theorem l_reduce_swapped_o_w_2 (cx : Cx) (hn : cx.n = 137) (hk : cx.k = 1) (tStates : Int) (tHood : List Point) (tNodes : List Node) (i : Int) (a : Int) (to_ : List Int) (x : Node) {fu : Nat} {stt : Int × (List (List UInt8 × Int)) × (List Int) × (List Node)} {tt : ((List (List UInt8 × Int)) × (List Int) × (List Node))} (hh : al (dD tStates tHood tNodes i a to_ x) fu stt = some tt) {ρ : Env} {σ : Sto}
  (hE : b4 (fun stt : Int × (List (List UInt8 × Int)) × (List Int) × (List Node) => match stt with | (a1, _mp1, _next, _l3) => [(2, .u (.one (.box 2 0))), (4, .u (.one (.box 4 0))), (5, .u (.one (.d (.int .i64 (aA .i64 (ah tHood) i))))), (6, .u (.one (.box 6 0))), (7, .u (.one (.own 26))), (8, .u (.one (.d (.int .i64 a)))), (9, .u (.one (.box 9 0))), (10, .u (.one (.own 42))), (28, .u (.one (.d (.sl 2 (List.map Node.row tNodes))))), (29, .u (.one (.d (.int .i64 (ah tNodes))))), (30, .u (.one (.d (.int .i64 a)))), (44, .u (.one (.d (.sl 1 (List.map (rI .i64) x.Next))))), (45, .u (.one (.d (.int .i64 (ah x.Next))))), (46, .u (.one (.d (.int .i64 a1))))]) (fun stt : Int × (List (List UInt8 × Int)) × (List Int) × (List Node) => match stt with | (_a1, mp1, next, l3) => [(2, .box [.d (.int .i64 tStates), .own 1000000, .d (.sl 2 (List.map Node.row tNodes))]), (4, .box [.d (.int .i64 0), .d .nil, .d .nil]), (6, .box [.own 5000, .map 21]), (9, .box [.d (.int .i64 x.Level), .d (.sl 1 (List.map (rI .i64) x.Next))]), (21, mOb .str kS (uL (L.int .i64)) mp1), (26, .row 1 3 (List.map (rI .i64) to_)), (42, .row 1 3 (List.map (rI .i64) next)), (5000, .row 2 75 (List.map Node.row l3)), (1000000, .row 2 71 (List.map Point.row tHood))]) stt ρ σ) : Swp Tryz.prog cx (.loop (bQ [1, 1, 1, 1, 0, 1, 0, 0, 1, 1, 0, 0, 1, 1, 1, 0, 1, 0, 0] (aP Tryz.f105))) ρ σ (F_reduce_swapped_o_w_2 cx tStates tHood tNodes i a to_ x tt) := by
 refine b8 hE hh (F_reduce_swapped_o_w_2 cx tStates tHood tNodes i a to_ x) (fun _ => by rfl) (fun _ => by rfl) ?_
 rintro ⟨a1, mp1, next, l3⟩ r hm ρ σ hf
 simp only [Fits, am, ap, and_true] at hf
 unfold dD at hm
 dsimp only at hm
 refine srs hn (by kernel_rfl) ?_
 simp -dsimp [hf]
 refine ac ?_
 rcases aj hm with ⟨c6, hm⟩ | ⟨c6, hm⟩
 ·refine a8 (b := (ltB a1 (ah x.Next))) (by simp -dsimp) c6 ?_
  refine ab (a6 (ac (ai ?_)))
  refine srs hn (by kernel_rfl) ?_
  obtain ⟨x1, h7, hm⟩ := bnd hm
  simp -dsimp [hf, c6, h7]
  refine ai ?_
  refine srs hn (by kernel_rfl) ?_
  simp -dsimp [hf]
  rcases aj hm with ⟨c8, hm⟩ | ⟨c8, hm⟩
  ·refine a8 (b := (eqB x.Level (aA .i64 (ah tHood) i))) (by simp -dsimp) c8 ?_
   refine srs hn (by kernel_rfl) ?_
   obtain ⟨l4, h9, hm⟩ := bnd hm
   obtain ⟨⟨h9a, h9b, h9c⟩, rfl⟩ := gV h9
   simp -dsimp [hf, c8, h9a, h9c]
   refine ac ?_
   refine srs hn (by kernel_rfl) ?_
   simp -dsimp [hf]
   refine ai ?_
   obtain ⟨inner, g19, hm⟩ := bnd hm
   refine aO [(2, .u (.one (.box 2 0))), (4, .u (.one (.box 4 0))), (5, .u (.one (.d (.int .i64 (aA .i64 (ah tHood) i))))), (6, .u (.one (.box 6 0))), (7, .u (.one (.own 26))), (8, .u (.one (.d (.int .i64 a)))), (9, .u (.one (.box 9 0))), (10, .u (.one (.own 42))), (11, .u (.one (.d (.int .i64 a1)))), (13, .u (.one (.own 62))), (28, .u (.one (.d (.sl 2 (List.map Node.row tNodes))))), (29, .u (.one (.d (.int .i64 (ah tNodes))))), (30, .u (.one (.d (.int .i64 a)))), (44, .u (.one (.d (.sl 1 (List.map (rI .i64) x.Next))))), (45, .u (.one (.d (.int .i64 (ah x.Next))))), (46, .u (.one (.d (.int .i64 a1)))), (64, .u (.one (.d (.sl 1 (List.map (rI .i64) x.Next))))), (65, .u (.one (.d (.int .i64 (ah x.Next))))), (66, .u (.one (.d (.int .i64 0))))] [(2, .box [.d (.int .i64 tStates), .own 1000000, .d (.sl 2 (List.map Node.row tNodes))]), (4, .box [.d (.int .i64 0), .d .nil, .d .nil]), (6, .box [.own 5000, .map 21]), (9, .box [.d (.int .i64 x.Level), .d (.sl 1 (List.map (rI .i64) x.Next))]), (21, mOb .str kS (uL (L.int .i64)) mp1), (26, .row 1 3 (List.map (rI .i64) to_)), (42, .row 1 3 (List.map (rI .i64) next)), (62, .row 1 3 (List.map (rI .i64) (List.replicate tStates.toNat 0))), (5000, .row 2 75 (List.map Node.row l3)), (1000000, .row 2 71 (List.map Point.row tHood))] (by rfl) (by rfl) (by
     refine EE.here ?_
     simp -dsimp [hf]
   ) fun ρ σ hf => ?_
   refine (l_reduce_swapped_o_w_3 cx hn hk tStates tHood tNodes i a to_ x a1 mp1 next l3 g19 hf).mono fun ee ρ σ x20 => ?_
   unfold F_reduce_swapped_o_w_3 at x20
   dsimp only at x20
   obtain ⟨rfl, x20⟩ := x20
   refine au ?_
   refine a6 ?_
   refine b5 (by rfl) (by rfl) x20 fun ρ σ hf => ?_
   simp only [Fits, am, ap, and_true] at hf
   refine sr1 hn (by kernel_rfl) ?_
   obtain ⟨y, h21, hm⟩ := bnd hm
   simp -dsimp [hf]
   refine bB (g_reduce_builder_node_o_o l3 mp1 (aA .i64 (aA .i64 (ah tHood) i) 1) inner y h21) [6, 5000, 21, 62] [5001] rfl rfl rfl (by simp -dsimp []) rfl (by simp -dsimp [hf]) (by first | rfl | simp) rfl (by rw [hn]; decide) ?_
   obtain ⟨x2, h22, hm⟩ := bnd hm
   simp -dsimp [hf, h22, aW h22, rsetI .i64 next a1.toNat y.1]
   refine aJ ?_
   refine aJ ?_
   refine a6 ?_
   refine sr1 hn (by kernel_rfl) ?_
   simp -dsimp [hf]
   cases hm
   refine aB ?_
   refine EE.step (Wk.move 5001 5000 (by decide) (.inl (by decide))) ?_
   refine EE.here ?_
   simp -dsimp [hf]
  ·refine a7 (b := (eqB x.Level (aA .i64 (ah tHood) i))) (by simp -dsimp) c8 ?_
   refine srs hn (by kernel_rfl) ?_
   simp -dsimp [hf, c8]
   rcases aj hm with ⟨c23, hm⟩ | ⟨c23, hm⟩
   ·refine a8 (b := (gtB x.Level 1)) (by simp -dsimp) c23 ?_
    refine sr1 hn (by kernel_rfl) ?_
    obtain ⟨x2, h24, hm⟩ := bnd hm
    obtain ⟨x3, h25, hm⟩ := bnd hm
    simp -dsimp [hf, c23, h24, aW h24, h25, aW h25, rsetI .i64 next a1.toNat x2]
    refine aJ ?_
    refine aJ ?_
    refine a6 ?_
    refine sr1 hn (by kernel_rfl) ?_
    simp -dsimp [hf]
    cases hm
    refine aB ?_
    refine EE.here ?_
    simp -dsimp [hf]
   ·refine a7 (b := (gtB x.Level 1)) (by simp -dsimp) c23 ?_
    refine sr1 hn (by kernel_rfl) ?_
    obtain ⟨x2, h26, hm⟩ := bnd hm
    simp -dsimp [hf, c23, h26, aW h26, rsetI .i64 next a1.toNat x1]
    refine aJ ?_
    refine aJ ?_
    refine a6 ?_
    refine sr1 hn (by kernel_rfl) ?_
    simp -dsimp [hf]
    cases hm
    refine aB ?_
    refine EE.here ?_
    simp -dsimp [hf]
 ·refine a7 (b := (ltB a1 (ah x.Next))) (by simp -dsimp) c6 ?_
  refine av ?_
  refine ag ?_
  cases hm
  refine ar nofun ?_
  unfold F_reduce_swapped_o_w_2
  dsimp only
  refine ⟨rfl, ?_⟩
  refine EE.here ?_
  simp -dsimp [hf, c6]
def F_reduce_swapped_o_w_1 (cx : Cx) (tStates : Int) (tHood : List Point) (tNodes : List Node) (_i : Int) (tt : ((List (List UInt8 × Int)) × (List Int) × (List Node))) (ee : Exit) (ρ : Env) (σ : Sto) : Prop := match tt with
 | (mp, to_, l1) => ee = .exit 0 ∧ EE cx (aU [(2, .u (.one (.box 2 0))), (4, .u (.one (.box 4 0))), (6, .u (.one (.box 6 0))), (7, .u (.one (.own 26)))] [(2, .box [.d (.int .i64 tStates), .own 1000000, .d (.sl 2 (List.map Node.row tNodes))]), (4, .box [.d (.int .i64 0), .d .nil, .d .nil]), (6, .box [.own 5000, .map 21]), (21, mOb .str kS (uL (L.int .i64)) mp), (26, .row 1 3 (List.map (rI .i64) to_)), (5000, .row 2 75 (List.map Node.row l1)), (1000000, .row 2 71 (List.map Point.row tHood))]) ρ σ
theorem l_reduce_swapped_o_w_1 (cx : Cx) (hn : cx.n = 137) (hk : cx.k = 1) (tStates : Int) (tHood : List Point) (tNodes : List Node) (i : Int) {fu : Nat} {stt : Int × (List (List UInt8 × Int)) × (List Int) × (List Node)} {tt : ((List (List UInt8 × Int)) × (List Int) × (List Node))} (hh : al (dE tStates tHood tNodes i) fu stt = some tt) {ρ : Env} {σ : Sto}
  (hE : b4 (fun stt : Int × (List (List UInt8 × Int)) × (List Int) × (List Node) => match stt with | (a, _mp, _to_, _l1) => [(2, .u (.one (.box 2 0))), (4, .u (.one (.box 4 0))), (5, .u (.one (.d (.int .i64 (aA .i64 (ah tHood) i))))), (6, .u (.one (.box 6 0))), (7, .u (.one (.own 26))), (28, .u (.one (.d (.sl 2 (List.map Node.row tNodes))))), (29, .u (.one (.d (.int .i64 (ah tNodes))))), (30, .u (.one (.d (.int .i64 a))))]) (fun stt : Int × (List (List UInt8 × Int)) × (List Int) × (List Node) => match stt with | (_a, mp, to_, l1) => [(2, .box [.d (.int .i64 tStates), .own 1000000, .d (.sl 2 (List.map Node.row tNodes))]), (4, .box [.d (.int .i64 0), .d .nil, .d .nil]), (6, .box [.own 5000, .map 21]), (21, mOb .str kS (uL (L.int .i64)) mp), (26, .row 1 3 (List.map (rI .i64) to_)), (5000, .row 2 75 (List.map Node.row l1)), (1000000, .row 2 71 (List.map Point.row tHood))]) stt ρ σ) : Swp Tryz.prog cx (.loop (bQ [1, 1, 1, 1, 0, 1, 0, 0] (aP Tryz.f105))) ρ σ (F_reduce_swapped_o_w_1 cx tStates tHood tNodes i tt) := by
 refine b8 hE hh (F_reduce_swapped_o_w_1 cx tStates tHood tNodes i) (fun _ => by rfl) (fun _ => by rfl) ?_
 rintro ⟨a, mp, to_, l1⟩ r hm ρ σ hf
 simp only [Fits, am, ap, and_true] at hf
 unfold dE at hm
 dsimp only at hm
 refine srs hn (by kernel_rfl) ?_
 simp -dsimp [hf]
 refine ac ?_
 rcases aj hm with ⟨c2, hm⟩ | ⟨c2, hm⟩
 ·refine a8 (b := (ltB a (ah tNodes))) (by simp -dsimp) c2 ?_
  refine ab (a6 (ac (ai ?_)))
  refine srs hn (by kernel_rfl) ?_
  obtain ⟨x, h3, hm⟩ := bnd hm
  simp -dsimp [hf, c2, h3]
  refine ac ?_
  refine srs hn (by kernel_rfl) ?_
  simp -dsimp [hf]
  rcases aj hm with ⟨c4, hm⟩ | ⟨c4, hm⟩
  ·refine a8 (b := (eqB x.Level (aA .i64 (aA .i64 (ah tHood) i) 1))) (by simp -dsimp) c4 ?_
   refine av ?_
   refine ag ?_
   refine au ?_
   refine a6 ?_
   refine sr1 hn (by kernel_rfl) ?_
   simp -dsimp [hf, c4]
   cases hm
   refine aB ?_
   refine EE.here ?_
   simp -dsimp [hf]
  ·refine a7 (b := (eqB x.Level (aA .i64 (aA .i64 (ah tHood) i) 1))) (by simp -dsimp) c4 ?_
   refine ab (a6 ?_)
   refine srs hn (by kernel_rfl) ?_
   obtain ⟨l2, h5, hm⟩ := bnd hm
   obtain ⟨⟨h5a, h5b, h5c⟩, rfl⟩ := gV h5
   simp -dsimp [hf, c4, h5a, h5c]
   refine ac ?_
   refine srs hn (by kernel_rfl) ?_
   simp -dsimp
   refine ai ?_
   obtain ⟨⟨mp1, next, l3⟩, g27, hm⟩ := bnd hm
   refine aO [(2, .u (.one (.box 2 0))), (4, .u (.one (.box 4 0))), (5, .u (.one (.d (.int .i64 (aA .i64 (ah tHood) i))))), (6, .u (.one (.box 6 0))), (7, .u (.one (.own 26))), (8, .u (.one (.d (.int .i64 a)))), (9, .u (.one (.box 9 0))), (10, .u (.one (.own 42))), (28, .u (.one (.d (.sl 2 (List.map Node.row tNodes))))), (29, .u (.one (.d (.int .i64 (ah tNodes))))), (30, .u (.one (.d (.int .i64 a)))), (44, .u (.one (.d (.sl 1 (List.map (rI .i64) x.Next))))), (45, .u (.one (.d (.int .i64 (ah x.Next))))), (46, .u (.one (.d (.int .i64 0))))] [(2, .box [.d (.int .i64 tStates), .own 1000000, .d (.sl 2 (List.map Node.row tNodes))]), (4, .box [.d (.int .i64 0), .d .nil, .d .nil]), (6, .box [.own 5000, .map 21]), (9, .box [.d (.int .i64 x.Level), .d (.sl 1 (List.map (rI .i64) x.Next))]), (21, mOb .str kS (uL (L.int .i64)) mp), (26, .row 1 3 (List.map (rI .i64) to_)), (42, .row 1 3 (List.map (rI .i64) (List.replicate tStates.toNat 0))), (5000, .row 2 75 (List.map Node.row l1)), (1000000, .row 2 71 (List.map Point.row tHood))] (by rfl) (by rfl) (by
     refine EE.here ?_
     simp -dsimp [hf]
   ) fun ρ σ hf => ?_
   refine (l_reduce_swapped_o_w_2 cx hn hk tStates tHood tNodes i a to_ x g27 hf).mono fun ee ρ σ x28 => ?_
   unfold F_reduce_swapped_o_w_2 at x28
   dsimp only at x28
   obtain ⟨rfl, x28⟩ := x28
   refine au ?_
   refine a6 ?_
   refine b5 (by rfl) (by rfl) x28 fun ρ σ hf => ?_
   simp only [Fits, am, ap, and_true] at hf
   refine sr1 hn (by kernel_rfl) ?_
   obtain ⟨y, h29, hm⟩ := bnd hm
   simp -dsimp [hf]
   refine bB (g_reduce_builder_node_o_o l3 mp1 x.Level next y h29) [6, 5000, 21, 42] [5002] rfl rfl rfl (by simp -dsimp []) rfl (by simp -dsimp [hf]) (by first | rfl | simp) rfl (by rw [hn]; decide) ?_
   obtain ⟨x1, h30, hm⟩ := bnd hm
   simp -dsimp [hf, h30, aW h30, rsetI .i64 to_ a.toNat y.1]
   refine aJ ?_
   refine a6 ?_
   refine sr1 hn (by kernel_rfl) ?_
   simp -dsimp [hf]
   cases hm
   refine aB ?_
   refine EE.step (Wk.move 5002 5000 (by decide) (.inl (by decide))) ?_
   refine EE.here ?_
   simp -dsimp [hf]
 ·refine a7 (b := (ltB a (ah tNodes))) (by simp -dsimp) c2 ?_
  refine av ?_
  refine ag ?_
  cases hm
  refine ar nofun ?_
  unfold F_reduce_swapped_o_w_1
  dsimp only
  refine ⟨rfl, ?_⟩
  refine EE.here ?_
  simp -dsimp [hf, c2]
theorem g_reduce_swapped_o_w (tStates : Int) (tHood : List Point) (tNodes : List Node) (i : Int) (r : List Node) (hm : dY tStates tHood tNodes i = some r) : GFn Tryz.prog 105 [.u (.agg [.d (.int .i64 tStates), .own 1000000, .d (.sl 2 (List.map Node.row tNodes))]), .u (.one (.d (.int .i64 i)))] [.row 2 71 (List.map Point.row tHood)] (.u (.agg [.d (.int .i64 tStates), .own 1000000, .d (.sl 2 (List.map Node.row r))])) [some (.row 2 71 (List.map Point.row tHood))] := by
 refine bL aK _ Tryz.func105 rfl (by kernel_rfl) (by simp [Tryz.ntmps105]) (by simp) (by first | rfl | simp) (by first | rfl | simp) fun cx hn hk => ?_
 replace hn : cx.n = 137 := hn.trans Tryz.ntmps105
 replace hk : cx.k = 1 := hk
 unfold dY at hm
 refine srs hn (by kernel_rfl) ?_
 simp -dsimp []
 refine srs hn (by kernel_rfl) ?_
 simp -dsimp []
 refine srs hn (by kernel_rfl) ?_
 simp -dsimp [(@id (Ob.map .str [] = mOb .str kS (uL (L.int .i64)) ([] : List (List UInt8 × Int))) (iv .str kS (uL (L.int .i64))))]
 refine srs hn (by kernel_rfl) ?_
 obtain ⟨l, h1, hm⟩ := bnd hm
 obtain ⟨⟨h1a, h1b, h1c⟩, rfl⟩ := gV h1
 simp -dsimp [h1a, h1c]
 refine ac ?_
 refine srs hn (by kernel_rfl) ?_
 simp -dsimp
 refine ai ?_
 obtain ⟨⟨mp, to_, l1⟩, g31, hm⟩ := bnd hm
 refine aO [(2, .u (.one (.box 2 0))), (4, .u (.one (.box 4 0))), (5, .u (.one (.d (.int .i64 (aA .i64 (ah tHood) i))))), (6, .u (.one (.box 6 0))), (7, .u (.one (.own 26))), (28, .u (.one (.d (.sl 2 (List.map Node.row tNodes))))), (29, .u (.one (.d (.int .i64 (ah tNodes))))), (30, .u (.one (.d (.int .i64 0))))] [(2, .box [.d (.int .i64 tStates), .own 1000000, .d (.sl 2 (List.map Node.row tNodes))]), (4, .box [.d (.int .i64 0), .d .nil, .d .nil]), (6, .box [.own 5000, .map 21]), (21, mOb .str kS (uL (L.int .i64)) []), (26, .row 1 3 (List.map (rI .i64) (List.replicate (ah tNodes).toNat 0))), (5000, .row 2 75 (List.map Node.row [])), (1000000, .row 2 71 (List.map Point.row tHood))] (by rfl) (by rfl) (by
   refine EE.step (Wk.own0b 6 0 5000 2 75 [.d .nil, .map 21] (by simp -dsimp) (by rfl) (by decide) (by decide)) ?_
   refine EE.here ?_
   simp -dsimp
 ) fun ρ σ hf => ?_
 refine (l_reduce_swapped_o_w_1 cx hn hk tStates tHood tNodes i g31 hf).mono fun ee ρ σ x32 => ?_
 unfold F_reduce_swapped_o_w_1 at x32
 dsimp only at x32
 obtain ⟨rfl, x32⟩ := x32
 refine au ?_
 refine a6 ?_
 refine b5 (by rfl) (by rfl) x32 fun ρ σ hf => ?_
 simp only [Fits, am, ap, and_true] at hf
 refine Swp.pre (Wk.frz 5000 2 75 (List.map Node.row l1) (by simp -dsimp [hf])) ?_
 refine sw_drNs aK mixed 13 (by rw [hn]; kernel_rfl) ?_
 dsimp only [List.take, List.drop]
 obtain ⟨x, h33, hm⟩ := bnd hm
 obtain ⟨y, h34, hm⟩ := bnd hm
 simp -dsimp [hf, h33, aW h33]
 refine ak (c_reduce_ordered l1 x y h34) ?_
 simp -dsimp [hf]
 refine aa ?_
 cases hm
 refine ⟨.inr rfl, ?_⟩
 refine EE.here ?_
 simp -dsimp [hf]
end
end Go.Proofs.YtfpjnmhdbgbmmaaGreatDoor
