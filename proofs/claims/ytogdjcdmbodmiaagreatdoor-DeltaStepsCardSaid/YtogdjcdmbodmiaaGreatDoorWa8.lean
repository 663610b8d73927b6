/- That the code does what the functions say (made by cc.py). -/
import Derived.Test.YtogdjcdmbodmiaaGreatDoorWa7
import Derived.Test.YtogdjcdmbodmiaaGreatDoorPsx1
namespace Go.Proofs.YtogdjcdmbodmiaaGreatDoor
open Go.AM Go.Proofs
attribute [-simp] qlookup cJ cG Ob.wipe Ob.ren Ob.frz1 bX dz dJ fw Prod.forall Key.u
theorem g_slices_SortFunc_api_Pattern_api_Cell_o_pattern_order (l : List Cell) (r : List Cell) (hm : al l = some r) : GFn Tryz.prog 98 [.u (.one (.own 1000000)), .u (.one (.fn 94 []))] [.row 3 71 (List.map Cell.row l)] (.tup []) [some (.row 3 71 (List.map Cell.row r))] := by
 refine cg aW _ Tryz.func98 rfl (by kernel_rfl) (by simp [Tryz.ntmps98]) (by simp) (by first | rfl | simp) (by first | rfl | simp) fun cx hn hk => ?_
 replace hn : cx.n = 14 := hn.trans Tryz.ntmps98
 unfold al at hm
 have hcf : ∀ x y : Cell, PFn Tryz.prog 94 [.u (.agg [.d (.int .i64 x.X), .d (.int .i64 x.Y), .d (.int .i64 x.S)]), .u (.agg [.d (.int .i64 y.X), .d (.int .i64 y.Y), .d (.int .i64 y.S)])] (· = .int (aA x y)) := fun x y => PFn.of (c_pattern_order x y _ (tot_pattern_order x y))
 have hp : ∀ lim : Nat, lim < 4611686018427387904 → GFn Tryz.prog 159 [.one (.own inBase), .int 0, .int (ak l), .int lim, .one (.fn 94 [])] [.row 3 71 (List.map Cell.row l)] (.tup []) [some (.row 3 71 (List.map Cell.row r))] :=
  fun lim hlim => pdq_g pdq159 (k := 3) (encI := Cell.ints) (fun _ => rfl) Tryz.isAgg71 Tryz.sizeOf71 swo_pattern_order hcf hm lim hlim
 refine srs hn ?_
 simp -dsimp
 refine sr1 hn ?_
 simp -dsimp
 refine aa (bits_pure bitsLen ⟨_, Tryz.func96, by decide, rfl⟩ _ (gn _).1 (gn _).2) (dkL hn) ?_
 simp -dsimp
 refine bA (hp (Lib.bitLen (d5 .u64 (ak l)).toNat) (bitLen_small _ (by have := (gn (ak l)); omega))) [1000000] [] rfl rfl rfl (by simp -dsimp) rfl (by simp -dsimp) rfl rfl (dkL hn) ?_
 simp -dsimp
 exact EE.here (by simp -dsimp)
end Go.Proofs.YtogdjcdmbodmiaaGreatDoor
