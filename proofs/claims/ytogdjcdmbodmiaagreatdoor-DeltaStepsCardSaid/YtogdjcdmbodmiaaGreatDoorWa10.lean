/- That the code does what the functions say (made by cc.py). -/
import Derived.Test.YtogdjcdmbodmiaaGreatDoorWa9
namespace Go.Proofs.YtogdjcdmbodmiaaGreatDoor
open Go.AM Go.Proofs
attribute [-simp] qlookup cJ cG Ob.wipe Ob.ren Ob.frz1 bX dz dJ fw Prod.forall Key.u
theorem g_slices_SortFunc_api_Change_api_Change_o_delta_order (l : List Change) (r : List Change) (hm : aj l = some r) : GFn Tryz.prog 36 [.u (.one (.own 1000000)), .u (.one (.fn 37 []))] [.row 4 74 (List.map Change.row l)] (.tup []) [some (.row 4 74 (List.map Change.row r))] := by
 refine cg aW _ Tryz.func36 rfl (by kernel_rfl) (by simp [Tryz.ntmps36]) (by simp) (by first | rfl | simp) (by first | rfl | simp) fun cx hn hk => ?_
 replace hn : cx.n = 14 := hn.trans Tryz.ntmps36
 unfold aj at hm
 have hcf : ∀ x y : Change, PFn Tryz.prog 37 [.u (.agg [.d (.int .i64 x.X), .d (.int .i64 x.Y), .d (.int .i64 x.From), .d (.int .i64 x.To)]), .u (.agg [.d (.int .i64 y.X), .d (.int .i64 y.Y), .d (.int .i64 y.From), .d (.int .i64 y.To)])] (· = .int (aM x y)) := fun x y => PFn.of (c_delta_order x y _ (tot_delta_order x y))
 have hp : ∀ lim : Nat, lim < 4611686018427387904 → GFn Tryz.prog 95 [.one (.own inBase), .int 0, .int (ak l), .int lim, .one (.fn 37 [])] [.row 4 74 (List.map Change.row l)] (.tup []) [some (.row 4 74 (List.map Change.row r))] :=
  fun lim hlim => pdq_g pdq95 (k := 4) (encI := Change.ints) (fun _ => rfl) Tryz.isAgg74 Tryz.sizeOf74 swo_delta_order hcf hm lim hlim
 refine srs hn ?_
 simp -dsimp
 refine sr1 hn ?_
 simp -dsimp
 refine aa (bits_pure bitsLen ⟨_, Tryz.func96, by decide, rfl⟩ _ (gn _).1 (gn _).2) (dkL hn) ?_
 simp -dsimp
 refine bA (hp (Lib.bitLen (d5 .u64 (ak l)).toNat) (bitLen_small _ (by have := (gn (ak l)); omega))) [1000000] [] rfl rfl rfl (by simp -dsimp) rfl (by simp -dsimp) rfl rfl (dkL hn) ?_
 simp -dsimp
 exact EE.here (by simp -dsimp)
end Go.Proofs.YtogdjcdmbodmiaaGreatDoor
