/-
  That the code does what the functions say (made by cc.py).
-/
import Derived.Test.YtdjclgfbggfpaaaGreatDoorMd1
import Derived.Test.YtdjclgfbggfpaaaGreatDoorTb
import Derived.Test.YtdjclgfbggfpaaaGreatDoorWa1
import Derived.Test.YtdjclgfbggfpaaaGreatDoorCfP
namespace Go.Proofs.YtdjclgfbggfpaaaGreatDoor
open Go.AM Go.Proofs
attribute [-simp] qlookup cn dG Ob.wipe Ob.ren Ob.frz1
theorem cr (l : List Cell) (r : List Cell) (hm : aL l = some r) : GFn Tryz.prog 111 [.u (.one (.own 1000000)), .u (.one (.fn 63 []))] [.row 3 51 (List.map Cell.row l)] (.tup []) [some (.row 3 51 (List.map Cell.row r))] := by
 refine g_intro' bj _ Tryz.func111 rfl (by kernel_rfl) (by simp [Tryz.ntmps111]) (by simp) (by first | rfl | simp) (by first | rfl | simp) fun cx hn hk => ?_
 replace hn : cx.n = 14 := hn.trans Tryz.ntmps111
 unfold aL at hm
 have hcf : ∀ x y : Cell, PFn Tryz.prog 63 [.u (.agg [.d (.int .i64 x.X), .d (.int .i64 x.Y), .d (.int .i64 x.S)]), .u (.agg [.d (.int .i64 y.X), .d (.int .i64 y.Y), .d (.int .i64 y.S)])] (· = .int (aC x y)) := fun x y => PFn.of (c_pattern_order x y _ (tot_pattern_order x y))
 have hp : ∀ lim : Nat, lim < 4611686018427387904 → GFn Tryz.prog 152 [.one (.own inBase), .int 0, .int (ak l), .int lim, .one (.fn 63 [])] [.row 3 51 (List.map Cell.row l)] (.tup []) [some (.row 3 51 (List.map Cell.row r))] :=
  fun lim hlim => pdq_g pdq152 (k := 3) (encI := Cell.ints) (fun _ => rfl) Tryz.isAgg51 Tryz.sizeOf51 swo_pattern_order hcf hm lim hlim
 refine srs hn (by kernel_rfl) ?_
 simp -dsimp []
 refine sr1 hn (by kernel_rfl) ?_
 simp -dsimp []
 refine ag (bits_pure bitsLen ⟨_, Tryz.func153, by decide, rfl⟩ _ (iconv_u64 _).1 (iconv_u64 _).2) (by rw [hn]; decide) ?_
 simp -dsimp []
 refine callL_g (hp (Lib.bitLen (gr .u64 (ak l)).toNat) (bitLen_small _ (by have := (iconv_u64 (ak l)); omega))) [1000000] [] rfl rfl rfl (by simp -dsimp []) rfl (by simp -dsimp []) rfl rfl (by rw [hn]; decide) ?_
 simp -dsimp []
 refine EE.here ?_
 simp -dsimp
end Go.Proofs.YtdjclgfbggfpaaaGreatDoor
