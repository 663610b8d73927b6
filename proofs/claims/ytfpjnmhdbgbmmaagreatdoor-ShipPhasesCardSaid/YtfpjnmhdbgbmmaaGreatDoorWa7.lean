/- That the code does what the functions say (made by cc.py). -/
import Derived.Test.YtfpjnmhdbgbmmaaGreatDoorWa6
import Derived.Test.YtfpjnmhdbgbmmaaGreatDoorCfP
namespace Go.Proofs.YtfpjnmhdbgbmmaaGreatDoor
open Go.AM Go.Proofs
attribute [-simp] qlookup du fQ Ob.wipe Ob.ren Ob.frz1
theorem cT (l : List Cell) (r : List Cell) (hm : aZ l = some r) : GFn Tryz.prog 98 [.u (.one (.own 1000000)), .u (.one (.fn 99 []))] [.row 3 57 (List.map Cell.row l)] (.tup []) [some (.row 3 57 (List.map Cell.row r))] := by
 refine cV aL _ Tryz.func98 rfl (by kernel_rfl) (by simp [Tryz.ntmps98]) (by simp) (by first | rfl | simp) (by first | rfl | simp) fun cx hn hk => ?_
 replace hn : cx.n = 14 := hn.trans Tryz.ntmps98
 unfold aZ at hm
 have hcf : ∀ x y : Cell, PFn Tryz.prog 99 [.u (.agg [.d (.int .i64 x.X), .d (.int .i64 x.Y), .d (.int .i64 x.S)]), .u (.agg [.d (.int .i64 y.X), .d (.int .i64 y.Y), .d (.int .i64 y.S)])] (· = .int (cm x y)) := fun x y => PFn.of (c_algebra_order x y _ (tot_algebra_order x y))
 have hp : ∀ lim : Nat, lim < 4611686018427387904 → GFn Tryz.prog 161 [.one (.own inBase), .int 0, .int (ah l), .int lim, .one (.fn 99 [])] [.row 3 57 (List.map Cell.row l)] (.tup []) [some (.row 3 57 (List.map Cell.row r))] :=
  fun lim hlim => pdq_g pdq161 (k := 3) (encI := Cell.ints) (fun _ => rfl) Tryz.isAgg57 Tryz.sizeOf57 swo_algebra_order hcf hm lim hlim
 refine srs hn ?_
 simp -dsimp
 refine sr1 hn ?_
 simp -dsimp
 refine ag (bits_pure bitsLen ⟨_, Tryz.func162, by decide, rfl⟩ _ (jw _).1 (jw _).2) (dkL hn) ?_
 simp -dsimp
 refine d3 (hp (Lib.bitLen (je .u64 (ah l)).toNat) (bitLen_small _ (by have := (jw (ah l)); omega))) [1000000] [] rfl rfl rfl (by simp -dsimp) rfl (by simp -dsimp) rfl rfl (dkL hn) ?_
 simp -dsimp
 exact EE.here (by simp -dsimp)
end Go.Proofs.YtfpjnmhdbgbmmaaGreatDoor
