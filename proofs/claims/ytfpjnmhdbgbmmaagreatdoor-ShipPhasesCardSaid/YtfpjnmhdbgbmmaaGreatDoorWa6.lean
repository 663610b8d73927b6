/- That the code does what the functions say (made by cc.py). -/
import Derived.Test.YtfpjnmhdbgbmmaaGreatDoorWa1
namespace Go.Proofs.YtfpjnmhdbgbmmaaGreatDoor
open Go.AM Go.Proofs
attribute [-simp] qlookup du fQ Ob.wipe Ob.ren Ob.frz1
theorem f_algebra_order (a : Cell) (b : Cell) (r : Int) (hm : eP a b = some r) : PFn Tryz.prog 99 [.u (.agg [.d (.int .i64 a.X), .d (.int .i64 a.Y), .d (.int .i64 a.S)]), .u (.agg [.d (.int .i64 b.X), .d (.int .i64 b.Y), .d (.int .i64 b.S)])] (fun v => v.wk (.u (.one (.d (.int .i64 r))))) := by
 refine aV Tryz.func99 Tryz.ntmps99 rfl (by kernel_rfl) (by simp) fun cx hn => ?_
 unfold eP at hm
 refine srs hn ?_
 simp -dsimp
 refine bF aL mixed (by rw [hn]; kernel_rfl) ?_
 obtain ⟨y, h1, hm⟩ := bnd hm
 simp -dsimp
 refine al (f8 a.Y b.Y y h1) ?_
 obtain ⟨y1, h2, hm⟩ := bnd hm
 simp -dsimp
 refine al (f8 a.X b.X y1 h2) ?_
 obtain ⟨y2, h3, hm⟩ := bnd hm
 simp -dsimp
 refine al (c_cmp_Or_int [y, y1] y2 h3) ?_
 simp -dsimp
 refine ab ?_
 cases hm
 refine ⟨.inr rfl, ?_⟩
 exact EE.here (by simp -dsimp)
theorem c_algebra_order (a : Cell) (b : Cell) (r : Int) (hm : eP a b = some r) : PureCall Tryz.prog 99 [.u (.agg [.d (.int .i64 a.X), .d (.int .i64 a.Y), .d (.int .i64 a.S)]), .u (.agg [.d (.int .i64 b.X), .d (.int .i64 b.Y), .d (.int .i64 b.S)])] (.u (.one (.d (.int .i64 r)))) := (f_algebra_order a b r hm).pureW
end Go.Proofs.YtfpjnmhdbgbmmaaGreatDoor
