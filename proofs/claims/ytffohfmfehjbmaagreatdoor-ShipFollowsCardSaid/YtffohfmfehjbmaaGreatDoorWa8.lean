/- That the code does what the functions say (made by cc.py). -/
import Derived.Test.YtffohfmfehjbmaaGreatDoorWa7
namespace Go.Proofs.YtffohfmfehjbmaaGreatDoor
open Go.AM Go.Proofs
attribute [-simp] qlookup bF cq Ob.wipe Ob.ren Ob.frz1
theorem bw (l r:List Cell) (hm:m_slices_SortFunc_api_Pattern_api_Cell_o_algebra_order l=some r):GFn Tryz.prog 70 [vO 1000000,.u (.one (.fn 71 []))] [.row 3 61 (List.map Cell.row l)] (.tup []) [some (.row 3 61 (List.map Cell.row r))]:=by
 refine bu aP _ Tryz.func70 rfl (by kernel_rfl) (by simp[Tryz.ntmps70]) (by simp) (by first | rfl | simp) (by first | rfl | simp) fun cx hn hk=>?_
 replace hn:cx.n=14:=hn.trans Tryz.ntmps70
 unfold m_slices_SortFunc_api_Pattern_api_Cell_o_algebra_order at hm
 have hcf:∀ x y:Cell,PFn Tryz.prog 71 [.u (.agg [dI x.X,dI x.Y,dI x.S]),.u (.agg [dI y.X,dI y.Y,dI y.S])] (·=.int (cf_algebra_order x y)):=fun x y=>PFn.of (c_algebra_order x y _ (tot_algebra_order x y))
 have hp:∀ lim:Nat,lim < 4611686018427387904->GFn Tryz.prog 144 [.one (.own inBase),.int 0,.int (aB l),.int lim,.one (.fn 71 [])] [.row 3 61 (List.map Cell.row l)] (.tup []) [some (.row 3 61 (List.map Cell.row r))] :=
  fun lim hlim=>pdq_g pdq144 (k:=3) (encI:=Cell.ints) (fun _=>rfl) Tryz.isAgg61 Tryz.sizeOf61 swo_algebra_order hcf hm lim hlim
 refine srs hn ?_
 simp -dsimp
 refine sr1 hn ?_
 simp -dsimp
 refine aA (bits_pure bitsLen ⟨_,Tryz.func145,by decide,rfl⟩ _ (eC _).1 (eC _).2) (dkL hn) ?_
 simp -dsimp
 refine callL_g (hp (Lib.bitLen (bI .u64 (aB l)).toNat) (bitLen_small _ (by have:=(eC (aB l)); omega))) [1000000] [] rfl rfl rfl (by simp -dsimp) rfl (by simp -dsimp) rfl rfl (dkL hn) ?_
 exact zz
end Go.Proofs.YtffohfmfehjbmaaGreatDoor
