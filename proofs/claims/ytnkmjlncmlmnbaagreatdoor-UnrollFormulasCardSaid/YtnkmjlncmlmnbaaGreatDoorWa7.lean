/- That the code does what the functions say (made by cc.py). -/
import Derived.Test.YtnkmjlncmlmnbaaGreatDoorWa3
namespace Go.Proofs.YtnkmjlncmlmnbaaGreatDoor
open Go.AM Go.Proofs
set_option maxRecDepth 100000
attribute [-simp] qlookup cb cL Ob.wipe Ob.ren Ob.frz1
theorem gA (f:Bo) (x y:Int) (r:Bool) (hm:m_unroll_field_in f x y=some r):PureCall Tryz.prog 22 [.u (.agg [dI f.box.X,dI f.box.Y,dI f.box.W,dI f.box.H,dR4 f.values]),vI x,vI y] (vT r):=by
 refine bK Tryz.func22 Tryz.ntmps22 fun cx hn=>?_
 unfold m_unroll_field_in at hm
 refine srs hn ?_
 simp -dsimp
 obtain⟨a,j4,hm⟩:=bnd hm
 refine scE [(6,vT a)] [] ?_ fun Z O hf=>?_
 ·replace hm:=j4
  clear j4
  exact zz
 ·clear j4
  exact zz
def cY (cx:Cx) (aa a8:Int) (ae:List Point) (ab:List Node) (aj:Int) (ah:List (List UInt8×Tree)) (_vars:List Int) (_cv:Int) (tt:(List (List Int))) (ee:Exit) (Z:Env) (O:Sto):Prop:=match tt with
 | l=>ee=.exit 0/\EE cx (bw [] [(5001,.row 1 26 (List.map (rS 1 (rI .i64)) l)),(1000000,.box [dI aa,.own 5001,dI a8,dR2 ae,dR1 ab,dI aj,.map 1000002]),(1000002,mOb .str kS (uA Tree.row) ah)]) Z O
theorem gJ (cx:Cx) (hn:cx.n=27) (_hk:cx.k=3) (aa a8:Int) (ae:List Point) (ab:List Node) (aj:Int) (ah:List (List UInt8×Tree)) (vars:List Int) (cv:Int) {fu:Nat} {stt:Int×(List (List Int))} {tt:(List (List Int))} (hh:bh (b_unroll_builder_fix_o_1 aa a8 ae ab aj ah vars cv) fu stt=some tt) {Z:Env} {O:Sto}
  (hE:bA (fun stt:Int×(List (List Int))=>match stt with | (a,_l)=>[(0,vX 1000000),(2,vI cv),(8,.u (.one (dL vars))),(9,vI (bf vars)),(10,vI a)]) (fun stt:Int×(List (List Int))=>match stt with | (_a,l)=>[(5001,.row 1 26 (List.map (rS 1 (rI .i64)) l)),(1000000,.box [dI aa,.own 5001,dI a8,dR2 ae,dR1 ab,dI aj,.map 1000002]),(1000002,mOb .str kS (uA Tree.row) ah)]) stt Z O):Swp Tryz.prog cx (.loop (bJ [1,0,0] (bv Tryz.f23))) Z O (cY cx aa a8 ae ab aj ah vars cv tt):=by
 refine bC hE hh (cY cx aa a8 ae ab aj ah vars cv) ?_
 rintro⟨a,l⟩ r hm Z O hf
 simp only[Fits,bo,bn,and_true] at hf
 unfold b_unroll_builder_fix_o_1 at hm
 dsimp only at hm
 refine srs hn ?_
 simp -dsimp [hf]
 refine ba ?_
 rcases bl hm with ⟨c1,hm⟩ | ⟨c1,hm⟩
 ·refine be (by simp -dsimp) c1 ?_
  refine bd (b9 (ba (bc ?_)))
  refine srs hn ?_
  obtain⟨x,h2,hm⟩:=bnd hm
  simp -dsimp [hf,c1,h2]
  obtain⟨v,j6,hm⟩:=bnd hm
  refine scE [(0,vX 1000000),(2,vI cv),(7,vI v),(8,.u (.one (dL vars))),(9,vI (bf vars)),(10,vI a)] [(5001,.row 1 26 (List.map (rS 1 (rI .i64)) l)),(1000000,.box [dI aa,.own 5001,dI a8,dR2 ae,dR1 ab,dI aj,.map 1000002]),(1000002,mOb .str kS (uA Tree.row) ah)] ?_ fun Z O hf=>?_
  ·replace hm:=j6
   clear j6
   exact zz
  ·clear j6
   simp only[Fits,bo,bn,and_true] at hf
   refine sr1 hn ?_
   obtain⟨y,h5,hm⟩:=bnd hm
   simp -dsimp [hf]
   refine clg (cj aa l a8 ae ab aj ah [v] y h5) [1000000,5001,1000002] [5000] (by simp -dsimp [hf]) (dkL hn) ?_
   simp -dsimp
   refine bD ?_
   refine b9 ?_
   refine sr1 hn ?_
   simp -dsimp [hf]
   cases hm
   refine bI ?_
   refine emv 5000 5001 ?_
   exact zz
 ·exact zz
theorem cA (aa:Int) (ag:List (List Int)) (a8:Int) (ae:List Point) (ab:List Node) (aj:Int) (ah:List (List UInt8×Tree)) (vars:List Int) (cv:Int) (r:List (List Int)) (hm:m_unroll_builder_fix_o aa ag a8 ae ab aj ah vars cv=some r):GFn Tryz.prog 23 [vX 1000000,.u (.one (dL vars)),vI cv] [.box [dI aa,.own 1000001,dI a8,dR2 ae,dR1 ab,dI aj,.map 1000002],.row 1 26 (List.map (rS 1 (rI .i64)) ag),mOb .str kS (uA Tree.row) ah] (.tup []) [some (.box [dI aa,.own 1000003,dI a8,dR2 ae,dR1 ab,dI aj,.map 1000002]),none,some (mOb .str kS (uA Tree.row) ah),some (.row 1 26 (List.map (rS 1 (rI .i64)) r))]:=by
 refine bG bq _ Tryz.func23 rfl (by kernel_rfl) (by simp[Tryz.ntmps23]) (by simp) (by first | rfl | simp) (by first | rfl | simp) fun cx hn hk=>?_
 replace hn:cx.n=27:=hn.trans Tryz.ntmps23
 replace hk:cx.k=3:=hk
 unfold m_unroll_builder_fix_o at hm
 refine srs hn ?_
 simp -dsimp
 refine bc ?_
 obtain⟨l,g7,hm⟩:=bnd hm
 refine bu (gJ cx hn hk aa a8 ae ab aj ah vars cv g7) (by
   try dsimp only
   refine emv 1000001 5001 ?_
   exact zz
 ) fun ee Z O xx=>?_
 unfold cY at xx
 dsimp only at xx
 obtain⟨rfl,xx⟩:=xx
 refine bz ?_
 cases hm
 try refine⟨.inl rfl,?_⟩
 refine ee_bind (by rfl) (by rfl) xx fun Z O hf=>?_
 simp only[Fits,bo,bn,and_true,true_and] at hf
 refine emr 5001 1000003 hk ?_
 exact zz
end Go.Proofs.YtnkmjlncmlmnbaaGreatDoor
