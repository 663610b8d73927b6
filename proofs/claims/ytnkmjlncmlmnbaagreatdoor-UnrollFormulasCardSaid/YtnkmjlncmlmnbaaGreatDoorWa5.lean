/- That the code does what the functions say (made by cc.py). -/
import Derived.Test.YtnkmjlncmlmnbaaGreatDoorWa3
namespace Go.Proofs.YtnkmjlncmlmnbaaGreatDoor
open Go.AM Go.Proofs
set_option maxRecDepth 100000
attribute [-simp] qlookup cb cL Ob.wipe Ob.ren Ob.frz1
section
attribute [-simp] List.map_set List.set_set
def bU (cx:Cx) (t:Tree) (aD:Int) (aM:List Point) (aF:List Node) (cv cv1 a:Int) (mp:List (List UInt8×Int)) (l:List Node) (to_:List Int) (x:Node) (_y:List Int) (tt:(List Int)) (ee:Exit) (Z:Env) (O:Sto):Prop:=match tt with
 | next=>ee=.exit 2/\EE cx (bw [(1,.u (.one (.fn 109 [.box 1000000 0,.box 1000001 0,.box 1000002 0]))),(2,vX 2),(4,vX 4),(5,vX 5),(6,vO 5002),(8,vX 8),(9,vO 23),(15,.u (.one (dR1 t.Nodes))),(16,vI (bf t.Nodes)),(17,vI a)] [(2,.box [dI t.States,dR2 t.Hood,dR1 t.Nodes]),(4,.box [dI 0,.d .nil,.d .nil]),(5,.box [.own 5000,.map 12]),(8,.box [dI x.Level,dL x.Next]),(12,mOb .str kS (uL (L.int .i64)) mp),(23,.row 1 3 (List.map (rI .i64) next)),(5000,.row 2 39 (List.map Node.row l)),(5002,.row 1 3 (List.map (rI .i64) to_)),(1000000,.box [dI aD,dR2 aM,dR1 aF]),(1000001,.box [dI cv]),(1000002,.box [dI cv1])]) Z O
theorem dH (cx:Cx) (hn:cx.n=69) (_hk:cx.k=3) (t:Tree) (aD:Int) (aM:List Point) (aF:List Node) (cv cv1 a:Int) (mp:List (List UInt8×Int)) (l:List Node) (to_:List Int) (x:Node) (y:List Int) {fu:Nat} {stt:Int×(List Int)} {tt:(List Int)} (hh:bh (b_reduce_rebuilt_reduce_Fix_1_o_o_o_2 t aD aM aF cv cv1 a mp l to_ x y) fu stt=some tt) {Z:Env} {O:Sto}
  (hE:bA (fun stt:Int×(List Int)=>match stt with | (a1,_next)=>[(1,.u (.one (.fn 109 [.box 1000000 0,.box 1000001 0,.box 1000002 0]))),(2,vX 2),(4,vX 4),(5,vX 5),(6,vO 5002),(8,vX 8),(9,vO 23),(15,.u (.one (dR1 t.Nodes))),(16,vI (bf t.Nodes)),(17,vI a),(24,vO 23),(25,vI (bf y)),(26,vI a1)]) (fun stt:Int×(List Int)=>match stt with | (_a1,next)=>[(2,.box [dI t.States,dR2 t.Hood,dR1 t.Nodes]),(4,.box [dI 0,.d .nil,.d .nil]),(5,.box [.own 5000,.map 12]),(8,.box [dI x.Level,dL x.Next]),(12,mOb .str kS (uL (L.int .i64)) mp),(23,.row 1 3 (List.map (rI .i64) next)),(5000,.row 2 39 (List.map Node.row l)),(5002,.row 1 3 (List.map (rI .i64) to_)),(1000000,.box [dI aD,dR2 aM,dR1 aF]),(1000001,.box [dI cv]),(1000002,.box [dI cv1])]) stt Z O):Swp Tryz.prog cx (.loop (bJ [1,1,1,0,1,0,0,1,1,0,0,1,1,0,1,0,0] (bv Tryz.f81))) Z O (bU cx t aD aM aF cv cv1 a mp l to_ x y tt):=by
 refine bC hE hh (bU cx t aD aM aF cv cv1 a mp l to_ x y) ?_
 rintro⟨a1,next⟩ r hm Z O hf
 simp only[Fits,bo,bn,and_true] at hf
 unfold b_reduce_rebuilt_reduce_Fix_1_o_o_o_2 at hm
 dsimp only at hm
 refine srs hn ?_
 simp -dsimp [hf]
 refine ba ?_
 rcases bl hm with ⟨c4,hm⟩ | ⟨c4,hm⟩
 ·refine be (by simp -dsimp) c4 ?_
  refine bd (b9 ?_)
  obtain⟨aJ,j8,hm⟩:=bnd hm
  refine scE [(1,.u (.one (.fn 109 [.box 1000000 0,.box 1000001 0,.box 1000002 0]))),(2,vX 2),(4,vX 4),(5,vX 5),(6,vO 5002),(8,vX 8),(9,vO 23),(15,.u (.one (dR1 t.Nodes))),(16,vI (bf t.Nodes)),(17,vI a),(24,vO 23),(25,vI (bf y)),(26,vI a1)] [(2,.box [dI t.States,dR2 t.Hood,dR1 t.Nodes]),(4,.box [dI 0,.d .nil,.d .nil]),(5,.box [.own 5000,.map 12]),(8,.box [dI x.Level,dL x.Next]),(12,mOb .str kS (uL (L.int .i64)) mp),(23,.row 1 3 (List.map (rI .i64) aJ)),(5000,.row 2 39 (List.map Node.row l)),(5002,.row 1 3 (List.map (rI .i64) to_)),(1000000,.box [dI aD,dR2 aM,dR1 aF]),(1000001,.box [dI cv]),(1000002,.box [dI cv1])] ?_ fun Z O hf=>?_
  ·replace hm:=j8
   clear j8
   refine bc ?_
   refine srs hn ?_
   obtain⟨x1,h5,hm⟩:=bnd hm
   simp -dsimp [hf,c4,h5,bF h5]
   refine srs hn ?_
   simp -dsimp [hf]
   rcases bl hm with ⟨c6,hm⟩ | ⟨c6,hm⟩
   ·refine be (by simp -dsimp) c6 ?_
    refine sr1 hn ?_
    obtain⟨x2,h7,hm⟩:=bnd hm
    simp -dsimp [hf,h5,bF h5,c6,h7,bF h7,rsetI .i64 next a1.toNat x2]
    refine bD ?_
    cases hm
    exact EE.here (by simp -dsimp [hf])
   ·refine bi (by simp -dsimp) c6 ?_
    refine bd ?_
    refine bD ?_
    cases hm
    exact EE.here (by simp -dsimp [hf,c6])
  ·clear j8
   exact zz
 ·exact zz
def bT (cx:Cx) (t:Tree) (aD:Int) (aM:List Point) (aF:List Node) (cv cv1:Int) (tt:((List (List UInt8×Int))×(List Node)×(List Int))) (ee:Exit) (Z:Env) (O:Sto):Prop:=match tt with
 | (mp,l,to_)=>ee=.exit 0/\EE cx (bw [(2,vX 2),(4,vX 4),(5,vX 5),(6,vO 5002)] [(2,.box [dI t.States,dR2 t.Hood,dR1 t.Nodes]),(4,.box [dI 0,.d .nil,.d .nil]),(5,.box [.own 5000,.map 12]),(12,mOb .str kS (uL (L.int .i64)) mp),(5000,.row 2 39 (List.map Node.row l)),(5002,.row 1 3 (List.map (rI .i64) to_)),(1000000,.box [dI aD,dR2 aM,dR1 aF]),(1000001,.box [dI cv]),(1000002,.box [dI cv1])]) Z O
theorem dF (cx:Cx) (hn:cx.n=69) (hk:cx.k=3) (t:Tree) (aD:Int) (aM:List Point) (aF:List Node) (cv cv1:Int) {fu:Nat} {stt:Int×(List (List UInt8×Int))×(List Node)×(List Int)} {tt:((List (List UInt8×Int))×(List Node)×(List Int))} (hh:bh (b_reduce_rebuilt_reduce_Fix_1_o_o_o_1 t aD aM aF cv cv1) fu stt=some tt) {Z:Env} {O:Sto}
  (hE:bA (fun stt:Int×(List (List UInt8×Int))×(List Node)×(List Int)=>match stt with | (a,_mp,_l,_to_)=>[(1,.u (.one (.fn 109 [.box 1000000 0,.box 1000001 0,.box 1000002 0]))),(2,vX 2),(4,vX 4),(5,vX 5),(6,vO 5002),(15,.u (.one (dR1 t.Nodes))),(16,vI (bf t.Nodes)),(17,vI a)]) (fun stt:Int×(List (List UInt8×Int))×(List Node)×(List Int)=>match stt with | (_a,mp,l,to_)=>[(2,.box [dI t.States,dR2 t.Hood,dR1 t.Nodes]),(4,.box [dI 0,.d .nil,.d .nil]),(5,.box [.own 5000,.map 12]),(12,mOb .str kS (uL (L.int .i64)) mp),(5000,.row 2 39 (List.map Node.row l)),(5002,.row 1 3 (List.map (rI .i64) to_)),(1000000,.box [dI aD,dR2 aM,dR1 aF]),(1000001,.box [dI cv]),(1000002,.box [dI cv1])]) stt Z O):Swp Tryz.prog cx (.loop (bJ [1,1,1,0,1,0,0] (bv Tryz.f81))) Z O (bT cx t aD aM aF cv cv1 tt):=by
 refine bC hE hh (bT cx t aD aM aF cv cv1) ?_
 rintro⟨a,mp,l,to_⟩ r hm Z O hf
 simp only[Fits,bo,bn,and_true] at hf
 unfold b_reduce_rebuilt_reduce_Fix_1_o_o_o_1 at hm
 dsimp only at hm
 refine srs hn ?_
 simp -dsimp [hf]
 refine ba ?_
 rcases bl hm with ⟨c1,hm⟩ | ⟨c1,hm⟩
 ·refine be (by simp -dsimp) c1 ?_
  refine bd (b9 (ba (bc ?_)))
  refine srs hn ?_
  obtain⟨x,h2,hm⟩:=bnd hm
  simp -dsimp [hf,c1,h2]
  refine srs hn ?_
  obtain⟨y,h3,hm⟩:=bnd hm
  simp -dsimp
  refine callL_new (cd x.Next y h3) (dkL hn) (by decide) ?_
  simp -dsimp
  refine ba ?_
  refine srs hn ?_
  simp -dsimp
  refine bc ?_
  obtain⟨next,g9,hm⟩:=bnd hm
  refine bu (dH cx hn hk t aD aM aF cv cv1 a mp l to_ x y g9) (by
    try dsimp only
    exact EE.here (by simp -dsimp [hf])
  ) fun ee Z O xx=>?_
  unfold bU at xx
  dsimp only at xx
  obtain⟨rfl,xx⟩:=xx
  refine bz ?_
  refine b9 ?_
  refine see xx fun Z O hf=>?_
  simp only[Fits,bo,bn,and_true] at hf
  refine sw_midc bq mixed 7 9 10 0 [[0,1,2],[0]] [[],[5001]] [true] none (by rw[hn]; kernel_rfl) bO ?_
  dsimp only [List.take,List.drop,cn,cp,cV,pk,List.cons_append,List.nil_append,List.flatten_cons,List.flatten_nil,bN,bM,List.append_nil]
  obtain⟨y1,h10,hm⟩:=bnd hm
  simp -dsimp [hf]
  refine fo (ik x.Level next aD aM aF cv cv1 y1 h10) [23,1000000,1000001,1000002] [] rfl rfl rfl (by simp -dsimp) rfl (by simp -dsimp [hf]) (by first | rfl | simp) rfl (dkL hn) rfl rfl (by simp) nofun (by simp) ?_
  obtain⟨y2,h11,hm⟩:=bnd hm
  simp -dsimp [hf]
  refine fo (gg l mp x.Level y1 y2 h11) [5,5000,12,23] [5001] rfl rfl rfl (by simp -dsimp) rfl (by simp -dsimp [hf]) (by first | rfl | simp) rfl (dkL hn) rfl rfl (by simp) nofun (by simp) ?_
  obtain⟨l1,h12,hm⟩:=bnd hm
  obtain⟨h12a,h12e⟩:=bp h12
  replace h12e:=h12e.symm
  subst h12e
  try simp only[List.length_cons,List.length_nil,Nat.zero_add] at h12a
  simp -dsimp [hf,h12a]
  refine bD ?_
  refine b9 ?_
  refine sr1 hn ?_
  simp -dsimp [hf]
  cases hm
  refine bI ?_
  refine emv 52 5002 ?_
  refine emv 5001 5000 ?_
  exact zz
 ·exact zz
theorem dR (t:Tree) (aD:Int) (aM:List Point) (aF:List Node) (cv cv1:Int) (r:(List Point)×(List Node)) (hm:m_reduce_rebuilt_reduce_Fix_1_o_o_o t aD aM aF cv cv1=some r):GFn Tryz.prog 81 [.u (.agg [dI t.States,dR2 t.Hood,dR1 t.Nodes]),.u (.one (.fn 109 [.box 1000000 0,.box 1000001 0,.box 1000002 0]))] [.box [dI aD,dR2 aM,dR1 aF],.box [dI cv],.box [dI cv1]] (.u (.agg [dI t.States,dR2 r.1,dR1 r.2])) [some (.box [dI aD,dR2 aM,dR1 aF]),some (.box [dI cv]),some (.box [dI cv1])]:=by
 refine bG bq _ Tryz.func81 rfl (by kernel_rfl) (by simp[Tryz.ntmps81]) (by simp) (by first | rfl | simp) (by first | rfl | simp) fun cx hn hk=>?_
 replace hn:cx.n=69:=hn.trans Tryz.ntmps81
 replace hk:cx.k=3:=hk
 unfold m_reduce_rebuilt_reduce_Fix_1_o_o_o at hm
 refine srs hn ?_
 simp -dsimp
 refine srs hn ?_
 simp -dsimp [(@id (Ob.map .str []=mOb .str kS (uL (L.int .i64)) ([]:List (List UInt8×Int))) (mOb_nil .str kS (uL (L.int .i64))))]
 refine srs hn ?_
 simp -dsimp
 refine ba ?_
 refine srs hn ?_
 simp -dsimp
 refine bc ?_
 obtain⟨⟨mp,l,to_⟩,g13,hm⟩:=bnd hm
 refine bu (dF cx hn hk t aD aM aF cv cv1 g13) (by
   try dsimp only
   refine EE.step (Wk.own0 6 5002 1 3 (by simp -dsimp) (by decide)) ?_
   refine EE.step (Wk.own0b 5 0 5000 2 39 [.d .nil,.map 12] (by simp -dsimp) (by rfl) (by decide) (by decide)) ?_
   exact zz
 ) fun ee Z O xx=>?_
 unfold bT at xx
 dsimp only at xx
 obtain⟨rfl,xx⟩:=xx
 refine bz ?_
 refine b9 ?_
 refine see xx fun Z O hf=>?_
 simp only[Fits,bo,bn,and_true] at hf
 refine Swp.pre (Wk.frz 5000 2 39 (List.map Node.row l) (by simp -dsimp [hf])) ?_
 refine fg bq mixed 14 (by rw[hn]; kernel_rfl) ?_
 dsimp only [List.take,List.drop]
 obtain⟨y,h14,hm⟩:=bnd hm
 simp -dsimp [hf]
 refine bj (cH t.Hood y h14) ?_
 obtain⟨x,h15,hm⟩:=bnd hm
 obtain⟨y1,h16,hm⟩:=bnd hm
 simp -dsimp [hf,h15,bF h15]
 refine bj (gV l x y1 h16) ?_
 exact zz
end
theorem c_reduce_Fix (t:Tree) (k s:Int) (r:Tree×Int) (hm:m_reduce_Fix t k s=some r):PureCall Tryz.prog 86 [.u (.agg [dI t.States,dR2 t.Hood,dR1 t.Nodes]),vI k,vI s] (.tup [.agg [dI r.1.States,dR2 r.1.Hood,dR1 r.1.Nodes],.one (dI r.2)]):=by
 refine bK Tryz.func86 Tryz.ntmps86 fun cx hn=>?_
 unfold m_reduce_Fix at hm
 refine srs hn ?_
 simp -dsimp
 refine ba (bc ?_)
 refine srs hn ?_
 obtain⟨y,h1,hm⟩:=bnd hm
 simp -dsimp
 refine bg (fe t y h1) (dkL hn) ?_
 simp -dsimp
 rcases bl hm with ⟨c2,hm⟩ | ⟨c2,hm⟩
 ·exact zz
 ·refine bi (by simp -dsimp) c2 ?_
  obtain⟨a,j9,hm⟩:=bnd hm
  refine scE [(3,vX 3),(4,vX 4),(5,vX 5),(6,vX 6),(13,vT a)] [(3,.box [dI t.States,dR2 t.Hood,dR1 t.Nodes]),(4,.box [dI k]),(5,.box [dI s]),(6,.box [dI 0,.d .nil,.d .nil])] ?_ fun Z O hf=>?_
  ·replace hm:=j9
   clear j9
   exact zz
  ·clear j9
   simp only[Fits,bo,bn,and_true] at hf
   rcases bl hm with ⟨c4,hm⟩ | ⟨c4,hm⟩
   ·exact zz
   ·refine bi (by simp -dsimp [hf]) c4 ?_
    obtain⟨a1,j8,hm⟩:=bnd hm
    refine scE [(3,vX 3),(4,vX 4),(5,vX 5),(6,vX 6),(24,vT a1)] [(3,.box [dI t.States,dR2 t.Hood,dR1 t.Nodes]),(4,.box [dI k]),(5,.box [dI s]),(6,.box [dI 0,.d .nil,.d .nil])] ?_ fun Z O hf=>?_
    ·replace hm:=j8
     clear j8
     exact zz
    ·clear j8
     simp only[Fits,bo,bn,and_true] at hf
     rcases bl hm with ⟨c6,hm⟩ | ⟨c6,hm⟩
     ·exact zz
     ·refine bi (by simp -dsimp [hf]) c6 ?_
      refine bd ?_
      refine bD ?_
      refine b9 ?_
      refine srs hn ?_
      obtain⟨y1,h7,hm⟩:=bnd hm
      simp -dsimp [hf]
      refine clg (dR t t.States t.Hood t.Nodes k s y1 h7) [3,4,5] [] (by simp -dsimp [hf]) (dkL hn) ?_
      exact zz
def ct (cx:Cx) (aa:Int) (ag:List (List Int)) (a8:Int) (ae:List Point) (ab:List Node) (aj:Int) (ah:List (List UInt8×Tree)) (in_:List Bn) (tt:(List Int)) (ee:Exit) (Z:Env) (O:Sto):Prop:=match tt with
 | keyv=>ee=.exit 0/\EE cx (bw [(0,vX 1000000),(1,vO 1000003),(4,vX 4),(5,vO 5000)] [(4,.box [dI 0,.d .nil,.d .nil]),(5000,.row 1 5 (List.map (rI .u8) keyv)),(1000000,.box [dI aa,.own 1000001,dI a8,dR2 ae,dR1 ab,dI aj,.map 1000002]),(1000001,.row 1 26 (List.map (rS 1 (rI .i64)) ag)),(1000002,mOb .str kS (uA Tree.row) ah),(1000003,.row 2 68 (List.map Bn.row in_))]) Z O
theorem eX (cx:Cx) (hn:cx.n=73) (_hk:cx.k=4) (aa:Int) (ag:List (List Int)) (a8:Int) (ae:List Point) (ab:List Node) (aj:Int) (ah:List (List UInt8×Tree)) (in_:List Bn) {fu:Nat} {stt:Int×(List Int)} {tt:(List Int)} (hh:bh (b_unroll_builder_fixed_o_o_1 aa ag a8 ae ab aj ah in_) fu stt=some tt) {Z:Env} {O:Sto}
  (hE:bA (fun stt:Int×(List Int)=>match stt with | (a,_keyv)=>[(0,vX 1000000),(1,vO 1000003),(4,vX 4),(5,vO 5000),(13,vO 1000003),(14,vI (bf in_)),(15,vI a)]) (fun stt:Int×(List Int)=>match stt with | (_a,keyv)=>[(4,.box [dI 0,.d .nil,.d .nil]),(5000,.row 1 5 (List.map (rI .u8) keyv)),(1000000,.box [dI aa,.own 1000001,dI a8,dR2 ae,dR1 ab,dI aj,.map 1000002]),(1000001,.row 1 26 (List.map (rS 1 (rI .i64)) ag)),(1000002,mOb .str kS (uA Tree.row) ah),(1000003,.row 2 68 (List.map Bn.row in_))]) stt Z O):Swp Tryz.prog cx (.loop (bJ [1,1,0,1,0,0] (bv Tryz.f53))) Z O (ct cx aa ag a8 ae ab aj ah in_ tt):=by
 refine bC hE hh (ct cx aa ag a8 ae ab aj ah in_) ?_
 rintro⟨a,keyv⟩ r hm Z O hf
 simp only[Fits,bo,bn,and_true] at hf
 unfold b_unroll_builder_fixed_o_o_1 at hm
 dsimp only at hm
 refine srs hn ?_
 simp -dsimp [hf]
 refine ba ?_
 rcases bl hm with ⟨c1,hm⟩ | ⟨c1,hm⟩
 ·refine be (by simp -dsimp) c1 ?_
  refine bd (b9 (ba (bc ?_)))
  refine srs hn ?_
  obtain⟨x,h2,hm⟩:=bnd hm
  simp -dsimp [hf,c1,h2,bF h2]
  refine srs hn ?_
  simp -dsimp
  obtain⟨k,j5,hm⟩:=bnd hm
  refine scE [(0,vX 1000000),(1,vO 1000003),(4,vX 4),(5,vO 5000),(8,.u (.one (.d (.int .u8 k)))),(13,vO 1000003),(14,vI (bf in_)),(15,vI a)] [(4,.box [dI 0,.d .nil,.d .nil]),(5000,.row 1 5 (List.map (rI .u8) keyv)),(1000000,.box [dI aa,.own 1000001,dI a8,dR2 ae,dR1 ab,dI aj,.map 1000002]),(1000001,.row 1 26 (List.map (rS 1 (rI .i64)) ag)),(1000002,mOb .str kS (uA Tree.row) ah),(1000003,.row 2 68 (List.map Bn.row in_))] ?_ fun Z O hf=>?_
  ·replace hm:=j5
   clear j5
   exact zz
  ·clear j5
   simp only[Fits,bo,bn,and_true] at hf
   refine sr1 hn ?_
   obtain⟨l,h4,hm⟩:=bnd hm
   obtain⟨h4a,h4e⟩:=bp h4
   replace h4e:=h4e.symm
   subst h4e
   try simp only[List.length_cons,List.length_nil,Nat.zero_add] at h4a
   try simp only[Nat.mul_one,Nat.reduceLeDiff] at h4a
   simp -dsimp [hf,h4a]
   refine bD ?_
   refine b9 ?_
   refine sr1 hn ?_
   simp -dsimp [hf]
   cases hm
   refine bI ?_
   refine emv 28 5000 ?_
   exact zz
 ·exact zz
def cw (cx:Cx) (aa:Int) (ag:List (List Int)) (a8:Int) (ae:List Point) (ab:List Node) (aj:Int) (ah:List (List UInt8×Tree)) (in_:List Bn) (keyv:List Int) (_u:Unit) (tt:(Int×(List Point)×(List Node))) (ee:Exit) (Z:Env) (O:Sto):Prop:=match tt with
 | (aC,aK,aE)=>ee=.exit 2/\EE cx (bw [(0,vX 1000000),(4,vX 4),(5,vO 5000),(9,vX 9)] [(4,.box [dI 0,.d .nil,.d .nil]),(9,.box [dI aC,dR2 aK,dR1 aE]),(5000,.row 1 5 (List.map (rI .u8) keyv)),(1000000,.box [dI aa,.own 1000001,dI a8,dR2 ae,dR1 ab,dI aj,.map 1000002]),(1000001,.row 1 26 (List.map (rS 1 (rI .i64)) ag)),(1000002,mOb .str kS (uA Tree.row) ah),(1000003,.row 2 68 (List.map Bn.row in_))]) Z O
theorem eP (cx:Cx) (hn:cx.n=73) (_hk:cx.k=4) (aa:Int) (ag:List (List Int)) (a8:Int) (ae:List Point) (ab:List Node) (aj:Int) (ah:List (List UInt8×Tree)) (in_:List Bn) (keyv:List Int) (u:Unit) {fu:Nat} {stt:Int×Int×(List Point)×(List Node)} {tt:(Int×(List Point)×(List Node))} (hh:bh (b_unroll_builder_fixed_o_o_2 aa ag a8 ae ab aj ah in_ keyv u) fu stt=some tt) {Z:Env} {O:Sto}
  (hE:bA (fun stt:Int×Int×(List Point)×(List Node)=>match stt with | (a,_aC,_aK,_aE)=>[(0,vX 1000000),(4,vX 4),(5,vO 5000),(9,vX 9),(46,vO 1000003),(47,vI (bf in_)),(48,vI a)]) (fun stt:Int×Int×(List Point)×(List Node)=>match stt with | (_a,aC,aK,aE)=>[(4,.box [dI 0,.d .nil,.d .nil]),(9,.box [dI aC,dR2 aK,dR1 aE]),(5000,.row 1 5 (List.map (rI .u8) keyv)),(1000000,.box [dI aa,.own 1000001,dI a8,dR2 ae,dR1 ab,dI aj,.map 1000002]),(1000001,.row 1 26 (List.map (rS 1 (rI .i64)) ag)),(1000002,mOb .str kS (uA Tree.row) ah),(1000003,.row 2 68 (List.map Bn.row in_))]) stt Z O):Swp Tryz.prog cx (.loop (bJ [1,1,1,1,0,1,0,1,0,1,0,0] (bv Tryz.f53))) Z O (cw cx aa ag a8 ae ab aj ah in_ keyv u tt):=by
 refine bC hE hh (cw cx aa ag a8 ae ab aj ah in_ keyv u) ?_
 rintro⟨a,aC,aK,aE⟩ r hm Z O hf
 simp only[Fits,bo,bn,and_true] at hf
 unfold b_unroll_builder_fixed_o_o_2 at hm
 dsimp only at hm
 refine srs hn ?_
 simp -dsimp [hf]
 refine ba ?_
 rcases bl hm with ⟨c10,hm⟩ | ⟨c10,hm⟩
 ·refine be (by simp -dsimp) c10 ?_
  refine bd (b9 ?_)
  obtain⟨⟨b7,tHood1,tNodes1⟩,j14,hm⟩:=bnd hm
  refine scE [(0,vX 1000000),(4,vX 4),(5,vO 5000),(9,vX 9),(46,vO 1000003),(47,vI (bf in_)),(48,vI a)] [(4,.box [dI 0,.d .nil,.d .nil]),(9,.box [dI b7,dR2 tHood1,dR1 tNodes1]),(5000,.row 1 5 (List.map (rI .u8) keyv)),(1000000,.box [dI aa,.own 1000001,dI a8,dR2 ae,dR1 ab,dI aj,.map 1000002]),(1000001,.row 1 26 (List.map (rS 1 (rI .i64)) ag)),(1000002,mOb .str kS (uA Tree.row) ah),(1000003,.row 2 68 (List.map Bn.row in_))] ?_ fun Z O hf=>?_
  ·replace hm:=j14
   clear j14
   refine bc ?_
   refine srs hn ?_
   obtain⟨x,h11,hm⟩:=bnd hm
   simp -dsimp [hf,c10,h11,bF h11]
   refine srs hn ?_
   simp -dsimp
   rcases bl hm with ⟨c12,hm⟩ | ⟨c12,hm⟩
   ·refine be (by simp -dsimp) c12 ?_
    refine sr1 hn ?_
    obtain⟨y,h13,hm⟩:=bnd hm
    simp -dsimp [hf,c12]
    refine bg (c_reduce_Fix (⟨aC,aK,aE⟩:Tree) a x.constant y h13) (dkL hn) ?_
    exact zz
   ·exact zz
  ·clear j14
   exact zz
 ·exact zz
theorem fT (aa:Int) (ag:List (List Int)) (a8:Int) (ae:List Point) (ab:List Node) (aj:Int) (ah:List (List UInt8×Tree)) (in_:List Bn) (r:Int×(List Point)×(List Node)×(List (List UInt8×Tree))) (hm:m_unroll_builder_fixed_o_o aa ag a8 ae ab aj ah in_=some r):GFn Tryz.prog 53 [vX 1000000,vO 1000003] [.box [dI aa,.own 1000001,dI a8,dR2 ae,dR1 ab,dI aj,.map 1000002],.row 1 26 (List.map (rS 1 (rI .i64)) ag),mOb .str kS (uA Tree.row) ah,.row 2 68 (List.map Bn.row in_)] (.u (.agg [dI r.1,dR2 r.2.1,dR1 r.2.2.1])) [some (.box [dI aa,.own 1000001,dI a8,dR2 ae,dR1 ab,dI aj,.map 1000002]),some (.row 1 26 (List.map (rS 1 (rI .i64)) ag)),some (mOb .str kS (uA Tree.row) r.2.2.2),some (.row 2 68 (List.map Bn.row in_))]:=by
 refine bG bq _ Tryz.func53 rfl (by kernel_rfl) (by simp[Tryz.ntmps53]) (by simp) (by first | rfl | simp) (by first | rfl | simp) fun cx hn hk=>?_
 replace hn:cx.n=73:=hn.trans Tryz.ntmps53
 replace hk:cx.k=4:=hk
 unfold m_unroll_builder_fixed_o_o at hm
 refine srs hn ?_
 simp -dsimp
 refine srs hn ?_
 simp -dsimp
 refine ba ?_
 refine srs hn ?_
 simp -dsimp
 refine bc ?_
 obtain⟨keyv,g6,hm⟩:=bnd hm
 refine bu (eX cx hn hk aa ag a8 ae ab aj ah in_ g6) (by
   try dsimp only
   refine EE.step (Wk.own0 5 5000 1 5 (by simp -dsimp) (by decide)) ?_
   exact zz
 ) fun ee Z O xx=>?_
 unfold ct at xx
 dsimp only at xx
 obtain⟨rfl,xx⟩:=xx
 refine bz ?_
 refine b9 ?_
 refine see xx fun Z O hf=>?_
 simp only[Fits,bo,bn,and_true] at hf
 refine cm bq mixed 10 12 12 0 [[0,1,2,3,4,5,6,7,8,9],[9]] [[9],[]] [] none (by rw[hn]; kernel_rfl) bO ?_
 dsimp only [List.take,List.drop,cn,cp,cV,pk,List.cons_append,List.nil_append,List.flatten_cons,List.flatten_nil,bN,bM,List.append_nil]
 obtain⟨u,h7,hm⟩:=bnd hm
 rcases bl hm with ⟨c8,hm⟩ | ⟨c8,hm⟩
 ·obtain⟨v,h9,hm⟩:=bnd hm
  simp -dsimp [hf,fQ h7,(@id (lkM (gO (mOb .str kS (uA Tree.row) ah) (.str (ofBytes keyv))) true (.agg [dI 0,.d .nil,.d .nil])=some (.tup [.agg [dI v.States,dR2 v.Hood,dR1 v.Nodes],.one (.d (.bool true))])) (lk_some (kf:=kS) (vf:=(uA Tree.row)) _ h9))]
  refine ba ?_
  refine srs hn ?_
  simp -dsimp
  refine bi (b:=false) (by simp -dsimp) rfl ?_
  refine bd (b9 ?_)
  refine srs hn ?_
  simp -dsimp [hf]
  cases hm
  exact bE ⟨.inr rfl,EE.here (by simp -dsimp [hf])⟩
 ·simp -dsimp [hf,fQ h7,(@id (lkM (gO (mOb .str kS (uA Tree.row) ah) (.str (ofBytes keyv))) true (.agg [dI 0,.d .nil,.d .nil])=some (.tup [.agg [dI 0,.d .nil,.d .nil],.one (.d (.bool false))])) (lk_none (kf:=kS) (vf:=(uA Tree.row)) _ c8))]
  refine ba ?_
  refine srs hn ?_
  simp -dsimp
  refine be (b:=true) (by simp -dsimp) rfl ?_
  refine srs hn ?_
  simp -dsimp [hf]
  refine ba ?_
  refine srs hn ?_
  simp -dsimp [hf]
  refine bc ?_
  obtain⟨⟨aC,aK,aE⟩,g15,hm⟩:=bnd hm
  refine bu (eP cx hn hk aa ag a8 ae ab aj ah in_ keyv u g15) (by
    try dsimp only
    refine EE.here ?_
    exact zz
  ) fun ee Z O xx=>?_
  unfold cw at xx
  dsimp only at xx
  obtain⟨rfl,xx⟩:=xx
  refine bz ?_
  refine b9 ?_
  refine see xx fun Z O hf=>?_
  simp only[Fits,bo,bn,and_true] at hf
  refine dl bq mixed 7 (by rw[hn]; kernel_rfl) ?_
  dsimp only [List.take,List.drop]
  simp -dsimp [hf,fQ h7,(@id (msetOb (mOb .str kS (uA Tree.row) ah) (.str (ofBytes keyv)) (.agg [dI aC,dR2 aK,dR1 aE])=mOb .str kS (uA Tree.row) (msetL ah (ofBytes keyv) (⟨aC,aK,aE⟩:Tree))) (mset_ob .str kS (uA Tree.row) ah (ofBytes keyv) (⟨aC,aK,aE⟩:Tree)))]
  refine b9 ?_
  refine srs hn ?_
  simp -dsimp [hf]
  cases hm
  exact bE ⟨.inr rfl,EE.here (by simp -dsimp [hf])⟩
theorem hY (n:Int) (a:Node) (r:Bool) (hm:m_unroll_builder_tree_2 n a=some r):PureCall Tryz.prog 88 [vI n,.u (.one (.ref (Node.row a) 0))] (vT r):=by
 refine bK Tryz.func88 Tryz.ntmps88 fun cx hn=>?_
 unfold m_unroll_builder_tree_2 at hm
 exact zz
def bR (cx:Cx) (_s:List Int) (_cv:Node) (tt:Int ⊕ Unit) (ee:Exit) (Z:Env) (O:Sto):Prop:=match tt with
 | .inl r=>ee=.ret/\EE cx (fun Z O=>∃ v,dd tb Z O Tryz.f72.results.toList=some v/\(v.frz O).free=true/\(v.frz O).wk (vI r)) Z O
 | .inr _u=>ee=.exit 0/\EE cx (bw [] []) Z O
theorem cK (cx:Cx) (hn:cx.n=19) (s:List Int) (cv:Node) {fu:Nat} {stt:Int} {tt:Int ⊕ Unit} (hh:bh (b_slices_IndexFunc_int_int_unroll_builder_tree_2_1 s cv) fu stt=some tt) {Z:Env} {O:Sto}
  (hE:bA (fun a:Int=>[(0,.u (.one (dL s))),(1,.u (.one (.fn 88 [.ref (Node.row cv) 0]))),(7,vI (bf s)),(8,vI a)]) (fun _a:Int=>[]) stt Z O):Swp Tryz.prog cx (.loop (bJ [1,0,1,0,0] (bv Tryz.f72))) Z O (bR cx s cv tt):=by
 refine bC hE hh (bR cx s cv) ?_
 rintro a r hm Z O hf
 simp only[Fits,bo,bn,and_true] at hf
 unfold b_slices_IndexFunc_int_int_unroll_builder_tree_2_1 at hm
 dsimp only at hm
 refine srs hn ?_
 simp -dsimp [hf]
 refine ba ?_
 rcases bl hm with ⟨c1,hm⟩ | ⟨c1,hm⟩
 ·refine be (by simp -dsimp) c1 ?_
  refine bd (b9 (ba (bc ?_)))
  refine srs hn ?_
  simp -dsimp [hf,c1]
  refine srs hn ?_
  obtain⟨x,h2,hm⟩:=bnd hm
  obtain⟨y,h3,hm⟩:=bnd hm
  simp -dsimp [hf,h2]
  refine bg (hY x cv y h3) (dkL hn) ?_
  exact zz
 ·exact zz
theorem cN (s:List Int) (cv:Node) (r:Int) (hm:m_slices_IndexFunc_int_int_unroll_builder_tree_2 s cv=some r):PureCall Tryz.prog 72 [.u (.one (dL s)),.u (.one (.fn 88 [.ref (Node.row cv) 0]))] (vI r):=by
 refine bK Tryz.func72 Tryz.ntmps72 fun cx hn=>?_
 unfold m_slices_IndexFunc_int_int_unroll_builder_tree_2 at hm
 refine srs hn ?_
 simp -dsimp
 refine ba ?_
 refine srs hn ?_
 simp -dsimp
 refine bc ?_
 obtain⟨o_,g5,hm⟩:=bnd hm
 refine bu (cK cx hn s cv g5) (by
   try dsimp only
   exact eeh
 ) fun ee Z O xx=>?_
 rcases o_ with r | _u
 ·exact zz
 ·exact zz
theorem cF (s:List Int) (cv:Node) (r:Bool) (hm:m_slices_ContainsFunc_int_int_unroll_builder_tree_2 s cv=some r):PureCall Tryz.prog 34 [.u (.one (dL s)),.u (.one (.fn 88 [.ref (Node.row cv) 0]))] (vT r):=by
 refine bK Tryz.func34 Tryz.ntmps34 fun cx hn=>?_
 unfold m_slices_ContainsFunc_int_int_unroll_builder_tree_2 at hm
 refine srs hn ?_
 simp -dsimp
 refine srs hn ?_
 obtain⟨y,h1,hm⟩:=bnd hm
 simp -dsimp
 refine bg (cN s cv y h1) (dkL hn) ?_
 simp -dsimp
 cases hm
 exact bE ⟨.inr rfl,EE.here (by simp -dsimp)⟩
theorem dr (s b8:Int) (aNext:List Int) (a:List Bn) (r:Int×(List Int)) (hm:m_unroll_builder_tree_1_o_o s b8 aNext a=some r):GFn Tryz.prog 87 [vI s,vX 1000000,vX 1000001] [.box [dI b8,dL aNext],.box [.own 1000002],.row 2 68 (List.map Bn.row a)] (.u (.agg [dI r.1,.d (pnil 1 (List.map (rI .i64) r.2))])) [some (.box [dI b8,dL aNext]),some (.box [.own 1000002]),some (.row 2 68 (List.map Bn.row a))]:=by
 refine bG bq _ Tryz.func87 rfl (by kernel_rfl) (by simp[Tryz.ntmps87]) (by simp) (by first | rfl | simp) (by first | rfl | simp) fun cx hn hk=>?_
 replace hn:cx.n=22:=hn.trans Tryz.ntmps87
 replace hk:cx.k=3:=hk
 unfold m_unroll_builder_tree_1_o_o at hm
 refine srs hn ?_
 simp -dsimp
 refine ba ?_
 refine srs hn ?_
 simp -dsimp
 rcases bl hm with ⟨c1,hm⟩ | ⟨c1,hm⟩
 ·exact zz
 ·refine scf c1 ?_
  refine bd (b9 ?_)
  refine fg bq mixed 6 (by rw[hn]; kernel_rfl) ?_
  dsimp only [List.take,List.drop]
  obtain⟨x,h3,hm⟩:=bnd hm
  obtain⟨x1,h4,hm⟩:=bnd hm
  simp -dsimp [c1,h3,h4,bF h4]
  cases hm
  exact bE ⟨.inr rfl,EE.here (by simp -dsimp)⟩
theorem fv (aa:Int) (ag:List (List Int)) (a8:Int) (ae:List Point) (ab:List Node) (aj:Int) (ah:List (List UInt8×Tree)) (l:List Int) (r:Unit) (hm:m_unroll_builder_clause_o_o aa ag a8 ae ab aj ah l=some r):GFn Tryz.prog 36 [vX 1000000,vO 1000003] [.box [dI aa,.own 1000001,dI a8,dR2 ae,dR1 ab,dI aj,.map 1000002],.row 1 26 (List.map (rS 1 (rI .i64)) ag),mOb .str kS (uA Tree.row) ah,.row 1 3 (List.map (rI .i64) l)] (.tup []) [some (.box [dI aa,.own 1000004,dI a8,dR2 ae,dR1 ab,dI aj,.map 1000002]),none,some (mOb .str kS (uA Tree.row) ah),none,some (.row 1 26 (List.map (rS 1 (rI .i64)) (ag++[l])))]:=by
 refine bG bq _ Tryz.func36 rfl (by kernel_rfl) (by simp[Tryz.ntmps36]) (by simp) (by first | rfl | simp) (by first | rfl | simp) fun cx hn hk=>?_
 replace hn:cx.n=16:=hn.trans Tryz.ntmps36
 replace hk:cx.k=4:=hk
 unfold m_unroll_builder_clause_o_o at hm
 refine Swp.pre (Wk.frz 1000003 1 3 (List.map (rI .i64) l) (by simp -dsimp)) ?_
 refine sr1 hn ?_
 obtain⟨l1,h1,hm⟩:=bnd hm
 obtain⟨h1a,h1e⟩:=bp h1
 replace h1e:=h1e.symm
 subst h1e
 try simp only[List.length_cons,List.length_nil,Nat.zero_add] at h1a
 simp -dsimp [h1a]
 cases hm
 try refine⟨.inl rfl,?_⟩
 refine emr 12 1000004 hk ?_
 exact zz
theorem bV (l:List Int) (aP:Int) (aI:List (List Int)) (aR:Int) (aW:List Point) (aU:List Node) (abits:Int) (aY:List (List UInt8×Tree)) (a:List Int) (r:List (List Int)) (hm:m_unroll_builder_select1_1_o_o l aP aI aR aW aU abits aY a=some r):GFn Tryz.prog 110 [.u (.one (dL l)),vX 1000000,vX 1000004] [.box [.box 1000001 0],.box [dI aP,.own 1000002,dI aR,dR2 aW,dR1 aU,dI abits,.map 1000003],.row 1 26 (List.map (rS 1 (rI .i64)) aI),mOb .str kS (uA Tree.row) aY,.box [dL a]] (.tup []) [some (.box [.box 1000001 0]),some (.box [dI aP,.own 1000005,dI aR,dR2 aW,dR1 aU,dI abits,.map 1000003]),none,some (mOb .str kS (uA Tree.row) aY),some (.box [dL a]),some (.row 1 26 (List.map (rS 1 (rI .i64)) r))]:=by
 refine bG bq _ Tryz.func110 rfl (by kernel_rfl) (by simp[Tryz.ntmps110]) (by simp) (by first | rfl | simp) (by first | rfl | simp) fun cx hn hk=>?_
 replace hn:cx.n=10:=hn.trans Tryz.ntmps110
 replace hk:cx.k=5:=hk
 unfold m_unroll_builder_select1_1_o_o at hm
 refine sw_midp bq mixed [] [0,1,3,2,4,5] [0,1,3,2,4,5] 3 5 5 0 [[0,2],[0]] [[6],[8]] [] none (by rw[hn]; kernel_rfl) (by dsimp only [dq,fJ,adO,rnL,pmL,pk,rnO,rnG,dO,List.cons_append,List.nil_append]<;>exact rfl) bO ?_
 dsimp only [List.take,List.drop,cn,cp,cV,pk,List.cons_append,List.nil_append,List.flatten_cons,List.flatten_nil,bN,bM,List.append_nil]
 obtain⟨y,h1,hm⟩:=bnd hm
 simp -dsimp
 refine callE_new (cd a y h1) (dkL hn) (by decide) rfl rfl (by simp) nofun (by simp) ?_
 obtain⟨l1,h2,hm⟩:=bnd hm
 obtain⟨h2a,h2e⟩:=bp h2
 replace h2e:=h2e.symm
 subst h2e
 try simp only[List.length_cons,List.length_nil,Nat.zero_add,List.nil_append,List.length_append,List.length_map,List.length_replicate] at h2a
 obtain⟨y1,h3,hm⟩:=bnd hm
 simp -dsimp [h2a]
 refine clg (fv aP aI aR aW aU abits aY (y++l) y1 h3) [1000001,1000002,1000003,8] [5000] (by simp -dsimp) (dkL hn) ?_
 simp -dsimp
 cases hm
 try refine⟨.inl rfl,?_⟩
 refine emr 5000 1000005 hk ?_
 exact zz
end Go.Proofs.YtnkmjlncmlmnbaaGreatDoor
namespace Go.Proofs.YtnkmjlncmlmnbaaGreatDoor
open Go.AM Go.Proofs
set_option maxRecDepth 100000
attribute [-simp] qlookup cb cL Ob.wipe Ob.ren Ob.frz1
def cq (cx:Cx) (aa a8:Int) (ae:List Point) (ab:List Node) (aj:Int) (ah:List (List UInt8×Tree)) (_aG _own:List Int) (_v:Bn) (tt:(List (List Int))) (ee:Exit) (Z:Env) (O:Sto):Prop:=match tt with
 | l=>ee=.exit 0/\EE cx (bw [] [(5004,.row 1 26 (List.map (rS 1 (rI .i64)) l)),(1000000,.box [dI aa,.own 5004,dI a8,dR2 ae,dR1 ab,dI aj,.map 1000002]),(1000002,mOb .str kS (uA Tree.row) ah)]) Z O
theorem eV (cx:Cx) (hn:cx.n=60) (_hk:cx.k=3) (aa a8:Int) (ae:List Point) (ab:List Node) (aj:Int) (ah:List (List UInt8×Tree)) (aG own:List Int) (v:Bn) {fu:Nat} {stt:Int×(List (List Int))} {tt:(List (List Int))} (hh:bh (b_unroll_builder_select1_o_1 aa a8 ae ab aj ah aG own v) fu stt=some tt) {Z:Env} {O:Sto}
  (hE:bA (fun stt:Int×(List (List Int))=>match stt with | (a,_l)=>[(4,vX 4),(5,vX 5),(7,vX 7),(11,.u (.one (dL own))),(12,vI (bf own)),(13,vI a)]) (fun stt:Int×(List (List Int))=>match stt with | (_a,l)=>[(4,.box [.box 1000000 0]),(5,.box [dL aG]),(7,.box [dI v.constant,.d (pnil 1 (List.map (rI .i64) v.vars))]),(5004,.row 1 26 (List.map (rS 1 (rI .i64)) l)),(1000000,.box [dI aa,.own 5004,dI a8,dR2 ae,dR1 ab,dI aj,.map 1000002]),(1000002,mOb .str kS (uA Tree.row) ah)]) stt Z O):Swp Tryz.prog cx (.loop (bJ [1,1,0,0] (bv Tryz.f89))) Z O (cq cx aa a8 ae ab aj ah aG own v tt):=by
 refine bC hE hh (cq cx aa a8 ae ab aj ah aG own v) ?_
 rintro⟨a,l⟩ r hm Z O hf
 simp only[Fits,bo,bn,and_true] at hf
 unfold b_unroll_builder_select1_o_1 at hm
 dsimp only at hm
 refine srs hn ?_
 simp -dsimp [hf]
 refine ba ?_
 rcases bl hm with ⟨c1,hm⟩ | ⟨c1,hm⟩
 ·refine be (by simp -dsimp) c1 ?_
  refine bd (b9 ?_)
  obtain⟨l1,j12,hm⟩:=bnd hm
  refine scE [(4,vX 4),(5,vX 5),(7,vX 7),(11,.u (.one (dL own))),(12,vI (bf own)),(13,vI a)] [(4,.box [.box 1000000 0]),(5,.box [dL aG]),(7,.box [dI v.constant,.d (pnil 1 (List.map (rI .i64) v.vars))]),(5004,.row 1 26 (List.map (rS 1 (rI .i64)) l1)),(1000000,.box [dI aa,.own 5004,dI a8,dR2 ae,dR1 ab,dI aj,.map 1000002]),(1000002,mOb .str kS (uA Tree.row) ah)] ?_ fun Z O hf=>?_
  ·replace hm:=j12
   clear j12
   refine bc ?_
   refine srs hn ?_
   obtain⟨x,h2,hm⟩:=bnd hm
   simp -dsimp [hf,c1,h2]
   refine srs hn ?_
   simp -dsimp [hf]
   refine bc ?_
   refine srs hn ?_
   simp -dsimp [hf]
   rcases bl hm with ⟨c3,hm⟩ | ⟨c3,hm⟩
   ·refine be (by simp -dsimp) c3 ?_
    refine srs hn ?_
    obtain⟨u,h4,hm⟩:=bnd hm
    obtain⟨x1,h5,hm⟩:=bnd hm
    obtain⟨y,h6,hm⟩:=bnd hm
    simp -dsimp [hf,c3,cU h4 1 (rI .i64),h5]
    refine clg (bV [(bH .i64 x),x1] aa l a8 ae ab aj ah aG y h6) [4,1000000,5004,1000002,5] [5000] (by simp -dsimp [hf]) (dkL hn) ?_
    simp -dsimp [cU h4 1 (rI .i64)]
    refine sr1 hn ?_
    obtain⟨y1,h7,hm⟩:=bnd hm
    simp -dsimp [hf,cU h4 1 (rI .i64),h5]
    refine clg (bV [x,(bH .i64 x1)] aa y a8 ae ab aj ah aG y1 h7) [4,1000000,5000,1000002,5] [5001] (by simp -dsimp) (dkL hn) ?_
    simp -dsimp
    refine bD ?_
    refine bD ?_
    refine b9 ?_
    cases hm
    refine emv 5001 5004 ?_
    exact zz
   ·refine bi (by simp -dsimp) c3 ?_
    refine srs hn ?_
    obtain⟨n,h8,hm⟩:=bnd hm
    simp -dsimp [hf,c3,h8]
    rcases bl hm with ⟨c9,hm⟩ | ⟨c9,hm⟩
    ·refine be (by simp -dsimp) c9 ?_
     refine sr1 hn ?_
     obtain⟨y,h10,hm⟩:=bnd hm
     simp -dsimp [c9]
     refine clg (bV [x] aa l a8 ae ab aj ah aG y h10) [4,1000000,5004,1000002,5] [5002] (by simp -dsimp [hf]) (dkL hn) ?_
     simp -dsimp
     refine bD ?_
     refine bD ?_
     refine b9 ?_
     cases hm
     refine emv 5002 5004 ?_
     exact zz
    ·refine bi (by simp -dsimp) c9 ?_
     refine sr1 hn ?_
     obtain⟨y,h11,hm⟩:=bnd hm
     simp -dsimp [c9]
     refine clg (bV [(bH .i64 x)] aa l a8 ae ab aj ah aG y h11) [4,1000000,5004,1000002,5] [5003] (by simp -dsimp [hf]) (dkL hn) ?_
     simp -dsimp
     refine bD ?_
     refine bD ?_
     refine b9 ?_
     cases hm
     refine emv 5003 5004 ?_
     exact zz
  ·clear j12
   exact zz
 ·exact zz
theorem fB (aa:Int) (ag:List (List Int)) (a8:Int) (ae:List Point) (ab:List Node) (aj:Int) (ah:List (List UInt8×Tree)) (aG own:List Int) (v:Bn) (r:List (List Int)) (hm:m_unroll_builder_select1_o aa ag a8 ae ab aj ah aG own v=some r):GFn Tryz.prog 89 [vX 1000000,.u (.one (dL aG)),.u (.one (dL own)),.u (.agg [dI v.constant,.d (pnil 1 (List.map (rI .i64) v.vars))])] [.box [dI aa,.own 1000001,dI a8,dR2 ae,dR1 ab,dI aj,.map 1000002],.row 1 26 (List.map (rS 1 (rI .i64)) ag),mOb .str kS (uA Tree.row) ah] (.tup []) [some (.box [dI aa,.own 1000003,dI a8,dR2 ae,dR1 ab,dI aj,.map 1000002]),none,some (mOb .str kS (uA Tree.row) ah),some (.row 1 26 (List.map (rS 1 (rI .i64)) r))]:=by
 refine bG bq _ Tryz.func89 rfl (by kernel_rfl) (by simp[Tryz.ntmps89]) (by simp) (by first | rfl | simp) (by first | rfl | simp) fun cx hn hk=>?_
 replace hn:cx.n=60:=hn.trans Tryz.ntmps89
 replace hk:cx.k=3:=hk
 unfold m_unroll_builder_select1_o at hm
 refine srs hn ?_
 simp -dsimp
 refine srs hn ?_
 simp -dsimp
 refine bc ?_
 obtain⟨l,g13,hm⟩:=bnd hm
 refine bu (eV cx hn hk aa a8 ae ab aj ah aG own v g13) (by
   try dsimp only
   refine emv 1000001 5004 ?_
   exact zz
 ) fun ee Z O xx=>?_
 unfold cq at xx
 dsimp only at xx
 obtain⟨rfl,xx⟩:=xx
 refine bz ?_
 cases hm
 try refine⟨.inl rfl,?_⟩
 refine ee_bind (by rfl) (by rfl) xx fun Z O hf=>?_
 simp only[Fits,bo,bn,and_true,true_and] at hf
 refine emr 5004 1000003 hk ?_
 exact zz
def dt (cx:Cx) (a8:Int) (ae:List Point) (ab:List Node) (aj:Int) (ah:List (List UInt8×Tree)) (t:Tree) (in_:List Bn) (a:Int) (l1:List Bn) (_x:Node) (_x1:Bn) (y1:(List Int)×Int) (x2:Bn) (_u:Unit) (tt:(List (List Int))) (ee:Exit) (Z:Env) (O:Sto):Prop:=match tt with
 | l3=>ee=.exit 2/\EE cx (bw [(0,vX 1000000),(2,vO 1000003),(4,vX 4),(6,vX 6),(7,vX 7),(19,.u (.one (dR1 t.Nodes))),(20,vI (bf t.Nodes)),(21,vI a)] [(4,.box [dI t.States,dR2 t.Hood,dR1 t.Nodes]),(6,.box [dI 0,.d .nil]),(7,.box [.own 17]),(17,.row 2 68 (List.map Bn.row (l1.set a.toNat (⟨x2.constant,y1.1⟩:Bn)))),(5001,.row 1 26 (List.map (rS 1 (rI .i64)) l3)),(1000000,.box [dI y1.2,.own 5001,dI a8,dR2 ae,dR1 ab,dI aj,.map 1000002]),(1000002,mOb .str kS (uA Tree.row) ah),(1000003,.row 2 68 (List.map Bn.row in_))]) Z O
theorem ff (cx:Cx) (hn:cx.n=77) (_hk:cx.k=4) (a8:Int) (ae:List Point) (ab:List Node) (aj:Int) (ah:List (List UInt8×Tree)) (t:Tree) (in_:List Bn) (a:Int) (l1:List Bn) (x:Node) (x1:Bn) (y1:(List Int)×Int) (x2:Bn) (u:Unit) {fu:Nat} {stt:Int×(List (List Int))} {tt:(List (List Int))} (hh:bh (b_unroll_builder_tree_o_o_2 a8 ae ab aj ah t in_ a l1 x x1 y1 x2 u) fu stt=some tt) {Z:Env} {O:Sto}
  (hE:bA (fun stt:Int×(List (List Int))=>match stt with | (a1,_l3)=>[(0,vX 1000000),(2,vO 1000003),(4,vX 4),(6,vX 6),(7,vX 7),(10,.u (.one (.fn 87 [.box 9 0,.box 7 0]))),(11,.u (.one (.d (pnil 1 (List.map (rI .i64) x1.vars))))),(12,.u (.one (dL y1.1))),(19,.u (.one (dR1 t.Nodes))),(20,vI (bf t.Nodes)),(21,vI a),(56,vI (bf x.Next)),(57,vI a1)]) (fun stt:Int×(List (List Int))=>match stt with | (_a1,l3)=>[(4,.box [dI t.States,dR2 t.Hood,dR1 t.Nodes]),(6,.box [dI 0,.d .nil]),(7,.box [.own 17]),(9,.box [dI x.Level,dL x.Next]),(17,.row 2 68 (List.map Bn.row (l1.set a.toNat (⟨x2.constant,y1.1⟩:Bn)))),(5001,.row 1 26 (List.map (rS 1 (rI .i64)) l3)),(1000000,.box [dI y1.2,.own 5001,dI a8,dR2 ae,dR1 ab,dI aj,.map 1000002]),(1000002,mOb .str kS (uA Tree.row) ah),(1000003,.row 2 68 (List.map Bn.row in_))]) stt Z O):Swp Tryz.prog cx (.loop (bJ [1,1,0,1,0,0,1,1,0,0,1,1,1,1,1,1,1,0,0] (bv Tryz.f54))) Z O (dt cx a8 ae ab aj ah t in_ a l1 x x1 y1 x2 u tt):=by
 refine bC hE hh (dt cx a8 ae ab aj ah t in_ a l1 x x1 y1 x2 u) ?_
 rintro⟨a1,l3⟩ r hm Z O hf
 simp only[Fits,bo,bn,and_true] at hf
 unfold b_unroll_builder_tree_o_o_2 at hm
 dsimp only at hm
 refine srs hn ?_
 simp -dsimp [hf]
 refine ba ?_
 rcases bl hm with ⟨c12,hm⟩ | ⟨c12,hm⟩
 ·refine be (by simp -dsimp) c12 ?_
  refine bd (b9 (ba (bc ?_)))
  refine srs hn ?_
  simp -dsimp [hf,c12]
  refine sr1 hn ?_
  obtain⟨u1,h13,hm⟩:=bnd hm
  obtain⟨y2,h14,hm⟩:=bnd hm
  simp -dsimp [hf,cU h13 1 (rI .i64)]
  refine bg (hP x1.vars a1 y2 h14) (dkL hn) ?_
  obtain⟨y3,h15,hm⟩:=bnd hm
  simp -dsimp [hf]
  refine clg (dr a1 x.Level x.Next (l1.set a.toNat (⟨x2.constant,y1.1⟩:Bn)) y3 h15) [9,7,17] [] (by simp -dsimp [hf]) (dkL hn) ?_
  obtain⟨y4,h16,hm⟩:=bnd hm
  simp -dsimp
  refine clg (fB y1.2 l3 a8 ae ab aj ah y2 y1.1 (⟨y3.1,y3.2⟩:Bn) y4 h16) [1000000,5001,1000002] [5000] (by simp -dsimp [hf]) (dkL hn) ?_
  simp -dsimp [cU h13 1 (rI .i64)]
  refine bD ?_
  refine b9 ?_
  refine sr1 hn ?_
  simp -dsimp [hf]
  cases hm
  refine bI ?_
  refine emv 5000 5001 ?_
  exact zz
 ·exact zz
def cC (cx:Cx) (a8:Int) (ae:List Point) (ab:List Node) (aj:Int) (ah:List (List UInt8×Tree)) (_t:Tree) (in_:List Bn) (tt:((List Bn)×(List (List Int))×Int)) (ee:Exit) (Z:Env) (O:Sto):Prop:=match tt with
 | (l1,l2,ai)=>ee=.exit 0/\EE cx (bw [(6,vX 6),(7,vX 7)] [(6,.box [dI 0,.d .nil]),(7,.box [.own 17]),(17,.row 2 68 (List.map Bn.row l1)),(5001,.row 1 26 (List.map (rS 1 (rI .i64)) l2)),(1000000,.box [dI ai,.own 5001,dI a8,dR2 ae,dR1 ab,dI aj,.map 1000002]),(1000002,mOb .str kS (uA Tree.row) ah),(1000003,.row 2 68 (List.map Bn.row in_))]) Z O
theorem fw (cx:Cx) (hn:cx.n=77) (hk:cx.k=4) (a8:Int) (ae:List Point) (ab:List Node) (aj:Int) (ah:List (List UInt8×Tree)) (t:Tree) (in_:List Bn) {fu:Nat} {stt:Int×(List Bn)×(List (List Int))×Int} {tt:((List Bn)×(List (List Int))×Int)} (hh:bh (b_unroll_builder_tree_o_o_1 a8 ae ab aj ah t in_) fu stt=some tt) {Z:Env} {O:Sto}
  (hE:bA (fun stt:Int×(List Bn)×(List (List Int))×Int=>match stt with | (a,_l1,_l2,_ai)=>[(0,vX 1000000),(2,vO 1000003),(4,vX 4),(6,vX 6),(7,vX 7),(19,.u (.one (dR1 t.Nodes))),(20,vI (bf t.Nodes)),(21,vI a)]) (fun stt:Int×(List Bn)×(List (List Int))×Int=>match stt with | (_a,l1,l2,ai)=>[(4,.box [dI t.States,dR2 t.Hood,dR1 t.Nodes]),(6,.box [dI 0,.d .nil]),(7,.box [.own 17]),(17,.row 2 68 (List.map Bn.row l1)),(5001,.row 1 26 (List.map (rS 1 (rI .i64)) l2)),(1000000,.box [dI ai,.own 5001,dI a8,dR2 ae,dR1 ab,dI aj,.map 1000002]),(1000002,mOb .str kS (uA Tree.row) ah),(1000003,.row 2 68 (List.map Bn.row in_))]) stt Z O):Swp Tryz.prog cx (.loop (bJ [1,1,0,1,0,0] (bv Tryz.f54))) Z O (cC cx a8 ae ab aj ah t in_ tt):=by
 refine bC hE hh (cC cx a8 ae ab aj ah t in_) ?_
 rintro⟨a,l1,l2,ai⟩ r hm Z O hf
 simp only[Fits,bo,bn,and_true] at hf
 unfold b_unroll_builder_tree_o_o_1 at hm
 dsimp only at hm
 refine srs hn ?_
 simp -dsimp [hf]
 refine ba ?_
 rcases bl hm with ⟨c2,hm⟩ | ⟨c2,hm⟩
 ·refine be (by simp -dsimp) c2 ?_
  refine bd (b9 (ba (bc ?_)))
  refine srs hn ?_
  obtain⟨x,h3,hm⟩:=bnd hm
  simp -dsimp [hf,c2,h3]
  refine srs hn ?_
  simp -dsimp [hf]
  refine ba ?_
  refine srs hn ?_
  obtain⟨y,h4,hm⟩:=bnd hm
  simp -dsimp
  refine dj (us':=[.u (.one (dL x.Next)),.u (.one (.fn 88 [.ref (Node.row x) 0]))]) (cF x.Next x y h4) (by simp -dsimp) rfl (dkL hn) ?_
  simp -dsimp
  rcases bl hm with ⟨c5,hm⟩ | ⟨c5,hm⟩
  ·refine be (by simp -dsimp) c5 ?_
   refine cm bq mixed 3 4 4 0 [[0,1]] [[]] [] none (by rw[hn]; kernel_rfl) bO ?_
   dsimp only [List.take,List.drop,cn,cp,cV,pk,List.cons_append,List.nil_append,List.flatten_cons,List.flatten_nil,bN,bM,List.append_nil]
   obtain⟨y1,h6,hm⟩:=bnd hm
   simp -dsimp [hf,c5]
   refine fo (dr 0 x.Level x.Next l1 y1 h6) [9,7,17] [] rfl rfl rfl (by simp -dsimp) rfl (by simp -dsimp [hf]) (by first | rfl | simp) rfl (dkL hn) rfl rfl (by simp) nofun (by simp) ?_
   obtain⟨x1,h7,hm⟩:=bnd hm
   simp -dsimp [hf,h7,bF h7]
   exact zz
  ·refine bi (by simp -dsimp) c5 ?_
   refine bd (b9 ?_)
   refine srs hn ?_
   obtain⟨x1,h8,hm⟩:=bnd hm
   simp -dsimp [hf,c5,h8,bF h8]
   refine srs hn ?_
   obtain⟨y1,h9,hm⟩:=bnd hm
   simp -dsimp [hf]
   refine clg (dQ ai l2 a8 ae ab aj ah y1 h9) [1000000,5001,1000002] [] (by simp -dsimp [hf]) (dkL hn) ?_
   simp -dsimp
   refine srs hn ?_
   obtain⟨x2,h10,hm⟩:=bnd hm
   obtain⟨u,h11,hm⟩:=bnd hm
   simp -dsimp [hf,h10,bF h10]
   refine srs hn ?_
   simp -dsimp
   refine bc ?_
   obtain⟨l3,g17,hm⟩:=bnd hm
   refine bu (ff cx hn hk a8 ae ab aj ah t in_ a l1 x x1 y1 x2 u g17) (by
     try dsimp only
     exact EE.here (by simp -dsimp [hf,cU h11 1 (rI .i64)])
   ) fun ee Z O xx=>?_
   exact zz
 ·exact zz
theorem ge (aa:Int) (ag:List (List Int)) (a8:Int) (ae:List Point) (ab:List Node) (aj:Int) (ah:List (List UInt8×Tree)) (t:Tree) (in_:List Bn) (r:Int×(List Int)×(List (List Int))×Int) (hm:m_unroll_builder_tree_o_o aa ag a8 ae ab aj ah t in_=some r):GFn Tryz.prog 54 [vX 1000000,.u (.agg [dI t.States,dR2 t.Hood,dR1 t.Nodes]),vO 1000003] [.box [dI aa,.own 1000001,dI a8,dR2 ae,dR1 ab,dI aj,.map 1000002],.row 1 26 (List.map (rS 1 (rI .i64)) ag),mOb .str kS (uA Tree.row) ah,.row 2 68 (List.map Bn.row in_)] (.u (.agg [dI r.1,.d (pnil 1 (List.map (rI .i64) r.2.1))])) [some (.box [dI r.2.2.2,.own 1000004,dI a8,dR2 ae,dR1 ab,dI aj,.map 1000002]),none,some (mOb .str kS (uA Tree.row) ah),some (.row 2 68 (List.map Bn.row in_)),some (.row 1 26 (List.map (rS 1 (rI .i64)) r.2.2.1))]:=by
 refine bG bq _ Tryz.func54 rfl (by kernel_rfl) (by simp[Tryz.ntmps54]) (by simp) (by first | rfl | simp) (by first | rfl | simp) fun cx hn hk=>?_
 replace hn:cx.n=77:=hn.trans Tryz.ntmps54
 replace hk:cx.k=4:=hk
 unfold m_unroll_builder_tree_o_o at hm
 refine srs hn ?_
 simp -dsimp
 refine srs hn ?_
 obtain⟨l,h1,hm⟩:=bnd hm
 obtain⟨⟨h1a,h1b,h1c⟩,rfl⟩:=mkL_some h1
 simp -dsimp [h1a,h1c]
 refine ba ?_
 refine srs hn ?_
 simp -dsimp
 refine bc ?_
 obtain⟨⟨l1,l2,ai⟩,g18,hm⟩:=bnd hm
 refine bu (fw cx hn hk a8 ae ab aj ah t in_ g18) (by
   try dsimp only
   refine emv 1000001 5001 ?_
   exact zz
 ) fun ee Z O xx=>?_
 unfold cC at xx
 dsimp only at xx
 obtain⟨rfl,xx⟩:=xx
 refine bz ?_
 refine b9 ?_
 refine see xx fun Z O hf=>?_
 simp only[Fits,bo,bn,and_true] at hf
 refine srs hn ?_
 obtain⟨x,h19,hm⟩:=bnd hm
 simp -dsimp [hf,h19,bF h19]
 refine bE ?_
 cases hm
 refine⟨.inr rfl,?_⟩
 refine emr 5001 1000004 hk ?_
 exact zz
theorem cX (aa:Int) (ag:List (List Int)) (a8:Int) (ae:List Point) (ab:List Node) (aj:Int) (ah:List (List UInt8×Tree)) (r:Bool) (hm:m_unroll_builder_large_o aa ag a8 ae ab aj ah=some r):GFn Tryz.prog 24 [vX 1000000] [.box [dI aa,.own 1000001,dI a8,dR2 ae,dR1 ab,dI aj,.map 1000002],.row 1 26 (List.map (rS 1 (rI .i64)) ag),mOb .str kS (uA Tree.row) ah] (vT r) [some (.box [dI aa,.own 1000001,dI a8,dR2 ae,dR1 ab,dI aj,.map 1000002]),some (.row 1 26 (List.map (rS 1 (rI .i64)) ag)),some (mOb .str kS (uA Tree.row) ah)]:=by
 refine bG bq _ Tryz.func24 rfl (by kernel_rfl) (by simp[Tryz.ntmps24]) (by simp) (by first | rfl | simp) (by first | rfl | simp) fun cx hn hk=>?_
 replace hn:cx.n=18:=hn.trans Tryz.ntmps24
 replace hk:cx.k=3:=hk
 unfold m_unroll_builder_large_o at hm
 refine srs hn ?_
 simp -dsimp
 obtain⟨a,j2,hm⟩:=bnd hm
 refine scE [(2,vT a)] [(1000000,.box [dI aa,.own 1000001,dI a8,dR2 ae,dR1 ab,dI aj,.map 1000002]),(1000001,.row 1 26 (List.map (rS 1 (rI .i64)) ag)),(1000002,mOb .str kS (uA Tree.row) ah)] ?_ fun Z O hf=>?_
 ·replace hm:=j2
  clear j2
  exact zz
 ·clear j2
  exact zz
def cR (cx:Cx) (a8:Int) (ae:List Point) (ab:List Node) (aj:Int) (f:Bo) (box:Box) (fixed:Bool) (y x:Int) (l2:List Bn) (l3:List (List Int)) (ax:Int) (mp1:List (List UInt8×Tree)) (tt:(List Bn)) (ee:Exit) (Z:Env) (O:Sto):Prop:=match tt with
 | in_=>ee=.exit 4/\EE cx (bw [(0,vX 1000000),(3,vT fixed),(5,vX 5),(6,vX 6),(8,vX 8),(10,vX 10),(11,vI y),(12,vI x),(13,vO 5000)] [(5,.box [dI f.box.X,dI f.box.Y,dI f.box.W,dI f.box.H,dR4 f.values]),(6,.box [dI box.X,dI box.Y,dI box.W,dI box.H]),(8,.box [dI 0,dI 0,dI 0,dI 0,.d .nil]),(10,.box [dI box.X,dI box.Y,dI box.W,dI box.H,.own 5002]),(5000,.row 2 68 (List.map Bn.row in_)),(5002,.row 2 68 (List.map Bn.row l2)),(5003,.row 1 26 (List.map (rS 1 (rI .i64)) l3)),(1000000,.box [dI ax,.own 5003,dI a8,dR2 ae,dR1 ab,dI aj,.map 1000002]),(1000002,mOb .str kS (uA Tree.row) mp1)]) Z O
theorem gb (cx:Cx) (hn:cx.n=86) (_hk:cx.k=3) (a8:Int) (ae:List Point) (ab:List Node) (aj:Int) (f:Bo) (box:Box) (fixed:Bool) (y x:Int) (l2:List Bn) (l3:List (List Int)) (ax:Int) (mp1:List (List UInt8×Tree)) {fu:Nat} {stt:Int×(List Bn)} {tt:(List Bn)} (hh:bh (b_unroll_builder_next_o_3 a8 ae ab aj f box fixed y x l2 l3 ax mp1) fu stt=some tt) {Z:Env} {O:Sto}
  (hE:bA (fun stt:Int×(List Bn)=>match stt with | (a,_in_)=>[(0,vX 1000000),(3,vT fixed),(5,vX 5),(6,vX 6),(8,vX 8),(10,vX 10),(11,vI y),(12,vI x),(13,vO 5000),(45,.u (.one (dR2 ae))),(46,vI (bf ae)),(47,vI a)]) (fun stt:Int×(List Bn)=>match stt with | (_a,in_)=>[(5,.box [dI f.box.X,dI f.box.Y,dI f.box.W,dI f.box.H,dR4 f.values]),(6,.box [dI box.X,dI box.Y,dI box.W,dI box.H]),(8,.box [dI 0,dI 0,dI 0,dI 0,.d .nil]),(10,.box [dI box.X,dI box.Y,dI box.W,dI box.H,.own 5002]),(5000,.row 2 68 (List.map Bn.row in_)),(5002,.row 2 68 (List.map Bn.row l2)),(5003,.row 1 26 (List.map (rS 1 (rI .i64)) l3)),(1000000,.box [dI ax,.own 5003,dI a8,dR2 ae,dR1 ab,dI aj,.map 1000002]),(1000002,mOb .str kS (uA Tree.row) mp1)]) stt Z O):Swp Tryz.prog cx (.loop (bJ [1,1,0,1,0,0,1,0,0,1,0,0,1,0,0,1,0,1,0,0] (bv Tryz.f21))) Z O (cR cx a8 ae ab aj f box fixed y x l2 l3 ax mp1 tt):=by
 refine bC hE hh (cR cx a8 ae ab aj f box fixed y x l2 l3 ax mp1) ?_
 rintro⟨a,in_⟩ r hm Z O hf
 simp only[Fits,bo,bn,and_true] at hf
 unfold b_unroll_builder_next_o_3 at hm
 dsimp only at hm
 refine srs hn ?_
 simp -dsimp [hf]
 refine ba ?_
 rcases bl hm with ⟨c3,hm⟩ | ⟨c3,hm⟩
 ·refine be (by simp -dsimp) c3 ?_
  refine bd (b9 (ba (bc ?_)))
  refine srs hn ?_
  obtain⟨x1,h4,hm⟩:=bnd hm
  simp -dsimp [hf,c3,h4]
  refine sr1 hn ?_
  obtain⟨y1,h5,hm⟩:=bnd hm
  simp -dsimp [hf]
  refine bg (dm f (bk .i64 x x1.X) (bk .i64 y x1.Y) y1 h5) (dkL hn) ?_
  obtain⟨l4,h6,hm⟩:=bnd hm
  obtain⟨h6a,h6e⟩:=bp h6
  replace h6e:=h6e.symm
  subst h6e
  try simp only[List.length_cons,List.length_nil,Nat.zero_add] at h6a
  simp -dsimp [hf,h6a]
  refine bD ?_
  refine b9 ?_
  refine sr1 hn ?_
  simp -dsimp [hf]
  cases hm
  refine bI ?_
  refine emv 63 5000 ?_
  exact zz
 ·exact zz
def cP (cx:Cx) (a8:Int) (ae:List Point) (ab:List Node) (aj:Int) (f:Bo) (box:Box) (fixed:Bool) (y:Int) (tt:(Int×Int×Int×Int×(List Bn)×Bool×Int×(List (List UInt8×Tree))×(List (List Int))) ⊕ ((List Bn)×(List (List Int))×Int×(List (List UInt8×Tree)))) (ee:Exit) (Z:Env) (O:Sto):Prop:=match tt with
 | .inl r=>ee=.ret/\EE cx (fun Z O=>∃ v,dd tb Z O Tryz.f21.results.toList=some v/\(v.frzL O).wk (.tup [.agg [dI r.1,dI r.2.1,dI r.2.2.1,dI r.2.2.2.1,dR4 r.2.2.2.2.1],.one (.d (.bool r.2.2.2.2.2.1))])/\goutL inBase [some (.box [dI r.2.2.2.2.2.2.1,.own 1000003,dI a8,dR2 ae,dR1 ab,dI aj,.map 1000002]),none,some (mOb .str kS (uA Tree.row) r.2.2.2.2.2.2.2.1),some (.row 1 26 (List.map (rS 1 (rI .i64)) r.2.2.2.2.2.2.2.2))] O) Z O
 | .inr (l2,l3,ax,mp1)=>ee=.exit 2/\EE cx (bw [(0,vX 1000000),(3,vT fixed),(5,vX 5),(6,vX 6),(8,vX 8),(10,vX 10),(11,vI y)] [(5,.box [dI f.box.X,dI f.box.Y,dI f.box.W,dI f.box.H,dR4 f.values]),(6,.box [dI box.X,dI box.Y,dI box.W,dI box.H]),(8,.box [dI 0,dI 0,dI 0,dI 0,.d .nil]),(10,.box [dI box.X,dI box.Y,dI box.W,dI box.H,.own 5002]),(5002,.row 2 68 (List.map Bn.row l2)),(5003,.row 1 26 (List.map (rS 1 (rI .i64)) l3)),(1000000,.box [dI ax,.own 5003,dI a8,dR2 ae,dR1 ab,dI aj,.map 1000002]),(1000002,mOb .str kS (uA Tree.row) mp1)]) Z O
theorem gk (cx:Cx) (hn:cx.n=86) (hk:cx.k=3) (a8:Int) (ae:List Point) (ab:List Node) (aj:Int) (f:Bo) (box:Box) (fixed:Bool) (y:Int) {fu:Nat} {stt:Int×(List Bn)×(List (List Int))×Int×(List (List UInt8×Tree))} {tt:(Int×Int×Int×Int×(List Bn)×Bool×Int×(List (List UInt8×Tree))×(List (List Int))) ⊕ ((List Bn)×(List (List Int))×Int×(List (List UInt8×Tree)))} (hh:bh (b_unroll_builder_next_o_2 a8 ae ab aj f box fixed y) fu stt=some tt) {Z:Env} {O:Sto}
  (hE:bA (fun stt:Int×(List Bn)×(List (List Int))×Int×(List (List UInt8×Tree))=>match stt with | (x,_l2,_l3,_ax,_mp1)=>[(0,vX 1000000),(3,vT fixed),(5,vX 5),(6,vX 6),(8,vX 8),(10,vX 10),(11,vI y),(12,vI x)]) (fun stt:Int×(List Bn)×(List (List Int))×Int×(List (List UInt8×Tree))=>match stt with | (_x,l2,l3,ax,mp1)=>[(5,.box [dI f.box.X,dI f.box.Y,dI f.box.W,dI f.box.H,dR4 f.values]),(6,.box [dI box.X,dI box.Y,dI box.W,dI box.H]),(8,.box [dI 0,dI 0,dI 0,dI 0,.d .nil]),(10,.box [dI box.X,dI box.Y,dI box.W,dI box.H,.own 5002]),(5002,.row 2 68 (List.map Bn.row l2)),(5003,.row 1 26 (List.map (rS 1 (rI .i64)) l3)),(1000000,.box [dI ax,.own 5003,dI a8,dR2 ae,dR1 ab,dI aj,.map 1000002]),(1000002,mOb .str kS (uA Tree.row) mp1)]) stt Z O):Swp Tryz.prog cx (.loop (bJ [1,1,0,1,0,0,1,0,0,1,0,0] (bv Tryz.f21))) Z O (cP cx a8 ae ab aj f box fixed y tt):=by
 refine bC hE hh (cP cx a8 ae ab aj f box fixed y) ?_
 rintro⟨x,l2,l3,ax,mp1⟩ r hm Z O hf
 simp only[Fits,bo,bn,and_true] at hf
 unfold b_unroll_builder_next_o_2 at hm
 dsimp only at hm
 refine ba ?_
 refine srs hn ?_
 simp -dsimp [hf]
 rcases bl hm with ⟨c2,hm⟩ | ⟨c2,hm⟩
 ·refine be (by simp -dsimp) c2 ?_
  refine bd (b9 (ba (bc ?_)))
  refine srs hn ?_
  simp -dsimp [c2]
  refine ba ?_
  refine srs hn ?_
  simp -dsimp [hf]
  refine bc ?_
  obtain⟨in_,g7,hm⟩:=bnd hm
  refine bu (gb cx hn hk a8 ae ab aj f box fixed y x l2 l3 ax mp1 g7) (by
    try dsimp only
    refine EE.step (Wk.own0 13 5000 2 68 (by simp -dsimp) (by decide)) ?_
    exact zz
  ) fun ee Z O xx=>?_
  unfold cR at xx
  dsimp only at xx
  obtain⟨rfl,xx⟩:=xx
  refine bz ?_
  refine b9 ?_
  refine see xx fun Z O hf=>?_
  simp only[Fits,bo,bn,and_true] at hf
  refine srs hn ?_
  simp -dsimp [hf]
  obtain⟨⟨aC,aK,aE,mp2⟩,j14,hm⟩:=bnd hm
  refine scE [(0,vX 1000000),(3,vT fixed),(5,vX 5),(6,vX 6),(8,vX 8),(10,vX 10),(11,vI y),(12,vI x),(13,vO 5000),(16,vX 16)] [(5,.box [dI f.box.X,dI f.box.Y,dI f.box.W,dI f.box.H,dR4 f.values]),(6,.box [dI box.X,dI box.Y,dI box.W,dI box.H]),(8,.box [dI 0,dI 0,dI 0,dI 0,.d .nil]),(10,.box [dI box.X,dI box.Y,dI box.W,dI box.H,.own 5002]),(16,.box [dI aC,dR2 aK,dR1 aE]),(5000,.row 2 68 (List.map Bn.row in_)),(5002,.row 2 68 (List.map Bn.row l2)),(5003,.row 1 26 (List.map (rS 1 (rI .i64)) l3)),(1000000,.box [dI ax,.own 5003,dI a8,dR2 ae,dR1 ab,dI aj,.map 1000002]),(1000002,mOb .str kS (uA Tree.row) mp2)] ?_ fun Z O hf=>?_
  ·replace hm:=j14
   clear j14
   refine srs hn ?_
   simp -dsimp [hf]
   rcases bl hm with ⟨c8,hm⟩ | ⟨c8,hm⟩
   ·refine be (by simp -dsimp) c8 ?_
    refine sr1 hn ?_
    obtain⟨y1,h9,hm⟩:=bnd hm
    simp -dsimp [hf,c8]
    refine clg (fT ax l3 a8 ae ab aj mp1 in_ y1 h9) [1000000,5003,1000002,5000] [] (by simp -dsimp [hf]) (dkL hn) ?_
    simp -dsimp [c8]
    exact zz
   ·exact zz
  ·clear j14
   simp only[Fits,bo,bn,and_true] at hf
   refine cm bq mixed 5 6 7 0 [[0,1]] [[5001]] [true] none (by rw[hn]; kernel_rfl) bO ?_
   dsimp only [List.take,List.drop,cn,cp,cV,pk,List.cons_append,List.nil_append,List.flatten_cons,List.flatten_nil,bN,bM,List.append_nil]
   obtain⟨y1,h10,hm⟩:=bnd hm
   simp -dsimp [hf]
   refine fo (ge ax l3 a8 ae ab aj mp2 (⟨aC,aK,aE⟩:Tree) in_ y1 h10) [1000000,5003,1000002,5000] [5001] rfl rfl rfl (by simp -dsimp) rfl (by simp -dsimp [hf]) (by first | rfl | simp) rfl (dkL hn) rfl rfl (by simp) nofun (by simp) ?_
   obtain⟨l4,h11,hm⟩:=bnd hm
   obtain⟨h11a,h11e⟩:=bp h11
   replace h11e:=h11e.symm
   subst h11e
   try simp only[List.length_cons,List.length_nil,Nat.zero_add] at h11a
   simp -dsimp [hf,h11a]
   refine srs hn ?_
   obtain⟨y2,h12,hm⟩:=bnd hm
   simp -dsimp [hf]
   refine clg (cX y1.2.2.2 y1.2.2.1 a8 ae ab aj mp2 y2 h12) [1000000,5001,1000002] [] (by simp -dsimp) (dkL hn) ?_
   simp -dsimp
   rcases bl hm with ⟨c13,hm⟩ | ⟨c13,hm⟩
   ·refine be (by simp -dsimp) c13 ?_
    refine srs hn ?_
    simp -dsimp [hf,c13]
    refine bE (blk_r (eZ ?_))
    cases hm
    refine rd_out nofun ?_
    unfold cP
    dsimp only
    refine⟨rfl,?_⟩
    refine emr 5001 1000003 hk ?_
    exact zz
   ·refine bi (by simp -dsimp) c13 ?_
    refine bd ?_
    refine bD ?_
    refine b9 ?_
    refine sr1 hn ?_
    simp -dsimp [hf,c13]
    cases hm
    refine bI ?_
    refine emv 80 5002 ?_
    refine emv 5001 5003 ?_
    exact zz
 ·exact zz
def ch (cx:Cx) (a8:Int) (ae:List Point) (ab:List Node) (aj:Int) (_f:Bo) (box:Box) (_fixed:Bool) (tt:(Int×Int×Int×Int×(List Bn)×Bool×Int×(List (List UInt8×Tree))×(List (List Int))) ⊕ ((List Bn)×(List (List Int))×Int×(List (List UInt8×Tree)))) (ee:Exit) (Z:Env) (O:Sto):Prop:=match tt with
 | .inl r=>ee=.ret/\EE cx (fun Z O=>∃ v,dd tb Z O Tryz.f21.results.toList=some v/\(v.frzL O).wk (.tup [.agg [dI r.1,dI r.2.1,dI r.2.2.1,dI r.2.2.2.1,dR4 r.2.2.2.2.1],.one (.d (.bool r.2.2.2.2.2.1))])/\goutL inBase [some (.box [dI r.2.2.2.2.2.2.1,.own 1000003,dI a8,dR2 ae,dR1 ab,dI aj,.map 1000002]),none,some (mOb .str kS (uA Tree.row) r.2.2.2.2.2.2.2.1),some (.row 1 26 (List.map (rS 1 (rI .i64)) r.2.2.2.2.2.2.2.2))] O) Z O
 | .inr (l,l1,ai,mp)=>ee=.exit 0/\EE cx (bw [(8,vX 8),(10,vX 10)] [(8,.box [dI 0,dI 0,dI 0,dI 0,.d .nil]),(10,.box [dI box.X,dI box.Y,dI box.W,dI box.H,.own 5002]),(5002,.row 2 68 (List.map Bn.row l)),(5003,.row 1 26 (List.map (rS 1 (rI .i64)) l1)),(1000000,.box [dI ai,.own 5003,dI a8,dR2 ae,dR1 ab,dI aj,.map 1000002]),(1000002,mOb .str kS (uA Tree.row) mp)]) Z O
theorem gm (cx:Cx) (hn:cx.n=86) (hk:cx.k=3) (a8:Int) (ae:List Point) (ab:List Node) (aj:Int) (f:Bo) (box:Box) (fixed:Bool) {fu:Nat} {stt:Int×(List Bn)×(List (List Int))×Int×(List (List UInt8×Tree))} {tt:(Int×Int×Int×Int×(List Bn)×Bool×Int×(List (List UInt8×Tree))×(List (List Int))) ⊕ ((List Bn)×(List (List Int))×Int×(List (List UInt8×Tree)))} (hh:bh (b_unroll_builder_next_o_1 a8 ae ab aj f box fixed) fu stt=some tt) {Z:Env} {O:Sto}
  (hE:bA (fun stt:Int×(List Bn)×(List (List Int))×Int×(List (List UInt8×Tree))=>match stt with | (y,_l,_l1,_ai,_mp)=>[(0,vX 1000000),(3,vT fixed),(5,vX 5),(6,vX 6),(8,vX 8),(10,vX 10),(11,vI y)]) (fun stt:Int×(List Bn)×(List (List Int))×Int×(List (List UInt8×Tree))=>match stt with | (_y,l,l1,ai,mp)=>[(5,.box [dI f.box.X,dI f.box.Y,dI f.box.W,dI f.box.H,dR4 f.values]),(6,.box [dI box.X,dI box.Y,dI box.W,dI box.H]),(8,.box [dI 0,dI 0,dI 0,dI 0,.d .nil]),(10,.box [dI box.X,dI box.Y,dI box.W,dI box.H,.own 5002]),(5002,.row 2 68 (List.map Bn.row l)),(5003,.row 1 26 (List.map (rS 1 (rI .i64)) l1)),(1000000,.box [dI ai,.own 5003,dI a8,dR2 ae,dR1 ab,dI aj,.map 1000002]),(1000002,mOb .str kS (uA Tree.row) mp)]) stt Z O):Swp Tryz.prog cx (.loop (bJ [1,1,0,1,0,0] (bv Tryz.f21))) Z O (ch cx a8 ae ab aj f box fixed tt):=by
 refine bC hE hh (ch cx a8 ae ab aj f box fixed) ?_
 rintro⟨y,l,l1,ai,mp⟩ r hm Z O hf
 simp only[Fits,bo,bn,and_true] at hf
 unfold b_unroll_builder_next_o_1 at hm
 dsimp only at hm
 refine ba ?_
 refine srs hn ?_
 simp -dsimp [hf]
 rcases bl hm with ⟨c1,hm⟩ | ⟨c1,hm⟩
 ·refine be (by simp -dsimp) c1 ?_
  refine bd (b9 (ba (bc ?_)))
  refine srs hn ?_
  simp -dsimp [hf,c1]
  refine bc ?_
  obtain⟨o_,g15,hm⟩:=bnd hm
  refine bu (gk cx hn hk a8 ae ab aj f box fixed y g15) (by
    try dsimp only
    exact EE.here (by simp -dsimp [hf])
  ) fun ee Z O xx=>?_
  rcases o_ with r | ⟨l2,l3,ax,mp1⟩
  ·exact zz
  ·exact zz
 ·exact zz
theorem ea (aa:Int) (ag:List (List Int)) (a8:Int) (ae:List Point) (ab:List Node) (aj:Int) (ah:List (List UInt8×Tree)) (f:Bo) (box:Box) (fixed:Bool) (r:Int×Int×Int×Int×(List Bn)×Bool×Int×(List (List UInt8×Tree))×(List (List Int))) (hm:m_unroll_builder_next_o aa ag a8 ae ab aj ah f box fixed=some r):GFn Tryz.prog 21 [vX 1000000,.u (.agg [dI f.box.X,dI f.box.Y,dI f.box.W,dI f.box.H,dR4 f.values]),.u (.agg [dI box.X,dI box.Y,dI box.W,dI box.H]),vT fixed] [.box [dI aa,.own 1000001,dI a8,dR2 ae,dR1 ab,dI aj,.map 1000002],.row 1 26 (List.map (rS 1 (rI .i64)) ag),mOb .str kS (uA Tree.row) ah] (.tup [.agg [dI r.1,dI r.2.1,dI r.2.2.1,dI r.2.2.2.1,dR4 r.2.2.2.2.1],.one (.d (.bool r.2.2.2.2.2.1))]) [some (.box [dI r.2.2.2.2.2.2.1,.own 1000003,dI a8,dR2 ae,dR1 ab,dI aj,.map 1000002]),none,some (mOb .str kS (uA Tree.row) r.2.2.2.2.2.2.2.1),some (.row 1 26 (List.map (rS 1 (rI .i64)) r.2.2.2.2.2.2.2.2))]:=by
 refine bG bq _ Tryz.func21 rfl (by kernel_rfl) (by simp[Tryz.ntmps21]) (by simp) (by first | rfl | simp) (by first | rfl | simp) fun cx hn hk=>?_
 replace hn:cx.n=86:=hn.trans Tryz.ntmps21
 replace hk:cx.k=3:=hk
 unfold m_unroll_builder_next_o at hm
 refine srs hn ?_
 simp -dsimp
 refine srs hn ?_
 simp -dsimp
 refine ba ?_
 refine srs hn ?_
 simp -dsimp
 refine bc ?_
 obtain⟨o_,g16,hm⟩:=bnd hm
 refine bu (gm cx hn hk a8 ae ab aj f box fixed g16) (by
   try dsimp only
   refine emv 1000001 5003 ?_
   refine EE.step (Wk.own0b 10 4 5002 2 68 [dI box.X,dI box.Y,dI box.W,dI box.H,.d .nil] (by simp -dsimp) (by rfl) (by decide) (by decide)) ?_
   exact zz
 ) fun ee Z O xx=>?_
 rcases o_ with r | ⟨l,l1,ai,mp⟩
 ·unfold ch at xx
  dsimp only at xx
  obtain⟨rfl,xx⟩:=xx
  refine blk_r (eZ ?_)
  cases hm
  refine⟨.inr rfl,?_⟩
  first | exact xx | exact xx.mono fun Z O h=>by simpa -dsimp using h
 ·unfold ch at xx
  dsimp only at xx
  obtain⟨rfl,xx⟩:=xx
  refine bz ?_
  refine b9 ?_
  refine see xx fun Z O hf=>?_
  simp only[Fits,bo,bn,and_true] at hf
  refine Swp.pre (Wk.frz 5002 2 68 (List.map Bn.row l) (by simp -dsimp [hf])) ?_
  refine srs hn ?_
  simp -dsimp [hf]
  refine bE ?_
  cases hm
  refine⟨.inr rfl,?_⟩
  refine emr 5003 1000003 hk ?_
  exact zz
end Go.Proofs.YtnkmjlncmlmnbaaGreatDoor
