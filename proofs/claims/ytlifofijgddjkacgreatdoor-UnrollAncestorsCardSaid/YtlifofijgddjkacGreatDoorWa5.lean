/- That the code does what the functions say (made by cc.py). -/
import Derived.Test.YtlifofijgddjkacGreatDoorWa4
namespace Go.Proofs.YtlifofijgddjkacGreatDoor
open Go.AM Go.Proofs
set_option maxRecDepth 100000
attribute [-simp] eR fS jn Ob.wipe Ob.ren Ob.frz1
section
attribute [-simp] List.map_set List.set_set
def cK (cx:Cx) (t:Tree) (aA:Int) (aI:List Point) (aC:List Node) (cv cv1 a:Int) (mp:List (List UInt8×Int)) (l:List Node) (to_:List Int) (x:Node) (_y:List Int) (tt:(List Int)) (ee:Exit) (Z:Env) (O:Sto):Prop:=match tt with
 | next=>ee=.exit 2/\EE cx (bY [(1,.u (.one (.fn 80 [.box 1000000 0,.box 1000001 0,.box 1000002 0]))),(2,vX 2),(4,vX 4),(5,vX 5),(6,vO 5002),(8,vX 8),(9,vO 23),(15,.u (.one (dR1 t.Nodes))),(16,vI (b9 t.Nodes)),(17,vI a)] [(2,.box [dI t.States,dR2 t.Hood,dR1 t.Nodes]),(4,.box [dI 0,.d .nil,.d .nil]),(5,.box [.own 5000,.map 12]),(8,.box [dI x.Level,dL x.Next]),(12,mOb .str kS (uL (L.int .i64)) mp),(23,.row 1 3 (List.map (rI .i64) next)),(5000,.row 2 50 (List.map Node.row l)),(5002,.row 1 3 (List.map (rI .i64) to_)),(1000000,.box [dI aA,dR2 aI,dR1 aC]),(1000001,.box [dI cv]),(1000002,.box [dI cv1])]) Z O
set_option maxHeartbeats 1000000 in
theorem jp (cx:Cx) (hn:cx.n=69) (_hk:cx.k=3) (t:Tree) (aA:Int) (aI:List Point) (aC:List Node) (cv cv1 a:Int) (mp:List (List UInt8×Int)) (l:List Node) (to_:List Int) (x:Node) (y:List Int) {fu:Nat} {stt:Int×(List Int)} {tt:(List Int)} (hh:bh (dD t aA aI aC cv cv1 a mp l to_ x y) fu stt=some tt) {Z:Env} {O:Sto}
  (hE:cw (fun stt:Int×(List Int)=>match stt with | (a1,_next)=>[(1,.u (.one (.fn 80 [.box 1000000 0,.box 1000001 0,.box 1000002 0]))),(2,vX 2),(4,vX 4),(5,vX 5),(6,vO 5002),(8,vX 8),(9,vO 23),(15,.u (.one (dR1 t.Nodes))),(16,vI (b9 t.Nodes)),(17,vI a),(24,vO 23),(25,vI (b9 y)),(26,vI a1)]) (fun stt:Int×(List Int)=>match stt with | (_a1,next)=>[(2,.box [dI t.States,dR2 t.Hood,dR1 t.Nodes]),(4,.box [dI 0,.d .nil,.d .nil]),(5,.box [.own 5000,.map 12]),(8,.box [dI x.Level,dL x.Next]),(12,mOb .str kS (uL (L.int .i64)) mp),(23,.row 1 3 (List.map (rI .i64) next)),(5000,.row 2 50 (List.map Node.row l)),(5002,.row 1 3 (List.map (rI .i64) to_)),(1000000,.box [dI aA,dR2 aI,dR1 aC]),(1000001,.box [dI cv]),(1000002,.box [dI cv1])]) stt Z O):Swp Tryz.prog cx (.loop (dx [1,1,1,0,1,0,0,1,1,0,0,1,1,0,1,0,0] (bQ Tryz.f64))) Z O (cK cx t aA aI aC cv cv1 a mp l to_ x y tt):=by
 refine cz hE hh (cK cx t aA aI aC cv cv1 a mp l to_ x y) ?_
 rintro⟨a1,next⟩ r hm Z O hf
 simp only[Fits,bv,bu,and_true] at hf
 unfold dD at hm
 dsimp only at hm
 refine srs hn ?_
 simp -dsimp [hf]
 refine aZ ?_
 rcases bc hm with ⟨c4,hm⟩ | ⟨c4,hm⟩
 ·refine aW (by simp -dsimp) c4 ?_
  refine aY (aU ?_)
  obtain⟨aG,j8,hm⟩:=bnd hm
  refine scE [(1,.u (.one (.fn 80 [.box 1000000 0,.box 1000001 0,.box 1000002 0]))),(2,vX 2),(4,vX 4),(5,vX 5),(6,vO 5002),(8,vX 8),(9,vO 23),(15,.u (.one (dR1 t.Nodes))),(16,vI (b9 t.Nodes)),(17,vI a),(24,vO 23),(25,vI (b9 y)),(26,vI a1)] [(2,.box [dI t.States,dR2 t.Hood,dR1 t.Nodes]),(4,.box [dI 0,.d .nil,.d .nil]),(5,.box [.own 5000,.map 12]),(8,.box [dI x.Level,dL x.Next]),(12,mOb .str kS (uL (L.int .i64)) mp),(23,.row 1 3 (List.map (rI .i64) aG)),(5000,.row 2 50 (List.map Node.row l)),(5002,.row 1 3 (List.map (rI .i64) to_)),(1000000,.box [dI aA,dR2 aI,dR1 aC]),(1000001,.box [dI cv]),(1000002,.box [dI cv1])] ?_ fun Z O hf=>?_
  ·replace hm:=j8
   clear j8
   refine b7 ?_
   refine srs hn ?_
   obtain⟨x1,h5,hm⟩:=bnd hm
   simp -dsimp [hf,c4,h5,df h5]
   refine srs hn ?_
   simp -dsimp [hf]
   rcases bc hm with ⟨c6,hm⟩ | ⟨c6,hm⟩
   ·refine aW (by simp -dsimp) c6 ?_
    refine sr1 hn ?_
    obtain⟨x2,h7,hm⟩:=bnd hm
    simp -dsimp [hf,h5,df h5,c6,h7,df h7,rsetI .i64 next a1.toNat x2]
    refine bI ?_
    cases hm
    exact EE.here (by simp -dsimp [hf])
   ·refine aV (by simp -dsimp) c6 ?_
    refine aY ?_
    refine bI ?_
    cases hm
    exact EE.here (by simp -dsimp [hf,c6])
  ·clear j8
   simp only[Fits,bv,bu,and_true] at hf
   refine sr1 hn ?_
   simp -dsimp [hf]
   cases hm
   refine bC ?_
   exact EE.here (by simp -dsimp [hf])
 ·refine aV (by simp -dsimp) c4 ?_
  refine bp ?_
  refine b8 ?_
  cases hm
  refine bz nofun ?_
  exact⟨rfl,EE.here (by simp -dsimp [hf,c4])⟩
def cL (cx:Cx) (t:Tree) (aA:Int) (aI:List Point) (aC:List Node) (cv cv1:Int) (tt:((List (List UInt8×Int))×(List Node)×(List Int))) (ee:Exit) (Z:Env) (O:Sto):Prop:=match tt with
 | (mp,l,to_)=>ee=.exit 0/\EE cx (bY [(2,vX 2),(4,vX 4),(5,vX 5),(6,vO 5002)] [(2,.box [dI t.States,dR2 t.Hood,dR1 t.Nodes]),(4,.box [dI 0,.d .nil,.d .nil]),(5,.box [.own 5000,.map 12]),(12,mOb .str kS (uL (L.int .i64)) mp),(5000,.row 2 50 (List.map Node.row l)),(5002,.row 1 3 (List.map (rI .i64) to_)),(1000000,.box [dI aA,dR2 aI,dR1 aC]),(1000001,.box [dI cv]),(1000002,.box [dI cv1])]) Z O
set_option maxHeartbeats 1000000 in
theorem ji (cx:Cx) (hn:cx.n=69) (hk:cx.k=3) (t:Tree) (aA:Int) (aI:List Point) (aC:List Node) (cv cv1:Int) {fu:Nat} {stt:Int×(List (List UInt8×Int))×(List Node)×(List Int)} {tt:((List (List UInt8×Int))×(List Node)×(List Int))} (hh:bh (dA t aA aI aC cv cv1) fu stt=some tt) {Z:Env} {O:Sto}
  (hE:cw (fun stt:Int×(List (List UInt8×Int))×(List Node)×(List Int)=>match stt with | (a,_mp,_l,_to_)=>[(1,.u (.one (.fn 80 [.box 1000000 0,.box 1000001 0,.box 1000002 0]))),(2,vX 2),(4,vX 4),(5,vX 5),(6,vO 5002),(15,.u (.one (dR1 t.Nodes))),(16,vI (b9 t.Nodes)),(17,vI a)]) (fun stt:Int×(List (List UInt8×Int))×(List Node)×(List Int)=>match stt with | (_a,mp,l,to_)=>[(2,.box [dI t.States,dR2 t.Hood,dR1 t.Nodes]),(4,.box [dI 0,.d .nil,.d .nil]),(5,.box [.own 5000,.map 12]),(12,mOb .str kS (uL (L.int .i64)) mp),(5000,.row 2 50 (List.map Node.row l)),(5002,.row 1 3 (List.map (rI .i64) to_)),(1000000,.box [dI aA,dR2 aI,dR1 aC]),(1000001,.box [dI cv]),(1000002,.box [dI cv1])]) stt Z O):Swp Tryz.prog cx (.loop (dx [1,1,1,0,1,0,0] (bQ Tryz.f64))) Z O (cL cx t aA aI aC cv cv1 tt):=by
 refine cz hE hh (cL cx t aA aI aC cv cv1) ?_
 rintro⟨a,mp,l,to_⟩ r hm Z O hf
 simp only[Fits,bv,bu,and_true] at hf
 unfold dA at hm
 dsimp only at hm
 refine srs hn ?_
 simp -dsimp [hf]
 refine aZ ?_
 rcases bc hm with ⟨c1,hm⟩ | ⟨c1,hm⟩
 ·refine aW (by simp -dsimp) c1 ?_
  refine aY (aU (aZ (b7 ?_)))
  refine srs hn ?_
  obtain⟨x,h2,hm⟩:=bnd hm
  simp -dsimp [hf,c1,h2]
  refine srs hn ?_
  obtain⟨y,h3,hm⟩:=bnd hm
  simp -dsimp
  refine callL_new (el x.Next y h3) (dkL hn) (by decide) ?_
  simp -dsimp
  refine aZ ?_
  refine srs hn ?_
  simp -dsimp
  refine b7 ?_
  obtain⟨next,g9,hm⟩:=bnd hm
  refine bP (jp cx hn hk t aA aI aC cv cv1 a mp l to_ x y g9) (by
    try dsimp only
    exact EE.here (by simp -dsimp [hf])
  ) fun ee Z O xx=>?_
  unfold cK at xx
  dsimp only at xx
  obtain⟨rfl,xx⟩:=xx
  refine br ?_
  refine aU ?_
  refine see xx fun Z O hf=>?_
  simp only[Fits,bv,bu,and_true] at hf
  refine sw_midc bL mixed 7 9 10 0 [[0,1,2],[0]] [[],[5001]] [true] none (by rw[hn]; kernel_rfl) fb ?_
  dsimp only [List.take,List.drop,gL,gU,jx,pk,List.cons_append,List.nil_append,List.flatten_cons,List.flatten_nil,eJ,eK,List.append_nil]
  obtain⟨y1,h10,hm⟩:=bnd hm
  simp -dsimp [hf]
  refine lN (oM x.Level next aA aI aC cv cv1 y1 h10) [23,1000000,1000001,1000002] [] rfl rfl rfl (by simp -dsimp) rfl (by simp -dsimp [hf]) (by first | rfl | simp) rfl (dkL hn) rfl rfl (by simp) nofun (by simp) ?_
  obtain⟨y2,h11,hm⟩:=bnd hm
  simp -dsimp [hf]
  refine lN (mQ l mp x.Level y1 y2 h11) [5,5000,12,23] [5001] rfl rfl rfl (by simp -dsimp) rfl (by simp -dsimp [hf]) (by first | rfl | simp) rfl (dkL hn) rfl rfl (by simp) nofun (by simp) ?_
  obtain⟨l1,h12,hm⟩:=bnd hm
  obtain⟨h12a,h12e⟩:=ct h12
  replace h12e:=h12e.symm
  subst h12e
  try simp only[List.length_cons,List.length_nil,Nat.zero_add] at h12a
  simp -dsimp [hf,h12a]
  refine bI ?_
  refine aU ?_
  refine sr1 hn ?_
  simp -dsimp [hf]
  cases hm
  refine bC ?_
  refine emv 52 5002 ?_
  refine emv 5001 5000 ?_
  exact EE.here (by simp -dsimp [hf])
 ·refine aV (by simp -dsimp) c1 ?_
  refine bp ?_
  refine b8 ?_
  cases hm
  refine bz nofun ?_
  exact⟨rfl,EE.here (by simp -dsimp [hf,c1])⟩
set_option maxHeartbeats 1000000 in
theorem jA (t:Tree) (aA:Int) (aI:List Point) (aC:List Node) (cv cv1:Int) (r:(List Point)×(List Node)) (hm:dQ t aA aI aC cv cv1=some r):GFn Tryz.prog 64 [.u (.agg [dI t.States,dR2 t.Hood,dR1 t.Nodes]),.u (.one (.fn 80 [.box 1000000 0,.box 1000001 0,.box 1000002 0]))] [.box [dI aA,dR2 aI,dR1 aC],.box [dI cv],.box [dI cv1]] (.u (.agg [dI t.States,dR2 r.1,dR1 r.2])) [some (.box [dI aA,dR2 aI,dR1 aC]),some (.box [dI cv]),some (.box [dI cv1])]:=by
 refine dj bL _ Tryz.func64 rfl (by kernel_rfl) (by simp[Tryz.ntmps64]) (by simp) (by first | rfl | simp) (by first | rfl | simp) fun cx hn hk=>?_
 replace hn:cx.n=69:=hn.trans Tryz.ntmps64
 replace hk:cx.k=3:=hk
 unfold dQ at hm
 refine srs hn ?_
 simp -dsimp
 refine srs hn ?_
 simp -dsimp [(@id (Ob.map .str []=mOb .str kS (uL (L.int .i64)) ([]:List (List UInt8×Int))) (mOb_nil .str kS (uL (L.int .i64))))]
 refine srs hn ?_
 simp -dsimp
 refine aZ ?_
 refine srs hn ?_
 simp -dsimp
 refine b7 ?_
 obtain⟨⟨mp,l,to_⟩,g13,hm⟩:=bnd hm
 refine bP (ji cx hn hk t aA aI aC cv cv1 g13) (by
   try dsimp only
   refine EE.step (Wk.own0 6 5002 1 3 (by simp -dsimp) (by decide)) ?_
   refine EE.step (Wk.own0b 5 0 5000 2 50 [.d .nil,.map 12] (by simp -dsimp) (by rfl) (by decide) (by decide)) ?_
   exact EE.here (by simp -dsimp)
 ) fun ee Z O xx=>?_
 unfold cL at xx
 dsimp only at xx
 obtain⟨rfl,xx⟩:=xx
 refine br ?_
 refine aU ?_
 refine see xx fun Z O hf=>?_
 simp only[Fits,bv,bu,and_true] at hf
 refine Swp.pre (Wk.frz 5000 2 50 (List.map Node.row l) (by simp -dsimp [hf])) ?_
 refine sw_drNs bL mixed 14 (by rw[hn]; kernel_rfl) ?_
 dsimp only [List.take,List.drop]
 obtain⟨y,h14,hm⟩:=bnd hm
 simp -dsimp [hf]
 refine bn (fR t.Hood y h14) ?_
 obtain⟨x,h15,hm⟩:=bnd hm
 obtain⟨y1,h16,hm⟩:=bnd hm
 simp -dsimp [hf,h15,df h15]
 refine bn (nS l x y1 h16) ?_
 simp -dsimp [hf]
 cases hm
 exact b0 ⟨.inr rfl,EE.here (by simp -dsimp [hf])⟩
end
theorem c_reduce_Fix (t:Tree) (k s:Int) (r:Tree×Int) (hm:ot t k s=some r):bg Tryz.prog 67 [.u (.agg [dI t.States,dR2 t.Hood,dR1 t.Nodes]),vI k,vI s] (.tup [.agg [dI r.1.States,dR2 r.1.Hood,dR1 r.1.Nodes],.one (dI r.2)]):=by
 refine dG Tryz.func67 Tryz.ntmps67 fun cx hn=>?_
 unfold ot at hm
 refine srs hn ?_
 simp -dsimp
 refine aZ (b7 ?_)
 refine srs hn ?_
 obtain⟨y,h1,hm⟩:=bnd hm
 simp -dsimp
 refine bi (lV t y h1) (dkL hn) ?_
 simp -dsimp
 rcases bc hm with ⟨c2,hm⟩ | ⟨c2,hm⟩
 ·refine aW (by simp -dsimp) c2 ?_
  refine srs hn ?_
  simp -dsimp [c2]
  refine b0 (cy (b8 ?_))
  cases hm
  refine⟨.inr rfl,?_⟩
  exact EE.here (by simp -dsimp)
 ·refine aV (by simp -dsimp) c2 ?_
  obtain⟨a,j9,hm⟩:=bnd hm
  refine scE [(3,vX 3),(4,vX 4),(5,vX 5),(6,vX 6),(13,vT a)] [(3,.box [dI t.States,dR2 t.Hood,dR1 t.Nodes]),(4,.box [dI k]),(5,.box [dI s]),(6,.box [dI 0,.d .nil,.d .nil])] ?_ fun Z O hf=>?_
  ·replace hm:=j9
   clear j9
   refine sr1 hn ?_
   rcases bc hm with ⟨c3,hm⟩ | ⟨c3,hm⟩
   ·simp -dsimp [c2,c3]
    cases hm
    exact EE.here (by simp -dsimp)
   ·simp -dsimp [c2,c3]
    cases hm
    exact EE.here (by simp -dsimp)
  ·clear j9
   simp only[Fits,bv,bu,and_true] at hf
   rcases bc hm with ⟨c4,hm⟩ | ⟨c4,hm⟩
   ·refine aW (by simp -dsimp [hf]) c4 ?_
    refine srs hn ?_
    simp -dsimp [hf]
    refine b0 (cy (b8 ?_))
    cases hm
    refine⟨.inr rfl,?_⟩
    exact EE.here (by simp -dsimp [hf])
   ·refine aV (by simp -dsimp [hf]) c4 ?_
    obtain⟨a1,j8,hm⟩:=bnd hm
    refine scE [(3,vX 3),(4,vX 4),(5,vX 5),(6,vX 6),(24,vT a1)] [(3,.box [dI t.States,dR2 t.Hood,dR1 t.Nodes]),(4,.box [dI k]),(5,.box [dI s]),(6,.box [dI 0,.d .nil,.d .nil])] ?_ fun Z O hf=>?_
    ·replace hm:=j8
     clear j8
     refine sr1 hn ?_
     rcases bc hm with ⟨c5,hm⟩ | ⟨c5,hm⟩
     ·simp -dsimp [hf,c5]
      cases hm
      exact EE.here (by simp -dsimp [hf])
     ·simp -dsimp [hf,c5]
      cases hm
      exact EE.here (by simp -dsimp [hf])
    ·clear j8
     simp only[Fits,bv,bu,and_true] at hf
     rcases bc hm with ⟨c6,hm⟩ | ⟨c6,hm⟩
     ·refine aW (by simp -dsimp [hf]) c6 ?_
      refine srs hn ?_
      simp -dsimp [hf]
      refine b0 (cy (b8 ?_))
      cases hm
      refine⟨.inr rfl,?_⟩
      exact EE.here (by simp -dsimp [hf])
     ·refine aV (by simp -dsimp [hf]) c6 ?_
      refine aY ?_
      refine bI ?_
      refine aU ?_
      refine srs hn ?_
      obtain⟨y1,h7,hm⟩:=bnd hm
      simp -dsimp [hf]
      refine clg (jA t t.States t.Hood t.Nodes k s y1 h7) [3,4,5] [] (by simp -dsimp [hf]) (dkL hn) ?_
      simp -dsimp [hf]
      cases hm
      exact b0 ⟨.inr rfl,EE.here (by simp -dsimp [hf])⟩
def dS (cx:Cx) (ab:Int) (ah:List (List Int)) (aa:Int) (ag:List Point) (ae:List Node) (ak:Int) (ai:List (List UInt8×Tree)) (in_:List Ba) (tt:(List Int)) (ee:Exit) (Z:Env) (O:Sto):Prop:=match tt with
 | keyv=>ee=.exit 0/\EE cx (bY [(0,vX 1000000),(1,vO 1000003),(4,vX 4),(5,vO 5000)] [(4,.box [dI 0,.d .nil,.d .nil]),(5000,.row 1 5 (List.map (rI .u8) keyv)),(1000000,.box [dI ab,.own 1000001,dI aa,dR2 ag,dR1 ae,dI ak,.map 1000002]),(1000001,.row 1 26 (List.map (rS 1 (rI .i64)) ah)),(1000002,mOb .str kS (uA Tree.row) ai),(1000003,.row 2 81 (List.map Ba.row in_))]) Z O
set_option maxHeartbeats 1000000 in
theorem lB (cx:Cx) (hn:cx.n=73) (_hk:cx.k=4) (ab:Int) (ah:List (List Int)) (aa:Int) (ag:List Point) (ae:List Node) (ak:Int) (ai:List (List UInt8×Tree)) (in_:List Ba) {fu:Nat} {stt:Int×(List Int)} {tt:(List Int)} (hh:bh (fj ab ah aa ag ae ak ai in_) fu stt=some tt) {Z:Env} {O:Sto}
  (hE:cw (fun stt:Int×(List Int)=>match stt with | (a,_keyv)=>[(0,vX 1000000),(1,vO 1000003),(4,vX 4),(5,vO 5000),(13,vO 1000003),(14,vI (b9 in_)),(15,vI a)]) (fun stt:Int×(List Int)=>match stt with | (_a,keyv)=>[(4,.box [dI 0,.d .nil,.d .nil]),(5000,.row 1 5 (List.map (rI .u8) keyv)),(1000000,.box [dI ab,.own 1000001,dI aa,dR2 ag,dR1 ae,dI ak,.map 1000002]),(1000001,.row 1 26 (List.map (rS 1 (rI .i64)) ah)),(1000002,mOb .str kS (uA Tree.row) ai),(1000003,.row 2 81 (List.map Ba.row in_))]) stt Z O):Swp Tryz.prog cx (.loop (dx [1,1,0,1,0,0] (bQ Tryz.f50))) Z O (dS cx ab ah aa ag ae ak ai in_ tt):=by
 refine cz hE hh (dS cx ab ah aa ag ae ak ai in_) ?_
 rintro⟨a,keyv⟩ r hm Z O hf
 simp only[Fits,bv,bu,and_true] at hf
 unfold fj at hm
 dsimp only at hm
 refine srs hn ?_
 simp -dsimp [hf]
 refine aZ ?_
 rcases bc hm with ⟨c1,hm⟩ | ⟨c1,hm⟩
 ·refine aW (by simp -dsimp) c1 ?_
  refine aY (aU (aZ (b7 ?_)))
  refine srs hn ?_
  obtain⟨x,h2,hm⟩:=bnd hm
  simp -dsimp [hf,c1,h2,df h2]
  refine srs hn ?_
  simp -dsimp
  obtain⟨k,j5,hm⟩:=bnd hm
  refine scE [(0,vX 1000000),(1,vO 1000003),(4,vX 4),(5,vO 5000),(8,.u (.one (.d (.int .u8 k)))),(13,vO 1000003),(14,vI (b9 in_)),(15,vI a)] [(4,.box [dI 0,.d .nil,.d .nil]),(5000,.row 1 5 (List.map (rI .u8) keyv)),(1000000,.box [dI ab,.own 1000001,dI aa,dR2 ag,dR1 ae,dI ak,.map 1000002]),(1000001,.row 1 26 (List.map (rS 1 (rI .i64)) ah)),(1000002,mOb .str kS (uA Tree.row) ai),(1000003,.row 2 81 (List.map Ba.row in_))] ?_ fun Z O hf=>?_
  ·replace hm:=j5
   clear j5
   refine srs hn ?_
   simp -dsimp
   rcases bc hm with ⟨c3,hm⟩ | ⟨c3,hm⟩
   ·refine aW (by simp -dsimp) c3 ?_
    refine sr1 hn ?_
    simp -dsimp [c3]
    cases hm
    exact EE.here (by simp -dsimp [hf])
   ·refine aV (by simp -dsimp) c3 ?_
    refine aY (aU ?_)
    cases hm
    exact EE.here (by simp -dsimp [hf,c3])
  ·clear j5
   simp only[Fits,bv,bu,and_true] at hf
   refine sr1 hn ?_
   obtain⟨l,h4,hm⟩:=bnd hm
   obtain⟨h4a,h4e⟩:=ct h4
   replace h4e:=h4e.symm
   subst h4e
   try simp only[List.length_cons,List.length_nil,Nat.zero_add] at h4a
   try simp only[Nat.mul_one,Nat.reduceLeDiff] at h4a
   simp -dsimp [hf,h4a]
   refine bI ?_
   refine aU ?_
   refine sr1 hn ?_
   simp -dsimp [hf]
   cases hm
   refine bC ?_
   refine emv 28 5000 ?_
   exact EE.here (by simp -dsimp [hf])
 ·refine aV (by simp -dsimp) c1 ?_
  refine bp ?_
  refine b8 ?_
  cases hm
  refine bz nofun ?_
  exact⟨rfl,EE.here (by simp -dsimp [hf,c1])⟩
def dU (cx:Cx) (ab:Int) (ah:List (List Int)) (aa:Int) (ag:List Point) (ae:List Node) (ak:Int) (ai:List (List UInt8×Tree)) (in_:List Ba) (keyv:List Int) (_u:Unit) (tt:(Int×(List Point)×(List Node))) (ee:Exit) (Z:Env) (O:Sto):Prop:=match tt with
 | (az,aF,aB)=>ee=.exit 2/\EE cx (bY [(0,vX 1000000),(4,vX 4),(5,vO 5000),(9,vX 9)] [(4,.box [dI 0,.d .nil,.d .nil]),(9,.box [dI az,dR2 aF,dR1 aB]),(5000,.row 1 5 (List.map (rI .u8) keyv)),(1000000,.box [dI ab,.own 1000001,dI aa,dR2 ag,dR1 ae,dI ak,.map 1000002]),(1000001,.row 1 26 (List.map (rS 1 (rI .i64)) ah)),(1000002,mOb .str kS (uA Tree.row) ai),(1000003,.row 2 81 (List.map Ba.row in_))]) Z O
set_option maxHeartbeats 1000000 in
theorem ly (cx:Cx) (hn:cx.n=73) (_hk:cx.k=4) (ab:Int) (ah:List (List Int)) (aa:Int) (ag:List Point) (ae:List Node) (ak:Int) (ai:List (List UInt8×Tree)) (in_:List Ba) (keyv:List Int) (u:Unit) {fu:Nat} {stt:Int×Int×(List Point)×(List Node)} {tt:(Int×(List Point)×(List Node))} (hh:bh (fh ab ah aa ag ae ak ai in_ keyv u) fu stt=some tt) {Z:Env} {O:Sto}
  (hE:cw (fun stt:Int×Int×(List Point)×(List Node)=>match stt with | (a,_az,_aF,_aB)=>[(0,vX 1000000),(4,vX 4),(5,vO 5000),(9,vX 9),(46,vO 1000003),(47,vI (b9 in_)),(48,vI a)]) (fun stt:Int×Int×(List Point)×(List Node)=>match stt with | (_a,az,aF,aB)=>[(4,.box [dI 0,.d .nil,.d .nil]),(9,.box [dI az,dR2 aF,dR1 aB]),(5000,.row 1 5 (List.map (rI .u8) keyv)),(1000000,.box [dI ab,.own 1000001,dI aa,dR2 ag,dR1 ae,dI ak,.map 1000002]),(1000001,.row 1 26 (List.map (rS 1 (rI .i64)) ah)),(1000002,mOb .str kS (uA Tree.row) ai),(1000003,.row 2 81 (List.map Ba.row in_))]) stt Z O):Swp Tryz.prog cx (.loop (dx [1,1,1,1,0,1,0,1,0,1,0,0] (bQ Tryz.f50))) Z O (dU cx ab ah aa ag ae ak ai in_ keyv u tt):=by
 refine cz hE hh (dU cx ab ah aa ag ae ak ai in_ keyv u) ?_
 rintro⟨a,az,aF,aB⟩ r hm Z O hf
 simp only[Fits,bv,bu,and_true] at hf
 unfold fh at hm
 dsimp only at hm
 refine srs hn ?_
 simp -dsimp [hf]
 refine aZ ?_
 rcases bc hm with ⟨c10,hm⟩ | ⟨c10,hm⟩
 ·refine aW (by simp -dsimp) c10 ?_
  refine aY (aU ?_)
  obtain⟨⟨aS,tHood1,tNodes1⟩,j14,hm⟩:=bnd hm
  refine scE [(0,vX 1000000),(4,vX 4),(5,vO 5000),(9,vX 9),(46,vO 1000003),(47,vI (b9 in_)),(48,vI a)] [(4,.box [dI 0,.d .nil,.d .nil]),(9,.box [dI aS,dR2 tHood1,dR1 tNodes1]),(5000,.row 1 5 (List.map (rI .u8) keyv)),(1000000,.box [dI ab,.own 1000001,dI aa,dR2 ag,dR1 ae,dI ak,.map 1000002]),(1000001,.row 1 26 (List.map (rS 1 (rI .i64)) ah)),(1000002,mOb .str kS (uA Tree.row) ai),(1000003,.row 2 81 (List.map Ba.row in_))] ?_ fun Z O hf=>?_
  ·replace hm:=j14
   clear j14
   refine b7 ?_
   refine srs hn ?_
   obtain⟨x,h11,hm⟩:=bnd hm
   simp -dsimp [hf,c10,h11,df h11]
   refine srs hn ?_
   simp -dsimp
   rcases bc hm with ⟨c12,hm⟩ | ⟨c12,hm⟩
   ·refine aW (by simp -dsimp) c12 ?_
    refine sr1 hn ?_
    obtain⟨y,h13,hm⟩:=bnd hm
    simp -dsimp [hf,c12]
    refine bi (c_reduce_Fix (⟨az,aF,aB⟩:Tree) a x.constant y h13) (dkL hn) ?_
    simp -dsimp [hf]
    refine bI ?_
    cases hm
    exact EE.here (by simp -dsimp [hf])
   ·refine aV (by simp -dsimp) c12 ?_
    refine aY ?_
    refine bI ?_
    cases hm
    exact EE.here (by simp -dsimp [hf,c12])
  ·clear j14
   simp only[Fits,bv,bu,and_true] at hf
   refine sr1 hn ?_
   simp -dsimp [hf]
   cases hm
   refine bC ?_
   exact EE.here (by simp -dsimp [hf])
 ·refine aV (by simp -dsimp) c10 ?_
  refine bp ?_
  refine b8 ?_
  cases hm
  refine bz nofun ?_
  exact⟨rfl,EE.here (by simp -dsimp [hf,c10])⟩
set_option maxHeartbeats 1000000 in
theorem mo (ab:Int) (ah:List (List Int)) (aa:Int) (ag:List Point) (ae:List Node) (ak:Int) (ai:List (List UInt8×Tree)) (in_:List Ba) (r:Int×(List Point)×(List Node)×(List (List UInt8×Tree))) (hm:eu ab ah aa ag ae ak ai in_=some r):GFn Tryz.prog 50 [vX 1000000,vO 1000003] [.box [dI ab,.own 1000001,dI aa,dR2 ag,dR1 ae,dI ak,.map 1000002],.row 1 26 (List.map (rS 1 (rI .i64)) ah),mOb .str kS (uA Tree.row) ai,.row 2 81 (List.map Ba.row in_)] (.u (.agg [dI r.1,dR2 r.2.1,dR1 r.2.2.1])) [some (.box [dI ab,.own 1000001,dI aa,dR2 ag,dR1 ae,dI ak,.map 1000002]),some (.row 1 26 (List.map (rS 1 (rI .i64)) ah)),some (mOb .str kS (uA Tree.row) r.2.2.2),some (.row 2 81 (List.map Ba.row in_))]:=by
 refine dj bL _ Tryz.func50 rfl (by kernel_rfl) (by simp[Tryz.ntmps50]) (by simp) (by first | rfl | simp) (by first | rfl | simp) fun cx hn hk=>?_
 replace hn:cx.n=73:=hn.trans Tryz.ntmps50
 replace hk:cx.k=4:=hk
 unfold eu at hm
 refine srs hn ?_
 simp -dsimp
 refine srs hn ?_
 simp -dsimp
 refine aZ ?_
 refine srs hn ?_
 simp -dsimp
 refine b7 ?_
 obtain⟨keyv,g6,hm⟩:=bnd hm
 refine bP (lB cx hn hk ab ah aa ag ae ak ai in_ g6) (by
   try dsimp only
   refine EE.step (Wk.own0 5 5000 1 5 (by simp -dsimp) (by decide)) ?_
   exact eeh
 ) fun ee Z O xx=>?_
 unfold dS at xx
 dsimp only at xx
 obtain⟨rfl,xx⟩:=xx
 refine br ?_
 refine aU ?_
 refine see xx fun Z O hf=>?_
 simp only[Fits,bv,bu,and_true] at hf
 refine k9 bL mixed 10 12 12 0 [[0,1,2,3,4,5,6,7,8,9],[9]] [[9],[]] [] none (by rw[hn]; kernel_rfl) fb ?_
 dsimp only [List.take,List.drop,gL,gU,jx,pk,List.cons_append,List.nil_append,List.flatten_cons,List.flatten_nil,eJ,eK,List.append_nil]
 obtain⟨u,h7,hm⟩:=bnd hm
 rcases bc hm with ⟨c8,hm⟩ | ⟨c8,hm⟩
 ·obtain⟨v,h9,hm⟩:=bnd hm
  simp -dsimp [hf,mm h7,(@id (lkM (nl (mOb .str kS (uA Tree.row) ai) (.str (ofBytes keyv))) true (.agg [dI 0,.d .nil,.d .nil])=some (.tup [.agg [dI v.States,dR2 v.Hood,dR1 v.Nodes],.one (.d (.bool true))])) (lk_some (kf:=kS) (vf:=(uA Tree.row)) _ h9))]
  refine aZ ?_
  refine srs hn ?_
  simp -dsimp
  refine aV (b:=false) (by simp -dsimp) rfl ?_
  refine aY (aU ?_)
  refine srs hn ?_
  simp -dsimp [hf]
  cases hm
  exact b0 ⟨.inr rfl,EE.here (by simp -dsimp [hf])⟩
 ·simp -dsimp [hf,mm h7,(@id (lkM (nl (mOb .str kS (uA Tree.row) ai) (.str (ofBytes keyv))) true (.agg [dI 0,.d .nil,.d .nil])=some (.tup [.agg [dI 0,.d .nil,.d .nil],.one (.d (.bool false))])) (lk_none (kf:=kS) (vf:=(uA Tree.row)) _ c8))]
  refine aZ ?_
  refine srs hn ?_
  simp -dsimp
  refine aW (b:=true) (by simp -dsimp) rfl ?_
  refine srs hn ?_
  simp -dsimp [hf]
  refine aZ ?_
  refine srs hn ?_
  simp -dsimp [hf]
  refine b7 ?_
  obtain⟨⟨az,aF,aB⟩,g15,hm⟩:=bnd hm
  refine bP (ly cx hn hk ab ah aa ag ae ak ai in_ keyv u g15) (by
    try dsimp only
    exact EE.here (by simp -dsimp [hf])
  ) fun ee Z O xx=>?_
  unfold dU at xx
  dsimp only at xx
  obtain⟨rfl,xx⟩:=xx
  refine br ?_
  refine aU ?_
  refine see xx fun Z O hf=>?_
  simp only[Fits,bv,bu,and_true] at hf
  refine oT bL mixed 7 (by rw[hn]; kernel_rfl) ?_
  dsimp only [List.take,List.drop]
  simp -dsimp [hf,mm h7,(@id (msetOb (mOb .str kS (uA Tree.row) ai) (.str (ofBytes keyv)) (.agg [dI az,dR2 aF,dR1 aB])=mOb .str kS (uA Tree.row) (msetL ai (ofBytes keyv) (⟨az,aF,aB⟩:Tree))) (mset_ob .str kS (uA Tree.row) ai (ofBytes keyv) (⟨az,aF,aB⟩:Tree)))]
  refine aU ?_
  refine srs hn ?_
  simp -dsimp [hf]
  cases hm
  exact b0 ⟨.inr rfl,EE.here (by simp -dsimp [hf])⟩
theorem nA (n:Int) (a:Node) (r:Bool) (hm:fg n a=some r):bg Tryz.prog 69 [vI n,.u (.one (.ref (Node.row a) 0))] (vT r):=by
 refine dG Tryz.func69 Tryz.ntmps69 fun cx hn=>?_
 unfold fg at hm
 refine srs hn ?_
 simp -dsimp
 refine srs hn ?_
 obtain⟨x,h1,hm⟩:=bnd hm
 simp -dsimp [h1]
 cases hm
 exact b0 ⟨.inr rfl,EE.here (by simp -dsimp)⟩
def bD (cx:Cx) (_s:List Int) (_cv:Node) (tt:Int ⊕ Unit) (ee:Exit) (Z:Env) (O:Sto):Prop:=match tt with
 | .inl r=>ee=.ret/\EE cx (fun Z O=>∃ v,iR tb Z O Tryz.f46.results.toList=some v/\(v.frz O).free=true/\(v.frz O).wk (vI r)) Z O
 | .inr _u=>ee=.exit 0/\EE cx (bY [] []) Z O
theorem fG (cx:Cx) (hn:cx.n=19) (s:List Int) (cv:Node) {fu:Nat} {stt:Int} {tt:Int ⊕ Unit} (hh:bh (bE s cv) fu stt=some tt) {Z:Env} {O:Sto}
  (hE:cw (fun a:Int=>[(0,.u (.one (dL s))),(1,.u (.one (.fn 69 [.ref (Node.row cv) 0]))),(7,vI (b9 s)),(8,vI a)]) (fun _a:Int=>[]) stt Z O):Swp Tryz.prog cx (.loop (dx [1,0,1,0,0] (bQ Tryz.f46))) Z O (bD cx s cv tt):=by
 refine cz hE hh (bD cx s cv) ?_
 rintro a r hm Z O hf
 simp only[Fits,bv,bu,and_true] at hf
 unfold bE at hm
 dsimp only at hm
 refine srs hn ?_
 simp -dsimp [hf]
 refine aZ ?_
 rcases bc hm with ⟨c1,hm⟩ | ⟨c1,hm⟩
 ·refine aW (by simp -dsimp) c1 ?_
  refine aY (aU (aZ (b7 ?_)))
  refine srs hn ?_
  simp -dsimp [hf,c1]
  refine srs hn ?_
  obtain⟨x,h2,hm⟩:=bnd hm
  obtain⟨y,h3,hm⟩:=bnd hm
  simp -dsimp [hf,h2]
  refine bi (nA x cv y h3) (dkL hn) ?_
  simp -dsimp
  rcases bc hm with ⟨c4,hm⟩ | ⟨c4,hm⟩
  ·refine aW (by simp -dsimp) c4 ?_
   refine srs hn ?_
   simp -dsimp [c4]
   refine b0 (cy (b8 ?_))
   cases hm
   refine bz nofun ?_
   exact⟨rfl,EE.here (by simp -dsimp [Tryz.results46])⟩
  ·refine aV (by simp -dsimp) c4 ?_
   refine aY ?_
   refine bI ?_
   refine aU ?_
   refine sr1 hn ?_
   simp -dsimp [hf,c4]
   cases hm
   refine bC ?_
   exact EE.here (by simp -dsimp [hf])
 ·refine aV (by simp -dsimp) c1 ?_
  refine bp ?_
  refine b8 ?_
  cases hm
  refine bz nofun ?_
  exact⟨rfl,EE.here (by simp -dsimp [c1])⟩
theorem ga (s:List Int) (cv:Node) (r:Int) (hm:ca s cv=some r):bg Tryz.prog 46 [.u (.one (dL s)),.u (.one (.fn 69 [.ref (Node.row cv) 0]))] (vI r):=by
 refine dG Tryz.func46 Tryz.ntmps46 fun cx hn=>?_
 unfold ca at hm
 refine srs hn ?_
 simp -dsimp
 refine aZ ?_
 refine srs hn ?_
 simp -dsimp
 refine b7 ?_
 obtain⟨o_,g5,hm⟩:=bnd hm
 refine bP (fG cx hn s cv g5) (by
   try dsimp only
   exact eeh
 ) fun ee Z O xx=>?_
 rcases o_ with r | _u
 ·unfold bD at xx
  dsimp only at xx
  obtain⟨rfl,xx⟩:=xx
  refine cy (b8 ?_)
  cases hm
  exact⟨.inr rfl,xx⟩
 ·unfold bD at xx
  dsimp only at xx
  obtain⟨rfl,xx⟩:=xx
  refine br ?_
  refine aU ?_
  refine see xx fun Z O hf=>?_
  simp only[Fits,bv,bu,and_true] at hf
  refine srs hn ?_
  simp -dsimp
  cases hm
  exact b0 ⟨.inr rfl,EE.here (by simp -dsimp)⟩
theorem fD (s:List Int) (cv:Node) (r:Bool) (hm:bH s cv=some r):bg Tryz.prog 19 [.u (.one (dL s)),.u (.one (.fn 69 [.ref (Node.row cv) 0]))] (vT r):=by
 refine dG Tryz.func19 Tryz.ntmps19 fun cx hn=>?_
 unfold bH at hm
 refine srs hn ?_
 simp -dsimp
 refine srs hn ?_
 obtain⟨y,h1,hm⟩:=bnd hm
 simp -dsimp
 refine bi (ga s cv y h1) (dkL hn) ?_
 simp -dsimp
 cases hm
 exact b0 ⟨.inr rfl,EE.here (by simp -dsimp)⟩
theorem iN (s aT:Int) (aNext:List Int) (a:List Ba) (r:Int×(List Int)) (hm:cd s aT aNext a=some r):GFn Tryz.prog 68 [vI s,vX 1000000,vX 1000001] [.box [dI aT,dL aNext],.box [.own 1000002],.row 2 81 (List.map Ba.row a)] (.u (.agg [dI r.1,.d (pnil 1 (List.map (rI .i64) r.2))])) [some (.box [dI aT,dL aNext]),some (.box [.own 1000002]),some (.row 2 81 (List.map Ba.row a))]:=by
 refine dj bL _ Tryz.func68 rfl (by kernel_rfl) (by simp[Tryz.ntmps68]) (by simp) (by first | rfl | simp) (by first | rfl | simp) fun cx hn hk=>?_
 replace hn:cx.n=22:=hn.trans Tryz.ntmps68
 replace hk:cx.k=3:=hk
 unfold cd at hm
 refine srs hn ?_
 simp -dsimp
 refine aZ ?_
 refine srs hn ?_
 simp -dsimp
 rcases bc hm with ⟨c1,hm⟩ | ⟨c1,hm⟩
 ·refine sct c1 ?_
  refine srs hn ?_
  obtain⟨x,h2,hm⟩:=bnd hm
  simp -dsimp [c1,h2]
  refine b0 (b8 ?_)
  cases hm
  refine⟨.inr rfl,?_⟩
  exact EE.here (by simp -dsimp)
 ·refine scf c1 ?_
  refine aY (aU ?_)
  refine sw_drNs bL mixed 6 (by rw[hn]; kernel_rfl) ?_
  dsimp only [List.take,List.drop]
  obtain⟨x,h3,hm⟩:=bnd hm
  obtain⟨x1,h4,hm⟩:=bnd hm
  simp -dsimp [c1,h3,h4,df h4]
  cases hm
  exact b0 ⟨.inr rfl,EE.here (by simp -dsimp)⟩
theorem lZ (ab:Int) (ah:List (List Int)) (aa:Int) (ag:List Point) (ae:List Node) (ak:Int) (ai:List (List UInt8×Tree)) (l:List Int) (r:Unit) (hm:dl ab ah aa ag ae ak ai l=some r):GFn Tryz.prog 26 [vX 1000000,vO 1000003] [.box [dI ab,.own 1000001,dI aa,dR2 ag,dR1 ae,dI ak,.map 1000002],.row 1 26 (List.map (rS 1 (rI .i64)) ah),mOb .str kS (uA Tree.row) ai,.row 1 3 (List.map (rI .i64) l)] (.tup []) [some (.box [dI ab,.own 1000004,dI aa,dR2 ag,dR1 ae,dI ak,.map 1000002]),none,some (mOb .str kS (uA Tree.row) ai),none,some (.row 1 26 (List.map (rS 1 (rI .i64)) (ah++[l])))]:=by
 refine dj bL _ Tryz.func26 rfl (by kernel_rfl) (by simp[Tryz.ntmps26]) (by simp) (by first | rfl | simp) (by first | rfl | simp) fun cx hn hk=>?_
 replace hn:cx.n=16:=hn.trans Tryz.ntmps26
 replace hk:cx.k=4:=hk
 unfold dl at hm
 refine Swp.pre (Wk.frz 1000003 1 3 (List.map (rI .i64) l) (by simp -dsimp)) ?_
 refine sr1 hn ?_
 obtain⟨l1,h1,hm⟩:=bnd hm
 obtain⟨h1a,h1e⟩:=ct h1
 replace h1e:=h1e.symm
 subst h1e
 try simp only[List.length_cons,List.length_nil,Nat.zero_add] at h1a
 simp -dsimp [h1a]
 cases hm
 try refine⟨.inl rfl,?_⟩
 refine emr 12 1000004 hk ?_
 exact EE.here (by simp -dsimp)
end Go.Proofs.YtlifofijgddjkacGreatDoor
