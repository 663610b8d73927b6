/- That the code does what the functions say (made by cc.py). -/
import Derived.Test.YtjlckgeecihpbaaGreatDoorWa3
namespace Go.Proofs.YtjlckgeecihpbaaGreatDoor
open Go.AM Go.Proofs
set_option maxRecDepth 100000
attribute [-simp] ey eY i7 Ob.wipe Ob.ren Ob.frz1
section
attribute [-simp] List.map_set List.set_set
def dK (cx:Cx) (t:Tree) (aB:Int) (aL:List Point) (aE:List Node) (cv cv1 a:Int) (mp:List (List UInt8×Int)) (l:List Node) (to_:List Int) (x:Node) (_y:List Int) (tt:(List Int)) (ee:Exit) (Z:Env) (O:Sto):Prop:=match tt with
 | next=>ee=.exit 2/\EE cx (bH [(1,.u (.one (.fn 101 [.box 1000000 0,.box 1000001 0,.box 1000002 0]))),(2,vX 2),(4,vX 4),(5,vX 5),(6,vO 5002),(8,vX 8),(9,vO 23),(15,.u (.one (dR1 t.Nodes))),(16,vI (b8 t.Nodes)),(17,vI a)] [(2,.box [dI t.States,dR2 t.Hood,dR1 t.Nodes]),(4,.box [dI 0,.d .nil,.d .nil]),(5,.box [.own 5000,.map 12]),(8,.box [dI x.Level,dL x.Next]),(12,mOb .str kS (uL (L.int .i64)) mp),(23,.row 1 3 (List.map (rI .i64) next)),(5000,.row 2 47 (List.map Node.row l)),(5002,.row 1 3 (List.map (rI .i64) to_)),(1000000,.box [dI aB,dR2 aL,dR1 aE]),(1000001,.box [dI cv]),(1000002,.box [dI cv1])]) Z O
set_option maxHeartbeats 1000000 in
theorem jS (cx:Cx) (hn:cx.n=69) (_hk:cx.k=3) (t:Tree) (aB:Int) (aL:List Point) (aE:List Node) (cv cv1 a:Int) (mp:List (List UInt8×Int)) (l:List Node) (to_:List Int) (x:Node) (y:List Int) {fu:Nat} {stt:Int×(List Int)} {tt:(List Int)} (hh:ba (cM t aB aL aE cv cv1 a mp l to_ x y) fu stt=some tt) {Z:Env} {O:Sto}
  (hE:jk (fun stt:Int×(List Int)=>match stt with | (a1,_next)=>[(1,.u (.one (.fn 101 [.box 1000000 0,.box 1000001 0,.box 1000002 0]))),(2,vX 2),(4,vX 4),(5,vX 5),(6,vO 5002),(8,vX 8),(9,vO 23),(15,.u (.one (dR1 t.Nodes))),(16,vI (b8 t.Nodes)),(17,vI a),(24,vO 23),(25,vI (b8 y)),(26,vI a1)]) (fun stt:Int×(List Int)=>match stt with | (_a1,next)=>[(2,.box [dI t.States,dR2 t.Hood,dR1 t.Nodes]),(4,.box [dI 0,.d .nil,.d .nil]),(5,.box [.own 5000,.map 12]),(8,.box [dI x.Level,dL x.Next]),(12,mOb .str kS (uL (L.int .i64)) mp),(23,.row 1 3 (List.map (rI .i64) next)),(5000,.row 2 47 (List.map Node.row l)),(5002,.row 1 3 (List.map (rI .i64) to_)),(1000000,.box [dI aB,dR2 aL,dR1 aE]),(1000001,.box [dI cv]),(1000002,.box [dI cv1])]) stt Z O):Swp Tryz.prog cx (.loop (cC [1,1,1,0,1,0,0,1,1,0,0,1,1,0,1,0,0] (bD Tryz.f73))) Z O (dK cx t aB aL aE cv cv1 a mp l to_ x y tt):=by
 refine bN hE hh (dK cx t aB aL aE cv cv1 a mp l to_ x y) ?_
 rintro⟨a1,next⟩ r hm Z O hf
 simp only[Fits,bB,bA,and_true] at hf
 unfold cM at hm
 dsimp only at hm
 refine srs hn ?_
 simp -dsimp [hf]
 refine aZ ?_
 rcases bz hm with ⟨c4,hm⟩ | ⟨c4,hm⟩
 ·refine b9 (by simp -dsimp) c4 ?_
  refine b0 (aY ?_)
  obtain⟨aI,j8,hm⟩:=bnd hm
  refine scE [(1,.u (.one (.fn 101 [.box 1000000 0,.box 1000001 0,.box 1000002 0]))),(2,vX 2),(4,vX 4),(5,vX 5),(6,vO 5002),(8,vX 8),(9,vO 23),(15,.u (.one (dR1 t.Nodes))),(16,vI (b8 t.Nodes)),(17,vI a),(24,vO 23),(25,vI (b8 y)),(26,vI a1)] [(2,.box [dI t.States,dR2 t.Hood,dR1 t.Nodes]),(4,.box [dI 0,.d .nil,.d .nil]),(5,.box [.own 5000,.map 12]),(8,.box [dI x.Level,dL x.Next]),(12,mOb .str kS (uL (L.int .i64)) mp),(23,.row 1 3 (List.map (rI .i64) aI)),(5000,.row 2 47 (List.map Node.row l)),(5002,.row 1 3 (List.map (rI .i64) to_)),(1000000,.box [dI aB,dR2 aL,dR1 aE]),(1000001,.box [dI cv]),(1000002,.box [dI cv1])] ?_ fun Z O hf=>?_
  ·replace hm:=j8
   clear j8
   refine b7 ?_
   refine srs hn ?_
   obtain⟨x1,h5,hm⟩:=bnd hm
   simp -dsimp [hf,c4,h5,da h5]
   refine srs hn ?_
   simp -dsimp [hf]
   rcases bz hm with ⟨c6,hm⟩ | ⟨c6,hm⟩
   ·refine b9 (by simp -dsimp) c6 ?_
    refine sr1 hn ?_
    obtain⟨x2,h7,hm⟩:=bnd hm
    simp -dsimp [hf,h5,da h5,c6,h7,da h7,rsetI .i64 next a1.toNat x2]
    refine cr ?_
    cases hm
    exact EE.here (by simp -dsimp [hf])
   ·refine bf (by simp -dsimp) c6 ?_
    refine b0 ?_
    refine cr ?_
    cases hm
    exact EE.here (by simp -dsimp [hf,c6])
  ·clear j8
   exact zz
 ·exact zz
def dH (cx:Cx) (t:Tree) (aB:Int) (aL:List Point) (aE:List Node) (cv cv1:Int) (tt:((List (List UInt8×Int))×(List Node)×(List Int))) (ee:Exit) (Z:Env) (O:Sto):Prop:=match tt with
 | (mp,l,to_)=>ee=.exit 0/\EE cx (bH [(2,vX 2),(4,vX 4),(5,vX 5),(6,vO 5002)] [(2,.box [dI t.States,dR2 t.Hood,dR1 t.Nodes]),(4,.box [dI 0,.d .nil,.d .nil]),(5,.box [.own 5000,.map 12]),(12,mOb .str kS (uL (L.int .i64)) mp),(5000,.row 2 47 (List.map Node.row l)),(5002,.row 1 3 (List.map (rI .i64) to_)),(1000000,.box [dI aB,dR2 aL,dR1 aE]),(1000001,.box [dI cv]),(1000002,.box [dI cv1])]) Z O
set_option maxHeartbeats 1000000 in
theorem jN (cx:Cx) (hn:cx.n=69) (hk:cx.k=3) (t:Tree) (aB:Int) (aL:List Point) (aE:List Node) (cv cv1:Int) {fu:Nat} {stt:Int×(List (List UInt8×Int))×(List Node)×(List Int)} {tt:((List (List UInt8×Int))×(List Node)×(List Int))} (hh:ba (bM t aB aL aE cv cv1) fu stt=some tt) {Z:Env} {O:Sto}
  (hE:jk (fun stt:Int×(List (List UInt8×Int))×(List Node)×(List Int)=>match stt with | (a,_mp,_l,_to_)=>[(1,.u (.one (.fn 101 [.box 1000000 0,.box 1000001 0,.box 1000002 0]))),(2,vX 2),(4,vX 4),(5,vX 5),(6,vO 5002),(15,.u (.one (dR1 t.Nodes))),(16,vI (b8 t.Nodes)),(17,vI a)]) (fun stt:Int×(List (List UInt8×Int))×(List Node)×(List Int)=>match stt with | (_a,mp,l,to_)=>[(2,.box [dI t.States,dR2 t.Hood,dR1 t.Nodes]),(4,.box [dI 0,.d .nil,.d .nil]),(5,.box [.own 5000,.map 12]),(12,mOb .str kS (uL (L.int .i64)) mp),(5000,.row 2 47 (List.map Node.row l)),(5002,.row 1 3 (List.map (rI .i64) to_)),(1000000,.box [dI aB,dR2 aL,dR1 aE]),(1000001,.box [dI cv]),(1000002,.box [dI cv1])]) stt Z O):Swp Tryz.prog cx (.loop (cC [1,1,1,0,1,0,0] (bD Tryz.f73))) Z O (dH cx t aB aL aE cv cv1 tt):=by
 refine bN hE hh (dH cx t aB aL aE cv cv1) ?_
 rintro⟨a,mp,l,to_⟩ r hm Z O hf
 simp only[Fits,bB,bA,and_true] at hf
 unfold bM at hm
 dsimp only at hm
 refine srs hn ?_
 simp -dsimp [hf]
 refine aZ ?_
 rcases bz hm with ⟨c1,hm⟩ | ⟨c1,hm⟩
 ·refine b9 (by simp -dsimp) c1 ?_
  refine b0 (aY (aZ (b7 ?_)))
  refine srs hn ?_
  obtain⟨x,h2,hm⟩:=bnd hm
  simp -dsimp [hf,c1,h2]
  refine srs hn ?_
  obtain⟨y,h3,hm⟩:=bnd hm
  simp -dsimp
  refine callL_new (eF x.Next y h3) (dkL hn) (by decide) ?_
  simp -dsimp
  refine aZ ?_
  refine srs hn ?_
  simp -dsimp
  refine b7 ?_
  obtain⟨next,g9,hm⟩:=bnd hm
  refine bG (jS cx hn hk t aB aL aE cv cv1 a mp l to_ x y g9) (by
    try dsimp only
    exact EE.here (by simp -dsimp [hf])
  ) fun ee Z O xx=>?_
  unfold dK at xx
  dsimp only at xx
  obtain⟨rfl,xx⟩:=xx
  refine bK ?_
  refine aY ?_
  refine see xx fun Z O hf=>?_
  simp only[Fits,bB,bA,and_true] at hf
  refine sw_midc bO mixed 7 9 10 0 [[0,1,2],[0]] [[],[5001]] [true] none (by rw[hn]; kernel_rfl) ep ?_
  dsimp only [List.take,List.drop,gz,gP,jl,pk,List.cons_append,List.nil_append,List.flatten_cons,List.flatten_nil,dY,dW,List.append_nil]
  obtain⟨y1,h10,hm⟩:=bnd hm
  simp -dsimp [hf]
  refine mN (pB x.Level next aB aL aE cv cv1 y1 h10) [23,1000000,1000001,1000002] [] rfl rfl rfl (by simp -dsimp) rfl (by simp -dsimp [hf]) (by first | rfl | simp) rfl (dkL hn) rfl rfl (by simp) nofun (by simp) ?_
  obtain⟨y2,h11,hm⟩:=bnd hm
  simp -dsimp [hf]
  refine mN (o6 l mp x.Level y1 y2 h11) [5,5000,12,23] [5001] rfl rfl rfl (by simp -dsimp) rfl (by simp -dsimp [hf]) (by first | rfl | simp) rfl (dkL hn) rfl rfl (by simp) nofun (by simp) ?_
  obtain⟨l1,h12,hm⟩:=bnd hm
  obtain⟨h12a,h12e⟩:=bQ h12
  replace h12e:=h12e.symm
  subst h12e
  try simp only[List.length_cons,List.length_nil,Nat.zero_add] at h12a
  simp -dsimp [hf,h12a]
  refine cr ?_
  refine aY ?_
  refine sr1 hn ?_
  simp -dsimp [hf]
  cases hm
  refine d8 ?_
  refine emv 52 5002 ?_
  refine emv 5001 5000 ?_
  exact zz
 ·exact zz
set_option maxHeartbeats 1000000 in
theorem ka (t:Tree) (aB:Int) (aL:List Point) (aE:List Node) (cv cv1:Int) (r:(List Point)×(List Node)) (hm:ct t aB aL aE cv cv1=some r):GFn Tryz.prog 73 [.u (.agg [dI t.States,dR2 t.Hood,dR1 t.Nodes]),.u (.one (.fn 101 [.box 1000000 0,.box 1000001 0,.box 1000002 0]))] [.box [dI aB,dR2 aL,dR1 aE],.box [dI cv],.box [dI cv1]] (.u (.agg [dI t.States,dR2 r.1,dR1 r.2])) [some (.box [dI aB,dR2 aL,dR1 aE]),some (.box [dI cv]),some (.box [dI cv1])]:=by
 refine dm bO _ Tryz.func73 rfl (by kernel_rfl) (by simp[Tryz.ntmps73]) (by simp) (by first | rfl | simp) (by first | rfl | simp) fun cx hn hk=>?_
 replace hn:cx.n=69:=hn.trans Tryz.ntmps73
 replace hk:cx.k=3:=hk
 unfold ct at hm
 refine srs hn ?_
 simp -dsimp
 refine srs hn ?_
 simp -dsimp [(@id (Ob.map .str []=mOb .str kS (uL (L.int .i64)) ([]:List (List UInt8×Int))) (mOb_nil .str kS (uL (L.int .i64))))]
 refine srs hn ?_
 simp -dsimp
 refine aZ ?_
 refine srs hn ?_
 simp -dsimp
 refine b7 ?_
 obtain⟨⟨mp,l,to_⟩,g13,hm⟩:=bnd hm
 refine bG (jN cx hn hk t aB aL aE cv cv1 g13) (by
   try dsimp only
   refine EE.step (Wk.own0 6 5002 1 3 (by simp -dsimp) (by decide)) ?_
   refine EE.step (Wk.own0b 5 0 5000 2 47 [.d .nil,.map 12] (by simp -dsimp) (by rfl) (by decide) (by decide)) ?_
   exact zz
 ) fun ee Z O xx=>?_
 unfold dH at xx
 dsimp only at xx
 obtain⟨rfl,xx⟩:=xx
 refine bK ?_
 refine aY ?_
 refine see xx fun Z O hf=>?_
 simp only[Fits,bB,bA,and_true] at hf
 refine Swp.pre (Wk.frz 5000 2 47 (List.map Node.row l) (by simp -dsimp [hf])) ?_
 refine sw_drNs bO mixed 14 (by rw[hn]; kernel_rfl) ?_
 dsimp only [List.take,List.drop]
 obtain⟨y,h14,hm⟩:=bnd hm
 simp -dsimp [hf]
 refine br (CtP.pf h14) ?_
 obtain⟨x,h15,hm⟩:=bnd hm
 obtain⟨y1,h16,hm⟩:=bnd hm
 simp -dsimp [hf,h15,da h15]
 refine br (CtP.pf h16) ?_
 simp -dsimp [hf]
 cases hm
 exact bC ⟨.inr rfl,EE.here (by simp -dsimp [hf])⟩
end
instance c_reduce_Fix (t k s r):CtP (iK t k s=some r) (bc Tryz.prog 78 [.u (.agg [dI t.States,dR2 t.Hood,dR1 t.Nodes]),vI k,vI s] (.tup [.agg [dI r.1.States,dR2 r.1.Hood,dR1 r.1.Nodes],.one (dI r.2)])):=⟨fun hm=>by
 refine cu Tryz.func78 Tryz.ntmps78 fun cx hn=>?_
 unfold iK at hm
 refine srs hn ?_
 simp -dsimp
 refine aZ (b7 ?_)
 refine srs hn ?_
 obtain⟨y,h1,hm⟩:=bnd hm
 simp -dsimp
 refine bi (CtP.pf h1) (dkL hn) ?_
 simp -dsimp
 rcases bz hm with ⟨c2,hm⟩ | ⟨c2,hm⟩
 ·exact zz
 ·refine bf (by simp -dsimp) c2 ?_
  obtain⟨a,j9,hm⟩:=bnd hm
  refine scE [(3,vX 3),(4,vX 4),(5,vX 5),(6,vX 6),(13,vT a)] [(3,.box [dI t.States,dR2 t.Hood,dR1 t.Nodes]),(4,.box [dI k]),(5,.box [dI s]),(6,.box [dI 0,.d .nil,.d .nil])] ?_ fun Z O hf=>?_
  ·replace hm:=j9
   clear j9
   exact zz
  ·clear j9
   simp only[Fits,bB,bA,and_true] at hf
   rcases bz hm with ⟨c4,hm⟩ | ⟨c4,hm⟩
   ·exact zz
   ·refine bf (by simp -dsimp [hf]) c4 ?_
    obtain⟨a1,j8,hm⟩:=bnd hm
    refine scE [(3,vX 3),(4,vX 4),(5,vX 5),(6,vX 6),(24,vT a1)] [(3,.box [dI t.States,dR2 t.Hood,dR1 t.Nodes]),(4,.box [dI k]),(5,.box [dI s]),(6,.box [dI 0,.d .nil,.d .nil])] ?_ fun Z O hf=>?_
    ·replace hm:=j8
     clear j8
     exact zz
    ·clear j8
     simp only[Fits,bB,bA,and_true] at hf
     rcases bz hm with ⟨c6,hm⟩ | ⟨c6,hm⟩
     ·exact zz
     ·refine bf (by simp -dsimp [hf]) c6 ?_
      refine b0 ?_
      refine cr ?_
      refine aY ?_
      refine srs hn ?_
      obtain⟨y1,h7,hm⟩:=bnd hm
      simp -dsimp [hf]
      refine clg (ka t t.States t.Hood t.Nodes k s y1 h7) [3,4,5] [] (by simp -dsimp [hf]) (dkL hn) ?_
      exact zz⟩
def fo (cx:Cx) (ab:Int) (ah:List (List Int)) (aa:Int) (ag:List Point) (ae:List Node) (ak:Int) (ai:List (List UInt8×Tree)) (in_:List Bi) (tt:(List Int)) (ee:Exit) (Z:Env) (O:Sto):Prop:=match tt with
 | keyv=>ee=.exit 0/\EE cx (bH [(0,vX 1000000),(1,vO 1000003),(4,vX 4),(5,vO 5000)] [(4,.box [dI 0,.d .nil,.d .nil]),(5000,.row 1 5 (List.map (rI .u8) keyv)),(1000000,.box [dI ab,.own 1000001,dI aa,dR2 ag,dR1 ae,dI ak,.map 1000002]),(1000001,.row 1 26 (List.map (rS 1 (rI .i64)) ah)),(1000002,mOb .str kS (uA Tree.row) ai),(1000003,.row 2 72 (List.map Bi.row in_))]) Z O
set_option maxHeartbeats 1000000 in
theorem mG (cx:Cx) (hn:cx.n=73) (_hk:cx.k=4) (ab:Int) (ah:List (List Int)) (aa:Int) (ag:List Point) (ae:List Node) (ak:Int) (ai:List (List UInt8×Tree)) (in_:List Bi) {fu:Nat} {stt:Int×(List Int)} {tt:(List Int)} (hh:ba (co ab ah aa ag ae ak ai in_) fu stt=some tt) {Z:Env} {O:Sto}
  (hE:jk (fun stt:Int×(List Int)=>match stt with | (a,_keyv)=>[(0,vX 1000000),(1,vO 1000003),(4,vX 4),(5,vO 5000),(13,vO 1000003),(14,vI (b8 in_)),(15,vI a)]) (fun stt:Int×(List Int)=>match stt with | (_a,keyv)=>[(4,.box [dI 0,.d .nil,.d .nil]),(5000,.row 1 5 (List.map (rI .u8) keyv)),(1000000,.box [dI ab,.own 1000001,dI aa,dR2 ag,dR1 ae,dI ak,.map 1000002]),(1000001,.row 1 26 (List.map (rS 1 (rI .i64)) ah)),(1000002,mOb .str kS (uA Tree.row) ai),(1000003,.row 2 72 (List.map Bi.row in_))]) stt Z O):Swp Tryz.prog cx (.loop (cC [1,1,0,1,0,0] (bD Tryz.f53))) Z O (fo cx ab ah aa ag ae ak ai in_ tt):=by
 refine bN hE hh (fo cx ab ah aa ag ae ak ai in_) ?_
 rintro⟨a,keyv⟩ r hm Z O hf
 simp only[Fits,bB,bA,and_true] at hf
 unfold co at hm
 dsimp only at hm
 refine srs hn ?_
 simp -dsimp [hf]
 refine aZ ?_
 rcases bz hm with ⟨c1,hm⟩ | ⟨c1,hm⟩
 ·refine b9 (by simp -dsimp) c1 ?_
  refine b0 (aY (aZ (b7 ?_)))
  refine srs hn ?_
  obtain⟨x,h2,hm⟩:=bnd hm
  simp -dsimp [hf,c1,h2,da h2]
  refine srs hn ?_
  simp -dsimp
  obtain⟨k,j5,hm⟩:=bnd hm
  refine scE [(0,vX 1000000),(1,vO 1000003),(4,vX 4),(5,vO 5000),(8,.u (.one (.d (.int .u8 k)))),(13,vO 1000003),(14,vI (b8 in_)),(15,vI a)] [(4,.box [dI 0,.d .nil,.d .nil]),(5000,.row 1 5 (List.map (rI .u8) keyv)),(1000000,.box [dI ab,.own 1000001,dI aa,dR2 ag,dR1 ae,dI ak,.map 1000002]),(1000001,.row 1 26 (List.map (rS 1 (rI .i64)) ah)),(1000002,mOb .str kS (uA Tree.row) ai),(1000003,.row 2 72 (List.map Bi.row in_))] ?_ fun Z O hf=>?_
  ·replace hm:=j5
   clear j5
   exact zz
  ·clear j5
   simp only[Fits,bB,bA,and_true] at hf
   refine sr1 hn ?_
   obtain⟨l,h4,hm⟩:=bnd hm
   obtain⟨h4a,h4e⟩:=bQ h4
   replace h4e:=h4e.symm
   subst h4e
   try simp only[List.length_cons,List.length_nil,Nat.zero_add] at h4a
   try simp only[Nat.mul_one,Nat.reduceLeDiff] at h4a
   simp -dsimp [hf,h4a]
   refine cr ?_
   refine aY ?_
   refine sr1 hn ?_
   simp -dsimp [hf]
   cases hm
   refine d8 ?_
   refine emv 28 5000 ?_
   exact zz
 ·exact zz
def fv (cx:Cx) (ab:Int) (ah:List (List Int)) (aa:Int) (ag:List Point) (ae:List Node) (ak:Int) (ai:List (List UInt8×Tree)) (in_:List Bi) (keyv:List Int) (_u:Unit) (tt:(Int×(List Point)×(List Node))) (ee:Exit) (Z:Env) (O:Sto):Prop:=match tt with
 | (aA,aJ,aD)=>ee=.exit 2/\EE cx (bH [(0,vX 1000000),(4,vX 4),(5,vO 5000),(9,vX 9)] [(4,.box [dI 0,.d .nil,.d .nil]),(9,.box [dI aA,dR2 aJ,dR1 aD]),(5000,.row 1 5 (List.map (rI .u8) keyv)),(1000000,.box [dI ab,.own 1000001,dI aa,dR2 ag,dR1 ae,dI ak,.map 1000002]),(1000001,.row 1 26 (List.map (rS 1 (rI .i64)) ah)),(1000002,mOb .str kS (uA Tree.row) ai),(1000003,.row 2 72 (List.map Bi.row in_))]) Z O
set_option maxHeartbeats 1000000 in
theorem mI (cx:Cx) (hn:cx.n=73) (_hk:cx.k=4) (ab:Int) (ah:List (List Int)) (aa:Int) (ag:List Point) (ae:List Node) (ak:Int) (ai:List (List UInt8×Tree)) (in_:List Bi) (keyv:List Int) (u:Unit) {fu:Nat} {stt:Int×Int×(List Point)×(List Node)} {tt:(Int×(List Point)×(List Node))} (hh:ba (cm ab ah aa ag ae ak ai in_ keyv u) fu stt=some tt) {Z:Env} {O:Sto}
  (hE:jk (fun stt:Int×Int×(List Point)×(List Node)=>match stt with | (a,_aA,_aJ,_aD)=>[(0,vX 1000000),(4,vX 4),(5,vO 5000),(9,vX 9),(46,vO 1000003),(47,vI (b8 in_)),(48,vI a)]) (fun stt:Int×Int×(List Point)×(List Node)=>match stt with | (_a,aA,aJ,aD)=>[(4,.box [dI 0,.d .nil,.d .nil]),(9,.box [dI aA,dR2 aJ,dR1 aD]),(5000,.row 1 5 (List.map (rI .u8) keyv)),(1000000,.box [dI ab,.own 1000001,dI aa,dR2 ag,dR1 ae,dI ak,.map 1000002]),(1000001,.row 1 26 (List.map (rS 1 (rI .i64)) ah)),(1000002,mOb .str kS (uA Tree.row) ai),(1000003,.row 2 72 (List.map Bi.row in_))]) stt Z O):Swp Tryz.prog cx (.loop (cC [1,1,1,1,0,1,0,1,0,1,0,0] (bD Tryz.f53))) Z O (fv cx ab ah aa ag ae ak ai in_ keyv u tt):=by
 refine bN hE hh (fv cx ab ah aa ag ae ak ai in_ keyv u) ?_
 rintro⟨a,aA,aJ,aD⟩ r hm Z O hf
 simp only[Fits,bB,bA,and_true] at hf
 unfold cm at hm
 dsimp only at hm
 refine srs hn ?_
 simp -dsimp [hf]
 refine aZ ?_
 rcases bz hm with ⟨c10,hm⟩ | ⟨c10,hm⟩
 ·refine b9 (by simp -dsimp) c10 ?_
  refine b0 (aY ?_)
  obtain⟨⟨aW,tHood1,tNodes1⟩,j14,hm⟩:=bnd hm
  refine scE [(0,vX 1000000),(4,vX 4),(5,vO 5000),(9,vX 9),(46,vO 1000003),(47,vI (b8 in_)),(48,vI a)] [(4,.box [dI 0,.d .nil,.d .nil]),(9,.box [dI aW,dR2 tHood1,dR1 tNodes1]),(5000,.row 1 5 (List.map (rI .u8) keyv)),(1000000,.box [dI ab,.own 1000001,dI aa,dR2 ag,dR1 ae,dI ak,.map 1000002]),(1000001,.row 1 26 (List.map (rS 1 (rI .i64)) ah)),(1000002,mOb .str kS (uA Tree.row) ai),(1000003,.row 2 72 (List.map Bi.row in_))] ?_ fun Z O hf=>?_
  ·replace hm:=j14
   clear j14
   refine b7 ?_
   refine srs hn ?_
   obtain⟨x,h11,hm⟩:=bnd hm
   simp -dsimp [hf,c10,h11,da h11]
   refine srs hn ?_
   simp -dsimp
   rcases bz hm with ⟨c12,hm⟩ | ⟨c12,hm⟩
   ·refine b9 (by simp -dsimp) c12 ?_
    refine sr1 hn ?_
    obtain⟨y,h13,hm⟩:=bnd hm
    simp -dsimp [hf,c12]
    refine bi (CtP.pf h13) (dkL hn) ?_
    simp -dsimp [hf]
    refine cr ?_
    cases hm
    exact EE.here (by simp -dsimp [hf])
   ·refine bf (by simp -dsimp) c12 ?_
    refine b0 ?_
    refine cr ?_
    cases hm
    exact EE.here (by simp -dsimp [hf,c12])
  ·clear j14
   exact zz
 ·exact zz
set_option maxHeartbeats 1000000 in
theorem nS (ab:Int) (ah:List (List Int)) (aa:Int) (ag:List Point) (ae:List Node) (ak:Int) (ai:List (List UInt8×Tree)) (in_:List Bi) (r:Int×(List Point)×(List Node)×(List (List UInt8×Tree))) (hm:cT ab ah aa ag ae ak ai in_=some r):GFn Tryz.prog 53 [vX 1000000,vO 1000003] [.box [dI ab,.own 1000001,dI aa,dR2 ag,dR1 ae,dI ak,.map 1000002],.row 1 26 (List.map (rS 1 (rI .i64)) ah),mOb .str kS (uA Tree.row) ai,.row 2 72 (List.map Bi.row in_)] (.u (.agg [dI r.1,dR2 r.2.1,dR1 r.2.2.1])) [some (.box [dI ab,.own 1000001,dI aa,dR2 ag,dR1 ae,dI ak,.map 1000002]),some (.row 1 26 (List.map (rS 1 (rI .i64)) ah)),some (mOb .str kS (uA Tree.row) r.2.2.2),some (.row 2 72 (List.map Bi.row in_))]:=by
 refine dm bO _ Tryz.func53 rfl (by kernel_rfl) (by simp[Tryz.ntmps53]) (by simp) (by first | rfl | simp) (by first | rfl | simp) fun cx hn hk=>?_
 replace hn:cx.n=73:=hn.trans Tryz.ntmps53
 replace hk:cx.k=4:=hk
 unfold cT at hm
 refine srs hn ?_
 simp -dsimp
 refine srs hn ?_
 simp -dsimp
 refine aZ ?_
 refine srs hn ?_
 simp -dsimp
 refine b7 ?_
 obtain⟨keyv,g6,hm⟩:=bnd hm
 refine bG (mG cx hn hk ab ah aa ag ae ak ai in_ g6) (by
   try dsimp only
   refine EE.step (Wk.own0 5 5000 1 5 (by simp -dsimp) (by decide)) ?_
   exact zz
 ) fun ee Z O xx=>?_
 unfold fo at xx
 dsimp only at xx
 obtain⟨rfl,xx⟩:=xx
 refine bK ?_
 refine aY ?_
 refine see xx fun Z O hf=>?_
 simp only[Fits,bB,bA,and_true] at hf
 refine ja bO mixed 10 12 12 0 [[0,1,2,3,4,5,6,7,8,9],[9]] [[9],[]] [] none (by rw[hn]; kernel_rfl) ep ?_
 dsimp only [List.take,List.drop,gz,gP,jl,pk,List.cons_append,List.nil_append,List.flatten_cons,List.flatten_nil,dY,dW,List.append_nil]
 obtain⟨u,h7,hm⟩:=bnd hm
 rcases bz hm with ⟨c8,hm⟩ | ⟨c8,hm⟩
 ·obtain⟨v,h9,hm⟩:=bnd hm
  simp -dsimp [hf,nM h7,(@id (lkM (oI (mOb .str kS (uA Tree.row) ai) (.str (ofBytes keyv))) true (.agg [dI 0,.d .nil,.d .nil])=some (.tup [.agg [dI v.States,dR2 v.Hood,dR1 v.Nodes],.one (.d (.bool true))])) (lk_some (kf:=kS) (vf:=(uA Tree.row)) _ h9))]
  refine aZ ?_
  refine srs hn ?_
  simp -dsimp
  refine bf (b:=false) (by simp -dsimp) rfl ?_
  refine b0 (aY ?_)
  refine srs hn ?_
  simp -dsimp [hf]
  cases hm
  exact bC ⟨.inr rfl,EE.here (by simp -dsimp [hf])⟩
 ·simp -dsimp [hf,nM h7,(@id (lkM (oI (mOb .str kS (uA Tree.row) ai) (.str (ofBytes keyv))) true (.agg [dI 0,.d .nil,.d .nil])=some (.tup [.agg [dI 0,.d .nil,.d .nil],.one (.d (.bool false))])) (lk_none (kf:=kS) (vf:=(uA Tree.row)) _ c8))]
  refine aZ ?_
  refine srs hn ?_
  simp -dsimp
  refine b9 (b:=true) (by simp -dsimp) rfl ?_
  refine srs hn ?_
  simp -dsimp [hf]
  refine aZ ?_
  refine srs hn ?_
  simp -dsimp [hf]
  refine b7 ?_
  obtain⟨⟨aA,aJ,aD⟩,g15,hm⟩:=bnd hm
  refine bG (mI cx hn hk ab ah aa ag ae ak ai in_ keyv u g15) (by
    try dsimp only
    refine EE.here ?_
    exact zz
  ) fun ee Z O xx=>?_
  unfold fv at xx
  dsimp only at xx
  obtain⟨rfl,xx⟩:=xx
  refine bK ?_
  refine aY ?_
  refine see xx fun Z O hf=>?_
  simp only[Fits,bB,bA,and_true] at hf
  refine nR bO mixed 7 (by rw[hn]; kernel_rfl) ?_
  dsimp only [List.take,List.drop]
  simp -dsimp [hf,nM h7,(@id (msetOb (mOb .str kS (uA Tree.row) ai) (.str (ofBytes keyv)) (.agg [dI aA,dR2 aJ,dR1 aD])=mOb .str kS (uA Tree.row) (msetL ai (ofBytes keyv) (⟨aA,aJ,aD⟩:Tree))) (mset_ob .str kS (uA Tree.row) ai (ofBytes keyv) (⟨aA,aJ,aD⟩:Tree)))]
  refine aY ?_
  refine srs hn ?_
  simp -dsimp [hf]
  cases hm
  exact bC ⟨.inr rfl,EE.here (by simp -dsimp [hf])⟩
instance c_unroll_builder_tree_2 (n a r):CtP (fb n a=some r) (bc Tryz.prog 80 [vI n,.u (.one (.ref (Node.row a) 0))] (vT r)):=⟨fun hm=>by
 refine cu Tryz.func80 Tryz.ntmps80 fun cx hn=>?_
 unfold fb at hm
 exact zz⟩
def dA (cx:Cx) (_s:List Int) (_cv:Node) (tt:Int ⊕ Unit) (ee:Exit) (Z:Env) (O:Sto):Prop:=match tt with
 | .inl r=>ee=.ret/\EE cx (fun Z O=>∃ v,fC tb Z O Tryz.f68.results.toList=some v/\(v.frz O).free=true/\(v.frz O).wk (vI r)) Z O
 | .inr _u=>ee=.exit 0/\EE cx (bH [] []) Z O
instance l_slices_IndexFunc_int_int_unroll_builder_tree_2_1 (s cv) {fu stt tt}:LtP (ba (bE s cv) fu stt=some tt) (lp 19 stt (fun a=>[(0,.u (.one (dL s))),(1,.u (.one (.fn 80 [.ref (Node.row cv) 0]))),(7,vI (b8 s)),(8,vI a)]) (fun _a=>[]) (cC [1,0,1,0,0] (bD Tryz.f68)) fun cx=>dA cx s cv tt):=⟨fun hh cx hn Z O hE=>by
 refine bN hE hh (dA cx s cv) ?_
 rintro a r hm Z O hf
 simp only[Fits,bB,bA,and_true] at hf
 unfold bE at hm
 exact zz⟩
instance c_slices_IndexFunc_int_int_unroll_builder_tree_2 (s cv r):CtP (bZ s cv=some r) (bc Tryz.prog 68 [.u (.one (dL s)),.u (.one (.fn 80 [.ref (Node.row cv) 0]))] (vI r)):=⟨fun hm=>by
 refine cu Tryz.func68 Tryz.ntmps68 fun cx hn=>?_
 unfold bZ at hm
 refine srs hn ?_
 simp -dsimp
 refine aZ ?_
 refine srs hn ?_
 simp -dsimp
 refine b7 ?_
 obtain⟨o_,g5,hm⟩:=bnd hm
 refine bG (LtP.pf g5 cx hn) (by
   try dsimp only
   exact eeh
 ) fun ee Z O xx=>?_
 rcases o_ with r | _u
 ·exact zz
 ·exact zz⟩
instance c_slices_ContainsFunc_int_int_unroll_builder_tree_2 (s cv r):CtP (bI s cv=some r) (bc Tryz.prog 39 [.u (.one (dL s)),.u (.one (.fn 80 [.ref (Node.row cv) 0]))] (vT r)):=⟨fun hm=>by
 refine cu Tryz.func39 Tryz.ntmps39 fun cx hn=>?_
 unfold bI at hm
 refine srs hn ?_
 simp -dsimp
 refine srs hn ?_
 obtain⟨y,h1,hm⟩:=bnd hm
 simp -dsimp
 refine bi (CtP.pf h1) (dkL hn) ?_
 simp -dsimp
 refine bC ?_
 cases hm
 refine⟨.inr rfl,?_⟩
 exact EE.here (by simp -dsimp)⟩
theorem jp (s aV:Int) (aNext:List Int) (a:List Bi) (r:Int×(List Int)) (hm:cd s aV aNext a=some r):GFn Tryz.prog 79 [vI s,vX 1000000,vX 1000001] [.box [dI aV,dL aNext],.box [.own 1000002],.row 2 72 (List.map Bi.row a)] (.u (.agg [dI r.1,.d (pnil 1 (List.map (rI .i64) r.2))])) [some (.box [dI aV,dL aNext]),some (.box [.own 1000002]),some (.row 2 72 (List.map Bi.row a))]:=by
 refine dm bO _ Tryz.func79 rfl (by kernel_rfl) (by simp[Tryz.ntmps79]) (by simp) (by first | rfl | simp) (by first | rfl | simp) fun cx hn hk=>?_
 replace hn:cx.n=22:=hn.trans Tryz.ntmps79
 replace hk:cx.k=3:=hk
 unfold cd at hm
 refine srs hn ?_
 simp -dsimp
 refine aZ ?_
 refine srs hn ?_
 simp -dsimp
 rcases bz hm with ⟨c1,hm⟩ | ⟨c1,hm⟩
 ·exact zz
 ·refine scf c1 ?_
  refine b0 (aY ?_)
  refine sw_drNs bO mixed 6 (by rw[hn]; kernel_rfl) ?_
  dsimp only [List.take,List.drop]
  obtain⟨x,h3,hm⟩:=bnd hm
  obtain⟨x1,h4,hm⟩:=bnd hm
  simp -dsimp [c1,h3,h4,da h4]
  cases hm
  exact bC ⟨.inr rfl,EE.here (by simp -dsimp)⟩
theorem na (ab:Int) (ah:List (List Int)) (aa:Int) (ag:List Point) (ae:List Node) (ak:Int) (ai:List (List UInt8×Tree)) (l:List Int) (r:Unit) (hm:dq ab ah aa ag ae ak ai l=some r):GFn Tryz.prog 41 [vX 1000000,vO 1000003] [.box [dI ab,.own 1000001,dI aa,dR2 ag,dR1 ae,dI ak,.map 1000002],.row 1 26 (List.map (rS 1 (rI .i64)) ah),mOb .str kS (uA Tree.row) ai,.row 1 3 (List.map (rI .i64) l)] (.tup []) [some (.box [dI ab,.own 1000004,dI aa,dR2 ag,dR1 ae,dI ak,.map 1000002]),none,some (mOb .str kS (uA Tree.row) ai),none,some (.row 1 26 (List.map (rS 1 (rI .i64)) (ah++[l])))]:=by
 refine dm bO _ Tryz.func41 rfl (by kernel_rfl) (by simp[Tryz.ntmps41]) (by simp) (by first | rfl | simp) (by first | rfl | simp) fun cx hn hk=>?_
 replace hn:cx.n=16:=hn.trans Tryz.ntmps41
 replace hk:cx.k=4:=hk
 unfold dq at hm
 refine Swp.pre (Wk.frz 1000003 1 3 (List.map (rI .i64) l) (by simp -dsimp)) ?_
 refine sr1 hn ?_
 obtain⟨l1,h1,hm⟩:=bnd hm
 obtain⟨h1a,h1e⟩:=bQ h1
 replace h1e:=h1e.symm
 subst h1e
 try simp only[List.length_cons,List.length_nil,Nat.zero_add] at h1a
 simp -dsimp [h1a]
 cases hm
 try refine⟨.inl rfl,?_⟩
 refine emr 12 1000004 hk ?_
 exact zz
end Go.Proofs.YtjlckgeecihpbaaGreatDoor
namespace Go.Proofs.YtjlckgeecihpbaaGreatDoor
open Go.AM Go.Proofs
set_option maxRecDepth 100000
attribute [-simp] ey eY i7 Ob.wipe Ob.ren Ob.frz1
theorem dF (l:List Int) (aM:Int) (aG:List (List Int)) (aO:Int) (aS:List Point) (aP:List Node) (abits:Int) (aU:List (List UInt8×Tree)) (a:List Int) (r:List (List Int)) (hm:bU l aM aG aO aS aP abits aU a=some r):GFn Tryz.prog 102 [.u (.one (dL l)),vX 1000000,vX 1000004] [.box [.box 1000001 0],.box [dI aM,.own 1000002,dI aO,dR2 aS,dR1 aP,dI abits,.map 1000003],.row 1 26 (List.map (rS 1 (rI .i64)) aG),mOb .str kS (uA Tree.row) aU,.box [dL a]] (.tup []) [some (.box [.box 1000001 0]),some (.box [dI aM,.own 1000005,dI aO,dR2 aS,dR1 aP,dI abits,.map 1000003]),none,some (mOb .str kS (uA Tree.row) aU),some (.box [dL a]),some (.row 1 26 (List.map (rS 1 (rI .i64)) r))]:=by
 refine dm bO _ Tryz.func102 rfl (by kernel_rfl) (by simp[Tryz.ntmps102]) (by simp) (by first | rfl | simp) (by first | rfl | simp) fun cx hn hk=>?_
 replace hn:cx.n=10:=hn.trans Tryz.ntmps102
 replace hk:cx.k=5:=hk
 unfold bU at hm
 refine sw_midp bO mixed [] [0,1,3,2,4,5] [0,1,3,2,4,5] 3 5 5 0 [[0,2],[0]] [[6],[8]] [] none (by rw[hn]; kernel_rfl) (by dsimp only [jo,nG,adO,rnL,pmL,pk,rnO,rnG,jX,List.cons_append,List.nil_append]<;>exact rfl) ep ?_
 dsimp only [List.take,List.drop,gz,gP,jl,pk,List.cons_append,List.nil_append,List.flatten_cons,List.flatten_nil,dY,dW,List.append_nil]
 obtain⟨y,h1,hm⟩:=bnd hm
 simp -dsimp
 refine callE_new (eF a y h1) (dkL hn) (by decide) rfl rfl (by simp) nofun (by simp) ?_
 obtain⟨l1,h2,hm⟩:=bnd hm
 obtain⟨h2a,h2e⟩:=bQ h2
 replace h2e:=h2e.symm
 subst h2e
 try simp only[List.length_cons,List.length_nil,Nat.zero_add,List.nil_append,List.length_append,List.length_map,List.length_replicate] at h2a
 obtain⟨y1,h3,hm⟩:=bnd hm
 simp -dsimp [h2a]
 refine clg (na aM aG aO aS aP abits aU (y++l) y1 h3) [1000001,1000002,1000003,8] [5000] (by simp -dsimp) (dkL hn) ?_
 simp -dsimp
 cases hm
 try refine⟨.inl rfl,?_⟩
 refine emr 5000 1000005 hk ?_
 exact zz
def fx (cx:Cx) (ab aa:Int) (ag:List Point) (ae:List Node) (ak:Int) (ai:List (List UInt8×Tree)) (_aF _own:List Int) (_v:Bi) (tt:(List (List Int))) (ee:Exit) (Z:Env) (O:Sto):Prop:=match tt with
 | l=>ee=.exit 0/\EE cx (bH [] [(5004,.row 1 26 (List.map (rS 1 (rI .i64)) l)),(1000000,.box [dI ab,.own 5004,dI aa,dR2 ag,dR1 ae,dI ak,.map 1000002]),(1000002,mOb .str kS (uA Tree.row) ai)]) Z O
theorem mz (cx:Cx) (hn:cx.n=60) (_hk:cx.k=3) (ab aa:Int) (ag:List Point) (ae:List Node) (ak:Int) (ai:List (List UInt8×Tree)) (aF own:List Int) (v:Bi) {fu:Nat} {stt:Int×(List (List Int))} {tt:(List (List Int))} (hh:ba (dh ab aa ag ae ak ai aF own v) fu stt=some tt) {Z:Env} {O:Sto}
  (hE:jk (fun stt:Int×(List (List Int))=>match stt with | (a,_l)=>[(4,vX 4),(5,vX 5),(7,vX 7),(11,.u (.one (dL own))),(12,vI (b8 own)),(13,vI a)]) (fun stt:Int×(List (List Int))=>match stt with | (_a,l)=>[(4,.box [.box 1000000 0]),(5,.box [dL aF]),(7,.box [dI v.constant,.d (pnil 1 (List.map (rI .i64) v.vars))]),(5004,.row 1 26 (List.map (rS 1 (rI .i64)) l)),(1000000,.box [dI ab,.own 5004,dI aa,dR2 ag,dR1 ae,dI ak,.map 1000002]),(1000002,mOb .str kS (uA Tree.row) ai)]) stt Z O):Swp Tryz.prog cx (.loop (cC [1,1,0,0] (bD Tryz.f81))) Z O (fx cx ab aa ag ae ak ai aF own v tt):=by
 refine bN hE hh (fx cx ab aa ag ae ak ai aF own v) ?_
 rintro⟨a,l⟩ r hm Z O hf
 simp only[Fits,bB,bA,and_true] at hf
 unfold dh at hm
 dsimp only at hm
 refine srs hn ?_
 simp -dsimp [hf]
 refine aZ ?_
 rcases bz hm with ⟨c1,hm⟩ | ⟨c1,hm⟩
 ·refine b9 (by simp -dsimp) c1 ?_
  refine b0 (aY ?_)
  obtain⟨l1,j12,hm⟩:=bnd hm
  refine scE [(4,vX 4),(5,vX 5),(7,vX 7),(11,.u (.one (dL own))),(12,vI (b8 own)),(13,vI a)] [(4,.box [.box 1000000 0]),(5,.box [dL aF]),(7,.box [dI v.constant,.d (pnil 1 (List.map (rI .i64) v.vars))]),(5004,.row 1 26 (List.map (rS 1 (rI .i64)) l1)),(1000000,.box [dI ab,.own 5004,dI aa,dR2 ag,dR1 ae,dI ak,.map 1000002]),(1000002,mOb .str kS (uA Tree.row) ai)] ?_ fun Z O hf=>?_
  ·replace hm:=j12
   clear j12
   refine b7 ?_
   refine srs hn ?_
   obtain⟨x,h2,hm⟩:=bnd hm
   simp -dsimp [hf,c1,h2]
   refine srs hn ?_
   simp -dsimp [hf]
   refine b7 ?_
   refine srs hn ?_
   simp -dsimp [hf]
   rcases bz hm with ⟨c3,hm⟩ | ⟨c3,hm⟩
   ·refine b9 (by simp -dsimp) c3 ?_
    refine srs hn ?_
    obtain⟨u,h4,hm⟩:=bnd hm
    obtain⟨x1,h5,hm⟩:=bnd hm
    obtain⟨y,h6,hm⟩:=bnd hm
    simp -dsimp [hf,c3,gu h4 1 (rI .i64),h5]
    refine clg (dF [(cz .i64 x),x1] ab l aa ag ae ak ai aF y h6) [4,1000000,5004,1000002,5] [5000] (by simp -dsimp [hf]) (dkL hn) ?_
    simp -dsimp [gu h4 1 (rI .i64)]
    refine sr1 hn ?_
    obtain⟨y1,h7,hm⟩:=bnd hm
    simp -dsimp [hf,gu h4 1 (rI .i64),h5]
    refine clg (dF [x,(cz .i64 x1)] ab y aa ag ae ak ai aF y1 h7) [4,1000000,5000,1000002,5] [5001] (by simp -dsimp) (dkL hn) ?_
    simp -dsimp
    refine cr ?_
    refine cr ?_
    refine aY ?_
    cases hm
    refine emv 5001 5004 ?_
    exact zz
   ·refine bf (by simp -dsimp) c3 ?_
    refine srs hn ?_
    obtain⟨n,h8,hm⟩:=bnd hm
    simp -dsimp [hf,c3,h8]
    rcases bz hm with ⟨c9,hm⟩ | ⟨c9,hm⟩
    ·refine b9 (by simp -dsimp) c9 ?_
     refine sr1 hn ?_
     obtain⟨y,h10,hm⟩:=bnd hm
     simp -dsimp [c9]
     refine clg (dF [x] ab l aa ag ae ak ai aF y h10) [4,1000000,5004,1000002,5] [5002] (by simp -dsimp [hf]) (dkL hn) ?_
     simp -dsimp
     refine cr ?_
     refine cr ?_
     refine aY ?_
     cases hm
     refine emv 5002 5004 ?_
     exact zz
    ·refine bf (by simp -dsimp) c9 ?_
     refine sr1 hn ?_
     obtain⟨y,h11,hm⟩:=bnd hm
     simp -dsimp [c9]
     refine clg (dF [(cz .i64 x)] ab l aa ag ae ak ai aF y h11) [4,1000000,5004,1000002,5] [5003] (by simp -dsimp [hf]) (dkL hn) ?_
     simp -dsimp
     refine cr ?_
     refine cr ?_
     refine aY ?_
     cases hm
     refine emv 5003 5004 ?_
     exact zz
  ·clear j12
   exact zz
 ·exact zz
theorem nC (ab:Int) (ah:List (List Int)) (aa:Int) (ag:List Point) (ae:List Node) (ak:Int) (ai:List (List UInt8×Tree)) (aF own:List Int) (v:Bi) (r:List (List Int)) (hm:dC ab ah aa ag ae ak ai aF own v=some r):GFn Tryz.prog 81 [vX 1000000,.u (.one (dL aF)),.u (.one (dL own)),.u (.agg [dI v.constant,.d (pnil 1 (List.map (rI .i64) v.vars))])] [.box [dI ab,.own 1000001,dI aa,dR2 ag,dR1 ae,dI ak,.map 1000002],.row 1 26 (List.map (rS 1 (rI .i64)) ah),mOb .str kS (uA Tree.row) ai] (.tup []) [some (.box [dI ab,.own 1000003,dI aa,dR2 ag,dR1 ae,dI ak,.map 1000002]),none,some (mOb .str kS (uA Tree.row) ai),some (.row 1 26 (List.map (rS 1 (rI .i64)) r))]:=by
 refine dm bO _ Tryz.func81 rfl (by kernel_rfl) (by simp[Tryz.ntmps81]) (by simp) (by first | rfl | simp) (by first | rfl | simp) fun cx hn hk=>?_
 replace hn:cx.n=60:=hn.trans Tryz.ntmps81
 replace hk:cx.k=3:=hk
 unfold dC at hm
 refine srs hn ?_
 simp -dsimp
 refine srs hn ?_
 simp -dsimp
 refine b7 ?_
 obtain⟨l,g13,hm⟩:=bnd hm
 refine bG (mz cx hn hk ab aa ag ae ak ai aF own v g13) (by
   try dsimp only
   refine emv 1000001 5004 ?_
   exact zz
 ) fun ee Z O xx=>?_
 unfold fx at xx
 dsimp only at xx
 obtain⟨rfl,xx⟩:=xx
 refine bK ?_
 cases hm
 try refine⟨.inl rfl,?_⟩
 refine ee_bind (by rfl) (by rfl) xx fun Z O hf=>?_
 simp only[Fits,bB,bA,and_true,true_and] at hf
 refine emr 5004 1000003 hk ?_
 exact zz
def fJ (cx:Cx) (aa:Int) (ag:List Point) (ae:List Node) (ak:Int) (ai:List (List UInt8×Tree)) (t:Tree) (in_:List Bi) (a:Int) (l1:List Bi) (_x:Node) (_x1:Bi) (y1:(List Int)×Int) (x2:Bi) (_u:Unit) (tt:(List (List Int))) (ee:Exit) (Z:Env) (O:Sto):Prop:=match tt with
 | l3=>ee=.exit 2/\EE cx (bH [(0,vX 1000000),(2,vO 1000003),(4,vX 4),(6,vX 6),(7,vX 7),(19,.u (.one (dR1 t.Nodes))),(20,vI (b8 t.Nodes)),(21,vI a)] [(4,.box [dI t.States,dR2 t.Hood,dR1 t.Nodes]),(6,.box [dI 0,.d .nil]),(7,.box [.own 17]),(17,.row 2 72 (List.map Bi.row (l1.set a.toNat (⟨x2.constant,y1.1⟩:Bi)))),(5001,.row 1 26 (List.map (rS 1 (rI .i64)) l3)),(1000000,.box [dI y1.2,.own 5001,dI aa,dR2 ag,dR1 ae,dI ak,.map 1000002]),(1000002,mOb .str kS (uA Tree.row) ai),(1000003,.row 2 72 (List.map Bi.row in_))]) Z O
set_option maxHeartbeats 1000000 in
theorem mV (cx:Cx) (hn:cx.n=77) (_hk:cx.k=4) (aa:Int) (ag:List Point) (ae:List Node) (ak:Int) (ai:List (List UInt8×Tree)) (t:Tree) (in_:List Bi) (a:Int) (l1:List Bi) (x:Node) (x1:Bi) (y1:(List Int)×Int) (x2:Bi) (u:Unit) {fu:Nat} {stt:Int×(List (List Int))} {tt:(List (List Int))} (hh:ba (cO aa ag ae ak ai t in_ a l1 x x1 y1 x2 u) fu stt=some tt) {Z:Env} {O:Sto}
  (hE:jk (fun stt:Int×(List (List Int))=>match stt with | (a1,_l3)=>[(0,vX 1000000),(2,vO 1000003),(4,vX 4),(6,vX 6),(7,vX 7),(10,.u (.one (.fn 79 [.box 9 0,.box 7 0]))),(11,.u (.one (.d (pnil 1 (List.map (rI .i64) x1.vars))))),(12,.u (.one (dL y1.1))),(19,.u (.one (dR1 t.Nodes))),(20,vI (b8 t.Nodes)),(21,vI a),(56,vI (b8 x.Next)),(57,vI a1)]) (fun stt:Int×(List (List Int))=>match stt with | (_a1,l3)=>[(4,.box [dI t.States,dR2 t.Hood,dR1 t.Nodes]),(6,.box [dI 0,.d .nil]),(7,.box [.own 17]),(9,.box [dI x.Level,dL x.Next]),(17,.row 2 72 (List.map Bi.row (l1.set a.toNat (⟨x2.constant,y1.1⟩:Bi)))),(5001,.row 1 26 (List.map (rS 1 (rI .i64)) l3)),(1000000,.box [dI y1.2,.own 5001,dI aa,dR2 ag,dR1 ae,dI ak,.map 1000002]),(1000002,mOb .str kS (uA Tree.row) ai),(1000003,.row 2 72 (List.map Bi.row in_))]) stt Z O):Swp Tryz.prog cx (.loop (cC [1,1,0,1,0,0,1,1,0,0,1,1,1,1,1,1,1,0,0] (bD Tryz.f54))) Z O (fJ cx aa ag ae ak ai t in_ a l1 x x1 y1 x2 u tt):=by
 refine bN hE hh (fJ cx aa ag ae ak ai t in_ a l1 x x1 y1 x2 u) ?_
 rintro⟨a1,l3⟩ r hm Z O hf
 simp only[Fits,bB,bA,and_true] at hf
 unfold cO at hm
 dsimp only at hm
 refine srs hn ?_
 simp -dsimp [hf]
 refine aZ ?_
 rcases bz hm with ⟨c12,hm⟩ | ⟨c12,hm⟩
 ·refine b9 (by simp -dsimp) c12 ?_
  refine b0 (aY (aZ (b7 ?_)))
  refine srs hn ?_
  simp -dsimp [hf,c12]
  refine sr1 hn ?_
  obtain⟨u1,h13,hm⟩:=bnd hm
  obtain⟨y2,h14,hm⟩:=bnd hm
  simp -dsimp [hf,gu h13 1 (rI .i64)]
  refine bi (CtP.pf h14) (dkL hn) ?_
  obtain⟨y3,h15,hm⟩:=bnd hm
  simp -dsimp [hf]
  refine clg (jp a1 x.Level x.Next (l1.set a.toNat (⟨x2.constant,y1.1⟩:Bi)) y3 h15) [9,7,17] [] (by simp -dsimp [hf]) (dkL hn) ?_
  obtain⟨y4,h16,hm⟩:=bnd hm
  simp -dsimp
  refine clg (nC y1.2 l3 aa ag ae ak ai y2 y1.1 (⟨y3.1,y3.2⟩:Bi) y4 h16) [1000000,5001,1000002] [5000] (by simp -dsimp [hf]) (dkL hn) ?_
  simp -dsimp [gu h13 1 (rI .i64)]
  refine cr ?_
  refine aY ?_
  refine sr1 hn ?_
  simp -dsimp [hf]
  cases hm
  refine d8 ?_
  refine emv 5000 5001 ?_
  exact zz
 ·exact zz
def fL (cx:Cx) (aa:Int) (ag:List Point) (ae:List Node) (ak:Int) (ai:List (List UInt8×Tree)) (_t:Tree) (in_:List Bi) (tt:((List Bi)×(List (List Int))×Int)) (ee:Exit) (Z:Env) (O:Sto):Prop:=match tt with
 | (l1,l2,aj)=>ee=.exit 0/\EE cx (bH [(6,vX 6),(7,vX 7)] [(6,.box [dI 0,.d .nil]),(7,.box [.own 17]),(17,.row 2 72 (List.map Bi.row l1)),(5001,.row 1 26 (List.map (rS 1 (rI .i64)) l2)),(1000000,.box [dI aj,.own 5001,dI aa,dR2 ag,dR1 ae,dI ak,.map 1000002]),(1000002,mOb .str kS (uA Tree.row) ai),(1000003,.row 2 72 (List.map Bi.row in_))]) Z O
set_option maxHeartbeats 1000000 in
theorem mT (cx:Cx) (hn:cx.n=77) (hk:cx.k=4) (aa:Int) (ag:List Point) (ae:List Node) (ak:Int) (ai:List (List UInt8×Tree)) (t:Tree) (in_:List Bi) {fu:Nat} {stt:Int×(List Bi)×(List (List Int))×Int} {tt:((List Bi)×(List (List Int))×Int)} (hh:ba (cN aa ag ae ak ai t in_) fu stt=some tt) {Z:Env} {O:Sto}
  (hE:jk (fun stt:Int×(List Bi)×(List (List Int))×Int=>match stt with | (a,_l1,_l2,_aj)=>[(0,vX 1000000),(2,vO 1000003),(4,vX 4),(6,vX 6),(7,vX 7),(19,.u (.one (dR1 t.Nodes))),(20,vI (b8 t.Nodes)),(21,vI a)]) (fun stt:Int×(List Bi)×(List (List Int))×Int=>match stt with | (_a,l1,l2,aj)=>[(4,.box [dI t.States,dR2 t.Hood,dR1 t.Nodes]),(6,.box [dI 0,.d .nil]),(7,.box [.own 17]),(17,.row 2 72 (List.map Bi.row l1)),(5001,.row 1 26 (List.map (rS 1 (rI .i64)) l2)),(1000000,.box [dI aj,.own 5001,dI aa,dR2 ag,dR1 ae,dI ak,.map 1000002]),(1000002,mOb .str kS (uA Tree.row) ai),(1000003,.row 2 72 (List.map Bi.row in_))]) stt Z O):Swp Tryz.prog cx (.loop (cC [1,1,0,1,0,0] (bD Tryz.f54))) Z O (fL cx aa ag ae ak ai t in_ tt):=by
 refine bN hE hh (fL cx aa ag ae ak ai t in_) ?_
 rintro⟨a,l1,l2,aj⟩ r hm Z O hf
 simp only[Fits,bB,bA,and_true] at hf
 unfold cN at hm
 dsimp only at hm
 refine srs hn ?_
 simp -dsimp [hf]
 refine aZ ?_
 rcases bz hm with ⟨c2,hm⟩ | ⟨c2,hm⟩
 ·refine b9 (by simp -dsimp) c2 ?_
  refine b0 (aY (aZ (b7 ?_)))
  refine srs hn ?_
  obtain⟨x,h3,hm⟩:=bnd hm
  simp -dsimp [hf,c2,h3]
  refine srs hn ?_
  simp -dsimp [hf]
  refine aZ ?_
  refine srs hn ?_
  obtain⟨y,h4,hm⟩:=bnd hm
  simp -dsimp
  refine nk (us':=[.u (.one (dL x.Next)),.u (.one (.fn 80 [.ref (Node.row x) 0]))]) (CtP.pf h4) (by simp -dsimp) rfl (dkL hn) ?_
  simp -dsimp
  rcases bz hm with ⟨c5,hm⟩ | ⟨c5,hm⟩
  ·refine b9 (by simp -dsimp) c5 ?_
   refine ja bO mixed 3 4 4 0 [[0,1]] [[]] [] none (by rw[hn]; kernel_rfl) ep ?_
   dsimp only [List.take,List.drop,gz,gP,jl,pk,List.cons_append,List.nil_append,List.flatten_cons,List.flatten_nil,dY,dW,List.append_nil]
   obtain⟨y1,h6,hm⟩:=bnd hm
   simp -dsimp [hf,c5]
   refine mN (jp 0 x.Level x.Next l1 y1 h6) [9,7,17] [] rfl rfl rfl (by simp -dsimp) rfl (by simp -dsimp [hf]) (by first | rfl | simp) rfl (dkL hn) rfl rfl (by simp) nofun (by simp) ?_
   obtain⟨x1,h7,hm⟩:=bnd hm
   simp -dsimp [hf,h7,da h7]
   exact zz
  ·refine bf (by simp -dsimp) c5 ?_
   refine b0 (aY ?_)
   refine srs hn ?_
   obtain⟨x1,h8,hm⟩:=bnd hm
   simp -dsimp [hf,c5,h8,da h8]
   refine srs hn ?_
   obtain⟨y1,h9,hm⟩:=bnd hm
   simp -dsimp [hf]
   refine clg (kg aj l2 aa ag ae ak ai y1 h9) [1000000,5001,1000002] [] (by simp -dsimp [hf]) (dkL hn) ?_
   simp -dsimp
   refine srs hn ?_
   obtain⟨x2,h10,hm⟩:=bnd hm
   obtain⟨u,h11,hm⟩:=bnd hm
   simp -dsimp [hf,h10,da h10]
   refine srs hn ?_
   simp -dsimp
   refine b7 ?_
   obtain⟨l3,g17,hm⟩:=bnd hm
   refine bG (mV cx hn hk aa ag ae ak ai t in_ a l1 x x1 y1 x2 u g17) (by
     try dsimp only
     exact EE.here (by simp -dsimp [hf,gu h11 1 (rI .i64)])
   ) fun ee Z O xx=>?_
   unfold fJ at xx
   dsimp only at xx
   obtain⟨rfl,xx⟩:=xx
   refine bK ?_
   refine cr ?_
   refine aY ?_
   refine see xx fun Z O hf=>?_
   simp only[Fits,bB,bA,and_true] at hf
   refine sr1 hn ?_
   simp -dsimp [hf]
   cases hm
   refine d8 ?_
   exact EE.here (by simp -dsimp [hf,gu h11 1 (rI .i64)])
 ·exact zz
set_option maxHeartbeats 1000000 in
theorem ol (ab:Int) (ah:List (List Int)) (aa:Int) (ag:List Point) (ae:List Node) (ak:Int) (ai:List (List UInt8×Tree)) (t:Tree) (in_:List Bi) (r:Int×(List Int)×(List (List Int))×Int) (hm:dO ab ah aa ag ae ak ai t in_=some r):GFn Tryz.prog 54 [vX 1000000,.u (.agg [dI t.States,dR2 t.Hood,dR1 t.Nodes]),vO 1000003] [.box [dI ab,.own 1000001,dI aa,dR2 ag,dR1 ae,dI ak,.map 1000002],.row 1 26 (List.map (rS 1 (rI .i64)) ah),mOb .str kS (uA Tree.row) ai,.row 2 72 (List.map Bi.row in_)] (.u (.agg [dI r.1,.d (pnil 1 (List.map (rI .i64) r.2.1))])) [some (.box [dI r.2.2.2,.own 1000004,dI aa,dR2 ag,dR1 ae,dI ak,.map 1000002]),none,some (mOb .str kS (uA Tree.row) ai),some (.row 2 72 (List.map Bi.row in_)),some (.row 1 26 (List.map (rS 1 (rI .i64)) r.2.2.1))]:=by
 refine dm bO _ Tryz.func54 rfl (by kernel_rfl) (by simp[Tryz.ntmps54]) (by simp) (by first | rfl | simp) (by first | rfl | simp) fun cx hn hk=>?_
 replace hn:cx.n=77:=hn.trans Tryz.ntmps54
 replace hk:cx.k=4:=hk
 unfold dO at hm
 refine srs hn ?_
 simp -dsimp
 refine srs hn ?_
 obtain⟨l,h1,hm⟩:=bnd hm
 obtain⟨⟨h1a,h1b,h1c⟩,rfl⟩:=nu h1
 simp -dsimp [h1a,h1c]
 refine aZ ?_
 refine srs hn ?_
 simp -dsimp
 refine b7 ?_
 obtain⟨⟨l1,l2,aj⟩,g18,hm⟩:=bnd hm
 refine bG (mT cx hn hk aa ag ae ak ai t in_ g18) (by
   try dsimp only
   refine emv 1000001 5001 ?_
   exact zz
 ) fun ee Z O xx=>?_
 unfold fL at xx
 dsimp only at xx
 obtain⟨rfl,xx⟩:=xx
 refine bK ?_
 refine aY ?_
 refine see xx fun Z O hf=>?_
 simp only[Fits,bB,bA,and_true] at hf
 refine srs hn ?_
 obtain⟨x,h19,hm⟩:=bnd hm
 simp -dsimp [hf,h19,da h19]
 refine bC ?_
 cases hm
 refine⟨.inr rfl,?_⟩
 refine emr 5001 1000004 hk ?_
 exact zz
theorem gY (ab:Int) (ah:List (List Int)) (aa:Int) (ag:List Point) (ae:List Node) (ak:Int) (ai:List (List UInt8×Tree)) (r:Bool) (hm:cJ ab ah aa ag ae ak ai=some r):GFn Tryz.prog 25 [vX 1000000] [.box [dI ab,.own 1000001,dI aa,dR2 ag,dR1 ae,dI ak,.map 1000002],.row 1 26 (List.map (rS 1 (rI .i64)) ah),mOb .str kS (uA Tree.row) ai] (vT r) [some (.box [dI ab,.own 1000001,dI aa,dR2 ag,dR1 ae,dI ak,.map 1000002]),some (.row 1 26 (List.map (rS 1 (rI .i64)) ah)),some (mOb .str kS (uA Tree.row) ai)]:=by
 refine dm bO _ Tryz.func25 rfl (by kernel_rfl) (by simp[Tryz.ntmps25]) (by simp) (by first | rfl | simp) (by first | rfl | simp) fun cx hn hk=>?_
 replace hn:cx.n=18:=hn.trans Tryz.ntmps25
 replace hk:cx.k=3:=hk
 unfold cJ at hm
 refine srs hn ?_
 simp -dsimp
 obtain⟨a,j2,hm⟩:=bnd hm
 refine scE [(2,vT a)] [(1000000,.box [dI ab,.own 1000001,dI aa,dR2 ag,dR1 ae,dI ak,.map 1000002]),(1000001,.row 1 26 (List.map (rS 1 (rI .i64)) ah)),(1000002,mOb .str kS (uA Tree.row) ai)] ?_ fun Z O hf=>?_
 ·replace hm:=j2
  clear j2
  exact zz
 ·clear j2
  exact zz
end Go.Proofs.YtjlckgeecihpbaaGreatDoor
