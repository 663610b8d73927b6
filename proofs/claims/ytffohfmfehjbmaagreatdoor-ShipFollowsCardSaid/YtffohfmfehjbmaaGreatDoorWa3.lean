/- That the code does what the functions say (made by cc.py). -/
import Derived.Test.YtffohfmfehjbmaaGreatDoorWa2
namespace Go.Proofs.YtffohfmfehjbmaaGreatDoor
open Go.AM Go.Proofs
set_option maxRecDepth 100000
attribute [-simp] qlookup bF cq Ob.wipe Ob.ren Ob.frz1
def aX (rcv:(Ak->(List Point)->(List Point)->Int->(List Int)->(List Int)->(List (Ak×Int))->Int->Int->(List (List UInt8×Int))->Int->(List Point)->(List Node)->Option (Int×(List (Ak×Int))×(List (List UInt8×Int))×(List Node)))):Prop:=∀ (p:Ak) (a al:List Point) (ah:Int) (aj aa:List Int) (a1:List (Ak×Int)) (a2 cv:Int) (cv1:List (List UInt8×Int)) (ai:Int) (am:List Point) (av:List Node) (r:Int×(List (Ak×Int))×(List (List UInt8×Int))×(List Node)),rcv p a al ah aj aa a1 a2 cv cv1 ai am av=some r->GFn Tryz.prog 162 [.u (.agg [dI p.at_,dI p.s.ones,dI p.s.centre]),vX 1000000,vX 1000001,vX 1000003,vX 1000005,vX 1000006,vX 1000007,vX 1000009,vX 1000011] [.box [dR2 a],.box [.fn 97 [.box 1000002 0]],.box [dR2 al,dI ah,dL aj,dL aa],.box [.map 1000004],mOb (.ints 3) Ak.key (uL (L.int .i64)) a1,.box [dI a2],.box [.fn 162 [.box 1000000 0,.box 1000001 0,.box 1000003 0,.box 1000005 0,.box 1000006 0,.box 1000007 0,.box 1000009 0,.box 1000011 0]],.box [.fn 96 [.box 1000008 0]],.box [dI cv],.box [.map 1000010],mOb .str kS (uL (L.int .i64)) cv1,.box [dI ai,dR2 am,.own 1000012],.row 2 80 (List.map Node.row av)] (vI r.1) [some (.box [dR2 a]),some (.box [.fn 97 [.box 1000002 0]]),some (.box [dR2 al,dI ah,dL aj,dL aa]),some (.box [.map 1000004]),some (mOb (.ints 3) Ak.key (uL (L.int .i64)) r.2.1),some (.box [dI a2]),some (.box [.fn 162 [.box 1000000 0,.box 1000001 0,.box 1000003 0,.box 1000005 0,.box 1000006 0,.box 1000007 0,.box 1000009 0,.box 1000011 0]]),some (.box [.fn 96 [.box 1000008 0]]),some (.box [dI cv]),some (.box [.map 1000010]),some (mOb .str kS (uL (L.int .i64)) r.2.2.1),some (.box [dI ai,dR2 am,.own 1000013]),none,some (.row 2 80 (List.map Node.row r.2.2.2))]
def aV (cx:Cx) (_rcv:(Ak->(List Point)->(List Point)->Int->(List Int)->(List Int)->(List (Ak×Int))->Int->Int->(List (List UInt8×Int))->Int->(List Point)->(List Node)->Option (Int×(List (Ak×Int))×(List (List UInt8×Int))×(List Node)))) (p:Ak) (a al:List Point) (ah:Int) (aj aa:List Int) (a2 cv ai:Int) (am:List Point) (_u:Unit) (tt:((List Node)×(List Int)×(List Int)×(List (Ak×Int))×(List (List UInt8×Int)))) (ee:Exit) (Z:Env) (O:Sto):Prop:=match tt with
 | (l,keyv,l1,mp,mp1)=>ee=.exit 0/\EE cx (aY [(3,vX 1000003),(7,vX 1000009),(8,vX 1000011),(9,vX 9),(13,vX 13),(14,vO 5003)] [(9,.box [dI p.at_,dI p.s.ones,dI p.s.centre]),(13,.box [dI (aL .i64 (aB a) p.at_),.own 5004]),(5000,.row 2 80 (List.map Node.row l)),(5003,.row 1 5 (List.map (rI .u8) keyv)),(5004,.row 1 3 (List.map (rI .i64) l1)),(1000000,.box [dR2 a]),(1000001,.box [.fn 97 [.box 1000002 0]]),(1000002,.box [dR2 al,dI ah,dL aj,dL aa]),(1000003,.box [.map 1000004]),(1000004,mOb (.ints 3) Ak.key (uL (L.int .i64)) mp),(1000005,.box [dI a2]),(1000006,.box [.fn 162 [.box 1000000 0,.box 1000001 0,.box 1000003 0,.box 1000005 0,.box 1000006 0,.box 1000007 0,.box 1000009 0,.box 1000011 0]]),(1000007,.box [.fn 96 [.box 1000008 0]]),(1000008,.box [dI cv]),(1000009,.box [.map 1000010]),(1000010,mOb .str kS (uL (L.int .i64)) mp1),(1000011,.box [dI ai,dR2 am,.own 5000])]) Z O
theorem bJ (cx:Cx) (hn:cx.n=101) (_hk:cx.k=13) (rcv:(Ak->(List Point)->(List Point)->Int->(List Int)->(List Int)->(List (Ak×Int))->Int->Int->(List (List UInt8×Int))->Int->(List Point)->(List Node)->Option (Int×(List (Ak×Int))×(List (List UInt8×Int))×(List Node)))) (p:Ak) (a al:List Point) (ah:Int) (aj aa:List Int) (a2 cv ai:Int) (am:List Point) (u:Unit) (hrcv:aX rcv) {fu:Nat} {stt:Int×(List Node)×(List Int)×(List Int)×(List (Ak×Int))×(List (List UInt8×Int))} {tt:((List Node)×(List Int)×(List Int)×(List (Ak×Int))×(List (List UInt8×Int)))} (hh:aK (b_totaltree_build_totaltree_sum_1_o_o_o_o_o_o_o_o_1 rcv p a al ah aj aa a2 cv ai am u) fu stt=some tt) {Z:Env} {O:Sto}
  (hE:b9 (fun stt:Int×(List Node)×(List Int)×(List Int)×(List (Ak×Int))×(List (List UInt8×Int))=>match stt with | (a3,_l,_keyv,_l1,_mp,_mp1)=>[(3,vX 1000003),(5,vX 1000006),(6,vX 1000007),(7,vX 1000009),(8,vX 1000011),(9,vX 9),(13,vX 13),(14,vO 5003),(46,vI a2),(47,vI a3)]) (fun stt:Int×(List Node)×(List Int)×(List Int)×(List (Ak×Int))×(List (List UInt8×Int))=>match stt with | (_a3,l,keyv,l1,mp,mp1)=>[(9,.box [dI p.at_,dI p.s.ones,dI p.s.centre]),(13,.box [dI (aL .i64 (aB a) p.at_),.own 5004]),(5000,.row 2 80 (List.map Node.row l)),(5003,.row 1 5 (List.map (rI .u8) keyv)),(5004,.row 1 3 (List.map (rI .i64) l1)),(1000000,.box [dR2 a]),(1000001,.box [.fn 97 [.box 1000002 0]]),(1000002,.box [dR2 al,dI ah,dL aj,dL aa]),(1000003,.box [.map 1000004]),(1000004,mOb (.ints 3) Ak.key (uL (L.int .i64)) mp),(1000005,.box [dI a2]),(1000006,.box [.fn 162 [.box 1000000 0,.box 1000001 0,.box 1000003 0,.box 1000005 0,.box 1000006 0,.box 1000007 0,.box 1000009 0,.box 1000011 0]]),(1000007,.box [.fn 96 [.box 1000008 0]]),(1000008,.box [dI cv]),(1000009,.box [.map 1000010]),(1000010,mOb .str kS (uL (L.int .i64)) mp1),(1000011,.box [dI ai,dR2 am,.own 5000])]) stt Z O):Swp Tryz.prog cx (.loop (bq [1,1,1,1,1,0,1,0,0] (aU Tryz.f162))) Z O (aV cx rcv p a al ah aj aa a2 cv ai am u tt):=by
 refine bc hE hh (aV cx rcv p a al ah aj aa a2 cv ai am u) ?_
 rintro⟨a3,l,keyv,l1,mp,mp1⟩ r hm Z O hf
 simp only[Fits,aR,aQ,and_true] at hf
 unfold b_totaltree_build_totaltree_sum_1_o_o_o_o_o_o_o_o_1 at hm
 dsimp only at hm
 refine srs hn ?_
 simp -dsimp [hf]
 refine aD ?_
 rcases aM hm with ⟨c5,hm⟩ | ⟨c5,hm⟩
 ·refine aI (by simp -dsimp) c5 ?_
  refine aF (aC (aD (aH ?_)))
  refine srs hn ?_
  simp -dsimp [hf,c5]
  refine fe aP mixed 10 11 12 0 [[0,1,2,3]] [[]] [true] none (by rw[hn]; kernel_rfl) dc ?_
  dsimp only [List.take,List.drop,dz,dT,eX,pk,List.cons_append,List.nil_append,List.flatten_cons,List.flatten_nil,cz,cA,List.append_nil]
  obtain⟨y,h6,hm⟩:=bnd hm
  simp -dsimp [hf]
  refine callE_g (fN p.s p.at_ a3 cv y h6) [1000008] [] rfl rfl rfl (by simp -dsimp) rfl (by simp -dsimp [hf]) (by first | rfl | simp) rfl (dkL hn) rfl rfl (by simp) nofun (by simp) ?_
  obtain⟨y1,h7,hm⟩:=bnd hm
  simp -dsimp [hf]
  refine clg (hrcv (⟨(aO .i64 p.at_ 1),⟨y.1,y.2⟩⟩:Ak) a al ah aj aa mp a2 cv mp1 ai am l y1 h7) [1000000,1000001,1000002,1000003,1000004,1000005,1000006,1000007,1000008,1000009,1000010,1000011,5000] [5001] (by simp -dsimp [hf]) (dkL hn) ?_
  simp -dsimp
  refine srs hn ?_
  obtain⟨l2,h8,hm⟩:=bnd hm
  obtain⟨h8a,h8e⟩:=aS h8
  replace h8e:=h8e.symm
  subst h8e
  try simp only[List.length_cons,List.length_nil,Nat.zero_add] at h8a
  simp -dsimp [hf,h8a]
  refine sr1 hn ?_
  obtain⟨l3,h9,hm⟩:=bnd hm
  obtain⟨h9a,h9e⟩:=aS h9
  replace h9e:=h9e.symm
  subst h9e
  try simp only[List.length_cons,List.length_nil,Nat.zero_add] at h9a
  try simp only[Nat.mul_one,Nat.reduceLeDiff] at h9a
  obtain⟨y2,h10,hm⟩:=bnd hm
  simp -dsimp [hf,h9a]
  refine clg (co (keyv++[32]) y1.1 10 y2 h10) [71] [5002] (by simp -dsimp) (dkL hn) ?_
  simp -dsimp
  refine bp ?_
  refine aC ?_
  refine sr1 hn ?_
  simp -dsimp [hf]
  cases hm
  refine bO ?_
  refine emv 5002 5003 ?_
  refine emv 67 5004 ?_
  refine emv 5001 5000 ?_
  exact zz
 ·exact zz
theorem bL (rcv:(Ak->(List Point)->(List Point)->Int->(List Int)->(List Int)->(List (Ak×Int))->Int->Int->(List (List UInt8×Int))->Int->(List Point)->(List Node)->Option (Int×(List (Ak×Int))×(List (List UInt8×Int))×(List Node)))) (hrcv:aX rcv) (p:Ak) (a al:List Point) (ah:Int) (aj aa:List Int) (a1:List (Ak×Int)) (a2 cv:Int) (cv1:List (List UInt8×Int)) (ai:Int) (am:List Point) (av:List Node) (r:Int×(List (Ak×Int))×(List (List UInt8×Int))×(List Node)) (hm:mb_totaltree_build_totaltree_sum_1_o_o_o_o_o_o_o_o rcv p a al ah aj aa a1 a2 cv cv1 ai am av=some r):GFn Tryz.prog 162 [.u (.agg [dI p.at_,dI p.s.ones,dI p.s.centre]),vX 1000000,vX 1000001,vX 1000003,vX 1000005,vX 1000006,vX 1000007,vX 1000009,vX 1000011] [.box [dR2 a],.box [.fn 97 [.box 1000002 0]],.box [dR2 al,dI ah,dL aj,dL aa],.box [.map 1000004],mOb (.ints 3) Ak.key (uL (L.int .i64)) a1,.box [dI a2],.box [.fn 162 [.box 1000000 0,.box 1000001 0,.box 1000003 0,.box 1000005 0,.box 1000006 0,.box 1000007 0,.box 1000009 0,.box 1000011 0]],.box [.fn 96 [.box 1000008 0]],.box [dI cv],.box [.map 1000010],mOb .str kS (uL (L.int .i64)) cv1,.box [dI ai,dR2 am,.own 1000012],.row 2 80 (List.map Node.row av)] (vI r.1) [some (.box [dR2 a]),some (.box [.fn 97 [.box 1000002 0]]),some (.box [dR2 al,dI ah,dL aj,dL aa]),some (.box [.map 1000004]),some (mOb (.ints 3) Ak.key (uL (L.int .i64)) r.2.1),some (.box [dI a2]),some (.box [.fn 162 [.box 1000000 0,.box 1000001 0,.box 1000003 0,.box 1000005 0,.box 1000006 0,.box 1000007 0,.box 1000009 0,.box 1000011 0]]),some (.box [.fn 96 [.box 1000008 0]]),some (.box [dI cv]),some (.box [.map 1000010]),some (mOb .str kS (uL (L.int .i64)) r.2.2.1),some (.box [dI ai,dR2 am,.own 1000013]),none,some (.row 2 80 (List.map Node.row r.2.2.2))]:=by
 refine bu aP _ Tryz.func162 rfl (by kernel_rfl) (by simp[Tryz.ntmps162]) (by simp) (by first | rfl | simp) (by first | rfl | simp) fun cx hn hk=>?_
 replace hn:cx.n=101:=hn.trans Tryz.ntmps162
 replace hk:cx.k=13:=hk
 unfold mb_totaltree_build_totaltree_sum_1_o_o_o_o_o_o_o_o at hm
 refine srs hn ?_
 simp -dsimp
 refine aD ?_
 refine srs hn ?_
 simp -dsimp
 rcases aM hm with ⟨c1,hm⟩ | ⟨c1,hm⟩
 ·refine sct c1 ?_
  refine srs hn ?_
  obtain⟨y,h2,hm⟩:=bnd hm
  simp -dsimp [c1]
  refine callL_brw (us':=[.u (.agg [dI p.s.ones,dI p.s.centre]),.u (.one (.ref (Ai.row (⟨al,ah,aj,aa⟩:Ai)) 0))]) (c_totaltree_Totals_2 p.s (⟨al,ah,aj,aa⟩:Ai) y h2) (by simp -dsimp) rfl (dkL hn) ?_
  simp -dsimp
  refine b6 (dF ?_)
  cases hm
  refine⟨.inr rfl,?_⟩
  refine emr 1000012 1000013 hk ?_
  exact zz
 ·refine scf c1 ?_
  refine aF (aC (aD ?_))
  refine srs hn ?_
  obtain⟨u,h3,hm⟩:=bnd hm
  simp -dsimp [c1,ct h3 (.head _),ct h3 (.tail _ (.head _)),ct h3 (.tail _ (.tail _ (.head _))),(@id (lkM (eH (mOb (.ints 3) Ak.key (uL (L.int .i64)) a1) (.ints [p.at_,p.s.ones,p.s.centre])) true (.one (dI 0))=some (.tup [.one (dI (bN a1 p 0)),.one (.d (.bool (cS a1 p)))])) (lk_two p 0))]
  refine srs hn ?_
  simp -dsimp
  rcases aM hm with ⟨c4,hm⟩ | ⟨c4,hm⟩
  ·refine aI (b:=(cS a1 p)) (by simp -dsimp) c4 ?_
   refine srs hn ?_
   simp -dsimp [c4]
   refine b6 (dF ?_)
   cases hm
   refine⟨.inr rfl,?_⟩
   refine emr 1000012 1000013 hk ?_
   exact zz
  ·refine aG (b:=(cS a1 p)) (by simp -dsimp) c4 ?_
   refine aF (aC ?_)
   refine srs hn ?_
   simp -dsimp [c4]
   refine sw_regBs aP 3 (by rw[hn]; kernel_rfl) ?_
   dsimp only [List.take,List.drop]
   simp -dsimp
   refine aD ?_
   refine srs hn ?_
   simp -dsimp
   refine aH ?_
   obtain⟨⟨l,keyv,l1,mp,mp1⟩,g11,hm⟩:=bnd hm
   refine aW (bJ cx hn hk rcv p a al ah aj aa a2 cv ai am u hrcv g11) (by
     try dsimp only
     refine emv 45 5003 ?_
     refine emv 1000012 5000 ?_
     refine EE.step (Wk.own0b 13 1 5004 1 3 [dI (aL .i64 (aB a) p.at_),.d .nil] (by simp -dsimp) (by rfl) (by decide) (by decide)) ?_
     exact zz
   ) fun ee Z O xx=>?_
   unfold aV at xx
   dsimp only at xx
   obtain⟨rfl,xx⟩:=xx
   refine bj ?_
   refine aC ?_
   refine see xx fun Z O hf=>?_
   simp only[Fits,aR,aQ,and_true] at hf
   refine srs hn ?_
   obtain⟨u1,h12,hm⟩:=bnd hm
   simp -dsimp [hf,fo h12,(@id (lkM (eH (mOb .str kS (uL (L.int .i64)) mp1) (.str (ofBytes keyv))) true (.one (dI 0))=some (.tup [.one (dI (bN mp1 (ofBytes keyv) 0)),.one (.d (.bool (cS mp1 (ofBytes keyv))))])) (lk_two (ofBytes keyv) 0))]
   obtain⟨⟨idv,mp2,l2⟩,j15,hm⟩:=bnd hm
   refine scE [(3,vX 1000003),(9,vX 9),(17,vI idv)] [(9,.box [dI p.at_,dI p.s.ones,dI p.s.centre]),(5000,.row 2 80 (List.map Node.row l2)),(1000000,.box [dR2 a]),(1000001,.box [.fn 97 [.box 1000002 0]]),(1000002,.box [dR2 al,dI ah,dL aj,dL aa]),(1000003,.box [.map 1000004]),(1000004,mOb (.ints 3) Ak.key (uL (L.int .i64)) mp),(1000005,.box [dI a2]),(1000006,.box [.fn 162 [.box 1000000 0,.box 1000001 0,.box 1000003 0,.box 1000005 0,.box 1000006 0,.box 1000007 0,.box 1000009 0,.box 1000011 0]]),(1000007,.box [.fn 96 [.box 1000008 0]]),(1000008,.box [dI cv]),(1000009,.box [.map 1000010]),(1000010,mOb .str kS (uL (L.int .i64)) mp2),(1000011,.box [dI ai,dR2 am,.own 5000])] ?_ fun Z O hf=>?_
   ·replace hm:=j15
    clear j15
    refine srs hn ?_
    simp -dsimp
    rcases aM hm with ⟨c13,hm⟩ | ⟨c13,hm⟩
    ·refine aI (b:=(ba (cS mp1 (ofBytes keyv)))) (by simp -dsimp) c13 ?_
     refine srs hn ?_
     simp -dsimp [hf,c13]
     refine Swp.pre (Wk.frz 5004 1 3 (List.map (rI .i64) l1) (by simp -dsimp [hf])) ?_
     refine srs hn ?_
     obtain⟨l2,h14,hm⟩:=bnd hm
     obtain⟨h14a,h14e⟩:=aS h14
     replace h14e:=h14e.symm
     subst h14e
     try simp only[List.length_cons,List.length_nil,Nat.zero_add] at h14a
     simp -dsimp [hf,h14a]
     refine sr1 hn ?_
     simp -dsimp [hf,fo h12,(@id (fM (mOb .str kS (uL (L.int .i64)) mp1) (.str (ofBytes keyv)) (.one (dI (aB l)))=mOb .str kS (uL (L.int .i64)) (cP mp1 (ofBytes keyv) (aB l))) (mset_ob .str kS (uL (L.int .i64)) mp1 (ofBytes keyv) (aB l)))]
     refine aC ?_
     cases hm
     refine emv 91 5000 ?_
     exact zz
    ·exact zz
   ·clear j15
    simp only[Fits,aR,aQ,and_true] at hf
    refine srs hn ?_
    simp -dsimp [hf,ct h3 (.head _),ct h3 (.tail _ (.head _)),ct h3 (.tail _ (.tail _ (.head _))),(@id (fM (mOb (.ints 3) Ak.key (uL (L.int .i64)) mp) (.ints [p.at_,p.s.ones,p.s.centre]) (.one (dI idv))=mOb (.ints 3) Ak.key (uL (L.int .i64)) (cP mp p idv)) (mset_ob (.ints 3) Ak.key (uL (L.int .i64)) mp p idv))]
    refine srs hn ?_
    simp -dsimp [hf]
    refine b6 ?_
    cases hm
    refine⟨.inr rfl,?_⟩
    refine emr 5000 1000013 hk ?_
    exact zz
theorem bQ (p:Ak) (a al:List Point) (ah:Int) (aj aa:List Int) (a1:List (Ak×Int)) (a2 cv:Int) (cv1:List (List UInt8×Int)) (ai:Int) (am:List Point) (av:List Node) (r:Int×(List (Ak×Int))×(List (List UInt8×Int))×(List Node)) (hm:m_totaltree_build_totaltree_sum_1_o_o_o_o_o_o_o_o p a al ah aj aa a1 a2 cv cv1 ai am av=some r):GFn Tryz.prog 162 [.u (.agg [dI p.at_,dI p.s.ones,dI p.s.centre]),vX 1000000,vX 1000001,vX 1000003,vX 1000005,vX 1000006,vX 1000007,vX 1000009,vX 1000011] [.box [dR2 a],.box [.fn 97 [.box 1000002 0]],.box [dR2 al,dI ah,dL aj,dL aa],.box [.map 1000004],mOb (.ints 3) Ak.key (uL (L.int .i64)) a1,.box [dI a2],.box [.fn 162 [.box 1000000 0,.box 1000001 0,.box 1000003 0,.box 1000005 0,.box 1000006 0,.box 1000007 0,.box 1000009 0,.box 1000011 0]],.box [.fn 96 [.box 1000008 0]],.box [dI cv],.box [.map 1000010],mOb .str kS (uL (L.int .i64)) cv1,.box [dI ai,dR2 am,.own 1000012],.row 2 80 (List.map Node.row av)] (vI r.1) [some (.box [dR2 a]),some (.box [.fn 97 [.box 1000002 0]]),some (.box [dR2 al,dI ah,dL aj,dL aa]),some (.box [.map 1000004]),some (mOb (.ints 3) Ak.key (uL (L.int .i64)) r.2.1),some (.box [dI a2]),some (.box [.fn 162 [.box 1000000 0,.box 1000001 0,.box 1000003 0,.box 1000005 0,.box 1000006 0,.box 1000007 0,.box 1000009 0,.box 1000011 0]]),some (.box [.fn 96 [.box 1000008 0]]),some (.box [dI cv]),some (.box [.map 1000010]),some (mOb .str kS (uL (L.int .i64)) r.2.2.1),some (.box [dI ai,dR2 am,.own 1000013]),none,some (.row 2 80 (List.map Node.row r.2.2.2))]:=recN_ind aX (by intro _; intro _; intro _; intro _; intro _; intro _; intro _; intro _; intro _; intro _; intro _; intro _; intro _; intro _; intro hm; cases hm) bL recF p a al ah aj aa a1 a2 cv cv1 ai am av r hm
theorem be (states:Int) (l:List Point) (start:Aj) (cv:Int) (al:List Point) (ah:Int) (aj aa:List Int) (r:List Node) (hm:m_totaltree_build_totaltree_sum_totaltree_Totals_1_o_totaltree_Totals_2_o states l start cv al ah aj aa=some r):GFn Tryz.prog 99 [vI states,.u (.one (dR2 l)),.u (.agg [dI start.ones,dI start.centre]),.u (.one (.fn 96 [.box 1000000 0])),.u (.one (.fn 97 [.box 1000001 0]))] [.box [dI cv],.box [dR2 al,dI ah,dL aj,dL aa]] (.u (.agg [dI states,dR2 l,dR1 r])) [some (.box [dI cv]),some (.box [dR2 al,dI ah,dL aj,dL aa])]:=by
 refine bu aP _ Tryz.func99 rfl (by kernel_rfl) (by simp[Tryz.ntmps99]) (by simp) (by first | rfl | simp) (by first | rfl | simp) fun cx hn hk=>?_
 replace hn:cx.n=26:=hn.trans Tryz.ntmps99
 replace hk:cx.k=2:=hk
 unfold m_totaltree_build_totaltree_sum_totaltree_Totals_1_o_totaltree_Totals_2_o at hm
 refine srs hn ?_
 simp -dsimp
 refine srs hn ?_
 simp -dsimp
 refine srs hn ?_
 simp -dsimp [(@id (Ob.map (.ints 3) []=mOb (.ints 3) Ak.key (uL (L.int .i64)) ([]:List (Ak×Int))) (fq (.ints 3) Ak.key (uL (L.int .i64))))]
 refine srs hn ?_
 simp -dsimp [(@id (Ob.map .str []=mOb .str kS (uL (L.int .i64)) ([]:List (List UInt8×Int))) (fq .str kS (uL (L.int .i64))))]
 refine srs hn ?_
 simp -dsimp
 refine srs hn ?_
 simp -dsimp
 refine Swp.pre (Wk.own0b 10 2 5000 2 80 [dI 0,.d .nil,.d .nil] (by simp -dsimp) (by rfl) (by decide) (by decide)) ?_
 refine Swp.pre (Wk.own0b 11 2 5001 2 80 [dI states,dR2 l,.d .nil] (by simp -dsimp) (by rfl) (by decide) (by decide)) ?_
 refine srs hn ?_
 obtain⟨y,h1,hm⟩:=bnd hm
 simp -dsimp
 refine callL_g (bQ (⟨0,⟨start.ones,start.centre⟩⟩:Ak) l al ah aj aa [] states cv [] states l [] y h1) [6,9,1000001,12,18,5,14,8,1000000,13,19,11,5001] [5002] rfl rfl rfl (by simp -dsimp) rfl (by simp -dsimp) (by first | rfl | simp) rfl (dkL hn) ?_
 simp -dsimp
 refine Swp.pre (Wk.frz 5002 2 80 (List.map Node.row y.2.2.2) (by simp -dsimp)) ?_
 exact zz
theorem c_totaltree_Totals (x:Ai) (r:Tree×Int) (hm:m_totaltree_Totals x=some r):PureCall Tryz.prog 39 [.u (.agg [dR2 x.Hood,dI x.States,dL x.Birth,dL x.Survive])] (.tup [.agg [dI r.1.States,dR2 r.1.Hood,dR1 r.1.Nodes],.one (dI r.2)]):=by
 refine b8 Tryz.func39 Tryz.ntmps39 fun cx hn=>?_
 unfold m_totaltree_Totals at hm
 refine srs hn ?_
 simp -dsimp
 refine aD ?_
 refine srs hn ?_
 obtain⟨y,h1,hm⟩:=bnd hm
 simp -dsimp
 refine aA (fj x y h1) (dkL hn) ?_
 simp -dsimp
 rcases aM hm with ⟨c2,hm⟩ | ⟨c2,hm⟩
 ·exact zz
 ·refine aG (by simp -dsimp) c2 ?_
  refine aF (aC ?_)
  refine srs hn ?_
  obtain⟨y1,h3,hm⟩:=bnd hm
  simp -dsimp [c2]
  refine aA (c_hood_Centre x.Hood y1 h3) (dkL hn) ?_
  simp -dsimp
  refine srs hn ?_
  simp -dsimp
  refine srs hn ?_
  simp -dsimp
  refine sw_drNs aP mixed 8 (by rw[hn]; kernel_rfl) ?_
  dsimp only [List.take,List.drop]
  obtain⟨y2,h4,hm⟩:=bnd hm
  simp -dsimp
  refine aJ (bM x.Hood y2 h4) ?_
  obtain⟨y3,h5,hm⟩:=bnd hm
  simp -dsimp
  refine clg (be x.States y2 (⟨0,0⟩:Aj) y1 x.Hood x.States x.Birth x.Survive y3 h5) [4,1] [] (by simp -dsimp) (dkL hn) ?_
  exact zz
theorem c_notation_Parse (s:List UInt8) (r:Tree×Int) (hm:m_notation_Parse s=some r):PureCall Tryz.prog 16 [.u (.one (.d (.str (bs s))))] (.tup [.agg [dI r.1.States,dR2 r.1.Hood,dR1 r.1.Nodes],.one (dI r.2)]):=by
 refine b8 Tryz.func16 Tryz.ntmps16 fun cx hn=>?_
 unfold m_notation_Parse at hm
 refine srs hn ?_
 simp -dsimp
 refine aD ?_
 refine srs hn ?_
 obtain⟨y,h1,hm⟩:=bnd hm
 simp -dsimp
 refine aA (c_notation_Kind s y h1) (dkL hn) ?_
 simp -dsimp
 refine srs hn ?_
 simp -dsimp
 refine aH ?_
 obtain⟨a,j12,hm⟩:=bnd hm
 refine scE [(0,.u (.one (.d (.str (bs s))))),(2,vX 2),(4,vI y),(17,vI y),(18,vT a)] [(2,.box [dI 0,.d .nil,.d .nil])] ?_ fun Z O hf=>?_
 ·replace hm:=j12
  clear j12
  exact zz
 ·clear j12
  simp only[Fits,aR,aQ,and_true] at hf
  rcases aM hm with ⟨c3,hm⟩ | ⟨c3,hm⟩
  ·refine aI (by simp -dsimp [hf]) c3 ?_
   refine srs hn ?_
   simp -dsimp
   refine aD ?_
   refine srs hn ?_
   simp -dsimp [hf]
   rcases aM hm with ⟨c4,hm⟩ | ⟨c4,hm⟩
   ·exact zz
   ·refine aG (by simp -dsimp) c4 ?_
    refine aF (aC ?_)
    refine srs hn ?_
    obtain⟨y1,h5,hm⟩:=bnd hm
    simp -dsimp [hf,c4]
    refine aA (fi s y1 h5) (dkL hn) ?_
    simp -dsimp
    refine aD ?_
    refine srs hn ?_
    simp -dsimp
    rcases aM hm with ⟨c6,hm⟩ | ⟨c6,hm⟩
    ·exact zz
    ·refine aG (by simp -dsimp) c6 ?_
     refine aF (aC ?_)
     refine srs hn ?_
     obtain⟨y2,h7,hm⟩:=bnd hm
     simp -dsimp [c6]
     refine aA (c_totaltree_Totals y1.1 y2 h7) (dkL hn) ?_
     exact zz
  ·refine aG (by simp -dsimp [hf]) c3 ?_
   obtain⟨a1,j11,hm⟩:=bnd hm
   refine scE [(0,.u (.one (.d (.str (bs s))))),(2,vX 2),(4,vI y),(17,vI y),(37,vT a1)] [(2,.box [dI 0,.d .nil,.d .nil])] ?_ fun Z O hf=>?_
   ·replace hm:=j11
    clear j11
    exact zz
   ·clear j11
    exact zz
theorem c_L50_glider (r:Ship) (hm:m_L50_glider=some r):PureCall Tryz.prog 17 [] (.u (.agg [dR0 r.Cells,dI r.Motion.Period,dI r.Motion.DX,dI r.Motion.DY])):=by
 refine b8 Tryz.func17 Tryz.ntmps17 fun cx hn=>?_
 unfold m_L50_glider at hm
 exact zz
end Go.Proofs.YtffohfmfehjbmaaGreatDoor
