/- That the code does what the functions say (made by cc.py). -/
import Derived.Test.YtlcdmiapdfdcaaaGreatDoorWa4
namespace Go.Proofs.YtlcdmiapdfdcaaaGreatDoor
open Go.AM Go.Proofs
set_option maxRecDepth 100000
attribute [-simp] qlookup cR dQ Ob.wipe Ob.ren Ob.frz1
def bB (rcv:(Ax->(List Point)->(List Point)->Int->(List Int)->(List Int)->(List (Ax×Int))->Int->Int->(List (List UInt8×Int))->Int->(List Point)->(List Node)->Option (Int×(List (Ax×Int))×(List (List UInt8×Int))×(List Node)))):Prop:=∀ (p:Ax) (a ae:List Point) (a8:Int) (av ah:List Int) (a1:List (Ax×Int)) (a2 cv:Int) (cv1:List (List UInt8×Int)) (au:Int) (ay:List Point) (aq:List Node) (r:Int×(List (Ax×Int))×(List (List UInt8×Int))×(List Node)),rcv p a ae a8 av ah a1 a2 cv cv1 au ay aq = some r->GFn Tryz.prog 133 [.u (.agg [dI p.at_,dI p.s.ones,dI p.s.centre]),vX 1000000,vX 1000001,vX 1000003,vX 1000005,vX 1000006,vX 1000007,vX 1000009,vX 1000011] [.box [dR1 a],.box [.fn 79 [.box 1000002 0]],.box [dR1 ae,dI a8,dL av,dL ah],.box [.map 1000004],mOb (.ints 3) Ax.key (uL (L.int .i64)) a1,.box [dI a2],.box [.fn 133 [.box 1000000 0,.box 1000001 0,.box 1000003 0,.box 1000005 0,.box 1000006 0,.box 1000007 0,.box 1000009 0,.box 1000011 0]],.box [.fn 78 [.box 1000008 0]],.box [dI cv],.box [.map 1000010],mOb .str kS (uL (L.int .i64)) cv1,.box [dI au,dR1 ay,.own 1000012],.row 2 37 (List.map Node.row aq)] (vI r.1) [some (.box [dR1 a]),some (.box [.fn 79 [.box 1000002 0]]),some (.box [dR1 ae,dI a8,dL av,dL ah]),some (.box [.map 1000004]),some (mOb (.ints 3) Ax.key (uL (L.int .i64)) r.2.1),some (.box [dI a2]),some (.box [.fn 133 [.box 1000000 0,.box 1000001 0,.box 1000003 0,.box 1000005 0,.box 1000006 0,.box 1000007 0,.box 1000009 0,.box 1000011 0]]),some (.box [.fn 78 [.box 1000008 0]]),some (.box [dI cv]),some (.box [.map 1000010]),some (mOb .str kS (uL (L.int .i64)) r.2.2.1),some (.box [dI au,dR1 ay,.own 1000013]),none,some (.row 2 37 (List.map Node.row r.2.2.2))]
def bj (cx:Cx) (_rcv:(Ax->(List Point)->(List Point)->Int->(List Int)->(List Int)->(List (Ax×Int))->Int->Int->(List (List UInt8×Int))->Int->(List Point)->(List Node)->Option (Int×(List (Ax×Int))×(List (List UInt8×Int))×(List Node)))) (p:Ax) (a ae:List Point) (a8:Int) (av ah:List Int) (a2 cv au:Int) (ay:List Point) (_u:Unit) (tt:((List Node)×(List Int)×(List Int)×(List (Ax×Int))×(List (List UInt8×Int)))) (ee:Exit) (O:Env) (G:Sto):Prop:=match tt with
 | (l,keyv,l1,mp,mp1)=>ee = .exit 0 /\ EE cx (bw [(3,vX 1000003),(7,vX 1000009),(8,vX 1000011),(9,vX 9),(13,vX 13),(14,vO 5003)] [(9,.box [dI p.at_,dI p.s.ones,dI p.s.centre]),(13,.box [dI (bp .i64 (aX a) p.at_),.own 5004]),(5000,.row 2 37 (List.map Node.row l)),(5003,.row 1 5 (List.map (rI .u8) keyv)),(5004,.row 1 3 (List.map (rI .i64) l1)),(1000000,.box [dR1 a]),(1000001,.box [.fn 79 [.box 1000002 0]]),(1000002,.box [dR1 ae,dI a8,dL av,dL ah]),(1000003,.box [.map 1000004]),(1000004,mOb (.ints 3) Ax.key (uL (L.int .i64)) mp),(1000005,.box [dI a2]),(1000006,.box [.fn 133 [.box 1000000 0,.box 1000001 0,.box 1000003 0,.box 1000005 0,.box 1000006 0,.box 1000007 0,.box 1000009 0,.box 1000011 0]]),(1000007,.box [.fn 78 [.box 1000008 0]]),(1000008,.box [dI cv]),(1000009,.box [.map 1000010]),(1000010,mOb .str kS (uL (L.int .i64)) mp1),(1000011,.box [dI au,dR1 ay,.own 5000])]) O G
theorem cK (cx:Cx) (hn:cx.n = 101) (_hk:cx.k = 13) (rcv:(Ax->(List Point)->(List Point)->Int->(List Int)->(List Int)->(List (Ax×Int))->Int->Int->(List (List UInt8×Int))->Int->(List Point)->(List Node)->Option (Int×(List (Ax×Int))×(List (List UInt8×Int))×(List Node)))) (p:Ax) (a ae:List Point) (a8:Int) (av ah:List Int) (a2 cv au:Int) (ay:List Point) (u:Unit) (aH:bB rcv) {fu:Nat} {stt:Int×(List Node)×(List Int)×(List Int)×(List (Ax×Int))×(List (List UInt8×Int))} {tt:((List Node)×(List Int)×(List Int)×(List (Ax×Int))×(List (List UInt8×Int)))} (hh:aV (b_totaltree_build_totaltree_sum_1_o_o_o_o_o_o_o_o_1 rcv p a ae a8 av ah a2 cv au ay u) fu stt = some tt) {O:Env} {G:Sto}
  (hE:bH (fun stt:Int×(List Node)×(List Int)×(List Int)×(List (Ax×Int))×(List (List UInt8×Int))=>match stt with | (a3,_l,_keyv,_l1,_mp,_mp1)=>[(3,vX 1000003),(5,vX 1000006),(6,vX 1000007),(7,vX 1000009),(8,vX 1000011),(9,vX 9),(13,vX 13),(14,vO 5003),(46,vI a2),(47,vI a3)]) (fun stt:Int×(List Node)×(List Int)×(List Int)×(List (Ax×Int))×(List (List UInt8×Int))=>match stt with | (_a3,l,keyv,l1,mp,mp1)=>[(9,.box [dI p.at_,dI p.s.ones,dI p.s.centre]),(13,.box [dI (bp .i64 (aX a) p.at_),.own 5004]),(5000,.row 2 37 (List.map Node.row l)),(5003,.row 1 5 (List.map (rI .u8) keyv)),(5004,.row 1 3 (List.map (rI .i64) l1)),(1000000,.box [dR1 a]),(1000001,.box [.fn 79 [.box 1000002 0]]),(1000002,.box [dR1 ae,dI a8,dL av,dL ah]),(1000003,.box [.map 1000004]),(1000004,mOb (.ints 3) Ax.key (uL (L.int .i64)) mp),(1000005,.box [dI a2]),(1000006,.box [.fn 133 [.box 1000000 0,.box 1000001 0,.box 1000003 0,.box 1000005 0,.box 1000006 0,.box 1000007 0,.box 1000009 0,.box 1000011 0]]),(1000007,.box [.fn 78 [.box 1000008 0]]),(1000008,.box [dI cv]),(1000009,.box [.map 1000010]),(1000010,mOb .str kS (uL (L.int .i64)) mp1),(1000011,.box [dI au,dR1 ay,.own 5000])]) stt O G):Swp Tryz.prog cx (.loop (cr [1,1,1,1,1,0,1,0,0] (bq Tryz.f133))) O G (bj cx rcv p a ae a8 av ah a2 cv au ay u tt):=by
 refine bL hE hh (bj cx rcv p a ae a8 av ah a2 cv au ay u) ?_
 rintro ⟨a3,l,keyv,l1,mp,mp1⟩ r hm O G hf
 simp only [Fits,ba,bb,and_true] at hf
 unfold b_totaltree_build_totaltree_sum_1_o_o_o_o_o_o_o_o_1 at hm
 dsimp only at hm
 refine srs hn ?_
 simp -dsimp [hf]
 refine aU ?_
 rcases aZ hm with ⟨c5,hm⟩ | ⟨c5,hm⟩
 ·refine aQ (by simp -dsimp) c5 ?_
  refine aS (aO (aU (aY ?_)))
  refine srs hn ?_
  simp -dsimp [hf,c5]
  refine sw_midcs bA mixed 10 11 12 0 [[0,1,2,3]] [[]] [true] none (by rw [hn]; kernel_rfl) fP ?_
  dsimp only [List.take,List.drop,fC,fT,uopsD,pk,List.cons_append,List.nil_append,List.flatten_cons,List.flatten_nil,eR,eT,List.append_nil]
  obtain ⟨y,h6,hm⟩:=bnd hm
  simp -dsimp [hf]
  refine callE_g (gX p.s p.at_ a3 cv y h6) [1000008] [] rfl rfl rfl (by simp -dsimp) rfl (by simp -dsimp [hf]) (by first | rfl | simp) rfl (dkL hn) rfl rfl (by simp) nofun (by simp) ?_
  obtain ⟨y1,h7,hm⟩:=bnd hm
  simp -dsimp [hf]
  refine clg (aH (⟨(bP .i64 p.at_ 1),⟨y.1,y.2⟩⟩:Ax) a ae a8 av ah mp a2 cv mp1 au ay l y1 h7) [1000000,1000001,1000002,1000003,1000004,1000005,1000006,1000007,1000008,1000009,1000010,1000011,5000] [5001] (by simp -dsimp [hf]) (dkL hn) ?_
  simp -dsimp
  refine srs hn ?_
  obtain ⟨l2,h8,hm⟩:=bnd hm
  obtain ⟨h8a,h8e⟩:=bm h8
  replace h8e:=h8e.symm
  subst h8e
  try simp only [List.length_cons,List.length_nil,Nat.zero_add] at h8a
  simp -dsimp [hf,h8a]
  refine sr1 hn ?_
  obtain ⟨l3,h9,hm⟩:=bnd hm
  obtain ⟨h9a,h9e⟩:=bm h9
  replace h9e:=h9e.symm
  subst h9e
  try simp only [List.length_cons,List.length_nil,Nat.zero_add] at h9a
  try simp only [Nat.mul_one,Nat.reduceLeDiff] at h9a
  obtain ⟨y2,h10,hm⟩:=bnd hm
  simp -dsimp [hf,h9a]
  refine clg (cz (keyv ++ [32]) y1.1 10 y2 h10) [71] [5002] (by simp -dsimp) (dkL hn) ?_
  simp -dsimp
  refine bh ?_
  refine aO ?_
  refine sr1 hn ?_
  simp -dsimp [hf]
  cases hm
  refine bf ?_
  refine emv 5002 5003 ?_
  refine emv 67 5004 ?_
  refine emv 5001 5000 ?_
  exact EE.here (by simp -dsimp [hf])
 ·refine aP (by simp -dsimp) c5 ?_
  refine bd ?_
  refine aW ?_
  cases hm
  refine be nofun ?_
  exact ⟨rfl,EE.here (by simp -dsimp [hf,c5])⟩
theorem cP (rcv:(Ax->(List Point)->(List Point)->Int->(List Int)->(List Int)->(List (Ax×Int))->Int->Int->(List (List UInt8×Int))->Int->(List Point)->(List Node)->Option (Int×(List (Ax×Int))×(List (List UInt8×Int))×(List Node)))) (aH:bB rcv) (p:Ax) (a ae:List Point) (a8:Int) (av ah:List Int) (a1:List (Ax×Int)) (a2 cv:Int) (cv1:List (List UInt8×Int)) (au:Int) (ay:List Point) (aq:List Node) (r:Int×(List (Ax×Int))×(List (List UInt8×Int))×(List Node)) (hm:mb_totaltree_build_totaltree_sum_1_o_o_o_o_o_o_o_o rcv p a ae a8 av ah a1 a2 cv cv1 au ay aq = some r):GFn Tryz.prog 133 [.u (.agg [dI p.at_,dI p.s.ones,dI p.s.centre]),vX 1000000,vX 1000001,vX 1000003,vX 1000005,vX 1000006,vX 1000007,vX 1000009,vX 1000011] [.box [dR1 a],.box [.fn 79 [.box 1000002 0]],.box [dR1 ae,dI a8,dL av,dL ah],.box [.map 1000004],mOb (.ints 3) Ax.key (uL (L.int .i64)) a1,.box [dI a2],.box [.fn 133 [.box 1000000 0,.box 1000001 0,.box 1000003 0,.box 1000005 0,.box 1000006 0,.box 1000007 0,.box 1000009 0,.box 1000011 0]],.box [.fn 78 [.box 1000008 0]],.box [dI cv],.box [.map 1000010],mOb .str kS (uL (L.int .i64)) cv1,.box [dI au,dR1 ay,.own 1000012],.row 2 37 (List.map Node.row aq)] (vI r.1) [some (.box [dR1 a]),some (.box [.fn 79 [.box 1000002 0]]),some (.box [dR1 ae,dI a8,dL av,dL ah]),some (.box [.map 1000004]),some (mOb (.ints 3) Ax.key (uL (L.int .i64)) r.2.1),some (.box [dI a2]),some (.box [.fn 133 [.box 1000000 0,.box 1000001 0,.box 1000003 0,.box 1000005 0,.box 1000006 0,.box 1000007 0,.box 1000009 0,.box 1000011 0]]),some (.box [.fn 78 [.box 1000008 0]]),some (.box [dI cv]),some (.box [.map 1000010]),some (mOb .str kS (uL (L.int .i64)) r.2.2.1),some (.box [dI au,dR1 ay,.own 1000013]),none,some (.row 2 37 (List.map Node.row r.2.2.2))]:=by
 refine cy bA _ Tryz.func133 rfl (by kernel_rfl) (by simp [Tryz.ntmps133]) (by simp) (by first | rfl | simp) (by first | rfl | simp) fun cx hn hk=>?_
 replace hn:cx.n = 101:=hn.trans Tryz.ntmps133
 replace hk:cx.k = 13:=hk
 unfold mb_totaltree_build_totaltree_sum_1_o_o_o_o_o_o_o_o at hm
 refine srs hn ?_
 simp -dsimp
 refine aU ?_
 refine srs hn ?_
 simp -dsimp
 rcases aZ hm with ⟨c1,hm⟩ | ⟨c1,hm⟩
 ·refine sct c1 ?_
  refine srs hn ?_
  obtain ⟨y,h2,hm⟩:=bnd hm
  simp -dsimp [c1]
  refine fQ (us':=[.u (.agg [dI p.s.ones,dI p.s.centre]),.u (.one (.ref (Av.row (⟨ae,a8,av,ah⟩:Av)) 0))]) (c_totaltree_Totals_2 p.s (⟨ae,a8,av,ah⟩:Av) y h2) (by simp -dsimp) rfl (dkL hn) ?_
  simp -dsimp
  refine aT (aW ?_)
  cases hm
  refine ⟨.inr rfl,?_⟩
  refine emr 1000012 1000013 hk ?_
  exact EE.here (by simp -dsimp)
 ·refine scf c1 ?_
  refine aS (aO (aU ?_))
  refine srs hn ?_
  obtain ⟨u,h3,hm⟩:=bnd hm
  simp -dsimp [c1,dA h3 (.head _),dA h3 (.tail _ (.head _)),dA h3 (.tail _ (.tail _ (.head _))),(@id (lkM (fw (mOb (.ints 3) Ax.key (uL (L.int .i64)) a1) (.ints [p.at_,p.s.ones,p.s.centre])) true (.one (dI 0)) = some (.tup [.one (dI (eD a1 p 0)),.one (.d (.bool (ct a1 p)))])) (lk_two p 0))]
  refine srs hn ?_
  simp -dsimp
  rcases aZ hm with ⟨c4,hm⟩ | ⟨c4,hm⟩
  ·refine aQ (b:=(ct a1 p)) (by simp -dsimp) c4 ?_
   refine srs hn ?_
   simp -dsimp [c4]
   refine aT (aW ?_)
   cases hm
   refine ⟨.inr rfl,?_⟩
   refine emr 1000012 1000013 hk ?_
   exact EE.here (by simp -dsimp)
  ·refine aP (b:=(ct a1 p)) (by simp -dsimp) c4 ?_
   refine aS (aO ?_)
   refine srs hn ?_
   simp -dsimp [c4]
   refine sw_regBs bA 3 (by rw [hn]; kernel_rfl) ?_
   dsimp only [List.take,List.drop]
   simp -dsimp
   refine aU ?_
   refine srs hn ?_
   simp -dsimp
   refine aY ?_
   obtain ⟨⟨l,keyv,l1,mp,mp1⟩,g11,hm⟩:=bnd hm
   refine br (cK cx hn hk rcv p a ae a8 av ah a2 cv au ay u aH g11) (by
     try dsimp only
     refine emv 45 5003 ?_
     refine emv 1000012 5000 ?_
     refine EE.step (Wk.own0b 13 1 5004 1 3 [dI (bp .i64 (aX a) p.at_),.d .nil] (by simp -dsimp) (by rfl) (by decide) (by decide)) ?_
     exact EE.here (by simp -dsimp)
   ) fun ee O G x12=>?_
   unfold bj at x12
   dsimp only at x12
   obtain ⟨rfl,x12⟩:=x12
   refine bc ?_
   refine aO ?_
   refine see x12 fun O G hf=>?_
   simp only [Fits,ba,bb,and_true] at hf
   refine srs hn ?_
   obtain ⟨u1,h13,hm⟩:=bnd hm
   simp -dsimp [hf,ef h13,(@id (lkM (fw (mOb .str kS (uL (L.int .i64)) mp1) (.str (ofBytes keyv))) true (.one (dI 0)) = some (.tup [.one (dI (eD mp1 (ofBytes keyv) 0)),.one (.d (.bool (ct mp1 (ofBytes keyv))))])) (lk_two (ofBytes keyv) 0))]
   obtain ⟨⟨idv,mp2,l2⟩,j16,hm⟩:=bnd hm
   refine scE [(3,vX 1000003),(9,vX 9),(17,vI idv)] [(9,.box [dI p.at_,dI p.s.ones,dI p.s.centre]),(5000,.row 2 37 (List.map Node.row l2)),(1000000,.box [dR1 a]),(1000001,.box [.fn 79 [.box 1000002 0]]),(1000002,.box [dR1 ae,dI a8,dL av,dL ah]),(1000003,.box [.map 1000004]),(1000004,mOb (.ints 3) Ax.key (uL (L.int .i64)) mp),(1000005,.box [dI a2]),(1000006,.box [.fn 133 [.box 1000000 0,.box 1000001 0,.box 1000003 0,.box 1000005 0,.box 1000006 0,.box 1000007 0,.box 1000009 0,.box 1000011 0]]),(1000007,.box [.fn 78 [.box 1000008 0]]),(1000008,.box [dI cv]),(1000009,.box [.map 1000010]),(1000010,mOb .str kS (uL (L.int .i64)) mp2),(1000011,.box [dI au,dR1 ay,.own 5000])] ?_ fun O G hf=>?_
   ·replace hm:=j16
    clear j16
    refine srs hn ?_
    simp -dsimp
    rcases aZ hm with ⟨c14,hm⟩ | ⟨c14,hm⟩
    ·refine aQ (b:=(bT (ct mp1 (ofBytes keyv)))) (by simp -dsimp) c14 ?_
     refine srs hn ?_
     simp -dsimp [hf,c14]
     refine Swp.pre (Wk.frz 5004 1 3 (List.map (rI .i64) l1) (by simp -dsimp [hf])) ?_
     refine srs hn ?_
     obtain ⟨l2,h15,hm⟩:=bnd hm
     obtain ⟨h15a,h15e⟩:=bm h15
     replace h15e:=h15e.symm
     subst h15e
     try simp only [List.length_cons,List.length_nil,Nat.zero_add] at h15a
     simp -dsimp [hf,h15a]
     refine sr1 hn ?_
     simp -dsimp [hf,ef h13,(@id (fS (mOb .str kS (uL (L.int .i64)) mp1) (.str (ofBytes keyv)) (.one (dI (aX l))) = mOb .str kS (uL (L.int .i64)) (dU mp1 (ofBytes keyv) (aX l))) (gt .str kS (uL (L.int .i64)) mp1 (ofBytes keyv) (aX l)))]
     refine aO ?_
     cases hm
     refine emv 91 5000 ?_
     exact EE.here (by simp -dsimp [hf])
    ·refine aP (b:=(bT (ct mp1 (ofBytes keyv)))) (by simp -dsimp) c14 ?_
     refine aS (aO ?_)
     cases hm
     exact EE.here (by simp -dsimp [hf,c14])
   ·clear j16
    simp only [Fits,ba,bb,and_true] at hf
    refine srs hn ?_
    simp -dsimp [hf,dA h3 (.head _),dA h3 (.tail _ (.head _)),dA h3 (.tail _ (.tail _ (.head _))),(@id (fS (mOb (.ints 3) Ax.key (uL (L.int .i64)) mp) (.ints [p.at_,p.s.ones,p.s.centre]) (.one (dI idv)) = mOb (.ints 3) Ax.key (uL (L.int .i64)) (dU mp p idv)) (gt (.ints 3) Ax.key (uL (L.int .i64)) mp p idv))]
    refine srs hn ?_
    simp -dsimp [hf]
    refine aT ?_
    cases hm
    refine ⟨.inr rfl,?_⟩
    refine emr 5000 1000013 hk ?_
    exact EE.here (by simp -dsimp [hf])
theorem cS (p:Ax) (a ae:List Point) (a8:Int) (av ah:List Int) (a1:List (Ax×Int)) (a2 cv:Int) (cv1:List (List UInt8×Int)) (au:Int) (ay:List Point) (aq:List Node) (r:Int×(List (Ax×Int))×(List (List UInt8×Int))×(List Node)) (hm:m_totaltree_build_totaltree_sum_1_o_o_o_o_o_o_o_o p a ae a8 av ah a1 a2 cv cv1 au ay aq = some r):GFn Tryz.prog 133 [.u (.agg [dI p.at_,dI p.s.ones,dI p.s.centre]),vX 1000000,vX 1000001,vX 1000003,vX 1000005,vX 1000006,vX 1000007,vX 1000009,vX 1000011] [.box [dR1 a],.box [.fn 79 [.box 1000002 0]],.box [dR1 ae,dI a8,dL av,dL ah],.box [.map 1000004],mOb (.ints 3) Ax.key (uL (L.int .i64)) a1,.box [dI a2],.box [.fn 133 [.box 1000000 0,.box 1000001 0,.box 1000003 0,.box 1000005 0,.box 1000006 0,.box 1000007 0,.box 1000009 0,.box 1000011 0]],.box [.fn 78 [.box 1000008 0]],.box [dI cv],.box [.map 1000010],mOb .str kS (uL (L.int .i64)) cv1,.box [dI au,dR1 ay,.own 1000012],.row 2 37 (List.map Node.row aq)] (vI r.1) [some (.box [dR1 a]),some (.box [.fn 79 [.box 1000002 0]]),some (.box [dR1 ae,dI a8,dL av,dL ah]),some (.box [.map 1000004]),some (mOb (.ints 3) Ax.key (uL (L.int .i64)) r.2.1),some (.box [dI a2]),some (.box [.fn 133 [.box 1000000 0,.box 1000001 0,.box 1000003 0,.box 1000005 0,.box 1000006 0,.box 1000007 0,.box 1000009 0,.box 1000011 0]]),some (.box [.fn 78 [.box 1000008 0]]),some (.box [dI cv]),some (.box [.map 1000010]),some (mOb .str kS (uL (L.int .i64)) r.2.2.1),some (.box [dI au,dR1 ay,.own 1000013]),none,some (.row 2 37 (List.map Node.row r.2.2.2))]:=recN_ind bB (by intro _; intro _; intro _; intro _; intro _; intro _; intro _; intro _; intro _; intro _; intro _; intro _; intro _; intro _; intro hm; cases hm) cP recF p a ae a8 av ah a1 a2 cv cv1 au ay aq r hm
theorem bW (states:Int) (l:List Point) (start:Aw) (cv:Int) (ae:List Point) (a8:Int) (av ah:List Int) (r:List Node) (hm:m_totaltree_build_totaltree_sum_totaltree_Totals_1_o_totaltree_Totals_2_o states l start cv ae a8 av ah = some r):GFn Tryz.prog 81 [vI states,.u (.one (dR1 l)),.u (.agg [dI start.ones,dI start.centre]),.u (.one (.fn 78 [.box 1000000 0])),.u (.one (.fn 79 [.box 1000001 0]))] [.box [dI cv],.box [dR1 ae,dI a8,dL av,dL ah]] (.u (.agg [dI states,dR1 l,dR0 r])) [some (.box [dI cv]),some (.box [dR1 ae,dI a8,dL av,dL ah])]:=by
 refine cy bA _ Tryz.func81 rfl (by kernel_rfl) (by simp [Tryz.ntmps81]) (by simp) (by first | rfl | simp) (by first | rfl | simp) fun cx hn hk=>?_
 replace hn:cx.n = 26:=hn.trans Tryz.ntmps81
 replace hk:cx.k = 2:=hk
 unfold m_totaltree_build_totaltree_sum_totaltree_Totals_1_o_totaltree_Totals_2_o at hm
 refine srs hn ?_
 simp -dsimp
 refine srs hn ?_
 simp -dsimp
 refine srs hn ?_
 simp -dsimp [(@id (Ob.map (.ints 3) [] = mOb (.ints 3) Ax.key (uL (L.int .i64)) ([]:List (Ax×Int))) (fG (.ints 3) Ax.key (uL (L.int .i64))))]
 refine srs hn ?_
 simp -dsimp [(@id (Ob.map .str [] = mOb .str kS (uL (L.int .i64)) ([]:List (List UInt8×Int))) (fG .str kS (uL (L.int .i64))))]
 refine srs hn ?_
 simp -dsimp
 refine srs hn ?_
 simp -dsimp
 refine Swp.pre (Wk.own0b 10 2 5000 2 37 [dI 0,.d .nil,.d .nil] (by simp -dsimp) (by rfl) (by decide) (by decide)) ?_
 refine Swp.pre (Wk.own0b 11 2 5001 2 37 [dI states,dR1 l,.d .nil] (by simp -dsimp) (by rfl) (by decide) (by decide)) ?_
 refine srs hn ?_
 obtain ⟨y,h1,hm⟩:=bnd hm
 simp -dsimp
 refine callL_g (cS (⟨0,⟨start.ones,start.centre⟩⟩:Ax) l ae a8 av ah [] states cv [] states l [] y h1) [6,9,1000001,12,18,5,14,8,1000000,13,19,11,5001] [5002] rfl rfl rfl (by simp -dsimp) rfl (by simp -dsimp) (by first | rfl | simp) rfl (dkL hn) ?_
 simp -dsimp
 refine Swp.pre (Wk.frz 5002 2 37 (List.map Node.row y.2.2.2) (by simp -dsimp)) ?_
 refine srs hn ?_
 simp -dsimp
 cases hm
 exact aT ⟨.inr rfl,EE.here (by simp -dsimp)⟩
theorem fW (x:Av) (r:Tree×Int) (hm:m_totaltree_Totals x = some r):PureCall Tryz.prog 32 [.u (.agg [dR1 x.Hood,dI x.States,dL x.Birth,dL x.Survive])] (.tup [.agg [dI r.1.States,dR1 r.1.Hood,dR0 r.1.Nodes],.one (dI r.2)]):=by
 refine bD Tryz.func32 Tryz.ntmps32 fun cx hn=>?_
 unfold m_totaltree_Totals at hm
 refine srs hn ?_
 simp -dsimp
 refine aU ?_
 refine srs hn ?_
 obtain ⟨y,h1,hm⟩:=bnd hm
 simp -dsimp
 refine aR (cA x y h1) (dkL hn) ?_
 simp -dsimp
 rcases aZ hm with ⟨c2,hm⟩ | ⟨c2,hm⟩
 ·refine aQ (by simp -dsimp) c2 ?_
  refine srs hn ?_
  simp -dsimp [c2]
  refine aT (aW ?_)
  cases hm
  refine ⟨.inr rfl,?_⟩
  exact EE.here (by simp -dsimp)
 ·refine aP (by simp -dsimp) c2 ?_
  refine aS (aO ?_)
  refine srs hn ?_
  obtain ⟨y1,h3,hm⟩:=bnd hm
  simp -dsimp [c2]
  refine aR (c_hood_Centre x.Hood y1 h3) (dkL hn) ?_
  simp -dsimp
  refine srs hn ?_
  simp -dsimp
  refine srs hn ?_
  simp -dsimp
  refine gV bA mixed 8 (by rw [hn]; kernel_rfl) ?_
  dsimp only [List.take,List.drop]
  obtain ⟨y2,h4,hm⟩:=bnd hm
  simp -dsimp
  refine bl (cO x.Hood y2 h4) ?_
  obtain ⟨y3,h5,hm⟩:=bnd hm
  simp -dsimp
  refine clg (bW x.States y2 (⟨0,0⟩:Aw) y1 x.Hood x.States x.Birth x.Survive y3 h5) [4,1] [] (by simp -dsimp) (dkL hn) ?_
  simp -dsimp
  cases hm
  exact aT ⟨.inr rfl,EE.here (by simp -dsimp)⟩
def cE (cx:Cx) (_n:Int) (tt:(List Int)) (ee:Exit) (O:Env) (G:Sto):Prop:=match tt with
 | l=>ee = .exit 0 /\ EE cx (bw [(2,vX 2),(4,vX 4)] [(2,.box (List.map (cI .i64) [0,0,0,0,0,0,0,0])),(4,.box (List.map (cI .i64) l))]) O G
theorem gM (cx:Cx) (hn:cx.n = 24) (n:Int) {fu:Nat} {stt:Int×(List Int)} {tt:(List Int)} (hh:aV (b_wolfram_Elementary_1 n) fu stt = some tt) {O:Env} {G:Sto}
  (hE:bH (fun stt:Int×(List Int)=>match stt with | (a1,_l)=>[(0,vI n),(2,vX 2),(4,vX 4),(13,vI a1)]) (fun stt:Int×(List Int)=>match stt with | (_a1,l)=>[(2,.box (List.map (cI .i64) [0,0,0,0,0,0,0,0])),(4,.box (List.map (cI .i64) l))]) stt O G):Swp Tryz.prog cx (.loop (cr [1,1,1,0,1,0,0] (bq Tryz.f85))) O G (cE cx n tt):=by
 refine bL hE hh (cE cx n) ?_
 rintro ⟨a1,l⟩ r hm O G hf
 simp only [Fits,ba,bb,and_true] at hf
 unfold b_wolfram_Elementary_1 at hm
 dsimp only at hm
 refine srs hn ?_
 simp -dsimp [hf]
 refine aU ?_
 rcases aZ hm with ⟨c4,hm⟩ | ⟨c4,hm⟩
 ·refine aQ (by simp -dsimp) c4 ?_
  refine aS (aO (aU (aY ?_)))
  refine srs hn ?_
  simp -dsimp [hf,c4]
  refine sr1 hn ?_
  obtain ⟨n1,h5,hm⟩:=bnd hm
  obtain ⟨x,h6,hm⟩:=bnd hm
  simp -dsimp [hf,h5,dC h6,aidx_lt2 h6,asetI .i64 h6 (iand .i64 n1 1)]
  refine bh ?_
  refine aO ?_
  refine sr1 hn ?_
  simp -dsimp [hf]
  cases hm
  refine bf ?_
  exact EE.here (by simp -dsimp [hf])
 ·refine aP (by simp -dsimp) c4 ?_
  refine bd ?_
  refine aW ?_
  cases hm
  refine be nofun ?_
  exact ⟨rfl,EE.here (by simp -dsimp [hf,c4])⟩
theorem c_wolfram_Elementary (n:Int) (r:(Int×Int×Int×Int×Int×Int×Int×Int)×Int) (hm:m_wolfram_Elementary n = some r):PureCall Tryz.prog 85 [vI n] (.tup [.agg [dI r.1.1,dI r.1.2.1,dI r.1.2.2.1,dI r.1.2.2.2.1,dI r.1.2.2.2.2.1,dI r.1.2.2.2.2.2.1,dI r.1.2.2.2.2.2.2.1,dI r.1.2.2.2.2.2.2.2],.one (dI r.2)]):=by
 refine bD Tryz.func85 Tryz.ntmps85 fun cx hn=>?_
 unfold m_wolfram_Elementary at hm
 refine srs hn ?_
 simp -dsimp
 refine srs hn ?_
 simp -dsimp
 refine aU ?_
 obtain ⟨a,j10,hm⟩:=bnd hm
 refine scE [(0,vI n),(2,vX 2),(4,vX 4),(11,vT a)] [(2,.box (List.map (cI .i64) [0,0,0,0,0,0,0,0])),(4,.box (List.map (cI .i64) [0,0,0,0,0,0,0,0]))] ?_ fun O G hf=>?_
 ·replace hm:=j10
  clear j10
  refine sr1 hn ?_
  rcases aZ hm with ⟨c1,hm⟩ | ⟨c1,hm⟩
  ·simp -dsimp [c1]
   cases hm
   exact EE.here (by simp -dsimp)
  ·simp -dsimp [c1]
   cases hm
   exact EE.here (by simp -dsimp)
 ·clear j10
  simp only [Fits,ba,bb,and_true] at hf
  rcases aZ hm with ⟨c2,hm⟩ | ⟨c2,hm⟩
  ·refine aQ (by simp -dsimp [hf]) c2 ?_
   refine srs hn ?_
   obtain ⟨arr,h3,hm⟩:=bnd hm
   simp -dsimp [hf,arr8_map (cI .i64) h3]
   refine aT (aW ?_)
   cases hm
   refine ⟨.inr rfl,?_⟩
   exact EE.here (by simp -dsimp [hf])
  ·refine aP (by simp -dsimp [hf]) c2 ?_
   refine aS (aO (aU ?_))
   refine srs hn ?_
   simp -dsimp
   refine aY ?_
   obtain ⟨l,g7,hm⟩:=bnd hm
   refine br (gM cx hn n g7) (by
     try dsimp only
     exact EE.here (by simp -dsimp [hf])
   ) fun ee O G x8=>?_
   unfold cE at x8
   dsimp only at x8
   obtain ⟨rfl,x8⟩:=x8
   refine bc ?_
   refine aO ?_
   refine see x8 fun O G hf=>?_
   simp only [Fits,ba,bb,and_true] at hf
   refine srs hn ?_
   obtain ⟨arr,h9,hm⟩:=bnd hm
   simp -dsimp [hf,arr8_map (cI .i64) h9]
   cases hm
   exact aT ⟨.inr rfl,EE.here (by simp -dsimp [hf])⟩
theorem c_totaltree_row (r:List Point) (hm:m_totaltree_row = some r):PureCall Tryz.prog 87 [] (.u (.one (dR1 r))):=by
 refine bD Tryz.func87 Tryz.ntmps87 fun cx hn=>?_
 unfold m_totaltree_row at hm
 refine srs hn ?_
 simp -dsimp
 refine srs hn ?_
 simp -dsimp
 cases hm
 exact aT ⟨.inr rfl,EE.here (by simp -dsimp)⟩
theorem gC (i:Int) (a:Int×Int×Int×Int×Int×Int×Int×Int) (r:Int) (hm:m_totaltree_Elementary_2 i a = some r):PureCall Tryz.prog 89 [vI i,.u (.one (.ref [.int .i64 a.1,.int .i64 a.2.1,.int .i64 a.2.2.1,.int .i64 a.2.2.2.1,.int .i64 a.2.2.2.2.1,.int .i64 a.2.2.2.2.2.1,.int .i64 a.2.2.2.2.2.2.1,.int .i64 a.2.2.2.2.2.2.2] 0))] (vI r):=by
 refine bD Tryz.func89 Tryz.ntmps89 fun cx hn=>?_
 unfold m_totaltree_Elementary_2 at hm
 refine srs hn ?_
 simp -dsimp
 refine srs hn ?_
 obtain ⟨x,h1,hm⟩:=bnd hm
 simp -dsimp [dC h1,(@id (subR [.int .i64 a.1,.int .i64 a.2.1,.int .i64 a.2.2.1,.int .i64 a.2.2.2.1,.int .i64 a.2.2.2.2.1,.int .i64 a.2.2.2.2.2.1,.int .i64 a.2.2.2.2.2.2.1,.int .i64 a.2.2.2.2.2.2.2] i.toNat 1 = (rI .i64) x) (subR_get1 (xs:=[.int .i64 a.1,.int .i64 a.2.1,.int .i64 a.2.2.1,.int .i64 a.2.2.2.1,.int .i64 a.2.2.2.2.1,.int .i64 a.2.2.2.2.2.1,.int .i64 a.2.2.2.2.2.2.1,.int .i64 a.2.2.2.2.2.2.2]) (l:=[a.1,a.2.1,a.2.2.1,a.2.2.2.1,a.2.2.2.2.1,a.2.2.2.2.2.1,a.2.2.2.2.2.2.1,a.2.2.2.2.2.2.2]) (rI .i64) (fun _=>rfl) rfl h1))]
 cases hm
 exact aT ⟨.inr rfl,EE.here (by simp -dsimp [(@id (subR [.int .i64 a.1,.int .i64 a.2.1,.int .i64 a.2.2.1,.int .i64 a.2.2.2.1,.int .i64 a.2.2.2.2.1,.int .i64 a.2.2.2.2.2.1,.int .i64 a.2.2.2.2.2.2.1,.int .i64 a.2.2.2.2.2.2.2] i.toNat 1 = (rI .i64) x) (subR_get1 (xs:=[.int .i64 a.1,.int .i64 a.2.1,.int .i64 a.2.2.1,.int .i64 a.2.2.2.1,.int .i64 a.2.2.2.2.1,.int .i64 a.2.2.2.2.2.1,.int .i64 a.2.2.2.2.2.2.1,.int .i64 a.2.2.2.2.2.2.2]) (l:=[a.1,a.2.1,a.2.2.1,a.2.2.2.1,a.2.2.2.2.1,a.2.2.2.2.2.1,a.2.2.2.2.2.2.1,a.2.2.2.2.2.2.2]) (rI .i64) (fun _=>rfl) rfl h1))])⟩
theorem gA (i at_ state r:Int) (hm:m_totaltree_Elementary_1 i at_ state = some r):PureCall Tryz.prog 88 [vI i,vI at_,vI state] (vI r):=by
 refine bD Tryz.func88 Tryz.ntmps88 fun cx hn=>?_
 unfold m_totaltree_Elementary_1 at hm
 refine srs hn ?_
 simp -dsimp
 refine srs hn ?_
 simp -dsimp
 cases hm
 exact aT ⟨.inr rfl,EE.here (by simp -dsimp)⟩
end Go.Proofs.YtlcdmiapdfdcaaaGreatDoor
