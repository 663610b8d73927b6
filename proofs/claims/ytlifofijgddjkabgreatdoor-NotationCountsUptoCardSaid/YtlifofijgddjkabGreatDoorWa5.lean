/- That the code does what the functions say (made by cc.py). -/
import Derived.Test.YtlifofijgddjkabGreatDoorWa4
namespace Go.Proofs.YtlifofijgddjkabGreatDoor
open Go.AM Go.Proofs
set_option maxRecDepth 100000
attribute [-simp] qlookup cz dQ Ob.wipe Ob.ren Ob.frz1
theorem c_totaltree_row (r:List Point) (hm:m_totaltree_row=some r):PureCall Tryz.prog 73 [] (.u (.one (dR1 r))):=by
 refine bf Tryz.func73 Tryz.ntmps73 fun cx hn=>?_
 unfold m_totaltree_row at hm
 exact zz
theorem gj (i:Int) (a:Int×Int×Int×Int×Int×Int×Int×Int) (r:Int) (hm:m_totaltree_Elementary_2 i a=some r):PureCall Tryz.prog 75 [vI i,.u (.one (.ref [.int .i64 a.1,.int .i64 a.2.1,.int .i64 a.2.2.1,.int .i64 a.2.2.2.1,.int .i64 a.2.2.2.2.1,.int .i64 a.2.2.2.2.2.1,.int .i64 a.2.2.2.2.2.2.1,.int .i64 a.2.2.2.2.2.2.2] 0))] (vI r):=by
 refine bf Tryz.func75 Tryz.ntmps75 fun cx hn=>?_
 unfold m_totaltree_Elementary_2 at hm
 refine srs hn ?_
 simp -dsimp
 refine srs hn ?_
 obtain⟨x,h1,hm⟩:=bnd hm
 simp -dsimp [aidx_ok h1,(@id (subR [.int .i64 a.1,.int .i64 a.2.1,.int .i64 a.2.2.1,.int .i64 a.2.2.2.1,.int .i64 a.2.2.2.2.1,.int .i64 a.2.2.2.2.2.1,.int .i64 a.2.2.2.2.2.2.1,.int .i64 a.2.2.2.2.2.2.2] i.toNat 1=(rI .i64) x) (subR_get1 (xs:=[.int .i64 a.1,.int .i64 a.2.1,.int .i64 a.2.2.1,.int .i64 a.2.2.2.1,.int .i64 a.2.2.2.2.1,.int .i64 a.2.2.2.2.2.1,.int .i64 a.2.2.2.2.2.2.1,.int .i64 a.2.2.2.2.2.2.2]) (l:=[a.1,a.2.1,a.2.2.1,a.2.2.2.1,a.2.2.2.2.1,a.2.2.2.2.2.1,a.2.2.2.2.2.2.1,a.2.2.2.2.2.2.2]) (rI .i64) (fun _=>rfl) rfl h1))]
 cases hm
 exact aY ⟨.inr rfl,EE.here (by simp -dsimp [(@id (subR [.int .i64 a.1,.int .i64 a.2.1,.int .i64 a.2.2.1,.int .i64 a.2.2.2.1,.int .i64 a.2.2.2.2.1,.int .i64 a.2.2.2.2.2.1,.int .i64 a.2.2.2.2.2.2.1,.int .i64 a.2.2.2.2.2.2.2] i.toNat 1=(rI .i64) x) (subR_get1 (xs:=[.int .i64 a.1,.int .i64 a.2.1,.int .i64 a.2.2.1,.int .i64 a.2.2.2.1,.int .i64 a.2.2.2.2.1,.int .i64 a.2.2.2.2.2.1,.int .i64 a.2.2.2.2.2.2.1,.int .i64 a.2.2.2.2.2.2.2]) (l:=[a.1,a.2.1,a.2.2.1,a.2.2.2.1,a.2.2.2.2.1,a.2.2.2.2.2.1,a.2.2.2.2.2.2.1,a.2.2.2.2.2.2.2]) (rI .i64) (fun _=>rfl) rfl h1))])⟩
theorem ge (i at_ state r:Int) (hm:m_totaltree_Elementary_1 i at_ state=some r):PureCall Tryz.prog 74 [vI i,vI at_,vI state] (vI r):=by
 refine bf Tryz.func74 Tryz.ntmps74 fun cx hn=>?_
 unfold m_totaltree_Elementary_1 at hm
 refine srs hn ?_
 simp -dsimp
 refine srs hn ?_
 simp -dsimp
 cases hm
 exact aY ⟨.inr rfl,EE.here (by simp -dsimp)⟩
def br (rcv:(Av->(List Point)->Int->Int->Int->Int->Int->Int->Int->Int->(List (Av×Int))->Int->(List (List UInt8×Int))->Int->(List Point)->(List Node)->Option (Int×(List (Av×Int))×(List (List UInt8×Int))×(List Node)))):Prop:=∀ (p:Av) (a:List Point) (cv1 aA aw ar ai ag ac ab:Int) (a1:List (Av×Int)) (a2:Int) (cv:List (List UInt8×Int)) (a8:Int) (ae:List Point) (aq:List Node) (r:Int×(List (Av×Int))×(List (List UInt8×Int))×(List Node)),rcv p a cv1 aA aw ar ai ag ac ab a1 a2 cv a8 ae aq=some r->GFn Tryz.prog 115 [.u (.agg [dI p.at_,dI p.s]),vX 1000000,vX 1000001,vX 1000003,vX 1000005,vX 1000006,vX 1000007,vX 1000008,vX 1000010] [.box [dR1 a],.box [.fn 75 [.box 1000002 0]],.box [dI cv1,dI aA,dI aw,dI ar,dI ai,dI ag,dI ac,dI ab],.box [.map 1000004],mOb (.ints 2) Av.key (uL (L.int .i64)) a1,.box [dI a2],.box [.fn 115 [.box 1000000 0,.box 1000001 0,.box 1000003 0,.box 1000005 0,.box 1000006 0,.box 1000007 0,.box 1000008 0,.box 1000010 0]],.box [.fn 74 []],.box [.map 1000009],mOb .str kS (uL (L.int .i64)) cv,.box [dI a8,dR1 ae,.own 1000011],.row 2 136 (List.map Node.row aq)] (vI r.1) [some (.box [dR1 a]),some (.box [.fn 75 [.box 1000002 0]]),some (.box [dI cv1,dI aA,dI aw,dI ar,dI ai,dI ag,dI ac,dI ab]),some (.box [.map 1000004]),some (mOb (.ints 2) Av.key (uL (L.int .i64)) r.2.1),some (.box [dI a2]),some (.box [.fn 115 [.box 1000000 0,.box 1000001 0,.box 1000003 0,.box 1000005 0,.box 1000006 0,.box 1000007 0,.box 1000008 0,.box 1000010 0]]),some (.box [.fn 74 []]),some (.box [.map 1000009]),some (mOb .str kS (uL (L.int .i64)) r.2.2.1),some (.box [dI a8,dR1 ae,.own 1000012]),none,some (.row 2 136 (List.map Node.row r.2.2.2))]
def bm (cx:Cx) (_rcv:(Av->(List Point)->Int->Int->Int->Int->Int->Int->Int->Int->(List (Av×Int))->Int->(List (List UInt8×Int))->Int->(List Point)->(List Node)->Option (Int×(List (Av×Int))×(List (List UInt8×Int))×(List Node)))) (p:Av) (a:List Point) (cv1 aA aw ar ai ag ac ab a2 a8:Int) (ae:List Point) (_u:Unit) (tt:((List Node)×(List Int)×(List Int)×(List (Av×Int))×(List (List UInt8×Int)))) (ee:Exit) (Z:Env) (O:Sto):Prop:=match tt with
 | (l,keyv,l1,mp,mp1)=>ee=.exit 0/\EE cx (be [(3,vX 1000003),(7,vX 1000008),(8,vX 1000010),(9,vX 9),(13,vX 13),(14,vO 5003)] [(9,.box [dI p.at_,dI p.s]),(13,.box [dI (aX .i64 (aO a) p.at_),.own 5004]),(5000,.row 2 136 (List.map Node.row l)),(5003,.row 1 5 (List.map (rI .u8) keyv)),(5004,.row 1 3 (List.map (rI .i64) l1)),(1000000,.box [dR1 a]),(1000001,.box [.fn 75 [.box 1000002 0]]),(1000002,.box [dI cv1,dI aA,dI aw,dI ar,dI ai,dI ag,dI ac,dI ab]),(1000003,.box [.map 1000004]),(1000004,mOb (.ints 2) Av.key (uL (L.int .i64)) mp),(1000005,.box [dI a2]),(1000006,.box [.fn 115 [.box 1000000 0,.box 1000001 0,.box 1000003 0,.box 1000005 0,.box 1000006 0,.box 1000007 0,.box 1000008 0,.box 1000010 0]]),(1000007,.box [.fn 74 []]),(1000008,.box [.map 1000009]),(1000009,mOb .str kS (uL (L.int .i64)) mp1),(1000010,.box [dI a8,dR1 ae,.own 5000])]) Z O
set_option maxHeartbeats 1000000 in
theorem da (cx:Cx) (hn:cx.n=101) (_hk:cx.k=12) (rcv:(Av->(List Point)->Int->Int->Int->Int->Int->Int->Int->Int->(List (Av×Int))->Int->(List (List UInt8×Int))->Int->(List Point)->(List Node)->Option (Int×(List (Av×Int))×(List (List UInt8×Int))×(List Node)))) (p:Av) (a:List Point) (cv1 aA aw ar ai ag ac ab a2 a8:Int) (ae:List Point) (u:Unit) (aI:br rcv) {fu:Nat} {stt:Int×(List Node)×(List Int)×(List Int)×(List (Av×Int))×(List (List UInt8×Int))} {tt:((List Node)×(List Int)×(List Int)×(List (Av×Int))×(List (List UInt8×Int)))} (hh:aT (b_totaltree_build_int_1_o_o_o_o_o_o_o_o_1 rcv p a cv1 aA aw ar ai ag ac ab a2 a8 ae u) fu stt=some tt) {Z:Env} {O:Sto}
  (hE:bz (fun stt:Int×(List Node)×(List Int)×(List Int)×(List (Av×Int))×(List (List UInt8×Int))=>match stt with | (a3,_l,_keyv,_l1,_mp,_mp1)=>[(3,vX 1000003),(5,vX 1000006),(6,vX 1000007),(7,vX 1000008),(8,vX 1000010),(9,vX 9),(13,vX 13),(14,vO 5003),(46,vI a2),(47,vI a3)]) (fun stt:Int×(List Node)×(List Int)×(List Int)×(List (Av×Int))×(List (List UInt8×Int))=>match stt with | (_a3,l,keyv,l1,mp,mp1)=>[(9,.box [dI p.at_,dI p.s]),(13,.box [dI (aX .i64 (aO a) p.at_),.own 5004]),(5000,.row 2 136 (List.map Node.row l)),(5003,.row 1 5 (List.map (rI .u8) keyv)),(5004,.row 1 3 (List.map (rI .i64) l1)),(1000000,.box [dR1 a]),(1000001,.box [.fn 75 [.box 1000002 0]]),(1000002,.box [dI cv1,dI aA,dI aw,dI ar,dI ai,dI ag,dI ac,dI ab]),(1000003,.box [.map 1000004]),(1000004,mOb (.ints 2) Av.key (uL (L.int .i64)) mp),(1000005,.box [dI a2]),(1000006,.box [.fn 115 [.box 1000000 0,.box 1000001 0,.box 1000003 0,.box 1000005 0,.box 1000006 0,.box 1000007 0,.box 1000008 0,.box 1000010 0]]),(1000007,.box [.fn 74 []]),(1000008,.box [.map 1000009]),(1000009,mOb .str kS (uL (L.int .i64)) mp1),(1000010,.box [dI a8,dR1 ae,.own 5000])]) stt Z O):Swp Tryz.prog cx (.loop (bW [1,1,1,1,1,0,1,0,0] (bd Tryz.f115))) Z O (bm cx rcv p a cv1 aA aw ar ai ag ac ab a2 a8 ae u tt):=by
 refine bC hE hh (bm cx rcv p a cv1 aA aw ar ai ag ac ab a2 a8 ae u) ?_
 rintro⟨a3,l,keyv,l1,mp,mp1⟩ r hm Z O hf
 simp only[Fits,aZ,b6,and_true] at hf
 unfold b_totaltree_build_int_1_o_o_o_o_o_o_o_o_1 at hm
 dsimp only at hm
 refine srs hn ?_
 simp -dsimp [hf]
 refine aN ?_
 rcases aU hm with ⟨c5,hm⟩ | ⟨c5,hm⟩
 ·refine aQ (by simp -dsimp) c5 ?_
  refine aP (aM (aN (aS ?_)))
  refine srs hn ?_
  simp -dsimp [hf,c5]
  refine gx bh mixed 12 (by rw[hn]; kernel_rfl) ?_
  dsimp only [List.take,List.drop]
  obtain⟨y,h6,hm⟩:=bnd hm
  simp -dsimp [hf]
  refine aV (ge p.s p.at_ a3 y h6) ?_
  obtain⟨y1,h7,hm⟩:=bnd hm
  simp -dsimp
  refine clg (aI (⟨(bq .i64 p.at_ 1),y⟩:Av) a cv1 aA aw ar ai ag ac ab mp a2 mp1 a8 ae l y1 h7) [1000000,1000001,1000002,1000003,1000004,1000005,1000006,1000007,1000008,1000009,1000010,5000] [5001] (by simp -dsimp [hf]) (dkL hn) ?_
  simp -dsimp
  refine srs hn ?_
  obtain⟨l2,h8,hm⟩:=bnd hm
  obtain⟨h8a,h8e⟩:=aW h8
  replace h8e:=h8e.symm
  subst h8e
  try simp only[List.length_cons,List.length_nil,Nat.zero_add] at h8a
  simp -dsimp [hf,h8a]
  refine sr1 hn ?_
  obtain⟨l3,h9,hm⟩:=bnd hm
  obtain⟨h9a,h9e⟩:=aW h9
  replace h9e:=h9e.symm
  subst h9e
  try simp only[List.length_cons,List.length_nil,Nat.zero_add] at h9a
  try simp only[Nat.mul_one,Nat.reduceLeDiff] at h9a
  obtain⟨y2,h10,hm⟩:=bnd hm
  simp -dsimp [hf,h9a]
  refine clg (bR (keyv++[32]) y1.1 10 y2 h10) [71] [5002] (by simp -dsimp) (dkL hn) ?_
  simp -dsimp
  refine bN ?_
  refine aM ?_
  refine sr1 hn ?_
  simp -dsimp [hf]
  cases hm
  refine cE ?_
  refine emv 5002 5003 ?_
  refine emv 67 5004 ?_
  refine emv 5001 5000 ?_
  exact zz
 ·exact zz
theorem dc (rcv:(Av->(List Point)->Int->Int->Int->Int->Int->Int->Int->Int->(List (Av×Int))->Int->(List (List UInt8×Int))->Int->(List Point)->(List Node)->Option (Int×(List (Av×Int))×(List (List UInt8×Int))×(List Node)))) (aI:br rcv) (p:Av) (a:List Point) (cv1 aA aw ar ai ag ac ab:Int) (a1:List (Av×Int)) (a2:Int) (cv:List (List UInt8×Int)) (a8:Int) (ae:List Point) (aq:List Node) (r:Int×(List (Av×Int))×(List (List UInt8×Int))×(List Node)) (hm:mb_totaltree_build_int_1_o_o_o_o_o_o_o_o rcv p a cv1 aA aw ar ai ag ac ab a1 a2 cv a8 ae aq=some r):GFn Tryz.prog 115 [.u (.agg [dI p.at_,dI p.s]),vX 1000000,vX 1000001,vX 1000003,vX 1000005,vX 1000006,vX 1000007,vX 1000008,vX 1000010] [.box [dR1 a],.box [.fn 75 [.box 1000002 0]],.box [dI cv1,dI aA,dI aw,dI ar,dI ai,dI ag,dI ac,dI ab],.box [.map 1000004],mOb (.ints 2) Av.key (uL (L.int .i64)) a1,.box [dI a2],.box [.fn 115 [.box 1000000 0,.box 1000001 0,.box 1000003 0,.box 1000005 0,.box 1000006 0,.box 1000007 0,.box 1000008 0,.box 1000010 0]],.box [.fn 74 []],.box [.map 1000009],mOb .str kS (uL (L.int .i64)) cv,.box [dI a8,dR1 ae,.own 1000011],.row 2 136 (List.map Node.row aq)] (vI r.1) [some (.box [dR1 a]),some (.box [.fn 75 [.box 1000002 0]]),some (.box [dI cv1,dI aA,dI aw,dI ar,dI ai,dI ag,dI ac,dI ab]),some (.box [.map 1000004]),some (mOb (.ints 2) Av.key (uL (L.int .i64)) r.2.1),some (.box [dI a2]),some (.box [.fn 115 [.box 1000000 0,.box 1000001 0,.box 1000003 0,.box 1000005 0,.box 1000006 0,.box 1000007 0,.box 1000008 0,.box 1000010 0]]),some (.box [.fn 74 []]),some (.box [.map 1000009]),some (mOb .str kS (uL (L.int .i64)) r.2.2.1),some (.box [dI a8,dR1 ae,.own 1000012]),none,some (.row 2 136 (List.map Node.row r.2.2.2))]:=by
 refine bT bh _ Tryz.func115 rfl (by kernel_rfl) (by simp[Tryz.ntmps115]) (by simp) (by first | rfl | simp) (by first | rfl | simp) fun cx hn hk=>?_
 replace hn:cx.n=101:=hn.trans Tryz.ntmps115
 replace hk:cx.k=12:=hk
 unfold mb_totaltree_build_int_1_o_o_o_o_o_o_o_o at hm
 refine srs hn ?_
 simp -dsimp
 refine aN ?_
 refine srs hn ?_
 simp -dsimp
 rcases aU hm with ⟨c1,hm⟩ | ⟨c1,hm⟩
 ·refine sct c1 ?_
  refine srs hn ?_
  obtain⟨y,h2,hm⟩:=bnd hm
  simp -dsimp [c1]
  refine eI (us':=[vI p.s,.u (.one (.ref [.int .i64 ((cv1,aA,aw,ar,ai,ag,ac,ab):Int×Int×Int×Int×Int×Int×Int×Int).1,.int .i64 ((cv1,aA,aw,ar,ai,ag,ac,ab):Int×Int×Int×Int×Int×Int×Int×Int).2.1,.int .i64 ((cv1,aA,aw,ar,ai,ag,ac,ab):Int×Int×Int×Int×Int×Int×Int×Int).2.2.1,.int .i64 ((cv1,aA,aw,ar,ai,ag,ac,ab):Int×Int×Int×Int×Int×Int×Int×Int).2.2.2.1,.int .i64 ((cv1,aA,aw,ar,ai,ag,ac,ab):Int×Int×Int×Int×Int×Int×Int×Int).2.2.2.2.1,.int .i64 ((cv1,aA,aw,ar,ai,ag,ac,ab):Int×Int×Int×Int×Int×Int×Int×Int).2.2.2.2.2.1,.int .i64 ((cv1,aA,aw,ar,ai,ag,ac,ab):Int×Int×Int×Int×Int×Int×Int×Int).2.2.2.2.2.2.1,.int .i64 ((cv1,aA,aw,ar,ai,ag,ac,ab):Int×Int×Int×Int×Int×Int×Int×Int).2.2.2.2.2.2.2] 0))]) (gj p.s ((cv1,aA,aw,ar,ai,ag,ac,ab):Int×Int×Int×Int×Int×Int×Int×Int) y h2) (by simp -dsimp) rfl (dkL hn) ?_
  simp -dsimp
  refine aY (dT ?_)
  cases hm
  refine⟨.inr rfl,?_⟩
  refine emr 1000011 1000012 hk ?_
  exact zz
 ·refine scf c1 ?_
  refine aP (aM (aN ?_))
  refine srs hn ?_
  obtain⟨u,h3,hm⟩:=bnd hm
  simp -dsimp [c1,dh h3 (.head _),dh h3 (.tail _ (.head _)),(@id (lkM (fb (mOb (.ints 2) Av.key (uL (L.int .i64)) a1) (.ints [p.at_,p.s])) true (.one (dI 0))=some (.tup [.one (dI (e9 a1 p 0)),.one (.d (.bool (bE a1 p)))])) (lk_two p 0))]
  refine srs hn ?_
  simp -dsimp
  rcases aU hm with ⟨c4,hm⟩ | ⟨c4,hm⟩
  ·refine aQ (b:=(bE a1 p)) (by simp -dsimp) c4 ?_
   refine srs hn ?_
   simp -dsimp [c4]
   refine aY (dT ?_)
   cases hm
   refine⟨.inr rfl,?_⟩
   refine emr 1000011 1000012 hk ?_
   exact zz
  ·refine aR (b:=(bE a1 p)) (by simp -dsimp) c4 ?_
   refine aP (aM ?_)
   refine srs hn ?_
   simp -dsimp [c4]
   refine sw_regBs bh 3 (by rw[hn]; kernel_rfl) ?_
   dsimp only [List.take,List.drop]
   simp -dsimp
   refine aN ?_
   refine srs hn ?_
   simp -dsimp
   refine aS ?_
   obtain⟨⟨l,keyv,l1,mp,mp1⟩,g11,hm⟩:=bnd hm
   refine bc (da cx hn hk rcv p a cv1 aA aw ar ai ag ac ab a2 a8 ae u aI g11) (by
     try dsimp only
     refine emv 45 5003 ?_
     refine emv 1000011 5000 ?_
     refine EE.step (Wk.own0b 13 1 5004 1 3 [dI (aX .i64 (aO a) p.at_),.d .nil] (by simp -dsimp) (by rfl) (by decide) (by decide)) ?_
     exact zz
   ) fun ee Z O xx=>?_
   unfold bm at xx
   dsimp only at xx
   obtain⟨rfl,xx⟩:=xx
   refine bG ?_
   refine aM ?_
   refine see xx fun Z O hf=>?_
   simp only[Fits,aZ,b6,and_true] at hf
   refine srs hn ?_
   obtain⟨u1,h12,hm⟩:=bnd hm
   simp -dsimp [hf,dK h12,(@id (lkM (fb (mOb .str kS (uL (L.int .i64)) mp1) (.str (ofBytes keyv))) true (.one (dI 0))=some (.tup [.one (dI (e9 mp1 (ofBytes keyv) 0)),.one (.d (.bool (bE mp1 (ofBytes keyv))))])) (lk_two (ofBytes keyv) 0))]
   obtain⟨⟨idv,mp2,l2⟩,j15,hm⟩:=bnd hm
   refine scE [(3,vX 1000003),(9,vX 9),(17,vI idv)] [(9,.box [dI p.at_,dI p.s]),(5000,.row 2 136 (List.map Node.row l2)),(1000000,.box [dR1 a]),(1000001,.box [.fn 75 [.box 1000002 0]]),(1000002,.box [dI cv1,dI aA,dI aw,dI ar,dI ai,dI ag,dI ac,dI ab]),(1000003,.box [.map 1000004]),(1000004,mOb (.ints 2) Av.key (uL (L.int .i64)) mp),(1000005,.box [dI a2]),(1000006,.box [.fn 115 [.box 1000000 0,.box 1000001 0,.box 1000003 0,.box 1000005 0,.box 1000006 0,.box 1000007 0,.box 1000008 0,.box 1000010 0]]),(1000007,.box [.fn 74 []]),(1000008,.box [.map 1000009]),(1000009,mOb .str kS (uL (L.int .i64)) mp2),(1000010,.box [dI a8,dR1 ae,.own 5000])] ?_ fun Z O hf=>?_
   ·replace hm:=j15
    clear j15
    refine srs hn ?_
    simp -dsimp
    rcases aU hm with ⟨c13,hm⟩ | ⟨c13,hm⟩
    ·refine aQ (b:=(ba (bE mp1 (ofBytes keyv)))) (by simp -dsimp) c13 ?_
     refine srs hn ?_
     simp -dsimp [hf,c13]
     refine Swp.pre (Wk.frz 5004 1 3 (List.map (rI .i64) l1) (by simp -dsimp [hf])) ?_
     refine srs hn ?_
     obtain⟨l2,h14,hm⟩:=bnd hm
     obtain⟨h14a,h14e⟩:=aW h14
     replace h14e:=h14e.symm
     subst h14e
     try simp only[List.length_cons,List.length_nil,Nat.zero_add] at h14a
     simp -dsimp [hf,h14a]
     refine sr1 hn ?_
     simp -dsimp [hf,dK h12,(@id (fB (mOb .str kS (uL (L.int .i64)) mp1) (.str (ofBytes keyv)) (.one (dI (aO l)))=mOb .str kS (uL (L.int .i64)) (dm mp1 (ofBytes keyv) (aO l))) (fT .str kS (uL (L.int .i64)) mp1 (ofBytes keyv) (aO l)))]
     refine aM ?_
     cases hm
     refine emv 91 5000 ?_
     exact zz
    ·exact zz
   ·clear j15
    simp only[Fits,aZ,b6,and_true] at hf
    refine srs hn ?_
    simp -dsimp [hf,dh h3 (.head _),dh h3 (.tail _ (.head _)),(@id (fB (mOb (.ints 2) Av.key (uL (L.int .i64)) mp) (.ints [p.at_,p.s]) (.one (dI idv))=mOb (.ints 2) Av.key (uL (L.int .i64)) (dm mp p idv)) (fT (.ints 2) Av.key (uL (L.int .i64)) mp p idv))]
    refine srs hn ?_
    simp -dsimp [hf]
    refine aY ?_
    cases hm
    refine⟨.inr rfl,?_⟩
    refine emr 5000 1000012 hk ?_
    exact zz
set_option maxHeartbeats 1000000 in
theorem dl (p:Av) (a:List Point) (cv1 aA aw ar ai ag ac ab:Int) (a1:List (Av×Int)) (a2:Int) (cv:List (List UInt8×Int)) (a8:Int) (ae:List Point) (aq:List Node) (r:Int×(List (Av×Int))×(List (List UInt8×Int))×(List Node)) (hm:m_totaltree_build_int_1_o_o_o_o_o_o_o_o p a cv1 aA aw ar ai ag ac ab a1 a2 cv a8 ae aq=some r):GFn Tryz.prog 115 [.u (.agg [dI p.at_,dI p.s]),vX 1000000,vX 1000001,vX 1000003,vX 1000005,vX 1000006,vX 1000007,vX 1000008,vX 1000010] [.box [dR1 a],.box [.fn 75 [.box 1000002 0]],.box [dI cv1,dI aA,dI aw,dI ar,dI ai,dI ag,dI ac,dI ab],.box [.map 1000004],mOb (.ints 2) Av.key (uL (L.int .i64)) a1,.box [dI a2],.box [.fn 115 [.box 1000000 0,.box 1000001 0,.box 1000003 0,.box 1000005 0,.box 1000006 0,.box 1000007 0,.box 1000008 0,.box 1000010 0]],.box [.fn 74 []],.box [.map 1000009],mOb .str kS (uL (L.int .i64)) cv,.box [dI a8,dR1 ae,.own 1000011],.row 2 136 (List.map Node.row aq)] (vI r.1) [some (.box [dR1 a]),some (.box [.fn 75 [.box 1000002 0]]),some (.box [dI cv1,dI aA,dI aw,dI ar,dI ai,dI ag,dI ac,dI ab]),some (.box [.map 1000004]),some (mOb (.ints 2) Av.key (uL (L.int .i64)) r.2.1),some (.box [dI a2]),some (.box [.fn 115 [.box 1000000 0,.box 1000001 0,.box 1000003 0,.box 1000005 0,.box 1000006 0,.box 1000007 0,.box 1000008 0,.box 1000010 0]]),some (.box [.fn 74 []]),some (.box [.map 1000009]),some (mOb .str kS (uL (L.int .i64)) r.2.2.1),some (.box [dI a8,dR1 ae,.own 1000012]),none,some (.row 2 136 (List.map Node.row r.2.2.2))]:=recN_ind br (by intro _; intro _; intro _; intro _; intro _; intro _; intro _; intro _; intro _; intro _; intro _; intro _; intro _; intro _; intro _; intro _; intro _; intro hm; cases hm) dc recF p a cv1 aA aw ar ai ag ac ab a1 a2 cv a8 ae aq r hm
theorem bD (states:Int) (l:List Point) (start cv1 aA aw ar ai ag ac ab:Int) (r:List Node) (hm:m_totaltree_build_int_totaltree_Elementary_1_totaltree_Elementary_2_o states l start cv1 aA aw ar ai ag ac ab=some r):GFn Tryz.prog 72 [vI states,.u (.one (dR1 l)),vI start,.u (.one (.fn 74 [])),.u (.one (.fn 75 [.box 1000000 0]))] [.box [dI cv1,dI aA,dI aw,dI ar,dI ai,dI ag,dI ac,dI ab]] (.u (.agg [dI states,dR1 l,dR0 r])) [some (.box [dI cv1,dI aA,dI aw,dI ar,dI ai,dI ag,dI ac,dI ab])]:=by
 refine bT bh _ Tryz.func72 rfl (by kernel_rfl) (by simp[Tryz.ntmps72]) (by simp) (by first | rfl | simp) (by first | rfl | simp) fun cx hn hk=>?_
 replace hn:cx.n=26:=hn.trans Tryz.ntmps72
 replace hk:cx.k=1:=hk
 unfold m_totaltree_build_int_totaltree_Elementary_1_totaltree_Elementary_2_o at hm
 refine srs hn ?_
 simp -dsimp
 refine srs hn ?_
 simp -dsimp
 refine srs hn ?_
 simp -dsimp [(@id (Ob.map (.ints 2) []=mOb (.ints 2) Av.key (uL (L.int .i64)) ([]:List (Av×Int))) (fk (.ints 2) Av.key (uL (L.int .i64))))]
 refine srs hn ?_
 simp -dsimp [(@id (Ob.map .str []=mOb .str kS (uL (L.int .i64)) ([]:List (List UInt8×Int))) (fk .str kS (uL (L.int .i64))))]
 refine srs hn ?_
 simp -dsimp
 refine srs hn ?_
 simp -dsimp
 refine Swp.pre (Wk.own0b 10 2 5000 2 136 [dI 0,.d .nil,.d .nil] (by simp -dsimp) (by rfl) (by decide) (by decide)) ?_
 refine Swp.pre (Wk.own0b 11 2 5001 2 136 [dI states,dR1 l,.d .nil] (by simp -dsimp) (by rfl) (by decide) (by decide)) ?_
 refine srs hn ?_
 obtain⟨y,h1,hm⟩:=bnd hm
 simp -dsimp
 refine callL_g (dl (⟨0,start⟩:Av) l cv1 aA aw ar ai ag ac ab [] states [] states l [] y h1) [6,9,1000000,12,18,5,14,8,13,19,11,5001] [5002] rfl rfl rfl (by simp -dsimp) rfl (by simp -dsimp) (by first | rfl | simp) rfl (dkL hn) ?_
 simp -dsimp
 refine Swp.pre (Wk.frz 5002 2 136 (List.map Node.row y.2.2.2) (by simp -dsimp)) ?_
 exact zz
theorem gK (n:Int) (r:Tree×Int) (hm:m_totaltree_Elementary n=some r):PureCall Tryz.prog 31 [vI n] (.tup [.agg [dI r.1.States,dR1 r.1.Hood,dR0 r.1.Nodes],.one (dI r.2)]):=by
 refine bf Tryz.func31 Tryz.ntmps31 fun cx hn=>?_
 unfold m_totaltree_Elementary at hm
 refine srs hn ?_
 simp -dsimp
 refine srs hn ?_
 obtain⟨y,h1,hm⟩:=bnd hm
 simp -dsimp
 refine aL (c_wolfram_Elementary n y h1) (dkL hn) ?_
 simp -dsimp
 refine aN ?_
 refine srs hn ?_
 simp -dsimp
 rcases aU hm with ⟨c2,hm⟩ | ⟨c2,hm⟩
 ·exact zz
 ·refine aR (by simp -dsimp) c2 ?_
  refine aP (aM ?_)
  refine srs hn ?_
  obtain⟨y1,h3,hm⟩:=bnd hm
  simp -dsimp [c2]
  refine aL (c_totaltree_row y1 h3) (dkL hn) ?_
  obtain⟨y2,h4,hm⟩:=bnd hm
  simp -dsimp
  refine clg (bD 2 y1 0 y.1.1 y.1.2.1 y.1.2.2.1 y.1.2.2.2.1 y.1.2.2.2.2.1 y.1.2.2.2.2.2.1 y.1.2.2.2.2.2.2.1 y.1.2.2.2.2.2.2.2 y2 h4) [4] [] (by simp -dsimp) (dkL hn) ?_
  exact zz
theorem c_totaltree_Sums_2 (s:Int) (a:List Int) (r:Int) (hm:m_totaltree_Sums_2 s a=some r):PureCall Tryz.prog 77 [vI s,.u (.one (.ref ((rS 1 (rI .i64)) a) 0))] (vI r):=by
 refine bf Tryz.func77 Tryz.ntmps77 fun cx hn=>?_
 unfold m_totaltree_Sums_2 at hm
 exact zz
theorem c_totaltree_Sums_1 (s at_ state r:Int) (hm:m_totaltree_Sums_1 s at_ state=some r):PureCall Tryz.prog 76 [vI s,vI at_,vI state] (vI r):=by
 refine bf Tryz.func76 Tryz.ntmps76 fun cx hn=>?_
 unfold m_totaltree_Sums_1 at hm
 refine srs hn ?_
 simp -dsimp
 refine srs hn ?_
 simp -dsimp
 cases hm
 exact aY ⟨.inr rfl,EE.here (by simp -dsimp)⟩
end Go.Proofs.YtlifofijgddjkabGreatDoor
