/- That the code does what the functions say (made by cc.py). -/
import Derived.Test.YtcllfealpkhjfaaGreatDoorWa3
namespace Go.Proofs.YtcllfealpkhjfaaGreatDoor
open Go.AM Go.Proofs
set_option maxRecDepth 100000
attribute [-simp] qlookup cd cW Ob.wipe Ob.ren Ob.frz1
def cm (cx:Cx) (_n:Int) (tt:(List Int)) (ee:Exit) (Z:Env) (O:Sto):Prop:=match tt with
 | l=>ee=.exit 0/\EE cx (bg [(2,vX 2),(4,vX 4)] [(2,.box (List.map (cI .i64) [0,0,0,0,0,0,0,0])),(4,.box (List.map (cI .i64) l))]) Z O
theorem ii (cx:Cx) (hn:cx.n=24) (n:Int) {fu:Nat} {stt:Int×(List Int)} {tt:(List Int)} (hh:aY (b_wolfram_Elementary_1 n) fu stt=some tt) {Z:Env} {O:Sto}
  (hE:bl (fun stt:Int×(List Int)=>match stt with | (a1,_l)=>[(0,vI n),(2,vX 2),(4,vX 4),(13,vI a1)]) (fun stt:Int×(List Int)=>match stt with | (_a1,l)=>[(2,.box (List.map (cI .i64) [0,0,0,0,0,0,0,0])),(4,.box (List.map (cI .i64) l))]) stt Z O):Swp Tryz.prog cx (.loop (bA [1,1,1,0,1,0,0] (be Tryz.f69))) Z O (cm cx n tt):=by
 refine bm hE hh (cm cx n) ?_
 rintro⟨a1,l⟩ r hm Z O hf
 simp only[Fits,b8,b9,and_true] at hf
 unfold b_wolfram_Elementary_1 at hm
 dsimp only at hm
 refine srs hn ?_
 simp -dsimp [hf]
 refine aS ?_
 rcases aZ hm with ⟨c4,hm⟩ | ⟨c4,hm⟩
 ·refine aV (by simp -dsimp) c4 ?_
  refine aU (aQ (aS (aW ?_)))
  refine srs hn ?_
  simp -dsimp [hf,c4]
  refine sr1 hn ?_
  obtain⟨n1,h5,hm⟩:=bnd hm
  obtain⟨x,h6,hm⟩:=bnd hm
  simp -dsimp [hf,h5,aidx_ok h6,aidx_lt2 h6,asetI .i64 h6 (iand .i64 n1 1)]
  refine bv ?_
  refine aQ ?_
  refine sr1 hn ?_
  simp -dsimp [hf]
  cases hm
  refine bE ?_
  exact EE.here (by simp -dsimp [hf])
 ·refine aX (by simp -dsimp) c4 ?_
  refine swp_exit ?_
  refine bS ?_
  cases hm
  refine rd_out nofun ?_
  exact⟨rfl,EE.here (by simp -dsimp [hf,c4])⟩
theorem c_wolfram_Elementary (n:Int) (r:(Int×Int×Int×Int×Int×Int×Int×Int)×Int) (hm:m_wolfram_Elementary n=some r):PureCall Tryz.prog 69 [vI n] (.tup [.agg [dI r.1.1,dI r.1.2.1,dI r.1.2.2.1,dI r.1.2.2.2.1,dI r.1.2.2.2.2.1,dI r.1.2.2.2.2.2.1,dI r.1.2.2.2.2.2.2.1,dI r.1.2.2.2.2.2.2.2],.one (dI r.2)]):=by
 refine bo Tryz.func69 Tryz.ntmps69 fun cx hn=>?_
 unfold m_wolfram_Elementary at hm
 refine srs hn ?_
 simp -dsimp
 refine srs hn ?_
 simp -dsimp
 refine aS ?_
 obtain⟨a,j9,hm⟩:=bnd hm
 refine scE [(0,vI n),(2,vX 2),(4,vX 4),(11,vT a)] [(2,.box (List.map (cI .i64) [0,0,0,0,0,0,0,0])),(4,.box (List.map (cI .i64) [0,0,0,0,0,0,0,0]))] ?_ fun Z O hf=>?_
 ·replace hm:=j9
  clear j9
  exact zz
 ·clear j9
  simp only[Fits,b8,b9,and_true] at hf
  rcases aZ hm with ⟨c2,hm⟩ | ⟨c2,hm⟩
  ·exact zz
  ·refine aX (by simp -dsimp [hf]) c2 ?_
   refine aU (aQ (aS ?_))
   refine srs hn ?_
   simp -dsimp
   refine aW ?_
   obtain⟨l,g7,hm⟩:=bnd hm
   refine bd (ii cx hn n g7) (by
     try dsimp only
     exact EE.here (by simp -dsimp [hf])
   ) fun ee Z O xx=>?_
   unfold cm at xx
   dsimp only at xx
   obtain⟨rfl,xx⟩:=xx
   refine bh ?_
   refine aQ ?_
   refine see xx fun Z O hf=>?_
   simp only[Fits,b8,b9,and_true] at hf
   refine srs hn ?_
   obtain⟨arr,h8,hm⟩:=bnd hm
   simp -dsimp [hf,arr8_map (cI .i64) h8]
   cases hm
   exact bb ⟨.inr rfl,EE.here (by simp -dsimp [hf])⟩
theorem c_totaltree_row (r:List Point) (hm:m_totaltree_row=some r):PureCall Tryz.prog 71 [] (.u (.one (dR1 r))):=by
 refine bo Tryz.func71 Tryz.ntmps71 fun cx hn=>?_
 unfold m_totaltree_row at hm
 exact zz
theorem gH (i:Int) (a:Int×Int×Int×Int×Int×Int×Int×Int) (r:Int) (hm:m_totaltree_Elementary_2 i a=some r):PureCall Tryz.prog 73 [vI i,.u (.one (.ref [.int .i64 a.1,.int .i64 a.2.1,.int .i64 a.2.2.1,.int .i64 a.2.2.2.1,.int .i64 a.2.2.2.2.1,.int .i64 a.2.2.2.2.2.1,.int .i64 a.2.2.2.2.2.2.1,.int .i64 a.2.2.2.2.2.2.2] 0))] (vI r):=by
 refine bo Tryz.func73 Tryz.ntmps73 fun cx hn=>?_
 unfold m_totaltree_Elementary_2 at hm
 refine srs hn ?_
 simp -dsimp
 refine srs hn ?_
 obtain⟨x,h1,hm⟩:=bnd hm
 simp -dsimp [aidx_ok h1,(@id (subR [.int .i64 a.1,.int .i64 a.2.1,.int .i64 a.2.2.1,.int .i64 a.2.2.2.1,.int .i64 a.2.2.2.2.1,.int .i64 a.2.2.2.2.2.1,.int .i64 a.2.2.2.2.2.2.1,.int .i64 a.2.2.2.2.2.2.2] i.toNat 1=(rI .i64) x) (subR_get1 (xs:=[.int .i64 a.1,.int .i64 a.2.1,.int .i64 a.2.2.1,.int .i64 a.2.2.2.1,.int .i64 a.2.2.2.2.1,.int .i64 a.2.2.2.2.2.1,.int .i64 a.2.2.2.2.2.2.1,.int .i64 a.2.2.2.2.2.2.2]) (l:=[a.1,a.2.1,a.2.2.1,a.2.2.2.1,a.2.2.2.2.1,a.2.2.2.2.2.1,a.2.2.2.2.2.2.1,a.2.2.2.2.2.2.2]) (rI .i64) (fun _=>rfl) rfl h1))]
 cases hm
 exact bb ⟨.inr rfl,EE.here (by simp -dsimp [(@id (subR [.int .i64 a.1,.int .i64 a.2.1,.int .i64 a.2.2.1,.int .i64 a.2.2.2.1,.int .i64 a.2.2.2.2.1,.int .i64 a.2.2.2.2.2.1,.int .i64 a.2.2.2.2.2.2.1,.int .i64 a.2.2.2.2.2.2.2] i.toNat 1=(rI .i64) x) (subR_get1 (xs:=[.int .i64 a.1,.int .i64 a.2.1,.int .i64 a.2.2.1,.int .i64 a.2.2.2.1,.int .i64 a.2.2.2.2.1,.int .i64 a.2.2.2.2.2.1,.int .i64 a.2.2.2.2.2.2.1,.int .i64 a.2.2.2.2.2.2.2]) (l:=[a.1,a.2.1,a.2.2.1,a.2.2.2.1,a.2.2.2.2.1,a.2.2.2.2.2.1,a.2.2.2.2.2.2.1,a.2.2.2.2.2.2.2]) (rI .i64) (fun _=>rfl) rfl h1))])⟩
theorem gA (i at_ state r:Int) (hm:m_totaltree_Elementary_1 i at_ state=some r):PureCall Tryz.prog 72 [vI i,vI at_,vI state] (vI r):=by
 refine bo Tryz.func72 Tryz.ntmps72 fun cx hn=>?_
 unfold m_totaltree_Elementary_1 at hm
 refine srs hn ?_
 simp -dsimp
 refine srs hn ?_
 simp -dsimp
 cases hm
 exact bb ⟨.inr rfl,EE.here (by simp -dsimp)⟩
def bF (rcv:(Az->(List Point)->Int->Int->Int->Int->Int->Int->Int->Int->(List (Az×Int))->Int->(List (List UInt8×Int))->Int->(List Point)->(List Node)->Option (Int×(List (Az×Int))×(List (List UInt8×Int))×(List Node)))):Prop:=∀ (p:Az) (a:List Point) (cv1 aB ax au aj ah ac ae:Int) (a1:List (Az×Int)) (a2:Int) (cv:List (List UInt8×Int)) (a8:Int) (ag:List Point) (ar:List Node) (r:Int×(List (Az×Int))×(List (List UInt8×Int))×(List Node)),rcv p a cv1 aB ax au aj ah ac ae a1 a2 cv a8 ag ar=some r->GFn Tryz.prog 129 [.u (.agg [dI p.at_,dI p.s]),vX 1000000,vX 1000001,vX 1000003,vX 1000005,vX 1000006,vX 1000007,vX 1000008,vX 1000010] [.box [dR1 a],.box [.fn 73 [.box 1000002 0]],.box [dI cv1,dI aB,dI ax,dI au,dI aj,dI ah,dI ac,dI ae],.box [.map 1000004],mOb (.ints 2) Az.key (uL (L.int .i64)) a1,.box [dI a2],.box [.fn 129 [.box 1000000 0,.box 1000001 0,.box 1000003 0,.box 1000005 0,.box 1000006 0,.box 1000007 0,.box 1000008 0,.box 1000010 0]],.box [.fn 72 []],.box [.map 1000009],mOb .str kS (uL (L.int .i64)) cv,.box [dI a8,dR1 ag,.own 1000011],.row 2 32 (List.map Node.row ar)] (vI r.1) [some (.box [dR1 a]),some (.box [.fn 73 [.box 1000002 0]]),some (.box [dI cv1,dI aB,dI ax,dI au,dI aj,dI ah,dI ac,dI ae]),some (.box [.map 1000004]),some (mOb (.ints 2) Az.key (uL (L.int .i64)) r.2.1),some (.box [dI a2]),some (.box [.fn 129 [.box 1000000 0,.box 1000001 0,.box 1000003 0,.box 1000005 0,.box 1000006 0,.box 1000007 0,.box 1000008 0,.box 1000010 0]]),some (.box [.fn 72 []]),some (.box [.map 1000009]),some (mOb .str kS (uL (L.int .i64)) r.2.2.1),some (.box [dI a8,dR1 ag,.own 1000012]),none,some (.row 2 32 (List.map Node.row r.2.2.2))]
def bz (cx:Cx) (_rcv:(Az->(List Point)->Int->Int->Int->Int->Int->Int->Int->Int->(List (Az×Int))->Int->(List (List UInt8×Int))->Int->(List Point)->(List Node)->Option (Int×(List (Az×Int))×(List (List UInt8×Int))×(List Node)))) (p:Az) (a:List Point) (cv1 aB ax au aj ah ac ae a2 a8:Int) (ag:List Point) (_u:Unit) (tt:((List Node)×(List Int)×(List Int)×(List (Az×Int))×(List (List UInt8×Int)))) (ee:Exit) (Z:Env) (O:Sto):Prop:=match tt with
 | (l,keyv,l1,mp,mp1)=>ee=.exit 0/\EE cx (bg [(3,vX 1000003),(7,vX 1000008),(8,vX 1000010),(9,vX 9),(13,vX 13),(14,vO 5003)] [(9,.box [dI p.at_,dI p.s]),(13,.box [dI (bc .i64 (aT a) p.at_),.own 5004]),(5000,.row 2 32 (List.map Node.row l)),(5003,.row 1 5 (List.map (rI .u8) keyv)),(5004,.row 1 3 (List.map (rI .i64) l1)),(1000000,.box [dR1 a]),(1000001,.box [.fn 73 [.box 1000002 0]]),(1000002,.box [dI cv1,dI aB,dI ax,dI au,dI aj,dI ah,dI ac,dI ae]),(1000003,.box [.map 1000004]),(1000004,mOb (.ints 2) Az.key (uL (L.int .i64)) mp),(1000005,.box [dI a2]),(1000006,.box [.fn 129 [.box 1000000 0,.box 1000001 0,.box 1000003 0,.box 1000005 0,.box 1000006 0,.box 1000007 0,.box 1000008 0,.box 1000010 0]]),(1000007,.box [.fn 72 []]),(1000008,.box [.map 1000009]),(1000009,mOb .str kS (uL (L.int .i64)) mp1),(1000010,.box [dI a8,dR1 ag,.own 5000])]) Z O
theorem d6 (cx:Cx) (hn:cx.n=101) (_hk:cx.k=12) (rcv:(Az->(List Point)->Int->Int->Int->Int->Int->Int->Int->Int->(List (Az×Int))->Int->(List (List UInt8×Int))->Int->(List Point)->(List Node)->Option (Int×(List (Az×Int))×(List (List UInt8×Int))×(List Node)))) (p:Az) (a:List Point) (cv1 aB ax au aj ah ac ae a2 a8:Int) (ag:List Point) (u:Unit) (aI:bF rcv) {fu:Nat} {stt:Int×(List Node)×(List Int)×(List Int)×(List (Az×Int))×(List (List UInt8×Int))} {tt:((List Node)×(List Int)×(List Int)×(List (Az×Int))×(List (List UInt8×Int)))} (hh:aY (b_totaltree_build_int_1_o_o_o_o_o_o_o_o_1 rcv p a cv1 aB ax au aj ah ac ae a2 a8 ag u) fu stt=some tt) {Z:Env} {O:Sto}
  (hE:bl (fun stt:Int×(List Node)×(List Int)×(List Int)×(List (Az×Int))×(List (List UInt8×Int))=>match stt with | (a3,_l,_keyv,_l1,_mp,_mp1)=>[(3,vX 1000003),(5,vX 1000006),(6,vX 1000007),(7,vX 1000008),(8,vX 1000010),(9,vX 9),(13,vX 13),(14,vO 5003),(46,vI a2),(47,vI a3)]) (fun stt:Int×(List Node)×(List Int)×(List Int)×(List (Az×Int))×(List (List UInt8×Int))=>match stt with | (_a3,l,keyv,l1,mp,mp1)=>[(9,.box [dI p.at_,dI p.s]),(13,.box [dI (bc .i64 (aT a) p.at_),.own 5004]),(5000,.row 2 32 (List.map Node.row l)),(5003,.row 1 5 (List.map (rI .u8) keyv)),(5004,.row 1 3 (List.map (rI .i64) l1)),(1000000,.box [dR1 a]),(1000001,.box [.fn 73 [.box 1000002 0]]),(1000002,.box [dI cv1,dI aB,dI ax,dI au,dI aj,dI ah,dI ac,dI ae]),(1000003,.box [.map 1000004]),(1000004,mOb (.ints 2) Az.key (uL (L.int .i64)) mp),(1000005,.box [dI a2]),(1000006,.box [.fn 129 [.box 1000000 0,.box 1000001 0,.box 1000003 0,.box 1000005 0,.box 1000006 0,.box 1000007 0,.box 1000008 0,.box 1000010 0]]),(1000007,.box [.fn 72 []]),(1000008,.box [.map 1000009]),(1000009,mOb .str kS (uL (L.int .i64)) mp1),(1000010,.box [dI a8,dR1 ag,.own 5000])]) stt Z O):Swp Tryz.prog cx (.loop (bA [1,1,1,1,1,0,1,0,0] (be Tryz.f129))) Z O (bz cx rcv p a cv1 aB ax au aj ah ac ae a2 a8 ag u tt):=by
 refine bm hE hh (bz cx rcv p a cv1 aB ax au aj ah ac ae a2 a8 ag u) ?_
 rintro⟨a3,l,keyv,l1,mp,mp1⟩ r hm Z O hf
 simp only[Fits,b8,b9,and_true] at hf
 unfold b_totaltree_build_int_1_o_o_o_o_o_o_o_o_1 at hm
 dsimp only at hm
 refine srs hn ?_
 simp -dsimp [hf]
 refine aS ?_
 rcases aZ hm with ⟨c5,hm⟩ | ⟨c5,hm⟩
 ·refine aV (by simp -dsimp) c5 ?_
  refine aU (aQ (aS (aW ?_)))
  refine srs hn ?_
  simp -dsimp [hf,c5]
  refine gt bj mixed 12 (by rw[hn]; kernel_rfl) ?_
  dsimp only [List.take,List.drop]
  obtain⟨y,h6,hm⟩:=bnd hm
  simp -dsimp [hf]
  refine b7 (gA p.s p.at_ a3 y h6) ?_
  obtain⟨y1,h7,hm⟩:=bnd hm
  simp -dsimp
  refine clg (aI (⟨(bq .i64 p.at_ 1),y⟩:Az) a cv1 aB ax au aj ah ac ae mp a2 mp1 a8 ag l y1 h7) [1000000,1000001,1000002,1000003,1000004,1000005,1000006,1000007,1000008,1000009,1000010,5000] [5001] (by simp -dsimp [hf]) (dkL hn) ?_
  simp -dsimp
  refine srs hn ?_
  obtain⟨l2,h8,hm⟩:=bnd hm
  obtain⟨h8a,h8e⟩:=b6 h8
  replace h8e:=h8e.symm
  subst h8e
  try simp only[List.length_cons,List.length_nil,Nat.zero_add] at h8a
  simp -dsimp [hf,h8a]
  refine sr1 hn ?_
  obtain⟨l3,h9,hm⟩:=bnd hm
  obtain⟨h9a,h9e⟩:=b6 h9
  replace h9e:=h9e.symm
  subst h9e
  try simp only[List.length_cons,List.length_nil,Nat.zero_add] at h9a
  try simp only[Nat.mul_one,Nat.reduceLeDiff] at h9a
  obtain⟨y2,h10,hm⟩:=bnd hm
  simp -dsimp [hf,h9a]
  refine clg (bX (keyv++[32]) y1.1 10 y2 h10) [71] [5002] (by simp -dsimp) (dkL hn) ?_
  simp -dsimp
  refine bv ?_
  refine aQ ?_
  refine sr1 hn ?_
  simp -dsimp [hf]
  cases hm
  refine bE ?_
  refine emv 5002 5003 ?_
  refine emv 67 5004 ?_
  refine emv 5001 5000 ?_
  exact zz
 ·exact zz
theorem db (rcv:(Az->(List Point)->Int->Int->Int->Int->Int->Int->Int->Int->(List (Az×Int))->Int->(List (List UInt8×Int))->Int->(List Point)->(List Node)->Option (Int×(List (Az×Int))×(List (List UInt8×Int))×(List Node)))) (aI:bF rcv) (p:Az) (a:List Point) (cv1 aB ax au aj ah ac ae:Int) (a1:List (Az×Int)) (a2:Int) (cv:List (List UInt8×Int)) (a8:Int) (ag:List Point) (ar:List Node) (r:Int×(List (Az×Int))×(List (List UInt8×Int))×(List Node)) (hm:mb_totaltree_build_int_1_o_o_o_o_o_o_o_o rcv p a cv1 aB ax au aj ah ac ae a1 a2 cv a8 ag ar=some r):GFn Tryz.prog 129 [.u (.agg [dI p.at_,dI p.s]),vX 1000000,vX 1000001,vX 1000003,vX 1000005,vX 1000006,vX 1000007,vX 1000008,vX 1000010] [.box [dR1 a],.box [.fn 73 [.box 1000002 0]],.box [dI cv1,dI aB,dI ax,dI au,dI aj,dI ah,dI ac,dI ae],.box [.map 1000004],mOb (.ints 2) Az.key (uL (L.int .i64)) a1,.box [dI a2],.box [.fn 129 [.box 1000000 0,.box 1000001 0,.box 1000003 0,.box 1000005 0,.box 1000006 0,.box 1000007 0,.box 1000008 0,.box 1000010 0]],.box [.fn 72 []],.box [.map 1000009],mOb .str kS (uL (L.int .i64)) cv,.box [dI a8,dR1 ag,.own 1000011],.row 2 32 (List.map Node.row ar)] (vI r.1) [some (.box [dR1 a]),some (.box [.fn 73 [.box 1000002 0]]),some (.box [dI cv1,dI aB,dI ax,dI au,dI aj,dI ah,dI ac,dI ae]),some (.box [.map 1000004]),some (mOb (.ints 2) Az.key (uL (L.int .i64)) r.2.1),some (.box [dI a2]),some (.box [.fn 129 [.box 1000000 0,.box 1000001 0,.box 1000003 0,.box 1000005 0,.box 1000006 0,.box 1000007 0,.box 1000008 0,.box 1000010 0]]),some (.box [.fn 72 []]),some (.box [.map 1000009]),some (mOb .str kS (uL (L.int .i64)) r.2.2.1),some (.box [dI a8,dR1 ag,.own 1000012]),none,some (.row 2 32 (List.map Node.row r.2.2.2))]:=by
 refine bI bj _ Tryz.func129 rfl (by kernel_rfl) (by simp[Tryz.ntmps129]) (by simp) (by first | rfl | simp) (by first | rfl | simp) fun cx hn hk=>?_
 replace hn:cx.n=101:=hn.trans Tryz.ntmps129
 replace hk:cx.k=12:=hk
 unfold mb_totaltree_build_int_1_o_o_o_o_o_o_o_o at hm
 refine srs hn ?_
 simp -dsimp
 refine aS ?_
 refine srs hn ?_
 simp -dsimp
 rcases aZ hm with ⟨c1,hm⟩ | ⟨c1,hm⟩
 ·refine sct c1 ?_
  refine srs hn ?_
  obtain⟨y,h2,hm⟩:=bnd hm
  simp -dsimp [c1]
  refine fN (us':=[vI p.s,.u (.one (.ref [.int .i64 ((cv1,aB,ax,au,aj,ah,ac,ae):Int×Int×Int×Int×Int×Int×Int×Int).1,.int .i64 ((cv1,aB,ax,au,aj,ah,ac,ae):Int×Int×Int×Int×Int×Int×Int×Int).2.1,.int .i64 ((cv1,aB,ax,au,aj,ah,ac,ae):Int×Int×Int×Int×Int×Int×Int×Int).2.2.1,.int .i64 ((cv1,aB,ax,au,aj,ah,ac,ae):Int×Int×Int×Int×Int×Int×Int×Int).2.2.2.1,.int .i64 ((cv1,aB,ax,au,aj,ah,ac,ae):Int×Int×Int×Int×Int×Int×Int×Int).2.2.2.2.1,.int .i64 ((cv1,aB,ax,au,aj,ah,ac,ae):Int×Int×Int×Int×Int×Int×Int×Int).2.2.2.2.2.1,.int .i64 ((cv1,aB,ax,au,aj,ah,ac,ae):Int×Int×Int×Int×Int×Int×Int×Int).2.2.2.2.2.2.1,.int .i64 ((cv1,aB,ax,au,aj,ah,ac,ae):Int×Int×Int×Int×Int×Int×Int×Int).2.2.2.2.2.2.2] 0))]) (gH p.s ((cv1,aB,ax,au,aj,ah,ac,ae):Int×Int×Int×Int×Int×Int×Int×Int) y h2) (by simp -dsimp) rfl (dkL hn) ?_
  simp -dsimp
  refine bb (bS ?_)
  cases hm
  refine⟨.inr rfl,?_⟩
  refine emr 1000011 1000012 hk ?_
  exact zz
 ·refine scf c1 ?_
  refine aU (aQ (aS ?_))
  refine srs hn ?_
  obtain⟨u,h3,hm⟩:=bnd hm
  simp -dsimp [c1,df h3 (.head _),df h3 (.tail _ (.head _)),(@id (lkM (fi (mOb (.ints 2) Az.key (uL (L.int .i64)) a1) (.ints [p.at_,p.s])) true (.one (dI 0))=some (.tup [.one (dI (ek a1 p 0)),.one (.d (.bool (cb a1 p)))])) (lk_two p 0))]
  refine srs hn ?_
  simp -dsimp
  rcases aZ hm with ⟨c4,hm⟩ | ⟨c4,hm⟩
  ·refine aV (b:=(cb a1 p)) (by simp -dsimp) c4 ?_
   refine srs hn ?_
   simp -dsimp [c4]
   refine bb (bS ?_)
   cases hm
   refine⟨.inr rfl,?_⟩
   refine emr 1000011 1000012 hk ?_
   exact zz
  ·refine aX (b:=(cb a1 p)) (by simp -dsimp) c4 ?_
   refine aU (aQ ?_)
   refine srs hn ?_
   simp -dsimp [c4]
   refine sw_regBs bj 3 (by rw[hn]; kernel_rfl) ?_
   dsimp only [List.take,List.drop]
   simp -dsimp
   refine aS ?_
   refine srs hn ?_
   simp -dsimp
   refine aW ?_
   obtain⟨⟨l,keyv,l1,mp,mp1⟩,g11,hm⟩:=bnd hm
   refine bd (d6 cx hn hk rcv p a cv1 aB ax au aj ah ac ae a2 a8 ag u aI g11) (by
     try dsimp only
     refine emv 45 5003 ?_
     refine emv 1000011 5000 ?_
     refine EE.step (Wk.own0b 13 1 5004 1 3 [dI (bc .i64 (aT a) p.at_),.d .nil] (by simp -dsimp) (by rfl) (by decide) (by decide)) ?_
     exact zz
   ) fun ee Z O xx=>?_
   unfold bz at xx
   dsimp only at xx
   obtain⟨rfl,xx⟩:=xx
   refine bh ?_
   refine aQ ?_
   refine see xx fun Z O hf=>?_
   simp only[Fits,b8,b9,and_true] at hf
   refine srs hn ?_
   obtain⟨u1,h12,hm⟩:=bnd hm
   simp -dsimp [hf,dP h12,(@id (lkM (fi (mOb .str kS (uL (L.int .i64)) mp1) (.str (ofBytes keyv))) true (.one (dI 0))=some (.tup [.one (dI (ek mp1 (ofBytes keyv) 0)),.one (.d (.bool (cb mp1 (ofBytes keyv))))])) (lk_two (ofBytes keyv) 0))]
   obtain⟨⟨idv,mp2,l2⟩,j15,hm⟩:=bnd hm
   refine scE [(3,vX 1000003),(9,vX 9),(17,vI idv)] [(9,.box [dI p.at_,dI p.s]),(5000,.row 2 32 (List.map Node.row l2)),(1000000,.box [dR1 a]),(1000001,.box [.fn 73 [.box 1000002 0]]),(1000002,.box [dI cv1,dI aB,dI ax,dI au,dI aj,dI ah,dI ac,dI ae]),(1000003,.box [.map 1000004]),(1000004,mOb (.ints 2) Az.key (uL (L.int .i64)) mp),(1000005,.box [dI a2]),(1000006,.box [.fn 129 [.box 1000000 0,.box 1000001 0,.box 1000003 0,.box 1000005 0,.box 1000006 0,.box 1000007 0,.box 1000008 0,.box 1000010 0]]),(1000007,.box [.fn 72 []]),(1000008,.box [.map 1000009]),(1000009,mOb .str kS (uL (L.int .i64)) mp2),(1000010,.box [dI a8,dR1 ag,.own 5000])] ?_ fun Z O hf=>?_
   ·replace hm:=j15
    clear j15
    refine srs hn ?_
    simp -dsimp
    rcases aZ hm with ⟨c13,hm⟩ | ⟨c13,hm⟩
    ·refine aV (b:=(bB (cb mp1 (ofBytes keyv)))) (by simp -dsimp) c13 ?_
     refine srs hn ?_
     simp -dsimp [hf,c13]
     refine Swp.pre (Wk.frz 5004 1 3 (List.map (rI .i64) l1) (by simp -dsimp [hf])) ?_
     refine srs hn ?_
     obtain⟨l2,h14,hm⟩:=bnd hm
     obtain⟨h14a,h14e⟩:=b6 h14
     replace h14e:=h14e.symm
     subst h14e
     try simp only[List.length_cons,List.length_nil,Nat.zero_add] at h14a
     simp -dsimp [hf,h14a]
     refine sr1 hn ?_
     simp -dsimp [hf,dP h12,(@id (ga (mOb .str kS (uL (L.int .i64)) mp1) (.str (ofBytes keyv)) (.one (dI (aT l)))=mOb .str kS (uL (L.int .i64)) (dD mp1 (ofBytes keyv) (aT l))) (gp .str kS (uL (L.int .i64)) mp1 (ofBytes keyv) (aT l)))]
     refine aQ ?_
     cases hm
     refine emv 91 5000 ?_
     exact zz
    ·exact zz
   ·clear j15
    simp only[Fits,b8,b9,and_true] at hf
    refine srs hn ?_
    simp -dsimp [hf,df h3 (.head _),df h3 (.tail _ (.head _)),(@id (ga (mOb (.ints 2) Az.key (uL (L.int .i64)) mp) (.ints [p.at_,p.s]) (.one (dI idv))=mOb (.ints 2) Az.key (uL (L.int .i64)) (dD mp p idv)) (gp (.ints 2) Az.key (uL (L.int .i64)) mp p idv))]
    refine srs hn ?_
    simp -dsimp [hf]
    refine bb ?_
    cases hm
    refine⟨.inr rfl,?_⟩
    refine emr 5000 1000012 hk ?_
    exact zz
theorem dh (p:Az) (a:List Point) (cv1 aB ax au aj ah ac ae:Int) (a1:List (Az×Int)) (a2:Int) (cv:List (List UInt8×Int)) (a8:Int) (ag:List Point) (ar:List Node) (r:Int×(List (Az×Int))×(List (List UInt8×Int))×(List Node)) (hm:m_totaltree_build_int_1_o_o_o_o_o_o_o_o p a cv1 aB ax au aj ah ac ae a1 a2 cv a8 ag ar=some r):GFn Tryz.prog 129 [.u (.agg [dI p.at_,dI p.s]),vX 1000000,vX 1000001,vX 1000003,vX 1000005,vX 1000006,vX 1000007,vX 1000008,vX 1000010] [.box [dR1 a],.box [.fn 73 [.box 1000002 0]],.box [dI cv1,dI aB,dI ax,dI au,dI aj,dI ah,dI ac,dI ae],.box [.map 1000004],mOb (.ints 2) Az.key (uL (L.int .i64)) a1,.box [dI a2],.box [.fn 129 [.box 1000000 0,.box 1000001 0,.box 1000003 0,.box 1000005 0,.box 1000006 0,.box 1000007 0,.box 1000008 0,.box 1000010 0]],.box [.fn 72 []],.box [.map 1000009],mOb .str kS (uL (L.int .i64)) cv,.box [dI a8,dR1 ag,.own 1000011],.row 2 32 (List.map Node.row ar)] (vI r.1) [some (.box [dR1 a]),some (.box [.fn 73 [.box 1000002 0]]),some (.box [dI cv1,dI aB,dI ax,dI au,dI aj,dI ah,dI ac,dI ae]),some (.box [.map 1000004]),some (mOb (.ints 2) Az.key (uL (L.int .i64)) r.2.1),some (.box [dI a2]),some (.box [.fn 129 [.box 1000000 0,.box 1000001 0,.box 1000003 0,.box 1000005 0,.box 1000006 0,.box 1000007 0,.box 1000008 0,.box 1000010 0]]),some (.box [.fn 72 []]),some (.box [.map 1000009]),some (mOb .str kS (uL (L.int .i64)) r.2.2.1),some (.box [dI a8,dR1 ag,.own 1000012]),none,some (.row 2 32 (List.map Node.row r.2.2.2))]:=eC bF (by intro _; intro _; intro _; intro _; intro _; intro _; intro _; intro _; intro _; intro _; intro _; intro _; intro _; intro _; intro _; intro _; intro _; intro hm; cases hm) db fg p a cv1 aB ax au aj ah ac ae a1 a2 cv a8 ag ar r hm
theorem bL (states:Int) (l:List Point) (start cv1 aB ax au aj ah ac ae:Int) (r:List Node) (hm:m_totaltree_build_int_totaltree_Elementary_1_totaltree_Elementary_2_o states l start cv1 aB ax au aj ah ac ae=some r):GFn Tryz.prog 70 [vI states,.u (.one (dR1 l)),vI start,.u (.one (.fn 72 [])),.u (.one (.fn 73 [.box 1000000 0]))] [.box [dI cv1,dI aB,dI ax,dI au,dI aj,dI ah,dI ac,dI ae]] (.u (.agg [dI states,dR1 l,dR0 r])) [some (.box [dI cv1,dI aB,dI ax,dI au,dI aj,dI ah,dI ac,dI ae])]:=by
 refine bI bj _ Tryz.func70 rfl (by kernel_rfl) (by simp[Tryz.ntmps70]) (by simp) (by first | rfl | simp) (by first | rfl | simp) fun cx hn hk=>?_
 replace hn:cx.n=26:=hn.trans Tryz.ntmps70
 replace hk:cx.k=1:=hk
 unfold m_totaltree_build_int_totaltree_Elementary_1_totaltree_Elementary_2_o at hm
 refine srs hn ?_
 simp -dsimp
 refine srs hn ?_
 simp -dsimp
 refine srs hn ?_
 simp -dsimp [(@id (Ob.map (.ints 2) []=mOb (.ints 2) Az.key (uL (L.int .i64)) ([]:List (Az×Int))) (fC (.ints 2) Az.key (uL (L.int .i64))))]
 refine srs hn ?_
 simp -dsimp [(@id (Ob.map .str []=mOb .str kS (uL (L.int .i64)) ([]:List (List UInt8×Int))) (fC .str kS (uL (L.int .i64))))]
 refine srs hn ?_
 simp -dsimp
 refine srs hn ?_
 simp -dsimp
 refine Swp.pre (Wk.own0b 10 2 5000 2 32 [dI 0,.d .nil,.d .nil] (by simp -dsimp) (by rfl) (by decide) (by decide)) ?_
 refine Swp.pre (Wk.own0b 11 2 5001 2 32 [dI states,dR1 l,.d .nil] (by simp -dsimp) (by rfl) (by decide) (by decide)) ?_
 refine srs hn ?_
 obtain⟨y,h1,hm⟩:=bnd hm
 simp -dsimp
 refine callL_g (dh (⟨0,start⟩:Az) l cv1 aB ax au aj ah ac ae [] states [] states l [] y h1) [6,9,1000000,12,18,5,14,8,13,19,11,5001] [5002] rfl rfl rfl (by simp -dsimp) rfl (by simp -dsimp) (by first | rfl | simp) rfl (dkL hn) ?_
 simp -dsimp
 refine Swp.pre (Wk.frz 5002 2 32 (List.map Node.row y.2.2.2) (by simp -dsimp)) ?_
 exact zz
theorem i8 (n:Int) (r:Tree×Int) (hm:m_totaltree_Elementary n=some r):PureCall Tryz.prog 22 [vI n] (.tup [.agg [dI r.1.States,dR1 r.1.Hood,dR0 r.1.Nodes],.one (dI r.2)]):=by
 refine bo Tryz.func22 Tryz.ntmps22 fun cx hn=>?_
 unfold m_totaltree_Elementary at hm
 refine srs hn ?_
 simp -dsimp
 refine srs hn ?_
 obtain⟨y,h1,hm⟩:=bnd hm
 simp -dsimp
 refine aR (c_wolfram_Elementary n y h1) (dkL hn) ?_
 simp -dsimp
 refine aS ?_
 refine srs hn ?_
 simp -dsimp
 rcases aZ hm with ⟨c2,hm⟩ | ⟨c2,hm⟩
 ·exact zz
 ·refine aX (by simp -dsimp) c2 ?_
  refine aU (aQ ?_)
  refine srs hn ?_
  obtain⟨y1,h3,hm⟩:=bnd hm
  simp -dsimp [c2]
  refine aR (c_totaltree_row y1 h3) (dkL hn) ?_
  obtain⟨y2,h4,hm⟩:=bnd hm
  simp -dsimp
  refine clg (bL 2 y1 0 y.1.1 y.1.2.1 y.1.2.2.1 y.1.2.2.2.1 y.1.2.2.2.2.1 y.1.2.2.2.2.2.1 y.1.2.2.2.2.2.2.1 y.1.2.2.2.2.2.2.2 y2 h4) [4] [] (by simp -dsimp) (dkL hn) ?_
  exact zz
theorem c_totaltree_Sums_2 (s:Int) (a:List Int) (r:Int) (hm:m_totaltree_Sums_2 s a=some r):PureCall Tryz.prog 75 [vI s,.u (.one (.ref ((rS 1 (rI .i64)) a) 0))] (vI r):=by
 refine bo Tryz.func75 Tryz.ntmps75 fun cx hn=>?_
 unfold m_totaltree_Sums_2 at hm
 exact zz
theorem c_totaltree_Sums_1 (s at_ state r:Int) (hm:m_totaltree_Sums_1 s at_ state=some r):PureCall Tryz.prog 74 [vI s,vI at_,vI state] (vI r):=by
 refine bo Tryz.func74 Tryz.ntmps74 fun cx hn=>?_
 unfold m_totaltree_Sums_1 at hm
 refine srs hn ?_
 simp -dsimp
 refine srs hn ?_
 simp -dsimp
 cases hm
 exact bb ⟨.inr rfl,EE.here (by simp -dsimp)⟩
end Go.Proofs.YtcllfealpkhjfaaGreatDoor
namespace Go.Proofs.YtcllfealpkhjfaaGreatDoor
open Go.AM Go.Proofs
set_option maxRecDepth 100000
attribute [-simp] qlookup cd cW Ob.wipe Ob.ren Ob.frz1
def bC (rcv:(Az->(List Point)->(List Int)->(List (Az×Int))->Int->(List (List UInt8×Int))->Int->(List Point)->(List Node)->Option (Int×(List (Az×Int))×(List (List UInt8×Int))×(List Node)))):Prop:=∀ (p:Az) (a:List Point) (cv:List Int) (a1:List (Az×Int)) (a2:Int) (cv1:List (List UInt8×Int)) (a8:Int) (ag:List Point) (ar:List Node) (r:Int×(List (Az×Int))×(List (List UInt8×Int))×(List Node)),rcv p a cv a1 a2 cv1 a8 ag ar=some r->GFn Tryz.prog 129 [.u (.agg [dI p.at_,dI p.s]),vX 1000000,vX 1000001,vX 1000003,vX 1000005,vX 1000006,vX 1000007,vX 1000008,vX 1000010] [.box [dR1 a],.box [.fn 75 [.box 1000002 0]],.box [dL cv],.box [.map 1000004],mOb (.ints 2) Az.key (uL (L.int .i64)) a1,.box [dI a2],.box [.fn 129 [.box 1000000 0,.box 1000001 0,.box 1000003 0,.box 1000005 0,.box 1000006 0,.box 1000007 0,.box 1000008 0,.box 1000010 0]],.box [.fn 74 []],.box [.map 1000009],mOb .str kS (uL (L.int .i64)) cv1,.box [dI a8,dR1 ag,.own 1000011],.row 2 32 (List.map Node.row ar)] (vI r.1) [some (.box [dR1 a]),some (.box [.fn 75 [.box 1000002 0]]),some (.box [dL cv]),some (.box [.map 1000004]),some (mOb (.ints 2) Az.key (uL (L.int .i64)) r.2.1),some (.box [dI a2]),some (.box [.fn 129 [.box 1000000 0,.box 1000001 0,.box 1000003 0,.box 1000005 0,.box 1000006 0,.box 1000007 0,.box 1000008 0,.box 1000010 0]]),some (.box [.fn 74 []]),some (.box [.map 1000009]),some (mOb .str kS (uL (L.int .i64)) r.2.2.1),some (.box [dI a8,dR1 ag,.own 1000012]),none,some (.row 2 32 (List.map Node.row r.2.2.2))]
def bw (cx:Cx) (_rcv:(Az->(List Point)->(List Int)->(List (Az×Int))->Int->(List (List UInt8×Int))->Int->(List Point)->(List Node)->Option (Int×(List (Az×Int))×(List (List UInt8×Int))×(List Node)))) (p:Az) (a:List Point) (cv:List Int) (a2 a8:Int) (ag:List Point) (_u:Unit) (tt:((List Node)×(List Int)×(List Int)×(List (Az×Int))×(List (List UInt8×Int)))) (ee:Exit) (Z:Env) (O:Sto):Prop:=match tt with
 | (l,keyv,l1,mp,mp1)=>ee=.exit 0/\EE cx (bg [(3,vX 1000003),(7,vX 1000008),(8,vX 1000010),(9,vX 9),(13,vX 13),(14,vO 5003)] [(9,.box [dI p.at_,dI p.s]),(13,.box [dI (bc .i64 (aT a) p.at_),.own 5004]),(5000,.row 2 32 (List.map Node.row l)),(5003,.row 1 5 (List.map (rI .u8) keyv)),(5004,.row 1 3 (List.map (rI .i64) l1)),(1000000,.box [dR1 a]),(1000001,.box [.fn 75 [.box 1000002 0]]),(1000002,.box [dL cv]),(1000003,.box [.map 1000004]),(1000004,mOb (.ints 2) Az.key (uL (L.int .i64)) mp),(1000005,.box [dI a2]),(1000006,.box [.fn 129 [.box 1000000 0,.box 1000001 0,.box 1000003 0,.box 1000005 0,.box 1000006 0,.box 1000007 0,.box 1000008 0,.box 1000010 0]]),(1000007,.box [.fn 74 []]),(1000008,.box [.map 1000009]),(1000009,mOb .str kS (uL (L.int .i64)) mp1),(1000010,.box [dI a8,dR1 ag,.own 5000])]) Z O
theorem cV (cx:Cx) (hn:cx.n=101) (_hk:cx.k=12) (rcv:(Az->(List Point)->(List Int)->(List (Az×Int))->Int->(List (List UInt8×Int))->Int->(List Point)->(List Node)->Option (Int×(List (Az×Int))×(List (List UInt8×Int))×(List Node)))) (p:Az) (a:List Point) (cv:List Int) (a2 a8:Int) (ag:List Point) (u:Unit) (aI:bC rcv) {fu:Nat} {stt:Int×(List Node)×(List Int)×(List Int)×(List (Az×Int))×(List (List UInt8×Int))} {tt:((List Node)×(List Int)×(List Int)×(List (Az×Int))×(List (List UInt8×Int)))} (hh:aY (b_totaltree_build_int_1_o_o_o_o_o_o_o_ox_1 rcv p a cv a2 a8 ag u) fu stt=some tt) {Z:Env} {O:Sto}
  (hE:bl (fun stt:Int×(List Node)×(List Int)×(List Int)×(List (Az×Int))×(List (List UInt8×Int))=>match stt with | (a3,_l,_keyv,_l1,_mp,_mp1)=>[(3,vX 1000003),(5,vX 1000006),(6,vX 1000007),(7,vX 1000008),(8,vX 1000010),(9,vX 9),(13,vX 13),(14,vO 5003),(46,vI a2),(47,vI a3)]) (fun stt:Int×(List Node)×(List Int)×(List Int)×(List (Az×Int))×(List (List UInt8×Int))=>match stt with | (_a3,l,keyv,l1,mp,mp1)=>[(9,.box [dI p.at_,dI p.s]),(13,.box [dI (bc .i64 (aT a) p.at_),.own 5004]),(5000,.row 2 32 (List.map Node.row l)),(5003,.row 1 5 (List.map (rI .u8) keyv)),(5004,.row 1 3 (List.map (rI .i64) l1)),(1000000,.box [dR1 a]),(1000001,.box [.fn 75 [.box 1000002 0]]),(1000002,.box [dL cv]),(1000003,.box [.map 1000004]),(1000004,mOb (.ints 2) Az.key (uL (L.int .i64)) mp),(1000005,.box [dI a2]),(1000006,.box [.fn 129 [.box 1000000 0,.box 1000001 0,.box 1000003 0,.box 1000005 0,.box 1000006 0,.box 1000007 0,.box 1000008 0,.box 1000010 0]]),(1000007,.box [.fn 74 []]),(1000008,.box [.map 1000009]),(1000009,mOb .str kS (uL (L.int .i64)) mp1),(1000010,.box [dI a8,dR1 ag,.own 5000])]) stt Z O):Swp Tryz.prog cx (.loop (bA [1,1,1,1,1,0,1,0,0] (be Tryz.f129))) Z O (bw cx rcv p a cv a2 a8 ag u tt):=by
 refine bm hE hh (bw cx rcv p a cv a2 a8 ag u) ?_
 rintro⟨a3,l,keyv,l1,mp,mp1⟩ r hm Z O hf
 simp only[Fits,b8,b9,and_true] at hf
 unfold b_totaltree_build_int_1_o_o_o_o_o_o_o_ox_1 at hm
 dsimp only at hm
 refine srs hn ?_
 simp -dsimp [hf]
 refine aS ?_
 rcases aZ hm with ⟨c5,hm⟩ | ⟨c5,hm⟩
 ·refine aV (by simp -dsimp) c5 ?_
  refine aU (aQ (aS (aW ?_)))
  refine srs hn ?_
  simp -dsimp [hf,c5]
  refine gt bj mixed 12 (by rw[hn]; kernel_rfl) ?_
  dsimp only [List.take,List.drop]
  obtain⟨y,h6,hm⟩:=bnd hm
  simp -dsimp [hf]
  refine b7 (c_totaltree_Sums_1 p.s p.at_ a3 y h6) ?_
  obtain⟨y1,h7,hm⟩:=bnd hm
  simp -dsimp
  refine clg (aI (⟨(bq .i64 p.at_ 1),y⟩:Az) a cv mp a2 mp1 a8 ag l y1 h7) [1000000,1000001,1000002,1000003,1000004,1000005,1000006,1000007,1000008,1000009,1000010,5000] [5001] (by simp -dsimp [hf]) (dkL hn) ?_
  simp -dsimp
  refine srs hn ?_
  obtain⟨l2,h8,hm⟩:=bnd hm
  obtain⟨h8a,h8e⟩:=b6 h8
  replace h8e:=h8e.symm
  subst h8e
  try simp only[List.length_cons,List.length_nil,Nat.zero_add] at h8a
  simp -dsimp [hf,h8a]
  refine sr1 hn ?_
  obtain⟨l3,h9,hm⟩:=bnd hm
  obtain⟨h9a,h9e⟩:=b6 h9
  replace h9e:=h9e.symm
  subst h9e
  try simp only[List.length_cons,List.length_nil,Nat.zero_add] at h9a
  try simp only[Nat.mul_one,Nat.reduceLeDiff] at h9a
  obtain⟨y2,h10,hm⟩:=bnd hm
  simp -dsimp [hf,h9a]
  refine clg (bX (keyv++[32]) y1.1 10 y2 h10) [71] [5002] (by simp -dsimp) (dkL hn) ?_
  simp -dsimp
  refine bv ?_
  refine aQ ?_
  refine sr1 hn ?_
  simp -dsimp [hf]
  cases hm
  refine bE ?_
  refine emv 5002 5003 ?_
  refine emv 67 5004 ?_
  refine emv 5001 5000 ?_
  exact zz
 ·exact zz
theorem cZ (rcv:(Az->(List Point)->(List Int)->(List (Az×Int))->Int->(List (List UInt8×Int))->Int->(List Point)->(List Node)->Option (Int×(List (Az×Int))×(List (List UInt8×Int))×(List Node)))) (aI:bC rcv) (p:Az) (a:List Point) (cv:List Int) (a1:List (Az×Int)) (a2:Int) (cv1:List (List UInt8×Int)) (a8:Int) (ag:List Point) (ar:List Node) (r:Int×(List (Az×Int))×(List (List UInt8×Int))×(List Node)) (hm:mb_totaltree_build_int_1_o_o_o_o_o_o_o_ox rcv p a cv a1 a2 cv1 a8 ag ar=some r):GFn Tryz.prog 129 [.u (.agg [dI p.at_,dI p.s]),vX 1000000,vX 1000001,vX 1000003,vX 1000005,vX 1000006,vX 1000007,vX 1000008,vX 1000010] [.box [dR1 a],.box [.fn 75 [.box 1000002 0]],.box [dL cv],.box [.map 1000004],mOb (.ints 2) Az.key (uL (L.int .i64)) a1,.box [dI a2],.box [.fn 129 [.box 1000000 0,.box 1000001 0,.box 1000003 0,.box 1000005 0,.box 1000006 0,.box 1000007 0,.box 1000008 0,.box 1000010 0]],.box [.fn 74 []],.box [.map 1000009],mOb .str kS (uL (L.int .i64)) cv1,.box [dI a8,dR1 ag,.own 1000011],.row 2 32 (List.map Node.row ar)] (vI r.1) [some (.box [dR1 a]),some (.box [.fn 75 [.box 1000002 0]]),some (.box [dL cv]),some (.box [.map 1000004]),some (mOb (.ints 2) Az.key (uL (L.int .i64)) r.2.1),some (.box [dI a2]),some (.box [.fn 129 [.box 1000000 0,.box 1000001 0,.box 1000003 0,.box 1000005 0,.box 1000006 0,.box 1000007 0,.box 1000008 0,.box 1000010 0]]),some (.box [.fn 74 []]),some (.box [.map 1000009]),some (mOb .str kS (uL (L.int .i64)) r.2.2.1),some (.box [dI a8,dR1 ag,.own 1000012]),none,some (.row 2 32 (List.map Node.row r.2.2.2))]:=by
 refine bI bj _ Tryz.func129 rfl (by kernel_rfl) (by simp[Tryz.ntmps129]) (by simp) (by first | rfl | simp) (by first | rfl | simp) fun cx hn hk=>?_
 replace hn:cx.n=101:=hn.trans Tryz.ntmps129
 replace hk:cx.k=12:=hk
 unfold mb_totaltree_build_int_1_o_o_o_o_o_o_o_ox at hm
 refine srs hn ?_
 simp -dsimp
 refine aS ?_
 refine srs hn ?_
 simp -dsimp
 rcases aZ hm with ⟨c1,hm⟩ | ⟨c1,hm⟩
 ·refine sct c1 ?_
  refine srs hn ?_
  obtain⟨y,h2,hm⟩:=bnd hm
  simp -dsimp [c1]
  refine fN (us':=[vI p.s,.u (.one (.ref ((rS 1 (rI .i64)) cv) 0))]) (c_totaltree_Sums_2 p.s cv y h2) (by simp -dsimp) rfl (dkL hn) ?_
  simp -dsimp
  refine bb (bS ?_)
  cases hm
  refine⟨.inr rfl,?_⟩
  refine emr 1000011 1000012 hk ?_
  exact zz
 ·refine scf c1 ?_
  refine aU (aQ (aS ?_))
  refine srs hn ?_
  obtain⟨u,h3,hm⟩:=bnd hm
  simp -dsimp [c1,df h3 (.head _),df h3 (.tail _ (.head _)),(@id (lkM (fi (mOb (.ints 2) Az.key (uL (L.int .i64)) a1) (.ints [p.at_,p.s])) true (.one (dI 0))=some (.tup [.one (dI (ek a1 p 0)),.one (.d (.bool (cb a1 p)))])) (lk_two p 0))]
  refine srs hn ?_
  simp -dsimp
  rcases aZ hm with ⟨c4,hm⟩ | ⟨c4,hm⟩
  ·refine aV (b:=(cb a1 p)) (by simp -dsimp) c4 ?_
   refine srs hn ?_
   simp -dsimp [c4]
   refine bb (bS ?_)
   cases hm
   refine⟨.inr rfl,?_⟩
   refine emr 1000011 1000012 hk ?_
   exact zz
  ·refine aX (b:=(cb a1 p)) (by simp -dsimp) c4 ?_
   refine aU (aQ ?_)
   refine srs hn ?_
   simp -dsimp [c4]
   refine sw_regBs bj 3 (by rw[hn]; kernel_rfl) ?_
   dsimp only [List.take,List.drop]
   simp -dsimp
   refine aS ?_
   refine srs hn ?_
   simp -dsimp
   refine aW ?_
   obtain⟨⟨l,keyv,l1,mp,mp1⟩,g11,hm⟩:=bnd hm
   refine bd (cV cx hn hk rcv p a cv a2 a8 ag u aI g11) (by
     try dsimp only
     refine emv 45 5003 ?_
     refine emv 1000011 5000 ?_
     refine EE.step (Wk.own0b 13 1 5004 1 3 [dI (bc .i64 (aT a) p.at_),.d .nil] (by simp -dsimp) (by rfl) (by decide) (by decide)) ?_
     exact zz
   ) fun ee Z O xx=>?_
   unfold bw at xx
   dsimp only at xx
   obtain⟨rfl,xx⟩:=xx
   refine bh ?_
   refine aQ ?_
   refine see xx fun Z O hf=>?_
   simp only[Fits,b8,b9,and_true] at hf
   refine srs hn ?_
   obtain⟨u1,h12,hm⟩:=bnd hm
   simp -dsimp [hf,dP h12,(@id (lkM (fi (mOb .str kS (uL (L.int .i64)) mp1) (.str (ofBytes keyv))) true (.one (dI 0))=some (.tup [.one (dI (ek mp1 (ofBytes keyv) 0)),.one (.d (.bool (cb mp1 (ofBytes keyv))))])) (lk_two (ofBytes keyv) 0))]
   obtain⟨⟨idv,mp2,l2⟩,j15,hm⟩:=bnd hm
   refine scE [(3,vX 1000003),(9,vX 9),(17,vI idv)] [(9,.box [dI p.at_,dI p.s]),(5000,.row 2 32 (List.map Node.row l2)),(1000000,.box [dR1 a]),(1000001,.box [.fn 75 [.box 1000002 0]]),(1000002,.box [dL cv]),(1000003,.box [.map 1000004]),(1000004,mOb (.ints 2) Az.key (uL (L.int .i64)) mp),(1000005,.box [dI a2]),(1000006,.box [.fn 129 [.box 1000000 0,.box 1000001 0,.box 1000003 0,.box 1000005 0,.box 1000006 0,.box 1000007 0,.box 1000008 0,.box 1000010 0]]),(1000007,.box [.fn 74 []]),(1000008,.box [.map 1000009]),(1000009,mOb .str kS (uL (L.int .i64)) mp2),(1000010,.box [dI a8,dR1 ag,.own 5000])] ?_ fun Z O hf=>?_
   ·replace hm:=j15
    clear j15
    refine srs hn ?_
    simp -dsimp
    rcases aZ hm with ⟨c13,hm⟩ | ⟨c13,hm⟩
    ·refine aV (b:=(bB (cb mp1 (ofBytes keyv)))) (by simp -dsimp) c13 ?_
     refine srs hn ?_
     simp -dsimp [hf,c13]
     refine Swp.pre (Wk.frz 5004 1 3 (List.map (rI .i64) l1) (by simp -dsimp [hf])) ?_
     refine srs hn ?_
     obtain⟨l2,h14,hm⟩:=bnd hm
     obtain⟨h14a,h14e⟩:=b6 h14
     replace h14e:=h14e.symm
     subst h14e
     try simp only[List.length_cons,List.length_nil,Nat.zero_add] at h14a
     simp -dsimp [hf,h14a]
     refine sr1 hn ?_
     simp -dsimp [hf,dP h12,(@id (ga (mOb .str kS (uL (L.int .i64)) mp1) (.str (ofBytes keyv)) (.one (dI (aT l)))=mOb .str kS (uL (L.int .i64)) (dD mp1 (ofBytes keyv) (aT l))) (gp .str kS (uL (L.int .i64)) mp1 (ofBytes keyv) (aT l)))]
     refine aQ ?_
     cases hm
     refine emv 91 5000 ?_
     exact zz
    ·exact zz
   ·clear j15
    simp only[Fits,b8,b9,and_true] at hf
    refine srs hn ?_
    simp -dsimp [hf,df h3 (.head _),df h3 (.tail _ (.head _)),(@id (ga (mOb (.ints 2) Az.key (uL (L.int .i64)) mp) (.ints [p.at_,p.s]) (.one (dI idv))=mOb (.ints 2) Az.key (uL (L.int .i64)) (dD mp p idv)) (gp (.ints 2) Az.key (uL (L.int .i64)) mp p idv))]
    refine srs hn ?_
    simp -dsimp [hf]
    refine bb ?_
    cases hm
    refine⟨.inr rfl,?_⟩
    refine emr 5000 1000012 hk ?_
    exact zz
theorem d9 (p:Az) (a:List Point) (cv:List Int) (a1:List (Az×Int)) (a2:Int) (cv1:List (List UInt8×Int)) (a8:Int) (ag:List Point) (ar:List Node) (r:Int×(List (Az×Int))×(List (List UInt8×Int))×(List Node)) (hm:m_totaltree_build_int_1_o_o_o_o_o_o_o_ox p a cv a1 a2 cv1 a8 ag ar=some r):GFn Tryz.prog 129 [.u (.agg [dI p.at_,dI p.s]),vX 1000000,vX 1000001,vX 1000003,vX 1000005,vX 1000006,vX 1000007,vX 1000008,vX 1000010] [.box [dR1 a],.box [.fn 75 [.box 1000002 0]],.box [dL cv],.box [.map 1000004],mOb (.ints 2) Az.key (uL (L.int .i64)) a1,.box [dI a2],.box [.fn 129 [.box 1000000 0,.box 1000001 0,.box 1000003 0,.box 1000005 0,.box 1000006 0,.box 1000007 0,.box 1000008 0,.box 1000010 0]],.box [.fn 74 []],.box [.map 1000009],mOb .str kS (uL (L.int .i64)) cv1,.box [dI a8,dR1 ag,.own 1000011],.row 2 32 (List.map Node.row ar)] (vI r.1) [some (.box [dR1 a]),some (.box [.fn 75 [.box 1000002 0]]),some (.box [dL cv]),some (.box [.map 1000004]),some (mOb (.ints 2) Az.key (uL (L.int .i64)) r.2.1),some (.box [dI a2]),some (.box [.fn 129 [.box 1000000 0,.box 1000001 0,.box 1000003 0,.box 1000005 0,.box 1000006 0,.box 1000007 0,.box 1000008 0,.box 1000010 0]]),some (.box [.fn 74 []]),some (.box [.map 1000009]),some (mOb .str kS (uL (L.int .i64)) r.2.2.1),some (.box [dI a8,dR1 ag,.own 1000012]),none,some (.row 2 32 (List.map Node.row r.2.2.2))]:=eC bC (by intro _; intro _; intro _; intro _; intro _; intro _; intro _; intro _; intro _; intro _; intro hm; cases hm) cZ fg p a cv a1 a2 cv1 a8 ag ar r hm
theorem bZ (states:Int) (l:List Point) (start:Int) (cv:List Int) (r:List Node) (hm:m_totaltree_build_int_totaltree_Sums_1_totaltree_Sums_2_o states l start cv=some r):GFn Tryz.prog 70 [vI states,.u (.one (dR1 l)),vI start,.u (.one (.fn 74 [])),.u (.one (.fn 75 [.box 1000000 0]))] [.box [dL cv]] (.u (.agg [dI states,dR1 l,dR0 r])) [some (.box [dL cv])]:=by
 refine bI bj _ Tryz.func70 rfl (by kernel_rfl) (by simp[Tryz.ntmps70]) (by simp) (by first | rfl | simp) (by first | rfl | simp) fun cx hn hk=>?_
 replace hn:cx.n=26:=hn.trans Tryz.ntmps70
 replace hk:cx.k=1:=hk
 unfold m_totaltree_build_int_totaltree_Sums_1_totaltree_Sums_2_o at hm
 refine srs hn ?_
 simp -dsimp
 refine srs hn ?_
 simp -dsimp
 refine srs hn ?_
 simp -dsimp [(@id (Ob.map (.ints 2) []=mOb (.ints 2) Az.key (uL (L.int .i64)) ([]:List (Az×Int))) (fC (.ints 2) Az.key (uL (L.int .i64))))]
 refine srs hn ?_
 simp -dsimp [(@id (Ob.map .str []=mOb .str kS (uL (L.int .i64)) ([]:List (List UInt8×Int))) (fC .str kS (uL (L.int .i64))))]
 refine srs hn ?_
 simp -dsimp
 refine srs hn ?_
 simp -dsimp
 refine Swp.pre (Wk.own0b 10 2 5000 2 32 [dI 0,.d .nil,.d .nil] (by simp -dsimp) (by rfl) (by decide) (by decide)) ?_
 refine Swp.pre (Wk.own0b 11 2 5001 2 32 [dI states,dR1 l,.d .nil] (by simp -dsimp) (by rfl) (by decide) (by decide)) ?_
 refine srs hn ?_
 obtain⟨y,h1,hm⟩:=bnd hm
 simp -dsimp
 refine callL_g (d9 (⟨0,start⟩:Az) l cv [] states [] states l [] y h1) [6,9,1000000,12,18,5,14,8,13,19,11,5001] [5002] rfl rfl rfl (by simp -dsimp) rfl (by simp -dsimp) (by first | rfl | simp) rfl (dkL hn) ?_
 simp -dsimp
 refine Swp.pre (Wk.frz 5002 2 32 (List.map Node.row y.2.2.2) (by simp -dsimp)) ?_
 exact zz
theorem c_totaltree_Sums (states n:Int) (r:Tree×Int) (hm:m_totaltree_Sums states n=some r):PureCall Tryz.prog 23 [vI states,vI n] (.tup [.agg [dI r.1.States,dR1 r.1.Hood,dR0 r.1.Nodes],.one (dI r.2)]):=by
 refine bo Tryz.func23 Tryz.ntmps23 fun cx hn=>?_
 unfold m_totaltree_Sums at hm
 refine srs hn ?_
 simp -dsimp
 refine srs hn ?_
 obtain⟨y,h1,hm⟩:=bnd hm
 simp -dsimp
 refine aR (gM states n y h1) (dkL hn) ?_
 simp -dsimp
 refine aS ?_
 refine srs hn ?_
 simp -dsimp
 rcases aZ hm with ⟨c2,hm⟩ | ⟨c2,hm⟩
 ·exact zz
 ·refine aX (by simp -dsimp) c2 ?_
  refine aU (aQ ?_)
  refine srs hn ?_
  obtain⟨y1,h3,hm⟩:=bnd hm
  simp -dsimp [c2]
  refine aR (c_totaltree_row y1 h3) (dkL hn) ?_
  obtain⟨y2,h4,hm⟩:=bnd hm
  simp -dsimp
  refine clg (bZ states y1 0 y.1 y2 h4) [6] [] (by simp -dsimp) (dkL hn) ?_
  exact zz
theorem cL (s:List UInt8) (r:Tree×Int) (hm:m_notation_Parse s=some r):PureCall Tryz.prog 9 [.u (.one (.d (.str (bs s))))] (.tup [.agg [dI r.1.States,dR1 r.1.Hood,dR0 r.1.Nodes],.one (dI r.2)]):=by
 refine bo Tryz.func9 Tryz.ntmps9 fun cx hn=>?_
 unfold m_notation_Parse at hm
 refine srs hn ?_
 simp -dsimp
 refine aS ?_
 refine srs hn ?_
 obtain⟨y,h1,hm⟩:=bnd hm
 simp -dsimp
 refine aR (bV s y h1) (dkL hn) ?_
 simp -dsimp
 refine srs hn ?_
 simp -dsimp
 refine aW ?_
 obtain⟨a,j20,hm⟩:=bnd hm
 refine scE [(0,.u (.one (.d (.str (bs s))))),(2,vX 2),(4,vI y),(17,vI y),(18,vT a)] [(2,.box [dI 0,.d .nil,.d .nil])] ?_ fun Z O hf=>?_
 ·replace hm:=j20
  clear j20
  exact zz
 ·clear j20
  simp only[Fits,b8,b9,and_true] at hf
  rcases aZ hm with ⟨c3,hm⟩ | ⟨c3,hm⟩
  ·refine aV (by simp -dsimp [hf]) c3 ?_
   refine srs hn ?_
   simp -dsimp
   refine aS ?_
   refine srs hn ?_
   simp -dsimp [hf]
   rcases aZ hm with ⟨c4,hm⟩ | ⟨c4,hm⟩
   ·refine aV (by simp -dsimp) c4 ?_
    refine sr1 hn ?_
    simp -dsimp [c4]
    refine aQ ?_
    refine srs hn ?_
    obtain⟨y1,h5,hm⟩:=bnd hm
    simp -dsimp [hf]
    refine aR (dJ s y1 h5) (dkL hn) ?_
    simp -dsimp
    refine aS ?_
    refine srs hn ?_
    simp -dsimp
    rcases aZ hm with ⟨c6,hm⟩ | ⟨c6,hm⟩
    ·exact zz
    ·refine aX (by simp -dsimp) c6 ?_
     refine aU (aQ ?_)
     refine srs hn ?_
     obtain⟨y2,h7,hm⟩:=bnd hm
     simp -dsimp [c6]
     refine aR (fO y1.1 y2 h7) (dkL hn) ?_
     exact zz
   ·refine aX (by simp -dsimp) c4 ?_
    refine aU (aQ ?_)
    refine srs hn ?_
    obtain⟨y1,h8,hm⟩:=bnd hm
    simp -dsimp [hf,c4]
    refine aR (eK s y1 h8) (dkL hn) ?_
    simp -dsimp
    refine aS ?_
    refine srs hn ?_
    simp -dsimp
    rcases aZ hm with ⟨c9,hm⟩ | ⟨c9,hm⟩
    ·exact zz
    ·refine aX (by simp -dsimp) c9 ?_
     refine aU (aQ ?_)
     refine srs hn ?_
     obtain⟨y2,h10,hm⟩:=bnd hm
     simp -dsimp [c9]
     refine aR (fO y1.1 y2 h10) (dkL hn) ?_
     exact zz
  ·refine aX (by simp -dsimp [hf]) c3 ?_
   obtain⟨a1,j19,hm⟩:=bnd hm
   refine scE [(0,.u (.one (.d (.str (bs s))))),(2,vX 2),(4,vI y),(17,vI y),(37,vT a1)] [(2,.box [dI 0,.d .nil,.d .nil])] ?_ fun Z O hf=>?_
   ·replace hm:=j19
    clear j19
    exact zz
   ·clear j19
    simp only[Fits,b8,b9,and_true] at hf
    rcases aZ hm with ⟨c12,hm⟩ | ⟨c12,hm⟩
    ·refine aV (by simp -dsimp [hf]) c12 ?_
     refine srs hn ?_
     obtain⟨y1,h13,hm⟩:=bnd hm
     simp -dsimp [hf]
     refine aR (fq s y1 h13) (dkL hn) ?_
     simp -dsimp
     refine aS ?_
     refine srs hn ?_
     simp -dsimp
     rcases aZ hm with ⟨c14,hm⟩ | ⟨c14,hm⟩
     ·exact zz
     ·refine aX (by simp -dsimp) c14 ?_
      refine aU (aQ (aS ?_))
      refine srs hn ?_
      simp -dsimp [hf,c14]
      rcases aZ hm with ⟨c15,hm⟩ | ⟨c15,hm⟩
      ·refine aV (by simp -dsimp) c15 ?_
       refine srs hn ?_
       obtain⟨y2,h16,hm⟩:=bnd hm
       simp -dsimp [c15]
       refine aR (i8 y1.2.1 y2 h16) (dkL hn) ?_
       exact zz
      ·refine aX (by simp -dsimp) c15 ?_
       refine aU (aQ ?_)
       refine srs hn ?_
       obtain⟨y2,h17,hm⟩:=bnd hm
       simp -dsimp [c15]
       refine aR (c_totaltree_Sums y1.1 y1.2.1 y2 h17) (dkL hn) ?_
       exact zz
    ·exact zz
section
open Go.AM Go.Proofs Go.RowKit Go.Lib Go.Shelf
theorem dgC_eq (n:Int):dgC n=.int .u8 (dgB n).toNat:=by
 unfold dgC dgB
 have h1:0<=wrap64 (48+n) % 256:=Int.emod_nonneg _ (by decide)
 have h2:wrap64 (48+n) % 256 < 256:=Int.emod_lt_of_pos _ (by decide)
 rw[UInt8.toNat_ofNat']
 congr 1
 omega
theorem slice_of {w:World} {F:Nat->Prop} {l:List Int} {v:Value} (h:rep w F (.sl 1 (l.map (rI .i64))) v):∃ ao c,v=.slice ao l.length c/\∀ (j:Nat) n,l[j]?=some n->∃ bk o,ao=some ⟨bk,o,none⟩/\bk < w.heap.size/\w.cell? ⟨bk,o+j,none⟩=some (.int .i64 n):=by
 simp only[rep] at h
 obtain⟨ao,n,c,rfl,hn,hc,hm,hr⟩:=h
 rw[List.length_map] at hn
 subst hn
 refine⟨ao,c,rfl,fun j x hx=>?_⟩
 rcases hr with hr | ⟨b,o,rfl,_,hb,hrows⟩
 ·have:l=[]:=by simpa using hr
  rw[this] at hx
  simp at hx
 ·obtain⟨_,h2⟩:=repRows_get hrows (i:=j) (r:=rI .i64 x) (by rw[List.getElem?_map,hx]; rfl)
  rw[Nat.mul_one] at h2
  obtain⟨⟨u,hu,hur⟩,_⟩:=h2
  simp only[rep] at hur
  subst hur
  exact⟨b,o,rfl,hb,hu⟩
theorem bldAt_below {T e:TypeId} {B b:Nat} {p:Value} {bs:List Value} {W W':World} (h:BuilderAtF T e B b p bs W) (hb:Below W.heap.size W W'):BuilderAtF T e B b p bs W':=by
 have hlt:=h.lt
 obtain⟨hB,v,hv,hown,hne⟩:=h
 exact⟨hB,v,(hb.block b hlt).trans hv,hown.kept (row:=none) ⟨hb.os,hb.tape,hb.output,hb.size,fun k hk _=>hb.block k hk⟩ (Classical.em _),hne⟩
theorem isBld_below {T e:TypeId} {B b:Nat} {bs:List Value} {W W':World} (h:IsBuilderF T e B b bs W) (hb:Below W.heap.size W W'):IsBuilderF T e B b bs W' :=
 h.elim (fun x=>.inl (bldAt_below x hb)) (fun x=>.inr (bldAt_below x hb))
theorem fr_below {w w':World} {F:Nat->Prop} (h:Fr w F) (hb:Blw w.heap.size w w'):Fr w' F:=⟨fun b hb'=>h.new b (Nat.le_trans hb.size hb'),h.gw.keep (fun b hl=>hb.block b (h.gw.low b hl).2) hb.size fun b hl=>(h.gw.low b hl).1⟩
set_option maxHeartbeats 4000000 in
theorem c_lifelike_Text (t:Aw) (r:List UInt8) (hm:m_lifelike_Text t=some r):PureCall Tryz.prog 26 [.u (.agg [dR1 t.Hood,dI t.States,dL t.Birth,dL t.Survive])] (.u (.one (.d (.str (bs r))))):=by
 refine⟨⟨_,Tryz.func26,by decide,rfl⟩,fun φ w F hF vals hl hv=>?_⟩
 match vals,hl with
 | [a],_ =>
  have ha:=hv 0 _ _ rfl rfl
  obtain⟨arr,rfl,hcs⟩:=ha
  simp only[csims,csim] at hcs
  obtain⟨v1,r1,e1,h1,v2,r2,e2,h2,v3,r3,e3,h3,v4,r4,e4,h4,e5⟩:=hcs
  subst e5 e4 e3 e2
  have harr:arr=#[v1,v2,v3,v4]:=by apply Array.ext'; exact e1
  subst harr
  clear e1
  simp only[rep] at h2
  subst h2
  obtain⟨ok,hok,hm⟩:=bnd hm
  obtain⟨ao3,c3,rfl,hb3⟩:=slice_of h3
  obtain⟨ao4,c4,rfl,hb4⟩:=slice_of h4
  have hvs:=hv 0 _ _ rfl rfl
  have hB1:Blw w.heap.size w (w.alloc (.cells #[v1,.int .i64 t.States,.slice ao3 t.Birth.length c3,.slice ao4 t.Survive.length c4] 45)):=⟨(Below.refl _ w).alloc (Nat.le_refl _) _,Nat.le_refl _⟩
  have hR:Calls Tryz.prog 56 #[.agg #[v1,.int .i64 t.States,.slice ao3 t.Birth.length c3,.slice ao4 t.Survive.length c4]] (w.alloc (.cells #[v1,.int .i64 t.States,.slice ao3 t.Birth.length c3,.slice ao4 t.Survive.length c4] 45)) fun e w'=>e=.returned (.bool ok)/\Blw (w.heap.size+1) (w.alloc (.cells #[v1,.int .i64 t.States,.slice ao3 t.Birth.length c3,.slice ao4 t.Survive.length c4] 45)) w' :=
   ((bY t ok hok).2 φ _ F (fr_below hF hB1) [_] rfl (fun i x u hi hu=>by
    match i,hi,hu with
    | 0,hi,hu=>cases hi; cases hu; exact vsim_keep (Keep.of_below hB1) _ _ hvs
    | i+1,hi,_=>simp at hi)).mono fun e w' ⟨u,he,hb,hu⟩=>by
     simp only[vsim,usim,csim,rep] at hu
     subst hu
     exact⟨he,by simpa using hb⟩
  clear hv
  by_cases hcase:ok=true/\t.States=2
  ·obtain⟨rfl,hs2⟩:=hcase
   rw[hs2] at hR hB1 hvs ⊢
   have hm2:=hm
   rw[show bB true=false from by unfold bB; rfl,cond_false,show neB t.States 2=false from by unfold neB; rw[hs2]; rfl,cond_false] at hm2
   cases hlen:Nat.ble (t.Birth.length+t.Survive.length) 1000000 with
   | false=>rw[hlen] at hm2; cases hm2
   | true =>
   rw[hlen,cond_true] at hm2
   have hlen':=Nat.le_of_ble_eq_true hlen
   obtain⟨q,hq,hm3⟩:=bnd hm2
   cases hql:Nat.ble q.1.length 1000000 with
   | false=>rw[hql] at hm3; cases hm3
   | true =>
   rw[hql,cond_true] at hm3
   have hql':=Nat.le_of_ble_eq_true hql
   cases hm3
   clear hm hm2
   go_enter Tryz.func26,Tryz.ntmps26
   go_wp2_with (go_at_call 56; refine hR.mono ?_)
   rintro e W2 ⟨rfl,hB2⟩
   have hsz1:(w.alloc (.cells #[v1,.int .i64 2,.slice ao3 t.Birth.length c3,.slice ao4 t.Survive.length c4] 45)).heap.size=w.heap.size+1:=by simp
   have hsz2:w.heap.size+1<=W2.heap.size:=by have:=hB2.size; omega
   have hB3:Below W2.heap.size W2 (W2.alloc (.cells #[.pointer none,.slice none 0 0] 127)):=(Below.refl _ W2).alloc (Nat.le_refl _) _
   have hd:∀ bk k,bk < w.heap.size->W2.cell? ⟨bk,k,none⟩=w.cell? ⟨bk,k,none⟩:=fun bk k hbk=>by
    rw[hB2.cell (p:=⟨bk,k,none⟩) (Nat.lt_succ_of_lt hbk),hB1.cell (p:=⟨bk,k,none⟩) hbk]
   have hbx:∀ j u,(#[v1,.int .i64 2,.slice ao3 t.Birth.length c3,.slice ao4 t.Survive.length c4]:Array Value)[j]?=some u->W2.cell? ⟨w.heap.size,j,none⟩=some u:=fun j u hu=>by
    rw[hB2.cell (p:=⟨w.heap.size,j,none⟩) (Nat.lt_succ_self _),Lib.cell_of_heap (heap_alloc_new w _)]
    exact hu
   have q1:=hbx 1 _ rfl
   have q2:(W2.alloc (.cells #[.pointer none,.slice none 0 0] 127)).cell? ⟨w.heap.size,2,none⟩=some (.slice ao3 t.Birth.length c3):=(hB3.cell (p:=⟨w.heap.size,2,none⟩) (by show w.heap.size < W2.heap.size; omega)).trans (hbx 2 _ rfl)
   have hb0:Lib.IsBuilderF 127 5 W2.heap.size W2.heap.size [] (W2.alloc (.cells #[.pointer none,.slice none 0 0] 127)):=Lib.IsBuilderF.of (Lib.fresh_isBuilder 127 5 W2)
   have hw1:=write_is W2.heap.size W2.heap.size [] ⟨#[66]⟩ t.Birth ao3 c3 _ hb0 hB3.size (fun j n hj=>by
    obtain⟨bk,o,h1,h2,h3⟩:=hb3 j n hj
    exact⟨bk,o,h1,by omega,by rw[hB3.cell (p:=⟨bk,o+j,none⟩) (by show bk < W2.heap.size; omega),hd bk _ h2]; exact h3⟩) (by
     have h1:(⟨#[66]⟩:ByteArray).size=1:=rfl
     rw[h1,List.length_nil]
     omega)
   clear hR
   go_wp2_with (go_at_call 82; refine hw1.mono ?_)
   rintro e W4 ⟨rfl,hb4',hB4⟩
   clear hw1 hb0 q2
   have hB4':=hB3.trans hB4
   have q3:W4.cell? ⟨w.heap.size,3,none⟩=some (.slice ao4 t.Survive.length c4):=(hB4'.cell (p:=⟨w.heap.size,3,none⟩) (by show w.heap.size < W2.heap.size; omega)).trans (hbx 3 _ rfl)
   have hw2:=write_is W2.heap.size W2.heap.size _ ⟨#[47,83]⟩ t.Survive ao4 c4 _ hb4' hB4'.size (fun j n hj=>by
    obtain⟨bk,o,h1,h2,h3⟩:=hb4 j n hj
    exact⟨bk,o,h1,by omega,by rw[hB4'.cell (p:=⟨bk,o+j,none⟩) (by show bk < W2.heap.size; omega),hd bk _ h2]; exact h3⟩) (by
     have h1:(⟨#[66]⟩:ByteArray).size=1:=rfl
     have h2:(⟨#[47,83]⟩:ByteArray).size=2:=rfl
     simp only[List.length_append,List.length_map,List.length_nil,Lib.strCells_length,h1,h2]
     omega)
   go_wp2_with (go_at_call 82; refine hw2.mono ?_)
   rintro e W5 ⟨rfl,hb5,hB5⟩
   clear hw2 q3
   have hB5':=hB4'.trans hB5
   have q0:W5.cell? ⟨w.heap.size,0,none⟩=some v1:=(hB5'.cell (p:=⟨w.heap.size,0,none⟩) (by show w.heap.size < W2.heap.size; omega)).trans (hbx 0 _ rfl)
   have hby:[]++Lib.strCells ⟨#[66]⟩++t.Birth.map dgC++Lib.strCells ⟨#[47,83]⟩++t.Survive.map dgC=Lib.byteCells ([66]++t.Birth.map dgB++([47,83]++t.Survive.map dgB)):=by
    have e1:∀ l:List Int,l.map dgC=Lib.byteCells (l.map dgB):=fun l=>by
     unfold Lib.byteCells
     rw[List.map_map]
     exact List.map_congr_left fun n _=>dgC_eq n
    rw[e1,e1,Lib.strCells_eq,Lib.strCells_eq]
    simp[Lib.byteCells]
   rw[hby] at hb5
   have hW5:w.heap.size<=W5.heap.size:=by have:=hB5'.size; omega
   have hall:Blw w.heap.size w W5:=⟨(hB1.toBelow.trans (hB2.toBelow.mono (Nat.le_succ _))).trans (hB5'.mono (by omega)),Nat.le_refl 0⟩
   have hL:Calls Tryz.prog 85 #[v1] W5 fun e w'=>e=.returned (.tuple #[.string (bs q.1),.bool q.2])/\Blw W5.heap.size W5 w' :=
    ((gl t.Hood q hq).2 φ W5 F (fr_below hF hall) [_] rfl (fun i x u hi hu=>by
     match i,hi,hu with
     | 0,hi,hu=>cases hi; cases hu; simp only[vsim,usim,csim]; exact rep_keep (Keep.of_below hall) _ _ h1
     | i+1,hi,_=>simp at hi)).mono fun e w' ⟨u,he,hb,hu⟩=>by
      simp only[vsim] at hu
      obtain⟨arr,rfl,hus⟩:=hu
      simp only[usims,usim,csim,rep] at hus
      obtain⟨v5,r5,e5,h5,v6,r6,e6,h6,e7⟩:=hus
      subst e7 e6 h5 h6
      have hA:arr=#[.string (bs q.1),.bool q.2]:=by apply Array.ext'; exact e5
      subst hA
      exact⟨he,hb⟩
   go_wp2_with (go_at_call 85; refine hL.mono ?_)
   rintro e W6 ⟨rfl,hB6⟩
   have hS:=Any.Builder_String_any_k bstL bstLX W2.heap.size W2.heap.size _ W6 (isBld_below hb5 hB6.toBelow) (Nat.le_trans hB5'.size hB6.size)
   go_wp2_with (go_at_call 86; refine hS.mono ?_)
   rintro e W7 ⟨rfl,_,hB7,_⟩
   have hlim:¬ 9223372036854775807 < (bs (66::(List.map dgB t.Birth++47::83::List.map dgB t.Survive))).size+(bs q.1).size:=by
    have e1:∀ l:List UInt8,(bs l).size=l.length:=fun l=>List.size_toArray
    rw[e1,e1]
    simp only[List.length_cons,List.length_append,List.length_map]
    omega
   go_wp2
   all_goals
    have hend:Blw w.heap.size w W7:=⟨(hall.toBelow.trans (hB6.toBelow.mono hW5)).trans (hB7.mono (by omega)),Nat.le_refl 0⟩
    go_ret
    refine⟨_,rfl,hend,?_⟩
    simp only[vsim,usim,csim,rep]
    rw[bs_cat]
    simp
  ·have hr:r=[]:=by
    cases hk:ok with
    | false=>rw[hk] at hm; simpa [bB] using hm.symm
    | true =>
     rw[hk] at hm
     have h2:t.States≠2:=fun h=>hcase ⟨hk,h⟩
     have:neB t.States 2=true:=by unfold neB; simpa using h2
     rw[this] at hm
     simpa [bB] using hm.symm
   subst hr
   clear hm
   go_enter Tryz.func26,Tryz.ntmps26
   go_wp2_with (go_at_call 56; refine hR.mono ?_)
   rintro e W2 ⟨rfl,hB2⟩
   have q1:W2.cell? ⟨w.heap.size,1,none⟩=some (.int .i64 t.States):=by
    rw[hB2.cell (p:=⟨w.heap.size,1,none⟩) (Nat.lt_succ_self _),Lib.cell_of_heap (heap_alloc_new w _)]
    rfl
   have hend:Blw w.heap.size w W2:=⟨hB1.toBelow.trans (hB2.toBelow.mono (Nat.le_succ _)),Nat.le_refl 0⟩
   have hfin:vsim φ W2 F (.u (.one (.d (.str (bs []))))) (.string ⟨#[]⟩):=by simp only[vsim,usim,csim,rep]; rfl
   cases hk:ok with
   | false =>
    go_wp2
    go_ret
    exact⟨_,rfl,hend,hfin⟩
   | true =>
    have h2:t.States≠2:=fun h=>hcase ⟨hk,h⟩
    go_wp2
    go_ret
    exact⟨_,rfl,hend,hfin⟩
end
end Go.Proofs.YtcllfealpkhjfaaGreatDoor
