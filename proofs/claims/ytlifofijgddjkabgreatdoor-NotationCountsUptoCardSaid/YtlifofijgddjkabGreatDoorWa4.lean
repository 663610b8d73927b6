/- That the code does what the functions say (made by cc.py). -/
import Derived.Test.YtlifofijgddjkabGreatDoorWa3
namespace Go.Proofs.YtlifofijgddjkabGreatDoor
open Go.AM Go.Proofs
set_option maxRecDepth 100000
attribute [-simp] qlookup cz dQ Ob.wipe Ob.ren Ob.frz1
theorem c_totaltree_Totals_2 (s:As) (a:Ar) (r:Int) (hm:m_totaltree_Totals_2 s a=some r):PureCall Tryz.prog 68 [.u (.agg [dI s.ones,dI s.centre]),.u (.one (.ref (Ar.row a) 0))] (vI r):=by
 refine bf Tryz.func68 Tryz.ntmps68 fun cx hn=>?_
 unfold m_totaltree_Totals_2 at hm
 refine srs hn ?_
 simp -dsimp
 refine srs hn ?_
 simp -dsimp
 refine aN (aS ?_)
 refine srs hn ?_
 simp -dsimp
 rcases aU hm with ⟨c1,hm⟩ | ⟨c1,hm⟩
 ·refine sct c1 ?_
  obtain⟨next,j4,hm⟩:=bnd hm
  refine scE [(4,vI next)] [] ?_ fun Z O hf=>?_
  ·replace hm:=j4
   clear j4
   refine srs hn ?_
   obtain⟨y,h2,hm⟩:=bnd hm
   simp -dsimp [c1]
   refine aL (bQ a.Birth s.ones y h2) (dkL hn) ?_
   exact zz
  ·clear j4
   exact zz
 ·refine scf c1 ?_
  obtain⟨a1,j9,hm⟩:=bnd hm
  refine scE [(1,.u (.one (.ref (Ar.row a) 0))),(4,vI s.centre),(17,vT a1)] [] ?_ fun Z O hf=>?_
  ·replace hm:=j9
   clear j9
   refine sr1 hn ?_
   rcases aU hm with ⟨c5,hm⟩ | ⟨c5,hm⟩
   ·obtain⟨y,h6,hm⟩:=bnd hm
    simp -dsimp [c1,c5]
    refine aL (bQ a.Survive s.ones y h6) (dkL hn) ?_
    exact zz
   ·exact zz
  ·clear j9
   exact zz
theorem gr (s:As) (at_ state a:Int) (r:Int×Int) (hm:m_totaltree_Totals_1_o s at_ state a=some r):GFn Tryz.prog 67 [.u (.agg [dI s.ones,dI s.centre]),vI at_,vI state,vX 1000000] [.box [dI a]] (.u (.agg [dI r.1,dI r.2])) [some (.box [dI a])]:=by
 refine bT bh _ Tryz.func67 rfl (by kernel_rfl) (by simp[Tryz.ntmps67]) (by simp) (by first | rfl | simp) (by first | rfl | simp) fun cx hn hk=>?_
 replace hn:cx.n=22:=hn.trans Tryz.ntmps67
 replace hk:cx.k=1:=hk
 unfold m_totaltree_Totals_1_o at hm
 refine srs hn ?_
 simp -dsimp
 obtain⟨⟨sones,scentre⟩,j3,hm⟩:=bnd hm
 refine scE [(4,vX 4),(7,vX 7)] [(4,.box [dI sones,dI scentre]),(7,.box [dI 0,dI 0]),(1000000,.box [dI a])] ?_ fun Z O hf=>?_
 ·replace hm:=j3
  clear j3
  refine aS ?_
  refine srs hn ?_
  simp -dsimp
  rcases aU hm with ⟨c1,hm⟩ | ⟨c1,hm⟩
  ·refine sct c1 ?_
   refine sr1 hn ?_
   simp -dsimp [c1]
   refine bN ?_
   cases hm
   exact EE.here (by simp -dsimp)
  ·refine scf c1 ?_
   refine srs hn ?_
   simp -dsimp [c1]
   rcases aU hm with ⟨c2,hm⟩ | ⟨c2,hm⟩
   ·refine aQ (by simp -dsimp) c2 ?_
    refine sr1 hn ?_
    simp -dsimp [c2]
    refine bN ?_
    cases hm
    exact EE.here (by simp -dsimp)
   ·refine aR (by simp -dsimp) c2 ?_
    refine aP ?_
    refine bN ?_
    cases hm
    exact EE.here (by simp -dsimp [c2])
 ·clear j3
  exact zz
theorem cK (l:List Int) (n base:Int) (r:List Int) (hm:m_internal_strconv_AppendUint_o l n base=some r):GFn Tryz.prog 179 [vO 1000000,.u (.one (.d (.int .u64 n))),vI base] [.row 1 5 (List.map (rI .u8) l)] (vO 1000001) [none,some (.row 1 5 (List.map (rI .u8) r))]:=appU_g appL rfl tf5 rfl rfl rfl rfl ⟨_,Tryz.func179,by decide,by kernel_rfl⟩ hm
theorem eK (dst:List Int) (i base:Int) (r:List Int) (hm:m_internal_strconv_AppendInt_o dst i base=some r):GFn Tryz.prog 159 [vO 1000000,vI i,vI base] [.row 1 5 (List.map (rI .u8) dst)] (vO 1000001) [none,some (.row 1 5 (List.map (rI .u8) r))]:=by
 refine bT bh _ Tryz.func159 rfl (by kernel_rfl) (by simp[Tryz.ntmps159]) (by simp) (by first | rfl | simp) (by first | rfl | simp) fun cx hn hk=>?_
 replace hn:cx.n=21:=hn.trans Tryz.ntmps159
 replace hk:cx.k=1:=hk
 unfold m_internal_strconv_AppendInt_o at hm
 refine srs hn ?_
 simp -dsimp
 refine srs hn ?_
 simp -dsimp
 obtain⟨⟨u,dst1⟩,j4,hm⟩:=bnd hm
 refine scE [(0,vO 5000),(2,vI base),(7,.u (.one (.d (.int .u64 u))))] [(5000,.row 1 5 (List.map (rI .u8) dst1))] ?_ fun Z O hf=>?_
 ·replace hm:=j4
  clear j4
  refine srs hn ?_
  simp -dsimp
  rcases aU hm with ⟨c1,hm⟩ | ⟨c1,hm⟩
  ·refine sct c1 ?_
   refine srs hn ?_
   obtain⟨l,h2,hm⟩:=bnd hm
   obtain⟨h2a,h2e⟩:=aW h2
   replace h2e:=h2e.symm
   subst h2e
   try simp only[List.length_cons,List.length_nil,Nat.zero_add] at h2a
   try simp only[Nat.mul_one,Nat.reduceLeDiff] at h2a
   simp -dsimp [c1,h2a]
   refine sr1 hn ?_
   simp -dsimp
   refine aM ?_
   cases hm
   refine emv 14 5000 ?_
   exact zz
  ·refine scf c1 ?_
   refine aP (aM ?_)
   cases hm
   refine emv 1000000 5000 ?_
   exact zz
 ·clear j4
  simp only[Fits,aZ,b6,and_true] at hf
  refine srs hn ?_
  obtain⟨y,h3,hm⟩:=bnd hm
  simp -dsimp [hf]
  refine clg (cK dst1 u base y h3) [5000] [5001] (by simp -dsimp [hf]) (dkL hn) ?_
  simp -dsimp
  refine aY ?_
  cases hm
  refine⟨.inr rfl,?_⟩
  refine emr 5001 1000001 hk ?_
  exact zz
theorem bR (dst:List Int) (i base:Int) (r:List Int) (hm:m_strconv_AppendInt_o dst i base=some r):GFn Tryz.prog 114 [vO 1000000,vI i,vI base] [.row 1 5 (List.map (rI .u8) dst)] (vO 1000001) [none,some (.row 1 5 (List.map (rI .u8) r))]:=by
 refine bT bh _ Tryz.func114 rfl (by kernel_rfl) (by simp[Tryz.ntmps114]) (by simp) (by first | rfl | simp) (by first | rfl | simp) fun cx hn hk=>?_
 replace hn:cx.n=11:=hn.trans Tryz.ntmps114
 replace hk:cx.k=1:=hk
 unfold m_strconv_AppendInt_o at hm
 refine srs hn ?_
 simp -dsimp
 refine srs hn ?_
 obtain⟨y,h1,hm⟩:=bnd hm
 simp -dsimp
 refine clg (eK dst i base y h1) [1000000] [5000] (by simp -dsimp) (dkL hn) ?_
 simp -dsimp
 refine aY ?_
 cases hm
 refine⟨.inr rfl,?_⟩
 refine emr 5000 1000001 hk ?_
 exact zz
def bb (rcv:(Au->(List Point)->(List Point)->Int->(List Int)->(List Int)->(List (Au×Int))->Int->Int->(List (List UInt8×Int))->Int->(List Point)->(List Node)->Option (Int×(List (Au×Int))×(List (List UInt8×Int))×(List Node)))):Prop:=∀ (p:Au) (a ae:List Point) (a8:Int) (av ah:List Int) (a1:List (Au×Int)) (a2 cv:Int) (cv1:List (List UInt8×Int)) (au:Int) (ay:List Point) (aq:List Node) (r:Int×(List (Au×Int))×(List (List UInt8×Int))×(List Node)),rcv p a ae a8 av ah a1 a2 cv cv1 au ay aq=some r->GFn Tryz.prog 113 [.u (.agg [dI p.at_,dI p.s.ones,dI p.s.centre]),vX 1000000,vX 1000001,vX 1000003,vX 1000005,vX 1000006,vX 1000007,vX 1000009,vX 1000011] [.box [dR1 a],.box [.fn 68 [.box 1000002 0]],.box [dR1 ae,dI a8,dL av,dL ah],.box [.map 1000004],mOb (.ints 3) Au.key (uL (L.int .i64)) a1,.box [dI a2],.box [.fn 113 [.box 1000000 0,.box 1000001 0,.box 1000003 0,.box 1000005 0,.box 1000006 0,.box 1000007 0,.box 1000009 0,.box 1000011 0]],.box [.fn 67 [.box 1000008 0]],.box [dI cv],.box [.map 1000010],mOb .str kS (uL (L.int .i64)) cv1,.box [dI au,dR1 ay,.own 1000012],.row 2 136 (List.map Node.row aq)] (vI r.1) [some (.box [dR1 a]),some (.box [.fn 68 [.box 1000002 0]]),some (.box [dR1 ae,dI a8,dL av,dL ah]),some (.box [.map 1000004]),some (mOb (.ints 3) Au.key (uL (L.int .i64)) r.2.1),some (.box [dI a2]),some (.box [.fn 113 [.box 1000000 0,.box 1000001 0,.box 1000003 0,.box 1000005 0,.box 1000006 0,.box 1000007 0,.box 1000009 0,.box 1000011 0]]),some (.box [.fn 67 [.box 1000008 0]]),some (.box [dI cv]),some (.box [.map 1000010]),some (mOb .str kS (uL (L.int .i64)) r.2.2.1),some (.box [dI au,dR1 ay,.own 1000013]),none,some (.row 2 136 (List.map Node.row r.2.2.2))]
def b9 (cx:Cx) (_rcv:(Au->(List Point)->(List Point)->Int->(List Int)->(List Int)->(List (Au×Int))->Int->Int->(List (List UInt8×Int))->Int->(List Point)->(List Node)->Option (Int×(List (Au×Int))×(List (List UInt8×Int))×(List Node)))) (p:Au) (a ae:List Point) (a8:Int) (av ah:List Int) (a2 cv au:Int) (ay:List Point) (_u:Unit) (tt:((List Node)×(List Int)×(List Int)×(List (Au×Int))×(List (List UInt8×Int)))) (ee:Exit) (Z:Env) (O:Sto):Prop:=match tt with
 | (l,keyv,l1,mp,mp1)=>ee=.exit 0/\EE cx (be [(3,vX 1000003),(7,vX 1000009),(8,vX 1000011),(9,vX 9),(13,vX 13),(14,vO 5003)] [(9,.box [dI p.at_,dI p.s.ones,dI p.s.centre]),(13,.box [dI (aX .i64 (aO a) p.at_),.own 5004]),(5000,.row 2 136 (List.map Node.row l)),(5003,.row 1 5 (List.map (rI .u8) keyv)),(5004,.row 1 3 (List.map (rI .i64) l1)),(1000000,.box [dR1 a]),(1000001,.box [.fn 68 [.box 1000002 0]]),(1000002,.box [dR1 ae,dI a8,dL av,dL ah]),(1000003,.box [.map 1000004]),(1000004,mOb (.ints 3) Au.key (uL (L.int .i64)) mp),(1000005,.box [dI a2]),(1000006,.box [.fn 113 [.box 1000000 0,.box 1000001 0,.box 1000003 0,.box 1000005 0,.box 1000006 0,.box 1000007 0,.box 1000009 0,.box 1000011 0]]),(1000007,.box [.fn 67 [.box 1000008 0]]),(1000008,.box [dI cv]),(1000009,.box [.map 1000010]),(1000010,mOb .str kS (uL (L.int .i64)) mp1),(1000011,.box [dI au,dR1 ay,.own 5000])]) Z O
set_option maxHeartbeats 1000000 in
theorem cg (cx:Cx) (hn:cx.n=101) (_hk:cx.k=13) (rcv:(Au->(List Point)->(List Point)->Int->(List Int)->(List Int)->(List (Au×Int))->Int->Int->(List (List UInt8×Int))->Int->(List Point)->(List Node)->Option (Int×(List (Au×Int))×(List (List UInt8×Int))×(List Node)))) (p:Au) (a ae:List Point) (a8:Int) (av ah:List Int) (a2 cv au:Int) (ay:List Point) (u:Unit) (aI:bb rcv) {fu:Nat} {stt:Int×(List Node)×(List Int)×(List Int)×(List (Au×Int))×(List (List UInt8×Int))} {tt:((List Node)×(List Int)×(List Int)×(List (Au×Int))×(List (List UInt8×Int)))} (hh:aT (b_totaltree_build_totaltree_sum_1_o_o_o_o_o_o_o_o_1 rcv p a ae a8 av ah a2 cv au ay u) fu stt=some tt) {Z:Env} {O:Sto}
  (hE:bz (fun stt:Int×(List Node)×(List Int)×(List Int)×(List (Au×Int))×(List (List UInt8×Int))=>match stt with | (a3,_l,_keyv,_l1,_mp,_mp1)=>[(3,vX 1000003),(5,vX 1000006),(6,vX 1000007),(7,vX 1000009),(8,vX 1000011),(9,vX 9),(13,vX 13),(14,vO 5003),(46,vI a2),(47,vI a3)]) (fun stt:Int×(List Node)×(List Int)×(List Int)×(List (Au×Int))×(List (List UInt8×Int))=>match stt with | (_a3,l,keyv,l1,mp,mp1)=>[(9,.box [dI p.at_,dI p.s.ones,dI p.s.centre]),(13,.box [dI (aX .i64 (aO a) p.at_),.own 5004]),(5000,.row 2 136 (List.map Node.row l)),(5003,.row 1 5 (List.map (rI .u8) keyv)),(5004,.row 1 3 (List.map (rI .i64) l1)),(1000000,.box [dR1 a]),(1000001,.box [.fn 68 [.box 1000002 0]]),(1000002,.box [dR1 ae,dI a8,dL av,dL ah]),(1000003,.box [.map 1000004]),(1000004,mOb (.ints 3) Au.key (uL (L.int .i64)) mp),(1000005,.box [dI a2]),(1000006,.box [.fn 113 [.box 1000000 0,.box 1000001 0,.box 1000003 0,.box 1000005 0,.box 1000006 0,.box 1000007 0,.box 1000009 0,.box 1000011 0]]),(1000007,.box [.fn 67 [.box 1000008 0]]),(1000008,.box [dI cv]),(1000009,.box [.map 1000010]),(1000010,mOb .str kS (uL (L.int .i64)) mp1),(1000011,.box [dI au,dR1 ay,.own 5000])]) stt Z O):Swp Tryz.prog cx (.loop (bW [1,1,1,1,1,0,1,0,0] (bd Tryz.f113))) Z O (b9 cx rcv p a ae a8 av ah a2 cv au ay u tt):=by
 refine bC hE hh (b9 cx rcv p a ae a8 av ah a2 cv au ay u) ?_
 rintro⟨a3,l,keyv,l1,mp,mp1⟩ r hm Z O hf
 simp only[Fits,aZ,b6,and_true] at hf
 unfold b_totaltree_build_totaltree_sum_1_o_o_o_o_o_o_o_o_1 at hm
 dsimp only at hm
 refine srs hn ?_
 simp -dsimp [hf]
 refine aN ?_
 rcases aU hm with ⟨c5,hm⟩ | ⟨c5,hm⟩
 ·refine aQ (by simp -dsimp) c5 ?_
  refine aP (aM (aN (aS ?_)))
  refine srs hn ?_
  simp -dsimp [hf,c5]
  refine sw_midcs bh mixed 10 11 12 0 [[0,1,2,3]] [[]] [true] none (by rw[hn]; kernel_rfl) gn ?_
  dsimp only [List.take,List.drop,fD,fW,uopsD,pk,List.cons_append,List.nil_append,List.flatten_cons,List.flatten_nil,eU,eY,List.append_nil]
  obtain⟨y,h6,hm⟩:=bnd hm
  simp -dsimp [hf]
  refine callE_g (gr p.s p.at_ a3 cv y h6) [1000008] [] rfl rfl rfl (by simp -dsimp) rfl (by simp -dsimp [hf]) (by first | rfl | simp) rfl (dkL hn) rfl rfl (by simp) nofun (by simp) ?_
  obtain⟨y1,h7,hm⟩:=bnd hm
  simp -dsimp [hf]
  refine clg (aI (⟨(bq .i64 p.at_ 1),⟨y.1,y.2⟩⟩:Au) a ae a8 av ah mp a2 cv mp1 au ay l y1 h7) [1000000,1000001,1000002,1000003,1000004,1000005,1000006,1000007,1000008,1000009,1000010,1000011,5000] [5001] (by simp -dsimp [hf]) (dkL hn) ?_
  simp -dsimp
  refine srs hn ?_
  obtain⟨l2,h8,hm⟩:=bnd hm
  obtain⟨h8a,h8e⟩:=aW h8
  replace h8e:=h8e.symm
  subst h8e
  try simp only[List.length_cons,List.length_nil,Nat.zero_add] at h8a
  simp -dsimp [hf,h8a]
  refine sr1 hn ?_
  obtain⟨l3,h9,hm⟩:=bnd hm
  obtain⟨h9a,h9e⟩:=aW h9
  replace h9e:=h9e.symm
  subst h9e
  try simp only[List.length_cons,List.length_nil,Nat.zero_add] at h9a
  try simp only[Nat.mul_one,Nat.reduceLeDiff] at h9a
  obtain⟨y2,h10,hm⟩:=bnd hm
  simp -dsimp [hf,h9a]
  refine clg (bR (keyv++[32]) y1.1 10 y2 h10) [71] [5002] (by simp -dsimp) (dkL hn) ?_
  simp -dsimp
  refine bN ?_
  refine aM ?_
  refine sr1 hn ?_
  simp -dsimp [hf]
  cases hm
  refine cE ?_
  refine emv 5002 5003 ?_
  refine emv 67 5004 ?_
  refine emv 5001 5000 ?_
  exact zz
 ·exact zz
theorem cr (rcv:(Au->(List Point)->(List Point)->Int->(List Int)->(List Int)->(List (Au×Int))->Int->Int->(List (List UInt8×Int))->Int->(List Point)->(List Node)->Option (Int×(List (Au×Int))×(List (List UInt8×Int))×(List Node)))) (aI:bb rcv) (p:Au) (a ae:List Point) (a8:Int) (av ah:List Int) (a1:List (Au×Int)) (a2 cv:Int) (cv1:List (List UInt8×Int)) (au:Int) (ay:List Point) (aq:List Node) (r:Int×(List (Au×Int))×(List (List UInt8×Int))×(List Node)) (hm:mb_totaltree_build_totaltree_sum_1_o_o_o_o_o_o_o_o rcv p a ae a8 av ah a1 a2 cv cv1 au ay aq=some r):GFn Tryz.prog 113 [.u (.agg [dI p.at_,dI p.s.ones,dI p.s.centre]),vX 1000000,vX 1000001,vX 1000003,vX 1000005,vX 1000006,vX 1000007,vX 1000009,vX 1000011] [.box [dR1 a],.box [.fn 68 [.box 1000002 0]],.box [dR1 ae,dI a8,dL av,dL ah],.box [.map 1000004],mOb (.ints 3) Au.key (uL (L.int .i64)) a1,.box [dI a2],.box [.fn 113 [.box 1000000 0,.box 1000001 0,.box 1000003 0,.box 1000005 0,.box 1000006 0,.box 1000007 0,.box 1000009 0,.box 1000011 0]],.box [.fn 67 [.box 1000008 0]],.box [dI cv],.box [.map 1000010],mOb .str kS (uL (L.int .i64)) cv1,.box [dI au,dR1 ay,.own 1000012],.row 2 136 (List.map Node.row aq)] (vI r.1) [some (.box [dR1 a]),some (.box [.fn 68 [.box 1000002 0]]),some (.box [dR1 ae,dI a8,dL av,dL ah]),some (.box [.map 1000004]),some (mOb (.ints 3) Au.key (uL (L.int .i64)) r.2.1),some (.box [dI a2]),some (.box [.fn 113 [.box 1000000 0,.box 1000001 0,.box 1000003 0,.box 1000005 0,.box 1000006 0,.box 1000007 0,.box 1000009 0,.box 1000011 0]]),some (.box [.fn 67 [.box 1000008 0]]),some (.box [dI cv]),some (.box [.map 1000010]),some (mOb .str kS (uL (L.int .i64)) r.2.2.1),some (.box [dI au,dR1 ay,.own 1000013]),none,some (.row 2 136 (List.map Node.row r.2.2.2))]:=by
 refine bT bh _ Tryz.func113 rfl (by kernel_rfl) (by simp[Tryz.ntmps113]) (by simp) (by first | rfl | simp) (by first | rfl | simp) fun cx hn hk=>?_
 replace hn:cx.n=101:=hn.trans Tryz.ntmps113
 replace hk:cx.k=13:=hk
 unfold mb_totaltree_build_totaltree_sum_1_o_o_o_o_o_o_o_o at hm
 refine srs hn ?_
 simp -dsimp
 refine aN ?_
 refine srs hn ?_
 simp -dsimp
 rcases aU hm with ⟨c1,hm⟩ | ⟨c1,hm⟩
 ·refine sct c1 ?_
  refine srs hn ?_
  obtain⟨y,h2,hm⟩:=bnd hm
  simp -dsimp [c1]
  refine eI (us':=[.u (.agg [dI p.s.ones,dI p.s.centre]),.u (.one (.ref (Ar.row (⟨ae,a8,av,ah⟩:Ar)) 0))]) (c_totaltree_Totals_2 p.s (⟨ae,a8,av,ah⟩:Ar) y h2) (by simp -dsimp) rfl (dkL hn) ?_
  simp -dsimp
  refine aY (dT ?_)
  cases hm
  refine⟨.inr rfl,?_⟩
  refine emr 1000012 1000013 hk ?_
  exact zz
 ·refine scf c1 ?_
  refine aP (aM (aN ?_))
  refine srs hn ?_
  obtain⟨u,h3,hm⟩:=bnd hm
  simp -dsimp [c1,dh h3 (.head _),dh h3 (.tail _ (.head _)),dh h3 (.tail _ (.tail _ (.head _))),(@id (lkM (fb (mOb (.ints 3) Au.key (uL (L.int .i64)) a1) (.ints [p.at_,p.s.ones,p.s.centre])) true (.one (dI 0))=some (.tup [.one (dI (e9 a1 p 0)),.one (.d (.bool (bE a1 p)))])) (lk_two p 0))]
  refine srs hn ?_
  simp -dsimp
  rcases aU hm with ⟨c4,hm⟩ | ⟨c4,hm⟩
  ·refine aQ (b:=(bE a1 p)) (by simp -dsimp) c4 ?_
   refine srs hn ?_
   simp -dsimp [c4]
   refine aY (dT ?_)
   cases hm
   refine⟨.inr rfl,?_⟩
   refine emr 1000012 1000013 hk ?_
   exact zz
  ·refine aR (b:=(bE a1 p)) (by simp -dsimp) c4 ?_
   refine aP (aM ?_)
   refine srs hn ?_
   simp -dsimp [c4]
   refine sw_regBs bh 3 (by rw[hn]; kernel_rfl) ?_
   dsimp only [List.take,List.drop]
   simp -dsimp
   refine aN ?_
   refine srs hn ?_
   simp -dsimp
   refine aS ?_
   obtain⟨⟨l,keyv,l1,mp,mp1⟩,g11,hm⟩:=bnd hm
   refine bc (cg cx hn hk rcv p a ae a8 av ah a2 cv au ay u aI g11) (by
     try dsimp only
     refine emv 45 5003 ?_
     refine emv 1000012 5000 ?_
     refine EE.step (Wk.own0b 13 1 5004 1 3 [dI (aX .i64 (aO a) p.at_),.d .nil] (by simp -dsimp) (by rfl) (by decide) (by decide)) ?_
     exact zz
   ) fun ee Z O xx=>?_
   unfold b9 at xx
   dsimp only at xx
   obtain⟨rfl,xx⟩:=xx
   refine bG ?_
   refine aM ?_
   refine see xx fun Z O hf=>?_
   simp only[Fits,aZ,b6,and_true] at hf
   refine srs hn ?_
   obtain⟨u1,h12,hm⟩:=bnd hm
   simp -dsimp [hf,dK h12,(@id (lkM (fb (mOb .str kS (uL (L.int .i64)) mp1) (.str (ofBytes keyv))) true (.one (dI 0))=some (.tup [.one (dI (e9 mp1 (ofBytes keyv) 0)),.one (.d (.bool (bE mp1 (ofBytes keyv))))])) (lk_two (ofBytes keyv) 0))]
   obtain⟨⟨idv,mp2,l2⟩,j15,hm⟩:=bnd hm
   refine scE [(3,vX 1000003),(9,vX 9),(17,vI idv)] [(9,.box [dI p.at_,dI p.s.ones,dI p.s.centre]),(5000,.row 2 136 (List.map Node.row l2)),(1000000,.box [dR1 a]),(1000001,.box [.fn 68 [.box 1000002 0]]),(1000002,.box [dR1 ae,dI a8,dL av,dL ah]),(1000003,.box [.map 1000004]),(1000004,mOb (.ints 3) Au.key (uL (L.int .i64)) mp),(1000005,.box [dI a2]),(1000006,.box [.fn 113 [.box 1000000 0,.box 1000001 0,.box 1000003 0,.box 1000005 0,.box 1000006 0,.box 1000007 0,.box 1000009 0,.box 1000011 0]]),(1000007,.box [.fn 67 [.box 1000008 0]]),(1000008,.box [dI cv]),(1000009,.box [.map 1000010]),(1000010,mOb .str kS (uL (L.int .i64)) mp2),(1000011,.box [dI au,dR1 ay,.own 5000])] ?_ fun Z O hf=>?_
   ·replace hm:=j15
    clear j15
    refine srs hn ?_
    simp -dsimp
    rcases aU hm with ⟨c13,hm⟩ | ⟨c13,hm⟩
    ·refine aQ (b:=(ba (bE mp1 (ofBytes keyv)))) (by simp -dsimp) c13 ?_
     refine srs hn ?_
     simp -dsimp [hf,c13]
     refine Swp.pre (Wk.frz 5004 1 3 (List.map (rI .i64) l1) (by simp -dsimp [hf])) ?_
     refine srs hn ?_
     obtain⟨l2,h14,hm⟩:=bnd hm
     obtain⟨h14a,h14e⟩:=aW h14
     replace h14e:=h14e.symm
     subst h14e
     try simp only[List.length_cons,List.length_nil,Nat.zero_add] at h14a
     simp -dsimp [hf,h14a]
     refine sr1 hn ?_
     simp -dsimp [hf,dK h12,(@id (fB (mOb .str kS (uL (L.int .i64)) mp1) (.str (ofBytes keyv)) (.one (dI (aO l)))=mOb .str kS (uL (L.int .i64)) (dm mp1 (ofBytes keyv) (aO l))) (fT .str kS (uL (L.int .i64)) mp1 (ofBytes keyv) (aO l)))]
     refine aM ?_
     cases hm
     refine emv 91 5000 ?_
     exact zz
    ·exact zz
   ·clear j15
    simp only[Fits,aZ,b6,and_true] at hf
    refine srs hn ?_
    simp -dsimp [hf,dh h3 (.head _),dh h3 (.tail _ (.head _)),dh h3 (.tail _ (.tail _ (.head _))),(@id (fB (mOb (.ints 3) Au.key (uL (L.int .i64)) mp) (.ints [p.at_,p.s.ones,p.s.centre]) (.one (dI idv))=mOb (.ints 3) Au.key (uL (L.int .i64)) (dm mp p idv)) (fT (.ints 3) Au.key (uL (L.int .i64)) mp p idv))]
    refine srs hn ?_
    simp -dsimp [hf]
    refine aY ?_
    cases hm
    refine⟨.inr rfl,?_⟩
    refine emr 5000 1000013 hk ?_
    exact zz
set_option maxHeartbeats 1000000 in
theorem ct (p:Au) (a ae:List Point) (a8:Int) (av ah:List Int) (a1:List (Au×Int)) (a2 cv:Int) (cv1:List (List UInt8×Int)) (au:Int) (ay:List Point) (aq:List Node) (r:Int×(List (Au×Int))×(List (List UInt8×Int))×(List Node)) (hm:m_totaltree_build_totaltree_sum_1_o_o_o_o_o_o_o_o p a ae a8 av ah a1 a2 cv cv1 au ay aq=some r):GFn Tryz.prog 113 [.u (.agg [dI p.at_,dI p.s.ones,dI p.s.centre]),vX 1000000,vX 1000001,vX 1000003,vX 1000005,vX 1000006,vX 1000007,vX 1000009,vX 1000011] [.box [dR1 a],.box [.fn 68 [.box 1000002 0]],.box [dR1 ae,dI a8,dL av,dL ah],.box [.map 1000004],mOb (.ints 3) Au.key (uL (L.int .i64)) a1,.box [dI a2],.box [.fn 113 [.box 1000000 0,.box 1000001 0,.box 1000003 0,.box 1000005 0,.box 1000006 0,.box 1000007 0,.box 1000009 0,.box 1000011 0]],.box [.fn 67 [.box 1000008 0]],.box [dI cv],.box [.map 1000010],mOb .str kS (uL (L.int .i64)) cv1,.box [dI au,dR1 ay,.own 1000012],.row 2 136 (List.map Node.row aq)] (vI r.1) [some (.box [dR1 a]),some (.box [.fn 68 [.box 1000002 0]]),some (.box [dR1 ae,dI a8,dL av,dL ah]),some (.box [.map 1000004]),some (mOb (.ints 3) Au.key (uL (L.int .i64)) r.2.1),some (.box [dI a2]),some (.box [.fn 113 [.box 1000000 0,.box 1000001 0,.box 1000003 0,.box 1000005 0,.box 1000006 0,.box 1000007 0,.box 1000009 0,.box 1000011 0]]),some (.box [.fn 67 [.box 1000008 0]]),some (.box [dI cv]),some (.box [.map 1000010]),some (mOb .str kS (uL (L.int .i64)) r.2.2.1),some (.box [dI au,dR1 ay,.own 1000013]),none,some (.row 2 136 (List.map Node.row r.2.2.2))]:=recN_ind bb (by intro _; intro _; intro _; intro _; intro _; intro _; intro _; intro _; intro _; intro _; intro _; intro _; intro _; intro _; intro hm; cases hm) cr recF p a ae a8 av ah a1 a2 cv cv1 au ay aq r hm
theorem bw (states:Int) (l:List Point) (start:As) (cv:Int) (ae:List Point) (a8:Int) (av ah:List Int) (r:List Node) (hm:m_totaltree_build_totaltree_sum_totaltree_Totals_1_o_totaltree_Totals_2_o states l start cv ae a8 av ah=some r):GFn Tryz.prog 69 [vI states,.u (.one (dR1 l)),.u (.agg [dI start.ones,dI start.centre]),.u (.one (.fn 67 [.box 1000000 0])),.u (.one (.fn 68 [.box 1000001 0]))] [.box [dI cv],.box [dR1 ae,dI a8,dL av,dL ah]] (.u (.agg [dI states,dR1 l,dR0 r])) [some (.box [dI cv]),some (.box [dR1 ae,dI a8,dL av,dL ah])]:=by
 refine bT bh _ Tryz.func69 rfl (by kernel_rfl) (by simp[Tryz.ntmps69]) (by simp) (by first | rfl | simp) (by first | rfl | simp) fun cx hn hk=>?_
 replace hn:cx.n=26:=hn.trans Tryz.ntmps69
 replace hk:cx.k=2:=hk
 unfold m_totaltree_build_totaltree_sum_totaltree_Totals_1_o_totaltree_Totals_2_o at hm
 refine srs hn ?_
 simp -dsimp
 refine srs hn ?_
 simp -dsimp
 refine srs hn ?_
 simp -dsimp [(@id (Ob.map (.ints 3) []=mOb (.ints 3) Au.key (uL (L.int .i64)) ([]:List (Au×Int))) (fk (.ints 3) Au.key (uL (L.int .i64))))]
 refine srs hn ?_
 simp -dsimp [(@id (Ob.map .str []=mOb .str kS (uL (L.int .i64)) ([]:List (List UInt8×Int))) (fk .str kS (uL (L.int .i64))))]
 refine srs hn ?_
 simp -dsimp
 refine srs hn ?_
 simp -dsimp
 refine Swp.pre (Wk.own0b 10 2 5000 2 136 [dI 0,.d .nil,.d .nil] (by simp -dsimp) (by rfl) (by decide) (by decide)) ?_
 refine Swp.pre (Wk.own0b 11 2 5001 2 136 [dI states,dR1 l,.d .nil] (by simp -dsimp) (by rfl) (by decide) (by decide)) ?_
 refine srs hn ?_
 obtain⟨y,h1,hm⟩:=bnd hm
 simp -dsimp
 refine callL_g (ct (⟨0,⟨start.ones,start.centre⟩⟩:Au) l ae a8 av ah [] states cv [] states l [] y h1) [6,9,1000001,12,18,5,14,8,1000000,13,19,11,5001] [5002] rfl rfl rfl (by simp -dsimp) rfl (by simp -dsimp) (by first | rfl | simp) rfl (dkL hn) ?_
 simp -dsimp
 refine Swp.pre (Wk.frz 5002 2 136 (List.map Node.row y.2.2.2) (by simp -dsimp)) ?_
 exact zz
theorem fC (x:Ar) (r:Tree×Int) (hm:m_totaltree_Totals x=some r):PureCall Tryz.prog 30 [.u (.agg [dR1 x.Hood,dI x.States,dL x.Birth,dL x.Survive])] (.tup [.agg [dI r.1.States,dR1 r.1.Hood,dR0 r.1.Nodes],.one (dI r.2)]):=by
 refine bf Tryz.func30 Tryz.ntmps30 fun cx hn=>?_
 unfold m_totaltree_Totals at hm
 refine srs hn ?_
 simp -dsimp
 refine aN ?_
 refine srs hn ?_
 obtain⟨y,h1,hm⟩:=bnd hm
 simp -dsimp
 refine aL (bL x y h1) (dkL hn) ?_
 simp -dsimp
 rcases aU hm with ⟨c2,hm⟩ | ⟨c2,hm⟩
 ·exact zz
 ·refine aR (by simp -dsimp) c2 ?_
  refine aP (aM ?_)
  refine srs hn ?_
  obtain⟨y1,h3,hm⟩:=bnd hm
  simp -dsimp [c2]
  refine aL (c_hood_Centre x.Hood y1 h3) (dkL hn) ?_
  simp -dsimp
  refine srs hn ?_
  simp -dsimp
  refine srs hn ?_
  simp -dsimp
  refine gx bh mixed 8 (by rw[hn]; kernel_rfl) ?_
  dsimp only [List.take,List.drop]
  obtain⟨y2,h4,hm⟩:=bnd hm
  simp -dsimp
  refine aV (cj x.Hood y2 h4) ?_
  obtain⟨y3,h5,hm⟩:=bnd hm
  simp -dsimp
  refine clg (bw x.States y2 (⟨0,0⟩:As) y1 x.Hood x.States x.Birth x.Survive y3 h5) [4,1] [] (by simp -dsimp) (dkL hn) ?_
  exact zz
def ca (cx:Cx) (_n:Int) (tt:(List Int)) (ee:Exit) (Z:Env) (O:Sto):Prop:=match tt with
 | l=>ee=.exit 0/\EE cx (be [(2,vX 2),(4,vX 4)] [(2,.box (List.map (cI .i64) [0,0,0,0,0,0,0,0])),(4,.box (List.map (cI .i64) l))]) Z O
theorem gJ (cx:Cx) (hn:cx.n=24) (n:Int) {fu:Nat} {stt:Int×(List Int)} {tt:(List Int)} (hh:aT (b_wolfram_Elementary_1 n) fu stt=some tt) {Z:Env} {O:Sto}
  (hE:bz (fun stt:Int×(List Int)=>match stt with | (a1,_l)=>[(0,vI n),(2,vX 2),(4,vX 4),(13,vI a1)]) (fun stt:Int×(List Int)=>match stt with | (_a1,l)=>[(2,.box (List.map (cI .i64) [0,0,0,0,0,0,0,0])),(4,.box (List.map (cI .i64) l))]) stt Z O):Swp Tryz.prog cx (.loop (bW [1,1,1,0,1,0,0] (bd Tryz.f71))) Z O (ca cx n tt):=by
 refine bC hE hh (ca cx n) ?_
 rintro⟨a1,l⟩ r hm Z O hf
 simp only[Fits,aZ,b6,and_true] at hf
 unfold b_wolfram_Elementary_1 at hm
 dsimp only at hm
 refine srs hn ?_
 simp -dsimp [hf]
 refine aN ?_
 rcases aU hm with ⟨c4,hm⟩ | ⟨c4,hm⟩
 ·refine aQ (by simp -dsimp) c4 ?_
  refine aP (aM (aN (aS ?_)))
  refine srs hn ?_
  simp -dsimp [hf,c4]
  refine sr1 hn ?_
  obtain⟨n1,h5,hm⟩:=bnd hm
  obtain⟨x,h6,hm⟩:=bnd hm
  simp -dsimp [hf,h5,aidx_ok h6,aidx_lt2 h6,asetI .i64 h6 (iand .i64 n1 1)]
  refine bN ?_
  refine aM ?_
  refine sr1 hn ?_
  simp -dsimp [hf]
  cases hm
  refine cE ?_
  exact EE.here (by simp -dsimp [hf])
 ·refine aR (by simp -dsimp) c4 ?_
  refine swp_exit ?_
  refine dT ?_
  cases hm
  refine rd_out nofun ?_
  exact⟨rfl,EE.here (by simp -dsimp [hf,c4])⟩
theorem c_wolfram_Elementary (n:Int) (r:(Int×Int×Int×Int×Int×Int×Int×Int)×Int) (hm:m_wolfram_Elementary n=some r):PureCall Tryz.prog 71 [vI n] (.tup [.agg [dI r.1.1,dI r.1.2.1,dI r.1.2.2.1,dI r.1.2.2.2.1,dI r.1.2.2.2.2.1,dI r.1.2.2.2.2.2.1,dI r.1.2.2.2.2.2.2.1,dI r.1.2.2.2.2.2.2.2],.one (dI r.2)]):=by
 refine bf Tryz.func71 Tryz.ntmps71 fun cx hn=>?_
 unfold m_wolfram_Elementary at hm
 refine srs hn ?_
 simp -dsimp
 refine srs hn ?_
 simp -dsimp
 refine aN ?_
 obtain⟨a,j9,hm⟩:=bnd hm
 refine scE [(0,vI n),(2,vX 2),(4,vX 4),(11,vT a)] [(2,.box (List.map (cI .i64) [0,0,0,0,0,0,0,0])),(4,.box (List.map (cI .i64) [0,0,0,0,0,0,0,0]))] ?_ fun Z O hf=>?_
 ·replace hm:=j9
  clear j9
  exact zz
 ·clear j9
  simp only[Fits,aZ,b6,and_true] at hf
  rcases aU hm with ⟨c2,hm⟩ | ⟨c2,hm⟩
  ·exact zz
  ·refine aR (by simp -dsimp [hf]) c2 ?_
   refine aP (aM (aN ?_))
   refine srs hn ?_
   simp -dsimp
   refine aS ?_
   obtain⟨l,g7,hm⟩:=bnd hm
   refine bc (gJ cx hn n g7) (by
     try dsimp only
     exact EE.here (by simp -dsimp [hf])
   ) fun ee Z O xx=>?_
   unfold ca at xx
   dsimp only at xx
   obtain⟨rfl,xx⟩:=xx
   refine bG ?_
   refine aM ?_
   refine see xx fun Z O hf=>?_
   simp only[Fits,aZ,b6,and_true] at hf
   refine srs hn ?_
   obtain⟨arr,h8,hm⟩:=bnd hm
   simp -dsimp [hf,arr8_map (cI .i64) h8]
   cases hm
   exact aY ⟨.inr rfl,EE.here (by simp -dsimp [hf])⟩
end Go.Proofs.YtlifofijgddjkabGreatDoor
