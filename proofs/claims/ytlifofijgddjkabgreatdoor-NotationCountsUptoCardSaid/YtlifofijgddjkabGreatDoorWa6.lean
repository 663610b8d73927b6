/- That the code does what the functions say (made by cc.py). -/
import Derived.Test.YtlifofijgddjkabGreatDoorWa5
namespace Go.Proofs.YtlifofijgddjkabGreatDoor
open Go.AM Go.Proofs
set_option maxRecDepth 100000
attribute [-simp] qlookup cz dQ Ob.wipe Ob.ren Ob.frz1
def bn (rcv:(Av->(List Point)->(List Int)->(List (Av×Int))->Int->(List (List UInt8×Int))->Int->(List Point)->(List Node)->Option (Int×(List (Av×Int))×(List (List UInt8×Int))×(List Node)))):Prop:=∀ (p:Av) (a:List Point) (cv:List Int) (a1:List (Av×Int)) (a2:Int) (cv1:List (List UInt8×Int)) (a8:Int) (ae:List Point) (aq:List Node) (r:Int×(List (Av×Int))×(List (List UInt8×Int))×(List Node)),rcv p a cv a1 a2 cv1 a8 ae aq=some r->GFn Tryz.prog 115 [.u (.agg [dI p.at_,dI p.s]),vX 1000000,vX 1000001,vX 1000003,vX 1000005,vX 1000006,vX 1000007,vX 1000008,vX 1000010] [.box [dR1 a],.box [.fn 77 [.box 1000002 0]],.box [dL cv],.box [.map 1000004],mOb (.ints 2) Av.key (uL (L.int .i64)) a1,.box [dI a2],.box [.fn 115 [.box 1000000 0,.box 1000001 0,.box 1000003 0,.box 1000005 0,.box 1000006 0,.box 1000007 0,.box 1000008 0,.box 1000010 0]],.box [.fn 76 []],.box [.map 1000009],mOb .str kS (uL (L.int .i64)) cv1,.box [dI a8,dR1 ae,.own 1000011],.row 2 136 (List.map Node.row aq)] (vI r.1) [some (.box [dR1 a]),some (.box [.fn 77 [.box 1000002 0]]),some (.box [dL cv]),some (.box [.map 1000004]),some (mOb (.ints 2) Av.key (uL (L.int .i64)) r.2.1),some (.box [dI a2]),some (.box [.fn 115 [.box 1000000 0,.box 1000001 0,.box 1000003 0,.box 1000005 0,.box 1000006 0,.box 1000007 0,.box 1000008 0,.box 1000010 0]]),some (.box [.fn 76 []]),some (.box [.map 1000009]),some (mOb .str kS (uL (L.int .i64)) r.2.2.1),some (.box [dI a8,dR1 ae,.own 1000012]),none,some (.row 2 136 (List.map Node.row r.2.2.2))]
def bl (cx:Cx) (_rcv:(Av->(List Point)->(List Int)->(List (Av×Int))->Int->(List (List UInt8×Int))->Int->(List Point)->(List Node)->Option (Int×(List (Av×Int))×(List (List UInt8×Int))×(List Node)))) (p:Av) (a:List Point) (cv:List Int) (a2 a8:Int) (ae:List Point) (_u:Unit) (tt:((List Node)×(List Int)×(List Int)×(List (Av×Int))×(List (List UInt8×Int)))) (ee:Exit) (Z:Env) (O:Sto):Prop:=match tt with
 | (l,keyv,l1,mp,mp1)=>ee=.exit 0/\EE cx (be [(3,vX 1000003),(7,vX 1000008),(8,vX 1000010),(9,vX 9),(13,vX 13),(14,vO 5003)] [(9,.box [dI p.at_,dI p.s]),(13,.box [dI (aX .i64 (aO a) p.at_),.own 5004]),(5000,.row 2 136 (List.map Node.row l)),(5003,.row 1 5 (List.map (rI .u8) keyv)),(5004,.row 1 3 (List.map (rI .i64) l1)),(1000000,.box [dR1 a]),(1000001,.box [.fn 77 [.box 1000002 0]]),(1000002,.box [dL cv]),(1000003,.box [.map 1000004]),(1000004,mOb (.ints 2) Av.key (uL (L.int .i64)) mp),(1000005,.box [dI a2]),(1000006,.box [.fn 115 [.box 1000000 0,.box 1000001 0,.box 1000003 0,.box 1000005 0,.box 1000006 0,.box 1000007 0,.box 1000008 0,.box 1000010 0]]),(1000007,.box [.fn 76 []]),(1000008,.box [.map 1000009]),(1000009,mOb .str kS (uL (L.int .i64)) mp1),(1000010,.box [dI a8,dR1 ae,.own 5000])]) Z O
set_option maxHeartbeats 1000000 in
theorem cU (cx:Cx) (hn:cx.n=101) (_hk:cx.k=12) (rcv:(Av->(List Point)->(List Int)->(List (Av×Int))->Int->(List (List UInt8×Int))->Int->(List Point)->(List Node)->Option (Int×(List (Av×Int))×(List (List UInt8×Int))×(List Node)))) (p:Av) (a:List Point) (cv:List Int) (a2 a8:Int) (ae:List Point) (u:Unit) (aI:bn rcv) {fu:Nat} {stt:Int×(List Node)×(List Int)×(List Int)×(List (Av×Int))×(List (List UInt8×Int))} {tt:((List Node)×(List Int)×(List Int)×(List (Av×Int))×(List (List UInt8×Int)))} (hh:aT (b_totaltree_build_int_1_o_o_o_o_o_o_o_ox_1 rcv p a cv a2 a8 ae u) fu stt=some tt) {Z:Env} {O:Sto}
  (hE:bz (fun stt:Int×(List Node)×(List Int)×(List Int)×(List (Av×Int))×(List (List UInt8×Int))=>match stt with | (a3,_l,_keyv,_l1,_mp,_mp1)=>[(3,vX 1000003),(5,vX 1000006),(6,vX 1000007),(7,vX 1000008),(8,vX 1000010),(9,vX 9),(13,vX 13),(14,vO 5003),(46,vI a2),(47,vI a3)]) (fun stt:Int×(List Node)×(List Int)×(List Int)×(List (Av×Int))×(List (List UInt8×Int))=>match stt with | (_a3,l,keyv,l1,mp,mp1)=>[(9,.box [dI p.at_,dI p.s]),(13,.box [dI (aX .i64 (aO a) p.at_),.own 5004]),(5000,.row 2 136 (List.map Node.row l)),(5003,.row 1 5 (List.map (rI .u8) keyv)),(5004,.row 1 3 (List.map (rI .i64) l1)),(1000000,.box [dR1 a]),(1000001,.box [.fn 77 [.box 1000002 0]]),(1000002,.box [dL cv]),(1000003,.box [.map 1000004]),(1000004,mOb (.ints 2) Av.key (uL (L.int .i64)) mp),(1000005,.box [dI a2]),(1000006,.box [.fn 115 [.box 1000000 0,.box 1000001 0,.box 1000003 0,.box 1000005 0,.box 1000006 0,.box 1000007 0,.box 1000008 0,.box 1000010 0]]),(1000007,.box [.fn 76 []]),(1000008,.box [.map 1000009]),(1000009,mOb .str kS (uL (L.int .i64)) mp1),(1000010,.box [dI a8,dR1 ae,.own 5000])]) stt Z O):Swp Tryz.prog cx (.loop (bW [1,1,1,1,1,0,1,0,0] (bd Tryz.f115))) Z O (bl cx rcv p a cv a2 a8 ae u tt):=by
 refine bC hE hh (bl cx rcv p a cv a2 a8 ae u) ?_
 rintro⟨a3,l,keyv,l1,mp,mp1⟩ r hm Z O hf
 simp only[Fits,aZ,b6,and_true] at hf
 unfold b_totaltree_build_int_1_o_o_o_o_o_o_o_ox_1 at hm
 dsimp only at hm
 refine srs hn ?_
 simp -dsimp [hf]
 refine aN ?_
 rcases aU hm with ⟨c5,hm⟩ | ⟨c5,hm⟩
 ·refine aQ (by simp -dsimp) c5 ?_
  refine aP (aM (aN (aS ?_)))
  refine srs hn ?_
  simp -dsimp [hf,c5]
  refine gx bh mixed 12 (by rw[hn]; kernel_rfl) ?_
  dsimp only [List.take,List.drop]
  obtain⟨y,h6,hm⟩:=bnd hm
  simp -dsimp [hf]
  refine aV (c_totaltree_Sums_1 p.s p.at_ a3 y h6) ?_
  obtain⟨y1,h7,hm⟩:=bnd hm
  simp -dsimp
  refine clg (aI (⟨(bq .i64 p.at_ 1),y⟩:Av) a cv mp a2 mp1 a8 ae l y1 h7) [1000000,1000001,1000002,1000003,1000004,1000005,1000006,1000007,1000008,1000009,1000010,5000] [5001] (by simp -dsimp [hf]) (dkL hn) ?_
  simp -dsimp
  refine srs hn ?_
  obtain⟨l2,h8,hm⟩:=bnd hm
  obtain⟨h8a,h8e⟩:=aW h8
  replace h8e:=h8e.symm
  subst h8e
  try simp only[List.length_cons,List.length_nil,Nat.zero_add] at h8a
  simp -dsimp [hf,h8a]
  refine sr1 hn ?_
  obtain⟨l3,h9,hm⟩:=bnd hm
  obtain⟨h9a,h9e⟩:=aW h9
  replace h9e:=h9e.symm
  subst h9e
  try simp only[List.length_cons,List.length_nil,Nat.zero_add] at h9a
  try simp only[Nat.mul_one,Nat.reduceLeDiff] at h9a
  obtain⟨y2,h10,hm⟩:=bnd hm
  simp -dsimp [hf,h9a]
  refine clg (bR (keyv++[32]) y1.1 10 y2 h10) [71] [5002] (by simp -dsimp) (dkL hn) ?_
  simp -dsimp
  refine bN ?_
  refine aM ?_
  refine sr1 hn ?_
  simp -dsimp [hf]
  cases hm
  refine cE ?_
  refine emv 5002 5003 ?_
  refine emv 67 5004 ?_
  refine emv 5001 5000 ?_
  exact zz
 ·exact zz
theorem d9 (rcv:(Av->(List Point)->(List Int)->(List (Av×Int))->Int->(List (List UInt8×Int))->Int->(List Point)->(List Node)->Option (Int×(List (Av×Int))×(List (List UInt8×Int))×(List Node)))) (aI:bn rcv) (p:Av) (a:List Point) (cv:List Int) (a1:List (Av×Int)) (a2:Int) (cv1:List (List UInt8×Int)) (a8:Int) (ae:List Point) (aq:List Node) (r:Int×(List (Av×Int))×(List (List UInt8×Int))×(List Node)) (hm:mb_totaltree_build_int_1_o_o_o_o_o_o_o_ox rcv p a cv a1 a2 cv1 a8 ae aq=some r):GFn Tryz.prog 115 [.u (.agg [dI p.at_,dI p.s]),vX 1000000,vX 1000001,vX 1000003,vX 1000005,vX 1000006,vX 1000007,vX 1000008,vX 1000010] [.box [dR1 a],.box [.fn 77 [.box 1000002 0]],.box [dL cv],.box [.map 1000004],mOb (.ints 2) Av.key (uL (L.int .i64)) a1,.box [dI a2],.box [.fn 115 [.box 1000000 0,.box 1000001 0,.box 1000003 0,.box 1000005 0,.box 1000006 0,.box 1000007 0,.box 1000008 0,.box 1000010 0]],.box [.fn 76 []],.box [.map 1000009],mOb .str kS (uL (L.int .i64)) cv1,.box [dI a8,dR1 ae,.own 1000011],.row 2 136 (List.map Node.row aq)] (vI r.1) [some (.box [dR1 a]),some (.box [.fn 77 [.box 1000002 0]]),some (.box [dL cv]),some (.box [.map 1000004]),some (mOb (.ints 2) Av.key (uL (L.int .i64)) r.2.1),some (.box [dI a2]),some (.box [.fn 115 [.box 1000000 0,.box 1000001 0,.box 1000003 0,.box 1000005 0,.box 1000006 0,.box 1000007 0,.box 1000008 0,.box 1000010 0]]),some (.box [.fn 76 []]),some (.box [.map 1000009]),some (mOb .str kS (uL (L.int .i64)) r.2.2.1),some (.box [dI a8,dR1 ae,.own 1000012]),none,some (.row 2 136 (List.map Node.row r.2.2.2))]:=by
 refine bT bh _ Tryz.func115 rfl (by kernel_rfl) (by simp[Tryz.ntmps115]) (by simp) (by first | rfl | simp) (by first | rfl | simp) fun cx hn hk=>?_
 replace hn:cx.n=101:=hn.trans Tryz.ntmps115
 replace hk:cx.k=12:=hk
 unfold mb_totaltree_build_int_1_o_o_o_o_o_o_o_ox at hm
 refine srs hn ?_
 simp -dsimp
 refine aN ?_
 refine srs hn ?_
 simp -dsimp
 rcases aU hm with ⟨c1,hm⟩ | ⟨c1,hm⟩
 ·refine sct c1 ?_
  refine srs hn ?_
  obtain⟨y,h2,hm⟩:=bnd hm
  simp -dsimp [c1]
  refine eI (us':=[vI p.s,.u (.one (.ref ((rS 1 (rI .i64)) cv) 0))]) (c_totaltree_Sums_2 p.s cv y h2) (by simp -dsimp) rfl (dkL hn) ?_
  simp -dsimp
  refine aY (dT ?_)
  cases hm
  refine⟨.inr rfl,?_⟩
  refine emr 1000011 1000012 hk ?_
  exact zz
 ·refine scf c1 ?_
  refine aP (aM (aN ?_))
  refine srs hn ?_
  obtain⟨u,h3,hm⟩:=bnd hm
  simp -dsimp [c1,dh h3 (.head _),dh h3 (.tail _ (.head _)),(@id (lkM (fb (mOb (.ints 2) Av.key (uL (L.int .i64)) a1) (.ints [p.at_,p.s])) true (.one (dI 0))=some (.tup [.one (dI (e9 a1 p 0)),.one (.d (.bool (bE a1 p)))])) (lk_two p 0))]
  refine srs hn ?_
  simp -dsimp
  rcases aU hm with ⟨c4,hm⟩ | ⟨c4,hm⟩
  ·refine aQ (b:=(bE a1 p)) (by simp -dsimp) c4 ?_
   refine srs hn ?_
   simp -dsimp [c4]
   refine aY (dT ?_)
   cases hm
   refine⟨.inr rfl,?_⟩
   refine emr 1000011 1000012 hk ?_
   exact zz
  ·refine aR (b:=(bE a1 p)) (by simp -dsimp) c4 ?_
   refine aP (aM ?_)
   refine srs hn ?_
   simp -dsimp [c4]
   refine sw_regBs bh 3 (by rw[hn]; kernel_rfl) ?_
   dsimp only [List.take,List.drop]
   simp -dsimp
   refine aN ?_
   refine srs hn ?_
   simp -dsimp
   refine aS ?_
   obtain⟨⟨l,keyv,l1,mp,mp1⟩,g11,hm⟩:=bnd hm
   refine bc (cU cx hn hk rcv p a cv a2 a8 ae u aI g11) (by
     try dsimp only
     refine emv 45 5003 ?_
     refine emv 1000011 5000 ?_
     refine EE.step (Wk.own0b 13 1 5004 1 3 [dI (aX .i64 (aO a) p.at_),.d .nil] (by simp -dsimp) (by rfl) (by decide) (by decide)) ?_
     exact zz
   ) fun ee Z O xx=>?_
   unfold bl at xx
   dsimp only at xx
   obtain⟨rfl,xx⟩:=xx
   refine bG ?_
   refine aM ?_
   refine see xx fun Z O hf=>?_
   simp only[Fits,aZ,b6,and_true] at hf
   refine srs hn ?_
   obtain⟨u1,h12,hm⟩:=bnd hm
   simp -dsimp [hf,dK h12,(@id (lkM (fb (mOb .str kS (uL (L.int .i64)) mp1) (.str (ofBytes keyv))) true (.one (dI 0))=some (.tup [.one (dI (e9 mp1 (ofBytes keyv) 0)),.one (.d (.bool (bE mp1 (ofBytes keyv))))])) (lk_two (ofBytes keyv) 0))]
   obtain⟨⟨idv,mp2,l2⟩,j15,hm⟩:=bnd hm
   refine scE [(3,vX 1000003),(9,vX 9),(17,vI idv)] [(9,.box [dI p.at_,dI p.s]),(5000,.row 2 136 (List.map Node.row l2)),(1000000,.box [dR1 a]),(1000001,.box [.fn 77 [.box 1000002 0]]),(1000002,.box [dL cv]),(1000003,.box [.map 1000004]),(1000004,mOb (.ints 2) Av.key (uL (L.int .i64)) mp),(1000005,.box [dI a2]),(1000006,.box [.fn 115 [.box 1000000 0,.box 1000001 0,.box 1000003 0,.box 1000005 0,.box 1000006 0,.box 1000007 0,.box 1000008 0,.box 1000010 0]]),(1000007,.box [.fn 76 []]),(1000008,.box [.map 1000009]),(1000009,mOb .str kS (uL (L.int .i64)) mp2),(1000010,.box [dI a8,dR1 ae,.own 5000])] ?_ fun Z O hf=>?_
   ·replace hm:=j15
    clear j15
    refine srs hn ?_
    simp -dsimp
    rcases aU hm with ⟨c13,hm⟩ | ⟨c13,hm⟩
    ·refine aQ (b:=(ba (bE mp1 (ofBytes keyv)))) (by simp -dsimp) c13 ?_
     refine srs hn ?_
     simp -dsimp [hf,c13]
     refine Swp.pre (Wk.frz 5004 1 3 (List.map (rI .i64) l1) (by simp -dsimp [hf])) ?_
     refine srs hn ?_
     obtain⟨l2,h14,hm⟩:=bnd hm
     obtain⟨h14a,h14e⟩:=aW h14
     replace h14e:=h14e.symm
     subst h14e
     try simp only[List.length_cons,List.length_nil,Nat.zero_add] at h14a
     simp -dsimp [hf,h14a]
     refine sr1 hn ?_
     simp -dsimp [hf,dK h12,(@id (fB (mOb .str kS (uL (L.int .i64)) mp1) (.str (ofBytes keyv)) (.one (dI (aO l)))=mOb .str kS (uL (L.int .i64)) (dm mp1 (ofBytes keyv) (aO l))) (fT .str kS (uL (L.int .i64)) mp1 (ofBytes keyv) (aO l)))]
     refine aM ?_
     cases hm
     refine emv 91 5000 ?_
     exact zz
    ·exact zz
   ·clear j15
    simp only[Fits,aZ,b6,and_true] at hf
    refine srs hn ?_
    simp -dsimp [hf,dh h3 (.head _),dh h3 (.tail _ (.head _)),(@id (fB (mOb (.ints 2) Av.key (uL (L.int .i64)) mp) (.ints [p.at_,p.s]) (.one (dI idv))=mOb (.ints 2) Av.key (uL (L.int .i64)) (dm mp p idv)) (fT (.ints 2) Av.key (uL (L.int .i64)) mp p idv))]
    refine srs hn ?_
    simp -dsimp [hf]
    refine aY ?_
    cases hm
    refine⟨.inr rfl,?_⟩
    refine emr 5000 1000012 hk ?_
    exact zz
set_option maxHeartbeats 1000000 in
theorem df (p:Av) (a:List Point) (cv:List Int) (a1:List (Av×Int)) (a2:Int) (cv1:List (List UInt8×Int)) (a8:Int) (ae:List Point) (aq:List Node) (r:Int×(List (Av×Int))×(List (List UInt8×Int))×(List Node)) (hm:m_totaltree_build_int_1_o_o_o_o_o_o_o_ox p a cv a1 a2 cv1 a8 ae aq=some r):GFn Tryz.prog 115 [.u (.agg [dI p.at_,dI p.s]),vX 1000000,vX 1000001,vX 1000003,vX 1000005,vX 1000006,vX 1000007,vX 1000008,vX 1000010] [.box [dR1 a],.box [.fn 77 [.box 1000002 0]],.box [dL cv],.box [.map 1000004],mOb (.ints 2) Av.key (uL (L.int .i64)) a1,.box [dI a2],.box [.fn 115 [.box 1000000 0,.box 1000001 0,.box 1000003 0,.box 1000005 0,.box 1000006 0,.box 1000007 0,.box 1000008 0,.box 1000010 0]],.box [.fn 76 []],.box [.map 1000009],mOb .str kS (uL (L.int .i64)) cv1,.box [dI a8,dR1 ae,.own 1000011],.row 2 136 (List.map Node.row aq)] (vI r.1) [some (.box [dR1 a]),some (.box [.fn 77 [.box 1000002 0]]),some (.box [dL cv]),some (.box [.map 1000004]),some (mOb (.ints 2) Av.key (uL (L.int .i64)) r.2.1),some (.box [dI a2]),some (.box [.fn 115 [.box 1000000 0,.box 1000001 0,.box 1000003 0,.box 1000005 0,.box 1000006 0,.box 1000007 0,.box 1000008 0,.box 1000010 0]]),some (.box [.fn 76 []]),some (.box [.map 1000009]),some (mOb .str kS (uL (L.int .i64)) r.2.2.1),some (.box [dI a8,dR1 ae,.own 1000012]),none,some (.row 2 136 (List.map Node.row r.2.2.2))]:=recN_ind bn (by intro _; intro _; intro _; intro _; intro _; intro _; intro _; intro _; intro _; intro _; intro hm; cases hm) d9 recF p a cv a1 a2 cv1 a8 ae aq r hm
theorem bU (states:Int) (l:List Point) (start:Int) (cv:List Int) (r:List Node) (hm:m_totaltree_build_int_totaltree_Sums_1_totaltree_Sums_2_o states l start cv=some r):GFn Tryz.prog 72 [vI states,.u (.one (dR1 l)),vI start,.u (.one (.fn 76 [])),.u (.one (.fn 77 [.box 1000000 0]))] [.box [dL cv]] (.u (.agg [dI states,dR1 l,dR0 r])) [some (.box [dL cv])]:=by
 refine bT bh _ Tryz.func72 rfl (by kernel_rfl) (by simp[Tryz.ntmps72]) (by simp) (by first | rfl | simp) (by first | rfl | simp) fun cx hn hk=>?_
 replace hn:cx.n=26:=hn.trans Tryz.ntmps72
 replace hk:cx.k=1:=hk
 unfold m_totaltree_build_int_totaltree_Sums_1_totaltree_Sums_2_o at hm
 refine srs hn ?_
 simp -dsimp
 refine srs hn ?_
 simp -dsimp
 refine srs hn ?_
 simp -dsimp [(@id (Ob.map (.ints 2) []=mOb (.ints 2) Av.key (uL (L.int .i64)) ([]:List (Av×Int))) (fk (.ints 2) Av.key (uL (L.int .i64))))]
 refine srs hn ?_
 simp -dsimp [(@id (Ob.map .str []=mOb .str kS (uL (L.int .i64)) ([]:List (List UInt8×Int))) (fk .str kS (uL (L.int .i64))))]
 refine srs hn ?_
 simp -dsimp
 refine srs hn ?_
 simp -dsimp
 refine Swp.pre (Wk.own0b 10 2 5000 2 136 [dI 0,.d .nil,.d .nil] (by simp -dsimp) (by rfl) (by decide) (by decide)) ?_
 refine Swp.pre (Wk.own0b 11 2 5001 2 136 [dI states,dR1 l,.d .nil] (by simp -dsimp) (by rfl) (by decide) (by decide)) ?_
 refine srs hn ?_
 obtain⟨y,h1,hm⟩:=bnd hm
 simp -dsimp
 refine callL_g (df (⟨0,start⟩:Av) l cv [] states [] states l [] y h1) [6,9,1000000,12,18,5,14,8,13,19,11,5001] [5002] rfl rfl rfl (by simp -dsimp) rfl (by simp -dsimp) (by first | rfl | simp) rfl (dkL hn) ?_
 simp -dsimp
 refine Swp.pre (Wk.frz 5002 2 136 (List.map Node.row y.2.2.2) (by simp -dsimp)) ?_
 exact zz
theorem c_totaltree_Sums (states n:Int) (r:Tree×Int) (hm:m_totaltree_Sums states n=some r):PureCall Tryz.prog 32 [vI states,vI n] (.tup [.agg [dI r.1.States,dR1 r.1.Hood,dR0 r.1.Nodes],.one (dI r.2)]):=by
 refine bf Tryz.func32 Tryz.ntmps32 fun cx hn=>?_
 unfold m_totaltree_Sums at hm
 refine srs hn ?_
 simp -dsimp
 refine srs hn ?_
 obtain⟨y,h1,hm⟩:=bnd hm
 simp -dsimp
 refine aL (gq states n y h1) (dkL hn) ?_
 simp -dsimp
 refine aN ?_
 refine srs hn ?_
 simp -dsimp
 rcases aU hm with ⟨c2,hm⟩ | ⟨c2,hm⟩
 ·exact zz
 ·refine aR (by simp -dsimp) c2 ?_
  refine aP (aM ?_)
  refine srs hn ?_
  obtain⟨y1,h3,hm⟩:=bnd hm
  simp -dsimp [c2]
  refine aL (c_totaltree_row y1 h3) (dkL hn) ?_
  obtain⟨y2,h4,hm⟩:=bnd hm
  simp -dsimp
  refine clg (bU states y1 0 y.1 y2 h4) [6] [] (by simp -dsimp) (dkL hn) ?_
  exact zz
theorem cf (s:List UInt8) (r:Tree×Int) (hm:m_notation_Parse s=some r):PureCall Tryz.prog 8 [.u (.one (.d (.str (bs s))))] (.tup [.agg [dI r.1.States,dR1 r.1.Hood,dR0 r.1.Nodes],.one (dI r.2)]):=by
 refine bf Tryz.func8 Tryz.ntmps8 fun cx hn=>?_
 unfold m_notation_Parse at hm
 refine srs hn ?_
 simp -dsimp
 refine aN ?_
 refine srs hn ?_
 obtain⟨y,h1,hm⟩:=bnd hm
 simp -dsimp
 refine aL (bH s y h1) (dkL hn) ?_
 simp -dsimp
 refine srs hn ?_
 simp -dsimp
 refine aS ?_
 obtain⟨a,j20,hm⟩:=bnd hm
 refine scE [(0,.u (.one (.d (.str (bs s))))),(2,vX 2),(4,vI y),(17,vI y),(18,vT a)] [(2,.box [dI 0,.d .nil,.d .nil])] ?_ fun Z O hf=>?_
 ·replace hm:=j20
  clear j20
  exact zz
 ·clear j20
  simp only[Fits,aZ,b6,and_true] at hf
  rcases aU hm with ⟨c3,hm⟩ | ⟨c3,hm⟩
  ·refine aQ (by simp -dsimp [hf]) c3 ?_
   refine srs hn ?_
   simp -dsimp
   refine aN ?_
   refine srs hn ?_
   simp -dsimp [hf]
   rcases aU hm with ⟨c4,hm⟩ | ⟨c4,hm⟩
   ·refine aQ (by simp -dsimp) c4 ?_
    refine sr1 hn ?_
    simp -dsimp [c4]
    refine aM ?_
    refine srs hn ?_
    obtain⟨y1,h5,hm⟩:=bnd hm
    simp -dsimp [hf]
    refine aL (cM s y1 h5) (dkL hn) ?_
    simp -dsimp
    refine aN ?_
    refine srs hn ?_
    simp -dsimp
    rcases aU hm with ⟨c6,hm⟩ | ⟨c6,hm⟩
    ·exact zz
    ·refine aR (by simp -dsimp) c6 ?_
     refine aP (aM ?_)
     refine srs hn ?_
     obtain⟨y2,h7,hm⟩:=bnd hm
     simp -dsimp [c6]
     refine aL (fC y1.1 y2 h7) (dkL hn) ?_
     exact zz
   ·refine aR (by simp -dsimp) c4 ?_
    refine aP (aM ?_)
    refine srs hn ?_
    obtain⟨y1,h8,hm⟩:=bnd hm
    simp -dsimp [hf,c4]
    refine aL (du s y1 h8) (dkL hn) ?_
    simp -dsimp
    refine aN ?_
    refine srs hn ?_
    simp -dsimp
    rcases aU hm with ⟨c9,hm⟩ | ⟨c9,hm⟩
    ·exact zz
    ·refine aR (by simp -dsimp) c9 ?_
     refine aP (aM ?_)
     refine srs hn ?_
     obtain⟨y2,h10,hm⟩:=bnd hm
     simp -dsimp [c9]
     refine aL (fC y1.1 y2 h10) (dkL hn) ?_
     exact zz
  ·refine aR (by simp -dsimp [hf]) c3 ?_
   obtain⟨a1,j19,hm⟩:=bnd hm
   refine scE [(0,.u (.one (.d (.str (bs s))))),(2,vX 2),(4,vI y),(17,vI y),(37,vT a1)] [(2,.box [dI 0,.d .nil,.d .nil])] ?_ fun Z O hf=>?_
   ·replace hm:=j19
    clear j19
    exact zz
   ·clear j19
    simp only[Fits,aZ,b6,and_true] at hf
    rcases aU hm with ⟨c12,hm⟩ | ⟨c12,hm⟩
    ·refine aQ (by simp -dsimp [hf]) c12 ?_
     refine srs hn ?_
     obtain⟨y1,h13,hm⟩:=bnd hm
     simp -dsimp [hf]
     refine aL (f8 s y1 h13) (dkL hn) ?_
     simp -dsimp
     refine aN ?_
     refine srs hn ?_
     simp -dsimp
     rcases aU hm with ⟨c14,hm⟩ | ⟨c14,hm⟩
     ·exact zz
     ·refine aR (by simp -dsimp) c14 ?_
      refine aP (aM (aN ?_))
      refine srs hn ?_
      simp -dsimp [hf,c14]
      rcases aU hm with ⟨c15,hm⟩ | ⟨c15,hm⟩
      ·refine aQ (by simp -dsimp) c15 ?_
       refine srs hn ?_
       obtain⟨y2,h16,hm⟩:=bnd hm
       simp -dsimp [c15]
       refine aL (gK y1.2.1 y2 h16) (dkL hn) ?_
       exact zz
      ·refine aR (by simp -dsimp) c15 ?_
       refine aP (aM ?_)
       refine srs hn ?_
       obtain⟨y2,h17,hm⟩:=bnd hm
       simp -dsimp [c15]
       refine aL (c_totaltree_Sums y1.1 y1.2.1 y2 h17) (dkL hn) ?_
       exact zz
    ·exact zz
section
open Go.AM Go.Proofs Go.RowKit Go.Lib Go.Shelf
theorem dgC_eq (n:Int):dgC n=.int .u8 (dgB n).toNat:=by
 unfold dgC dgB
 have h1:0<=wrap64 (48+n) % 256:=Int.emod_nonneg _ (by decide)
 have h2:wrap64 (48+n) % 256 < 256:=Int.emod_lt_of_pos _ (by decide)
 rw[UInt8.toNat_ofNat']
 congr 1
 omega
theorem slice_of {w:World} {F:Nat->Prop} {l:List Int} {v:Value} (h:rep w F (.sl 1 (l.map (rI .i64))) v):∃ ao c,v=.slice ao l.length c/\∀ (j:Nat) n,l[j]?=some n->∃ bk o,ao=some ⟨bk,o,none⟩/\bk < w.heap.size/\w.cell? ⟨bk,o+j,none⟩=some (.int .i64 n):=by
 simp only[rep] at h
 obtain⟨ao,n,c,rfl,hn,hc,hm,hr⟩:=h
 rw[List.length_map] at hn
 subst hn
 refine⟨ao,c,rfl,fun j x hx=>?_⟩
 rcases hr with hr | ⟨b,o,rfl,_,hb,hrows⟩
 ·have:l=[]:=by simpa using hr
  rw[this] at hx
  simp at hx
 ·obtain⟨_,h2⟩:=repRows_get hrows (i:=j) (r:=rI .i64 x) (by rw[List.getElem?_map,hx]; rfl)
  rw[Nat.mul_one] at h2
  obtain⟨⟨u,hu,hur⟩,_⟩:=h2
  simp only[rep] at hur
  subst hur
  exact⟨b,o,rfl,hb,hu⟩
theorem bldAt_below {T e:TypeId} {B b:Nat} {p:Value} {bs:List Value} {W W':World} (h:BuilderAtF T e B b p bs W) (hb:Below W.heap.size W W'):BuilderAtF T e B b p bs W':=by
 have hlt:=h.lt
 obtain⟨hB,v,hv,hown,hne⟩:=h
 exact⟨hB,v,(hb.block b hlt).trans hv,hown.kept (row:=none) ⟨hb.os,hb.tape,hb.output,hb.size,fun k hk _=>hb.block k hk⟩ (Classical.em _),hne⟩
theorem isBld_below {T e:TypeId} {B b:Nat} {bs:List Value} {W W':World} (h:IsBuilderF T e B b bs W) (hb:Below W.heap.size W W'):IsBuilderF T e B b bs W' :=
 h.elim (fun x=>.inl (bldAt_below x hb)) (fun x=>.inr (bldAt_below x hb))
theorem fr_below {w w':World} {F:Nat->Prop} (h:Fr w F) (hb:Blw w.heap.size w w'):Fr w' F:=⟨fun b hb'=>h.new b (Nat.le_trans hb.size hb'),h.gw.keep (fun b hl=>hb.block b (h.gw.low b hl).2) hb.size fun b hl=>(h.gw.low b hl).1⟩
set_option maxHeartbeats 4000000 in
theorem c_lifelike_Text (t:Ar) (r:List UInt8) (hm:m_lifelike_Text t=some r):PureCall Tryz.prog 51 [.u (.agg [dR1 t.Hood,dI t.States,dL t.Birth,dL t.Survive])] (.u (.one (.d (.str (bs r))))):=by
 refine⟨⟨_,Tryz.func51,by decide,rfl⟩,fun φ w F hF vals hl hv=>?_⟩
 match vals,hl with
 | [a],_ =>
  have ha:=hv 0 _ _ rfl rfl
  obtain⟨arr,rfl,hcs⟩:=ha
  simp only[csims,csim] at hcs
  obtain⟨v1,r1,e1,h1,v2,r2,e2,h2,v3,r3,e3,h3,v4,r4,e4,h4,e5⟩:=hcs
  subst e5 e4 e3 e2
  have harr:arr=#[v1,v2,v3,v4]:=by apply Array.ext'; exact e1
  subst harr
  clear e1
  simp only[rep] at h2
  subst h2
  obtain⟨ok,hok,hm⟩:=bnd hm
  obtain⟨ao3,c3,rfl,hb3⟩:=slice_of h3
  obtain⟨ao4,c4,rfl,hb4⟩:=slice_of h4
  have hvs:=hv 0 _ _ rfl rfl
  have hB1:Blw w.heap.size w (w.alloc (.cells #[v1,.int .i64 t.States,.slice ao3 t.Birth.length c3,.slice ao4 t.Survive.length c4] 27)):=⟨(Below.refl _ w).alloc (Nat.le_refl _) _,Nat.le_refl _⟩
  have hR:Calls Tryz.prog 25 #[.agg #[v1,.int .i64 t.States,.slice ao3 t.Birth.length c3,.slice ao4 t.Survive.length c4]] (w.alloc (.cells #[v1,.int .i64 t.States,.slice ao3 t.Birth.length c3,.slice ao4 t.Survive.length c4] 27)) fun e w'=>e=.returned (.bool ok)/\Blw (w.heap.size+1) (w.alloc (.cells #[v1,.int .i64 t.States,.slice ao3 t.Birth.length c3,.slice ao4 t.Survive.length c4] 27)) w' :=
   ((bL t ok hok).2 φ _ F (fr_below hF hB1) [_] rfl (fun i x u hi hu=>by
    match i,hi,hu with
    | 0,hi,hu=>cases hi; cases hu; exact vsim_keep (Keep.of_below hB1) _ _ hvs
    | i+1,hi,_=>simp at hi)).mono fun e w' ⟨u,he,hb,hu⟩=>by
     simp only[vsim,usim,csim,rep] at hu
     subst hu
     exact⟨he,by simpa using hb⟩
  clear hv
  by_cases hcase:ok=true/\t.States=2
  ·obtain⟨rfl,hs2⟩:=hcase
   rw[hs2] at hR hB1 hvs ⊢
   have hm2:=hm
   rw[show ba true=false from by unfold ba; rfl,cond_false,show neB t.States 2=false from by unfold neB; rw[hs2]; rfl,cond_false] at hm2
   cases hlen:Nat.ble (t.Birth.length+t.Survive.length) 1000000 with
   | false=>rw[hlen] at hm2; cases hm2
   | true =>
   rw[hlen,cond_true] at hm2
   have hlen':=Nat.le_of_ble_eq_true hlen
   obtain⟨q,hq,hm3⟩:=bnd hm2
   cases hql:Nat.ble q.1.length 1000000 with
   | false=>rw[hql] at hm3; cases hm3
   | true =>
   rw[hql,cond_true] at hm3
   have hql':=Nat.le_of_ble_eq_true hql
   cases hm3
   clear hm hm2
   go_enter Tryz.func51,Tryz.ntmps51
   go_wp2_with (go_at_call 25; refine hR.mono ?_)
   rintro e W2 ⟨rfl,hB2⟩
   have hsz1:(w.alloc (.cells #[v1,.int .i64 2,.slice ao3 t.Birth.length c3,.slice ao4 t.Survive.length c4] 27)).heap.size=w.heap.size+1:=by simp
   have hsz2:w.heap.size+1<=W2.heap.size:=by have:=hB2.size; omega
   have hB3:Below W2.heap.size W2 (W2.alloc (.cells #[.pointer none,.slice none 0 0] 142)):=(Below.refl _ W2).alloc (Nat.le_refl _) _
   have hd:∀ bk k,bk < w.heap.size->W2.cell? ⟨bk,k,none⟩=w.cell? ⟨bk,k,none⟩:=fun bk k hbk=>by
    rw[hB2.cell (p:=⟨bk,k,none⟩) (Nat.lt_succ_of_lt hbk),hB1.cell (p:=⟨bk,k,none⟩) hbk]
   have hbx:∀ j u,(#[v1,.int .i64 2,.slice ao3 t.Birth.length c3,.slice ao4 t.Survive.length c4]:Array Value)[j]?=some u->W2.cell? ⟨w.heap.size,j,none⟩=some u:=fun j u hu=>by
    rw[hB2.cell (p:=⟨w.heap.size,j,none⟩) (Nat.lt_succ_self _),Lib.cell_of_heap (heap_alloc_new w _)]
    exact hu
   have q1:=hbx 1 _ rfl
   have q2:(W2.alloc (.cells #[.pointer none,.slice none 0 0] 142)).cell? ⟨w.heap.size,2,none⟩=some (.slice ao3 t.Birth.length c3):=(hB3.cell (p:=⟨w.heap.size,2,none⟩) (by show w.heap.size < W2.heap.size; omega)).trans (hbx 2 _ rfl)
   have hb0:Lib.IsBuilderF 142 5 W2.heap.size W2.heap.size [] (W2.alloc (.cells #[.pointer none,.slice none 0 0] 142)):=Lib.IsBuilderF.of (Lib.fresh_isBuilder 142 5 W2)
   have hw1:=write_is W2.heap.size W2.heap.size [] ⟨#[66]⟩ t.Birth ao3 c3 _ hb0 hB3.size (fun j n hj=>by
    obtain⟨bk,o,h1,h2,h3⟩:=hb3 j n hj
    exact⟨bk,o,h1,by omega,by rw[hB3.cell (p:=⟨bk,o+j,none⟩) (by show bk < W2.heap.size; omega),hd bk _ h2]; exact h3⟩) (by
     have h1:(⟨#[66]⟩:ByteArray).size=1:=rfl
     rw[h1,List.length_nil]
     omega)
   clear hR
   go_wp2_with (go_at_call 97; refine hw1.mono ?_)
   rintro e W4 ⟨rfl,hb4',hB4⟩
   clear hw1 hb0 q2
   have hB4':=hB3.trans hB4
   have q3:W4.cell? ⟨w.heap.size,3,none⟩=some (.slice ao4 t.Survive.length c4):=(hB4'.cell (p:=⟨w.heap.size,3,none⟩) (by show w.heap.size < W2.heap.size; omega)).trans (hbx 3 _ rfl)
   have hw2:=write_is W2.heap.size W2.heap.size _ ⟨#[47,83]⟩ t.Survive ao4 c4 _ hb4' hB4'.size (fun j n hj=>by
    obtain⟨bk,o,h1,h2,h3⟩:=hb4 j n hj
    exact⟨bk,o,h1,by omega,by rw[hB4'.cell (p:=⟨bk,o+j,none⟩) (by show bk < W2.heap.size; omega),hd bk _ h2]; exact h3⟩) (by
     have h1:(⟨#[66]⟩:ByteArray).size=1:=rfl
     have h2:(⟨#[47,83]⟩:ByteArray).size=2:=rfl
     simp only[List.length_append,List.length_map,List.length_nil,Lib.strCells_length,h1,h2]
     omega)
   go_wp2_with (go_at_call 97; refine hw2.mono ?_)
   rintro e W5 ⟨rfl,hb5,hB5⟩
   clear hw2 q3
   have hB5':=hB4'.trans hB5
   have q0:W5.cell? ⟨w.heap.size,0,none⟩=some v1:=(hB5'.cell (p:=⟨w.heap.size,0,none⟩) (by show w.heap.size < W2.heap.size; omega)).trans (hbx 0 _ rfl)
   have hby:[]++Lib.strCells ⟨#[66]⟩++t.Birth.map dgC++Lib.strCells ⟨#[47,83]⟩++t.Survive.map dgC=Lib.byteCells ([66]++t.Birth.map dgB++([47,83]++t.Survive.map dgB)):=by
    have e1:∀ l:List Int,l.map dgC=Lib.byteCells (l.map dgB):=fun l=>by
     unfold Lib.byteCells
     rw[List.map_map]
     exact List.map_congr_left fun n _=>dgC_eq n
    rw[e1,e1,Lib.strCells_eq,Lib.strCells_eq]
    simp[Lib.byteCells]
   rw[hby] at hb5
   have hW5:w.heap.size<=W5.heap.size:=by have:=hB5'.size; omega
   have hall:Blw w.heap.size w W5:=⟨(hB1.toBelow.trans (hB2.toBelow.mono (Nat.le_succ _))).trans (hB5'.mono (by omega)),Nat.le_refl 0⟩
   have hL:Calls Tryz.prog 62 #[v1] W5 fun e w'=>e=.returned (.tuple #[.string (bs q.1),.bool q.2])/\Blw W5.heap.size W5 w' :=
    ((fX t.Hood q hq).2 φ W5 F (fr_below hF hall) [_] rfl (fun i x u hi hu=>by
     match i,hi,hu with
     | 0,hi,hu=>cases hi; cases hu; simp only[vsim,usim,csim]; exact rep_keep (Keep.of_below hall) _ _ h1
     | i+1,hi,_=>simp at hi)).mono fun e w' ⟨u,he,hb,hu⟩=>by
      simp only[vsim] at hu
      obtain⟨arr,rfl,hus⟩:=hu
      simp only[usims,usim,csim,rep] at hus
      obtain⟨v5,r5,e5,h5,v6,r6,e6,h6,e7⟩:=hus
      subst e7 e6 h5 h6
      have hA:arr=#[.string (bs q.1),.bool q.2]:=by apply Array.ext'; exact e5
      subst hA
      exact⟨he,hb⟩
   go_wp2_with (go_at_call 62; refine hL.mono ?_)
   rintro e W6 ⟨rfl,hB6⟩
   have hS:=Any.Builder_String_any_k bstL bstLX W2.heap.size W2.heap.size _ W6 (isBld_below hb5 hB6.toBelow) (Nat.le_trans hB5'.size hB6.size)
   go_wp2_with (go_at_call 100; refine hS.mono ?_)
   rintro e W7 ⟨rfl,_,hB7,_⟩
   have hlim:¬ 9223372036854775807 < (bs (66::(List.map dgB t.Birth++47::83::List.map dgB t.Survive))).size+(bs q.1).size:=by
    have e1:∀ l:List UInt8,(bs l).size=l.length:=fun l=>List.size_toArray
    rw[e1,e1]
    simp only[List.length_cons,List.length_append,List.length_map]
    omega
   go_wp2
   all_goals
    have hend:Blw w.heap.size w W7:=⟨(hall.toBelow.trans (hB6.toBelow.mono hW5)).trans (hB7.mono (by omega)),Nat.le_refl 0⟩
    go_ret
    refine⟨_,rfl,hend,?_⟩
    simp only[vsim,usim,csim,rep]
    rw[bs_cat]
    simp
  ·have hr:r=[]:=by
    cases hk:ok with
    | false=>rw[hk] at hm; simpa [ba] using hm.symm
    | true =>
     rw[hk] at hm
     have h2:t.States≠2:=fun h=>hcase ⟨hk,h⟩
     have:neB t.States 2=true:=by unfold neB; simpa using h2
     rw[this] at hm
     simpa [ba] using hm.symm
   subst hr
   clear hm
   go_enter Tryz.func51,Tryz.ntmps51
   go_wp2_with (go_at_call 25; refine hR.mono ?_)
   rintro e W2 ⟨rfl,hB2⟩
   have q1:W2.cell? ⟨w.heap.size,1,none⟩=some (.int .i64 t.States):=by
    rw[hB2.cell (p:=⟨w.heap.size,1,none⟩) (Nat.lt_succ_self _),Lib.cell_of_heap (heap_alloc_new w _)]
    rfl
   have hend:Blw w.heap.size w W2:=⟨hB1.toBelow.trans (hB2.toBelow.mono (Nat.le_succ _)),Nat.le_refl 0⟩
   have hfin:vsim φ W2 F (.u (.one (.d (.str (bs []))))) (.string ⟨#[]⟩):=by simp only[vsim,usim,csim,rep]; rfl
   cases hk:ok with
   | false =>
    go_wp2
    go_ret
    exact⟨_,rfl,hend,hfin⟩
   | true =>
    have h2:t.States≠2:=fun h=>hcase ⟨hk,h⟩
    go_wp2
    go_ret
    exact⟨_,rfl,hend,hfin⟩
end
end Go.Proofs.YtlifofijgddjkabGreatDoor
