/- That the code does what the functions say (made by cc.py). -/
import Derived.Test.YtlifofijgddjkabGreatDoorWa7
namespace Go.Proofs.YtlifofijgddjkabGreatDoor
open Go.AM Go.Proofs
set_option maxRecDepth 100000
attribute [-simp] qlookup cz dQ Ob.wipe Ob.ren Ob.frz1
def cy (cx:Cx) (am:List Node) (aa:List (List UInt8×Int)) (level:Int) (next:List Int) (tt:(List Int)) (ee:Exit) (Z:Env) (O:Sto):Prop:=match tt with
 | keyv=>ee=.exit 0/\EE cx (be [(0,vX 1000000),(1,vI level),(2,.u (.one (dL next))),(7,vO 5002)] [(5002,.row 1 5 (List.map (rI .u8) keyv)),(1000000,.box [.own 1000001,.map 1000002]),(1000001,.row 2 136 (List.map Node.row am)),(1000002,mOb .str kS (uL (L.int .i64)) aa)]) Z O
theorem fO (cx:Cx) (hn:cx.n=68) (_hk:cx.k=3) (am:List Node) (aa:List (List UInt8×Int)) (level:Int) (next:List Int) {fu:Nat} {stt:Int×(List Int)} {tt:(List Int)} (hh:aT (b_reduce_builder_node_o_1 am aa level next) fu stt=some tt) {Z:Env} {O:Sto}
  (hE:bz (fun stt:Int×(List Int)=>match stt with | (a,_keyv)=>[(0,vX 1000000),(1,vI level),(2,.u (.one (dL next))),(7,vO 5002),(14,.u (.one (dL next))),(15,vI (aO next)),(16,vI a)]) (fun stt:Int×(List Int)=>match stt with | (_a,keyv)=>[(5002,.row 1 5 (List.map (rI .u8) keyv)),(1000000,.box [.own 1000001,.map 1000002]),(1000001,.row 2 136 (List.map Node.row am)),(1000002,mOb .str kS (uL (L.int .i64)) aa)]) stt Z O):Swp Tryz.prog cx (.loop (bW [1,1,0,1,0,0] (bd Tryz.f133))) Z O (cy cx am aa level next tt):=by
 refine bC hE hh (cy cx am aa level next) ?_
 rintro⟨a,keyv⟩ r hm Z O hf
 simp only[Fits,aZ,b6,and_true] at hf
 unfold b_reduce_builder_node_o_1 at hm
 dsimp only at hm
 refine srs hn ?_
 simp -dsimp [hf]
 refine aN ?_
 rcases aU hm with ⟨c2,hm⟩ | ⟨c2,hm⟩
 ·refine aQ (by simp -dsimp) c2 ?_
  refine aP (aM (aN (aS ?_)))
  refine srs hn ?_
  obtain⟨x,h3,hm⟩:=bnd hm
  simp -dsimp [hf,c2,h3]
  refine sr1 hn ?_
  obtain⟨l,h4,hm⟩:=bnd hm
  obtain⟨h4a,h4e⟩:=aW h4
  replace h4e:=h4e.symm
  subst h4e
  try simp only[List.length_cons,List.length_nil,Nat.zero_add] at h4a
  try simp only[Nat.mul_one,Nat.reduceLeDiff] at h4a
  obtain⟨y1,h5,hm⟩:=bnd hm
  simp -dsimp [hf,h4a]
  refine clg (bR (keyv++[32]) x 10 y1 h5) [22] [5001] (by simp -dsimp) (dkL hn) ?_
  simp -dsimp
  refine bN ?_
  refine aM ?_
  refine sr1 hn ?_
  simp -dsimp [hf]
  cases hm
  refine cE ?_
  refine emv 5001 5002 ?_
  exact zz
 ·exact zz
theorem ea (am:List Node) (aa:List (List UInt8×Int)) (level:Int) (next:List Int) (r:Int×(List (List UInt8×Int))×(List Node)) (hm:m_reduce_builder_node_o am aa level next=some r):GFn Tryz.prog 133 [vX 1000000,vI level,.u (.one (dL next))] [.box [.own 1000001,.map 1000002],.row 2 136 (List.map Node.row am),mOb .str kS (uL (L.int .i64)) aa] (vI r.1) [some (.box [.own 1000003,.map 1000002]),none,some (mOb .str kS (uL (L.int .i64)) r.2.1),some (.row 2 136 (List.map Node.row r.2.2))]:=by
 refine bT bh _ Tryz.func133 rfl (by kernel_rfl) (by simp[Tryz.ntmps133]) (by simp) (by first | rfl | simp) (by first | rfl | simp) fun cx hn hk=>?_
 replace hn:cx.n=68:=hn.trans Tryz.ntmps133
 replace hk:cx.k=3:=hk
 unfold m_reduce_builder_node_o at hm
 refine srs hn ?_
 simp -dsimp
 refine srs hn ?_
 obtain⟨y,h1,hm⟩:=bnd hm
 simp -dsimp
 refine clg (eF level 10 y h1) [] [5000] (by simp -dsimp) (dkL hn) ?_
 simp -dsimp
 refine aN ?_
 refine srs hn ?_
 simp -dsimp
 refine aS ?_
 obtain⟨keyv,g6,hm⟩:=bnd hm
 refine bc (fO cx hn hk am aa level next g6) (by
   try dsimp only
   refine emv 5000 5002 ?_
   exact zz
 ) fun ee Z O xx=>?_
 unfold cy at xx
 dsimp only at xx
 obtain⟨rfl,xx⟩:=xx
 refine bG ?_
 refine aM ?_
 refine see xx fun Z O hf=>?_
 simp only[Fits,aZ,b6,and_true] at hf
 refine aN ?_
 refine sw_qts bh mixed (by rw[hn]; kernel_rfl) ?_
 obtain⟨u,h7,hm⟩:=bnd hm
 simp -dsimp [hf,dK h7,(@id (lkM (fb (mOb .str kS (uL (L.int .i64)) aa) (.str (ofBytes keyv))) true (.one (dI 0))=some (.tup [.one (dI (e9 aa (ofBytes keyv) 0)),.one (.d (.bool (bE aa (ofBytes keyv))))])) (lk_two (ofBytes keyv) 0))]
 refine srs hn ?_
 simp -dsimp
 rcases aU hm with ⟨c8,hm⟩ | ⟨c8,hm⟩
 ·refine aQ (b:=(bE aa (ofBytes keyv))) (by simp -dsimp) c8 ?_
  refine srs hn ?_
  simp -dsimp [c8]
  refine aY (dT ?_)
  cases hm
  refine⟨.inr rfl,?_⟩
  refine emr 1000001 1000003 hk ?_
  exact zz
 ·refine aR (b:=(bE aa (ofBytes keyv))) (by simp -dsimp) c8 ?_
  refine aP (aM ?_)
  refine srs hn ?_
  obtain⟨l,h9,hm⟩:=bnd hm
  obtain⟨h9a,h9e⟩:=aW h9
  replace h9e:=h9e.symm
  subst h9e
  try simp only[List.length_cons,List.length_nil,Nat.zero_add] at h9a
  simp -dsimp [hf,c8,h9a]
  refine gx bh mixed 12 (by rw[hn]; kernel_rfl) ?_
  dsimp only [List.take,List.drop]
  simp -dsimp [hf,dK h7,(@id (fB (mOb .str kS (uL (L.int .i64)) aa) (.str (ofBytes keyv)) (.one (dI (aX .i64 ((aO am)+1) 1)))=mOb .str kS (uL (L.int .i64)) (dm aa (ofBytes keyv) (aX .i64 ((aO am)+1) 1))) (fT .str kS (uL (L.int .i64)) aa (ofBytes keyv) (aX .i64 ((aO am)+1) 1)))]
  refine srs hn ?_
  simp -dsimp [hf]
  refine aY ?_
  cases hm
  refine⟨.inr rfl,?_⟩
  refine emr 47 1000003 hk ?_
  exact zz
section
attribute [-simp] List.map_set List.set_set
def cq (rcv:(Int->(List Int)->(List Node)->(List Node)->Option (Int×(List Int)×(List Node)))):Prop:=∀ (k:Int) (a:List Int) (a1 cv:List Node) (r:Int×(List Int)×(List Node)),rcv k a a1 cv=some r->GFn Tryz.prog 168 [vI k,vX 1000000,vX 1000002,vX 1000003,vX 1000004] [.box [.own 1000001],.row 1 3 (List.map (rI .i64) a),.box [dR0 a1],.box [.fn 168 [.box 1000000 0,.box 1000002 0,.box 1000003 0,.box 1000004 0]],.box [.own 1000005],.row 2 136 (List.map Node.row cv)] (vI r.1) [some (.box [.own 1000001]),some (.row 1 3 (List.map (rI .i64) r.2.1)),some (.box [dR0 a1]),some (.box [.fn 168 [.box 1000000 0,.box 1000002 0,.box 1000003 0,.box 1000004 0]]),some (.box [.own 1000006]),none,some (.row 2 136 (List.map Node.row r.2.2))]
def bV (cx:Cx) (_rcv:(Int->(List Int)->(List Node)->(List Node)->Option (Int×(List Int)×(List Node)))) (k:Int) (a1:List Node) (x1:Node) (_y:List Int) (tt:((List Int)×(List Node)×(List Int))) (ee:Exit) (Z:Env) (O:Sto):Prop:=match tt with
 | (l,l1,l2)=>ee=.exit 0/\EE cx (be [(0,vI k),(1,vX 1000000),(4,vX 1000004),(7,vX 7)] [(7,.box [dI x1.Level,.own 30]),(30,.row 1 3 (List.map (rI .i64) l)),(5000,.row 2 136 (List.map Node.row l1)),(1000000,.box [.own 1000001]),(1000001,.row 1 3 (List.map (rI .i64) l2)),(1000002,.box [dR0 a1]),(1000003,.box [.fn 168 [.box 1000000 0,.box 1000002 0,.box 1000003 0,.box 1000004 0]]),(1000004,.box [.own 5000])]) Z O
theorem f5 (cx:Cx) (hn:cx.n=63) (_hk:cx.k=6) (rcv:(Int->(List Int)->(List Node)->(List Node)->Option (Int×(List Int)×(List Node)))) (k:Int) (a1:List Node) (x1:Node) (y:List Int) (aI:cq rcv) {fu:Nat} {stt:Int×(List Int)×(List Node)×(List Int)} {tt:((List Int)×(List Node)×(List Int))} (hh:aT (b_reduce_ordered_1_o_o_o_o_1 rcv k a1 x1 y) fu stt=some tt) {Z:Env} {O:Sto}
  (hE:bz (fun stt:Int×(List Int)×(List Node)×(List Int)=>match stt with | (a2,_l,_l2,_l1)=>[(0,vI k),(1,vX 1000000),(3,vX 1000003),(4,vX 1000004),(7,vX 7),(33,vO 30),(34,vI (aO y)),(35,vI a2)]) (fun stt:Int×(List Int)×(List Node)×(List Int)=>match stt with | (_a2,l,l2,l1)=>[(7,.box [dI x1.Level,.own 30]),(30,.row 1 3 (List.map (rI .i64) l)),(5000,.row 2 136 (List.map Node.row l2)),(1000000,.box [.own 1000001]),(1000001,.row 1 3 (List.map (rI .i64) l1)),(1000002,.box [dR0 a1]),(1000003,.box [.fn 168 [.box 1000000 0,.box 1000002 0,.box 1000003 0,.box 1000004 0]]),(1000004,.box [.own 5000])]) stt Z O):Swp Tryz.prog cx (.loop (bW [1,1,1,0,1,0,0] (bd Tryz.f168))) Z O (bV cx rcv k a1 x1 y tt):=by
 refine bC hE hh (bV cx rcv k a1 x1 y) ?_
 rintro⟨a2,l,l2,l1⟩ r hm Z O hf
 simp only[Fits,aZ,b6,and_true] at hf
 unfold b_reduce_ordered_1_o_o_o_o_1 at hm
 dsimp only at hm
 refine srs hn ?_
 simp -dsimp [hf]
 refine aN ?_
 rcases aU hm with ⟨c5,hm⟩ | ⟨c5,hm⟩
 ·refine aQ (by simp -dsimp) c5 ?_
  refine aP (aM ?_)
  obtain⟨⟨l3,l4,l5⟩,j9,hm⟩:=bnd hm
  refine scE [(0,vI k),(1,vX 1000000),(3,vX 1000003),(4,vX 1000004),(7,vX 7),(33,vO 30),(34,vI (aO y)),(35,vI a2)] [(7,.box [dI x1.Level,.own 30]),(30,.row 1 3 (List.map (rI .i64) l3)),(5000,.row 2 136 (List.map Node.row l5)),(1000000,.box [.own 1000001]),(1000001,.row 1 3 (List.map (rI .i64) l4)),(1000002,.box [dR0 a1]),(1000003,.box [.fn 168 [.box 1000000 0,.box 1000002 0,.box 1000003 0,.box 1000004 0]]),(1000004,.box [.own 5000])] ?_ fun Z O hf=>?_
  ·replace hm:=j9
   clear j9
   refine aS ?_
   refine srs hn ?_
   obtain⟨x2,h6,hm⟩:=bnd hm
   simp -dsimp [hf,c5,h6,bg h6]
   refine srs hn ?_
   simp -dsimp [hf]
   rcases aU hm with ⟨c7,hm⟩ | ⟨c7,hm⟩
   ·refine aQ (by simp -dsimp) c7 ?_
    refine sw_midc bh mixed 5 6 6 0 [[0,1,2]] [[5001]] [] none (by rw[hn]; kernel_rfl) gn ?_
    dsimp only [List.take,List.drop,fD,fW,uopsD,pk,List.cons_append,List.nil_append,List.flatten_cons,List.flatten_nil,eU,eY,List.append_nil]
    obtain⟨y1,h8,hm⟩:=bnd hm
    simp -dsimp [hf,c7]
    refine callE_g (aI x2 l1 a1 l2 y1 h8) [1000000,1000001,1000002,1000003,1000004,5000] [5001] rfl rfl rfl (by simp -dsimp) rfl (by simp -dsimp [hf]) (by first | rfl | simp) rfl (dkL hn) rfl rfl (by simp) nofun (by simp) ?_
    simp -dsimp [hf,h6,bg h6,rsetI .i64 l a2.toNat y1.1]
    refine bN ?_
    refine aM ?_
    cases hm
    refine emv 5001 5000 ?_
    exact zz
   ·exact zz
  ·clear j9
   exact zz
 ·exact zz
theorem fv (rcv:(Int->(List Int)->(List Node)->(List Node)->Option (Int×(List Int)×(List Node)))) (aI:cq rcv) (k:Int) (a:List Int) (a1 cv:List Node) (r:Int×(List Int)×(List Node)) (hm:mb_reduce_ordered_1_o_o_o_o rcv k a a1 cv=some r):GFn Tryz.prog 168 [vI k,vX 1000000,vX 1000002,vX 1000003,vX 1000004] [.box [.own 1000001],.row 1 3 (List.map (rI .i64) a),.box [dR0 a1],.box [.fn 168 [.box 1000000 0,.box 1000002 0,.box 1000003 0,.box 1000004 0]],.box [.own 1000005],.row 2 136 (List.map Node.row cv)] (vI r.1) [some (.box [.own 1000001]),some (.row 1 3 (List.map (rI .i64) r.2.1)),some (.box [dR0 a1]),some (.box [.fn 168 [.box 1000000 0,.box 1000002 0,.box 1000003 0,.box 1000004 0]]),some (.box [.own 1000006]),none,some (.row 2 136 (List.map Node.row r.2.2))]:=by
 refine bT bh _ Tryz.func168 rfl (by kernel_rfl) (by simp[Tryz.ntmps168]) (by simp) (by first | rfl | simp) (by first | rfl | simp) fun cx hn hk=>?_
 replace hn:cx.n=63:=hn.trans Tryz.ntmps168
 replace hk:cx.k=6:=hk
 unfold mb_reduce_ordered_1_o_o_o_o at hm
 refine srs hn ?_
 simp -dsimp
 refine aN ?_
 refine srs hn ?_
 obtain⟨x,h1,hm⟩:=bnd hm
 simp -dsimp [h1,bg h1]
 rcases aU hm with ⟨c2,hm⟩ | ⟨c2,hm⟩
 ·refine aQ (by simp -dsimp) c2 ?_
  refine srs hn ?_
  simp -dsimp [h1,bg h1,c2]
  refine aY (dT ?_)
  cases hm
  refine⟨.inr rfl,?_⟩
  refine emr 1000005 1000006 hk ?_
  exact zz
 ·refine aR (by simp -dsimp) c2 ?_
  refine aP (aM ?_)
  refine sw_midcs bh mixed 10 11 13 12 [[0,1,2,3,4]] [[30]] [true,false] (some (7,.box [dI 0,.d .nil])) (by rw[hn]; kernel_rfl) (fltT_some 136 _ (by kernel_rfl) rfl rfl rfl (by simp[C.wipe])) ?_
  dsimp only [List.take,List.drop,fD,fW,uopsD,pk,List.cons_append,List.nil_append,List.flatten_cons,List.flatten_nil,eU,eY,List.append_nil]
  obtain⟨x1,h3,hm⟩:=bnd hm
  obtain⟨y,h4,hm⟩:=bnd hm
  simp -dsimp [c2,h3]
  refine callE_new (cY x1.Next y h4) (dkL hn) (by decide) rfl rfl (by simp) (by rintro _ _ ⟨⟩; simp[C.wipe]) (by simp) ?_
  simp -dsimp [h3]
  refine aN ?_
  refine srs hn ?_
  simp -dsimp
  refine aS ?_
  obtain⟨⟨l,l1,l2⟩,g10,hm⟩:=bnd hm
  refine bc (f5 cx hn hk rcv k a1 x1 y aI g10) (by
    try dsimp only
    refine emv 1000005 5000 ?_
    exact zz
  ) fun ee Z O xx=>?_
  unfold bV at xx
  dsimp only at xx
  obtain⟨rfl,xx⟩:=xx
  refine bG ?_
  refine aM ?_
  refine see xx fun Z O hf=>?_
  simp only[Fits,aZ,b6,and_true] at hf
  refine Swp.pre (Wk.frz 30 1 3 (List.map (rI .i64) l) (by simp -dsimp [hf])) ?_
  refine srs hn ?_
  obtain⟨l3,h11,hm⟩:=bnd hm
  obtain⟨h11a,h11e⟩:=aW h11
  replace h11e:=h11e.symm
  subst h11e
  try simp only[List.length_cons,List.length_nil,Nat.zero_add] at h11a
  simp -dsimp [hf,h11a]
  refine srs hn ?_
  obtain⟨x2,h12,hm⟩:=bnd hm
  simp -dsimp [hf,h12,bg h12,rsetI .i64 l2 k.toNat ((aO l1)+1)]
  refine srs hn ?_
  simp -dsimp [hf]
  refine aY ?_
  cases hm
  refine⟨.inr rfl,?_⟩
  refine emr 54 1000006 hk ?_
  exact zz
theorem fE (k:Int) (a:List Int) (a1 cv:List Node) (r:Int×(List Int)×(List Node)) (hm:m_reduce_ordered_1_o_o_o_o k a a1 cv=some r):GFn Tryz.prog 168 [vI k,vX 1000000,vX 1000002,vX 1000003,vX 1000004] [.box [.own 1000001],.row 1 3 (List.map (rI .i64) a),.box [dR0 a1],.box [.fn 168 [.box 1000000 0,.box 1000002 0,.box 1000003 0,.box 1000004 0]],.box [.own 1000005],.row 2 136 (List.map Node.row cv)] (vI r.1) [some (.box [.own 1000001]),some (.row 1 3 (List.map (rI .i64) r.2.1)),some (.box [dR0 a1]),some (.box [.fn 168 [.box 1000000 0,.box 1000002 0,.box 1000003 0,.box 1000004 0]]),some (.box [.own 1000006]),none,some (.row 2 136 (List.map Node.row r.2.2))]:=recN_ind cq (by intro _; intro _; intro _; intro _; intro _; intro hm; cases hm) fv recF k a a1 cv r hm
end
theorem eL (nodes:List Node) (root:Int) (r:List Node) (hm:m_reduce_ordered nodes root=some r):PureCall Tryz.prog 134 [.u (.one (dR0 nodes)),vI root] (.u (.one (dR0 r))):=by
 refine bf Tryz.func134 Tryz.ntmps134 fun cx hn=>?_
 unfold m_reduce_ordered at hm
 refine srs hn ?_
 simp -dsimp
 refine srs hn ?_
 obtain⟨l,h1,hm⟩:=bnd hm
 obtain⟨⟨h1a,h1b,h1c⟩,rfl⟩:=mkL_some h1
 simp -dsimp [h1a,h1c]
 refine srs hn ?_
 simp -dsimp
 refine srs hn ?_
 simp -dsimp
 refine srs hn ?_
 simp -dsimp
 refine Swp.pre (Wk.own0b 6 0 5000 2 136 [.d .nil] (by simp -dsimp) (by rfl) (by decide) (by decide)) ?_
 refine srs hn ?_
 obtain⟨y,h2,hm⟩:=bnd hm
 simp -dsimp
 refine clg (fE root (List.replicate (aO nodes).toNat 0) nodes [] y h2) [5,10,2,7,6,5000] [5001] (by simp -dsimp) (dkL hn) ?_
 exact zz
section
attribute [-simp] List.map_set List.set_set
def bB (cx:Cx) (t:Tree) (a:Int) (mp:List (List UInt8×Int)) (l:List Node) (to_:List Int) (x:Node) (_y:List Int) (tt:(List Int)) (ee:Exit) (Z:Env) (O:Sto):Prop:=match tt with
 | next=>ee=.exit 2/\EE cx (be [(1,.u (.one (.fn 130 []))),(2,vX 2),(4,vX 4),(5,vX 5),(6,vO 5002),(8,vX 8),(9,vO 23),(15,.u (.one (dR0 t.Nodes))),(16,vI (aO t.Nodes)),(17,vI a)] [(2,.box [dI t.States,dR1 t.Hood,dR0 t.Nodes]),(4,.box [dI 0,.d .nil,.d .nil]),(5,.box [.own 5000,.map 12]),(8,.box [dI x.Level,dL x.Next]),(12,mOb .str kS (uL (L.int .i64)) mp),(23,.row 1 3 (List.map (rI .i64) next)),(5000,.row 2 136 (List.map Node.row l)),(5002,.row 1 3 (List.map (rI .i64) to_))]) Z O
theorem dH (cx:Cx) (hn:cx.n=69) (_hk:cx.k=0) (t:Tree) (a:Int) (mp:List (List UInt8×Int)) (l:List Node) (to_:List Int) (x:Node) (y:List Int) {fu:Nat} {stt:Int×(List Int)} {tt:(List Int)} (hh:aT (b_reduce_rebuilt_reduce_Reduce_1_w_2 t a mp l to_ x y) fu stt=some tt) {Z:Env} {O:Sto}
  (hE:bz (fun stt:Int×(List Int)=>match stt with | (a1,_next)=>[(1,.u (.one (.fn 130 []))),(2,vX 2),(4,vX 4),(5,vX 5),(6,vO 5002),(8,vX 8),(9,vO 23),(15,.u (.one (dR0 t.Nodes))),(16,vI (aO t.Nodes)),(17,vI a),(24,vO 23),(25,vI (aO y)),(26,vI a1)]) (fun stt:Int×(List Int)=>match stt with | (_a1,next)=>[(2,.box [dI t.States,dR1 t.Hood,dR0 t.Nodes]),(4,.box [dI 0,.d .nil,.d .nil]),(5,.box [.own 5000,.map 12]),(8,.box [dI x.Level,dL x.Next]),(12,mOb .str kS (uL (L.int .i64)) mp),(23,.row 1 3 (List.map (rI .i64) next)),(5000,.row 2 136 (List.map Node.row l)),(5002,.row 1 3 (List.map (rI .i64) to_))]) stt Z O):Swp Tryz.prog cx (.loop (bW [1,1,1,0,1,0,0,1,1,0,0,1,1,0,1,0,0] (bd Tryz.f129))) Z O (bB cx t a mp l to_ x y tt):=by
 refine bC hE hh (bB cx t a mp l to_ x y) ?_
 rintro⟨a1,next⟩ r hm Z O hf
 simp only[Fits,aZ,b6,and_true] at hf
 unfold b_reduce_rebuilt_reduce_Reduce_1_w_2 at hm
 dsimp only at hm
 refine srs hn ?_
 simp -dsimp [hf]
 refine aN ?_
 rcases aU hm with ⟨c4,hm⟩ | ⟨c4,hm⟩
 ·refine aQ (by simp -dsimp) c4 ?_
  refine aP (aM ?_)
  obtain⟨next1,j8,hm⟩:=bnd hm
  refine scE [(1,.u (.one (.fn 130 []))),(2,vX 2),(4,vX 4),(5,vX 5),(6,vO 5002),(8,vX 8),(9,vO 23),(15,.u (.one (dR0 t.Nodes))),(16,vI (aO t.Nodes)),(17,vI a),(24,vO 23),(25,vI (aO y)),(26,vI a1)] [(2,.box [dI t.States,dR1 t.Hood,dR0 t.Nodes]),(4,.box [dI 0,.d .nil,.d .nil]),(5,.box [.own 5000,.map 12]),(8,.box [dI x.Level,dL x.Next]),(12,mOb .str kS (uL (L.int .i64)) mp),(23,.row 1 3 (List.map (rI .i64) next1)),(5000,.row 2 136 (List.map Node.row l)),(5002,.row 1 3 (List.map (rI .i64) to_))] ?_ fun Z O hf=>?_
  ·replace hm:=j8
   clear j8
   refine aS ?_
   refine srs hn ?_
   obtain⟨x1,h5,hm⟩:=bnd hm
   simp -dsimp [hf,c4,h5,bg h5]
   refine srs hn ?_
   simp -dsimp [hf]
   rcases aU hm with ⟨c6,hm⟩ | ⟨c6,hm⟩
   ·refine aQ (by simp -dsimp) c6 ?_
    refine sr1 hn ?_
    obtain⟨x2,h7,hm⟩:=bnd hm
    simp -dsimp [hf,h5,bg h5,c6,h7,bg h7,rsetI .i64 next a1.toNat x2]
    refine bN ?_
    cases hm
    exact EE.here (by simp -dsimp [hf])
   ·refine aR (by simp -dsimp) c6 ?_
    refine aP ?_
    refine bN ?_
    cases hm
    exact EE.here (by simp -dsimp [hf,c6])
  ·clear j8
   exact zz
 ·exact zz
def bA (cx:Cx) (t:Tree) (tt:((List (List UInt8×Int))×(List Node)×(List Int))) (ee:Exit) (Z:Env) (O:Sto):Prop:=match tt with
 | (mp,l,to_)=>ee=.exit 0/\EE cx (be [(2,vX 2),(4,vX 4),(5,vX 5),(6,vO 5002)] [(2,.box [dI t.States,dR1 t.Hood,dR0 t.Nodes]),(4,.box [dI 0,.d .nil,.d .nil]),(5,.box [.own 5000,.map 12]),(12,mOb .str kS (uL (L.int .i64)) mp),(5000,.row 2 136 (List.map Node.row l)),(5002,.row 1 3 (List.map (rI .i64) to_))]) Z O
theorem dF (cx:Cx) (hn:cx.n=69) (hk:cx.k=0) (t:Tree) {fu:Nat} {stt:Int×(List (List UInt8×Int))×(List Node)×(List Int)} {tt:((List (List UInt8×Int))×(List Node)×(List Int))} (hh:aT (b_reduce_rebuilt_reduce_Reduce_1_w_1 t) fu stt=some tt) {Z:Env} {O:Sto}
  (hE:bz (fun stt:Int×(List (List UInt8×Int))×(List Node)×(List Int)=>match stt with | (a,_mp,_l,_to_)=>[(1,.u (.one (.fn 130 []))),(2,vX 2),(4,vX 4),(5,vX 5),(6,vO 5002),(15,.u (.one (dR0 t.Nodes))),(16,vI (aO t.Nodes)),(17,vI a)]) (fun stt:Int×(List (List UInt8×Int))×(List Node)×(List Int)=>match stt with | (_a,mp,l,to_)=>[(2,.box [dI t.States,dR1 t.Hood,dR0 t.Nodes]),(4,.box [dI 0,.d .nil,.d .nil]),(5,.box [.own 5000,.map 12]),(12,mOb .str kS (uL (L.int .i64)) mp),(5000,.row 2 136 (List.map Node.row l)),(5002,.row 1 3 (List.map (rI .i64) to_))]) stt Z O):Swp Tryz.prog cx (.loop (bW [1,1,1,0,1,0,0] (bd Tryz.f129))) Z O (bA cx t tt):=by
 refine bC hE hh (bA cx t) ?_
 rintro⟨a,mp,l,to_⟩ r hm Z O hf
 simp only[Fits,aZ,b6,and_true] at hf
 unfold b_reduce_rebuilt_reduce_Reduce_1_w_1 at hm
 dsimp only at hm
 refine srs hn ?_
 simp -dsimp [hf]
 refine aN ?_
 rcases aU hm with ⟨c1,hm⟩ | ⟨c1,hm⟩
 ·refine aQ (by simp -dsimp) c1 ?_
  refine aP (aM (aN (aS ?_)))
  refine srs hn ?_
  obtain⟨x,h2,hm⟩:=bnd hm
  simp -dsimp [hf,c1,h2]
  refine srs hn ?_
  obtain⟨y,h3,hm⟩:=bnd hm
  simp -dsimp
  refine callL_new (cY x.Next y h3) (dkL hn) (by decide) ?_
  simp -dsimp
  refine aN ?_
  refine srs hn ?_
  simp -dsimp
  refine aS ?_
  obtain⟨next,g9,hm⟩:=bnd hm
  refine bc (dH cx hn hk t a mp l to_ x y g9) (by
    try dsimp only
    exact EE.here (by simp -dsimp [hf])
  ) fun ee Z O xx=>?_
  unfold bB at xx
  dsimp only at xx
  obtain⟨rfl,xx⟩:=xx
  refine bG ?_
  refine aM ?_
  refine see xx fun Z O hf=>?_
  simp only[Fits,aZ,b6,and_true] at hf
  refine Swp.pre (Wk.frz 23 1 3 (List.map (rI .i64) next) (by simp -dsimp [hf])) ?_
  refine sw_midc bh mixed 8 9 10 0 [[0]] [[5001]] [true] none (by rw[hn]; kernel_rfl) gn ?_
  dsimp only [List.take,List.drop,fD,fW,uopsD,pk,List.cons_append,List.nil_append,List.flatten_cons,List.flatten_nil,eU,eY,List.append_nil]
  obtain⟨y1,h10,hm⟩:=bnd hm
  simp -dsimp [hf]
  refine aV (fZ x.Level next y1 h10) ?_
  obtain⟨y2,h11,hm⟩:=bnd hm
  simp -dsimp [hf]
  refine callE_g (ea l mp x.Level y1 y2 h11) [5,5000,12] [5001] rfl rfl rfl (by simp -dsimp) rfl (by simp -dsimp [hf]) (by first | rfl | simp) rfl (dkL hn) rfl rfl (by simp) nofun (by simp) ?_
  obtain⟨l1,h12,hm⟩:=bnd hm
  obtain⟨h12a,h12e⟩:=aW h12
  replace h12e:=h12e.symm
  subst h12e
  try simp only[List.length_cons,List.length_nil,Nat.zero_add] at h12a
  simp -dsimp [hf,h12a]
  refine bN ?_
  refine aM ?_
  refine sr1 hn ?_
  simp -dsimp [hf]
  cases hm
  refine cE ?_
  refine emv 52 5002 ?_
  refine emv 5001 5000 ?_
  exact zz
 ·exact zz
theorem dX (t:Tree) (r:List Node) (hm:m_reduce_rebuilt_reduce_Reduce_1_w t=some r):GFn Tryz.prog 129 [.u (.agg [dI t.States,dR1 t.Hood,dR0 t.Nodes]),.u (.one (.fn 130 []))] [] (.u (.agg [dI t.States,.own 1000000,dR0 r])) [some (.row 2 42 (List.map Point.row t.Hood))]:=by
 refine bT bh _ Tryz.func129 rfl (by kernel_rfl) (by simp[Tryz.ntmps129]) (by simp) (by first | rfl | simp) (by first | rfl | simp) fun cx hn hk=>?_
 replace hn:cx.n=69:=hn.trans Tryz.ntmps129
 replace hk:cx.k=0:=hk
 unfold m_reduce_rebuilt_reduce_Reduce_1_w at hm
 refine srs hn ?_
 simp -dsimp
 refine srs hn ?_
 simp -dsimp [(@id (Ob.map .str []=mOb .str kS (uL (L.int .i64)) ([]:List (List UInt8×Int))) (fk .str kS (uL (L.int .i64))))]
 refine srs hn ?_
 simp -dsimp
 refine aN ?_
 refine srs hn ?_
 simp -dsimp
 refine aS ?_
 obtain⟨⟨mp,l,to_⟩,g13,hm⟩:=bnd hm
 refine bc (dF cx hn hk t g13) (by
   try dsimp only
   refine EE.step (Wk.own0 6 5002 1 3 (by simp -dsimp) (by decide)) ?_
   refine EE.step (Wk.own0b 5 0 5000 2 136 [.d .nil,.map 12] (by simp -dsimp) (by rfl) (by decide) (by decide)) ?_
   exact zz
 ) fun ee Z O xx=>?_
 unfold bA at xx
 dsimp only at xx
 obtain⟨rfl,xx⟩:=xx
 refine bG ?_
 refine aM ?_
 refine see xx fun Z O hf=>?_
 simp only[Fits,aZ,b6,and_true] at hf
 refine Swp.pre (Wk.frz 5000 2 136 (List.map Node.row l) (by simp -dsimp [hf])) ?_
 refine sw_midcs bh mixed 0 0 14 4 [] [] [true,true,true,true,true,true,true,true,true,true,true,true,true,true] (some (58,.row 2 42 (List.map Point.row t.Hood))) (by rw[hn]; kernel_rfl) fltT_row ?_
 dsimp only [List.take,List.drop,fD,fW,uopsD,pk,List.cons_append,List.nil_append,List.flatten_cons,List.flatten_nil,eU,eY,List.append_nil]
 obtain⟨l1,h14,hm⟩:=bnd hm
 obtain rfl:=dZ _ _ h14
 simp -dsimp [hf]
 refine callE_flt (dW _ _ h14) (dkL hn) (by decide) rfl rfl ?_
 obtain⟨x,h15,hm⟩:=bnd hm
 obtain⟨y,h16,hm⟩:=bnd hm
 simp -dsimp [hf,h15,bg h15]
 refine aV (eL l x y h16) ?_
 simp -dsimp [hf]
 refine aY ?_
 cases hm
 refine⟨.inr rfl,?_⟩
 refine emr 58 1000000 hk ?_
 exact zz
end
theorem g_reduce_Reduce_w (t:Tree) (r:Int×(List Node)×(List Point)) (hm:m_reduce_Reduce_w t=some r):GFn Tryz.prog 84 [.u (.agg [dI t.States,dR1 t.Hood,dR0 t.Nodes])] [] (.u (.agg [dI r.1,.own 1000000,dR0 r.2.1])) [some (.row 2 42 (List.map Point.row r.2.2))]:=by
 refine bT bh _ Tryz.func84 rfl (by kernel_rfl) (by simp[Tryz.ntmps84]) (by simp) (by first | rfl | simp) (by first | rfl | simp) fun cx hn hk=>?_
 replace hn:cx.n=9:=hn.trans Tryz.ntmps84
 replace hk:cx.k=0:=hk
 unfold m_reduce_Reduce_w at hm
 refine srs hn ?_
 simp -dsimp
 refine aN ?_
 refine srs hn ?_
 obtain⟨y,h1,hm⟩:=bnd hm
 simp -dsimp
 refine aL (dx t y h1) (dkL hn) ?_
 simp -dsimp
 rcases aU hm with ⟨c2,hm⟩ | ⟨c2,hm⟩
 ·refine aQ (by simp -dsimp) c2 ?_
  refine srs hn ?_
  simp -dsimp [c2]
  refine aY (dT ?_)
  cases hm
  refine⟨.inr rfl,?_⟩
  refine emr 5001 1000000 hk ?_
  refine EE.step (Wk.own0b 2 1 5001 2 42 [dI 0,.d .nil,.d .nil] (by simp -dsimp) (by rfl) (by decide) (by decide)) ?_
  refine emr 5001 1000000 hk ?_
  exact zz
 ·refine aR (by simp -dsimp) c2 ?_
  refine aP (aM ?_)
  refine srs hn ?_
  obtain⟨y1,h3,hm⟩:=bnd hm
  simp -dsimp [c2]
  refine clg (dX t y1 h3) [] [5000] (by simp -dsimp) (dkL hn) ?_
  simp -dsimp
  refine aY ?_
  cases hm
  refine⟨.inr rfl,?_⟩
  refine emr 5000 1000000 hk ?_
  exact zz
theorem gl (k:Int) (p r:Point) (hm:m_symmetry_Apply k p=some r):PureCall Tryz.prog 41 [vI k,.u (.agg [dI p.X,dI p.Y])] (.u (.agg [dI r.X,dI r.Y])):=by
 refine bf Tryz.func41 Tryz.ntmps41 fun cx hn=>?_
 unfold m_symmetry_Apply at hm
 refine srs hn ?_
 simp -dsimp
 refine srs hn ?_
 obtain⟨x,h1,hm⟩:=bnd hm
 simp -dsimp [aidx_ok h1,g0_get h1]
 refine srs hn ?_
 simp -dsimp [(@id (aok 4 0=true) rfl),(@id (aok 4 1=true) rfl),(@id (aok 4 2=true) rfl),(@id (aok 4 3=true) rfl)]
 cases hm
 exact aY ⟨.inr rfl,EE.here (by simp -dsimp)⟩
def cb (cx:Cx) (am:List Node) (aa:List (List UInt8×Int)) (level:Int) (next:List Int) (tt:(List Int)) (ee:Exit) (Z:Env) (O:Sto):Prop:=match tt with
 | keyv=>ee=.exit 0/\EE cx (be [(0,vX 1000000),(1,vI level),(2,vO 1000003),(7,vO 5002)] [(5002,.row 1 5 (List.map (rI .u8) keyv)),(1000000,.box [.own 1000001,.map 1000002]),(1000001,.row 2 136 (List.map Node.row am)),(1000002,mOb .str kS (uL (L.int .i64)) aa),(1000003,.row 1 3 (List.map (rI .i64) next))]) Z O
theorem fp (cx:Cx) (hn:cx.n=68) (_hk:cx.k=4) (am:List Node) (aa:List (List UInt8×Int)) (level:Int) (next:List Int) {fu:Nat} {stt:Int×(List Int)} {tt:(List Int)} (hh:aT (b_reduce_builder_node_o_o_1 am aa level next) fu stt=some tt) {Z:Env} {O:Sto}
  (hE:bz (fun stt:Int×(List Int)=>match stt with | (a,_keyv)=>[(0,vX 1000000),(1,vI level),(2,vO 1000003),(7,vO 5002),(14,vO 1000003),(15,vI (aO next)),(16,vI a)]) (fun stt:Int×(List Int)=>match stt with | (_a,keyv)=>[(5002,.row 1 5 (List.map (rI .u8) keyv)),(1000000,.box [.own 1000001,.map 1000002]),(1000001,.row 2 136 (List.map Node.row am)),(1000002,mOb .str kS (uL (L.int .i64)) aa),(1000003,.row 1 3 (List.map (rI .i64) next))]) stt Z O):Swp Tryz.prog cx (.loop (bW [1,1,0,1,0,0] (bd Tryz.f133))) Z O (cb cx am aa level next tt):=by
 refine bC hE hh (cb cx am aa level next) ?_
 rintro⟨a,keyv⟩ r hm Z O hf
 simp only[Fits,aZ,b6,and_true] at hf
 unfold b_reduce_builder_node_o_o_1 at hm
 dsimp only at hm
 refine srs hn ?_
 simp -dsimp [hf]
 refine aN ?_
 rcases aU hm with ⟨c2,hm⟩ | ⟨c2,hm⟩
 ·refine aQ (by simp -dsimp) c2 ?_
  refine aP (aM (aN (aS ?_)))
  refine srs hn ?_
  obtain⟨x,h3,hm⟩:=bnd hm
  simp -dsimp [hf,c2,h3,bg h3]
  refine sr1 hn ?_
  obtain⟨l,h4,hm⟩:=bnd hm
  obtain⟨h4a,h4e⟩:=aW h4
  replace h4e:=h4e.symm
  subst h4e
  try simp only[List.length_cons,List.length_nil,Nat.zero_add] at h4a
  try simp only[Nat.mul_one,Nat.reduceLeDiff] at h4a
  obtain⟨y1,h5,hm⟩:=bnd hm
  simp -dsimp [hf,h4a]
  refine clg (bR (keyv++[32]) x 10 y1 h5) [22] [5001] (by simp -dsimp) (dkL hn) ?_
  simp -dsimp
  refine bN ?_
  refine aM ?_
  refine sr1 hn ?_
  simp -dsimp [hf]
  cases hm
  refine cE ?_
  refine emv 5001 5002 ?_
  exact zz
 ·exact zz
theorem dC (am:List Node) (aa:List (List UInt8×Int)) (level:Int) (next:List Int) (r:Int×(List (List UInt8×Int))×(List Node)) (hm:m_reduce_builder_node_o_o am aa level next=some r):GFn Tryz.prog 133 [vX 1000000,vI level,vO 1000003] [.box [.own 1000001,.map 1000002],.row 2 136 (List.map Node.row am),mOb .str kS (uL (L.int .i64)) aa,.row 1 3 (List.map (rI .i64) next)] (vI r.1) [some (.box [.own 1000004,.map 1000002]),none,some (mOb .str kS (uL (L.int .i64)) r.2.1),none,some (.row 2 136 (List.map Node.row r.2.2))]:=by
 refine bT bh _ Tryz.func133 rfl (by kernel_rfl) (by simp[Tryz.ntmps133]) (by simp) (by first | rfl | simp) (by first | rfl | simp) fun cx hn hk=>?_
 replace hn:cx.n=68:=hn.trans Tryz.ntmps133
 replace hk:cx.k=4:=hk
 unfold m_reduce_builder_node_o_o at hm
 refine srs hn ?_
 simp -dsimp
 refine srs hn ?_
 obtain⟨y,h1,hm⟩:=bnd hm
 simp -dsimp
 refine clg (eF level 10 y h1) [] [5000] (by simp -dsimp) (dkL hn) ?_
 simp -dsimp
 refine aN ?_
 refine srs hn ?_
 simp -dsimp
 refine aS ?_
 obtain⟨keyv,g6,hm⟩:=bnd hm
 refine bc (fp cx hn hk am aa level next g6) (by
   try dsimp only
   refine emv 5000 5002 ?_
   exact zz
 ) fun ee Z O xx=>?_
 unfold cb at xx
 dsimp only at xx
 obtain⟨rfl,xx⟩:=xx
 refine bG ?_
 refine aM ?_
 refine see xx fun Z O hf=>?_
 simp only[Fits,aZ,b6,and_true] at hf
 refine aN ?_
 refine sw_qts bh mixed (by rw[hn]; kernel_rfl) ?_
 obtain⟨u,h7,hm⟩:=bnd hm
 simp -dsimp [hf,dK h7,(@id (lkM (fb (mOb .str kS (uL (L.int .i64)) aa) (.str (ofBytes keyv))) true (.one (dI 0))=some (.tup [.one (dI (e9 aa (ofBytes keyv) 0)),.one (.d (.bool (bE aa (ofBytes keyv))))])) (lk_two (ofBytes keyv) 0))]
 refine srs hn ?_
 simp -dsimp
 rcases aU hm with ⟨c8,hm⟩ | ⟨c8,hm⟩
 ·refine aQ (b:=(bE aa (ofBytes keyv))) (by simp -dsimp) c8 ?_
  refine srs hn ?_
  simp -dsimp [c8]
  refine aY (dT ?_)
  cases hm
  refine⟨.inr rfl,?_⟩
  refine emr 1000001 1000004 hk ?_
  exact zz
 ·refine aR (b:=(bE aa (ofBytes keyv))) (by simp -dsimp) c8 ?_
  refine aP (aM ?_)
  refine Swp.pre (Wk.frz 1000003 1 3 (List.map (rI .i64) next) (by simp -dsimp [hf])) ?_
  refine srs hn ?_
  obtain⟨l,h9,hm⟩:=bnd hm
  obtain⟨h9a,h9e⟩:=aW h9
  replace h9e:=h9e.symm
  subst h9e
  try simp only[List.length_cons,List.length_nil,Nat.zero_add] at h9a
  simp -dsimp [hf,c8,h9a]
  refine gx bh mixed 12 (by rw[hn]; kernel_rfl) ?_
  dsimp only [List.take,List.drop]
  simp -dsimp [hf,dK h7,(@id (fB (mOb .str kS (uL (L.int .i64)) aa) (.str (ofBytes keyv)) (.one (dI (aX .i64 ((aO am)+1) 1)))=mOb .str kS (uL (L.int .i64)) (dm aa (ofBytes keyv) (aX .i64 ((aO am)+1) 1))) (fT .str kS (uL (L.int .i64)) aa (ofBytes keyv) (aX .i64 ((aO am)+1) 1)))]
  refine srs hn ?_
  simp -dsimp [hf]
  refine aY ?_
  cases hm
  refine⟨.inr rfl,?_⟩
  refine emr 47 1000004 hk ?_
  exact zz
end Go.Proofs.YtlifofijgddjkabGreatDoor
