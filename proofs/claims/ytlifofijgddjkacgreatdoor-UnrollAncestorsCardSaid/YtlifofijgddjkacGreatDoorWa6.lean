/- That the code does what the functions say (made by cc.py). -/
import Derived.Test.YtlifofijgddjkacGreatDoorWa5
namespace Go.Proofs.YtlifofijgddjkacGreatDoor
open Go.AM Go.Proofs
set_option maxRecDepth 100000
attribute [-simp] eR fS jn Ob.wipe Ob.ren Ob.frz1
theorem dC (l:List Int) (aK:Int) (aE:List (List Int)) (aM:Int) (aP:List Point) (aN:List Node) (abits:Int) (aR:List (List UInt8×Tree)) (a:List Int) (r:List (List Int)) (hm:bU l aK aE aM aP aN abits aR a=some r):GFn Tryz.prog 81 [.u (.one (dL l)),vX 1000000,vX 1000004] [.box [.box 1000001 0],.box [dI aK,.own 1000002,dI aM,dR2 aP,dR1 aN,dI abits,.map 1000003],.row 1 26 (List.map (rS 1 (rI .i64)) aE),mOb .str kS (uA Tree.row) aR,.box [dL a]] (.tup []) [some (.box [.box 1000001 0]),some (.box [dI aK,.own 1000005,dI aM,dR2 aP,dR1 aN,dI abits,.map 1000003]),none,some (mOb .str kS (uA Tree.row) aR),some (.box [dL a]),some (.row 1 26 (List.map (rS 1 (rI .i64)) r))]:=by
 refine dj bL _ Tryz.func81 rfl (by kernel_rfl) (by simp[Tryz.ntmps81]) (by simp) (by first | rfl | simp) (by first | rfl | simp) fun cx hn hk=>?_
 replace hn:cx.n=10:=hn.trans Tryz.ntmps81
 replace hk:cx.k=5:=hk
 unfold bU at hm
 refine sw_midp bL mixed [] [0,1,3,2,4,5] [0,1,3,2,4,5] 3 5 5 0 [[0,2],[0]] [[6],[8]] [] none (by rw[hn]; kernel_rfl) (by dsimp only [iL,mz,adO,rnL,pmL,pk,rnO,rnG,jv,List.cons_append,List.nil_append]<;>exact rfl) fb ?_
 dsimp only [List.take,List.drop,gL,gU,jx,pk,List.cons_append,List.nil_append,List.flatten_cons,List.flatten_nil,eJ,eK,List.append_nil]
 obtain⟨y,h1,hm⟩:=bnd hm
 simp -dsimp
 refine callE_new (el a y h1) (dkL hn) (by decide) rfl rfl (by simp) nofun (by simp) ?_
 obtain⟨l1,h2,hm⟩:=bnd hm
 obtain⟨h2a,h2e⟩:=ct h2
 replace h2e:=h2e.symm
 subst h2e
 try simp only[List.length_cons,List.length_nil,Nat.zero_add,List.nil_append,List.length_append,List.length_map,List.length_replicate] at h2a
 obtain⟨y1,h3,hm⟩:=bnd hm
 simp -dsimp [h2a]
 refine clg (lZ aK aE aM aP aN abits aR (y++l) y1 h3) [1000001,1000002,1000003,8] [5000] (by simp -dsimp) (dkL hn) ?_
 simp -dsimp
 cases hm
 try refine⟨.inl rfl,?_⟩
 refine emr 5000 1000005 hk ?_
 exact EE.here (by simp -dsimp)
def dV (cx:Cx) (ab aa:Int) (ag:List Point) (ae:List Node) (ak:Int) (ai:List (List UInt8×Tree)) (_aD _own:List Int) (_v:Ba) (tt:(List (List Int))) (ee:Exit) (Z:Env) (O:Sto):Prop:=match tt with
 | l=>ee=.exit 0/\EE cx (bY [] [(5004,.row 1 26 (List.map (rS 1 (rI .i64)) l)),(1000000,.box [dI ab,.own 5004,dI aa,dR2 ag,dR1 ae,dI ak,.map 1000002]),(1000002,mOb .str kS (uA Tree.row) ai)]) Z O
theorem lx (cx:Cx) (hn:cx.n=60) (_hk:cx.k=3) (ab aa:Int) (ag:List Point) (ae:List Node) (ak:Int) (ai:List (List UInt8×Tree)) (aD own:List Int) (v:Ba) {fu:Nat} {stt:Int×(List (List Int))} {tt:(List (List Int))} (hh:bh (db ab aa ag ae ak ai aD own v) fu stt=some tt) {Z:Env} {O:Sto}
  (hE:cw (fun stt:Int×(List (List Int))=>match stt with | (a,_l)=>[(4,vX 4),(5,vX 5),(7,vX 7),(11,.u (.one (dL own))),(12,vI (b9 own)),(13,vI a)]) (fun stt:Int×(List (List Int))=>match stt with | (_a,l)=>[(4,.box [.box 1000000 0]),(5,.box [dL aD]),(7,.box [dI v.constant,.d (pnil 1 (List.map (rI .i64) v.vars))]),(5004,.row 1 26 (List.map (rS 1 (rI .i64)) l)),(1000000,.box [dI ab,.own 5004,dI aa,dR2 ag,dR1 ae,dI ak,.map 1000002]),(1000002,mOb .str kS (uA Tree.row) ai)]) stt Z O):Swp Tryz.prog cx (.loop (dx [1,1,0,0] (bQ Tryz.f70))) Z O (dV cx ab aa ag ae ak ai aD own v tt):=by
 refine cz hE hh (dV cx ab aa ag ae ak ai aD own v) ?_
 rintro⟨a,l⟩ r hm Z O hf
 simp only[Fits,bv,bu,and_true] at hf
 unfold db at hm
 dsimp only at hm
 refine srs hn ?_
 simp -dsimp [hf]
 refine aZ ?_
 rcases bc hm with ⟨c1,hm⟩ | ⟨c1,hm⟩
 ·refine aW (by simp -dsimp) c1 ?_
  refine aY (aU ?_)
  obtain⟨l1,j12,hm⟩:=bnd hm
  refine scE [(4,vX 4),(5,vX 5),(7,vX 7),(11,.u (.one (dL own))),(12,vI (b9 own)),(13,vI a)] [(4,.box [.box 1000000 0]),(5,.box [dL aD]),(7,.box [dI v.constant,.d (pnil 1 (List.map (rI .i64) v.vars))]),(5004,.row 1 26 (List.map (rS 1 (rI .i64)) l1)),(1000000,.box [dI ab,.own 5004,dI aa,dR2 ag,dR1 ae,dI ak,.map 1000002]),(1000002,mOb .str kS (uA Tree.row) ai)] ?_ fun Z O hf=>?_
  ·replace hm:=j12
   clear j12
   refine b7 ?_
   refine srs hn ?_
   obtain⟨x,h2,hm⟩:=bnd hm
   simp -dsimp [hf,c1,h2]
   refine srs hn ?_
   simp -dsimp [hf]
   refine b7 ?_
   refine srs hn ?_
   simp -dsimp [hf]
   rcases bc hm with ⟨c3,hm⟩ | ⟨c3,hm⟩
   ·refine aW (by simp -dsimp) c3 ?_
    refine srs hn ?_
    obtain⟨u,h4,hm⟩:=bnd hm
    obtain⟨x1,h5,hm⟩:=bnd hm
    obtain⟨y,h6,hm⟩:=bnd hm
    simp -dsimp [hf,c3,eQ h4 1 (rI .i64),h5]
    refine clg (dC [(cQ .i64 x),x1] ab l aa ag ae ak ai aD y h6) [4,1000000,5004,1000002,5] [5000] (by simp -dsimp [hf]) (dkL hn) ?_
    simp -dsimp [eQ h4 1 (rI .i64)]
    refine sr1 hn ?_
    obtain⟨y1,h7,hm⟩:=bnd hm
    simp -dsimp [hf,eQ h4 1 (rI .i64),h5]
    refine clg (dC [x,(cQ .i64 x1)] ab y aa ag ae ak ai aD y1 h7) [4,1000000,5000,1000002,5] [5001] (by simp -dsimp) (dkL hn) ?_
    simp -dsimp
    refine bI ?_
    refine bI ?_
    refine aU ?_
    cases hm
    refine emv 5001 5004 ?_
    exact EE.here (by simp -dsimp [hf,eQ h4 1 (rI .i64)])
   ·refine aV (by simp -dsimp) c3 ?_
    refine srs hn ?_
    obtain⟨n,h8,hm⟩:=bnd hm
    simp -dsimp [hf,c3,h8]
    rcases bc hm with ⟨c9,hm⟩ | ⟨c9,hm⟩
    ·refine aW (by simp -dsimp) c9 ?_
     refine sr1 hn ?_
     obtain⟨y,h10,hm⟩:=bnd hm
     simp -dsimp [c9]
     refine clg (dC [x] ab l aa ag ae ak ai aD y h10) [4,1000000,5004,1000002,5] [5002] (by simp -dsimp [hf]) (dkL hn) ?_
     simp -dsimp
     refine bI ?_
     refine bI ?_
     refine aU ?_
     cases hm
     refine emv 5002 5004 ?_
     exact EE.here (by simp -dsimp [hf])
    ·refine aV (by simp -dsimp) c9 ?_
     refine sr1 hn ?_
     obtain⟨y,h11,hm⟩:=bnd hm
     simp -dsimp [c9]
     refine clg (dC [(cQ .i64 x)] ab l aa ag ae ak ai aD y h11) [4,1000000,5004,1000002,5] [5003] (by simp -dsimp [hf]) (dkL hn) ?_
     simp -dsimp
     refine bI ?_
     refine bI ?_
     refine aU ?_
     cases hm
     refine emv 5003 5004 ?_
     exact EE.here (by simp -dsimp [hf])
  ·clear j12
   simp only[Fits,bv,bu,and_true] at hf
   refine sr1 hn ?_
   simp -dsimp [hf]
   cases hm
   refine bC ?_
   exact EE.here (by simp -dsimp [hf])
 ·refine aV (by simp -dsimp) c1 ?_
  refine bp ?_
  refine b8 ?_
  cases hm
  refine bz nofun ?_
  exact⟨rfl,EE.here (by simp -dsimp [hf,c1])⟩
theorem md (ab:Int) (ah:List (List Int)) (aa:Int) (ag:List Point) (ae:List Node) (ak:Int) (ai:List (List UInt8×Tree)) (aD own:List Int) (v:Ba) (r:List (List Int)) (hm:du ab ah aa ag ae ak ai aD own v=some r):GFn Tryz.prog 70 [vX 1000000,.u (.one (dL aD)),.u (.one (dL own)),.u (.agg [dI v.constant,.d (pnil 1 (List.map (rI .i64) v.vars))])] [.box [dI ab,.own 1000001,dI aa,dR2 ag,dR1 ae,dI ak,.map 1000002],.row 1 26 (List.map (rS 1 (rI .i64)) ah),mOb .str kS (uA Tree.row) ai] (.tup []) [some (.box [dI ab,.own 1000003,dI aa,dR2 ag,dR1 ae,dI ak,.map 1000002]),none,some (mOb .str kS (uA Tree.row) ai),some (.row 1 26 (List.map (rS 1 (rI .i64)) r))]:=by
 refine dj bL _ Tryz.func70 rfl (by kernel_rfl) (by simp[Tryz.ntmps70]) (by simp) (by first | rfl | simp) (by first | rfl | simp) fun cx hn hk=>?_
 replace hn:cx.n=60:=hn.trans Tryz.ntmps70
 replace hk:cx.k=3:=hk
 unfold du at hm
 refine srs hn ?_
 simp -dsimp
 refine srs hn ?_
 simp -dsimp
 refine b7 ?_
 obtain⟨l,g13,hm⟩:=bnd hm
 refine bP (lx cx hn hk ab aa ag ae ak ai aD own v g13) (by
   try dsimp only
   refine emv 1000001 5004 ?_
   exact eeh
 ) fun ee Z O xx=>?_
 unfold dV at xx
 dsimp only at xx
 obtain⟨rfl,xx⟩:=xx
 refine br ?_
 cases hm
 try refine⟨.inl rfl,?_⟩
 refine ee_bind (by rfl) (by rfl) xx fun Z O hf=>?_
 simp only[Fits,bv,bu,and_true,true_and] at hf
 refine emr 5004 1000003 hk ?_
 exact EE.here (by simp -dsimp [hf])
def e9 (cx:Cx) (aa:Int) (ag:List Point) (ae:List Node) (ak:Int) (ai:List (List UInt8×Tree)) (t:Tree) (in_:List Ba) (a:Int) (l1:List Ba) (_x:Node) (_x1:Ba) (y1:(List Int)×Int) (x2:Ba) (_u:Unit) (tt:(List (List Int))) (ee:Exit) (Z:Env) (O:Sto):Prop:=match tt with
 | l3=>ee=.exit 2/\EE cx (bY [(0,vX 1000000),(2,vO 1000003),(4,vX 4),(6,vX 6),(7,vX 7),(19,.u (.one (dR1 t.Nodes))),(20,vI (b9 t.Nodes)),(21,vI a)] [(4,.box [dI t.States,dR2 t.Hood,dR1 t.Nodes]),(6,.box [dI 0,.d .nil]),(7,.box [.own 17]),(17,.row 2 81 (List.map Ba.row (l1.set a.toNat (⟨x2.constant,y1.1⟩:Ba)))),(5001,.row 1 26 (List.map (rS 1 (rI .i64)) l3)),(1000000,.box [dI y1.2,.own 5001,dI aa,dR2 ag,dR1 ae,dI ak,.map 1000002]),(1000002,mOb .str kS (uA Tree.row) ai),(1000003,.row 2 81 (List.map Ba.row in_))]) Z O
set_option maxHeartbeats 1000000 in
theorem lM (cx:Cx) (hn:cx.n=77) (_hk:cx.k=4) (aa:Int) (ag:List Point) (ae:List Node) (ak:Int) (ai:List (List UInt8×Tree)) (t:Tree) (in_:List Ba) (a:Int) (l1:List Ba) (x:Node) (x1:Ba) (y1:(List Int)×Int) (x2:Ba) (u:Unit) {fu:Nat} {stt:Int×(List (List Int))} {tt:(List (List Int))} (hh:bh (cN aa ag ae ak ai t in_ a l1 x x1 y1 x2 u) fu stt=some tt) {Z:Env} {O:Sto}
  (hE:cw (fun stt:Int×(List (List Int))=>match stt with | (a1,_l3)=>[(0,vX 1000000),(2,vO 1000003),(4,vX 4),(6,vX 6),(7,vX 7),(10,.u (.one (.fn 68 [.box 9 0,.box 7 0]))),(11,.u (.one (.d (pnil 1 (List.map (rI .i64) x1.vars))))),(12,.u (.one (dL y1.1))),(19,.u (.one (dR1 t.Nodes))),(20,vI (b9 t.Nodes)),(21,vI a),(56,vI (b9 x.Next)),(57,vI a1)]) (fun stt:Int×(List (List Int))=>match stt with | (_a1,l3)=>[(4,.box [dI t.States,dR2 t.Hood,dR1 t.Nodes]),(6,.box [dI 0,.d .nil]),(7,.box [.own 17]),(9,.box [dI x.Level,dL x.Next]),(17,.row 2 81 (List.map Ba.row (l1.set a.toNat (⟨x2.constant,y1.1⟩:Ba)))),(5001,.row 1 26 (List.map (rS 1 (rI .i64)) l3)),(1000000,.box [dI y1.2,.own 5001,dI aa,dR2 ag,dR1 ae,dI ak,.map 1000002]),(1000002,mOb .str kS (uA Tree.row) ai),(1000003,.row 2 81 (List.map Ba.row in_))]) stt Z O):Swp Tryz.prog cx (.loop (dx [1,1,0,1,0,0,1,1,0,0,1,1,1,1,1,1,1,0,0] (bQ Tryz.f51))) Z O (e9 cx aa ag ae ak ai t in_ a l1 x x1 y1 x2 u tt):=by
 refine cz hE hh (e9 cx aa ag ae ak ai t in_ a l1 x x1 y1 x2 u) ?_
 rintro⟨a1,l3⟩ r hm Z O hf
 simp only[Fits,bv,bu,and_true] at hf
 unfold cN at hm
 dsimp only at hm
 refine srs hn ?_
 simp -dsimp [hf]
 refine aZ ?_
 rcases bc hm with ⟨c12,hm⟩ | ⟨c12,hm⟩
 ·refine aW (by simp -dsimp) c12 ?_
  refine aY (aU (aZ (b7 ?_)))
  refine srs hn ?_
  simp -dsimp [hf,c12]
  refine sr1 hn ?_
  obtain⟨u1,h13,hm⟩:=bnd hm
  obtain⟨y2,h14,hm⟩:=bnd hm
  simp -dsimp [hf,eQ h13 1 (rI .i64)]
  refine bi (nL x1.vars a1 y2 h14) (dkL hn) ?_
  obtain⟨y3,h15,hm⟩:=bnd hm
  simp -dsimp [hf]
  refine clg (iN a1 x.Level x.Next (l1.set a.toNat (⟨x2.constant,y1.1⟩:Ba)) y3 h15) [9,7,17] [] (by simp -dsimp [hf]) (dkL hn) ?_
  obtain⟨y4,h16,hm⟩:=bnd hm
  simp -dsimp
  refine clg (md y1.2 l3 aa ag ae ak ai y2 y1.1 (⟨y3.1,y3.2⟩:Ba) y4 h16) [1000000,5001,1000002] [5000] (by simp -dsimp [hf]) (dkL hn) ?_
  simp -dsimp [eQ h13 1 (rI .i64)]
  refine bI ?_
  refine aU ?_
  refine sr1 hn ?_
  simp -dsimp [hf]
  cases hm
  refine bC ?_
  refine emv 5000 5001 ?_
  exact EE.here (by simp -dsimp [hf,eQ h13 1 (rI .i64)])
 ·refine aV (by simp -dsimp) c12 ?_
  refine bp ?_
  refine b8 ?_
  cases hm
  refine bz nofun ?_
  exact⟨rfl,EE.here (by simp -dsimp [hf,c12])⟩
def ea (cx:Cx) (aa:Int) (ag:List Point) (ae:List Node) (ak:Int) (ai:List (List UInt8×Tree)) (_t:Tree) (in_:List Ba) (tt:((List Ba)×(List (List Int))×Int)) (ee:Exit) (Z:Env) (O:Sto):Prop:=match tt with
 | (l1,l2,aj)=>ee=.exit 0/\EE cx (bY [(6,vX 6),(7,vX 7)] [(6,.box [dI 0,.d .nil]),(7,.box [.own 17]),(17,.row 2 81 (List.map Ba.row l1)),(5001,.row 1 26 (List.map (rS 1 (rI .i64)) l2)),(1000000,.box [dI aj,.own 5001,dI aa,dR2 ag,dR1 ae,dI ak,.map 1000002]),(1000002,mOb .str kS (uA Tree.row) ai),(1000003,.row 2 81 (List.map Ba.row in_))]) Z O
set_option maxHeartbeats 1000000 in
theorem lX (cx:Cx) (hn:cx.n=77) (hk:cx.k=4) (aa:Int) (ag:List Point) (ae:List Node) (ak:Int) (ai:List (List UInt8×Tree)) (t:Tree) (in_:List Ba) {fu:Nat} {stt:Int×(List Ba)×(List (List Int))×Int} {tt:((List Ba)×(List (List Int))×Int)} (hh:bh (cM aa ag ae ak ai t in_) fu stt=some tt) {Z:Env} {O:Sto}
  (hE:cw (fun stt:Int×(List Ba)×(List (List Int))×Int=>match stt with | (a,_l1,_l2,_aj)=>[(0,vX 1000000),(2,vO 1000003),(4,vX 4),(6,vX 6),(7,vX 7),(19,.u (.one (dR1 t.Nodes))),(20,vI (b9 t.Nodes)),(21,vI a)]) (fun stt:Int×(List Ba)×(List (List Int))×Int=>match stt with | (_a,l1,l2,aj)=>[(4,.box [dI t.States,dR2 t.Hood,dR1 t.Nodes]),(6,.box [dI 0,.d .nil]),(7,.box [.own 17]),(17,.row 2 81 (List.map Ba.row l1)),(5001,.row 1 26 (List.map (rS 1 (rI .i64)) l2)),(1000000,.box [dI aj,.own 5001,dI aa,dR2 ag,dR1 ae,dI ak,.map 1000002]),(1000002,mOb .str kS (uA Tree.row) ai),(1000003,.row 2 81 (List.map Ba.row in_))]) stt Z O):Swp Tryz.prog cx (.loop (dx [1,1,0,1,0,0] (bQ Tryz.f51))) Z O (ea cx aa ag ae ak ai t in_ tt):=by
 refine cz hE hh (ea cx aa ag ae ak ai t in_) ?_
 rintro⟨a,l1,l2,aj⟩ r hm Z O hf
 simp only[Fits,bv,bu,and_true] at hf
 unfold cM at hm
 dsimp only at hm
 refine srs hn ?_
 simp -dsimp [hf]
 refine aZ ?_
 rcases bc hm with ⟨c2,hm⟩ | ⟨c2,hm⟩
 ·refine aW (by simp -dsimp) c2 ?_
  refine aY (aU (aZ (b7 ?_)))
  refine srs hn ?_
  obtain⟨x,h3,hm⟩:=bnd hm
  simp -dsimp [hf,c2,h3]
  refine srs hn ?_
  simp -dsimp [hf]
  refine aZ ?_
  refine srs hn ?_
  obtain⟨y,h4,hm⟩:=bnd hm
  simp -dsimp
  refine m8 (us':=[.u (.one (dL x.Next)),.u (.one (.fn 69 [.ref (Node.row x) 0]))]) (fD x.Next x y h4) (by simp -dsimp) rfl (dkL hn) ?_
  simp -dsimp
  rcases bc hm with ⟨c5,hm⟩ | ⟨c5,hm⟩
  ·refine aW (by simp -dsimp) c5 ?_
   refine k9 bL mixed 3 4 4 0 [[0,1]] [[]] [] none (by rw[hn]; kernel_rfl) fb ?_
   dsimp only [List.take,List.drop,gL,gU,jx,pk,List.cons_append,List.nil_append,List.flatten_cons,List.flatten_nil,eJ,eK,List.append_nil]
   obtain⟨y1,h6,hm⟩:=bnd hm
   simp -dsimp [hf,c5]
   refine lN (iN 0 x.Level x.Next l1 y1 h6) [9,7,17] [] rfl rfl rfl (by simp -dsimp) rfl (by simp -dsimp [hf]) (by first | rfl | simp) rfl (dkL hn) rfl rfl (by simp) nofun (by simp) ?_
   obtain⟨x1,h7,hm⟩:=bnd hm
   simp -dsimp [hf,h7,df h7]
   refine bp ?_
   refine b8 ?_
   refine br ?_
   refine aU ?_
   refine sr1 hn ?_
   simp -dsimp [hf]
   cases hm
   refine bC ?_
   exact EE.here (by simp -dsimp [hf])
  ·refine aV (by simp -dsimp) c5 ?_
   refine aY (aU ?_)
   refine srs hn ?_
   obtain⟨x1,h8,hm⟩:=bnd hm
   simp -dsimp [hf,c5,h8,df h8]
   refine srs hn ?_
   obtain⟨y1,h9,hm⟩:=bnd hm
   simp -dsimp [hf]
   refine clg (jy aj l2 aa ag ae ak ai y1 h9) [1000000,5001,1000002] [] (by simp -dsimp [hf]) (dkL hn) ?_
   simp -dsimp
   refine srs hn ?_
   obtain⟨x2,h10,hm⟩:=bnd hm
   obtain⟨u,h11,hm⟩:=bnd hm
   simp -dsimp [hf,h10,df h10]
   refine srs hn ?_
   simp -dsimp
   refine b7 ?_
   obtain⟨l3,g17,hm⟩:=bnd hm
   refine bP (lM cx hn hk aa ag ae ak ai t in_ a l1 x x1 y1 x2 u g17) (by
     try dsimp only
     exact EE.here (by simp -dsimp [hf,eQ h11 1 (rI .i64)])
   ) fun ee Z O xx=>?_
   unfold e9 at xx
   dsimp only at xx
   obtain⟨rfl,xx⟩:=xx
   refine br ?_
   refine bI ?_
   refine aU ?_
   refine see xx fun Z O hf=>?_
   simp only[Fits,bv,bu,and_true] at hf
   refine sr1 hn ?_
   simp -dsimp [hf]
   cases hm
   refine bC ?_
   exact EE.here (by simp -dsimp [hf,eQ h11 1 (rI .i64)])
 ·refine aV (by simp -dsimp) c2 ?_
  refine bp ?_
  refine b8 ?_
  cases hm
  refine bz nofun ?_
  exact⟨rfl,EE.here (by simp -dsimp [hf,c2])⟩
set_option maxHeartbeats 1000000 in
theorem mK (ab:Int) (ah:List (List Int)) (aa:Int) (ag:List Point) (ae:List Node) (ak:Int) (ai:List (List UInt8×Tree)) (t:Tree) (in_:List Ba) (r:Int×(List Int)×(List (List Int))×Int) (hm:dF ab ah aa ag ae ak ai t in_=some r):GFn Tryz.prog 51 [vX 1000000,.u (.agg [dI t.States,dR2 t.Hood,dR1 t.Nodes]),vO 1000003] [.box [dI ab,.own 1000001,dI aa,dR2 ag,dR1 ae,dI ak,.map 1000002],.row 1 26 (List.map (rS 1 (rI .i64)) ah),mOb .str kS (uA Tree.row) ai,.row 2 81 (List.map Ba.row in_)] (.u (.agg [dI r.1,.d (pnil 1 (List.map (rI .i64) r.2.1))])) [some (.box [dI r.2.2.2,.own 1000004,dI aa,dR2 ag,dR1 ae,dI ak,.map 1000002]),none,some (mOb .str kS (uA Tree.row) ai),some (.row 2 81 (List.map Ba.row in_)),some (.row 1 26 (List.map (rS 1 (rI .i64)) r.2.2.1))]:=by
 refine dj bL _ Tryz.func51 rfl (by kernel_rfl) (by simp[Tryz.ntmps51]) (by simp) (by first | rfl | simp) (by first | rfl | simp) fun cx hn hk=>?_
 replace hn:cx.n=77:=hn.trans Tryz.ntmps51
 replace hk:cx.k=4:=hk
 unfold dF at hm
 refine srs hn ?_
 simp -dsimp
 refine srs hn ?_
 obtain⟨l,h1,hm⟩:=bnd hm
 obtain⟨⟨h1a,h1b,h1c⟩,rfl⟩:=mkL_some h1
 simp -dsimp [h1a,h1c]
 refine aZ ?_
 refine srs hn ?_
 simp -dsimp
 refine b7 ?_
 obtain⟨⟨l1,l2,aj⟩,g18,hm⟩:=bnd hm
 refine bP (lX cx hn hk aa ag ae ak ai t in_ g18) (by
   try dsimp only
   refine emv 1000001 5001 ?_
   exact EE.here (by simp -dsimp)
 ) fun ee Z O xx=>?_
 unfold ea at xx
 dsimp only at xx
 obtain⟨rfl,xx⟩:=xx
 refine br ?_
 refine aU ?_
 refine see xx fun Z O hf=>?_
 simp only[Fits,bv,bu,and_true] at hf
 refine srs hn ?_
 obtain⟨x,h19,hm⟩:=bnd hm
 simp -dsimp [hf,h19,df h19]
 refine b0 ?_
 cases hm
 refine⟨.inr rfl,?_⟩
 refine emr 5001 1000004 hk ?_
 exact EE.here (by simp -dsimp [hf])
theorem gt (ab:Int) (ah:List (List Int)) (aa:Int) (ag:List Point) (ae:List Node) (ak:Int) (ai:List (List UInt8×Tree)) (r:Bool) (hm:cJ ab ah aa ag ae ak ai=some r):GFn Tryz.prog 27 [vX 1000000] [.box [dI ab,.own 1000001,dI aa,dR2 ag,dR1 ae,dI ak,.map 1000002],.row 1 26 (List.map (rS 1 (rI .i64)) ah),mOb .str kS (uA Tree.row) ai] (vT r) [some (.box [dI ab,.own 1000001,dI aa,dR2 ag,dR1 ae,dI ak,.map 1000002]),some (.row 1 26 (List.map (rS 1 (rI .i64)) ah)),some (mOb .str kS (uA Tree.row) ai)]:=by
 refine dj bL _ Tryz.func27 rfl (by kernel_rfl) (by simp[Tryz.ntmps27]) (by simp) (by first | rfl | simp) (by first | rfl | simp) fun cx hn hk=>?_
 replace hn:cx.n=18:=hn.trans Tryz.ntmps27
 replace hk:cx.k=3:=hk
 unfold cJ at hm
 refine srs hn ?_
 simp -dsimp
 obtain⟨a,j2,hm⟩:=bnd hm
 refine scE [(2,vT a)] [(1000000,.box [dI ab,.own 1000001,dI aa,dR2 ag,dR1 ae,dI ak,.map 1000002]),(1000001,.row 1 26 (List.map (rS 1 (rI .i64)) ah)),(1000002,mOb .str kS (uA Tree.row) ai)] ?_ fun Z O hf=>?_
 ·replace hm:=j2
  clear j2
  refine sr1 hn ?_
  rcases bc hm with ⟨c1,hm⟩ | ⟨c1,hm⟩
  ·simp -dsimp [c1]
   cases hm
   exact EE.here (by simp -dsimp)
  ·simp -dsimp [c1]
   cases hm
   exact EE.here (by simp -dsimp)
 ·clear j2
  simp only[Fits,bv,bu,and_true] at hf
  cases hm
  exact b0 ⟨.inr rfl,EE.here (by simp -dsimp [hf])⟩
end Go.Proofs.YtlifofijgddjkacGreatDoor
