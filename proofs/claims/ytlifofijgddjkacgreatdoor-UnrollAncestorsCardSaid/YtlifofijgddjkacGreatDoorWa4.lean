/- That the code does what the functions say (made by cc.py). -/
import Derived.Test.YtlifofijgddjkacGreatDoorWa3
namespace Go.Proofs.YtlifofijgddjkacGreatDoor
open Go.AM Go.Proofs
set_option maxRecDepth 100000
attribute [-simp] eR fS jn Ob.wipe Ob.ren Ob.frz1
def eB (cx:Cx) (ah:List (List Int)) (aa:Int) (ag:List Point) (ae:List Node) (ak:Int) (ai:List (List UInt8×Tree)) (box:Box) (tt:((List Ba)×Int)) (ee:Exit) (Z:Env) (O:Sto):Prop:=match tt with
 | (l,aj)=>ee=.exit 0/\EE cx (bY [(0,vX 1000000),(4,vX 4),(5,vX 5)] [(4,.box [dI 0,dI 0,dI 0,dI 0,.d .nil]),(5,.box [dI box.X,dI box.Y,dI box.W,dI box.H,.own 5000]),(5000,.row 2 81 (List.map Ba.row l)),(1000000,.box [dI aj,.own 1000001,dI aa,dR2 ag,dR1 ae,dI ak,.map 1000002]),(1000001,.row 1 26 (List.map (rS 1 (rI .i64)) ah)),(1000002,mOb .str kS (uA Tree.row) ai)]) Z O
set_option maxHeartbeats 1000000 in
theorem mI (cx:Cx) (hn:cx.n=56) (_hk:cx.k=3) (ah:List (List Int)) (aa:Int) (ag:List Point) (ae:List Node) (ak:Int) (ai:List (List UInt8×Tree)) (box:Box) {fu:Nat} {stt:Int×(List Ba)×Int} {tt:((List Ba)×Int)} (hh:bh (d5 ah aa ag ae ak ai box) fu stt=some tt) {Z:Env} {O:Sto}
  (hE:cw (fun stt:Int×(List Ba)×Int=>match stt with | (a,_l,_aj)=>[(0,vX 1000000),(4,vX 4),(5,vX 5),(15,vI (bO .i64 box.W box.H)),(16,vI a)]) (fun stt:Int×(List Ba)×Int=>match stt with | (_a,l,aj)=>[(4,.box [dI 0,dI 0,dI 0,dI 0,.d .nil]),(5,.box [dI box.X,dI box.Y,dI box.W,dI box.H,.own 5000]),(5000,.row 2 81 (List.map Ba.row l)),(1000000,.box [dI aj,.own 1000001,dI aa,dR2 ag,dR1 ae,dI ak,.map 1000002]),(1000001,.row 1 26 (List.map (rS 1 (rI .i64)) ah)),(1000002,mOb .str kS (uA Tree.row) ai)]) stt Z O):Swp Tryz.prog cx (.loop (dx [1,1,0,1,0,0] (bQ Tryz.f23))) Z O (eB cx ah aa ag ae ak ai box tt):=by
 refine cz hE hh (eB cx ah aa ag ae ak ai box) ?_
 rintro⟨a,l,aj⟩ r hm Z O hf
 simp only[Fits,bv,bu,and_true] at hf
 unfold d5 at hm
 dsimp only at hm
 refine srs hn ?_
 simp -dsimp [hf]
 refine aZ ?_
 rcases bc hm with ⟨c1,hm⟩ | ⟨c1,hm⟩
 ·refine aW (by simp -dsimp) c1 ?_
  refine aY (aU (aZ (b7 ?_)))
  refine sw_midc bL mixed 3 4 6 0 [[0,1]] [[]] [true,true] none (by rw[hn]; kernel_rfl) fb ?_
  dsimp only [List.take,List.drop,gL,gU,jx,pk,List.cons_append,List.nil_append,List.flatten_cons,List.flatten_nil,eJ,eK,List.append_nil]
  obtain⟨y,h2,hm⟩:=bnd hm
  simp -dsimp [hf,c1]
  refine lN (jy aj ah aa ag ae ak ai y h2) [1000000,1000001,1000002] [] rfl rfl rfl (by simp -dsimp) rfl (by simp -dsimp [hf]) (by first | rfl | simp) rfl (dkL hn) rfl rfl (by simp) nofun (by simp) ?_
  obtain⟨u,h3,hm⟩:=bnd hm
  obtain⟨l1,h4,hm⟩:=bnd hm
  obtain⟨h4a,h4e⟩:=ct h4
  replace h4e:=h4e.symm
  subst h4e
  try simp only[List.length_cons,List.length_nil,Nat.zero_add] at h4a
  simp -dsimp [hf,h4a]
  refine bI ?_
  refine aU ?_
  refine sr1 hn ?_
  simp -dsimp [hf]
  cases hm
  refine bC ?_
  refine emv 24 5000 ?_
  exact EE.here (by simp -dsimp [hf,eQ h3 1 (rI .i64)])
 ·refine aV (by simp -dsimp) c1 ?_
  refine bp ?_
  refine b8 ?_
  cases hm
  refine bz nofun ?_
  exact⟨rfl,EE.here (by simp -dsimp [hf,c1])⟩
def eE (cx:Cx) (aa:Int) (ag:List Point) (ae:List Node) (ak:Int) (ai:List (List UInt8×Tree)) (box:Box) (l:List Ba) (aj a:Int) (_x:Ba) (tt:(List (List Int))) (ee:Exit) (Z:Env) (O:Sto):Prop:=match tt with
 | l2=>ee=.exit 4/\EE cx (bY [(0,vX 1000000),(4,vX 4),(5,vX 5),(28,vO 5000),(29,vI (b9 l)),(30,vI a)] [(4,.box [dI 0,dI 0,dI 0,dI 0,.d .nil]),(5,.box [dI box.X,dI box.Y,dI box.W,dI box.H,.own 5000]),(5000,.row 2 81 (List.map Ba.row l)),(5002,.row 1 26 (List.map (rS 1 (rI .i64)) l2)),(1000000,.box [dI aj,.own 5002,dI aa,dR2 ag,dR1 ae,dI ak,.map 1000002]),(1000002,mOb .str kS (uA Tree.row) ai)]) Z O
set_option maxHeartbeats 1000000 in
theorem mL (cx:Cx) (hn:cx.n=56) (_hk:cx.k=3) (aa:Int) (ag:List Point) (ae:List Node) (ak:Int) (ai:List (List UInt8×Tree)) (box:Box) (l:List Ba) (aj a:Int) (x:Ba) {fu:Nat} {stt:Int×(List (List Int))} {tt:(List (List Int))} (hh:bh (cD aa ag ae ak ai box l aj a x) fu stt=some tt) {Z:Env} {O:Sto}
  (hE:cw (fun stt:Int×(List (List Int))=>match stt with | (cv,_l2)=>[(0,vX 1000000),(4,vX 4),(5,vX 5),(7,vX 7),(8,vI cv),(28,vO 5000),(29,vI (b9 l)),(30,vI a)]) (fun stt:Int×(List (List Int))=>match stt with | (_cv,l2)=>[(4,.box [dI 0,dI 0,dI 0,dI 0,.d .nil]),(5,.box [dI box.X,dI box.Y,dI box.W,dI box.H,.own 5000]),(7,.box [dI x.constant,.d (pnil 1 (List.map (rI .i64) x.vars))]),(5000,.row 2 81 (List.map Ba.row l)),(5002,.row 1 26 (List.map (rS 1 (rI .i64)) l2)),(1000000,.box [dI aj,.own 5002,dI aa,dR2 ag,dR1 ae,dI ak,.map 1000002]),(1000002,mOb .str kS (uA Tree.row) ai)]) stt Z O):Swp Tryz.prog cx (.loop (dx [1,1,1,0,1,0,0,1,1,0,0,1,1,0,0] (bQ Tryz.f23))) Z O (eE cx aa ag ae ak ai box l aj a x tt):=by
 refine cz hE hh (eE cx aa ag ae ak ai box l aj a x) ?_
 rintro⟨cv,l2⟩ r hm Z O hf
 simp only[Fits,bv,bu,and_true] at hf
 unfold cD at hm
 dsimp only at hm
 refine aZ ?_
 refine srs hn ?_
 obtain⟨n,h8,hm⟩:=bnd hm
 simp -dsimp [hf,h8]
 rcases bc hm with ⟨c9,hm⟩ | ⟨c9,hm⟩
 ·refine aW (by simp -dsimp) c9 ?_
  refine aY (aU (aZ (b7 ?_)))
  refine sr1 hn ?_
  obtain⟨u,h10,hm⟩:=bnd hm
  obtain⟨y,h11,hm⟩:=bnd hm
  simp -dsimp [hf,c9,eQ h10 1 (rI .i64)]
  refine bi (nL x.vars cv y h11) (dkL hn) ?_
  obtain⟨y1,h12,hm⟩:=bnd hm
  simp -dsimp
  refine clg (eF aj l2 aa ag ae ak ai y y1 h12) [1000000,5002,1000002] [5001] (by simp -dsimp [hf]) (dkL hn) ?_
  simp -dsimp [eQ h10 1 (rI .i64)]
  refine bI ?_
  refine aU ?_
  refine sr1 hn ?_
  simp -dsimp [hf]
  cases hm
  refine bC ?_
  refine emv 5001 5002 ?_
  exact EE.here (by simp -dsimp [hf,eQ h10 1 (rI .i64)])
 ·refine aV (by simp -dsimp) c9 ?_
  refine bp ?_
  refine b8 ?_
  cases hm
  refine bz nofun ?_
  exact⟨rfl,EE.here (by simp -dsimp [hf,c9])⟩
def eG (cx:Cx) (aa:Int) (ag:List Point) (ae:List Node) (ak:Int) (ai:List (List UInt8×Tree)) (box:Box) (l:List Ba) (aj:Int) (tt:(List (List Int))) (ee:Exit) (Z:Env) (O:Sto):Prop:=match tt with
 | l1=>ee=.exit 2/\EE cx (bY [(4,vX 4),(5,vX 5)] [(4,.box [dI 0,dI 0,dI 0,dI 0,.d .nil]),(5,.box [dI box.X,dI box.Y,dI box.W,dI box.H,.own 5000]),(5000,.row 2 81 (List.map Ba.row l)),(5002,.row 1 26 (List.map (rS 1 (rI .i64)) l1)),(1000000,.box [dI aj,.own 5002,dI aa,dR2 ag,dR1 ae,dI ak,.map 1000002]),(1000002,mOb .str kS (uA Tree.row) ai)]) Z O
set_option maxHeartbeats 1000000 in
theorem mJ (cx:Cx) (hn:cx.n=56) (hk:cx.k=3) (aa:Int) (ag:List Point) (ae:List Node) (ak:Int) (ai:List (List UInt8×Tree)) (box:Box) (l:List Ba) (aj:Int) {fu:Nat} {stt:Int×(List (List Int))} {tt:(List (List Int))} (hh:bh (cY aa ag ae ak ai box l aj) fu stt=some tt) {Z:Env} {O:Sto}
  (hE:cw (fun stt:Int×(List (List Int))=>match stt with | (a,_l1)=>[(0,vX 1000000),(4,vX 4),(5,vX 5),(28,vO 5000),(29,vI (b9 l)),(30,vI a)]) (fun stt:Int×(List (List Int))=>match stt with | (_a,l1)=>[(4,.box [dI 0,dI 0,dI 0,dI 0,.d .nil]),(5,.box [dI box.X,dI box.Y,dI box.W,dI box.H,.own 5000]),(5000,.row 2 81 (List.map Ba.row l)),(5002,.row 1 26 (List.map (rS 1 (rI .i64)) l1)),(1000000,.box [dI aj,.own 5002,dI aa,dR2 ag,dR1 ae,dI ak,.map 1000002]),(1000002,mOb .str kS (uA Tree.row) ai)]) stt Z O):Swp Tryz.prog cx (.loop (dx [1,1,1,0,1,0,0] (bQ Tryz.f23))) Z O (eG cx aa ag ae ak ai box l aj tt):=by
 refine cz hE hh (eG cx aa ag ae ak ai box l aj) ?_
 rintro⟨a,l1⟩ r hm Z O hf
 simp only[Fits,bv,bu,and_true] at hf
 unfold cY at hm
 dsimp only at hm
 refine srs hn ?_
 simp -dsimp [hf]
 refine aZ ?_
 rcases bc hm with ⟨c6,hm⟩ | ⟨c6,hm⟩
 ·refine aW (by simp -dsimp) c6 ?_
  refine aY (aU (aZ (b7 ?_)))
  refine srs hn ?_
  obtain⟨x,h7,hm⟩:=bnd hm
  simp -dsimp [hf,c6,h7,df h7]
  refine srs hn ?_
  simp -dsimp [hf]
  refine b7 ?_
  obtain⟨l2,g13,hm⟩:=bnd hm
  refine bP (mL cx hn hk aa ag ae ak ai box l aj a x g13) (by
    try dsimp only
    exact EE.here (by simp -dsimp [hf])
  ) fun ee Z O xx=>?_
  unfold eE at xx
  dsimp only at xx
  obtain⟨rfl,xx⟩:=xx
  refine br ?_
  refine bI ?_
  refine aU ?_
  refine see xx fun Z O hf=>?_
  simp only[Fits,bv,bu,and_true] at hf
  refine sr1 hn ?_
  simp -dsimp [hf]
  cases hm
  refine bC ?_
  exact EE.here (by simp -dsimp [hf])
 ·refine aV (by simp -dsimp) c6 ?_
  refine bp ?_
  refine b8 ?_
  cases hm
  refine bz nofun ?_
  exact⟨rfl,EE.here (by simp -dsimp [hf,c6])⟩
set_option maxHeartbeats 1000000 in
theorem jY (ab:Int) (ah:List (List Int)) (aa:Int) (ag:List Point) (ae:List Node) (ak:Int) (ai:List (List UInt8×Tree)) (box:Box) (r:(List Ba)×(List (List Int))×Int) (hm:dr ab ah aa ag ae ak ai box=some r):GFn Tryz.prog 23 [vX 1000000,.u (.agg [dI box.X,dI box.Y,dI box.W,dI box.H])] [.box [dI ab,.own 1000001,dI aa,dR2 ag,dR1 ae,dI ak,.map 1000002],.row 1 26 (List.map (rS 1 (rI .i64)) ah),mOb .str kS (uA Tree.row) ai] (.u (.agg [dI box.X,dI box.Y,dI box.W,dI box.H,dR3 r.1])) [some (.box [dI r.2.2,.own 1000003,dI aa,dR2 ag,dR1 ae,dI ak,.map 1000002]),none,some (mOb .str kS (uA Tree.row) ai),some (.row 1 26 (List.map (rS 1 (rI .i64)) r.2.1))]:=by
 refine dj bL _ Tryz.func23 rfl (by kernel_rfl) (by simp[Tryz.ntmps23]) (by simp) (by first | rfl | simp) (by first | rfl | simp) fun cx hn hk=>?_
 replace hn:cx.n=56:=hn.trans Tryz.ntmps23
 replace hk:cx.k=3:=hk
 unfold dr at hm
 refine srs hn ?_
 simp -dsimp
 refine srs hn ?_
 simp -dsimp
 refine aZ ?_
 refine srs hn ?_
 simp -dsimp
 refine b7 ?_
 obtain⟨⟨l,aj⟩,g5,hm⟩:=bnd hm
 refine bP (mI cx hn hk ah aa ag ae ak ai box g5) (by
   try dsimp only
   refine EE.step (Wk.own0b 5 4 5000 2 81 [dI box.X,dI box.Y,dI box.W,dI box.H,.d .nil] (by simp -dsimp) (by rfl) (by decide) (by decide)) ?_
   exact eeh
 ) fun ee Z O xx=>?_
 unfold eB at xx
 dsimp only at xx
 obtain⟨rfl,xx⟩:=xx
 refine br ?_
 refine aU ?_
 refine see xx fun Z O hf=>?_
 simp only[Fits,bv,bu,and_true] at hf
 refine aZ ?_
 refine srs hn ?_
 simp -dsimp [hf]
 refine b7 ?_
 obtain⟨l1,g14,hm⟩:=bnd hm
 refine bP (mJ cx hn hk aa ag ae ak ai box l aj g14) (by
   try dsimp only
   refine emv 1000001 5002 ?_
   exact EE.here (by simp -dsimp [hf])
 ) fun ee Z O xx=>?_
 unfold eG at xx
 dsimp only at xx
 obtain⟨rfl,xx⟩:=xx
 refine br ?_
 refine aU ?_
 refine see xx fun Z O hf=>?_
 simp only[Fits,bv,bu,and_true] at hf
 refine Swp.pre (Wk.frz 5000 2 81 (List.map Ba.row l) (by simp -dsimp [hf])) ?_
 refine srs hn ?_
 simp -dsimp [hf]
 refine b0 ?_
 cases hm
 refine⟨.inr rfl,?_⟩
 refine emr 5002 1000003 hk ?_
 exact EE.here (by simp -dsimp [hf])
theorem oB (n:Int) (r:Bool) (hm:kF n=some r):bg Tryz.prog 74 [vI n] (vT r):=by
 refine dG Tryz.func74 Tryz.ntmps74 fun cx hn=>?_
 unfold kF at hm
 refine srs hn ?_
 simp -dsimp
 obtain⟨a,j2,hm⟩:=bnd hm
 refine scE [(2,vT a)] [] ?_ fun Z O hf=>?_
 ·replace hm:=j2
  clear j2
  refine sr1 hn ?_
  rcases bc hm with ⟨c1,hm⟩ | ⟨c1,hm⟩
  ·simp -dsimp [c1]
   cases hm
   exact EE.here (by simp -dsimp)
  ·simp -dsimp [c1]
   cases hm
   exact EE.here (by simp -dsimp)
 ·clear j2
  simp only[Fits,bv,bu,and_true] at hf
  cases hm
  exact b0 ⟨.inr rfl,EE.here (by simp -dsimp [hf])⟩
theorem ni (b:Box) (r:Bool) (hm:jw b=some r):bg Tryz.prog 55 [.u (.agg [dI b.X,dI b.Y,dI b.W,dI b.H])] (vT r):=by
 refine dG Tryz.func55 Tryz.ntmps55 fun cx hn=>?_
 unfold jw at hm
 refine srs hn ?_
 simp -dsimp
 obtain⟨a,j12,hm⟩:=bnd hm
 refine scE [(2,vT a)] [] ?_ fun Z O hf=>?_
 ·replace hm:=j12
  clear j12
  refine sr1 hn ?_
  rcases bc hm with ⟨c1,hm⟩ | ⟨c1,hm⟩
  ·rcases bc hm with ⟨c2,hm⟩ | ⟨c2,hm⟩
   ·rcases bc hm with ⟨c3,hm⟩ | ⟨c3,hm⟩
    ·rcases bc hm with ⟨c4,hm⟩ | ⟨c4,hm⟩
     ·obtain⟨y,h5,hm⟩:=bnd hm
      simp -dsimp [c1,c2,c3,c4]
      refine bi (oB b.X y h5) (dkL hn) ?_
      rcases bc hm with ⟨c6,hm⟩ | ⟨c6,hm⟩
      ·obtain⟨y1,h7,hm⟩:=bnd hm
       simp -dsimp [c6]
       refine bi (oB b.Y y1 h7) (dkL hn) ?_
       rcases bc hm with ⟨c8,hm⟩ | ⟨c8,hm⟩
       ·obtain⟨y2,h9,hm⟩:=bnd hm
        simp -dsimp [c8]
        refine bi (oB (cu .i64 (bm .i64 b.X b.W) 1) y2 h9) (dkL hn) ?_
        rcases bc hm with ⟨c10,hm⟩ | ⟨c10,hm⟩
        ·obtain⟨y3,h11,hm⟩:=bnd hm
         simp -dsimp [c10]
         refine bi (oB (cu .i64 (bm .i64 b.Y b.H) 1) y3 h11) (dkL hn) ?_
         simp -dsimp
         cases hm
         exact EE.here (by simp -dsimp)
        ·simp -dsimp [c10]
         cases hm
         exact EE.here (by simp -dsimp)
       ·simp -dsimp [c8]
        cases hm
        exact EE.here (by simp -dsimp)
      ·simp -dsimp [c6]
       cases hm
       exact EE.here (by simp -dsimp)
     ·simp -dsimp [c1,c2,c3,c4]
      cases hm
      exact EE.here (by simp -dsimp)
    ·simp -dsimp [c1,c2,c3]
     cases hm
     exact EE.here (by simp -dsimp)
   ·simp -dsimp [c1,c2]
    cases hm
    exact EE.here (by simp -dsimp)
  ·simp -dsimp [c1]
   cases hm
   exact EE.here (by simp -dsimp)
 ·clear j12
  simp only[Fits,bv,bu,and_true] at hf
  cases hm
  exact b0 ⟨.inr rfl,EE.here (by simp -dsimp [hf])⟩
theorem jj (k:Int) (p r:Point) (hm:gK k p=some r):bg Tryz.prog 57 [vI k,.u (.agg [dI p.X,dI p.Y])] (.u (.agg [dI r.X,dI r.Y])):=by
 refine dG Tryz.func57 Tryz.ntmps57 fun cx hn=>?_
 unfold gK at hm
 refine srs hn ?_
 simp -dsimp
 refine srs hn ?_
 obtain⟨x,h1,hm⟩:=bnd hm
 simp -dsimp [mY h1,g0_get h1]
 refine srs hn ?_
 simp -dsimp [(@id (aok 4 0=true) rfl),(@id (aok 4 1=true) rfl),(@id (aok 4 2=true) rfl),(@id (aok 4 3=true) rfl)]
 cases hm
 exact b0 ⟨.inr rfl,EE.here (by simp -dsimp)⟩
theorem c_symmetry_Turn (k:Int) (b r:Box) (hm:ls k b=some r):bg Tryz.prog 56 [vI k,.u (.agg [dI b.X,dI b.Y,dI b.W,dI b.H])] (.u (.agg [dI r.X,dI r.Y,dI r.W,dI r.H])):=by
 refine dG Tryz.func56 Tryz.ntmps56 fun cx hn=>?_
 unfold ls at hm
 refine srs hn ?_
 simp -dsimp
 refine aZ ?_
 refine srs hn ?_
 obtain⟨y,h1,hm⟩:=bnd hm
 simp -dsimp
 refine bi (ni b y h1) (dkL hn) ?_
 simp -dsimp
 rcases bc hm with ⟨c2,hm⟩ | ⟨c2,hm⟩
 ·refine aW (by simp -dsimp) c2 ?_
  refine srs hn ?_
  simp -dsimp [c2]
  refine b0 (b8 ?_)
  cases hm
  refine⟨.inr rfl,?_⟩
  exact EE.here (by simp -dsimp)
 ·refine aV (by simp -dsimp) c2 ?_
  refine aY (aU ?_)
  refine srs hn ?_
  obtain⟨y1,h3,hm⟩:=bnd hm
  simp -dsimp [c2]
  refine bi (jj k (⟨b.X,b.Y⟩:Point) y1 h3) (dkL hn) ?_
  simp -dsimp
  refine srs hn ?_
  obtain⟨y2,h4,hm⟩:=bnd hm
  simp -dsimp
  refine bi (jj k (⟨(cu .i64 (bm .i64 b.X b.W) 1),(cu .i64 (bm .i64 b.Y b.H) 1)⟩:Point) y2 h4) (dkL hn) ?_
  simp -dsimp
  refine fQ bL mixed (by rw[hn]; kernel_rfl) ?_
  simp -dsimp
  refine srs hn ?_
  simp -dsimp
  cases hm
  exact b0 ⟨.inr rfl,EE.here (by simp -dsimp)⟩
theorem mR (k:Int) (b:Box) (p r:Point) (hm:k5 k b p=some r):bg Tryz.prog 32 [vI k,.u (.agg [dI b.X,dI b.Y,dI b.W,dI b.H]),.u (.agg [dI p.X,dI p.Y])] (.u (.agg [dI r.X,dI r.Y])):=by
 refine dG Tryz.func32 Tryz.ntmps32 fun cx hn=>?_
 unfold k5 at hm
 refine srs hn ?_
 simp -dsimp
 refine aZ ?_
 obtain⟨a,j7,hm⟩:=bnd hm
 refine scE [(0,vI k),(4,vX 4),(5,vX 5),(6,vX 6),(20,vT a)] [(4,.box [dI b.X,dI b.Y,dI b.W,dI b.H]),(5,.box [dI p.X,dI p.Y]),(6,.box [dI 0,dI 0])] ?_ fun Z O hf=>?_
 ·replace hm:=j7
  clear j7
  refine sr1 hn ?_
  obtain⟨y,h1,hm⟩:=bnd hm
  simp -dsimp
  refine bi (ni b y h1) (dkL hn) ?_
  rcases bc hm with ⟨c2,hm⟩ | ⟨c2,hm⟩
  ·simp -dsimp [c2]
   cases hm
   exact EE.here (by simp -dsimp)
  ·obtain⟨y1,h3,hm⟩:=bnd hm
   simp -dsimp [c2]
   refine bi (ni (⟨p.X,p.Y,1,1⟩:Box) y1 h3) (dkL hn) ?_
   simp -dsimp
   cases hm
   exact EE.here (by simp -dsimp)
 ·clear j7
  simp only[Fits,bv,bu,and_true] at hf
  rcases bc hm with ⟨c4,hm⟩ | ⟨c4,hm⟩
  ·refine aW (by simp -dsimp [hf]) c4 ?_
   refine srs hn ?_
   simp -dsimp [hf]
   refine b0 (b8 ?_)
   cases hm
   refine⟨.inr rfl,?_⟩
   exact EE.here (by simp -dsimp [hf])
  ·refine aV (by simp -dsimp [hf]) c4 ?_
   refine aY (aU ?_)
   refine k9 bL mixed 6 7 8 7 [[0,1,2,3,4,5]] [[7]] [false] (some (8,.box [dI 0,dI 0])) (by rw[hn]; kernel_rfl) (fltT_some 45 _ (by kernel_rfl) rfl rfl rfl (by simp[C.wipe])) ?_
   dsimp only [List.take,List.drop,gL,gU,jx,pk,List.cons_append,List.nil_append,List.flatten_cons,List.flatten_nil,eJ,eK,List.append_nil]
   obtain⟨y,h5,hm⟩:=bnd hm
   simp -dsimp [hf]
   refine bn (c_symmetry_Turn k b y h5) ?_
   obtain⟨y1,h6,hm⟩:=bnd hm
   simp -dsimp [hf]
   refine bn (jj k p y1 h6) ?_
   simp -dsimp [hf]
   refine bn (c_symmetry_Turn k b y h5) ?_
   simp -dsimp [hf]
   refine bn (jj k p y1 h6) ?_
   simp -dsimp
   refine srs hn ?_
   simp -dsimp [hf]
   cases hm
   exact b0 ⟨.inr rfl,EE.here (by simp -dsimp [hf])⟩
theorem iH (f:Bc) (x y:Int) (r:Ba) (hm:dM f x y=some r):bg Tryz.prog 34 [.u (.agg [dI f.box.X,dI f.box.Y,dI f.box.W,dI f.box.H,dR3 f.values]),vI x,vI y] (.u (.agg [dI r.constant,.d (pnil 1 (List.map (rI .i64) r.vars))])):=by
 refine dG Tryz.func34 Tryz.ntmps34 fun cx hn=>?_
 unfold dM at hm
 refine srs hn ?_
 simp -dsimp
 refine fQ bL mixed (by rw[hn]; kernel_rfl) ?_
 simp -dsimp
 refine aZ ?_
 obtain⟨a,j6,hm⟩:=bnd hm
 refine scE [(1,vI (cu .i64 x f.box.X)),(2,vI (cu .i64 y f.box.Y)),(3,vX 3),(6,vX 6),(36,vT a)] [(3,.box [dI f.box.X,dI f.box.Y,dI f.box.W,dI f.box.H,dR3 f.values]),(6,.box [dI 0,.d .nil])] ?_ fun Z O hf=>?_
 ·replace hm:=j6
  clear j6
  refine sr1 hn ?_
  rcases bc hm with ⟨c1,hm⟩ | ⟨c1,hm⟩
  ·simp -dsimp [c1]
   cases hm
   exact EE.here (by simp -dsimp)
  ·rcases bc hm with ⟨c2,hm⟩ | ⟨c2,hm⟩
   ·simp -dsimp [c1,c2]
    cases hm
    exact EE.here (by simp -dsimp)
   ·rcases bc hm with ⟨c3,hm⟩ | ⟨c3,hm⟩
    ·simp -dsimp [c1,c2,c3]
     cases hm
     exact EE.here (by simp -dsimp)
    ·simp -dsimp [c1,c2,c3]
     cases hm
     exact EE.here (by simp -dsimp)
 ·clear j6
  simp only[Fits,bv,bu,and_true] at hf
  rcases bc hm with ⟨c4,hm⟩ | ⟨c4,hm⟩
  ·refine aW (by simp -dsimp [hf]) c4 ?_
   refine srs hn ?_
   simp -dsimp [hf]
   refine b0 (b8 ?_)
   cases hm
   refine⟨.inr rfl,?_⟩
   exact EE.here (by simp -dsimp [hf])
  ·refine aV (by simp -dsimp [hf]) c4 ?_
   refine aY (aU ?_)
   refine srs hn ?_
   obtain⟨x1,h5,hm⟩:=bnd hm
   simp -dsimp [hf,h5]
   cases hm
   exact b0 ⟨.inr rfl,EE.here (by simp -dsimp [hf])⟩
def eH (cx:Cx) (ab aa:Int) (ag:List Point) (ae:List Node) (ak:Int) (ai:List (List UInt8×Tree)) (_x _y:List Int) (tt:(List (List Int))) (ee:Exit) (Z:Env) (O:Sto):Prop:=match tt with
 | l=>ee=.exit 0/\EE cx (bY [] [(5002,.row 1 26 (List.map (rS 1 (rI .i64)) l)),(1000000,.box [dI ab,.own 5002,dI aa,dR2 ag,dR1 ae,dI ak,.map 1000002]),(1000002,mOb .str kS (uA Tree.row) ai)]) Z O
theorem mP (cx:Cx) (hn:cx.n=37) (_hk:cx.k=3) (ab aa:Int) (ag:List Point) (ae:List Node) (ak:Int) (ai:List (List UInt8×Tree)) (x y:List Int) {fu:Nat} {stt:Int×(List (List Int))} {tt:(List (List Int))} (hh:bh (fV ab aa ag ae ak ai x y) fu stt=some tt) {Z:Env} {O:Sto}
  (hE:cw (fun stt:Int×(List (List Int))=>match stt with | (a,_l)=>[(0,vX 1000000),(1,.u (.one (dL x))),(2,.u (.one (dL y))),(8,vI (b9 x)),(9,vI a)]) (fun stt:Int×(List (List Int))=>match stt with | (_a,l)=>[(5002,.row 1 26 (List.map (rS 1 (rI .i64)) l)),(1000000,.box [dI ab,.own 5002,dI aa,dR2 ag,dR1 ae,dI ak,.map 1000002]),(1000002,mOb .str kS (uA Tree.row) ai)]) stt Z O):Swp Tryz.prog cx (.loop (dx [1,0,0] (bQ Tryz.f33))) Z O (eH cx ab aa ag ae ak ai x y tt):=by
 refine cz hE hh (eH cx ab aa ag ae ak ai x y) ?_
 rintro⟨a,l⟩ r hm Z O hf
 simp only[Fits,bv,bu,and_true] at hf
 unfold fV at hm
 dsimp only at hm
 refine srs hn ?_
 simp -dsimp [hf]
 refine aZ ?_
 rcases bc hm with ⟨c1,hm⟩ | ⟨c1,hm⟩
 ·refine aW (by simp -dsimp) c1 ?_
  refine aY (aU (aZ (b7 ?_)))
  refine srs hn ?_
  simp -dsimp [hf,c1]
  refine sw_drNs bL mixed 11 (by rw[hn]; kernel_rfl) ?_
  dsimp only [List.take,List.drop]
  obtain⟨x1,h2,hm⟩:=bnd hm
  obtain⟨x2,h3,hm⟩:=bnd hm
  obtain⟨y1,h4,hm⟩:=bnd hm
  simp -dsimp [hf,h2,h3]
  refine clg (eF ab l aa ag ae ak ai [(cQ .i64 x1),x2] y1 h4) [1000000,5002,1000002] [5000] (by simp -dsimp [hf]) (dkL hn) ?_
  simp -dsimp
  refine oT bL mixed 11 (by rw[hn]; kernel_rfl) ?_
  dsimp only [List.take,List.drop]
  obtain⟨y2,h5,hm⟩:=bnd hm
  simp -dsimp [hf,h2,h3]
  refine clg (eF ab (l++[[(cQ .i64 x1),x2]]) aa ag ae ak ai [x1,(cQ .i64 x2)] y2 h5) [1000000,5000,1000002] [5001] (by simp -dsimp) (dkL hn) ?_
  simp -dsimp
  refine bI ?_
  refine aU ?_
  refine sr1 hn ?_
  simp -dsimp [hf]
  cases hm
  refine bC ?_
  refine emv 5001 5002 ?_
  exact EE.here (by simp -dsimp [hf])
 ·refine aV (by simp -dsimp) c1 ?_
  refine bp ?_
  refine b8 ?_
  cases hm
  refine bz nofun ?_
  exact⟨rfl,EE.here (by simp -dsimp [hf,c1])⟩
theorem jV (ab:Int) (ah:List (List Int)) (aa:Int) (ag:List Point) (ae:List Node) (ak:Int) (ai:List (List UInt8×Tree)) (x y:List Int) (r:List (List Int)) (hm:eY ab ah aa ag ae ak ai x y=some r):GFn Tryz.prog 33 [vX 1000000,.u (.one (dL x)),.u (.one (dL y))] [.box [dI ab,.own 1000001,dI aa,dR2 ag,dR1 ae,dI ak,.map 1000002],.row 1 26 (List.map (rS 1 (rI .i64)) ah),mOb .str kS (uA Tree.row) ai] (.tup []) [some (.box [dI ab,.own 1000003,dI aa,dR2 ag,dR1 ae,dI ak,.map 1000002]),none,some (mOb .str kS (uA Tree.row) ai),some (.row 1 26 (List.map (rS 1 (rI .i64)) r))]:=by
 refine dj bL _ Tryz.func33 rfl (by kernel_rfl) (by simp[Tryz.ntmps33]) (by simp) (by first | rfl | simp) (by first | rfl | simp) fun cx hn hk=>?_
 replace hn:cx.n=37:=hn.trans Tryz.ntmps33
 replace hk:cx.k=3:=hk
 unfold eY at hm
 refine srs hn ?_
 simp -dsimp
 refine b7 ?_
 obtain⟨l,g6,hm⟩:=bnd hm
 refine bP (mP cx hn hk ab aa ag ae ak ai x y g6) (by
   try dsimp only
   refine emv 1000001 5002 ?_
   exact eeh
 ) fun ee Z O xx=>?_
 unfold eH at xx
 dsimp only at xx
 obtain⟨rfl,xx⟩:=xx
 refine br ?_
 cases hm
 try refine⟨.inl rfl,?_⟩
 refine ee_bind (by rfl) (by rfl) xx fun Z O hf=>?_
 simp only[Fits,bv,bu,and_true,true_and] at hf
 refine emr 5002 1000003 hk ?_
 exact EE.here (by simp -dsimp [hf])
section
attribute [-simp] List.map_set List.set_set
def eS (cx:Cx) (_next:List Int) (aH:Int) (aO:List Point) (aL:List Node) (a a1:Int) (tt:(List Int)) (ee:Exit) (Z:Env) (O:Sto):Prop:=match tt with
 | aG=>ee=.exit 0/\EE cx (bY [(1,vO 1000000)] [(1000000,.row 1 3 (List.map (rI .i64) aG)),(1000001,.box [dI aH,dR2 aO,dR1 aL]),(1000002,.box [dI a]),(1000003,.box [dI a1])]) Z O
theorem nj (cx:Cx) (hn:cx.n=33) (_hk:cx.k=4) (next:List Int) (aH:Int) (aO:List Point) (aL:List Node) (a a1:Int) {fu:Nat} {stt:Int×(List Int)} {tt:(List Int)} (hh:bh (gp next aH aO aL a a1) fu stt=some tt) {Z:Env} {O:Sto}
  (hE:cw (fun stt:Int×(List Int)=>match stt with | (a2,_aG)=>[(1,vO 1000000),(4,vX 1000003),(17,vI (b9 next)),(18,vI a2)]) (fun stt:Int×(List Int)=>match stt with | (_a2,aG)=>[(1000000,.row 1 3 (List.map (rI .i64) aG)),(1000001,.box [dI aH,dR2 aO,dR1 aL]),(1000002,.box [dI a]),(1000003,.box [dI a1])]) stt Z O):Swp Tryz.prog cx (.loop (dx [1,0,1,0,1,0,0] (bQ Tryz.f80))) Z O (eS cx next aH aO aL a a1 tt):=by
 refine cz hE hh (eS cx next aH aO aL a a1) ?_
 rintro⟨a2,aG⟩ r hm Z O hf
 simp only[Fits,bv,bu,and_true] at hf
 unfold gp at hm
 dsimp only at hm
 refine srs hn ?_
 simp -dsimp [hf]
 refine aZ ?_
 rcases bc hm with ⟨c2,hm⟩ | ⟨c2,hm⟩
 ·refine aW (by simp -dsimp) c2 ?_
  refine aY (aU ?_)
  obtain⟨next2,j6,hm⟩:=bnd hm
  refine scE [(1,vO 1000000),(4,vX 1000003),(17,vI (b9 next)),(18,vI a2)] [(1000000,.row 1 3 (List.map (rI .i64) next2)),(1000001,.box [dI aH,dR2 aO,dR1 aL]),(1000002,.box [dI a]),(1000003,.box [dI a1])] ?_ fun Z O hf=>?_
  ·replace hm:=j6
   clear j6
   refine b7 ?_
   refine srs hn ?_
   simp -dsimp [hf,c2]
   refine srs hn ?_
   simp -dsimp [hf]
   rcases bc hm with ⟨c3,hm⟩ | ⟨c3,hm⟩
   ·refine aW (by simp -dsimp) c3 ?_
    refine sr1 hn ?_
    obtain⟨x,h4,hm⟩:=bnd hm
    obtain⟨x1,h5,hm⟩:=bnd hm
    simp -dsimp [hf,c3,h4,df h4,h5,df h5,rsetI .i64 aG a2.toNat x]
    refine bI ?_
    cases hm
    exact EE.here (by simp -dsimp [hf])
   ·refine aV (by simp -dsimp) c3 ?_
    refine aY ?_
    refine bI ?_
    cases hm
    exact EE.here (by simp -dsimp [hf,c3])
  ·clear j6
   simp only[Fits,bv,bu,and_true] at hf
   refine sr1 hn ?_
   simp -dsimp [hf]
   cases hm
   refine bC ?_
   exact EE.here (by simp -dsimp [hf])
 ·refine aV (by simp -dsimp) c2 ?_
  refine bp ?_
  refine b8 ?_
  cases hm
  refine bz nofun ?_
  exact⟨rfl,EE.here (by simp -dsimp [hf,c2])⟩
theorem oM (level:Int) (next:List Int) (aH:Int) (aO:List Point) (aL:List Node) (a a1:Int) (r:List Int) (hm:i8 level next aH aO aL a a1=some r):GFn Tryz.prog 80 [vI level,vO 1000000,vX 1000001,vX 1000002,vX 1000003] [.row 1 3 (List.map (rI .i64) next),.box [dI aH,dR2 aO,dR1 aL],.box [dI a],.box [dI a1]] (vO 1000000) [some (.row 1 3 (List.map (rI .i64) r)),some (.box [dI aH,dR2 aO,dR1 aL]),some (.box [dI a]),some (.box [dI a1])]:=by
 refine dj bL _ Tryz.func80 rfl (by kernel_rfl) (by simp[Tryz.ntmps80]) (by simp) (by first | rfl | simp) (by first | rfl | simp) fun cx hn hk=>?_
 replace hn:cx.n=33:=hn.trans Tryz.ntmps80
 replace hk:cx.k=4:=hk
 unfold i8 at hm
 refine srs hn ?_
 simp -dsimp
 obtain⟨aG,j8,hm⟩:=bnd hm
 refine scE [(1,vO 1000000)] [(1000000,.row 1 3 (List.map (rI .i64) aG)),(1000001,.box [dI aH,dR2 aO,dR1 aL]),(1000002,.box [dI a]),(1000003,.box [dI a1])] ?_ fun Z O hf=>?_
 ·replace hm:=j8
  clear j8
  refine srs hn ?_
  simp -dsimp
  rcases bc hm with ⟨c1,hm⟩ | ⟨c1,hm⟩
  ·refine sct c1 ?_
   refine srs hn ?_
   simp -dsimp [c1]
   refine b7 ?_
   obtain⟨aG,g7,hm⟩:=bnd hm
   refine bP (nj cx hn hk next aH aO aL a a1 g7) (by
     try dsimp only
     exact EE.here (by simp -dsimp)
   ) fun ee Z O xx=>?_
   unfold eS at xx
   dsimp only at xx
   obtain⟨rfl,xx⟩:=xx
   refine br ?_
   refine aU ?_
   cases hm
   refine ee_bind (by rfl) (by rfl) xx fun Z O hf=>?_
   simp only[Fits,bv,bu,and_true] at hf
   exact EE.here (by simp -dsimp [hf])
  ·refine scf c1 ?_
   refine aY (aU ?_)
   cases hm
   exact EE.here (by simp -dsimp [c1])
 ·clear j8
  simp only[Fits,bv,bu,and_true] at hf
  refine srs hn ?_
  simp -dsimp [hf]
  cases hm
  exact b0 ⟨.inr rfl,EE.here (by simp -dsimp [hf])⟩
end
def ef (cx:Cx) (ax:List Node) (al:List (List UInt8×Int)) (level:Int) (next:List Int) (tt:(List Int)) (ee:Exit) (Z:Env) (O:Sto):Prop:=match tt with
 | keyv=>ee=.exit 0/\EE cx (bY [(0,vX 1000000),(1,vI level),(2,vO 1000003),(7,vO 5002)] [(5002,.row 1 5 (List.map (rI .u8) keyv)),(1000000,.box [.own 1000001,.map 1000002]),(1000001,.row 2 50 (List.map Node.row ax)),(1000002,mOb .str kS (uL (L.int .i64)) al),(1000003,.row 1 3 (List.map (rI .i64) next))]) Z O
theorem lJ (cx:Cx) (hn:cx.n=68) (_hk:cx.k=4) (ax:List Node) (al:List (List UInt8×Int)) (level:Int) (next:List Int) {fu:Nat} {stt:Int×(List Int)} {tt:(List Int)} (hh:bh (fp ax al level next) fu stt=some tt) {Z:Env} {O:Sto}
  (hE:cw (fun stt:Int×(List Int)=>match stt with | (a,_keyv)=>[(0,vX 1000000),(1,vI level),(2,vO 1000003),(7,vO 5002),(14,vO 1000003),(15,vI (b9 next)),(16,vI a)]) (fun stt:Int×(List Int)=>match stt with | (_a,keyv)=>[(5002,.row 1 5 (List.map (rI .u8) keyv)),(1000000,.box [.own 1000001,.map 1000002]),(1000001,.row 2 50 (List.map Node.row ax)),(1000002,mOb .str kS (uL (L.int .i64)) al),(1000003,.row 1 3 (List.map (rI .i64) next))]) stt Z O):Swp Tryz.prog cx (.loop (dx [1,1,0,1,0,0] (bQ Tryz.f77))) Z O (ef cx ax al level next tt):=by
 refine cz hE hh (ef cx ax al level next) ?_
 rintro⟨a,keyv⟩ r hm Z O hf
 simp only[Fits,bv,bu,and_true] at hf
 unfold fp at hm
 dsimp only at hm
 refine srs hn ?_
 simp -dsimp [hf]
 refine aZ ?_
 rcases bc hm with ⟨c2,hm⟩ | ⟨c2,hm⟩
 ·refine aW (by simp -dsimp) c2 ?_
  refine aY (aU (aZ (b7 ?_)))
  refine srs hn ?_
  obtain⟨x,h3,hm⟩:=bnd hm
  simp -dsimp [hf,c2,h3,df h3]
  refine sr1 hn ?_
  obtain⟨l,h4,hm⟩:=bnd hm
  obtain⟨h4a,h4e⟩:=ct h4
  replace h4e:=h4e.symm
  subst h4e
  try simp only[List.length_cons,List.length_nil,Nat.zero_add] at h4a
  try simp only[Nat.mul_one,Nat.reduceLeDiff] at h4a
  obtain⟨y1,h5,hm⟩:=bnd hm
  simp -dsimp [hf,h4a]
  refine clg (kA (keyv++[32]) x 10 y1 h5) [22] [5001] (by simp -dsimp) (dkL hn) ?_
  simp -dsimp
  refine bI ?_
  refine aU ?_
  refine sr1 hn ?_
  simp -dsimp [hf]
  cases hm
  refine bC ?_
  refine emv 5001 5002 ?_
  exact EE.here (by simp -dsimp [hf])
 ·refine aV (by simp -dsimp) c2 ?_
  refine bp ?_
  refine b8 ?_
  cases hm
  refine bz nofun ?_
  exact⟨rfl,EE.here (by simp -dsimp [hf,c2])⟩
theorem mQ (ax:List Node) (al:List (List UInt8×Int)) (level:Int) (next:List Int) (r:Int×(List (List UInt8×Int))×(List Node)) (hm:fZ ax al level next=some r):GFn Tryz.prog 77 [vX 1000000,vI level,vO 1000003] [.box [.own 1000001,.map 1000002],.row 2 50 (List.map Node.row ax),mOb .str kS (uL (L.int .i64)) al,.row 1 3 (List.map (rI .i64) next)] (vI r.1) [some (.box [.own 1000004,.map 1000002]),none,some (mOb .str kS (uL (L.int .i64)) r.2.1),none,some (.row 2 50 (List.map Node.row r.2.2))]:=by
 refine dj bL _ Tryz.func77 rfl (by kernel_rfl) (by simp[Tryz.ntmps77]) (by simp) (by first | rfl | simp) (by first | rfl | simp) fun cx hn hk=>?_
 replace hn:cx.n=68:=hn.trans Tryz.ntmps77
 replace hk:cx.k=4:=hk
 unfold fZ at hm
 refine srs hn ?_
 simp -dsimp
 refine srs hn ?_
 obtain⟨y,h1,hm⟩:=bnd hm
 simp -dsimp
 refine clg (kB level 10 y h1) [] [5000] (by simp -dsimp) (dkL hn) ?_
 simp -dsimp
 refine aZ ?_
 refine srs hn ?_
 simp -dsimp
 refine b7 ?_
 obtain⟨keyv,g6,hm⟩:=bnd hm
 refine bP (lJ cx hn hk ax al level next g6) (by
   try dsimp only
   refine emv 5000 5002 ?_
   exact EE.here (by simp -dsimp)
 ) fun ee Z O xx=>?_
 unfold ef at xx
 dsimp only at xx
 obtain⟨rfl,xx⟩:=xx
 refine br ?_
 refine aU ?_
 refine see xx fun Z O hf=>?_
 simp only[Fits,bv,bu,and_true] at hf
 refine aZ ?_
 refine fQ bL mixed (by rw[hn]; kernel_rfl) ?_
 obtain⟨u,h7,hm⟩:=bnd hm
 simp -dsimp [hf,mm h7,(@id (lkM (nl (mOb .str kS (uL (L.int .i64)) al) (.str (ofBytes keyv))) true (.one (dI 0))=some (.tup [.one (dI (mgetD al (ofBytes keyv) 0)),.one (.d (.bool (kZ al (ofBytes keyv))))])) (lk_two (ofBytes keyv) 0))]
 refine srs hn ?_
 simp -dsimp
 rcases bc hm with ⟨c8,hm⟩ | ⟨c8,hm⟩
 ·refine aW (b:=(kZ al (ofBytes keyv))) (by simp -dsimp) c8 ?_
  refine srs hn ?_
  simp -dsimp [c8]
  refine b0 (b8 ?_)
  cases hm
  refine⟨.inr rfl,?_⟩
  refine emr 1000001 1000004 hk ?_
  exact EE.here (by simp -dsimp [hf])
 ·refine aV (b:=(kZ al (ofBytes keyv))) (by simp -dsimp) c8 ?_
  refine aY (aU ?_)
  refine Swp.pre (Wk.frz 1000003 1 3 (List.map (rI .i64) next) (by simp -dsimp [hf])) ?_
  refine srs hn ?_
  obtain⟨l,h9,hm⟩:=bnd hm
  obtain⟨h9a,h9e⟩:=ct h9
  replace h9e:=h9e.symm
  subst h9e
  try simp only[List.length_cons,List.length_nil,Nat.zero_add] at h9a
  simp -dsimp [hf,c8,h9a]
  refine sw_drNs bL mixed 12 (by rw[hn]; kernel_rfl) ?_
  dsimp only [List.take,List.drop]
  simp -dsimp [hf,mm h7,(@id (msetOb (mOb .str kS (uL (L.int .i64)) al) (.str (ofBytes keyv)) (.one (dI (cu .i64 ((b9 ax)+1) 1)))=mOb .str kS (uL (L.int .i64)) (msetL al (ofBytes keyv) (cu .i64 ((b9 ax)+1) 1))) (mset_ob .str kS (uL (L.int .i64)) al (ofBytes keyv) (cu .i64 ((b9 ax)+1) 1)))]
  refine srs hn ?_
  simp -dsimp [hf]
  refine b0 ?_
  cases hm
  refine⟨.inr rfl,?_⟩
  refine emr 47 1000004 hk ?_
  exact EE.here (by simp -dsimp)
end Go.Proofs.YtlifofijgddjkacGreatDoor
