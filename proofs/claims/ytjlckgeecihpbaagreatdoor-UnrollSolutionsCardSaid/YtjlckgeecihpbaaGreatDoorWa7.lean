/- That the code does what the functions say (made by cc.py). -/
import Derived.Test.YtjlckgeecihpbaaGreatDoorWa5
namespace Go.Proofs.YtjlckgeecihpbaaGreatDoor
open Go.AM Go.Proofs
set_option maxRecDepth 100000
attribute [-simp] ey eY i7 Ob.wipe Ob.ren Ob.frz1
def gD (cx:Cx) (aa:Int) (ag:List Point) (ae:List Node) (ak:Int) (f:Bj) (box:Box) (fixed:Bool) (y x:Int) (l2:List Bi) (l3:List (List Int)) (aw:Int) (mp1:List (List UInt8×Tree)) (tt:(List Bi)) (ee:Exit) (Z:Env) (O:Sto):Prop:=match tt with
 | in_=>ee=.exit 4/\EE cx (bH [(0,vX 1000000),(3,vT fixed),(5,vX 5),(6,vX 6),(8,vX 8),(10,vX 10),(11,vI y),(12,vI x),(13,vO 5000)] [(5,.box [dI f.box.X,dI f.box.Y,dI f.box.W,dI f.box.H,dR3 f.values]),(6,.box [dI box.X,dI box.Y,dI box.W,dI box.H]),(8,.box [dI 0,dI 0,dI 0,dI 0,.d .nil]),(10,.box [dI box.X,dI box.Y,dI box.W,dI box.H,.own 5002]),(5000,.row 2 72 (List.map Bi.row in_)),(5002,.row 2 72 (List.map Bi.row l2)),(5003,.row 1 26 (List.map (rS 1 (rI .i64)) l3)),(1000000,.box [dI aw,.own 5003,dI aa,dR2 ag,dR1 ae,dI ak,.map 1000002]),(1000002,mOb .str kS (uA Tree.row) mp1)]) Z O
set_option maxHeartbeats 1000000 in
theorem oe (cx:Cx) (hn:cx.n=86) (_hk:cx.k=3) (aa:Int) (ag:List Point) (ae:List Node) (ak:Int) (f:Bj) (box:Box) (fixed:Bool) (y x:Int) (l2:List Bi) (l3:List (List Int)) (aw:Int) (mp1:List (List UInt8×Tree)) {fu:Nat} {stt:Int×(List Bi)} {tt:(List Bi)} (hh:ba (cF aa ag ae ak f box fixed y x l2 l3 aw mp1) fu stt=some tt) {Z:Env} {O:Sto}
  (hE:jk (fun stt:Int×(List Bi)=>match stt with | (a,_in_)=>[(0,vX 1000000),(3,vT fixed),(5,vX 5),(6,vX 6),(8,vX 8),(10,vX 10),(11,vI y),(12,vI x),(13,vO 5000),(45,.u (.one (dR2 ag))),(46,vI (b8 ag)),(47,vI a)]) (fun stt:Int×(List Bi)=>match stt with | (_a,in_)=>[(5,.box [dI f.box.X,dI f.box.Y,dI f.box.W,dI f.box.H,dR3 f.values]),(6,.box [dI box.X,dI box.Y,dI box.W,dI box.H]),(8,.box [dI 0,dI 0,dI 0,dI 0,.d .nil]),(10,.box [dI box.X,dI box.Y,dI box.W,dI box.H,.own 5002]),(5000,.row 2 72 (List.map Bi.row in_)),(5002,.row 2 72 (List.map Bi.row l2)),(5003,.row 1 26 (List.map (rS 1 (rI .i64)) l3)),(1000000,.box [dI aw,.own 5003,dI aa,dR2 ag,dR1 ae,dI ak,.map 1000002]),(1000002,mOb .str kS (uA Tree.row) mp1)]) stt Z O):Swp Tryz.prog cx (.loop (cC [1,1,0,1,0,0,1,0,0,1,0,0,1,0,0,1,0,1,0,0] (bD Tryz.f22))) Z O (gD cx aa ag ae ak f box fixed y x l2 l3 aw mp1 tt):=by
 refine bN hE hh (gD cx aa ag ae ak f box fixed y x l2 l3 aw mp1) ?_
 rintro⟨a,in_⟩ r hm Z O hf
 simp only[Fits,bB,bA,and_true] at hf
 unfold cF at hm
 dsimp only at hm
 refine srs hn ?_
 simp -dsimp [hf]
 refine aZ ?_
 rcases bz hm with ⟨c3,hm⟩ | ⟨c3,hm⟩
 ·refine b9 (by simp -dsimp) c3 ?_
  refine b0 (aY (aZ (b7 ?_)))
  refine srs hn ?_
  obtain⟨x1,h4,hm⟩:=bnd hm
  simp -dsimp [hf,c3,h4]
  refine sr1 hn ?_
  obtain⟨y1,h5,hm⟩:=bnd hm
  simp -dsimp [hf]
  refine bi (CtP.pf h5) (dkL hn) ?_
  obtain⟨l4,h6,hm⟩:=bnd hm
  obtain⟨h6a,h6e⟩:=bQ h6
  replace h6e:=h6e.symm
  subst h6e
  try simp only[List.length_cons,List.length_nil,Nat.zero_add] at h6a
  simp -dsimp [hf,h6a]
  refine cr ?_
  refine aY ?_
  refine sr1 hn ?_
  simp -dsimp [hf]
  cases hm
  refine d8 ?_
  refine emv 63 5000 ?_
  exact zz
 ·exact zz
def gG (cx:Cx) (aa:Int) (ag:List Point) (ae:List Node) (ak:Int) (f:Bj) (box:Box) (fixed:Bool) (y:Int) (tt:(Int×Int×Int×Int×(List Bi)×Bool×Int×(List (List UInt8×Tree))×(List (List Int))) ⊕ ((List Bi)×(List (List Int))×Int×(List (List UInt8×Tree)))) (ee:Exit) (Z:Env) (O:Sto):Prop:=match tt with
 | .inl r=>ee=.ret/\EE cx (fun Z O=>∃ v,fC tb Z O Tryz.f22.results.toList=some v/\(v.frzL O).wk (.tup [.agg [dI r.1,dI r.2.1,dI r.2.2.1,dI r.2.2.2.1,dR3 r.2.2.2.2.1],.one (.d (.bool r.2.2.2.2.2.1))])/\goutL inBase [some (.box [dI r.2.2.2.2.2.2.1,.own 1000003,dI aa,dR2 ag,dR1 ae,dI ak,.map 1000002]),none,some (mOb .str kS (uA Tree.row) r.2.2.2.2.2.2.2.1),some (.row 1 26 (List.map (rS 1 (rI .i64)) r.2.2.2.2.2.2.2.2))] O) Z O
 | .inr (l2,l3,aw,mp1)=>ee=.exit 2/\EE cx (bH [(0,vX 1000000),(3,vT fixed),(5,vX 5),(6,vX 6),(8,vX 8),(10,vX 10),(11,vI y)] [(5,.box [dI f.box.X,dI f.box.Y,dI f.box.W,dI f.box.H,dR3 f.values]),(6,.box [dI box.X,dI box.Y,dI box.W,dI box.H]),(8,.box [dI 0,dI 0,dI 0,dI 0,.d .nil]),(10,.box [dI box.X,dI box.Y,dI box.W,dI box.H,.own 5002]),(5002,.row 2 72 (List.map Bi.row l2)),(5003,.row 1 26 (List.map (rS 1 (rI .i64)) l3)),(1000000,.box [dI aw,.own 5003,dI aa,dR2 ag,dR1 ae,dI ak,.map 1000002]),(1000002,mOb .str kS (uA Tree.row) mp1)]) Z O
set_option maxHeartbeats 1000000 in
theorem o7 (cx:Cx) (hn:cx.n=86) (hk:cx.k=3) (aa:Int) (ag:List Point) (ae:List Node) (ak:Int) (f:Bj) (box:Box) (fixed:Bool) (y:Int) {fu:Nat} {stt:Int×(List Bi)×(List (List Int))×Int×(List (List UInt8×Tree))} {tt:(Int×Int×Int×Int×(List Bi)×Bool×Int×(List (List UInt8×Tree))×(List (List Int))) ⊕ ((List Bi)×(List (List Int))×Int×(List (List UInt8×Tree)))} (hh:ba (cq aa ag ae ak f box fixed y) fu stt=some tt) {Z:Env} {O:Sto}
  (hE:jk (fun stt:Int×(List Bi)×(List (List Int))×Int×(List (List UInt8×Tree))=>match stt with | (x,_l2,_l3,_aw,_mp1)=>[(0,vX 1000000),(3,vT fixed),(5,vX 5),(6,vX 6),(8,vX 8),(10,vX 10),(11,vI y),(12,vI x)]) (fun stt:Int×(List Bi)×(List (List Int))×Int×(List (List UInt8×Tree))=>match stt with | (_x,l2,l3,aw,mp1)=>[(5,.box [dI f.box.X,dI f.box.Y,dI f.box.W,dI f.box.H,dR3 f.values]),(6,.box [dI box.X,dI box.Y,dI box.W,dI box.H]),(8,.box [dI 0,dI 0,dI 0,dI 0,.d .nil]),(10,.box [dI box.X,dI box.Y,dI box.W,dI box.H,.own 5002]),(5002,.row 2 72 (List.map Bi.row l2)),(5003,.row 1 26 (List.map (rS 1 (rI .i64)) l3)),(1000000,.box [dI aw,.own 5003,dI aa,dR2 ag,dR1 ae,dI ak,.map 1000002]),(1000002,mOb .str kS (uA Tree.row) mp1)]) stt Z O):Swp Tryz.prog cx (.loop (cC [1,1,0,1,0,0,1,0,0,1,0,0] (bD Tryz.f22))) Z O (gG cx aa ag ae ak f box fixed y tt):=by
 refine bN hE hh (gG cx aa ag ae ak f box fixed y) ?_
 rintro⟨x,l2,l3,aw,mp1⟩ r hm Z O hf
 simp only[Fits,bB,bA,and_true] at hf
 unfold cq at hm
 dsimp only at hm
 refine aZ ?_
 refine srs hn ?_
 simp -dsimp [hf]
 rcases bz hm with ⟨c2,hm⟩ | ⟨c2,hm⟩
 ·refine b9 (by simp -dsimp) c2 ?_
  refine b0 (aY (aZ (b7 ?_)))
  refine srs hn ?_
  simp -dsimp [c2]
  refine aZ ?_
  refine srs hn ?_
  simp -dsimp [hf]
  refine b7 ?_
  obtain⟨in_,g7,hm⟩:=bnd hm
  refine bG (oe cx hn hk aa ag ae ak f box fixed y x l2 l3 aw mp1 g7) (by
    try dsimp only
    refine EE.step (Wk.own0 13 5000 2 72 (by simp -dsimp) (by decide)) ?_
    exact zz
  ) fun ee Z O xx=>?_
  unfold gD at xx
  dsimp only at xx
  obtain⟨rfl,xx⟩:=xx
  refine bK ?_
  refine aY ?_
  refine see xx fun Z O hf=>?_
  simp only[Fits,bB,bA,and_true] at hf
  refine srs hn ?_
  simp -dsimp [hf]
  obtain⟨⟨aA,aJ,aD,mp2⟩,j14,hm⟩:=bnd hm
  refine scE [(0,vX 1000000),(3,vT fixed),(5,vX 5),(6,vX 6),(8,vX 8),(10,vX 10),(11,vI y),(12,vI x),(13,vO 5000),(16,vX 16)] [(5,.box [dI f.box.X,dI f.box.Y,dI f.box.W,dI f.box.H,dR3 f.values]),(6,.box [dI box.X,dI box.Y,dI box.W,dI box.H]),(8,.box [dI 0,dI 0,dI 0,dI 0,.d .nil]),(10,.box [dI box.X,dI box.Y,dI box.W,dI box.H,.own 5002]),(16,.box [dI aA,dR2 aJ,dR1 aD]),(5000,.row 2 72 (List.map Bi.row in_)),(5002,.row 2 72 (List.map Bi.row l2)),(5003,.row 1 26 (List.map (rS 1 (rI .i64)) l3)),(1000000,.box [dI aw,.own 5003,dI aa,dR2 ag,dR1 ae,dI ak,.map 1000002]),(1000002,mOb .str kS (uA Tree.row) mp2)] ?_ fun Z O hf=>?_
  ·replace hm:=j14
   clear j14
   refine srs hn ?_
   simp -dsimp [hf]
   rcases bz hm with ⟨c8,hm⟩ | ⟨c8,hm⟩
   ·refine b9 (by simp -dsimp) c8 ?_
    refine sr1 hn ?_
    obtain⟨y1,h9,hm⟩:=bnd hm
    simp -dsimp [hf,c8]
    refine clg (nS aw l3 aa ag ae ak mp1 in_ y1 h9) [1000000,5003,1000002,5000] [] (by simp -dsimp [hf]) (dkL hn) ?_
    simp -dsimp [c8]
    exact zz
   ·exact zz
  ·clear j14
   simp only[Fits,bB,bA,and_true] at hf
   refine ja bO mixed 5 6 7 0 [[0,1]] [[5001]] [true] none (by rw[hn]; kernel_rfl) ep ?_
   dsimp only [List.take,List.drop,gz,gP,jl,pk,List.cons_append,List.nil_append,List.flatten_cons,List.flatten_nil,dY,dW,List.append_nil]
   obtain⟨y1,h10,hm⟩:=bnd hm
   simp -dsimp [hf]
   refine mN (ol aw l3 aa ag ae ak mp2 (⟨aA,aJ,aD⟩:Tree) in_ y1 h10) [1000000,5003,1000002,5000] [5001] rfl rfl rfl (by simp -dsimp) rfl (by simp -dsimp [hf]) (by first | rfl | simp) rfl (dkL hn) rfl rfl (by simp) nofun (by simp) ?_
   obtain⟨l4,h11,hm⟩:=bnd hm
   obtain⟨h11a,h11e⟩:=bQ h11
   replace h11e:=h11e.symm
   subst h11e
   try simp only[List.length_cons,List.length_nil,Nat.zero_add] at h11a
   simp -dsimp [hf,h11a]
   refine srs hn ?_
   obtain⟨y2,h12,hm⟩:=bnd hm
   simp -dsimp [hf]
   refine clg (gY y1.2.2.2 y1.2.2.1 aa ag ae ak mp2 y2 h12) [1000000,5001,1000002] [] (by simp -dsimp) (dkL hn) ?_
   simp -dsimp
   rcases bz hm with ⟨c13,hm⟩ | ⟨c13,hm⟩
   ·refine b9 (by simp -dsimp) c13 ?_
    refine srs hn ?_
    simp -dsimp [hf,c13]
    refine bC (blk_r (fI ?_))
    cases hm
    refine rd_out nofun ?_
    unfold gG
    dsimp only
    refine⟨rfl,?_⟩
    refine emr 5001 1000003 hk ?_
    exact zz
   ·refine bf (by simp -dsimp) c13 ?_
    refine b0 ?_
    refine cr ?_
    refine aY ?_
    refine sr1 hn ?_
    simp -dsimp [hf,c13]
    cases hm
    refine d8 ?_
    refine emv 80 5002 ?_
    refine emv 5001 5003 ?_
    exact zz
 ·exact zz
def eN (cx:Cx) (aa:Int) (ag:List Point) (ae:List Node) (ak:Int) (_f:Bj) (box:Box) (_fixed:Bool) (tt:(Int×Int×Int×Int×(List Bi)×Bool×Int×(List (List UInt8×Tree))×(List (List Int))) ⊕ ((List Bi)×(List (List Int))×Int×(List (List UInt8×Tree)))) (ee:Exit) (Z:Env) (O:Sto):Prop:=match tt with
 | .inl r=>ee=.ret/\EE cx (fun Z O=>∃ v,fC tb Z O Tryz.f22.results.toList=some v/\(v.frzL O).wk (.tup [.agg [dI r.1,dI r.2.1,dI r.2.2.1,dI r.2.2.2.1,dR3 r.2.2.2.2.1],.one (.d (.bool r.2.2.2.2.2.1))])/\goutL inBase [some (.box [dI r.2.2.2.2.2.2.1,.own 1000003,dI aa,dR2 ag,dR1 ae,dI ak,.map 1000002]),none,some (mOb .str kS (uA Tree.row) r.2.2.2.2.2.2.2.1),some (.row 1 26 (List.map (rS 1 (rI .i64)) r.2.2.2.2.2.2.2.2))] O) Z O
 | .inr (l,l1,aj,mp)=>ee=.exit 0/\EE cx (bH [(8,vX 8),(10,vX 10)] [(8,.box [dI 0,dI 0,dI 0,dI 0,.d .nil]),(10,.box [dI box.X,dI box.Y,dI box.W,dI box.H,.own 5002]),(5002,.row 2 72 (List.map Bi.row l)),(5003,.row 1 26 (List.map (rS 1 (rI .i64)) l1)),(1000000,.box [dI aj,.own 5003,dI aa,dR2 ag,dR1 ae,dI ak,.map 1000002]),(1000002,mOb .str kS (uA Tree.row) mp)]) Z O
set_option maxHeartbeats 1000000 in
theorem oa (cx:Cx) (hn:cx.n=86) (hk:cx.k=3) (aa:Int) (ag:List Point) (ae:List Node) (ak:Int) (f:Bj) (box:Box) (fixed:Bool) {fu:Nat} {stt:Int×(List Bi)×(List (List Int))×Int×(List (List UInt8×Tree))} {tt:(Int×Int×Int×Int×(List Bi)×Bool×Int×(List (List UInt8×Tree))×(List (List Int))) ⊕ ((List Bi)×(List (List Int))×Int×(List (List UInt8×Tree)))} (hh:ba (cY aa ag ae ak f box fixed) fu stt=some tt) {Z:Env} {O:Sto}
  (hE:jk (fun stt:Int×(List Bi)×(List (List Int))×Int×(List (List UInt8×Tree))=>match stt with | (y,_l,_l1,_aj,_mp)=>[(0,vX 1000000),(3,vT fixed),(5,vX 5),(6,vX 6),(8,vX 8),(10,vX 10),(11,vI y)]) (fun stt:Int×(List Bi)×(List (List Int))×Int×(List (List UInt8×Tree))=>match stt with | (_y,l,l1,aj,mp)=>[(5,.box [dI f.box.X,dI f.box.Y,dI f.box.W,dI f.box.H,dR3 f.values]),(6,.box [dI box.X,dI box.Y,dI box.W,dI box.H]),(8,.box [dI 0,dI 0,dI 0,dI 0,.d .nil]),(10,.box [dI box.X,dI box.Y,dI box.W,dI box.H,.own 5002]),(5002,.row 2 72 (List.map Bi.row l)),(5003,.row 1 26 (List.map (rS 1 (rI .i64)) l1)),(1000000,.box [dI aj,.own 5003,dI aa,dR2 ag,dR1 ae,dI ak,.map 1000002]),(1000002,mOb .str kS (uA Tree.row) mp)]) stt Z O):Swp Tryz.prog cx (.loop (cC [1,1,0,1,0,0] (bD Tryz.f22))) Z O (eN cx aa ag ae ak f box fixed tt):=by
 refine bN hE hh (eN cx aa ag ae ak f box fixed) ?_
 rintro⟨y,l,l1,aj,mp⟩ r hm Z O hf
 simp only[Fits,bB,bA,and_true] at hf
 unfold cY at hm
 dsimp only at hm
 refine aZ ?_
 refine srs hn ?_
 simp -dsimp [hf]
 rcases bz hm with ⟨c1,hm⟩ | ⟨c1,hm⟩
 ·refine b9 (by simp -dsimp) c1 ?_
  refine b0 (aY (aZ (b7 ?_)))
  refine srs hn ?_
  simp -dsimp [hf,c1]
  refine b7 ?_
  obtain⟨o_,g15,hm⟩:=bnd hm
  refine bG (o7 cx hn hk aa ag ae ak f box fixed y g15) (by
    try dsimp only
    exact EE.here (by simp -dsimp [hf])
  ) fun ee Z O xx=>?_
  rcases o_ with r | ⟨l2,l3,aw,mp1⟩
  ·exact zz
  ·exact zz
 ·exact zz
set_option maxHeartbeats 1000000 in
theorem kO (ab:Int) (ah:List (List Int)) (aa:Int) (ag:List Point) (ae:List Node) (ak:Int) (ai:List (List UInt8×Tree)) (f:Bj) (box:Box) (fixed:Bool) (r:Int×Int×Int×Int×(List Bi)×Bool×Int×(List (List UInt8×Tree))×(List (List Int))) (hm:dv ab ah aa ag ae ak ai f box fixed=some r):GFn Tryz.prog 22 [vX 1000000,.u (.agg [dI f.box.X,dI f.box.Y,dI f.box.W,dI f.box.H,dR3 f.values]),.u (.agg [dI box.X,dI box.Y,dI box.W,dI box.H]),vT fixed] [.box [dI ab,.own 1000001,dI aa,dR2 ag,dR1 ae,dI ak,.map 1000002],.row 1 26 (List.map (rS 1 (rI .i64)) ah),mOb .str kS (uA Tree.row) ai] (.tup [.agg [dI r.1,dI r.2.1,dI r.2.2.1,dI r.2.2.2.1,dR3 r.2.2.2.2.1],.one (.d (.bool r.2.2.2.2.2.1))]) [some (.box [dI r.2.2.2.2.2.2.1,.own 1000003,dI aa,dR2 ag,dR1 ae,dI ak,.map 1000002]),none,some (mOb .str kS (uA Tree.row) r.2.2.2.2.2.2.2.1),some (.row 1 26 (List.map (rS 1 (rI .i64)) r.2.2.2.2.2.2.2.2))]:=by
 refine dm bO _ Tryz.func22 rfl (by kernel_rfl) (by simp[Tryz.ntmps22]) (by simp) (by first | rfl | simp) (by first | rfl | simp) fun cx hn hk=>?_
 replace hn:cx.n=86:=hn.trans Tryz.ntmps22
 replace hk:cx.k=3:=hk
 unfold dv at hm
 refine srs hn ?_
 simp -dsimp
 refine srs hn ?_
 simp -dsimp
 refine aZ ?_
 refine srs hn ?_
 simp -dsimp
 refine b7 ?_
 obtain⟨o_,g16,hm⟩:=bnd hm
 refine bG (oa cx hn hk aa ag ae ak f box fixed g16) (by
   try dsimp only
   refine emv 1000001 5003 ?_
   refine EE.step (Wk.own0b 10 4 5002 2 72 [dI box.X,dI box.Y,dI box.W,dI box.H,.d .nil] (by simp -dsimp) (by rfl) (by decide) (by decide)) ?_
   exact zz
 ) fun ee Z O xx=>?_
 rcases o_ with r | ⟨l,l1,aj,mp⟩
 ·unfold eN at xx
  dsimp only at xx
  obtain⟨rfl,xx⟩:=xx
  refine blk_r (fI ?_)
  cases hm
  refine⟨.inr rfl,?_⟩
  first | exact xx | exact xx.mono fun Z O h=>by simpa -dsimp using h
 ·unfold eN at xx
  dsimp only at xx
  obtain⟨rfl,xx⟩:=xx
  refine bK ?_
  refine aY ?_
  refine see xx fun Z O hf=>?_
  simp only[Fits,bB,bA,and_true] at hf
  refine Swp.pre (Wk.frz 5002 2 72 (List.map Bi.row l) (by simp -dsimp [hf])) ?_
  refine srs hn ?_
  simp -dsimp [hf]
  refine bC ?_
  cases hm
  refine⟨.inr rfl,?_⟩
  refine emr 5003 1000003 hk ?_
  exact zz
instance c_unroll_field_in (f x y r):CtP (ff f x y=some r) (bc Tryz.prog 23 [.u (.agg [dI f.box.X,dI f.box.Y,dI f.box.W,dI f.box.H,dR3 f.values]),vI x,vI y] (vT r)):=⟨fun hm=>by
 refine cu Tryz.func23 Tryz.ntmps23 fun cx hn=>?_
 unfold ff at hm
 refine srs hn ?_
 simp -dsimp
 obtain⟨a,j4,hm⟩:=bnd hm
 refine scE [(6,vT a)] [] ?_ fun Z O hf=>?_
 ·replace hm:=j4
  clear j4
  exact zz
 ·clear j4
  exact zz⟩
def hO (cx:Cx) (ab aa:Int) (ag:List Point) (ae:List Node) (ak:Int) (ai:List (List UInt8×Tree)) (_vars:List Int) (_cv:Int) (tt:(List (List Int))) (ee:Exit) (Z:Env) (O:Sto):Prop:=match tt with
 | l=>ee=.exit 0/\EE cx (bH [] [(5001,.row 1 26 (List.map (rS 1 (rI .i64)) l)),(1000000,.box [dI ab,.own 5001,dI aa,dR2 ag,dR1 ae,dI ak,.map 1000002]),(1000002,mOb .str kS (uA Tree.row) ai)]) Z O
theorem oX (cx:Cx) (hn:cx.n=27) (_hk:cx.k=3) (ab aa:Int) (ag:List Point) (ae:List Node) (ak:Int) (ai:List (List UInt8×Tree)) (vars:List Int) (cv:Int) {fu:Nat} {stt:Int×(List (List Int))} {tt:(List (List Int))} (hh:ba (dV ab aa ag ae ak ai vars cv) fu stt=some tt) {Z:Env} {O:Sto}
  (hE:jk (fun stt:Int×(List (List Int))=>match stt with | (a,_l)=>[(0,vX 1000000),(2,vI cv),(8,.u (.one (dL vars))),(9,vI (b8 vars)),(10,vI a)]) (fun stt:Int×(List (List Int))=>match stt with | (_a,l)=>[(5001,.row 1 26 (List.map (rS 1 (rI .i64)) l)),(1000000,.box [dI ab,.own 5001,dI aa,dR2 ag,dR1 ae,dI ak,.map 1000002]),(1000002,mOb .str kS (uA Tree.row) ai)]) stt Z O):Swp Tryz.prog cx (.loop (cC [1,0,0] (bD Tryz.f24))) Z O (hO cx ab aa ag ae ak ai vars cv tt):=by
 refine bN hE hh (hO cx ab aa ag ae ak ai vars cv) ?_
 rintro⟨a,l⟩ r hm Z O hf
 simp only[Fits,bB,bA,and_true] at hf
 unfold dV at hm
 dsimp only at hm
 refine srs hn ?_
 simp -dsimp [hf]
 refine aZ ?_
 rcases bz hm with ⟨c1,hm⟩ | ⟨c1,hm⟩
 ·refine b9 (by simp -dsimp) c1 ?_
  refine b0 (aY (aZ (b7 ?_)))
  refine srs hn ?_
  obtain⟨x,h2,hm⟩:=bnd hm
  simp -dsimp [hf,c1,h2]
  obtain⟨v,j6,hm⟩:=bnd hm
  refine scE [(0,vX 1000000),(2,vI cv),(7,vI v),(8,.u (.one (dL vars))),(9,vI (b8 vars)),(10,vI a)] [(5001,.row 1 26 (List.map (rS 1 (rI .i64)) l)),(1000000,.box [dI ab,.own 5001,dI aa,dR2 ag,dR1 ae,dI ak,.map 1000002]),(1000002,mOb .str kS (uA Tree.row) ai)] ?_ fun Z O hf=>?_
  ·replace hm:=j6
   clear j6
   exact zz
  ·clear j6
   simp only[Fits,bB,bA,and_true] at hf
   refine sr1 hn ?_
   obtain⟨y,h5,hm⟩:=bnd hm
   simp -dsimp [hf]
   refine clg (eL ab l aa ag ae ak ai [v] y h5) [1000000,5001,1000002] [5000] (by simp -dsimp [hf]) (dkL hn) ?_
   simp -dsimp
   refine cr ?_
   refine aY ?_
   refine sr1 hn ?_
   simp -dsimp [hf]
   cases hm
   refine d8 ?_
   refine emv 5000 5001 ?_
   exact zz
 ·exact zz
theorem fG (ab:Int) (ah:List (List Int)) (aa:Int) (ag:List Point) (ae:List Node) (ak:Int) (ai:List (List UInt8×Tree)) (vars:List Int) (cv:Int) (r:List (List Int)) (hm:cH ab ah aa ag ae ak ai vars cv=some r):GFn Tryz.prog 24 [vX 1000000,.u (.one (dL vars)),vI cv] [.box [dI ab,.own 1000001,dI aa,dR2 ag,dR1 ae,dI ak,.map 1000002],.row 1 26 (List.map (rS 1 (rI .i64)) ah),mOb .str kS (uA Tree.row) ai] (.tup []) [some (.box [dI ab,.own 1000003,dI aa,dR2 ag,dR1 ae,dI ak,.map 1000002]),none,some (mOb .str kS (uA Tree.row) ai),some (.row 1 26 (List.map (rS 1 (rI .i64)) r))]:=by
 refine dm bO _ Tryz.func24 rfl (by kernel_rfl) (by simp[Tryz.ntmps24]) (by simp) (by first | rfl | simp) (by first | rfl | simp) fun cx hn hk=>?_
 replace hn:cx.n=27:=hn.trans Tryz.ntmps24
 replace hk:cx.k=3:=hk
 unfold cH at hm
 refine srs hn ?_
 simp -dsimp
 refine b7 ?_
 obtain⟨l,g7,hm⟩:=bnd hm
 refine bG (oX cx hn hk ab aa ag ae ak ai vars cv g7) (by
   try dsimp only
   refine emv 1000001 5001 ?_
   exact zz
 ) fun ee Z O xx=>?_
 unfold hO at xx
 dsimp only at xx
 obtain⟨rfl,xx⟩:=xx
 refine bK ?_
 cases hm
 try refine⟨.inl rfl,?_⟩
 refine ee_bind (by rfl) (by rfl) xx fun Z O hf=>?_
 simp only[Fits,bB,bA,and_true,true_and] at hf
 refine emr 5001 1000003 hk ?_
 exact zz
end Go.Proofs.YtjlckgeecihpbaaGreatDoor
namespace Go.Proofs.YtjlckgeecihpbaaGreatDoor
open Go.AM Go.Proofs
set_option maxRecDepth 100000
attribute [-simp] ey eY i7 Ob.wipe Ob.ren Ob.frz1
def nA (cx:Cx) (x:Bg) (y1:Int×(List Point)×(List Node)×Int) (y2:Int) (y3:(List Bi)×(List (List Int))×Int) (a _x1:Int) (tt:(List (List Int))) (ee:Exit) (Z:Env) (O:Sto):Prop:=match tt with
 | l1=>ee=.exit 2/\EE cx (bH [(3,vX 3),(4,vX 4),(5,vI y3.2.2),(8,vX 5001),(9,vI y2),(10,vX 10),(53,.u (.one (dL x.Syms))),(54,vI (b8 x.Syms)),(55,vI a)] [(3,.box [dI x.W,dI x.H,dI x.Gens,dI x.DX,dI x.DY,dL x.Syms]),(4,.box [dI 0,.d .nil]),(10,.box [dI ((⟨0,0,x.W,x.H⟩:Box).X),dI ((⟨0,0,x.W,x.H⟩:Box).Y),dI ((⟨0,0,x.W,x.H⟩:Box).W),dI ((⟨0,0,x.W,x.H⟩:Box).H),dR3 y3.1]),(5000,mOb .str kS (uA Tree.row) []),(5001,.box [dI y3.2.2,.own 5002,dI y1.1,dR2 y1.2.1,dR1 y1.2.2.1,dI y1.2.2.2,.map 5000]),(5002,.row 1 26 (List.map (rS 1 (rI .i64)) l1))]) Z O
set_option maxHeartbeats 1000000 in
instance l_unroll_Formula_2 (x y1 y2 y3 a x1) {fu stt tt}:LtP (ba (eS x y1 y2 y3 a x1) fu stt=some tt) (lp 242 stt (fun | (a1,_l1)=>[(3,vX 3),(4,vX 4),(5,vI y3.2.2),(8,vX 5001),(9,vI y2),(10,vX 10),(12,vI x1),(53,.u (.one (dL x.Syms))),(54,vI (b8 x.Syms)),(55,vI a),(60,.u (.one (dR3 y3.1))),(61,vI (b8 y3.1)),(62,vI a1)]) (fun | (_a1,l1)=>[(3,.box [dI x.W,dI x.H,dI x.Gens,dI x.DX,dI x.DY,dL x.Syms]),(4,.box [dI 0,.d .nil]),(10,.box [dI ((⟨0,0,x.W,x.H⟩:Box).X),dI ((⟨0,0,x.W,x.H⟩:Box).Y),dI ((⟨0,0,x.W,x.H⟩:Box).W),dI ((⟨0,0,x.W,x.H⟩:Box).H),dR3 y3.1]),(5000,mOb .str kS (uA Tree.row) []),(5001,.box [dI y3.2.2,.own 5002,dI y1.1,dR2 y1.2.1,dR1 y1.2.2.1,dI y1.2.2.2,.map 5000]),(5002,.row 1 26 (List.map (rS 1 (rI .i64)) l1))]) (cC [1,1,1,1,1,0,1,0,0,1,1,0,0,1,1,0,0] (bD Tryz.f6)) fun cx=>nA cx x y1 y2 y3 a x1 tt):=⟨fun hh cx hn Z O hE=>by
 refine bN hE hh (nA cx x y1 y2 y3 a x1) ?_
 rintro⟨a1,l1⟩ r hm Z O hf
 simp only[Fits,bB,bA,and_true] at hf
 unfold eS at hm
 dsimp only at hm
 refine srs hn ?_
 simp -dsimp [hf]
 refine aZ ?_
 rcases bz hm with ⟨c8,hm⟩ | ⟨c8,hm⟩
 ·refine b9 (by simp -dsimp) c8 ?_
  refine b0 (aY (aZ (b7 ?_)))
  refine srs hn ?_
  obtain⟨x2,h9,hm⟩:=bnd hm
  simp -dsimp [hf,c8,h9]
  refine ja bO mixed 13 14 14 0 [[0,1,2,3,4,5,6,7,8,9,10,11,12]] [[15]] [] none (by rw[hn]; kernel_rfl) ep ?_
  dsimp only [List.take,List.drop,gz,gP,jl,pk,List.cons_append,List.nil_append,List.flatten_cons,List.flatten_nil,dY,dW,List.append_nil]
  obtain⟨n,h10,hm⟩:=bnd hm
  obtain⟨n1,h11,hm⟩:=bnd hm
  obtain⟨y4,h12,hm⟩:=bnd hm
  simp -dsimp [hf,h10,h11]
  refine br (CtP.pf h12) ?_
  simp -dsimp [hf,h10,h11]
  refine br (CtP.pf h12) ?_
  simp -dsimp
  refine nR bO mixed 10 (by rw[hn]; kernel_rfl) ?_
  dsimp only [List.take,List.drop]
  obtain⟨y5,h13,hm⟩:=bnd hm
  simp -dsimp [hf]
  refine br (CtP.pf h13) ?_
  obtain⟨u,h14,hm⟩:=bnd hm
  obtain⟨u1,h15,hm⟩:=bnd hm
  obtain⟨y6,h16,hm⟩:=bnd hm
  simp -dsimp [gu h14 1 (rI .i64),gu h15 1 (rI .i64)]
  refine clg (kL y3.2.2 l1 y1.1 y1.2.1 y1.2.2.1 y1.2.2.2 [] x2.vars y5.vars y6 h16) [5001,5002,5000] [5004] (by simp -dsimp [hf]) (dkL hn) ?_
  simp -dsimp
  refine cr ?_
  refine aY ?_
  refine sr1 hn ?_
  simp -dsimp [hf]
  cases hm
  refine d8 ?_
  refine emv 5004 5002 ?_
  exact zz
 ·exact zz⟩
def kr (cx:Cx) (x:Bg) (y1:Int×(List Point)×(List Node)×Int) (y2:Int) (y3:(List Bi)×(List (List Int))×Int) (tt:(List (List Int))) (ee:Exit) (Z:Env) (O:Sto):Prop:=match tt with
 | l=>ee=.exit 0/\EE cx (bH [(3,vX 3),(4,vX 4),(5,vI y3.2.2),(8,vX 5001),(9,vI y2),(10,vX 10)] [(3,.box [dI x.W,dI x.H,dI x.Gens,dI x.DX,dI x.DY,dL x.Syms]),(4,.box [dI 0,.d .nil]),(10,.box [dI ((⟨0,0,x.W,x.H⟩:Box).X),dI ((⟨0,0,x.W,x.H⟩:Box).Y),dI ((⟨0,0,x.W,x.H⟩:Box).W),dI ((⟨0,0,x.W,x.H⟩:Box).H),dR3 y3.1]),(5000,mOb .str kS (uA Tree.row) []),(5001,.box [dI y3.2.2,.own 5002,dI y1.1,dR2 y1.2.1,dR1 y1.2.2.1,dI y1.2.2.2,.map 5000]),(5002,.row 1 26 (List.map (rS 1 (rI .i64)) l))]) Z O
set_option maxHeartbeats 1000000 in
instance l_unroll_Formula_1 (x y1 y2 y3) {fu stt tt}:LtP (ba (eQ x y1 y2 y3) fu stt=some tt) (lp 242 stt (fun | (a,_l)=>[(3,vX 3),(4,vX 4),(5,vI y3.2.2),(8,vX 5001),(9,vI y2),(10,vX 10),(53,.u (.one (dL x.Syms))),(54,vI (b8 x.Syms)),(55,vI a)]) (fun | (_a,l)=>[(3,.box [dI x.W,dI x.H,dI x.Gens,dI x.DX,dI x.DY,dL x.Syms]),(4,.box [dI 0,.d .nil]),(10,.box [dI ((⟨0,0,x.W,x.H⟩:Box).X),dI ((⟨0,0,x.W,x.H⟩:Box).Y),dI ((⟨0,0,x.W,x.H⟩:Box).W),dI ((⟨0,0,x.W,x.H⟩:Box).H),dR3 y3.1]),(5000,mOb .str kS (uA Tree.row) []),(5001,.box [dI y3.2.2,.own 5002,dI y1.1,dR2 y1.2.1,dR1 y1.2.2.1,dI y1.2.2.2,.map 5000]),(5002,.row 1 26 (List.map (rS 1 (rI .i64)) l))]) (cC [1,1,1,1,1,0,1,0,0] (bD Tryz.f6)) fun cx=>kr cx x y1 y2 y3 tt):=⟨fun hh cx hn Z O hE=>by
 refine bN hE hh (kr cx x y1 y2 y3) ?_
 rintro⟨a,l⟩ r hm Z O hf
 simp only[Fits,bB,bA,and_true] at hf
 unfold eQ at hm
 exact zz⟩
def kz (cx:Cx) (x:Bg) (y1:Int×(List Point)×(List Node)×Int) (_y2:Int) (y3:(List Bi)×(List (List Int))×Int) (tt:(Bh×Int×Int) ⊕ (Int×Int×Int×Int×(List Bi)×(List (List UInt8×Tree))×Int×(List (List Int)))) (ee:Exit) (Z:Env) (O:Sto):Prop:=match tt with
 | .inl r=>ee=.ret/\EE cx (fun Z O=>∃ v,fC tb Z O Tryz.f6.results.toList=some v/\(v.frz O).free=true/\(v.frz O).wk (.tup [.agg [dI r.1.Vars,.d (.sl 1 (List.map (rS 1 (rI .i64)) r.1.Clauses))],.one (dI r.2.1),.one (dI r.2.2)])) Z O
 | .inr (ar,aq,au,av,al,mp,ab,l1)=>ee=.exit 4/\EE cx (bH [(3,vX 3),(4,vX 4),(5,vI y3.2.2),(8,vX 5001),(10,vX 10),(16,vX 16)] [(3,.box [dI x.W,dI x.H,dI x.Gens,dI x.DX,dI x.DY,dL x.Syms]),(4,.box [dI 0,.d .nil]),(10,.box [dI ((⟨0,0,x.W,x.H⟩:Box).X),dI ((⟨0,0,x.W,x.H⟩:Box).Y),dI ((⟨0,0,x.W,x.H⟩:Box).W),dI ((⟨0,0,x.W,x.H⟩:Box).H),dR3 y3.1]),(16,.box [dI ar,dI aq,dI au,dI av,dR3 al]),(5000,mOb .str kS (uA Tree.row) mp),(5001,.box [dI ab,.own 5002,dI y1.1,dR2 y1.2.1,dR1 y1.2.2.1,dI y1.2.2.2,.map 5000]),(5002,.row 1 26 (List.map (rS 1 (rI .i64)) l1))]) Z O
set_option maxHeartbeats 1000000 in
instance l_unroll_Formula_3 (x y1 y2 y3) {fu stt tt}:LtP (ba (ei x y1 y2 y3) fu stt=some tt) (lp 242 stt (fun | (gv,_ar,_aq,_au,_av,_al,_mp,_ab,_l1)=>[(3,vX 3),(4,vX 4),(5,vI y3.2.2),(8,vX 5001),(9,vI y2),(10,vX 10),(16,vX 16),(17,vI gv)]) (fun | (_gv,ar,aq,au,av,al,mp,ab,l1)=>[(3,.box [dI x.W,dI x.H,dI x.Gens,dI x.DX,dI x.DY,dL x.Syms]),(4,.box [dI 0,.d .nil]),(10,.box [dI ((⟨0,0,x.W,x.H⟩:Box).X),dI ((⟨0,0,x.W,x.H⟩:Box).Y),dI ((⟨0,0,x.W,x.H⟩:Box).W),dI ((⟨0,0,x.W,x.H⟩:Box).H),dR3 y3.1]),(16,.box [dI ar,dI aq,dI au,dI av,dR3 al]),(5000,mOb .str kS (uA Tree.row) mp),(5001,.box [dI ab,.own 5002,dI y1.1,dR2 y1.2.1,dR1 y1.2.2.1,dI y1.2.2.2,.map 5000]),(5002,.row 1 26 (List.map (rS 1 (rI .i64)) l1))]) (cC [1,1,1,1,1,1,1,0,1,0,0] (bD Tryz.f6)) fun cx=>kz cx x y1 y2 y3 tt):=⟨fun hh cx hn Z O hE=>by
 refine bN hE hh (kz cx x y1 y2 y3) ?_
 rintro⟨gv,ar,aq,au,av,al,mp,ab,l1⟩ r hm Z O hf
 simp only[Fits,bB,bA,and_true] at hf
 unfold ei at hm
 dsimp only at hm
 refine aZ ?_
 refine srs hn ?_
 simp -dsimp [hf]
 rcases bz hm with ⟨c19,hm⟩ | ⟨c19,hm⟩
 ·refine b9 (by simp -dsimp) c19 ?_
  refine b0 (aY (aZ (b7 ?_)))
  refine srs hn ?_
  simp -dsimp [hf,c19]
  refine srs hn ?_
  obtain⟨y4,h20,hm⟩:=bnd hm
  simp -dsimp [hf]
  refine clg (kO ab l1 y1.1 y1.2.1 y1.2.2.1 y1.2.2.2 mp (⟨⟨ar,aq,au,av⟩,al⟩:Bj) (⟨(ck .i64 (cz .i64 gv) y2),(ck .i64 (cz .i64 gv) y2),(bo .i64 x.W (ck .i64 (ck .i64 2 gv) y2)),(bo .i64 x.H (ck .i64 (ck .i64 2 gv) y2))⟩:Box) true y4 h20) [5001,5002,5000] [5005] (by simp -dsimp [hf]) (dkL hn) ?_
  simp -dsimp
  refine aZ ?_
  refine srs hn ?_
  simp -dsimp
  rcases bz hm with ⟨c21,hm⟩ | ⟨c21,hm⟩
  ·exact zz
  ·refine bf (by simp -dsimp) c21 ?_
   refine b0 (aY ?_)
   refine sr1 hn ?_
   simp -dsimp [hf,c21]
   refine cr ?_
   refine aY ?_
   refine sr1 hn ?_
   simp -dsimp [hf]
   cases hm
   refine d8 ?_
   refine emv 5005 5002 ?_
   exact zz
 ·exact zz⟩
def kG (cx:Cx) (x:Bg) (y1:Int×(List Point)×(List Node)×Int) (y3:(List Bi)×(List (List Int))×Int) (ar aq au av:Int) (al:List Bi) (mp:List (List UInt8×Tree)) (ab:Int) (tt:(List (List Int))) (ee:Exit) (Z:Env) (O:Sto):Prop:=match tt with
 | l2=>ee=.exit 6/\EE cx (bH [(3,vX 3),(4,vX 4),(5,vI y3.2.2),(8,vX 5001),(10,vX 10),(16,vX 16)] [(3,.box [dI x.W,dI x.H,dI x.Gens,dI x.DX,dI x.DY,dL x.Syms]),(4,.box [dI 0,.d .nil]),(10,.box [dI ((⟨0,0,x.W,x.H⟩:Box).X),dI ((⟨0,0,x.W,x.H⟩:Box).Y),dI ((⟨0,0,x.W,x.H⟩:Box).W),dI ((⟨0,0,x.W,x.H⟩:Box).H),dR3 y3.1]),(16,.box [dI ar,dI aq,dI au,dI av,dR3 al]),(5000,mOb .str kS (uA Tree.row) mp),(5001,.box [dI ab,.own 5002,dI y1.1,dR2 y1.2.1,dR1 y1.2.2.1,dI y1.2.2.2,.map 5000]),(5002,.row 1 26 (List.map (rS 1 (rI .i64)) l2))]) Z O
set_option maxHeartbeats 1000000 in
instance l_unroll_Formula_4 (x y1 y3 ar aq au av al mp ab) {fu stt tt}:LtP (ba (eU x y1 y3 ar aq au av al mp ab) fu stt=some tt) (lp 242 stt (fun | (a,_l2)=>[(3,vX 3),(4,vX 4),(5,vI y3.2.2),(8,vX 5001),(10,vX 10),(16,vX 16),(135,.u (.one (dR3 al))),(136,vI (b8 al)),(137,vI a)]) (fun | (_a,l2)=>[(3,.box [dI x.W,dI x.H,dI x.Gens,dI x.DX,dI x.DY,dL x.Syms]),(4,.box [dI 0,.d .nil]),(10,.box [dI ((⟨0,0,x.W,x.H⟩:Box).X),dI ((⟨0,0,x.W,x.H⟩:Box).Y),dI ((⟨0,0,x.W,x.H⟩:Box).W),dI ((⟨0,0,x.W,x.H⟩:Box).H),dR3 y3.1]),(16,.box [dI ar,dI aq,dI au,dI av,dR3 al]),(5000,mOb .str kS (uA Tree.row) mp),(5001,.box [dI ab,.own 5002,dI y1.1,dR2 y1.2.1,dR1 y1.2.2.1,dI y1.2.2.2,.map 5000]),(5002,.row 1 26 (List.map (rS 1 (rI .i64)) l2))]) (cC [1,1,1,1,1,1,1,1,0,1,0,0] (bD Tryz.f6)) fun cx=>kG cx x y1 y3 ar aq au av al mp ab tt):=⟨fun hh cx hn Z O hE=>by
 refine bN hE hh (kG cx x y1 y3 ar aq au av al mp ab) ?_
 rintro⟨a,l2⟩ r hm Z O hf
 simp only[Fits,bB,bA,and_true] at hf
 unfold eU at hm
 dsimp only at hm
 refine srs hn ?_
 simp -dsimp [hf]
 refine aZ ?_
 rcases bz hm with ⟨c23,hm⟩ | ⟨c23,hm⟩
 ·refine b9 (by simp -dsimp) c23 ?_
  refine b0 (aY ?_)
  obtain⟨l3,j42,hm⟩:=bnd hm
  refine scE [(3,vX 3),(4,vX 4),(5,vI y3.2.2),(8,vX 5001),(10,vX 10),(16,vX 16),(135,.u (.one (dR3 al))),(136,vI (b8 al)),(137,vI a)] [(3,.box [dI x.W,dI x.H,dI x.Gens,dI x.DX,dI x.DY,dL x.Syms]),(4,.box [dI 0,.d .nil]),(10,.box [dI ((⟨0,0,x.W,x.H⟩:Box).X),dI ((⟨0,0,x.W,x.H⟩:Box).Y),dI ((⟨0,0,x.W,x.H⟩:Box).W),dI ((⟨0,0,x.W,x.H⟩:Box).H),dR3 y3.1]),(16,.box [dI ar,dI aq,dI au,dI av,dR3 al]),(5000,mOb .str kS (uA Tree.row) mp),(5001,.box [dI ab,.own 5002,dI y1.1,dR2 y1.2.1,dR1 y1.2.2.1,dI y1.2.2.2,.map 5000]),(5002,.row 1 26 (List.map (rS 1 (rI .i64)) l3))] ?_ fun Z O hf=>?_
  ·replace hm:=j42
   clear j42
   refine b7 ?_
   refine srs hn ?_
   obtain⟨x1,h24,hm⟩:=bnd hm
   simp -dsimp [hf,c23,h24]
   refine iM bO mixed (by rw[hn]; kernel_rfl) ?_
   obtain⟨n,h25,hm⟩:=bnd hm
   obtain⟨n1,h26,hm⟩:=bnd hm
   simp -dsimp [hf,h25,h26]
   refine srs hn ?_
   obtain⟨y4,h27,hm⟩:=bnd hm
   simp -dsimp [hf]
   refine bi (CtP.pf h27) (dkL hn) ?_
   simp -dsimp
   refine b7 ?_
   obtain⟨a1,j41,hm⟩:=bnd hm
   refine scE [(3,vX 3),(4,vX 4),(5,vI y3.2.2),(8,vX 5001),(10,vX 10),(16,vX 16),(22,vX 22),(23,vI (bL .i64 (bo .i64 ar n) x.DX)),(24,vI (bL .i64 (bo .i64 aq n1) x.DY)),(25,vT y4),(135,.u (.one (dR3 al))),(136,vI (b8 al)),(137,vI a),(170,vT a1)] [(3,.box [dI x.W,dI x.H,dI x.Gens,dI x.DX,dI x.DY,dL x.Syms]),(4,.box [dI 0,.d .nil]),(10,.box [dI ((⟨0,0,x.W,x.H⟩:Box).X),dI ((⟨0,0,x.W,x.H⟩:Box).Y),dI ((⟨0,0,x.W,x.H⟩:Box).W),dI ((⟨0,0,x.W,x.H⟩:Box).H),dR3 y3.1]),(16,.box [dI ar,dI aq,dI au,dI av,dR3 al]),(22,.box [dI x1.constant,.d (pnil 1 (List.map (rI .i64) x1.vars))]),(5000,mOb .str kS (uA Tree.row) mp),(5001,.box [dI ab,.own 5002,dI y1.1,dR2 y1.2.1,dR1 y1.2.2.1,dI y1.2.2.2,.map 5000]),(5002,.row 1 26 (List.map (rS 1 (rI .i64)) l2))] ?_ fun Z O hf=>?_
   ·replace hm:=j41
    clear j41
    exact zz
   ·clear j41
    simp only[Fits,bB,bA,and_true] at hf
    rcases bz hm with ⟨c29,hm⟩ | ⟨c29,hm⟩
    ·refine b9 (by simp -dsimp [hf]) c29 ?_
     refine nR bO mixed 8 (by rw[hn]; kernel_rfl) ?_
     dsimp only [List.take,List.drop]
     obtain⟨y5,h30,hm⟩:=bnd hm
     simp -dsimp [hf]
     refine br (CtP.pf h30) ?_
     obtain⟨u,h31,hm⟩:=bnd hm
     obtain⟨u1,h32,hm⟩:=bnd hm
     obtain⟨y6,h33,hm⟩:=bnd hm
     simp -dsimp [gu h31 1 (rI .i64),gu h32 1 (rI .i64)]
     refine clg (kL ab l2 y1.1 y1.2.1 y1.2.2.1 y1.2.2.2 mp x1.vars y5.vars y6 h33) [5001,5002,5000] [5006] (by simp -dsimp [hf]) (dkL hn) ?_
     simp -dsimp
     refine cr ?_
     refine cr ?_
     refine aY ?_
     cases hm
     refine emv 5006 5002 ?_
     exact zz
    ·refine bf (by simp -dsimp [hf]) c29 ?_
     refine srs hn ?_
     simp -dsimp [hf]
     rcases bz hm with ⟨c34,hm⟩ | ⟨c34,hm⟩
     ·refine b9 (by simp -dsimp) c34 ?_
      refine sr1 hn ?_
      obtain⟨u,h35,hm⟩:=bnd hm
      obtain⟨y5,h36,hm⟩:=bnd hm
      simp -dsimp [hf,c34,gu h35 1 (rI .i64)]
      refine clg (fG ab l2 y1.1 y1.2.1 y1.2.2.1 y1.2.2.2 mp x1.vars 0 y5 h36) [5001,5002,5000] [5007] (by simp -dsimp [hf]) (dkL hn) ?_
      simp -dsimp
      refine cr ?_
      refine cr ?_
      refine aY ?_
      cases hm
      refine emv 5007 5002 ?_
      exact zz
     ·refine bf (by simp -dsimp) c34 ?_
      refine srs hn ?_
      simp -dsimp [hf,c34]
      rcases bz hm with ⟨c37,hm⟩ | ⟨c37,hm⟩
      ·refine b9 (by simp -dsimp) c37 ?_
       refine sr1 hn ?_
       obtain⟨y5,h38,hm⟩:=bnd hm
       simp -dsimp [hf,c37]
       refine bi (CtP.pf h38) (dkL hn) ?_
       obtain⟨u,h39,hm⟩:=bnd hm
       obtain⟨y6,h40,hm⟩:=bnd hm
       simp -dsimp [gu h39 1 (rI .i64)]
       refine clg (fG ab l2 y1.1 y1.2.1 y1.2.2.1 y1.2.2.2 mp y5.vars 0 y6 h40) [5001,5002,5000] [5008] (by simp -dsimp [hf]) (dkL hn) ?_
       simp -dsimp
       refine cr ?_
       refine cr ?_
       refine aY ?_
       cases hm
       refine emv 5008 5002 ?_
       exact zz
      ·exact zz
  ·clear j42
   exact zz
 ·exact zz⟩
def kx (cx:Cx) (_x:Bg) (y1:Int×(List Point)×(List Node)×Int) (y3:(List Bi)×(List (List Int))×Int) (_ar _aq _au _av:Int) (_al:List Bi) (mp:List (List UInt8×Tree)) (ab:Int) (tt:(List (List Int))) (ee:Exit) (Z:Env) (O:Sto):Prop:=match tt with
 | l3=>ee=.exit 9/\EE cx (bH [(4,vX 4),(5,vI y3.2.2),(8,vX 5001)] [(4,.box [dI 0,.d .nil]),(5000,mOb .str kS (uA Tree.row) mp),(5001,.box [dI ab,.own 5002,dI y1.1,dR2 y1.2.1,dR1 y1.2.2.1,dI y1.2.2.2,.map 5000]),(5002,.row 1 26 (List.map (rS 1 (rI .i64)) l3))]) Z O
set_option maxHeartbeats 1000000 in
instance l_unroll_Formula_5 (x y1 y3 ar aq au av al mp ab) {fu stt tt}:LtP (ba (eP x y1 y3 ar aq au av al mp ab) fu stt=some tt) (lp 242 stt (fun | (a,_l3)=>[(3,vX 3),(4,vX 4),(5,vI y3.2.2),(8,vX 5001),(16,vX 16),(205,.u (.one (dR3 y3.1))),(206,vI (b8 y3.1)),(207,vI a)]) (fun | (_a,l3)=>[(3,.box [dI x.W,dI x.H,dI x.Gens,dI x.DX,dI x.DY,dL x.Syms]),(4,.box [dI 0,.d .nil]),(16,.box [dI ar,dI aq,dI au,dI av,dR3 al]),(5000,mOb .str kS (uA Tree.row) mp),(5001,.box [dI ab,.own 5002,dI y1.1,dR2 y1.2.1,dR1 y1.2.2.1,dI y1.2.2.2,.map 5000]),(5002,.row 1 26 (List.map (rS 1 (rI .i64)) l3))]) (cC [1,1,1,1,1,1,1,1,1,0,1,0,0] (bD Tryz.f6)) fun cx=>kx cx x y1 y3 ar aq au av al mp ab tt):=⟨fun hh cx hn Z O hE=>by
 refine bN hE hh (kx cx x y1 y3 ar aq au av al mp ab) ?_
 rintro⟨a,l3⟩ r hm Z O hf
 simp only[Fits,bB,bA,and_true] at hf
 unfold eP at hm
 dsimp only at hm
 refine srs hn ?_
 simp -dsimp [hf]
 refine aZ ?_
 rcases bz hm with ⟨c44,hm⟩ | ⟨c44,hm⟩
 ·refine b9 (by simp -dsimp) c44 ?_
  refine b0 (aY ?_)
  obtain⟨l4,j52,hm⟩:=bnd hm
  refine scE [(3,vX 3),(4,vX 4),(5,vI y3.2.2),(8,vX 5001),(16,vX 16),(205,.u (.one (dR3 y3.1))),(206,vI (b8 y3.1)),(207,vI a)] [(3,.box [dI x.W,dI x.H,dI x.Gens,dI x.DX,dI x.DY,dL x.Syms]),(4,.box [dI 0,.d .nil]),(16,.box [dI ar,dI aq,dI au,dI av,dR3 al]),(5000,mOb .str kS (uA Tree.row) mp),(5001,.box [dI ab,.own 5002,dI y1.1,dR2 y1.2.1,dR1 y1.2.2.1,dI y1.2.2.2,.map 5000]),(5002,.row 1 26 (List.map (rS 1 (rI .i64)) l4))] ?_ fun Z O hf=>?_
  ·replace hm:=j52
   clear j52
   refine b7 ?_
   refine srs hn ?_
   obtain⟨x1,h45,hm⟩:=bnd hm
   simp -dsimp [hf,c44,h45]
   refine iM bO mixed (by rw[hn]; kernel_rfl) ?_
   obtain⟨n,h46,hm⟩:=bnd hm
   obtain⟨n1,h47,hm⟩:=bnd hm
   obtain⟨y4,h48,hm⟩:=bnd hm
   simp -dsimp [hf,h46,h47]
   refine br (CtP.pf h48) ?_
   simp -dsimp
   rcases bz hm with ⟨c49,hm⟩ | ⟨c49,hm⟩
   ·refine b9 (by simp -dsimp) c49 ?_
    refine sr1 hn ?_
    obtain⟨u,h50,hm⟩:=bnd hm
    obtain⟨y5,h51,hm⟩:=bnd hm
    simp -dsimp [hf,c49,gu h50 1 (rI .i64)]
    refine clg (fG ab l3 y1.1 y1.2.1 y1.2.2.1 y1.2.2.2 mp x1.vars 0 y5 h51) [5001,5002,5000] [5009] (by simp -dsimp [hf]) (dkL hn) ?_
    simp -dsimp
    refine cr ?_
    refine aY ?_
    cases hm
    refine emv 5009 5002 ?_
    exact zz
   ·exact zz
  ·clear j52
   exact zz
 ·exact zz⟩
set_option maxHeartbeats 1000000 in
instance c_unroll_Formula (t x r):CtP (ek t x=some r) (bc Tryz.prog 6 [.u (.agg [dI t.States,dR2 t.Hood,dR1 t.Nodes]),.u (.agg [dI x.W,dI x.H,dI x.Gens,dI x.DX,dI x.DY,dL x.Syms])] (.tup [.agg [dI r.1.Vars,.d (.sl 1 (List.map (rS 1 (rI .i64)) r.1.Clauses))],.one (dI r.2.1),.one (dI r.2.2)])):=⟨fun hm=>by
 refine cu Tryz.func6 Tryz.ntmps6 fun cx hn=>?_
 unfold ek at hm
 refine srs hn ?_
 simp -dsimp
 refine aZ ?_
 refine srs hn ?_
 obtain⟨y,h1,hm⟩:=bnd hm
 simp -dsimp
 refine bi (CtP.pf h1) (dkL hn) ?_
 simp -dsimp
 refine srs hn ?_
 simp -dsimp
 rcases bz hm with ⟨c2,hm⟩ | ⟨c2,hm⟩
 ·exact zz
 ·refine bf (by simp -dsimp) c2 ?_
  refine b0 (aY ?_)
  refine sw_midps bO mixed [] [0,2,3,1,4,5,6] [0,3,1,2,4,5,6] 3 4 4 0 [[1,2]] [[5000,5001]] [] none (by rw[hn]; kernel_rfl) (by dsimp only [jo,nG,adO,rnL,pmL,pk,rnO,rnG,jX,List.cons_append,List.nil_append]<;>exact rfl) ep ?_
  dsimp only [List.take,List.drop,gz,gP,jl,pk,List.cons_append,List.nil_append,List.flatten_cons,List.flatten_nil,dY,dW,List.append_nil]
  obtain⟨y1,h3,hm⟩:=bnd hm
  simp -dsimp [c2]
  refine mN (g_unroll_start t y1 h3) [] [5000,5001] rfl rfl rfl (by simp -dsimp) rfl (by simp -dsimp) (by first | rfl | simp) rfl (dkL hn) rfl rfl (by simp) nofun (by simp) ?_
  obtain⟨y2,h4,hm⟩:=bnd hm
  simp -dsimp
  refine bi (CtP.pf h4) (dkL hn) ?_
  simp -dsimp
  refine Swp.pre (Wk.own0b 5001 1 5002 1 26 [dI 0,.d .nil,dI y1.1,dR2 y1.2.1,dR1 y1.2.2.1,dI y1.2.2.2,.map 5000] (by simp -dsimp) (by rfl) (by decide) (by decide)) ?_
  refine srs hn ?_
  obtain⟨y3,h5,hm⟩:=bnd hm
  simp -dsimp
  refine clg (kW 0 [] y1.1 y1.2.1 y1.2.2.1 y1.2.2.2 [] (⟨0,0,x.W,x.H⟩:Box) y3 h5) [5001,5002,5000] [5003] (by simp -dsimp) (dkL hn) ?_
  simp -dsimp
  refine srs hn ?_
  simp -dsimp
  refine aZ ?_
  refine srs hn ?_
  simp -dsimp
  refine b7 ?_
  obtain⟨l,g18,hm⟩:=bnd hm
  refine bG (LtP.pf g18 cx hn) (by
    try dsimp only
    refine emv 5003 5002 ?_
    exact zz
  ) fun ee Z O xx=>?_
  unfold kr at xx
  dsimp only at xx
  obtain⟨rfl,xx⟩:=xx
  refine bK ?_
  refine aY ?_
  refine see xx fun Z O hf=>?_
  simp only[Fits,bB,bA,and_true] at hf
  refine srs hn ?_
  simp -dsimp [hf]
  refine aZ ?_
  refine srs hn ?_
  simp -dsimp
  refine b7 ?_
  obtain⟨o_1,g22,hm⟩:=bnd hm
  refine bG (LtP.pf g22 cx hn) (by
    try dsimp only
    refine EE.here ?_
    exact zz
  ) fun ee Z O xx=>?_
  rcases o_1 with r | ⟨ar,aq,au,av,al,mp,ab,l1⟩
  ·exact zz
  ·unfold kz at xx
   dsimp only at xx
   obtain⟨rfl,xx⟩:=xx
   refine bK ?_
   refine aY ?_
   refine see xx fun Z O hf=>?_
   simp only[Fits,bB,bA,and_true] at hf
   refine aZ ?_
   refine srs hn ?_
   simp -dsimp [hf]
   refine b7 ?_
   obtain⟨l2,g43,hm⟩:=bnd hm
   refine bG (LtP.pf g43 cx hn) (by
     try dsimp only
     refine EE.here ?_
     exact zz
   ) fun ee Z O xx=>?_
   unfold kG at xx
   dsimp only at xx
   obtain⟨rfl,xx⟩:=xx
   refine bK ?_
   refine aY ?_
   refine see xx fun Z O hf=>?_
   simp only[Fits,bB,bA,and_true] at hf
   refine aZ ?_
   refine srs hn ?_
   simp -dsimp [hf]
   refine b7 ?_
   obtain⟨l3,g53,hm⟩:=bnd hm
   refine bG (LtP.pf g53 cx hn) (by
     try dsimp only
     refine EE.here ?_
     exact zz
   ) fun ee Z O xx=>?_
   unfold kx at xx
   dsimp only at xx
   obtain⟨rfl,xx⟩:=xx
   refine bK ?_
   refine aY ?_
   refine see xx fun Z O hf=>?_
   simp only[Fits,bB,bA,and_true] at hf
   refine aZ ?_
   refine srs hn ?_
   obtain⟨y4,h54,hm⟩:=bnd hm
   simp -dsimp [hf]
   refine clg (gY ab l3 y1.1 y1.2.1 y1.2.2.1 y1.2.2.2 mp y4 h54) [5001,5002,5000] [] (by simp -dsimp [hf]) (dkL hn) ?_
   exact zz⟩
instance c_grid_sized (w hv edge r):CtP (qn w hv edge=some r) (bc Tryz.prog 66 [vI w,vI hv,vI edge] (vT r)):=⟨fun hm=>by
 refine cu Tryz.func66 Tryz.ntmps66 fun cx hn=>?_
 unfold qn at hm
 refine srs hn ?_
 simp -dsimp
 obtain⟨a,j7,hm⟩:=bnd hm
 refine scE [(6,vT a)] [] ?_ fun Z O hf=>?_
 ·replace hm:=j7
  clear j7
  exact zz
 ·clear j7
  exact zz⟩
instance c_grid_Right_1 (s r):CtP (nO s=some r) (bc Tryz.prog 67 [vI s] (vT r)):=⟨fun hm=>by
 refine cu Tryz.func67 Tryz.ntmps67 fun cx hn=>?_
 unfold nO at hm
 refine srs hn ?_
 simp -dsimp
 obtain⟨a,j2,hm⟩:=bnd hm
 refine scE [(2,vT a)] [] ?_ fun Z O hf=>?_
 ·replace hm:=j2
  clear j2
  exact zz
 ·clear j2
  exact zz⟩
def eK (cx:Cx) (_s:List Int) (tt:Int ⊕ Unit) (ee:Exit) (Z:Env) (O:Sto):Prop:=match tt with
 | .inl r=>ee=.ret/\EE cx (fun Z O=>∃ v,fC tb Z O Tryz.f68.results.toList=some v/\(v.frz O).free=true/\(v.frz O).wk (vI r)) Z O
 | .inr _u=>ee=.exit 0/\EE cx (bH [] []) Z O
instance l_slices_IndexFunc_int_int_grid_Right_1_1 (s) {fu stt tt}:LtP (ba (df s) fu stt=some tt) (lp 19 stt (fun a=>[(0,.u (.one (dL s))),(1,.u (.one (.fn 67 []))),(7,vI (b8 s)),(8,vI a)]) (fun _a=>[]) (cC [1,0,1,0,0] (bD Tryz.f68)) fun cx=>eK cx s tt):=⟨fun hh cx hn Z O hE=>by
 refine bN hE hh (eK cx s) ?_
 rintro a r hm Z O hf
 simp only[Fits,bB,bA,and_true] at hf
 unfold df at hm
 exact zz⟩
instance c_slices_IndexFunc_int_int_grid_Right_1 (s r):CtP (dt s=some r) (bc Tryz.prog 68 [.u (.one (dL s)),.u (.one (.fn 67 []))] (vI r)):=⟨fun hm=>by
 refine cu Tryz.func68 Tryz.ntmps68 fun cx hn=>?_
 unfold dt at hm
 refine srs hn ?_
 simp -dsimp
 refine aZ ?_
 refine srs hn ?_
 simp -dsimp
 refine b7 ?_
 obtain⟨o_,g5,hm⟩:=bnd hm
 refine bG (LtP.pf g5 cx hn) (by
   try dsimp only
   exact eeh
 ) fun ee Z O xx=>?_
 rcases o_ with r | _u
 ·exact zz
 ·exact zz⟩
end Go.Proofs.YtjlckgeecihpbaaGreatDoor
