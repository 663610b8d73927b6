/- That the code does what the functions say (made by cc.py). -/
import Derived.Test.YtlifofijgddjkacGreatDoorWa6
namespace Go.Proofs.YtlifofijgddjkacGreatDoor
open Go.AM Go.Proofs
set_option maxRecDepth 100000
attribute [-simp] eR fS jn Ob.wipe Ob.ren Ob.frz1
def eD (cx:Cx) (aa:Int) (ag:List Point) (ae:List Node) (ak:Int) (f:Bc) (box:Box) (fixed:Bool) (y x:Int) (l2:List Ba) (l3:List (List Int)) (ar:Int) (mp1:List (List UInt8×Tree)) (tt:(List Ba)) (ee:Exit) (Z:Env) (O:Sto):Prop:=match tt with
 | in_=>ee=.exit 4/\EE cx (bY [(0,vX 1000000),(3,vT fixed),(5,vX 5),(6,vX 6),(8,vX 8),(10,vX 10),(11,vI y),(12,vI x),(13,vO 5000)] [(5,.box [dI f.box.X,dI f.box.Y,dI f.box.W,dI f.box.H,dR3 f.values]),(6,.box [dI box.X,dI box.Y,dI box.W,dI box.H]),(8,.box [dI 0,dI 0,dI 0,dI 0,.d .nil]),(10,.box [dI box.X,dI box.Y,dI box.W,dI box.H,.own 5002]),(5000,.row 2 81 (List.map Ba.row in_)),(5002,.row 2 81 (List.map Ba.row l2)),(5003,.row 1 26 (List.map (rS 1 (rI .i64)) l3)),(1000000,.box [dI ar,.own 5003,dI aa,dR2 ag,dR1 ae,dI ak,.map 1000002]),(1000002,mOb .str kS (uA Tree.row) mp1)]) Z O
set_option maxHeartbeats 1000000 in
theorem mH (cx:Cx) (hn:cx.n=86) (_hk:cx.k=3) (aa:Int) (ag:List Point) (ae:List Node) (ak:Int) (f:Bc) (box:Box) (fixed:Bool) (y x:Int) (l2:List Ba) (l3:List (List Int)) (ar:Int) (mp1:List (List UInt8×Tree)) {fu:Nat} {stt:Int×(List Ba)} {tt:(List Ba)} (hh:bh (cE aa ag ae ak f box fixed y x l2 l3 ar mp1) fu stt=some tt) {Z:Env} {O:Sto}
  (hE:cw (fun stt:Int×(List Ba)=>match stt with | (a,_in_)=>[(0,vX 1000000),(3,vT fixed),(5,vX 5),(6,vX 6),(8,vX 8),(10,vX 10),(11,vI y),(12,vI x),(13,vO 5000),(45,.u (.one (dR2 ag))),(46,vI (b9 ag)),(47,vI a)]) (fun stt:Int×(List Ba)=>match stt with | (_a,in_)=>[(5,.box [dI f.box.X,dI f.box.Y,dI f.box.W,dI f.box.H,dR3 f.values]),(6,.box [dI box.X,dI box.Y,dI box.W,dI box.H]),(8,.box [dI 0,dI 0,dI 0,dI 0,.d .nil]),(10,.box [dI box.X,dI box.Y,dI box.W,dI box.H,.own 5002]),(5000,.row 2 81 (List.map Ba.row in_)),(5002,.row 2 81 (List.map Ba.row l2)),(5003,.row 1 26 (List.map (rS 1 (rI .i64)) l3)),(1000000,.box [dI ar,.own 5003,dI aa,dR2 ag,dR1 ae,dI ak,.map 1000002]),(1000002,mOb .str kS (uA Tree.row) mp1)]) stt Z O):Swp Tryz.prog cx (.loop (dx [1,1,0,1,0,0,1,0,0,1,0,0,1,0,0,1,0,1,0,0] (bQ Tryz.f24))) Z O (eD cx aa ag ae ak f box fixed y x l2 l3 ar mp1 tt):=by
 refine cz hE hh (eD cx aa ag ae ak f box fixed y x l2 l3 ar mp1) ?_
 rintro⟨a,in_⟩ r hm Z O hf
 simp only[Fits,bv,bu,and_true] at hf
 unfold cE at hm
 dsimp only at hm
 refine srs hn ?_
 simp -dsimp [hf]
 refine aZ ?_
 rcases bc hm with ⟨c3,hm⟩ | ⟨c3,hm⟩
 ·refine aW (by simp -dsimp) c3 ?_
  refine aY (aU (aZ (b7 ?_)))
  refine srs hn ?_
  obtain⟨x1,h4,hm⟩:=bnd hm
  simp -dsimp [hf,c3,h4]
  refine sr1 hn ?_
  obtain⟨y1,h5,hm⟩:=bnd hm
  simp -dsimp [hf]
  refine bi (iH f (bm .i64 x x1.X) (bm .i64 y x1.Y) y1 h5) (dkL hn) ?_
  obtain⟨l4,h6,hm⟩:=bnd hm
  obtain⟨h6a,h6e⟩:=ct h6
  replace h6e:=h6e.symm
  subst h6e
  try simp only[List.length_cons,List.length_nil,Nat.zero_add] at h6a
  simp -dsimp [hf,h6a]
  refine bI ?_
  refine aU ?_
  refine sr1 hn ?_
  simp -dsimp [hf]
  cases hm
  refine bC ?_
  refine emv 63 5000 ?_
  exact EE.here (by simp -dsimp [hf])
 ·refine aV (by simp -dsimp) c3 ?_
  refine bp ?_
  refine b8 ?_
  cases hm
  refine bz nofun ?_
  exact⟨rfl,EE.here (by simp -dsimp [hf,c3])⟩
def cZ (cx:Cx) (aa:Int) (ag:List Point) (ae:List Node) (ak:Int) (f:Bc) (box:Box) (fixed:Bool) (y:Int) (tt:(Int×Int×Int×Int×(List Ba)×Bool×Int×(List (List UInt8×Tree))×(List (List Int))) ⊕ ((List Ba)×(List (List Int))×Int×(List (List UInt8×Tree)))) (ee:Exit) (Z:Env) (O:Sto):Prop:=match tt with
 | .inl r=>ee=.ret/\EE cx (fun Z O=>∃ v,iR tb Z O Tryz.f24.results.toList=some v/\(v.frzL O).wk (.tup [.agg [dI r.1,dI r.2.1,dI r.2.2.1,dI r.2.2.2.1,dR3 r.2.2.2.2.1],.one (.d (.bool r.2.2.2.2.2.1))])/\goutL inBase [some (.box [dI r.2.2.2.2.2.2.1,.own 1000003,dI aa,dR2 ag,dR1 ae,dI ak,.map 1000002]),none,some (mOb .str kS (uA Tree.row) r.2.2.2.2.2.2.2.1),some (.row 1 26 (List.map (rS 1 (rI .i64)) r.2.2.2.2.2.2.2.2))] O) Z O
 | .inr (l2,l3,ar,mp1)=>ee=.exit 2/\EE cx (bY [(0,vX 1000000),(3,vT fixed),(5,vX 5),(6,vX 6),(8,vX 8),(10,vX 10),(11,vI y)] [(5,.box [dI f.box.X,dI f.box.Y,dI f.box.W,dI f.box.H,dR3 f.values]),(6,.box [dI box.X,dI box.Y,dI box.W,dI box.H]),(8,.box [dI 0,dI 0,dI 0,dI 0,.d .nil]),(10,.box [dI box.X,dI box.Y,dI box.W,dI box.H,.own 5002]),(5002,.row 2 81 (List.map Ba.row l2)),(5003,.row 1 26 (List.map (rS 1 (rI .i64)) l3)),(1000000,.box [dI ar,.own 5003,dI aa,dR2 ag,dR1 ae,dI ak,.map 1000002]),(1000002,mOb .str kS (uA Tree.row) mp1)]) Z O
set_option maxHeartbeats 1000000 in
theorem mN (cx:Cx) (hn:cx.n=86) (hk:cx.k=3) (aa:Int) (ag:List Point) (ae:List Node) (ak:Int) (f:Bc) (box:Box) (fixed:Bool) (y:Int) {fu:Nat} {stt:Int×(List Ba)×(List (List Int))×Int×(List (List UInt8×Tree))} {tt:(Int×Int×Int×Int×(List Ba)×Bool×Int×(List (List UInt8×Tree))×(List (List Int))) ⊕ ((List Ba)×(List (List Int))×Int×(List (List UInt8×Tree)))} (hh:bh (co aa ag ae ak f box fixed y) fu stt=some tt) {Z:Env} {O:Sto}
  (hE:cw (fun stt:Int×(List Ba)×(List (List Int))×Int×(List (List UInt8×Tree))=>match stt with | (x,_l2,_l3,_ar,_mp1)=>[(0,vX 1000000),(3,vT fixed),(5,vX 5),(6,vX 6),(8,vX 8),(10,vX 10),(11,vI y),(12,vI x)]) (fun stt:Int×(List Ba)×(List (List Int))×Int×(List (List UInt8×Tree))=>match stt with | (_x,l2,l3,ar,mp1)=>[(5,.box [dI f.box.X,dI f.box.Y,dI f.box.W,dI f.box.H,dR3 f.values]),(6,.box [dI box.X,dI box.Y,dI box.W,dI box.H]),(8,.box [dI 0,dI 0,dI 0,dI 0,.d .nil]),(10,.box [dI box.X,dI box.Y,dI box.W,dI box.H,.own 5002]),(5002,.row 2 81 (List.map Ba.row l2)),(5003,.row 1 26 (List.map (rS 1 (rI .i64)) l3)),(1000000,.box [dI ar,.own 5003,dI aa,dR2 ag,dR1 ae,dI ak,.map 1000002]),(1000002,mOb .str kS (uA Tree.row) mp1)]) stt Z O):Swp Tryz.prog cx (.loop (dx [1,1,0,1,0,0,1,0,0,1,0,0] (bQ Tryz.f24))) Z O (cZ cx aa ag ae ak f box fixed y tt):=by
 refine cz hE hh (cZ cx aa ag ae ak f box fixed y) ?_
 rintro⟨x,l2,l3,ar,mp1⟩ r hm Z O hf
 simp only[Fits,bv,bu,and_true] at hf
 unfold co at hm
 dsimp only at hm
 refine aZ ?_
 refine srs hn ?_
 simp -dsimp [hf]
 rcases bc hm with ⟨c2,hm⟩ | ⟨c2,hm⟩
 ·refine aW (by simp -dsimp) c2 ?_
  refine aY (aU (aZ (b7 ?_)))
  refine srs hn ?_
  simp -dsimp [c2]
  refine aZ ?_
  refine srs hn ?_
  simp -dsimp [hf]
  refine b7 ?_
  obtain⟨in_,g7,hm⟩:=bnd hm
  refine bP (mH cx hn hk aa ag ae ak f box fixed y x l2 l3 ar mp1 g7) (by
    try dsimp only
    refine EE.step (Wk.own0 13 5000 2 81 (by simp -dsimp) (by decide)) ?_
    exact EE.here (by simp -dsimp [hf])
  ) fun ee Z O xx=>?_
  unfold eD at xx
  dsimp only at xx
  obtain⟨rfl,xx⟩:=xx
  refine br ?_
  refine aU ?_
  refine see xx fun Z O hf=>?_
  simp only[Fits,bv,bu,and_true] at hf
  refine srs hn ?_
  simp -dsimp [hf]
  obtain⟨⟨az,aF,aB,mp2⟩,j14,hm⟩:=bnd hm
  refine scE [(0,vX 1000000),(3,vT fixed),(5,vX 5),(6,vX 6),(8,vX 8),(10,vX 10),(11,vI y),(12,vI x),(13,vO 5000),(16,vX 16)] [(5,.box [dI f.box.X,dI f.box.Y,dI f.box.W,dI f.box.H,dR3 f.values]),(6,.box [dI box.X,dI box.Y,dI box.W,dI box.H]),(8,.box [dI 0,dI 0,dI 0,dI 0,.d .nil]),(10,.box [dI box.X,dI box.Y,dI box.W,dI box.H,.own 5002]),(16,.box [dI az,dR2 aF,dR1 aB]),(5000,.row 2 81 (List.map Ba.row in_)),(5002,.row 2 81 (List.map Ba.row l2)),(5003,.row 1 26 (List.map (rS 1 (rI .i64)) l3)),(1000000,.box [dI ar,.own 5003,dI aa,dR2 ag,dR1 ae,dI ak,.map 1000002]),(1000002,mOb .str kS (uA Tree.row) mp2)] ?_ fun Z O hf=>?_
  ·replace hm:=j14
   clear j14
   refine srs hn ?_
   simp -dsimp [hf]
   rcases bc hm with ⟨c8,hm⟩ | ⟨c8,hm⟩
   ·refine aW (by simp -dsimp) c8 ?_
    refine sr1 hn ?_
    obtain⟨y1,h9,hm⟩:=bnd hm
    simp -dsimp [hf,c8]
    refine clg (mo ar l3 aa ag ae ak mp1 in_ y1 h9) [1000000,5003,1000002,5000] [] (by simp -dsimp [hf]) (dkL hn) ?_
    simp -dsimp [c8]
    cases hm
    exact EE.here (by simp -dsimp [hf,c8])
   ·refine aV (by simp -dsimp) c8 ?_
    refine aY (aU ?_)
    cases hm
    exact EE.here (by simp -dsimp [hf,c8])
  ·clear j14
   simp only[Fits,bv,bu,and_true] at hf
   refine k9 bL mixed 5 6 7 0 [[0,1]] [[5001]] [true] none (by rw[hn]; kernel_rfl) fb ?_
   dsimp only [List.take,List.drop,gL,gU,jx,pk,List.cons_append,List.nil_append,List.flatten_cons,List.flatten_nil,eJ,eK,List.append_nil]
   obtain⟨y1,h10,hm⟩:=bnd hm
   simp -dsimp [hf]
   refine lN (mK ar l3 aa ag ae ak mp2 (⟨az,aF,aB⟩:Tree) in_ y1 h10) [1000000,5003,1000002,5000] [5001] rfl rfl rfl (by simp -dsimp) rfl (by simp -dsimp [hf]) (by first | rfl | simp) rfl (dkL hn) rfl rfl (by simp) nofun (by simp) ?_
   obtain⟨l4,h11,hm⟩:=bnd hm
   obtain⟨h11a,h11e⟩:=ct h11
   replace h11e:=h11e.symm
   subst h11e
   try simp only[List.length_cons,List.length_nil,Nat.zero_add] at h11a
   simp -dsimp [hf,h11a]
   refine srs hn ?_
   obtain⟨y2,h12,hm⟩:=bnd hm
   simp -dsimp [hf]
   refine clg (gt y1.2.2.2 y1.2.2.1 aa ag ae ak mp2 y2 h12) [1000000,5001,1000002] [] (by simp -dsimp) (dkL hn) ?_
   simp -dsimp
   rcases bc hm with ⟨c13,hm⟩ | ⟨c13,hm⟩
   ·refine aW (by simp -dsimp) c13 ?_
    refine srs hn ?_
    simp -dsimp [hf,c13]
    refine b0 (cy (b8 ?_))
    cases hm
    refine bz nofun ?_
    unfold cZ
    dsimp only
    refine⟨rfl,?_⟩
    refine emr 5001 1000003 hk ?_
    exact EE.here (by simp -dsimp [hf,Tryz.results24])
   ·refine aV (by simp -dsimp) c13 ?_
    refine aY ?_
    refine bI ?_
    refine aU ?_
    refine sr1 hn ?_
    simp -dsimp [hf,c13]
    cases hm
    refine bC ?_
    refine emv 80 5002 ?_
    refine emv 5001 5003 ?_
    exact EE.here (by simp -dsimp [hf])
 ·refine aV (by simp -dsimp) c2 ?_
  refine bp ?_
  refine b8 ?_
  cases hm
  refine bz nofun ?_
  exact⟨rfl,EE.here (by simp -dsimp [hf,c2])⟩
def cX (cx:Cx) (aa:Int) (ag:List Point) (ae:List Node) (ak:Int) (_f:Bc) (box:Box) (_fixed:Bool) (tt:(Int×Int×Int×Int×(List Ba)×Bool×Int×(List (List UInt8×Tree))×(List (List Int))) ⊕ ((List Ba)×(List (List Int))×Int×(List (List UInt8×Tree)))) (ee:Exit) (Z:Env) (O:Sto):Prop:=match tt with
 | .inl r=>ee=.ret/\EE cx (fun Z O=>∃ v,iR tb Z O Tryz.f24.results.toList=some v/\(v.frzL O).wk (.tup [.agg [dI r.1,dI r.2.1,dI r.2.2.1,dI r.2.2.2.1,dR3 r.2.2.2.2.1],.one (.d (.bool r.2.2.2.2.2.1))])/\goutL inBase [some (.box [dI r.2.2.2.2.2.2.1,.own 1000003,dI aa,dR2 ag,dR1 ae,dI ak,.map 1000002]),none,some (mOb .str kS (uA Tree.row) r.2.2.2.2.2.2.2.1),some (.row 1 26 (List.map (rS 1 (rI .i64)) r.2.2.2.2.2.2.2.2))] O) Z O
 | .inr (l,l1,aj,mp)=>ee=.exit 0/\EE cx (bY [(8,vX 8),(10,vX 10)] [(8,.box [dI 0,dI 0,dI 0,dI 0,.d .nil]),(10,.box [dI box.X,dI box.Y,dI box.W,dI box.H,.own 5002]),(5002,.row 2 81 (List.map Ba.row l)),(5003,.row 1 26 (List.map (rS 1 (rI .i64)) l1)),(1000000,.box [dI aj,.own 5003,dI aa,dR2 ag,dR1 ae,dI ak,.map 1000002]),(1000002,mOb .str kS (uA Tree.row) mp)]) Z O
set_option maxHeartbeats 1000000 in
theorem mG (cx:Cx) (hn:cx.n=86) (hk:cx.k=3) (aa:Int) (ag:List Point) (ae:List Node) (ak:Int) (f:Bc) (box:Box) (fixed:Bool) {fu:Nat} {stt:Int×(List Ba)×(List (List Int))×Int×(List (List UInt8×Tree))} {tt:(Int×Int×Int×Int×(List Ba)×Bool×Int×(List (List UInt8×Tree))×(List (List Int))) ⊕ ((List Ba)×(List (List Int))×Int×(List (List UInt8×Tree)))} (hh:bh (cW aa ag ae ak f box fixed) fu stt=some tt) {Z:Env} {O:Sto}
  (hE:cw (fun stt:Int×(List Ba)×(List (List Int))×Int×(List (List UInt8×Tree))=>match stt with | (y,_l,_l1,_aj,_mp)=>[(0,vX 1000000),(3,vT fixed),(5,vX 5),(6,vX 6),(8,vX 8),(10,vX 10),(11,vI y)]) (fun stt:Int×(List Ba)×(List (List Int))×Int×(List (List UInt8×Tree))=>match stt with | (_y,l,l1,aj,mp)=>[(5,.box [dI f.box.X,dI f.box.Y,dI f.box.W,dI f.box.H,dR3 f.values]),(6,.box [dI box.X,dI box.Y,dI box.W,dI box.H]),(8,.box [dI 0,dI 0,dI 0,dI 0,.d .nil]),(10,.box [dI box.X,dI box.Y,dI box.W,dI box.H,.own 5002]),(5002,.row 2 81 (List.map Ba.row l)),(5003,.row 1 26 (List.map (rS 1 (rI .i64)) l1)),(1000000,.box [dI aj,.own 5003,dI aa,dR2 ag,dR1 ae,dI ak,.map 1000002]),(1000002,mOb .str kS (uA Tree.row) mp)]) stt Z O):Swp Tryz.prog cx (.loop (dx [1,1,0,1,0,0] (bQ Tryz.f24))) Z O (cX cx aa ag ae ak f box fixed tt):=by
 refine cz hE hh (cX cx aa ag ae ak f box fixed) ?_
 rintro⟨y,l,l1,aj,mp⟩ r hm Z O hf
 simp only[Fits,bv,bu,and_true] at hf
 unfold cW at hm
 dsimp only at hm
 refine aZ ?_
 refine srs hn ?_
 simp -dsimp [hf]
 rcases bc hm with ⟨c1,hm⟩ | ⟨c1,hm⟩
 ·refine aW (by simp -dsimp) c1 ?_
  refine aY (aU (aZ (b7 ?_)))
  refine srs hn ?_
  simp -dsimp [hf,c1]
  refine b7 ?_
  obtain⟨o_,g15,hm⟩:=bnd hm
  refine bP (mN cx hn hk aa ag ae ak f box fixed y g15) (by
    try dsimp only
    exact EE.here (by simp -dsimp [hf])
  ) fun ee Z O xx=>?_
  rcases o_ with r | ⟨l2,l3,ar,mp1⟩
  ·unfold cZ at xx
   dsimp only at xx
   obtain⟨rfl,xx⟩:=xx
   refine cy (cy (b8 ?_))
   cases hm
   refine bz nofun ?_
   unfold cX
   dsimp only
   refine⟨rfl,?_⟩
   exact xx
  ·unfold cZ at xx
   dsimp only at xx
   obtain⟨rfl,xx⟩:=xx
   refine br ?_
   refine bI ?_
   refine aU ?_
   refine see xx fun Z O hf=>?_
   simp only[Fits,bv,bu,and_true] at hf
   refine sr1 hn ?_
   simp -dsimp [hf]
   cases hm
   refine bC ?_
   exact EE.here (by simp -dsimp [hf])
 ·refine aV (by simp -dsimp) c1 ?_
  refine bp ?_
  refine b8 ?_
  cases hm
  refine bz nofun ?_
  exact⟨rfl,EE.here (by simp -dsimp [hf,c1])⟩
set_option maxHeartbeats 1000000 in
theorem jX (ab:Int) (ah:List (List Int)) (aa:Int) (ag:List Point) (ae:List Node) (ak:Int) (ai:List (List UInt8×Tree)) (f:Bc) (box:Box) (fixed:Bool) (r:Int×Int×Int×Int×(List Ba)×Bool×Int×(List (List UInt8×Tree))×(List (List Int))) (hm:dm ab ah aa ag ae ak ai f box fixed=some r):GFn Tryz.prog 24 [vX 1000000,.u (.agg [dI f.box.X,dI f.box.Y,dI f.box.W,dI f.box.H,dR3 f.values]),.u (.agg [dI box.X,dI box.Y,dI box.W,dI box.H]),vT fixed] [.box [dI ab,.own 1000001,dI aa,dR2 ag,dR1 ae,dI ak,.map 1000002],.row 1 26 (List.map (rS 1 (rI .i64)) ah),mOb .str kS (uA Tree.row) ai] (.tup [.agg [dI r.1,dI r.2.1,dI r.2.2.1,dI r.2.2.2.1,dR3 r.2.2.2.2.1],.one (.d (.bool r.2.2.2.2.2.1))]) [some (.box [dI r.2.2.2.2.2.2.1,.own 1000003,dI aa,dR2 ag,dR1 ae,dI ak,.map 1000002]),none,some (mOb .str kS (uA Tree.row) r.2.2.2.2.2.2.2.1),some (.row 1 26 (List.map (rS 1 (rI .i64)) r.2.2.2.2.2.2.2.2))]:=by
 refine dj bL _ Tryz.func24 rfl (by kernel_rfl) (by simp[Tryz.ntmps24]) (by simp) (by first | rfl | simp) (by first | rfl | simp) fun cx hn hk=>?_
 replace hn:cx.n=86:=hn.trans Tryz.ntmps24
 replace hk:cx.k=3:=hk
 unfold dm at hm
 refine srs hn ?_
 simp -dsimp
 refine srs hn ?_
 simp -dsimp
 refine aZ ?_
 refine srs hn ?_
 simp -dsimp
 refine b7 ?_
 obtain⟨o_,g16,hm⟩:=bnd hm
 refine bP (mG cx hn hk aa ag ae ak f box fixed g16) (by
   try dsimp only
   refine emv 1000001 5003 ?_
   refine EE.step (Wk.own0b 10 4 5002 2 81 [dI box.X,dI box.Y,dI box.W,dI box.H,.d .nil] (by simp -dsimp) (by rfl) (by decide) (by decide)) ?_
   exact eeh
 ) fun ee Z O xx=>?_
 rcases o_ with r | ⟨l,l1,aj,mp⟩
 ·unfold cX at xx
  dsimp only at xx
  obtain⟨rfl,xx⟩:=xx
  refine cy (b8 ?_)
  cases hm
  refine⟨.inr rfl,?_⟩
  first | exact xx | exact xx.mono fun Z O h=>by simpa -dsimp using h
 ·unfold cX at xx
  dsimp only at xx
  obtain⟨rfl,xx⟩:=xx
  refine br ?_
  refine aU ?_
  refine see xx fun Z O hf=>?_
  simp only[Fits,bv,bu,and_true] at hf
  refine Swp.pre (Wk.frz 5002 2 81 (List.map Ba.row l) (by simp -dsimp [hf])) ?_
  refine srs hn ?_
  simp -dsimp [hf]
  refine b0 ?_
  cases hm
  refine⟨.inr rfl,?_⟩
  refine emr 5003 1000003 hk ?_
  exact EE.here (by simp -dsimp [hf])
theorem mV (f:Bc) (x y:Int) (r:Bool) (hm:iM f x y=some r):bg Tryz.prog 35 [.u (.agg [dI f.box.X,dI f.box.Y,dI f.box.W,dI f.box.H,dR3 f.values]),vI x,vI y] (vT r):=by
 refine dG Tryz.func35 Tryz.ntmps35 fun cx hn=>?_
 unfold iM at hm
 refine srs hn ?_
 simp -dsimp
 obtain⟨a,j4,hm⟩:=bnd hm
 refine scE [(6,vT a)] [] ?_ fun Z O hf=>?_
 ·replace hm:=j4
  clear j4
  refine sr1 hn ?_
  rcases bc hm with ⟨c1,hm⟩ | ⟨c1,hm⟩
  ·rcases bc hm with ⟨c2,hm⟩ | ⟨c2,hm⟩
   ·rcases bc hm with ⟨c3,hm⟩ | ⟨c3,hm⟩
    ·simp -dsimp [c1,c2,c3]
     cases hm
     exact EE.here (by simp -dsimp)
    ·simp -dsimp [c1,c2,c3]
     cases hm
     exact EE.here (by simp -dsimp)
   ·simp -dsimp [c1,c2]
    cases hm
    exact EE.here (by simp -dsimp)
  ·simp -dsimp [c1]
   cases hm
   exact EE.here (by simp -dsimp)
 ·clear j4
  simp only[Fits,bv,bu,and_true] at hf
  cases hm
  exact b0 ⟨.inr rfl,EE.here (by simp -dsimp [hf])⟩
def eP (cx:Cx) (ab aa:Int) (ag:List Point) (ae:List Node) (ak:Int) (ai:List (List UInt8×Tree)) (_vars:List Int) (_cv:Int) (tt:(List (List Int))) (ee:Exit) (Z:Env) (O:Sto):Prop:=match tt with
 | l=>ee=.exit 0/\EE cx (bY [] [(5001,.row 1 26 (List.map (rS 1 (rI .i64)) l)),(1000000,.box [dI ab,.own 5001,dI aa,dR2 ag,dR1 ae,dI ak,.map 1000002]),(1000002,mOb .str kS (uA Tree.row) ai)]) Z O
theorem np (cx:Cx) (hn:cx.n=27) (_hk:cx.k=3) (ab aa:Int) (ag:List Point) (ae:List Node) (ak:Int) (ai:List (List UInt8×Tree)) (vars:List Int) (cv:Int) {fu:Nat} {stt:Int×(List (List Int))} {tt:(List (List Int))} (hh:bh (dP ab aa ag ae ak ai vars cv) fu stt=some tt) {Z:Env} {O:Sto}
  (hE:cw (fun stt:Int×(List (List Int))=>match stt with | (a,_l)=>[(0,vX 1000000),(2,vI cv),(8,.u (.one (dL vars))),(9,vI (b9 vars)),(10,vI a)]) (fun stt:Int×(List (List Int))=>match stt with | (_a,l)=>[(5001,.row 1 26 (List.map (rS 1 (rI .i64)) l)),(1000000,.box [dI ab,.own 5001,dI aa,dR2 ag,dR1 ae,dI ak,.map 1000002]),(1000002,mOb .str kS (uA Tree.row) ai)]) stt Z O):Swp Tryz.prog cx (.loop (dx [1,0,0] (bQ Tryz.f25))) Z O (eP cx ab aa ag ae ak ai vars cv tt):=by
 refine cz hE hh (eP cx ab aa ag ae ak ai vars cv) ?_
 rintro⟨a,l⟩ r hm Z O hf
 simp only[Fits,bv,bu,and_true] at hf
 unfold dP at hm
 dsimp only at hm
 refine srs hn ?_
 simp -dsimp [hf]
 refine aZ ?_
 rcases bc hm with ⟨c1,hm⟩ | ⟨c1,hm⟩
 ·refine aW (by simp -dsimp) c1 ?_
  refine aY (aU (aZ (b7 ?_)))
  refine srs hn ?_
  obtain⟨x,h2,hm⟩:=bnd hm
  simp -dsimp [hf,c1,h2]
  obtain⟨v,j6,hm⟩:=bnd hm
  refine scE [(0,vX 1000000),(2,vI cv),(7,vI v),(8,.u (.one (dL vars))),(9,vI (b9 vars)),(10,vI a)] [(5001,.row 1 26 (List.map (rS 1 (rI .i64)) l)),(1000000,.box [dI ab,.own 5001,dI aa,dR2 ag,dR1 ae,dI ak,.map 1000002]),(1000002,mOb .str kS (uA Tree.row) ai)] ?_ fun Z O hf=>?_
  ·replace hm:=j6
   clear j6
   refine srs hn ?_
   obtain⟨n,h3,hm⟩:=bnd hm
   simp -dsimp [hf,h3]
   rcases bc hm with ⟨c4,hm⟩ | ⟨c4,hm⟩
   ·refine aW (by simp -dsimp) c4 ?_
    refine sr1 hn ?_
    simp -dsimp [c4]
    cases hm
    exact EE.here (by simp -dsimp [hf])
   ·refine aV (by simp -dsimp) c4 ?_
    refine aY (aU ?_)
    cases hm
    exact EE.here (by simp -dsimp [hf,c4])
  ·clear j6
   simp only[Fits,bv,bu,and_true] at hf
   refine sr1 hn ?_
   obtain⟨y,h5,hm⟩:=bnd hm
   simp -dsimp [hf]
   refine clg (eF ab l aa ag ae ak ai [v] y h5) [1000000,5001,1000002] [5000] (by simp -dsimp [hf]) (dkL hn) ?_
   simp -dsimp
   refine bI ?_
   refine aU ?_
   refine sr1 hn ?_
   simp -dsimp [hf]
   cases hm
   refine bC ?_
   refine emv 5000 5001 ?_
   exact EE.here (by simp -dsimp [hf])
 ·refine aV (by simp -dsimp) c1 ?_
  refine bp ?_
  refine b8 ?_
  cases hm
  refine bz nofun ?_
  exact⟨rfl,EE.here (by simp -dsimp [hf,c1])⟩
theorem ft (ab:Int) (ah:List (List Int)) (aa:Int) (ag:List Point) (ae:List Node) (ak:Int) (ai:List (List UInt8×Tree)) (vars:List Int) (cv:Int) (r:List (List Int)) (hm:cF ab ah aa ag ae ak ai vars cv=some r):GFn Tryz.prog 25 [vX 1000000,.u (.one (dL vars)),vI cv] [.box [dI ab,.own 1000001,dI aa,dR2 ag,dR1 ae,dI ak,.map 1000002],.row 1 26 (List.map (rS 1 (rI .i64)) ah),mOb .str kS (uA Tree.row) ai] (.tup []) [some (.box [dI ab,.own 1000003,dI aa,dR2 ag,dR1 ae,dI ak,.map 1000002]),none,some (mOb .str kS (uA Tree.row) ai),some (.row 1 26 (List.map (rS 1 (rI .i64)) r))]:=by
 refine dj bL _ Tryz.func25 rfl (by kernel_rfl) (by simp[Tryz.ntmps25]) (by simp) (by first | rfl | simp) (by first | rfl | simp) fun cx hn hk=>?_
 replace hn:cx.n=27:=hn.trans Tryz.ntmps25
 replace hk:cx.k=3:=hk
 unfold cF at hm
 refine srs hn ?_
 simp -dsimp
 refine b7 ?_
 obtain⟨l,g7,hm⟩:=bnd hm
 refine bP (np cx hn hk ab aa ag ae ak ai vars cv g7) (by
   try dsimp only
   refine emv 1000001 5001 ?_
   exact eeh
 ) fun ee Z O xx=>?_
 unfold eP at xx
 dsimp only at xx
 obtain⟨rfl,xx⟩:=xx
 refine br ?_
 cases hm
 try refine⟨.inl rfl,?_⟩
 refine ee_bind (by rfl) (by rfl) xx fun Z O hf=>?_
 simp only[Fits,bv,bu,and_true,true_and] at hf
 refine emr 5001 1000003 hk ?_
 exact EE.here (by simp -dsimp [hf])
end Go.Proofs.YtlifofijgddjkacGreatDoor
