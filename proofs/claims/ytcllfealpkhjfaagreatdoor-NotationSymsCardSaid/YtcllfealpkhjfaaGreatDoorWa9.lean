/- That the code does what the functions say (made by cc.py). -/
import Derived.Test.YtcllfealpkhjfaaGreatDoorWa7
namespace Go.Proofs.YtcllfealpkhjfaaGreatDoor
open Go.AM Go.Proofs
set_option maxRecDepth 100000
attribute [-simp] qlookup cd cW Ob.wipe Ob.ren Ob.frz1
section
attribute [-simp] List.map_set List.set_set
def cT (cx:Cx) (al:Int) (am:List Point) (ak:List Node) (i a:Int) (to_:List Int) (x:Node) (a1:Int) (mp1:List (List UInt8×Int)) (next:List Int) (l3:List Node) (tt:(List Int)) (ee:Exit) (Z:Env) (O:Sto):Prop:=match tt with
 | inner=>ee=.exit 5/\EE cx (bg [(2,vX 2),(4,vX 4),(5,vI (bc .i64 (aT am) i)),(6,vX 6),(7,vO 26),(8,vI a),(9,vX 9),(10,vO 42),(11,vI a1),(13,vO 62),(28,.u (.one (dR0 ak))),(29,vI (aT ak)),(30,vI a),(44,.u (.one (dL x.Next))),(45,vI (aT x.Next)),(46,vI a1)] [(2,.box [dI al,.own 1000000,dR0 ak]),(4,.box [dI 0,.d .nil,.d .nil]),(6,.box [.own 5000,.map 21]),(9,.box [dI x.Level,dL x.Next]),(21,mOb .str kS (uL (L.int .i64)) mp1),(26,.row 1 3 (List.map (rI .i64) to_)),(42,.row 1 3 (List.map (rI .i64) next)),(62,.row 1 3 (List.map (rI .i64) inner)),(5000,.row 2 32 (List.map Node.row l3)),(1000000,.row 2 67 (List.map Point.row am))]) Z O
theorem ig (cx:Cx) (hn:cx.n=137) (_hk:cx.k=1) (al:Int) (am:List Point) (ak:List Node) (i a:Int) (to_:List Int) (x:Node) (a1:Int) (mp1:List (List UInt8×Int)) (next:List Int) (l3:List Node) {fu:Nat} {stt:Int×(List Int)} {tt:(List Int)} (hh:aY (b_reduce_swapped_o_w_3 al am ak i a to_ x a1 mp1 next l3) fu stt=some tt) {Z:Env} {O:Sto}
  (hE:bl (fun stt:Int×(List Int)=>match stt with | (a2,_inner)=>[(2,vX 2),(4,vX 4),(5,vI (bc .i64 (aT am) i)),(6,vX 6),(7,vO 26),(8,vI a),(9,vX 9),(10,vO 42),(11,vI a1),(13,vO 62),(28,.u (.one (dR0 ak))),(29,vI (aT ak)),(30,vI a),(44,.u (.one (dL x.Next))),(45,vI (aT x.Next)),(46,vI a1),(64,.u (.one (dL x.Next))),(65,vI (aT x.Next)),(66,vI a2)]) (fun stt:Int×(List Int)=>match stt with | (_a2,inner)=>[(2,.box [dI al,.own 1000000,dR0 ak]),(4,.box [dI 0,.d .nil,.d .nil]),(6,.box [.own 5000,.map 21]),(9,.box [dI x.Level,dL x.Next]),(21,mOb .str kS (uL (L.int .i64)) mp1),(26,.row 1 3 (List.map (rI .i64) to_)),(42,.row 1 3 (List.map (rI .i64) next)),(62,.row 1 3 (List.map (rI .i64) inner)),(5000,.row 2 32 (List.map Node.row l3)),(1000000,.row 2 67 (List.map Point.row am))]) stt Z O):Swp Tryz.prog cx (.loop (bA [1,1,1,1,0,1,0,0,1,1,0,0,1,1,1,0,1,0,0,1,1,0,0,1,0,1,0,1,0,1,0,0] (be Tryz.f38))) Z O (cT cx al am ak i a to_ x a1 mp1 next l3 tt):=by
 refine bm hE hh (cT cx al am ak i a to_ x a1 mp1 next l3) ?_
 rintro⟨a2,inner⟩ r hm Z O hf
 simp only[Fits,b8,b9,and_true] at hf
 unfold b_reduce_swapped_o_w_3 at hm
 dsimp only at hm
 refine srs hn ?_
 simp -dsimp [hf]
 refine aS ?_
 rcases aZ hm with ⟨c10,hm⟩ | ⟨c10,hm⟩
 ·refine aV (by simp -dsimp) c10 ?_
  refine aU (aQ ?_)
  obtain⟨inner1,j18,hm⟩:=bnd hm
  refine scE [(2,vX 2),(4,vX 4),(5,vI (bc .i64 (aT am) i)),(6,vX 6),(7,vO 26),(8,vI a),(9,vX 9),(10,vO 42),(11,vI a1),(13,vO 62),(28,.u (.one (dR0 ak))),(29,vI (aT ak)),(30,vI a),(44,.u (.one (dL x.Next))),(45,vI (aT x.Next)),(46,vI a1),(64,.u (.one (dL x.Next))),(65,vI (aT x.Next)),(66,vI a2)] [(2,.box [dI al,.own 1000000,dR0 ak]),(4,.box [dI 0,.d .nil,.d .nil]),(6,.box [.own 5000,.map 21]),(9,.box [dI x.Level,dL x.Next]),(21,mOb .str kS (uL (L.int .i64)) mp1),(26,.row 1 3 (List.map (rI .i64) to_)),(42,.row 1 3 (List.map (rI .i64) next)),(62,.row 1 3 (List.map (rI .i64) inner1)),(5000,.row 2 32 (List.map Node.row l3)),(1000000,.row 2 67 (List.map Point.row am))] ?_ fun Z O hf=>?_
  ·replace hm:=j18
   clear j18
   refine aW ?_
   refine srs hn ?_
   obtain⟨x2,h11,hm⟩:=bnd hm
   simp -dsimp [hf,c10,h11]
   refine srs hn ?_
   obtain⟨x3,h12,hm⟩:=bnd hm
   obtain⟨x4,h13,hm⟩:=bnd hm
   obtain⟨x5,h14,hm⟩:=bnd hm
   simp -dsimp [hf,h12,h13,h14,bf h14,rsetI .i64 inner a2.toNat x4]
   refine srs hn ?_
   simp -dsimp [hf]
   rcases aZ hm with ⟨c15,hm⟩ | ⟨c15,hm⟩
   ·refine aV (by simp -dsimp) c15 ?_
    refine sr1 hn ?_
    obtain⟨x6,h16,hm⟩:=bnd hm
    obtain⟨x7,h17,hm⟩:=bnd hm
    simp -dsimp [hf,c15,h16,bf h16,h17,bf h17,rsetI .i64 (inner.set a2.toNat x4) a2.toNat x7]
    refine bv ?_
    cases hm
    exact EE.here (by simp -dsimp [hf])
   ·refine aX (by simp -dsimp) c15 ?_
    refine aU ?_
    refine bv ?_
    cases hm
    exact EE.here (by simp -dsimp [hf,c15])
  ·clear j18
   exact zz
 ·exact zz
def cS (cx:Cx) (al:Int) (am:List Point) (ak:List Node) (i a:Int) (to_:List Int) (x:Node) (tt:((List (List UInt8×Int))×(List Int)×(List Node))) (ee:Exit) (Z:Env) (O:Sto):Prop:=match tt with
 | (mp1,next,l3)=>ee=.exit 2/\EE cx (bg [(2,vX 2),(4,vX 4),(5,vI (bc .i64 (aT am) i)),(6,vX 6),(7,vO 26),(8,vI a),(9,vX 9),(10,vO 42),(28,.u (.one (dR0 ak))),(29,vI (aT ak)),(30,vI a)] [(2,.box [dI al,.own 1000000,dR0 ak]),(4,.box [dI 0,.d .nil,.d .nil]),(6,.box [.own 5000,.map 21]),(9,.box [dI x.Level,dL x.Next]),(21,mOb .str kS (uL (L.int .i64)) mp1),(26,.row 1 3 (List.map (rI .i64) to_)),(42,.row 1 3 (List.map (rI .i64) next)),(5000,.row 2 32 (List.map Node.row l3)),(1000000,.row 2 67 (List.map Point.row am))]) Z O
theorem i6 (cx:Cx) (hn:cx.n=137) (hk:cx.k=1) (al:Int) (am:List Point) (ak:List Node) (i a:Int) (to_:List Int) (x:Node) {fu:Nat} {stt:Int×(List (List UInt8×Int))×(List Int)×(List Node)} {tt:((List (List UInt8×Int))×(List Int)×(List Node))} (hh:aY (b_reduce_swapped_o_w_2 al am ak i a to_ x) fu stt=some tt) {Z:Env} {O:Sto}
  (hE:bl (fun stt:Int×(List (List UInt8×Int))×(List Int)×(List Node)=>match stt with | (a1,_mp1,_next,_l3)=>[(2,vX 2),(4,vX 4),(5,vI (bc .i64 (aT am) i)),(6,vX 6),(7,vO 26),(8,vI a),(9,vX 9),(10,vO 42),(28,.u (.one (dR0 ak))),(29,vI (aT ak)),(30,vI a),(44,.u (.one (dL x.Next))),(45,vI (aT x.Next)),(46,vI a1)]) (fun stt:Int×(List (List UInt8×Int))×(List Int)×(List Node)=>match stt with | (_a1,mp1,next,l3)=>[(2,.box [dI al,.own 1000000,dR0 ak]),(4,.box [dI 0,.d .nil,.d .nil]),(6,.box [.own 5000,.map 21]),(9,.box [dI x.Level,dL x.Next]),(21,mOb .str kS (uL (L.int .i64)) mp1),(26,.row 1 3 (List.map (rI .i64) to_)),(42,.row 1 3 (List.map (rI .i64) next)),(5000,.row 2 32 (List.map Node.row l3)),(1000000,.row 2 67 (List.map Point.row am))]) stt Z O):Swp Tryz.prog cx (.loop (bA [1,1,1,1,0,1,0,0,1,1,0,0,1,1,1,0,1,0,0] (be Tryz.f38))) Z O (cS cx al am ak i a to_ x tt):=by
 refine bm hE hh (cS cx al am ak i a to_ x) ?_
 rintro⟨a1,mp1,next,l3⟩ r hm Z O hf
 simp only[Fits,b8,b9,and_true] at hf
 unfold b_reduce_swapped_o_w_2 at hm
 dsimp only at hm
 refine srs hn ?_
 simp -dsimp [hf]
 refine aS ?_
 rcases aZ hm with ⟨c6,hm⟩ | ⟨c6,hm⟩
 ·refine aV (by simp -dsimp) c6 ?_
  refine aU (aQ (aS (aW ?_)))
  refine srs hn ?_
  obtain⟨x1,h7,hm⟩:=bnd hm
  simp -dsimp [hf,c6,h7]
  refine aW ?_
  refine srs hn ?_
  simp -dsimp [hf]
  rcases aZ hm with ⟨c8,hm⟩ | ⟨c8,hm⟩
  ·refine aV (by simp -dsimp) c8 ?_
   refine srs hn ?_
   obtain⟨l4,h9,hm⟩:=bnd hm
   obtain⟨⟨h9a,h9b,h9c⟩,rfl⟩:=gO h9
   simp -dsimp [hf,c8,h9a,h9c]
   refine aS ?_
   refine srs hn ?_
   simp -dsimp [hf]
   refine aW ?_
   obtain⟨inner,g19,hm⟩:=bnd hm
   refine bd (ig cx hn hk al am ak i a to_ x a1 mp1 next l3 g19) (by
     try dsimp only
     refine EE.here ?_
     exact zz
   ) fun ee Z O xx=>?_
   unfold cT at xx
   dsimp only at xx
   obtain⟨rfl,xx⟩:=xx
   refine bh ?_
   refine aQ ?_
   refine see xx fun Z O hf=>?_
   simp only[Fits,b8,b9,and_true] at hf
   refine sr1 hn ?_
   obtain⟨y,h20,hm⟩:=bnd hm
   simp -dsimp [hf]
   refine clg (dz l3 mp1 (bc .i64 (bc .i64 (aT am) i) 1) inner y h20) [6,5000,21,62] [5001] (by simp -dsimp [hf]) (dkL hn) ?_
   obtain⟨x2,h21,hm⟩:=bnd hm
   simp -dsimp [hf,h21,bf h21,rsetI .i64 next a1.toNat y.1]
   refine bv ?_
   refine bv ?_
   refine aQ ?_
   refine sr1 hn ?_
   simp -dsimp [hf]
   cases hm
   refine bE ?_
   refine emv 5001 5000 ?_
   exact zz
  ·refine aX (by simp -dsimp) c8 ?_
   refine srs hn ?_
   simp -dsimp [hf,c8]
   rcases aZ hm with ⟨c22,hm⟩ | ⟨c22,hm⟩
   ·refine aV (by simp -dsimp) c22 ?_
    refine sr1 hn ?_
    obtain⟨x2,h23,hm⟩:=bnd hm
    obtain⟨x3,h24,hm⟩:=bnd hm
    simp -dsimp [hf,c22,h23,bf h23,h24,bf h24,rsetI .i64 next a1.toNat x2]
    refine bv ?_
    refine bv ?_
    refine aQ ?_
    refine sr1 hn ?_
    simp -dsimp [hf]
    cases hm
    refine bE ?_
    exact EE.here (by simp -dsimp [hf])
   ·refine aX (by simp -dsimp) c22 ?_
    refine sr1 hn ?_
    obtain⟨x2,h25,hm⟩:=bnd hm
    simp -dsimp [hf,c22,h25,bf h25,rsetI .i64 next a1.toNat x1]
    refine bv ?_
    refine bv ?_
    refine aQ ?_
    refine sr1 hn ?_
    simp -dsimp [hf]
    cases hm
    refine bE ?_
    exact EE.here (by simp -dsimp [hf])
 ·exact zz
def cU (cx:Cx) (al:Int) (am:List Point) (ak:List Node) (_i:Int) (tt:((List (List UInt8×Int))×(List Int)×(List Node))) (ee:Exit) (Z:Env) (O:Sto):Prop:=match tt with
 | (mp,to_,l1)=>ee=.exit 0/\EE cx (bg [(2,vX 2),(4,vX 4),(6,vX 6),(7,vO 26)] [(2,.box [dI al,.own 1000000,dR0 ak]),(4,.box [dI 0,.d .nil,.d .nil]),(6,.box [.own 5000,.map 21]),(21,mOb .str kS (uL (L.int .i64)) mp),(26,.row 1 3 (List.map (rI .i64) to_)),(5000,.row 2 32 (List.map Node.row l1)),(1000000,.row 2 67 (List.map Point.row am))]) Z O
theorem im (cx:Cx) (hn:cx.n=137) (hk:cx.k=1) (al:Int) (am:List Point) (ak:List Node) (i:Int) {fu:Nat} {stt:Int×(List (List UInt8×Int))×(List Int)×(List Node)} {tt:((List (List UInt8×Int))×(List Int)×(List Node))} (hh:aY (b_reduce_swapped_o_w_1 al am ak i) fu stt=some tt) {Z:Env} {O:Sto}
  (hE:bl (fun stt:Int×(List (List UInt8×Int))×(List Int)×(List Node)=>match stt with | (a,_mp,_to_,_l1)=>[(2,vX 2),(4,vX 4),(5,vI (bc .i64 (aT am) i)),(6,vX 6),(7,vO 26),(28,.u (.one (dR0 ak))),(29,vI (aT ak)),(30,vI a)]) (fun stt:Int×(List (List UInt8×Int))×(List Int)×(List Node)=>match stt with | (_a,mp,to_,l1)=>[(2,.box [dI al,.own 1000000,dR0 ak]),(4,.box [dI 0,.d .nil,.d .nil]),(6,.box [.own 5000,.map 21]),(21,mOb .str kS (uL (L.int .i64)) mp),(26,.row 1 3 (List.map (rI .i64) to_)),(5000,.row 2 32 (List.map Node.row l1)),(1000000,.row 2 67 (List.map Point.row am))]) stt Z O):Swp Tryz.prog cx (.loop (bA [1,1,1,1,0,1,0,0] (be Tryz.f38))) Z O (cU cx al am ak i tt):=by
 refine bm hE hh (cU cx al am ak i) ?_
 rintro⟨a,mp,to_,l1⟩ r hm Z O hf
 simp only[Fits,b8,b9,and_true] at hf
 unfold b_reduce_swapped_o_w_1 at hm
 dsimp only at hm
 refine srs hn ?_
 simp -dsimp [hf]
 refine aS ?_
 rcases aZ hm with ⟨c2,hm⟩ | ⟨c2,hm⟩
 ·refine aV (by simp -dsimp) c2 ?_
  refine aU (aQ (aS (aW ?_)))
  refine srs hn ?_
  obtain⟨x,h3,hm⟩:=bnd hm
  simp -dsimp [hf,c2,h3]
  refine aS ?_
  refine srs hn ?_
  simp -dsimp [hf]
  rcases aZ hm with ⟨c4,hm⟩ | ⟨c4,hm⟩
  ·exact zz
  ·refine aX (by simp -dsimp) c4 ?_
   refine aU (aQ ?_)
   refine srs hn ?_
   obtain⟨l2,h5,hm⟩:=bnd hm
   obtain⟨⟨h5a,h5b,h5c⟩,rfl⟩:=gO h5
   simp -dsimp [hf,c4,h5a,h5c]
   refine aS ?_
   refine srs hn ?_
   simp -dsimp
   refine aW ?_
   obtain⟨⟨mp1,next,l3⟩,g26,hm⟩:=bnd hm
   refine bd (i6 cx hn hk al am ak i a to_ x g26) (by
     try dsimp only
     refine EE.here ?_
     exact zz
   ) fun ee Z O xx=>?_
   unfold cS at xx
   dsimp only at xx
   obtain⟨rfl,xx⟩:=xx
   refine bh ?_
   refine aQ ?_
   refine see xx fun Z O hf=>?_
   simp only[Fits,b8,b9,and_true] at hf
   refine sr1 hn ?_
   obtain⟨y,h27,hm⟩:=bnd hm
   simp -dsimp [hf]
   refine clg (dz l3 mp1 x.Level next y h27) [6,5000,21,42] [5002] (by simp -dsimp [hf]) (dkL hn) ?_
   obtain⟨x1,h28,hm⟩:=bnd hm
   simp -dsimp [hf,h28,bf h28,rsetI .i64 to_ a.toNat y.1]
   refine bv ?_
   refine aQ ?_
   refine sr1 hn ?_
   simp -dsimp [hf]
   cases hm
   refine bE ?_
   refine emv 5002 5000 ?_
   exact zz
 ·exact zz
theorem g_reduce_swapped_o_w (al:Int) (am:List Point) (ak:List Node) (i:Int) (r:List Node) (hm:m_reduce_swapped_o_w al am ak i=some r):GFn Tryz.prog 38 [.u (.agg [dI al,.own 1000000,dR0 ak]),vI i] [.row 2 67 (List.map Point.row am)] (.u (.agg [dI al,.own 1000000,dR0 r])) [some (.row 2 67 (List.map Point.row am))]:=by
 refine bI bj _ Tryz.func38 rfl (by kernel_rfl) (by simp[Tryz.ntmps38]) (by simp) (by first | rfl | simp) (by first | rfl | simp) fun cx hn hk=>?_
 replace hn:cx.n=137:=hn.trans Tryz.ntmps38
 replace hk:cx.k=1:=hk
 unfold m_reduce_swapped_o_w at hm
 refine srs hn ?_
 simp -dsimp
 refine srs hn ?_
 simp -dsimp
 refine srs hn ?_
 simp -dsimp [(@id (Ob.map .str []=mOb .str kS (uL (L.int .i64)) ([]:List (List UInt8×Int))) (fC .str kS (uL (L.int .i64))))]
 refine srs hn ?_
 obtain⟨l,h1,hm⟩:=bnd hm
 obtain⟨⟨h1a,h1b,h1c⟩,rfl⟩:=gO h1
 simp -dsimp [h1a,h1c]
 refine aS ?_
 refine srs hn ?_
 simp -dsimp
 refine aW ?_
 obtain⟨⟨mp,to_,l1⟩,g29,hm⟩:=bnd hm
 refine bd (im cx hn hk al am ak i g29) (by
   try dsimp only
   refine EE.step (Wk.own0b 6 0 5000 2 32 [.d .nil,.map 21] (by simp -dsimp) (by rfl) (by decide) (by decide)) ?_
   exact zz
 ) fun ee Z O xx=>?_
 unfold cU at xx
 dsimp only at xx
 obtain⟨rfl,xx⟩:=xx
 refine bh ?_
 refine aQ ?_
 refine see xx fun Z O hf=>?_
 simp only[Fits,b8,b9,and_true] at hf
 refine Swp.pre (Wk.frz 5000 2 32 (List.map Node.row l1) (by simp -dsimp [hf])) ?_
 refine gt bj mixed 13 (by rw[hn]; kernel_rfl) ?_
 dsimp only [List.take,List.drop]
 obtain⟨x,h30,hm⟩:=bnd hm
 obtain⟨y,h31,hm⟩:=bnd hm
 simp -dsimp [hf,h30,bf h30]
 refine b7 (eT l1 x y h31) ?_
 exact zz
end
theorem c_reduce_sized (t:Tree) (r:Tree×Int) (hm:m_reduce_sized t=some r):PureCall Tryz.prog 39 [.u (.agg [dI t.States,dR1 t.Hood,dR0 t.Nodes])] (.tup [.agg [dI r.1.States,dR1 r.1.Hood,dR0 r.1.Nodes],.one (dI r.2)]):=by
 refine bo Tryz.func39 Tryz.ntmps39 fun cx hn=>?_
 unfold m_reduce_sized at hm
 exact zz
section
attribute [-simp] List.map_set List.set_set
def ft (cx:Cx) (_k:Int) (y1:Int×(List Node)×(List Point)) (tt:(List Point)) (ee:Exit) (Z:Env) (O:Sto):Prop:=match tt with
 | l=>ee=.exit 0/\EE cx (bg [(4,vX 4),(6,vX 6)] [(4,.box [dI 0,.d .nil,.d .nil]),(6,.box [dI y1.1,.own 5000,dR0 y1.2.1]),(5000,.row 2 67 (List.map Point.row l))]) Z O
theorem l_reduce_Turn_1 (cx:Cx) (hn:cx.n=83) (k:Int) (y1:Int×(List Node)×(List Point)) {fu:Nat} {stt:Int×(List Point)} {tt:(List Point)} (hh:aY (b_reduce_Turn_1 k y1) fu stt=some tt) {Z:Env} {O:Sto}
  (hE:bl (fun stt:Int×(List Point)=>match stt with | (a,_l)=>[(0,vI k),(4,vX 4),(6,vX 6),(18,vO 5000),(19,vI (aT y1.2.2)),(20,vI a)]) (fun stt:Int×(List Point)=>match stt with | (_a,l)=>[(4,.box [dI 0,.d .nil,.d .nil]),(6,.box [dI y1.1,.own 5000,dR0 y1.2.1]),(5000,.row 2 67 (List.map Point.row l))]) stt Z O):Swp Tryz.prog cx (.loop (bA [1,1,1,0,1,0,0] (be Tryz.f13))) Z O (ft cx k y1 tt):=by
 refine bm hE hh (ft cx k y1) ?_
 rintro⟨a,l⟩ r hm Z O hf
 simp only[Fits,b8,b9,and_true] at hf
 unfold b_reduce_Turn_1 at hm
 dsimp only at hm
 refine srs hn ?_
 simp -dsimp [hf]
 refine aS ?_
 rcases aZ hm with ⟨c4,hm⟩ | ⟨c4,hm⟩
 ·refine aV (by simp -dsimp) c4 ?_
  refine aU (aQ (aS (aW ?_)))
  refine srs hn ?_
  obtain⟨x,h5,hm⟩:=bnd hm
  simp -dsimp [hf,c4,h5,bf h5]
  refine sw_drN bj mixed 6 (by rw[hn]; kernel_rfl) ?_
  dsimp only [List.take,List.drop]
  obtain⟨y2,h6,hm⟩:=bnd hm
  simp -dsimp [hf]
  refine b7 (c_symmetry_Apply k x y2 h6) ?_
  simp -dsimp [hf,h5,bf h5,Point.rset l a.toNat y2.X y2.Y]
  refine bv ?_
  refine aQ ?_
  refine sr1 hn ?_
  simp -dsimp [hf]
  cases hm
  refine bE ?_
  exact EE.here (by simp -dsimp [hf])
 ·exact zz
def F_reduce_Turn_3 (cx:Cx) (y1:Int×(List Node)×(List Point)) (tt:(Bool×(List Node)×(List Point))) (ee:Exit) (Z:Env) (O:Sto):Prop:=match tt with
 | (aE,aD,l2)=>ee=.exit 4/\EE cx (bg [(4,vX 4),(6,vX 6),(9,vT aE)] [(4,.box [dI 0,.d .nil,.d .nil]),(6,.box [dI y1.1,.own 5000,dR0 aD]),(5000,.row 2 67 (List.map Point.row l2))]) Z O
theorem l_reduce_Turn_3 (cx:Cx) (hn:cx.n=83) (y1:Int×(List Node)×(List Point)) {fu:Nat} {stt:Bool×Int×(List Node)×(List Point)} {tt:(Bool×(List Node)×(List Point))} (hh:aY (b_reduce_Turn_3 y1) fu stt=some tt) {Z:Env} {O:Sto}
  (hE:bl (fun stt:Bool×Int×(List Node)×(List Point)=>match stt with | (aE,i,_aD,_l2)=>[(4,vX 4),(6,vX 6),(9,vT aE),(10,vI i)]) (fun stt:Bool×Int×(List Node)×(List Point)=>match stt with | (_aE,_i,aD,l2)=>[(4,.box [dI 0,.d .nil,.d .nil]),(6,.box [dI y1.1,.own 5000,dR0 aD]),(5000,.row 2 67 (List.map Point.row l2))]) stt Z O):Swp Tryz.prog cx (.loop (bA [1,1,1,1,0,1,0,0,1,0,1,1,0,0] (be Tryz.f13))) Z O (F_reduce_Turn_3 cx y1 tt):=by
 refine bm hE hh (F_reduce_Turn_3 cx y1) ?_
 rintro⟨aE,i,aD,l2⟩ r hm Z O hf
 simp only[Fits,b8,b9,and_true] at hf
 unfold b_reduce_Turn_3 at hm
 dsimp only at hm
 refine aS ?_
 refine srs hn ?_
 simp -dsimp [hf]
 rcases aZ hm with ⟨c9,hm⟩ | ⟨c9,hm⟩
 ·refine aV (by simp -dsimp) c9 ?_
  refine aU (aQ ?_)
  obtain⟨⟨sorted2,uNodes2,l3⟩,j16,hm⟩:=bnd hm
  refine scE [(4,vX 4),(6,vX 6),(9,vT sorted2),(10,vI i)] [(4,.box [dI 0,.d .nil,.d .nil]),(6,.box [dI y1.1,.own 5000,dR0 uNodes2]),(5000,.row 2 67 (List.map Point.row l3))] ?_ fun Z O hf=>?_
  ·replace hm:=j16
   clear j16
   refine aW ?_
   refine sw_qts bj mixed (by rw[hn]; kernel_rfl) ?_
   obtain⟨x,h10,hm⟩:=bnd hm
   obtain⟨x1,h11,hm⟩:=bnd hm
   obtain⟨y2,h12,hm⟩:=bnd hm
   simp -dsimp [hf,c9,h10,bf h10,h11,bf h11]
   refine b7 (c_point_Compare x x1 y2 h12) ?_
   simp -dsimp
   rcases aZ hm with ⟨c13,hm⟩ | ⟨c13,hm⟩
   ·refine aV (by simp -dsimp) c13 ?_
    refine srs hn ?_
    obtain⟨y3,h14,hm⟩:=bnd hm
    simp -dsimp [hf,c13]
    refine clg (g_reduce_swapped_o_w y1.1 l2 aD (bc .i64 i 1) y3 h14) [5000] [] (by simp -dsimp [hf]) (dkL hn) ?_
    simp -dsimp [hf]
    refine f9 bj mixed 19 20 20 0 [[4,5,6]] [[]] [] none (by rw[hn]; kernel_rfl) cM ?_
    dsimp only [List.take,List.drop,dy,dO,eY,pk,List.cons_append,List.nil_append,List.flatten_cons,List.flatten_nil,cC,cE,List.append_nil]
    obtain⟨x2,h15,hm⟩:=bnd hm
    simp -dsimp [hf,h10,bf h10,h11,bf h11,Point.rset l2 (bc .i64 i 1).toNat x1.X x1.Y,h15,bf h15,Point.rset (l2.set (bc .i64 i 1).toNat x1) i.toNat x.X x.Y]
    refine sr1 hn ?_
    simp -dsimp
    refine bv ?_
    cases hm
    exact EE.here (by simp -dsimp [hf])
   ·exact zz
  ·clear j16
   exact zz
 ·exact zz
def fp (cx:Cx) (y1:Int×(List Node)×(List Point)) (tt:((List Node)×(List Point))) (ee:Exit) (Z:Env) (O:Sto):Prop:=match tt with
 | (aJ,l1)=>ee=.exit 2/\EE cx (bg [(4,vX 4),(6,vX 6)] [(4,.box [dI 0,.d .nil,.d .nil]),(6,.box [dI y1.1,.own 5000,dR0 aJ]),(5000,.row 2 67 (List.map Point.row l1))]) Z O
theorem l_reduce_Turn_2 (cx:Cx) (hn:cx.n=83) (y1:Int×(List Node)×(List Point)) {fu:Nat} {stt:Bool×(List Node)×(List Point)} {tt:((List Node)×(List Point))} (hh:aY (b_reduce_Turn_2 y1) fu stt=some tt) {Z:Env} {O:Sto}
  (hE:bl (fun stt:Bool×(List Node)×(List Point)=>match stt with | (sorted,_aJ,_l1)=>[(4,vX 4),(6,vX 6),(9,vT sorted)]) (fun stt:Bool×(List Node)×(List Point)=>match stt with | (_sorted,aJ,l1)=>[(4,.box [dI 0,.d .nil,.d .nil]),(6,.box [dI y1.1,.own 5000,dR0 aJ]),(5000,.row 2 67 (List.map Point.row l1))]) stt Z O):Swp Tryz.prog cx (.loop (bA [1,1,1,1,0,1,0,0] (be Tryz.f13))) Z O (fp cx y1 tt):=by
 refine bm hE hh (fp cx y1) ?_
 rintro⟨sorted,aJ,l1⟩ r hm Z O hf
 simp only[Fits,b8,b9,and_true] at hf
 unfold b_reduce_Turn_2 at hm
 dsimp only at hm
 refine aS ?_
 refine srs hn ?_
 simp -dsimp [hf]
 rcases aZ hm with ⟨c8,hm⟩ | ⟨c8,hm⟩
 ·refine aV (by simp -dsimp) c8 ?_
  refine aU (aQ (aW ?_))
  refine srs hn ?_
  simp -dsimp [c8]
  refine srs hn ?_
  simp -dsimp
  refine aW ?_
  obtain⟨⟨aE,aD,l2⟩,g17,hm⟩:=bnd hm
  refine bd (l_reduce_Turn_3 cx hn y1 g17) (by
    try dsimp only
    exact EE.here (by simp -dsimp [hf])
  ) fun ee Z O xx=>?_
  exact zz
 ·exact zz
theorem c_reduce_Turn (k:Int) (t:Tree) (r:Tree×Int) (hm:m_reduce_Turn k t=some r):PureCall Tryz.prog 13 [vI k,.u (.agg [dI t.States,dR1 t.Hood,dR0 t.Nodes])] (.tup [.agg [dI r.1.States,dR1 r.1.Hood,dR0 r.1.Nodes],.one (dI r.2)]):=by
 refine bo Tryz.func13 Tryz.ntmps13 fun cx hn=>?_
 unfold m_reduce_Turn at hm
 refine srs hn ?_
 simp -dsimp
 refine aS ?_
 refine srs hn ?_
 obtain⟨y,h1,hm⟩:=bnd hm
 simp -dsimp
 refine aR (dx t y h1) (dkL hn) ?_
 simp -dsimp
 rcases aZ hm with ⟨c2,hm⟩ | ⟨c2,hm⟩
 ·exact zz
 ·refine aX (by simp -dsimp) c2 ?_
  refine aU (aQ ?_)
  refine srs hn ?_
  obtain⟨y1,h3,hm⟩:=bnd hm
  simp -dsimp [c2]
  refine clg (g_reduce_Reduce_w t y1 h3) [] [5000] (by simp -dsimp) (dkL hn) ?_
  simp -dsimp
  refine aS ?_
  refine srs hn ?_
  simp -dsimp
  refine aW ?_
  obtain⟨l,g7,hm⟩:=bnd hm
  refine bd (l_reduce_Turn_1 cx hn k y1 g7) (by
    try dsimp only
    exact EE.here (by simp -dsimp)
  ) fun ee Z O xx=>?_
  unfold ft at xx
  dsimp only at xx
  obtain⟨rfl,xx⟩:=xx
  refine bh ?_
  refine aQ ?_
  refine see xx fun Z O hf=>?_
  simp only[Fits,b8,b9,and_true] at hf
  refine aS ?_
  refine srs hn ?_
  simp -dsimp
  refine aW ?_
  obtain⟨⟨aJ,l1⟩,g18,hm⟩:=bnd hm
  refine bd (l_reduce_Turn_2 cx hn y1 g18) (by
    try dsimp only
    exact EE.here (by simp -dsimp [hf])
  ) fun ee Z O xx=>?_
  unfold fp at xx
  dsimp only at xx
  obtain⟨rfl,xx⟩:=xx
  refine bh ?_
  refine aQ ?_
  refine see xx fun Z O hf=>?_
  simp only[Fits,b8,b9,and_true] at hf
  refine Swp.pre (Wk.frz 5000 2 67 (List.map Point.row l1) (by simp -dsimp [hf])) ?_
  refine srs hn ?_
  obtain⟨y2,h19,hm⟩:=bnd hm
  simp -dsimp [hf]
  refine aR (c_reduce_sized (⟨y1.1,l1,aJ⟩:Tree) y2 h19) (dkL hn) ?_
  exact zz
end
section
attribute [-simp] List.map_set List.set_set
def bP (cx:Cx) (t:Tree) (a:Int) (mp:List (List UInt8×Int)) (l:List Node) (to_:List Int) (x:Node) (_y:List Int) (tt:(List Int)) (ee:Exit) (Z:Env) (O:Sto):Prop:=match tt with
 | next=>ee=.exit 2/\EE cx (bg [(1,.u (.one (.fn 96 []))),(2,vX 2),(4,vX 4),(5,vX 5),(6,vO 5002),(8,vX 8),(9,vO 23),(15,.u (.one (dR0 t.Nodes))),(16,vI (aT t.Nodes)),(17,vI a)] [(2,.box [dI t.States,dR1 t.Hood,dR0 t.Nodes]),(4,.box [dI 0,.d .nil,.d .nil]),(5,.box [.own 5000,.map 12]),(8,.box [dI x.Level,dL x.Next]),(12,mOb .str kS (uL (L.int .i64)) mp),(23,.row 1 3 (List.map (rI .i64) next)),(5000,.row 2 32 (List.map Node.row l)),(5002,.row 1 3 (List.map (rI .i64) to_))]) Z O
theorem ea (cx:Cx) (hn:cx.n=69) (t:Tree) (a:Int) (mp:List (List UInt8×Int)) (l:List Node) (to_:List Int) (x:Node) (y:List Int) {fu:Nat} {stt:Int×(List Int)} {tt:(List Int)} (hh:aY (b_reduce_rebuilt_reduce_Reduce_1_2 t a mp l to_ x y) fu stt=some tt) {Z:Env} {O:Sto}
  (hE:bl (fun stt:Int×(List Int)=>match stt with | (a1,_next)=>[(1,.u (.one (.fn 96 []))),(2,vX 2),(4,vX 4),(5,vX 5),(6,vO 5002),(8,vX 8),(9,vO 23),(15,.u (.one (dR0 t.Nodes))),(16,vI (aT t.Nodes)),(17,vI a),(24,vO 23),(25,vI (aT y)),(26,vI a1)]) (fun stt:Int×(List Int)=>match stt with | (_a1,next)=>[(2,.box [dI t.States,dR1 t.Hood,dR0 t.Nodes]),(4,.box [dI 0,.d .nil,.d .nil]),(5,.box [.own 5000,.map 12]),(8,.box [dI x.Level,dL x.Next]),(12,mOb .str kS (uL (L.int .i64)) mp),(23,.row 1 3 (List.map (rI .i64) next)),(5000,.row 2 32 (List.map Node.row l)),(5002,.row 1 3 (List.map (rI .i64) to_))]) stt Z O):Swp Tryz.prog cx (.loop (bA [1,1,1,0,1,0,0,1,1,0,0,1,1,0,1,0,0] (be Tryz.f95))) Z O (bP cx t a mp l to_ x y tt):=by
 refine bm hE hh (bP cx t a mp l to_ x y) ?_
 rintro⟨a1,next⟩ r hm Z O hf
 simp only[Fits,b8,b9,and_true] at hf
 unfold b_reduce_rebuilt_reduce_Reduce_1_2 at hm
 dsimp only at hm
 refine srs hn ?_
 simp -dsimp [hf]
 refine aS ?_
 rcases aZ hm with ⟨c4,hm⟩ | ⟨c4,hm⟩
 ·refine aV (by simp -dsimp) c4 ?_
  refine aU (aQ ?_)
  obtain⟨next1,j8,hm⟩:=bnd hm
  refine scE [(1,.u (.one (.fn 96 []))),(2,vX 2),(4,vX 4),(5,vX 5),(6,vO 5002),(8,vX 8),(9,vO 23),(15,.u (.one (dR0 t.Nodes))),(16,vI (aT t.Nodes)),(17,vI a),(24,vO 23),(25,vI (aT y)),(26,vI a1)] [(2,.box [dI t.States,dR1 t.Hood,dR0 t.Nodes]),(4,.box [dI 0,.d .nil,.d .nil]),(5,.box [.own 5000,.map 12]),(8,.box [dI x.Level,dL x.Next]),(12,mOb .str kS (uL (L.int .i64)) mp),(23,.row 1 3 (List.map (rI .i64) next1)),(5000,.row 2 32 (List.map Node.row l)),(5002,.row 1 3 (List.map (rI .i64) to_))] ?_ fun Z O hf=>?_
  ·replace hm:=j8
   clear j8
   refine aW ?_
   refine srs hn ?_
   obtain⟨x1,h5,hm⟩:=bnd hm
   simp -dsimp [hf,c4,h5,bf h5]
   refine srs hn ?_
   simp -dsimp [hf]
   rcases aZ hm with ⟨c6,hm⟩ | ⟨c6,hm⟩
   ·refine aV (by simp -dsimp) c6 ?_
    refine sr1 hn ?_
    obtain⟨x2,h7,hm⟩:=bnd hm
    simp -dsimp [hf,h5,bf h5,c6,h7,bf h7,rsetI .i64 next a1.toNat x2]
    refine bv ?_
    cases hm
    exact EE.here (by simp -dsimp [hf])
   ·refine aX (by simp -dsimp) c6 ?_
    refine aU ?_
    refine bv ?_
    cases hm
    exact EE.here (by simp -dsimp [hf,c6])
  ·clear j8
   exact zz
 ·exact zz
def bO (cx:Cx) (t:Tree) (tt:((List (List UInt8×Int))×(List Node)×(List Int))) (ee:Exit) (Z:Env) (O:Sto):Prop:=match tt with
 | (mp,l,to_)=>ee=.exit 0/\EE cx (bg [(2,vX 2),(4,vX 4),(5,vX 5),(6,vO 5002)] [(2,.box [dI t.States,dR1 t.Hood,dR0 t.Nodes]),(4,.box [dI 0,.d .nil,.d .nil]),(5,.box [.own 5000,.map 12]),(12,mOb .str kS (uL (L.int .i64)) mp),(5000,.row 2 32 (List.map Node.row l)),(5002,.row 1 3 (List.map (rI .i64) to_))]) Z O
theorem ec (cx:Cx) (hn:cx.n=69) (t:Tree) {fu:Nat} {stt:Int×(List (List UInt8×Int))×(List Node)×(List Int)} {tt:((List (List UInt8×Int))×(List Node)×(List Int))} (hh:aY (b_reduce_rebuilt_reduce_Reduce_1_1 t) fu stt=some tt) {Z:Env} {O:Sto}
  (hE:bl (fun stt:Int×(List (List UInt8×Int))×(List Node)×(List Int)=>match stt with | (a,_mp,_l,_to_)=>[(1,.u (.one (.fn 96 []))),(2,vX 2),(4,vX 4),(5,vX 5),(6,vO 5002),(15,.u (.one (dR0 t.Nodes))),(16,vI (aT t.Nodes)),(17,vI a)]) (fun stt:Int×(List (List UInt8×Int))×(List Node)×(List Int)=>match stt with | (_a,mp,l,to_)=>[(2,.box [dI t.States,dR1 t.Hood,dR0 t.Nodes]),(4,.box [dI 0,.d .nil,.d .nil]),(5,.box [.own 5000,.map 12]),(12,mOb .str kS (uL (L.int .i64)) mp),(5000,.row 2 32 (List.map Node.row l)),(5002,.row 1 3 (List.map (rI .i64) to_))]) stt Z O):Swp Tryz.prog cx (.loop (bA [1,1,1,0,1,0,0] (be Tryz.f95))) Z O (bO cx t tt):=by
 refine bm hE hh (bO cx t) ?_
 rintro⟨a,mp,l,to_⟩ r hm Z O hf
 simp only[Fits,b8,b9,and_true] at hf
 unfold b_reduce_rebuilt_reduce_Reduce_1_1 at hm
 dsimp only at hm
 refine srs hn ?_
 simp -dsimp [hf]
 refine aS ?_
 rcases aZ hm with ⟨c1,hm⟩ | ⟨c1,hm⟩
 ·refine aV (by simp -dsimp) c1 ?_
  refine aU (aQ (aS (aW ?_)))
  refine srs hn ?_
  obtain⟨x,h2,hm⟩:=bnd hm
  simp -dsimp [hf,c1,h2]
  refine srs hn ?_
  obtain⟨y,h3,hm⟩:=bnd hm
  simp -dsimp
  refine callL_new (cY x.Next y h3) (dkL hn) (by decide) ?_
  simp -dsimp
  refine aS ?_
  refine srs hn ?_
  simp -dsimp
  refine aW ?_
  obtain⟨next,g9,hm⟩:=bnd hm
  refine bd (ea cx hn t a mp l to_ x y g9) (by
    try dsimp only
    exact EE.here (by simp -dsimp [hf])
  ) fun ee Z O xx=>?_
  unfold bP at xx
  dsimp only at xx
  obtain⟨rfl,xx⟩:=xx
  refine bh ?_
  refine aQ ?_
  refine see xx fun Z O hf=>?_
  simp only[Fits,b8,b9,and_true] at hf
  refine Swp.pre (Wk.frz 23 1 3 (List.map (rI .i64) next) (by simp -dsimp [hf])) ?_
  refine sw_midc bj mixed 8 9 10 0 [[0]] [[5001]] [true] none (by rw[hn]; kernel_rfl) cM ?_
  dsimp only [List.take,List.drop,dy,dO,eY,pk,List.cons_append,List.nil_append,List.flatten_cons,List.flatten_nil,cC,cE,List.append_nil]
  obtain⟨y1,h10,hm⟩:=bnd hm
  simp -dsimp [hf]
  refine b7 (gv x.Level next y1 h10) ?_
  obtain⟨y2,h11,hm⟩:=bnd hm
  simp -dsimp [hf]
  refine callE_g (ep l mp x.Level y1 y2 h11) [5,5000,12] [5001] rfl rfl rfl (by simp -dsimp) rfl (by simp -dsimp [hf]) (by first | rfl | simp) rfl (dkL hn) rfl rfl (by simp) nofun (by simp) ?_
  obtain⟨l1,h12,hm⟩:=bnd hm
  obtain⟨h12a,h12e⟩:=b6 h12
  replace h12e:=h12e.symm
  subst h12e
  try simp only[List.length_cons,List.length_nil,Nat.zero_add] at h12a
  simp -dsimp [hf,h12a]
  refine bv ?_
  refine aQ ?_
  refine sr1 hn ?_
  simp -dsimp [hf]
  cases hm
  refine bE ?_
  refine emv 52 5002 ?_
  refine emv 5001 5000 ?_
  exact zz
 ·exact zz
theorem eB (t r:Tree) (hm:m_reduce_rebuilt_reduce_Reduce_1 t=some r):PureCall Tryz.prog 95 [.u (.agg [dI t.States,dR1 t.Hood,dR0 t.Nodes]),.u (.one (.fn 96 []))] (.u (.agg [dI r.States,dR1 r.Hood,dR0 r.Nodes])):=by
 refine bo Tryz.func95 Tryz.ntmps95 fun cx hn=>?_
 unfold m_reduce_rebuilt_reduce_Reduce_1 at hm
 refine srs hn ?_
 simp -dsimp
 refine srs hn ?_
 simp -dsimp [(@id (Ob.map .str []=mOb .str kS (uL (L.int .i64)) ([]:List (List UInt8×Int))) (fC .str kS (uL (L.int .i64))))]
 refine srs hn ?_
 simp -dsimp
 refine aS ?_
 refine srs hn ?_
 simp -dsimp
 refine aW ?_
 obtain⟨⟨mp,l,to_⟩,g13,hm⟩:=bnd hm
 refine bd (ec cx hn t g13) (by
   try dsimp only
   refine EE.step (Wk.own0 6 5002 1 3 (by simp -dsimp) (by decide)) ?_
   refine EE.step (Wk.own0b 5 0 5000 2 32 [.d .nil,.map 12] (by simp -dsimp) (by rfl) (by decide) (by decide)) ?_
   exact zz
 ) fun ee Z O xx=>?_
 unfold bO at xx
 dsimp only at xx
 obtain⟨rfl,xx⟩:=xx
 refine bh ?_
 refine aQ ?_
 refine see xx fun Z O hf=>?_
 simp only[Fits,b8,b9,and_true] at hf
 refine Swp.pre (Wk.frz 5000 2 32 (List.map Node.row l) (by simp -dsimp [hf])) ?_
 refine gt bj mixed 14 (by rw[hn]; kernel_rfl) ?_
 dsimp only [List.take,List.drop]
 obtain⟨y,h14,hm⟩:=bnd hm
 simp -dsimp [hf]
 refine b7 (cr t.Hood y h14) ?_
 obtain⟨x,h15,hm⟩:=bnd hm
 obtain⟨y1,h16,hm⟩:=bnd hm
 simp -dsimp [hf,h15,bf h15]
 refine b7 (eT l x y1 h16) ?_
 exact zz
end
end Go.Proofs.YtcllfealpkhjfaaGreatDoor
namespace Go.Proofs.YtcllfealpkhjfaaGreatDoor
open Go.AM Go.Proofs
set_option maxRecDepth 100000
attribute [-simp] qlookup cd cW Ob.wipe Ob.ren Ob.frz1
theorem c_reduce_Reduce (t r:Tree) (hm:m_reduce_Reduce t=some r):PureCall Tryz.prog 35 [.u (.agg [dI t.States,dR1 t.Hood,dR0 t.Nodes])] (.u (.agg [dI r.States,dR1 r.Hood,dR0 r.Nodes])):=by
 refine bo Tryz.func35 Tryz.ntmps35 fun cx hn=>?_
 unfold m_reduce_Reduce at hm
 refine srs hn ?_
 simp -dsimp
 refine aS ?_
 refine srs hn ?_
 obtain⟨y,h1,hm⟩:=bnd hm
 simp -dsimp
 refine aR (dx t y h1) (dkL hn) ?_
 simp -dsimp
 rcases aZ hm with ⟨c2,hm⟩ | ⟨c2,hm⟩
 ·exact zz
 ·refine aX (by simp -dsimp) c2 ?_
  refine aU (aQ ?_)
  refine srs hn ?_
  obtain⟨y1,h3,hm⟩:=bnd hm
  simp -dsimp [c2]
  refine aR (eB t y1 h3) (dkL hn) ?_
  exact zz
def dS (cx:Cx) (_sv1 _sv2:List Int) (tt:Bool ⊕ Unit) (ee:Exit) (Z:Env) (O:Sto):Prop:=match tt with
 | .inl r=>ee=.ret/\EE cx (fun Z O=>∃ v,di tb Z O Tryz.f104.results.toList=some v/\(v.frz O).free=true/\(v.frz O).wk (vT r)) Z O
 | .inr _u=>ee=.exit 0/\EE cx (bg [] []) Z O
theorem gF (cx:Cx) (hn:cx.n=26) (sv1 sv2:List Int) {fu:Nat} {stt:Int} {tt:Bool ⊕ Unit} (hh:aY (b_slices_Equal_int_int_1 sv1 sv2) fu stt=some tt) {Z:Env} {O:Sto}
  (hE:bl (fun a:Int=>[(0,.u (.one (dL sv1))),(1,.u (.one (dL sv2))),(12,vI (aT sv1)),(13,vI a)]) (fun _a:Int=>[]) stt Z O):Swp Tryz.prog cx (.loop (bA [1,1,0,1,0,0] (be Tryz.f104))) Z O (dS cx sv1 sv2 tt):=by
 refine bm hE hh (dS cx sv1 sv2) ?_
 rintro a r hm Z O hf
 simp only[Fits,b8,b9,and_true] at hf
 unfold b_slices_Equal_int_int_1 at hm
 exact zz
theorem gV (sv1 sv2:List Int) (r:Bool) (hm:m_slices_Equal_int_int sv1 sv2=some r):PureCall Tryz.prog 104 [.u (.one (dL sv1)),.u (.one (dL sv2))] (vT r):=by
 refine bo Tryz.func104 Tryz.ntmps104 fun cx hn=>?_
 unfold m_slices_Equal_int_int at hm
 refine srs hn ?_
 simp -dsimp
 refine aS ?_
 refine srs hn ?_
 simp -dsimp
 rcases aZ hm with ⟨c1,hm⟩ | ⟨c1,hm⟩
 ·exact zz
 ·refine scf c1 ?_
  refine aU (aQ (aS ?_))
  refine srs hn ?_
  simp -dsimp [c1]
  refine aW ?_
  obtain⟨o_,g6,hm⟩:=bnd hm
  refine bd (gF cx hn sv1 sv2 g6) (by
    try dsimp only
    exact EE.here (by simp -dsimp)
  ) fun ee Z O xx=>?_
  rcases o_ with r | _u
  ·exact zz
  ·exact zz
theorem c_tree_Same_1 (x y:Node) (r:Bool) (hm:m_tree_Same_1 x y=some r):PureCall Tryz.prog 103 [.u (.agg [dI x.Level,dL x.Next]),.u (.agg [dI y.Level,dL y.Next])] (vT r):=by
 refine bo Tryz.func103 Tryz.ntmps103 fun cx hn=>?_
 unfold m_tree_Same_1 at hm
 refine srs hn ?_
 simp -dsimp
 obtain⟨a,j3,hm⟩:=bnd hm
 refine scE [(4,vT a)] [] ?_ fun Z O hf=>?_
 ·replace hm:=j3
  clear j3
  refine sr1 hn ?_
  rcases aZ hm with ⟨c1,hm⟩ | ⟨c1,hm⟩
  ·obtain⟨y1,h2,hm⟩:=bnd hm
   simp -dsimp [c1]
   refine aR (gV x.Next y.Next y1 h2) (dkL hn) ?_
   exact zz
  ·exact zz
 ·clear j3
  exact zz
def bn (cx:Cx) (_sv1 _sv2:List Node) (tt:Bool ⊕ Unit) (ee:Exit) (Z:Env) (O:Sto):Prop:=match tt with
 | .inl r=>ee=.ret/\EE cx (fun Z O=>∃ v,di tb Z O Tryz.f102.results.toList=some v/\(v.frz O).free=true/\(v.frz O).wk (vT r)) Z O
 | .inr _u=>ee=.exit 0/\EE cx (bg [] []) Z O
theorem bM (cx:Cx) (hn:cx.n=32) (sv1 sv2:List Node) {fu:Nat} {stt:Int} {tt:Bool ⊕ Unit} (hh:aY (b_slices_EqualFunc_api_Node_api_Node_api_Node_api_Node_tree_Same_1_1 sv1 sv2) fu stt=some tt) {Z:Env} {O:Sto}
  (hE:bl (fun a:Int=>[(1,.u (.one (dR0 sv2))),(2,.u (.one (.fn 103 []))),(15,.u (.one (dR0 sv1))),(16,vI (aT sv1)),(17,vI a)]) (fun _a:Int=>[]) stt Z O):Swp Tryz.prog cx (.loop (bA [1,1,0,1,0,0] (be Tryz.f102))) Z O (bn cx sv1 sv2 tt):=by
 refine bm hE hh (bn cx sv1 sv2) ?_
 rintro a r hm Z O hf
 simp only[Fits,b8,b9,and_true] at hf
 unfold b_slices_EqualFunc_api_Node_api_Node_api_Node_api_Node_tree_Same_1_1 at hm
 dsimp only at hm
 refine srs hn ?_
 simp -dsimp [hf]
 refine aS ?_
 rcases aZ hm with ⟨c2,hm⟩ | ⟨c2,hm⟩
 ·refine aV (by simp -dsimp) c2 ?_
  refine aU (aQ (aS (aW ?_)))
  refine srs hn ?_
  obtain⟨x,h3,hm⟩:=bnd hm
  simp -dsimp [hf,c2,h3]
  refine srs hn ?_
  obtain⟨x1,h4,hm⟩:=bnd hm
  simp -dsimp [hf,h4]
  refine srs hn ?_
  obtain⟨y,h5,hm⟩:=bnd hm
  simp -dsimp [hf]
  refine aR (c_tree_Same_1 x x1 y h5) (dkL hn) ?_
  exact zz
 ·exact zz
theorem bN (sv1 sv2:List Node) (r:Bool) (hm:m_slices_EqualFunc_api_Node_api_Node_api_Node_api_Node_tree_Same_1 sv1 sv2=some r):PureCall Tryz.prog 102 [.u (.one (dR0 sv1)),.u (.one (dR0 sv2)),.u (.one (.fn 103 []))] (vT r):=by
 refine bo Tryz.func102 Tryz.ntmps102 fun cx hn=>?_
 unfold m_slices_EqualFunc_api_Node_api_Node_api_Node_api_Node_tree_Same_1 at hm
 refine srs hn ?_
 simp -dsimp
 refine aS ?_
 refine srs hn ?_
 simp -dsimp
 rcases aZ hm with ⟨c1,hm⟩ | ⟨c1,hm⟩
 ·exact zz
 ·refine scf c1 ?_
  refine aU (aQ (aS ?_))
  refine srs hn ?_
  simp -dsimp [c1]
  refine aW ?_
  obtain⟨o_,g7,hm⟩:=bnd hm
  refine bd (bM cx hn sv1 sv2 g7) (by
    try dsimp only
    exact EE.here (by simp -dsimp)
  ) fun ee Z O xx=>?_
  rcases o_ with r | _u
  ·exact zz
  ·exact zz
theorem c_tree_Same (a b:Tree) (r:Bool) (hm:m_tree_Same a b=some r):PureCall Tryz.prog 41 [.u (.agg [dI a.States,dR1 a.Hood,dR0 a.Nodes]),.u (.agg [dI b.States,dR1 b.Hood,dR0 b.Nodes])] (vT r):=by
 refine bo Tryz.func41 Tryz.ntmps41 fun cx hn=>?_
 unfold m_tree_Same at hm
 refine srs hn ?_
 simp -dsimp
 obtain⟨a1,j5,hm⟩:=bnd hm
 refine scE [(4,vT a1)] [] ?_ fun Z O hf=>?_
 ·replace hm:=j5
  clear j5
  refine sr1 hn ?_
  rcases aZ hm with ⟨c1,hm⟩ | ⟨c1,hm⟩
  ·obtain⟨y,h2,hm⟩:=bnd hm
   simp -dsimp [c1]
   refine aR (eZ a.Hood b.Hood y h2) (dkL hn) ?_
   rcases aZ hm with ⟨c3,hm⟩ | ⟨c3,hm⟩
   ·obtain⟨y1,h4,hm⟩:=bnd hm
    simp -dsimp [c3]
    refine aR (bN a.Nodes b.Nodes y1 h4) (dkL hn) ?_
    exact zz
   ·exact zz
  ·exact zz
 ·clear j5
  exact zz
theorem c_reduce_Equal (a b:Tree) (r:Bool) (hm:m_reduce_Equal a b=some r):PureCall Tryz.prog 14 [.u (.agg [dI a.States,dR1 a.Hood,dR0 a.Nodes]),.u (.agg [dI b.States,dR1 b.Hood,dR0 b.Nodes])] (vT r):=by
 refine bo Tryz.func14 Tryz.ntmps14 fun cx hn=>?_
 unfold m_reduce_Equal at hm
 refine srs hn ?_
 simp -dsimp
 obtain⟨a1,j11,hm⟩:=bnd hm
 refine scE [(4,vT a1)] [] ?_ fun Z O hf=>?_
 ·replace hm:=j11
  clear j11
  refine sw_qt bj mixed (by rw[hn]; kernel_rfl) ?_
  obtain⟨y,h1,hm⟩:=bnd hm
  simp -dsimp
  refine b7 (dx a y h1) ?_
  rcases aZ hm with ⟨c2,hm⟩ | ⟨c2,hm⟩
  ·obtain⟨y1,h3,hm⟩:=bnd hm
   simp -dsimp [c2]
   refine b7 (dx b y1 h3) ?_
   rcases aZ hm with ⟨c4,hm⟩ | ⟨c4,hm⟩
   ·rcases aZ hm with ⟨c5,hm⟩ | ⟨c5,hm⟩
    ·obtain⟨y2,h6,hm⟩:=bnd hm
     simp -dsimp [c4,c5]
     refine b7 (eZ a.Hood b.Hood y2 h6) ?_
     rcases aZ hm with ⟨c7,hm⟩ | ⟨c7,hm⟩
     ·obtain⟨y3,h8,hm⟩:=bnd hm
      simp -dsimp [c7]
      refine b7 (c_reduce_Reduce a y3 h8) ?_
      obtain⟨y4,h9,hm⟩:=bnd hm
      simp -dsimp
      refine b7 (c_reduce_Reduce b y4 h9) ?_
      obtain⟨y5,h10,hm⟩:=bnd hm
      simp -dsimp
      refine b7 (c_tree_Same y3 y4 y5 h10) ?_
      exact zz
     ·exact zz
    ·exact zz
   ·exact zz
  ·exact zz
 ·clear j11
  exact zz
def gu (cx:Cx) (_t:Tree) (tt:(List Int)) (ee:Exit) (Z:Env) (O:Sto):Prop:=match tt with
 | out=>ee=.exit 0/\EE cx (bg [(3,vO 5000)] [(5000,.row 1 3 (List.map (rI .i64) out))]) Z O
theorem l_notation_Syms_1 (cx:Cx) (hn:cx.n=29) (t:Tree) {fu:Nat} {stt:Int×(List Int)} {tt:(List Int)} (hh:aY (b_notation_Syms_1 t) fu stt=some tt) {Z:Env} {O:Sto}
  (hE:bl (fun stt:Int×(List Int)=>match stt with | (a,_out)=>[(1,vX 1),(3,vO 5000),(7,vI a)]) (fun stt:Int×(List Int)=>match stt with | (_a,out)=>[(1,.box [dI t.States,dR1 t.Hood,dR0 t.Nodes]),(5000,.row 1 3 (List.map (rI .i64) out))]) stt Z O):Swp Tryz.prog cx (.loop (bA [1,1,0,1,0,0] (be Tryz.f7))) Z O (gu cx t tt):=by
 refine bm hE hh (gu cx t) ?_
 rintro⟨a,out⟩ r hm Z O hf
 simp only[Fits,b8,b9,and_true] at hf
 unfold b_notation_Syms_1 at hm
 dsimp only at hm
 refine srs hn ?_
 simp -dsimp [hf]
 refine aS ?_
 rcases aZ hm with ⟨c1,hm⟩ | ⟨c1,hm⟩
 ·refine aV (by simp -dsimp) c1 ?_
  refine aU (aQ ?_)
  obtain⟨out1,j8,hm⟩:=bnd hm
  refine scE [(1,vX 1),(3,vO 5000),(7,vI a)] [(1,.box [dI t.States,dR1 t.Hood,dR0 t.Nodes]),(5000,.row 1 3 (List.map (rI .i64) out1))] ?_ fun Z O hf=>?_
  ·replace hm:=j8
   clear j8
   refine aW ?_
   refine srs hn ?_
   simp -dsimp [hf,c1]
   refine srs hn ?_
   obtain⟨y,h2,hm⟩:=bnd hm
   simp -dsimp [hf]
   refine aR (c_reduce_Turn a t y h2) (dkL hn) ?_
   simp -dsimp
   obtain⟨a1,j7,hm⟩:=bnd hm
   refine scE [(1,vX 1),(3,vO 5000),(4,vI a),(7,vI a),(22,vT a1)] [(1,.box [dI t.States,dR1 t.Hood,dR0 t.Nodes]),(5000,.row 1 3 (List.map (rI .i64) out))] ?_ fun Z O hf=>?_
   ·replace hm:=j7
    clear j7
    refine sr1 hn ?_
    rcases aZ hm with ⟨c3,hm⟩ | ⟨c3,hm⟩
    ·obtain⟨y1,h4,hm⟩:=bnd hm
     simp -dsimp [hf,c3]
     refine aR (c_reduce_Equal t y.1 y1 h4) (dkL hn) ?_
     exact zz
    ·exact zz
   ·clear j7
    simp only[Fits,b8,b9,and_true] at hf
    rcases aZ hm with ⟨c5,hm⟩ | ⟨c5,hm⟩
    ·refine aV (by simp -dsimp [hf]) c5 ?_
     refine sr1 hn ?_
     obtain⟨l,h6,hm⟩:=bnd hm
     obtain⟨h6a,h6e⟩:=b6 h6
     replace h6e:=h6e.symm
     subst h6e
     try simp only[List.length_cons,List.length_nil,Nat.zero_add] at h6a
     simp -dsimp [hf,h6a]
     refine bv ?_
     refine aQ ?_
     cases hm
     refine emv 26 5000 ?_
     exact zz
    ·exact zz
  ·clear j8
   exact zz
 ·exact zz
theorem dU (t:Tree) (r:List Int) (hm:m_notation_Syms t=some r):PureCall Tryz.prog 7 [.u (.agg [dI t.States,dR1 t.Hood,dR0 t.Nodes])] (.u (.one (dL r))):=by
 refine bo Tryz.func7 Tryz.ntmps7 fun cx hn=>?_
 unfold m_notation_Syms at hm
 refine srs hn ?_
 simp -dsimp
 refine srs hn ?_
 simp -dsimp
 refine aS ?_
 refine srs hn ?_
 simp -dsimp
 refine aW ?_
 obtain⟨out,g9,hm⟩:=bnd hm
 refine bd (l_notation_Syms_1 cx hn t g9) (by
   try dsimp only
   refine EE.step (Wk.own0 3 5000 1 3 (by simp -dsimp) (by decide)) ?_
   exact zz
 ) fun ee Z O xx=>?_
 exact zz
def F_L12_Ints_1 (cx:Cx) (_a _b:List Int) (tt:Bool ⊕ Unit) (ee:Exit) (Z:Env) (O:Sto):Prop:=match tt with
 | .inl r=>ee=.ret/\EE cx (fun Z O=>∃ v,di tb Z O Tryz.f6.results.toList=some v/\(v.frz O).free=true/\(v.frz O).wk (vT r)) Z O
 | .inr _u=>ee=.exit 0/\EE cx (bg [] []) Z O
theorem l_L12_Ints_1 (cx:Cx) (hn:cx.n=26) (a b:List Int) {fu:Nat} {stt:Int} {tt:Bool ⊕ Unit} (hh:aY (b_L12_Ints_1 a b) fu stt=some tt) {Z:Env} {O:Sto}
  (hE:bl (fun a1:Int=>[(0,.u (.one (dL a))),(1,.u (.one (dL b))),(12,vI (aT a)),(13,vI a1)]) (fun _a1:Int=>[]) stt Z O):Swp Tryz.prog cx (.loop (bA [1,1,0,1,0,0] (be Tryz.f6))) Z O (F_L12_Ints_1 cx a b tt):=by
 refine bm hE hh (F_L12_Ints_1 cx a b) ?_
 rintro a1 r hm Z O hf
 simp only[Fits,b8,b9,and_true] at hf
 unfold b_L12_Ints_1 at hm
 exact zz
theorem c_L12_Ints (a b:List Int) (r:Bool) (hm:m_L12_Ints a b=some r):PureCall Tryz.prog 6 [.u (.one (dL a)),.u (.one (dL b))] (vT r):=by
 refine bo Tryz.func6 Tryz.ntmps6 fun cx hn=>?_
 unfold m_L12_Ints at hm
 refine srs hn ?_
 simp -dsimp
 refine aS ?_
 refine srs hn ?_
 simp -dsimp
 rcases aZ hm with ⟨c1,hm⟩ | ⟨c1,hm⟩
 ·exact zz
 ·refine scf c1 ?_
  refine aU (aQ (aS ?_))
  refine srs hn ?_
  simp -dsimp [c1]
  refine aW ?_
  obtain⟨o_,g6,hm⟩:=bnd hm
  refine bd (l_L12_Ints_1 cx hn a b g6) (by
    try dsimp only
    exact EE.here (by simp -dsimp)
  ) fun ee Z O xx=>?_
  rcases o_ with r | _u
  ·exact zz
  ·exact zz
theorem c_L16_awake (r:Bool) (hm:m_L16_awake=some r):PureCall Tryz.prog 5 [] (vT r):=by
 refine bo Tryz.func5 Tryz.ntmps5 fun cx hn=>?_
 unfold m_L16_awake at hm
 refine srs hn ?_
 simp -dsimp
 refine srs hn ?_
 obtain⟨y,h1,hm⟩:=bnd hm
 simp -dsimp
 refine aR (cL ([66,51,47,83,50,51]:List UInt8) y h1) (dkL hn) ?_
 simp -dsimp
 refine srs hn ?_
 obtain⟨y1,h2,hm⟩:=bnd hm
 simp -dsimp
 refine aR (cL ([66,50,47,83,51,52,72]:List UInt8) y1 h2) (dkL hn) ?_
 simp -dsimp
 refine srs hn ?_
 obtain⟨y2,h3,hm⟩:=bnd hm
 simp -dsimp
 refine aR (cL ([87,49,49,48]:List UInt8) y2 h3) (dkL hn) ?_
 simp -dsimp
 refine srs hn ?_
 obtain⟨y3,h4,hm⟩:=bnd hm
 simp -dsimp
 refine aR (cL ([66,57,47,83]:List UInt8) y3 h4) (dkL hn) ?_
 simp -dsimp
 refine srs hn ?_
 obtain⟨y4,h5,hm⟩:=bnd hm
 simp -dsimp
 refine aR (cL ([108,105,102,101]:List UInt8) y4 h5) (dkL hn) ?_
 simp -dsimp
 refine srs hn ?_
 obtain⟨y5,h6,hm⟩:=bnd hm
 simp -dsimp
 refine aR (c_notation_Canon ([47,50,47,51]:List UInt8) y5 h6) (dkL hn) ?_
 simp -dsimp
 refine srs hn ?_
 obtain⟨y6,h7,hm⟩:=bnd hm
 simp -dsimp
 refine aR (c_tree_Eval y.1 [1,1,1,0,0,0,0,0,0] y6 h7) (dkL hn) ?_
 simp -dsimp
 refine aS ?_
 obtain⟨a,j37,hm⟩:=bnd hm
 refine scE [(1,vX 1),(3,vX 3),(5,vX 5),(78,vT a)] [(1,.box [dI y.1.States,dR1 y.1.Hood,dR0 y.1.Nodes]),(3,.box [dI y1.1.States,dR1 y1.1.Hood,dR0 y1.1.Nodes]),(5,.box [dI y2.1.States,dR1 y2.1.Hood,dR0 y2.1.Nodes])] ?_ fun Z O hf=>?_
 ·replace hm:=j37
  clear j37
  exact zz
 ·clear j37
  simp only[Fits,b8,b9,and_true] at hf
  rcases aZ hm with ⟨c16,hm⟩ | ⟨c16,hm⟩
  ·exact zz
  ·refine aX (by simp -dsimp [hf]) c16 ?_
   refine aU (aQ ?_)
   obtain⟨a1,j36,hm⟩:=bnd hm
   refine scE [(0,vT a1)] [] ?_ fun Z O hf=>?_
   ·replace hm:=j36
    clear j36
    refine sr1 hn ?_
    obtain⟨y7,h17,hm⟩:=bnd hm
    simp -dsimp
    refine aR (bV ([66,51,47,83,50,51]:List UInt8) y7 h17) (dkL hn) ?_
    rcases aZ hm with ⟨c18,hm⟩ | ⟨c18,hm⟩
    ·obtain⟨y8,h19,hm⟩:=bnd hm
     simp -dsimp [c18]
     refine aR (bV ([47,50,47,51]:List UInt8) y8 h19) (dkL hn) ?_
     rcases aZ hm with ⟨c20,hm⟩ | ⟨c20,hm⟩
     ·obtain⟨y9,h21,hm⟩:=bnd hm
      simp -dsimp [c20]
      refine aR (bV ([87,51,48]:List UInt8) y9 h21) (dkL hn) ?_
      rcases aZ hm with ⟨c22,hm⟩ | ⟨c22,hm⟩
      ·obtain⟨y10,h23,hm⟩:=bnd hm
       simp -dsimp [c22]
       refine aR (bV ([84,55,55,55,47,51]:List UInt8) y10 h23) (dkL hn) ?_
       rcases aZ hm with ⟨c24,hm⟩ | ⟨c24,hm⟩
       ·obtain⟨y11,h25,hm⟩:=bnd hm
        simp -dsimp [c24]
        refine aR (bV ([98,51,47,115,50,51]:List UInt8) y11 h25) (dkL hn) ?_
        rcases aZ hm with ⟨c26,hm⟩ | ⟨c26,hm⟩
        ·obtain⟨y12,h27,hm⟩:=bnd hm
         simp -dsimp [c26]
         refine aR (bV ([120,10]:List UInt8) y12 h27) (dkL hn) ?_
         rcases aZ hm with ⟨c28,hm⟩ | ⟨c28,hm⟩
         ·obtain⟨y13,h29,hm⟩:=bnd hm
          simp -dsimp [hf,c28]
          refine aR (dU y.1 y13 h29) (dkL hn) ?_
          rcases aZ hm with ⟨c30,hm⟩ | ⟨c30,hm⟩
          ·obtain⟨y14,h31,hm⟩:=bnd hm
           simp -dsimp [hf,c30]
           refine aR (dU y1.1 y14 h31) (dkL hn) ?_
           obtain⟨y15,h32,hm⟩:=bnd hm
           simp -dsimp
           refine aR (c_L12_Ints y14 [0,2,5,7] y15 h32) (dkL hn) ?_
           rcases aZ hm with ⟨c33,hm⟩ | ⟨c33,hm⟩
           ·obtain⟨y16,h34,hm⟩:=bnd hm
            simp -dsimp [hf,c33]
            refine aR (dU y2.1 y16 h34) (dkL hn) ?_
            obtain⟨y17,h35,hm⟩:=bnd hm
            simp -dsimp
            refine aR (c_L12_Ints y16 [0,6] y17 h35) (dkL hn) ?_
            exact zz
           ·exact zz
          ·exact zz
         ·exact zz
        ·exact zz
       ·exact zz
      ·exact zz
     ·exact zz
    ·exact zz
   ·clear j36
    exact zz
theorem c_R07_before (a b:Point) (r:Bool) (hm:m_R07_before a b=some r):PureCall Tryz.prog 105 [.u (.agg [dI a.X,dI a.Y]),.u (.agg [dI b.X,dI b.Y])] (vT r):=by
 refine bo Tryz.func105 Tryz.ntmps105 fun cx hn=>?_
 unfold m_R07_before at hm
 refine srs hn ?_
 simp -dsimp
 obtain⟨a1,j3,hm⟩:=bnd hm
 refine scE [(4,vT a1)] [] ?_ fun Z O hf=>?_
 ·replace hm:=j3
  clear j3
  exact zz
 ·clear j3
  exact zz
def F_R07_Right_1 (cx:Cx) (_l:List Point) (tt:Bool ⊕ Unit) (ee:Exit) (Z:Env) (O:Sto):Prop:=match tt with
 | .inl r=>ee=.ret/\EE cx (fun Z O=>∃ v,di tb Z O Tryz.f42.results.toList=some v/\(v.frz O).free=true/\(v.frz O).wk (vT r)) Z O
 | .inr _u=>ee=.exit 0/\EE cx (bg [] []) Z O
theorem l_R07_Right_1 (cx:Cx) (hn:cx.n=55) (l:List Point) {fu:Nat} {stt:Int} {tt:Bool ⊕ Unit} (hh:aY (b_R07_Right_1 l) fu stt=some tt) {Z:Env} {O:Sto}
  (hE:bl (fun i:Int=>[(0,.u (.one (dR1 l))),(3,vI i)]) (fun _i:Int=>[]) stt Z O):Swp Tryz.prog cx (.loop (bA [1,1,0,1,0,0] (be Tryz.f42))) Z O (F_R07_Right_1 cx l tt):=by
 refine bm hE hh (F_R07_Right_1 cx l) ?_
 rintro i r hm Z O hf
 simp only[Fits,b8,b9,and_true] at hf
 unfold b_R07_Right_1 at hm
 dsimp only at hm
 refine aS ?_
 refine srs hn ?_
 simp -dsimp [hf]
 rcases aZ hm with ⟨c3,hm⟩ | ⟨c3,hm⟩
 ·refine aV (by simp -dsimp) c3 ?_
  refine aU (aQ (aS (aW ?_)))
  refine srs hn ?_
  obtain⟨x,h4,hm⟩:=bnd hm
  simp -dsimp [hf,c3,h4]
  obtain⟨a1,j13,hm⟩:=bnd hm
  refine scE [(0,.u (.one (dR1 l))),(3,vI i),(54,vT a1)] [] ?_ fun Z O hf=>?_
  ·replace hm:=j13
   clear j13
   refine sw_qt bj mixed (by rw[hn]; kernel_rfl) ?_
   rcases aZ hm with ⟨c5,hm⟩ | ⟨c5,hm⟩
   ·exact zz
   ·rcases aZ hm with ⟨c6,hm⟩ | ⟨c6,hm⟩
    ·exact zz
    ·rcases aZ hm with ⟨c7,hm⟩ | ⟨c7,hm⟩
     ·exact zz
     ·rcases aZ hm with ⟨c8,hm⟩ | ⟨c8,hm⟩
      ·exact zz
      ·rcases aZ hm with ⟨c9,hm⟩ | ⟨c9,hm⟩
       ·obtain⟨x1,h10,hm⟩:=bnd hm
        obtain⟨y,h11,hm⟩:=bnd hm
        simp -dsimp [hf,c5,c6,c7,c8,c9,h10]
        refine b7 (c_R07_before x1 x y h11) ?_
        exact zz
       ·exact zz
  ·clear j13
   exact zz
 ·exact zz
theorem c_R07_Right (l:List Point) (r:Bool) (hm:m_R07_Right l=some r):PureCall Tryz.prog 42 [.u (.one (dR1 l))] (vT r):=by
 refine bo Tryz.func42 Tryz.ntmps42 fun cx hn=>?_
 unfold m_R07_Right at hm
 refine srs hn ?_
 simp -dsimp
 refine aS ?_
 obtain⟨a,j15,hm⟩:=bnd hm
 refine scE [(0,.u (.one (dR1 l))),(12,vT a)] [] ?_ fun Z O hf=>?_
 ·replace hm:=j15
  clear j15
  exact zz
 ·clear j15
  simp only[Fits,b8,b9,and_true] at hf
  rcases aZ hm with ⟨c2,hm⟩ | ⟨c2,hm⟩
  ·exact zz
  ·refine aX (by simp -dsimp [hf]) c2 ?_
   refine aU (aQ (aS ?_))
   refine srs hn ?_
   simp -dsimp
   refine aW ?_
   obtain⟨o_,g14,hm⟩:=bnd hm
   refine bd (l_R07_Right_1 cx hn l g14) (by
     try dsimp only
     exact EE.here (by simp -dsimp [hf])
   ) fun ee Z O xx=>?_
   rcases o_ with r | _u
   ·exact zz
   ·exact zz
end Go.Proofs.YtcllfealpkhjfaaGreatDoor
