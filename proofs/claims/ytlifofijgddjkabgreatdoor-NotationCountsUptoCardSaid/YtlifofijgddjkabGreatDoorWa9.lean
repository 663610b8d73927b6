/- That the code does what the functions say (made by cc.py). -/
import Derived.Test.YtlifofijgddjkabGreatDoorWa8
namespace Go.Proofs.YtlifofijgddjkabGreatDoor
open Go.AM Go.Proofs
set_option maxRecDepth 100000
attribute [-simp] qlookup cz dQ Ob.wipe Ob.ren Ob.frz1
section
attribute [-simp] List.map_set List.set_set
def d5 (cx:Cx) (ak:Int) (al:List Point) (aj:List Node) (i a:Int) (to_:List Int) (x:Node) (a1:Int) (mp1:List (List UInt8×Int)) (next:List Int) (l3:List Node) (tt:(List Int)) (ee:Exit) (Z:Env) (O:Sto):Prop:=match tt with
 | inner=>ee=.exit 5/\EE cx (be [(2,vX 2),(4,vX 4),(5,vI (aX .i64 (aO al) i)),(6,vX 6),(7,vO 26),(8,vI a),(9,vX 9),(10,vO 42),(11,vI a1),(13,vO 62),(28,.u (.one (dR0 aj))),(29,vI (aO aj)),(30,vI a),(44,.u (.one (dL x.Next))),(45,vI (aO x.Next)),(46,vI a1)] [(2,.box [dI ak,.own 1000000,dR0 aj]),(4,.box [dI 0,.d .nil,.d .nil]),(6,.box [.own 5000,.map 21]),(9,.box [dI x.Level,dL x.Next]),(21,mOb .str kS (uL (L.int .i64)) mp1),(26,.row 1 3 (List.map (rI .i64) to_)),(42,.row 1 3 (List.map (rI .i64) next)),(62,.row 1 3 (List.map (rI .i64) inner)),(5000,.row 2 136 (List.map Node.row l3)),(1000000,.row 2 42 (List.map Point.row al))]) Z O
set_option maxHeartbeats 1000000 in
theorem gI (cx:Cx) (hn:cx.n=137) (_hk:cx.k=1) (ak:Int) (al:List Point) (aj:List Node) (i a:Int) (to_:List Int) (x:Node) (a1:Int) (mp1:List (List UInt8×Int)) (next:List Int) (l3:List Node) {fu:Nat} {stt:Int×(List Int)} {tt:(List Int)} (hh:aT (b_reduce_swapped_o_w_3 ak al aj i a to_ x a1 mp1 next l3) fu stt=some tt) {Z:Env} {O:Sto}
  (hE:bz (fun stt:Int×(List Int)=>match stt with | (a2,_inner)=>[(2,vX 2),(4,vX 4),(5,vI (aX .i64 (aO al) i)),(6,vX 6),(7,vO 26),(8,vI a),(9,vX 9),(10,vO 42),(11,vI a1),(13,vO 62),(28,.u (.one (dR0 aj))),(29,vI (aO aj)),(30,vI a),(44,.u (.one (dL x.Next))),(45,vI (aO x.Next)),(46,vI a1),(64,.u (.one (dL x.Next))),(65,vI (aO x.Next)),(66,vI a2)]) (fun stt:Int×(List Int)=>match stt with | (_a2,inner)=>[(2,.box [dI ak,.own 1000000,dR0 aj]),(4,.box [dI 0,.d .nil,.d .nil]),(6,.box [.own 5000,.map 21]),(9,.box [dI x.Level,dL x.Next]),(21,mOb .str kS (uL (L.int .i64)) mp1),(26,.row 1 3 (List.map (rI .i64) to_)),(42,.row 1 3 (List.map (rI .i64) next)),(62,.row 1 3 (List.map (rI .i64) inner)),(5000,.row 2 136 (List.map Node.row l3)),(1000000,.row 2 42 (List.map Point.row al))]) stt Z O):Swp Tryz.prog cx (.loop (bW [1,1,1,1,0,1,0,0,1,1,0,0,1,1,1,0,1,0,0,1,1,0,0,1,0,1,0,1,0,1,0,0] (bd Tryz.f86))) Z O (d5 cx ak al aj i a to_ x a1 mp1 next l3 tt):=by
 refine bC hE hh (d5 cx ak al aj i a to_ x a1 mp1 next l3) ?_
 rintro⟨a2,inner⟩ r hm Z O hf
 simp only[Fits,aZ,b6,and_true] at hf
 unfold b_reduce_swapped_o_w_3 at hm
 dsimp only at hm
 refine srs hn ?_
 simp -dsimp [hf]
 refine aN ?_
 rcases aU hm with ⟨c10,hm⟩ | ⟨c10,hm⟩
 ·refine aQ (by simp -dsimp) c10 ?_
  refine aP (aM ?_)
  obtain⟨inner1,j18,hm⟩:=bnd hm
  refine scE [(2,vX 2),(4,vX 4),(5,vI (aX .i64 (aO al) i)),(6,vX 6),(7,vO 26),(8,vI a),(9,vX 9),(10,vO 42),(11,vI a1),(13,vO 62),(28,.u (.one (dR0 aj))),(29,vI (aO aj)),(30,vI a),(44,.u (.one (dL x.Next))),(45,vI (aO x.Next)),(46,vI a1),(64,.u (.one (dL x.Next))),(65,vI (aO x.Next)),(66,vI a2)] [(2,.box [dI ak,.own 1000000,dR0 aj]),(4,.box [dI 0,.d .nil,.d .nil]),(6,.box [.own 5000,.map 21]),(9,.box [dI x.Level,dL x.Next]),(21,mOb .str kS (uL (L.int .i64)) mp1),(26,.row 1 3 (List.map (rI .i64) to_)),(42,.row 1 3 (List.map (rI .i64) next)),(62,.row 1 3 (List.map (rI .i64) inner1)),(5000,.row 2 136 (List.map Node.row l3)),(1000000,.row 2 42 (List.map Point.row al))] ?_ fun Z O hf=>?_
  ·replace hm:=j18
   clear j18
   refine aS ?_
   refine srs hn ?_
   obtain⟨x2,h11,hm⟩:=bnd hm
   simp -dsimp [hf,c10,h11]
   refine srs hn ?_
   obtain⟨x3,h12,hm⟩:=bnd hm
   obtain⟨x4,h13,hm⟩:=bnd hm
   obtain⟨x5,h14,hm⟩:=bnd hm
   simp -dsimp [hf,h12,h13,h14,bg h14,rsetI .i64 inner a2.toNat x4]
   refine srs hn ?_
   simp -dsimp [hf]
   rcases aU hm with ⟨c15,hm⟩ | ⟨c15,hm⟩
   ·refine aQ (by simp -dsimp) c15 ?_
    refine sr1 hn ?_
    obtain⟨x6,h16,hm⟩:=bnd hm
    obtain⟨x7,h17,hm⟩:=bnd hm
    simp -dsimp [hf,c15,h16,bg h16,h17,bg h17,rsetI .i64 (inner.set a2.toNat x4) a2.toNat x7]
    refine bN ?_
    cases hm
    exact EE.here (by simp -dsimp [hf])
   ·refine aR (by simp -dsimp) c15 ?_
    refine aP ?_
    refine bN ?_
    cases hm
    exact EE.here (by simp -dsimp [hf,c15])
  ·clear j18
   exact zz
 ·exact zz
def cZ (cx:Cx) (ak:Int) (al:List Point) (aj:List Node) (i a:Int) (to_:List Int) (x:Node) (tt:((List (List UInt8×Int))×(List Int)×(List Node))) (ee:Exit) (Z:Env) (O:Sto):Prop:=match tt with
 | (mp1,next,l3)=>ee=.exit 2/\EE cx (be [(2,vX 2),(4,vX 4),(5,vI (aX .i64 (aO al) i)),(6,vX 6),(7,vO 26),(8,vI a),(9,vX 9),(10,vO 42),(28,.u (.one (dR0 aj))),(29,vI (aO aj)),(30,vI a)] [(2,.box [dI ak,.own 1000000,dR0 aj]),(4,.box [dI 0,.d .nil,.d .nil]),(6,.box [.own 5000,.map 21]),(9,.box [dI x.Level,dL x.Next]),(21,mOb .str kS (uL (L.int .i64)) mp1),(26,.row 1 3 (List.map (rI .i64) to_)),(42,.row 1 3 (List.map (rI .i64) next)),(5000,.row 2 136 (List.map Node.row l3)),(1000000,.row 2 42 (List.map Point.row al))]) Z O
set_option maxHeartbeats 1000000 in
theorem gQ (cx:Cx) (hn:cx.n=137) (hk:cx.k=1) (ak:Int) (al:List Point) (aj:List Node) (i a:Int) (to_:List Int) (x:Node) {fu:Nat} {stt:Int×(List (List UInt8×Int))×(List Int)×(List Node)} {tt:((List (List UInt8×Int))×(List Int)×(List Node))} (hh:aT (b_reduce_swapped_o_w_2 ak al aj i a to_ x) fu stt=some tt) {Z:Env} {O:Sto}
  (hE:bz (fun stt:Int×(List (List UInt8×Int))×(List Int)×(List Node)=>match stt with | (a1,_mp1,_next,_l3)=>[(2,vX 2),(4,vX 4),(5,vI (aX .i64 (aO al) i)),(6,vX 6),(7,vO 26),(8,vI a),(9,vX 9),(10,vO 42),(28,.u (.one (dR0 aj))),(29,vI (aO aj)),(30,vI a),(44,.u (.one (dL x.Next))),(45,vI (aO x.Next)),(46,vI a1)]) (fun stt:Int×(List (List UInt8×Int))×(List Int)×(List Node)=>match stt with | (_a1,mp1,next,l3)=>[(2,.box [dI ak,.own 1000000,dR0 aj]),(4,.box [dI 0,.d .nil,.d .nil]),(6,.box [.own 5000,.map 21]),(9,.box [dI x.Level,dL x.Next]),(21,mOb .str kS (uL (L.int .i64)) mp1),(26,.row 1 3 (List.map (rI .i64) to_)),(42,.row 1 3 (List.map (rI .i64) next)),(5000,.row 2 136 (List.map Node.row l3)),(1000000,.row 2 42 (List.map Point.row al))]) stt Z O):Swp Tryz.prog cx (.loop (bW [1,1,1,1,0,1,0,0,1,1,0,0,1,1,1,0,1,0,0] (bd Tryz.f86))) Z O (cZ cx ak al aj i a to_ x tt):=by
 refine bC hE hh (cZ cx ak al aj i a to_ x) ?_
 rintro⟨a1,mp1,next,l3⟩ r hm Z O hf
 simp only[Fits,aZ,b6,and_true] at hf
 unfold b_reduce_swapped_o_w_2 at hm
 dsimp only at hm
 refine srs hn ?_
 simp -dsimp [hf]
 refine aN ?_
 rcases aU hm with ⟨c6,hm⟩ | ⟨c6,hm⟩
 ·refine aQ (by simp -dsimp) c6 ?_
  refine aP (aM (aN (aS ?_)))
  refine srs hn ?_
  obtain⟨x1,h7,hm⟩:=bnd hm
  simp -dsimp [hf,c6,h7]
  refine aS ?_
  refine srs hn ?_
  simp -dsimp [hf]
  rcases aU hm with ⟨c8,hm⟩ | ⟨c8,hm⟩
  ·refine aQ (by simp -dsimp) c8 ?_
   refine srs hn ?_
   obtain⟨l4,h9,hm⟩:=bnd hm
   obtain⟨⟨h9a,h9b,h9c⟩,rfl⟩:=mkL_some h9
   simp -dsimp [hf,c8,h9a,h9c]
   refine aN ?_
   refine srs hn ?_
   simp -dsimp [hf]
   refine aS ?_
   obtain⟨inner,g19,hm⟩:=bnd hm
   refine bc (gI cx hn hk ak al aj i a to_ x a1 mp1 next l3 g19) (by
     try dsimp only
     refine EE.here ?_
     exact zz
   ) fun ee Z O xx=>?_
   unfold d5 at xx
   dsimp only at xx
   obtain⟨rfl,xx⟩:=xx
   refine bG ?_
   refine aM ?_
   refine see xx fun Z O hf=>?_
   simp only[Fits,aZ,b6,and_true] at hf
   refine sr1 hn ?_
   obtain⟨y,h20,hm⟩:=bnd hm
   simp -dsimp [hf]
   refine clg (dC l3 mp1 (aX .i64 (aX .i64 (aO al) i) 1) inner y h20) [6,5000,21,62] [5001] (by simp -dsimp [hf]) (dkL hn) ?_
   obtain⟨x2,h21,hm⟩:=bnd hm
   simp -dsimp [hf,h21,bg h21,rsetI .i64 next a1.toNat y.1]
   refine bN ?_
   refine bN ?_
   refine aM ?_
   refine sr1 hn ?_
   simp -dsimp [hf]
   cases hm
   refine cE ?_
   refine emv 5001 5000 ?_
   exact zz
  ·refine aR (by simp -dsimp) c8 ?_
   refine srs hn ?_
   simp -dsimp [hf,c8]
   rcases aU hm with ⟨c22,hm⟩ | ⟨c22,hm⟩
   ·refine aQ (by simp -dsimp) c22 ?_
    refine sr1 hn ?_
    obtain⟨x2,h23,hm⟩:=bnd hm
    obtain⟨x3,h24,hm⟩:=bnd hm
    simp -dsimp [hf,c22,h23,bg h23,h24,bg h24,rsetI .i64 next a1.toNat x2]
    refine bN ?_
    refine bN ?_
    refine aM ?_
    refine sr1 hn ?_
    simp -dsimp [hf]
    cases hm
    refine cE ?_
    exact EE.here (by simp -dsimp [hf])
   ·refine aR (by simp -dsimp) c22 ?_
    refine sr1 hn ?_
    obtain⟨x2,h25,hm⟩:=bnd hm
    simp -dsimp [hf,c22,h25,bg h25,rsetI .i64 next a1.toNat x1]
    refine bN ?_
    refine bN ?_
    refine aM ?_
    refine sr1 hn ?_
    simp -dsimp [hf]
    cases hm
    refine cE ?_
    exact EE.here (by simp -dsimp [hf])
 ·exact zz
def cR (cx:Cx) (ak:Int) (al:List Point) (aj:List Node) (_i:Int) (tt:((List (List UInt8×Int))×(List Int)×(List Node))) (ee:Exit) (Z:Env) (O:Sto):Prop:=match tt with
 | (mp,to_,l1)=>ee=.exit 0/\EE cx (be [(2,vX 2),(4,vX 4),(6,vX 6),(7,vO 26)] [(2,.box [dI ak,.own 1000000,dR0 aj]),(4,.box [dI 0,.d .nil,.d .nil]),(6,.box [.own 5000,.map 21]),(21,mOb .str kS (uL (L.int .i64)) mp),(26,.row 1 3 (List.map (rI .i64) to_)),(5000,.row 2 136 (List.map Node.row l1)),(1000000,.row 2 42 (List.map Point.row al))]) Z O
set_option maxHeartbeats 1000000 in
theorem gG (cx:Cx) (hn:cx.n=137) (hk:cx.k=1) (ak:Int) (al:List Point) (aj:List Node) (i:Int) {fu:Nat} {stt:Int×(List (List UInt8×Int))×(List Int)×(List Node)} {tt:((List (List UInt8×Int))×(List Int)×(List Node))} (hh:aT (b_reduce_swapped_o_w_1 ak al aj i) fu stt=some tt) {Z:Env} {O:Sto}
  (hE:bz (fun stt:Int×(List (List UInt8×Int))×(List Int)×(List Node)=>match stt with | (a,_mp,_to_,_l1)=>[(2,vX 2),(4,vX 4),(5,vI (aX .i64 (aO al) i)),(6,vX 6),(7,vO 26),(28,.u (.one (dR0 aj))),(29,vI (aO aj)),(30,vI a)]) (fun stt:Int×(List (List UInt8×Int))×(List Int)×(List Node)=>match stt with | (_a,mp,to_,l1)=>[(2,.box [dI ak,.own 1000000,dR0 aj]),(4,.box [dI 0,.d .nil,.d .nil]),(6,.box [.own 5000,.map 21]),(21,mOb .str kS (uL (L.int .i64)) mp),(26,.row 1 3 (List.map (rI .i64) to_)),(5000,.row 2 136 (List.map Node.row l1)),(1000000,.row 2 42 (List.map Point.row al))]) stt Z O):Swp Tryz.prog cx (.loop (bW [1,1,1,1,0,1,0,0] (bd Tryz.f86))) Z O (cR cx ak al aj i tt):=by
 refine bC hE hh (cR cx ak al aj i) ?_
 rintro⟨a,mp,to_,l1⟩ r hm Z O hf
 simp only[Fits,aZ,b6,and_true] at hf
 unfold b_reduce_swapped_o_w_1 at hm
 dsimp only at hm
 refine srs hn ?_
 simp -dsimp [hf]
 refine aN ?_
 rcases aU hm with ⟨c2,hm⟩ | ⟨c2,hm⟩
 ·refine aQ (by simp -dsimp) c2 ?_
  refine aP (aM (aN (aS ?_)))
  refine srs hn ?_
  obtain⟨x,h3,hm⟩:=bnd hm
  simp -dsimp [hf,c2,h3]
  refine aN ?_
  refine srs hn ?_
  simp -dsimp [hf]
  rcases aU hm with ⟨c4,hm⟩ | ⟨c4,hm⟩
  ·exact zz
  ·refine aR (by simp -dsimp) c4 ?_
   refine aP (aM ?_)
   refine srs hn ?_
   obtain⟨l2,h5,hm⟩:=bnd hm
   obtain⟨⟨h5a,h5b,h5c⟩,rfl⟩:=mkL_some h5
   simp -dsimp [hf,c4,h5a,h5c]
   refine aN ?_
   refine srs hn ?_
   simp -dsimp
   refine aS ?_
   obtain⟨⟨mp1,next,l3⟩,g26,hm⟩:=bnd hm
   refine bc (gQ cx hn hk ak al aj i a to_ x g26) (by
     try dsimp only
     refine EE.here ?_
     exact zz
   ) fun ee Z O xx=>?_
   unfold cZ at xx
   dsimp only at xx
   obtain⟨rfl,xx⟩:=xx
   refine bG ?_
   refine aM ?_
   refine see xx fun Z O hf=>?_
   simp only[Fits,aZ,b6,and_true] at hf
   refine sr1 hn ?_
   obtain⟨y,h27,hm⟩:=bnd hm
   simp -dsimp [hf]
   refine clg (dC l3 mp1 x.Level next y h27) [6,5000,21,42] [5002] (by simp -dsimp [hf]) (dkL hn) ?_
   obtain⟨x1,h28,hm⟩:=bnd hm
   simp -dsimp [hf,h28,bg h28,rsetI .i64 to_ a.toNat y.1]
   refine bN ?_
   refine aM ?_
   refine sr1 hn ?_
   simp -dsimp [hf]
   cases hm
   refine cE ?_
   refine emv 5002 5000 ?_
   exact zz
 ·exact zz
set_option maxHeartbeats 1000000 in
theorem g_reduce_swapped_o_w (ak:Int) (al:List Point) (aj:List Node) (i:Int) (r:List Node) (hm:m_reduce_swapped_o_w ak al aj i=some r):GFn Tryz.prog 86 [.u (.agg [dI ak,.own 1000000,dR0 aj]),vI i] [.row 2 42 (List.map Point.row al)] (.u (.agg [dI ak,.own 1000000,dR0 r])) [some (.row 2 42 (List.map Point.row al))]:=by
 refine bT bh _ Tryz.func86 rfl (by kernel_rfl) (by simp[Tryz.ntmps86]) (by simp) (by first | rfl | simp) (by first | rfl | simp) fun cx hn hk=>?_
 replace hn:cx.n=137:=hn.trans Tryz.ntmps86
 replace hk:cx.k=1:=hk
 unfold m_reduce_swapped_o_w at hm
 refine srs hn ?_
 simp -dsimp
 refine srs hn ?_
 simp -dsimp
 refine srs hn ?_
 simp -dsimp [(@id (Ob.map .str []=mOb .str kS (uL (L.int .i64)) ([]:List (List UInt8×Int))) (fk .str kS (uL (L.int .i64))))]
 refine srs hn ?_
 obtain⟨l,h1,hm⟩:=bnd hm
 obtain⟨⟨h1a,h1b,h1c⟩,rfl⟩:=mkL_some h1
 simp -dsimp [h1a,h1c]
 refine aN ?_
 refine srs hn ?_
 simp -dsimp
 refine aS ?_
 obtain⟨⟨mp,to_,l1⟩,g29,hm⟩:=bnd hm
 refine bc (gG cx hn hk ak al aj i g29) (by
   try dsimp only
   refine EE.step (Wk.own0b 6 0 5000 2 136 [.d .nil,.map 21] (by simp -dsimp) (by rfl) (by decide) (by decide)) ?_
   exact zz
 ) fun ee Z O xx=>?_
 unfold cR at xx
 dsimp only at xx
 obtain⟨rfl,xx⟩:=xx
 refine bG ?_
 refine aM ?_
 refine see xx fun Z O hf=>?_
 simp only[Fits,aZ,b6,and_true] at hf
 refine Swp.pre (Wk.frz 5000 2 136 (List.map Node.row l1) (by simp -dsimp [hf])) ?_
 refine gx bh mixed 13 (by rw[hn]; kernel_rfl) ?_
 dsimp only [List.take,List.drop]
 obtain⟨x,h30,hm⟩:=bnd hm
 obtain⟨y,h31,hm⟩:=bnd hm
 simp -dsimp [hf,h30,bg h30]
 refine aV (eL l1 x y h31) ?_
 exact zz
end
theorem c_reduce_sized (t:Tree) (r:Tree×Int) (hm:m_reduce_sized t=some r):PureCall Tryz.prog 87 [.u (.agg [dI t.States,dR1 t.Hood,dR0 t.Nodes])] (.tup [.agg [dI r.1.States,dR1 r.1.Hood,dR0 r.1.Nodes],.one (dI r.2)]):=by
 refine bf Tryz.func87 Tryz.ntmps87 fun cx hn=>?_
 unfold m_reduce_sized at hm
 exact zz
section
attribute [-simp] List.map_set List.set_set
def f6 (cx:Cx) (_k:Int) (y1:Int×(List Node)×(List Point)) (tt:(List Point)) (ee:Exit) (Z:Env) (O:Sto):Prop:=match tt with
 | l=>ee=.exit 0/\EE cx (be [(4,vX 4),(6,vX 6)] [(4,.box [dI 0,.d .nil,.d .nil]),(6,.box [dI y1.1,.own 5000,dR0 y1.2.1]),(5000,.row 2 42 (List.map Point.row l))]) Z O
theorem l_reduce_Turn_1 (cx:Cx) (hn:cx.n=83) (k:Int) (y1:Int×(List Node)×(List Point)) {fu:Nat} {stt:Int×(List Point)} {tt:(List Point)} (hh:aT (b_reduce_Turn_1 k y1) fu stt=some tt) {Z:Env} {O:Sto}
  (hE:bz (fun stt:Int×(List Point)=>match stt with | (a,_l)=>[(0,vI k),(4,vX 4),(6,vX 6),(18,vO 5000),(19,vI (aO y1.2.2)),(20,vI a)]) (fun stt:Int×(List Point)=>match stt with | (_a,l)=>[(4,.box [dI 0,.d .nil,.d .nil]),(6,.box [dI y1.1,.own 5000,dR0 y1.2.1]),(5000,.row 2 42 (List.map Point.row l))]) stt Z O):Swp Tryz.prog cx (.loop (bW [1,1,1,0,1,0,0] (bd Tryz.f35))) Z O (f6 cx k y1 tt):=by
 refine bC hE hh (f6 cx k y1) ?_
 rintro⟨a,l⟩ r hm Z O hf
 simp only[Fits,aZ,b6,and_true] at hf
 unfold b_reduce_Turn_1 at hm
 dsimp only at hm
 refine srs hn ?_
 simp -dsimp [hf]
 refine aN ?_
 rcases aU hm with ⟨c4,hm⟩ | ⟨c4,hm⟩
 ·refine aQ (by simp -dsimp) c4 ?_
  refine aP (aM (aN (aS ?_)))
  refine srs hn ?_
  obtain⟨x,h5,hm⟩:=bnd hm
  simp -dsimp [hf,c4,h5,bg h5]
  refine sw_drN bh mixed 6 (by rw[hn]; kernel_rfl) ?_
  dsimp only [List.take,List.drop]
  obtain⟨y2,h6,hm⟩:=bnd hm
  simp -dsimp [hf]
  refine aV (gl k x y2 h6) ?_
  simp -dsimp [hf,h5,bg h5,Point.rset l a.toNat y2.X y2.Y]
  refine bN ?_
  refine aM ?_
  refine sr1 hn ?_
  simp -dsimp [hf]
  cases hm
  refine cE ?_
  exact EE.here (by simp -dsimp [hf])
 ·exact zz
def F_reduce_Turn_3 (cx:Cx) (y1:Int×(List Node)×(List Point)) (tt:(Bool×(List Node)×(List Point))) (ee:Exit) (Z:Env) (O:Sto):Prop:=match tt with
 | (aG,aD,l2)=>ee=.exit 4/\EE cx (be [(4,vX 4),(6,vX 6),(9,vT aG)] [(4,.box [dI 0,.d .nil,.d .nil]),(6,.box [dI y1.1,.own 5000,dR0 aD]),(5000,.row 2 42 (List.map Point.row l2))]) Z O
theorem l_reduce_Turn_3 (cx:Cx) (hn:cx.n=83) (y1:Int×(List Node)×(List Point)) {fu:Nat} {stt:Bool×Int×(List Node)×(List Point)} {tt:(Bool×(List Node)×(List Point))} (hh:aT (b_reduce_Turn_3 y1) fu stt=some tt) {Z:Env} {O:Sto}
  (hE:bz (fun stt:Bool×Int×(List Node)×(List Point)=>match stt with | (aG,i,_aD,_l2)=>[(4,vX 4),(6,vX 6),(9,vT aG),(10,vI i)]) (fun stt:Bool×Int×(List Node)×(List Point)=>match stt with | (_aG,_i,aD,l2)=>[(4,.box [dI 0,.d .nil,.d .nil]),(6,.box [dI y1.1,.own 5000,dR0 aD]),(5000,.row 2 42 (List.map Point.row l2))]) stt Z O):Swp Tryz.prog cx (.loop (bW [1,1,1,1,0,1,0,0,1,0,1,1,0,0] (bd Tryz.f35))) Z O (F_reduce_Turn_3 cx y1 tt):=by
 refine bC hE hh (F_reduce_Turn_3 cx y1) ?_
 rintro⟨aG,i,aD,l2⟩ r hm Z O hf
 simp only[Fits,aZ,b6,and_true] at hf
 unfold b_reduce_Turn_3 at hm
 dsimp only at hm
 refine aN ?_
 refine srs hn ?_
 simp -dsimp [hf]
 rcases aU hm with ⟨c9,hm⟩ | ⟨c9,hm⟩
 ·refine aQ (by simp -dsimp) c9 ?_
  refine aP (aM ?_)
  obtain⟨⟨sorted2,uNodes2,l3⟩,j16,hm⟩:=bnd hm
  refine scE [(4,vX 4),(6,vX 6),(9,vT sorted2),(10,vI i)] [(4,.box [dI 0,.d .nil,.d .nil]),(6,.box [dI y1.1,.own 5000,dR0 uNodes2]),(5000,.row 2 42 (List.map Point.row l3))] ?_ fun Z O hf=>?_
  ·replace hm:=j16
   clear j16
   refine aS ?_
   refine sw_qts bh mixed (by rw[hn]; kernel_rfl) ?_
   obtain⟨x,h10,hm⟩:=bnd hm
   obtain⟨x1,h11,hm⟩:=bnd hm
   obtain⟨y2,h12,hm⟩:=bnd hm
   simp -dsimp [hf,c9,h10,bg h10,h11,bg h11]
   refine aV (c_point_Compare x x1 y2 h12) ?_
   simp -dsimp
   rcases aU hm with ⟨c13,hm⟩ | ⟨c13,hm⟩
   ·refine aQ (by simp -dsimp) c13 ?_
    refine srs hn ?_
    obtain⟨y3,h14,hm⟩:=bnd hm
    simp -dsimp [hf,c13]
    refine clg (g_reduce_swapped_o_w y1.1 l2 aD (aX .i64 i 1) y3 h14) [5000] [] (by simp -dsimp [hf]) (dkL hn) ?_
    simp -dsimp [hf]
    refine sw_midcs bh mixed 19 20 20 0 [[4,5,6]] [[]] [] none (by rw[hn]; kernel_rfl) gn ?_
    dsimp only [List.take,List.drop,fD,fW,uopsD,pk,List.cons_append,List.nil_append,List.flatten_cons,List.flatten_nil,eU,eY,List.append_nil]
    obtain⟨x2,h15,hm⟩:=bnd hm
    simp -dsimp [hf,h10,bg h10,h11,bg h11,Point.rset l2 (aX .i64 i 1).toNat x1.X x1.Y,h15,bg h15,Point.rset (l2.set (aX .i64 i 1).toNat x1) i.toNat x.X x.Y]
    refine sr1 hn ?_
    simp -dsimp
    refine bN ?_
    cases hm
    exact EE.here (by simp -dsimp [hf])
   ·exact zz
  ·clear j16
   exact zz
 ·exact zz
def f7 (cx:Cx) (y1:Int×(List Node)×(List Point)) (tt:((List Node)×(List Point))) (ee:Exit) (Z:Env) (O:Sto):Prop:=match tt with
 | (aH,l1)=>ee=.exit 2/\EE cx (be [(4,vX 4),(6,vX 6)] [(4,.box [dI 0,.d .nil,.d .nil]),(6,.box [dI y1.1,.own 5000,dR0 aH]),(5000,.row 2 42 (List.map Point.row l1))]) Z O
theorem l_reduce_Turn_2 (cx:Cx) (hn:cx.n=83) (y1:Int×(List Node)×(List Point)) {fu:Nat} {stt:Bool×(List Node)×(List Point)} {tt:((List Node)×(List Point))} (hh:aT (b_reduce_Turn_2 y1) fu stt=some tt) {Z:Env} {O:Sto}
  (hE:bz (fun stt:Bool×(List Node)×(List Point)=>match stt with | (sorted,_aH,_l1)=>[(4,vX 4),(6,vX 6),(9,vT sorted)]) (fun stt:Bool×(List Node)×(List Point)=>match stt with | (_sorted,aH,l1)=>[(4,.box [dI 0,.d .nil,.d .nil]),(6,.box [dI y1.1,.own 5000,dR0 aH]),(5000,.row 2 42 (List.map Point.row l1))]) stt Z O):Swp Tryz.prog cx (.loop (bW [1,1,1,1,0,1,0,0] (bd Tryz.f35))) Z O (f7 cx y1 tt):=by
 refine bC hE hh (f7 cx y1) ?_
 rintro⟨sorted,aH,l1⟩ r hm Z O hf
 simp only[Fits,aZ,b6,and_true] at hf
 unfold b_reduce_Turn_2 at hm
 dsimp only at hm
 refine aN ?_
 refine srs hn ?_
 simp -dsimp [hf]
 rcases aU hm with ⟨c8,hm⟩ | ⟨c8,hm⟩
 ·refine aQ (by simp -dsimp) c8 ?_
  refine aP (aM (aS ?_))
  refine srs hn ?_
  simp -dsimp [c8]
  refine srs hn ?_
  simp -dsimp
  refine aS ?_
  obtain⟨⟨aG,aD,l2⟩,g17,hm⟩:=bnd hm
  refine bc (l_reduce_Turn_3 cx hn y1 g17) (by
    try dsimp only
    exact EE.here (by simp -dsimp [hf])
  ) fun ee Z O xx=>?_
  exact zz
 ·exact zz
theorem c_reduce_Turn (k:Int) (t:Tree) (r:Tree×Int) (hm:m_reduce_Turn k t=some r):PureCall Tryz.prog 35 [vI k,.u (.agg [dI t.States,dR1 t.Hood,dR0 t.Nodes])] (.tup [.agg [dI r.1.States,dR1 r.1.Hood,dR0 r.1.Nodes],.one (dI r.2)]):=by
 refine bf Tryz.func35 Tryz.ntmps35 fun cx hn=>?_
 unfold m_reduce_Turn at hm
 refine srs hn ?_
 simp -dsimp
 refine aN ?_
 refine srs hn ?_
 obtain⟨y,h1,hm⟩:=bnd hm
 simp -dsimp
 refine aL (dx t y h1) (dkL hn) ?_
 simp -dsimp
 rcases aU hm with ⟨c2,hm⟩ | ⟨c2,hm⟩
 ·exact zz
 ·refine aR (by simp -dsimp) c2 ?_
  refine aP (aM ?_)
  refine srs hn ?_
  obtain⟨y1,h3,hm⟩:=bnd hm
  simp -dsimp [c2]
  refine clg (g_reduce_Reduce_w t y1 h3) [] [5000] (by simp -dsimp) (dkL hn) ?_
  simp -dsimp
  refine aN ?_
  refine srs hn ?_
  simp -dsimp
  refine aS ?_
  obtain⟨l,g7,hm⟩:=bnd hm
  refine bc (l_reduce_Turn_1 cx hn k y1 g7) (by
    try dsimp only
    exact EE.here (by simp -dsimp)
  ) fun ee Z O xx=>?_
  unfold f6 at xx
  dsimp only at xx
  obtain⟨rfl,xx⟩:=xx
  refine bG ?_
  refine aM ?_
  refine see xx fun Z O hf=>?_
  simp only[Fits,aZ,b6,and_true] at hf
  refine aN ?_
  refine srs hn ?_
  simp -dsimp
  refine aS ?_
  obtain⟨⟨aH,l1⟩,g18,hm⟩:=bnd hm
  refine bc (l_reduce_Turn_2 cx hn y1 g18) (by
    try dsimp only
    exact EE.here (by simp -dsimp [hf])
  ) fun ee Z O xx=>?_
  unfold f7 at xx
  dsimp only at xx
  obtain⟨rfl,xx⟩:=xx
  refine bG ?_
  refine aM ?_
  refine see xx fun Z O hf=>?_
  simp only[Fits,aZ,b6,and_true] at hf
  refine Swp.pre (Wk.frz 5000 2 42 (List.map Point.row l1) (by simp -dsimp [hf])) ?_
  refine srs hn ?_
  obtain⟨y2,h19,hm⟩:=bnd hm
  simp -dsimp [hf]
  refine aL (c_reduce_sized (⟨y1.1,l1,aH⟩:Tree) y2 h19) (dkL hn) ?_
  exact zz
end
section
attribute [-simp] List.map_set List.set_set
def bJ (cx:Cx) (t:Tree) (a:Int) (mp:List (List UInt8×Int)) (l:List Node) (to_:List Int) (x:Node) (_y:List Int) (tt:(List Int)) (ee:Exit) (Z:Env) (O:Sto):Prop:=match tt with
 | next=>ee=.exit 2/\EE cx (be [(1,.u (.one (.fn 130 []))),(2,vX 2),(4,vX 4),(5,vX 5),(6,vO 5002),(8,vX 8),(9,vO 23),(15,.u (.one (dR0 t.Nodes))),(16,vI (aO t.Nodes)),(17,vI a)] [(2,.box [dI t.States,dR1 t.Hood,dR0 t.Nodes]),(4,.box [dI 0,.d .nil,.d .nil]),(5,.box [.own 5000,.map 12]),(8,.box [dI x.Level,dL x.Next]),(12,mOb .str kS (uL (L.int .i64)) mp),(23,.row 1 3 (List.map (rI .i64) next)),(5000,.row 2 136 (List.map Node.row l)),(5002,.row 1 3 (List.map (rI .i64) to_))]) Z O
theorem dV (cx:Cx) (hn:cx.n=69) (t:Tree) (a:Int) (mp:List (List UInt8×Int)) (l:List Node) (to_:List Int) (x:Node) (y:List Int) {fu:Nat} {stt:Int×(List Int)} {tt:(List Int)} (hh:aT (b_reduce_rebuilt_reduce_Reduce_1_2 t a mp l to_ x y) fu stt=some tt) {Z:Env} {O:Sto}
  (hE:bz (fun stt:Int×(List Int)=>match stt with | (a1,_next)=>[(1,.u (.one (.fn 130 []))),(2,vX 2),(4,vX 4),(5,vX 5),(6,vO 5002),(8,vX 8),(9,vO 23),(15,.u (.one (dR0 t.Nodes))),(16,vI (aO t.Nodes)),(17,vI a),(24,vO 23),(25,vI (aO y)),(26,vI a1)]) (fun stt:Int×(List Int)=>match stt with | (_a1,next)=>[(2,.box [dI t.States,dR1 t.Hood,dR0 t.Nodes]),(4,.box [dI 0,.d .nil,.d .nil]),(5,.box [.own 5000,.map 12]),(8,.box [dI x.Level,dL x.Next]),(12,mOb .str kS (uL (L.int .i64)) mp),(23,.row 1 3 (List.map (rI .i64) next)),(5000,.row 2 136 (List.map Node.row l)),(5002,.row 1 3 (List.map (rI .i64) to_))]) stt Z O):Swp Tryz.prog cx (.loop (bW [1,1,1,0,1,0,0,1,1,0,0,1,1,0,1,0,0] (bd Tryz.f129))) Z O (bJ cx t a mp l to_ x y tt):=by
 refine bC hE hh (bJ cx t a mp l to_ x y) ?_
 rintro⟨a1,next⟩ r hm Z O hf
 simp only[Fits,aZ,b6,and_true] at hf
 unfold b_reduce_rebuilt_reduce_Reduce_1_2 at hm
 dsimp only at hm
 refine srs hn ?_
 simp -dsimp [hf]
 refine aN ?_
 rcases aU hm with ⟨c4,hm⟩ | ⟨c4,hm⟩
 ·refine aQ (by simp -dsimp) c4 ?_
  refine aP (aM ?_)
  obtain⟨next1,j8,hm⟩:=bnd hm
  refine scE [(1,.u (.one (.fn 130 []))),(2,vX 2),(4,vX 4),(5,vX 5),(6,vO 5002),(8,vX 8),(9,vO 23),(15,.u (.one (dR0 t.Nodes))),(16,vI (aO t.Nodes)),(17,vI a),(24,vO 23),(25,vI (aO y)),(26,vI a1)] [(2,.box [dI t.States,dR1 t.Hood,dR0 t.Nodes]),(4,.box [dI 0,.d .nil,.d .nil]),(5,.box [.own 5000,.map 12]),(8,.box [dI x.Level,dL x.Next]),(12,mOb .str kS (uL (L.int .i64)) mp),(23,.row 1 3 (List.map (rI .i64) next1)),(5000,.row 2 136 (List.map Node.row l)),(5002,.row 1 3 (List.map (rI .i64) to_))] ?_ fun Z O hf=>?_
  ·replace hm:=j8
   clear j8
   refine aS ?_
   refine srs hn ?_
   obtain⟨x1,h5,hm⟩:=bnd hm
   simp -dsimp [hf,c4,h5,bg h5]
   refine srs hn ?_
   simp -dsimp [hf]
   rcases aU hm with ⟨c6,hm⟩ | ⟨c6,hm⟩
   ·refine aQ (by simp -dsimp) c6 ?_
    refine sr1 hn ?_
    obtain⟨x2,h7,hm⟩:=bnd hm
    simp -dsimp [hf,h5,bg h5,c6,h7,bg h7,rsetI .i64 next a1.toNat x2]
    refine bN ?_
    cases hm
    exact EE.here (by simp -dsimp [hf])
   ·refine aR (by simp -dsimp) c6 ?_
    refine aP ?_
    refine bN ?_
    cases hm
    exact EE.here (by simp -dsimp [hf,c6])
  ·clear j8
   exact zz
 ·exact zz
def bK (cx:Cx) (t:Tree) (tt:((List (List UInt8×Int))×(List Node)×(List Int))) (ee:Exit) (Z:Env) (O:Sto):Prop:=match tt with
 | (mp,l,to_)=>ee=.exit 0/\EE cx (be [(2,vX 2),(4,vX 4),(5,vX 5),(6,vO 5002)] [(2,.box [dI t.States,dR1 t.Hood,dR0 t.Nodes]),(4,.box [dI 0,.d .nil,.d .nil]),(5,.box [.own 5000,.map 12]),(12,mOb .str kS (uL (L.int .i64)) mp),(5000,.row 2 136 (List.map Node.row l)),(5002,.row 1 3 (List.map (rI .i64) to_))]) Z O
theorem dY (cx:Cx) (hn:cx.n=69) (t:Tree) {fu:Nat} {stt:Int×(List (List UInt8×Int))×(List Node)×(List Int)} {tt:((List (List UInt8×Int))×(List Node)×(List Int))} (hh:aT (b_reduce_rebuilt_reduce_Reduce_1_1 t) fu stt=some tt) {Z:Env} {O:Sto}
  (hE:bz (fun stt:Int×(List (List UInt8×Int))×(List Node)×(List Int)=>match stt with | (a,_mp,_l,_to_)=>[(1,.u (.one (.fn 130 []))),(2,vX 2),(4,vX 4),(5,vX 5),(6,vO 5002),(15,.u (.one (dR0 t.Nodes))),(16,vI (aO t.Nodes)),(17,vI a)]) (fun stt:Int×(List (List UInt8×Int))×(List Node)×(List Int)=>match stt with | (_a,mp,l,to_)=>[(2,.box [dI t.States,dR1 t.Hood,dR0 t.Nodes]),(4,.box [dI 0,.d .nil,.d .nil]),(5,.box [.own 5000,.map 12]),(12,mOb .str kS (uL (L.int .i64)) mp),(5000,.row 2 136 (List.map Node.row l)),(5002,.row 1 3 (List.map (rI .i64) to_))]) stt Z O):Swp Tryz.prog cx (.loop (bW [1,1,1,0,1,0,0] (bd Tryz.f129))) Z O (bK cx t tt):=by
 refine bC hE hh (bK cx t) ?_
 rintro⟨a,mp,l,to_⟩ r hm Z O hf
 simp only[Fits,aZ,b6,and_true] at hf
 unfold b_reduce_rebuilt_reduce_Reduce_1_1 at hm
 dsimp only at hm
 refine srs hn ?_
 simp -dsimp [hf]
 refine aN ?_
 rcases aU hm with ⟨c1,hm⟩ | ⟨c1,hm⟩
 ·refine aQ (by simp -dsimp) c1 ?_
  refine aP (aM (aN (aS ?_)))
  refine srs hn ?_
  obtain⟨x,h2,hm⟩:=bnd hm
  simp -dsimp [hf,c1,h2]
  refine srs hn ?_
  obtain⟨y,h3,hm⟩:=bnd hm
  simp -dsimp
  refine callL_new (cY x.Next y h3) (dkL hn) (by decide) ?_
  simp -dsimp
  refine aN ?_
  refine srs hn ?_
  simp -dsimp
  refine aS ?_
  obtain⟨next,g9,hm⟩:=bnd hm
  refine bc (dV cx hn t a mp l to_ x y g9) (by
    try dsimp only
    exact EE.here (by simp -dsimp [hf])
  ) fun ee Z O xx=>?_
  unfold bJ at xx
  dsimp only at xx
  obtain⟨rfl,xx⟩:=xx
  refine bG ?_
  refine aM ?_
  refine see xx fun Z O hf=>?_
  simp only[Fits,aZ,b6,and_true] at hf
  refine Swp.pre (Wk.frz 23 1 3 (List.map (rI .i64) next) (by simp -dsimp [hf])) ?_
  refine sw_midc bh mixed 8 9 10 0 [[0]] [[5001]] [true] none (by rw[hn]; kernel_rfl) gn ?_
  dsimp only [List.take,List.drop,fD,fW,uopsD,pk,List.cons_append,List.nil_append,List.flatten_cons,List.flatten_nil,eU,eY,List.append_nil]
  obtain⟨y1,h10,hm⟩:=bnd hm
  simp -dsimp [hf]
  refine aV (fZ x.Level next y1 h10) ?_
  obtain⟨y2,h11,hm⟩:=bnd hm
  simp -dsimp [hf]
  refine callE_g (ea l mp x.Level y1 y2 h11) [5,5000,12] [5001] rfl rfl rfl (by simp -dsimp) rfl (by simp -dsimp [hf]) (by first | rfl | simp) rfl (dkL hn) rfl rfl (by simp) nofun (by simp) ?_
  obtain⟨l1,h12,hm⟩:=bnd hm
  obtain⟨h12a,h12e⟩:=aW h12
  replace h12e:=h12e.symm
  subst h12e
  try simp only[List.length_cons,List.length_nil,Nat.zero_add] at h12a
  simp -dsimp [hf,h12a]
  refine bN ?_
  refine aM ?_
  refine sr1 hn ?_
  simp -dsimp [hf]
  cases hm
  refine cE ?_
  refine emv 52 5002 ?_
  refine emv 5001 5000 ?_
  exact zz
 ·exact zz
theorem eC (t r:Tree) (hm:m_reduce_rebuilt_reduce_Reduce_1 t=some r):PureCall Tryz.prog 129 [.u (.agg [dI t.States,dR1 t.Hood,dR0 t.Nodes]),.u (.one (.fn 130 []))] (.u (.agg [dI r.States,dR1 r.Hood,dR0 r.Nodes])):=by
 refine bf Tryz.func129 Tryz.ntmps129 fun cx hn=>?_
 unfold m_reduce_rebuilt_reduce_Reduce_1 at hm
 refine srs hn ?_
 simp -dsimp
 refine srs hn ?_
 simp -dsimp [(@id (Ob.map .str []=mOb .str kS (uL (L.int .i64)) ([]:List (List UInt8×Int))) (fk .str kS (uL (L.int .i64))))]
 refine srs hn ?_
 simp -dsimp
 refine aN ?_
 refine srs hn ?_
 simp -dsimp
 refine aS ?_
 obtain⟨⟨mp,l,to_⟩,g13,hm⟩:=bnd hm
 refine bc (dY cx hn t g13) (by
   try dsimp only
   refine EE.step (Wk.own0 6 5002 1 3 (by simp -dsimp) (by decide)) ?_
   refine EE.step (Wk.own0b 5 0 5000 2 136 [.d .nil,.map 12] (by simp -dsimp) (by rfl) (by decide) (by decide)) ?_
   exact zz
 ) fun ee Z O xx=>?_
 unfold bK at xx
 dsimp only at xx
 obtain⟨rfl,xx⟩:=xx
 refine bG ?_
 refine aM ?_
 refine see xx fun Z O hf=>?_
 simp only[Fits,aZ,b6,and_true] at hf
 refine Swp.pre (Wk.frz 5000 2 136 (List.map Node.row l) (by simp -dsimp [hf])) ?_
 refine gx bh mixed 14 (by rw[hn]; kernel_rfl) ?_
 dsimp only [List.take,List.drop]
 obtain⟨y,h14,hm⟩:=bnd hm
 simp -dsimp [hf]
 refine aV (cj t.Hood y h14) ?_
 obtain⟨x,h15,hm⟩:=bnd hm
 obtain⟨y1,h16,hm⟩:=bnd hm
 simp -dsimp [hf,h15,bg h15]
 refine aV (eL l x y1 h16) ?_
 exact zz
end
end Go.Proofs.YtlifofijgddjkabGreatDoor
