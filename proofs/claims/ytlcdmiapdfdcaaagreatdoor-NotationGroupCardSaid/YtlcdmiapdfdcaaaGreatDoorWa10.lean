/- That the code does what the functions say (made by cc.py). -/
import Derived.Test.YtlcdmiapdfdcaaaGreatDoorWa9
namespace Go.Proofs.YtlcdmiapdfdcaaaGreatDoor
open Go.AM Go.Proofs
set_option maxRecDepth 100000
attribute [-simp] qlookup cR dQ Ob.wipe Ob.ren Ob.frz1
section
attribute [-simp] List.map_set List.set_set
def cD (cx:Cx) (al:Int) (am:List Point) (ak:List Node) (i a:Int) (to_:List Int) (x:Node) (a1:Int) (mp1:List (List UInt8×Int)) (next:List Int) (l3:List Node) (tt:(List Int)) (ee:Exit) (O:Env) (G:Sto):Prop:=match tt with
 | inner=>ee = .exit 5 /\ EE cx (bw [(2,vX 2),(4,vX 4),(5,vI (bp .i64 (aX am) i)),(6,vX 6),(7,vO 26),(8,vI a),(9,vX 9),(10,vO 42),(11,vI a1),(13,vO 62),(28,.u (.one (dR0 ak))),(29,vI (aX ak)),(30,vI a),(44,.u (.one (dL x.Next))),(45,vI (aX x.Next)),(46,vI a1)] [(2,.box [dI al,.own 1000000,dR0 ak]),(4,.box [dI 0,.d .nil,.d .nil]),(6,.box [.own 5000,.map 21]),(9,.box [dI x.Level,dL x.Next]),(21,mOb .str kS (uL (L.int .i64)) mp1),(26,.row 1 3 (List.map (rI .i64) to_)),(42,.row 1 3 (List.map (rI .i64) next)),(62,.row 1 3 (List.map (rI .i64) inner)),(5000,.row 2 37 (List.map Node.row l3)),(1000000,.row 2 49 (List.map Point.row am))]) O G
theorem gY (cx:Cx) (hn:cx.n = 137) (_hk:cx.k = 1) (al:Int) (am:List Point) (ak:List Node) (i a:Int) (to_:List Int) (x:Node) (a1:Int) (mp1:List (List UInt8×Int)) (next:List Int) (l3:List Node) {fu:Nat} {stt:Int×(List Int)} {tt:(List Int)} (hh:aV (b_reduce_swapped_o_w_3 al am ak i a to_ x a1 mp1 next l3) fu stt = some tt) {O:Env} {G:Sto}
  (hE:bH (fun stt:Int×(List Int)=>match stt with | (a2,_inner)=>[(2,vX 2),(4,vX 4),(5,vI (bp .i64 (aX am) i)),(6,vX 6),(7,vO 26),(8,vI a),(9,vX 9),(10,vO 42),(11,vI a1),(13,vO 62),(28,.u (.one (dR0 ak))),(29,vI (aX ak)),(30,vI a),(44,.u (.one (dL x.Next))),(45,vI (aX x.Next)),(46,vI a1),(64,.u (.one (dL x.Next))),(65,vI (aX x.Next)),(66,vI a2)]) (fun stt:Int×(List Int)=>match stt with | (_a2,inner)=>[(2,.box [dI al,.own 1000000,dR0 ak]),(4,.box [dI 0,.d .nil,.d .nil]),(6,.box [.own 5000,.map 21]),(9,.box [dI x.Level,dL x.Next]),(21,mOb .str kS (uL (L.int .i64)) mp1),(26,.row 1 3 (List.map (rI .i64) to_)),(42,.row 1 3 (List.map (rI .i64) next)),(62,.row 1 3 (List.map (rI .i64) inner)),(5000,.row 2 37 (List.map Node.row l3)),(1000000,.row 2 49 (List.map Point.row am))]) stt O G):Swp Tryz.prog cx (.loop (cr [1,1,1,1,0,1,0,0,1,1,0,0,1,1,1,0,1,0,0,1,1,0,0,1,0,1,0,1,0,1,0,0] (bq Tryz.f26))) O G (cD cx al am ak i a to_ x a1 mp1 next l3 tt):=by
 refine bL hE hh (cD cx al am ak i a to_ x a1 mp1 next l3) ?_
 rintro ⟨a2,inner⟩ r hm O G hf
 simp only [Fits,ba,bb,and_true] at hf
 unfold b_reduce_swapped_o_w_3 at hm
 dsimp only at hm
 refine srs hn ?_
 simp -dsimp [hf]
 refine aU ?_
 rcases aZ hm with ⟨c10,hm⟩ | ⟨c10,hm⟩
 ·refine aQ (by simp -dsimp) c10 ?_
  refine aS (aO ?_)
  obtain ⟨inner1,j18,hm⟩:=bnd hm
  refine scE [(2,vX 2),(4,vX 4),(5,vI (bp .i64 (aX am) i)),(6,vX 6),(7,vO 26),(8,vI a),(9,vX 9),(10,vO 42),(11,vI a1),(13,vO 62),(28,.u (.one (dR0 ak))),(29,vI (aX ak)),(30,vI a),(44,.u (.one (dL x.Next))),(45,vI (aX x.Next)),(46,vI a1),(64,.u (.one (dL x.Next))),(65,vI (aX x.Next)),(66,vI a2)] [(2,.box [dI al,.own 1000000,dR0 ak]),(4,.box [dI 0,.d .nil,.d .nil]),(6,.box [.own 5000,.map 21]),(9,.box [dI x.Level,dL x.Next]),(21,mOb .str kS (uL (L.int .i64)) mp1),(26,.row 1 3 (List.map (rI .i64) to_)),(42,.row 1 3 (List.map (rI .i64) next)),(62,.row 1 3 (List.map (rI .i64) inner1)),(5000,.row 2 37 (List.map Node.row l3)),(1000000,.row 2 49 (List.map Point.row am))] ?_ fun O G hf=>?_
  ·replace hm:=j18
   clear j18
   refine aY ?_
   refine srs hn ?_
   obtain ⟨x2,h11,hm⟩:=bnd hm
   simp -dsimp [hf,c10,h11]
   refine srs hn ?_
   obtain ⟨x3,h12,hm⟩:=bnd hm
   obtain ⟨x4,h13,hm⟩:=bnd hm
   obtain ⟨x5,h14,hm⟩:=bnd hm
   simp -dsimp [hf,h12,h13,h14,bI h14,rsetI .i64 inner a2.toNat x4]
   refine srs hn ?_
   simp -dsimp [hf]
   rcases aZ hm with ⟨c15,hm⟩ | ⟨c15,hm⟩
   ·refine aQ (by simp -dsimp) c15 ?_
    refine sr1 hn ?_
    obtain ⟨x6,h16,hm⟩:=bnd hm
    obtain ⟨x7,h17,hm⟩:=bnd hm
    simp -dsimp [hf,c15,h16,bI h16,h17,bI h17,rsetI .i64 (inner.set a2.toNat x4) a2.toNat x7]
    refine bh ?_
    cases hm
    exact EE.here (by simp -dsimp [hf])
   ·refine aP (by simp -dsimp) c15 ?_
    refine aS ?_
    refine bh ?_
    cases hm
    exact EE.here (by simp -dsimp [hf,c15])
  ·clear j18
   simp only [Fits,ba,bb,and_true] at hf
   refine sr1 hn ?_
   simp -dsimp [hf]
   cases hm
   refine bf ?_
   exact EE.here (by simp -dsimp [hf])
 ·refine aP (by simp -dsimp) c10 ?_
  refine bd ?_
  refine aW ?_
  cases hm
  refine be nofun ?_
  exact ⟨rfl,EE.here (by simp -dsimp [hf,c10])⟩
def cG (cx:Cx) (al:Int) (am:List Point) (ak:List Node) (i a:Int) (to_:List Int) (x:Node) (tt:((List (List UInt8×Int))×(List Int)×(List Node))) (ee:Exit) (O:Env) (G:Sto):Prop:=match tt with
 | (mp1,next,l3)=>ee = .exit 2 /\ EE cx (bw [(2,vX 2),(4,vX 4),(5,vI (bp .i64 (aX am) i)),(6,vX 6),(7,vO 26),(8,vI a),(9,vX 9),(10,vO 42),(28,.u (.one (dR0 ak))),(29,vI (aX ak)),(30,vI a)] [(2,.box [dI al,.own 1000000,dR0 ak]),(4,.box [dI 0,.d .nil,.d .nil]),(6,.box [.own 5000,.map 21]),(9,.box [dI x.Level,dL x.Next]),(21,mOb .str kS (uL (L.int .i64)) mp1),(26,.row 1 3 (List.map (rI .i64) to_)),(42,.row 1 3 (List.map (rI .i64) next)),(5000,.row 2 37 (List.map Node.row l3)),(1000000,.row 2 49 (List.map Point.row am))]) O G
theorem gW (cx:Cx) (hn:cx.n = 137) (hk:cx.k = 1) (al:Int) (am:List Point) (ak:List Node) (i a:Int) (to_:List Int) (x:Node) {fu:Nat} {stt:Int×(List (List UInt8×Int))×(List Int)×(List Node)} {tt:((List (List UInt8×Int))×(List Int)×(List Node))} (hh:aV (b_reduce_swapped_o_w_2 al am ak i a to_ x) fu stt = some tt) {O:Env} {G:Sto}
  (hE:bH (fun stt:Int×(List (List UInt8×Int))×(List Int)×(List Node)=>match stt with | (a1,_mp1,_next,_l3)=>[(2,vX 2),(4,vX 4),(5,vI (bp .i64 (aX am) i)),(6,vX 6),(7,vO 26),(8,vI a),(9,vX 9),(10,vO 42),(28,.u (.one (dR0 ak))),(29,vI (aX ak)),(30,vI a),(44,.u (.one (dL x.Next))),(45,vI (aX x.Next)),(46,vI a1)]) (fun stt:Int×(List (List UInt8×Int))×(List Int)×(List Node)=>match stt with | (_a1,mp1,next,l3)=>[(2,.box [dI al,.own 1000000,dR0 ak]),(4,.box [dI 0,.d .nil,.d .nil]),(6,.box [.own 5000,.map 21]),(9,.box [dI x.Level,dL x.Next]),(21,mOb .str kS (uL (L.int .i64)) mp1),(26,.row 1 3 (List.map (rI .i64) to_)),(42,.row 1 3 (List.map (rI .i64) next)),(5000,.row 2 37 (List.map Node.row l3)),(1000000,.row 2 49 (List.map Point.row am))]) stt O G):Swp Tryz.prog cx (.loop (cr [1,1,1,1,0,1,0,0,1,1,0,0,1,1,1,0,1,0,0] (bq Tryz.f26))) O G (cG cx al am ak i a to_ x tt):=by
 refine bL hE hh (cG cx al am ak i a to_ x) ?_
 rintro ⟨a1,mp1,next,l3⟩ r hm O G hf
 simp only [Fits,ba,bb,and_true] at hf
 unfold b_reduce_swapped_o_w_2 at hm
 dsimp only at hm
 refine srs hn ?_
 simp -dsimp [hf]
 refine aU ?_
 rcases aZ hm with ⟨c6,hm⟩ | ⟨c6,hm⟩
 ·refine aQ (by simp -dsimp) c6 ?_
  refine aS (aO (aU (aY ?_)))
  refine srs hn ?_
  obtain ⟨x1,h7,hm⟩:=bnd hm
  simp -dsimp [hf,c6,h7]
  refine aY ?_
  refine srs hn ?_
  simp -dsimp [hf]
  rcases aZ hm with ⟨c8,hm⟩ | ⟨c8,hm⟩
  ·refine aQ (by simp -dsimp) c8 ?_
   refine srs hn ?_
   obtain ⟨l4,h9,hm⟩:=bnd hm
   obtain ⟨⟨h9a,h9b,h9c⟩,rfl⟩:=mkL_some h9
   simp -dsimp [hf,c8,h9a,h9c]
   refine aU ?_
   refine srs hn ?_
   simp -dsimp [hf]
   refine aY ?_
   obtain ⟨inner,g19,hm⟩:=bnd hm
   refine br (gY cx hn hk al am ak i a to_ x a1 mp1 next l3 g19) (by
     try dsimp only
     exact EE.here (by simp -dsimp [hf])
   ) fun ee O G x20=>?_
   unfold cD at x20
   dsimp only at x20
   obtain ⟨rfl,x20⟩:=x20
   refine bc ?_
   refine aO ?_
   refine see x20 fun O G hf=>?_
   simp only [Fits,ba,bb,and_true] at hf
   refine sr1 hn ?_
   obtain ⟨y,h21,hm⟩:=bnd hm
   simp -dsimp [hf]
   refine clg (dT l3 mp1 (bp .i64 (bp .i64 (aX am) i) 1) inner y h21) [6,5000,21,62] [5001] (by simp -dsimp [hf]) (dkL hn) ?_
   obtain ⟨x2,h22,hm⟩:=bnd hm
   simp -dsimp [hf,h22,bI h22,rsetI .i64 next a1.toNat y.1]
   refine bh ?_
   refine bh ?_
   refine aO ?_
   refine sr1 hn ?_
   simp -dsimp [hf]
   cases hm
   refine bf ?_
   refine emv 5001 5000 ?_
   exact EE.here (by simp -dsimp [hf])
  ·refine aP (by simp -dsimp) c8 ?_
   refine srs hn ?_
   simp -dsimp [hf,c8]
   rcases aZ hm with ⟨c23,hm⟩ | ⟨c23,hm⟩
   ·refine aQ (by simp -dsimp) c23 ?_
    refine sr1 hn ?_
    obtain ⟨x2,h24,hm⟩:=bnd hm
    obtain ⟨x3,h25,hm⟩:=bnd hm
    simp -dsimp [hf,c23,h24,bI h24,h25,bI h25,rsetI .i64 next a1.toNat x2]
    refine bh ?_
    refine bh ?_
    refine aO ?_
    refine sr1 hn ?_
    simp -dsimp [hf]
    cases hm
    refine bf ?_
    exact EE.here (by simp -dsimp [hf])
   ·refine aP (by simp -dsimp) c23 ?_
    refine sr1 hn ?_
    obtain ⟨x2,h26,hm⟩:=bnd hm
    simp -dsimp [hf,c23,h26,bI h26,rsetI .i64 next a1.toNat x1]
    refine bh ?_
    refine bh ?_
    refine aO ?_
    refine sr1 hn ?_
    simp -dsimp [hf]
    cases hm
    refine bf ?_
    exact EE.here (by simp -dsimp [hf])
 ·refine aP (by simp -dsimp) c6 ?_
  refine bd ?_
  refine aW ?_
  cases hm
  refine be nofun ?_
  exact ⟨rfl,EE.here (by simp -dsimp [hf,c6])⟩
def cF (cx:Cx) (al:Int) (am:List Point) (ak:List Node) (_i:Int) (tt:((List (List UInt8×Int))×(List Int)×(List Node))) (ee:Exit) (O:Env) (G:Sto):Prop:=match tt with
 | (mp,to_,l1)=>ee = .exit 0 /\ EE cx (bw [(2,vX 2),(4,vX 4),(6,vX 6),(7,vO 26)] [(2,.box [dI al,.own 1000000,dR0 ak]),(4,.box [dI 0,.d .nil,.d .nil]),(6,.box [.own 5000,.map 21]),(21,mOb .str kS (uL (L.int .i64)) mp),(26,.row 1 3 (List.map (rI .i64) to_)),(5000,.row 2 37 (List.map Node.row l1)),(1000000,.row 2 49 (List.map Point.row am))]) O G
theorem gR (cx:Cx) (hn:cx.n = 137) (hk:cx.k = 1) (al:Int) (am:List Point) (ak:List Node) (i:Int) {fu:Nat} {stt:Int×(List (List UInt8×Int))×(List Int)×(List Node)} {tt:((List (List UInt8×Int))×(List Int)×(List Node))} (hh:aV (b_reduce_swapped_o_w_1 al am ak i) fu stt = some tt) {O:Env} {G:Sto}
  (hE:bH (fun stt:Int×(List (List UInt8×Int))×(List Int)×(List Node)=>match stt with | (a,_mp,_to_,_l1)=>[(2,vX 2),(4,vX 4),(5,vI (bp .i64 (aX am) i)),(6,vX 6),(7,vO 26),(28,.u (.one (dR0 ak))),(29,vI (aX ak)),(30,vI a)]) (fun stt:Int×(List (List UInt8×Int))×(List Int)×(List Node)=>match stt with | (_a,mp,to_,l1)=>[(2,.box [dI al,.own 1000000,dR0 ak]),(4,.box [dI 0,.d .nil,.d .nil]),(6,.box [.own 5000,.map 21]),(21,mOb .str kS (uL (L.int .i64)) mp),(26,.row 1 3 (List.map (rI .i64) to_)),(5000,.row 2 37 (List.map Node.row l1)),(1000000,.row 2 49 (List.map Point.row am))]) stt O G):Swp Tryz.prog cx (.loop (cr [1,1,1,1,0,1,0,0] (bq Tryz.f26))) O G (cF cx al am ak i tt):=by
 refine bL hE hh (cF cx al am ak i) ?_
 rintro ⟨a,mp,to_,l1⟩ r hm O G hf
 simp only [Fits,ba,bb,and_true] at hf
 unfold b_reduce_swapped_o_w_1 at hm
 dsimp only at hm
 refine srs hn ?_
 simp -dsimp [hf]
 refine aU ?_
 rcases aZ hm with ⟨c2,hm⟩ | ⟨c2,hm⟩
 ·refine aQ (by simp -dsimp) c2 ?_
  refine aS (aO (aU (aY ?_)))
  refine srs hn ?_
  obtain ⟨x,h3,hm⟩:=bnd hm
  simp -dsimp [hf,c2,h3]
  refine aU ?_
  refine srs hn ?_
  simp -dsimp [hf]
  rcases aZ hm with ⟨c4,hm⟩ | ⟨c4,hm⟩
  ·refine aQ (by simp -dsimp) c4 ?_
   refine bd ?_
   refine aW ?_
   refine bc ?_
   refine aO ?_
   refine sr1 hn ?_
   simp -dsimp [hf,c4]
   cases hm
   refine bf ?_
   exact EE.here (by simp -dsimp [hf])
  ·refine aP (by simp -dsimp) c4 ?_
   refine aS (aO ?_)
   refine srs hn ?_
   obtain ⟨l2,h5,hm⟩:=bnd hm
   obtain ⟨⟨h5a,h5b,h5c⟩,rfl⟩:=mkL_some h5
   simp -dsimp [hf,c4,h5a,h5c]
   refine aU ?_
   refine srs hn ?_
   simp -dsimp
   refine aY ?_
   obtain ⟨⟨mp1,next,l3⟩,g27,hm⟩:=bnd hm
   refine br (gW cx hn hk al am ak i a to_ x g27) (by
     try dsimp only
     exact EE.here (by simp -dsimp [hf])
   ) fun ee O G x28=>?_
   unfold cG at x28
   dsimp only at x28
   obtain ⟨rfl,x28⟩:=x28
   refine bc ?_
   refine aO ?_
   refine see x28 fun O G hf=>?_
   simp only [Fits,ba,bb,and_true] at hf
   refine sr1 hn ?_
   obtain ⟨y,h29,hm⟩:=bnd hm
   simp -dsimp [hf]
   refine clg (dT l3 mp1 x.Level next y h29) [6,5000,21,42] [5002] (by simp -dsimp [hf]) (dkL hn) ?_
   obtain ⟨x1,h30,hm⟩:=bnd hm
   simp -dsimp [hf,h30,bI h30,rsetI .i64 to_ a.toNat y.1]
   refine bh ?_
   refine aO ?_
   refine sr1 hn ?_
   simp -dsimp [hf]
   cases hm
   refine bf ?_
   refine emv 5002 5000 ?_
   exact EE.here (by simp -dsimp [hf])
 ·refine aP (by simp -dsimp) c2 ?_
  refine bd ?_
  refine aW ?_
  cases hm
  refine be nofun ?_
  exact ⟨rfl,EE.here (by simp -dsimp [hf,c2])⟩
theorem g_reduce_swapped_o_w (al:Int) (am:List Point) (ak:List Node) (i:Int) (r:List Node) (hm:m_reduce_swapped_o_w al am ak i = some r):GFn Tryz.prog 26 [.u (.agg [dI al,.own 1000000,dR0 ak]),vI i] [.row 2 49 (List.map Point.row am)] (.u (.agg [dI al,.own 1000000,dR0 r])) [some (.row 2 49 (List.map Point.row am))]:=by
 refine cy bA _ Tryz.func26 rfl (by kernel_rfl) (by simp [Tryz.ntmps26]) (by simp) (by first | rfl | simp) (by first | rfl | simp) fun cx hn hk=>?_
 replace hn:cx.n = 137:=hn.trans Tryz.ntmps26
 replace hk:cx.k = 1:=hk
 unfold m_reduce_swapped_o_w at hm
 refine srs hn ?_
 simp -dsimp
 refine srs hn ?_
 simp -dsimp
 refine srs hn ?_
 simp -dsimp [(@id (Ob.map .str [] = mOb .str kS (uL (L.int .i64)) ([]:List (List UInt8×Int))) (fG .str kS (uL (L.int .i64))))]
 refine srs hn ?_
 obtain ⟨l,h1,hm⟩:=bnd hm
 obtain ⟨⟨h1a,h1b,h1c⟩,rfl⟩:=mkL_some h1
 simp -dsimp [h1a,h1c]
 refine aU ?_
 refine srs hn ?_
 simp -dsimp
 refine aY ?_
 obtain ⟨⟨mp,to_,l1⟩,g31,hm⟩:=bnd hm
 refine br (gR cx hn hk al am ak i g31) (by
   try dsimp only
   refine EE.step (Wk.own0b 6 0 5000 2 37 [.d .nil,.map 21] (by simp -dsimp) (by rfl) (by decide) (by decide)) ?_
   exact EE.here (by simp -dsimp)
 ) fun ee O G x32=>?_
 unfold cF at x32
 dsimp only at x32
 obtain ⟨rfl,x32⟩:=x32
 refine bc ?_
 refine aO ?_
 refine see x32 fun O G hf=>?_
 simp only [Fits,ba,bb,and_true] at hf
 refine Swp.pre (Wk.frz 5000 2 37 (List.map Node.row l1) (by simp -dsimp [hf])) ?_
 refine gV bA mixed 13 (by rw [hn]; kernel_rfl) ?_
 dsimp only [List.take,List.drop]
 obtain ⟨x,h33,hm⟩:=bnd hm
 obtain ⟨y,h34,hm⟩:=bnd hm
 simp -dsimp [hf,h33,bI h33]
 refine bl (f6 l1 x y h34) ?_
 simp -dsimp [hf]
 cases hm
 exact aT ⟨.inr rfl,EE.here (by simp -dsimp [hf])⟩
end
theorem c_reduce_sized (t:Tree) (r:Tree×Int) (hm:m_reduce_sized t = some r):PureCall Tryz.prog 27 [.u (.agg [dI t.States,dR1 t.Hood,dR0 t.Nodes])] (.tup [.agg [dI r.1.States,dR1 r.1.Hood,dR0 r.1.Nodes],.one (dI r.2)]):=by
 refine bD Tryz.func27 Tryz.ntmps27 fun cx hn=>?_
 unfold m_reduce_sized at hm
 refine srs hn ?_
 simp -dsimp
 refine aU ?_
 refine srs hn ?_
 simp -dsimp
 rcases aZ hm with ⟨c1,hm⟩ | ⟨c1,hm⟩
 ·refine sct c1 ?_
  refine srs hn ?_
  simp -dsimp [c1]
  refine aT (aW ?_)
  cases hm
  refine ⟨.inr rfl,?_⟩
  exact EE.here (by simp -dsimp)
 ·refine scf c1 ?_
  refine aS (aO ?_)
  refine srs hn ?_
  simp -dsimp [c1]
  cases hm
  exact aT ⟨.inr rfl,EE.here (by simp -dsimp)⟩
section
attribute [-simp] List.map_set List.set_set
def ej (cx:Cx) (_k:Int) (y1:Int×(List Node)×(List Point)) (tt:(List Point)) (ee:Exit) (O:Env) (G:Sto):Prop:=match tt with
 | l=>ee = .exit 0 /\ EE cx (bw [(4,vX 4),(6,vX 6)] [(4,.box [dI 0,.d .nil,.d .nil]),(6,.box [dI y1.1,.own 5000,dR0 y1.2.1]),(5000,.row 2 49 (List.map Point.row l))]) O G
theorem l_reduce_Turn_1 (cx:Cx) (hn:cx.n = 83) (k:Int) (y1:Int×(List Node)×(List Point)) {fu:Nat} {stt:Int×(List Point)} {tt:(List Point)} (hh:aV (b_reduce_Turn_1 k y1) fu stt = some tt) {O:Env} {G:Sto}
  (hE:bH (fun stt:Int×(List Point)=>match stt with | (a,_l)=>[(0,vI k),(4,vX 4),(6,vX 6),(18,vO 5000),(19,vI (aX y1.2.2)),(20,vI a)]) (fun stt:Int×(List Point)=>match stt with | (_a,l)=>[(4,.box [dI 0,.d .nil,.d .nil]),(6,.box [dI y1.1,.own 5000,dR0 y1.2.1]),(5000,.row 2 49 (List.map Point.row l))]) stt O G):Swp Tryz.prog cx (.loop (cr [1,1,1,0,1,0,0] (bq Tryz.f12))) O G (ej cx k y1 tt):=by
 refine bL hE hh (ej cx k y1) ?_
 rintro ⟨a,l⟩ r hm O G hf
 simp only [Fits,ba,bb,and_true] at hf
 unfold b_reduce_Turn_1 at hm
 dsimp only at hm
 refine srs hn ?_
 simp -dsimp [hf]
 refine aU ?_
 rcases aZ hm with ⟨c4,hm⟩ | ⟨c4,hm⟩
 ·refine aQ (by simp -dsimp) c4 ?_
  refine aS (aO (aU (aY ?_)))
  refine srs hn ?_
  obtain ⟨x,h5,hm⟩:=bnd hm
  simp -dsimp [hf,c4,h5,bI h5]
  refine sw_drN bA mixed 6 (by rw [hn]; kernel_rfl) ?_
  dsimp only [List.take,List.drop]
  obtain ⟨y2,h6,hm⟩:=bnd hm
  simp -dsimp [hf]
  refine bl (da k x y2 h6) ?_
  simp -dsimp [hf,h5,bI h5,Point.rset l a.toNat y2.X y2.Y]
  refine bh ?_
  refine aO ?_
  refine sr1 hn ?_
  simp -dsimp [hf]
  cases hm
  refine bf ?_
  exact EE.here (by simp -dsimp [hf])
 ·refine aP (by simp -dsimp) c4 ?_
  refine bd ?_
  refine aW ?_
  cases hm
  refine be nofun ?_
  exact ⟨rfl,EE.here (by simp -dsimp [hf,c4])⟩
def eh (cx:Cx) (y1:Int×(List Node)×(List Point)) (tt:(Bool×(List Node)×(List Point))) (ee:Exit) (O:Env) (G:Sto):Prop:=match tt with
 | (aE,aD,l2)=>ee = .exit 4 /\ EE cx (bw [(4,vX 4),(6,vX 6),(9,vT aE)] [(4,.box [dI 0,.d .nil,.d .nil]),(6,.box [dI y1.1,.own 5000,dR0 aD]),(5000,.row 2 49 (List.map Point.row l2))]) O G
theorem l_reduce_Turn_3 (cx:Cx) (hn:cx.n = 83) (y1:Int×(List Node)×(List Point)) {fu:Nat} {stt:Bool×Int×(List Node)×(List Point)} {tt:(Bool×(List Node)×(List Point))} (hh:aV (b_reduce_Turn_3 y1) fu stt = some tt) {O:Env} {G:Sto}
  (hE:bH (fun stt:Bool×Int×(List Node)×(List Point)=>match stt with | (aE,i,_aD,_l2)=>[(4,vX 4),(6,vX 6),(9,vT aE),(10,vI i)]) (fun stt:Bool×Int×(List Node)×(List Point)=>match stt with | (_aE,_i,aD,l2)=>[(4,.box [dI 0,.d .nil,.d .nil]),(6,.box [dI y1.1,.own 5000,dR0 aD]),(5000,.row 2 49 (List.map Point.row l2))]) stt O G):Swp Tryz.prog cx (.loop (cr [1,1,1,1,0,1,0,0,1,0,1,1,0,0] (bq Tryz.f12))) O G (eh cx y1 tt):=by
 refine bL hE hh (eh cx y1) ?_
 rintro ⟨aE,i,aD,l2⟩ r hm O G hf
 simp only [Fits,ba,bb,and_true] at hf
 unfold b_reduce_Turn_3 at hm
 dsimp only at hm
 refine aU ?_
 refine srs hn ?_
 simp -dsimp [hf]
 rcases aZ hm with ⟨c10,hm⟩ | ⟨c10,hm⟩
 ·refine aQ (by simp -dsimp) c10 ?_
  refine aS (aO ?_)
  obtain ⟨⟨sorted2,uNodes2,l3⟩,j17,hm⟩:=bnd hm
  refine scE [(4,vX 4),(6,vX 6),(9,vT sorted2),(10,vI i)] [(4,.box [dI 0,.d .nil,.d .nil]),(6,.box [dI y1.1,.own 5000,dR0 uNodes2]),(5000,.row 2 49 (List.map Point.row l3))] ?_ fun O G hf=>?_
  ·replace hm:=j17
   clear j17
   refine aY ?_
   refine fh bA mixed (by rw [hn]; kernel_rfl) ?_
   obtain ⟨x,h11,hm⟩:=bnd hm
   obtain ⟨x1,h12,hm⟩:=bnd hm
   obtain ⟨y2,h13,hm⟩:=bnd hm
   simp -dsimp [hf,c10,h11,bI h11,h12,bI h12]
   refine bl (c_point_Compare x x1 y2 h13) ?_
   simp -dsimp
   rcases aZ hm with ⟨c14,hm⟩ | ⟨c14,hm⟩
   ·refine aQ (by simp -dsimp) c14 ?_
    refine srs hn ?_
    obtain ⟨y3,h15,hm⟩:=bnd hm
    simp -dsimp [hf,c14]
    refine clg (g_reduce_swapped_o_w y1.1 l2 aD (bp .i64 i 1) y3 h15) [5000] [] (by simp -dsimp [hf]) (dkL hn) ?_
    simp -dsimp [hf]
    refine sw_midcs bA mixed 19 20 20 0 [[4,5,6]] [[]] [] none (by rw [hn]; kernel_rfl) fP ?_
    dsimp only [List.take,List.drop,fC,fT,uopsD,pk,List.cons_append,List.nil_append,List.flatten_cons,List.flatten_nil,eR,eT,List.append_nil]
    obtain ⟨x2,h16,hm⟩:=bnd hm
    simp -dsimp [hf,h11,bI h11,h12,bI h12,Point.rset l2 (bp .i64 i 1).toNat x1.X x1.Y,h16,bI h16,Point.rset (l2.set (bp .i64 i 1).toNat x1) i.toNat x.X x.Y]
    refine sr1 hn ?_
    simp -dsimp
    refine bh ?_
    cases hm
    exact EE.here (by simp -dsimp [hf])
   ·refine aP (by simp -dsimp) c14 ?_
    refine aS ?_
    refine bh ?_
    cases hm
    exact EE.here (by simp -dsimp [hf,c14])
  ·clear j17
   simp only [Fits,ba,bb,and_true] at hf
   refine sr1 hn ?_
   simp -dsimp [hf]
   cases hm
   refine bf ?_
   exact EE.here (by simp -dsimp [hf])
 ·refine aP (by simp -dsimp) c10 ?_
  refine bd ?_
  refine aW ?_
  cases hm
  refine be nofun ?_
  exact ⟨rfl,EE.here (by simp -dsimp [hf,c10])⟩
def ei (cx:Cx) (y1:Int×(List Node)×(List Point)) (tt:((List Node)×(List Point))) (ee:Exit) (O:Env) (G:Sto):Prop:=match tt with
 | (aF,l1)=>ee = .exit 2 /\ EE cx (bw [(4,vX 4),(6,vX 6)] [(4,.box [dI 0,.d .nil,.d .nil]),(6,.box [dI y1.1,.own 5000,dR0 aF]),(5000,.row 2 49 (List.map Point.row l1))]) O G
theorem l_reduce_Turn_2 (cx:Cx) (hn:cx.n = 83) (y1:Int×(List Node)×(List Point)) {fu:Nat} {stt:Bool×(List Node)×(List Point)} {tt:((List Node)×(List Point))} (hh:aV (b_reduce_Turn_2 y1) fu stt = some tt) {O:Env} {G:Sto}
  (hE:bH (fun stt:Bool×(List Node)×(List Point)=>match stt with | (aI,_aF,_l1)=>[(4,vX 4),(6,vX 6),(9,vT aI)]) (fun stt:Bool×(List Node)×(List Point)=>match stt with | (_aI,aF,l1)=>[(4,.box [dI 0,.d .nil,.d .nil]),(6,.box [dI y1.1,.own 5000,dR0 aF]),(5000,.row 2 49 (List.map Point.row l1))]) stt O G):Swp Tryz.prog cx (.loop (cr [1,1,1,1,0,1,0,0] (bq Tryz.f12))) O G (ei cx y1 tt):=by
 refine bL hE hh (ei cx y1) ?_
 rintro ⟨aI,aF,l1⟩ r hm O G hf
 simp only [Fits,ba,bb,and_true] at hf
 unfold b_reduce_Turn_2 at hm
 dsimp only at hm
 refine aU ?_
 refine srs hn ?_
 simp -dsimp [hf]
 rcases aZ hm with ⟨c9,hm⟩ | ⟨c9,hm⟩
 ·refine aQ (by simp -dsimp) c9 ?_
  refine aS (aO (aY ?_))
  refine srs hn ?_
  simp -dsimp [c9]
  refine srs hn ?_
  simp -dsimp
  refine aY ?_
  obtain ⟨⟨aE,aD,l2⟩,g18,hm⟩:=bnd hm
  refine br (l_reduce_Turn_3 cx hn y1 g18) (by
    try dsimp only
    exact EE.here (by simp -dsimp [hf])
  ) fun ee O G x19=>?_
  unfold eh at x19
  dsimp only at x19
  obtain ⟨rfl,x19⟩:=x19
  refine bc ?_
  refine bh ?_
  cases hm
  refine bf ?_
  refine ee_bind (by rfl) (by rfl) x19 fun O G hf=>?_
  simp only [Fits,ba,bb,and_true] at hf
  exact EE.here (by simp -dsimp [hf])
 ·refine aP (by simp -dsimp) c9 ?_
  refine bd ?_
  refine aW ?_
  cases hm
  refine be nofun ?_
  exact ⟨rfl,EE.here (by simp -dsimp [hf,c9])⟩
theorem gx (k:Int) (t:Tree) (r:Tree×Int) (hm:m_reduce_Turn k t = some r):PureCall Tryz.prog 12 [vI k,.u (.agg [dI t.States,dR1 t.Hood,dR0 t.Nodes])] (.tup [.agg [dI r.1.States,dR1 r.1.Hood,dR0 r.1.Nodes],.one (dI r.2)]):=by
 refine bD Tryz.func12 Tryz.ntmps12 fun cx hn=>?_
 unfold m_reduce_Turn at hm
 refine srs hn ?_
 simp -dsimp
 refine aU ?_
 refine srs hn ?_
 obtain ⟨y,h1,hm⟩:=bnd hm
 simp -dsimp
 refine aR (dO t y h1) (dkL hn) ?_
 simp -dsimp
 rcases aZ hm with ⟨c2,hm⟩ | ⟨c2,hm⟩
 ·refine aQ (by simp -dsimp) c2 ?_
  refine srs hn ?_
  simp -dsimp [c2]
  refine aT (aW ?_)
  cases hm
  refine ⟨.inr rfl,?_⟩
  exact EE.here (by simp -dsimp)
 ·refine aP (by simp -dsimp) c2 ?_
  refine aS (aO ?_)
  refine srs hn ?_
  obtain ⟨y1,h3,hm⟩:=bnd hm
  simp -dsimp [c2]
  refine clg (g_reduce_Reduce_w t y1 h3) [] [5000] (by simp -dsimp) (dkL hn) ?_
  simp -dsimp
  refine aU ?_
  refine srs hn ?_
  simp -dsimp
  refine aY ?_
  obtain ⟨l,g7,hm⟩:=bnd hm
  refine br (l_reduce_Turn_1 cx hn k y1 g7) (by
    try dsimp only
    exact EE.here (by simp -dsimp)
  ) fun ee O G x8=>?_
  unfold ej at x8
  dsimp only at x8
  obtain ⟨rfl,x8⟩:=x8
  refine bc ?_
  refine aO ?_
  refine see x8 fun O G hf=>?_
  simp only [Fits,ba,bb,and_true] at hf
  refine aU ?_
  refine srs hn ?_
  simp -dsimp
  refine aY ?_
  obtain ⟨⟨aF,l1⟩,g20,hm⟩:=bnd hm
  refine br (l_reduce_Turn_2 cx hn y1 g20) (by
    try dsimp only
    exact EE.here (by simp -dsimp [hf])
  ) fun ee O G x21=>?_
  unfold ei at x21
  dsimp only at x21
  obtain ⟨rfl,x21⟩:=x21
  refine bc ?_
  refine aO ?_
  refine see x21 fun O G hf=>?_
  simp only [Fits,ba,bb,and_true] at hf
  refine Swp.pre (Wk.frz 5000 2 49 (List.map Point.row l1) (by simp -dsimp [hf])) ?_
  refine srs hn ?_
  obtain ⟨y2,h22,hm⟩:=bnd hm
  simp -dsimp [hf]
  refine aR (c_reduce_sized (⟨y1.1,l1,aF⟩:Tree) y2 h22) (dkL hn) ?_
  simp -dsimp [hf]
  cases hm
  exact aT ⟨.inr rfl,EE.here (by simp -dsimp [hf])⟩
end
section
attribute [-simp] List.map_set List.set_set
def bJ (cx:Cx) (t:Tree) (a:Int) (mp:List (List UInt8×Int)) (l:List Node) (to_:List Int) (x:Node) (_y:List Int) (tt:(List Int)) (ee:Exit) (O:Env) (G:Sto):Prop:=match tt with
 | next=>ee = .exit 2 /\ EE cx (bw [(1,.u (.one (.fn 56 []))),(2,vX 2),(4,vX 4),(5,vX 5),(6,vO 5002),(8,vX 8),(9,vO 23),(15,.u (.one (dR0 t.Nodes))),(16,vI (aX t.Nodes)),(17,vI a)] [(2,.box [dI t.States,dR1 t.Hood,dR0 t.Nodes]),(4,.box [dI 0,.d .nil,.d .nil]),(5,.box [.own 5000,.map 12]),(8,.box [dI x.Level,dL x.Next]),(12,mOb .str kS (uL (L.int .i64)) mp),(23,.row 1 3 (List.map (rI .i64) next)),(5000,.row 2 37 (List.map Node.row l)),(5002,.row 1 3 (List.map (rI .i64) to_))]) O G
theorem ew (cx:Cx) (hn:cx.n = 69) (t:Tree) (a:Int) (mp:List (List UInt8×Int)) (l:List Node) (to_:List Int) (x:Node) (y:List Int) {fu:Nat} {stt:Int×(List Int)} {tt:(List Int)} (hh:aV (b_reduce_rebuilt_reduce_Reduce_1_2 t a mp l to_ x y) fu stt = some tt) {O:Env} {G:Sto}
  (hE:bH (fun stt:Int×(List Int)=>match stt with | (a1,_next)=>[(1,.u (.one (.fn 56 []))),(2,vX 2),(4,vX 4),(5,vX 5),(6,vO 5002),(8,vX 8),(9,vO 23),(15,.u (.one (dR0 t.Nodes))),(16,vI (aX t.Nodes)),(17,vI a),(24,vO 23),(25,vI (aX y)),(26,vI a1)]) (fun stt:Int×(List Int)=>match stt with | (_a1,next)=>[(2,.box [dI t.States,dR1 t.Hood,dR0 t.Nodes]),(4,.box [dI 0,.d .nil,.d .nil]),(5,.box [.own 5000,.map 12]),(8,.box [dI x.Level,dL x.Next]),(12,mOb .str kS (uL (L.int .i64)) mp),(23,.row 1 3 (List.map (rI .i64) next)),(5000,.row 2 37 (List.map Node.row l)),(5002,.row 1 3 (List.map (rI .i64) to_))]) stt O G):Swp Tryz.prog cx (.loop (cr [1,1,1,0,1,0,0,1,1,0,0,1,1,0,1,0,0] (bq Tryz.f55))) O G (bJ cx t a mp l to_ x y tt):=by
 refine bL hE hh (bJ cx t a mp l to_ x y) ?_
 rintro ⟨a1,next⟩ r hm O G hf
 simp only [Fits,ba,bb,and_true] at hf
 unfold b_reduce_rebuilt_reduce_Reduce_1_2 at hm
 dsimp only at hm
 refine srs hn ?_
 simp -dsimp [hf]
 refine aU ?_
 rcases aZ hm with ⟨c4,hm⟩ | ⟨c4,hm⟩
 ·refine aQ (by simp -dsimp) c4 ?_
  refine aS (aO ?_)
  obtain ⟨next1,j8,hm⟩:=bnd hm
  refine scE [(1,.u (.one (.fn 56 []))),(2,vX 2),(4,vX 4),(5,vX 5),(6,vO 5002),(8,vX 8),(9,vO 23),(15,.u (.one (dR0 t.Nodes))),(16,vI (aX t.Nodes)),(17,vI a),(24,vO 23),(25,vI (aX y)),(26,vI a1)] [(2,.box [dI t.States,dR1 t.Hood,dR0 t.Nodes]),(4,.box [dI 0,.d .nil,.d .nil]),(5,.box [.own 5000,.map 12]),(8,.box [dI x.Level,dL x.Next]),(12,mOb .str kS (uL (L.int .i64)) mp),(23,.row 1 3 (List.map (rI .i64) next1)),(5000,.row 2 37 (List.map Node.row l)),(5002,.row 1 3 (List.map (rI .i64) to_))] ?_ fun O G hf=>?_
  ·replace hm:=j8
   clear j8
   refine aY ?_
   refine srs hn ?_
   obtain ⟨x1,h5,hm⟩:=bnd hm
   simp -dsimp [hf,c4,h5,bI h5]
   refine srs hn ?_
   simp -dsimp [hf]
   rcases aZ hm with ⟨c6,hm⟩ | ⟨c6,hm⟩
   ·refine aQ (by simp -dsimp) c6 ?_
    refine sr1 hn ?_
    obtain ⟨x2,h7,hm⟩:=bnd hm
    simp -dsimp [hf,h5,bI h5,c6,h7,bI h7,rsetI .i64 next a1.toNat x2]
    refine bh ?_
    cases hm
    exact EE.here (by simp -dsimp [hf])
   ·refine aP (by simp -dsimp) c6 ?_
    refine aS ?_
    refine bh ?_
    cases hm
    exact EE.here (by simp -dsimp [hf,c6])
  ·clear j8
   simp only [Fits,ba,bb,and_true] at hf
   refine sr1 hn ?_
   simp -dsimp [hf]
   cases hm
   refine bf ?_
   exact EE.here (by simp -dsimp [hf])
 ·refine aP (by simp -dsimp) c4 ?_
  refine bd ?_
  refine aW ?_
  cases hm
  refine be nofun ?_
  exact ⟨rfl,EE.here (by simp -dsimp [hf,c4])⟩
def bK (cx:Cx) (t:Tree) (tt:((List (List UInt8×Int))×(List Node)×(List Int))) (ee:Exit) (O:Env) (G:Sto):Prop:=match tt with
 | (mp,l,to_)=>ee = .exit 0 /\ EE cx (bw [(2,vX 2),(4,vX 4),(5,vX 5),(6,vO 5002)] [(2,.box [dI t.States,dR1 t.Hood,dR0 t.Nodes]),(4,.box [dI 0,.d .nil,.d .nil]),(5,.box [.own 5000,.map 12]),(12,mOb .str kS (uL (L.int .i64)) mp),(5000,.row 2 37 (List.map Node.row l)),(5002,.row 1 3 (List.map (rI .i64) to_))]) O G
theorem ev (cx:Cx) (hn:cx.n = 69) (t:Tree) {fu:Nat} {stt:Int×(List (List UInt8×Int))×(List Node)×(List Int)} {tt:((List (List UInt8×Int))×(List Node)×(List Int))} (hh:aV (b_reduce_rebuilt_reduce_Reduce_1_1 t) fu stt = some tt) {O:Env} {G:Sto}
  (hE:bH (fun stt:Int×(List (List UInt8×Int))×(List Node)×(List Int)=>match stt with | (a,_mp,_l,_to_)=>[(1,.u (.one (.fn 56 []))),(2,vX 2),(4,vX 4),(5,vX 5),(6,vO 5002),(15,.u (.one (dR0 t.Nodes))),(16,vI (aX t.Nodes)),(17,vI a)]) (fun stt:Int×(List (List UInt8×Int))×(List Node)×(List Int)=>match stt with | (_a,mp,l,to_)=>[(2,.box [dI t.States,dR1 t.Hood,dR0 t.Nodes]),(4,.box [dI 0,.d .nil,.d .nil]),(5,.box [.own 5000,.map 12]),(12,mOb .str kS (uL (L.int .i64)) mp),(5000,.row 2 37 (List.map Node.row l)),(5002,.row 1 3 (List.map (rI .i64) to_))]) stt O G):Swp Tryz.prog cx (.loop (cr [1,1,1,0,1,0,0] (bq Tryz.f55))) O G (bK cx t tt):=by
 refine bL hE hh (bK cx t) ?_
 rintro ⟨a,mp,l,to_⟩ r hm O G hf
 simp only [Fits,ba,bb,and_true] at hf
 unfold b_reduce_rebuilt_reduce_Reduce_1_1 at hm
 dsimp only at hm
 refine srs hn ?_
 simp -dsimp [hf]
 refine aU ?_
 rcases aZ hm with ⟨c1,hm⟩ | ⟨c1,hm⟩
 ·refine aQ (by simp -dsimp) c1 ?_
  refine aS (aO (aU (aY ?_)))
  refine srs hn ?_
  obtain ⟨x,h2,hm⟩:=bnd hm
  simp -dsimp [hf,c1,h2]
  refine srs hn ?_
  obtain ⟨y,h3,hm⟩:=bnd hm
  simp -dsimp
  refine callL_new (dh x.Next y h3) (dkL hn) (by decide) ?_
  simp -dsimp
  refine aU ?_
  refine srs hn ?_
  simp -dsimp
  refine aY ?_
  obtain ⟨next,g9,hm⟩:=bnd hm
  refine br (ew cx hn t a mp l to_ x y g9) (by
    try dsimp only
    exact EE.here (by simp -dsimp [hf])
  ) fun ee O G x10=>?_
  unfold bJ at x10
  dsimp only at x10
  obtain ⟨rfl,x10⟩:=x10
  refine bc ?_
  refine aO ?_
  refine see x10 fun O G hf=>?_
  simp only [Fits,ba,bb,and_true] at hf
  refine Swp.pre (Wk.frz 23 1 3 (List.map (rI .i64) next) (by simp -dsimp [hf])) ?_
  refine sw_midc bA mixed 8 9 10 0 [[0]] [[5001]] [true] none (by rw [hn]; kernel_rfl) fP ?_
  dsimp only [List.take,List.drop,fC,fT,uopsD,pk,List.cons_append,List.nil_append,List.flatten_cons,List.flatten_nil,eR,eT,List.append_nil]
  obtain ⟨y1,h11,hm⟩:=bnd hm
  simp -dsimp [hf]
  refine bl (gr x.Level next y1 h11) ?_
  obtain ⟨y2,h12,hm⟩:=bnd hm
  simp -dsimp [hf]
  refine callE_g (eA l mp x.Level y1 y2 h12) [5,5000,12] [5001] rfl rfl rfl (by simp -dsimp) rfl (by simp -dsimp [hf]) (by first | rfl | simp) rfl (dkL hn) rfl rfl (by simp) nofun (by simp) ?_
  obtain ⟨l1,h13,hm⟩:=bnd hm
  obtain ⟨h13a,h13e⟩:=bm h13
  replace h13e:=h13e.symm
  subst h13e
  try simp only [List.length_cons,List.length_nil,Nat.zero_add] at h13a
  simp -dsimp [hf,h13a]
  refine bh ?_
  refine aO ?_
  refine sr1 hn ?_
  simp -dsimp [hf]
  cases hm
  refine bf ?_
  refine emv 52 5002 ?_
  refine emv 5001 5000 ?_
  exact EE.here (by simp -dsimp [hf])
 ·refine aP (by simp -dsimp) c1 ?_
  refine bd ?_
  refine aW ?_
  cases hm
  refine be nofun ?_
  exact ⟨rfl,EE.here (by simp -dsimp [hf,c1])⟩
theorem eS (t r:Tree) (hm:m_reduce_rebuilt_reduce_Reduce_1 t = some r):PureCall Tryz.prog 55 [.u (.agg [dI t.States,dR1 t.Hood,dR0 t.Nodes]),.u (.one (.fn 56 []))] (.u (.agg [dI r.States,dR1 r.Hood,dR0 r.Nodes])):=by
 refine bD Tryz.func55 Tryz.ntmps55 fun cx hn=>?_
 unfold m_reduce_rebuilt_reduce_Reduce_1 at hm
 refine srs hn ?_
 simp -dsimp
 refine srs hn ?_
 simp -dsimp [(@id (Ob.map .str [] = mOb .str kS (uL (L.int .i64)) ([]:List (List UInt8×Int))) (fG .str kS (uL (L.int .i64))))]
 refine srs hn ?_
 simp -dsimp
 refine aU ?_
 refine srs hn ?_
 simp -dsimp
 refine aY ?_
 obtain ⟨⟨mp,l,to_⟩,g14,hm⟩:=bnd hm
 refine br (ev cx hn t g14) (by
   try dsimp only
   refine EE.step (Wk.own0 6 5002 1 3 (by simp -dsimp) (by decide)) ?_
   refine EE.step (Wk.own0b 5 0 5000 2 37 [.d .nil,.map 12] (by simp -dsimp) (by rfl) (by decide) (by decide)) ?_
   exact EE.here (by simp -dsimp)
 ) fun ee O G x15=>?_
 unfold bK at x15
 dsimp only at x15
 obtain ⟨rfl,x15⟩:=x15
 refine bc ?_
 refine aO ?_
 refine see x15 fun O G hf=>?_
 simp only [Fits,ba,bb,and_true] at hf
 refine Swp.pre (Wk.frz 5000 2 37 (List.map Node.row l) (by simp -dsimp [hf])) ?_
 refine gV bA mixed 14 (by rw [hn]; kernel_rfl) ?_
 dsimp only [List.take,List.drop]
 obtain ⟨y,h16,hm⟩:=bnd hm
 simp -dsimp [hf]
 refine bl (cO t.Hood y h16) ?_
 obtain ⟨x,h17,hm⟩:=bnd hm
 obtain ⟨y1,h18,hm⟩:=bnd hm
 simp -dsimp [hf,h17,bI h17]
 refine bl (f6 l x y1 h18) ?_
 simp -dsimp [hf]
 cases hm
 exact aT ⟨.inr rfl,EE.here (by simp -dsimp [hf])⟩
end
end Go.Proofs.YtlcdmiapdfdcaaaGreatDoor
