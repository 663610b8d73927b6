/- That the code does what the functions say (made by cc.py). -/
import Derived.Test.YtlifofijgddjkacGreatDoorWa7
namespace Go.Proofs.YtlifofijgddjkacGreatDoor
open Go.AM Go.Proofs
set_option maxRecDepth 100000
attribute [-simp] eR fS jn Ob.wipe Ob.ren Ob.frz1
def ii (cx:Cx) (x:B8) (y1:Int×(List Point)×(List Node)×Int) (y2:Int) (y3:(List Ba)×(List (List Int))×Int) (a _x1:Int) (tt:(List (List Int))) (ee:Exit) (Z:Env) (O:Sto):Prop:=match tt with
 | l1=>ee=.exit 2/\EE cx (bY [(3,vX 3),(4,vX 4),(5,vI y3.2.2),(8,vX 5001),(9,vI y2),(10,vX 10),(53,.u (.one (dL x.Syms))),(54,vI (b9 x.Syms)),(55,vI a)] [(3,.box [dI x.W,dI x.H,dI x.Gens,dI x.DX,dI x.DY,dL x.Syms]),(4,.box [dI 0,.d .nil]),(10,.box [dI ((⟨0,0,x.W,x.H⟩:Box).X),dI ((⟨0,0,x.W,x.H⟩:Box).Y),dI ((⟨0,0,x.W,x.H⟩:Box).W),dI ((⟨0,0,x.W,x.H⟩:Box).H),dR3 y3.1]),(5000,mOb .str kS (uA Tree.row) []),(5001,.box [dI y3.2.2,.own 5002,dI y1.1,dR2 y1.2.1,dR1 y1.2.2.1,dI y1.2.2.2,.map 5000]),(5002,.row 1 26 (List.map (rS 1 (rI .i64)) l1))]) Z O
set_option maxHeartbeats 1000000 in
theorem l_unroll_Formula_2 (cx:Cx) (hn:cx.n=242) (x:B8) (y1:Int×(List Point)×(List Node)×Int) (y2:Int) (y3:(List Ba)×(List (List Int))×Int) (a x1:Int) {fu:Nat} {stt:Int×(List (List Int))} {tt:(List (List Int))} (hh:bh (jK x y1 y2 y3 a x1) fu stt=some tt) {Z:Env} {O:Sto}
  (hE:cw (fun stt:Int×(List (List Int))=>match stt with | (a1,_l1)=>[(3,vX 3),(4,vX 4),(5,vI y3.2.2),(8,vX 5001),(9,vI y2),(10,vX 10),(12,vI x1),(53,.u (.one (dL x.Syms))),(54,vI (b9 x.Syms)),(55,vI a),(60,.u (.one (dR3 y3.1))),(61,vI (b9 y3.1)),(62,vI a1)]) (fun stt:Int×(List (List Int))=>match stt with | (_a1,l1)=>[(3,.box [dI x.W,dI x.H,dI x.Gens,dI x.DX,dI x.DY,dL x.Syms]),(4,.box [dI 0,.d .nil]),(10,.box [dI ((⟨0,0,x.W,x.H⟩:Box).X),dI ((⟨0,0,x.W,x.H⟩:Box).Y),dI ((⟨0,0,x.W,x.H⟩:Box).W),dI ((⟨0,0,x.W,x.H⟩:Box).H),dR3 y3.1]),(5000,mOb .str kS (uA Tree.row) []),(5001,.box [dI y3.2.2,.own 5002,dI y1.1,dR2 y1.2.1,dR1 y1.2.2.1,dI y1.2.2.2,.map 5000]),(5002,.row 1 26 (List.map (rS 1 (rI .i64)) l1))]) stt Z O):Swp Tryz.prog cx (.loop (dx [1,1,1,1,1,0,1,0,0,1,1,0,0,1,1,0,0] (bQ Tryz.f11))) Z O (ii cx x y1 y2 y3 a x1 tt):=by
 refine cz hE hh (ii cx x y1 y2 y3 a x1) ?_
 rintro⟨a1,l1⟩ r hm Z O hf
 simp only[Fits,bv,bu,and_true] at hf
 unfold jK at hm
 dsimp only at hm
 refine srs hn ?_
 simp -dsimp [hf]
 refine aZ ?_
 rcases bc hm with ⟨c8,hm⟩ | ⟨c8,hm⟩
 ·refine aW (by simp -dsimp) c8 ?_
  refine aY (aU (aZ (b7 ?_)))
  refine srs hn ?_
  obtain⟨x2,h9,hm⟩:=bnd hm
  simp -dsimp [hf,c8,h9]
  refine k9 bL mixed 13 14 14 0 [[0,1,2,3,4,5,6,7,8,9,10,11,12]] [[15]] [] none (by rw[hn]; kernel_rfl) fb ?_
  dsimp only [List.take,List.drop,gL,gU,jx,pk,List.cons_append,List.nil_append,List.flatten_cons,List.flatten_nil,eJ,eK,List.append_nil]
  obtain⟨n,h10,hm⟩:=bnd hm
  obtain⟨n1,h11,hm⟩:=bnd hm
  obtain⟨y4,h12,hm⟩:=bnd hm
  simp -dsimp [hf,h10,h11]
  refine bn (mR x1 (⟨(⟨0,0,x.W,x.H⟩:Box).X,(⟨0,0,x.W,x.H⟩:Box).Y,(⟨0,0,x.W,x.H⟩:Box).W,(⟨0,0,x.W,x.H⟩:Box).H⟩:Box) (⟨n,n1⟩:Point) y4 h12) ?_
  simp -dsimp [hf,h10,h11]
  refine bn (mR x1 (⟨(⟨0,0,x.W,x.H⟩:Box).X,(⟨0,0,x.W,x.H⟩:Box).Y,(⟨0,0,x.W,x.H⟩:Box).W,(⟨0,0,x.W,x.H⟩:Box).H⟩:Box) (⟨n,n1⟩:Point) y4 h12) ?_
  simp -dsimp
  refine oT bL mixed 10 (by rw[hn]; kernel_rfl) ?_
  dsimp only [List.take,List.drop]
  obtain⟨y5,h13,hm⟩:=bnd hm
  simp -dsimp [hf]
  refine bn (iH (⟨⟨(⟨0,0,x.W,x.H⟩:Box).X,(⟨0,0,x.W,x.H⟩:Box).Y,(⟨0,0,x.W,x.H⟩:Box).W,(⟨0,0,x.W,x.H⟩:Box).H⟩,y3.1⟩:Bc) y4.X y4.Y y5 h13) ?_
  obtain⟨u,h14,hm⟩:=bnd hm
  obtain⟨u1,h15,hm⟩:=bnd hm
  obtain⟨y6,h16,hm⟩:=bnd hm
  simp -dsimp [eQ h14 1 (rI .i64),eQ h15 1 (rI .i64)]
  refine clg (jV y3.2.2 l1 y1.1 y1.2.1 y1.2.2.1 y1.2.2.2 [] x2.vars y5.vars y6 h16) [5001,5002,5000] [5004] (by simp -dsimp [hf]) (dkL hn) ?_
  simp -dsimp
  refine bI ?_
  refine aU ?_
  refine sr1 hn ?_
  simp -dsimp [hf]
  cases hm
  refine bC ?_
  refine emv 5004 5002 ?_
  exact EE.here (by simp -dsimp [hf])
 ·refine aV (by simp -dsimp) c8 ?_
  refine bp ?_
  refine b8 ?_
  cases hm
  refine bz nofun ?_
  exact⟨rfl,EE.here (by simp -dsimp [hf,c8])⟩
def hO (cx:Cx) (x:B8) (y1:Int×(List Point)×(List Node)×Int) (y2:Int) (y3:(List Ba)×(List (List Int))×Int) (tt:(List (List Int))) (ee:Exit) (Z:Env) (O:Sto):Prop:=match tt with
 | l=>ee=.exit 0/\EE cx (bY [(3,vX 3),(4,vX 4),(5,vI y3.2.2),(8,vX 5001),(9,vI y2),(10,vX 10)] [(3,.box [dI x.W,dI x.H,dI x.Gens,dI x.DX,dI x.DY,dL x.Syms]),(4,.box [dI 0,.d .nil]),(10,.box [dI ((⟨0,0,x.W,x.H⟩:Box).X),dI ((⟨0,0,x.W,x.H⟩:Box).Y),dI ((⟨0,0,x.W,x.H⟩:Box).W),dI ((⟨0,0,x.W,x.H⟩:Box).H),dR3 y3.1]),(5000,mOb .str kS (uA Tree.row) []),(5001,.box [dI y3.2.2,.own 5002,dI y1.1,dR2 y1.2.1,dR1 y1.2.2.1,dI y1.2.2.2,.map 5000]),(5002,.row 1 26 (List.map (rS 1 (rI .i64)) l))]) Z O
set_option maxHeartbeats 1000000 in
theorem l_unroll_Formula_1 (cx:Cx) (hn:cx.n=242) (x:B8) (y1:Int×(List Point)×(List Node)×Int) (y2:Int) (y3:(List Ba)×(List (List Int))×Int) {fu:Nat} {stt:Int×(List (List Int))} {tt:(List (List Int))} (hh:bh (jQ x y1 y2 y3) fu stt=some tt) {Z:Env} {O:Sto}
  (hE:cw (fun stt:Int×(List (List Int))=>match stt with | (a,_l)=>[(3,vX 3),(4,vX 4),(5,vI y3.2.2),(8,vX 5001),(9,vI y2),(10,vX 10),(53,.u (.one (dL x.Syms))),(54,vI (b9 x.Syms)),(55,vI a)]) (fun stt:Int×(List (List Int))=>match stt with | (_a,l)=>[(3,.box [dI x.W,dI x.H,dI x.Gens,dI x.DX,dI x.DY,dL x.Syms]),(4,.box [dI 0,.d .nil]),(10,.box [dI ((⟨0,0,x.W,x.H⟩:Box).X),dI ((⟨0,0,x.W,x.H⟩:Box).Y),dI ((⟨0,0,x.W,x.H⟩:Box).W),dI ((⟨0,0,x.W,x.H⟩:Box).H),dR3 y3.1]),(5000,mOb .str kS (uA Tree.row) []),(5001,.box [dI y3.2.2,.own 5002,dI y1.1,dR2 y1.2.1,dR1 y1.2.2.1,dI y1.2.2.2,.map 5000]),(5002,.row 1 26 (List.map (rS 1 (rI .i64)) l))]) stt Z O):Swp Tryz.prog cx (.loop (dx [1,1,1,1,1,0,1,0,0] (bQ Tryz.f11))) Z O (hO cx x y1 y2 y3 tt):=by
 refine cz hE hh (hO cx x y1 y2 y3) ?_
 rintro⟨a,l⟩ r hm Z O hf
 simp only[Fits,bv,bu,and_true] at hf
 unfold jQ at hm
 dsimp only at hm
 refine srs hn ?_
 simp -dsimp [hf]
 refine aZ ?_
 rcases bc hm with ⟨c6,hm⟩ | ⟨c6,hm⟩
 ·refine aW (by simp -dsimp) c6 ?_
  refine aY (aU (aZ (b7 ?_)))
  refine srs hn ?_
  obtain⟨x1,h7,hm⟩:=bnd hm
  simp -dsimp [hf,c6,h7]
  refine srs hn ?_
  simp -dsimp [hf]
  refine b7 ?_
  obtain⟨l1,g17,hm⟩:=bnd hm
  refine bP (l_unroll_Formula_2 cx hn x y1 y2 y3 a x1 g17) (by
    try dsimp only
    exact EE.here (by simp -dsimp [hf])
  ) fun ee Z O xx=>?_
  unfold ii at xx
  dsimp only at xx
  obtain⟨rfl,xx⟩:=xx
  refine br ?_
  refine bI ?_
  refine aU ?_
  refine see xx fun Z O hf=>?_
  simp only[Fits,bv,bu,and_true] at hf
  refine sr1 hn ?_
  simp -dsimp [hf]
  cases hm
  refine bC ?_
  exact EE.here (by simp -dsimp [hf])
 ·refine aV (by simp -dsimp) c6 ?_
  refine bp ?_
  refine b8 ?_
  cases hm
  refine bz nofun ?_
  exact⟨rfl,EE.here (by simp -dsimp [hf,c6])⟩
def eL (cx:Cx) (x:B8) (y1:Int×(List Point)×(List Node)×Int) (_y2:Int) (y3:(List Ba)×(List (List Int))×Int) (tt:(B9×Int×Int) ⊕ (Int×Int×Int×Int×(List Ba)×(List (List UInt8×Tree))×Int×(List (List Int)))) (ee:Exit) (Z:Env) (O:Sto):Prop:=match tt with
 | .inl r=>ee=.ret/\EE cx (fun Z O=>∃ v,iR tb Z O Tryz.f11.results.toList=some v/\(v.frz O).free=true/\(v.frz O).wk (.tup [.agg [dI r.1.Vars,.d (.sl 1 (List.map (rS 1 (rI .i64)) r.1.Clauses))],.one (dI r.2.1),.one (dI r.2.2)])) Z O
 | .inr (au,av,aw,ay,am,mp,ab,l1)=>ee=.exit 4/\EE cx (bY [(3,vX 3),(4,vX 4),(5,vI y3.2.2),(8,vX 5001),(10,vX 10),(16,vX 16)] [(3,.box [dI x.W,dI x.H,dI x.Gens,dI x.DX,dI x.DY,dL x.Syms]),(4,.box [dI 0,.d .nil]),(10,.box [dI ((⟨0,0,x.W,x.H⟩:Box).X),dI ((⟨0,0,x.W,x.H⟩:Box).Y),dI ((⟨0,0,x.W,x.H⟩:Box).W),dI ((⟨0,0,x.W,x.H⟩:Box).H),dR3 y3.1]),(16,.box [dI au,dI av,dI aw,dI ay,dR3 am]),(5000,mOb .str kS (uA Tree.row) mp),(5001,.box [dI ab,.own 5002,dI y1.1,dR2 y1.2.1,dR1 y1.2.2.1,dI y1.2.2.2,.map 5000]),(5002,.row 1 26 (List.map (rS 1 (rI .i64)) l1))]) Z O
set_option maxHeartbeats 1000000 in
theorem l_unroll_Formula_3 (cx:Cx) (hn:cx.n=242) (x:B8) (y1:Int×(List Point)×(List Node)×Int) (y2:Int) (y3:(List Ba)×(List (List Int))×Int) {fu:Nat} {stt:Int×Int×Int×Int×Int×(List Ba)×(List (List UInt8×Tree))×Int×(List (List Int))} {tt:(B9×Int×Int) ⊕ (Int×Int×Int×Int×(List Ba)×(List (List UInt8×Tree))×Int×(List (List Int)))} (hh:bh (jO x y1 y2 y3) fu stt=some tt) {Z:Env} {O:Sto}
  (hE:cw (fun stt:Int×Int×Int×Int×Int×(List Ba)×(List (List UInt8×Tree))×Int×(List (List Int))=>match stt with | (gv,_au,_av,_aw,_ay,_am,_mp,_ab,_l1)=>[(3,vX 3),(4,vX 4),(5,vI y3.2.2),(8,vX 5001),(9,vI y2),(10,vX 10),(16,vX 16),(17,vI gv)]) (fun stt:Int×Int×Int×Int×Int×(List Ba)×(List (List UInt8×Tree))×Int×(List (List Int))=>match stt with | (_gv,au,av,aw,ay,am,mp,ab,l1)=>[(3,.box [dI x.W,dI x.H,dI x.Gens,dI x.DX,dI x.DY,dL x.Syms]),(4,.box [dI 0,.d .nil]),(10,.box [dI ((⟨0,0,x.W,x.H⟩:Box).X),dI ((⟨0,0,x.W,x.H⟩:Box).Y),dI ((⟨0,0,x.W,x.H⟩:Box).W),dI ((⟨0,0,x.W,x.H⟩:Box).H),dR3 y3.1]),(16,.box [dI au,dI av,dI aw,dI ay,dR3 am]),(5000,mOb .str kS (uA Tree.row) mp),(5001,.box [dI ab,.own 5002,dI y1.1,dR2 y1.2.1,dR1 y1.2.2.1,dI y1.2.2.2,.map 5000]),(5002,.row 1 26 (List.map (rS 1 (rI .i64)) l1))]) stt Z O):Swp Tryz.prog cx (.loop (dx [1,1,1,1,1,1,1,0,1,0,0] (bQ Tryz.f11))) Z O (eL cx x y1 y2 y3 tt):=by
 refine cz hE hh (eL cx x y1 y2 y3) ?_
 rintro⟨gv,au,av,aw,ay,am,mp,ab,l1⟩ r hm Z O hf
 simp only[Fits,bv,bu,and_true] at hf
 unfold jO at hm
 dsimp only at hm
 refine aZ ?_
 refine srs hn ?_
 simp -dsimp [hf]
 rcases bc hm with ⟨c19,hm⟩ | ⟨c19,hm⟩
 ·refine aW (by simp -dsimp) c19 ?_
  refine aY (aU (aZ (b7 ?_)))
  refine srs hn ?_
  simp -dsimp [hf,c19]
  refine srs hn ?_
  obtain⟨y4,h20,hm⟩:=bnd hm
  simp -dsimp [hf]
  refine clg (jX ab l1 y1.1 y1.2.1 y1.2.2.1 y1.2.2.2 mp (⟨⟨au,av,aw,ay⟩,am⟩:Bc) (⟨(bO .i64 (cQ .i64 gv) y2),(bO .i64 (cQ .i64 gv) y2),(bm .i64 x.W (bO .i64 (bO .i64 2 gv) y2)),(bm .i64 x.H (bO .i64 (bO .i64 2 gv) y2))⟩:Box) true y4 h20) [5001,5002,5000] [5005] (by simp -dsimp [hf]) (dkL hn) ?_
  simp -dsimp
  refine aZ ?_
  refine srs hn ?_
  simp -dsimp
  rcases bc hm with ⟨c21,hm⟩ | ⟨c21,hm⟩
  ·refine aW (by simp -dsimp) c21 ?_
   refine srs hn ?_
   simp -dsimp [hf,c21]
   refine b0 (b8 (cy (b8 ?_)))
   cases hm
   refine bz nofun ?_
   exact⟨rfl,EE.here (by simp -dsimp [hf,Tryz.results11])⟩
  ·refine aV (by simp -dsimp) c21 ?_
   refine aY (aU ?_)
   refine sr1 hn ?_
   simp -dsimp [hf,c21]
   refine bI ?_
   refine aU ?_
   refine sr1 hn ?_
   simp -dsimp [hf]
   cases hm
   refine bC ?_
   refine emv 5005 5002 ?_
   exact EE.here (by simp -dsimp [hf])
 ·refine aV (by simp -dsimp) c19 ?_
  refine bp ?_
  refine b8 ?_
  cases hm
  refine bz nofun ?_
  exact⟨rfl,EE.here (by simp -dsimp [hf,c19])⟩
def gX (cx:Cx) (x:B8) (y1:Int×(List Point)×(List Node)×Int) (y3:(List Ba)×(List (List Int))×Int) (au av aw ay:Int) (am:List Ba) (mp:List (List UInt8×Tree)) (ab:Int) (tt:(List (List Int))) (ee:Exit) (Z:Env) (O:Sto):Prop:=match tt with
 | l2=>ee=.exit 6/\EE cx (bY [(3,vX 3),(4,vX 4),(5,vI y3.2.2),(8,vX 5001),(10,vX 10),(16,vX 16)] [(3,.box [dI x.W,dI x.H,dI x.Gens,dI x.DX,dI x.DY,dL x.Syms]),(4,.box [dI 0,.d .nil]),(10,.box [dI ((⟨0,0,x.W,x.H⟩:Box).X),dI ((⟨0,0,x.W,x.H⟩:Box).Y),dI ((⟨0,0,x.W,x.H⟩:Box).W),dI ((⟨0,0,x.W,x.H⟩:Box).H),dR3 y3.1]),(16,.box [dI au,dI av,dI aw,dI ay,dR3 am]),(5000,mOb .str kS (uA Tree.row) mp),(5001,.box [dI ab,.own 5002,dI y1.1,dR2 y1.2.1,dR1 y1.2.2.1,dI y1.2.2.2,.map 5000]),(5002,.row 1 26 (List.map (rS 1 (rI .i64)) l2))]) Z O
set_option maxHeartbeats 1000000 in
theorem l_unroll_Formula_4 (cx:Cx) (hn:cx.n=242) (x:B8) (y1:Int×(List Point)×(List Node)×Int) (y3:(List Ba)×(List (List Int))×Int) (au av aw ay:Int) (am:List Ba) (mp:List (List UInt8×Tree)) (ab:Int) {fu:Nat} {stt:Int×(List (List Int))} {tt:(List (List Int))} (hh:bh (jM x y1 y3 au av aw ay am mp ab) fu stt=some tt) {Z:Env} {O:Sto}
  (hE:cw (fun stt:Int×(List (List Int))=>match stt with | (a,_l2)=>[(3,vX 3),(4,vX 4),(5,vI y3.2.2),(8,vX 5001),(10,vX 10),(16,vX 16),(135,.u (.one (dR3 am))),(136,vI (b9 am)),(137,vI a)]) (fun stt:Int×(List (List Int))=>match stt with | (_a,l2)=>[(3,.box [dI x.W,dI x.H,dI x.Gens,dI x.DX,dI x.DY,dL x.Syms]),(4,.box [dI 0,.d .nil]),(10,.box [dI ((⟨0,0,x.W,x.H⟩:Box).X),dI ((⟨0,0,x.W,x.H⟩:Box).Y),dI ((⟨0,0,x.W,x.H⟩:Box).W),dI ((⟨0,0,x.W,x.H⟩:Box).H),dR3 y3.1]),(16,.box [dI au,dI av,dI aw,dI ay,dR3 am]),(5000,mOb .str kS (uA Tree.row) mp),(5001,.box [dI ab,.own 5002,dI y1.1,dR2 y1.2.1,dR1 y1.2.2.1,dI y1.2.2.2,.map 5000]),(5002,.row 1 26 (List.map (rS 1 (rI .i64)) l2))]) stt Z O):Swp Tryz.prog cx (.loop (dx [1,1,1,1,1,1,1,1,0,1,0,0] (bQ Tryz.f11))) Z O (gX cx x y1 y3 au av aw ay am mp ab tt):=by
 refine cz hE hh (gX cx x y1 y3 au av aw ay am mp ab) ?_
 rintro⟨a,l2⟩ r hm Z O hf
 simp only[Fits,bv,bu,and_true] at hf
 unfold jM at hm
 dsimp only at hm
 refine srs hn ?_
 simp -dsimp [hf]
 refine aZ ?_
 rcases bc hm with ⟨c23,hm⟩ | ⟨c23,hm⟩
 ·refine aW (by simp -dsimp) c23 ?_
  refine aY (aU ?_)
  obtain⟨l3,j42,hm⟩:=bnd hm
  refine scE [(3,vX 3),(4,vX 4),(5,vI y3.2.2),(8,vX 5001),(10,vX 10),(16,vX 16),(135,.u (.one (dR3 am))),(136,vI (b9 am)),(137,vI a)] [(3,.box [dI x.W,dI x.H,dI x.Gens,dI x.DX,dI x.DY,dL x.Syms]),(4,.box [dI 0,.d .nil]),(10,.box [dI ((⟨0,0,x.W,x.H⟩:Box).X),dI ((⟨0,0,x.W,x.H⟩:Box).Y),dI ((⟨0,0,x.W,x.H⟩:Box).W),dI ((⟨0,0,x.W,x.H⟩:Box).H),dR3 y3.1]),(16,.box [dI au,dI av,dI aw,dI ay,dR3 am]),(5000,mOb .str kS (uA Tree.row) mp),(5001,.box [dI ab,.own 5002,dI y1.1,dR2 y1.2.1,dR1 y1.2.2.1,dI y1.2.2.2,.map 5000]),(5002,.row 1 26 (List.map (rS 1 (rI .i64)) l3))] ?_ fun Z O hf=>?_
  ·replace hm:=j42
   clear j42
   refine b7 ?_
   refine srs hn ?_
   obtain⟨x1,h24,hm⟩:=bnd hm
   simp -dsimp [hf,c23,h24]
   refine fQ bL mixed (by rw[hn]; kernel_rfl) ?_
   obtain⟨n,h25,hm⟩:=bnd hm
   obtain⟨n1,h26,hm⟩:=bnd hm
   simp -dsimp [hf,h25,h26]
   refine srs hn ?_
   obtain⟨y4,h27,hm⟩:=bnd hm
   simp -dsimp [hf]
   refine bi (mV (⟨⟨(⟨0,0,x.W,x.H⟩:Box).X,(⟨0,0,x.W,x.H⟩:Box).Y,(⟨0,0,x.W,x.H⟩:Box).W,(⟨0,0,x.W,x.H⟩:Box).H⟩,y3.1⟩:Bc) (cu .i64 (bm .i64 au n) x.DX) (cu .i64 (bm .i64 av n1) x.DY) y4 h27) (dkL hn) ?_
   simp -dsimp
   refine b7 ?_
   obtain⟨a1,j41,hm⟩:=bnd hm
   refine scE [(3,vX 3),(4,vX 4),(5,vI y3.2.2),(8,vX 5001),(10,vX 10),(16,vX 16),(22,vX 22),(23,vI (cu .i64 (bm .i64 au n) x.DX)),(24,vI (cu .i64 (bm .i64 av n1) x.DY)),(25,vT y4),(135,.u (.one (dR3 am))),(136,vI (b9 am)),(137,vI a),(170,vT a1)] [(3,.box [dI x.W,dI x.H,dI x.Gens,dI x.DX,dI x.DY,dL x.Syms]),(4,.box [dI 0,.d .nil]),(10,.box [dI ((⟨0,0,x.W,x.H⟩:Box).X),dI ((⟨0,0,x.W,x.H⟩:Box).Y),dI ((⟨0,0,x.W,x.H⟩:Box).W),dI ((⟨0,0,x.W,x.H⟩:Box).H),dR3 y3.1]),(16,.box [dI au,dI av,dI aw,dI ay,dR3 am]),(22,.box [dI x1.constant,.d (pnil 1 (List.map (rI .i64) x1.vars))]),(5000,mOb .str kS (uA Tree.row) mp),(5001,.box [dI ab,.own 5002,dI y1.1,dR2 y1.2.1,dR1 y1.2.2.1,dI y1.2.2.2,.map 5000]),(5002,.row 1 26 (List.map (rS 1 (rI .i64)) l2))] ?_ fun Z O hf=>?_
   ·replace hm:=j41
    clear j41
    refine sr1 hn ?_
    rcases bc hm with ⟨c28,hm⟩ | ⟨c28,hm⟩
    ·simp -dsimp [c28]
     cases hm
     exact EE.here (by simp -dsimp [hf])
    ·simp -dsimp [c28]
     cases hm
     exact EE.here (by simp -dsimp [hf])
   ·clear j41
    simp only[Fits,bv,bu,and_true] at hf
    rcases bc hm with ⟨c29,hm⟩ | ⟨c29,hm⟩
    ·refine aW (by simp -dsimp [hf]) c29 ?_
     refine oT bL mixed 8 (by rw[hn]; kernel_rfl) ?_
     dsimp only [List.take,List.drop]
     obtain⟨y5,h30,hm⟩:=bnd hm
     simp -dsimp [hf]
     refine bn (iH (⟨⟨(⟨0,0,x.W,x.H⟩:Box).X,(⟨0,0,x.W,x.H⟩:Box).Y,(⟨0,0,x.W,x.H⟩:Box).W,(⟨0,0,x.W,x.H⟩:Box).H⟩,y3.1⟩:Bc) (cu .i64 (bm .i64 au n) x.DX) (cu .i64 (bm .i64 av n1) x.DY) y5 h30) ?_
     obtain⟨u,h31,hm⟩:=bnd hm
     obtain⟨u1,h32,hm⟩:=bnd hm
     obtain⟨y6,h33,hm⟩:=bnd hm
     simp -dsimp [eQ h31 1 (rI .i64),eQ h32 1 (rI .i64)]
     refine clg (jV ab l2 y1.1 y1.2.1 y1.2.2.1 y1.2.2.2 mp x1.vars y5.vars y6 h33) [5001,5002,5000] [5006] (by simp -dsimp [hf]) (dkL hn) ?_
     simp -dsimp
     refine bI ?_
     refine bI ?_
     refine aU ?_
     cases hm
     refine emv 5006 5002 ?_
     exact EE.here (by simp -dsimp [hf])
    ·refine aV (by simp -dsimp [hf]) c29 ?_
     refine srs hn ?_
     simp -dsimp [hf]
     rcases bc hm with ⟨c34,hm⟩ | ⟨c34,hm⟩
     ·refine aW (by simp -dsimp) c34 ?_
      refine sr1 hn ?_
      obtain⟨u,h35,hm⟩:=bnd hm
      obtain⟨y5,h36,hm⟩:=bnd hm
      simp -dsimp [hf,c34,eQ h35 1 (rI .i64)]
      refine clg (ft ab l2 y1.1 y1.2.1 y1.2.2.1 y1.2.2.2 mp x1.vars 0 y5 h36) [5001,5002,5000] [5007] (by simp -dsimp [hf]) (dkL hn) ?_
      simp -dsimp
      refine bI ?_
      refine bI ?_
      refine aU ?_
      cases hm
      refine emv 5007 5002 ?_
      exact EE.here (by simp -dsimp [hf])
     ·refine aV (by simp -dsimp) c34 ?_
      refine srs hn ?_
      simp -dsimp [hf,c34]
      rcases bc hm with ⟨c37,hm⟩ | ⟨c37,hm⟩
      ·refine aW (by simp -dsimp) c37 ?_
       refine sr1 hn ?_
       obtain⟨y5,h38,hm⟩:=bnd hm
       simp -dsimp [hf,c37]
       refine bi (iH (⟨⟨(⟨0,0,x.W,x.H⟩:Box).X,(⟨0,0,x.W,x.H⟩:Box).Y,(⟨0,0,x.W,x.H⟩:Box).W,(⟨0,0,x.W,x.H⟩:Box).H⟩,y3.1⟩:Bc) (cu .i64 (bm .i64 au n) x.DX) (cu .i64 (bm .i64 av n1) x.DY) y5 h38) (dkL hn) ?_
       obtain⟨u,h39,hm⟩:=bnd hm
       obtain⟨y6,h40,hm⟩:=bnd hm
       simp -dsimp [eQ h39 1 (rI .i64)]
       refine clg (ft ab l2 y1.1 y1.2.1 y1.2.2.1 y1.2.2.2 mp y5.vars 0 y6 h40) [5001,5002,5000] [5008] (by simp -dsimp [hf]) (dkL hn) ?_
       simp -dsimp
       refine bI ?_
       refine bI ?_
       refine aU ?_
       cases hm
       refine emv 5008 5002 ?_
       exact EE.here (by simp -dsimp [hf])
      ·refine aV (by simp -dsimp) c37 ?_
       refine aY ?_
       refine bI ?_
       refine bI ?_
       cases hm
       exact EE.here (by simp -dsimp [hf,c37])
  ·clear j42
   simp only[Fits,bv,bu,and_true] at hf
   refine sr1 hn ?_
   simp -dsimp [hf]
   cases hm
   refine bC ?_
   exact EE.here (by simp -dsimp [hf])
 ·refine aV (by simp -dsimp) c23 ?_
  refine bp ?_
  refine b8 ?_
  cases hm
  refine bz nofun ?_
  exact⟨rfl,EE.here (by simp -dsimp [hf,c23])⟩
def ig (cx:Cx) (_x:B8) (y1:Int×(List Point)×(List Node)×Int) (y3:(List Ba)×(List (List Int))×Int) (_au _av _aw _ay:Int) (_am:List Ba) (mp:List (List UInt8×Tree)) (ab:Int) (tt:(List (List Int))) (ee:Exit) (Z:Env) (O:Sto):Prop:=match tt with
 | l3=>ee=.exit 9/\EE cx (bY [(4,vX 4),(5,vI y3.2.2),(8,vX 5001)] [(4,.box [dI 0,.d .nil]),(5000,mOb .str kS (uA Tree.row) mp),(5001,.box [dI ab,.own 5002,dI y1.1,dR2 y1.2.1,dR1 y1.2.2.1,dI y1.2.2.2,.map 5000]),(5002,.row 1 26 (List.map (rS 1 (rI .i64)) l3))]) Z O
set_option maxHeartbeats 1000000 in
theorem l_unroll_Formula_5 (cx:Cx) (hn:cx.n=242) (x:B8) (y1:Int×(List Point)×(List Node)×Int) (y3:(List Ba)×(List (List Int))×Int) (au av aw ay:Int) (am:List Ba) (mp:List (List UInt8×Tree)) (ab:Int) {fu:Nat} {stt:Int×(List (List Int))} {tt:(List (List Int))} (hh:bh (jL x y1 y3 au av aw ay am mp ab) fu stt=some tt) {Z:Env} {O:Sto}
  (hE:cw (fun stt:Int×(List (List Int))=>match stt with | (a,_l3)=>[(3,vX 3),(4,vX 4),(5,vI y3.2.2),(8,vX 5001),(16,vX 16),(205,.u (.one (dR3 y3.1))),(206,vI (b9 y3.1)),(207,vI a)]) (fun stt:Int×(List (List Int))=>match stt with | (_a,l3)=>[(3,.box [dI x.W,dI x.H,dI x.Gens,dI x.DX,dI x.DY,dL x.Syms]),(4,.box [dI 0,.d .nil]),(16,.box [dI au,dI av,dI aw,dI ay,dR3 am]),(5000,mOb .str kS (uA Tree.row) mp),(5001,.box [dI ab,.own 5002,dI y1.1,dR2 y1.2.1,dR1 y1.2.2.1,dI y1.2.2.2,.map 5000]),(5002,.row 1 26 (List.map (rS 1 (rI .i64)) l3))]) stt Z O):Swp Tryz.prog cx (.loop (dx [1,1,1,1,1,1,1,1,1,0,1,0,0] (bQ Tryz.f11))) Z O (ig cx x y1 y3 au av aw ay am mp ab tt):=by
 refine cz hE hh (ig cx x y1 y3 au av aw ay am mp ab) ?_
 rintro⟨a,l3⟩ r hm Z O hf
 simp only[Fits,bv,bu,and_true] at hf
 unfold jL at hm
 dsimp only at hm
 refine srs hn ?_
 simp -dsimp [hf]
 refine aZ ?_
 rcases bc hm with ⟨c44,hm⟩ | ⟨c44,hm⟩
 ·refine aW (by simp -dsimp) c44 ?_
  refine aY (aU ?_)
  obtain⟨l4,j52,hm⟩:=bnd hm
  refine scE [(3,vX 3),(4,vX 4),(5,vI y3.2.2),(8,vX 5001),(16,vX 16),(205,.u (.one (dR3 y3.1))),(206,vI (b9 y3.1)),(207,vI a)] [(3,.box [dI x.W,dI x.H,dI x.Gens,dI x.DX,dI x.DY,dL x.Syms]),(4,.box [dI 0,.d .nil]),(16,.box [dI au,dI av,dI aw,dI ay,dR3 am]),(5000,mOb .str kS (uA Tree.row) mp),(5001,.box [dI ab,.own 5002,dI y1.1,dR2 y1.2.1,dR1 y1.2.2.1,dI y1.2.2.2,.map 5000]),(5002,.row 1 26 (List.map (rS 1 (rI .i64)) l4))] ?_ fun Z O hf=>?_
  ·replace hm:=j52
   clear j52
   refine b7 ?_
   refine srs hn ?_
   obtain⟨x1,h45,hm⟩:=bnd hm
   simp -dsimp [hf,c44,h45]
   refine fQ bL mixed (by rw[hn]; kernel_rfl) ?_
   obtain⟨n,h46,hm⟩:=bnd hm
   obtain⟨n1,h47,hm⟩:=bnd hm
   obtain⟨y4,h48,hm⟩:=bnd hm
   simp -dsimp [hf,h46,h47]
   refine bn (mV (⟨⟨au,av,aw,ay⟩,am⟩:Bc) (bm .i64 n x.DX) (bm .i64 n1 x.DY) y4 h48) ?_
   simp -dsimp
   rcases bc hm with ⟨c49,hm⟩ | ⟨c49,hm⟩
   ·refine aW (by simp -dsimp) c49 ?_
    refine sr1 hn ?_
    obtain⟨u,h50,hm⟩:=bnd hm
    obtain⟨y5,h51,hm⟩:=bnd hm
    simp -dsimp [hf,c49,eQ h50 1 (rI .i64)]
    refine clg (ft ab l3 y1.1 y1.2.1 y1.2.2.1 y1.2.2.2 mp x1.vars 0 y5 h51) [5001,5002,5000] [5009] (by simp -dsimp [hf]) (dkL hn) ?_
    simp -dsimp
    refine bI ?_
    refine aU ?_
    cases hm
    refine emv 5009 5002 ?_
    exact EE.here (by simp -dsimp [hf])
   ·refine aV (by simp -dsimp) c49 ?_
    refine aY ?_
    refine bI ?_
    cases hm
    exact EE.here (by simp -dsimp [hf,c49])
  ·clear j52
   simp only[Fits,bv,bu,and_true] at hf
   refine sr1 hn ?_
   simp -dsimp [hf]
   cases hm
   refine bC ?_
   exact EE.here (by simp -dsimp [hf])
 ·refine aV (by simp -dsimp) c44 ?_
  refine bp ?_
  refine b8 ?_
  cases hm
  refine bz nofun ?_
  exact⟨rfl,EE.here (by simp -dsimp [hf,c44])⟩
set_option maxHeartbeats 1000000 in
theorem kE (t:Tree) (x:B8) (r:B9×Int×Int) (hm:je t x=some r):bg Tryz.prog 11 [.u (.agg [dI t.States,dR2 t.Hood,dR1 t.Nodes]),.u (.agg [dI x.W,dI x.H,dI x.Gens,dI x.DX,dI x.DY,dL x.Syms])] (.tup [.agg [dI r.1.Vars,.d (.sl 1 (List.map (rS 1 (rI .i64)) r.1.Clauses))],.one (dI r.2.1),.one (dI r.2.2)]):=by
 refine dG Tryz.func11 Tryz.ntmps11 fun cx hn=>?_
 unfold je at hm
 refine srs hn ?_
 simp -dsimp
 refine aZ ?_
 refine srs hn ?_
 obtain⟨y,h1,hm⟩:=bnd hm
 simp -dsimp
 refine bi (lj t x y h1) (dkL hn) ?_
 simp -dsimp
 refine srs hn ?_
 simp -dsimp
 rcases bc hm with ⟨c2,hm⟩ | ⟨c2,hm⟩
 ·refine aW (by simp -dsimp) c2 ?_
  refine srs hn ?_
  simp -dsimp [c2]
  refine b0 (b8 ?_)
  cases hm
  refine⟨.inr rfl,?_⟩
  exact EE.here (by simp -dsimp)
 ·refine aV (by simp -dsimp) c2 ?_
  refine aY (aU ?_)
  refine sw_midps bL mixed [] [0,2,3,1,4,5,6] [0,3,1,2,4,5,6] 3 4 4 0 [[1,2]] [[5000,5001]] [] none (by rw[hn]; kernel_rfl) (by dsimp only [iL,mz,adO,rnL,pmL,pk,rnO,rnG,jv,List.cons_append,List.nil_append]<;>exact rfl) fb ?_
  dsimp only [List.take,List.drop,gL,gU,jx,pk,List.cons_append,List.nil_append,List.flatten_cons,List.flatten_nil,eJ,eK,List.append_nil]
  obtain⟨y1,h3,hm⟩:=bnd hm
  simp -dsimp [c2]
  refine lN (g_unroll_start t y1 h3) [] [5000,5001] rfl rfl rfl (by simp -dsimp) rfl (by simp -dsimp) (by first | rfl | simp) rfl (dkL hn) rfl rfl (by simp) nofun (by simp) ?_
  obtain⟨y2,h4,hm⟩:=bnd hm
  simp -dsimp
  refine bi (c_hood_Radius t.Hood y2 h4) (dkL hn) ?_
  simp -dsimp
  refine Swp.pre (Wk.own0b 5001 1 5002 1 26 [dI 0,.d .nil,dI y1.1,dR2 y1.2.1,dR1 y1.2.2.1,dI y1.2.2.2,.map 5000] (by simp -dsimp) (by rfl) (by decide) (by decide)) ?_
  refine srs hn ?_
  obtain⟨y3,h5,hm⟩:=bnd hm
  simp -dsimp
  refine clg (jY 0 [] y1.1 y1.2.1 y1.2.2.1 y1.2.2.2 [] (⟨0,0,x.W,x.H⟩:Box) y3 h5) [5001,5002,5000] [5003] (by simp -dsimp) (dkL hn) ?_
  simp -dsimp
  refine srs hn ?_
  simp -dsimp
  refine aZ ?_
  refine srs hn ?_
  simp -dsimp
  refine b7 ?_
  obtain⟨l,g18,hm⟩:=bnd hm
  refine bP (l_unroll_Formula_1 cx hn x y1 y2 y3 g18) (by
    try dsimp only
    refine emv 5003 5002 ?_
    exact EE.here (by simp -dsimp)
  ) fun ee Z O xx=>?_
  unfold hO at xx
  dsimp only at xx
  obtain⟨rfl,xx⟩:=xx
  refine br ?_
  refine aU ?_
  refine see xx fun Z O hf=>?_
  simp only[Fits,bv,bu,and_true] at hf
  refine srs hn ?_
  simp -dsimp [hf]
  refine aZ ?_
  refine srs hn ?_
  simp -dsimp
  refine b7 ?_
  obtain⟨o_1,g22,hm⟩:=bnd hm
  refine bP (l_unroll_Formula_3 cx hn x y1 y2 y3 g22) (by
    try dsimp only
    exact EE.here (by simp -dsimp [hf])
  ) fun ee Z O xx=>?_
  rcases o_1 with r | ⟨au,av,aw,ay,am,mp,ab,l1⟩
  ·unfold eL at xx
   dsimp only at xx
   obtain⟨rfl,xx⟩:=xx
   refine cy (b8 ?_)
   cases hm
   exact⟨.inr rfl,xx⟩
  ·unfold eL at xx
   dsimp only at xx
   obtain⟨rfl,xx⟩:=xx
   refine br ?_
   refine aU ?_
   refine see xx fun Z O hf=>?_
   simp only[Fits,bv,bu,and_true] at hf
   refine aZ ?_
   refine srs hn ?_
   simp -dsimp [hf]
   refine b7 ?_
   obtain⟨l2,g43,hm⟩:=bnd hm
   refine bP (l_unroll_Formula_4 cx hn x y1 y3 au av aw ay am mp ab g43) (by
     try dsimp only
     exact EE.here (by simp -dsimp [hf])
   ) fun ee Z O xx=>?_
   unfold gX at xx
   dsimp only at xx
   obtain⟨rfl,xx⟩:=xx
   refine br ?_
   refine aU ?_
   refine see xx fun Z O hf=>?_
   simp only[Fits,bv,bu,and_true] at hf
   refine aZ ?_
   refine srs hn ?_
   simp -dsimp [hf]
   refine b7 ?_
   obtain⟨l3,g53,hm⟩:=bnd hm
   refine bP (l_unroll_Formula_5 cx hn x y1 y3 au av aw ay am mp ab g53) (by
     try dsimp only
     exact EE.here (by simp -dsimp [hf])
   ) fun ee Z O xx=>?_
   unfold ig at xx
   dsimp only at xx
   obtain⟨rfl,xx⟩:=xx
   refine br ?_
   refine aU ?_
   refine see xx fun Z O hf=>?_
   simp only[Fits,bv,bu,and_true] at hf
   refine aZ ?_
   refine srs hn ?_
   obtain⟨y4,h54,hm⟩:=bnd hm
   simp -dsimp [hf]
   refine clg (gt ab l3 y1.1 y1.2.1 y1.2.2.1 y1.2.2.2 mp y4 h54) [5001,5002,5000] [] (by simp -dsimp [hf]) (dkL hn) ?_
   simp -dsimp
   rcases bc hm with ⟨c55,hm⟩ | ⟨c55,hm⟩
   ·refine aW (by simp -dsimp) c55 ?_
    refine srs hn ?_
    simp -dsimp [hf,c55]
    refine b0 (b8 ?_)
    cases hm
    refine⟨.inr rfl,?_⟩
    exact EE.here (by simp -dsimp [hf])
   ·refine aV (by simp -dsimp) c55 ?_
    refine aY (aU ?_)
    refine srs hn ?_
    simp -dsimp [hf,c55]
    cases hm
    exact b0 ⟨.inr rfl,EE.here (by simp -dsimp [hf])⟩
theorem c_grid_sized (w hv edge:Int) (r:Bool) (hm:lT w hv edge=some r):bg Tryz.prog 44 [vI w,vI hv,vI edge] (vT r):=by
 refine dG Tryz.func44 Tryz.ntmps44 fun cx hn=>?_
 unfold lT at hm
 refine srs hn ?_
 simp -dsimp
 obtain⟨a,j7,hm⟩:=bnd hm
 refine scE [(6,vT a)] [] ?_ fun Z O hf=>?_
 ·replace hm:=j7
  clear j7
  refine sr1 hn ?_
  rcases bc hm with ⟨c1,hm⟩ | ⟨c1,hm⟩
  ·rcases bc hm with ⟨c2,hm⟩ | ⟨c2,hm⟩
   ·rcases bc hm with ⟨c3,hm⟩ | ⟨c3,hm⟩
    ·rcases bc hm with ⟨c4,hm⟩ | ⟨c4,hm⟩
     ·rcases bc hm with ⟨c5,hm⟩ | ⟨c5,hm⟩
      ·rcases bc hm with ⟨c6,hm⟩ | ⟨c6,hm⟩
       ·simp -dsimp [c1,c2,c3,c4,c5,c6]
        cases hm
        exact EE.here (by simp -dsimp)
       ·simp -dsimp [c1,c2,c3,c4,c5,c6]
        cases hm
        exact EE.here (by simp -dsimp)
      ·simp -dsimp [c1,c2,c3,c4,c5]
       cases hm
       exact EE.here (by simp -dsimp)
     ·simp -dsimp [c1,c2,c3,c4]
      cases hm
      exact EE.here (by simp -dsimp)
    ·simp -dsimp [c1,c2,c3]
     cases hm
     exact EE.here (by simp -dsimp)
   ·simp -dsimp [c1,c2]
    cases hm
    exact EE.here (by simp -dsimp)
  ·simp -dsimp [c1]
   cases hm
   exact EE.here (by simp -dsimp)
 ·clear j7
  simp only[Fits,bv,bu,and_true] at hf
  cases hm
  exact b0 ⟨.inr rfl,EE.here (by simp -dsimp [hf])⟩
theorem c_grid_Right_1 (s:Int) (r:Bool) (hm:kw s=some r):bg Tryz.prog 45 [vI s] (vT r):=by
 refine dG Tryz.func45 Tryz.ntmps45 fun cx hn=>?_
 unfold kw at hm
 refine srs hn ?_
 simp -dsimp
 obtain⟨a,j2,hm⟩:=bnd hm
 refine scE [(2,vT a)] [] ?_ fun Z O hf=>?_
 ·replace hm:=j2
  clear j2
  refine sr1 hn ?_
  rcases bc hm with ⟨c1,hm⟩ | ⟨c1,hm⟩
  ·simp -dsimp [c1]
   cases hm
   exact EE.here (by simp -dsimp)
  ·simp -dsimp [c1]
   cases hm
   exact EE.here (by simp -dsimp)
 ·clear j2
  simp only[Fits,bv,bu,and_true] at hf
  cases hm
  exact b0 ⟨.inr rfl,EE.here (by simp -dsimp [hf])⟩
def bN (cx:Cx) (_s:List Int) (tt:Int ⊕ Unit) (ee:Exit) (Z:Env) (O:Sto):Prop:=match tt with
 | .inl r=>ee=.ret/\EE cx (fun Z O=>∃ v,iR tb Z O Tryz.f46.results.toList=some v/\(v.frz O).free=true/\(v.frz O).wk (vI r)) Z O
 | .inr _u=>ee=.exit 0/\EE cx (bY [] []) Z O
theorem iz (cx:Cx) (hn:cx.n=19) (s:List Int) {fu:Nat} {stt:Int} {tt:Int ⊕ Unit} (hh:bh (bM s) fu stt=some tt) {Z:Env} {O:Sto}
  (hE:cw (fun a:Int=>[(0,.u (.one (dL s))),(1,.u (.one (.fn 45 []))),(7,vI (b9 s)),(8,vI a)]) (fun _a:Int=>[]) stt Z O):Swp Tryz.prog cx (.loop (dx [1,0,1,0,0] (bQ Tryz.f46))) Z O (bN cx s tt):=by
 refine cz hE hh (bN cx s) ?_
 rintro a r hm Z O hf
 simp only[Fits,bv,bu,and_true] at hf
 unfold bM at hm
 dsimp only at hm
 refine srs hn ?_
 simp -dsimp [hf]
 refine aZ ?_
 rcases bc hm with ⟨c1,hm⟩ | ⟨c1,hm⟩
 ·refine aW (by simp -dsimp) c1 ?_
  refine aY (aU (aZ (b7 ?_)))
  refine srs hn ?_
  simp -dsimp [hf,c1]
  refine srs hn ?_
  obtain⟨x,h2,hm⟩:=bnd hm
  obtain⟨y,h3,hm⟩:=bnd hm
  simp -dsimp [hf,h2]
  refine bi (c_grid_Right_1 x y h3) (dkL hn) ?_
  simp -dsimp
  rcases bc hm with ⟨c4,hm⟩ | ⟨c4,hm⟩
  ·refine aW (by simp -dsimp) c4 ?_
   refine srs hn ?_
   simp -dsimp [c4]
   refine b0 (cy (b8 ?_))
   cases hm
   refine bz nofun ?_
   exact⟨rfl,EE.here (by simp -dsimp [Tryz.results46])⟩
  ·refine aV (by simp -dsimp) c4 ?_
   refine aY ?_
   refine bI ?_
   refine aU ?_
   refine sr1 hn ?_
   simp -dsimp [hf,c4]
   cases hm
   refine bC ?_
   exact EE.here (by simp -dsimp [hf])
 ·refine aV (by simp -dsimp) c1 ?_
  refine bp ?_
  refine b8 ?_
  cases hm
  refine bz nofun ?_
  exact⟨rfl,EE.here (by simp -dsimp [c1])⟩
theorem iQ (s:List Int) (r:Int) (hm:cC s=some r):bg Tryz.prog 46 [.u (.one (dL s)),.u (.one (.fn 45 []))] (vI r):=by
 refine dG Tryz.func46 Tryz.ntmps46 fun cx hn=>?_
 unfold cC at hm
 refine srs hn ?_
 simp -dsimp
 refine aZ ?_
 refine srs hn ?_
 simp -dsimp
 refine b7 ?_
 obtain⟨o_,g5,hm⟩:=bnd hm
 refine bP (iz cx hn s g5) (by
   try dsimp only
   exact eeh
 ) fun ee Z O xx=>?_
 rcases o_ with r | _u
 ·unfold bN at xx
  dsimp only at xx
  obtain⟨rfl,xx⟩:=xx
  refine cy (b8 ?_)
  cases hm
  exact⟨.inr rfl,xx⟩
 ·unfold bN at xx
  dsimp only at xx
  obtain⟨rfl,xx⟩:=xx
  refine br ?_
  refine aU ?_
  refine see xx fun Z O hf=>?_
  simp only[Fits,bv,bu,and_true] at hf
  refine srs hn ?_
  simp -dsimp
  cases hm
  exact b0 ⟨.inr rfl,EE.here (by simp -dsimp)⟩
end Go.Proofs.YtlifofijgddjkacGreatDoor
