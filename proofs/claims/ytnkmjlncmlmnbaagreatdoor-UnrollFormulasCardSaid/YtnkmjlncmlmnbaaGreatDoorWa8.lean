/- That the code does what the functions say (made by cc.py). -/
import Derived.Test.YtnkmjlncmlmnbaaGreatDoorWa5
import Derived.Test.YtnkmjlncmlmnbaaGreatDoorWa7
namespace Go.Proofs.YtnkmjlncmlmnbaaGreatDoor
open Go.AM Go.Proofs
set_option maxRecDepth 100000
attribute [-simp] qlookup cb cL Ob.wipe Ob.ren Ob.frz1
def fU (cx:Cx) (x:Bl) (y1:Int×(List Point)×(List Node)×Int) (y2:Int) (y3:(List Bn)×(List (List Int))×Int) (a _x1:Int) (tt:(List (List Int))) (ee:Exit) (Z:Env) (O:Sto):Prop:=match tt with
 | l1=>ee=.exit 2/\EE cx (bw [(3,vX 3),(4,vX 4),(5,vI y3.2.2),(8,vX 5001),(9,vI y2),(10,vX 10),(53,.u (.one (dL x.Syms))),(54,vI (bf x.Syms)),(55,vI a)] [(3,.box [dI x.W,dI x.H,dI x.Gens,dI x.DX,dI x.DY,dL x.Syms]),(4,.box [dI 0,.d .nil]),(10,.box [dI ((⟨0,0,x.W,x.H⟩:Box).X),dI ((⟨0,0,x.W,x.H⟩:Box).Y),dI ((⟨0,0,x.W,x.H⟩:Box).W),dI ((⟨0,0,x.W,x.H⟩:Box).H),dR4 y3.1]),(5000,mOb .str kS (uA Tree.row) []),(5001,.box [dI y3.2.2,.own 5002,dI y1.1,dR2 y1.2.1,dR1 y1.2.2.1,dI y1.2.2.2,.map 5000]),(5002,.row 1 26 (List.map (rS 1 (rI .i64)) l1))]) Z O
theorem l_unroll_Formula_2 (cx:Cx) (hn:cx.n=242) (x:Bl) (y1:Int×(List Point)×(List Node)×Int) (y2:Int) (y3:(List Bn)×(List (List Int))×Int) (a x1:Int) {fu:Nat} {stt:Int×(List (List Int))} {tt:(List (List Int))} (hh:bh (b_unroll_Formula_2 x y1 y2 y3 a x1) fu stt=some tt) {Z:Env} {O:Sto}
  (hE:bA (fun stt:Int×(List (List Int))=>match stt with | (a1,_l1)=>[(3,vX 3),(4,vX 4),(5,vI y3.2.2),(8,vX 5001),(9,vI y2),(10,vX 10),(12,vI x1),(53,.u (.one (dL x.Syms))),(54,vI (bf x.Syms)),(55,vI a),(60,.u (.one (dR4 y3.1))),(61,vI (bf y3.1)),(62,vI a1)]) (fun stt:Int×(List (List Int))=>match stt with | (_a1,l1)=>[(3,.box [dI x.W,dI x.H,dI x.Gens,dI x.DX,dI x.DY,dL x.Syms]),(4,.box [dI 0,.d .nil]),(10,.box [dI ((⟨0,0,x.W,x.H⟩:Box).X),dI ((⟨0,0,x.W,x.H⟩:Box).Y),dI ((⟨0,0,x.W,x.H⟩:Box).W),dI ((⟨0,0,x.W,x.H⟩:Box).H),dR4 y3.1]),(5000,mOb .str kS (uA Tree.row) []),(5001,.box [dI y3.2.2,.own 5002,dI y1.1,dR2 y1.2.1,dR1 y1.2.2.1,dI y1.2.2.2,.map 5000]),(5002,.row 1 26 (List.map (rS 1 (rI .i64)) l1))]) stt Z O):Swp Tryz.prog cx (.loop (bJ [1,1,1,1,1,0,1,0,0,1,1,0,0,1,1,0,0] (bv Tryz.f6))) Z O (fU cx x y1 y2 y3 a x1 tt):=by
 refine bC hE hh (fU cx x y1 y2 y3 a x1) ?_
 rintro⟨a1,l1⟩ r hm Z O hf
 simp only[Fits,bo,bn,and_true] at hf
 unfold b_unroll_Formula_2 at hm
 dsimp only at hm
 refine srs hn ?_
 simp -dsimp [hf]
 refine ba ?_
 rcases bl hm with ⟨c8,hm⟩ | ⟨c8,hm⟩
 ·refine be (by simp -dsimp) c8 ?_
  refine bd (b9 (ba (bc ?_)))
  refine srs hn ?_
  obtain⟨x2,h9,hm⟩:=bnd hm
  simp -dsimp [hf,c8,h9]
  refine cm bq mixed 13 14 14 0 [[0,1,2,3,4,5,6,7,8,9,10,11,12]] [[15]] [] none (by rw[hn]; kernel_rfl) bO ?_
  dsimp only [List.take,List.drop,cn,cp,cV,pk,List.cons_append,List.nil_append,List.flatten_cons,List.flatten_nil,bN,bM,List.append_nil]
  obtain⟨n,h10,hm⟩:=bnd hm
  obtain⟨n1,h11,hm⟩:=bnd hm
  obtain⟨y4,h12,hm⟩:=bnd hm
  simp -dsimp [hf,h10,h11]
  refine bj (gp x1 (⟨(⟨0,0,x.W,x.H⟩:Box).X,(⟨0,0,x.W,x.H⟩:Box).Y,(⟨0,0,x.W,x.H⟩:Box).W,(⟨0,0,x.W,x.H⟩:Box).H⟩:Box) (⟨n,n1⟩:Point) y4 h12) ?_
  simp -dsimp [hf,h10,h11]
  refine bj (gp x1 (⟨(⟨0,0,x.W,x.H⟩:Box).X,(⟨0,0,x.W,x.H⟩:Box).Y,(⟨0,0,x.W,x.H⟩:Box).W,(⟨0,0,x.W,x.H⟩:Box).H⟩:Box) (⟨n,n1⟩:Point) y4 h12) ?_
  simp -dsimp
  refine dl bq mixed 10 (by rw[hn]; kernel_rfl) ?_
  dsimp only [List.take,List.drop]
  obtain⟨y5,h13,hm⟩:=bnd hm
  simp -dsimp [hf]
  refine bj (dm (⟨⟨(⟨0,0,x.W,x.H⟩:Box).X,(⟨0,0,x.W,x.H⟩:Box).Y,(⟨0,0,x.W,x.H⟩:Box).W,(⟨0,0,x.W,x.H⟩:Box).H⟩,y3.1⟩:Bo) y4.X y4.Y y5 h13) ?_
  obtain⟨u,h14,hm⟩:=bnd hm
  obtain⟨u1,h15,hm⟩:=bnd hm
  obtain⟨y6,h16,hm⟩:=bnd hm
  simp -dsimp [cU h14 1 (rI .i64),cU h15 1 (rI .i64)]
  refine clg (e7 y3.2.2 l1 y1.1 y1.2.1 y1.2.2.1 y1.2.2.2 [] x2.vars y5.vars y6 h16) [5001,5002,5000] [5004] (by simp -dsimp [hf]) (dkL hn) ?_
  simp -dsimp
  refine bD ?_
  refine b9 ?_
  refine sr1 hn ?_
  simp -dsimp [hf]
  cases hm
  refine bI ?_
  refine emv 5004 5002 ?_
  exact zz
 ·exact zz
def dV (cx:Cx) (x:Bl) (y1:Int×(List Point)×(List Node)×Int) (y2:Int) (y3:(List Bn)×(List (List Int))×Int) (tt:(List (List Int))) (ee:Exit) (Z:Env) (O:Sto):Prop:=match tt with
 | l=>ee=.exit 0/\EE cx (bw [(3,vX 3),(4,vX 4),(5,vI y3.2.2),(8,vX 5001),(9,vI y2),(10,vX 10)] [(3,.box [dI x.W,dI x.H,dI x.Gens,dI x.DX,dI x.DY,dL x.Syms]),(4,.box [dI 0,.d .nil]),(10,.box [dI ((⟨0,0,x.W,x.H⟩:Box).X),dI ((⟨0,0,x.W,x.H⟩:Box).Y),dI ((⟨0,0,x.W,x.H⟩:Box).W),dI ((⟨0,0,x.W,x.H⟩:Box).H),dR4 y3.1]),(5000,mOb .str kS (uA Tree.row) []),(5001,.box [dI y3.2.2,.own 5002,dI y1.1,dR2 y1.2.1,dR1 y1.2.2.1,dI y1.2.2.2,.map 5000]),(5002,.row 1 26 (List.map (rS 1 (rI .i64)) l))]) Z O
theorem l_unroll_Formula_1 (cx:Cx) (hn:cx.n=242) (x:Bl) (y1:Int×(List Point)×(List Node)×Int) (y2:Int) (y3:(List Bn)×(List (List Int))×Int) {fu:Nat} {stt:Int×(List (List Int))} {tt:(List (List Int))} (hh:bh (b_unroll_Formula_1 x y1 y2 y3) fu stt=some tt) {Z:Env} {O:Sto}
  (hE:bA (fun stt:Int×(List (List Int))=>match stt with | (a,_l)=>[(3,vX 3),(4,vX 4),(5,vI y3.2.2),(8,vX 5001),(9,vI y2),(10,vX 10),(53,.u (.one (dL x.Syms))),(54,vI (bf x.Syms)),(55,vI a)]) (fun stt:Int×(List (List Int))=>match stt with | (_a,l)=>[(3,.box [dI x.W,dI x.H,dI x.Gens,dI x.DX,dI x.DY,dL x.Syms]),(4,.box [dI 0,.d .nil]),(10,.box [dI ((⟨0,0,x.W,x.H⟩:Box).X),dI ((⟨0,0,x.W,x.H⟩:Box).Y),dI ((⟨0,0,x.W,x.H⟩:Box).W),dI ((⟨0,0,x.W,x.H⟩:Box).H),dR4 y3.1]),(5000,mOb .str kS (uA Tree.row) []),(5001,.box [dI y3.2.2,.own 5002,dI y1.1,dR2 y1.2.1,dR1 y1.2.2.1,dI y1.2.2.2,.map 5000]),(5002,.row 1 26 (List.map (rS 1 (rI .i64)) l))]) stt Z O):Swp Tryz.prog cx (.loop (bJ [1,1,1,1,1,0,1,0,0] (bv Tryz.f6))) Z O (dV cx x y1 y2 y3 tt):=by
 refine bC hE hh (dV cx x y1 y2 y3) ?_
 rintro⟨a,l⟩ r hm Z O hf
 simp only[Fits,bo,bn,and_true] at hf
 unfold b_unroll_Formula_1 at hm
 dsimp only at hm
 refine srs hn ?_
 simp -dsimp [hf]
 refine ba ?_
 rcases bl hm with ⟨c6,hm⟩ | ⟨c6,hm⟩
 ·refine be (by simp -dsimp) c6 ?_
  refine bd (b9 (ba (bc ?_)))
  refine srs hn ?_
  obtain⟨x1,h7,hm⟩:=bnd hm
  simp -dsimp [hf,c6,h7]
  refine srs hn ?_
  simp -dsimp [hf]
  refine bc ?_
  obtain⟨l1,g17,hm⟩:=bnd hm
  refine bu (l_unroll_Formula_2 cx hn x y1 y2 y3 a x1 g17) (by
    try dsimp only
    exact EE.here (by simp -dsimp [hf])
  ) fun ee Z O xx=>?_
  exact zz
 ·exact zz
def dT (cx:Cx) (x:Bl) (y1:Int×(List Point)×(List Node)×Int) (_y2:Int) (y3:(List Bn)×(List (List Int))×Int) (tt:(Bm×Int×Int) ⊕ (Int×Int×Int×Int×(List Bn)×(List (List UInt8×Tree))×Int×(List (List Int)))) (ee:Exit) (Z:Env) (O:Sto):Prop:=match tt with
 | .inl r=>ee=.ret/\EE cx (fun Z O=>∃ v,dd tb Z O Tryz.f6.results.toList=some v/\(v.frz O).free=true/\(v.frz O).wk (.tup [.agg [dI r.1.Vars,.d (.sl 1 (List.map (rS 1 (rI .i64)) r.1.Clauses))],.one (dI r.2.1),.one (dI r.2.2)])) Z O
 | .inr (au,ar,av,aw,aq,mp,aa,l1)=>ee=.exit 4/\EE cx (bw [(3,vX 3),(4,vX 4),(5,vI y3.2.2),(8,vX 5001),(10,vX 10),(16,vX 16)] [(3,.box [dI x.W,dI x.H,dI x.Gens,dI x.DX,dI x.DY,dL x.Syms]),(4,.box [dI 0,.d .nil]),(10,.box [dI ((⟨0,0,x.W,x.H⟩:Box).X),dI ((⟨0,0,x.W,x.H⟩:Box).Y),dI ((⟨0,0,x.W,x.H⟩:Box).W),dI ((⟨0,0,x.W,x.H⟩:Box).H),dR4 y3.1]),(16,.box [dI au,dI ar,dI av,dI aw,dR4 aq]),(5000,mOb .str kS (uA Tree.row) mp),(5001,.box [dI aa,.own 5002,dI y1.1,dR2 y1.2.1,dR1 y1.2.2.1,dI y1.2.2.2,.map 5000]),(5002,.row 1 26 (List.map (rS 1 (rI .i64)) l1))]) Z O
theorem l_unroll_Formula_3 (cx:Cx) (hn:cx.n=242) (x:Bl) (y1:Int×(List Point)×(List Node)×Int) (y2:Int) (y3:(List Bn)×(List (List Int))×Int) {fu:Nat} {stt:Int×Int×Int×Int×Int×(List Bn)×(List (List UInt8×Tree))×Int×(List (List Int))} {tt:(Bm×Int×Int) ⊕ (Int×Int×Int×Int×(List Bn)×(List (List UInt8×Tree))×Int×(List (List Int)))} (hh:bh (b_unroll_Formula_3 x y1 y2 y3) fu stt=some tt) {Z:Env} {O:Sto}
  (hE:bA (fun stt:Int×Int×Int×Int×Int×(List Bn)×(List (List UInt8×Tree))×Int×(List (List Int))=>match stt with | (gv,_au,_ar,_av,_aw,_aq,_mp,_aa,_l1)=>[(3,vX 3),(4,vX 4),(5,vI y3.2.2),(8,vX 5001),(9,vI y2),(10,vX 10),(16,vX 16),(17,vI gv)]) (fun stt:Int×Int×Int×Int×Int×(List Bn)×(List (List UInt8×Tree))×Int×(List (List Int))=>match stt with | (_gv,au,ar,av,aw,aq,mp,aa,l1)=>[(3,.box [dI x.W,dI x.H,dI x.Gens,dI x.DX,dI x.DY,dL x.Syms]),(4,.box [dI 0,.d .nil]),(10,.box [dI ((⟨0,0,x.W,x.H⟩:Box).X),dI ((⟨0,0,x.W,x.H⟩:Box).Y),dI ((⟨0,0,x.W,x.H⟩:Box).W),dI ((⟨0,0,x.W,x.H⟩:Box).H),dR4 y3.1]),(16,.box [dI au,dI ar,dI av,dI aw,dR4 aq]),(5000,mOb .str kS (uA Tree.row) mp),(5001,.box [dI aa,.own 5002,dI y1.1,dR2 y1.2.1,dR1 y1.2.2.1,dI y1.2.2.2,.map 5000]),(5002,.row 1 26 (List.map (rS 1 (rI .i64)) l1))]) stt Z O):Swp Tryz.prog cx (.loop (bJ [1,1,1,1,1,1,1,0,1,0,0] (bv Tryz.f6))) Z O (dT cx x y1 y2 y3 tt):=by
 refine bC hE hh (dT cx x y1 y2 y3) ?_
 rintro⟨gv,au,ar,av,aw,aq,mp,aa,l1⟩ r hm Z O hf
 simp only[Fits,bo,bn,and_true] at hf
 unfold b_unroll_Formula_3 at hm
 dsimp only at hm
 refine ba ?_
 refine srs hn ?_
 simp -dsimp [hf]
 rcases bl hm with ⟨c19,hm⟩ | ⟨c19,hm⟩
 ·refine be (by simp -dsimp) c19 ?_
  refine bd (b9 (ba (bc ?_)))
  refine srs hn ?_
  simp -dsimp [hf,c19]
  refine srs hn ?_
  obtain⟨y4,h20,hm⟩:=bnd hm
  simp -dsimp [hf]
  refine clg (ea aa l1 y1.1 y1.2.1 y1.2.2.1 y1.2.2.2 mp (⟨⟨au,ar,av,aw⟩,aq⟩:Bo) (⟨(bB .i64 (bH .i64 gv) y2),(bB .i64 (bH .i64 gv) y2),(bk .i64 x.W (bB .i64 (bB .i64 2 gv) y2)),(bk .i64 x.H (bB .i64 (bB .i64 2 gv) y2))⟩:Box) true y4 h20) [5001,5002,5000] [5005] (by simp -dsimp [hf]) (dkL hn) ?_
  simp -dsimp
  refine ba ?_
  refine srs hn ?_
  simp -dsimp
  rcases bl hm with ⟨c21,hm⟩ | ⟨c21,hm⟩
  ·exact zz
  ·refine bi (by simp -dsimp) c21 ?_
   refine bd (b9 ?_)
   refine sr1 hn ?_
   simp -dsimp [hf,c21]
   refine bD ?_
   refine b9 ?_
   refine sr1 hn ?_
   simp -dsimp [hf]
   cases hm
   refine bI ?_
   refine emv 5005 5002 ?_
   exact zz
 ·exact zz
def e6 (cx:Cx) (x:Bl) (y1:Int×(List Point)×(List Node)×Int) (y3:(List Bn)×(List (List Int))×Int) (au ar av aw:Int) (aq:List Bn) (mp:List (List UInt8×Tree)) (aa:Int) (tt:(List (List Int))) (ee:Exit) (Z:Env) (O:Sto):Prop:=match tt with
 | l2=>ee=.exit 6/\EE cx (bw [(3,vX 3),(4,vX 4),(5,vI y3.2.2),(8,vX 5001),(10,vX 10),(16,vX 16)] [(3,.box [dI x.W,dI x.H,dI x.Gens,dI x.DX,dI x.DY,dL x.Syms]),(4,.box [dI 0,.d .nil]),(10,.box [dI ((⟨0,0,x.W,x.H⟩:Box).X),dI ((⟨0,0,x.W,x.H⟩:Box).Y),dI ((⟨0,0,x.W,x.H⟩:Box).W),dI ((⟨0,0,x.W,x.H⟩:Box).H),dR4 y3.1]),(16,.box [dI au,dI ar,dI av,dI aw,dR4 aq]),(5000,mOb .str kS (uA Tree.row) mp),(5001,.box [dI aa,.own 5002,dI y1.1,dR2 y1.2.1,dR1 y1.2.2.1,dI y1.2.2.2,.map 5000]),(5002,.row 1 26 (List.map (rS 1 (rI .i64)) l2))]) Z O
theorem l_unroll_Formula_4 (cx:Cx) (hn:cx.n=242) (x:Bl) (y1:Int×(List Point)×(List Node)×Int) (y3:(List Bn)×(List (List Int))×Int) (au ar av aw:Int) (aq:List Bn) (mp:List (List UInt8×Tree)) (aa:Int) {fu:Nat} {stt:Int×(List (List Int))} {tt:(List (List Int))} (hh:bh (b_unroll_Formula_4 x y1 y3 au ar av aw aq mp aa) fu stt=some tt) {Z:Env} {O:Sto}
  (hE:bA (fun stt:Int×(List (List Int))=>match stt with | (a,_l2)=>[(3,vX 3),(4,vX 4),(5,vI y3.2.2),(8,vX 5001),(10,vX 10),(16,vX 16),(135,.u (.one (dR4 aq))),(136,vI (bf aq)),(137,vI a)]) (fun stt:Int×(List (List Int))=>match stt with | (_a,l2)=>[(3,.box [dI x.W,dI x.H,dI x.Gens,dI x.DX,dI x.DY,dL x.Syms]),(4,.box [dI 0,.d .nil]),(10,.box [dI ((⟨0,0,x.W,x.H⟩:Box).X),dI ((⟨0,0,x.W,x.H⟩:Box).Y),dI ((⟨0,0,x.W,x.H⟩:Box).W),dI ((⟨0,0,x.W,x.H⟩:Box).H),dR4 y3.1]),(16,.box [dI au,dI ar,dI av,dI aw,dR4 aq]),(5000,mOb .str kS (uA Tree.row) mp),(5001,.box [dI aa,.own 5002,dI y1.1,dR2 y1.2.1,dR1 y1.2.2.1,dI y1.2.2.2,.map 5000]),(5002,.row 1 26 (List.map (rS 1 (rI .i64)) l2))]) stt Z O):Swp Tryz.prog cx (.loop (bJ [1,1,1,1,1,1,1,1,0,1,0,0] (bv Tryz.f6))) Z O (e6 cx x y1 y3 au ar av aw aq mp aa tt):=by
 refine bC hE hh (e6 cx x y1 y3 au ar av aw aq mp aa) ?_
 rintro⟨a,l2⟩ r hm Z O hf
 simp only[Fits,bo,bn,and_true] at hf
 unfold b_unroll_Formula_4 at hm
 dsimp only at hm
 refine srs hn ?_
 simp -dsimp [hf]
 refine ba ?_
 rcases bl hm with ⟨c23,hm⟩ | ⟨c23,hm⟩
 ·refine be (by simp -dsimp) c23 ?_
  refine bd (b9 ?_)
  obtain⟨l3,j42,hm⟩:=bnd hm
  refine scE [(3,vX 3),(4,vX 4),(5,vI y3.2.2),(8,vX 5001),(10,vX 10),(16,vX 16),(135,.u (.one (dR4 aq))),(136,vI (bf aq)),(137,vI a)] [(3,.box [dI x.W,dI x.H,dI x.Gens,dI x.DX,dI x.DY,dL x.Syms]),(4,.box [dI 0,.d .nil]),(10,.box [dI ((⟨0,0,x.W,x.H⟩:Box).X),dI ((⟨0,0,x.W,x.H⟩:Box).Y),dI ((⟨0,0,x.W,x.H⟩:Box).W),dI ((⟨0,0,x.W,x.H⟩:Box).H),dR4 y3.1]),(16,.box [dI au,dI ar,dI av,dI aw,dR4 aq]),(5000,mOb .str kS (uA Tree.row) mp),(5001,.box [dI aa,.own 5002,dI y1.1,dR2 y1.2.1,dR1 y1.2.2.1,dI y1.2.2.2,.map 5000]),(5002,.row 1 26 (List.map (rS 1 (rI .i64)) l3))] ?_ fun Z O hf=>?_
  ·replace hm:=j42
   clear j42
   refine bc ?_
   refine srs hn ?_
   obtain⟨x1,h24,hm⟩:=bnd hm
   simp -dsimp [hf,c23,h24]
   refine cO bq mixed (by rw[hn]; kernel_rfl) ?_
   obtain⟨n,h25,hm⟩:=bnd hm
   obtain⟨n1,h26,hm⟩:=bnd hm
   simp -dsimp [hf,h25,h26]
   refine srs hn ?_
   obtain⟨y4,h27,hm⟩:=bnd hm
   simp -dsimp [hf]
   refine bg (gA (⟨⟨(⟨0,0,x.W,x.H⟩:Box).X,(⟨0,0,x.W,x.H⟩:Box).Y,(⟨0,0,x.W,x.H⟩:Box).W,(⟨0,0,x.W,x.H⟩:Box).H⟩,y3.1⟩:Bo) (br .i64 (bk .i64 au n) x.DX) (br .i64 (bk .i64 ar n1) x.DY) y4 h27) (dkL hn) ?_
   simp -dsimp
   refine bc ?_
   obtain⟨a1,j41,hm⟩:=bnd hm
   refine scE [(3,vX 3),(4,vX 4),(5,vI y3.2.2),(8,vX 5001),(10,vX 10),(16,vX 16),(22,vX 22),(23,vI (br .i64 (bk .i64 au n) x.DX)),(24,vI (br .i64 (bk .i64 ar n1) x.DY)),(25,vT y4),(135,.u (.one (dR4 aq))),(136,vI (bf aq)),(137,vI a),(170,vT a1)] [(3,.box [dI x.W,dI x.H,dI x.Gens,dI x.DX,dI x.DY,dL x.Syms]),(4,.box [dI 0,.d .nil]),(10,.box [dI ((⟨0,0,x.W,x.H⟩:Box).X),dI ((⟨0,0,x.W,x.H⟩:Box).Y),dI ((⟨0,0,x.W,x.H⟩:Box).W),dI ((⟨0,0,x.W,x.H⟩:Box).H),dR4 y3.1]),(16,.box [dI au,dI ar,dI av,dI aw,dR4 aq]),(22,.box [dI x1.constant,.d (pnil 1 (List.map (rI .i64) x1.vars))]),(5000,mOb .str kS (uA Tree.row) mp),(5001,.box [dI aa,.own 5002,dI y1.1,dR2 y1.2.1,dR1 y1.2.2.1,dI y1.2.2.2,.map 5000]),(5002,.row 1 26 (List.map (rS 1 (rI .i64)) l2))] ?_ fun Z O hf=>?_
   ·replace hm:=j41
    clear j41
    exact zz
   ·clear j41
    simp only[Fits,bo,bn,and_true] at hf
    rcases bl hm with ⟨c29,hm⟩ | ⟨c29,hm⟩
    ·refine be (by simp -dsimp [hf]) c29 ?_
     refine dl bq mixed 8 (by rw[hn]; kernel_rfl) ?_
     dsimp only [List.take,List.drop]
     obtain⟨y5,h30,hm⟩:=bnd hm
     simp -dsimp [hf]
     refine bj (dm (⟨⟨(⟨0,0,x.W,x.H⟩:Box).X,(⟨0,0,x.W,x.H⟩:Box).Y,(⟨0,0,x.W,x.H⟩:Box).W,(⟨0,0,x.W,x.H⟩:Box).H⟩,y3.1⟩:Bo) (br .i64 (bk .i64 au n) x.DX) (br .i64 (bk .i64 ar n1) x.DY) y5 h30) ?_
     obtain⟨u,h31,hm⟩:=bnd hm
     obtain⟨u1,h32,hm⟩:=bnd hm
     obtain⟨y6,h33,hm⟩:=bnd hm
     simp -dsimp [cU h31 1 (rI .i64),cU h32 1 (rI .i64)]
     refine clg (e7 aa l2 y1.1 y1.2.1 y1.2.2.1 y1.2.2.2 mp x1.vars y5.vars y6 h33) [5001,5002,5000] [5006] (by simp -dsimp [hf]) (dkL hn) ?_
     simp -dsimp
     refine bD ?_
     refine bD ?_
     refine b9 ?_
     cases hm
     refine emv 5006 5002 ?_
     exact zz
    ·refine bi (by simp -dsimp [hf]) c29 ?_
     refine srs hn ?_
     simp -dsimp [hf]
     rcases bl hm with ⟨c34,hm⟩ | ⟨c34,hm⟩
     ·refine be (by simp -dsimp) c34 ?_
      refine sr1 hn ?_
      obtain⟨u,h35,hm⟩:=bnd hm
      obtain⟨y5,h36,hm⟩:=bnd hm
      simp -dsimp [hf,c34,cU h35 1 (rI .i64)]
      refine clg (cA aa l2 y1.1 y1.2.1 y1.2.2.1 y1.2.2.2 mp x1.vars 0 y5 h36) [5001,5002,5000] [5007] (by simp -dsimp [hf]) (dkL hn) ?_
      simp -dsimp
      refine bD ?_
      refine bD ?_
      refine b9 ?_
      cases hm
      refine emv 5007 5002 ?_
      exact zz
     ·refine bi (by simp -dsimp) c34 ?_
      refine srs hn ?_
      simp -dsimp [hf,c34]
      rcases bl hm with ⟨c37,hm⟩ | ⟨c37,hm⟩
      ·refine be (by simp -dsimp) c37 ?_
       refine sr1 hn ?_
       obtain⟨y5,h38,hm⟩:=bnd hm
       simp -dsimp [hf,c37]
       refine bg (dm (⟨⟨(⟨0,0,x.W,x.H⟩:Box).X,(⟨0,0,x.W,x.H⟩:Box).Y,(⟨0,0,x.W,x.H⟩:Box).W,(⟨0,0,x.W,x.H⟩:Box).H⟩,y3.1⟩:Bo) (br .i64 (bk .i64 au n) x.DX) (br .i64 (bk .i64 ar n1) x.DY) y5 h38) (dkL hn) ?_
       obtain⟨u,h39,hm⟩:=bnd hm
       obtain⟨y6,h40,hm⟩:=bnd hm
       simp -dsimp [cU h39 1 (rI .i64)]
       refine clg (cA aa l2 y1.1 y1.2.1 y1.2.2.1 y1.2.2.2 mp y5.vars 0 y6 h40) [5001,5002,5000] [5008] (by simp -dsimp [hf]) (dkL hn) ?_
       simp -dsimp
       refine bD ?_
       refine bD ?_
       refine b9 ?_
       cases hm
       refine emv 5008 5002 ?_
       exact zz
      ·exact zz
  ·clear j42
   exact zz
 ·exact zz
def dY (cx:Cx) (_x:Bl) (y1:Int×(List Point)×(List Node)×Int) (y3:(List Bn)×(List (List Int))×Int) (_au _ar _av _aw:Int) (_aq:List Bn) (mp:List (List UInt8×Tree)) (aa:Int) (tt:(List (List Int))) (ee:Exit) (Z:Env) (O:Sto):Prop:=match tt with
 | l3=>ee=.exit 9/\EE cx (bw [(4,vX 4),(5,vI y3.2.2),(8,vX 5001)] [(4,.box [dI 0,.d .nil]),(5000,mOb .str kS (uA Tree.row) mp),(5001,.box [dI aa,.own 5002,dI y1.1,dR2 y1.2.1,dR1 y1.2.2.1,dI y1.2.2.2,.map 5000]),(5002,.row 1 26 (List.map (rS 1 (rI .i64)) l3))]) Z O
theorem l_unroll_Formula_5 (cx:Cx) (hn:cx.n=242) (x:Bl) (y1:Int×(List Point)×(List Node)×Int) (y3:(List Bn)×(List (List Int))×Int) (au ar av aw:Int) (aq:List Bn) (mp:List (List UInt8×Tree)) (aa:Int) {fu:Nat} {stt:Int×(List (List Int))} {tt:(List (List Int))} (hh:bh (b_unroll_Formula_5 x y1 y3 au ar av aw aq mp aa) fu stt=some tt) {Z:Env} {O:Sto}
  (hE:bA (fun stt:Int×(List (List Int))=>match stt with | (a,_l3)=>[(3,vX 3),(4,vX 4),(5,vI y3.2.2),(8,vX 5001),(16,vX 16),(205,.u (.one (dR4 y3.1))),(206,vI (bf y3.1)),(207,vI a)]) (fun stt:Int×(List (List Int))=>match stt with | (_a,l3)=>[(3,.box [dI x.W,dI x.H,dI x.Gens,dI x.DX,dI x.DY,dL x.Syms]),(4,.box [dI 0,.d .nil]),(16,.box [dI au,dI ar,dI av,dI aw,dR4 aq]),(5000,mOb .str kS (uA Tree.row) mp),(5001,.box [dI aa,.own 5002,dI y1.1,dR2 y1.2.1,dR1 y1.2.2.1,dI y1.2.2.2,.map 5000]),(5002,.row 1 26 (List.map (rS 1 (rI .i64)) l3))]) stt Z O):Swp Tryz.prog cx (.loop (bJ [1,1,1,1,1,1,1,1,1,0,1,0,0] (bv Tryz.f6))) Z O (dY cx x y1 y3 au ar av aw aq mp aa tt):=by
 refine bC hE hh (dY cx x y1 y3 au ar av aw aq mp aa) ?_
 rintro⟨a,l3⟩ r hm Z O hf
 simp only[Fits,bo,bn,and_true] at hf
 unfold b_unroll_Formula_5 at hm
 dsimp only at hm
 refine srs hn ?_
 simp -dsimp [hf]
 refine ba ?_
 rcases bl hm with ⟨c44,hm⟩ | ⟨c44,hm⟩
 ·refine be (by simp -dsimp) c44 ?_
  refine bd (b9 ?_)
  obtain⟨l4,j52,hm⟩:=bnd hm
  refine scE [(3,vX 3),(4,vX 4),(5,vI y3.2.2),(8,vX 5001),(16,vX 16),(205,.u (.one (dR4 y3.1))),(206,vI (bf y3.1)),(207,vI a)] [(3,.box [dI x.W,dI x.H,dI x.Gens,dI x.DX,dI x.DY,dL x.Syms]),(4,.box [dI 0,.d .nil]),(16,.box [dI au,dI ar,dI av,dI aw,dR4 aq]),(5000,mOb .str kS (uA Tree.row) mp),(5001,.box [dI aa,.own 5002,dI y1.1,dR2 y1.2.1,dR1 y1.2.2.1,dI y1.2.2.2,.map 5000]),(5002,.row 1 26 (List.map (rS 1 (rI .i64)) l4))] ?_ fun Z O hf=>?_
  ·replace hm:=j52
   clear j52
   refine bc ?_
   refine srs hn ?_
   obtain⟨x1,h45,hm⟩:=bnd hm
   simp -dsimp [hf,c44,h45]
   refine cO bq mixed (by rw[hn]; kernel_rfl) ?_
   obtain⟨n,h46,hm⟩:=bnd hm
   obtain⟨n1,h47,hm⟩:=bnd hm
   obtain⟨y4,h48,hm⟩:=bnd hm
   simp -dsimp [hf,h46,h47]
   refine bj (gA (⟨⟨au,ar,av,aw⟩,aq⟩:Bo) (bk .i64 n x.DX) (bk .i64 n1 x.DY) y4 h48) ?_
   simp -dsimp
   rcases bl hm with ⟨c49,hm⟩ | ⟨c49,hm⟩
   ·refine be (by simp -dsimp) c49 ?_
    refine sr1 hn ?_
    obtain⟨u,h50,hm⟩:=bnd hm
    obtain⟨y5,h51,hm⟩:=bnd hm
    simp -dsimp [hf,c49,cU h50 1 (rI .i64)]
    refine clg (cA aa l3 y1.1 y1.2.1 y1.2.2.1 y1.2.2.2 mp x1.vars 0 y5 h51) [5001,5002,5000] [5009] (by simp -dsimp [hf]) (dkL hn) ?_
    simp -dsimp
    refine bD ?_
    refine b9 ?_
    cases hm
    refine emv 5009 5002 ?_
    exact zz
   ·exact zz
  ·clear j52
   exact zz
 ·exact zz
theorem dE (t:Tree) (x:Bl) (r:Bm×Int×Int) (hm:m_unroll_Formula t x=some r):PureCall Tryz.prog 6 [.u (.agg [dI t.States,dR2 t.Hood,dR1 t.Nodes]),.u (.agg [dI x.W,dI x.H,dI x.Gens,dI x.DX,dI x.DY,dL x.Syms])] (.tup [.agg [dI r.1.Vars,.d (.sl 1 (List.map (rS 1 (rI .i64)) r.1.Clauses))],.one (dI r.2.1),.one (dI r.2.2)]):=by
 refine bK Tryz.func6 Tryz.ntmps6 fun cx hn=>?_
 unfold m_unroll_Formula at hm
 refine srs hn ?_
 simp -dsimp
 refine ba ?_
 refine srs hn ?_
 obtain⟨y,h1,hm⟩:=bnd hm
 simp -dsimp
 refine bg (eQ t x y h1) (dkL hn) ?_
 simp -dsimp
 refine srs hn ?_
 simp -dsimp
 rcases bl hm with ⟨c2,hm⟩ | ⟨c2,hm⟩
 ·exact zz
 ·refine bi (by simp -dsimp) c2 ?_
  refine bd (b9 ?_)
  refine sw_midps bq mixed [] [0,2,3,1,4,5,6] [0,3,1,2,4,5,6] 3 4 4 0 [[1,2]] [[5000,5001]] [] none (by rw[hn]; kernel_rfl) (by dsimp only [dq,fJ,adO,rnL,pmL,pk,rnO,rnG,dO,List.cons_append,List.nil_append]<;>exact rfl) bO ?_
  dsimp only [List.take,List.drop,cn,cp,cV,pk,List.cons_append,List.nil_append,List.flatten_cons,List.flatten_nil,bN,bM,List.append_nil]
  obtain⟨y1,h3,hm⟩:=bnd hm
  simp -dsimp [c2]
  refine fo (g_unroll_start t y1 h3) [] [5000,5001] rfl rfl rfl (by simp -dsimp) rfl (by simp -dsimp) (by first | rfl | simp) rfl (dkL hn) rfl rfl (by simp) nofun (by simp) ?_
  obtain⟨y2,h4,hm⟩:=bnd hm
  simp -dsimp
  refine bg (c_hood_Radius t.Hood y2 h4) (dkL hn) ?_
  simp -dsimp
  refine Swp.pre (Wk.own0b 5001 1 5002 1 26 [dI 0,.d .nil,dI y1.1,dR2 y1.2.1,dR1 y1.2.2.1,dI y1.2.2.2,.map 5000] (by simp -dsimp) (by rfl) (by decide) (by decide)) ?_
  refine srs hn ?_
  obtain⟨y3,h5,hm⟩:=bnd hm
  simp -dsimp
  refine clg (e9 0 [] y1.1 y1.2.1 y1.2.2.1 y1.2.2.2 [] (⟨0,0,x.W,x.H⟩:Box) y3 h5) [5001,5002,5000] [5003] (by simp -dsimp) (dkL hn) ?_
  simp -dsimp
  refine srs hn ?_
  simp -dsimp
  refine ba ?_
  refine srs hn ?_
  simp -dsimp
  refine bc ?_
  obtain⟨l,g18,hm⟩:=bnd hm
  refine bu (l_unroll_Formula_1 cx hn x y1 y2 y3 g18) (by
    try dsimp only
    refine emv 5003 5002 ?_
    exact zz
  ) fun ee Z O xx=>?_
  unfold dV at xx
  dsimp only at xx
  obtain⟨rfl,xx⟩:=xx
  refine bz ?_
  refine b9 ?_
  refine see xx fun Z O hf=>?_
  simp only[Fits,bo,bn,and_true] at hf
  refine srs hn ?_
  simp -dsimp [hf]
  refine ba ?_
  refine srs hn ?_
  simp -dsimp
  refine bc ?_
  obtain⟨o_1,g22,hm⟩:=bnd hm
  refine bu (l_unroll_Formula_3 cx hn x y1 y2 y3 g22) (by
    try dsimp only
    refine EE.here ?_
    exact zz
  ) fun ee Z O xx=>?_
  rcases o_1 with r | ⟨au,ar,av,aw,aq,mp,aa,l1⟩
  ·exact zz
  ·unfold dT at xx
   dsimp only at xx
   obtain⟨rfl,xx⟩:=xx
   refine bz ?_
   refine b9 ?_
   refine see xx fun Z O hf=>?_
   simp only[Fits,bo,bn,and_true] at hf
   refine ba ?_
   refine srs hn ?_
   simp -dsimp [hf]
   refine bc ?_
   obtain⟨l2,g43,hm⟩:=bnd hm
   refine bu (l_unroll_Formula_4 cx hn x y1 y3 au ar av aw aq mp aa g43) (by
     try dsimp only
     refine EE.here ?_
     exact zz
   ) fun ee Z O xx=>?_
   unfold e6 at xx
   dsimp only at xx
   obtain⟨rfl,xx⟩:=xx
   refine bz ?_
   refine b9 ?_
   refine see xx fun Z O hf=>?_
   simp only[Fits,bo,bn,and_true] at hf
   refine ba ?_
   refine srs hn ?_
   simp -dsimp [hf]
   refine bc ?_
   obtain⟨l3,g53,hm⟩:=bnd hm
   refine bu (l_unroll_Formula_5 cx hn x y1 y3 au ar av aw aq mp aa g53) (by
     try dsimp only
     refine EE.here ?_
     exact zz
   ) fun ee Z O xx=>?_
   unfold dY at xx
   dsimp only at xx
   obtain⟨rfl,xx⟩:=xx
   refine bz ?_
   refine b9 ?_
   refine see xx fun Z O hf=>?_
   simp only[Fits,bo,bn,and_true] at hf
   refine ba ?_
   refine srs hn ?_
   obtain⟨y4,h54,hm⟩:=bnd hm
   simp -dsimp [hf]
   refine clg (cX aa l3 y1.1 y1.2.1 y1.2.2.1 y1.2.2.2 mp y4 h54) [5001,5002,5000] [] (by simp -dsimp [hf]) (dkL hn) ?_
   exact zz
theorem c_grid_sized (w hv edge:Int) (r:Bool) (hm:m_grid_sized w hv edge=some r):PureCall Tryz.prog 70 [vI w,vI hv,vI edge] (vT r):=by
 refine bK Tryz.func70 Tryz.ntmps70 fun cx hn=>?_
 unfold m_grid_sized at hm
 refine srs hn ?_
 simp -dsimp
 obtain⟨a,j7,hm⟩:=bnd hm
 refine scE [(6,vT a)] [] ?_ fun Z O hf=>?_
 ·replace hm:=j7
  clear j7
  exact zz
 ·clear j7
  exact zz
theorem c_grid_Right_1 (s:Int) (r:Bool) (hm:m_grid_Right_1 s=some r):PureCall Tryz.prog 71 [vI s] (vT r):=by
 refine bK Tryz.func71 Tryz.ntmps71 fun cx hn=>?_
 unfold m_grid_Right_1 at hm
 refine srs hn ?_
 simp -dsimp
 obtain⟨a,j2,hm⟩:=bnd hm
 refine scE [(2,vT a)] [] ?_ fun Z O hf=>?_
 ·replace hm:=j2
  clear j2
  exact zz
 ·clear j2
  exact zz
def cg (cx:Cx) (_s:List Int) (tt:Int ⊕ Unit) (ee:Exit) (Z:Env) (O:Sto):Prop:=match tt with
 | .inl r=>ee=.ret/\EE cx (fun Z O=>∃ v,dd tb Z O Tryz.f72.results.toList=some v/\(v.frz O).free=true/\(v.frz O).wk (vI r)) Z O
 | .inr _u=>ee=.exit 0/\EE cx (bw [] []) Z O
theorem di (cx:Cx) (hn:cx.n=19) (s:List Int) {fu:Nat} {stt:Int} {tt:Int ⊕ Unit} (hh:bh (b_slices_IndexFunc_int_int_grid_Right_1_1 s) fu stt=some tt) {Z:Env} {O:Sto}
  (hE:bA (fun a:Int=>[(0,.u (.one (dL s))),(1,.u (.one (.fn 71 []))),(7,vI (bf s)),(8,vI a)]) (fun _a:Int=>[]) stt Z O):Swp Tryz.prog cx (.loop (bJ [1,0,1,0,0] (bv Tryz.f72))) Z O (cg cx s tt):=by
 refine bC hE hh (cg cx s) ?_
 rintro a r hm Z O hf
 simp only[Fits,bo,bn,and_true] at hf
 unfold b_slices_IndexFunc_int_int_grid_Right_1_1 at hm
 dsimp only at hm
 refine srs hn ?_
 simp -dsimp [hf]
 refine ba ?_
 rcases bl hm with ⟨c1,hm⟩ | ⟨c1,hm⟩
 ·refine be (by simp -dsimp) c1 ?_
  refine bd (b9 (ba (bc ?_)))
  refine srs hn ?_
  simp -dsimp [hf,c1]
  refine srs hn ?_
  obtain⟨x,h2,hm⟩:=bnd hm
  obtain⟨y,h3,hm⟩:=bnd hm
  simp -dsimp [hf,h2]
  refine bg (c_grid_Right_1 x y h3) (dkL hn) ?_
  exact zz
 ·exact zz
theorem du (s:List Int) (r:Int) (hm:m_slices_IndexFunc_int_int_grid_Right_1 s=some r):PureCall Tryz.prog 72 [.u (.one (dL s)),.u (.one (.fn 71 []))] (vI r):=by
 refine bK Tryz.func72 Tryz.ntmps72 fun cx hn=>?_
 unfold m_slices_IndexFunc_int_int_grid_Right_1 at hm
 refine srs hn ?_
 simp -dsimp
 refine ba ?_
 refine srs hn ?_
 simp -dsimp
 refine bc ?_
 obtain⟨o_,g5,hm⟩:=bnd hm
 refine bu (di cx hn s g5) (by
   try dsimp only
   exact eeh
 ) fun ee Z O xx=>?_
 rcases o_ with r | _u
 ·exact zz
 ·exact zz
theorem dc (s:List Int) (r:Bool) (hm:m_slices_ContainsFunc_int_int_grid_Right_1 s=some r):PureCall Tryz.prog 34 [.u (.one (dL s)),.u (.one (.fn 71 []))] (vT r):=by
 refine bK Tryz.func34 Tryz.ntmps34 fun cx hn=>?_
 unfold m_slices_ContainsFunc_int_int_grid_Right_1 at hm
 refine srs hn ?_
 simp -dsimp
 refine srs hn ?_
 obtain⟨y,h1,hm⟩:=bnd hm
 simp -dsimp
 refine bg (du s y h1) (dkL hn) ?_
 simp -dsimp
 exact zz
end Go.Proofs.YtnkmjlncmlmnbaaGreatDoor
namespace Go.Proofs.YtnkmjlncmlmnbaaGreatDoor
open Go.AM Go.Proofs
set_option maxRecDepth 100000
attribute [-simp] qlookup cb cL Ob.wipe Ob.ren Ob.frz1
theorem c_grid_Right (gv:Grid) (r:Bool) (hm:m_grid_Right gv=some r):PureCall Tryz.prog 33 [.u (.agg [dI gv.W,dI gv.H,dI gv.Edge,dL gv.Cells])] (vT r):=by
 refine bK Tryz.func33 Tryz.ntmps33 fun cx hn=>?_
 unfold m_grid_Right at hm
 refine srs hn ?_
 simp -dsimp
 obtain⟨a,j5,hm⟩:=bnd hm
 refine scE [(2,vT a)] [] ?_ fun Z O hf=>?_
 ·replace hm:=j5
  clear j5
  refine sr1 hn ?_
  obtain⟨y,h1,hm⟩:=bnd hm
  simp -dsimp
  refine bg (c_grid_sized gv.W gv.H gv.Edge y h1) (dkL hn) ?_
  rcases bl hm with ⟨c2,hm⟩ | ⟨c2,hm⟩
  ·rcases bl hm with ⟨c3,hm⟩ | ⟨c3,hm⟩
   ·obtain⟨y1,h4,hm⟩:=bnd hm
    simp -dsimp [c2,c3]
    refine bg (dc gv.Cells y1 h4) (dkL hn) ?_
    exact zz
   ·exact zz
  ·exact zz
 ·clear j5
  exact zz
theorem c_unroll_Parents_1 (s:Int) (a:Tree) (r:Bool) (hm:m_unroll_Parents_1 s a=some r):PureCall Tryz.prog 35 [vI s,.u (.one (.ref (Tree.row a) 0))] (vT r):=by
 refine bK Tryz.func35 Tryz.ntmps35 fun cx hn=>?_
 unfold m_unroll_Parents_1 at hm
 refine srs hn ?_
 simp -dsimp
 refine srs hn ?_
 simp -dsimp
 exact zz
def bY (cx:Cx) (_s:List Int) (_cv:Tree) (tt:Int ⊕ Unit) (ee:Exit) (Z:Env) (O:Sto):Prop:=match tt with
 | .inl r=>ee=.ret/\EE cx (fun Z O=>∃ v,dd tb Z O Tryz.f72.results.toList=some v/\(v.frz O).free=true/\(v.frz O).wk (vI r)) Z O
 | .inr _u=>ee=.exit 0/\EE cx (bw [] []) Z O
theorem d8 (cx:Cx) (hn:cx.n=19) (s:List Int) (cv:Tree) {fu:Nat} {stt:Int} {tt:Int ⊕ Unit} (hh:bh (b_slices_IndexFunc_int_int_unroll_Parents_1_1 s cv) fu stt=some tt) {Z:Env} {O:Sto}
  (hE:bA (fun a:Int=>[(0,.u (.one (dL s))),(1,.u (.one (.fn 35 [.ref (Tree.row cv) 0]))),(7,vI (bf s)),(8,vI a)]) (fun _a:Int=>[]) stt Z O):Swp Tryz.prog cx (.loop (bJ [1,0,1,0,0] (bv Tryz.f72))) Z O (bY cx s cv tt):=by
 refine bC hE hh (bY cx s cv) ?_
 rintro a r hm Z O hf
 simp only[Fits,bo,bn,and_true] at hf
 unfold b_slices_IndexFunc_int_int_unroll_Parents_1_1 at hm
 dsimp only at hm
 refine srs hn ?_
 simp -dsimp [hf]
 refine ba ?_
 rcases bl hm with ⟨c1,hm⟩ | ⟨c1,hm⟩
 ·refine be (by simp -dsimp) c1 ?_
  refine bd (b9 (ba (bc ?_)))
  refine srs hn ?_
  simp -dsimp [hf,c1]
  refine srs hn ?_
  obtain⟨x,h2,hm⟩:=bnd hm
  obtain⟨y,h3,hm⟩:=bnd hm
  simp -dsimp [hf,h2]
  refine bg (c_unroll_Parents_1 x cv y h3) (dkL hn) ?_
  exact zz
 ·exact zz
theorem db (s:List Int) (cv:Tree) (r:Int) (hm:m_slices_IndexFunc_int_int_unroll_Parents_1 s cv=some r):PureCall Tryz.prog 72 [.u (.one (dL s)),.u (.one (.fn 35 [.ref (Tree.row cv) 0]))] (vI r):=by
 refine bK Tryz.func72 Tryz.ntmps72 fun cx hn=>?_
 unfold m_slices_IndexFunc_int_int_unroll_Parents_1 at hm
 refine srs hn ?_
 simp -dsimp
 refine ba ?_
 refine srs hn ?_
 simp -dsimp
 refine bc ?_
 obtain⟨o_,g5,hm⟩:=bnd hm
 refine bu (d8 cx hn s cv g5) (by
   try dsimp only
   exact eeh
 ) fun ee Z O xx=>?_
 rcases o_ with r | _u
 ·exact zz
 ·exact zz
theorem cW (s:List Int) (cv:Tree) (r:Bool) (hm:m_slices_ContainsFunc_int_int_unroll_Parents_1 s cv=some r):PureCall Tryz.prog 34 [.u (.one (dL s)),.u (.one (.fn 35 [.ref (Tree.row cv) 0]))] (vT r):=by
 refine bK Tryz.func34 Tryz.ntmps34 fun cx hn=>?_
 unfold m_slices_ContainsFunc_int_int_unroll_Parents_1 at hm
 refine srs hn ?_
 simp -dsimp
 refine srs hn ?_
 obtain⟨y,h1,hm⟩:=bnd hm
 simp -dsimp
 refine bg (db s cv y h1) (dkL hn) ?_
 simp -dsimp
 exact zz
theorem fb (aa:Int) (ag:List (List Int)) (a8:Int) (ae:List Point) (ab:List Node) (aj:Int) (ah:List (List UInt8×Tree)) (r:Unit) (hm:m_unroll_builder_clause_o_N aa ag a8 ae ab aj ah=some r):GFn Tryz.prog 36 [vX 1000000,.u (.one (.d .nil))] [.box [dI aa,.own 1000001,dI a8,dR2 ae,dR1 ab,dI aj,.map 1000002],.row 1 26 (List.map (rS 1 (rI .i64)) ag),mOb .str kS (uA Tree.row) ah] (.tup []) [some (.box [dI aa,.own 1000003,dI a8,dR2 ae,dR1 ab,dI aj,.map 1000002]),none,some (mOb .str kS (uA Tree.row) ah),some (.row 1 26 (List.map (rS 1 (rI .i64)) (ag++[[]])))]:=by
 refine bG bq _ Tryz.func36 rfl (by kernel_rfl) (by simp[Tryz.ntmps36]) (by simp) (by first | rfl | simp) (by first | rfl | simp) fun cx hn hk=>?_
 replace hn:cx.n=16:=hn.trans Tryz.ntmps36
 replace hk:cx.k=3:=hk
 unfold m_unroll_builder_clause_o_N at hm
 refine sr1 hn ?_
 obtain⟨l,h1,hm⟩:=bnd hm
 obtain⟨h1a,h1e⟩:=bp h1
 replace h1e:=h1e.symm
 subst h1e
 try simp only[List.length_cons,List.length_nil,Nat.zero_add] at h1a
 simp -dsimp [h1a]
 cases hm
 try refine⟨.inl rfl,?_⟩
 refine emr 12 1000003 hk ?_
 exact zz
def dX (cx:Cx) (_gv:Grid) (_y3:Int) (y4:Int×(List Point)×(List Node)×Int) (y5:(List Bn)×(List (List Int))×Int) (tt:(Bm×Int×Int) ⊕ ((List (List UInt8×Tree))×Int×(List (List Int)))) (ee:Exit) (Z:Env) (O:Sto):Prop:=match tt with
 | .inl r=>ee=.ret/\EE cx (fun Z O=>∃ v,dd tb Z O Tryz.f10.results.toList=some v/\(v.frz O).free=true/\(v.frz O).wk (.tup [.agg [dI r.1.Vars,.d (.sl 1 (List.map (rS 1 (rI .i64)) r.1.Clauses))],.one (dI r.2.1),.one (dI r.2.2)])) Z O
 | .inr (mp,aa,l)=>ee=.exit 1/\EE cx (bw [(4,vX 4),(5,vI y5.2.2),(9,vX 5001)] [(4,.box [dI 0,.d .nil]),(5000,mOb .str kS (uA Tree.row) mp),(5001,.box [dI aa,.own 5002,dI y4.1,dR2 y4.2.1,dR1 y4.2.2.1,dI y4.2.2.2,.map 5000]),(5002,.row 1 26 (List.map (rS 1 (rI .i64)) l))]) Z O
theorem l_unroll_Parents_1 (cx:Cx) (hn:cx.n=122) (gv:Grid) (y3:Int) (y4:Int×(List Point)×(List Node)×Int) (y5:(List Bn)×(List (List Int))×Int) {fu:Nat} {stt:Int×(List (List UInt8×Tree))×Int×(List (List Int))} {tt:(Bm×Int×Int) ⊕ ((List (List UInt8×Tree))×Int×(List (List Int)))} (hh:bh (b_unroll_Parents_1 gv y3 y4 y5) fu stt=some tt) {Z:Env} {O:Sto}
  (hE:bA (fun stt:Int×(List (List UInt8×Tree))×Int×(List (List Int))=>match stt with | (a,_mp,_aa,_l)=>[(3,vX 3),(4,vX 4),(5,vI y5.2.2),(9,vX 5001),(10,vX 10),(68,.u (.one (dL gv.Cells))),(69,vI (bf gv.Cells)),(70,vI a)]) (fun stt:Int×(List (List UInt8×Tree))×Int×(List (List Int))=>match stt with | (_a,mp,aa,l)=>[(3,.box [dI gv.W,dI gv.H,dI gv.Edge,dL gv.Cells]),(4,.box [dI 0,.d .nil]),(10,.box [dI ((⟨(bH .i64 y3),(bH .i64 y3),(bk .i64 gv.W (bB .i64 2 y3)),(bk .i64 gv.H (bB .i64 2 y3))⟩:Box).X),dI ((⟨(bH .i64 y3),(bH .i64 y3),(bk .i64 gv.W (bB .i64 2 y3)),(bk .i64 gv.H (bB .i64 2 y3))⟩:Box).Y),dI ((⟨(bH .i64 y3),(bH .i64 y3),(bk .i64 gv.W (bB .i64 2 y3)),(bk .i64 gv.H (bB .i64 2 y3))⟩:Box).W),dI ((⟨(bH .i64 y3),(bH .i64 y3),(bk .i64 gv.W (bB .i64 2 y3)),(bk .i64 gv.H (bB .i64 2 y3))⟩:Box).H),dR4 y5.1]),(5000,mOb .str kS (uA Tree.row) mp),(5001,.box [dI aa,.own 5002,dI y4.1,dR2 y4.2.1,dR1 y4.2.2.1,dI y4.2.2.2,.map 5000]),(5002,.row 1 26 (List.map (rS 1 (rI .i64)) l))]) stt Z O):Swp Tryz.prog cx (.loop (bJ [1,1,1,1,1,1,1,1,0,1,0,0] (bv Tryz.f10))) Z O (dX cx gv y3 y4 y5 tt):=by
 refine bC hE hh (dX cx gv y3 y4 y5) ?_
 rintro⟨a,mp,aa,l⟩ r hm Z O hf
 simp only[Fits,bo,bn,and_true] at hf
 unfold b_unroll_Parents_1 at hm
 dsimp only at hm
 refine srs hn ?_
 simp -dsimp [hf]
 refine ba ?_
 rcases bl hm with ⟨c11,hm⟩ | ⟨c11,hm⟩
 ·refine be (by simp -dsimp) c11 ?_
  refine bd (b9 (ba (bc ?_)))
  refine srs hn ?_
  obtain⟨x,h12,hm⟩:=bnd hm
  simp -dsimp [hf,c11,h12]
  refine sw_midps bq mixed [(13,14),(14,16)] [0,1,2,3,4,5,6,7,8,9,10,11,15,12,13,14,16,17] [0,1,2,3,4,5,6,7,8,9,10,11,13,14,15,12,16,17] 11 12 16 12 [[]] [[5004]] [false,true,true,true] (some (13,.box [dI 0,dI 0,dI 0,dI 0,.d .nil])) (by rw[hn]; kernel_rfl) (by dsimp only [dq,fJ,adO,rnL,pmL,pk,rnO,rnG,dO,List.cons_append,List.nil_append]<;>exact rfl) (fltT_some 62 _ (by kernel_rfl) rfl rfl rfl (by simp[C.wipe])) ?_
  dsimp only [List.take,List.drop,cn,cp,cV,pk,List.cons_append,List.nil_append,List.flatten_cons,List.flatten_nil,bN,bM,List.append_nil]
  obtain⟨n,h13,hm⟩:=bnd hm
  obtain⟨n1,h14,hm⟩:=bnd hm
  obtain⟨y6,h15,hm⟩:=bnd hm
  simp -dsimp [hf,h13,h14]
  refine fo (ea aa l y4.1 y4.2.1 y4.2.2.1 y4.2.2.2 mp (⟨⟨(⟨(bH .i64 y3),(bH .i64 y3),(bk .i64 gv.W (bB .i64 2 y3)),(bk .i64 gv.H (bB .i64 2 y3))⟩:Box).X,(⟨(bH .i64 y3),(bH .i64 y3),(bk .i64 gv.W (bB .i64 2 y3)),(bk .i64 gv.H (bB .i64 2 y3))⟩:Box).Y,(⟨(bH .i64 y3),(bH .i64 y3),(bk .i64 gv.W (bB .i64 2 y3)),(bk .i64 gv.H (bB .i64 2 y3))⟩:Box).W,(⟨(bH .i64 y3),(bH .i64 y3),(bk .i64 gv.W (bB .i64 2 y3)),(bk .i64 gv.H (bB .i64 2 y3))⟩:Box).H⟩,y5.1⟩:Bo) (⟨n,n1,1,1⟩:Box) false y6 h15) [5001,5002,5000] [5004] rfl rfl rfl (by simp -dsimp) rfl (by simp -dsimp [hf]) (by first | rfl | simp) rfl (dkL hn) rfl rfl (by simp) (by rintro _ _ ⟨⟩; simp[C.wipe]) (by simp) ?_
  simp -dsimp
  refine ba ?_
  refine srs hn ?_
  simp -dsimp
  rcases bl hm with ⟨c16,hm⟩ | ⟨c16,hm⟩
  ·exact zz
  ·refine bi (by simp -dsimp) c16 ?_
   refine bd (b9 ?_)
   refine srs hn ?_
   obtain⟨x1,h17,hm⟩:=bnd hm
   simp -dsimp [c16,h17]
   refine bc ?_
   refine srs hn ?_
   simp -dsimp
   rcases bl hm with ⟨c18,hm⟩ | ⟨c18,hm⟩
   ·refine be (by simp -dsimp) c18 ?_
    refine sr1 hn ?_
    obtain⟨u,h19,hm⟩:=bnd hm
    obtain⟨y7,h20,hm⟩:=bnd hm
    simp -dsimp [hf,c18,cU h19 1 (rI .i64)]
    refine clg (cA y6.2.2.2.2.2.2.1 y6.2.2.2.2.2.2.2.2 y4.1 y4.2.1 y4.2.2.1 y4.2.2.2 y6.2.2.2.2.2.2.2.1 x1.vars x y7 h20) [5001,5004,5000] [5005] (by simp -dsimp) (dkL hn) ?_
    simp -dsimp
    refine bD ?_
    refine bD ?_
    refine b9 ?_
    refine sr1 hn ?_
    simp -dsimp [hf]
    cases hm
    refine bI ?_
    refine emv 5005 5002 ?_
    exact zz
   ·refine bi (by simp -dsimp) c18 ?_
    refine srs hn ?_
    simp -dsimp [c18]
    rcases bl hm with ⟨c21,hm⟩ | ⟨c21,hm⟩
    ·refine be (by simp -dsimp) c21 ?_
     refine sr1 hn ?_
     obtain⟨y7,h22,hm⟩:=bnd hm
     simp -dsimp [hf,c21]
     refine clg (fb y6.2.2.2.2.2.2.1 y6.2.2.2.2.2.2.2.2 y4.1 y4.2.1 y4.2.2.1 y4.2.2.2 y6.2.2.2.2.2.2.2.1 y7 h22) [5001,5004,5000] [5006] (by simp -dsimp) (dkL hn) ?_
     simp -dsimp
     refine bD ?_
     refine bD ?_
     refine b9 ?_
     refine sr1 hn ?_
     simp -dsimp [hf]
     cases hm
     refine bI ?_
     refine emv 5006 5002 ?_
     exact zz
    ·refine bi (by simp -dsimp) c21 ?_
     refine bd ?_
     refine bD ?_
     refine bD ?_
     refine b9 ?_
     refine sr1 hn ?_
     simp -dsimp [hf,c21]
     cases hm
     refine bI ?_
     refine emv 5004 5002 ?_
     exact zz
 ·exact zz
theorem c_unroll_Parents (t:Tree) (gv:Grid) (r:Bm×Int×Int) (hm:m_unroll_Parents t gv=some r):PureCall Tryz.prog 10 [.u (.agg [dI t.States,dR2 t.Hood,dR1 t.Nodes]),.u (.agg [dI gv.W,dI gv.H,dI gv.Edge,dL gv.Cells])] (.tup [.agg [dI r.1.Vars,.d (.sl 1 (List.map (rS 1 (rI .i64)) r.1.Clauses))],.one (dI r.2.1),.one (dI r.2.2)]):=by
 refine bK Tryz.func10 Tryz.ntmps10 fun cx hn=>?_
 unfold m_unroll_Parents at hm
 refine srs hn ?_
 simp -dsimp
 refine ba (bc ?_)
 refine srs hn ?_
 obtain⟨y,h1,hm⟩:=bnd hm
 simp -dsimp
 refine bg (fe t y h1) (dkL hn) ?_
 simp -dsimp
 rcases bl hm with ⟨c2,hm⟩ | ⟨c2,hm⟩
 ·exact zz
 ·refine bi (by simp -dsimp) c2 ?_
  refine srs hn ?_
  obtain⟨y1,h3,hm⟩:=bnd hm
  simp -dsimp [c2]
  refine bg (c_grid_Right gv y1 h3) (dkL hn) ?_
  simp -dsimp
  rcases bl hm with ⟨c4,hm⟩ | ⟨c4,hm⟩
  ·exact zz
  ·refine bi (by simp -dsimp) c4 ?_
   refine srs hn ?_
   obtain⟨y2,h5,hm⟩:=bnd hm
   simp -dsimp [c4]
   refine dj (us':=[.u (.one (dL gv.Cells)),.u (.one (.fn 35 [.ref (Tree.row t) 0]))]) (cW gv.Cells t y2 h5) (by simp -dsimp) rfl (dkL hn) ?_
   simp -dsimp
   rcases bl hm with ⟨c6,hm⟩ | ⟨c6,hm⟩
   ·exact zz
   ·refine bi (by simp -dsimp) c6 ?_
    refine bd ?_
    refine bD ?_
    refine b9 ?_
    refine srs hn ?_
    obtain⟨y3,h7,hm⟩:=bnd hm
    simp -dsimp [c6]
    refine bg (c_hood_Radius t.Hood y3 h7) (dkL hn) ?_
    simp -dsimp
    refine srs hn ?_
    simp -dsimp
    refine ba ?_
    refine srs hn ?_
    simp -dsimp
    rcases bl hm with ⟨c8,hm⟩ | ⟨c8,hm⟩
    ·exact zz
    ·refine bi (by simp -dsimp) c8 ?_
     refine bd (b9 ?_)
     refine srs hn ?_
     obtain⟨y4,h9,hm⟩:=bnd hm
     simp -dsimp [c8]
     refine clg (g_unroll_start t y4 h9) [] [5000,5001] (by simp -dsimp) (dkL hn) ?_
     simp -dsimp
     refine Swp.pre (Wk.own0b 5001 1 5002 1 26 [dI 0,.d .nil,dI y4.1,dR2 y4.2.1,dR1 y4.2.2.1,dI y4.2.2.2,.map 5000] (by simp -dsimp) (by rfl) (by decide) (by decide)) ?_
     refine srs hn ?_
     obtain⟨y5,h10,hm⟩:=bnd hm
     simp -dsimp
     refine clg (e9 0 [] y4.1 y4.2.1 y4.2.2.1 y4.2.2.2 [] (⟨(bH .i64 y3),(bH .i64 y3),(bk .i64 gv.W (bB .i64 2 y3)),(bk .i64 gv.H (bB .i64 2 y3))⟩:Box) y5 h10) [5001,5002,5000] [5003] (by simp -dsimp) (dkL hn) ?_
     simp -dsimp
     refine srs hn ?_
     simp -dsimp
     refine ba ?_
     refine srs hn ?_
     simp -dsimp
     refine bc ?_
     obtain⟨o_,g23,hm⟩:=bnd hm
     refine bu (l_unroll_Parents_1 cx hn gv y3 y4 y5 g23) (by
       try dsimp only
       refine emv 5003 5002 ?_
       exact zz
     ) fun ee Z O xx=>?_
     rcases o_ with r | ⟨mp,aa,l⟩
     ·exact zz
     ·unfold dX at xx
      dsimp only at xx
      obtain⟨rfl,xx⟩:=xx
      refine bz ?_
      refine b9 ?_
      refine see xx fun Z O hf=>?_
      simp only[Fits,bo,bn,and_true] at hf
      refine ba ?_
      refine srs hn ?_
      obtain⟨y6,h24,hm⟩:=bnd hm
      simp -dsimp [hf]
      refine clg (cX aa l y4.1 y4.2.1 y4.2.2.1 y4.2.2.2 mp y6 h24) [5001,5002,5000] [] (by simp -dsimp [hf]) (dkL hn) ?_
      exact zz
theorem c_unroll_Bits_1 (cv:Cell) (a:Bl) (r:Bool) (hm:m_unroll_Bits_1 cv a=some r):PureCall Tryz.prog 39 [.u (.agg [dI cv.X,dI cv.Y,dI cv.S]),.u (.one (.ref (Bl.row a) 0))] (vT r):=by
 refine bK Tryz.func39 Tryz.ntmps39 fun cx hn=>?_
 unfold m_unroll_Bits_1 at hm
 refine srs hn ?_
 simp -dsimp
 obtain⟨a1,j4,hm⟩:=bnd hm
 refine scE [(3,vT a1)] [] ?_ fun Z O hf=>?_
 ·replace hm:=j4
  clear j4
  exact zz
 ·clear j4
  exact zz
def bP (cx:Cx) (_s:List Cell) (_cv:Bl) (tt:Int ⊕ Unit) (ee:Exit) (Z:Env) (O:Sto):Prop:=match tt with
 | .inl r=>ee=.ret/\EE cx (fun Z O=>∃ v,dd tb Z O Tryz.f76.results.toList=some v/\(v.frz O).free=true/\(v.frz O).wk (vI r)) Z O
 | .inr _u=>ee=.exit 0/\EE cx (bw [] []) Z O
theorem co (cx:Cx) (hn:cx.n=19) (s:List Cell) (cv:Bl) {fu:Nat} {stt:Int} {tt:Int ⊕ Unit} (hh:bh (b_slices_IndexFunc_api_Pattern_api_Cell_unroll_Bits_1_1 s cv) fu stt=some tt) {Z:Env} {O:Sto}
  (hE:bA (fun a:Int=>[(0,.u (.one (dR0 s))),(1,.u (.one (.fn 39 [.ref (Bl.row cv) 0]))),(7,vI (bf s)),(8,vI a)]) (fun _a:Int=>[]) stt Z O):Swp Tryz.prog cx (.loop (bJ [1,0,1,0,0] (bv Tryz.f76))) Z O (bP cx s cv tt):=by
 refine bC hE hh (bP cx s cv) ?_
 rintro a r hm Z O hf
 simp only[Fits,bo,bn,and_true] at hf
 unfold b_slices_IndexFunc_api_Pattern_api_Cell_unroll_Bits_1_1 at hm
 dsimp only at hm
 refine srs hn ?_
 simp -dsimp [hf]
 refine ba ?_
 rcases bl hm with ⟨c1,hm⟩ | ⟨c1,hm⟩
 ·refine be (by simp -dsimp) c1 ?_
  refine bd (b9 (ba (bc ?_)))
  refine srs hn ?_
  simp -dsimp [hf,c1]
  refine srs hn ?_
  obtain⟨x,h2,hm⟩:=bnd hm
  obtain⟨y,h3,hm⟩:=bnd hm
  simp -dsimp [hf,h2]
  refine bg (c_unroll_Bits_1 x cv y h3) (dkL hn) ?_
  exact zz
 ·exact zz
theorem cy (s:List Cell) (cv:Bl) (r:Int) (hm:m_slices_IndexFunc_api_Pattern_api_Cell_unroll_Bits_1 s cv=some r):PureCall Tryz.prog 76 [.u (.one (dR0 s)),.u (.one (.fn 39 [.ref (Bl.row cv) 0]))] (vI r):=by
 refine bK Tryz.func76 Tryz.ntmps76 fun cx hn=>?_
 unfold m_slices_IndexFunc_api_Pattern_api_Cell_unroll_Bits_1 at hm
 refine srs hn ?_
 simp -dsimp
 refine ba ?_
 refine srs hn ?_
 simp -dsimp
 refine bc ?_
 obtain⟨o_,g5,hm⟩:=bnd hm
 refine bu (co cx hn s cv g5) (by
   try dsimp only
   exact eeh
 ) fun ee Z O xx=>?_
 rcases o_ with r | _u
 ·exact zz
 ·exact zz
theorem ck (s:List Cell) (cv:Bl) (r:Bool) (hm:m_slices_ContainsFunc_api_Pattern_api_Cell_unroll_Bits_1 s cv=some r):PureCall Tryz.prog 38 [.u (.one (dR0 s)),.u (.one (.fn 39 [.ref (Bl.row cv) 0]))] (vT r):=by
 refine bK Tryz.func38 Tryz.ntmps38 fun cx hn=>?_
 unfold m_slices_ContainsFunc_api_Pattern_api_Cell_unroll_Bits_1 at hm
 refine srs hn ?_
 simp -dsimp
 refine srs hn ?_
 obtain⟨y,h1,hm⟩:=bnd hm
 simp -dsimp
 refine bg (cy s cv y h1) (dkL hn) ?_
 simp -dsimp
 exact zz
section
attribute [-simp] List.map_set List.set_set
def F_unroll_Bits_2 (cx:Cx) (x:Bl) (p:List Cell) (y2 a1:Int) (_out:List Bool) (_x1:Cell) (tt:(List Bool)) (ee:Exit) (Z:Env) (O:Sto):Prop:=match tt with
 | aN=>ee=.exit 2/\EE cx (bw [(4,vX 4),(9,vI y2),(10,vO 43),(44,.u (.one (dR0 p))),(45,vI (bf p)),(46,vI a1)] [(4,.box [dI x.W,dI x.H,dI x.Gens,dI x.DX,dI x.DY,dL x.Syms]),(43,.row 1 4 (List.map rB aN))]) Z O
theorem l_unroll_Bits_2 (cx:Cx) (hn:cx.n=77) (x:Bl) (p:List Cell) (y2 a1:Int) (out:List Bool) (x1:Cell) {fu:Nat} {stt:Int×(List Bool)} {tt:(List Bool)} (hh:bh (b_unroll_Bits_2 x p y2 a1 out x1) fu stt=some tt) {Z:Env} {O:Sto}
  (hE:bA (fun stt:Int×(List Bool)=>match stt with | (a2,_aN)=>[(4,vX 4),(9,vI y2),(10,vO 43),(12,vX 12),(44,.u (.one (dR0 p))),(45,vI (bf p)),(46,vI a1),(50,vI y2),(51,vI a2)]) (fun stt:Int×(List Bool)=>match stt with | (_a2,aN)=>[(4,.box [dI x.W,dI x.H,dI x.Gens,dI x.DX,dI x.DY,dL x.Syms]),(12,.box [dI x1.X,dI x1.Y,dI x1.S]),(43,.row 1 4 (List.map rB aN))]) stt Z O):Swp Tryz.prog cx (.loop (bJ [1,1,1,1,1,1,0,1,0,0,1,1,0,0,1,1,0,0] (bv Tryz.f11))) Z O (F_unroll_Bits_2 cx x p y2 a1 out x1 tt):=by
 refine bC hE hh (F_unroll_Bits_2 cx x p y2 a1 out x1) ?_
 rintro⟨a2,aN⟩ r hm Z O hf
 simp only[Fits,bo,bn,and_true] at hf
 unfold b_unroll_Bits_2 at hm
 dsimp only at hm
 refine srs hn ?_
 simp -dsimp [hf]
 refine ba ?_
 rcases bl hm with ⟨c13,hm⟩ | ⟨c13,hm⟩
 ·refine be (by simp -dsimp) c13 ?_
  refine bd (b9 (ba (bc ?_)))
  refine srs hn ?_
  simp -dsimp [hf,c13]
  refine dl bq mixed 19 (by rw[hn]; kernel_rfl) ?_
  dsimp only [List.take,List.drop]
  obtain⟨n,h14,hm⟩:=bnd hm
  obtain⟨x2,h15,hm⟩:=bnd hm
  simp -dsimp [hf,h14,h15,bF h15,rsetB aN (bk .i64 (bB .i64 (bk .i64 (bB .i64 x1.Y x.W) x1.X) y2) a2).toNat (eqB (iand .i64 n 1) 1)]
  exact zz
 ·exact zz
def F_unroll_Bits_1 (cx:Cx) (_x:Bl) (_p:List Cell) (_y2:Int) (tt:(List Bool)) (ee:Exit) (Z:Env) (O:Sto):Prop:=match tt with
 | out=>ee=.exit 0/\EE cx (bw [(10,vO 43)] [(43,.row 1 4 (List.map rB out))]) Z O
theorem l_unroll_Bits_1 (cx:Cx) (hn:cx.n=77) (x:Bl) (p:List Cell) (y2:Int) {fu:Nat} {stt:Int×(List Bool)} {tt:(List Bool)} (hh:bh (b_unroll_Bits_1 x p y2) fu stt=some tt) {Z:Env} {O:Sto}
  (hE:bA (fun stt:Int×(List Bool)=>match stt with | (a1,_out)=>[(4,vX 4),(9,vI y2),(10,vO 43),(44,.u (.one (dR0 p))),(45,vI (bf p)),(46,vI a1)]) (fun stt:Int×(List Bool)=>match stt with | (_a1,out)=>[(4,.box [dI x.W,dI x.H,dI x.Gens,dI x.DX,dI x.DY,dL x.Syms]),(43,.row 1 4 (List.map rB out))]) stt Z O):Swp Tryz.prog cx (.loop (bJ [1,1,1,1,1,1,0,1,0,0] (bv Tryz.f11))) Z O (F_unroll_Bits_1 cx x p y2 tt):=by
 refine bC hE hh (F_unroll_Bits_1 cx x p y2) ?_
 rintro⟨a1,out⟩ r hm Z O hf
 simp only[Fits,bo,bn,and_true] at hf
 unfold b_unroll_Bits_1 at hm
 dsimp only at hm
 refine srs hn ?_
 simp -dsimp [hf]
 refine ba ?_
 rcases bl hm with ⟨c11,hm⟩ | ⟨c11,hm⟩
 ·refine be (by simp -dsimp) c11 ?_
  refine bd (b9 (ba (bc ?_)))
  refine srs hn ?_
  obtain⟨x1,h12,hm⟩:=bnd hm
  simp -dsimp [hf,c11,h12]
  refine srs hn ?_
  simp -dsimp [hf]
  refine bc ?_
  obtain⟨aN,g16,hm⟩:=bnd hm
  refine bu (l_unroll_Bits_2 cx hn x p y2 a1 out x1 g16) (by
    try dsimp only
    exact EE.here (by simp -dsimp [hf])
  ) fun ee Z O xx=>?_
  exact zz
 ·exact zz
theorem c_unroll_Bits (t:Tree) (x:Bl) (p:List Cell) (r:(List Bool)×Int) (hm:m_unroll_Bits t x p=some r):PureCall Tryz.prog 11 [.u (.agg [dI t.States,dR2 t.Hood,dR1 t.Nodes]),.u (.agg [dI x.W,dI x.H,dI x.Gens,dI x.DX,dI x.DY,dL x.Syms]),.u (.one (dR0 p))] (.tup [.one (.d (.sl 1 (List.map rB r.1))),.one (dI r.2)]):=by
 refine bK Tryz.func11 Tryz.ntmps11 fun cx hn=>?_
 unfold m_unroll_Bits at hm
 refine srs hn ?_
 simp -dsimp
 refine ba ?_
 refine srs hn ?_
 obtain⟨y,h1,hm⟩:=bnd hm
 simp -dsimp
 refine bg (eQ t x y h1) (dkL hn) ?_
 simp -dsimp
 refine srs hn ?_
 simp -dsimp
 rcases bl hm with ⟨c2,hm⟩ | ⟨c2,hm⟩
 ·exact zz
 ·refine bi (by simp -dsimp) c2 ?_
  refine bd (b9 (ba ?_))
  obtain⟨a,j18,hm⟩:=bnd hm
  refine scE [(2,.u (.one (dR0 p))),(3,vX 3),(4,vX 4),(27,vT a)] [(3,.box [dI t.States,dR2 t.Hood,dR1 t.Nodes]),(4,.box [dI x.W,dI x.H,dI x.Gens,dI x.DX,dI x.DY,dL x.Syms])] ?_ fun Z O hf=>?_
  ·replace hm:=j18
   clear j18
   refine sr1 hn ?_
   obtain⟨y1,h3,hm⟩:=bnd hm
   simp -dsimp [c2]
   refine bg (c_pattern_Right p y1 h3) (dkL hn) ?_
   rcases bl hm with ⟨c4,hm⟩ | ⟨c4,hm⟩
   ·exact zz
   ·obtain⟨y2,h5,hm⟩:=bnd hm
    simp -dsimp [c4]
    refine dj (us':=[.u (.one (dR0 p)),.u (.one (.fn 39 [.ref (Bl.row x) 0]))]) (ck p x y2 h5) (by simp -dsimp) rfl (dkL hn) ?_
    exact zz
  ·clear j18
   simp only[Fits,bo,bn,and_true] at hf
   rcases bl hm with ⟨c6,hm⟩ | ⟨c6,hm⟩
   ·exact zz
   ·refine bi (by simp -dsimp [hf]) c6 ?_
    refine bd (b9 (ba ?_))
    refine cO bq mixed (by rw[hn]; kernel_rfl) ?_
    obtain⟨y1,h7,hm⟩:=bnd hm
    simp -dsimp [hf]
    refine bj (c_pattern_Top p y1 h7) ?_
    simp -dsimp [hf]
    rcases bl hm with ⟨c8,hm⟩ | ⟨c8,hm⟩
    ·exact zz
    ·refine bi (by simp -dsimp) c8 ?_
     refine bd (b9 ?_)
     refine srs hn ?_
     obtain⟨y2,h9,hm⟩:=bnd hm
     simp -dsimp [hf,c8]
     refine bg (fh t.States y2 h9) (dkL hn) ?_
     simp -dsimp
     refine srs hn ?_
     obtain⟨l,h10,hm⟩:=bnd hm
     obtain⟨⟨h10a,h10b,h10c⟩,rfl⟩:=mkL_some h10
     rw[Int.mul_one] at h10c
     simp -dsimp [hf,h10a,h10c]
     refine ba ?_
     refine srs hn ?_
     simp -dsimp [hf]
     refine bc ?_
     obtain⟨out,g17,hm⟩:=bnd hm
     refine bu (l_unroll_Bits_1 cx hn x p y2 g17) (by
       try dsimp only
       refine EE.here ?_
       exact zz
     ) fun ee Z O xx=>?_
     exact zz
end
def F_lower_State_1 (cx:Cx) (_l:List Bool) (tt:Int) (ee:Exit) (Z:Env) (O:Sto):Prop:=match tt with
 | n=>ee=.exit 0/\EE cx (bw [(3,vI n)] []) Z O
theorem l_lower_State_1 (cx:Cx) (hn:cx.n=23) (l:List Bool) {fu:Nat} {stt:Int×Int} {tt:Int} (hh:bh (b_lower_State_1 l) fu stt=some tt) {Z:Env} {O:Sto}
  (hE:bA (fun stt:Int×Int=>match stt with | (n,a)=>[(3,vI n),(9,.u (.one (.d (.sl 1 (List.map rB l))))),(10,vI (bf l)),(11,vI a)]) (fun stt:Int×Int=>match stt with | (_n,_a)=>[]) stt Z O):Swp Tryz.prog cx (.loop (bJ [1,1,1,0,1,0,0] (bv Tryz.f42))) Z O (F_lower_State_1 cx l tt):=by
 refine bC hE hh (F_lower_State_1 cx l) ?_
 rintro⟨n,a⟩ r hm Z O hf
 simp only[Fits,bo,bn,and_true] at hf
 unfold b_lower_State_1 at hm
 dsimp only at hm
 refine srs hn ?_
 simp -dsimp [hf]
 refine ba ?_
 rcases bl hm with ⟨c2,hm⟩ | ⟨c2,hm⟩
 ·refine be (by simp -dsimp) c2 ?_
  refine bd (b9 ?_)
  obtain⟨n1,j6,hm⟩:=bnd hm
  refine scE [(3,vI n1),(9,.u (.one (.d (.sl 1 (List.map rB l))))),(10,vI (bf l)),(11,vI a)] [] ?_ fun Z O hf=>?_
  ·replace hm:=j6
   clear j6
   exact zz
  ·clear j6
   exact zz
 ·exact zz
theorem c_lower_State (l:List Bool) (r:Int) (hm:m_lower_State l=some r):PureCall Tryz.prog 42 [.u (.one (.d (.sl 1 (List.map rB l))))] (vI r):=by
 refine bK Tryz.func42 Tryz.ntmps42 fun cx hn=>?_
 unfold m_lower_State at hm
 refine srs hn ?_
 simp -dsimp
 refine ba ?_
 refine srs hn ?_
 simp -dsimp
 rcases bl hm with ⟨c1,hm⟩ | ⟨c1,hm⟩
 ·exact zz
 ·refine scf c1 ?_
  refine bd (b9 ?_)
  refine srs hn ?_
  simp -dsimp [c1]
  refine ba ?_
  refine srs hn ?_
  simp -dsimp
  refine bc ?_
  obtain⟨n,g7,hm⟩:=bnd hm
  refine bu (l_lower_State_1 cx hn l g7) (by
    try dsimp only
    exact EE.here (by simp -dsimp)
  ) fun ee Z O xx=>?_
  exact zz
end Go.Proofs.YtnkmjlncmlmnbaaGreatDoor
