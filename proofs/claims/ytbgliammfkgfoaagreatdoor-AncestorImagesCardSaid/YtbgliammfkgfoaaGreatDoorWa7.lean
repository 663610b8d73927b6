/- That the code does what the functions say (made by cc.py). -/
import Derived.Test.YtbgliammfkgfoaaGreatDoorWa5
namespace Go.Proofs.YtbgliammfkgfoaaGreatDoor
open Go.AM Go.Proofs
set_option maxRecDepth 100000
attribute [-simp] dD e6 gg Ob.wipe Ob.ren Ob.frz1
def jw (cx:Cx) (_gv:Grid) (_y3:Int) (y4:Int×(List Point)×(List Node)×Int) (y5:(List Bj)×(List (List Int))×Int) (tt:(Bi×Int×Int) ⊕ ((List (List UInt8×Tree))×Int×(List (List Int)))) (ee:Exit) (Z:Env) (O:Sto):Prop:=match tt with
 | .inl r=>ee=.ret/\EE cx (fun Z O=>∃ v,gF tb Z O Tryz.f27.results.toList=some v/\(v.frz O).free=true/\(v.frz O).wk (.tup [.agg [dI r.1.Vars,.d (.sl 1 (List.map (rS 1 (rI .i64)) r.1.Clauses))],.one (dI r.2.1),.one (dI r.2.2)])) Z O
 | .inr (mp,ah,l)=>ee=.exit 1/\EE cx (bH [(4,vX 4),(5,vI y5.2.2),(9,vX 5001)] [(4,.box [dI 0,.d .nil]),(5000,mOb .str kS (uA Tree.row) mp),(5001,.box [dI ah,.own 5002,dI y4.1,dR2 y4.2.1,dR1 y4.2.2.1,dI y4.2.2.2,.map 5000]),(5002,.row 1 26 (List.map (rS 1 (rI .i64)) l))]) Z O
set_option maxHeartbeats 1000000 in
instance l_unroll_Parents_1 (gv y3 y4 y5) {fu stt tt}:LtP (bm (jx gv y3 y4 y5) fu stt=some tt) (lp 122 stt (fun | (a,_mp,_ah,_l)=>[(3,vX 3),(4,vX 4),(5,vI y5.2.2),(9,vX 5001),(10,vX 10),(68,.u (.one (dL gv.Cells))),(69,vI (bf gv.Cells)),(70,vI a)]) (fun | (_a,mp,ah,l)=>[(3,.box [dI gv.W,dI gv.H,dI gv.Edge,dL gv.Cells]),(4,.box [dI 0,.d .nil]),(10,.box [dI ((⟨(cA .i64 y3),(cA .i64 y3),(bu .i64 gv.W (bU .i64 2 y3)),(bu .i64 gv.H (bU .i64 2 y3))⟩:Box).X),dI ((⟨(cA .i64 y3),(cA .i64 y3),(bu .i64 gv.W (bU .i64 2 y3)),(bu .i64 gv.H (bU .i64 2 y3))⟩:Box).Y),dI ((⟨(cA .i64 y3),(cA .i64 y3),(bu .i64 gv.W (bU .i64 2 y3)),(bu .i64 gv.H (bU .i64 2 y3))⟩:Box).W),dI ((⟨(cA .i64 y3),(cA .i64 y3),(bu .i64 gv.W (bU .i64 2 y3)),(bu .i64 gv.H (bU .i64 2 y3))⟩:Box).H),dR4 y5.1]),(5000,mOb .str kS (uA Tree.row) mp),(5001,.box [dI ah,.own 5002,dI y4.1,dR2 y4.2.1,dR1 y4.2.2.1,dI y4.2.2.2,.map 5000]),(5002,.row 1 26 (List.map (rS 1 (rI .i64)) l))]) (cD [1,1,1,1,1,1,1,1,0,1,0,0] (bC Tryz.f27)) fun cx=>jw cx gv y3 y4 y5 tt):=⟨fun hh cx hn Z O hE=>by
 refine bZ hE hh (jw cx gv y3 y4 y5) ?_
 rintro⟨a,mp,ah,l⟩ r hm Z O hf
 simp only[Fits,bv,bw,and_true] at hf
 unfold jx at hm
 dsimp only at hm
 refine srs hn ?_
 simp -dsimp [hf]
 refine ba ?_
 rcases bz hm with ⟨c11,hm⟩ | ⟨c11,hm⟩
 ·refine bg (by simp -dsimp) c11 ?_
  refine be (b9 (ba (bb ?_)))
  refine srs hn ?_
  obtain⟨x,h12,hm⟩:=bnd hm
  simp -dsimp [hf,c11,h12]
  refine sw_midps bE mixed [(13,14),(14,16)] [0,1,2,3,4,5,6,7,8,9,10,11,15,12,13,14,16,17] [0,1,2,3,4,5,6,7,8,9,10,11,13,14,15,12,16,17] 11 12 16 12 [[]] [[5004]] [false,true,true,true] (some (13,.box [dI 0,dI 0,dI 0,dI 0,.d .nil])) (by rw[hn]; kernel_rfl) (by dsimp only [dU,k3,adO,rnL,pmL,pk,rnO,rnG,iK,List.cons_append,List.nil_append]<;>exact rfl) (fltT_some 89 _ (by kernel_rfl) rfl rfl rfl (by simp[C.wipe])) ?_
  dsimp only [List.take,List.drop,ef,eD,gp,pk,List.cons_append,List.nil_append,List.flatten_cons,List.flatten_nil,cO,cP,List.append_nil]
  obtain⟨n,h13,hm⟩:=bnd hm
  obtain⟨n1,h14,hm⟩:=bnd hm
  obtain⟨y6,h15,hm⟩:=bnd hm
  simp -dsimp [hf,h13,h14]
  refine nj (o6 ah l y4.1 y4.2.1 y4.2.2.1 y4.2.2.2 mp (⟨⟨(⟨(cA .i64 y3),(cA .i64 y3),(bu .i64 gv.W (bU .i64 2 y3)),(bu .i64 gv.H (bU .i64 2 y3))⟩:Box).X,(⟨(cA .i64 y3),(cA .i64 y3),(bu .i64 gv.W (bU .i64 2 y3)),(bu .i64 gv.H (bU .i64 2 y3))⟩:Box).Y,(⟨(cA .i64 y3),(cA .i64 y3),(bu .i64 gv.W (bU .i64 2 y3)),(bu .i64 gv.H (bU .i64 2 y3))⟩:Box).W,(⟨(cA .i64 y3),(cA .i64 y3),(bu .i64 gv.W (bU .i64 2 y3)),(bu .i64 gv.H (bU .i64 2 y3))⟩:Box).H⟩,y5.1⟩:Bl) (⟨n,n1,1,1⟩:Box) false y6 h15) [5001,5002,5000] [5004] rfl rfl rfl (by simp -dsimp) rfl (by simp -dsimp [hf]) (by first | rfl | simp) rfl (dkL hn) rfl rfl (by simp) (by rintro _ _ ⟨⟩; simp[C.wipe]) (by simp) ?_
  simp -dsimp
  refine ba ?_
  refine srs hn ?_
  simp -dsimp
  rcases bz hm with ⟨c16,hm⟩ | ⟨c16,hm⟩
  ·exact zz
  ·refine bi (by simp -dsimp) c16 ?_
   refine be (b9 ?_)
   refine srs hn ?_
   obtain⟨x1,h17,hm⟩:=bnd hm
   simp -dsimp [c16,h17]
   refine bb ?_
   refine srs hn ?_
   simp -dsimp
   rcases bz hm with ⟨c18,hm⟩ | ⟨c18,hm⟩
   ·refine bg (by simp -dsimp) c18 ?_
    refine sr1 hn ?_
    obtain⟨u,h19,hm⟩:=bnd hm
    obtain⟨y7,h20,hm⟩:=bnd hm
    simp -dsimp [hf,c18,k8 h19 1 (rI .i64)]
    refine clg (o8 y6.2.2.2.2.2.2.1 y6.2.2.2.2.2.2.2.2 y4.1 y4.2.1 y4.2.2.1 y4.2.2.2 y6.2.2.2.2.2.2.2.1 x1.vars x y7 h20) [5001,5004,5000] [5005] (by simp -dsimp) (dkL hn) ?_
    simp -dsimp
    refine ca ?_
    refine ca ?_
    refine b9 ?_
    refine sr1 hn ?_
    simp -dsimp [hf]
    cases hm
    refine bW ?_
    refine emv 5005 5002 ?_
    exact zz
   ·refine bi (by simp -dsimp) c18 ?_
    refine srs hn ?_
    simp -dsimp [c18]
    rcases bz hm with ⟨c21,hm⟩ | ⟨c21,hm⟩
    ·refine bg (by simp -dsimp) c21 ?_
     refine sr1 hn ?_
     obtain⟨y7,h22,hm⟩:=bnd hm
     simp -dsimp [hf,c21]
     refine clg (lT y6.2.2.2.2.2.2.1 y6.2.2.2.2.2.2.2.2 y4.1 y4.2.1 y4.2.2.1 y4.2.2.2 y6.2.2.2.2.2.2.2.1 y7 h22) [5001,5004,5000] [5006] (by simp -dsimp) (dkL hn) ?_
     simp -dsimp
     refine ca ?_
     refine ca ?_
     refine b9 ?_
     refine sr1 hn ?_
     simp -dsimp [hf]
     cases hm
     refine bW ?_
     refine emv 5006 5002 ?_
     exact zz
    ·refine bi (by simp -dsimp) c21 ?_
     refine be ?_
     refine ca ?_
     refine ca ?_
     refine b9 ?_
     refine sr1 hn ?_
     simp -dsimp [hf,c21]
     cases hm
     refine bW ?_
     refine emv 5004 5002 ?_
     exact zz
 ·exact zz⟩
set_option maxHeartbeats 1000000 in
instance c_unroll_Parents (t gv r):CtP (iN t gv=some r) (bj Tryz.prog 27 [.u (.agg [dI t.States,dR2 t.Hood,dR1 t.Nodes]),.u (.agg [dI gv.W,dI gv.H,dI gv.Edge,dL gv.Cells])] (.tup [.agg [dI r.1.Vars,.d (.sl 1 (List.map (rS 1 (rI .i64)) r.1.Clauses))],.one (dI r.2.1),.one (dI r.2.2)])):=⟨fun hm=>by
 refine db Tryz.func27 Tryz.ntmps27 fun cx hn=>?_
 unfold iN at hm
 refine srs hn ?_
 simp -dsimp
 refine ba (bb ?_)
 refine srs hn ?_
 obtain⟨y,h1,hm⟩:=bnd hm
 simp -dsimp
 refine bp (CtP.pf h1) (dkL hn) ?_
 simp -dsimp
 rcases bz hm with ⟨c2,hm⟩ | ⟨c2,hm⟩
 ·exact zz
 ·refine bi (by simp -dsimp) c2 ?_
  refine srs hn ?_
  obtain⟨y1,h3,hm⟩:=bnd hm
  simp -dsimp [c2]
  refine bp (CtP.pf h3) (dkL hn) ?_
  simp -dsimp
  rcases bz hm with ⟨c4,hm⟩ | ⟨c4,hm⟩
  ·exact zz
  ·refine bi (by simp -dsimp) c4 ?_
   refine srs hn ?_
   obtain⟨y2,h5,hm⟩:=bnd hm
   simp -dsimp [c4]
   refine iF (us':=[.u (.one (dL gv.Cells)),.u (.one (.fn 49 [.ref (Tree.row t) 0]))]) (CtP.pf h5) (by simp -dsimp) rfl (dkL hn) ?_
   simp -dsimp
   rcases bz hm with ⟨c6,hm⟩ | ⟨c6,hm⟩
   ·exact zz
   ·refine bi (by simp -dsimp) c6 ?_
    refine be ?_
    refine ca ?_
    refine b9 ?_
    refine srs hn ?_
    obtain⟨y3,h7,hm⟩:=bnd hm
    simp -dsimp [c6]
    refine bp (CtP.pf h7) (dkL hn) ?_
    simp -dsimp
    refine srs hn ?_
    simp -dsimp
    refine ba ?_
    refine srs hn ?_
    simp -dsimp
    rcases bz hm with ⟨c8,hm⟩ | ⟨c8,hm⟩
    ·exact zz
    ·refine bi (by simp -dsimp) c8 ?_
     refine be (b9 ?_)
     refine srs hn ?_
     obtain⟨y4,h9,hm⟩:=bnd hm
     simp -dsimp [c8]
     refine clg (g_unroll_start t y4 h9) [] [5000,5001] (by simp -dsimp) (dkL hn) ?_
     simp -dsimp
     refine Swp.pre (Wk.own0b 5001 1 5002 1 26 [dI 0,.d .nil,dI y4.1,dR2 y4.2.1,dR1 y4.2.2.1,dI y4.2.2.2,.map 5000] (by simp -dsimp) (by rfl) (by decide) (by decide)) ?_
     refine srs hn ?_
     obtain⟨y5,h10,hm⟩:=bnd hm
     simp -dsimp
     refine clg (nX 0 [] y4.1 y4.2.1 y4.2.2.1 y4.2.2.2 [] (⟨(cA .i64 y3),(cA .i64 y3),(bu .i64 gv.W (bU .i64 2 y3)),(bu .i64 gv.H (bU .i64 2 y3))⟩:Box) y5 h10) [5001,5002,5000] [5003] (by simp -dsimp) (dkL hn) ?_
     simp -dsimp
     refine srs hn ?_
     simp -dsimp
     refine ba ?_
     refine srs hn ?_
     simp -dsimp
     refine bb ?_
     obtain⟨o_,g23,hm⟩:=bnd hm
     refine bG (LtP.pf g23 cx hn) (by
       try dsimp only
       refine emv 5003 5002 ?_
       exact zz
     ) fun ee Z O xx=>?_
     rcases o_ with r | ⟨mp,ah,l⟩
     ·exact zz
     ·unfold jw at xx
      dsimp only at xx
      obtain⟨rfl,xx⟩:=xx
      refine bA ?_
      refine b9 ?_
      refine see xx fun Z O hf=>?_
      simp only[Fits,bv,bw,and_true] at hf
      refine ba ?_
      refine srs hn ?_
      obtain⟨y6,h24,hm⟩:=bnd hm
      simp -dsimp [hf]
      refine clg (jg ah l y4.1 y4.2.1 y4.2.2.1 y4.2.2.2 mp y6 h24) [5001,5002,5000] [] (by simp -dsimp [hf]) (dkL hn) ?_
      exact zz⟩
section
attribute [-simp] List.map_set List.set_set
def j1 (cx:Cx) (f:Bi) (n _bits:Int) (tt:(List Int)) (ee:Exit) (Z:Env) (O:Sto):Prop:=match tt with
 | vars=>ee=.exit 0/\EE cx (bH [(1,vI n),(3,vX 3),(6,vX 6),(8,vO 18)] [(3,.box [dI f.Vars,.d (.sl 1 (List.map (rS 1 (rI .i64)) f.Clauses))]),(6,.box [dI 0,.d .nil]),(18,.row 1 3 (List.map (rI .i64) vars))]) Z O
set_option maxHeartbeats 1000000 in
instance l_ancestor_turned_1 (f n bits) {fu stt tt}:LtP (bm (iX f n bits) fu stt=some tt) (lp 91 stt (fun | (a,_vars)=>[(1,vI n),(2,vI bits),(3,vX 3),(6,vX 6),(8,vO 18),(20,vI (bf (List.replicate n.toNat ()))),(21,vI a)]) (fun | (_a,vars)=>[(3,.box [dI f.Vars,.d (.sl 1 (List.map (rS 1 (rI .i64)) f.Clauses))]),(6,.box [dI 0,.d .nil]),(18,.row 1 3 (List.map (rI .i64) vars))]) (cD [1,1,0,1,0,0] (bC Tryz.f34)) fun cx=>j1 cx f n bits tt):=⟨fun hh cx hn Z O hE=>by
 refine bZ hE hh (j1 cx f n bits) ?_
 rintro⟨a,vars⟩ r hm Z O hf
 simp only[Fits,bv,bw,and_true] at hf
 unfold iX at hm
 dsimp only at hm
 refine srs hn ?_
 simp -dsimp [hf]
 refine ba ?_
 rcases bz hm with ⟨c2,hm⟩ | ⟨c2,hm⟩
 ·refine bg (by simp -dsimp) c2 ?_
  refine be (b9 (ba (bb ?_)))
  refine srs hn ?_
  simp -dsimp [hf,c2]
  refine sw_drN bE mixed 14 (by rw[hn]; kernel_rfl) ?_
  dsimp only [List.take,List.drop]
  obtain⟨n1,h3,hm⟩:=bnd hm
  obtain⟨n2,h4,hm⟩:=bnd hm
  obtain⟨x,h5,hm⟩:=bnd hm
  simp -dsimp [hf,h3,h4,h5,bV h5,mJ .i64 vars a.toNat (bK .i64 (bK .i64 (bu .i64 (bU .i64 n1 bits) bits) 1) n2)]
  refine ca ?_
  refine b9 ?_
  refine sr1 hn ?_
  simp -dsimp [hf]
  cases hm
  refine bW ?_
  exact EE.here (by simp -dsimp [hf])
 ·exact zz⟩
def ja (cx:Cx) (f:Bi) (n:Int) (vars:List Int) (a:Int) (l1:List (List Int)) (_x:List Int) (tt:(List Int)) (ee:Exit) (Z:Env) (O:Sto):Prop:=match tt with
 | l3=>ee=.exit 4/\EE cx (bH [(1,vI n),(6,vX 6),(8,vO 18),(10,vX 10),(13,vO 52),(44,.u (.one (.d (.sl 1 (List.map (rS 1 (rI .i64)) f.Clauses))))),(45,vI (bf f.Clauses)),(46,vI a)] [(6,.box [dI 0,.d .nil]),(10,.box [dI f.Vars,.own 5000]),(18,.row 1 3 (List.map (rI .i64) vars)),(52,.row 1 3 (List.map (rI .i64) l3)),(5000,.row 1 26 (List.map (rS 1 (rI .i64)) l1))]) Z O
set_option maxHeartbeats 1000000 in
instance l_ancestor_turned_3 (f n vars a l1 x) {fu stt tt}:LtP (bm (jc f n vars a l1 x) fu stt=some tt) (lp 91 stt (fun | (a1,_l3)=>[(1,vI n),(6,vX 6),(8,vO 18),(10,vX 10),(13,vO 52),(44,.u (.one (.d (.sl 1 (List.map (rS 1 (rI .i64)) f.Clauses))))),(45,vI (bf f.Clauses)),(46,vI a),(53,.u (.one (dL x))),(54,vI (bf x)),(55,vI a1)]) (fun | (_a1,l3)=>[(6,.box [dI 0,.d .nil]),(10,.box [dI f.Vars,.own 5000]),(18,.row 1 3 (List.map (rI .i64) vars)),(52,.row 1 3 (List.map (rI .i64) l3)),(5000,.row 1 26 (List.map (rS 1 (rI .i64)) l1))]) (cD [1,1,1,1,0,1,0,0,1,1,0,0,1,1,0,1,0,0] (bC Tryz.f34)) fun cx=>ja cx f n vars a l1 x tt):=⟨fun hh cx hn Z O hE=>by
 refine bZ hE hh (ja cx f n vars a l1 x) ?_
 rintro⟨a1,l3⟩ r hm Z O hf
 simp only[Fits,bv,bw,and_true] at hf
 unfold jc at hm
 dsimp only at hm
 refine srs hn ?_
 simp -dsimp [hf]
 refine ba ?_
 rcases bz hm with ⟨c10,hm⟩ | ⟨c10,hm⟩
 ·refine bg (by simp -dsimp) c10 ?_
  refine be (b9 (ba (bb ?_)))
  refine srs hn ?_
  obtain⟨x1,h11,hm⟩:=bnd hm
  simp -dsimp [hf,c10,h11]
  refine srs hn ?_
  simp -dsimp
  obtain⟨v,j17,hm⟩:=bnd hm
  refine scE [(1,vI n),(6,vX 6),(8,vO 18),(10,vX 10),(13,vO 52),(14,vI a1),(15,vI x1),(16,vI v),(44,.u (.one (.d (.sl 1 (List.map (rS 1 (rI .i64)) f.Clauses))))),(45,vI (bf f.Clauses)),(46,vI a),(53,.u (.one (dL x))),(54,vI (bf x)),(55,vI a1)] [(6,.box [dI 0,.d .nil]),(10,.box [dI f.Vars,.own 5000]),(18,.row 1 3 (List.map (rI .i64) vars)),(52,.row 1 3 (List.map (rI .i64) l3)),(5000,.row 1 26 (List.map (rS 1 (rI .i64)) l1))] ?_ fun Z O hf=>?_
  ·replace hm:=j17
   clear j17
   refine srs hn ?_
   simp -dsimp [hf]
   rcases bz hm with ⟨c12,hm⟩ | ⟨c12,hm⟩
   ·refine bg (by simp -dsimp) c12 ?_
    refine sr1 hn ?_
    obtain⟨x2,h13,hm⟩:=bnd hm
    simp -dsimp [hf,c12,h13,bV h13]
    cases hm
    exact EE.here (by simp -dsimp [hf])
   ·refine bi (by simp -dsimp) c12 ?_
    refine be (b9 ?_)
    cases hm
    exact EE.here (by simp -dsimp [hf,c12])
  ·clear j17
   simp only[Fits,bv,bw,and_true] at hf
   obtain⟨v1,j16,hm⟩:=bnd hm
   refine scE [(1,vI n),(6,vX 6),(8,vO 18),(10,vX 10),(13,vO 52),(14,vI a1),(16,vI v1),(44,.u (.one (.d (.sl 1 (List.map (rS 1 (rI .i64)) f.Clauses))))),(45,vI (bf f.Clauses)),(46,vI a),(53,.u (.one (dL x))),(54,vI (bf x)),(55,vI a1)] [(6,.box [dI 0,.d .nil]),(10,.box [dI f.Vars,.own 5000]),(18,.row 1 3 (List.map (rI .i64) vars)),(52,.row 1 3 (List.map (rI .i64) l3)),(5000,.row 1 26 (List.map (rS 1 (rI .i64)) l1))] ?_ fun Z O hf=>?_
   ·replace hm:=j16
    clear j16
    exact zz
   ·clear j16
    simp only[Fits,bv,bw,and_true] at hf
    refine sr1 hn ?_
    obtain⟨x2,h15,hm⟩:=bnd hm
    simp -dsimp [hf,h15,bV h15,mJ .i64 l3 a1.toNat v1]
    refine ca ?_
    refine b9 ?_
    refine sr1 hn ?_
    simp -dsimp [hf]
    cases hm
    refine bW ?_
    exact EE.here (by simp -dsimp [hf])
 ·exact zz⟩
def iY (cx:Cx) (f:Bi) (_n:Int) (vars:List Int) (tt:(List (List Int))) (ee:Exit) (Z:Env) (O:Sto):Prop:=match tt with
 | l1=>ee=.exit 2/\EE cx (bH [(6,vX 6),(8,vO 18),(10,vX 10)] [(6,.box [dI 0,.d .nil]),(10,.box [dI f.Vars,.own 5000]),(18,.row 1 3 (List.map (rI .i64) vars)),(5000,.row 1 26 (List.map (rS 1 (rI .i64)) l1))]) Z O
set_option maxHeartbeats 1000000 in
instance l_ancestor_turned_2 (f n vars) {fu stt tt}:LtP (bm (j0 f n vars) fu stt=some tt) (lp 91 stt (fun | (a,_l1)=>[(1,vI n),(6,vX 6),(8,vO 18),(10,vX 10),(44,.u (.one (.d (.sl 1 (List.map (rS 1 (rI .i64)) f.Clauses))))),(45,vI (bf f.Clauses)),(46,vI a)]) (fun | (_a,l1)=>[(6,.box [dI 0,.d .nil]),(10,.box [dI f.Vars,.own 5000]),(18,.row 1 3 (List.map (rI .i64) vars)),(5000,.row 1 26 (List.map (rS 1 (rI .i64)) l1))]) (cD [1,1,1,1,0,1,0,0] (bC Tryz.f34)) fun cx=>iY cx f n vars tt):=⟨fun hh cx hn Z O hE=>by
 refine bZ hE hh (iY cx f n vars) ?_
 rintro⟨a,l1⟩ r hm Z O hf
 simp only[Fits,bv,bw,and_true] at hf
 unfold j0 at hm
 dsimp only at hm
 refine srs hn ?_
 simp -dsimp [hf]
 refine ba ?_
 rcases bz hm with ⟨c7,hm⟩ | ⟨c7,hm⟩
 ·refine bg (by simp -dsimp) c7 ?_
  refine be (b9 (ba (bb ?_)))
  refine srs hn ?_
  obtain⟨x,h8,hm⟩:=bnd hm
  simp -dsimp [hf,c7,h8]
  refine srs hn ?_
  obtain⟨l2,h9,hm⟩:=bnd hm
  obtain⟨⟨h9a,h9b,h9c⟩,rfl⟩:=mC h9
  simp -dsimp [h9a,h9c]
  refine ba ?_
  refine srs hn ?_
  simp -dsimp
  refine bb ?_
  obtain⟨l3,g18,hm⟩:=bnd hm
  refine bG (LtP.pf g18 cx hn) (by
    try dsimp only
    refine EE.here ?_
    exact zz
  ) fun ee Z O xx=>?_
  unfold ja at xx
  dsimp only at xx
  obtain⟨rfl,xx⟩:=xx
  refine bA ?_
  refine b9 ?_
  refine see xx fun Z O hf=>?_
  simp only[Fits,bv,bw,and_true] at hf
  refine Swp.pre (Wk.frz 52 1 3 (List.map (rI .i64) l3) (by simp -dsimp [hf])) ?_
  refine sr1 hn ?_
  obtain⟨l4,h19,hm⟩:=bnd hm
  obtain⟨h19a,h19e⟩:=bL h19
  replace h19e:=h19e.symm
  subst h19e
  try simp only[List.length_cons,List.length_nil,Nat.zero_add] at h19a
  simp -dsimp [hf,h19a]
  refine ca ?_
  refine b9 ?_
  refine sr1 hn ?_
  simp -dsimp [hf]
  cases hm
  refine bW ?_
  refine emv 86 5000 ?_
  exact zz
 ·exact zz⟩
set_option maxHeartbeats 1000000 in
instance c_ancestor_turned (f n bits r):CtP (jZ f n bits=some r) (bj Tryz.prog 34 [.u (.agg [dI f.Vars,.d (.sl 1 (List.map (rS 1 (rI .i64)) f.Clauses))]),vI n,vI bits] (.tup [.agg [dI r.1.Vars,.d (.sl 1 (List.map (rS 1 (rI .i64)) r.1.Clauses))],.one (dL r.2)])):=⟨fun hm=>by
 refine db Tryz.func34 Tryz.ntmps34 fun cx hn=>?_
 unfold jZ at hm
 refine srs hn ?_
 simp -dsimp
 refine srs hn ?_
 obtain⟨l,h1,hm⟩:=bnd hm
 obtain⟨⟨h1a,h1b,h1c⟩,rfl⟩:=mC h1
 simp -dsimp [h1a,h1c]
 refine ba ?_
 refine srs hn ?_
 simp -dsimp
 refine bb ?_
 obtain⟨vars,g6,hm⟩:=bnd hm
 refine bG (LtP.pf g6 cx hn) (by
   try dsimp only
   exact EE.here (by simp -dsimp)
 ) fun ee Z O xx=>?_
 unfold j1 at xx
 dsimp only at xx
 obtain⟨rfl,xx⟩:=xx
 refine bA ?_
 refine b9 ?_
 refine see xx fun Z O hf=>?_
 simp only[Fits,bv,bw,and_true] at hf
 refine srs hn ?_
 simp -dsimp [hf]
 refine ba ?_
 refine srs hn ?_
 simp -dsimp [hf]
 refine bb ?_
 obtain⟨l1,g20,hm⟩:=bnd hm
 refine bG (LtP.pf g20 cx hn) (by
   try dsimp only
   refine EE.step (Wk.own0b 10 1 5000 1 26 [dI f.Vars,.d .nil] (by simp -dsimp) (by rfl) (by decide) (by decide)) ?_
   exact zz
 ) fun ee Z O xx=>?_
 unfold iY at xx
 dsimp only at xx
 obtain⟨rfl,xx⟩:=xx
 refine bA ?_
 refine b9 ?_
 refine see xx fun Z O hf=>?_
 simp only[Fits,bv,bw,and_true] at hf
 refine srs hn ?_
 simp -dsimp [hf]
 refine bq ?_
 cases hm
 refine⟨.inr rfl,?_⟩
 exact EE.here (by simp -dsimp [hf])⟩
end
def mb (cx:Cx) (_vars:Int) (_l:List Int) (tt:Bool ⊕ Unit) (ee:Exit) (Z:Env) (O:Sto):Prop:=match tt with
 | .inl r=>ee=.ret/\EE cx (fun Z O=>∃ v,gF tb Z O Tryz.f89.results.toList=some v/\(v.frz O).free=true/\(v.frz O).wk (vT r)) Z O
 | .inr _u=>ee=.exit 0/\EE cx (bH [] []) Z O
instance l_formula_proper_1 (vars l) {fu stt tt}:LtP (bm (jC vars l) fu stt=some tt) (lp 27 stt (fun a=>[(0,vI vars),(7,.u (.one (dL l))),(8,vI (bf l)),(9,vI a)]) (fun _a=>[]) (cD [1,0,1,0,0] (bC Tryz.f89)) fun cx=>mb cx vars l tt):=⟨fun hh cx hn Z O hE=>by
 refine bZ hE hh (mb cx vars l) ?_
 rintro a r hm Z O hf
 simp only[Fits,bv,bw,and_true] at hf
 unfold jC at hm
 dsimp only at hm
 refine srs hn ?_
 simp -dsimp [hf]
 refine ba ?_
 rcases bz hm with ⟨c1,hm⟩ | ⟨c1,hm⟩
 ·refine bg (by simp -dsimp) c1 ?_
  refine be (b9 (ba (bb ?_)))
  refine srs hn ?_
  obtain⟨x,h2,hm⟩:=bnd hm
  simp -dsimp [hf,c1,h2]
  obtain⟨a1,j6,hm⟩:=bnd hm
  refine scE [(0,vI vars),(7,.u (.one (dL l))),(8,vI (bf l)),(9,vI a),(25,vT a1)] [] ?_ fun Z O hf=>?_
  ·replace hm:=j6
   clear j6
   exact zz
  ·clear j6
   exact zz
 ·exact zz⟩
instance c_formula_proper (vars l r):CtP (kD vars l=some r) (bj Tryz.prog 89 [vI vars,.u (.one (dL l))] (vT r)):=⟨fun hm=>by
 refine db Tryz.func89 Tryz.ntmps89 fun cx hn=>?_
 unfold kD at hm
 refine srs hn ?_
 simp -dsimp
 refine ba ?_
 refine srs hn ?_
 simp -dsimp
 refine bb ?_
 obtain⟨o_,g7,hm⟩:=bnd hm
 refine bG (LtP.pf g7 cx hn) (by
   try dsimp only
   exact eeh
 ) fun ee Z O xx=>?_
 rcases o_ with r | _u
 ·exact zz
 ·exact zz⟩
def nl (cx:Cx) (_f:Bi) (tt:Bool ⊕ Unit) (ee:Exit) (Z:Env) (O:Sto):Prop:=match tt with
 | .inl r=>ee=.ret/\EE cx (fun Z O=>∃ v,gF tb Z O Tryz.f56.results.toList=some v/\(v.frz O).free=true/\(v.frz O).wk (vT r)) Z O
 | .inr _u=>ee=.exit 0/\EE cx (bH [] []) Z O
instance l_formula_Right_1 (f) {fu stt tt}:LtP (bm (jP f) fu stt=some tt) (lp 32 stt (fun a1=>[(1,vX 1),(20,.u (.one (.d (.sl 1 (List.map (rS 1 (rI .i64)) f.Clauses))))),(21,vI (bf f.Clauses)),(22,vI a1)]) (fun _a1=>[(1,.box [dI f.Vars,.d (.sl 1 (List.map (rS 1 (rI .i64)) f.Clauses))])]) (cD [1,1,0,1,0,0] (bC Tryz.f56)) fun cx=>nl cx f tt):=⟨fun hh cx hn Z O hE=>by
 refine bZ hE hh (nl cx f) ?_
 rintro a1 r hm Z O hf
 simp only[Fits,bv,bw,and_true] at hf
 unfold jP at hm
 exact zz⟩
instance c_formula_Right (f r):CtP (jp f=some r) (bj Tryz.prog 56 [.u (.agg [dI f.Vars,.d (.sl 1 (List.map (rS 1 (rI .i64)) f.Clauses))])] (vT r)):=⟨fun hm=>by
 refine db Tryz.func56 Tryz.ntmps56 fun cx hn=>?_
 unfold jp at hm
 refine srs hn ?_
 simp -dsimp
 refine ba ?_
 obtain⟨a,j9,hm⟩:=bnd hm
 refine scE [(1,vX 1),(18,vT a)] [(1,.box [dI f.Vars,.d (.sl 1 (List.map (rS 1 (rI .i64)) f.Clauses))])] ?_ fun Z O hf=>?_
 ·replace hm:=j9
  clear j9
  exact zz
 ·clear j9
  simp only[Fits,bv,bw,and_true] at hf
  rcases bz hm with ⟨c3,hm⟩ | ⟨c3,hm⟩
  ·exact zz
  ·refine bi (by simp -dsimp [hf]) c3 ?_
   refine be (b9 (ba ?_))
   refine srs hn ?_
   simp -dsimp [hf]
   refine bb ?_
   obtain⟨o_,g8,hm⟩:=bnd hm
   refine bG (LtP.pf g8 cx hn) (by
     try dsimp only
     exact EE.here (by simp -dsimp [hf])
   ) fun ee Z O xx=>?_
   rcases o_ with r | _u
   ·exact zz
   ·exact zz⟩
theorem nP (l r:List Int) (hm:jL l=some r):GFn Tryz.prog 91 [vO 1000000] [.row 1 3 (List.map (rI .i64) l)] (.tup []) [some (.row 1 3 (List.map (rI .i64) r))]:=sort_gM sortL 3 hm
theorem mj (l:List Int) (r:(List Int)×Nat) (hm:iz l=some r):GFn Tryz.prog 92 [vO 1000000] [.row 1 3 (List.map (rI .i64) l)] (.u (.one (.sub 1000000 1 0 r.2))) [some (.row 1 3 (List.map (rI .i64) r.1))]:=compact_gM cmpL 3 hm
instance c_solve_engine_of (am av au ak ar x r):CtP (fN am av au ak ar x=some r) (bj Tryz.prog 93 [.u (.one (.ref [.any,.any,(.sl 1 (List.map (rI .i8) am)),(.sl 1 (List.map (rI .i64) av)),(.int .i64 au),(.sl 3 (List.map Bn.row ak)),(.bool ar)] 0)),vI x] (.u (.one (.d (.int .i8 r))))):=⟨fun hm=>by
 refine db Tryz.func93 Tryz.ntmps93 fun cx hn=>?_
 unfold fN at hm
 exact zz⟩
section
attribute [-simp] List.map_set List.set_set
theorem iA (u u1 u2:Value) (am av:List Int) (au:Int) (ar:Bool) (x:Int) (r:List Int) (hm:ec am av au ar x=some r):GFn Tryz.prog 94 [vX 1000000,vI x] [.box [.opq u,.opq u1,.own 1000001,.own 1000002,dI au,.opq u2,.d (.bool ar)],.row 1 137 (List.map (rI .i8) am),.row 1 3 (List.map (rI .i64) av)] (.tup []) [some (.box [.opq u,.opq u1,.own 1000001,.own 1000003,dI au,.opq u2,.d (.bool ar)]),some (.row 1 137 (List.map (rI .i8) r)),none,some (.row 1 3 (List.map (rI .i64) (av++[x])))]:=by
 refine bY bE _ Tryz.func94 rfl (by kernel_rfl) (by simp[Tryz.ntmps94]) (by simp) (by first | rfl | simp) (by first | rfl | simp) fun cx hn hk=>?_
 replace hn:cx.n=29:=hn.trans Tryz.ntmps94
 replace hk:cx.k=3:=hk
 unfold ec at hm
 obtain⟨l,j5,hm⟩:=bnd hm
 refine scE [(0,vX 1000000),(1,vI x)] [(1000000,.box [.opq u,.opq u1,.own 1000001,.own 1000002,dI au,.opq u2,.d (.bool ar)]),(1000001,.row 1 137 (List.map (rI .i8) l)),(1000002,.row 1 3 (List.map (rI .i64) av))] ?_ fun Z O hf=>?_
 ·replace hm:=j5
  clear j5
  refine srs hn ?_
  simp -dsimp
  rcases bz hm with ⟨c1,hm⟩ | ⟨c1,hm⟩
  ·refine sct c1 ?_
   refine sr1 hn ?_
   obtain⟨x1,h2,hm⟩:=bnd hm
   simp -dsimp [c1,h2,bV h2,mJ .i8 am x.toNat 1]
   cases hm
   exact EE.here (by simp -dsimp)
  ·refine scf c1 ?_
   refine sr1 hn ?_
   obtain⟨x1,h3,hm⟩:=bnd hm
   simp -dsimp [c1,h3,bV h3,mJ .i8 am (cA .i64 x).toNat (-1)]
   cases hm
   exact EE.here (by simp -dsimp)
 ·clear j5
  simp only[Fits,bv,bw,and_true] at hf
  refine sr1 hn ?_
  obtain⟨l1,h4,hm⟩:=bnd hm
  obtain⟨h4a,h4e⟩:=bL h4
  replace h4e:=h4e.symm
  subst h4e
  try simp only[List.length_cons,List.length_nil,Nat.zero_add] at h4a
  simp -dsimp [hf,h4a]
  cases hm
  try refine⟨.inl rfl,?_⟩
  refine emr 26 1000003 hk ?_
  exact zz
end
end Go.Proofs.YtbgliammfkgfoaaGreatDoor
namespace Go.Proofs.YtbgliammfkgfoaaGreatDoor
open Go.AM Go.Proofs
set_option maxRecDepth 100000
attribute [-simp] dD e6 gg Ob.wipe Ob.ren Ob.frz1
section
attribute [-simp] List.map_take List.length_take
def gh (cx:Cx) (f:Bi) (a:Int) (l1:List Int) (ar:Bool) (l2:List (List Int)) (l3:List Int) (y2:(List Int)×Nat) (_u:Unit) (tt:(List (Int×List Int))) (ee:Exit) (Z:Env) (O:Sto):Prop:=match tt with
 | mp1=>ee=.exit 3/\EE cx (bH [(3,vX 16),(18,.u (.one (.d (.sl 1 (List.map (rS 1 (rI .i64)) f.Clauses))))),(19,vI (bf f.Clauses)),(20,vI a)] [(10,bX (.int .i64) kI (rI .i64) 3 1 ([]:List (Int×Nat)) mp1),(14,.row 1 137 (List.map (rI .i8) l1)),(16,.box [.own 44,.map 10,.own 14,.own 5001,dI 0,.own 5002,.d (.bool ar)]),(44,.nest (.row 26) 3 1 (du (rI .i64) (l2++[(y2.1.take y2.2)]))),(5001,.row 1 3 (List.map (rI .i64) l3)),(5002,.row 3 142 (List.map Bn.row []))]) Z O
set_option maxHeartbeats 1000000 in
theorem l_solve_newEngine_2 (cx:Cx) (hn:cx.n=98) (_hk:cx.k=0) (f:Bi) (a:Int) (l1:List Int) (ar:Bool) (l2:List (List Int)) (l3:List Int) (y2:(List Int)×Nat) (u:Unit) {fu:Nat} {stt:Int×(List (Int×List Int))} {tt:(List (Int×List Int))} (hh:bm (jb f a l1 ar l2 l3 y2 u) fu stt=some tt) {Z:Env} {O:Sto}
  (hE:eh (fun stt:Int×(List (Int×List Int))=>match stt with | (a1,_mp1)=>[(3,vX 16),(7,vI (bf l2)),(18,.u (.one (.d (.sl 1 (List.map (rS 1 (rI .i64)) f.Clauses))))),(19,vI (bf f.Clauses)),(20,vI a),(48,.u (.one (.sub 5003 1 0 2))),(49,vI (lenP 0 2)),(50,vI a1)]) (fun stt:Int×(List (Int×List Int))=>match stt with | (_a1,mp1)=>[(10,bX (.int .i64) kI (rI .i64) 3 1 ([]:List (Int×Nat)) mp1),(14,.row 1 137 (List.map (rI .i8) l1)),(16,.box [.own 44,.map 10,.own 14,.own 5001,dI 0,.own 5002,.d (.bool ar)]),(44,.nest (.row 26) 3 1 ((du (rI .i64) (l2++[(y2.1.take y2.2)])).set (bf l2).toNat (.own 5003))),(5001,.row 1 3 (List.map (rI .i64) l3)),(5002,.row 3 142 (List.map Bn.row [])),(5003,.row 1 3 (List.map (rI .i64) (y2.1.take y2.2)))]) stt Z O):Swp Tryz.prog cx (.loop (cD [1,1,0,1,0,0,1,1,0,0,1,1,1,1,1,0,1,1,1,1,1,1,1,0,0] (bC Tryz.f57))) Z O (gh cx f a l1 ar l2 l3 y2 u tt):=by
 refine bZ hE hh (gh cx f a l1 ar l2 l3 y2 u) ?_
 rintro⟨a1,mp1⟩ r hm Z O hf
 simp only[Fits,bv,bw,and_true] at hf
 unfold jb at hm
 dsimp only at hm
 refine srs hn ?_
 simp -dsimp [hf]
 refine ba ?_
 rcases bz hm with ⟨c16,hm⟩ | ⟨c16,hm⟩
 ·refine bg (by simp -dsimp) c16 ?_
  refine be (b9 (ba (bb ?_)))
  refine srs hn ?_
  obtain⟨x1,h17,hm⟩:=bnd hm
  simp -dsimp [hf,c16,(idxP_ok0 h17).1,(idxP_ok0 h17).2]
  obtain⟨u1,h18,hm⟩:=bnd hm
  obtain⟨l5,h19,hm⟩:=bnd hm
  obtain⟨h19a,h19e⟩:=bL h19
  replace h19e:=h19e.symm
  subst h19e
  try simp only[List.length_cons,List.length_nil,Nat.zero_add] at h19a
  refine Swp.pre (Wk.focM (kk:=(.int .i64)) (kf:=kI) (f:=(rI .i64)) (ie:=3) (sz:=1) (H:=([]:List (Int×Nat))) (m:=mp1) 10 64 x1 (by simp -dsimp [hf]) (by simp[kI,Key.fits,jq h18 (.head _)]) (by simp) (by simp) (by decide) (by decide)) ?_
  refine oT bE mixed 13 14 14 0 [[0,1,2,3,4]] [[67]] [] none (by rw[hn]; kernel_rfl) cN ?_
  dsimp only [List.take,List.drop,ef,eD,gp,pk,List.cons_append,List.nil_append,List.flatten_cons,List.flatten_nil,cO,cP,List.append_nil]
  simp -dsimp [hf,jq h18 (.head _),(@id (lknD tb (.map 3 26) (.int .i64 x1) (some (bX (.int .i64) kI (rI .i64) 3 1 [(x1,64)] (iQ mp1 x1)))=some (vO 64)) (lknD_mN (kf:=kI) 3 26 x1 64 (jF x1) (hlk_hd _ _) rfl (jq h18 (.head _)) rfl rfl)),h19a,(@id (∀ (Z:Env) (O:Sto) (u:U),msO tb Z O 10 3 (.int .i64 x1) u (some (bX (.int .i64) kI (rI .i64) 3 1 [(x1,64)] (iQ mp1 x1)))=msN (tb.key 3=some (.int .i64)/\Key.fits (.int .i64) (.int .i64 x1)=true/\cH (iQ mp1 x1) x1=true) (neC u) (.int .i64) kI (rI .i64) 3 1 [(x1,64)] (iQ mp1 x1) x1 Z O 10) (fun Z O u=>mN_ms (tb:=tb) (Z:=Z) (O:=O) (kf:=kI) 10 3 x1 u))]
  refine ca ?_
  refine b9 ?_
  refine Swp.pre (Wk.setM (kk:=(.int .i64)) (kf:=kI) (f:=(rI .i64)) (ie:=3) (sz:=1) (H:=([]:List (Int×Nat))) (m:=(iQ mp1 x1)) 10 64 67 x1 (by simp -dsimp) (by simp)) ?_
  refine Swp.pre (Wk.unfM (kk:=(.int .i64)) (kf:=kI) (f:=(rI .i64)) (ie:=3) (sz:=1) (H:=([]:List (Int×Nat))) (m:=(iQ mp1 x1)) 10 67 x1 ((fe mp1 x1 [])++[(bf l2)]) (by simp) (by simp) (by simp) (by simp) (by simp -dsimp) (by decide)) ?_
  exact zz
 ·refine bi (by simp -dsimp) c16 ?_
  refine gR ?_
  refine cw ?_
  cases hm
  refine jG nofun ?_
  unfold gh
  dsimp only
  refine⟨rfl,?_⟩
  refine EE.step (Wk.unfS 44 5003 (.row 26) 3 1 (rI .i64) (l2++[(y2.1.take y2.2)]) (y2.1.take y2.2) (by simp -dsimp [hf]) (idx_snoc l2 (y2.1.take y2.2)) (by simp -dsimp [hf]) (by decide)) ?_
  exact zz
def iW (cx:Cx) (_f:Bi) (tt:((List (Int×List Int))×(List Int)×Bool×(List (List Int))×(List Int))) (ee:Exit) (Z:Env) (O:Sto):Prop:=match tt with
 | (mp,l1,ar,l2,l3)=>ee=.exit 0/\EE cx (bH [(3,vX 16)] [(10,bX (.int .i64) kI (rI .i64) 3 1 ([]:List (Int×Nat)) mp),(14,.row 1 137 (List.map (rI .i8) l1)),(16,.box [.own 5000,.map 10,.own 14,.own 5001,dI 0,.own 5002,.d (.bool ar)]),(5000,.nest (.row 26) 3 1 (du (rI .i64) l2)),(5001,.row 1 3 (List.map (rI .i64) l3)),(5002,.row 3 142 (List.map Bn.row []))]) Z O
set_option maxHeartbeats 1000000 in
theorem l_solve_newEngine_1 (cx:Cx) (hn:cx.n=98) (hk:cx.k=0) (f:Bi) {fu:Nat} {stt:Int×(List (Int×List Int))×(List Int)×Bool×(List (List Int))×(List Int)} {tt:((List (Int×List Int))×(List Int)×Bool×(List (List Int))×(List Int))} (hh:bm (iV f) fu stt=some tt) {Z:Env} {O:Sto}
  (hE:eh (fun stt:Int×(List (Int×List Int))×(List Int)×Bool×(List (List Int))×(List Int)=>match stt with | (a,_mp,_l1,_ar,_l2,_l3)=>[(3,vX 16),(18,.u (.one (.d (.sl 1 (List.map (rS 1 (rI .i64)) f.Clauses))))),(19,vI (bf f.Clauses)),(20,vI a)]) (fun stt:Int×(List (Int×List Int))×(List Int)×Bool×(List (List Int))×(List Int)=>match stt with | (_a,mp,l1,ar,l2,l3)=>[(10,bX (.int .i64) kI (rI .i64) 3 1 ([]:List (Int×Nat)) mp),(14,.row 1 137 (List.map (rI .i8) l1)),(16,.box [.own 5000,.map 10,.own 14,.own 5001,dI 0,.own 5002,.d (.bool ar)]),(5000,.nest (.row 26) 3 1 (du (rI .i64) l2)),(5001,.row 1 3 (List.map (rI .i64) l3)),(5002,.row 3 142 (List.map Bn.row []))]) stt Z O):Swp Tryz.prog cx (.loop (cD [1,1,0,1,0,0] (bC Tryz.f57))) Z O (iW cx f tt):=by
 refine bZ hE hh (iW cx f) ?_
 rintro⟨a,mp,l1,ar,l2,l3⟩ r hm Z O hf
 simp only[Fits,bv,bw,and_true] at hf
 unfold iV at hm
 dsimp only at hm
 refine srs hn ?_
 simp -dsimp [hf]
 refine ba ?_
 rcases bz hm with ⟨c2,hm⟩ | ⟨c2,hm⟩
 ·refine bg (by simp -dsimp) c2 ?_
  refine be (b9 (ba (bb ?_)))
  refine srs hn ?_
  obtain⟨x,h3,hm⟩:=bnd hm
  simp -dsimp [hf,c2,h3]
  refine srs hn ?_
  obtain⟨y,h4,hm⟩:=bnd hm
  simp -dsimp
  refine callL_new (d7 x y h4) (dkL hn) (by decide) ?_
  simp -dsimp
  refine srs hn ?_
  obtain⟨y1,h5,hm⟩:=bnd hm
  simp -dsimp
  refine clg (nP y y1 h5) [25] [] (by simp -dsimp) (dkL hn) ?_
  simp -dsimp
  refine srs hn ?_
  obtain⟨y2,h6,hm⟩:=bnd hm
  simp -dsimp
  refine clg (mj y1 y2 h6) [25] [] (by simp -dsimp) (dkL hn) ?_
  simp -dsimp
  refine Swp.pre (Wk.cutE 6 25 5003 y2.2 1 1 3 (List.map (rI .i64) y2.1) (by simp -dsimp) (by simp -dsimp) (by simp -dsimp [(cmpIM_le h6)]) (by decide) (by decide) (by rw[hn]; decide)) ?_
  refine srs hn ?_
  simp -dsimp [<- List.map_take]
  refine bb ?_
  refine srs hn ?_
  simp -dsimp
  rcases bz hm with ⟨c7,hm⟩ | ⟨c7,hm⟩
  ·exact zz
  ·refine bi (by simp -dsimp) c7 ?_
   refine srs hn ?_
   simp -dsimp [c7]
   rcases bz hm with ⟨c8,hm⟩ | ⟨c8,hm⟩
   ·refine bg (by simp -dsimp) c8 ?_
    refine srs hn ?_
    obtain⟨x1,h9,hm⟩:=bnd hm
    obtain⟨y3,h10,hm⟩:=bnd hm
    simp -dsimp [hf,c8,h9,lx 0 h9]
    refine iF (us':=[.u (.one (.ref [.any,.any,(.sl 1 (List.map (rI .i8) l1)),(.sl 1 (List.map (rI .i64) l3)),(.int .i64 0),(.sl 3 (List.map Bn.row [])),(.bool ar)] 0)),vI x1]) (CtP.pf h10) (by simp -dsimp [hf]) rfl (dkL hn) ?_
    simp -dsimp
    rcases bz hm with ⟨c11,hm⟩ | ⟨c11,hm⟩
    ·exact zz
    ·refine bi (by simp -dsimp) c11 ?_
     refine srs hn ?_
     simp -dsimp [hf,h9,lx 0 h9,c11]
     refine iF (us':=[.u (.one (.ref [.any,.any,(.sl 1 (List.map (rI .i8) l1)),(.sl 1 (List.map (rI .i64) l3)),(.int .i64 0),(.sl 3 (List.map Bn.row [])),(.bool ar)] 0)),vI x1]) (CtP.pf h10) (by simp -dsimp [hf]) rfl (dkL hn) ?_
     simp -dsimp
     rcases bz hm with ⟨c12,hm⟩ | ⟨c12,hm⟩
     ·refine bg (by simp -dsimp) c12 ?_
      refine sr1 hn ?_
      obtain⟨y4,h13,hm⟩:=bnd hm
      simp -dsimp [hf,h9,lx 0 h9,c12]
      refine kP (us:=[vX 1000000,vI x1]) (v:=.tup []) (ts:=[.h (.own 5000),.h (.map 10),.c (.own 1000001),.c (.own 1000002),.c (dI 0),.h (.own 5002),.c (.d (.bool ar))]) (ots:=[.h (.own 5000),.h (.map 10),.c (.own 1000001),.c (.own 1000003),.c (dI 0),.h (.own 5002),.c (.d (.bool ar))]) (ins:=[.row 1 137 (List.map (rI .i8) l1),.row 1 3 (List.map (rI .i64) l3)]) (outs:=[some (.row 1 137 (List.map (rI .i8) y4)),none,some (.row 1 3 (List.map (rI .i64) (l3++[x1])))]) (fun xs hx=>by obtain⟨xo0,xo1,xo2,rfl⟩:=len3 hx; exact (iA xo0 xo1 xo2 l1 l3 0 ar x1 y4 h13)) 16 [14,5001] [5004] rfl rfl rfl (by simp -dsimp) rfl (by simp -dsimp [hf,hrl]) (by simp -dsimp [hf]) rfl rfl rfl rfl rfl (dkL hn) ?_
      simp -dsimp
      refine ca ?_
      refine ca ?_
      refine b9 ?_
      refine sr1 hn ?_
      simp -dsimp [hf]
      cases hm
      refine bW ?_
      refine emv 5004 5001 ?_
      exact zz
     ·exact zz
   ·refine bi (by simp -dsimp) c8 ?_
    refine srs hn ?_
    simp -dsimp [hf,c8]
    refine sw_regNs bE 6 (by rw[hn]; kernel_rfl) ?_
    dsimp only [List.take,List.drop]
    obtain⟨l4,h14,hm⟩:=bnd hm
    obtain⟨h14a,h14e⟩:=bL h14
    clear h14e
    simp only[List.length_cons,List.length_nil,Nat.zero_add] at h14a
    simp -dsimp [hf,h14a,(@id (du (rI .i64) l2++[NE.own 5003]=(du (rI .i64) (l2++[(y2.1.take y2.2)])).set (bf l2).toNat (.own 5003)) (nels_snoc (rI .i64) l2 (y2.1.take y2.2) 5003))]
    refine srs hn ?_
    obtain⟨u,h15,hm⟩:=bnd hm
    simp -dsimp [kQ h15]
    refine bb ?_
    obtain⟨mp1,g20,hm⟩:=bnd hm
    refine bG (l_solve_newEngine_2 cx hn hk f a l1 ar l2 l3 y2 u g20) (by
      try dsimp only
      refine EE.here ?_
      exact zz
    ) fun ee Z O xx=>?_
    unfold gh at xx
    dsimp only at xx
    obtain⟨rfl,xx⟩:=xx
    refine bA ?_
    refine ca ?_
    refine ca ?_
    refine b9 ?_
    refine see xx fun Z O hf=>?_
    simp only[Fits,bv,bw,and_true] at hf
    refine sr1 hn ?_
    simp -dsimp [hf]
    cases hm
    refine bW ?_
    refine emv 44 5000 ?_
    exact zz
 ·exact zz
set_option maxHeartbeats 1000000 in
theorem nf (f:Bi) (r:(List (Int×List Int))×(List Int)×Bool×(List (List Int))×(List Int)) (hm:ia f=some r):GFn Tryz.prog 57 [.u (.agg [dI f.Vars,.d (.sl 1 (List.map (rS 1 (rI .i64)) f.Clauses))])] [] (vX 1000002) [some (bX (.int .i64) kI (rI .i64) 3 1 ([]:List (Int×Nat)) r.1),some (.row 1 137 (List.map (rI .i8) r.2.1)),some (.box [.own 1000003,.map 1000000,.own 1000001,.own 1000004,dI 0,.own 1000005,.d (.bool r.2.2.1)]),some (.nest (.row 26) 3 1 (du (rI .i64) r.2.2.2.1)),some (.row 1 3 (List.map (rI .i64) r.2.2.2.2)),some (.row 3 142 (List.map Bn.row []))]:=by
 refine bY bE _ Tryz.func57 rfl (by kernel_rfl) (by simp[Tryz.ntmps57]) (by simp) (by first | rfl | simp) (by first | rfl | simp) fun cx hn hk=>?_
 replace hn:cx.n=98:=hn.trans Tryz.ntmps57
 replace hk:cx.k=0:=hk
 unfold ia at hm
 refine srs hn ?_
 simp -dsimp
 refine srs hn ?_
 obtain⟨l,h1,hm⟩:=bnd hm
 obtain⟨⟨h1a,h1b,h1c⟩,rfl⟩:=mC h1
 rw[Int.mul_one] at h1c
 simp -dsimp [h1a,h1c]
 refine Swp.pre (Wk.own0b 16 0 5000 1 26 [.d .nil,.map 10,.own 14,.d .nil,dI 0,.d .nil,.d (.bool false)] (by simp -dsimp) (by rfl) (by decide) (by decide)) ?_
 refine Swp.pre (Wk.toN 5000 26 3 1 (rI .i64) 0 (by simp -dsimp) (by decide)) ?_
 refine Swp.pre (Wk.own0b 16 3 5001 1 3 [.own 5000,.map 10,.own 14,.d .nil,dI 0,.d .nil,.d (.bool false)] (by simp -dsimp) (by rfl) (by decide) (by decide)) ?_
 refine Swp.pre (Wk.own0b 16 5 5002 3 142 [.own 5000,.map 10,.own 14,.own 5001,dI 0,.d .nil,.d (.bool false)] (by simp -dsimp) (by rfl) (by decide) (by decide)) ?_
 refine Swp.pre (Wk.toNM 10 (.int .i64) kI (rI .i64) 3 1 (by simp -dsimp) (by decide)) ?_
 refine ba ?_
 refine srs hn ?_
 simp -dsimp
 refine bb ?_
 obtain⟨⟨mp,l1,ar,l2,l3⟩,g21,hm⟩:=bnd hm
 refine bG (l_solve_newEngine_1 cx hn hk f g21) (by
   try dsimp only
   refine EE.here ?_
   exact zz
 ) fun ee Z O xx=>?_
 unfold iW at xx
 dsimp only at xx
 obtain⟨rfl,xx⟩:=xx
 refine bA ?_
 refine b9 ?_
 refine see xx fun Z O hf=>?_
 simp only[Fits,bv,bw,and_true] at hf
 refine srs hn ?_
 simp -dsimp [hf]
 refine bq ?_
 cases hm
 refine⟨.inr rfl,?_⟩
 refine emr 10 1000000 hk ?_
 refine emr 14 1000001 hk ?_
 refine emr 16 1000002 hk ?_
 refine emr 5000 1000003 hk ?_
 refine emr 5001 1000004 hk ?_
 refine emr 5002 1000005 hk ?_
 exact zz
end
instance c_solve_engine_visit_1 (y aW b2 b5 aP abad r):CtP (gJ y aW b2 b5 aP abad=some r) (bj Tryz.prog 146 [vI y,.u (.one (.ref [.ref [.any,.any,(.sl 1 (List.map (rI .i8) aW)),(.sl 1 (List.map (rI .i64) b2)),(.int .i64 b5),(.sl 3 (List.map Bn.row aP)),(.bool abad)] 0] 0))] (vT r)):=⟨fun hm=>by
 refine db Tryz.func146 Tryz.ntmps146 fun cx hn=>?_
 unfold gJ at hm
 refine srs hn ?_
 simp -dsimp
 refine srs hn ?_
 obtain⟨y1,h1,hm⟩:=bnd hm
 simp -dsimp
 refine bp ((CtP.pf h1).nrm (by rfl)) (dkL hn) ?_
 simp -dsimp
 refine bq ?_
 cases hm
 refine⟨.inr rfl,?_⟩
 exact EE.here (by simp -dsimp)⟩
def cY (cx:Cx) (_s _aD _aJ:List Int) (_aR:Int) (_az:List Bn) (_aY:Bool) (tt:Int ⊕ Unit) (ee:Exit) (Z:Env) (O:Sto):Prop:=match tt with
 | .inl r=>ee=.ret/\EE cx (fun Z O=>∃ v,gF tb Z O Tryz.f82.results.toList=some v/\(v.frz O).free=true/\(v.frz O).wk (vI r)) Z O
 | .inr _u=>ee=.exit 0/\EE cx (bH [] []) Z O
instance l_slices_IndexFunc_int_int_solve_engine_visit_1_1 (s aD aJ aR az aY) {fu stt tt}:LtP (bm (cm s aD aJ aR az aY) fu stt=some tt) (lp 19 stt (fun a=>[(0,.u (.one (dL s))),(1,.u (.one (.fn 146 [.ref [.ref [.any,.any,(.sl 1 (List.map (rI .i8) aD)),(.sl 1 (List.map (rI .i64) aJ)),(.int .i64 aR),(.sl 3 (List.map Bn.row az)),(.bool aY)] 0] 0]))),(7,vI (bf s)),(8,vI a)]) (fun _a=>[]) (cD [1,0,1,0,0] (bC Tryz.f82)) fun cx=>cY cx s aD aJ aR az aY tt):=⟨fun hh cx hn Z O hE=>by
 refine bZ hE hh (cY cx s aD aJ aR az aY) ?_
 rintro a r hm Z O hf
 simp only[Fits,bv,bw,and_true] at hf
 unfold cm at hm
 exact zz⟩
instance c_slices_IndexFunc_int_int_solve_engine_visit_1 (s aD aJ aR az aY r):CtP (cq s aD aJ aR az aY=some r) (bj Tryz.prog 82 [.u (.one (dL s)),.u (.one (.fn 146 [.ref [.ref [.any,.any,(.sl 1 (List.map (rI .i8) aD)),(.sl 1 (List.map (rI .i64) aJ)),(.int .i64 aR),(.sl 3 (List.map Bn.row az)),(.bool aY)] 0] 0]))] (vI r)):=⟨fun hm=>by
 refine db Tryz.func82 Tryz.ntmps82 fun cx hn=>?_
 unfold cq at hm
 refine srs hn ?_
 simp -dsimp
 refine ba ?_
 refine srs hn ?_
 simp -dsimp
 refine bb ?_
 obtain⟨o_,g5,hm⟩:=bnd hm
 refine bG (LtP.pf g5 cx hn) (by
   try dsimp only
   exact eeh
 ) fun ee Z O xx=>?_
 rcases o_ with r | _u
 ·exact zz
 ·exact zz⟩
end Go.Proofs.YtbgliammfkgfoaaGreatDoor
