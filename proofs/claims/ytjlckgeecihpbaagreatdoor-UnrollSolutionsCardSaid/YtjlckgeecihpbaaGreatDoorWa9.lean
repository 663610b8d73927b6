/- That the code does what the functions say (made by cc.py). -/
import Derived.Test.YtjlckgeecihpbaaGreatDoorWa7
namespace Go.Proofs.YtjlckgeecihpbaaGreatDoor
open Go.AM Go.Proofs
set_option maxRecDepth 100000
attribute [-simp] ey eY i7 Ob.wipe Ob.ren Ob.frz1
instance c_slices_ContainsFunc_int_int_grid_Right_1 (s r):CtP (d9 s=some r) (bc Tryz.prog 39 [.u (.one (dL s)),.u (.one (.fn 67 []))] (vT r)):=⟨fun hm=>by
 refine cu Tryz.func39 Tryz.ntmps39 fun cx hn=>?_
 unfold d9 at hm
 refine srs hn ?_
 simp -dsimp
 refine srs hn ?_
 obtain⟨y,h1,hm⟩:=bnd hm
 simp -dsimp
 refine bi (CtP.pf h1) (dkL hn) ?_
 simp -dsimp
 refine bC ?_
 cases hm
 refine⟨.inr rfl,?_⟩
 exact EE.here (by simp -dsimp)⟩
instance c_grid_Right (gv r):CtP (qg gv=some r) (bc Tryz.prog 38 [.u (.agg [dI gv.W,dI gv.H,dI gv.Edge,dL gv.Cells])] (vT r)):=⟨fun hm=>by
 refine cu Tryz.func38 Tryz.ntmps38 fun cx hn=>?_
 unfold qg at hm
 refine srs hn ?_
 simp -dsimp
 obtain⟨a,j5,hm⟩:=bnd hm
 refine scE [(2,vT a)] [] ?_ fun Z O hf=>?_
 ·replace hm:=j5
  clear j5
  refine sr1 hn ?_
  obtain⟨y,h1,hm⟩:=bnd hm
  simp -dsimp
  refine bi (CtP.pf h1) (dkL hn) ?_
  rcases bz hm with ⟨c2,hm⟩ | ⟨c2,hm⟩
  ·rcases bz hm with ⟨c3,hm⟩ | ⟨c3,hm⟩
   ·obtain⟨y1,h4,hm⟩:=bnd hm
    simp -dsimp [c2,c3]
    refine bi (CtP.pf h4) (dkL hn) ?_
    simp -dsimp
    cases hm
    exact EE.here (by simp -dsimp)
   ·simp -dsimp [c2,c3]
    cases hm
    exact EE.here (by simp -dsimp)
  ·simp -dsimp [c2]
   cases hm
   exact EE.here (by simp -dsimp)
 ·clear j5
  exact zz⟩
instance c_unroll_Parents_1 (s a r):CtP (kH s a=some r) (bc Tryz.prog 40 [vI s,.u (.one (.ref (Tree.row a) 0))] (vT r)):=⟨fun hm=>by
 refine cu Tryz.func40 Tryz.ntmps40 fun cx hn=>?_
 unfold kH at hm
 refine srs hn ?_
 simp -dsimp
 refine srs hn ?_
 simp -dsimp
 refine bC ?_
 cases hm
 refine⟨.inr rfl,?_⟩
 exact EE.here (by simp -dsimp)⟩
def e6 (cx:Cx) (_s:List Int) (_cv:Tree) (tt:Int ⊕ Unit) (ee:Exit) (Z:Env) (O:Sto):Prop:=match tt with
 | .inl r=>ee=.ret/\EE cx (fun Z O=>∃ v,fC tb Z O Tryz.f68.results.toList=some v/\(v.frz O).free=true/\(v.frz O).wk (vI r)) Z O
 | .inr _u=>ee=.exit 0/\EE cx (bH [] []) Z O
instance l_slices_IndexFunc_int_int_unroll_Parents_1_1 (s cv) {fu stt tt}:LtP (ba (cQ s cv) fu stt=some tt) (lp 19 stt (fun a=>[(0,.u (.one (dL s))),(1,.u (.one (.fn 40 [.ref (Tree.row cv) 0]))),(7,vI (b8 s)),(8,vI a)]) (fun _a=>[]) (cC [1,0,1,0,0] (bD Tryz.f68)) fun cx=>e6 cx s cv tt):=⟨fun hh cx hn Z O hE=>by
 refine bN hE hh (e6 cx s cv) ?_
 rintro a r hm Z O hf
 simp only[Fits,bB,bA,and_true] at hf
 unfold cQ at hm
 exact zz⟩
instance c_slices_IndexFunc_int_int_unroll_Parents_1 (s cv r):CtP (cV s cv=some r) (bc Tryz.prog 68 [.u (.one (dL s)),.u (.one (.fn 40 [.ref (Tree.row cv) 0]))] (vI r)):=⟨fun hm=>by
 refine cu Tryz.func68 Tryz.ntmps68 fun cx hn=>?_
 unfold cV at hm
 refine srs hn ?_
 simp -dsimp
 refine aZ ?_
 refine srs hn ?_
 simp -dsimp
 refine b7 ?_
 obtain⟨o_,g5,hm⟩:=bnd hm
 refine bG (LtP.pf g5 cx hn) (by
   try dsimp only
   exact eeh
 ) fun ee Z O xx=>?_
 rcases o_ with r | _u
 ·exact zz
 ·exact zz⟩
instance c_slices_ContainsFunc_int_int_unroll_Parents_1 (s cv r):CtP (cK s cv=some r) (bc Tryz.prog 39 [.u (.one (dL s)),.u (.one (.fn 40 [.ref (Tree.row cv) 0]))] (vT r)):=⟨fun hm=>by
 refine cu Tryz.func39 Tryz.ntmps39 fun cx hn=>?_
 unfold cK at hm
 refine srs hn ?_
 simp -dsimp
 refine srs hn ?_
 obtain⟨y,h1,hm⟩:=bnd hm
 simp -dsimp
 refine bi (CtP.pf h1) (dkL hn) ?_
 simp -dsimp
 refine bC ?_
 cases hm
 refine⟨.inr rfl,?_⟩
 exact EE.here (by simp -dsimp)⟩
theorem nc (ab:Int) (ah:List (List Int)) (aa:Int) (ag:List Point) (ae:List Node) (ak:Int) (ai:List (List UInt8×Tree)) (r:Unit) (hm:fO ab ah aa ag ae ak ai=some r):GFn Tryz.prog 41 [vX 1000000,.u (.one (.d .nil))] [.box [dI ab,.own 1000001,dI aa,dR2 ag,dR1 ae,dI ak,.map 1000002],.row 1 26 (List.map (rS 1 (rI .i64)) ah),mOb .str kS (uA Tree.row) ai] (.tup []) [some (.box [dI ab,.own 1000003,dI aa,dR2 ag,dR1 ae,dI ak,.map 1000002]),none,some (mOb .str kS (uA Tree.row) ai),some (.row 1 26 (List.map (rS 1 (rI .i64)) (ah++[[]])))]:=by
 refine dm bO _ Tryz.func41 rfl (by kernel_rfl) (by simp[Tryz.ntmps41]) (by simp) (by first | rfl | simp) (by first | rfl | simp) fun cx hn hk=>?_
 replace hn:cx.n=16:=hn.trans Tryz.ntmps41
 replace hk:cx.k=3:=hk
 unfold fO at hm
 refine sr1 hn ?_
 obtain⟨l,h1,hm⟩:=bnd hm
 obtain⟨h1a,h1e⟩:=bQ h1
 replace h1e:=h1e.symm
 subst h1e
 try simp only[List.length_cons,List.length_nil,Nat.zero_add] at h1a
 simp -dsimp [h1a]
 cases hm
 try refine⟨.inl rfl,?_⟩
 refine emr 12 1000003 hk ?_
 exact zz
def kK (cx:Cx) (_gv:Grid) (_y3:Int) (y4:Int×(List Point)×(List Node)×Int) (y5:(List Bi)×(List (List Int))×Int) (tt:(Bh×Int×Int) ⊕ ((List (List UInt8×Tree))×Int×(List (List Int)))) (ee:Exit) (Z:Env) (O:Sto):Prop:=match tt with
 | .inl r=>ee=.ret/\EE cx (fun Z O=>∃ v,fC tb Z O Tryz.f11.results.toList=some v/\(v.frz O).free=true/\(v.frz O).wk (.tup [.agg [dI r.1.Vars,.d (.sl 1 (List.map (rS 1 (rI .i64)) r.1.Clauses))],.one (dI r.2.1),.one (dI r.2.2)])) Z O
 | .inr (mp,ab,l)=>ee=.exit 1/\EE cx (bH [(4,vX 4),(5,vI y5.2.2),(9,vX 5001)] [(4,.box [dI 0,.d .nil]),(5000,mOb .str kS (uA Tree.row) mp),(5001,.box [dI ab,.own 5002,dI y4.1,dR2 y4.2.1,dR1 y4.2.2.1,dI y4.2.2.2,.map 5000]),(5002,.row 1 26 (List.map (rS 1 (rI .i64)) l))]) Z O
set_option maxHeartbeats 1000000 in
instance l_unroll_Parents_1 (gv y3 y4 y5) {fu stt tt}:LtP (ba (kw gv y3 y4 y5) fu stt=some tt) (lp 122 stt (fun | (a,_mp,_ab,_l)=>[(3,vX 3),(4,vX 4),(5,vI y5.2.2),(9,vX 5001),(10,vX 10),(68,.u (.one (dL gv.Cells))),(69,vI (b8 gv.Cells)),(70,vI a)]) (fun | (_a,mp,ab,l)=>[(3,.box [dI gv.W,dI gv.H,dI gv.Edge,dL gv.Cells]),(4,.box [dI 0,.d .nil]),(10,.box [dI ((⟨(cz .i64 y3),(cz .i64 y3),(bo .i64 gv.W (ck .i64 2 y3)),(bo .i64 gv.H (ck .i64 2 y3))⟩:Box).X),dI ((⟨(cz .i64 y3),(cz .i64 y3),(bo .i64 gv.W (ck .i64 2 y3)),(bo .i64 gv.H (ck .i64 2 y3))⟩:Box).Y),dI ((⟨(cz .i64 y3),(cz .i64 y3),(bo .i64 gv.W (ck .i64 2 y3)),(bo .i64 gv.H (ck .i64 2 y3))⟩:Box).W),dI ((⟨(cz .i64 y3),(cz .i64 y3),(bo .i64 gv.W (ck .i64 2 y3)),(bo .i64 gv.H (ck .i64 2 y3))⟩:Box).H),dR3 y5.1]),(5000,mOb .str kS (uA Tree.row) mp),(5001,.box [dI ab,.own 5002,dI y4.1,dR2 y4.2.1,dR1 y4.2.2.1,dI y4.2.2.2,.map 5000]),(5002,.row 1 26 (List.map (rS 1 (rI .i64)) l))]) (cC [1,1,1,1,1,1,1,1,0,1,0,0] (bD Tryz.f11)) fun cx=>kK cx gv y3 y4 y5 tt):=⟨fun hh cx hn Z O hE=>by
 refine bN hE hh (kK cx gv y3 y4 y5) ?_
 rintro⟨a,mp,ab,l⟩ r hm Z O hf
 simp only[Fits,bB,bA,and_true] at hf
 unfold kw at hm
 dsimp only at hm
 refine srs hn ?_
 simp -dsimp [hf]
 refine aZ ?_
 rcases bz hm with ⟨c11,hm⟩ | ⟨c11,hm⟩
 ·refine b9 (by simp -dsimp) c11 ?_
  refine b0 (aY (aZ (b7 ?_)))
  refine srs hn ?_
  obtain⟨x,h12,hm⟩:=bnd hm
  simp -dsimp [hf,c11,h12]
  refine sw_midps bO mixed [(13,14),(14,16)] [0,1,2,3,4,5,6,7,8,9,10,11,15,12,13,14,16,17] [0,1,2,3,4,5,6,7,8,9,10,11,13,14,15,12,16,17] 11 12 16 12 [[]] [[5004]] [false,true,true,true] (some (13,.box [dI 0,dI 0,dI 0,dI 0,.d .nil])) (by rw[hn]; kernel_rfl) (by dsimp only [jo,nG,adO,rnL,pmL,pk,rnO,rnG,jX,List.cons_append,List.nil_append]<;>exact rfl) (fltT_some 66 _ (by kernel_rfl) rfl rfl rfl (by simp[C.wipe])) ?_
  dsimp only [List.take,List.drop,gz,gP,jl,pk,List.cons_append,List.nil_append,List.flatten_cons,List.flatten_nil,dY,dW,List.append_nil]
  obtain⟨n,h13,hm⟩:=bnd hm
  obtain⟨n1,h14,hm⟩:=bnd hm
  obtain⟨y6,h15,hm⟩:=bnd hm
  simp -dsimp [hf,h13,h14]
  refine mN (kO ab l y4.1 y4.2.1 y4.2.2.1 y4.2.2.2 mp (⟨⟨(⟨(cz .i64 y3),(cz .i64 y3),(bo .i64 gv.W (ck .i64 2 y3)),(bo .i64 gv.H (ck .i64 2 y3))⟩:Box).X,(⟨(cz .i64 y3),(cz .i64 y3),(bo .i64 gv.W (ck .i64 2 y3)),(bo .i64 gv.H (ck .i64 2 y3))⟩:Box).Y,(⟨(cz .i64 y3),(cz .i64 y3),(bo .i64 gv.W (ck .i64 2 y3)),(bo .i64 gv.H (ck .i64 2 y3))⟩:Box).W,(⟨(cz .i64 y3),(cz .i64 y3),(bo .i64 gv.W (ck .i64 2 y3)),(bo .i64 gv.H (ck .i64 2 y3))⟩:Box).H⟩,y5.1⟩:Bj) (⟨n,n1,1,1⟩:Box) false y6 h15) [5001,5002,5000] [5004] rfl rfl rfl (by simp -dsimp) rfl (by simp -dsimp [hf]) (by first | rfl | simp) rfl (dkL hn) rfl rfl (by simp) (by rintro _ _ ⟨⟩; simp[C.wipe]) (by simp) ?_
  simp -dsimp
  refine aZ ?_
  refine srs hn ?_
  simp -dsimp
  rcases bz hm with ⟨c16,hm⟩ | ⟨c16,hm⟩
  ·exact zz
  ·refine bf (by simp -dsimp) c16 ?_
   refine b0 (aY ?_)
   refine srs hn ?_
   obtain⟨x1,h17,hm⟩:=bnd hm
   simp -dsimp [c16,h17]
   refine b7 ?_
   refine srs hn ?_
   simp -dsimp
   rcases bz hm with ⟨c18,hm⟩ | ⟨c18,hm⟩
   ·refine b9 (by simp -dsimp) c18 ?_
    refine sr1 hn ?_
    obtain⟨u,h19,hm⟩:=bnd hm
    obtain⟨y7,h20,hm⟩:=bnd hm
    simp -dsimp [hf,c18,gu h19 1 (rI .i64)]
    refine clg (fG y6.2.2.2.2.2.2.1 y6.2.2.2.2.2.2.2.2 y4.1 y4.2.1 y4.2.2.1 y4.2.2.2 y6.2.2.2.2.2.2.2.1 x1.vars x y7 h20) [5001,5004,5000] [5005] (by simp -dsimp) (dkL hn) ?_
    simp -dsimp
    refine cr ?_
    refine cr ?_
    refine aY ?_
    refine sr1 hn ?_
    simp -dsimp [hf]
    cases hm
    refine d8 ?_
    refine emv 5005 5002 ?_
    exact zz
   ·refine bf (by simp -dsimp) c18 ?_
    refine srs hn ?_
    simp -dsimp [c18]
    rcases bz hm with ⟨c21,hm⟩ | ⟨c21,hm⟩
    ·refine b9 (by simp -dsimp) c21 ?_
     refine sr1 hn ?_
     obtain⟨y7,h22,hm⟩:=bnd hm
     simp -dsimp [hf,c21]
     refine clg (nc y6.2.2.2.2.2.2.1 y6.2.2.2.2.2.2.2.2 y4.1 y4.2.1 y4.2.2.1 y4.2.2.2 y6.2.2.2.2.2.2.2.1 y7 h22) [5001,5004,5000] [5006] (by simp -dsimp) (dkL hn) ?_
     simp -dsimp
     refine cr ?_
     refine cr ?_
     refine aY ?_
     refine sr1 hn ?_
     simp -dsimp [hf]
     cases hm
     refine d8 ?_
     refine emv 5006 5002 ?_
     exact zz
    ·refine bf (by simp -dsimp) c21 ?_
     refine b0 ?_
     refine cr ?_
     refine cr ?_
     refine aY ?_
     refine sr1 hn ?_
     simp -dsimp [hf,c21]
     cases hm
     refine d8 ?_
     refine emv 5004 5002 ?_
     exact zz
 ·exact zz⟩
set_option maxHeartbeats 1000000 in
instance c_unroll_Parents (t gv r):CtP (m5 t gv=some r) (bc Tryz.prog 11 [.u (.agg [dI t.States,dR2 t.Hood,dR1 t.Nodes]),.u (.agg [dI gv.W,dI gv.H,dI gv.Edge,dL gv.Cells])] (.tup [.agg [dI r.1.Vars,.d (.sl 1 (List.map (rS 1 (rI .i64)) r.1.Clauses))],.one (dI r.2.1),.one (dI r.2.2)])):=⟨fun hm=>by
 refine cu Tryz.func11 Tryz.ntmps11 fun cx hn=>?_
 unfold m5 at hm
 refine srs hn ?_
 simp -dsimp
 refine aZ (b7 ?_)
 refine srs hn ?_
 obtain⟨y,h1,hm⟩:=bnd hm
 simp -dsimp
 refine bi (CtP.pf h1) (dkL hn) ?_
 simp -dsimp
 rcases bz hm with ⟨c2,hm⟩ | ⟨c2,hm⟩
 ·exact zz
 ·refine bf (by simp -dsimp) c2 ?_
  refine srs hn ?_
  obtain⟨y1,h3,hm⟩:=bnd hm
  simp -dsimp [c2]
  refine bi (CtP.pf h3) (dkL hn) ?_
  simp -dsimp
  rcases bz hm with ⟨c4,hm⟩ | ⟨c4,hm⟩
  ·exact zz
  ·refine bf (by simp -dsimp) c4 ?_
   refine srs hn ?_
   obtain⟨y2,h5,hm⟩:=bnd hm
   simp -dsimp [c4]
   refine nk (us':=[.u (.one (dL gv.Cells)),.u (.one (.fn 40 [.ref (Tree.row t) 0]))]) (CtP.pf h5) (by simp -dsimp) rfl (dkL hn) ?_
   simp -dsimp
   rcases bz hm with ⟨c6,hm⟩ | ⟨c6,hm⟩
   ·exact zz
   ·refine bf (by simp -dsimp) c6 ?_
    refine b0 ?_
    refine cr ?_
    refine aY ?_
    refine srs hn ?_
    obtain⟨y3,h7,hm⟩:=bnd hm
    simp -dsimp [c6]
    refine bi (CtP.pf h7) (dkL hn) ?_
    simp -dsimp
    refine srs hn ?_
    simp -dsimp
    refine aZ ?_
    refine srs hn ?_
    simp -dsimp
    rcases bz hm with ⟨c8,hm⟩ | ⟨c8,hm⟩
    ·exact zz
    ·refine bf (by simp -dsimp) c8 ?_
     refine b0 (aY ?_)
     refine srs hn ?_
     obtain⟨y4,h9,hm⟩:=bnd hm
     simp -dsimp [c8]
     refine clg (g_unroll_start t y4 h9) [] [5000,5001] (by simp -dsimp) (dkL hn) ?_
     simp -dsimp
     refine Swp.pre (Wk.own0b 5001 1 5002 1 26 [dI 0,.d .nil,dI y4.1,dR2 y4.2.1,dR1 y4.2.2.1,dI y4.2.2.2,.map 5000] (by simp -dsimp) (by rfl) (by decide) (by decide)) ?_
     refine srs hn ?_
     obtain⟨y5,h10,hm⟩:=bnd hm
     simp -dsimp
     refine clg (kW 0 [] y4.1 y4.2.1 y4.2.2.1 y4.2.2.2 [] (⟨(cz .i64 y3),(cz .i64 y3),(bo .i64 gv.W (ck .i64 2 y3)),(bo .i64 gv.H (ck .i64 2 y3))⟩:Box) y5 h10) [5001,5002,5000] [5003] (by simp -dsimp) (dkL hn) ?_
     simp -dsimp
     refine srs hn ?_
     simp -dsimp
     refine aZ ?_
     refine srs hn ?_
     simp -dsimp
     refine b7 ?_
     obtain⟨o_,g23,hm⟩:=bnd hm
     refine bG (LtP.pf g23 cx hn) (by
       try dsimp only
       refine emv 5003 5002 ?_
       exact zz
     ) fun ee Z O xx=>?_
     rcases o_ with r | ⟨mp,ab,l⟩
     ·exact zz
     ·unfold kK at xx
      dsimp only at xx
      obtain⟨rfl,xx⟩:=xx
      refine bK ?_
      refine aY ?_
      refine see xx fun Z O hf=>?_
      simp only[Fits,bB,bA,and_true] at hf
      refine aZ ?_
      refine srs hn ?_
      obtain⟨y6,h24,hm⟩:=bnd hm
      simp -dsimp [hf]
      refine clg (gY ab l y4.1 y4.2.1 y4.2.2.1 y4.2.2.2 mp y6 h24) [5001,5002,5000] [] (by simp -dsimp [hf]) (dkL hn) ?_
      exact zz⟩
instance c_unroll_Bits_1 (cv a r):CtP (iX cv a=some r) (bc Tryz.prog 28 [.u (.agg [dI cv.X,dI cv.Y,dI cv.S]),.u (.one (.ref (Bg.row a) 0))] (vT r)):=⟨fun hm=>by
 refine cu Tryz.func28 Tryz.ntmps28 fun cx hn=>?_
 unfold iX at hm
 refine srs hn ?_
 simp -dsimp
 obtain⟨a1,j4,hm⟩:=bnd hm
 refine scE [(3,vT a1)] [] ?_ fun Z O hf=>?_
 ·replace hm:=j4
  clear j4
  exact zz
 ·clear j4
  exact zz⟩
def db (cx:Cx) (_s:List Cell) (_cv:Bg) (tt:Int ⊕ Unit) (ee:Exit) (Z:Env) (O:Sto):Prop:=match tt with
 | .inl r=>ee=.ret/\EE cx (fun Z O=>∃ v,fC tb Z O Tryz.f58.results.toList=some v/\(v.frz O).free=true/\(v.frz O).wk (vI r)) Z O
 | .inr _u=>ee=.exit 0/\EE cx (bH [] []) Z O
instance l_slices_IndexFunc_api_Pattern_api_Cell_unroll_Bits_1_1 (s cv) {fu stt tt}:LtP (ba (bv s cv) fu stt=some tt) (lp 19 stt (fun a=>[(0,.u (.one (dR0 s))),(1,.u (.one (.fn 28 [.ref (Bg.row cv) 0]))),(7,vI (b8 s)),(8,vI a)]) (fun _a=>[]) (cC [1,0,1,0,0] (bD Tryz.f58)) fun cx=>db cx s cv tt):=⟨fun hh cx hn Z O hE=>by
 refine bN hE hh (db cx s cv) ?_
 rintro a r hm Z O hf
 simp only[Fits,bB,bA,and_true] at hf
 unfold bv at hm
 exact zz⟩
instance c_slices_IndexFunc_api_Pattern_api_Cell_unroll_Bits_1 (s cv r):CtP (bT s cv=some r) (bc Tryz.prog 58 [.u (.one (dR0 s)),.u (.one (.fn 28 [.ref (Bg.row cv) 0]))] (vI r)):=⟨fun hm=>by
 refine cu Tryz.func58 Tryz.ntmps58 fun cx hn=>?_
 unfold bT at hm
 refine srs hn ?_
 simp -dsimp
 refine aZ ?_
 refine srs hn ?_
 simp -dsimp
 refine b7 ?_
 obtain⟨o_,g5,hm⟩:=bnd hm
 refine bG (LtP.pf g5 cx hn) (by
   try dsimp only
   exact eeh
 ) fun ee Z O xx=>?_
 rcases o_ with r | _u
 ·exact zz
 ·exact zz⟩
instance c_slices_ContainsFunc_api_Pattern_api_Cell_unroll_Bits_1 (s cv r):CtP (bF s cv=some r) (bc Tryz.prog 27 [.u (.one (dR0 s)),.u (.one (.fn 28 [.ref (Bg.row cv) 0]))] (vT r)):=⟨fun hm=>by
 refine cu Tryz.func27 Tryz.ntmps27 fun cx hn=>?_
 unfold bF at hm
 refine srs hn ?_
 simp -dsimp
 refine srs hn ?_
 obtain⟨y,h1,hm⟩:=bnd hm
 simp -dsimp
 refine bi (CtP.pf h1) (dkL hn) ?_
 simp -dsimp
 refine bC ?_
 cases hm
 refine⟨.inr rfl,?_⟩
 exact EE.here (by simp -dsimp)⟩
section
attribute [-simp] List.map_set List.set_set
def F_unroll_Bits_2 (cx:Cx) (x:Bg) (p:List Cell) (y2 a1:Int) (_out:List Bool) (_x1:Cell) (tt:(List Bool)) (ee:Exit) (Z:Env) (O:Sto):Prop:=match tt with
 | aC=>ee=.exit 2/\EE cx (bH [(4,vX 4),(9,vI y2),(10,vO 43),(44,.u (.one (dR0 p))),(45,vI (b8 p)),(46,vI a1)] [(4,.box [dI x.W,dI x.H,dI x.Gens,dI x.DX,dI x.DY,dL x.Syms]),(43,.row 1 4 (List.map rB aC))]) Z O
instance l_unroll_Bits_2 (x p y2 a1 out x1) {fu stt tt}:LtP (ba (fw x p y2 a1 out x1) fu stt=some tt) (lp 77 stt (fun | (a2,_aC)=>[(4,vX 4),(9,vI y2),(10,vO 43),(12,vX 12),(44,.u (.one (dR0 p))),(45,vI (b8 p)),(46,vI a1),(50,vI y2),(51,vI a2)]) (fun | (_a2,aC)=>[(4,.box [dI x.W,dI x.H,dI x.Gens,dI x.DX,dI x.DY,dL x.Syms]),(12,.box [dI x1.X,dI x1.Y,dI x1.S]),(43,.row 1 4 (List.map rB aC))]) (cC [1,1,1,1,1,1,0,1,0,0,1,1,0,0,1,1,0,0] (bD Tryz.f7)) fun cx=>F_unroll_Bits_2 cx x p y2 a1 out x1 tt):=⟨fun hh cx hn Z O hE=>by
 refine bN hE hh (F_unroll_Bits_2 cx x p y2 a1 out x1) ?_
 rintro⟨a2,aC⟩ r hm Z O hf
 simp only[Fits,bB,bA,and_true] at hf
 unfold fw at hm
 dsimp only at hm
 refine srs hn ?_
 simp -dsimp [hf]
 refine aZ ?_
 rcases bz hm with ⟨c13,hm⟩ | ⟨c13,hm⟩
 ·refine b9 (by simp -dsimp) c13 ?_
  refine b0 (aY (aZ (b7 ?_)))
  refine srs hn ?_
  simp -dsimp [hf,c13]
  refine nR bO mixed 19 (by rw[hn]; kernel_rfl) ?_
  dsimp only [List.take,List.drop]
  obtain⟨n,h14,hm⟩:=bnd hm
  obtain⟨x2,h15,hm⟩:=bnd hm
  simp -dsimp [hf,h14,h15,da h15,rsetB aC (bo .i64 (ck .i64 (bo .i64 (ck .i64 x1.Y x.W) x1.X) y2) a2).toNat (eqB (iand .i64 n 1) 1)]
  refine cr ?_
  refine aY ?_
  refine sr1 hn ?_
  simp -dsimp [hf]
  cases hm
  refine d8 ?_
  exact EE.here (by simp -dsimp [hf])
 ·exact zz⟩
def mE (cx:Cx) (_x:Bg) (_p:List Cell) (_y2:Int) (tt:(List Bool)) (ee:Exit) (Z:Env) (O:Sto):Prop:=match tt with
 | out=>ee=.exit 0/\EE cx (bH [(10,vO 43)] [(43,.row 1 4 (List.map rB out))]) Z O
instance l_unroll_Bits_1 (x p y2) {fu stt tt}:LtP (ba (fp x p y2) fu stt=some tt) (lp 77 stt (fun | (a1,_out)=>[(4,vX 4),(9,vI y2),(10,vO 43),(44,.u (.one (dR0 p))),(45,vI (b8 p)),(46,vI a1)]) (fun | (_a1,out)=>[(4,.box [dI x.W,dI x.H,dI x.Gens,dI x.DX,dI x.DY,dL x.Syms]),(43,.row 1 4 (List.map rB out))]) (cC [1,1,1,1,1,1,0,1,0,0] (bD Tryz.f7)) fun cx=>mE cx x p y2 tt):=⟨fun hh cx hn Z O hE=>by
 refine bN hE hh (mE cx x p y2) ?_
 rintro⟨a1,out⟩ r hm Z O hf
 simp only[Fits,bB,bA,and_true] at hf
 unfold fp at hm
 exact zz⟩
instance c_unroll_Bits (t x p r):CtP (gU t x p=some r) (bc Tryz.prog 7 [.u (.agg [dI t.States,dR2 t.Hood,dR1 t.Nodes]),.u (.agg [dI x.W,dI x.H,dI x.Gens,dI x.DX,dI x.DY,dL x.Syms]),.u (.one (dR0 p))] (.tup [.one (.d (.sl 1 (List.map rB r.1))),.one (dI r.2)])):=⟨fun hm=>by
 refine cu Tryz.func7 Tryz.ntmps7 fun cx hn=>?_
 unfold gU at hm
 refine srs hn ?_
 simp -dsimp
 refine aZ ?_
 refine srs hn ?_
 obtain⟨y,h1,hm⟩:=bnd hm
 simp -dsimp
 refine bi (CtP.pf h1) (dkL hn) ?_
 simp -dsimp
 refine srs hn ?_
 simp -dsimp
 rcases bz hm with ⟨c2,hm⟩ | ⟨c2,hm⟩
 ·exact zz
 ·refine bf (by simp -dsimp) c2 ?_
  refine b0 (aY (aZ ?_))
  obtain⟨a,j18,hm⟩:=bnd hm
  refine scE [(2,.u (.one (dR0 p))),(3,vX 3),(4,vX 4),(27,vT a)] [(3,.box [dI t.States,dR2 t.Hood,dR1 t.Nodes]),(4,.box [dI x.W,dI x.H,dI x.Gens,dI x.DX,dI x.DY,dL x.Syms])] ?_ fun Z O hf=>?_
  ·replace hm:=j18
   clear j18
   refine sr1 hn ?_
   obtain⟨y1,h3,hm⟩:=bnd hm
   simp -dsimp [c2]
   refine bi (CtP.pf h3) (dkL hn) ?_
   rcases bz hm with ⟨c4,hm⟩ | ⟨c4,hm⟩
   ·simp -dsimp [c4]
    cases hm
    exact EE.here (by simp -dsimp)
   ·obtain⟨y2,h5,hm⟩:=bnd hm
    simp -dsimp [c4]
    refine nk (us':=[.u (.one (dR0 p)),.u (.one (.fn 28 [.ref (Bg.row x) 0]))]) (CtP.pf h5) (by simp -dsimp) rfl (dkL hn) ?_
    simp -dsimp
    cases hm
    exact EE.here (by simp -dsimp)
  ·clear j18
   simp only[Fits,bB,bA,and_true] at hf
   rcases bz hm with ⟨c6,hm⟩ | ⟨c6,hm⟩
   ·refine b9 (by simp -dsimp [hf]) c6 ?_
    refine srs hn ?_
    simp -dsimp
    refine bC (fI ?_)
    cases hm
    refine⟨.inr rfl,?_⟩
    exact EE.here (by simp -dsimp)
   ·refine bf (by simp -dsimp [hf]) c6 ?_
    refine b0 (aY (aZ ?_))
    refine iM bO mixed (by rw[hn]; kernel_rfl) ?_
    obtain⟨y1,h7,hm⟩:=bnd hm
    simp -dsimp [hf]
    refine br (CtP.pf h7) ?_
    simp -dsimp [hf]
    rcases bz hm with ⟨c8,hm⟩ | ⟨c8,hm⟩
    ·refine b9 (by simp -dsimp) c8 ?_
     refine srs hn ?_
     simp -dsimp [c8]
     refine bC (fI ?_)
     cases hm
     refine⟨.inr rfl,?_⟩
     exact EE.here (by simp -dsimp)
    ·refine bf (by simp -dsimp) c8 ?_
     refine b0 (aY ?_)
     refine srs hn ?_
     obtain⟨y2,h9,hm⟩:=bnd hm
     simp -dsimp [hf,c8]
     refine bi (CtP.pf h9) (dkL hn) ?_
     simp -dsimp
     refine srs hn ?_
     obtain⟨l,h10,hm⟩:=bnd hm
     obtain⟨⟨h10a,h10b,h10c⟩,rfl⟩:=nu h10
     rw[Int.mul_one] at h10c
     simp -dsimp [hf,h10a,h10c]
     refine aZ ?_
     refine srs hn ?_
     simp -dsimp [hf]
     refine b7 ?_
     obtain⟨out,g17,hm⟩:=bnd hm
     refine bG (LtP.pf g17 cx hn) (by
       try dsimp only
       exact EE.here (by simp -dsimp [hf])
     ) fun ee Z O xx=>?_
     unfold mE at xx
     dsimp only at xx
     obtain⟨rfl,xx⟩:=xx
     refine bK ?_
     refine aY ?_
     refine see xx fun Z O hf=>?_
     simp only[Fits,bB,bA,and_true] at hf
     refine srs hn ?_
     simp -dsimp [hf]
     refine bC ?_
     cases hm
     refine⟨.inr rfl,?_⟩
     exact EE.here (by simp -dsimp [hf])⟩
end
def mH (cx:Cx) (_l:List Bool) (tt:Int) (ee:Exit) (Z:Env) (O:Sto):Prop:=match tt with
 | n=>ee=.exit 0/\EE cx (bH [(3,vI n)] []) Z O
instance l_lower_State_1 (l) {fu stt tt}:LtP (ba (mB l) fu stt=some tt) (lp 23 stt (fun | (n,a)=>[(3,vI n),(9,.u (.one (.d (.sl 1 (List.map rB l))))),(10,vI (b8 l)),(11,vI a)]) (fun | (_n,_a)=>[]) (cC [1,1,1,0,1,0,0] (bD Tryz.f42)) fun cx=>mH cx l tt):=⟨fun hh cx hn Z O hE=>by
 refine bN hE hh (mH cx l) ?_
 rintro⟨n,a⟩ r hm Z O hf
 simp only[Fits,bB,bA,and_true] at hf
 unfold mB at hm
 dsimp only at hm
 refine srs hn ?_
 simp -dsimp [hf]
 refine aZ ?_
 rcases bz hm with ⟨c2,hm⟩ | ⟨c2,hm⟩
 ·refine b9 (by simp -dsimp) c2 ?_
  refine b0 (aY ?_)
  obtain⟨n1,j6,hm⟩:=bnd hm
  refine scE [(3,vI n1),(9,.u (.one (.d (.sl 1 (List.map rB l))))),(10,vI (b8 l)),(11,vI a)] [] ?_ fun Z O hf=>?_
  ·replace hm:=j6
   clear j6
   exact zz
  ·clear j6
   exact zz
 ·exact zz⟩
instance c_lower_State (l r):CtP (oQ l=some r) (bc Tryz.prog 42 [.u (.one (.d (.sl 1 (List.map rB l))))] (vI r)):=⟨fun hm=>by
 refine cu Tryz.func42 Tryz.ntmps42 fun cx hn=>?_
 unfold oQ at hm
 refine srs hn ?_
 simp -dsimp
 refine aZ ?_
 refine srs hn ?_
 simp -dsimp
 rcases bz hm with ⟨c1,hm⟩ | ⟨c1,hm⟩
 ·refine sct c1 ?_
  refine srs hn ?_
  simp -dsimp [c1]
  refine bC (fI ?_)
  cases hm
  refine⟨.inr rfl,?_⟩
  exact EE.here (by simp -dsimp)
 ·refine scf c1 ?_
  refine b0 (aY ?_)
  refine srs hn ?_
  simp -dsimp [c1]
  refine aZ ?_
  refine srs hn ?_
  simp -dsimp
  refine b7 ?_
  obtain⟨n,g7,hm⟩:=bnd hm
  refine bG (LtP.pf g7 cx hn) (by
    try dsimp only
    exact EE.here (by simp -dsimp)
  ) fun ee Z O xx=>?_
  unfold mH at xx
  dsimp only at xx
  obtain⟨rfl,xx⟩:=xx
  refine bK ?_
  refine aY ?_
  refine see xx fun Z O hf=>?_
  simp only[Fits,bB,bA,and_true] at hf
  refine srs hn ?_
  simp -dsimp [hf]
  refine bC ?_
  cases hm
  refine⟨.inr rfl,?_⟩
  exact EE.here (by simp -dsimp)⟩
end Go.Proofs.YtjlckgeecihpbaaGreatDoor
namespace Go.Proofs.YtjlckgeecihpbaaGreatDoor
open Go.AM Go.Proofs
set_option maxRecDepth 100000
attribute [-simp] ey eY i7 Ob.wipe Ob.ren Ob.frz1
def nV (cx:Cx) (_t:Tree) (_x:Bg) (_l:List Bool) (_y1:Int) (tt:((List Cell)×Int) ⊕ (List Cell)) (ee:Exit) (Z:Env) (O:Sto):Prop:=match tt with
 | .inl r=>ee=.ret/\EE cx (fun Z O=>∃ v,fC tb Z O Tryz.f12.results.toList=some v/\(v.frz O).free=true/\(v.frz O).wk (.tup [.one (dR0 r.1),.one (dI r.2)])) Z O
 | .inr out=>ee=.exit 0/\EE cx (bH [(10,vO 5000)] [(5000,.row 3 53 (List.map Cell.row out))]) Z O
instance l_unroll_Pattern_1 (t x l y1) {fu stt tt}:LtP (ba (ky t x l y1) fu stt=some tt) (lp 71 stt (fun | (a,_out)=>[(2,.u (.one (.d (.sl 1 (List.map rB l))))),(3,vX 3),(4,vX 4),(9,vI y1),(10,vO 5000),(36,vI (ck .i64 x.W x.H)),(37,vI a)]) (fun | (_a,out)=>[(3,.box [dI t.States,dR2 t.Hood,dR1 t.Nodes]),(4,.box [dI x.W,dI x.H,dI x.Gens,dI x.DX,dI x.DY,dL x.Syms]),(5000,.row 3 53 (List.map Cell.row out))]) (cC [1,1,1,1,1,0,1,0,0] (bD Tryz.f12)) fun cx=>nV cx t x l y1 tt):=⟨fun hh cx hn Z O hE=>by
 refine bN hE hh (nV cx t x l y1) ?_
 rintro⟨a,out⟩ r hm Z O hf
 simp only[Fits,bB,bA,and_true] at hf
 unfold ky at hm
 dsimp only at hm
 refine srs hn ?_
 simp -dsimp [hf]
 refine aZ ?_
 rcases bz hm with ⟨c5,hm⟩ | ⟨c5,hm⟩
 ·refine b9 (by simp -dsimp) c5 ?_
  refine b0 (aY (aZ (b7 ?_)))
  refine srs hn ?_
  simp -dsimp [hf,c5]
  refine srs hn ?_
  obtain⟨l1,h6,hm⟩:=bnd hm
  obtain⟨y2,h7,hm⟩:=bnd hm
  simp -dsimp [hf,h6]
  refine bi (CtP.pf h7) (dkL hn) ?_
  simp -dsimp
  refine aZ ?_
  refine srs hn ?_
  simp -dsimp [hf]
  rcases bz hm with ⟨c8,hm⟩ | ⟨c8,hm⟩
  ·exact zz
  ·refine bf (by simp -dsimp) c8 ?_
   refine b0 (aY ?_)
   refine srs hn ?_
   simp -dsimp [c8]
   rcases bz hm with ⟨c9,hm⟩ | ⟨c9,hm⟩
   ·refine b9 (by simp -dsimp) c9 ?_
    refine nR bO mixed 12 (by rw[hn]; kernel_rfl) ?_
    dsimp only [List.take,List.drop]
    obtain⟨n,h10,hm⟩:=bnd hm
    obtain⟨n1,h11,hm⟩:=bnd hm
    obtain⟨l2,h12,hm⟩:=bnd hm
    obtain⟨h12a,h12e⟩:=bQ h12
    replace h12e:=h12e.symm
    subst h12e
    try simp only[List.length_cons,List.length_nil,Nat.zero_add] at h12a
    simp -dsimp [hf,c9,h10,h11,h12a]
    refine cr ?_
    refine aY ?_
    refine sr1 hn ?_
    simp -dsimp [hf]
    cases hm
    refine d8 ?_
    refine emv 68 5000 ?_
    exact zz
   ·exact zz
 ·exact zz⟩
instance c_unroll_Pattern (t x l r):CtP (lU t x l=some r) (bc Tryz.prog 12 [.u (.agg [dI t.States,dR2 t.Hood,dR1 t.Nodes]),.u (.agg [dI x.W,dI x.H,dI x.Gens,dI x.DX,dI x.DY,dL x.Syms]),.u (.one (.d (.sl 1 (List.map rB l))))] (.tup [.one (dR0 r.1),.one (dI r.2)])):=⟨fun hm=>by
 refine cu Tryz.func12 Tryz.ntmps12 fun cx hn=>?_
 unfold lU at hm
 refine srs hn ?_
 simp -dsimp
 refine aZ ?_
 refine srs hn ?_
 obtain⟨y,h1,hm⟩:=bnd hm
 simp -dsimp
 refine bi (CtP.pf h1) (dkL hn) ?_
 simp -dsimp
 refine srs hn ?_
 simp -dsimp
 rcases bz hm with ⟨c2,hm⟩ | ⟨c2,hm⟩
 ·exact zz
 ·refine bf (by simp -dsimp) c2 ?_
  refine b0 (aY ?_)
  refine srs hn ?_
  obtain⟨y1,h3,hm⟩:=bnd hm
  simp -dsimp [c2]
  refine bi (CtP.pf h3) (dkL hn) ?_
  simp -dsimp
  refine aZ ?_
  refine srs hn ?_
  simp -dsimp
  rcases bz hm with ⟨c4,hm⟩ | ⟨c4,hm⟩
  ·exact zz
  ·refine bf (by simp -dsimp) c4 ?_
   refine b0 (aY ?_)
   refine srs hn ?_
   simp -dsimp [c4]
   refine aZ ?_
   refine srs hn ?_
   simp -dsimp
   refine b7 ?_
   obtain⟨o_,g13,hm⟩:=bnd hm
   refine bG (LtP.pf g13 cx hn) (by
     try dsimp only
     refine EE.step (Wk.own0 10 5000 3 53 (by simp -dsimp) (by decide)) ?_
     exact zz
   ) fun ee Z O xx=>?_
   rcases o_ with r | out
   ·exact zz
   ·exact zz⟩
def F_R41_Equal_2 (cx:Cx) (a b:Bh) (i:Int) (_x _x1:List Int) (tt:Bool ⊕ Unit) (ee:Exit) (Z:Env) (O:Sto):Prop:=match tt with
 | .inl r=>ee=.ret/\EE cx (fun Z O=>∃ v,fC tb Z O Tryz.f13.results.toList=some v/\(v.frz O).free=true/\(v.frz O).wk (vT r)) Z O
 | .inr _u=>ee=.exit 2/\EE cx (bH [(2,vX 2),(3,vX 3),(5,vI i)] [(2,.box [dI a.Vars,.d (.sl 1 (List.map (rS 1 (rI .i64)) a.Clauses))]),(3,.box [dI b.Vars,.d (.sl 1 (List.map (rS 1 (rI .i64)) b.Clauses))])]) Z O
instance l_R41_Equal_2 (a b i x x1) {fu stt tt}:LtP (ba (oJ a b i x x1) fu stt=some tt) (lp 60 stt (fun k=>[(2,vX 2),(3,vX 3),(5,vI i),(6,.u (.one (dL x))),(7,.u (.one (dL x1))),(8,vI k)]) (fun _k=>[(2,.box [dI a.Vars,.d (.sl 1 (List.map (rS 1 (rI .i64)) a.Clauses))]),(3,.box [dI b.Vars,.d (.sl 1 (List.map (rS 1 (rI .i64)) b.Clauses))])]) (cC [1,1,0,1,0,0,1,0,0,1,1,1,0,0] (bD Tryz.f13)) fun cx=>F_R41_Equal_2 cx a b i x x1 tt):=⟨fun hh cx hn Z O hE=>by
 refine bN hE hh (F_R41_Equal_2 cx a b i x x1) ?_
 rintro k r hm Z O hf
 simp only[Fits,bB,bA,and_true] at hf
 unfold oJ at hm
 exact zz⟩
def F_R41_Equal_1 (cx:Cx) (_a _b:Bh) (tt:Bool ⊕ Unit) (ee:Exit) (Z:Env) (O:Sto):Prop:=match tt with
 | .inl r=>ee=.ret/\EE cx (fun Z O=>∃ v,fC tb Z O Tryz.f13.results.toList=some v/\(v.frz O).free=true/\(v.frz O).wk (vT r)) Z O
 | .inr _u=>ee=.exit 0/\EE cx (bH [] []) Z O
instance l_R41_Equal_1 (a b) {fu stt tt}:LtP (ba (oK a b) fu stt=some tt) (lp 60 stt (fun i=>[(2,vX 2),(3,vX 3),(5,vI i)]) (fun _i=>[(2,.box [dI a.Vars,.d (.sl 1 (List.map (rS 1 (rI .i64)) a.Clauses))]),(3,.box [dI b.Vars,.d (.sl 1 (List.map (rS 1 (rI .i64)) b.Clauses))])]) (cC [1,1,0,1,0,0] (bD Tryz.f13)) fun cx=>F_R41_Equal_1 cx a b tt):=⟨fun hh cx hn Z O hE=>by
 refine bN hE hh (F_R41_Equal_1 cx a b) ?_
 rintro i r hm Z O hf
 simp only[Fits,bB,bA,and_true] at hf
 unfold oK at hm
 dsimp only at hm
 refine aZ ?_
 refine srs hn ?_
 simp -dsimp [hf]
 rcases bz hm with ⟨c3,hm⟩ | ⟨c3,hm⟩
 ·refine b9 (by simp -dsimp) c3 ?_
  refine b0 (aY (aZ (b7 ?_)))
  refine iM bO mixed (by rw[hn]; kernel_rfl) ?_
  obtain⟨x,h4,hm⟩:=bnd hm
  obtain⟨x1,h5,hm⟩:=bnd hm
  simp -dsimp [hf,c3,h4,h5]
  refine aZ ?_
  refine srs hn ?_
  simp -dsimp
  rcases bz hm with ⟨c6,hm⟩ | ⟨c6,hm⟩
  ·exact zz
  ·refine bf (by simp -dsimp) c6 ?_
   refine b0 (aY ?_)
   refine srs hn ?_
   simp -dsimp [c6]
   refine b7 ?_
   obtain⟨o_,g11,hm⟩:=bnd hm
   refine bG (LtP.pf g11 cx hn) (by
     try dsimp only
     refine EE.here ?_
     exact zz
   ) fun ee Z O xx=>?_
   rcases o_ with r | _u
   ·exact zz
   ·exact zz
 ·exact zz⟩
instance c_R41_Equal (a b r):CtP (oD a b=some r) (bc Tryz.prog 13 [.u (.agg [dI a.Vars,.d (.sl 1 (List.map (rS 1 (rI .i64)) a.Clauses))]),.u (.agg [dI b.Vars,.d (.sl 1 (List.map (rS 1 (rI .i64)) b.Clauses))])] (vT r)):=⟨fun hm=>by
 refine cu Tryz.func13 Tryz.ntmps13 fun cx hn=>?_
 unfold oD at hm
 refine srs hn ?_
 simp -dsimp
 refine aZ ?_
 obtain⟨a1,j13,hm⟩:=bnd hm
 refine scE [(2,vX 2),(3,vX 3),(22,vT a1)] [(2,.box [dI a.Vars,.d (.sl 1 (List.map (rS 1 (rI .i64)) a.Clauses))]),(3,.box [dI b.Vars,.d (.sl 1 (List.map (rS 1 (rI .i64)) b.Clauses))])] ?_ fun Z O hf=>?_
 ·replace hm:=j13
  clear j13
  exact zz
 ·clear j13
  simp only[Fits,bB,bA,and_true] at hf
  rcases bz hm with ⟨c2,hm⟩ | ⟨c2,hm⟩
  ·exact zz
  ·refine bf (by simp -dsimp [hf]) c2 ?_
   refine b0 (aY (aZ ?_))
   refine srs hn ?_
   simp -dsimp
   refine b7 ?_
   obtain⟨o_,g12,hm⟩:=bnd hm
   refine bG (LtP.pf g12 cx hn) (by
     try dsimp only
     exact EE.here (by simp -dsimp [hf])
   ) fun ee Z O xx=>?_
   rcases o_ with r | _u
   ·exact zz
   ·exact zz⟩
instance c_R05_order (a b r):CtP (eZ a b=some r) (bc Tryz.prog 69 [vI a,vI b] (vI r)):=⟨fun hm=>by
 refine cu Tryz.func69 Tryz.ntmps69 fun cx hn=>?_
 unfold eZ at hm
 exact zz⟩
def F_R05_Compare_1 (cx:Cx) (a b:List Cell) (tt:Int ⊕ Unit) (ee:Exit) (Z:Env) (O:Sto):Prop:=match tt with
 | .inl r=>ee=.ret/\EE cx (fun Z O=>∃ v,fC tb Z O Tryz.f43.results.toList=some v/\(v.frz O).free=true/\(v.frz O).wk (vI r)) Z O
 | .inr _u=>ee=.exit 0/\EE cx (bH [(0,.u (.one (dR0 a))),(1,.u (.one (dR0 b)))] []) Z O
instance l_R05_Compare_1 (a b) {fu stt tt}:LtP (ba (fh a b) fu stt=some tt) (lp 89 stt (fun i=>[(0,.u (.one (dR0 a))),(1,.u (.one (dR0 b))),(5,vI i)]) (fun _i=>[]) (cC [1,0,1,0,0] (bD Tryz.f43)) fun cx=>F_R05_Compare_1 cx a b tt):=⟨fun hh cx hn Z O hE=>by
 refine bN hE hh (F_R05_Compare_1 cx a b) ?_
 rintro i r hm Z O hf
 simp only[Fits,bB,bA,and_true] at hf
 unfold fh at hm
 dsimp only at hm
 refine aZ ?_
 obtain⟨a1,j11,hm⟩:=bnd hm
 refine scE [(0,.u (.one (dR0 a))),(1,.u (.one (dR0 b))),(5,vI i),(15,vT a1)] [] ?_ fun Z O hf=>?_
 ·replace hm:=j11
  clear j11
  exact zz
 ·clear j11
  exact zz⟩
instance c_R05_Compare (a b r):CtP (kd a b=some r) (bc Tryz.prog 43 [.u (.one (dR0 a)),.u (.one (dR0 b))] (vI r)):=⟨fun hm=>by
 refine cu Tryz.func43 Tryz.ntmps43 fun cx hn=>?_
 unfold kd at hm
 refine srs hn ?_
 simp -dsimp
 refine aZ ?_
 refine srs hn ?_
 simp -dsimp
 refine b7 ?_
 obtain⟨o_,g12,hm⟩:=bnd hm
 refine bG (LtP.pf g12 cx hn) (by
   try dsimp only
   exact eeh
 ) fun ee Z O xx=>?_
 rcases o_ with r | _u
 ·exact zz
 ·exact zz⟩
instance c_R05_Same (a b r):CtP (jI a b=some r) (bc Tryz.prog 14 [.u (.one (dR0 a)),.u (.one (dR0 b))] (vT r)):=⟨fun hm=>by
 refine cu Tryz.func14 Tryz.ntmps14 fun cx hn=>?_
 unfold jI at hm
 refine srs hn ?_
 simp -dsimp
 refine srs hn ?_
 obtain⟨y,h1,hm⟩:=bnd hm
 simp -dsimp
 refine bi (CtP.pf h1) (dkL hn) ?_
 simp -dsimp
 refine bC ?_
 cases hm
 refine⟨.inr rfl,?_⟩
 exact EE.here (by simp -dsimp)⟩
instance c_L45_alive (r):CtP (kM=some r) (bc Tryz.prog 5 [] (vT r)):=⟨fun hm=>by
 refine cu Tryz.func5 Tryz.ntmps5 fun cx hn=>?_
 unfold kM at hm
 refine srs hn ?_
 simp -dsimp
 refine srs hn ?_
 simp -dsimp
 refine ja bO mixed 7 9 10 0 [[0,1,2,3,4,5,6],[5,6]] [[2],[]] [true] none (by rw[hn]; kernel_rfl) ep ?_
 dsimp only [List.take,List.drop,gz,gP,jl,pk,List.cons_append,List.nil_append,List.flatten_cons,List.flatten_nil,dY,dW,List.append_nil]
 obtain⟨y,h1,hm⟩:=bnd hm
 simp -dsimp
 refine br (CtP.pf h1) ?_
 obtain⟨y1,h2,hm⟩:=bnd hm
 simp -dsimp
 refine br ((CtP.pf h2).wk (by simp[V.wkl])) ?_
 simp -dsimp
 refine br (CtP.pf h1) ?_
 simp -dsimp
 refine br ((CtP.pf h2).wk (by simp[V.wkl])) ?_
 simp -dsimp
 refine srs hn ?_
 simp -dsimp
 refine bi (CtP.pf h1) (dkL hn) ?_
 obtain⟨y2,h3,hm⟩:=bnd hm
 simp -dsimp
 refine bi (CtP.pf h3) (dkL hn) ?_
 simp -dsimp
 refine iM bO mixed (by rw[hn]; kernel_rfl) ?_
 simp -dsimp
 refine br (CtP.pf h1) ?_
 obtain⟨y3,h4,hm⟩:=bnd hm
 simp -dsimp
 refine br ((CtP.pf h4).wk (by simp[V.wkl])) ?_
 simp -dsimp
 refine iM bO mixed (by rw[hn]; kernel_rfl) ?_
 simp -dsimp
 refine br (CtP.pf h1) ?_
 obtain⟨y4,h5,hm⟩:=bnd hm
 simp -dsimp
 refine br ((CtP.pf h5).wk (by simp[V.wkl])) ?_
 simp -dsimp
 refine srs hn ?_
 obtain⟨y5,h6,hm⟩:=bnd hm
 simp -dsimp
 refine bi ((CtP.pf h6).wk (by simp[V.wkl])) (dkL hn) ?_
 simp -dsimp
 refine srs hn ?_
 simp -dsimp
 obtain⟨a,j22,hm⟩:=bnd hm
 refine scE [(0,vT a)] [] ?_ fun Z O hf=>?_
 ·replace hm:=j22
  clear j22
  exact zz
 ·clear j22
  exact zz⟩
instance c_R07_before (a b r):CtP (lm a b=some r) (bc Tryz.prog 116 [.u (.agg [dI a.X,dI a.Y]),.u (.agg [dI b.X,dI b.Y])] (vT r)):=⟨fun hm=>by
 refine cu Tryz.func116 Tryz.ntmps116 fun cx hn=>?_
 unfold lm at hm
 refine srs hn ?_
 simp -dsimp
 obtain⟨a1,j3,hm⟩:=bnd hm
 refine scE [(4,vT a1)] [] ?_ fun Z O hf=>?_
 ·replace hm:=j3
  clear j3
  exact zz
 ·clear j3
  exact zz⟩
def F_R07_Right_1 (cx:Cx) (_l:List Point) (tt:Bool ⊕ Unit) (ee:Exit) (Z:Env) (O:Sto):Prop:=match tt with
 | .inl r=>ee=.ret/\EE cx (fun Z O=>∃ v,fC tb Z O Tryz.f103.results.toList=some v/\(v.frz O).free=true/\(v.frz O).wk (vT r)) Z O
 | .inr _u=>ee=.exit 0/\EE cx (bH [] []) Z O
instance l_R07_Right_1 (l) {fu stt tt}:LtP (ba (jZ l) fu stt=some tt) (lp 55 stt (fun i=>[(0,.u (.one (dR2 l))),(3,vI i)]) (fun _i=>[]) (cC [1,1,0,1,0,0] (bD Tryz.f103)) fun cx=>F_R07_Right_1 cx l tt):=⟨fun hh cx hn Z O hE=>by
 refine bN hE hh (F_R07_Right_1 cx l) ?_
 rintro i r hm Z O hf
 simp only[Fits,bB,bA,and_true] at hf
 unfold jZ at hm
 dsimp only at hm
 refine aZ ?_
 refine srs hn ?_
 simp -dsimp [hf]
 rcases bz hm with ⟨c3,hm⟩ | ⟨c3,hm⟩
 ·refine b9 (by simp -dsimp) c3 ?_
  refine b0 (aY (aZ (b7 ?_)))
  refine srs hn ?_
  obtain⟨x,h4,hm⟩:=bnd hm
  simp -dsimp [hf,c3,h4]
  obtain⟨a1,j13,hm⟩:=bnd hm
  refine scE [(0,.u (.one (dR2 l))),(3,vI i),(54,vT a1)] [] ?_ fun Z O hf=>?_
  ·replace hm:=j13
   clear j13
   exact zz
  ·clear j13
   exact zz
 ·exact zz⟩
instance c_R07_Right (l r):CtP (mq l=some r) (bc Tryz.prog 103 [.u (.one (dR2 l))] (vT r)):=⟨fun hm=>by
 refine cu Tryz.func103 Tryz.ntmps103 fun cx hn=>?_
 unfold mq at hm
 refine srs hn ?_
 simp -dsimp
 refine aZ ?_
 obtain⟨a,j15,hm⟩:=bnd hm
 refine scE [(0,.u (.one (dR2 l))),(12,vT a)] [] ?_ fun Z O hf=>?_
 ·replace hm:=j15
  clear j15
  exact zz
 ·clear j15
  simp only[Fits,bB,bA,and_true] at hf
  rcases bz hm with ⟨c2,hm⟩ | ⟨c2,hm⟩
  ·exact zz
  ·refine bf (by simp -dsimp [hf]) c2 ?_
   refine b0 (aY (aZ ?_))
   refine srs hn ?_
   simp -dsimp
   refine b7 ?_
   obtain⟨o_,g14,hm⟩:=bnd hm
   refine bG (LtP.pf g14 cx hn) (by
     try dsimp only
     exact EE.here (by simp -dsimp [hf])
   ) fun ee Z O xx=>?_
   rcases o_ with r | _u
   ·exact zz
   ·exact zz⟩
end Go.Proofs.YtjlckgeecihpbaaGreatDoor
