/- That the code does what the functions say (made by cc.py). -/
import Derived.Test.YtlifofijgddjkacGreatDoorWa8
namespace Go.Proofs.YtlifofijgddjkacGreatDoor
open Go.AM Go.Proofs
set_option maxRecDepth 100000
attribute [-simp] eR fS jn Ob.wipe Ob.ren Ob.frz1
theorem gZ (s:List Int) (r:Bool) (hm:bX s=some r):bg Tryz.prog 19 [.u (.one (dL s)),.u (.one (.fn 45 []))] (vT r):=by
 refine dG Tryz.func19 Tryz.ntmps19 fun cx hn=>?_
 unfold bX at hm
 refine srs hn ?_
 simp -dsimp
 refine srs hn ?_
 obtain⟨y,h1,hm⟩:=bnd hm
 simp -dsimp
 refine bi (iQ s y h1) (dkL hn) ?_
 simp -dsimp
 cases hm
 exact b0 ⟨.inr rfl,EE.here (by simp -dsimp)⟩
theorem c_grid_Right (gv:Grid) (r:Bool) (hm:kr gv=some r):bg Tryz.prog 18 [.u (.agg [dI gv.W,dI gv.H,dI gv.Edge,dL gv.Cells])] (vT r):=by
 refine dG Tryz.func18 Tryz.ntmps18 fun cx hn=>?_
 unfold kr at hm
 refine srs hn ?_
 simp -dsimp
 obtain⟨a,j5,hm⟩:=bnd hm
 refine scE [(2,vT a)] [] ?_ fun Z O hf=>?_
 ·replace hm:=j5
  clear j5
  refine sr1 hn ?_
  obtain⟨y,h1,hm⟩:=bnd hm
  simp -dsimp
  refine bi (c_grid_sized gv.W gv.H gv.Edge y h1) (dkL hn) ?_
  rcases bc hm with ⟨c2,hm⟩ | ⟨c2,hm⟩
  ·rcases bc hm with ⟨c3,hm⟩ | ⟨c3,hm⟩
   ·obtain⟨y1,h4,hm⟩:=bnd hm
    simp -dsimp [c2,c3]
    refine bi (gZ gv.Cells y1 h4) (dkL hn) ?_
    simp -dsimp
    cases hm
    exact EE.here (by simp -dsimp)
   ·simp -dsimp [c2,c3]
    cases hm
    exact EE.here (by simp -dsimp)
  ·simp -dsimp [c2]
   cases hm
   exact EE.here (by simp -dsimp)
 ·clear j5
  simp only[Fits,bv,bu,and_true] at hf
  cases hm
  exact b0 ⟨.inr rfl,EE.here (by simp -dsimp [hf])⟩
theorem c_unroll_Parents_1 (s:Int) (a:Tree) (r:Bool) (hm:fL s a=some r):bg Tryz.prog 20 [vI s,.u (.one (.ref (Tree.row a) 0))] (vT r):=by
 refine dG Tryz.func20 Tryz.ntmps20 fun cx hn=>?_
 unfold fL at hm
 refine srs hn ?_
 simp -dsimp
 refine srs hn ?_
 simp -dsimp
 cases hm
 exact b0 ⟨.inr rfl,EE.here (by simp -dsimp)⟩
def bF (cx:Cx) (_s:List Int) (_cv:Tree) (tt:Int ⊕ Unit) (ee:Exit) (Z:Env) (O:Sto):Prop:=match tt with
 | .inl r=>ee=.ret/\EE cx (fun Z O=>∃ v,iR tb Z O Tryz.f46.results.toList=some v/\(v.frz O).free=true/\(v.frz O).wk (vI r)) Z O
 | .inr _u=>ee=.exit 0/\EE cx (bY [] []) Z O
theorem gz (cx:Cx) (hn:cx.n=19) (s:List Int) (cv:Tree) {fu:Nat} {stt:Int} {tt:Int ⊕ Unit} (hh:bh (bo s cv) fu stt=some tt) {Z:Env} {O:Sto}
  (hE:cw (fun a:Int=>[(0,.u (.one (dL s))),(1,.u (.one (.fn 20 [.ref (Tree.row cv) 0]))),(7,vI (b9 s)),(8,vI a)]) (fun _a:Int=>[]) stt Z O):Swp Tryz.prog cx (.loop (dx [1,0,1,0,0] (bQ Tryz.f46))) Z O (bF cx s cv tt):=by
 refine cz hE hh (bF cx s cv) ?_
 rintro a r hm Z O hf
 simp only[Fits,bv,bu,and_true] at hf
 unfold bo at hm
 dsimp only at hm
 refine srs hn ?_
 simp -dsimp [hf]
 refine aZ ?_
 rcases bc hm with ⟨c1,hm⟩ | ⟨c1,hm⟩
 ·refine aW (by simp -dsimp) c1 ?_
  refine aY (aU (aZ (b7 ?_)))
  refine srs hn ?_
  simp -dsimp [hf,c1]
  refine srs hn ?_
  obtain⟨x,h2,hm⟩:=bnd hm
  obtain⟨y,h3,hm⟩:=bnd hm
  simp -dsimp [hf,h2]
  refine bi (c_unroll_Parents_1 x cv y h3) (dkL hn) ?_
  simp -dsimp
  rcases bc hm with ⟨c4,hm⟩ | ⟨c4,hm⟩
  ·refine aW (by simp -dsimp) c4 ?_
   refine srs hn ?_
   simp -dsimp [c4]
   refine b0 (cy (b8 ?_))
   cases hm
   refine bz nofun ?_
   exact⟨rfl,EE.here (by simp -dsimp [Tryz.results46])⟩
  ·refine aV (by simp -dsimp) c4 ?_
   refine aY ?_
   refine bI ?_
   refine aU ?_
   refine sr1 hn ?_
   simp -dsimp [hf,c4]
   cases hm
   refine bC ?_
   exact EE.here (by simp -dsimp [hf])
 ·refine aV (by simp -dsimp) c1 ?_
  refine bp ?_
  refine b8 ?_
  cases hm
  refine bz nofun ?_
  exact⟨rfl,EE.here (by simp -dsimp [c1])⟩
theorem gP (s:List Int) (cv:Tree) (r:Int) (hm:bW s cv=some r):bg Tryz.prog 46 [.u (.one (dL s)),.u (.one (.fn 20 [.ref (Tree.row cv) 0]))] (vI r):=by
 refine dG Tryz.func46 Tryz.ntmps46 fun cx hn=>?_
 unfold bW at hm
 refine srs hn ?_
 simp -dsimp
 refine aZ ?_
 refine srs hn ?_
 simp -dsimp
 refine b7 ?_
 obtain⟨o_,g5,hm⟩:=bnd hm
 refine bP (gz cx hn s cv g5) (by
   try dsimp only
   exact eeh
 ) fun ee Z O xx=>?_
 rcases o_ with r | _u
 ·unfold bF at xx
  dsimp only at xx
  obtain⟨rfl,xx⟩:=xx
  refine cy (b8 ?_)
  cases hm
  exact⟨.inr rfl,xx⟩
 ·unfold bF at xx
  dsimp only at xx
  obtain⟨rfl,xx⟩:=xx
  refine br ?_
  refine aU ?_
  refine see xx fun Z O hf=>?_
  simp only[Fits,bv,bu,and_true] at hf
  refine srs hn ?_
  simp -dsimp
  cases hm
  exact b0 ⟨.inr rfl,EE.here (by simp -dsimp)⟩
theorem gr (s:List Int) (cv:Tree) (r:Bool) (hm:bB s cv=some r):bg Tryz.prog 19 [.u (.one (dL s)),.u (.one (.fn 20 [.ref (Tree.row cv) 0]))] (vT r):=by
 refine dG Tryz.func19 Tryz.ntmps19 fun cx hn=>?_
 unfold bB at hm
 refine srs hn ?_
 simp -dsimp
 refine srs hn ?_
 obtain⟨y,h1,hm⟩:=bnd hm
 simp -dsimp
 refine bi (gP s cv y h1) (dkL hn) ?_
 simp -dsimp
 cases hm
 exact b0 ⟨.inr rfl,EE.here (by simp -dsimp)⟩
theorem lO (ab:Int) (ah:List (List Int)) (aa:Int) (ag:List Point) (ae:List Node) (ak:Int) (ai:List (List UInt8×Tree)) (r:Unit) (hm:ec ab ah aa ag ae ak ai=some r):GFn Tryz.prog 26 [vX 1000000,.u (.one (.d .nil))] [.box [dI ab,.own 1000001,dI aa,dR2 ag,dR1 ae,dI ak,.map 1000002],.row 1 26 (List.map (rS 1 (rI .i64)) ah),mOb .str kS (uA Tree.row) ai] (.tup []) [some (.box [dI ab,.own 1000003,dI aa,dR2 ag,dR1 ae,dI ak,.map 1000002]),none,some (mOb .str kS (uA Tree.row) ai),some (.row 1 26 (List.map (rS 1 (rI .i64)) (ah++[[]])))]:=by
 refine dj bL _ Tryz.func26 rfl (by kernel_rfl) (by simp[Tryz.ntmps26]) (by simp) (by first | rfl | simp) (by first | rfl | simp) fun cx hn hk=>?_
 replace hn:cx.n=16:=hn.trans Tryz.ntmps26
 replace hk:cx.k=3:=hk
 unfold ec at hm
 refine sr1 hn ?_
 obtain⟨l,h1,hm⟩:=bnd hm
 obtain⟨h1a,h1e⟩:=ct h1
 replace h1e:=h1e.symm
 subst h1e
 try simp only[List.length_cons,List.length_nil,Nat.zero_add] at h1a
 simp -dsimp [h1a]
 cases hm
 try refine⟨.inl rfl,?_⟩
 refine emr 12 1000003 hk ?_
 exact EE.here (by simp -dsimp)
def eO (cx:Cx) (_gv:Grid) (_y3:Int) (y4:Int×(List Point)×(List Node)×Int) (y5:(List Ba)×(List (List Int))×Int) (tt:(B9×Int×Int) ⊕ ((List (List UInt8×Tree))×Int×(List (List Int)))) (ee:Exit) (Z:Env) (O:Sto):Prop:=match tt with
 | .inl r=>ee=.ret/\EE cx (fun Z O=>∃ v,iR tb Z O Tryz.f6.results.toList=some v/\(v.frz O).free=true/\(v.frz O).wk (.tup [.agg [dI r.1.Vars,.d (.sl 1 (List.map (rS 1 (rI .i64)) r.1.Clauses))],.one (dI r.2.1),.one (dI r.2.2)])) Z O
 | .inr (mp,ab,l)=>ee=.exit 1/\EE cx (bY [(4,vX 4),(5,vI y5.2.2),(9,vX 5001)] [(4,.box [dI 0,.d .nil]),(5000,mOb .str kS (uA Tree.row) mp),(5001,.box [dI ab,.own 5002,dI y4.1,dR2 y4.2.1,dR1 y4.2.2.1,dI y4.2.2.2,.map 5000]),(5002,.row 1 26 (List.map (rS 1 (rI .i64)) l))]) Z O
set_option maxHeartbeats 1000000 in
theorem l_unroll_Parents_1 (cx:Cx) (hn:cx.n=122) (gv:Grid) (y3:Int) (y4:Int×(List Point)×(List Node)×Int) (y5:(List Ba)×(List (List Int))×Int) {fu:Nat} {stt:Int×(List (List UInt8×Tree))×Int×(List (List Int))} {tt:(B9×Int×Int) ⊕ ((List (List UInt8×Tree))×Int×(List (List Int)))} (hh:bh (dY gv y3 y4 y5) fu stt=some tt) {Z:Env} {O:Sto}
  (hE:cw (fun stt:Int×(List (List UInt8×Tree))×Int×(List (List Int))=>match stt with | (a,_mp,_ab,_l)=>[(3,vX 3),(4,vX 4),(5,vI y5.2.2),(9,vX 5001),(10,vX 10),(68,.u (.one (dL gv.Cells))),(69,vI (b9 gv.Cells)),(70,vI a)]) (fun stt:Int×(List (List UInt8×Tree))×Int×(List (List Int))=>match stt with | (_a,mp,ab,l)=>[(3,.box [dI gv.W,dI gv.H,dI gv.Edge,dL gv.Cells]),(4,.box [dI 0,.d .nil]),(10,.box [dI ((⟨(cQ .i64 y3),(cQ .i64 y3),(bm .i64 gv.W (bO .i64 2 y3)),(bm .i64 gv.H (bO .i64 2 y3))⟩:Box).X),dI ((⟨(cQ .i64 y3),(cQ .i64 y3),(bm .i64 gv.W (bO .i64 2 y3)),(bm .i64 gv.H (bO .i64 2 y3))⟩:Box).Y),dI ((⟨(cQ .i64 y3),(cQ .i64 y3),(bm .i64 gv.W (bO .i64 2 y3)),(bm .i64 gv.H (bO .i64 2 y3))⟩:Box).W),dI ((⟨(cQ .i64 y3),(cQ .i64 y3),(bm .i64 gv.W (bO .i64 2 y3)),(bm .i64 gv.H (bO .i64 2 y3))⟩:Box).H),dR3 y5.1]),(5000,mOb .str kS (uA Tree.row) mp),(5001,.box [dI ab,.own 5002,dI y4.1,dR2 y4.2.1,dR1 y4.2.2.1,dI y4.2.2.2,.map 5000]),(5002,.row 1 26 (List.map (rS 1 (rI .i64)) l))]) stt Z O):Swp Tryz.prog cx (.loop (dx [1,1,1,1,1,1,1,1,0,1,0,0] (bQ Tryz.f6))) Z O (eO cx gv y3 y4 y5 tt):=by
 refine cz hE hh (eO cx gv y3 y4 y5) ?_
 rintro⟨a,mp,ab,l⟩ r hm Z O hf
 simp only[Fits,bv,bu,and_true] at hf
 unfold dY at hm
 dsimp only at hm
 refine srs hn ?_
 simp -dsimp [hf]
 refine aZ ?_
 rcases bc hm with ⟨c11,hm⟩ | ⟨c11,hm⟩
 ·refine aW (by simp -dsimp) c11 ?_
  refine aY (aU (aZ (b7 ?_)))
  refine srs hn ?_
  obtain⟨x,h12,hm⟩:=bnd hm
  simp -dsimp [hf,c11,h12]
  refine sw_midps bL mixed [(13,14),(14,16)] [0,1,2,3,4,5,6,7,8,9,10,11,15,12,13,14,16,17] [0,1,2,3,4,5,6,7,8,9,10,11,13,14,15,12,16,17] 11 12 16 12 [[]] [[5004]] [false,true,true,true] (some (13,.box [dI 0,dI 0,dI 0,dI 0,.d .nil])) (by rw[hn]; kernel_rfl) (by dsimp only [iL,mz,adO,rnL,pmL,pk,rnO,rnG,jv,List.cons_append,List.nil_append]<;>exact rfl) (fltT_some 73 _ (by kernel_rfl) rfl rfl rfl (by simp[C.wipe])) ?_
  dsimp only [List.take,List.drop,gL,gU,jx,pk,List.cons_append,List.nil_append,List.flatten_cons,List.flatten_nil,eJ,eK,List.append_nil]
  obtain⟨n,h13,hm⟩:=bnd hm
  obtain⟨n1,h14,hm⟩:=bnd hm
  obtain⟨y6,h15,hm⟩:=bnd hm
  simp -dsimp [hf,h13,h14]
  refine lN (jX ab l y4.1 y4.2.1 y4.2.2.1 y4.2.2.2 mp (⟨⟨(⟨(cQ .i64 y3),(cQ .i64 y3),(bm .i64 gv.W (bO .i64 2 y3)),(bm .i64 gv.H (bO .i64 2 y3))⟩:Box).X,(⟨(cQ .i64 y3),(cQ .i64 y3),(bm .i64 gv.W (bO .i64 2 y3)),(bm .i64 gv.H (bO .i64 2 y3))⟩:Box).Y,(⟨(cQ .i64 y3),(cQ .i64 y3),(bm .i64 gv.W (bO .i64 2 y3)),(bm .i64 gv.H (bO .i64 2 y3))⟩:Box).W,(⟨(cQ .i64 y3),(cQ .i64 y3),(bm .i64 gv.W (bO .i64 2 y3)),(bm .i64 gv.H (bO .i64 2 y3))⟩:Box).H⟩,y5.1⟩:Bc) (⟨n,n1,1,1⟩:Box) false y6 h15) [5001,5002,5000] [5004] rfl rfl rfl (by simp -dsimp) rfl (by simp -dsimp [hf]) (by first | rfl | simp) rfl (dkL hn) rfl rfl (by simp) (by rintro _ _ ⟨⟩; simp[C.wipe]) (by simp) ?_
  simp -dsimp
  refine aZ ?_
  refine srs hn ?_
  simp -dsimp
  rcases bc hm with ⟨c16,hm⟩ | ⟨c16,hm⟩
  ·refine aW (by simp -dsimp) c16 ?_
   refine srs hn ?_
   simp -dsimp [hf,c16]
   refine b0 (b8 (cy (b8 ?_)))
   cases hm
   refine bz nofun ?_
   exact⟨rfl,EE.here (by simp -dsimp [hf,Tryz.results6])⟩
  ·refine aV (by simp -dsimp) c16 ?_
   refine aY (aU ?_)
   refine srs hn ?_
   obtain⟨x1,h17,hm⟩:=bnd hm
   simp -dsimp [c16,h17]
   refine b7 ?_
   refine srs hn ?_
   simp -dsimp
   rcases bc hm with ⟨c18,hm⟩ | ⟨c18,hm⟩
   ·refine aW (by simp -dsimp) c18 ?_
    refine sr1 hn ?_
    obtain⟨u,h19,hm⟩:=bnd hm
    obtain⟨y7,h20,hm⟩:=bnd hm
    simp -dsimp [hf,c18,eQ h19 1 (rI .i64)]
    refine clg (ft y6.2.2.2.2.2.2.1 y6.2.2.2.2.2.2.2.2 y4.1 y4.2.1 y4.2.2.1 y4.2.2.2 y6.2.2.2.2.2.2.2.1 x1.vars x y7 h20) [5001,5004,5000] [5005] (by simp -dsimp) (dkL hn) ?_
    simp -dsimp
    refine bI ?_
    refine bI ?_
    refine aU ?_
    refine sr1 hn ?_
    simp -dsimp [hf]
    cases hm
    refine bC ?_
    refine emv 5005 5002 ?_
    exact EE.here (by simp -dsimp [hf])
   ·refine aV (by simp -dsimp) c18 ?_
    refine srs hn ?_
    simp -dsimp [c18]
    rcases bc hm with ⟨c21,hm⟩ | ⟨c21,hm⟩
    ·refine aW (by simp -dsimp) c21 ?_
     refine sr1 hn ?_
     obtain⟨y7,h22,hm⟩:=bnd hm
     simp -dsimp [hf,c21]
     refine clg (lO y6.2.2.2.2.2.2.1 y6.2.2.2.2.2.2.2.2 y4.1 y4.2.1 y4.2.2.1 y4.2.2.2 y6.2.2.2.2.2.2.2.1 y7 h22) [5001,5004,5000] [5006] (by simp -dsimp) (dkL hn) ?_
     simp -dsimp
     refine bI ?_
     refine bI ?_
     refine aU ?_
     refine sr1 hn ?_
     simp -dsimp [hf]
     cases hm
     refine bC ?_
     refine emv 5006 5002 ?_
     exact EE.here (by simp -dsimp [hf])
    ·refine aV (by simp -dsimp) c21 ?_
     refine aY ?_
     refine bI ?_
     refine bI ?_
     refine aU ?_
     refine sr1 hn ?_
     simp -dsimp [hf,c21]
     cases hm
     refine bC ?_
     refine emv 5004 5002 ?_
     exact EE.here (by simp -dsimp [hf])
 ·refine aV (by simp -dsimp) c11 ?_
  refine bp ?_
  refine b8 ?_
  cases hm
  refine bz nofun ?_
  exact⟨rfl,EE.here (by simp -dsimp [hf,c11])⟩
set_option maxHeartbeats 1000000 in
theorem nY (t:Tree) (gv:Grid) (r:B9×Int×Int) (hm:e7 t gv=some r):bg Tryz.prog 6 [.u (.agg [dI t.States,dR2 t.Hood,dR1 t.Nodes]),.u (.agg [dI gv.W,dI gv.H,dI gv.Edge,dL gv.Cells])] (.tup [.agg [dI r.1.Vars,.d (.sl 1 (List.map (rS 1 (rI .i64)) r.1.Clauses))],.one (dI r.2.1),.one (dI r.2.2)]):=by
 refine dG Tryz.func6 Tryz.ntmps6 fun cx hn=>?_
 unfold e7 at hm
 refine srs hn ?_
 simp -dsimp
 refine aZ (b7 ?_)
 refine srs hn ?_
 obtain⟨y,h1,hm⟩:=bnd hm
 simp -dsimp
 refine bi (lV t y h1) (dkL hn) ?_
 simp -dsimp
 rcases bc hm with ⟨c2,hm⟩ | ⟨c2,hm⟩
 ·refine aW (by simp -dsimp) c2 ?_
  refine srs hn ?_
  simp -dsimp [c2]
  refine b0 (cy (b8 ?_))
  cases hm
  refine⟨.inr rfl,?_⟩
  exact EE.here (by simp -dsimp)
 ·refine aV (by simp -dsimp) c2 ?_
  refine srs hn ?_
  obtain⟨y1,h3,hm⟩:=bnd hm
  simp -dsimp [c2]
  refine bi (c_grid_Right gv y1 h3) (dkL hn) ?_
  simp -dsimp
  rcases bc hm with ⟨c4,hm⟩ | ⟨c4,hm⟩
  ·refine aW (by simp -dsimp) c4 ?_
   refine srs hn ?_
   simp -dsimp [c4]
   refine b0 (cy (b8 ?_))
   cases hm
   refine⟨.inr rfl,?_⟩
   exact EE.here (by simp -dsimp)
  ·refine aV (by simp -dsimp) c4 ?_
   refine srs hn ?_
   obtain⟨y2,h5,hm⟩:=bnd hm
   simp -dsimp [c4]
   refine m8 (us':=[.u (.one (dL gv.Cells)),.u (.one (.fn 20 [.ref (Tree.row t) 0]))]) (gr gv.Cells t y2 h5) (by simp -dsimp) rfl (dkL hn) ?_
   simp -dsimp
   rcases bc hm with ⟨c6,hm⟩ | ⟨c6,hm⟩
   ·refine aW (by simp -dsimp) c6 ?_
    refine srs hn ?_
    simp -dsimp [c6]
    refine b0 (cy (b8 ?_))
    cases hm
    refine⟨.inr rfl,?_⟩
    exact EE.here (by simp -dsimp)
   ·refine aV (by simp -dsimp) c6 ?_
    refine aY ?_
    refine bI ?_
    refine aU ?_
    refine srs hn ?_
    obtain⟨y3,h7,hm⟩:=bnd hm
    simp -dsimp [c6]
    refine bi (c_hood_Radius t.Hood y3 h7) (dkL hn) ?_
    simp -dsimp
    refine srs hn ?_
    simp -dsimp
    refine aZ ?_
    refine srs hn ?_
    simp -dsimp
    rcases bc hm with ⟨c8,hm⟩ | ⟨c8,hm⟩
    ·refine aW (by simp -dsimp) c8 ?_
     refine srs hn ?_
     simp -dsimp [c8]
     refine b0 (b8 ?_)
     cases hm
     refine⟨.inr rfl,?_⟩
     exact EE.here (by simp -dsimp)
    ·refine aV (by simp -dsimp) c8 ?_
     refine aY (aU ?_)
     refine srs hn ?_
     obtain⟨y4,h9,hm⟩:=bnd hm
     simp -dsimp [c8]
     refine clg (g_unroll_start t y4 h9) [] [5000,5001] (by simp -dsimp) (dkL hn) ?_
     simp -dsimp
     refine Swp.pre (Wk.own0b 5001 1 5002 1 26 [dI 0,.d .nil,dI y4.1,dR2 y4.2.1,dR1 y4.2.2.1,dI y4.2.2.2,.map 5000] (by simp -dsimp) (by rfl) (by decide) (by decide)) ?_
     refine srs hn ?_
     obtain⟨y5,h10,hm⟩:=bnd hm
     simp -dsimp
     refine clg (jY 0 [] y4.1 y4.2.1 y4.2.2.1 y4.2.2.2 [] (⟨(cQ .i64 y3),(cQ .i64 y3),(bm .i64 gv.W (bO .i64 2 y3)),(bm .i64 gv.H (bO .i64 2 y3))⟩:Box) y5 h10) [5001,5002,5000] [5003] (by simp -dsimp) (dkL hn) ?_
     simp -dsimp
     refine srs hn ?_
     simp -dsimp
     refine aZ ?_
     refine srs hn ?_
     simp -dsimp
     refine b7 ?_
     obtain⟨o_,g23,hm⟩:=bnd hm
     refine bP (l_unroll_Parents_1 cx hn gv y3 y4 y5 g23) (by
       try dsimp only
       refine emv 5003 5002 ?_
       exact EE.here (by simp -dsimp)
     ) fun ee Z O xx=>?_
     rcases o_ with r | ⟨mp,ab,l⟩
     ·unfold eO at xx
      dsimp only at xx
      obtain⟨rfl,xx⟩:=xx
      refine cy (b8 ?_)
      cases hm
      exact⟨.inr rfl,xx⟩
     ·unfold eO at xx
      dsimp only at xx
      obtain⟨rfl,xx⟩:=xx
      refine br ?_
      refine aU ?_
      refine see xx fun Z O hf=>?_
      simp only[Fits,bv,bu,and_true] at hf
      refine aZ ?_
      refine srs hn ?_
      obtain⟨y6,h24,hm⟩:=bnd hm
      simp -dsimp [hf]
      refine clg (gt ab l y4.1 y4.2.1 y4.2.2.1 y4.2.2.2 mp y6 h24) [5001,5002,5000] [] (by simp -dsimp [hf]) (dkL hn) ?_
      simp -dsimp
      rcases bc hm with ⟨c25,hm⟩ | ⟨c25,hm⟩
      ·refine aW (by simp -dsimp) c25 ?_
       refine srs hn ?_
       simp -dsimp [hf,c25]
       refine b0 (b8 ?_)
       cases hm
       refine⟨.inr rfl,?_⟩
       exact EE.here (by simp -dsimp [hf])
      ·refine aV (by simp -dsimp) c25 ?_
       refine aY (aU ?_)
       refine srs hn ?_
       simp -dsimp [hf,c25]
       cases hm
       exact b0 ⟨.inr rfl,EE.here (by simp -dsimp [hf])⟩
theorem c_unroll_Bits_1 (cv:Cell) (a:B8) (r:Bool) (hm:lD cv a=some r):bg Tryz.prog 38 [.u (.agg [dI cv.X,dI cv.Y,dI cv.S]),.u (.one (.ref (B8.row a) 0))] (vT r):=by
 refine dG Tryz.func38 Tryz.ntmps38 fun cx hn=>?_
 unfold lD at hm
 refine srs hn ?_
 simp -dsimp
 obtain⟨a1,j4,hm⟩:=bnd hm
 refine scE [(3,vT a1)] [] ?_ fun Z O hf=>?_
 ·replace hm:=j4
  clear j4
  refine sr1 hn ?_
  rcases bc hm with ⟨c1,hm⟩ | ⟨c1,hm⟩
  ·simp -dsimp [c1]
   cases hm
   exact EE.here (by simp -dsimp)
  ·rcases bc hm with ⟨c2,hm⟩ | ⟨c2,hm⟩
   ·simp -dsimp [c1,c2]
    cases hm
    exact EE.here (by simp -dsimp)
   ·rcases bc hm with ⟨c3,hm⟩ | ⟨c3,hm⟩
    ·simp -dsimp [c1,c2,c3]
     cases hm
     exact EE.here (by simp -dsimp)
    ·simp -dsimp [c1,c2,c3]
     cases hm
     exact EE.here (by simp -dsimp)
 ·clear j4
  simp only[Fits,bv,bu,and_true] at hf
  cases hm
  exact b0 ⟨.inr rfl,EE.here (by simp -dsimp [hf])⟩
def bw (cx:Cx) (_s:List Cell) (_cv:B8) (tt:Int ⊕ Unit) (ee:Exit) (Z:Env) (O:Sto):Prop:=match tt with
 | .inl r=>ee=.ret/\EE cx (fun Z O=>∃ v,iR tb Z O Tryz.f61.results.toList=some v/\(v.frz O).free=true/\(v.frz O).wk (vI r)) Z O
 | .inr _u=>ee=.exit 0/\EE cx (bY [] []) Z O
theorem eU (cx:Cx) (hn:cx.n=19) (s:List Cell) (cv:B8) {fu:Nat} {stt:Int} {tt:Int ⊕ Unit} (hh:bh (cj s cv) fu stt=some tt) {Z:Env} {O:Sto}
  (hE:cw (fun a:Int=>[(0,.u (.one (dR0 s))),(1,.u (.one (.fn 38 [.ref (B8.row cv) 0]))),(7,vI (b9 s)),(8,vI a)]) (fun _a:Int=>[]) stt Z O):Swp Tryz.prog cx (.loop (dx [1,0,1,0,0] (bQ Tryz.f61))) Z O (bw cx s cv tt):=by
 refine cz hE hh (bw cx s cv) ?_
 rintro a r hm Z O hf
 simp only[Fits,bv,bu,and_true] at hf
 unfold cj at hm
 dsimp only at hm
 refine srs hn ?_
 simp -dsimp [hf]
 refine aZ ?_
 rcases bc hm with ⟨c1,hm⟩ | ⟨c1,hm⟩
 ·refine aW (by simp -dsimp) c1 ?_
  refine aY (aU (aZ (b7 ?_)))
  refine srs hn ?_
  simp -dsimp [hf,c1]
  refine srs hn ?_
  obtain⟨x,h2,hm⟩:=bnd hm
  obtain⟨y,h3,hm⟩:=bnd hm
  simp -dsimp [hf,h2]
  refine bi (c_unroll_Bits_1 x cv y h3) (dkL hn) ?_
  simp -dsimp
  rcases bc hm with ⟨c4,hm⟩ | ⟨c4,hm⟩
  ·refine aW (by simp -dsimp) c4 ?_
   refine srs hn ?_
   simp -dsimp [c4]
   refine b0 (cy (b8 ?_))
   cases hm
   refine bz nofun ?_
   exact⟨rfl,EE.here (by simp -dsimp [Tryz.results61])⟩
  ·refine aV (by simp -dsimp) c4 ?_
   refine aY ?_
   refine bI ?_
   refine aU ?_
   refine sr1 hn ?_
   simp -dsimp [hf,c4]
   cases hm
   refine bC ?_
   exact EE.here (by simp -dsimp [hf])
 ·refine aV (by simp -dsimp) c1 ?_
  refine bp ?_
  refine b8 ?_
  cases hm
  refine bz nofun ?_
  exact⟨rfl,EE.here (by simp -dsimp [c1])⟩
theorem fo (s:List Cell) (cv:B8) (r:Int) (hm:cr s cv=some r):bg Tryz.prog 61 [.u (.one (dR0 s)),.u (.one (.fn 38 [.ref (B8.row cv) 0]))] (vI r):=by
 refine dG Tryz.func61 Tryz.ntmps61 fun cx hn=>?_
 unfold cr at hm
 refine srs hn ?_
 simp -dsimp
 refine aZ ?_
 refine srs hn ?_
 simp -dsimp
 refine b7 ?_
 obtain⟨o_,g5,hm⟩:=bnd hm
 refine bP (eU cx hn s cv g5) (by
   try dsimp only
   exact eeh
 ) fun ee Z O xx=>?_
 rcases o_ with r | _u
 ·unfold bw at xx
  dsimp only at xx
  obtain⟨rfl,xx⟩:=xx
  refine cy (b8 ?_)
  cases hm
  exact⟨.inr rfl,xx⟩
 ·unfold bw at xx
  dsimp only at xx
  obtain⟨rfl,xx⟩:=xx
  refine br ?_
  refine aU ?_
  refine see xx fun Z O hf=>?_
  simp only[Fits,bv,bu,and_true] at hf
  refine srs hn ?_
  simp -dsimp
  cases hm
  exact b0 ⟨.inr rfl,EE.here (by simp -dsimp)⟩
theorem eT (s:List Cell) (cv:B8) (r:Bool) (hm:ch s cv=some r):bg Tryz.prog 37 [.u (.one (dR0 s)),.u (.one (.fn 38 [.ref (B8.row cv) 0]))] (vT r):=by
 refine dG Tryz.func37 Tryz.ntmps37 fun cx hn=>?_
 unfold ch at hm
 refine srs hn ?_
 simp -dsimp
 refine srs hn ?_
 obtain⟨y,h1,hm⟩:=bnd hm
 simp -dsimp
 refine bi (fo s cv y h1) (dkL hn) ?_
 simp -dsimp
 cases hm
 exact b0 ⟨.inr rfl,EE.here (by simp -dsimp)⟩
section
attribute [-simp] List.map_set List.set_set
def jG (cx:Cx) (x:B8) (p:List Cell) (y2 a1:Int) (_out:List Bool) (_x1:Cell) (tt:(List Bool)) (ee:Exit) (Z:Env) (O:Sto):Prop:=match tt with
 | aQ=>ee=.exit 2/\EE cx (bY [(4,vX 4),(9,vI y2),(10,vO 43),(44,.u (.one (dR0 p))),(45,vI (b9 p)),(46,vI a1)] [(4,.box [dI x.W,dI x.H,dI x.Gens,dI x.DX,dI x.DY,dL x.Syms]),(43,.row 1 4 (List.map rB aQ))]) Z O
theorem l_unroll_Bits_2 (cx:Cx) (hn:cx.n=77) (x:B8) (p:List Cell) (y2 a1:Int) (out:List Bool) (x1:Cell) {fu:Nat} {stt:Int×(List Bool)} {tt:(List Bool)} (hh:bh (lu x p y2 a1 out x1) fu stt=some tt) {Z:Env} {O:Sto}
  (hE:cw (fun stt:Int×(List Bool)=>match stt with | (a2,_aQ)=>[(4,vX 4),(9,vI y2),(10,vO 43),(12,vX 12),(44,.u (.one (dR0 p))),(45,vI (b9 p)),(46,vI a1),(50,vI y2),(51,vI a2)]) (fun stt:Int×(List Bool)=>match stt with | (_a2,aQ)=>[(4,.box [dI x.W,dI x.H,dI x.Gens,dI x.DX,dI x.DY,dL x.Syms]),(12,.box [dI x1.X,dI x1.Y,dI x1.S]),(43,.row 1 4 (List.map rB aQ))]) stt Z O):Swp Tryz.prog cx (.loop (dx [1,1,1,1,1,1,0,1,0,0,1,1,0,0,1,1,0,0] (bQ Tryz.f13))) Z O (jG cx x p y2 a1 out x1 tt):=by
 refine cz hE hh (jG cx x p y2 a1 out x1) ?_
 rintro⟨a2,aQ⟩ r hm Z O hf
 simp only[Fits,bv,bu,and_true] at hf
 unfold lu at hm
 dsimp only at hm
 refine srs hn ?_
 simp -dsimp [hf]
 refine aZ ?_
 rcases bc hm with ⟨c13,hm⟩ | ⟨c13,hm⟩
 ·refine aW (by simp -dsimp) c13 ?_
  refine aY (aU (aZ (b7 ?_)))
  refine srs hn ?_
  simp -dsimp [hf,c13]
  refine oT bL mixed 19 (by rw[hn]; kernel_rfl) ?_
  dsimp only [List.take,List.drop]
  obtain⟨n,h14,hm⟩:=bnd hm
  obtain⟨x2,h15,hm⟩:=bnd hm
  simp -dsimp [hf,h14,h15,df h15,rsetB aQ (bm .i64 (bO .i64 (bm .i64 (bO .i64 x1.Y x.W) x1.X) y2) a2).toNat (eqB (iand .i64 n 1) 1)]
  refine bI ?_
  refine aU ?_
  refine sr1 hn ?_
  simp -dsimp [hf]
  cases hm
  refine bC ?_
  exact EE.here (by simp -dsimp [hf])
 ·refine aV (by simp -dsimp) c13 ?_
  refine bp ?_
  refine b8 ?_
  cases hm
  refine bz nofun ?_
  exact⟨rfl,EE.here (by simp -dsimp [hf,c13])⟩
def jI (cx:Cx) (_x:B8) (_p:List Cell) (_y2:Int) (tt:(List Bool)) (ee:Exit) (Z:Env) (O:Sto):Prop:=match tt with
 | out=>ee=.exit 0/\EE cx (bY [(10,vO 43)] [(43,.row 1 4 (List.map rB out))]) Z O
theorem l_unroll_Bits_1 (cx:Cx) (hn:cx.n=77) (x:B8) (p:List Cell) (y2:Int) {fu:Nat} {stt:Int×(List Bool)} {tt:(List Bool)} (hh:bh (lA x p y2) fu stt=some tt) {Z:Env} {O:Sto}
  (hE:cw (fun stt:Int×(List Bool)=>match stt with | (a1,_out)=>[(4,vX 4),(9,vI y2),(10,vO 43),(44,.u (.one (dR0 p))),(45,vI (b9 p)),(46,vI a1)]) (fun stt:Int×(List Bool)=>match stt with | (_a1,out)=>[(4,.box [dI x.W,dI x.H,dI x.Gens,dI x.DX,dI x.DY,dL x.Syms]),(43,.row 1 4 (List.map rB out))]) stt Z O):Swp Tryz.prog cx (.loop (dx [1,1,1,1,1,1,0,1,0,0] (bQ Tryz.f13))) Z O (jI cx x p y2 tt):=by
 refine cz hE hh (jI cx x p y2) ?_
 rintro⟨a1,out⟩ r hm Z O hf
 simp only[Fits,bv,bu,and_true] at hf
 unfold lA at hm
 dsimp only at hm
 refine srs hn ?_
 simp -dsimp [hf]
 refine aZ ?_
 rcases bc hm with ⟨c11,hm⟩ | ⟨c11,hm⟩
 ·refine aW (by simp -dsimp) c11 ?_
  refine aY (aU (aZ (b7 ?_)))
  refine srs hn ?_
  obtain⟨x1,h12,hm⟩:=bnd hm
  simp -dsimp [hf,c11,h12]
  refine srs hn ?_
  simp -dsimp [hf]
  refine b7 ?_
  obtain⟨aQ,g16,hm⟩:=bnd hm
  refine bP (l_unroll_Bits_2 cx hn x p y2 a1 out x1 g16) (by
    try dsimp only
    exact EE.here (by simp -dsimp [hf])
  ) fun ee Z O xx=>?_
  unfold jG at xx
  dsimp only at xx
  obtain⟨rfl,xx⟩:=xx
  refine br ?_
  refine bI ?_
  refine aU ?_
  refine see xx fun Z O hf=>?_
  simp only[Fits,bv,bu,and_true] at hf
  refine sr1 hn ?_
  simp -dsimp [hf]
  cases hm
  refine bC ?_
  exact EE.here (by simp -dsimp [hf])
 ·refine aV (by simp -dsimp) c11 ?_
  refine bp ?_
  refine b8 ?_
  cases hm
  refine bz nofun ?_
  exact⟨rfl,EE.here (by simp -dsimp [hf,c11])⟩
theorem c_unroll_Bits (t:Tree) (x:B8) (p:List Cell) (r:(List Bool)×Int) (hm:nz t x p=some r):bg Tryz.prog 13 [.u (.agg [dI t.States,dR2 t.Hood,dR1 t.Nodes]),.u (.agg [dI x.W,dI x.H,dI x.Gens,dI x.DX,dI x.DY,dL x.Syms]),.u (.one (dR0 p))] (.tup [.one (.d (.sl 1 (List.map rB r.1))),.one (dI r.2)]):=by
 refine dG Tryz.func13 Tryz.ntmps13 fun cx hn=>?_
 unfold nz at hm
 refine srs hn ?_
 simp -dsimp
 refine aZ ?_
 refine srs hn ?_
 obtain⟨y,h1,hm⟩:=bnd hm
 simp -dsimp
 refine bi (lj t x y h1) (dkL hn) ?_
 simp -dsimp
 refine srs hn ?_
 simp -dsimp
 rcases bc hm with ⟨c2,hm⟩ | ⟨c2,hm⟩
 ·refine aW (by simp -dsimp) c2 ?_
  refine srs hn ?_
  simp -dsimp [c2]
  refine b0 (b8 ?_)
  cases hm
  refine⟨.inr rfl,?_⟩
  exact EE.here (by simp -dsimp)
 ·refine aV (by simp -dsimp) c2 ?_
  refine aY (aU (aZ ?_))
  obtain⟨a,j18,hm⟩:=bnd hm
  refine scE [(2,.u (.one (dR0 p))),(3,vX 3),(4,vX 4),(27,vT a)] [(3,.box [dI t.States,dR2 t.Hood,dR1 t.Nodes]),(4,.box [dI x.W,dI x.H,dI x.Gens,dI x.DX,dI x.DY,dL x.Syms])] ?_ fun Z O hf=>?_
  ·replace hm:=j18
   clear j18
   refine sr1 hn ?_
   obtain⟨y1,h3,hm⟩:=bnd hm
   simp -dsimp [c2]
   refine bi (c_pattern_Right p y1 h3) (dkL hn) ?_
   rcases bc hm with ⟨c4,hm⟩ | ⟨c4,hm⟩
   ·simp -dsimp [c4]
    cases hm
    exact EE.here (by simp -dsimp)
   ·obtain⟨y2,h5,hm⟩:=bnd hm
    simp -dsimp [c4]
    refine m8 (us':=[.u (.one (dR0 p)),.u (.one (.fn 38 [.ref (B8.row x) 0]))]) (eT p x y2 h5) (by simp -dsimp) rfl (dkL hn) ?_
    simp -dsimp
    cases hm
    exact EE.here (by simp -dsimp)
  ·clear j18
   simp only[Fits,bv,bu,and_true] at hf
   rcases bc hm with ⟨c6,hm⟩ | ⟨c6,hm⟩
   ·refine aW (by simp -dsimp [hf]) c6 ?_
    refine srs hn ?_
    simp -dsimp
    refine b0 (b8 ?_)
    cases hm
    refine⟨.inr rfl,?_⟩
    exact EE.here (by simp -dsimp)
   ·refine aV (by simp -dsimp [hf]) c6 ?_
    refine aY (aU (aZ ?_))
    refine fQ bL mixed (by rw[hn]; kernel_rfl) ?_
    obtain⟨y1,h7,hm⟩:=bnd hm
    simp -dsimp [hf]
    refine bn (c_pattern_Top p y1 h7) ?_
    simp -dsimp [hf]
    rcases bc hm with ⟨c8,hm⟩ | ⟨c8,hm⟩
    ·refine aW (by simp -dsimp) c8 ?_
     refine srs hn ?_
     simp -dsimp [c8]
     refine b0 (b8 ?_)
     cases hm
     refine⟨.inr rfl,?_⟩
     exact EE.here (by simp -dsimp)
    ·refine aV (by simp -dsimp) c8 ?_
     refine aY (aU ?_)
     refine srs hn ?_
     obtain⟨y2,h9,hm⟩:=bnd hm
     simp -dsimp [hf,c8]
     refine bi (lS t.States y2 h9) (dkL hn) ?_
     simp -dsimp
     refine srs hn ?_
     obtain⟨l,h10,hm⟩:=bnd hm
     obtain⟨⟨h10a,h10b,h10c⟩,rfl⟩:=mkL_some h10
     rw[Int.mul_one] at h10c
     simp -dsimp [hf,h10a,h10c]
     refine aZ ?_
     refine srs hn ?_
     simp -dsimp [hf]
     refine b7 ?_
     obtain⟨out,g17,hm⟩:=bnd hm
     refine bP (l_unroll_Bits_1 cx hn x p y2 g17) (by
       try dsimp only
       exact EE.here (by simp -dsimp [hf])
     ) fun ee Z O xx=>?_
     unfold jI at xx
     dsimp only at xx
     obtain⟨rfl,xx⟩:=xx
     refine br ?_
     refine aU ?_
     refine see xx fun Z O hf=>?_
     simp only[Fits,bv,bu,and_true] at hf
     refine srs hn ?_
     simp -dsimp [hf]
     cases hm
     exact b0 ⟨.inr rfl,EE.here (by simp -dsimp [hf])⟩
end
def jH (cx:Cx) (_l:List Bool) (tt:Int) (ee:Exit) (Z:Env) (O:Sto):Prop:=match tt with
 | n=>ee=.exit 0/\EE cx (bY [(3,vI n)] []) Z O
theorem l_lower_State_1 (cx:Cx) (hn:cx.n=23) (l:List Bool) {fu:Nat} {stt:Int×Int} {tt:Int} (hh:bh (lz l) fu stt=some tt) {Z:Env} {O:Sto}
  (hE:cw (fun stt:Int×Int=>match stt with | (n,a)=>[(3,vI n),(9,.u (.one (.d (.sl 1 (List.map rB l))))),(10,vI (b9 l)),(11,vI a)]) (fun stt:Int×Int=>match stt with | (_n,_a)=>[]) stt Z O):Swp Tryz.prog cx (.loop (dx [1,1,1,0,1,0,0] (bQ Tryz.f41))) Z O (jH cx l tt):=by
 refine cz hE hh (jH cx l) ?_
 rintro⟨n,a⟩ r hm Z O hf
 simp only[Fits,bv,bu,and_true] at hf
 unfold lz at hm
 dsimp only at hm
 refine srs hn ?_
 simp -dsimp [hf]
 refine aZ ?_
 rcases bc hm with ⟨c2,hm⟩ | ⟨c2,hm⟩
 ·refine aW (by simp -dsimp) c2 ?_
  refine aY (aU ?_)
  obtain⟨n1,j6,hm⟩:=bnd hm
  refine scE [(3,vI n1),(9,.u (.one (.d (.sl 1 (List.map rB l))))),(10,vI (b9 l)),(11,vI a)] [] ?_ fun Z O hf=>?_
  ·replace hm:=j6
   clear j6
   refine b7 ?_
   refine srs hn ?_
   obtain⟨x,h3,hm⟩:=bnd hm
   simp -dsimp [hf,c2,h3]
   refine srs hn ?_
   simp -dsimp
   rcases bc hm with ⟨c4,hm⟩ | ⟨c4,hm⟩
   ·refine aW (by simp -dsimp) c4 ?_
    refine sr1 hn ?_
    obtain⟨n1,h5,hm⟩:=bnd hm
    simp -dsimp [hf,c4,h5]
    refine bI ?_
    cases hm
    exact EE.here (by simp -dsimp [hf])
   ·refine aV (by simp -dsimp) c4 ?_
    refine aY ?_
    refine bI ?_
    cases hm
    exact EE.here (by simp -dsimp [hf,c4])
  ·clear j6
   simp only[Fits,bv,bu,and_true] at hf
   refine sr1 hn ?_
   simp -dsimp [hf]
   cases hm
   refine bC ?_
   exact EE.here (by simp -dsimp [hf])
 ·refine aV (by simp -dsimp) c2 ?_
  refine bp ?_
  refine b8 ?_
  cases hm
  refine bz nofun ?_
  exact⟨rfl,EE.here (by simp -dsimp [hf,c2])⟩
theorem c_lower_State (l:List Bool) (r:Int) (hm:nw l=some r):bg Tryz.prog 41 [.u (.one (.d (.sl 1 (List.map rB l))))] (vI r):=by
 refine dG Tryz.func41 Tryz.ntmps41 fun cx hn=>?_
 unfold nw at hm
 refine srs hn ?_
 simp -dsimp
 refine aZ ?_
 refine srs hn ?_
 simp -dsimp
 rcases bc hm with ⟨c1,hm⟩ | ⟨c1,hm⟩
 ·refine sct c1 ?_
  refine srs hn ?_
  simp -dsimp [c1]
  refine b0 (b8 ?_)
  cases hm
  refine⟨.inr rfl,?_⟩
  exact EE.here (by simp -dsimp)
 ·refine scf c1 ?_
  refine aY (aU ?_)
  refine srs hn ?_
  simp -dsimp [c1]
  refine aZ ?_
  refine srs hn ?_
  simp -dsimp
  refine b7 ?_
  obtain⟨n,g7,hm⟩:=bnd hm
  refine bP (l_lower_State_1 cx hn l g7) (by
    try dsimp only
    exact EE.here (by simp -dsimp)
  ) fun ee Z O xx=>?_
  unfold jH at xx
  dsimp only at xx
  obtain⟨rfl,xx⟩:=xx
  refine br ?_
  refine aU ?_
  refine see xx fun Z O hf=>?_
  simp only[Fits,bv,bu,and_true] at hf
  refine srs hn ?_
  simp -dsimp [hf]
  cases hm
  exact b0 ⟨.inr rfl,EE.here (by simp -dsimp)⟩
end Go.Proofs.YtlifofijgddjkacGreatDoor
