/- That the code does what the functions say (made by cc.py). -/
import Derived.Test.YtbgliammfkgfoaaGreatDoorMdx1
import Derived.Test.YtbgliammfkgfoaaGreatDoorTb
import Derived.Test.YtbgliammfkgfoaaGreatDoorLays
namespace Go.Proofs.YtbgliammfkgfoaaGreatDoor
open Go.AM Go.Proofs
set_option maxRecDepth 100000
attribute [-simp] dD e6 gg Ob.wipe Ob.ren Ob.frz1
def nH (cx:Cx) (_t:Tree) (x:Bh) (tt:Bool ⊕ Unit) (ee:Exit) (Z:Env) (O:Sto):Prop:=match tt with
 | .inl r=>ee=.ret/\EE cx (fun Z O=>∃ v,gF tb Z O Tryz.f17.results.toList=some v/\(v.frz O).free=true/\(v.frz O).wk (vT r)) Z O
 | .inr _u=>ee=.exit 0/\EE cx (bH [(3,vX 3)] [(3,.box [dI x.W,dI x.H,dI x.Gens,dI x.DX,dI x.DY,dL x.Syms])]) Z O
instance l_L45_Small_1 (t x) {fu stt tt}:LtP (bm (jd t x) fu stt=some tt) (lp 81 stt (fun a1=>[(2,vX 2),(3,vX 3),(34,vI (bf t.Nodes)),(35,vI a1)]) (fun _a1=>[(2,.box [dI t.States,dR2 t.Hood,dR1 t.Nodes]),(3,.box [dI x.W,dI x.H,dI x.Gens,dI x.DX,dI x.DY,dL x.Syms])]) (cD [1,1,0,1,0,0] (bC Tryz.f17)) fun cx=>nH cx t x tt):=⟨fun hh cx hn Z O hE=>by
 refine bZ hE hh (nH cx t x) ?_
 rintro a1 r hm Z O hf
 simp only[Fits,bv,bw,and_true] at hf
 unfold jd at hm
 exact zz⟩
instance c_L45_Small (t x r):CtP (kV t x=some r) (bj Tryz.prog 17 [.u (.agg [dI t.States,dR2 t.Hood,dR1 t.Nodes]),.u (.agg [dI x.W,dI x.H,dI x.Gens,dI x.DX,dI x.DY,dL x.Syms])] (vT r)):=⟨fun hm=>by
 refine db Tryz.func17 Tryz.ntmps17 fun cx hn=>?_
 unfold kV at hm
 refine srs hn ?_
 simp -dsimp
 refine ba ?_
 obtain⟨a,j16,hm⟩:=bnd hm
 refine scE [(2,vX 2),(3,vX 3),(31,vT a)] [(2,.box [dI t.States,dR2 t.Hood,dR1 t.Nodes]),(3,.box [dI x.W,dI x.H,dI x.Gens,dI x.DX,dI x.DY,dL x.Syms])] ?_ fun Z O hf=>?_
 ·replace hm:=j16
  clear j16
  exact zz
 ·clear j16
  simp only[Fits,bv,bw,and_true] at hf
  rcases bz hm with ⟨c5,hm⟩ | ⟨c5,hm⟩
  ·exact zz
  ·refine bi (by simp -dsimp [hf]) c5 ?_
   refine be (b9 (ba ?_))
   refine srs hn ?_
   simp -dsimp [hf]
   refine bb ?_
   obtain⟨o_,g9,hm⟩:=bnd hm
   refine bG (LtP.pf g9 cx hn) (by
     try dsimp only
     exact EE.here (by simp -dsimp [hf])
   ) fun ee Z O xx=>?_
   rcases o_ with r | _u
   ·exact zz
   ·unfold nH at xx
    dsimp only at xx
    obtain⟨rfl,xx⟩:=xx
    refine bA ?_
    refine b9 ?_
    refine see xx fun Z O hf=>?_
    simp only[Fits,bv,bw,and_true] at hf
    obtain⟨a1,j15,hm⟩:=bnd hm
    refine scE [(4,vT a1)] [] ?_ fun Z O hf=>?_
    ·replace hm:=j15
     clear j15
     exact zz
    ·clear j15
     exact zz⟩
instance c_L48_shift (r):CtP (m_L48_shift=some r) (bj Tryz.prog 26 [] (.u (.agg [dI r.States,dR2 r.Hood,dR1 r.Nodes]))):=⟨fun hm=>by
 refine db Tryz.func26 Tryz.ntmps26 fun cx hn=>?_
 unfold m_L48_shift at hm
 exact zz⟩
instance c_cmp_isNaN_int (x r):CtP (gY x=some r) (bj Tryz.prog 128 [vI x] (vT r)):=⟨fun hm=>by
 refine db Tryz.func128 Tryz.ntmps128 fun cx hn=>?_
 unfold gY at hm
 refine srs hn ?_
 simp -dsimp
 refine srs hn ?_
 simp -dsimp
 refine bq ?_
 cases hm
 refine⟨.inr rfl,?_⟩
 exact EE.here (by simp -dsimp)⟩
instance c_cmp_Compare_int (x y r):CtP (dG x y=some r) (bj Tryz.prog 108 [vI x,vI y] (vI r)):=⟨fun hm=>by
 refine db Tryz.func108 Tryz.ntmps108 fun cx hn=>?_
 unfold dG at hm
 exact zz⟩
def F_cmp_Or_int_1 (cx:Cx) (_vals:List Int) (tt:Int ⊕ Unit) (ee:Exit) (Z:Env) (O:Sto):Prop:=match tt with
 | .inl r=>ee=.ret/\EE cx (fun Z O=>∃ v,gF tb Z O Tryz.f131.results.toList=some v/\(v.frz O).free=true/\(v.frz O).wk (vI r)) Z O
 | .inr _u=>ee=.exit 0/\EE cx (bH [(3,vI 0)] []) Z O
instance l_cmp_Or_int_1 (vals) {fu stt tt}:LtP (bm (gB vals) fu stt=some tt) (lp 18 stt (fun a=>[(3,vI 0),(6,.u (.one (dL vals))),(7,vI (bf vals)),(8,vI a)]) (fun _a=>[]) (cD [1,1,0,1,0,0] (bC Tryz.f131)) fun cx=>F_cmp_Or_int_1 cx vals tt):=⟨fun hh cx hn Z O hE=>by
 refine bZ hE hh (F_cmp_Or_int_1 cx vals) ?_
 rintro a r hm Z O hf
 simp only[Fits,bv,bw,and_true] at hf
 unfold gB at hm
 exact zz⟩
instance c_cmp_Or_int (vals r):CtP (k4 vals=some r) (bj Tryz.prog 131 [.u (.one (dL vals))] (vI r)):=⟨fun hm=>by
 refine db Tryz.func131 Tryz.ntmps131 fun cx hn=>?_
 unfold k4 at hm
 refine srs hn ?_
 simp -dsimp
 refine srs hn ?_
 simp -dsimp
 refine ba ?_
 refine srs hn ?_
 simp -dsimp
 refine bb ?_
 obtain⟨o_,g4,hm⟩:=bnd hm
 refine bG (LtP.pf g4 cx hn) (by
   try dsimp only
   exact eeh
 ) fun ee Z O xx=>?_
 rcases o_ with r | _u
 ·exact zz
 ·exact zz⟩
instance c_point_Compare (a b r):CtP (gU a b=some r) (bj Tryz.prog 114 [.u (.agg [dI a.X,dI a.Y]),.u (.agg [dI b.X,dI b.Y])] (vI r)):=⟨fun hm=>by
 refine db Tryz.func114 Tryz.ntmps114 fun cx hn=>?_
 unfold gU at hm
 refine srs hn ?_
 simp -dsimp
 refine ly bE mixed (by rw[hn]; kernel_rfl) ?_
 obtain⟨y,h1,hm⟩:=bnd hm
 simp -dsimp
 refine br (CtP.pf h1) ?_
 obtain⟨y1,h2,hm⟩:=bnd hm
 simp -dsimp
 refine br (CtP.pf h2) ?_
 obtain⟨y2,h3,hm⟩:=bnd hm
 simp -dsimp
 refine br (CtP.pf h3) ?_
 simp -dsimp
 refine bq ?_
 cases hm
 refine⟨.inr rfl,?_⟩
 exact EE.here (by simp -dsimp)⟩
def F_hood_Right_1 (cx:Cx) (_l:List Point) (tt:Bool ⊕ Unit) (ee:Exit) (Z:Env) (O:Sto):Prop:=match tt with
 | .inl r=>ee=.ret/\EE cx (fun Z O=>∃ v,gF tb Z O Tryz.f75.results.toList=some v/\(v.frz O).free=true/\(v.frz O).wk (vT r)) Z O
 | .inr _u=>ee=.exit 0/\EE cx (bH [] []) Z O
instance l_hood_Right_1 (l) {fu stt tt}:LtP (bm (iC l) fu stt=some tt) (lp 53 stt (fun a1=>[(0,.u (.one (dR2 l))),(13,.u (.one (dR2 l))),(14,vI (bf l)),(15,vI a1)]) (fun _a1=>[]) (cD [1,1,0,1,0,0] (bC Tryz.f75)) fun cx=>F_hood_Right_1 cx l tt):=⟨fun hh cx hn Z O hE=>by
 refine bZ hE hh (F_hood_Right_1 cx l) ?_
 rintro a1 r hm Z O hf
 simp only[Fits,bv,bw,and_true] at hf
 unfold iC at hm
 dsimp only at hm
 refine srs hn ?_
 simp -dsimp [hf]
 refine ba ?_
 rcases bz hm with ⟨c3,hm⟩ | ⟨c3,hm⟩
 ·refine bg (by simp -dsimp) c3 ?_
  refine be (b9 (ba (bb ?_)))
  refine srs hn ?_
  obtain⟨x,h4,hm⟩:=bnd hm
  simp -dsimp [hf,c3,h4]
  obtain⟨a2,j13,hm⟩:=bnd hm
  refine scE [(0,.u (.one (dR2 l))),(13,.u (.one (dR2 l))),(14,vI (bf l)),(15,vI a1),(51,vT a2)] [] ?_ fun Z O hf=>?_
  ·replace hm:=j13
   clear j13
   exact zz
  ·clear j13
   exact zz
 ·exact zz⟩
instance c_hood_Right (l r):CtP (iJ l=some r) (bj Tryz.prog 75 [.u (.one (dR2 l))] (vT r)):=⟨fun hm=>by
 refine db Tryz.func75 Tryz.ntmps75 fun cx hn=>?_
 unfold iJ at hm
 refine srs hn ?_
 simp -dsimp
 refine ba ?_
 obtain⟨a,j15,hm⟩:=bnd hm
 refine scE [(0,.u (.one (dR2 l))),(12,vT a)] [] ?_ fun Z O hf=>?_
 ·replace hm:=j15
  clear j15
  exact zz
 ·clear j15
  simp only[Fits,bv,bw,and_true] at hf
  rcases bz hm with ⟨c2,hm⟩ | ⟨c2,hm⟩
  ·exact zz
  ·refine bi (by simp -dsimp [hf]) c2 ?_
   refine be (b9 (ba ?_))
   refine srs hn ?_
   simp -dsimp [hf]
   refine bb ?_
   obtain⟨o_,g14,hm⟩:=bnd hm
   refine bG (LtP.pf g14 cx hn) (by
     try dsimp only
     exact EE.here (by simp -dsimp [hf])
   ) fun ee Z O xx=>?_
   rcases o_ with r | _u
   ·exact zz
   ·exact zz⟩
def F_tree_Right_2 (cx:Cx) (t:Tree) (a1:Int) (_x:Node) (tt:Bool ⊕ Unit) (ee:Exit) (Z:Env) (O:Sto):Prop:=match tt with
 | .inl r=>ee=.ret/\EE cx (fun Z O=>∃ v,gF tb Z O Tryz.f46.results.toList=some v/\(v.frz O).free=true/\(v.frz O).wk (vT r)) Z O
 | .inr _u=>ee=.exit 2/\EE cx (bH [(1,vX 1),(47,.u (.one (dR1 t.Nodes))),(48,vI (bf t.Nodes)),(49,vI a1)] [(1,.box [dI t.States,dR2 t.Hood,dR1 t.Nodes])]) Z O
instance l_tree_Right_2 (t a1 x) {fu stt tt}:LtP (bm (gl t a1 x) fu stt=some tt) (lp 117 stt (fun a3=>[(1,vX 1),(4,vI a1),(5,vX 5),(47,.u (.one (dR1 t.Nodes))),(48,vI (bf t.Nodes)),(49,vI a1),(74,.u (.one (dL x.Next))),(75,vI (bf x.Next)),(76,vI a3)]) (fun _a3=>[(1,.box [dI t.States,dR2 t.Hood,dR1 t.Nodes]),(5,.box [dI x.Level,dL x.Next])]) (cD [1,1,1,0,1,0,0,1,1,0,0,1,1,1,0,0] (bC Tryz.f46)) fun cx=>F_tree_Right_2 cx t a1 x tt):=⟨fun hh cx hn Z O hE=>by
 refine bZ hE hh (F_tree_Right_2 cx t a1 x) ?_
 rintro a3 r hm Z O hf
 simp only[Fits,bv,bw,and_true] at hf
 unfold gl at hm
 dsimp only at hm
 refine srs hn ?_
 simp -dsimp [hf]
 refine ba ?_
 rcases bz hm with ⟨c14,hm⟩ | ⟨c14,hm⟩
 ·refine bg (by simp -dsimp) c14 ?_
  refine be (b9 (ba (bb ?_)))
  refine srs hn ?_
  obtain⟨x1,h15,hm⟩:=bnd hm
  simp -dsimp [hf,c14,h15]
  obtain⟨a4,j26,hm⟩:=bnd hm
  refine scE [(1,vX 1),(4,vI a1),(5,vX 5),(47,.u (.one (dR1 t.Nodes))),(48,vI (bf t.Nodes)),(49,vI a1),(74,.u (.one (dL x.Next))),(75,vI (bf x.Next)),(76,vI a3),(114,vT a4)] [(1,.box [dI t.States,dR2 t.Hood,dR1 t.Nodes]),(5,.box [dI x.Level,dL x.Next])] ?_ fun Z O hf=>?_
  ·replace hm:=j26
   clear j26
   exact zz
  ·clear j26
   exact zz
 ·exact zz⟩
def F_tree_Right_1 (cx:Cx) (_t:Tree) (tt:Bool ⊕ Unit) (ee:Exit) (Z:Env) (O:Sto):Prop:=match tt with
 | .inl r=>ee=.ret/\EE cx (fun Z O=>∃ v,gF tb Z O Tryz.f46.results.toList=some v/\(v.frz O).free=true/\(v.frz O).wk (vT r)) Z O
 | .inr _u=>ee=.exit 0/\EE cx (bH [] []) Z O
instance l_tree_Right_1 (t) {fu stt tt}:LtP (bm (gr t) fu stt=some tt) (lp 117 stt (fun a1=>[(1,vX 1),(47,.u (.one (dR1 t.Nodes))),(48,vI (bf t.Nodes)),(49,vI a1)]) (fun _a1=>[(1,.box [dI t.States,dR2 t.Hood,dR1 t.Nodes])]) (cD [1,1,1,0,1,0,0] (bC Tryz.f46)) fun cx=>F_tree_Right_1 cx t tt):=⟨fun hh cx hn Z O hE=>by
 refine bZ hE hh (F_tree_Right_1 cx t) ?_
 rintro a1 r hm Z O hf
 simp only[Fits,bv,bw,and_true] at hf
 unfold gr at hm
 dsimp only at hm
 refine srs hn ?_
 simp -dsimp [hf]
 refine ba ?_
 rcases bz hm with ⟨c9,hm⟩ | ⟨c9,hm⟩
 ·refine bg (by simp -dsimp) c9 ?_
  refine be (b9 (ba (bb ?_)))
  refine srs hn ?_
  obtain⟨x,h10,hm⟩:=bnd hm
  simp -dsimp [hf,c9,h10]
  refine ba ?_
  obtain⟨a2,j28,hm⟩:=bnd hm
  refine scE [(1,vX 1),(4,vI a1),(5,vX 5),(47,.u (.one (dR1 t.Nodes))),(48,vI (bf t.Nodes)),(49,vI a1),(72,vT a2)] [(1,.box [dI t.States,dR2 t.Hood,dR1 t.Nodes]),(5,.box [dI x.Level,dL x.Next])] ?_ fun Z O hf=>?_
  ·replace hm:=j28
   clear j28
   exact zz
  ·clear j28
   simp only[Fits,bv,bw,and_true] at hf
   rcases bz hm with ⟨c13,hm⟩ | ⟨c13,hm⟩
   ·exact zz
   ·refine bi (by simp -dsimp [hf]) c13 ?_
    refine be (b9 ?_)
    refine srs hn ?_
    simp -dsimp [hf]
    refine bb ?_
    obtain⟨o_,g27,hm⟩:=bnd hm
    refine bG (LtP.pf g27 cx hn) (by
      try dsimp only
      refine EE.here ?_
      exact zz
    ) fun ee Z O xx=>?_
    rcases o_ with r | _u
    ·exact zz
    ·exact zz
 ·exact zz⟩
instance c_tree_Right (t r):CtP (eQ t=some r) (bj Tryz.prog 46 [.u (.agg [dI t.States,dR2 t.Hood,dR1 t.Nodes])] (vT r)):=⟨fun hm=>by
 refine db Tryz.func46 Tryz.ntmps46 fun cx hn=>?_
 unfold eQ at hm
 refine srs hn ?_
 simp -dsimp
 refine srs hn ?_
 simp -dsimp
 refine ba ?_
 obtain⟨a,j30,hm⟩:=bnd hm
 refine scE [(1,vX 1),(45,vT a)] [(1,.box [dI t.States,dR2 t.Hood,dR1 t.Nodes])] ?_ fun Z O hf=>?_
 ·replace hm:=j30
  clear j30
  exact zz
 ·clear j30
  simp only[Fits,bv,bw,and_true] at hf
  rcases bz hm with ⟨c8,hm⟩ | ⟨c8,hm⟩
  ·exact zz
  ·refine bi (by simp -dsimp [hf]) c8 ?_
   refine be (b9 (ba ?_))
   refine srs hn ?_
   simp -dsimp [hf]
   refine bb ?_
   obtain⟨o_,g29,hm⟩:=bnd hm
   refine bG (LtP.pf g29 cx hn) (by
     try dsimp only
     exact EE.here (by simp -dsimp [hf])
   ) fun ee Z O xx=>?_
   rcases o_ with r | _u
   ·exact zz
   ·exact zz⟩
instance c_grid_sized (w hv b0 r):CtP (lM w hv b0=some r) (bj Tryz.prog 80 [vI w,vI hv,vI b0] (vT r)):=⟨fun hm=>by
 refine db Tryz.func80 Tryz.ntmps80 fun cx hn=>?_
 unfold lM at hm
 refine srs hn ?_
 simp -dsimp
 obtain⟨a,j7,hm⟩:=bnd hm
 refine scE [(6,vT a)] [] ?_ fun Z O hf=>?_
 ·replace hm:=j7
  clear j7
  exact zz
 ·clear j7
  exact zz⟩
instance c_grid_Right_1 (s r):CtP (jN s=some r) (bj Tryz.prog 81 [vI s] (vT r)):=⟨fun hm=>by
 refine db Tryz.func81 Tryz.ntmps81 fun cx hn=>?_
 unfold jN at hm
 refine srs hn ?_
 simp -dsimp
 obtain⟨a,j2,hm⟩:=bnd hm
 refine scE [(2,vT a)] [] ?_ fun Z O hf=>?_
 ·replace hm:=j2
  clear j2
  exact zz
 ·clear j2
  exact zz⟩
def dK (cx:Cx) (_s:List Int) (tt:Int ⊕ Unit) (ee:Exit) (Z:Env) (O:Sto):Prop:=match tt with
 | .inl r=>ee=.ret/\EE cx (fun Z O=>∃ v,gF tb Z O Tryz.f82.results.toList=some v/\(v.frz O).free=true/\(v.frz O).wk (vI r)) Z O
 | .inr _u=>ee=.exit 0/\EE cx (bH [] []) Z O
instance l_slices_IndexFunc_int_int_grid_Right_1_1 (s) {fu stt tt}:LtP (bm (bF s) fu stt=some tt) (lp 19 stt (fun a=>[(0,.u (.one (dL s))),(1,.u (.one (.fn 81 []))),(7,vI (bf s)),(8,vI a)]) (fun _a=>[]) (cD [1,0,1,0,0] (bC Tryz.f82)) fun cx=>dK cx s tt):=⟨fun hh cx hn Z O hE=>by
 refine bZ hE hh (dK cx s) ?_
 rintro a r hm Z O hf
 simp only[Fits,bv,bw,and_true] at hf
 unfold bF at hm
 exact zz⟩
instance c_slices_IndexFunc_int_int_grid_Right_1 (s r):CtP (cn s=some r) (bj Tryz.prog 82 [.u (.one (dL s)),.u (.one (.fn 81 []))] (vI r)):=⟨fun hm=>by
 refine db Tryz.func82 Tryz.ntmps82 fun cx hn=>?_
 unfold cn at hm
 refine srs hn ?_
 simp -dsimp
 refine ba ?_
 refine srs hn ?_
 simp -dsimp
 refine bb ?_
 obtain⟨o_,g5,hm⟩:=bnd hm
 refine bG (LtP.pf g5 cx hn) (by
   try dsimp only
   exact eeh
 ) fun ee Z O xx=>?_
 rcases o_ with r | _u
 ·exact zz
 ·exact zz⟩
instance c_slices_ContainsFunc_int_int_grid_Right_1 (s r):CtP (bP s=some r) (bj Tryz.prog 48 [.u (.one (dL s)),.u (.one (.fn 81 []))] (vT r)):=⟨fun hm=>by
 refine db Tryz.func48 Tryz.ntmps48 fun cx hn=>?_
 unfold bP at hm
 refine srs hn ?_
 simp -dsimp
 refine srs hn ?_
 obtain⟨y,h1,hm⟩:=bnd hm
 simp -dsimp
 refine bp (CtP.pf h1) (dkL hn) ?_
 simp -dsimp
 refine bq ?_
 cases hm
 refine⟨.inr rfl,?_⟩
 exact EE.here (by simp -dsimp)⟩
instance c_grid_Right (gv r):CtP (iD gv=some r) (bj Tryz.prog 47 [.u (.agg [dI gv.W,dI gv.H,dI gv.Edge,dL gv.Cells])] (vT r)):=⟨fun hm=>by
 refine db Tryz.func47 Tryz.ntmps47 fun cx hn=>?_
 unfold iD at hm
 refine srs hn ?_
 simp -dsimp
 obtain⟨a,j5,hm⟩:=bnd hm
 refine scE [(2,vT a)] [] ?_ fun Z O hf=>?_
 ·replace hm:=j5
  clear j5
  refine sr1 hn ?_
  obtain⟨y,h1,hm⟩:=bnd hm
  simp -dsimp
  refine bp (CtP.pf h1) (dkL hn) ?_
  rcases bz hm with ⟨c2,hm⟩ | ⟨c2,hm⟩
  ·rcases bz hm with ⟨c3,hm⟩ | ⟨c3,hm⟩
   ·obtain⟨y1,h4,hm⟩:=bnd hm
    simp -dsimp [c2,c3]
    refine bp (CtP.pf h4) (dkL hn) ?_
    simp -dsimp
    cases hm
    exact EE.here (by simp -dsimp)
   ·simp -dsimp [c2,c3]
    cases hm
    exact EE.here (by simp -dsimp)
  ·simp -dsimp [c2]
   cases hm
   exact EE.here (by simp -dsimp)
 ·clear j5
  exact zz⟩
instance c_unroll_Parents_1 (s a r):CtP (jt s a=some r) (bj Tryz.prog 49 [vI s,.u (.one (.ref (Tree.row a) 0))] (vT r)):=⟨fun hm=>by
 refine db Tryz.func49 Tryz.ntmps49 fun cx hn=>?_
 unfold jt at hm
 refine srs hn ?_
 simp -dsimp
 refine srs hn ?_
 simp -dsimp
 refine bq ?_
 cases hm
 refine⟨.inr rfl,?_⟩
 exact EE.here (by simp -dsimp)⟩
def dm (cx:Cx) (_s:List Int) (_cv:Tree) (tt:Int ⊕ Unit) (ee:Exit) (Z:Env) (O:Sto):Prop:=match tt with
 | .inl r=>ee=.ret/\EE cx (fun Z O=>∃ v,gF tb Z O Tryz.f82.results.toList=some v/\(v.frz O).free=true/\(v.frz O).wk (vI r)) Z O
 | .inr _u=>ee=.exit 0/\EE cx (bH [] []) Z O
instance l_slices_IndexFunc_int_int_unroll_Parents_1_1 (s cv) {fu stt tt}:LtP (bm (ct s cv) fu stt=some tt) (lp 19 stt (fun a=>[(0,.u (.one (dL s))),(1,.u (.one (.fn 49 [.ref (Tree.row cv) 0]))),(7,vI (bf s)),(8,vI a)]) (fun _a=>[]) (cD [1,0,1,0,0] (bC Tryz.f82)) fun cx=>dm cx s cv tt):=⟨fun hh cx hn Z O hE=>by
 refine bZ hE hh (dm cx s cv) ?_
 rintro a r hm Z O hf
 simp only[Fits,bv,bw,and_true] at hf
 unfold ct at hm
 exact zz⟩
instance c_slices_IndexFunc_int_int_unroll_Parents_1 (s cv r):CtP (cB s cv=some r) (bj Tryz.prog 82 [.u (.one (dL s)),.u (.one (.fn 49 [.ref (Tree.row cv) 0]))] (vI r)):=⟨fun hm=>by
 refine db Tryz.func82 Tryz.ntmps82 fun cx hn=>?_
 unfold cB at hm
 refine srs hn ?_
 simp -dsimp
 refine ba ?_
 refine srs hn ?_
 simp -dsimp
 refine bb ?_
 obtain⟨o_,g5,hm⟩:=bnd hm
 refine bG (LtP.pf g5 cx hn) (by
   try dsimp only
   exact eeh
 ) fun ee Z O xx=>?_
 rcases o_ with r | _u
 ·exact zz
 ·exact zz⟩
end Go.Proofs.YtbgliammfkgfoaaGreatDoor
namespace Go.Proofs.YtbgliammfkgfoaaGreatDoor
open Go.AM Go.Proofs
set_option maxRecDepth 100000
attribute [-simp] dD e6 gg Ob.wipe Ob.ren Ob.frz1
instance c_slices_ContainsFunc_int_int_unroll_Parents_1 (s cv r):CtP (cr s cv=some r) (bj Tryz.prog 48 [.u (.one (dL s)),.u (.one (.fn 49 [.ref (Tree.row cv) 0]))] (vT r)):=⟨fun hm=>by
 refine db Tryz.func48 Tryz.ntmps48 fun cx hn=>?_
 unfold cr at hm
 refine srs hn ?_
 simp -dsimp
 refine srs hn ?_
 obtain⟨y,h1,hm⟩:=bnd hm
 simp -dsimp
 refine bp (CtP.pf h1) (dkL hn) ?_
 simp -dsimp
 refine bq ?_
 cases hm
 refine⟨.inr rfl,?_⟩
 exact EE.here (by simp -dsimp)⟩
def lr (cx:Cx) (_l:List Point) (tt:Int) (ee:Exit) (Z:Env) (O:Sto):Prop:=match tt with
 | r_=>ee=.exit 0/\EE cx (bH [(3,vI r_)] []) Z O
instance l_hood_Radius_1 (l) {fu stt tt}:LtP (bm (dj l) fu stt=some tt) (lp 28 stt (fun | (r_,a)=>[(3,vI r_),(8,.u (.one (dR2 l))),(9,vI (bf l)),(10,vI a)]) (fun | (_r_,_a)=>[]) (cD [1,1,0,1,0,1,0,0] (bC Tryz.f39)) fun cx=>lr cx l tt):=⟨fun hh cx hn Z O hE=>by
 refine bZ hE hh (lr cx l) ?_
 rintro⟨r_,a⟩ r hm Z O hf
 simp only[Fits,bv,bw,and_true] at hf
 unfold dj at hm
 exact zz⟩
instance c_hood_Radius (l r):CtP (di l=some r) (bj Tryz.prog 39 [.u (.one (dR2 l))] (vI r)):=⟨fun hm=>by
 refine db Tryz.func39 Tryz.ntmps39 fun cx hn=>?_
 unfold di at hm
 refine srs hn ?_
 simp -dsimp
 refine srs hn ?_
 simp -dsimp
 obtain⟨r_,j6,hm⟩:=bnd hm
 refine scE [(3,vI r_)] [] ?_ fun Z O hf=>?_
 ·replace hm:=j6
  clear j6
  refine srs hn ?_
  obtain⟨y,h1,hm⟩:=bnd hm
  simp -dsimp
  refine bp (CtP.pf h1) (dkL hn) ?_
  simp -dsimp
  rcases bz hm with ⟨c2,hm⟩ | ⟨c2,hm⟩
  ·refine bg (by simp -dsimp) c2 ?_
   refine srs hn ?_
   simp -dsimp [c2]
   refine bb ?_
   obtain⟨r_,g5,hm⟩:=bnd hm
   refine bG (LtP.pf g5 cx hn) (by
     try dsimp only
     exact EE.here (by simp -dsimp)
   ) fun ee Z O xx=>?_
   unfold lr at xx
   dsimp only at xx
   obtain⟨rfl,xx⟩:=xx
   refine bA ?_
   refine b9 ?_
   cases hm
   refine ee_bind (by rfl) (by rfl) xx fun Z O hf=>?_
   simp only[Fits,bv,bw,and_true] at hf
   exact EE.here (by simp -dsimp [hf])
  ·refine bi (by simp -dsimp) c2 ?_
   refine be (b9 ?_)
   cases hm
   exact EE.here (by simp -dsimp [c2])
 ·clear j6
  exact zz⟩
theorem d7 (l r:List Int) (hm:cF l=some r):NewFn Tryz.prog 90 [.u (.one (dL l))] (fun o=>o=.row 1 3 (List.map (rI .i64) r)):=by
 refine new_S bE _ Tryz.func90 rfl (by kernel_rfl) (by simp[Tryz.ntmps90]) fun cx hn=>?_
 replace hn:cx.n=8:=hn.trans Tryz.ntmps90
 have ha:=(bL hm).1
 have hr:r=l:=(bL hm).2
 clear hm
 subst hr
 simp only[List.length_nil,Nat.zero_add] at ha
 refine srs hn ?_
 simp -dsimp
 refine ba ?_
 refine srs hn ?_
 cases r with
 | nil =>
  simp -dsimp
  refine⟨?_,?_⟩
  ·refine bg (b:=true) (by simp -dsimp) rfl ?_
   refine srs hn ?_
   simp -dsimp
   refine bq (cw ?_)
   refine⟨.inr rfl,?_⟩; simp -dsimp
  ·refine bi (b:=false) (by simp -dsimp) rfl ?_
   refine be (b9 ?_)
   refine srs hn ?_
   simp -dsimp
   refine bq ?_
   refine⟨.inr rfl,?_⟩; simp -dsimp
 | cons x xs =>
  simp -dsimp
  refine bi (b:=false) (by simp -dsimp) rfl ?_
  refine be (b9 ?_)
  refine srs hn ?_
  simp only[List.length_cons] at ha
  simp -dsimp [ha]
  refine bq ?_
  refine⟨.inr rfl,?_⟩; simp -dsimp
instance c_reduce_Reduce_1 (x next r):CtP (jW x next=some r) (bj Tryz.prog 116 [vI x,.u (.one (dL next))] (.u (.one (dL r)))):=⟨fun hm=>by
 refine db Tryz.func116 Tryz.ntmps116 fun cx hn=>?_
 unfold jW at hm
 exact zz⟩
theorem ge (l:List Int) (n base:Int) (r:List Int) (hm:dM l n base=some r):GFn Tryz.prog 156 [vO 1000000,.u (.one (.d (.int .u64 n))),vI base] [.row 1 5 (List.map (rI .u8) l)] (vO 1000001) [none,some (.row 1 5 (List.map (rI .u8) r))]:=appU_g gf rfl tf5 rfl rfl rfl rfl ⟨_,Tryz.func156,by decide,by kernel_rfl⟩ hm
theorem kx (i base:Int) (r:List Int) (hm:dW i base=some r):GFn Tryz.prog 154 [.u (.one (.d .nil)),vI i,vI base] [] (vO 1000000) [some (.row 1 5 (List.map (rI .u8) r))]:=by
 refine bY bE _ Tryz.func154 rfl (by kernel_rfl) (by simp[Tryz.ntmps154]) (by simp) (by first | rfl | simp) (by first | rfl | simp) fun cx hn hk=>?_
 replace hn:cx.n=21:=hn.trans Tryz.ntmps154
 replace hk:cx.k=0:=hk
 unfold dW at hm
 refine srs hn ?_
 simp -dsimp
 refine srs hn ?_
 simp -dsimp
 obtain⟨⟨u,dst⟩,j4,hm⟩:=bnd hm
 refine scE [(0,vO 5000),(2,vI base),(7,.u (.one (.d (.int .u64 u))))] [(5000,.row 1 5 (List.map (rI .u8) dst))] ?_ fun Z O hf=>?_
 ·replace hm:=j4
  clear j4
  refine srs hn ?_
  simp -dsimp
  rcases bz hm with ⟨c1,hm⟩ | ⟨c1,hm⟩
  ·refine sct c1 ?_
   refine srs hn ?_
   obtain⟨l,h2,hm⟩:=bnd hm
   obtain⟨h2a,h2e⟩:=bL h2
   replace h2e:=h2e.symm
   subst h2e
   try simp only[List.length_cons,List.length_nil,Nat.zero_add] at h2a
   try simp only[Nat.mul_one,Nat.reduceLeDiff] at h2a
   simp -dsimp [c1]
   refine sr1 hn ?_
   simp -dsimp
   refine b9 ?_
   cases hm
   refine emv 14 5000 ?_
   exact zz
  ·refine scf c1 ?_
   refine be (b9 ?_)
   cases hm
   refine EE.step (Wk.own0 0 5000 1 5 (by simp -dsimp [c1]) (by decide)) ?_
   exact zz
 ·clear j4
  simp only[Fits,bv,bw,and_true] at hf
  refine srs hn ?_
  obtain⟨y,h3,hm⟩:=bnd hm
  simp -dsimp [hf]
  refine clg (ge dst u base y h3) [5000] [5001] (by simp -dsimp [hf]) (dkL hn) ?_
  simp -dsimp
  refine bq ?_
  cases hm
  refine⟨.inr rfl,?_⟩
  refine emr 5001 1000000 hk ?_
  exact zz
theorem kq (i base:Int) (r:List Int) (hm:dT i base=some r):GFn Tryz.prog 149 [.u (.one (.d .nil)),vI i,vI base] [] (vO 1000000) [some (.row 1 5 (List.map (rI .u8) r))]:=by
 refine bY bE _ Tryz.func149 rfl (by kernel_rfl) (by simp[Tryz.ntmps149]) (by simp) (by first | rfl | simp) (by first | rfl | simp) fun cx hn hk=>?_
 replace hn:cx.n=11:=hn.trans Tryz.ntmps149
 replace hk:cx.k=0:=hk
 unfold dT at hm
 refine srs hn ?_
 simp -dsimp
 refine srs hn ?_
 obtain⟨y,h1,hm⟩:=bnd hm
 simp -dsimp
 refine clg (kx i base y h1) [] [5000] (by simp -dsimp) (dkL hn) ?_
 simp -dsimp
 refine bq ?_
 cases hm
 refine⟨.inr rfl,?_⟩
 refine emr 5000 1000000 hk ?_
 exact zz
theorem kv (dst:List Int) (i base:Int) (r:List Int) (hm:dV dst i base=some r):GFn Tryz.prog 154 [vO 1000000,vI i,vI base] [.row 1 5 (List.map (rI .u8) dst)] (vO 1000001) [none,some (.row 1 5 (List.map (rI .u8) r))]:=by
 refine bY bE _ Tryz.func154 rfl (by kernel_rfl) (by simp[Tryz.ntmps154]) (by simp) (by first | rfl | simp) (by first | rfl | simp) fun cx hn hk=>?_
 replace hn:cx.n=21:=hn.trans Tryz.ntmps154
 replace hk:cx.k=1:=hk
 unfold dV at hm
 refine srs hn ?_
 simp -dsimp
 refine srs hn ?_
 simp -dsimp
 obtain⟨⟨u,dst1⟩,j4,hm⟩:=bnd hm
 refine scE [(0,vO 5000),(2,vI base),(7,.u (.one (.d (.int .u64 u))))] [(5000,.row 1 5 (List.map (rI .u8) dst1))] ?_ fun Z O hf=>?_
 ·replace hm:=j4
  clear j4
  refine srs hn ?_
  simp -dsimp
  rcases bz hm with ⟨c1,hm⟩ | ⟨c1,hm⟩
  ·refine sct c1 ?_
   refine srs hn ?_
   obtain⟨l,h2,hm⟩:=bnd hm
   obtain⟨h2a,h2e⟩:=bL h2
   replace h2e:=h2e.symm
   subst h2e
   try simp only[List.length_cons,List.length_nil,Nat.zero_add] at h2a
   try simp only[Nat.mul_one,Nat.reduceLeDiff] at h2a
   simp -dsimp [c1,h2a]
   refine sr1 hn ?_
   simp -dsimp
   refine b9 ?_
   cases hm
   refine emv 14 5000 ?_
   exact zz
  ·refine scf c1 ?_
   refine be (b9 ?_)
   cases hm
   refine emv 1000000 5000 ?_
   exact zz
 ·clear j4
  simp only[Fits,bv,bw,and_true] at hf
  refine srs hn ?_
  obtain⟨y,h3,hm⟩:=bnd hm
  simp -dsimp [hf]
  refine clg (ge dst1 u base y h3) [5000] [5001] (by simp -dsimp [hf]) (dkL hn) ?_
  simp -dsimp
  refine bq ?_
  cases hm
  refine⟨.inr rfl,?_⟩
  refine emr 5001 1000001 hk ?_
  exact zz
theorem ko (dst:List Int) (i base:Int) (r:List Int) (hm:dc dst i base=some r):GFn Tryz.prog 149 [vO 1000000,vI i,vI base] [.row 1 5 (List.map (rI .u8) dst)] (vO 1000001) [none,some (.row 1 5 (List.map (rI .u8) r))]:=by
 refine bY bE _ Tryz.func149 rfl (by kernel_rfl) (by simp[Tryz.ntmps149]) (by simp) (by first | rfl | simp) (by first | rfl | simp) fun cx hn hk=>?_
 replace hn:cx.n=11:=hn.trans Tryz.ntmps149
 replace hk:cx.k=1:=hk
 unfold dc at hm
 refine srs hn ?_
 simp -dsimp
 refine srs hn ?_
 obtain⟨y,h1,hm⟩:=bnd hm
 simp -dsimp
 refine clg (kv dst i base y h1) [1000000] [5000] (by simp -dsimp) (dkL hn) ?_
 simp -dsimp
 refine bq ?_
 cases hm
 refine⟨.inr rfl,?_⟩
 refine emr 5000 1000001 hk ?_
 exact zz
def fy (cx:Cx) (ay:List Node) (aq:List (List UInt8×Int)) (level:Int) (next:List Int) (tt:(List Int)) (ee:Exit) (Z:Env) (O:Sto):Prop:=match tt with
 | keyv=>ee=.exit 0/\EE cx (bH [(0,vX 1000000),(1,vI level),(2,.u (.one (dL next))),(7,vO 5002)] [(5002,.row 1 5 (List.map (rI .u8) keyv)),(1000000,.box [.own 1000001,.map 1000002]),(1000001,.row 2 54 (List.map Node.row ay)),(1000002,mOb .str kS (uL (L.int .i64)) aq)]) Z O
theorem mW (cx:Cx) (hn:cx.n=68) (_hk:cx.k=3) (ay:List Node) (aq:List (List UInt8×Int)) (level:Int) (next:List Int) {fu:Nat} {stt:Int×(List Int)} {tt:(List Int)} (hh:bm (dN ay aq level next) fu stt=some tt) {Z:Env} {O:Sto}
  (hE:eh (fun stt:Int×(List Int)=>match stt with | (a,_keyv)=>[(0,vX 1000000),(1,vI level),(2,.u (.one (dL next))),(7,vO 5002),(14,.u (.one (dL next))),(15,vI (bf next)),(16,vI a)]) (fun stt:Int×(List Int)=>match stt with | (_a,keyv)=>[(5002,.row 1 5 (List.map (rI .u8) keyv)),(1000000,.box [.own 1000001,.map 1000002]),(1000001,.row 2 54 (List.map Node.row ay)),(1000002,mOb .str kS (uL (L.int .i64)) aq)]) stt Z O):Swp Tryz.prog cx (.loop (cD [1,1,0,1,0,0] (bC Tryz.f132))) Z O (fy cx ay aq level next tt):=by
 refine bZ hE hh (fy cx ay aq level next) ?_
 rintro⟨a,keyv⟩ r hm Z O hf
 simp only[Fits,bv,bw,and_true] at hf
 unfold dN at hm
 dsimp only at hm
 refine srs hn ?_
 simp -dsimp [hf]
 refine ba ?_
 rcases bz hm with ⟨c2,hm⟩ | ⟨c2,hm⟩
 ·refine bg (by simp -dsimp) c2 ?_
  refine be (b9 (ba (bb ?_)))
  refine srs hn ?_
  obtain⟨x,h3,hm⟩:=bnd hm
  simp -dsimp [hf,c2,h3]
  refine sr1 hn ?_
  obtain⟨l,h4,hm⟩:=bnd hm
  obtain⟨h4a,h4e⟩:=bL h4
  replace h4e:=h4e.symm
  subst h4e
  try simp only[List.length_cons,List.length_nil,Nat.zero_add] at h4a
  try simp only[Nat.mul_one,Nat.reduceLeDiff] at h4a
  obtain⟨y1,h5,hm⟩:=bnd hm
  simp -dsimp [hf,h4a]
  refine clg (ko (keyv++[32]) x 10 y1 h5) [22] [5001] (by simp -dsimp) (dkL hn) ?_
  simp -dsimp
  refine ca ?_
  refine b9 ?_
  refine sr1 hn ?_
  simp -dsimp [hf]
  cases hm
  refine bW ?_
  refine emv 5001 5002 ?_
  exact zz
 ·exact zz
theorem nR (ay:List Node) (aq:List (List UInt8×Int)) (level:Int) (next:List Int) (r:Int×(List (List UInt8×Int))×(List Node)) (hm:cU ay aq level next=some r):GFn Tryz.prog 132 [vX 1000000,vI level,.u (.one (dL next))] [.box [.own 1000001,.map 1000002],.row 2 54 (List.map Node.row ay),mOb .str kS (uL (L.int .i64)) aq] (vI r.1) [some (.box [.own 1000003,.map 1000002]),none,some (mOb .str kS (uL (L.int .i64)) r.2.1),some (.row 2 54 (List.map Node.row r.2.2))]:=by
 refine bY bE _ Tryz.func132 rfl (by kernel_rfl) (by simp[Tryz.ntmps132]) (by simp) (by first | rfl | simp) (by first | rfl | simp) fun cx hn hk=>?_
 replace hn:cx.n=68:=hn.trans Tryz.ntmps132
 replace hk:cx.k=3:=hk
 unfold cU at hm
 refine srs hn ?_
 simp -dsimp
 refine srs hn ?_
 obtain⟨y,h1,hm⟩:=bnd hm
 simp -dsimp
 refine clg (kq level 10 y h1) [] [5000] (by simp -dsimp) (dkL hn) ?_
 simp -dsimp
 refine ba ?_
 refine srs hn ?_
 simp -dsimp
 refine bb ?_
 obtain⟨keyv,g6,hm⟩:=bnd hm
 refine bG (mW cx hn hk ay aq level next g6) (by
   try dsimp only
   refine emv 5000 5002 ?_
   exact zz
 ) fun ee Z O xx=>?_
 unfold fy at xx
 dsimp only at xx
 obtain⟨rfl,xx⟩:=xx
 refine bA ?_
 refine b9 ?_
 refine see xx fun Z O hf=>?_
 simp only[Fits,bv,bw,and_true] at hf
 refine ba ?_
 refine ly bE mixed (by rw[hn]; kernel_rfl) ?_
 obtain⟨u,h7,hm⟩:=bnd hm
 simp -dsimp [hf,mm h7,(@id (lkM (nD (mOb .str kS (uL (L.int .i64)) aq) (.str (ofBytes keyv))) true (.one (dI 0))=some (.tup [.one (dI (fe aq (ofBytes keyv) 0)),.one (.d (.bool (cH aq (ofBytes keyv))))])) (lk_two (ofBytes keyv) 0))]
 refine srs hn ?_
 simp -dsimp
 rcases bz hm with ⟨c8,hm⟩ | ⟨c8,hm⟩
 ·refine bg (b:=(cH aq (ofBytes keyv))) (by simp -dsimp) c8 ?_
  refine srs hn ?_
  simp -dsimp [c8]
  refine bq (cw ?_)
  cases hm
  refine⟨.inr rfl,?_⟩
  refine emr 1000001 1000003 hk ?_
  exact zz
 ·refine bi (b:=(cH aq (ofBytes keyv))) (by simp -dsimp) c8 ?_
  refine be (b9 ?_)
  refine srs hn ?_
  obtain⟨l,h9,hm⟩:=bnd hm
  obtain⟨h9a,h9e⟩:=bL h9
  replace h9e:=h9e.symm
  subst h9e
  try simp only[List.length_cons,List.length_nil,Nat.zero_add] at h9a
  simp -dsimp [hf,c8,h9a]
  refine oK bE mixed 12 (by rw[hn]; kernel_rfl) ?_
  dsimp only [List.take,List.drop]
  simp -dsimp [hf,mm h7,(@id (msetOb (mOb .str kS (uL (L.int .i64)) aq) (.str (ofBytes keyv)) (.one (dI (bK .i64 ((bf ay)+1) 1)))=mOb .str kS (uL (L.int .i64)) (ig aq (ofBytes keyv) (bK .i64 ((bf ay)+1) 1))) (mset_ob .str kS (uL (L.int .i64)) aq (ofBytes keyv) (bK .i64 ((bf ay)+1) 1)))]
  refine srs hn ?_
  simp -dsimp [hf]
  refine bq ?_
  cases hm
  refine⟨.inr rfl,?_⟩
  refine emr 47 1000003 hk ?_
  exact zz
theorem jE (l r:List Point) (hm:cE l=some r):PFn Tryz.prog 133 [.u (.one (dR2 l))] (fun v=>v.wk (.u (.one (dR2 r)))):=by
 refine pfn_E bE _ Tryz.func133 rfl (by kernel_rfl) (by simp[Tryz.ntmps133]) fun cx hn=>?_
 replace hn:cx.n=8:=hn.trans Tryz.ntmps133
 have ha:=(bL hm).1
 have hr:r=l:=(bL hm).2
 clear hm
 subst hr
 simp only[List.length_nil,Nat.zero_add] at ha
 refine srs hn ?_
 simp -dsimp
 refine ba ?_
 refine srs hn ?_
 cases r with
 | nil =>
  simp -dsimp
  refine⟨?_,?_⟩
  ·refine bg (b:=true) (by simp -dsimp) rfl ?_
   refine srs hn ?_
   simp -dsimp
   refine bq (cw ?_)
   refine⟨.inr rfl,EE.here ?_⟩; simp -dsimp
  ·refine bi (b:=false) (by simp -dsimp) rfl ?_
   refine be (b9 ?_)
   refine srs hn ?_
   simp -dsimp
   refine bq ?_
   refine⟨.inr rfl,EE.here ?_⟩; simp -dsimp
 | cons x xs =>
  simp -dsimp
  refine bi (b:=false) (by simp -dsimp) rfl ?_
  refine be (b9 ?_)
  refine srs hn ?_
  simp only[List.length_cons] at ha
  simp -dsimp [ha]
  refine bq ?_
  refine⟨.inr rfl,EE.here ?_⟩; simp -dsimp
instance c_slices_Clone_api_Point_api_Point (l r):CtP (cE l=some r) (bj Tryz.prog 133 [.u (.one (dR2 l))] (.u (.one (dR2 r)))):=⟨fun hm=>(jE l r hm).pureW⟩
section
attribute [-simp] List.map_set List.set_set
def fb (rcv:(Int->(List Int)->(List Node)->(List Node)->Option (Int×(List Int)×(List Node)))):Prop:=∀ (k:Int) (a:List Int) (a1 cv:List Node) (r:Int×(List Int)×(List Node)),rcv k a a1 cv=some r->GFn Tryz.prog 150 [vI k,vX 1000000,vX 1000002,vX 1000003,vX 1000004] [.box [.own 1000001],.row 1 3 (List.map (rI .i64) a),.box [dR1 a1],.box [.fn 150 [.box 1000000 0,.box 1000002 0,.box 1000003 0,.box 1000004 0]],.box [.own 1000005],.row 2 54 (List.map Node.row cv)] (vI r.1) [some (.box [.own 1000001]),some (.row 1 3 (List.map (rI .i64) r.2.1)),some (.box [dR1 a1]),some (.box [.fn 150 [.box 1000000 0,.box 1000002 0,.box 1000003 0,.box 1000004 0]]),some (.box [.own 1000006]),none,some (.row 2 54 (List.map Node.row r.2.2))]
def ey (cx:Cx) (_rcv:(Int->(List Int)->(List Node)->(List Node)->Option (Int×(List Int)×(List Node)))) (k:Int) (a1:List Node) (x1:Node) (_y:List Int) (tt:((List Int)×(List Node)×(List Int))) (ee:Exit) (Z:Env) (O:Sto):Prop:=match tt with
 | (l,l1,l2)=>ee=.exit 0/\EE cx (bH [(0,vI k),(1,vX 1000000),(4,vX 1000004),(7,vX 7)] [(7,.box [dI x1.Level,.own 30]),(30,.row 1 3 (List.map (rI .i64) l)),(5000,.row 2 54 (List.map Node.row l1)),(1000000,.box [.own 1000001]),(1000001,.row 1 3 (List.map (rI .i64) l2)),(1000002,.box [dR1 a1]),(1000003,.box [.fn 150 [.box 1000000 0,.box 1000002 0,.box 1000003 0,.box 1000004 0]]),(1000004,.box [.own 5000])]) Z O
theorem ls (cx:Cx) (hn:cx.n=63) (_hk:cx.k=6) (rcv:(Int->(List Int)->(List Node)->(List Node)->Option (Int×(List Int)×(List Node)))) (k:Int) (a1:List Node) (x1:Node) (y:List Int) (hrcv:fb rcv) {fu:Nat} {stt:Int×(List Int)×(List Node)×(List Int)} {tt:((List Int)×(List Node)×(List Int))} (hh:bm (ep rcv k a1 x1 y) fu stt=some tt) {Z:Env} {O:Sto}
  (hE:eh (fun stt:Int×(List Int)×(List Node)×(List Int)=>match stt with | (a2,_l,_l2,_l1)=>[(0,vI k),(1,vX 1000000),(3,vX 1000003),(4,vX 1000004),(7,vX 7),(33,vO 30),(34,vI (bf y)),(35,vI a2)]) (fun stt:Int×(List Int)×(List Node)×(List Int)=>match stt with | (_a2,l,l2,l1)=>[(7,.box [dI x1.Level,.own 30]),(30,.row 1 3 (List.map (rI .i64) l)),(5000,.row 2 54 (List.map Node.row l2)),(1000000,.box [.own 1000001]),(1000001,.row 1 3 (List.map (rI .i64) l1)),(1000002,.box [dR1 a1]),(1000003,.box [.fn 150 [.box 1000000 0,.box 1000002 0,.box 1000003 0,.box 1000004 0]]),(1000004,.box [.own 5000])]) stt Z O):Swp Tryz.prog cx (.loop (cD [1,1,1,0,1,0,0] (bC Tryz.f150))) Z O (ey cx rcv k a1 x1 y tt):=by
 refine bZ hE hh (ey cx rcv k a1 x1 y) ?_
 rintro⟨a2,l,l2,l1⟩ r hm Z O hf
 simp only[Fits,bv,bw,and_true] at hf
 unfold ep at hm
 dsimp only at hm
 refine srs hn ?_
 simp -dsimp [hf]
 refine ba ?_
 rcases bz hm with ⟨c5,hm⟩ | ⟨c5,hm⟩
 ·refine bg (by simp -dsimp) c5 ?_
  refine be (b9 ?_)
  obtain⟨⟨l3,l4,l5⟩,j9,hm⟩:=bnd hm
  refine scE [(0,vI k),(1,vX 1000000),(3,vX 1000003),(4,vX 1000004),(7,vX 7),(33,vO 30),(34,vI (bf y)),(35,vI a2)] [(7,.box [dI x1.Level,.own 30]),(30,.row 1 3 (List.map (rI .i64) l3)),(5000,.row 2 54 (List.map Node.row l5)),(1000000,.box [.own 1000001]),(1000001,.row 1 3 (List.map (rI .i64) l4)),(1000002,.box [dR1 a1]),(1000003,.box [.fn 150 [.box 1000000 0,.box 1000002 0,.box 1000003 0,.box 1000004 0]]),(1000004,.box [.own 5000])] ?_ fun Z O hf=>?_
  ·replace hm:=j9
   clear j9
   refine bb ?_
   refine srs hn ?_
   obtain⟨x2,h6,hm⟩:=bnd hm
   simp -dsimp [hf,c5,h6,bV h6]
   refine srs hn ?_
   simp -dsimp [hf]
   rcases bz hm with ⟨c7,hm⟩ | ⟨c7,hm⟩
   ·refine bg (by simp -dsimp) c7 ?_
    refine oT bE mixed 5 6 6 0 [[0,1,2]] [[5001]] [] none (by rw[hn]; kernel_rfl) cN ?_
    dsimp only [List.take,List.drop,ef,eD,gp,pk,List.cons_append,List.nil_append,List.flatten_cons,List.flatten_nil,cO,cP,List.append_nil]
    obtain⟨y1,h8,hm⟩:=bnd hm
    simp -dsimp [hf,c7]
    refine nj (hrcv x2 l1 a1 l2 y1 h8) [1000000,1000001,1000002,1000003,1000004,5000] [5001] rfl rfl rfl (by simp -dsimp) rfl (by simp -dsimp [hf]) (by first | rfl | simp) rfl (dkL hn) rfl rfl (by simp) nofun (by simp) ?_
    simp -dsimp [hf,h6,bV h6,mJ .i64 l a2.toNat y1.1]
    refine ca ?_
    refine b9 ?_
    cases hm
    refine emv 5001 5000 ?_
    exact zz
   ·exact zz
  ·clear j9
   exact zz
 ·exact zz
theorem lO (rcv:(Int->(List Int)->(List Node)->(List Node)->Option (Int×(List Int)×(List Node)))) (hrcv:fb rcv) (k:Int) (a:List Int) (a1 cv:List Node) (r:Int×(List Int)×(List Node)) (hm:eJ rcv k a a1 cv=some r):GFn Tryz.prog 150 [vI k,vX 1000000,vX 1000002,vX 1000003,vX 1000004] [.box [.own 1000001],.row 1 3 (List.map (rI .i64) a),.box [dR1 a1],.box [.fn 150 [.box 1000000 0,.box 1000002 0,.box 1000003 0,.box 1000004 0]],.box [.own 1000005],.row 2 54 (List.map Node.row cv)] (vI r.1) [some (.box [.own 1000001]),some (.row 1 3 (List.map (rI .i64) r.2.1)),some (.box [dR1 a1]),some (.box [.fn 150 [.box 1000000 0,.box 1000002 0,.box 1000003 0,.box 1000004 0]]),some (.box [.own 1000006]),none,some (.row 2 54 (List.map Node.row r.2.2))]:=by
 refine bY bE _ Tryz.func150 rfl (by kernel_rfl) (by simp[Tryz.ntmps150]) (by simp) (by first | rfl | simp) (by first | rfl | simp) fun cx hn hk=>?_
 replace hn:cx.n=63:=hn.trans Tryz.ntmps150
 replace hk:cx.k=6:=hk
 unfold eJ at hm
 refine srs hn ?_
 simp -dsimp
 refine ba ?_
 refine srs hn ?_
 obtain⟨x,h1,hm⟩:=bnd hm
 simp -dsimp [h1,bV h1]
 rcases bz hm with ⟨c2,hm⟩ | ⟨c2,hm⟩
 ·refine bg (by simp -dsimp) c2 ?_
  refine srs hn ?_
  simp -dsimp [h1,bV h1,c2]
  refine bq (cw ?_)
  cases hm
  refine⟨.inr rfl,?_⟩
  refine emr 1000005 1000006 hk ?_
  exact zz
 ·refine bi (by simp -dsimp) c2 ?_
  refine be (b9 ?_)
  refine gz bE mixed 10 11 13 12 [[0,1,2,3,4]] [[30]] [true,false] (some (7,.box [dI 0,.d .nil])) (by rw[hn]; kernel_rfl) (fltT_some 54 _ (by kernel_rfl) rfl rfl rfl (by simp[C.wipe])) ?_
  dsimp only [List.take,List.drop,ef,eD,gp,pk,List.cons_append,List.nil_append,List.flatten_cons,List.flatten_nil,cO,cP,List.append_nil]
  obtain⟨x1,h3,hm⟩:=bnd hm
  obtain⟨y,h4,hm⟩:=bnd hm
  simp -dsimp [c2,h3]
  refine callE_new (d7 x1.Next y h4) (dkL hn) (by decide) rfl rfl (by simp) (by rintro _ _ ⟨⟩; simp[C.wipe]) (by simp) ?_
  simp -dsimp [h3]
  refine ba ?_
  refine srs hn ?_
  simp -dsimp
  refine bb ?_
  obtain⟨⟨l,l1,l2⟩,g10,hm⟩:=bnd hm
  refine bG (ls cx hn hk rcv k a1 x1 y hrcv g10) (by
    try dsimp only
    refine emv 1000005 5000 ?_
    exact zz
  ) fun ee Z O xx=>?_
  unfold ey at xx
  dsimp only at xx
  obtain⟨rfl,xx⟩:=xx
  refine bA ?_
  refine b9 ?_
  refine see xx fun Z O hf=>?_
  simp only[Fits,bv,bw,and_true] at hf
  refine Swp.pre (Wk.frz 30 1 3 (List.map (rI .i64) l) (by simp -dsimp [hf])) ?_
  refine srs hn ?_
  obtain⟨l3,h11,hm⟩:=bnd hm
  obtain⟨h11a,h11e⟩:=bL h11
  replace h11e:=h11e.symm
  subst h11e
  try simp only[List.length_cons,List.length_nil,Nat.zero_add] at h11a
  simp -dsimp [hf,h11a]
  refine srs hn ?_
  obtain⟨x2,h12,hm⟩:=bnd hm
  simp -dsimp [hf,h12,bV h12,mJ .i64 l2 k.toNat ((bf l1)+1)]
  refine srs hn ?_
  simp -dsimp [hf]
  refine bq ?_
  cases hm
  refine⟨.inr rfl,?_⟩
  refine emr 54 1000006 hk ?_
  exact zz
theorem mB (k:Int) (a:List Int) (a1 cv:List Node) (r:Int×(List Int)×(List Node)) (hm:iB k a a1 cv=some r):GFn Tryz.prog 150 [vI k,vX 1000000,vX 1000002,vX 1000003,vX 1000004] [.box [.own 1000001],.row 1 3 (List.map (rI .i64) a),.box [dR1 a1],.box [.fn 150 [.box 1000000 0,.box 1000002 0,.box 1000003 0,.box 1000004 0]],.box [.own 1000005],.row 2 54 (List.map Node.row cv)] (vI r.1) [some (.box [.own 1000001]),some (.row 1 3 (List.map (rI .i64) r.2.1)),some (.box [dR1 a1]),some (.box [.fn 150 [.box 1000000 0,.box 1000002 0,.box 1000003 0,.box 1000004 0]]),some (.box [.own 1000006]),none,some (.row 2 54 (List.map Node.row r.2.2))]:=recN_ind fb (by intro _; intro _; intro _; intro _; intro _; intro hm; cases hm) lO recF k a a1 cv r hm
end
instance c_reduce_ordered (nodes root r):CtP (iH nodes root=some r) (bj Tryz.prog 134 [.u (.one (dR1 nodes)),vI root] (.u (.one (dR1 r)))):=⟨fun hm=>by
 refine db Tryz.func134 Tryz.ntmps134 fun cx hn=>?_
 unfold iH at hm
 refine srs hn ?_
 simp -dsimp
 refine srs hn ?_
 obtain⟨l,h1,hm⟩:=bnd hm
 obtain⟨⟨h1a,h1b,h1c⟩,rfl⟩:=mC h1
 simp -dsimp [h1a,h1c]
 refine srs hn ?_
 simp -dsimp
 refine srs hn ?_
 simp -dsimp
 refine srs hn ?_
 simp -dsimp
 refine Swp.pre (Wk.own0b 6 0 5000 2 54 [.d .nil] (by simp -dsimp) (by rfl) (by decide) (by decide)) ?_
 refine srs hn ?_
 obtain⟨y,h2,hm⟩:=bnd hm
 simp -dsimp
 refine clg (mB root (List.replicate (bf nodes).toNat 0) nodes [] y h2) [5,10,2,7,6,5000] [5001] (by simp -dsimp) (dkL hn) ?_
 exact zz⟩
end Go.Proofs.YtbgliammfkgfoaaGreatDoor
