/- That the code does what the functions say (made by cc.py). -/
import Derived.Test.YtbgliammfkgfoaaGreatDoorWa11
namespace Go.Proofs.YtbgliammfkgfoaaGreatDoor
open Go.AM Go.Proofs
set_option maxRecDepth 100000
attribute [-simp] dD e6 gg Ob.wipe Ob.ren Ob.frz1
def kA (cx:Cx) (_y1:(List (List Bool))×Int) (_y2:Int×Int×Int) (tt:(List Grid)) (ee:Exit) (Z:Env) (O:Sto):Prop:=match tt with
 | out=>ee=.exit 0/\EE cx (bH [(13,vO 5003)] [(5003,.row 4 28 (List.map Grid.row out))]) Z O
instance l_ancestor_All_1 (y1 y2) {fu stt tt}:LtP (bm (kH y1 y2) fu stt=some tt) (lp 61 stt (fun | (a1,_out)=>[(12,.u (.one (.fn 61 [.box 5001 0,.box 5002 0,.box 5000 0]))),(13,vO 5003),(45,.u (.one (.d (.sl 1 (List.map (rS 1 rB) y1.1))))),(46,vI (bf y1.1)),(47,vI a1)]) (fun | (_a1,out)=>[(5000,.box [dI y2.1]),(5001,.box [dI y2.2.1]),(5002,.box [dI y2.2.2]),(5003,.row 4 28 (List.map Grid.row out))]) (cD [1,1,1,1,1,1,1,1,0,1,0,0] (bC Tryz.f11)) fun cx=>kA cx y1 y2 tt):=⟨fun hh cx hn Z O hE=>by
 refine bZ hE hh (kA cx y1 y2) ?_
 rintro⟨a1,out⟩ r hm Z O hf
 simp only[Fits,bv,bw,and_true] at hf
 unfold kH at hm
 dsimp only at hm
 refine srs hn ?_
 simp -dsimp [hf]
 refine ba ?_
 rcases bz hm with ⟨c8,hm⟩ | ⟨c8,hm⟩
 ·refine bg (by simp -dsimp) c8 ?_
  refine be (b9 (ba (bb ?_)))
  refine srs hn ?_
  obtain⟨x,h9,hm⟩:=bnd hm
  simp -dsimp [hf,c8,h9]
  refine sr1 hn ?_
  obtain⟨y3,h10,hm⟩:=bnd hm
  simp -dsimp [hf]
  refine clg (jf x y2.2.1 y2.2.2 y2.1 y3 h10) [5001,5002,5000] [] (by simp -dsimp [hf]) (dkL hn) ?_
  obtain⟨l,h11,hm⟩:=bnd hm
  obtain⟨h11a,h11e⟩:=bL h11
  replace h11e:=h11e.symm
  subst h11e
  try simp only[List.length_cons,List.length_nil,Nat.zero_add] at h11a
  simp -dsimp [hf,h11a]
  refine ca ?_
  refine b9 ?_
  refine sr1 hn ?_
  simp -dsimp [hf]
  cases hm
  refine bW ?_
  refine emv 56 5003 ?_
  exact zz
 ·exact zz⟩
instance c_ancestor_All (t gv most r):CtP (jU t gv most=some r) (bj Tryz.prog 11 [.u (.agg [dI t.States,dR2 t.Hood,dR1 t.Nodes]),.u (.agg [dI gv.W,dI gv.H,dI gv.Edge,dL gv.Cells]),vI most] (.tup [.one (dR0 r.1),.one (dI r.2)])):=⟨fun hm=>by
 refine db Tryz.func11 Tryz.ntmps11 fun cx hn=>?_
 unfold jU at hm
 refine srs hn ?_
 simp -dsimp
 refine srs hn ?_
 obtain⟨y,h1,hm⟩:=bnd hm
 simp -dsimp
 refine bp (CtP.pf h1) (dkL hn) ?_
 simp -dsimp
 refine ba ?_
 refine srs hn ?_
 simp -dsimp
 rcases bz hm with ⟨c2,hm⟩ | ⟨c2,hm⟩
 ·exact zz
 ·refine bi (by simp -dsimp) c2 ?_
  refine be (b9 (ba ?_))
  obtain⟨a,j14,hm⟩:=bnd hm
  refine scE [(2,vI most),(3,vX 3),(4,vX 4),(8,vX 8),(9,vI y.2.1),(31,vT a)] [(3,.box [dI t.States,dR2 t.Hood,dR1 t.Nodes]),(4,.box [dI gv.W,dI gv.H,dI gv.Edge,dL gv.Cells]),(8,.box [dI y.1.Vars,.d (.sl 1 (List.map (rS 1 (rI .i64)) y.1.Clauses))])] ?_ fun Z O hf=>?_
  ·replace hm:=j14
   clear j14
   exact zz
  ·clear j14
   simp only[Fits,bv,bw,and_true] at hf
   rcases bz hm with ⟨c4,hm⟩ | ⟨c4,hm⟩
   ·exact zz
   ·refine bi (by simp -dsimp [hf]) c4 ?_
    refine be (b9 ?_)
    refine srs hn ?_
    obtain⟨y1,h5,hm⟩:=bnd hm
    simp -dsimp [hf]
    refine bp (CtP.pf h5) (dkL hn) ?_
    simp -dsimp
    refine ba ?_
    refine srs hn ?_
    simp -dsimp
    rcases bz hm with ⟨c6,hm⟩ | ⟨c6,hm⟩
    ·exact zz
    ·refine bi (by simp -dsimp) c6 ?_
     refine be (b9 ?_)
     refine srs hn ?_
     obtain⟨y2,h7,hm⟩:=bnd hm
     simp -dsimp [hf,c6]
     refine clg (nS t gv y2 h7) [] [5000,5001,5002] (by simp -dsimp) (dkL hn) ?_
     simp -dsimp
     refine srs hn ?_
     simp -dsimp
     refine ba ?_
     refine srs hn ?_
     simp -dsimp
     refine bb ?_
     obtain⟨out,g12,hm⟩:=bnd hm
     refine bG (LtP.pf g12 cx hn) (by
       try dsimp only
       refine EE.step (Wk.own0 13 5003 4 28 (by simp -dsimp) (by decide)) ?_
       exact zz
     ) fun ee Z O xx=>?_
     unfold kA at xx
     dsimp only at xx
     obtain⟨rfl,xx⟩:=xx
     refine bA ?_
     refine b9 ?_
     refine see xx fun Z O hf=>?_
     simp only[Fits,bv,bw,and_true] at hf
     refine srs hn ?_
     obtain⟨y3,h13,hm⟩:=bnd hm
     simp -dsimp [hf]
     refine clg (eI out y3 h13) [5003] [] (by simp -dsimp [hf]) (dkL hn) ?_
     exact zz⟩
instance c_ancestor_fits_1 (s a r):CtP (ib s a=some r) (bj Tryz.prog 74 [vI s,.u (.one (.ref (Tree.row a) 0))] (vT r)):=⟨fun hm=>by
 refine db Tryz.func74 Tryz.ntmps74 fun cx hn=>?_
 unfold ib at hm
 refine srs hn ?_
 simp -dsimp
 refine srs hn ?_
 simp -dsimp
 refine bq ?_
 cases hm
 refine⟨.inr rfl,?_⟩
 exact EE.here (by simp -dsimp)⟩
def dA (cx:Cx) (_s:List Int) (_cv:Tree) (tt:Int ⊕ Unit) (ee:Exit) (Z:Env) (O:Sto):Prop:=match tt with
 | .inl r=>ee=.ret/\EE cx (fun Z O=>∃ v,gF tb Z O Tryz.f82.results.toList=some v/\(v.frz O).free=true/\(v.frz O).wk (vI r)) Z O
 | .inr _u=>ee=.exit 0/\EE cx (bH [] []) Z O
instance l_slices_IndexFunc_int_int_ancestor_fits_1_1 (s cv) {fu stt tt}:LtP (bm (bB s cv) fu stt=some tt) (lp 19 stt (fun a=>[(0,.u (.one (dL s))),(1,.u (.one (.fn 74 [.ref (Tree.row cv) 0]))),(7,vI (bf s)),(8,vI a)]) (fun _a=>[]) (cD [1,0,1,0,0] (bC Tryz.f82)) fun cx=>dA cx s cv tt):=⟨fun hh cx hn Z O hE=>by
 refine bZ hE hh (dA cx s cv) ?_
 rintro a r hm Z O hf
 simp only[Fits,bv,bw,and_true] at hf
 unfold bB at hm
 exact zz⟩
instance c_slices_IndexFunc_int_int_ancestor_fits_1 (s cv r):CtP (ce s cv=some r) (bj Tryz.prog 82 [.u (.one (dL s)),.u (.one (.fn 74 [.ref (Tree.row cv) 0]))] (vI r)):=⟨fun hm=>by
 refine db Tryz.func82 Tryz.ntmps82 fun cx hn=>?_
 unfold ce at hm
 refine srs hn ?_
 simp -dsimp
 refine ba ?_
 refine srs hn ?_
 simp -dsimp
 refine bb ?_
 obtain⟨o_,g5,hm⟩:=bnd hm
 refine bG (LtP.pf g5 cx hn) (by
   try dsimp only
   exact eeh
 ) fun ee Z O xx=>?_
 rcases o_ with r | _u
 ·exact zz
 ·exact zz⟩
instance c_slices_ContainsFunc_int_int_ancestor_fits_1 (s cv r):CtP (bM s cv=some r) (bj Tryz.prog 48 [.u (.one (dL s)),.u (.one (.fn 74 [.ref (Tree.row cv) 0]))] (vT r)):=⟨fun hm=>by
 refine db Tryz.func48 Tryz.ntmps48 fun cx hn=>?_
 unfold bM at hm
 refine srs hn ?_
 simp -dsimp
 refine srs hn ?_
 obtain⟨y,h1,hm⟩:=bnd hm
 simp -dsimp
 refine bp (CtP.pf h1) (dkL hn) ?_
 simp -dsimp
 refine bq ?_
 cases hm
 refine⟨.inr rfl,?_⟩
 exact EE.here (by simp -dsimp)⟩
instance c_ancestor_fits (t gv r):CtP (fL t gv=some r) (bj Tryz.prog 38 [.u (.agg [dI t.States,dR2 t.Hood,dR1 t.Nodes]),.u (.agg [dI gv.W,dI gv.H,dI gv.Edge,dL gv.Cells])] (vI r)):=⟨fun hm=>by
 refine db Tryz.func38 Tryz.ntmps38 fun cx hn=>?_
 unfold fL at hm
 refine srs hn ?_
 simp -dsimp
 refine ba (bb ?_)
 refine srs hn ?_
 obtain⟨y,h1,hm⟩:=bnd hm
 simp -dsimp
 refine bp (CtP.pf h1) (dkL hn) ?_
 simp -dsimp
 rcases bz hm with ⟨c2,hm⟩ | ⟨c2,hm⟩
 ·refine bg (by simp -dsimp) c2 ?_
  refine srs hn ?_
  simp -dsimp [c2]
  refine bq (ma (cw ?_))
  cases hm
  refine⟨.inr rfl,?_⟩
  exact EE.here (by simp -dsimp)
 ·refine bi (by simp -dsimp) c2 ?_
  refine srs hn ?_
  obtain⟨y1,h3,hm⟩:=bnd hm
  simp -dsimp [c2]
  refine bp (CtP.pf h3) (dkL hn) ?_
  simp -dsimp
  rcases bz hm with ⟨c4,hm⟩ | ⟨c4,hm⟩
  ·refine bg (by simp -dsimp) c4 ?_
   refine srs hn ?_
   simp -dsimp [c4]
   refine bq (ma (cw ?_))
   cases hm
   refine⟨.inr rfl,?_⟩
   exact EE.here (by simp -dsimp)
  ·refine bi (by simp -dsimp) c4 ?_
   refine srs hn ?_
   obtain⟨y2,h5,hm⟩:=bnd hm
   simp -dsimp [c4]
   refine iF (us':=[.u (.one (dL gv.Cells)),.u (.one (.fn 74 [.ref (Tree.row t) 0]))]) (CtP.pf h5) (by simp -dsimp) rfl (dkL hn) ?_
   simp -dsimp
   rcases bz hm with ⟨c6,hm⟩ | ⟨c6,hm⟩
   ·refine bg (by simp -dsimp) c6 ?_
    refine srs hn ?_
    simp -dsimp [c6]
    refine bq (ma (cw ?_))
    cases hm
    refine⟨.inr rfl,?_⟩
    exact EE.here (by simp -dsimp)
   ·refine bi (by simp -dsimp) c6 ?_
    refine be ?_
    refine ca ?_
    refine b9 ?_
    refine srs hn ?_
    simp -dsimp [c6]
    refine bq ?_
    cases hm
    refine⟨.inr rfl,?_⟩
    exact EE.here (by simp -dsimp)⟩
instance c_tree_Eval_1 (s a r):CtP (kO s a=some r) (bj Tryz.prog 76 [vI s,.u (.one (.ref (Tree.row a) 0))] (vT r)):=⟨fun hm=>by
 refine db Tryz.func76 Tryz.ntmps76 fun cx hn=>?_
 unfold kO at hm
 refine srs hn ?_
 simp -dsimp
 obtain⟨a1,j2,hm⟩:=bnd hm
 refine scE [(3,vT a1)] [] ?_ fun Z O hf=>?_
 ·replace hm:=j2
  clear j2
  exact zz
 ·clear j2
  exact zz⟩
def dS (cx:Cx) (_s:List Int) (_cv:Tree) (tt:Int ⊕ Unit) (ee:Exit) (Z:Env) (O:Sto):Prop:=match tt with
 | .inl r=>ee=.ret/\EE cx (fun Z O=>∃ v,gF tb Z O Tryz.f82.results.toList=some v/\(v.frz O).free=true/\(v.frz O).wk (vI r)) Z O
 | .inr _u=>ee=.exit 0/\EE cx (bH [] []) Z O
instance l_slices_IndexFunc_int_int_tree_Eval_1_1 (s cv) {fu stt tt}:LtP (bm (bJ s cv) fu stt=some tt) (lp 19 stt (fun a=>[(0,.u (.one (dL s))),(1,.u (.one (.fn 76 [.ref (Tree.row cv) 0]))),(7,vI (bf s)),(8,vI a)]) (fun _a=>[]) (cD [1,0,1,0,0] (bC Tryz.f82)) fun cx=>dS cx s cv tt):=⟨fun hh cx hn Z O hE=>by
 refine bZ hE hh (dS cx s cv) ?_
 rintro a r hm Z O hf
 simp only[Fits,bv,bw,and_true] at hf
 unfold bJ at hm
 exact zz⟩
instance c_slices_IndexFunc_int_int_tree_Eval_1 (s cv r):CtP (cp s cv=some r) (bj Tryz.prog 82 [.u (.one (dL s)),.u (.one (.fn 76 [.ref (Tree.row cv) 0]))] (vI r)):=⟨fun hm=>by
 refine db Tryz.func82 Tryz.ntmps82 fun cx hn=>?_
 unfold cp at hm
 refine srs hn ?_
 simp -dsimp
 refine ba ?_
 refine srs hn ?_
 simp -dsimp
 refine bb ?_
 obtain⟨o_,g5,hm⟩:=bnd hm
 refine bG (LtP.pf g5 cx hn) (by
   try dsimp only
   exact eeh
 ) fun ee Z O xx=>?_
 rcases o_ with r | _u
 ·exact zz
 ·exact zz⟩
instance c_slices_ContainsFunc_int_int_tree_Eval_1 (s cv r):CtP (bS s cv=some r) (bj Tryz.prog 48 [.u (.one (dL s)),.u (.one (.fn 76 [.ref (Tree.row cv) 0]))] (vT r)):=⟨fun hm=>by
 refine db Tryz.func48 Tryz.ntmps48 fun cx hn=>?_
 unfold bS at hm
 refine srs hn ?_
 simp -dsimp
 refine srs hn ?_
 obtain⟨y,h1,hm⟩:=bnd hm
 simp -dsimp
 refine bp (CtP.pf h1) (dkL hn) ?_
 simp -dsimp
 refine bq ?_
 cases hm
 refine⟨.inr rfl,?_⟩
 exact EE.here (by simp -dsimp)⟩
def mu (cx:Cx) (_t:Tree) (_in_:List Int) (tt:Int) (ee:Exit) (Z:Env) (O:Sto):Prop:=match tt with
 | k=>ee=.exit 0/\EE cx (bH [(5,vI k)] []) Z O
instance l_tree_value_1 (t in_) {fu stt tt}:LtP (bm (gt t in_) fu stt=some tt) (lp 29 stt (fun | (k,a)=>[(2,vX 2),(5,vI k),(12,.u (.one (dL in_))),(13,vI (bf in_)),(14,vI a)]) (fun | (_k,_a)=>[(2,.box [dI t.States,dR2 t.Hood,dR1 t.Nodes])]) (cD [1,1,0,1,0,0] (bC Tryz.f77)) fun cx=>mu cx t in_ tt):=⟨fun hh cx hn Z O hE=>by
 refine bZ hE hh (mu cx t in_) ?_
 rintro⟨k,a⟩ r hm Z O hf
 simp only[Fits,bv,bw,and_true] at hf
 unfold gt at hm
 exact zz⟩
instance c_tree_value (t in_ r):CtP (ka t in_=some r) (bj Tryz.prog 77 [.u (.agg [dI t.States,dR2 t.Hood,dR1 t.Nodes]),.u (.one (dL in_))] (vI r)):=⟨fun hm=>by
 refine db Tryz.func77 Tryz.ntmps77 fun cx hn=>?_
 unfold ka at hm
 refine srs hn ?_
 simp -dsimp
 refine srs hn ?_
 simp -dsimp
 refine ba ?_
 refine srs hn ?_
 simp -dsimp
 refine bb ?_
 obtain⟨k,g5,hm⟩:=bnd hm
 refine bG (LtP.pf g5 cx hn) (by
   try dsimp only
   exact eeh
 ) fun ee Z O xx=>?_
 unfold mu at xx
 dsimp only at xx
 obtain⟨rfl,xx⟩:=xx
 refine bA ?_
 refine b9 ?_
 refine see xx fun Z O hf=>?_
 simp only[Fits,bv,bw,and_true] at hf
 refine srs hn ?_
 simp -dsimp [hf]
 refine bq ?_
 cases hm
 refine⟨.inr rfl,?_⟩
 exact EE.here (by simp -dsimp)⟩
instance c_tree_Eval (t in_ r):CtP (kU t in_=some r) (bj Tryz.prog 40 [.u (.agg [dI t.States,dR2 t.Hood,dR1 t.Nodes]),.u (.one (dL in_))] (.tup [.one (dI r.1),.one (dI r.2)])):=⟨fun hm=>by
 refine db Tryz.func40 Tryz.ntmps40 fun cx hn=>?_
 unfold kU at hm
 refine srs hn ?_
 simp -dsimp
 refine ba (bb ?_)
 refine srs hn ?_
 obtain⟨y,h1,hm⟩:=bnd hm
 simp -dsimp
 refine bp (CtP.pf h1) (dkL hn) ?_
 simp -dsimp
 rcases bz hm with ⟨c2,hm⟩ | ⟨c2,hm⟩
 ·refine bg (by simp -dsimp) c2 ?_
  refine srs hn ?_
  simp -dsimp [c2]
  refine bq (ma (cw ?_))
  cases hm
  refine⟨.inr rfl,?_⟩
  exact EE.here (by simp -dsimp)
 ·refine bi (by simp -dsimp) c2 ?_
  refine srs hn ?_
  simp -dsimp [c2]
  rcases bz hm with ⟨c3,hm⟩ | ⟨c3,hm⟩
  ·refine bg (by simp -dsimp) c3 ?_
   refine srs hn ?_
   simp -dsimp [c3]
   refine bq (ma (cw ?_))
   cases hm
   refine⟨.inr rfl,?_⟩
   exact EE.here (by simp -dsimp)
  ·refine bi (by simp -dsimp) c3 ?_
   refine srs hn ?_
   obtain⟨y1,h4,hm⟩:=bnd hm
   simp -dsimp [c3]
   refine iF (us':=[.u (.one (dL in_)),.u (.one (.fn 76 [.ref (Tree.row t) 0]))]) (CtP.pf h4) (by simp -dsimp) rfl (dkL hn) ?_
   simp -dsimp
   rcases bz hm with ⟨c5,hm⟩ | ⟨c5,hm⟩
   ·refine bg (by simp -dsimp) c5 ?_
    refine srs hn ?_
    simp -dsimp [c5]
    refine bq (ma (cw ?_))
    cases hm
    refine⟨.inr rfl,?_⟩
    exact EE.here (by simp -dsimp)
   ·refine bi (by simp -dsimp) c5 ?_
    refine be ?_
    refine ca ?_
    refine b9 ?_
    refine srs hn ?_
    obtain⟨y2,h6,hm⟩:=bnd hm
    simp -dsimp [c5]
    refine bp (CtP.pf h6) (dkL hn) ?_
    simp -dsimp
    refine bq ?_
    cases hm
    refine⟨.inr rfl,?_⟩
    exact EE.here (by simp -dsimp)⟩
def jH (cx:Cx) (t:Tree) (gv:Grid) (y1 a1 a2:Int) (l1:List Int) (tt:(List Int)) (ee:Exit) (Z:Env) (O:Sto):Prop:=match tt with
 | in_=>ee=.exit 4/\EE cx (bH [(2,vX 2),(3,vX 3),(4,vX 4),(7,vI y1),(8,vX 8),(9,vI a1),(11,vO 5000),(47,vI (bK .i64 gv.H (bU .i64 2 y1))),(48,vI a1),(52,vI (bK .i64 gv.W (bU .i64 2 y1))),(53,vI a2)] [(2,.box [dI t.States,dR2 t.Hood,dR1 t.Nodes]),(3,.box [dI gv.W,dI gv.H,dI gv.Edge,dL gv.Cells]),(4,.box [dI 0,dI 0,dI 0,.d .nil]),(8,.box [dI (bK .i64 gv.W (bU .i64 2 y1)),dI (bK .i64 gv.H (bU .i64 2 y1)),dI 0,.own 5001]),(5000,.row 1 3 (List.map (rI .i64) in_)),(5001,.row 1 3 (List.map (rI .i64) l1))]) Z O
set_option maxHeartbeats 1000000 in
instance l_ancestor_Image_3 (t gv y1 a1 a2 l1) {fu stt tt}:LtP (bm (gQ t gv y1 a1 a2 l1) fu stt=some tt) (lp 102 stt (fun | (a3,_in_)=>[(2,vX 2),(3,vX 3),(4,vX 4),(7,vI y1),(8,vX 8),(9,vI a1),(10,vI a2),(11,vO 5000),(47,vI (bK .i64 gv.H (bU .i64 2 y1))),(48,vI a1),(52,vI (bK .i64 gv.W (bU .i64 2 y1))),(53,vI a2),(57,.u (.one (dR2 t.Hood))),(58,vI (bf t.Hood)),(59,vI a3)]) (fun | (_a3,in_)=>[(2,.box [dI t.States,dR2 t.Hood,dR1 t.Nodes]),(3,.box [dI gv.W,dI gv.H,dI gv.Edge,dL gv.Cells]),(4,.box [dI 0,dI 0,dI 0,.d .nil]),(8,.box [dI (bK .i64 gv.W (bU .i64 2 y1)),dI (bK .i64 gv.H (bU .i64 2 y1)),dI 0,.own 5001]),(5000,.row 1 3 (List.map (rI .i64) in_)),(5001,.row 1 3 (List.map (rI .i64) l1))]) (cD [1,1,1,1,1,0,1,0,0,1,1,0,0,1,1,0,0,1,1,0,0,1,1,0,1,0,0] (bC Tryz.f18)) fun cx=>jH cx t gv y1 a1 a2 l1 tt):=⟨fun hh cx hn Z O hE=>by
 refine bZ hE hh (jH cx t gv y1 a1 a2 l1) ?_
 rintro⟨a3,in_⟩ r hm Z O hf
 simp only[Fits,bv,bw,and_true] at hf
 unfold gQ at hm
 dsimp only at hm
 refine srs hn ?_
 simp -dsimp [hf]
 refine ba ?_
 rcases bz hm with ⟨c8,hm⟩ | ⟨c8,hm⟩
 ·refine bg (by simp -dsimp) c8 ?_
  refine be (b9 (ba (bb ?_)))
  refine srs hn ?_
  obtain⟨x,h9,hm⟩:=bnd hm
  simp -dsimp [hf,c8,h9]
  refine sr1 hn ?_
  obtain⟨x1,h10,hm⟩:=bnd hm
  obtain⟨l2,h11,hm⟩:=bnd hm
  obtain⟨h11a,h11e⟩:=bL h11
  replace h11e:=h11e.symm
  subst h11e
  try simp only[List.length_cons,List.length_nil,Nat.zero_add] at h11a
  simp -dsimp [hf,h10,h11a]
  refine ca ?_
  refine b9 ?_
  refine sr1 hn ?_
  simp -dsimp [hf]
  cases hm
  refine bW ?_
  refine emv 85 5000 ?_
  exact zz
 ·exact zz⟩
def mD (cx:Cx) (t:Tree) (gv:Grid) (y1 a1:Int) (tt:(List Int)) (ee:Exit) (Z:Env) (O:Sto):Prop:=match tt with
 | l1=>ee=.exit 2/\EE cx (bH [(2,vX 2),(3,vX 3),(4,vX 4),(7,vI y1),(8,vX 8),(47,vI (bK .i64 gv.H (bU .i64 2 y1))),(48,vI a1)] [(2,.box [dI t.States,dR2 t.Hood,dR1 t.Nodes]),(3,.box [dI gv.W,dI gv.H,dI gv.Edge,dL gv.Cells]),(4,.box [dI 0,dI 0,dI 0,.d .nil]),(8,.box [dI (bK .i64 gv.W (bU .i64 2 y1)),dI (bK .i64 gv.H (bU .i64 2 y1)),dI 0,.own 5001]),(5001,.row 1 3 (List.map (rI .i64) l1))]) Z O
set_option maxHeartbeats 1000000 in
instance l_ancestor_Image_2 (t gv y1 a1) {fu stt tt}:LtP (bm (dt t gv y1 a1) fu stt=some tt) (lp 102 stt (fun | (a2,_l1)=>[(2,vX 2),(3,vX 3),(4,vX 4),(7,vI y1),(8,vX 8),(9,vI a1),(47,vI (bK .i64 gv.H (bU .i64 2 y1))),(48,vI a1),(52,vI (bK .i64 gv.W (bU .i64 2 y1))),(53,vI a2)]) (fun | (_a2,l1)=>[(2,.box [dI t.States,dR2 t.Hood,dR1 t.Nodes]),(3,.box [dI gv.W,dI gv.H,dI gv.Edge,dL gv.Cells]),(4,.box [dI 0,dI 0,dI 0,.d .nil]),(8,.box [dI (bK .i64 gv.W (bU .i64 2 y1)),dI (bK .i64 gv.H (bU .i64 2 y1)),dI 0,.own 5001]),(5001,.row 1 3 (List.map (rI .i64) l1))]) (cD [1,1,1,1,1,0,1,0,0,1,1,0,0,1,1,0,0] (bC Tryz.f18)) fun cx=>mD cx t gv y1 a1 tt):=⟨fun hh cx hn Z O hE=>by
 refine bZ hE hh (mD cx t gv y1 a1) ?_
 rintro⟨a2,l1⟩ r hm Z O hf
 simp only[Fits,bv,bw,and_true] at hf
 unfold dt at hm
 dsimp only at hm
 refine srs hn ?_
 simp -dsimp [hf]
 refine ba ?_
 rcases bz hm with ⟨c7,hm⟩ | ⟨c7,hm⟩
 ·refine bg (by simp -dsimp) c7 ?_
  refine be (b9 (ba (bb ?_)))
  refine srs hn ?_
  simp -dsimp [hf,c7]
  refine srs hn ?_
  simp -dsimp
  refine ba ?_
  refine srs hn ?_
  simp -dsimp [hf]
  refine bb ?_
  obtain⟨in_,g12,hm⟩:=bnd hm
  refine bG (LtP.pf g12 cx hn) (by
    try dsimp only
    refine EE.step (Wk.own0 11 5000 1 3 (by simp -dsimp) (by decide)) ?_
    exact zz
  ) fun ee Z O xx=>?_
  unfold jH at xx
  dsimp only at xx
  obtain⟨rfl,xx⟩:=xx
  refine bA ?_
  refine b9 ?_
  refine see xx fun Z O hf=>?_
  simp only[Fits,bv,bw,and_true] at hf
  refine srs hn ?_
  obtain⟨y2,h13,hm⟩:=bnd hm
  simp -dsimp [hf]
  refine iF (us':=[.u (.agg [dI t.States,dR2 t.Hood,dR1 t.Nodes]),.u (.one (dL in_))]) (CtP.pf h13) (by simp -dsimp [hf]) rfl (dkL hn) ?_
  simp -dsimp
  refine sr1 hn ?_
  obtain⟨l2,h14,hm⟩:=bnd hm
  obtain⟨h14a,h14e⟩:=bL h14
  replace h14e:=h14e.symm
  subst h14e
  try simp only[List.length_cons,List.length_nil,Nat.zero_add] at h14a
  simp -dsimp [hf,h14a]
  refine ca ?_
  refine b9 ?_
  refine sr1 hn ?_
  simp -dsimp [hf]
  cases hm
  refine bW ?_
  refine emv 97 5001 ?_
  exact zz
 ·exact zz⟩
def jy (cx:Cx) (_t:Tree) (gv:Grid) (y1:Int) (tt:(List Int)) (ee:Exit) (Z:Env) (O:Sto):Prop:=match tt with
 | l=>ee=.exit 0/\EE cx (bH [(4,vX 4),(8,vX 8)] [(4,.box [dI 0,dI 0,dI 0,.d .nil]),(8,.box [dI (bK .i64 gv.W (bU .i64 2 y1)),dI (bK .i64 gv.H (bU .i64 2 y1)),dI 0,.own 5001]),(5001,.row 1 3 (List.map (rI .i64) l))]) Z O
set_option maxHeartbeats 1000000 in
instance l_ancestor_Image_1 (t gv y1) {fu stt tt}:LtP (bm (dv t gv y1) fu stt=some tt) (lp 102 stt (fun | (a1,_l)=>[(2,vX 2),(3,vX 3),(4,vX 4),(7,vI y1),(8,vX 8),(47,vI (bK .i64 gv.H (bU .i64 2 y1))),(48,vI a1)]) (fun | (_a1,l)=>[(2,.box [dI t.States,dR2 t.Hood,dR1 t.Nodes]),(3,.box [dI gv.W,dI gv.H,dI gv.Edge,dL gv.Cells]),(4,.box [dI 0,dI 0,dI 0,.d .nil]),(8,.box [dI (bK .i64 gv.W (bU .i64 2 y1)),dI (bK .i64 gv.H (bU .i64 2 y1)),dI 0,.own 5001]),(5001,.row 1 3 (List.map (rI .i64) l))]) (cD [1,1,1,1,1,0,1,0,0] (bC Tryz.f18)) fun cx=>jy cx t gv y1 tt):=⟨fun hh cx hn Z O hE=>by
 refine bZ hE hh (jy cx t gv y1) ?_
 rintro⟨a1,l⟩ r hm Z O hf
 simp only[Fits,bv,bw,and_true] at hf
 unfold dv at hm
 exact zz⟩
set_option maxHeartbeats 1000000 in
instance c_ancestor_Image (t gv r):CtP (f0 t gv=some r) (bj Tryz.prog 18 [.u (.agg [dI t.States,dR2 t.Hood,dR1 t.Nodes]),.u (.agg [dI gv.W,dI gv.H,dI gv.Edge,dL gv.Cells])] (.tup [.agg [dI r.1.W,dI r.1.H,dI r.1.Edge,dL r.1.Cells],.one (dI r.2)])):=⟨fun hm=>by
 refine db Tryz.func18 Tryz.ntmps18 fun cx hn=>?_
 unfold f0 at hm
 refine srs hn ?_
 simp -dsimp
 refine ba ?_
 refine srs hn ?_
 obtain⟨y,h1,hm⟩:=bnd hm
 simp -dsimp
 refine bp (CtP.pf h1) (dkL hn) ?_
 simp -dsimp
 refine srs hn ?_
 simp -dsimp
 rcases bz hm with ⟨c2,hm⟩ | ⟨c2,hm⟩
 ·exact zz
 ·refine bi (by simp -dsimp) c2 ?_
  refine be (b9 ?_)
  refine srs hn ?_
  obtain⟨y1,h3,hm⟩:=bnd hm
  simp -dsimp [c2]
  refine bp (CtP.pf h3) (dkL hn) ?_
  simp -dsimp
  refine srs hn ?_
  simp -dsimp
  refine ba ?_
  obtain⟨a,j17,hm⟩:=bnd hm
  refine scE [(2,vX 2),(3,vX 3),(4,vX 4),(7,vI y1),(8,vX 8),(44,vT a)] [(2,.box [dI t.States,dR2 t.Hood,dR1 t.Nodes]),(3,.box [dI gv.W,dI gv.H,dI gv.Edge,dL gv.Cells]),(4,.box [dI 0,dI 0,dI 0,.d .nil]),(8,.box [dI (bK .i64 gv.W (bU .i64 2 y1)),dI (bK .i64 gv.H (bU .i64 2 y1)),dI 0,.d .nil])] ?_ fun Z O hf=>?_
  ·replace hm:=j17
   clear j17
   exact zz
  ·clear j17
   simp only[Fits,bv,bw,and_true] at hf
   rcases bz hm with ⟨c5,hm⟩ | ⟨c5,hm⟩
   ·exact zz
   ·refine bi (by simp -dsimp [hf]) c5 ?_
    refine be (b9 (ba ?_))
    refine srs hn ?_
    simp -dsimp [hf]
    refine bb ?_
    obtain⟨l,g16,hm⟩:=bnd hm
    refine bG (LtP.pf g16 cx hn) (by
      try dsimp only
      refine EE.step (Wk.own0b 8 3 5001 1 3 [dI (bK .i64 gv.W (bU .i64 2 y1)),dI (bK .i64 gv.H (bU .i64 2 y1)),dI 0,.d .nil] (by simp -dsimp [hf]) (by rfl) (by decide) (by decide)) ?_
      exact zz
    ) fun ee Z O xx=>?_
    unfold jy at xx
    dsimp only at xx
    obtain⟨rfl,xx⟩:=xx
    refine bA ?_
    refine b9 ?_
    refine see xx fun Z O hf=>?_
    simp only[Fits,bv,bw,and_true] at hf
    refine Swp.pre (Wk.frz 5001 1 3 (List.map (rI .i64) l) (by simp -dsimp [hf])) ?_
    exact zz⟩
end Go.Proofs.YtbgliammfkgfoaaGreatDoor
namespace Go.Proofs.YtbgliammfkgfoaaGreatDoor
open Go.AM Go.Proofs
set_option maxRecDepth 100000
attribute [-simp] dD e6 gg Ob.wipe Ob.ren Ob.frz1
def mF (cx:Cx) (_t:Tree) (_n:Int) (tt:(List Grid)) (ee:Exit) (Z:Env) (O:Sto):Prop:=match tt with
 | out=>ee=.exit 0/\EE cx (bH [(9,vO 5000)] [(5000,.row 4 28 (List.map Grid.row out))]) Z O
instance l_ancestor_Chain_1 (t n) {fu stt tt}:LtP (bm (ju t n) fu stt=some tt) (lp 48 stt (fun | (_gW,_gH,_b4,_aZ,_out)=>[(2,vI n),(3,vX 3),(4,vX 4),(9,vO 5000)]) (fun | (gW,gH,b4,aZ,out)=>[(3,.box [dI t.States,dR2 t.Hood,dR1 t.Nodes]),(4,.box [dI gW,dI gH,dI b4,dL aZ]),(5000,.row 4 28 (List.map Grid.row out))]) (cD [1,1,1,1,0,0,0] (bC Tryz.f24)) fun cx=>mF cx t n tt):=⟨fun hh cx hn Z O hE=>by
 refine bZ hE hh (mF cx t n) ?_
 rintro⟨gW,gH,b4,aZ,out⟩ r hm Z O hf
 simp only[Fits,bv,bw,and_true] at hf
 unfold ju at hm
 dsimp only at hm
 refine ba ?_
 refine srs hn ?_
 simp -dsimp [hf]
 rcases bz hm with ⟨c5,hm⟩ | ⟨c5,hm⟩
 ·refine bg (by simp -dsimp) c5 ?_
  refine be (b9 (bb ?_))
  refine srs hn ?_
  obtain⟨y1,h6,hm⟩:=bnd hm
  simp -dsimp [hf,c5]
  refine bp (CtP.pf h6) (dkL hn) ?_
  simp -dsimp
  refine ba ?_
  obtain⟨a1,j10,hm⟩:=bnd hm
  refine scE [(2,vI n),(3,vX 3),(4,vX 4),(9,vO 5000),(10,vX 10),(41,vT a1)] [(3,.box [dI t.States,dR2 t.Hood,dR1 t.Nodes]),(4,.box [dI gW,dI gH,dI b4,dL aZ]),(10,.box [dI y1.1.W,dI y1.1.H,dI y1.1.Edge,dL y1.1.Cells]),(5000,.row 4 28 (List.map Grid.row out))] ?_ fun Z O hf=>?_
  ·replace hm:=j10
   clear j10
   exact zz
  ·clear j10
   simp only[Fits,bv,bw,and_true] at hf
   rcases bz hm with ⟨c8,hm⟩ | ⟨c8,hm⟩
   ·exact zz
   ·refine bi (by simp -dsimp [hf]) c8 ?_
    refine be (b9 ?_)
    refine srs hn ?_
    obtain⟨l,h9,hm⟩:=bnd hm
    obtain⟨h9a,h9e⟩:=bL h9
    replace h9e:=h9e.symm
    subst h9e
    try simp only[List.length_cons,List.length_nil,Nat.zero_add] at h9a
    simp -dsimp [hf,h9a]
    refine sr1 hn ?_
    simp -dsimp [hf]
    refine ca ?_
    cases hm
    refine bW ?_
    refine emv 45 5000 ?_
    exact zz
 ·exact zz⟩
instance c_ancestor_Chain (t gv n r):CtP (kK t gv n=some r) (bj Tryz.prog 24 [.u (.agg [dI t.States,dR2 t.Hood,dR1 t.Nodes]),.u (.agg [dI gv.W,dI gv.H,dI gv.Edge,dL gv.Cells]),vI n] (.tup [.one (dR0 r.1),.one (dI r.2)])):=⟨fun hm=>by
 refine db Tryz.func24 Tryz.ntmps24 fun cx hn=>?_
 unfold kK at hm
 refine srs hn ?_
 simp -dsimp
 refine ba ?_
 refine srs hn ?_
 obtain⟨y,h1,hm⟩:=bnd hm
 simp -dsimp
 refine bp (CtP.pf h1) (dkL hn) ?_
 simp -dsimp
 refine srs hn ?_
 simp -dsimp
 rcases bz hm with ⟨c2,hm⟩ | ⟨c2,hm⟩
 ·exact zz
 ·refine bi (by simp -dsimp) c2 ?_
  refine be (b9 (ba ?_))
  obtain⟨a,j12,hm⟩:=bnd hm
  refine scE [(2,vI n),(3,vX 3),(4,vX 4),(24,vT a)] [(3,.box [dI t.States,dR2 t.Hood,dR1 t.Nodes]),(4,.box [dI gv.W,dI gv.H,dI gv.Edge,dL gv.Cells])] ?_ fun Z O hf=>?_
  ·replace hm:=j12
   clear j12
   exact zz
  ·clear j12
   simp only[Fits,bv,bw,and_true] at hf
   rcases bz hm with ⟨c4,hm⟩ | ⟨c4,hm⟩
   ·exact zz
   ·refine bi (by simp -dsimp [hf]) c4 ?_
    refine be (b9 ?_)
    refine srs hn ?_
    simp -dsimp
    refine ba (bb ?_)
    obtain⟨out,g11,hm⟩:=bnd hm
    refine bG (LtP.pf g11 cx hn) (by
      try dsimp only
      refine EE.step (Wk.own0 9 5000 4 28 (by simp -dsimp) (by decide)) ?_
      exact zz
    ) fun ee Z O xx=>?_
    exact zz⟩
def F_R21_Same_1 (cx:Cx) (_a _b:Grid) (tt:Bool ⊕ Unit) (ee:Exit) (Z:Env) (O:Sto):Prop:=match tt with
 | .inl r=>ee=.ret/\EE cx (fun Z O=>∃ v,gF tb Z O Tryz.f16.results.toList=some v/\(v.frz O).free=true/\(v.frz O).wk (vT r)) Z O
 | .inr _u=>ee=.exit 0/\EE cx (bH [] []) Z O
instance l_R21_Same_1 (a b) {fu stt tt}:LtP (bm (jO a b) fu stt=some tt) (lp 52 stt (fun i=>[(2,vX 2),(3,vX 3),(5,vI i)]) (fun _i=>[(2,.box [dI a.W,dI a.H,dI a.Edge,dL a.Cells]),(3,.box [dI b.W,dI b.H,dI b.Edge,dL b.Cells])]) (cD [1,1,0,1,0,0] (bC Tryz.f16)) fun cx=>F_R21_Same_1 cx a b tt):=⟨fun hh cx hn Z O hE=>by
 refine bZ hE hh (F_R21_Same_1 cx a b) ?_
 rintro i r hm Z O hf
 simp only[Fits,bv,bw,and_true] at hf
 unfold jO at hm
 exact zz⟩
instance c_R21_Same (a b r):CtP (jB a b=some r) (bj Tryz.prog 16 [.u (.agg [dI a.W,dI a.H,dI a.Edge,dL a.Cells]),.u (.agg [dI b.W,dI b.H,dI b.Edge,dL b.Cells])] (vT r)):=⟨fun hm=>by
 refine db Tryz.func16 Tryz.ntmps16 fun cx hn=>?_
 unfold jB at hm
 refine srs hn ?_
 simp -dsimp
 refine ba ?_
 obtain⟨a1,j10,hm⟩:=bnd hm
 refine scE [(2,vX 2),(3,vX 3),(33,vT a1)] [(2,.box [dI a.W,dI a.H,dI a.Edge,dL a.Cells]),(3,.box [dI b.W,dI b.H,dI b.Edge,dL b.Cells])] ?_ fun Z O hf=>?_
 ·replace hm:=j10
  clear j10
  exact zz
 ·clear j10
  simp only[Fits,bv,bw,and_true] at hf
  rcases bz hm with ⟨c4,hm⟩ | ⟨c4,hm⟩
  ·exact zz
  ·refine bi (by simp -dsimp [hf]) c4 ?_
   refine be (b9 (ba ?_))
   refine srs hn ?_
   simp -dsimp
   refine bb ?_
   obtain⟨o_,g9,hm⟩:=bnd hm
   refine bG (LtP.pf g9 cx hn) (by
     try dsimp only
     exact EE.here (by simp -dsimp [hf])
   ) fun ee Z O xx=>?_
   rcases o_ with r | _u
   ·exact zz
   ·exact zz⟩
instance c_L48_alive (r):CtP (lq=some r) (bj Tryz.prog 10 [] (vT r)):=⟨fun hm=>by
 refine db Tryz.func10 Tryz.ntmps10 fun cx hn=>?_
 unfold lq at hm
 refine srs hn ?_
 simp -dsimp
 refine srs hn ?_
 simp -dsimp
 refine gz bE mixed 7 9 10 0 [[0,1,2,3,4,5,6],[5,6]] [[2],[]] [true] none (by rw[hn]; kernel_rfl) cN ?_
 dsimp only [List.take,List.drop,ef,eD,gp,pk,List.cons_append,List.nil_append,List.flatten_cons,List.flatten_nil,cO,cP,List.append_nil]
 obtain⟨y,h1,hm⟩:=bnd hm
 simp -dsimp
 refine br (CtP.pf h1) ?_
 obtain⟨y1,h2,hm⟩:=bnd hm
 simp -dsimp
 refine br (CtP.pf h2) ?_
 simp -dsimp
 refine br (CtP.pf h1) ?_
 simp -dsimp
 refine br (CtP.pf h2) ?_
 simp -dsimp
 refine ly bE mixed (by rw[hn]; kernel_rfl) ?_
 simp -dsimp
 refine br (CtP.pf h1) ?_
 obtain⟨y2,h3,hm⟩:=bnd hm
 simp -dsimp
 refine br (CtP.pf h3) ?_
 simp -dsimp
 refine ly bE mixed (by rw[hn]; kernel_rfl) ?_
 simp -dsimp
 refine br (CtP.pf h1) ?_
 obtain⟨y3,h4,hm⟩:=bnd hm
 simp -dsimp
 refine br (CtP.pf h4) ?_
 simp -dsimp
 refine gz bE mixed 6 8 8 0 [[0,1,2,3,4,5],[5]] [[9],[]] [] none (by rw[hn]; kernel_rfl) cN ?_
 dsimp only [List.take,List.drop,ef,eD,gp,pk,List.cons_append,List.nil_append,List.flatten_cons,List.flatten_nil,cO,cP,List.append_nil]
 simp -dsimp
 refine br (CtP.pf h1) ?_
 obtain⟨y4,h5,hm⟩:=bnd hm
 simp -dsimp
 refine br (CtP.pf h5) ?_
 simp -dsimp
 refine br (CtP.pf h1) ?_
 simp -dsimp
 refine br (CtP.pf h5) ?_
 simp -dsimp
 refine srs hn ?_
 simp -dsimp
 refine srs hn ?_
 obtain⟨y5,h6,hm⟩:=bnd hm
 simp -dsimp
 refine bp (CtP.pf h6) (dkL hn) ?_
 simp -dsimp
 refine ly bE mixed (by rw[hn]; kernel_rfl) ?_
 simp -dsimp
 refine br (CtP.pf h1) ?_
 obtain⟨y6,h7,hm⟩:=bnd hm
 simp -dsimp
 refine br (CtP.pf h7) ?_
 simp -dsimp
 refine srs hn ?_
 obtain⟨y7,h8,hm⟩:=bnd hm
 simp -dsimp
 refine bp ((CtP.pf h8).wk (by simp[V.wkl])) (dkL hn) ?_
 simp -dsimp
 refine srs hn ?_
 simp -dsimp
 obtain⟨a,j23,hm⟩:=bnd hm
 refine scE [(0,vT a)] [] ?_ fun Z O hf=>?_
 ·replace hm:=j23
  clear j23
  exact zz
 ·clear j23
  exact zz⟩
instance c_R07_before (a b r):CtP (k9 a b=some r) (bj Tryz.prog 79 [.u (.agg [dI a.X,dI a.Y]),.u (.agg [dI b.X,dI b.Y])] (vT r)):=⟨fun hm=>by
 refine db Tryz.func79 Tryz.ntmps79 fun cx hn=>?_
 unfold k9 at hm
 refine srs hn ?_
 simp -dsimp
 obtain⟨a1,j3,hm⟩:=bnd hm
 refine scE [(4,vT a1)] [] ?_ fun Z O hf=>?_
 ·replace hm:=j3
  clear j3
  exact zz
 ·clear j3
  exact zz⟩
def F_R07_Right_1 (cx:Cx) (_l:List Point) (tt:Bool ⊕ Unit) (ee:Exit) (Z:Env) (O:Sto):Prop:=match tt with
 | .inl r=>ee=.ret/\EE cx (fun Z O=>∃ v,gF tb Z O Tryz.f43.results.toList=some v/\(v.frz O).free=true/\(v.frz O).wk (vT r)) Z O
 | .inr _u=>ee=.exit 0/\EE cx (bH [] []) Z O
instance l_R07_Right_1 (l) {fu stt tt}:LtP (bm (jh l) fu stt=some tt) (lp 55 stt (fun i=>[(0,.u (.one (dR2 l))),(3,vI i)]) (fun _i=>[]) (cD [1,1,0,1,0,0] (bC Tryz.f43)) fun cx=>F_R07_Right_1 cx l tt):=⟨fun hh cx hn Z O hE=>by
 refine bZ hE hh (F_R07_Right_1 cx l) ?_
 rintro i r hm Z O hf
 simp only[Fits,bv,bw,and_true] at hf
 unfold jh at hm
 dsimp only at hm
 refine ba ?_
 refine srs hn ?_
 simp -dsimp [hf]
 rcases bz hm with ⟨c3,hm⟩ | ⟨c3,hm⟩
 ·refine bg (by simp -dsimp) c3 ?_
  refine be (b9 (ba (bb ?_)))
  refine srs hn ?_
  obtain⟨x,h4,hm⟩:=bnd hm
  simp -dsimp [hf,c3,h4]
  obtain⟨a1,j13,hm⟩:=bnd hm
  refine scE [(0,.u (.one (dR2 l))),(3,vI i),(54,vT a1)] [] ?_ fun Z O hf=>?_
  ·replace hm:=j13
   clear j13
   exact zz
  ·clear j13
   exact zz
 ·exact zz⟩
instance c_R07_Right (l r):CtP (jI l=some r) (bj Tryz.prog 43 [.u (.one (dR2 l))] (vT r)):=⟨fun hm=>by
 refine db Tryz.func43 Tryz.ntmps43 fun cx hn=>?_
 unfold jI at hm
 refine srs hn ?_
 simp -dsimp
 refine ba ?_
 obtain⟨a,j15,hm⟩:=bnd hm
 refine scE [(0,.u (.one (dR2 l))),(12,vT a)] [] ?_ fun Z O hf=>?_
 ·replace hm:=j15
  clear j15
  exact zz
 ·clear j15
  simp only[Fits,bv,bw,and_true] at hf
  rcases bz hm with ⟨c2,hm⟩ | ⟨c2,hm⟩
  ·exact zz
  ·refine bi (by simp -dsimp [hf]) c2 ?_
   refine be (b9 (ba ?_))
   refine srs hn ?_
   simp -dsimp
   refine bb ?_
   obtain⟨o_,g14,hm⟩:=bnd hm
   refine bG (LtP.pf g14 cx hn) (by
     try dsimp only
     exact EE.here (by simp -dsimp [hf])
   ) fun ee Z O xx=>?_
   rcases o_ with r | _u
   ·exact zz
   ·exact zz⟩
def F_R12_Right_2 (cx:Cx) (t:Tree) (i:Int) (_x:Node) (tt:Bool ⊕ Unit) (ee:Exit) (Z:Env) (O:Sto):Prop:=match tt with
 | .inl r=>ee=.ret/\EE cx (fun Z O=>∃ v,gF tb Z O Tryz.f21.results.toList=some v/\(v.frz O).free=true/\(v.frz O).wk (vT r)) Z O
 | .inr _u=>ee=.exit 2/\EE cx (bH [(1,vX 1),(3,vI (bf t.Nodes)),(4,vI i)] [(1,.box [dI t.States,dR2 t.Hood,dR1 t.Nodes])]) Z O
instance l_R12_Right_2 (t i x) {fu stt tt}:LtP (bm (hY t i x) fu stt=some tt) (lp 115 stt (fun s=>[(1,vX 1),(3,vI (bf t.Nodes)),(4,vI i),(5,vX 5),(6,vI s)]) (fun _s=>[(1,.box [dI t.States,dR2 t.Hood,dR1 t.Nodes]),(5,.box [dI x.Level,dL x.Next])]) (cD [1,1,1,0,1,0,0,1,0,0,1,1,1,0,0] (bC Tryz.f21)) fun cx=>F_R12_Right_2 cx t i x tt):=⟨fun hh cx hn Z O hE=>by
 refine bZ hE hh (F_R12_Right_2 cx t i x) ?_
 rintro s r hm Z O hf
 simp only[Fits,bv,bw,and_true] at hf
 unfold hY at hm
 dsimp only at hm
 refine ba ?_
 refine srs hn ?_
 simp -dsimp [hf]
 rcases bz hm with ⟨c12,hm⟩ | ⟨c12,hm⟩
 ·refine bg (by simp -dsimp) c12 ?_
  refine be (b9 (ba (bb ?_)))
  refine srs hn ?_
  obtain⟨x1,h13,hm⟩:=bnd hm
  simp -dsimp [hf,c12,h13]
  refine ba ?_
  refine srs hn ?_
  simp -dsimp
  rcases bz hm with ⟨c14,hm⟩ | ⟨c14,hm⟩
  ·exact zz
  ·refine bi (by simp -dsimp) c14 ?_
   refine be (b9 (ba ?_))
   obtain⟨a2,j22,hm⟩:=bnd hm
   refine scE [(1,vX 1),(3,vI (bf t.Nodes)),(4,vI i),(5,vX 5),(6,vI s),(7,vI x1),(83,vT a2)] [(1,.box [dI t.States,dR2 t.Hood,dR1 t.Nodes]),(5,.box [dI x.Level,dL x.Next])] ?_ fun Z O hf=>?_
   ·replace hm:=j22
    clear j22
    exact zz
   ·clear j22
    simp only[Fits,bv,bw,and_true] at hf
    rcases bz hm with ⟨c16,hm⟩ | ⟨c16,hm⟩
    ·exact zz
    ·refine bi (by simp -dsimp [hf]) c16 ?_
     refine be (b9 ?_)
     obtain⟨a3,j21,hm⟩:=bnd hm
     refine scE [(1,vX 1),(3,vI (bf t.Nodes)),(4,vI i),(5,vX 5),(6,vI s),(103,vT a3)] [(1,.box [dI t.States,dR2 t.Hood,dR1 t.Nodes]),(5,.box [dI x.Level,dL x.Next])] ?_ fun Z O hf=>?_
     ·replace hm:=j21
      clear j21
      exact zz
     ·clear j21
      exact zz
 ·exact zz⟩
def F_R12_Right_1 (cx:Cx) (t:Tree) (tt:Bool ⊕ Unit) (ee:Exit) (Z:Env) (O:Sto):Prop:=match tt with
 | .inl r=>ee=.ret/\EE cx (fun Z O=>∃ v,gF tb Z O Tryz.f21.results.toList=some v/\(v.frz O).free=true/\(v.frz O).wk (vT r)) Z O
 | .inr _u=>ee=.exit 0/\EE cx (bH [(1,vX 1),(3,vI (bf t.Nodes))] [(1,.box [dI t.States,dR2 t.Hood,dR1 t.Nodes])]) Z O
instance l_R12_Right_1 (t) {fu stt tt}:LtP (bm (hP t) fu stt=some tt) (lp 115 stt (fun i=>[(1,vX 1),(3,vI (bf t.Nodes)),(4,vI i)]) (fun _i=>[(1,.box [dI t.States,dR2 t.Hood,dR1 t.Nodes])]) (cD [1,1,1,0,1,0,0] (bC Tryz.f21)) fun cx=>F_R12_Right_1 cx t tt):=⟨fun hh cx hn Z O hE=>by
 refine bZ hE hh (F_R12_Right_1 cx t) ?_
 rintro i r hm Z O hf
 simp only[Fits,bv,bw,and_true] at hf
 unfold hP at hm
 dsimp only at hm
 refine ba ?_
 refine srs hn ?_
 simp -dsimp [hf]
 rcases bz hm with ⟨c7,hm⟩ | ⟨c7,hm⟩
 ·refine bg (by simp -dsimp) c7 ?_
  refine be (b9 (ba (bb ?_)))
  refine srs hn ?_
  obtain⟨x,h8,hm⟩:=bnd hm
  simp -dsimp [hf,c7,h8]
  refine ba ?_
  obtain⟨a1,j24,hm⟩:=bnd hm
  refine scE [(1,vX 1),(3,vI (bf t.Nodes)),(4,vI i),(5,vX 5),(61,vT a1)] [(1,.box [dI t.States,dR2 t.Hood,dR1 t.Nodes]),(5,.box [dI x.Level,dL x.Next])] ?_ fun Z O hf=>?_
  ·replace hm:=j24
   clear j24
   exact zz
  ·clear j24
   simp only[Fits,bv,bw,and_true] at hf
   rcases bz hm with ⟨c11,hm⟩ | ⟨c11,hm⟩
   ·exact zz
   ·refine bi (by simp -dsimp [hf]) c11 ?_
    refine be (b9 ?_)
    refine srs hn ?_
    simp -dsimp
    refine bb ?_
    obtain⟨o_,g23,hm⟩:=bnd hm
    refine bG (LtP.pf g23 cx hn) (by
      try dsimp only
      exact EE.here (by simp -dsimp [hf])
    ) fun ee Z O xx=>?_
    rcases o_ with r | _u
    ·exact zz
    ·exact zz
 ·exact zz⟩
instance c_R12_Right (t r):CtP (lm t=some r) (bj Tryz.prog 21 [.u (.agg [dI t.States,dR2 t.Hood,dR1 t.Nodes])] (vT r)):=⟨fun hm=>by
 refine db Tryz.func21 Tryz.ntmps21 fun cx hn=>?_
 unfold lm at hm
 refine srs hn ?_
 simp -dsimp
 refine srs hn ?_
 simp -dsimp
 refine ba ?_
 obtain⟨a,j27,hm⟩:=bnd hm
 refine scE [(1,vX 1),(3,vI (bf t.Nodes)),(32,vT a)] [(1,.box [dI t.States,dR2 t.Hood,dR1 t.Nodes])] ?_ fun Z O hf=>?_
 ·replace hm:=j27
  clear j27
  exact zz
 ·clear j27
  simp only[Fits,bv,bw,and_true] at hf
  rcases bz hm with ⟨c6,hm⟩ | ⟨c6,hm⟩
  ·exact zz
  ·refine bi (by simp -dsimp [hf]) c6 ?_
   refine be (b9 (ba ?_))
   refine srs hn ?_
   simp -dsimp
   refine bb ?_
   obtain⟨o_,g25,hm⟩:=bnd hm
   refine bG (LtP.pf g25 cx hn) (by
     try dsimp only
     exact EE.here (by simp -dsimp [hf])
   ) fun ee Z O xx=>?_
   rcases o_ with r | _u
   ·exact zz
   ·exact zz⟩
instance c_R21_Size (w hv b0 r):CtP (oE w hv b0=some r) (bj Tryz.prog 44 [vI w,vI hv,vI b0] (vT r)):=⟨fun hm=>by
 refine db Tryz.func44 Tryz.ntmps44 fun cx hn=>?_
 unfold oE at hm
 refine srs hn ?_
 simp -dsimp
 obtain⟨a,j7,hm⟩:=bnd hm
 refine scE [(6,vT a)] [] ?_ fun Z O hf=>?_
 ·replace hm:=j7
  clear j7
  exact zz
 ·clear j7
  exact zz⟩
def F_R21_Right_1 (cx:Cx) (_gv:Grid) (tt:Bool ⊕ Unit) (ee:Exit) (Z:Env) (O:Sto):Prop:=match tt with
 | .inl r=>ee=.ret/\EE cx (fun Z O=>∃ v,gF tb Z O Tryz.f22.results.toList=some v/\(v.frz O).free=true/\(v.frz O).wk (vT r)) Z O
 | .inr _u=>ee=.exit 0/\EE cx (bH [] []) Z O
instance l_R21_Right_1 (gv) {fu stt tt}:LtP (bm (jo gv) fu stt=some tt) (lp 44 stt (fun i=>[(1,vX 1),(3,vI i)]) (fun _i=>[(1,.box [dI gv.W,dI gv.H,dI gv.Edge,dL gv.Cells])]) (cD [1,1,0,1,0,0] (bC Tryz.f22)) fun cx=>F_R21_Right_1 cx gv tt):=⟨fun hh cx hn Z O hE=>by
 refine bZ hE hh (F_R21_Right_1 cx gv) ?_
 rintro i r hm Z O hf
 simp only[Fits,bv,bw,and_true] at hf
 unfold jo at hm
 dsimp only at hm
 refine ba ?_
 refine srs hn ?_
 simp -dsimp [hf]
 rcases bz hm with ⟨c4,hm⟩ | ⟨c4,hm⟩
 ·refine bg (by simp -dsimp) c4 ?_
  refine be (b9 (ba (bb ?_)))
  obtain⟨a1,j8,hm⟩:=bnd hm
  refine scE [(1,vX 1),(3,vI i),(43,vT a1)] [(1,.box [dI gv.W,dI gv.H,dI gv.Edge,dL gv.Cells])] ?_ fun Z O hf=>?_
  ·replace hm:=j8
   clear j8
   exact zz
  ·clear j8
   exact zz
 ·exact zz⟩
instance c_R21_Right (gv r):CtP (l7 gv=some r) (bj Tryz.prog 22 [.u (.agg [dI gv.W,dI gv.H,dI gv.Edge,dL gv.Cells])] (vT r)):=⟨fun hm=>by
 refine db Tryz.func22 Tryz.ntmps22 fun cx hn=>?_
 unfold l7 at hm
 refine srs hn ?_
 simp -dsimp
 refine ba ?_
 obtain⟨a,j10,hm⟩:=bnd hm
 refine scE [(1,vX 1),(22,vT a)] [(1,.box [dI gv.W,dI gv.H,dI gv.Edge,dL gv.Cells])] ?_ fun Z O hf=>?_
 ·replace hm:=j10
  clear j10
  exact zz
 ·clear j10
  simp only[Fits,bv,bw,and_true] at hf
  rcases bz hm with ⟨c3,hm⟩ | ⟨c3,hm⟩
  ·exact zz
  ·refine bi (by simp -dsimp [hf]) c3 ?_
   refine be (b9 (ba ?_))
   refine srs hn ?_
   simp -dsimp
   refine bb ?_
   obtain⟨o_,g9,hm⟩:=bnd hm
   refine bG (LtP.pf g9 cx hn) (by
     try dsimp only
     exact EE.here (by simp -dsimp [hf])
   ) fun ee Z O xx=>?_
   rcases o_ with r | _u
   ·exact zz
   ·exact zz⟩
end Go.Proofs.YtbgliammfkgfoaaGreatDoor
namespace Go.Proofs.YtbgliammfkgfoaaGreatDoor
open Go.AM Go.Proofs
set_option maxRecDepth 100000
attribute [-simp] dD e6 gg Ob.wipe Ob.ren Ob.frz1
def F_R48_check_1 (cx:Cx) (_t:Tree) (_gv:Grid) (tt:Int ⊕ Unit) (ee:Exit) (Z:Env) (O:Sto):Prop:=match tt with
 | .inl r=>ee=.ret/\EE cx (fun Z O=>∃ v,gF tb Z O Tryz.f41.results.toList=some v/\(v.frz O).free=true/\(v.frz O).wk (vI r)) Z O
 | .inr _u=>ee=.exit 0/\EE cx (bH [] []) Z O
instance l_R48_check_1 (t gv) {fu stt tt}:LtP (bm (ji t gv) fu stt=some tt) (lp 27 stt (fun i=>[(2,vX 2),(3,vX 3),(5,vI i)]) (fun _i=>[(2,.box [dI t.States,dR2 t.Hood,dR1 t.Nodes]),(3,.box [dI gv.W,dI gv.H,dI gv.Edge,dL gv.Cells])]) (cD [1,1,1,0,1,0,0] (bC Tryz.f41)) fun cx=>F_R48_check_1 cx t gv tt):=⟨fun hh cx hn Z O hE=>by
 refine bZ hE hh (F_R48_check_1 cx t gv) ?_
 rintro i r hm Z O hf
 simp only[Fits,bv,bw,and_true] at hf
 unfold ji at hm
 exact zz⟩
instance c_R48_check (t gv r):CtP (l9 t gv=some r) (bj Tryz.prog 41 [.u (.agg [dI t.States,dR2 t.Hood,dR1 t.Nodes]),.u (.agg [dI gv.W,dI gv.H,dI gv.Edge,dL gv.Cells])] (vI r)):=⟨fun hm=>by
 refine db Tryz.func41 Tryz.ntmps41 fun cx hn=>?_
 unfold l9 at hm
 refine srs hn ?_
 simp -dsimp
 refine ba ?_
 refine srs hn ?_
 obtain⟨y,h1,hm⟩:=bnd hm
 simp -dsimp
 refine bp (CtP.pf h1) (dkL hn) ?_
 simp -dsimp
 rcases bz hm with ⟨c2,hm⟩ | ⟨c2,hm⟩
 ·exact zz
 ·refine bi (by simp -dsimp) c2 ?_
  refine be (b9 (ba ?_))
  refine srs hn ?_
  obtain⟨y1,h3,hm⟩:=bnd hm
  simp -dsimp [c2]
  refine bp (CtP.pf h3) (dkL hn) ?_
  simp -dsimp
  rcases bz hm with ⟨c4,hm⟩ | ⟨c4,hm⟩
  ·exact zz
  ·refine bi (by simp -dsimp) c4 ?_
   refine be (b9 (ba ?_))
   refine srs hn ?_
   simp -dsimp [c4]
   refine bb ?_
   obtain⟨o_,g8,hm⟩:=bnd hm
   refine bG (LtP.pf g8 cx hn) (by
     try dsimp only
     exact EE.here (by simp -dsimp)
   ) fun ee Z O xx=>?_
   rcases o_ with r | _u
   ·exact zz
   ·exact zz⟩
instance c_R07_Abs (n r):CtP (nU n=some r) (bj Tryz.prog 45 [vI n] (vI r)):=⟨fun hm=>by
 refine db Tryz.func45 Tryz.ntmps45 fun cx hn=>?_
 unfold nU at hm
 refine srs hn ?_
 simp -dsimp
 refine srs hn ?_
 simp -dsimp
 refine bq ?_
 cases hm
 refine⟨.inr rfl,?_⟩
 exact EE.here (by simp -dsimp)⟩
def me (cx:Cx) (_l:List Point) (tt:Int) (ee:Exit) (Z:Env) (O:Sto):Prop:=match tt with
 | n=>ee=.exit 0/\EE cx (bH [(3,vI n)] []) Z O
instance l_R07_Radius_1 (l) {fu stt tt}:LtP (bm (ik l) fu stt=some tt) (lp 29 stt (fun | (n,i)=>[(0,.u (.one (dR2 l))),(3,vI n),(4,vI i)]) (fun | (_n,_i)=>[]) (cD [1,1,1,0,1,0,0] (bC Tryz.f23)) fun cx=>me cx l tt):=⟨fun hh cx hn Z O hE=>by
 refine bZ hE hh (me cx l) ?_
 rintro⟨n,i⟩ r hm Z O hf
 simp only[Fits,bv,bw,and_true] at hf
 unfold ik at hm
 dsimp only at hm
 refine ba ?_
 refine srs hn ?_
 simp -dsimp [hf]
 rcases bz hm with ⟨c3,hm⟩ | ⟨c3,hm⟩
 ·refine bg (by simp -dsimp) c3 ?_
  refine be (b9 (ba (bb ?_)))
  refine sw_qt bE mixed (by rw[hn]; kernel_rfl) ?_
  obtain⟨x,h4,hm⟩:=bnd hm
  obtain⟨y1,h5,hm⟩:=bnd hm
  simp -dsimp [hf,c3,h4]
  refine br (CtP.pf h5) ?_
  obtain⟨y2,h6,hm⟩:=bnd hm
  simp -dsimp [hf,h4]
  refine br (CtP.pf h6) ?_
  simp -dsimp
  refine ca ?_
  refine b9 ?_
  refine sr1 hn ?_
  simp -dsimp [hf]
  cases hm
  refine bW ?_
  exact EE.here (by simp -dsimp [hf])
 ·refine bi (by simp -dsimp) c3 ?_
  refine gR ?_
  refine cw ?_
  cases hm
  refine jG nofun ?_
  unfold me
  dsimp only
  refine⟨rfl,?_⟩
  exact EE.here (by simp -dsimp [hf,c3])⟩
instance c_R07_Radius (l r):CtP (gP l=some r) (bj Tryz.prog 23 [.u (.one (dR2 l))] (vI r)):=⟨fun hm=>by
 refine db Tryz.func23 Tryz.ntmps23 fun cx hn=>?_
 unfold gP at hm
 exact zz⟩
def nq (cx:Cx) (_t:Tree) (_in_:List Int) (tt:Int) (ee:Exit) (Z:Env) (O:Sto):Prop:=match tt with
 | k=>ee=.exit 0/\EE cx (bH [(5,vI k)] []) Z O
instance l_R12_Value_1 (t in_) {fu stt tt}:LtP (bm (gZ t in_) fu stt=some tt) (lp 30 stt (fun | (k,i)=>[(1,.u (.one (dL in_))),(2,vX 2),(5,vI k),(6,vI i)]) (fun | (_k,_i)=>[(2,.box [dI t.States,dR2 t.Hood,dR1 t.Nodes])]) (cD [1,1,0,1,0,0] (bC Tryz.f78)) fun cx=>nq cx t in_ tt):=⟨fun hh cx hn Z O hE=>by
 refine bZ hE hh (nq cx t in_) ?_
 rintro⟨k,i⟩ r hm Z O hf
 simp only[Fits,bv,bw,and_true] at hf
 unfold gZ at hm
 exact zz⟩
instance c_R12_Value (t in_ r):CtP (lh t in_=some r) (bj Tryz.prog 78 [.u (.agg [dI t.States,dR2 t.Hood,dR1 t.Nodes]),.u (.one (dL in_))] (vI r)):=⟨fun hm=>by
 refine db Tryz.func78 Tryz.ntmps78 fun cx hn=>?_
 unfold lh at hm
 refine srs hn ?_
 simp -dsimp
 refine srs hn ?_
 simp -dsimp
 refine ba ?_
 refine srs hn ?_
 simp -dsimp
 refine bb ?_
 obtain⟨k,g5,hm⟩:=bnd hm
 refine bG (LtP.pf g5 cx hn) (by
   try dsimp only
   exact eeh
 ) fun ee Z O xx=>?_
 unfold nq at xx
 dsimp only at xx
 obtain⟨rfl,xx⟩:=xx
 refine bA ?_
 refine b9 ?_
 refine see xx fun Z O hf=>?_
 simp only[Fits,bv,bw,and_true] at hf
 refine srs hn ?_
 simp -dsimp [hf]
 refine bq ?_
 cases hm
 refine⟨.inr rfl,?_⟩
 exact EE.here (by simp -dsimp)⟩
def nu (cx:Cx) (t:Tree) (_cells:List Int) (_w _r_ _x _y:Int) (tt:(List Int)) (ee:Exit) (Z:Env) (O:Sto):Prop:=match tt with
 | in_=>ee=.exit 0/\EE cx (bH [(6,vX 6),(13,vO 5000)] [(6,.box [dI t.States,dR2 t.Hood,dR1 t.Nodes]),(5000,.row 1 3 (List.map (rI .i64) in_))]) Z O
instance l_R48_state_1 (t cells w r_ x y) {fu stt tt}:LtP (bm (eX t cells w r_ x y) fu stt=some tt) (lp 54 stt (fun | (k,_in_)=>[(1,.u (.one (dL cells))),(2,vI w),(3,vI r_),(4,vI x),(5,vI y),(6,vX 6),(13,vO 5000),(14,vI k)]) (fun | (_k,in_)=>[(6,.box [dI t.States,dR2 t.Hood,dR1 t.Nodes]),(5000,.row 1 3 (List.map (rI .i64) in_))]) (cD [1,1,0,1,0,0] (bC Tryz.f42)) fun cx=>nu cx t cells w r_ x y tt):=⟨fun hh cx hn Z O hE=>by
 refine bZ hE hh (nu cx t cells w r_ x y) ?_
 rintro⟨k,in_⟩ r hm Z O hf
 simp only[Fits,bv,bw,and_true] at hf
 unfold eX at hm
 dsimp only at hm
 refine ba ?_
 refine srs hn ?_
 simp -dsimp [hf]
 rcases bz hm with ⟨c1,hm⟩ | ⟨c1,hm⟩
 ·refine bg (by simp -dsimp) c1 ?_
  refine be (b9 (ba (bb ?_)))
  refine sw_drN bE mixed 28 (by rw[hn]; kernel_rfl) ?_
  dsimp only [List.take,List.drop]
  obtain⟨x1,h2,hm⟩:=bnd hm
  obtain⟨x2,h3,hm⟩:=bnd hm
  obtain⟨l,h4,hm⟩:=bnd hm
  obtain⟨h4a,h4e⟩:=bL h4
  replace h4e:=h4e.symm
  subst h4e
  try simp only[List.length_cons,List.length_nil,Nat.zero_add] at h4a
  simp -dsimp [hf,c1,h2,h3,h4a]
  refine ca ?_
  refine b9 ?_
  refine sr1 hn ?_
  simp -dsimp [hf]
  cases hm
  refine bW ?_
  refine emv 50 5000 ?_
  exact zz
 ·exact zz⟩
instance c_R48_state (t cells w r_ x y r):CtP (lg t cells w r_ x y=some r) (bj Tryz.prog 42 [.u (.agg [dI t.States,dR2 t.Hood,dR1 t.Nodes]),.u (.one (dL cells)),vI w,vI r_,vI x,vI y] (vI r)):=⟨fun hm=>by
 refine db Tryz.func42 Tryz.ntmps42 fun cx hn=>?_
 unfold lg at hm
 refine srs hn ?_
 simp -dsimp
 refine srs hn ?_
 simp -dsimp
 refine ba ?_
 refine srs hn ?_
 simp -dsimp
 refine bb ?_
 obtain⟨in_,g5,hm⟩:=bnd hm
 refine bG (LtP.pf g5 cx hn) (by
   try dsimp only
   refine EE.step (Wk.own0 13 5000 1 3 (by simp -dsimp) (by decide)) ?_
   exact zz
 ) fun ee Z O xx=>?_
 unfold nu at xx
 dsimp only at xx
 obtain⟨rfl,xx⟩:=xx
 refine bA ?_
 refine b9 ?_
 refine see xx fun Z O hf=>?_
 simp only[Fits,bv,bw,and_true] at hf
 refine srs hn ?_
 obtain⟨y1,h6,hm⟩:=bnd hm
 simp -dsimp [hf]
 refine iF (us':=[.u (.agg [dI t.States,dR2 t.Hood,dR1 t.Nodes]),.u (.one (dL in_))]) (CtP.pf h6) (by simp -dsimp [hf]) rfl (dkL hn) ?_
 simp -dsimp
 refine bq ?_
 cases hm
 refine⟨.inr rfl,?_⟩
 exact EE.here (by simp -dsimp)⟩
def nw (cx:Cx) (_t:Tree) (gv:Grid) (y1:Int) (tt:(List Int)) (ee:Exit) (Z:Env) (O:Sto):Prop:=match tt with
 | l=>ee=.exit 0/\EE cx (bH [(4,vX 4),(8,vX 8)] [(4,.box [dI 0,dI 0,dI 0,.d .nil]),(8,.box [dI (bK .i64 gv.W (bU .i64 2 y1)),dI (bK .i64 gv.H (bU .i64 2 y1)),dI 0,.own 5000]),(5000,.row 1 3 (List.map (rI .i64) l))]) Z O
instance l_R48_Image_1 (t gv y1) {fu stt tt}:LtP (bm (fV t gv y1) fu stt=some tt) (lp 74 stt (fun | (i,_l)=>[(2,vX 2),(3,vX 3),(4,vX 4),(7,vI y1),(8,vX 8),(9,vI i)]) (fun | (_i,l)=>[(2,.box [dI t.States,dR2 t.Hood,dR1 t.Nodes]),(3,.box [dI gv.W,dI gv.H,dI gv.Edge,dL gv.Cells]),(4,.box [dI 0,dI 0,dI 0,.d .nil]),(8,.box [dI (bK .i64 gv.W (bU .i64 2 y1)),dI (bK .i64 gv.H (bU .i64 2 y1)),dI 0,.own 5000]),(5000,.row 1 3 (List.map (rI .i64) l))]) (cD [1,1,1,1,1,0,1,0,0] (bC Tryz.f19)) fun cx=>nw cx t gv y1 tt):=⟨fun hh cx hn Z O hE=>by
 refine bZ hE hh (nw cx t gv y1) ?_
 rintro⟨i,l⟩ r hm Z O hf
 simp only[Fits,bv,bw,and_true] at hf
 unfold fV at hm
 dsimp only at hm
 refine ba ?_
 refine srs hn ?_
 simp -dsimp [hf]
 rcases bz hm with ⟨c6,hm⟩ | ⟨c6,hm⟩
 ·refine bg (by simp -dsimp) c6 ?_
  refine be (b9 (ba (bb ?_)))
  refine sw_drN bE mixed 18 (by rw[hn]; kernel_rfl) ?_
  dsimp only [List.take,List.drop]
  obtain⟨n,h7,hm⟩:=bnd hm
  obtain⟨n1,h8,hm⟩:=bnd hm
  obtain⟨y2,h9,hm⟩:=bnd hm
  simp -dsimp [hf,c6,h7,h8]
  refine br (CtP.pf h9) ?_
  obtain⟨l1,h10,hm⟩:=bnd hm
  obtain⟨h10a,h10e⟩:=bL h10
  replace h10e:=h10e.symm
  subst h10e
  try simp only[List.length_cons,List.length_nil,Nat.zero_add] at h10a
  simp -dsimp [hf,h10a]
  refine ca ?_
  refine b9 ?_
  refine sr1 hn ?_
  simp -dsimp [hf]
  cases hm
  refine bW ?_
  refine emv 71 5000 ?_
  exact zz
 ·exact zz⟩
instance c_R48_Image (t gv r):CtP (l8 t gv=some r) (bj Tryz.prog 19 [.u (.agg [dI t.States,dR2 t.Hood,dR1 t.Nodes]),.u (.agg [dI gv.W,dI gv.H,dI gv.Edge,dL gv.Cells])] (.tup [.agg [dI r.1.W,dI r.1.H,dI r.1.Edge,dL r.1.Cells],.one (dI r.2)])):=⟨fun hm=>by
 refine db Tryz.func19 Tryz.ntmps19 fun cx hn=>?_
 unfold l8 at hm
 refine srs hn ?_
 simp -dsimp
 refine ba ?_
 refine srs hn ?_
 obtain⟨y,h1,hm⟩:=bnd hm
 simp -dsimp
 refine bp (CtP.pf h1) (dkL hn) ?_
 simp -dsimp
 refine srs hn ?_
 simp -dsimp
 rcases bz hm with ⟨c2,hm⟩ | ⟨c2,hm⟩
 ·exact zz
 ·refine bi (by simp -dsimp) c2 ?_
  refine be (b9 ?_)
  refine srs hn ?_
  obtain⟨y1,h3,hm⟩:=bnd hm
  simp -dsimp [c2]
  refine bp (CtP.pf h3) (dkL hn) ?_
  simp -dsimp
  refine ba ?_
  obtain⟨a,j12,hm⟩:=bnd hm
  refine scE [(2,vX 2),(3,vX 3),(4,vX 4),(7,vI y1),(31,vT a)] [(2,.box [dI t.States,dR2 t.Hood,dR1 t.Nodes]),(3,.box [dI gv.W,dI gv.H,dI gv.Edge,dL gv.Cells]),(4,.box [dI 0,dI 0,dI 0,.d .nil])] ?_ fun Z O hf=>?_
  ·replace hm:=j12
   clear j12
   exact zz
  ·clear j12
   simp only[Fits,bv,bw,and_true] at hf
   rcases bz hm with ⟨c5,hm⟩ | ⟨c5,hm⟩
   ·exact zz
   ·refine bi (by simp -dsimp [hf]) c5 ?_
    refine be (b9 ?_)
    refine srs hn ?_
    simp -dsimp [hf]
    refine ba ?_
    refine srs hn ?_
    simp -dsimp
    refine bb ?_
    obtain⟨l,g11,hm⟩:=bnd hm
    refine bG (LtP.pf g11 cx hn) (by
      try dsimp only
      refine EE.step (Wk.own0b 8 3 5000 1 3 [dI (bK .i64 gv.W (bU .i64 2 y1)),dI (bK .i64 gv.H (bU .i64 2 y1)),dI 0,.d .nil] (by simp -dsimp) (by rfl) (by decide) (by decide)) ?_
      exact zz
    ) fun ee Z O xx=>?_
    unfold nw at xx
    dsimp only at xx
    obtain⟨rfl,xx⟩:=xx
    refine bA ?_
    refine b9 ?_
    refine see xx fun Z O hf=>?_
    simp only[Fits,bv,bw,and_true] at hf
    refine Swp.pre (Wk.frz 5000 1 3 (List.map (rI .i64) l) (by simp -dsimp [hf])) ?_
    exact zz⟩
instance c_L48_AncestorImages (t gv r):CtP (fM t gv=some r) (bj Tryz.prog 5 [.u (.agg [dI t.States,dR2 t.Hood,dR1 t.Nodes]),.u (.agg [dI gv.W,dI gv.H,dI gv.Edge,dL gv.Cells])] (vT r)):=⟨fun hm=>by
 refine db Tryz.func5 Tryz.ntmps5 fun cx hn=>?_
 unfold fM at hm
 refine srs hn ?_
 simp -dsimp
 refine ba ?_
 obtain⟨a,j12,hm⟩:=bnd hm
 refine scE [(2,vX 2),(3,vX 3),(18,vT a)] [(2,.box [dI t.States,dR2 t.Hood,dR1 t.Nodes]),(3,.box [dI gv.W,dI gv.H,dI gv.Edge,dL gv.Cells])] ?_ fun Z O hf=>?_
 ·replace hm:=j12
  clear j12
  refine sr1 hn ?_
  obtain⟨y,h1,hm⟩:=bnd hm
  simp -dsimp
  refine bp ((CtP.pf h1).wk (by simp[V.wkl])) (dkL hn) ?_
  rcases bz hm with ⟨c2,hm⟩ | ⟨c2,hm⟩
  ·simp -dsimp [c2]
   cases hm
   exact EE.here (by simp -dsimp)
  ·simp -dsimp [c2]
   cases hm
   exact EE.here (by simp -dsimp)
 ·clear j12
  simp only[Fits,bv,bw,and_true] at hf
  rcases bz hm with ⟨c3,hm⟩ | ⟨c3,hm⟩
  ·exact zz
  ·refine bi (by simp -dsimp [hf]) c3 ?_
   refine be (b9 ?_)
   refine srs hn ?_
   obtain⟨y,h5,hm⟩:=bnd hm
   simp -dsimp [hf]
   refine bp (CtP.pf h5) (dkL hn) ?_
   simp -dsimp
   refine srs hn ?_
   obtain⟨y1,h6,hm⟩:=bnd hm
   simp -dsimp [hf]
   refine bp (CtP.pf h6) (dkL hn) ?_
   simp -dsimp
   obtain⟨a1,j11,hm⟩:=bnd hm
   refine scE [(4,vT a1)] [] ?_ fun Z O hf=>?_
   ·replace hm:=j11
    clear j11
    refine sr1 hn ?_
    obtain⟨y2,h7,hm⟩:=bnd hm
    simp -dsimp
    refine bp (CtP.pf h7) (dkL hn) ?_
    rcases bz hm with ⟨c8,hm⟩ | ⟨c8,hm⟩
    ·rcases bz hm with ⟨c9,hm⟩ | ⟨c9,hm⟩
     ·obtain⟨y3,h10,hm⟩:=bnd hm
      simp -dsimp [c8,c9]
      refine bp (CtP.pf h10) (dkL hn) ?_
      simp -dsimp
      cases hm
      exact EE.here (by simp -dsimp)
     ·simp -dsimp [c8,c9]
      cases hm
      exact EE.here (by simp -dsimp)
    ·simp -dsimp [c8]
     cases hm
     exact EE.here (by simp -dsimp)
   ·clear j11
    exact zz⟩
end Go.Proofs.YtbgliammfkgfoaaGreatDoor
