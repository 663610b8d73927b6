/- That the code does what the functions say (made by cc.py). -/
import Derived.Test.YtjlckgeecihpbaaGreatDoorTb
import Derived.Test.YtjlckgeecihpbaaGreatDoorLays
namespace Go.Proofs.YtjlckgeecihpbaaGreatDoor
open Go.AM Go.Proofs
set_option maxRecDepth 100000
attribute [-simp] ey eY i7 Ob.wipe Ob.ren Ob.frz1
def oU (cx:Cx) (_t:Tree) (x:Bg) (tt:Bool ⊕ Unit) (ee:Exit) (Z:Env) (O:Sto):Prop:=match tt with
 | .inl r=>ee=.ret/\EE cx (fun Z O=>∃ v,fC tb Z O Tryz.f4.results.toList=some v/\(v.frz O).free=true/\(v.frz O).wk (vT r)) Z O
 | .inr _u=>ee=.exit 0/\EE cx (bH [(3,vX 3)] [(3,.box [dI x.W,dI x.H,dI x.Gens,dI x.DX,dI x.DY,dL x.Syms])]) Z O
instance l_L45_Small_1 (t x) {fu stt tt}:LtP (ba (ki t x) fu stt=some tt) (lp 81 stt (fun a1=>[(2,vX 2),(3,vX 3),(34,vI (b8 t.Nodes)),(35,vI a1)]) (fun _a1=>[(2,.box [dI t.States,dR2 t.Hood,dR1 t.Nodes]),(3,.box [dI x.W,dI x.H,dI x.Gens,dI x.DX,dI x.DY,dL x.Syms])]) (cC [1,1,0,1,0,0] (bD Tryz.f4)) fun cx=>oU cx t x tt):=⟨fun hh cx hn Z O hE=>by
 refine bN hE hh (oU cx t x) ?_
 rintro a1 r hm Z O hf
 simp only[Fits,bB,bA,and_true] at hf
 unfold ki at hm
 exact zz⟩
instance c_L45_Small (t x r):CtP (mn t x=some r) (bc Tryz.prog 4 [.u (.agg [dI t.States,dR2 t.Hood,dR1 t.Nodes]),.u (.agg [dI x.W,dI x.H,dI x.Gens,dI x.DX,dI x.DY,dL x.Syms])] (vT r)):=⟨fun hm=>by
 refine cu Tryz.func4 Tryz.ntmps4 fun cx hn=>?_
 unfold mn at hm
 refine srs hn ?_
 simp -dsimp
 refine aZ ?_
 obtain⟨a,j16,hm⟩:=bnd hm
 refine scE [(2,vX 2),(3,vX 3),(31,vT a)] [(2,.box [dI t.States,dR2 t.Hood,dR1 t.Nodes]),(3,.box [dI x.W,dI x.H,dI x.Gens,dI x.DX,dI x.DY,dL x.Syms])] ?_ fun Z O hf=>?_
 ·replace hm:=j16
  clear j16
  exact zz
 ·clear j16
  simp only[Fits,bB,bA,and_true] at hf
  rcases bz hm with ⟨c5,hm⟩ | ⟨c5,hm⟩
  ·exact zz
  ·refine bf (by simp -dsimp [hf]) c5 ?_
   refine b0 (aY (aZ ?_))
   refine srs hn ?_
   simp -dsimp [hf]
   refine b7 ?_
   obtain⟨o_,g9,hm⟩:=bnd hm
   refine bG (LtP.pf g9 cx hn) (by
     try dsimp only
     exact EE.here (by simp -dsimp [hf])
   ) fun ee Z O xx=>?_
   rcases o_ with r | _u
   ·exact zz
   ·unfold oU at xx
    dsimp only at xx
    obtain⟨rfl,xx⟩:=xx
    refine bK ?_
    refine aY ?_
    refine see xx fun Z O hf=>?_
    simp only[Fits,bB,bA,and_true] at hf
    obtain⟨a1,j15,hm⟩:=bnd hm
    refine scE [(4,vT a1)] [] ?_ fun Z O hf=>?_
    ·replace hm:=j15
     clear j15
     exact zz
    ·clear j15
     exact zz⟩
instance c_L45_keep (r):CtP (m_L45_keep=some r) (bc Tryz.prog 10 [] (.u (.agg [dI r.States,dR2 r.Hood,dR1 r.Nodes]))):=⟨fun hm=>by
 refine cu Tryz.func10 Tryz.ntmps10 fun cx hn=>?_
 unfold m_L45_keep at hm
 exact zz⟩
instance c_cmp_isNaN_int (x r):CtP (iW x=some r) (bc Tryz.prog 115 [vI x] (vT r)):=⟨fun hm=>by
 refine cu Tryz.func115 Tryz.ntmps115 fun cx hn=>?_
 unfold iW at hm
 refine srs hn ?_
 simp -dsimp
 refine srs hn ?_
 simp -dsimp
 refine bC ?_
 cases hm
 refine⟨.inr rfl,?_⟩
 exact EE.here (by simp -dsimp)⟩
instance c_cmp_Compare_int (x y r):CtP (fg x y=some r) (bc Tryz.prog 100 [vI x,vI y] (vI r)):=⟨fun hm=>by
 refine cu Tryz.func100 Tryz.ntmps100 fun cx hn=>?_
 unfold fg at hm
 exact zz⟩
def F_cmp_Or_int_1 (cx:Cx) (_vals:List Int) (tt:Int ⊕ Unit) (ee:Exit) (Z:Env) (O:Sto):Prop:=match tt with
 | .inl r=>ee=.ret/\EE cx (fun Z O=>∃ v,fC tb Z O Tryz.f99.results.toList=some v/\(v.frz O).free=true/\(v.frz O).wk (vI r)) Z O
 | .inr _u=>ee=.exit 0/\EE cx (bH [(3,vI 0)] []) Z O
instance l_cmp_Or_int_1 (vals) {fu stt tt}:LtP (ba (ii vals) fu stt=some tt) (lp 18 stt (fun a=>[(3,vI 0),(6,.u (.one (dL vals))),(7,vI (b8 vals)),(8,vI a)]) (fun _a=>[]) (cC [1,1,0,1,0,0] (bD Tryz.f99)) fun cx=>F_cmp_Or_int_1 cx vals tt):=⟨fun hh cx hn Z O hE=>by
 refine bN hE hh (F_cmp_Or_int_1 cx vals) ?_
 rintro a r hm Z O hf
 simp only[Fits,bB,bA,and_true] at hf
 unfold ii at hm
 exact zz⟩
instance c_cmp_Or_int (vals r):CtP (lv vals=some r) (bc Tryz.prog 99 [.u (.one (dL vals))] (vI r)):=⟨fun hm=>by
 refine cu Tryz.func99 Tryz.ntmps99 fun cx hn=>?_
 unfold lv at hm
 refine srs hn ?_
 simp -dsimp
 refine srs hn ?_
 simp -dsimp
 refine aZ ?_
 refine srs hn ?_
 simp -dsimp
 refine b7 ?_
 obtain⟨o_,g4,hm⟩:=bnd hm
 refine bG (LtP.pf g4 cx hn) (by
   try dsimp only
   exact eeh
 ) fun ee Z O xx=>?_
 rcases o_ with r | _u
 ·exact zz
 ·exact zz⟩
instance c_point_Compare (a b r):CtP (gI a b=some r) (bc Tryz.prog 75 [.u (.agg [dI a.X,dI a.Y]),.u (.agg [dI b.X,dI b.Y])] (vI r)):=⟨fun hm=>by
 refine cu Tryz.func75 Tryz.ntmps75 fun cx hn=>?_
 unfold gI at hm
 refine srs hn ?_
 simp -dsimp
 refine iM bO mixed (by rw[hn]; kernel_rfl) ?_
 obtain⟨y,h1,hm⟩:=bnd hm
 simp -dsimp
 refine br (CtP.pf h1) ?_
 obtain⟨y1,h2,hm⟩:=bnd hm
 simp -dsimp
 refine br (CtP.pf h2) ?_
 obtain⟨y2,h3,hm⟩:=bnd hm
 simp -dsimp
 refine br (CtP.pf h3) ?_
 simp -dsimp
 refine bC ?_
 cases hm
 refine⟨.inr rfl,?_⟩
 exact EE.here (by simp -dsimp)⟩
def F_hood_Right_1 (cx:Cx) (_l:List Point) (tt:Bool ⊕ Unit) (ee:Exit) (Z:Env) (O:Sto):Prop:=match tt with
 | .inl r=>ee=.ret/\EE cx (fun Z O=>∃ v,fC tb Z O Tryz.f47.results.toList=some v/\(v.frz O).free=true/\(v.frz O).wk (vT r)) Z O
 | .inr _u=>ee=.exit 0/\EE cx (bH [] []) Z O
instance l_hood_Right_1 (l) {fu stt tt}:LtP (ba (jE l) fu stt=some tt) (lp 53 stt (fun a1=>[(0,.u (.one (dR2 l))),(13,.u (.one (dR2 l))),(14,vI (b8 l)),(15,vI a1)]) (fun _a1=>[]) (cC [1,1,0,1,0,0] (bD Tryz.f47)) fun cx=>F_hood_Right_1 cx l tt):=⟨fun hh cx hn Z O hE=>by
 refine bN hE hh (F_hood_Right_1 cx l) ?_
 rintro a1 r hm Z O hf
 simp only[Fits,bB,bA,and_true] at hf
 unfold jE at hm
 dsimp only at hm
 refine srs hn ?_
 simp -dsimp [hf]
 refine aZ ?_
 rcases bz hm with ⟨c3,hm⟩ | ⟨c3,hm⟩
 ·refine b9 (by simp -dsimp) c3 ?_
  refine b0 (aY (aZ (b7 ?_)))
  refine srs hn ?_
  obtain⟨x,h4,hm⟩:=bnd hm
  simp -dsimp [hf,c3,h4]
  obtain⟨a2,j13,hm⟩:=bnd hm
  refine scE [(0,.u (.one (dR2 l))),(13,.u (.one (dR2 l))),(14,vI (b8 l)),(15,vI a1),(51,vT a2)] [] ?_ fun Z O hf=>?_
  ·replace hm:=j13
   clear j13
   exact zz
  ·clear j13
   exact zz
 ·exact zz⟩
instance c_hood_Right (l r):CtP (jO l=some r) (bc Tryz.prog 47 [.u (.one (dR2 l))] (vT r)):=⟨fun hm=>by
 refine cu Tryz.func47 Tryz.ntmps47 fun cx hn=>?_
 unfold jO at hm
 refine srs hn ?_
 simp -dsimp
 refine aZ ?_
 obtain⟨a,j15,hm⟩:=bnd hm
 refine scE [(0,.u (.one (dR2 l))),(12,vT a)] [] ?_ fun Z O hf=>?_
 ·replace hm:=j15
  clear j15
  exact zz
 ·clear j15
  simp only[Fits,bB,bA,and_true] at hf
  rcases bz hm with ⟨c2,hm⟩ | ⟨c2,hm⟩
  ·exact zz
  ·refine bf (by simp -dsimp [hf]) c2 ?_
   refine b0 (aY (aZ ?_))
   refine srs hn ?_
   simp -dsimp [hf]
   refine b7 ?_
   obtain⟨o_,g14,hm⟩:=bnd hm
   refine bG (LtP.pf g14 cx hn) (by
     try dsimp only
     exact EE.here (by simp -dsimp [hf])
   ) fun ee Z O xx=>?_
   rcases o_ with r | _u
   ·exact zz
   ·exact zz⟩
def F_tree_Right_2 (cx:Cx) (t:Tree) (a1:Int) (_x:Node) (tt:Bool ⊕ Unit) (ee:Exit) (Z:Env) (O:Sto):Prop:=match tt with
 | .inl r=>ee=.ret/\EE cx (fun Z O=>∃ v,fC tb Z O Tryz.f37.results.toList=some v/\(v.frz O).free=true/\(v.frz O).wk (vT r)) Z O
 | .inr _u=>ee=.exit 2/\EE cx (bH [(1,vX 1),(47,.u (.one (dR1 t.Nodes))),(48,vI (b8 t.Nodes)),(49,vI a1)] [(1,.box [dI t.States,dR2 t.Hood,dR1 t.Nodes])]) Z O
instance l_tree_Right_2 (t a1 x) {fu stt tt}:LtP (ba (ik t a1 x) fu stt=some tt) (lp 117 stt (fun a3=>[(1,vX 1),(4,vI a1),(5,vX 5),(47,.u (.one (dR1 t.Nodes))),(48,vI (b8 t.Nodes)),(49,vI a1),(74,.u (.one (dL x.Next))),(75,vI (b8 x.Next)),(76,vI a3)]) (fun _a3=>[(1,.box [dI t.States,dR2 t.Hood,dR1 t.Nodes]),(5,.box [dI x.Level,dL x.Next])]) (cC [1,1,1,0,1,0,0,1,1,0,0,1,1,1,0,0] (bD Tryz.f37)) fun cx=>F_tree_Right_2 cx t a1 x tt):=⟨fun hh cx hn Z O hE=>by
 refine bN hE hh (F_tree_Right_2 cx t a1 x) ?_
 rintro a3 r hm Z O hf
 simp only[Fits,bB,bA,and_true] at hf
 unfold ik at hm
 dsimp only at hm
 refine srs hn ?_
 simp -dsimp [hf]
 refine aZ ?_
 rcases bz hm with ⟨c14,hm⟩ | ⟨c14,hm⟩
 ·refine b9 (by simp -dsimp) c14 ?_
  refine b0 (aY (aZ (b7 ?_)))
  refine srs hn ?_
  obtain⟨x1,h15,hm⟩:=bnd hm
  simp -dsimp [hf,c14,h15]
  obtain⟨a4,j26,hm⟩:=bnd hm
  refine scE [(1,vX 1),(4,vI a1),(5,vX 5),(47,.u (.one (dR1 t.Nodes))),(48,vI (b8 t.Nodes)),(49,vI a1),(74,.u (.one (dL x.Next))),(75,vI (b8 x.Next)),(76,vI a3),(114,vT a4)] [(1,.box [dI t.States,dR2 t.Hood,dR1 t.Nodes]),(5,.box [dI x.Level,dL x.Next])] ?_ fun Z O hf=>?_
  ·replace hm:=j26
   clear j26
   exact zz
  ·clear j26
   exact zz
 ·exact zz⟩
def F_tree_Right_1 (cx:Cx) (_t:Tree) (tt:Bool ⊕ Unit) (ee:Exit) (Z:Env) (O:Sto):Prop:=match tt with
 | .inl r=>ee=.ret/\EE cx (fun Z O=>∃ v,fC tb Z O Tryz.f37.results.toList=some v/\(v.frz O).free=true/\(v.frz O).wk (vT r)) Z O
 | .inr _u=>ee=.exit 0/\EE cx (bH [] []) Z O
instance l_tree_Right_1 (t) {fu stt tt}:LtP (ba (ib t) fu stt=some tt) (lp 117 stt (fun a1=>[(1,vX 1),(47,.u (.one (dR1 t.Nodes))),(48,vI (b8 t.Nodes)),(49,vI a1)]) (fun _a1=>[(1,.box [dI t.States,dR2 t.Hood,dR1 t.Nodes])]) (cC [1,1,1,0,1,0,0] (bD Tryz.f37)) fun cx=>F_tree_Right_1 cx t tt):=⟨fun hh cx hn Z O hE=>by
 refine bN hE hh (F_tree_Right_1 cx t) ?_
 rintro a1 r hm Z O hf
 simp only[Fits,bB,bA,and_true] at hf
 unfold ib at hm
 dsimp only at hm
 refine srs hn ?_
 simp -dsimp [hf]
 refine aZ ?_
 rcases bz hm with ⟨c9,hm⟩ | ⟨c9,hm⟩
 ·refine b9 (by simp -dsimp) c9 ?_
  refine b0 (aY (aZ (b7 ?_)))
  refine srs hn ?_
  obtain⟨x,h10,hm⟩:=bnd hm
  simp -dsimp [hf,c9,h10]
  refine aZ ?_
  obtain⟨a2,j28,hm⟩:=bnd hm
  refine scE [(1,vX 1),(4,vI a1),(5,vX 5),(47,.u (.one (dR1 t.Nodes))),(48,vI (b8 t.Nodes)),(49,vI a1),(72,vT a2)] [(1,.box [dI t.States,dR2 t.Hood,dR1 t.Nodes]),(5,.box [dI x.Level,dL x.Next])] ?_ fun Z O hf=>?_
  ·replace hm:=j28
   clear j28
   exact zz
  ·clear j28
   simp only[Fits,bB,bA,and_true] at hf
   rcases bz hm with ⟨c13,hm⟩ | ⟨c13,hm⟩
   ·exact zz
   ·refine bf (by simp -dsimp [hf]) c13 ?_
    refine b0 (aY ?_)
    refine srs hn ?_
    simp -dsimp [hf]
    refine b7 ?_
    obtain⟨o_,g27,hm⟩:=bnd hm
    refine bG (LtP.pf g27 cx hn) (by
      try dsimp only
      refine EE.here ?_
      exact zz
    ) fun ee Z O xx=>?_
    rcases o_ with r | _u
    ·exact zz
    ·exact zz
 ·exact zz⟩
instance c_tree_Right (t r):CtP (gO t=some r) (bc Tryz.prog 37 [.u (.agg [dI t.States,dR2 t.Hood,dR1 t.Nodes])] (vT r)):=⟨fun hm=>by
 refine cu Tryz.func37 Tryz.ntmps37 fun cx hn=>?_
 unfold gO at hm
 refine srs hn ?_
 simp -dsimp
 refine srs hn ?_
 simp -dsimp
 refine aZ ?_
 obtain⟨a,j30,hm⟩:=bnd hm
 refine scE [(1,vX 1),(45,vT a)] [(1,.box [dI t.States,dR2 t.Hood,dR1 t.Nodes])] ?_ fun Z O hf=>?_
 ·replace hm:=j30
  clear j30
  exact zz
 ·clear j30
  simp only[Fits,bB,bA,and_true] at hf
  rcases bz hm with ⟨c8,hm⟩ | ⟨c8,hm⟩
  ·exact zz
  ·refine bf (by simp -dsimp [hf]) c8 ?_
   refine b0 (aY (aZ ?_))
   refine srs hn ?_
   simp -dsimp [hf]
   refine b7 ?_
   obtain⟨o_,g29,hm⟩:=bnd hm
   refine bG (LtP.pf g29 cx hn) (by
     try dsimp only
     exact EE.here (by simp -dsimp [hf])
   ) fun ee Z O xx=>?_
   rcases o_ with r | _u
   ·exact zz
   ·exact zz⟩
def nL (cx:Cx) (_t:Tree) (_in_:List Int) (tt:Int) (ee:Exit) (Z:Env) (O:Sto):Prop:=match tt with
 | k=>ee=.exit 0/\EE cx (bH [(5,vI k)] []) Z O
instance l_tree_value_1 (t in_) {fu stt tt}:LtP (ba (iy t in_) fu stt=some tt) (lp 29 stt (fun | (k,a)=>[(2,vX 2),(5,vI k),(12,.u (.one (dL in_))),(13,vI (b8 in_)),(14,vI a)]) (fun | (_k,_a)=>[(2,.box [dI t.States,dR2 t.Hood,dR1 t.Nodes])]) (cC [1,1,0,1,0,0] (bD Tryz.f111)) fun cx=>nL cx t in_ tt):=⟨fun hh cx hn Z O hE=>by
 refine bN hE hh (nL cx t in_) ?_
 rintro⟨k,a⟩ r hm Z O hf
 simp only[Fits,bB,bA,and_true] at hf
 unfold iy at hm
 exact zz⟩
instance c_tree_value (t in_ r):CtP (lg t in_=some r) (bc Tryz.prog 111 [.u (.agg [dI t.States,dR2 t.Hood,dR1 t.Nodes]),.u (.one (dL in_))] (vI r)):=⟨fun hm=>by
 refine cu Tryz.func111 Tryz.ntmps111 fun cx hn=>?_
 unfold lg at hm
 refine srs hn ?_
 simp -dsimp
 refine srs hn ?_
 simp -dsimp
 refine aZ ?_
 refine srs hn ?_
 simp -dsimp
 refine b7 ?_
 obtain⟨k,g5,hm⟩:=bnd hm
 refine bG (LtP.pf g5 cx hn) (by
   try dsimp only
   exact eeh
 ) fun ee Z O xx=>?_
 unfold nL at xx
 dsimp only at xx
 obtain⟨rfl,xx⟩:=xx
 refine bK ?_
 refine aY ?_
 refine see xx fun Z O hf=>?_
 simp only[Fits,bB,bA,and_true] at hf
 refine srs hn ?_
 simp -dsimp [hf]
 refine bC ?_
 cases hm
 refine⟨.inr rfl,?_⟩
 exact EE.here (by simp -dsimp)⟩
instance c_tree_Quiet (t r):CtP (lr t=some r) (bc Tryz.prog 91 [.u (.agg [dI t.States,dR2 t.Hood,dR1 t.Nodes])] (vT r)):=⟨fun hm=>by
 refine cu Tryz.func91 Tryz.ntmps91 fun cx hn=>?_
 unfold lr at hm
 refine srs hn ?_
 simp -dsimp
 obtain⟨a,j5,hm⟩:=bnd hm
 refine scE [(2,vT a)] [] ?_ fun Z O hf=>?_
 ·replace hm:=j5
  clear j5
  refine sw_midc bO mixed 7 8 8 0 [[3]] [[10]] [] none (by rw[hn]; kernel_rfl) ep ?_
  dsimp only [List.take,List.drop,gz,gP,jl,pk,List.cons_append,List.nil_append,List.flatten_cons,List.flatten_nil,dY,dW,List.append_nil]
  obtain⟨y,h1,hm⟩:=bnd hm
  simp -dsimp
  refine br (CtP.pf h1) ?_
  rcases bz hm with ⟨c2,hm⟩ | ⟨c2,hm⟩
  ·obtain⟨l,h3,hm⟩:=bnd hm
   obtain⟨⟨h3a,h3b,h3c⟩,rfl⟩:=nu h3
   obtain⟨y1,h4,hm⟩:=bnd hm
   simp -dsimp [c2,h3a,h3c]
   refine nk (us':=[.u (.agg [dI t.States,dR2 t.Hood,dR1 t.Nodes]),.u (.one (dL (List.replicate (b8 t.Hood).toNat 0)))]) (CtP.pf h4) (by simp -dsimp) rfl (dkL hn) ?_
   simp -dsimp
   cases hm
   exact EE.here (by simp -dsimp)
  ·simp -dsimp [c2]
   cases hm
   exact EE.here (by simp -dsimp)
 ·clear j5
  exact zz⟩
instance c_pattern_at (cv r):CtP (iL cv=some r) (bc Tryz.prog 56 [.u (.agg [dI cv.X,dI cv.Y,dI cv.S])] (.u (.agg [dI r.X,dI r.Y]))):=⟨fun hm=>by
 refine cu Tryz.func56 Tryz.ntmps56 fun cx hn=>?_
 unfold iL at hm
 exact zz⟩
instance c_pattern_placed (p r):CtP (ij p=some r) (bc Tryz.prog 55 [.u (.agg [dI p.X,dI p.Y])] (vT r)):=⟨fun hm=>by
 refine cu Tryz.func55 Tryz.ntmps55 fun cx hn=>?_
 unfold ij at hm
 refine srs hn ?_
 simp -dsimp
 obtain⟨a,j2,hm⟩:=bnd hm
 refine scE [(2,vT a)] [] ?_ fun Z O hf=>?_
 ·replace hm:=j2
  clear j2
  exact zz
 ·clear j2
  exact zz⟩
instance c_pattern_order (a b r):CtP (iY a b=some r) (bc Tryz.prog 57 [.u (.agg [dI a.X,dI a.Y,dI a.S]),.u (.agg [dI b.X,dI b.Y,dI b.S])] (vI r)):=⟨fun hm=>by
 refine cu Tryz.func57 Tryz.ntmps57 fun cx hn=>?_
 unfold iY at hm
 refine srs hn ?_
 simp -dsimp
 refine iM bO mixed (by rw[hn]; kernel_rfl) ?_
 obtain⟨y,h1,hm⟩:=bnd hm
 simp -dsimp
 refine br (CtP.pf h1) ?_
 obtain⟨y1,h2,hm⟩:=bnd hm
 simp -dsimp
 refine br (CtP.pf h2) ?_
 obtain⟨y2,h3,hm⟩:=bnd hm
 simp -dsimp
 refine br (CtP.pf h3) ?_
 simp -dsimp
 refine bC ?_
 cases hm
 refine⟨.inr rfl,?_⟩
 exact EE.here (by simp -dsimp)⟩
def ow (cx:Cx) (_p:List Cell) (tt:Bool ⊕ Unit) (ee:Exit) (Z:Env) (O:Sto):Prop:=match tt with
 | .inl r=>ee=.ret/\EE cx (fun Z O=>∃ v,fC tb Z O Tryz.f26.results.toList=some v/\(v.frz O).free=true/\(v.frz O).wk (vT r)) Z O
 | .inr _u=>ee=.exit 0/\EE cx (bH [] []) Z O
instance l_pattern_Right_1 (p) {fu stt tt}:LtP (ba (f0 p) fu stt=some tt) (lp 44 stt (fun a=>[(0,.u (.one (dR0 p))),(8,.u (.one (dR0 p))),(9,vI (b8 p)),(10,vI a)]) (fun _a=>[]) (cC [1,1,0,1,0,0] (bD Tryz.f26)) fun cx=>ow cx p tt):=⟨fun hh cx hn Z O hE=>by
 refine bN hE hh (ow cx p) ?_
 rintro a r hm Z O hf
 simp only[Fits,bB,bA,and_true] at hf
 unfold f0 at hm
 dsimp only at hm
 refine srs hn ?_
 simp -dsimp [hf]
 refine aZ ?_
 rcases bz hm with ⟨c2,hm⟩ | ⟨c2,hm⟩
 ·refine b9 (by simp -dsimp) c2 ?_
  refine b0 (aY (aZ (b7 ?_)))
  refine srs hn ?_
  obtain⟨x,h3,hm⟩:=bnd hm
  simp -dsimp [hf,c2,h3]
  obtain⟨a1,j13,hm⟩:=bnd hm
  refine scE [(0,.u (.one (dR0 p))),(8,.u (.one (dR0 p))),(9,vI (b8 p)),(10,vI a),(42,vT a1)] [] ?_ fun Z O hf=>?_
  ·replace hm:=j13
   clear j13
   exact zz
  ·clear j13
   exact zz
 ·exact zz⟩
instance c_pattern_Right (p r):CtP (eI p=some r) (bc Tryz.prog 26 [.u (.one (dR0 p))] (vT r)):=⟨fun hm=>by
 refine cu Tryz.func26 Tryz.ntmps26 fun cx hn=>?_
 unfold eI at hm
 refine srs hn ?_
 simp -dsimp
 refine aZ ?_
 refine srs hn ?_
 simp -dsimp
 rcases bz hm with ⟨c1,hm⟩ | ⟨c1,hm⟩
 ·exact zz
 ·refine scf c1 ?_
  refine b0 (aY (aZ ?_))
  refine srs hn ?_
  simp -dsimp [c1]
  refine b7 ?_
  obtain⟨o_,g14,hm⟩:=bnd hm
  refine bG (LtP.pf g14 cx hn) (by
    try dsimp only
    exact EE.here (by simp -dsimp)
  ) fun ee Z O xx=>?_
  rcases o_ with r | _u
  ·exact zz
  ·exact zz⟩
end Go.Proofs.YtjlckgeecihpbaaGreatDoor
namespace Go.Proofs.YtjlckgeecihpbaaGreatDoor
open Go.AM Go.Proofs
set_option maxRecDepth 100000
attribute [-simp] ey eY i7 Ob.wipe Ob.ren Ob.frz1
def mD (cx:Cx) (_p:List Cell) (tt:Int) (ee:Exit) (Z:Env) (O:Sto):Prop:=match tt with
 | n=>ee=.exit 0/\EE cx (bH [(3,vI n)] []) Z O
instance l_pattern_Top_1 (p) {fu stt tt}:LtP (ba (fk p) fu stt=some tt) (lp 19 stt (fun | (n,a)=>[(0,.u (.one (dR0 p))),(3,vI n),(6,vI (b8 p)),(7,vI a)]) (fun | (_n,_a)=>[]) (cC [1,1,0,1,0,0] (bD Tryz.f29)) fun cx=>mD cx p tt):=⟨fun hh cx hn Z O hE=>by
 refine bN hE hh (mD cx p) ?_
 rintro⟨n,a⟩ r hm Z O hf
 simp only[Fits,bB,bA,and_true] at hf
 unfold fk at hm
 exact zz⟩
instance c_pattern_Top (p r):CtP (fP p=some r) (bc Tryz.prog 29 [.u (.one (dR0 p))] (vI r)):=⟨fun hm=>by
 refine cu Tryz.func29 Tryz.ntmps29 fun cx hn=>?_
 unfold fP at hm
 refine srs hn ?_
 simp -dsimp
 refine srs hn ?_
 simp -dsimp
 refine aZ ?_
 refine srs hn ?_
 simp -dsimp
 refine b7 ?_
 obtain⟨n,g3,hm⟩:=bnd hm
 refine bG (LtP.pf g3 cx hn) (by
   try dsimp only
   exact eeh
 ) fun ee Z O xx=>?_
 unfold mD at xx
 dsimp only at xx
 obtain⟨rfl,xx⟩:=xx
 refine bK ?_
 refine aY ?_
 refine see xx fun Z O hf=>?_
 simp only[Fits,bB,bA,and_true] at hf
 refine srs hn ?_
 simp -dsimp [hf]
 refine bC ?_
 cases hm
 refine⟨.inr rfl,?_⟩
 exact EE.here (by simp -dsimp)⟩
instance c_direct_check (t p r):CtP (iA t p=some r) (bc Tryz.prog 70 [.u (.agg [dI t.States,dR2 t.Hood,dR1 t.Nodes]),.u (.one (dR0 p))] (vI r)):=⟨fun hm=>by
 refine cu Tryz.func70 Tryz.ntmps70 fun cx hn=>?_
 unfold iA at hm
 refine srs hn ?_
 simp -dsimp
 refine aZ (b7 ?_)
 refine srs hn ?_
 obtain⟨y,h1,hm⟩:=bnd hm
 simp -dsimp
 refine bi (CtP.pf h1) (dkL hn) ?_
 simp -dsimp
 rcases bz hm with ⟨c2,hm⟩ | ⟨c2,hm⟩
 ·refine b9 (by simp -dsimp) c2 ?_
  refine srs hn ?_
  simp -dsimp [c2]
  refine bC (blk_r (fI ?_))
  cases hm
  refine⟨.inr rfl,?_⟩
  exact EE.here (by simp -dsimp)
 ·refine bf (by simp -dsimp) c2 ?_
  refine srs hn ?_
  obtain⟨y1,h3,hm⟩:=bnd hm
  simp -dsimp [c2]
  refine bi (CtP.pf h3) (dkL hn) ?_
  simp -dsimp
  rcases bz hm with ⟨c4,hm⟩ | ⟨c4,hm⟩
  ·refine b9 (by simp -dsimp) c4 ?_
   refine srs hn ?_
   simp -dsimp [c4]
   refine bC (blk_r (fI ?_))
   cases hm
   refine⟨.inr rfl,?_⟩
   exact EE.here (by simp -dsimp)
  ·refine bf (by simp -dsimp) c4 ?_
   refine iM bO mixed (by rw[hn]; kernel_rfl) ?_
   obtain⟨y2,h5,hm⟩:=bnd hm
   simp -dsimp [c4]
   refine br (CtP.pf h5) ?_
   simp -dsimp
   rcases bz hm with ⟨c6,hm⟩ | ⟨c6,hm⟩
   ·refine b9 (by simp -dsimp) c6 ?_
    refine srs hn ?_
    simp -dsimp [c6]
    refine bC (blk_r (fI ?_))
    cases hm
    refine⟨.inr rfl,?_⟩
    exact EE.here (by simp -dsimp)
   ·refine bf (by simp -dsimp) c6 ?_
    refine b0 ?_
    refine cr ?_
    refine aY ?_
    refine srs hn ?_
    simp -dsimp [c6]
    refine bC ?_
    cases hm
    refine⟨.inr rfl,?_⟩
    exact EE.here (by simp -dsimp)⟩
def F_direct_Run_1 (cx:Cx) (_t:Tree) (p:List Cell) (_n:Int) (tt:Unit) (ee:Exit) (Z:Env) (O:Sto):Prop:=match tt with
 | _u=>ee=.exit 0/\EE cx (bH [(1,.u (.one (dR0 p)))] []) Z O
instance l_direct_Run_1 (t p n) {fu stt tt}:LtP (ba (lB t p n) fu stt=some tt) (lp 38 stt (fun _u=>[(1,.u (.one (dR0 p))),(3,vX 3),(23,vI n),(24,vI 0)]) (fun _u=>[(3,.box [dI t.States,dR2 t.Hood,dR1 t.Nodes])]) (cC [1,1,1,0,1,0,0] (bD Tryz.f44)) fun cx=>F_direct_Run_1 cx t p n tt):=⟨fun hh cx hn Z O hE=>by
 refine bN hE hh (F_direct_Run_1 cx t p n) ?_
 rintro _u r hm Z O hf
 simp only[Fits,bB,bA,and_true] at hf
 unfold lB at hm
 exact zz⟩
instance c_direct_Run (t p n r):CtP (lK t p n=some r) (bc Tryz.prog 44 [.u (.agg [dI t.States,dR2 t.Hood,dR1 t.Nodes]),.u (.one (dR0 p)),vI n] (.tup [.one (dR0 r.1),.one (dI r.2)])):=⟨fun hm=>by
 refine cu Tryz.func44 Tryz.ntmps44 fun cx hn=>?_
 unfold lK at hm
 refine srs hn ?_
 simp -dsimp
 refine aZ ?_
 refine srs hn ?_
 obtain⟨y,h1,hm⟩:=bnd hm
 simp -dsimp
 refine bi (CtP.pf h1) (dkL hn) ?_
 simp -dsimp
 refine srs hn ?_
 simp -dsimp
 rcases bz hm with ⟨c2,hm⟩ | ⟨c2,hm⟩
 ·exact zz
 ·refine bf (by simp -dsimp) c2 ?_
  refine b0 (aY (aZ ?_))
  obtain⟨a,j7,hm⟩:=bnd hm
  refine scE [(1,.u (.one (dR0 p))),(2,vI n),(3,vX 3),(22,vT a)] [(3,.box [dI t.States,dR2 t.Hood,dR1 t.Nodes])] ?_ fun Z O hf=>?_
  ·replace hm:=j7
   clear j7
   exact zz
  ·clear j7
   exact zz⟩
def lR (cx:Cx) (_x:Bg) (tt:Bool ⊕ Unit) (ee:Exit) (Z:Env) (O:Sto):Prop:=match tt with
 | .inl r=>ee=.ret/\EE cx (fun Z O=>∃ v,fC tb Z O Tryz.f72.results.toList=some v/\(v.frz O).free=true/\(v.frz O).wk (vT r)) Z O
 | .inr _u=>ee=.exit 0/\EE cx (bH [] []) Z O
instance l_problem_fits_1 (x) {fu stt tt}:LtP (ba (fU x) fu stt=some tt) (lp 39 stt (fun | (a,_seen)=>[(1,vX 1),(3,vX 3),(7,.u (.one (dL x.Syms))),(8,vI (b8 x.Syms)),(9,vI a)]) (fun | (_a,seen)=>[(1,.box [dI x.W,dI x.H,dI x.Gens,dI x.DX,dI x.DY,dL x.Syms]),(3,.box (List.map cB seen))]) (cC [1,1,0,1,0,0] (bD Tryz.f72)) fun cx=>lR cx x tt):=⟨fun hh cx hn Z O hE=>by
 refine bN hE hh (lR cx x) ?_
 rintro⟨a,seen⟩ r hm Z O hf
 simp only[Fits,bB,bA,and_true] at hf
 unfold fU at hm
 dsimp only at hm
 refine srs hn ?_
 simp -dsimp [hf]
 refine aZ ?_
 rcases bz hm with ⟨c1,hm⟩ | ⟨c1,hm⟩
 ·refine b9 (by simp -dsimp) c1 ?_
  refine b0 (aY (aZ (b7 ?_)))
  refine srs hn ?_
  obtain⟨x1,h2,hm⟩:=bnd hm
  simp -dsimp [hf,c1,h2]
  refine aZ ?_
  obtain⟨a1,j11,hm⟩:=bnd hm
  refine scE [(1,vX 1),(3,vX 3),(5,vI x1),(7,.u (.one (dL x.Syms))),(8,vI (b8 x.Syms)),(9,vI a),(35,vT a1)] [(1,.box [dI x.W,dI x.H,dI x.Gens,dI x.DX,dI x.DY,dL x.Syms]),(3,.box (List.map cB seen))] ?_ fun Z O hf=>?_
  ·replace hm:=j11
   clear j11
   refine sr1 hn ?_
   rcases bz hm with ⟨c3,hm⟩ | ⟨c3,hm⟩
   ·simp -dsimp [c3]
    cases hm
    exact EE.here (by simp -dsimp [hf])
   ·rcases bz hm with ⟨c4,hm⟩ | ⟨c4,hm⟩
    ·simp -dsimp [c3,c4]
     cases hm
     exact EE.here (by simp -dsimp [hf])
    ·obtain⟨x2,h5,hm⟩:=bnd hm
     rcases bz hm with ⟨c6,hm⟩ | ⟨c6,hm⟩
     ·simp -dsimp [hf,c3,c4,aidx_ok h5,aidx_get h5,c6]
      cases hm
      exact EE.here (by simp -dsimp [hf])
     ·obtain⟨n,h7,hm⟩:=bnd hm
      rcases bz hm with ⟨c8,hm⟩ | ⟨c8,hm⟩
      ·simp -dsimp [hf,c3,c4,aidx_ok h5,aidx_get h5,c6,h7,c8]
       cases hm
       exact EE.here (by simp -dsimp [hf])
      ·simp -dsimp [hf,c3,c4,aidx_ok h5,aidx_get h5,c6,h7,c8]
       cases hm
       exact EE.here (by simp -dsimp [hf])
  ·clear j11
   simp only[Fits,bB,bA,and_true] at hf
   rcases bz hm with ⟨c9,hm⟩ | ⟨c9,hm⟩
   ·refine b9 (by simp -dsimp [hf]) c9 ?_
    refine srs hn ?_
    simp -dsimp
    refine bC (fI (blk_r (fI ?_)))
    cases hm
    refine rd_out nofun ?_
    exact⟨rfl,EE.here (by simp -dsimp [Tryz.results72])⟩
   ·refine bf (by simp -dsimp [hf]) c9 ?_
    refine b0 (aY ?_)
    refine sr1 hn ?_
    obtain⟨x2,h10,hm⟩:=bnd hm
    simp -dsimp [hf,aidx_ok h10,aidx_lt2 h10,asetB h10 true]
    refine cr ?_
    refine aY ?_
    refine sr1 hn ?_
    simp -dsimp [hf]
    cases hm
    refine d8 ?_
    exact EE.here (by simp -dsimp [hf])
 ·exact zz⟩
instance c_problem_fits (x r):CtP (js x=some r) (bc Tryz.prog 72 [.u (.agg [dI x.W,dI x.H,dI x.Gens,dI x.DX,dI x.DY,dL x.Syms])] (vT r)):=⟨fun hm=>by
 refine cu Tryz.func72 Tryz.ntmps72 fun cx hn=>?_
 unfold js at hm
 refine srs hn ?_
 simp -dsimp
 refine srs hn ?_
 simp -dsimp
 refine aZ ?_
 refine srs hn ?_
 simp -dsimp
 refine b7 ?_
 obtain⟨o_,g12,hm⟩:=bnd hm
 refine bG (LtP.pf g12 cx hn) (by
   try dsimp only
   exact eeh
 ) fun ee Z O xx=>?_
 rcases o_ with r | _u
 ·exact zz
 ·exact zz⟩
instance c_problem_first (x r):CtP (iT x=some r) (bc Tryz.prog 45 [.u (.agg [dI x.W,dI x.H,dI x.Gens,dI x.DX,dI x.DY,dL x.Syms])] (vI r)):=⟨fun hm=>by
 refine cu Tryz.func45 Tryz.ntmps45 fun cx hn=>?_
 unfold iT at hm
 refine srs hn ?_
 simp -dsimp
 refine aZ (b7 ?_)
 refine srs hn ?_
 simp -dsimp
 rcases bz hm with ⟨c1,hm⟩ | ⟨c1,hm⟩
 ·exact zz
 ·refine scf c1 ?_
  obtain⟨a,j11,hm⟩:=bnd hm
  refine scE [(1,vX 1),(10,vT a)] [(1,.box [dI x.W,dI x.H,dI x.Gens,dI x.DX,dI x.DY,dL x.Syms])] ?_ fun Z O hf=>?_
  ·replace hm:=j11
   clear j11
   exact zz
  ·clear j11
   simp only[Fits,bB,bA,and_true] at hf
   rcases bz hm with ⟨c3,hm⟩ | ⟨c3,hm⟩
   ·exact zz
   ·refine bf (by simp -dsimp [hf]) c3 ?_
    obtain⟨a1,j10,hm⟩:=bnd hm
    refine scE [(25,vT a1)] [] ?_ fun Z O hf=>?_
    ·replace hm:=j10
     clear j10
     exact zz
    ·clear j10
     exact zz⟩
instance c_problem_Check (t x r):CtP (fi t x=some r) (bc Tryz.prog 15 [.u (.agg [dI t.States,dR2 t.Hood,dR1 t.Nodes]),.u (.agg [dI x.W,dI x.H,dI x.Gens,dI x.DX,dI x.DY,dL x.Syms])] (vI r)):=⟨fun hm=>by
 refine cu Tryz.func15 Tryz.ntmps15 fun cx hn=>?_
 unfold fi at hm
 refine srs hn ?_
 simp -dsimp
 refine aZ ?_
 refine srs hn ?_
 obtain⟨y,h1,hm⟩:=bnd hm
 simp -dsimp
 refine bi ((CtP.pf h1).wk (by simp[V.wkl])) (dkL hn) ?_
 simp -dsimp
 refine srs hn ?_
 simp -dsimp
 rcases bz hm with ⟨c2,hm⟩ | ⟨c2,hm⟩
 ·refine b9 (by simp -dsimp) c2 ?_
  refine srs hn ?_
  simp -dsimp [c2]
  refine bC (fI ?_)
  cases hm
  refine⟨.inr rfl,?_⟩
  exact EE.here (by simp -dsimp)
 ·refine bf (by simp -dsimp) c2 ?_
  refine b0 (aY ?_)
  refine srs hn ?_
  obtain⟨y1,h3,hm⟩:=bnd hm
  simp -dsimp [c2]
  refine bi (CtP.pf h3) (dkL hn) ?_
  simp -dsimp
  refine bC ?_
  cases hm
  refine⟨.inr rfl,?_⟩
  exact EE.here (by simp -dsimp)⟩
theorem eF (l r:List Int) (hm:ch l=some r):NewFn Tryz.prog 76 [.u (.one (dL l))] (fun o=>o=.row 1 3 (List.map (rI .i64) r)):=by
 refine new_S bO _ Tryz.func76 rfl (by kernel_rfl) (by simp[Tryz.ntmps76]) fun cx hn=>?_
 replace hn:cx.n=8:=hn.trans Tryz.ntmps76
 have ha:=(bQ hm).1
 have hr:r=l:=(bQ hm).2
 clear hm
 subst hr
 simp only[List.length_nil,Nat.zero_add] at ha
 refine srs hn ?_
 simp -dsimp
 refine aZ ?_
 refine srs hn ?_
 cases r with
 | nil =>
  simp -dsimp
  refine⟨?_,?_⟩
  ·refine b9 (b:=true) (by simp -dsimp) rfl ?_
   refine srs hn ?_
   simp -dsimp
   refine bC (fI ?_)
   refine⟨.inr rfl,?_⟩; simp -dsimp
  ·refine bf (b:=false) (by simp -dsimp) rfl ?_
   refine b0 (aY ?_)
   refine srs hn ?_
   simp -dsimp
   refine bC ?_
   refine⟨.inr rfl,?_⟩; simp -dsimp
 | cons x xs =>
  simp -dsimp
  refine bf (b:=false) (by simp -dsimp) rfl ?_
  refine b0 (aY ?_)
  refine srs hn ?_
  simp only[List.length_cons] at ha
  simp -dsimp [ha]
  refine bC ?_
  refine⟨.inr rfl,?_⟩; simp -dsimp
instance c_reduce_Reduce_1 (x next r):CtP (jq x next=some r) (bc Tryz.prog 74 [vI x,.u (.one (dL next))] (.u (.one (dL r)))):=⟨fun hm=>by
 refine cu Tryz.func74 Tryz.ntmps74 fun cx hn=>?_
 unfold jq at hm
 exact zz⟩
theorem hZ (l:List Int) (n base:Int) (r:List Int) (hm:cP l n base=some r):GFn Tryz.prog 134 [vO 1000000,.u (.one (.d (.int .u64 n))),vI base] [.row 1 5 (List.map (rI .u8) l)] (vO 1000001) [none,some (.row 1 5 (List.map (rI .u8) r))]:=appU_g eT rfl tf5 rfl rfl rfl rfl ⟨_,Tryz.func134,by decide,by kernel_rfl⟩ hm
theorem m7 (i base:Int) (r:List Int) (hm:dM i base=some r):GFn Tryz.prog 122 [.u (.one (.d .nil)),vI i,vI base] [] (vO 1000000) [some (.row 1 5 (List.map (rI .u8) r))]:=by
 refine dm bO _ Tryz.func122 rfl (by kernel_rfl) (by simp[Tryz.ntmps122]) (by simp) (by first | rfl | simp) (by first | rfl | simp) fun cx hn hk=>?_
 replace hn:cx.n=21:=hn.trans Tryz.ntmps122
 replace hk:cx.k=0:=hk
 unfold dM at hm
 refine srs hn ?_
 simp -dsimp
 refine srs hn ?_
 simp -dsimp
 obtain⟨⟨u,dst⟩,j4,hm⟩:=bnd hm
 refine scE [(0,vO 5000),(2,vI base),(7,.u (.one (.d (.int .u64 u))))] [(5000,.row 1 5 (List.map (rI .u8) dst))] ?_ fun Z O hf=>?_
 ·replace hm:=j4
  clear j4
  refine srs hn ?_
  simp -dsimp
  rcases bz hm with ⟨c1,hm⟩ | ⟨c1,hm⟩
  ·refine sct c1 ?_
   refine srs hn ?_
   obtain⟨l,h2,hm⟩:=bnd hm
   obtain⟨h2a,h2e⟩:=bQ h2
   replace h2e:=h2e.symm
   subst h2e
   try simp only[List.length_cons,List.length_nil,Nat.zero_add] at h2a
   try simp only[Nat.mul_one,Nat.reduceLeDiff] at h2a
   simp -dsimp [c1]
   refine sr1 hn ?_
   simp -dsimp
   refine aY ?_
   cases hm
   refine emv 14 5000 ?_
   exact zz
  ·refine scf c1 ?_
   refine b0 (aY ?_)
   cases hm
   refine EE.step (Wk.own0 0 5000 1 5 (by simp -dsimp [c1]) (by decide)) ?_
   exact zz
 ·clear j4
  simp only[Fits,bB,bA,and_true] at hf
  refine srs hn ?_
  obtain⟨y,h3,hm⟩:=bnd hm
  simp -dsimp [hf]
  refine clg (hZ dst u base y h3) [5000] [5001] (by simp -dsimp [hf]) (dkL hn) ?_
  simp -dsimp
  refine bC ?_
  cases hm
  refine⟨.inr rfl,?_⟩
  refine emr 5001 1000000 hk ?_
  exact zz
theorem lM (i base:Int) (r:List Int) (hm:dU i base=some r):GFn Tryz.prog 113 [.u (.one (.d .nil)),vI i,vI base] [] (vO 1000000) [some (.row 1 5 (List.map (rI .u8) r))]:=by
 refine dm bO _ Tryz.func113 rfl (by kernel_rfl) (by simp[Tryz.ntmps113]) (by simp) (by first | rfl | simp) (by first | rfl | simp) fun cx hn hk=>?_
 replace hn:cx.n=11:=hn.trans Tryz.ntmps113
 replace hk:cx.k=0:=hk
 unfold dU at hm
 refine srs hn ?_
 simp -dsimp
 refine srs hn ?_
 obtain⟨y,h1,hm⟩:=bnd hm
 simp -dsimp
 refine clg (m7 i base y h1) [] [5000] (by simp -dsimp) (dkL hn) ?_
 simp -dsimp
 refine bC ?_
 cases hm
 refine⟨.inr rfl,?_⟩
 refine emr 5000 1000000 hk ?_
 exact zz
theorem lW (dst:List Int) (i base:Int) (r:List Int) (hm:dJ dst i base=some r):GFn Tryz.prog 122 [vO 1000000,vI i,vI base] [.row 1 5 (List.map (rI .u8) dst)] (vO 1000001) [none,some (.row 1 5 (List.map (rI .u8) r))]:=by
 refine dm bO _ Tryz.func122 rfl (by kernel_rfl) (by simp[Tryz.ntmps122]) (by simp) (by first | rfl | simp) (by first | rfl | simp) fun cx hn hk=>?_
 replace hn:cx.n=21:=hn.trans Tryz.ntmps122
 replace hk:cx.k=1:=hk
 unfold dJ at hm
 refine srs hn ?_
 simp -dsimp
 refine srs hn ?_
 simp -dsimp
 obtain⟨⟨u,dst1⟩,j4,hm⟩:=bnd hm
 refine scE [(0,vO 5000),(2,vI base),(7,.u (.one (.d (.int .u64 u))))] [(5000,.row 1 5 (List.map (rI .u8) dst1))] ?_ fun Z O hf=>?_
 ·replace hm:=j4
  clear j4
  refine srs hn ?_
  simp -dsimp
  rcases bz hm with ⟨c1,hm⟩ | ⟨c1,hm⟩
  ·refine sct c1 ?_
   refine srs hn ?_
   obtain⟨l,h2,hm⟩:=bnd hm
   obtain⟨h2a,h2e⟩:=bQ h2
   replace h2e:=h2e.symm
   subst h2e
   try simp only[List.length_cons,List.length_nil,Nat.zero_add] at h2a
   try simp only[Nat.mul_one,Nat.reduceLeDiff] at h2a
   simp -dsimp [c1,h2a]
   refine sr1 hn ?_
   simp -dsimp
   refine aY ?_
   cases hm
   refine emv 14 5000 ?_
   exact zz
  ·refine scf c1 ?_
   refine b0 (aY ?_)
   cases hm
   refine emv 1000000 5000 ?_
   exact zz
 ·clear j4
  simp only[Fits,bB,bA,and_true] at hf
  refine srs hn ?_
  obtain⟨y,h3,hm⟩:=bnd hm
  simp -dsimp [hf]
  refine clg (hZ dst1 u base y h3) [5000] [5001] (by simp -dsimp [hf]) (dkL hn) ?_
  simp -dsimp
  refine bC ?_
  cases hm
  refine⟨.inr rfl,?_⟩
  refine emr 5001 1000001 hk ?_
  exact zz
theorem lN (dst:List Int) (i base:Int) (r:List Int) (hm:dj dst i base=some r):GFn Tryz.prog 113 [vO 1000000,vI i,vI base] [.row 1 5 (List.map (rI .u8) dst)] (vO 1000001) [none,some (.row 1 5 (List.map (rI .u8) r))]:=by
 refine dm bO _ Tryz.func113 rfl (by kernel_rfl) (by simp[Tryz.ntmps113]) (by simp) (by first | rfl | simp) (by first | rfl | simp) fun cx hn hk=>?_
 replace hn:cx.n=11:=hn.trans Tryz.ntmps113
 replace hk:cx.k=1:=hk
 unfold dj at hm
 refine srs hn ?_
 simp -dsimp
 refine srs hn ?_
 obtain⟨y,h1,hm⟩:=bnd hm
 simp -dsimp
 refine clg (lW dst i base y h1) [1000000] [5000] (by simp -dsimp) (dkL hn) ?_
 simp -dsimp
 refine bC ?_
 cases hm
 refine⟨.inr rfl,?_⟩
 refine emr 5000 1000001 hk ?_
 exact zz
def gH (cx:Cx) (az:List Node) (am:List (List UInt8×Int)) (level:Int) (next:List Int) (tt:(List Int)) (ee:Exit) (Z:Env) (O:Sto):Prop:=match tt with
 | keyv=>ee=.exit 0/\EE cx (bH [(0,vX 1000000),(1,vI level),(2,.u (.one (dL next))),(7,vO 5002)] [(5002,.row 1 5 (List.map (rI .u8) keyv)),(1000000,.box [.own 1000001,.map 1000002]),(1000001,.row 2 47 (List.map Node.row az)),(1000002,mOb .str kS (uL (L.int .i64)) am)]) Z O
theorem og (cx:Cx) (hn:cx.n=68) (_hk:cx.k=3) (az:List Node) (am:List (List UInt8×Int)) (level:Int) (next:List Int) {fu:Nat} {stt:Int×(List Int)} {tt:(List Int)} (hh:ba (dQ az am level next) fu stt=some tt) {Z:Env} {O:Sto}
  (hE:jk (fun stt:Int×(List Int)=>match stt with | (a,_keyv)=>[(0,vX 1000000),(1,vI level),(2,.u (.one (dL next))),(7,vO 5002),(14,.u (.one (dL next))),(15,vI (b8 next)),(16,vI a)]) (fun stt:Int×(List Int)=>match stt with | (_a,keyv)=>[(5002,.row 1 5 (List.map (rI .u8) keyv)),(1000000,.box [.own 1000001,.map 1000002]),(1000001,.row 2 47 (List.map Node.row az)),(1000002,mOb .str kS (uL (L.int .i64)) am)]) stt Z O):Swp Tryz.prog cx (.loop (cC [1,1,0,1,0,0] (bD Tryz.f96))) Z O (gH cx az am level next tt):=by
 refine bN hE hh (gH cx az am level next) ?_
 rintro⟨a,keyv⟩ r hm Z O hf
 simp only[Fits,bB,bA,and_true] at hf
 unfold dQ at hm
 dsimp only at hm
 refine srs hn ?_
 simp -dsimp [hf]
 refine aZ ?_
 rcases bz hm with ⟨c2,hm⟩ | ⟨c2,hm⟩
 ·refine b9 (by simp -dsimp) c2 ?_
  refine b0 (aY (aZ (b7 ?_)))
  refine srs hn ?_
  obtain⟨x,h3,hm⟩:=bnd hm
  simp -dsimp [hf,c2,h3]
  refine sr1 hn ?_
  obtain⟨l,h4,hm⟩:=bnd hm
  obtain⟨h4a,h4e⟩:=bQ h4
  replace h4e:=h4e.symm
  subst h4e
  try simp only[List.length_cons,List.length_nil,Nat.zero_add] at h4a
  try simp only[Nat.mul_one,Nat.reduceLeDiff] at h4a
  obtain⟨y1,h5,hm⟩:=bnd hm
  simp -dsimp [hf,h4a]
  refine clg (lN (keyv++[32]) x 10 y1 h5) [22] [5001] (by simp -dsimp) (dkL hn) ?_
  simp -dsimp
  refine cr ?_
  refine aY ?_
  refine sr1 hn ?_
  simp -dsimp [hf]
  cases hm
  refine d8 ?_
  refine emv 5001 5002 ?_
  exact zz
 ·exact zz
theorem p9 (az:List Node) (am:List (List UInt8×Int)) (level:Int) (next:List Int) (r:Int×(List (List UInt8×Int))×(List Node)) (hm:cA az am level next=some r):GFn Tryz.prog 96 [vX 1000000,vI level,.u (.one (dL next))] [.box [.own 1000001,.map 1000002],.row 2 47 (List.map Node.row az),mOb .str kS (uL (L.int .i64)) am] (vI r.1) [some (.box [.own 1000003,.map 1000002]),none,some (mOb .str kS (uL (L.int .i64)) r.2.1),some (.row 2 47 (List.map Node.row r.2.2))]:=by
 refine dm bO _ Tryz.func96 rfl (by kernel_rfl) (by simp[Tryz.ntmps96]) (by simp) (by first | rfl | simp) (by first | rfl | simp) fun cx hn hk=>?_
 replace hn:cx.n=68:=hn.trans Tryz.ntmps96
 replace hk:cx.k=3:=hk
 unfold cA at hm
 refine srs hn ?_
 simp -dsimp
 refine srs hn ?_
 obtain⟨y,h1,hm⟩:=bnd hm
 simp -dsimp
 refine clg (lM level 10 y h1) [] [5000] (by simp -dsimp) (dkL hn) ?_
 simp -dsimp
 refine aZ ?_
 refine srs hn ?_
 simp -dsimp
 refine b7 ?_
 obtain⟨keyv,g6,hm⟩:=bnd hm
 refine bG (og cx hn hk az am level next g6) (by
   try dsimp only
   refine emv 5000 5002 ?_
   exact zz
 ) fun ee Z O xx=>?_
 unfold gH at xx
 dsimp only at xx
 obtain⟨rfl,xx⟩:=xx
 refine bK ?_
 refine aY ?_
 refine see xx fun Z O hf=>?_
 simp only[Fits,bB,bA,and_true] at hf
 refine aZ ?_
 refine iM bO mixed (by rw[hn]; kernel_rfl) ?_
 obtain⟨u,h7,hm⟩:=bnd hm
 simp -dsimp [hf,nM h7,(@id (lkM (oI (mOb .str kS (uL (L.int .i64)) am) (.str (ofBytes keyv))) true (.one (dI 0))=some (.tup [.one (dI (mgetD am (ofBytes keyv) 0)),.one (.d (.bool (lP am (ofBytes keyv))))])) (lk_two (ofBytes keyv) 0))]
 refine srs hn ?_
 simp -dsimp
 rcases bz hm with ⟨c8,hm⟩ | ⟨c8,hm⟩
 ·refine b9 (b:=(lP am (ofBytes keyv))) (by simp -dsimp) c8 ?_
  refine srs hn ?_
  simp -dsimp [c8]
  refine bC (fI ?_)
  cases hm
  refine⟨.inr rfl,?_⟩
  refine emr 1000001 1000003 hk ?_
  exact zz
 ·refine bf (b:=(lP am (ofBytes keyv))) (by simp -dsimp) c8 ?_
  refine b0 (aY ?_)
  refine srs hn ?_
  obtain⟨l,h9,hm⟩:=bnd hm
  obtain⟨h9a,h9e⟩:=bQ h9
  replace h9e:=h9e.symm
  subst h9e
  try simp only[List.length_cons,List.length_nil,Nat.zero_add] at h9a
  simp -dsimp [hf,c8,h9a]
  refine sw_drNs bO mixed 12 (by rw[hn]; kernel_rfl) ?_
  dsimp only [List.take,List.drop]
  simp -dsimp [hf,nM h7,(@id (msetOb (mOb .str kS (uL (L.int .i64)) am) (.str (ofBytes keyv)) (.one (dI (bL .i64 ((b8 az)+1) 1)))=mOb .str kS (uL (L.int .i64)) (msetL am (ofBytes keyv) (bL .i64 ((b8 az)+1) 1))) (mset_ob .str kS (uL (L.int .i64)) am (ofBytes keyv) (bL .i64 ((b8 az)+1) 1)))]
  refine srs hn ?_
  simp -dsimp [hf]
  refine bC ?_
  cases hm
  refine⟨.inr rfl,?_⟩
  refine emr 47 1000003 hk ?_
  exact zz
theorem ku (l r:List Point) (hm:cg l=some r):PFn Tryz.prog 97 [.u (.one (dR2 l))] (fun v=>v.wk (.u (.one (dR2 r)))):=by
 refine pfn_E bO _ Tryz.func97 rfl (by kernel_rfl) (by simp[Tryz.ntmps97]) fun cx hn=>?_
 replace hn:cx.n=8:=hn.trans Tryz.ntmps97
 have ha:=(bQ hm).1
 have hr:r=l:=(bQ hm).2
 clear hm
 subst hr
 simp only[List.length_nil,Nat.zero_add] at ha
 refine srs hn ?_
 simp -dsimp
 refine aZ ?_
 refine srs hn ?_
 cases r with
 | nil =>
  simp -dsimp
  refine⟨?_,?_⟩
  ·refine b9 (b:=true) (by simp -dsimp) rfl ?_
   refine srs hn ?_
   simp -dsimp
   refine bC (fI ?_)
   refine⟨.inr rfl,EE.here ?_⟩; simp -dsimp
  ·refine bf (b:=false) (by simp -dsimp) rfl ?_
   refine b0 (aY ?_)
   refine srs hn ?_
   simp -dsimp
   refine bC ?_
   refine⟨.inr rfl,EE.here ?_⟩; simp -dsimp
 | cons x xs =>
  simp -dsimp
  refine bf (b:=false) (by simp -dsimp) rfl ?_
  refine b0 (aY ?_)
  refine srs hn ?_
  simp only[List.length_cons] at ha
  simp -dsimp [ha]
  refine bC ?_
  refine⟨.inr rfl,EE.here ?_⟩; simp -dsimp
instance c_slices_Clone_api_Point_api_Point (l r):CtP (cg l=some r) (bc Tryz.prog 97 [.u (.one (dR2 l))] (.u (.one (dR2 r)))):=⟨fun hm=>(ku l r hm).pureW⟩
end Go.Proofs.YtjlckgeecihpbaaGreatDoor
