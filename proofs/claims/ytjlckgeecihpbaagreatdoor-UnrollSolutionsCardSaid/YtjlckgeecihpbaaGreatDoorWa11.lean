/- That the code does what the functions say (made by cc.py). -/
import Derived.Test.YtjlckgeecihpbaaGreatDoorWa9
namespace Go.Proofs.YtjlckgeecihpbaaGreatDoor
open Go.AM Go.Proofs
set_option maxRecDepth 100000
attribute [-simp] ey eY i7 Ob.wipe Ob.ren Ob.frz1
def F_R12_Right_2 (cx:Cx) (t:Tree) (i:Int) (_x:Node) (tt:Bool ⊕ Unit) (ee:Exit) (Z:Env) (O:Sto):Prop:=match tt with
 | .inl r=>ee=.ret/\EE cx (fun Z O=>∃ v,fC tb Z O Tryz.f82.results.toList=some v/\(v.frz O).free=true/\(v.frz O).wk (vT r)) Z O
 | .inr _u=>ee=.exit 2/\EE cx (bH [(1,vX 1),(3,vI (b8 t.Nodes)),(4,vI i)] [(1,.box [dI t.States,dR2 t.Hood,dR1 t.Nodes])]) Z O
instance l_R12_Right_2 (t i x) {fu stt tt}:LtP (ba (jg t i x) fu stt=some tt) (lp 115 stt (fun s=>[(1,vX 1),(3,vI (b8 t.Nodes)),(4,vI i),(5,vX 5),(6,vI s)]) (fun _s=>[(1,.box [dI t.States,dR2 t.Hood,dR1 t.Nodes]),(5,.box [dI x.Level,dL x.Next])]) (cC [1,1,1,0,1,0,0,1,0,0,1,1,1,0,0] (bD Tryz.f82)) fun cx=>F_R12_Right_2 cx t i x tt):=⟨fun hh cx hn Z O hE=>by
 refine bN hE hh (F_R12_Right_2 cx t i x) ?_
 rintro s r hm Z O hf
 simp only[Fits,bB,bA,and_true] at hf
 unfold jg at hm
 dsimp only at hm
 refine aZ ?_
 refine srs hn ?_
 simp -dsimp [hf]
 rcases bz hm with ⟨c12,hm⟩ | ⟨c12,hm⟩
 ·refine b9 (by simp -dsimp) c12 ?_
  refine b0 (aY (aZ (b7 ?_)))
  refine srs hn ?_
  obtain⟨x1,h13,hm⟩:=bnd hm
  simp -dsimp [hf,c12,h13]
  refine aZ ?_
  refine srs hn ?_
  simp -dsimp
  rcases bz hm with ⟨c14,hm⟩ | ⟨c14,hm⟩
  ·exact zz
  ·refine bf (by simp -dsimp) c14 ?_
   refine b0 (aY (aZ ?_))
   obtain⟨a2,j22,hm⟩:=bnd hm
   refine scE [(1,vX 1),(3,vI (b8 t.Nodes)),(4,vI i),(5,vX 5),(6,vI s),(7,vI x1),(83,vT a2)] [(1,.box [dI t.States,dR2 t.Hood,dR1 t.Nodes]),(5,.box [dI x.Level,dL x.Next])] ?_ fun Z O hf=>?_
   ·replace hm:=j22
    clear j22
    exact zz
   ·clear j22
    simp only[Fits,bB,bA,and_true] at hf
    rcases bz hm with ⟨c16,hm⟩ | ⟨c16,hm⟩
    ·exact zz
    ·refine bf (by simp -dsimp [hf]) c16 ?_
     refine b0 (aY ?_)
     obtain⟨a3,j21,hm⟩:=bnd hm
     refine scE [(1,vX 1),(3,vI (b8 t.Nodes)),(4,vI i),(5,vX 5),(6,vI s),(103,vT a3)] [(1,.box [dI t.States,dR2 t.Hood,dR1 t.Nodes]),(5,.box [dI x.Level,dL x.Next])] ?_ fun Z O hf=>?_
     ·replace hm:=j21
      clear j21
      exact zz
     ·clear j21
      exact zz
 ·exact zz⟩
def F_R12_Right_1 (cx:Cx) (t:Tree) (tt:Bool ⊕ Unit) (ee:Exit) (Z:Env) (O:Sto):Prop:=match tt with
 | .inl r=>ee=.ret/\EE cx (fun Z O=>∃ v,fC tb Z O Tryz.f82.results.toList=some v/\(v.frz O).free=true/\(v.frz O).wk (vT r)) Z O
 | .inr _u=>ee=.exit 0/\EE cx (bH [(1,vX 1),(3,vI (b8 t.Nodes))] [(1,.box [dI t.States,dR2 t.Hood,dR1 t.Nodes])]) Z O
instance l_R12_Right_1 (t) {fu stt tt}:LtP (ba (jh t) fu stt=some tt) (lp 115 stt (fun i=>[(1,vX 1),(3,vI (b8 t.Nodes)),(4,vI i)]) (fun _i=>[(1,.box [dI t.States,dR2 t.Hood,dR1 t.Nodes])]) (cC [1,1,1,0,1,0,0] (bD Tryz.f82)) fun cx=>F_R12_Right_1 cx t tt):=⟨fun hh cx hn Z O hE=>by
 refine bN hE hh (F_R12_Right_1 cx t) ?_
 rintro i r hm Z O hf
 simp only[Fits,bB,bA,and_true] at hf
 unfold jh at hm
 dsimp only at hm
 refine aZ ?_
 refine srs hn ?_
 simp -dsimp [hf]
 rcases bz hm with ⟨c7,hm⟩ | ⟨c7,hm⟩
 ·refine b9 (by simp -dsimp) c7 ?_
  refine b0 (aY (aZ (b7 ?_)))
  refine srs hn ?_
  obtain⟨x,h8,hm⟩:=bnd hm
  simp -dsimp [hf,c7,h8]
  refine aZ ?_
  obtain⟨a1,j24,hm⟩:=bnd hm
  refine scE [(1,vX 1),(3,vI (b8 t.Nodes)),(4,vI i),(5,vX 5),(61,vT a1)] [(1,.box [dI t.States,dR2 t.Hood,dR1 t.Nodes]),(5,.box [dI x.Level,dL x.Next])] ?_ fun Z O hf=>?_
  ·replace hm:=j24
   clear j24
   exact zz
  ·clear j24
   simp only[Fits,bB,bA,and_true] at hf
   rcases bz hm with ⟨c11,hm⟩ | ⟨c11,hm⟩
   ·exact zz
   ·refine bf (by simp -dsimp [hf]) c11 ?_
    refine b0 (aY ?_)
    refine srs hn ?_
    simp -dsimp
    refine b7 ?_
    obtain⟨o_,g23,hm⟩:=bnd hm
    refine bG (LtP.pf g23 cx hn) (by
      try dsimp only
      exact EE.here (by simp -dsimp [hf])
    ) fun ee Z O xx=>?_
    rcases o_ with r | _u
    ·exact zz
    ·exact zz
 ·exact zz⟩
instance c_R12_Right (t r):CtP (kT t=some r) (bc Tryz.prog 82 [.u (.agg [dI t.States,dR2 t.Hood,dR1 t.Nodes])] (vT r)):=⟨fun hm=>by
 refine cu Tryz.func82 Tryz.ntmps82 fun cx hn=>?_
 unfold kT at hm
 refine srs hn ?_
 simp -dsimp
 refine srs hn ?_
 simp -dsimp
 refine aZ ?_
 obtain⟨a,j27,hm⟩:=bnd hm
 refine scE [(1,vX 1),(3,vI (b8 t.Nodes)),(32,vT a)] [(1,.box [dI t.States,dR2 t.Hood,dR1 t.Nodes])] ?_ fun Z O hf=>?_
 ·replace hm:=j27
  clear j27
  exact zz
 ·clear j27
  simp only[Fits,bB,bA,and_true] at hf
  rcases bz hm with ⟨c6,hm⟩ | ⟨c6,hm⟩
  ·exact zz
  ·refine bf (by simp -dsimp [hf]) c6 ?_
   refine b0 (aY (aZ ?_))
   refine srs hn ?_
   simp -dsimp
   refine b7 ?_
   obtain⟨o_,g25,hm⟩:=bnd hm
   refine bG (LtP.pf g25 cx hn) (by
     try dsimp only
     exact EE.here (by simp -dsimp [hf])
   ) fun ee Z O xx=>?_
   rcases o_ with r | _u
   ·exact zz
   ·exact zz⟩
def oO (cx:Cx) (_t:Tree) (_in_:List Int) (tt:Int) (ee:Exit) (Z:Env) (O:Sto):Prop:=match tt with
 | k=>ee=.exit 0/\EE cx (bH [(5,vI k)] []) Z O
instance l_R12_Value_1 (t in_) {fu stt tt}:LtP (ba (je t in_) fu stt=some tt) (lp 30 stt (fun | (k,i)=>[(1,.u (.one (dL in_))),(2,vX 2),(5,vI k),(6,vI i)]) (fun | (_k,_i)=>[(2,.box [dI t.States,dR2 t.Hood,dR1 t.Nodes])]) (cC [1,1,0,1,0,0] (bD Tryz.f104)) fun cx=>oO cx t in_ tt):=⟨fun hh cx hn Z O hE=>by
 refine bN hE hh (oO cx t in_) ?_
 rintro⟨k,i⟩ r hm Z O hf
 simp only[Fits,bB,bA,and_true] at hf
 unfold je at hm
 exact zz⟩
instance c_R12_Value (t in_ r):CtP (kP t in_=some r) (bc Tryz.prog 104 [.u (.agg [dI t.States,dR2 t.Hood,dR1 t.Nodes]),.u (.one (dL in_))] (vI r)):=⟨fun hm=>by
 refine cu Tryz.func104 Tryz.ntmps104 fun cx hn=>?_
 unfold kP at hm
 refine srs hn ?_
 simp -dsimp
 refine srs hn ?_
 simp -dsimp
 refine aZ ?_
 refine srs hn ?_
 simp -dsimp
 refine b7 ?_
 obtain⟨k,g5,hm⟩:=bnd hm
 refine bG (LtP.pf g5 cx hn) (by
   try dsimp only
   exact eeh
 ) fun ee Z O xx=>?_
 unfold oO at xx
 dsimp only at xx
 obtain⟨rfl,xx⟩:=xx
 refine bK ?_
 refine aY ?_
 refine see xx fun Z O hf=>?_
 simp only[Fits,bB,bA,and_true] at hf
 refine srs hn ?_
 simp -dsimp [hf]
 refine bC ?_
 cases hm
 refine⟨.inr rfl,?_⟩
 exact EE.here (by simp -dsimp)⟩
def F_R12_Eval_1 (cx:Cx) (t:Tree) (in_:List Int) (tt:(Int×Int) ⊕ Unit) (ee:Exit) (Z:Env) (O:Sto):Prop:=match tt with
 | .inl r=>ee=.ret/\EE cx (fun Z O=>∃ v,fC tb Z O Tryz.f83.results.toList=some v/\(v.frz O).free=true/\(v.frz O).wk (.tup [.one (dI r.1),.one (dI r.2)])) Z O
 | .inr _u=>ee=.exit 0/\EE cx (bH [(1,.u (.one (dL in_))),(2,vX 2)] [(2,.box [dI t.States,dR2 t.Hood,dR1 t.Nodes])]) Z O
instance l_R12_Eval_1 (t in_) {fu stt tt}:LtP (ba (lH t in_) fu stt=some tt) (lp 39 stt (fun i=>[(1,.u (.one (dL in_))),(2,vX 2),(6,vI i)]) (fun _i=>[(2,.box [dI t.States,dR2 t.Hood,dR1 t.Nodes])]) (cC [1,1,1,0,1,0,0] (bD Tryz.f83)) fun cx=>F_R12_Eval_1 cx t in_ tt):=⟨fun hh cx hn Z O hE=>by
 refine bN hE hh (F_R12_Eval_1 cx t in_) ?_
 rintro i r hm Z O hf
 simp only[Fits,bB,bA,and_true] at hf
 unfold lH at hm
 dsimp only at hm
 refine aZ ?_
 refine srs hn ?_
 simp -dsimp [hf]
 rcases bz hm with ⟨c4,hm⟩ | ⟨c4,hm⟩
 ·refine b9 (by simp -dsimp) c4 ?_
  refine b0 (aY (aZ (b7 ?_)))
  obtain⟨a,j8,hm⟩:=bnd hm
  refine scE [(1,.u (.one (dL in_))),(2,vX 2),(6,vI i),(35,vT a)] [(2,.box [dI t.States,dR2 t.Hood,dR1 t.Nodes])] ?_ fun Z O hf=>?_
  ·replace hm:=j8
   clear j8
   exact zz
  ·clear j8
   exact zz
 ·exact zz⟩
instance c_R12_Eval (t in_ r):CtP (pP t in_=some r) (bc Tryz.prog 83 [.u (.agg [dI t.States,dR2 t.Hood,dR1 t.Nodes]),.u (.one (dL in_))] (.tup [.one (dI r.1),.one (dI r.2)])):=⟨fun hm=>by
 refine cu Tryz.func83 Tryz.ntmps83 fun cx hn=>?_
 unfold pP at hm
 refine srs hn ?_
 simp -dsimp
 refine aZ ?_
 refine srs hn ?_
 obtain⟨y,h1,hm⟩:=bnd hm
 simp -dsimp
 refine bi (CtP.pf h1) (dkL hn) ?_
 simp -dsimp
 rcases bz hm with ⟨c2,hm⟩ | ⟨c2,hm⟩
 ·exact zz
 ·refine bf (by simp -dsimp) c2 ?_
  refine b0 (aY (aZ ?_))
  refine srs hn ?_
  simp -dsimp [c2]
  rcases bz hm with ⟨c3,hm⟩ | ⟨c3,hm⟩
  ·exact zz
  ·refine bf (by simp -dsimp) c3 ?_
   refine b0 (aY (aZ ?_))
   refine srs hn ?_
   simp -dsimp [c3]
   refine b7 ?_
   obtain⟨o_,g9,hm⟩:=bnd hm
   refine bG (LtP.pf g9 cx hn) (by
     try dsimp only
     exact EE.here (by simp -dsimp)
   ) fun ee Z O xx=>?_
   rcases o_ with r | _u
   ·exact zz
   ·exact zz⟩
instance c_R12_Quiet (t r):CtP (kN t=some r) (bc Tryz.prog 59 [.u (.agg [dI t.States,dR2 t.Hood,dR1 t.Nodes])] (vT r)):=⟨fun hm=>by
 refine cu Tryz.func59 Tryz.ntmps59 fun cx hn=>?_
 unfold kN at hm
 refine srs hn ?_
 simp -dsimp
 refine aZ ?_
 refine srs hn ?_
 obtain⟨y,h1,hm⟩:=bnd hm
 simp -dsimp
 refine bi (CtP.pf h1) (dkL hn) ?_
 simp -dsimp
 rcases bz hm with ⟨c2,hm⟩ | ⟨c2,hm⟩
 ·exact zz
 ·refine bf (by simp -dsimp) c2 ?_
  refine b0 (aY ?_)
  refine ja bO mixed 4 5 10 0 [[0]] [[13]] [true,true,true,true,true] none (by rw[hn]; kernel_rfl) ep ?_
  dsimp only [List.take,List.drop,gz,gP,jl,pk,List.cons_append,List.nil_append,List.flatten_cons,List.flatten_nil,dY,dW,List.append_nil]
  obtain⟨l,h3,hm⟩:=bnd hm
  obtain⟨⟨h3a,h3b,h3c⟩,rfl⟩:=nu h3
  obtain⟨y1,h4,hm⟩:=bnd hm
  simp -dsimp [c2,h3a,h3c]
  refine qcallL_brw (us':=[.u (.agg [dI t.States,dR2 t.Hood,dR1 t.Nodes]),.u (.one (dL (List.replicate (b8 t.Hood).toNat 0)))]) (CtP.pf h4) (by simp -dsimp) rfl ?_
  simp -dsimp
  refine srs hn ?_
  simp -dsimp
  refine bC ?_
  cases hm
  refine⟨.inr rfl,?_⟩
  exact EE.here (by simp -dsimp)⟩
def F_R44_Box_2 (cx:Cx) (x:Bg) (i _x1:Int) (tt:Int ⊕ Unit) (ee:Exit) (Z:Env) (O:Sto):Prop:=match tt with
 | .inl r=>ee=.ret/\EE cx (fun Z O=>∃ v,fC tb Z O Tryz.f60.results.toList=some v/\(v.frz O).free=true/\(v.frz O).wk (vI r)) Z O
 | .inr _u=>ee=.exit 2/\EE cx (bH [(1,vX 1),(3,vI i)] [(1,.box [dI x.W,dI x.H,dI x.Gens,dI x.DX,dI x.DY,dL x.Syms])]) Z O
instance l_R44_Box_2 (x i x1) {fu stt tt}:LtP (ba (kZ x i x1) fu stt=some tt) (lp 100 stt (fun k=>[(1,vX 1),(3,vI i),(4,vI x1),(5,vI k)]) (fun _k=>[(1,.box [dI x.W,dI x.H,dI x.Gens,dI x.DX,dI x.DY,dL x.Syms])]) (cC [1,1,1,1,0,1,0,0,1,0,0,1,1,1,0,0] (bD Tryz.f60)) fun cx=>F_R44_Box_2 cx x i x1 tt):=⟨fun hh cx hn Z O hE=>by
 refine bN hE hh (F_R44_Box_2 cx x i x1) ?_
 rintro k r hm Z O hf
 simp only[Fits,bB,bA,and_true] at hf
 unfold kZ at hm
 exact zz⟩
def F_R44_Box_1 (cx:Cx) (_x:Bg) (tt:Int ⊕ Unit) (ee:Exit) (Z:Env) (O:Sto):Prop:=match tt with
 | .inl r=>ee=.ret/\EE cx (fun Z O=>∃ v,fC tb Z O Tryz.f60.results.toList=some v/\(v.frz O).free=true/\(v.frz O).wk (vI r)) Z O
 | .inr _u=>ee=.exit 0/\EE cx (bH [] []) Z O
instance l_R44_Box_1 (x) {fu stt tt}:LtP (ba (kU x) fu stt=some tt) (lp 100 stt (fun i=>[(1,vX 1),(3,vI i)]) (fun _i=>[(1,.box [dI x.W,dI x.H,dI x.Gens,dI x.DX,dI x.DY,dL x.Syms])]) (cC [1,1,1,1,0,1,0,0] (bD Tryz.f60)) fun cx=>F_R44_Box_1 cx x tt):=⟨fun hh cx hn Z O hE=>by
 refine bN hE hh (F_R44_Box_1 cx x) ?_
 rintro i r hm Z O hf
 simp only[Fits,bB,bA,and_true] at hf
 unfold kU at hm
 dsimp only at hm
 refine aZ ?_
 refine srs hn ?_
 simp -dsimp [hf]
 rcases bz hm with ⟨c12,hm⟩ | ⟨c12,hm⟩
 ·refine b9 (by simp -dsimp) c12 ?_
  refine b0 (aY (aZ (b7 ?_)))
  refine srs hn ?_
  obtain⟨x1,h13,hm⟩:=bnd hm
  simp -dsimp [hf,c12,h13]
  refine aZ ?_
  obtain⟨a3,j23,hm⟩:=bnd hm
  refine scE [(1,vX 1),(3,vI i),(4,vI x1),(87,vT a3)] [(1,.box [dI x.W,dI x.H,dI x.Gens,dI x.DX,dI x.DY,dL x.Syms])] ?_ fun Z O hf=>?_
  ·replace hm:=j23
   clear j23
   exact zz
  ·clear j23
   simp only[Fits,bB,bA,and_true] at hf
   rcases bz hm with ⟨c18,hm⟩ | ⟨c18,hm⟩
   ·exact zz
   ·refine bf (by simp -dsimp [hf]) c18 ?_
    refine b0 (aY ?_)
    refine srs hn ?_
    simp -dsimp
    refine b7 ?_
    obtain⟨o_,g22,hm⟩:=bnd hm
    refine bG (LtP.pf g22 cx hn) (by
      try dsimp only
      refine EE.here ?_
      exact zz
    ) fun ee Z O xx=>?_
    rcases o_ with r | _u
    ·exact zz
    ·exact zz
 ·exact zz⟩
instance c_R44_Box (x r):CtP (pz x=some r) (bc Tryz.prog 60 [.u (.agg [dI x.W,dI x.H,dI x.Gens,dI x.DX,dI x.DY,dL x.Syms])] (vI r)):=⟨fun hm=>by
 refine cu Tryz.func60 Tryz.ntmps60 fun cx hn=>?_
 unfold pz at hm
 refine srs hn ?_
 simp -dsimp
 refine aZ ?_
 obtain⟨a,j27,hm⟩:=bnd hm
 refine scE [(1,vX 1),(13,vT a)] [(1,.box [dI x.W,dI x.H,dI x.Gens,dI x.DX,dI x.DY,dL x.Syms])] ?_ fun Z O hf=>?_
 ·replace hm:=j27
  clear j27
  exact zz
 ·clear j27
  simp only[Fits,bB,bA,and_true] at hf
  rcases bz hm with ⟨c2,hm⟩ | ⟨c2,hm⟩
  ·exact zz
  ·refine bf (by simp -dsimp [hf]) c2 ?_
   refine b0 (aY (aZ ?_))
   obtain⟨a1,j26,hm⟩:=bnd hm
   refine scE [(1,vX 1),(29,vT a1)] [(1,.box [dI x.W,dI x.H,dI x.Gens,dI x.DX,dI x.DY,dL x.Syms])] ?_ fun Z O hf=>?_
   ·replace hm:=j26
    clear j26
    exact zz
   ·clear j26
    simp only[Fits,bB,bA,and_true] at hf
    rcases bz hm with ⟨c5,hm⟩ | ⟨c5,hm⟩
    ·exact zz
    ·refine bf (by simp -dsimp [hf]) c5 ?_
     refine b0 (aY (aZ ?_))
     obtain⟨a2,j25,hm⟩:=bnd hm
     refine scE [(1,vX 1),(57,vT a2)] [(1,.box [dI x.W,dI x.H,dI x.Gens,dI x.DX,dI x.DY,dL x.Syms])] ?_ fun Z O hf=>?_
     ·replace hm:=j25
      clear j25
      exact zz
     ·clear j25
      simp only[Fits,bB,bA,and_true] at hf
      rcases bz hm with ⟨c11,hm⟩ | ⟨c11,hm⟩
      ·exact zz
      ·refine bf (by simp -dsimp [hf]) c11 ?_
       refine b0 (aY (aZ ?_))
       refine srs hn ?_
       simp -dsimp
       refine b7 ?_
       obtain⟨o_,g24,hm⟩:=bnd hm
       refine bG (LtP.pf g24 cx hn) (by
         try dsimp only
         exact EE.here (by simp -dsimp [hf])
       ) fun ee Z O xx=>?_
       rcases o_ with r | _u
       ·exact zz
       ·exact zz⟩
instance c_R44_Check (t x r):CtP (mm t x=some r) (bc Tryz.prog 31 [.u (.agg [dI t.States,dR2 t.Hood,dR1 t.Nodes]),.u (.agg [dI x.W,dI x.H,dI x.Gens,dI x.DX,dI x.DY,dL x.Syms])] (vI r)):=⟨fun hm=>by
 refine cu Tryz.func31 Tryz.ntmps31 fun cx hn=>?_
 unfold mm at hm
 refine srs hn ?_
 simp -dsimp
 refine aZ ?_
 refine srs hn ?_
 obtain⟨y,h1,hm⟩:=bnd hm
 simp -dsimp
 refine bi (CtP.pf h1) (dkL hn) ?_
 simp -dsimp
 rcases bz hm with ⟨c2,hm⟩ | ⟨c2,hm⟩
 ·refine b9 (by simp -dsimp) c2 ?_
  refine srs hn ?_
  simp -dsimp [c2]
  refine bC (fI ?_)
  cases hm
  refine⟨.inr rfl,?_⟩
  exact EE.here (by simp -dsimp)
 ·refine bf (by simp -dsimp) c2 ?_
  refine b0 (aY ?_)
  refine srs hn ?_
  obtain⟨y1,h3,hm⟩:=bnd hm
  simp -dsimp [c2]
  refine bi (CtP.pf h3) (dkL hn) ?_
  simp -dsimp
  refine bC ?_
  cases hm
  refine⟨.inr rfl,?_⟩
  exact EE.here (by simp -dsimp)⟩
instance c_R05_Place (x y r):CtP (jK x y=some r) (bc Tryz.prog 65 [vI x,vI y] (vT r)):=⟨fun hm=>by
 refine cu Tryz.func65 Tryz.ntmps65 fun cx hn=>?_
 unfold jK at hm
 refine srs hn ?_
 simp -dsimp
 obtain⟨a,j4,hm⟩:=bnd hm
 refine scE [(4,vT a)] [] ?_ fun Z O hf=>?_
 ·replace hm:=j4
  clear j4
  exact zz
 ·clear j4
  exact zz⟩
instance c_R05_before (a b r):CtP (iE a b=some r) (bc Tryz.prog 84 [.u (.agg [dI a.X,dI a.Y,dI a.S]),.u (.agg [dI b.X,dI b.Y,dI b.S])] (vT r)):=⟨fun hm=>by
 refine cu Tryz.func84 Tryz.ntmps84 fun cx hn=>?_
 unfold iE at hm
 refine srs hn ?_
 simp -dsimp
 obtain⟨a1,j3,hm⟩:=bnd hm
 refine scE [(4,vT a1)] [] ?_ fun Z O hf=>?_
 ·replace hm:=j3
  clear j3
  exact zz
 ·clear j3
  exact zz⟩
def F_R05_Right_1 (cx:Cx) (p:List Cell) (tt:Bool ⊕ Unit) (ee:Exit) (Z:Env) (O:Sto):Prop:=match tt with
 | .inl r=>ee=.ret/\EE cx (fun Z O=>∃ v,fC tb Z O Tryz.f61.results.toList=some v/\(v.frz O).free=true/\(v.frz O).wk (vT r)) Z O
 | .inr _u=>ee=.exit 0/\EE cx (bH [(0,.u (.one (dR0 p)))] []) Z O
instance l_R05_Right_1 (p) {fu stt tt}:LtP (ba (kj p) fu stt=some tt) (lp 58 stt (fun i=>[(0,.u (.one (dR0 p))),(3,vI i)]) (fun _i=>[]) (cC [1,0,1,0,0] (bD Tryz.f61)) fun cx=>F_R05_Right_1 cx p tt):=⟨fun hh cx hn Z O hE=>by
 refine bN hE hh (F_R05_Right_1 cx p) ?_
 rintro i r hm Z O hf
 simp only[Fits,bB,bA,and_true] at hf
 unfold kj at hm
 dsimp only at hm
 refine aZ ?_
 refine srs hn ?_
 simp -dsimp [hf]
 rcases bz hm with ⟨c1,hm⟩ | ⟨c1,hm⟩
 ·refine b9 (by simp -dsimp) c1 ?_
  refine b0 (aY (aZ (b7 ?_)))
  obtain⟨a,j11,hm⟩:=bnd hm
  refine scE [(0,.u (.one (dR0 p))),(3,vI i),(54,vT a)] [] ?_ fun Z O hf=>?_
  ·replace hm:=j11
   clear j11
   exact zz
  ·clear j11
   exact zz
 ·exact zz⟩
instance c_R05_Right (p r):CtP (jF p=some r) (bc Tryz.prog 61 [.u (.one (dR0 p))] (vT r)):=⟨fun hm=>by
 refine cu Tryz.func61 Tryz.ntmps61 fun cx hn=>?_
 unfold jF at hm
 refine srs hn ?_
 simp -dsimp
 refine aZ ?_
 refine srs hn ?_
 simp -dsimp
 refine b7 ?_
 obtain⟨o_,g12,hm⟩:=bnd hm
 refine bG (LtP.pf g12 cx hn) (by
   try dsimp only
   exact eeh
 ) fun ee Z O xx=>?_
 rcases o_ with r | _u
 ·exact zz
 ·exact zz⟩
end Go.Proofs.YtjlckgeecihpbaaGreatDoor
namespace Go.Proofs.YtjlckgeecihpbaaGreatDoor
open Go.AM Go.Proofs
set_option maxRecDepth 100000
attribute [-simp] ey eY i7 Ob.wipe Ob.ren Ob.frz1
def F_R20_Fits_1 (cx:Cx) (_t:Tree) (_p:List Cell) (tt:Int ⊕ Unit) (ee:Exit) (Z:Env) (O:Sto):Prop:=match tt with
 | .inl r=>ee=.ret/\EE cx (fun Z O=>∃ v,fC tb Z O Tryz.f32.results.toList=some v/\(v.frz O).free=true/\(v.frz O).wk (vI r)) Z O
 | .inr _u=>ee=.exit 0/\EE cx (bH [] []) Z O
instance l_R20_Fits_1 (t p) {fu stt tt}:LtP (ba (lE t p) fu stt=some tt) (lp 26 stt (fun i=>[(1,.u (.one (dR0 p))),(2,vX 2),(5,vI i)]) (fun _i=>[(2,.box [dI t.States,dR2 t.Hood,dR1 t.Nodes])]) (cC [1,1,1,0,1,0,0] (bD Tryz.f32)) fun cx=>F_R20_Fits_1 cx t p tt):=⟨fun hh cx hn Z O hE=>by
 refine bN hE hh (F_R20_Fits_1 cx t p) ?_
 rintro i r hm Z O hf
 simp only[Fits,bB,bA,and_true] at hf
 unfold lE at hm
 exact zz⟩
instance c_R20_Fits (t p r):CtP (kF t p=some r) (bc Tryz.prog 32 [.u (.agg [dI t.States,dR2 t.Hood,dR1 t.Nodes]),.u (.one (dR0 p))] (vI r)):=⟨fun hm=>by
 refine cu Tryz.func32 Tryz.ntmps32 fun cx hn=>?_
 unfold kF at hm
 refine srs hn ?_
 simp -dsimp
 refine aZ ?_
 refine srs hn ?_
 obtain⟨y,h1,hm⟩:=bnd hm
 simp -dsimp
 refine bi (CtP.pf h1) (dkL hn) ?_
 simp -dsimp
 rcases bz hm with ⟨c2,hm⟩ | ⟨c2,hm⟩
 ·exact zz
 ·refine bf (by simp -dsimp) c2 ?_
  refine b0 (aY (aZ ?_))
  refine srs hn ?_
  obtain⟨y1,h3,hm⟩:=bnd hm
  simp -dsimp [c2]
  refine bi (CtP.pf h3) (dkL hn) ?_
  simp -dsimp
  rcases bz hm with ⟨c4,hm⟩ | ⟨c4,hm⟩
  ·exact zz
  ·refine bf (by simp -dsimp) c4 ?_
   refine b0 (aY (aZ ?_))
   refine srs hn ?_
   simp -dsimp [c4]
   refine b7 ?_
   obtain⟨o_,g8,hm⟩:=bnd hm
   refine bG (LtP.pf g8 cx hn) (by
     try dsimp only
     exact EE.here (by simp -dsimp)
   ) fun ee Z O xx=>?_
   rcases o_ with r | _u
   ·exact zz
   ·exact zz⟩
instance c_R03_Valid (p r):CtP (oB p=some r) (bc Tryz.prog 105 [.u (.agg [dI p.X,dI p.Y])] (vT r)):=⟨fun hm=>by
 refine cu Tryz.func105 Tryz.ntmps105 fun cx hn=>?_
 unfold oB at hm
 refine srs hn ?_
 simp -dsimp
 obtain⟨a,j4,hm⟩:=bnd hm
 refine scE [(2,vT a)] [] ?_ fun Z O hf=>?_
 ·replace hm:=j4
  clear j4
  exact zz
 ·clear j4
  exact zz⟩
instance c_R03_Right (b r):CtP (ou b=some r) (bc Tryz.prog 85 [.u (.agg [dI b.X,dI b.Y,dI b.W,dI b.H])] (vT r)):=⟨fun hm=>by
 refine cu Tryz.func85 Tryz.ntmps85 fun cx hn=>?_
 unfold ou at hm
 refine srs hn ?_
 simp -dsimp
 refine aZ ?_
 obtain⟨a,j8,hm⟩:=bnd hm
 refine scE [(1,vX 1),(29,vT a)] [(1,.box [dI b.X,dI b.Y,dI b.W,dI b.H])] ?_ fun Z O hf=>?_
 ·replace hm:=j8
  clear j8
  exact zz
 ·clear j8
  exact zz⟩
instance c_R04_Place (p r):CtP (m_R04_Place p=some r) (bc Tryz.prog 86 [.u (.agg [dI p.X,dI p.Y])] (vT r)):=⟨fun hm=>by
 refine cu Tryz.func86 Tryz.ntmps86 fun cx hn=>?_
 unfold m_R04_Place at hm
 refine srs hn ?_
 simp -dsimp
 obtain⟨a,j4,hm⟩:=bnd hm
 refine scE [(2,vT a)] [] ?_ fun Z O hf=>?_
 ·replace hm:=j4
  clear j4
  exact zz
 ·clear j4
  exact zz⟩
instance c_R04_Mod (k r):CtP (m_R04_Mod k=some r) (bc Tryz.prog 106 [vI k] (vI r)):=⟨fun hm=>by
 refine cu Tryz.func106 Tryz.ntmps106 fun cx hn=>?_
 unfold m_R04_Mod at hm
 refine srs hn ?_
 simp -dsimp
 refine srs hn ?_
 obtain⟨n,h1,hm⟩:=bnd hm
 obtain⟨n1,h2,hm⟩:=bnd hm
 simp -dsimp [h1,h2]
 refine bC ?_
 cases hm
 refine⟨.inr rfl,?_⟩
 exact EE.here (by simp -dsimp)⟩
def F_R04_Apply_1 (cx:Cx) (_k1:Int) (tt:(Int×Int)) (ee:Exit) (Z:Env) (O:Sto):Prop:=match tt with
 | (pX1,pY)=>ee=.exit 0/\EE cx (bH [(3,vX 3),(4,vX 4)] [(3,.box [dI pX1,dI pY]),(4,.box [dI 0,dI 0])]) Z O
instance l_R04_Apply_1 (k1) {fu stt tt}:LtP (ba (oW k1) fu stt=some tt) (lp 30 stt (fun | (i,_pX1,_pY)=>[(0,vI k1),(3,vX 3),(4,vX 4),(5,vI i)]) (fun | (_i,pX1,pY)=>[(3,.box [dI pX1,dI pY]),(4,.box [dI 0,dI 0])]) (cC [1,1,1,0,1,0,0] (bD Tryz.f88)) fun cx=>F_R04_Apply_1 cx k1 tt):=⟨fun hh cx hn Z O hE=>by
 refine bN hE hh (F_R04_Apply_1 cx k1) ?_
 rintro⟨i,pX1,pY⟩ r hm Z O hf
 simp only[Fits,bB,bA,and_true] at hf
 unfold oW at hm
 exact zz⟩
instance c_R04_Apply (k p r):CtP (mi k p=some r) (bc Tryz.prog 88 [vI k,.u (.agg [dI p.X,dI p.Y])] (.u (.agg [dI r.X,dI r.Y]))):=⟨fun hm=>by
 refine cu Tryz.func88 Tryz.ntmps88 fun cx hn=>?_
 unfold mi at hm
 refine srs hn ?_
 simp -dsimp
 refine srs hn ?_
 obtain⟨y,h1,hm⟩:=bnd hm
 simp -dsimp
 refine bi (CtP.pf h1) (dkL hn) ?_
 simp -dsimp
 obtain⟨⟨k1,pX⟩,j5,hm⟩:=bnd hm
 refine scE [(0,vI k1),(3,vX 3),(4,vX 4)] [(3,.box [dI pX,dI p.Y]),(4,.box [dI 0,dI 0])] ?_ fun Z O hf=>?_
 ·replace hm:=j5
  clear j5
  refine srs hn ?_
  simp -dsimp
  rcases bz hm with ⟨c2,hm⟩ | ⟨c2,hm⟩
  ·refine b9 (by simp -dsimp) c2 ?_
   refine srs hn ?_
   simp -dsimp [c2]
   refine sr1 hn ?_
   simp -dsimp
   cases hm
   exact EE.here (by simp -dsimp)
  ·refine bf (by simp -dsimp) c2 ?_
   refine b0 (aY ?_)
   cases hm
   exact EE.here (by simp -dsimp [c2])
 ·clear j5
  exact zz⟩
instance c_R04_Turn (k b r):CtP (m_R04_Turn k b=some r) (bc Tryz.prog 87 [vI k,.u (.agg [dI b.X,dI b.Y,dI b.W,dI b.H])] (.u (.agg [dI r.X,dI r.Y,dI r.W,dI r.H]))):=⟨fun hm=>by
 refine cu Tryz.func87 Tryz.ntmps87 fun cx hn=>?_
 unfold m_R04_Turn at hm
 refine srs hn ?_
 simp -dsimp
 refine aZ ?_
 refine srs hn ?_
 obtain⟨y,h1,hm⟩:=bnd hm
 simp -dsimp
 refine bi (CtP.pf h1) (dkL hn) ?_
 simp -dsimp
 rcases bz hm with ⟨c2,hm⟩ | ⟨c2,hm⟩
 ·refine b9 (by simp -dsimp) c2 ?_
  refine srs hn ?_
  simp -dsimp [c2]
  refine bC (fI ?_)
  cases hm
  refine⟨.inr rfl,?_⟩
  exact EE.here (by simp -dsimp)
 ·refine bf (by simp -dsimp) c2 ?_
  refine b0 (aY ?_)
  refine srs hn ?_
  obtain⟨y1,h3,hm⟩:=bnd hm
  simp -dsimp [c2]
  refine bi (CtP.pf h3) (dkL hn) ?_
  simp -dsimp
  refine srs hn ?_
  obtain⟨y2,h4,hm⟩:=bnd hm
  simp -dsimp
  refine bi (CtP.pf h4) (dkL hn) ?_
  simp -dsimp
  refine iM bO mixed (by rw[hn]; kernel_rfl) ?_
  simp -dsimp
  refine srs hn ?_
  simp -dsimp
  refine bC ?_
  cases hm
  refine⟨.inr rfl,?_⟩
  exact EE.here (by simp -dsimp)⟩
instance c_R04_Within (k b p r):CtP (gR k b p=some r) (bc Tryz.prog 62 [vI k,.u (.agg [dI b.X,dI b.Y,dI b.W,dI b.H]),.u (.agg [dI p.X,dI p.Y])] (.u (.agg [dI r.X,dI r.Y]))):=⟨fun hm=>by
 refine cu Tryz.func62 Tryz.ntmps62 fun cx hn=>?_
 unfold gR at hm
 refine srs hn ?_
 simp -dsimp
 refine aZ ?_
 obtain⟨a,j7,hm⟩:=bnd hm
 refine scE [(0,vI k),(4,vX 4),(5,vX 5),(6,vX 6),(16,vT a)] [(4,.box [dI b.X,dI b.Y,dI b.W,dI b.H]),(5,.box [dI p.X,dI p.Y]),(6,.box [dI 0,dI 0])] ?_ fun Z O hf=>?_
 ·replace hm:=j7
  clear j7
  refine sr1 hn ?_
  obtain⟨y,h1,hm⟩:=bnd hm
  simp -dsimp
  refine bi (CtP.pf h1) (dkL hn) ?_
  rcases bz hm with ⟨c2,hm⟩ | ⟨c2,hm⟩
  ·simp -dsimp [c2]
   cases hm
   exact EE.here (by simp -dsimp)
  ·obtain⟨y1,h3,hm⟩:=bnd hm
   simp -dsimp [c2]
   refine bi (CtP.pf h3) (dkL hn) ?_
   simp -dsimp
   cases hm
   exact EE.here (by simp -dsimp)
 ·clear j7
  simp only[Fits,bB,bA,and_true] at hf
  rcases bz hm with ⟨c4,hm⟩ | ⟨c4,hm⟩
  ·refine b9 (by simp -dsimp [hf]) c4 ?_
   refine srs hn ?_
   simp -dsimp [hf]
   refine bC (fI ?_)
   cases hm
   refine⟨.inr rfl,?_⟩
   exact EE.here (by simp -dsimp [hf])
  ·refine bf (by simp -dsimp [hf]) c4 ?_
   refine b0 (aY ?_)
   refine srs hn ?_
   obtain⟨y,h5,hm⟩:=bnd hm
   simp -dsimp [hf]
   refine bi (CtP.pf h5) (dkL hn) ?_
   simp -dsimp
   refine srs hn ?_
   obtain⟨y1,h6,hm⟩:=bnd hm
   simp -dsimp [hf]
   refine bi (CtP.pf h6) (dkL hn) ?_
   simp -dsimp
   refine srs hn ?_
   simp -dsimp [hf]
   refine bC ?_
   cases hm
   refine⟨.inr rfl,?_⟩
   exact EE.here (by simp -dsimp [hf])⟩
def nz (cx:Cx) (_p:List Cell) (cv:Cell) (tt:(Bool×(List Cell))) (ee:Exit) (Z:Env) (O:Sto):Prop:=match tt with
 | (done,out)=>ee=.exit 0/\EE cx (bH [(3,vX 3),(5,vO 5000),(6,vT done)] [(3,.box [dI cv.X,dI cv.Y,dI cv.S]),(5000,.row 3 53 (List.map Cell.row out))]) Z O
instance l_R05_insert_1 (p cv) {fu stt tt}:LtP (ba (gq p cv) fu stt=some tt) (lp 42 stt (fun | (done,i,_out)=>[(0,.u (.one (dR0 p))),(3,vX 3),(5,vO 5000),(6,vT done),(7,vI i)]) (fun | (_done,_i,out)=>[(3,.box [dI cv.X,dI cv.Y,dI cv.S]),(5000,.row 3 53 (List.map Cell.row out))]) (cC [1,1,1,0,1,0,0] (bD Tryz.f89)) fun cx=>nz cx p cv tt):=⟨fun hh cx hn Z O hE=>by
 refine bN hE hh (nz cx p cv) ?_
 rintro⟨done,i,out⟩ r hm Z O hf
 simp only[Fits,bB,bA,and_true] at hf
 unfold gq at hm
 dsimp only at hm
 refine aZ ?_
 refine srs hn ?_
 simp -dsimp [hf]
 rcases bz hm with ⟨c1,hm⟩ | ⟨c1,hm⟩
 ·refine b9 (by simp -dsimp) c1 ?_
  refine b0 (aY (aZ (b7 ?_)))
  obtain⟨⟨done1,aC⟩,j10,hm⟩:=bnd hm
  refine scE [(0,.u (.one (dR0 p))),(3,vX 3),(5,vO 5000),(6,vT done1),(7,vI i)] [(3,.box [dI cv.X,dI cv.Y,dI cv.S]),(5000,.row 3 53 (List.map Cell.row aC))] ?_ fun Z O hf=>?_
  ·replace hm:=j10
   clear j10
   obtain⟨a,j7,hm⟩:=bnd hm
   refine scE [(0,.u (.one (dR0 p))),(3,vX 3),(5,vO 5000),(6,vT done),(7,vI i),(23,vT a)] [(3,.box [dI cv.X,dI cv.Y,dI cv.S]),(5000,.row 3 53 (List.map Cell.row out))] ?_ fun Z O hf=>?_
   ·replace hm:=j7
    clear j7
    exact zz
   ·clear j7
    simp only[Fits,bB,bA,and_true] at hf
    rcases bz hm with ⟨c5,hm⟩ | ⟨c5,hm⟩
    ·refine b9 (by simp -dsimp [hf]) c5 ?_
     refine srs hn ?_
     obtain⟨l,h6,hm⟩:=bnd hm
     obtain⟨h6a,h6e⟩:=bQ h6
     replace h6e:=h6e.symm
     subst h6e
     try simp only[List.length_cons,List.length_nil,Nat.zero_add] at h6a
     simp -dsimp [hf,h6a]
     refine sr1 hn ?_
     simp -dsimp
     refine aY ?_
     cases hm
     refine emv 27 5000 ?_
     exact zz
    ·exact zz
  ·clear j10
   simp only[Fits,bB,bA,and_true] at hf
   refine sr1 hn ?_
   obtain⟨x,h8,hm⟩:=bnd hm
   obtain⟨l,h9,hm⟩:=bnd hm
   obtain⟨h9a,h9e⟩:=bQ h9
   replace h9e:=h9e.symm
   subst h9e
   try simp only[List.length_cons,List.length_nil,Nat.zero_add] at h9a
   simp -dsimp [hf,h8,h9a]
   refine cr ?_
   refine aY ?_
   refine sr1 hn ?_
   simp -dsimp [hf]
   cases hm
   refine d8 ?_
   refine emv 34 5000 ?_
   exact zz
 ·exact zz⟩
instance c_R05_insert (p cv r):CtP (l9 p cv=some r) (bc Tryz.prog 89 [.u (.one (dR0 p)),.u (.agg [dI cv.X,dI cv.Y,dI cv.S])] (.u (.one (dR0 r)))):=⟨fun hm=>by
 refine cu Tryz.func89 Tryz.ntmps89 fun cx hn=>?_
 unfold l9 at hm
 refine srs hn ?_
 simp -dsimp
 refine srs hn ?_
 simp -dsimp
 refine srs hn ?_
 simp -dsimp
 refine aZ ?_
 refine srs hn ?_
 simp -dsimp
 refine b7 ?_
 obtain⟨⟨done,out⟩,g11,hm⟩:=bnd hm
 refine bG (LtP.pf g11 cx hn) (by
   try dsimp only
   refine EE.step (Wk.own0 5 5000 3 53 (by simp -dsimp) (by decide)) ?_
   exact zz
 ) fun ee Z O xx=>?_
 unfold nz at xx
 dsimp only at xx
 obtain⟨rfl,xx⟩:=xx
 refine bK ?_
 refine aY ?_
 refine see xx fun Z O hf=>?_
 simp only[Fits,bB,bA,and_true] at hf
 obtain⟨aC,j14,hm⟩:=bnd hm
 refine scE [(5,vO 5000)] [(5000,.row 3 53 (List.map Cell.row aC))] ?_ fun Z O hf=>?_
 ·replace hm:=j14
  clear j14
  refine srs hn ?_
  simp -dsimp [hf]
  rcases bz hm with ⟨c12,hm⟩ | ⟨c12,hm⟩
  ·refine b9 (by simp -dsimp) c12 ?_
   refine sr1 hn ?_
   obtain⟨l,h13,hm⟩:=bnd hm
   obtain⟨h13a,h13e⟩:=bQ h13
   replace h13e:=h13e.symm
   subst h13e
   try simp only[List.length_cons,List.length_nil,Nat.zero_add] at h13a
   simp -dsimp [hf,c12,h13a]
   refine aY ?_
   cases hm
   refine emv 40 5000 ?_
   exact zz
  ·exact zz
 ·clear j14
  exact zz⟩
def pN (cx:Cx) (l:List Cell) (tt:((List Cell)×Int) ⊕ Unit) (ee:Exit) (Z:Env) (O:Sto):Prop:=match tt with
 | .inl r=>ee=.ret/\EE cx (fun Z O=>∃ v,fC tb Z O Tryz.f63.results.toList=some v/\(v.frz O).free=true/\(v.frz O).wk (.tup [.one (dR0 r.1),.one (dI r.2)])) Z O
 | .inr _u=>ee=.exit 0/\EE cx (bH [(0,.u (.one (dR0 l))),(4,.u (.one (.d .nil)))] []) Z O
instance l_R05_From_1 (l) {fu stt tt}:LtP (ba (iF l) fu stt=some tt) (lp 79 stt (fun i=>[(0,.u (.one (dR0 l))),(4,.u (.one (.d .nil))),(5,vI i)]) (fun _i=>[]) (cC [1,1,0,1,0,0] (bD Tryz.f63)) fun cx=>pN cx l tt):=⟨fun hh cx hn Z O hE=>by
 refine bN hE hh (pN cx l) ?_
 rintro i r hm Z O hf
 simp only[Fits,bB,bA,and_true] at hf
 unfold iF at hm
 dsimp only at hm
 refine aZ ?_
 refine srs hn ?_
 simp -dsimp [hf]
 rcases bz hm with ⟨c1,hm⟩ | ⟨c1,hm⟩
 ·refine b9 (by simp -dsimp) c1 ?_
  refine b0 (aY (aZ (b7 (aZ ?_))))
  refine iM bO mixed (by rw[hn]; kernel_rfl) ?_
  obtain⟨x,h2,hm⟩:=bnd hm
  obtain⟨y,h3,hm⟩:=bnd hm
  simp -dsimp [hf,c1,h2]
  refine br (CtP.pf h3) ?_
  simp -dsimp
  rcases bz hm with ⟨c4,hm⟩ | ⟨c4,hm⟩
  ·exact zz
  ·refine bf (by simp -dsimp) c4 ?_
   refine b0 (aY ?_)
   obtain⟨a,j7,hm⟩:=bnd hm
   refine scE [(0,.u (.one (dR0 l))),(4,.u (.one (.d .nil))),(5,vI i),(39,vT a)] [] ?_ fun Z O hf=>?_
   ·replace hm:=j7
    clear j7
    exact zz
   ·clear j7
    exact zz
 ·exact zz⟩
def pD (cx:Cx) (_l:List Cell) (tt:(List Cell)) (ee:Exit) (Z:Env) (O:Sto):Prop:=match tt with
 | p=>ee=.exit 2/\EE cx (bH [(4,.u (.one (dR0 p)))] []) Z O
instance l_R05_From_2 (l) {fu stt tt}:LtP (ba (iQ l) fu stt=some tt) (lp 79 stt (fun | (p,i)=>[(0,.u (.one (dR0 l))),(4,.u (.one (dR0 p))),(6,vI i)]) (fun | (_p,_i)=>[]) (cC [1,1,1,0,1,0,0] (bD Tryz.f63)) fun cx=>pD cx l tt):=⟨fun hh cx hn Z O hE=>by
 refine bN hE hh (pD cx l) ?_
 rintro⟨p,i⟩ r hm Z O hf
 simp only[Fits,bB,bA,and_true] at hf
 unfold iQ at hm
 dsimp only at hm
 refine aZ ?_
 refine srs hn ?_
 simp -dsimp [hf]
 rcases bz hm with ⟨c9,hm⟩ | ⟨c9,hm⟩
 ·refine b9 (by simp -dsimp) c9 ?_
  refine b0 (aY ?_)
  obtain⟨p1,j13,hm⟩:=bnd hm
  refine scE [(0,.u (.one (dR0 l))),(4,.u (.one (dR0 p1))),(6,vI i)] [] ?_ fun Z O hf=>?_
  ·replace hm:=j13
   clear j13
   exact zz
  ·clear j13
   exact zz
 ·exact zz⟩
def F_R05_From_3 (cx:Cx) (p:List Cell) (tt:((List Cell)×Int) ⊕ Unit) (ee:Exit) (Z:Env) (O:Sto):Prop:=match tt with
 | .inl r=>ee=.ret/\EE cx (fun Z O=>∃ v,fC tb Z O Tryz.f63.results.toList=some v/\(v.frz O).free=true/\(v.frz O).wk (.tup [.one (dR0 r.1),.one (dI r.2)])) Z O
 | .inr _u=>ee=.exit 4/\EE cx (bH [(4,.u (.one (dR0 p)))] []) Z O
instance l_R05_From_3 (p) {fu stt tt}:LtP (ba (iR p) fu stt=some tt) (lp 79 stt (fun i=>[(4,.u (.one (dR0 p))),(7,vI i)]) (fun _i=>[]) (cC [1,1,1,1,0,1,0,0] (bD Tryz.f63)) fun cx=>F_R05_From_3 cx p tt):=⟨fun hh cx hn Z O hE=>by
 refine bN hE hh (F_R05_From_3 cx p) ?_
 rintro i r hm Z O hf
 simp only[Fits,bB,bA,and_true] at hf
 unfold iR at hm
 exact zz⟩
instance c_R05_From (l r):CtP (lY l=some r) (bc Tryz.prog 63 [.u (.one (dR0 l))] (.tup [.one (dR0 r.1),.one (dI r.2)])):=⟨fun hm=>by
 refine cu Tryz.func63 Tryz.ntmps63 fun cx hn=>?_
 unfold lY at hm
 refine srs hn ?_
 simp -dsimp
 refine srs hn ?_
 simp -dsimp
 refine aZ ?_
 refine srs hn ?_
 simp -dsimp
 refine b7 ?_
 obtain⟨o_,g8,hm⟩:=bnd hm
 refine bG (LtP.pf g8 cx hn) (by
   try dsimp only
   exact eeh
 ) fun ee Z O xx=>?_
 rcases o_ with r | _u
 ·exact zz
 ·unfold pN at xx
  dsimp only at xx
  obtain⟨rfl,xx⟩:=xx
  refine bK ?_
  refine aY ?_
  refine see xx fun Z O hf=>?_
  simp only[Fits,bB,bA,and_true] at hf
  refine aZ ?_
  refine srs hn ?_
  simp -dsimp
  refine b7 ?_
  obtain⟨p,g14,hm⟩:=bnd hm
  refine bG (LtP.pf g14 cx hn) (by
    try dsimp only
    exact EE.here (by simp -dsimp [hf])
  ) fun ee Z O xx=>?_
  unfold pD at xx
  dsimp only at xx
  obtain⟨rfl,xx⟩:=xx
  refine bK ?_
  refine aY ?_
  refine see xx fun Z O hf=>?_
  simp only[Fits,bB,bA,and_true] at hf
  refine aZ ?_
  refine srs hn ?_
  simp -dsimp
  refine b7 ?_
  obtain⟨o_2,g20,hm⟩:=bnd hm
  refine bG (LtP.pf g20 cx hn) (by
    try dsimp only
    exact EE.here (by simp -dsimp [hf])
  ) fun ee Z O xx=>?_
  rcases o_2 with r | _u
  ·exact zz
  ·exact zz⟩
def oV (cx:Cx) (_x:Bg) (_s:Int) (_p:List Cell) (tt:(List Cell)) (ee:Exit) (Z:Env) (O:Sto):Prop:=match tt with
 | l=>ee=.exit 0/\EE cx (bH [(7,vO 5000)] [(5000,.row 3 53 (List.map Cell.row l))]) Z O
instance l_R44_image_1 (x s p) {fu stt tt}:LtP (ba (jf x s p) fu stt=some tt) (lp 55 stt (fun | (i,_l)=>[(1,vI s),(2,.u (.one (dR0 p))),(3,vX 3),(7,vO 5000),(8,vI i)]) (fun | (_i,l)=>[(3,.box [dI x.W,dI x.H,dI x.Gens,dI x.DX,dI x.DY,dL x.Syms]),(5000,.row 3 53 (List.map Cell.row l))]) (cC [1,1,0,1,0,0] (bD Tryz.f33)) fun cx=>oV cx x s p tt):=⟨fun hh cx hn Z O hE=>by
 refine bN hE hh (oV cx x s p) ?_
 rintro⟨i,l⟩ r hm Z O hf
 simp only[Fits,bB,bA,and_true] at hf
 unfold jf at hm
 dsimp only at hm
 refine aZ ?_
 refine srs hn ?_
 simp -dsimp [hf]
 rcases bz hm with ⟨c1,hm⟩ | ⟨c1,hm⟩
 ·refine b9 (by simp -dsimp) c1 ?_
  refine b0 (aY (aZ (b7 ?_)))
  refine ja bO mixed 18 19 19 0 [[0,1,2,3,4,5,6,7,8,9,10,11,12,13,14,15,16,17]] [[9]] [] none (by rw[hn]; kernel_rfl) ep ?_
  dsimp only [List.take,List.drop,gz,gP,jl,pk,List.cons_append,List.nil_append,List.flatten_cons,List.flatten_nil,dY,dW,List.append_nil]
  obtain⟨x1,h2,hm⟩:=bnd hm
  obtain⟨y,h3,hm⟩:=bnd hm
  simp -dsimp [hf,c1,h2]
  refine br (CtP.pf h3) ?_
  simp -dsimp [hf,h2]
  refine br (CtP.pf h3) ?_
  simp -dsimp
  refine nR bO mixed 12 (by rw[hn]; kernel_rfl) ?_
  dsimp only [List.take,List.drop]
  obtain⟨l1,h4,hm⟩:=bnd hm
  obtain⟨h4a,h4e⟩:=bQ h4
  replace h4e:=h4e.symm
  subst h4e
  try simp only[List.length_cons,List.length_nil,Nat.zero_add] at h4a
  simp -dsimp [hf,h2,h4a]
  refine cr ?_
  refine aY ?_
  refine sr1 hn ?_
  simp -dsimp [hf]
  cases hm
  refine d8 ?_
  refine emv 48 5000 ?_
  exact zz
 ·exact zz⟩
instance c_R44_image (x s p r):CtP (kV x s p=some r) (bc Tryz.prog 33 [.u (.agg [dI x.W,dI x.H,dI x.Gens,dI x.DX,dI x.DY,dL x.Syms]),vI s,.u (.one (dR0 p))] (.u (.one (dR0 r)))):=⟨fun hm=>by
 refine cu Tryz.func33 Tryz.ntmps33 fun cx hn=>?_
 unfold kV at hm
 refine srs hn ?_
 simp -dsimp
 refine srs hn ?_
 simp -dsimp
 refine aZ ?_
 refine srs hn ?_
 simp -dsimp
 refine b7 ?_
 obtain⟨l,g5,hm⟩:=bnd hm
 refine bG (LtP.pf g5 cx hn) (by
   try dsimp only
   refine EE.step (Wk.own0 7 5000 3 53 (by simp -dsimp) (by decide)) ?_
   exact zz
 ) fun ee Z O xx=>?_
 unfold oV at xx
 dsimp only at xx
 obtain⟨rfl,xx⟩:=xx
 refine bK ?_
 refine aY ?_
 refine see xx fun Z O hf=>?_
 simp only[Fits,bB,bA,and_true] at hf
 refine Swp.pre (Wk.frz 5000 3 53 (List.map Cell.row l) (by simp -dsimp [hf])) ?_
 exact zz⟩
def F_R05_Box_1 (cx:Cx) (_p:List Cell) (tt:(Int×Int×Int×Int)) (ee:Exit) (Z:Env) (O:Sto):Prop:=match tt with
 | (x1,y,right,aQ)=>ee=.exit 0/\EE cx (bH [(2,vX 2),(4,vI x1),(5,vI y),(6,vI right),(7,vI aQ)] [(2,.box [dI 0,dI 0,dI 0,dI 0])]) Z O
instance l_R05_Box_1 (p) {fu stt tt}:LtP (ba (jv p) fu stt=some tt) (lp 79 stt (fun | (x1,y,right,aQ,i)=>[(0,.u (.one (dR0 p))),(2,vX 2),(4,vI x1),(5,vI y),(6,vI right),(7,vI aQ),(8,vI i)]) (fun | (_x1,_y,_right,_aQ,_i)=>[(2,.box [dI 0,dI 0,dI 0,dI 0])]) (cC [1,1,1,0,1,0,0] (bD Tryz.f117)) fun cx=>F_R05_Box_1 cx p tt):=⟨fun hh cx hn Z O hE=>by
 refine bN hE hh (F_R05_Box_1 cx p) ?_
 rintro⟨x1,y,right,aQ,i⟩ r hm Z O hf
 simp only[Fits,bB,bA,and_true] at hf
 unfold jv at hm
 exact zz⟩
instance c_R05_Box (p r):CtP (p7 p=some r) (bc Tryz.prog 117 [.u (.one (dR0 p))] (.tup [.agg [dI r.1.X,dI r.1.Y,dI r.1.W,dI r.1.H],.one (.d (.bool r.2))])):=⟨fun hm=>by
 refine cu Tryz.func117 Tryz.ntmps117 fun cx hn=>?_
 unfold p7 at hm
 refine srs hn ?_
 simp -dsimp
 refine aZ ?_
 obtain⟨a,j8,hm⟩:=bnd hm
 refine scE [(0,.u (.one (dR0 p))),(2,vX 2),(16,vT a)] [(2,.box [dI 0,dI 0,dI 0,dI 0])] ?_ fun Z O hf=>?_
 ·replace hm:=j8
  clear j8
  exact zz
 ·clear j8
  exact zz⟩
end Go.Proofs.YtjlckgeecihpbaaGreatDoor
