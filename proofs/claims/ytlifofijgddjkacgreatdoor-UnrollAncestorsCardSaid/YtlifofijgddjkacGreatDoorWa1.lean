/- That the code does what the functions say (made by cc.py). -/
import Derived.Test.YtlifofijgddjkacGreatDoorTb
namespace Go.Proofs.YtlifofijgddjkacGreatDoor
open Go.AM Go.Proofs
set_option maxRecDepth 100000
attribute [-simp] eR fS jn Ob.wipe Ob.ren Ob.frz1
def iE (cx:Cx) (_t:Tree) (x:B8) (tt:Bool ⊕ Unit) (ee:Exit) (Z:Env) (O:Sto):Prop:=match tt with
 | .inl r=>ee=.ret/\EE cx (fun Z O=>∃ v,iR tb Z O Tryz.f4.results.toList=some v/\(v.frz O).free=true/\(v.frz O).wk (vT r)) Z O
 | .inr _u=>ee=.exit 0/\EE cx (bY [(3,vX 3)] [(3,.box [dI x.W,dI x.H,dI x.Gens,dI x.DX,dI x.DY,dL x.Syms])]) Z O
theorem l_L45_Small_1 (cx:Cx) (hn:cx.n=81) (t:Tree) (x:B8) {fu:Nat} {stt:Int} {tt:Bool ⊕ Unit} (hh:bh (jB t x) fu stt=some tt) {Z:Env} {O:Sto}
  (hE:cw (fun a1:Int=>[(2,vX 2),(3,vX 3),(34,vI (b9 t.Nodes)),(35,vI a1)]) (fun _a1:Int=>[(2,.box [dI t.States,dR2 t.Hood,dR1 t.Nodes]),(3,.box [dI x.W,dI x.H,dI x.Gens,dI x.DX,dI x.DY,dL x.Syms])]) stt Z O):Swp Tryz.prog cx (.loop (dx [1,1,0,1,0,0] (bQ Tryz.f4))) Z O (iE cx t x tt):=by
 refine cz hE hh (iE cx t x) ?_
 rintro a1 r hm Z O hf
 simp only[Fits,bv,bu,and_true] at hf
 unfold jB at hm
 dsimp only at hm
 refine srs hn ?_
 simp -dsimp [hf]
 refine aZ ?_
 rcases bc hm with ⟨c6,hm⟩ | ⟨c6,hm⟩
 ·refine aW (by simp -dsimp) c6 ?_
  refine aY (aU (aZ (b7 ?_)))
  refine srs hn ?_
  simp -dsimp [hf,c6]
  refine srs hn ?_
  obtain⟨x1,h7,hm⟩:=bnd hm
  simp -dsimp [hf,h7]
  rcases bc hm with ⟨c8,hm⟩ | ⟨c8,hm⟩
  ·refine aW (by simp -dsimp) c8 ?_
   refine srs hn ?_
   simp -dsimp [c8]
   refine b0 (cy (b8 ?_))
   cases hm
   refine bz nofun ?_
   exact⟨rfl,EE.here (by simp -dsimp [Tryz.results4])⟩
  ·refine aV (by simp -dsimp) c8 ?_
   refine aY ?_
   refine bI ?_
   refine aU ?_
   refine sr1 hn ?_
   simp -dsimp [hf,c8]
   cases hm
   refine bC ?_
   exact EE.here (by simp -dsimp [hf])
 ·refine aV (by simp -dsimp) c6 ?_
  refine bp ?_
  refine b8 ?_
  cases hm
  refine bz nofun ?_
  exact⟨rfl,EE.here (by simp -dsimp [hf,c6])⟩
theorem c_L45_Small (t:Tree) (x:B8) (r:Bool) (hm:l6 t x=some r):bg Tryz.prog 4 [.u (.agg [dI t.States,dR2 t.Hood,dR1 t.Nodes]),.u (.agg [dI x.W,dI x.H,dI x.Gens,dI x.DX,dI x.DY,dL x.Syms])] (vT r):=by
 refine dG Tryz.func4 Tryz.ntmps4 fun cx hn=>?_
 unfold l6 at hm
 refine srs hn ?_
 simp -dsimp
 refine aZ ?_
 obtain⟨a,j16,hm⟩:=bnd hm
 refine scE [(2,vX 2),(3,vX 3),(31,vT a)] [(2,.box [dI t.States,dR2 t.Hood,dR1 t.Nodes]),(3,.box [dI x.W,dI x.H,dI x.Gens,dI x.DX,dI x.DY,dL x.Syms])] ?_ fun Z O hf=>?_
 ·replace hm:=j16
  clear j16
  refine sr1 hn ?_
  rcases bc hm with ⟨c1,hm⟩ | ⟨c1,hm⟩
  ·simp -dsimp [c1]
   cases hm
   exact EE.here (by simp -dsimp)
  ·rcases bc hm with ⟨c2,hm⟩ | ⟨c2,hm⟩
   ·simp -dsimp [c1,c2]
    cases hm
    exact EE.here (by simp -dsimp)
   ·rcases bc hm with ⟨c3,hm⟩ | ⟨c3,hm⟩
    ·simp -dsimp [c1,c2,c3]
     cases hm
     exact EE.here (by simp -dsimp)
    ·rcases bc hm with ⟨c4,hm⟩ | ⟨c4,hm⟩
     ·simp -dsimp [c1,c2,c3,c4]
      cases hm
      exact EE.here (by simp -dsimp)
     ·simp -dsimp [c1,c2,c3,c4]
      cases hm
      exact EE.here (by simp -dsimp)
 ·clear j16
  simp only[Fits,bv,bu,and_true] at hf
  rcases bc hm with ⟨c5,hm⟩ | ⟨c5,hm⟩
  ·refine aW (by simp -dsimp [hf]) c5 ?_
   refine srs hn ?_
   simp -dsimp
   refine b0 (b8 ?_)
   cases hm
   refine⟨.inr rfl,?_⟩
   exact EE.here (by simp -dsimp)
  ·refine aV (by simp -dsimp [hf]) c5 ?_
   refine aY (aU (aZ ?_))
   refine srs hn ?_
   simp -dsimp [hf]
   refine b7 ?_
   obtain⟨o_,g9,hm⟩:=bnd hm
   refine bP (l_L45_Small_1 cx hn t x g9) (by
     try dsimp only
     exact EE.here (by simp -dsimp [hf])
   ) fun ee Z O xx=>?_
   rcases o_ with r | _u
   ·unfold iE at xx
    dsimp only at xx
    obtain⟨rfl,xx⟩:=xx
    refine cy (b8 ?_)
    cases hm
    exact⟨.inr rfl,xx⟩
   ·unfold iE at xx
    dsimp only at xx
    obtain⟨rfl,xx⟩:=xx
    refine br ?_
    refine aU ?_
    refine see xx fun Z O hf=>?_
    simp only[Fits,bv,bu,and_true] at hf
    obtain⟨a1,j15,hm⟩:=bnd hm
    refine scE [(4,vT a1)] [] ?_ fun Z O hf=>?_
    ·replace hm:=j15
     clear j15
     refine sr1 hn ?_
     rcases bc hm with ⟨c10,hm⟩ | ⟨c10,hm⟩
     ·simp -dsimp [hf,c10]
      cases hm
      exact EE.here (by simp -dsimp)
     ·rcases bc hm with ⟨c11,hm⟩ | ⟨c11,hm⟩
      ·simp -dsimp [hf,c10,c11]
       cases hm
       exact EE.here (by simp -dsimp)
      ·rcases bc hm with ⟨c12,hm⟩ | ⟨c12,hm⟩
       ·simp -dsimp [hf,c10,c11,c12]
        cases hm
        exact EE.here (by simp -dsimp)
       ·rcases bc hm with ⟨c13,hm⟩ | ⟨c13,hm⟩
        ·simp -dsimp [hf,c10,c11,c12,c13]
         cases hm
         exact EE.here (by simp -dsimp)
        ·rcases bc hm with ⟨c14,hm⟩ | ⟨c14,hm⟩
         ·simp -dsimp [hf,c10,c11,c12,c13,c14]
          cases hm
          exact EE.here (by simp -dsimp)
         ·simp -dsimp [hf,c10,c11,c12,c13,c14]
          cases hm
          exact EE.here (by simp -dsimp)
    ·clear j15
     simp only[Fits,bv,bu,and_true] at hf
     cases hm
     exact b0 ⟨.inr rfl,EE.here (by simp -dsimp [hf])⟩
theorem mj (r:Tree) (hm:m_L45_keep=some r):bg Tryz.prog 12 [] (.u (.agg [dI r.States,dR2 r.Hood,dR1 r.Nodes])):=by
 refine dG Tryz.func12 Tryz.ntmps12 fun cx hn=>?_
 unfold m_L45_keep at hm
 refine srs hn ?_
 simp -dsimp
 refine srs hn ?_
 simp -dsimp
 cases hm
 exact b0 ⟨.inr rfl,EE.here (by simp -dsimp)⟩
theorem c_cmp_isNaN_int (x:Int) (r:Bool) (hm:iw x=some r):bg Tryz.prog 87 [vI x] (vT r):=by
 refine dG Tryz.func87 Tryz.ntmps87 fun cx hn=>?_
 unfold iw at hm
 refine srs hn ?_
 simp -dsimp
 refine srs hn ?_
 simp -dsimp
 cases hm
 exact b0 ⟨.inr rfl,EE.here (by simp -dsimp)⟩
theorem mX (x y r:Int) (hm:f7 x y=some r):bg Tryz.prog 76 [vI x,vI y] (vI r):=by
 refine dG Tryz.func76 Tryz.ntmps76 fun cx hn=>?_
 unfold f7 at hm
 refine srs hn ?_
 simp -dsimp
 refine srs hn ?_
 obtain⟨y1,h1,hm⟩:=bnd hm
 simp -dsimp
 refine bi (c_cmp_isNaN_int x y1 h1) (dkL hn) ?_
 simp -dsimp
 refine srs hn ?_
 obtain⟨y2,h2,hm⟩:=bnd hm
 simp -dsimp
 refine bi (c_cmp_isNaN_int y y2 h2) (dkL hn) ?_
 simp -dsimp
 refine aZ ?_
 refine srs hn ?_
 simp -dsimp
 rcases bc hm with ⟨c3,hm⟩ | ⟨c3,hm⟩
 ·refine aW (by simp -dsimp) c3 ?_
  refine aZ ?_
  refine srs hn ?_
  simp -dsimp [c3]
  rcases bc hm with ⟨c4,hm⟩ | ⟨c4,hm⟩
  ·refine aW (by simp -dsimp) c4 ?_
   refine srs hn ?_
   simp -dsimp [c4]
   refine b0 (b8 (b8 ?_))
   cases hm
   refine⟨.inr rfl,?_⟩
   exact EE.here (by simp -dsimp)
  ·refine aV (by simp -dsimp) c4 ?_
   refine aY (aU ?_)
   refine srs hn ?_
   simp -dsimp [c4]
   refine b0 (b8 ?_)
   cases hm
   refine⟨.inr rfl,?_⟩
   exact EE.here (by simp -dsimp)
 ·refine aV (by simp -dsimp) c3 ?_
  refine aY (aU (aZ ?_))
  refine srs hn ?_
  simp -dsimp [c3]
  rcases bc hm with ⟨c5,hm⟩ | ⟨c5,hm⟩
  ·refine aW (by simp -dsimp) c5 ?_
   refine srs hn ?_
   simp -dsimp [c5]
   refine b0 (b8 ?_)
   cases hm
   refine⟨.inr rfl,?_⟩
   exact EE.here (by simp -dsimp)
  ·refine aV (by simp -dsimp) c5 ?_
   refine aY (aU (aZ ?_))
   refine srs hn ?_
   simp -dsimp [c5]
   rcases bc hm with ⟨c6,hm⟩ | ⟨c6,hm⟩
   ·refine aW (by simp -dsimp) c6 ?_
    refine srs hn ?_
    simp -dsimp [c6]
    refine b0 (b8 ?_)
    cases hm
    refine⟨.inr rfl,?_⟩
    exact EE.here (by simp -dsimp)
   ·refine aV (by simp -dsimp) c6 ?_
    refine aY (aU (aZ ?_))
    refine srs hn ?_
    simp -dsimp [c6]
    rcases bc hm with ⟨c7,hm⟩ | ⟨c7,hm⟩
    ·refine aW (by simp -dsimp) c7 ?_
     refine srs hn ?_
     simp -dsimp [c7]
     refine b0 (b8 ?_)
     cases hm
     refine⟨.inr rfl,?_⟩
     exact EE.here (by simp -dsimp)
    ·refine aV (by simp -dsimp) c7 ?_
     refine aY (aU ?_)
     refine srs hn ?_
     simp -dsimp [c7]
     cases hm
     exact b0 ⟨.inr rfl,EE.here (by simp -dsimp)⟩
def gC (cx:Cx) (_vals:List Int) (tt:Int ⊕ Unit) (ee:Exit) (Z:Env) (O:Sto):Prop:=match tt with
 | .inl r=>ee=.ret/\EE cx (fun Z O=>∃ v,iR tb Z O Tryz.f75.results.toList=some v/\(v.frz O).free=true/\(v.frz O).wk (vI r)) Z O
 | .inr _u=>ee=.exit 0/\EE cx (bY [(3,vI 0)] []) Z O
theorem l_cmp_Or_int_1 (cx:Cx) (hn:cx.n=18) (vals:List Int) {fu:Nat} {stt:Int} {tt:Int ⊕ Unit} (hh:bh (gH vals) fu stt=some tt) {Z:Env} {O:Sto}
  (hE:cw (fun a:Int=>[(3,vI 0),(6,.u (.one (dL vals))),(7,vI (b9 vals)),(8,vI a)]) (fun _a:Int=>[]) stt Z O):Swp Tryz.prog cx (.loop (dx [1,1,0,1,0,0] (bQ Tryz.f75))) Z O (gC cx vals tt):=by
 refine cz hE hh (gC cx vals) ?_
 rintro a r hm Z O hf
 simp only[Fits,bv,bu,and_true] at hf
 unfold gH at hm
 dsimp only at hm
 refine srs hn ?_
 simp -dsimp [hf]
 refine aZ ?_
 rcases bc hm with ⟨c1,hm⟩ | ⟨c1,hm⟩
 ·refine aW (by simp -dsimp) c1 ?_
  refine aY (aU (aZ (b7 ?_)))
  refine srs hn ?_
  obtain⟨x,h2,hm⟩:=bnd hm
  simp -dsimp [hf,c1,h2]
  refine srs hn ?_
  simp -dsimp [hf]
  rcases bc hm with ⟨c3,hm⟩ | ⟨c3,hm⟩
  ·refine aW (by simp -dsimp) c3 ?_
   refine srs hn ?_
   simp -dsimp [c3]
   refine b0 (cy (b8 ?_))
   cases hm
   refine bz nofun ?_
   exact⟨rfl,EE.here (by simp -dsimp [Tryz.results75])⟩
  ·refine aV (by simp -dsimp) c3 ?_
   refine aY ?_
   refine bI ?_
   refine aU ?_
   refine sr1 hn ?_
   simp -dsimp [hf,c3]
   cases hm
   refine bC ?_
   exact EE.here (by simp -dsimp [hf])
 ·refine aV (by simp -dsimp) c1 ?_
  refine bp ?_
  refine b8 ?_
  cases hm
  refine bz nofun ?_
  exact⟨rfl,EE.here (by simp -dsimp [hf,c1])⟩
theorem c_cmp_Or_int (vals:List Int) (r:Int) (hm:kz vals=some r):bg Tryz.prog 75 [.u (.one (dL vals))] (vI r):=by
 refine dG Tryz.func75 Tryz.ntmps75 fun cx hn=>?_
 unfold kz at hm
 refine srs hn ?_
 simp -dsimp
 refine srs hn ?_
 simp -dsimp
 refine aZ ?_
 refine srs hn ?_
 simp -dsimp
 refine b7 ?_
 obtain⟨o_,g4,hm⟩:=bnd hm
 refine bP (l_cmp_Or_int_1 cx hn vals g4) (by
   try dsimp only
   exact eeh
 ) fun ee Z O xx=>?_
 rcases o_ with r | _u
 ·unfold gC at xx
  dsimp only at xx
  obtain⟨rfl,xx⟩:=xx
  refine cy (b8 ?_)
  cases hm
  exact⟨.inr rfl,xx⟩
 ·unfold gC at xx
  dsimp only at xx
  obtain⟨rfl,xx⟩:=xx
  refine br ?_
  refine aU ?_
  refine see xx fun Z O hf=>?_
  simp only[Fits,bv,bu,and_true] at hf
  refine srs hn ?_
  simp -dsimp [hf]
  cases hm
  exact b0 ⟨.inr rfl,EE.here (by simp -dsimp)⟩
theorem c_point_Compare (a b:Point) (r:Int) (hm:gb a b=some r):bg Tryz.prog 63 [.u (.agg [dI a.X,dI a.Y]),.u (.agg [dI b.X,dI b.Y])] (vI r):=by
 refine dG Tryz.func63 Tryz.ntmps63 fun cx hn=>?_
 unfold gb at hm
 refine srs hn ?_
 simp -dsimp
 refine fQ bL mixed (by rw[hn]; kernel_rfl) ?_
 obtain⟨y,h1,hm⟩:=bnd hm
 simp -dsimp
 refine bn (mX a.Y b.Y y h1) ?_
 obtain⟨y1,h2,hm⟩:=bnd hm
 simp -dsimp
 refine bn (mX a.X b.X y1 h2) ?_
 obtain⟨y2,h3,hm⟩:=bnd hm
 simp -dsimp
 refine bn (c_cmp_Or_int [y,y1] y2 h3) ?_
 simp -dsimp
 cases hm
 exact b0 ⟨.inr rfl,EE.here (by simp -dsimp)⟩
def gD (cx:Cx) (_l:List Point) (tt:Bool ⊕ Unit) (ee:Exit) (Z:Env) (O:Sto):Prop:=match tt with
 | .inl r=>ee=.ret/\EE cx (fun Z O=>∃ v,iR tb Z O Tryz.f43.results.toList=some v/\(v.frz O).free=true/\(v.frz O).wk (vT r)) Z O
 | .inr _u=>ee=.exit 0/\EE cx (bY [] []) Z O
theorem l_hood_Right_1 (cx:Cx) (hn:cx.n=53) (l:List Point) {fu:Nat} {stt:Int} {tt:Bool ⊕ Unit} (hh:bh (jc l) fu stt=some tt) {Z:Env} {O:Sto}
  (hE:cw (fun a1:Int=>[(0,.u (.one (dR2 l))),(13,.u (.one (dR2 l))),(14,vI (b9 l)),(15,vI a1)]) (fun _a1:Int=>[]) stt Z O):Swp Tryz.prog cx (.loop (dx [1,1,0,1,0,0] (bQ Tryz.f43))) Z O (gD cx l tt):=by
 refine cz hE hh (gD cx l) ?_
 rintro a1 r hm Z O hf
 simp only[Fits,bv,bu,and_true] at hf
 unfold jc at hm
 dsimp only at hm
 refine srs hn ?_
 simp -dsimp [hf]
 refine aZ ?_
 rcases bc hm with ⟨c3,hm⟩ | ⟨c3,hm⟩
 ·refine aW (by simp -dsimp) c3 ?_
  refine aY (aU (aZ (b7 ?_)))
  refine srs hn ?_
  obtain⟨x,h4,hm⟩:=bnd hm
  simp -dsimp [hf,c3,h4]
  obtain⟨a2,j13,hm⟩:=bnd hm
  refine scE [(0,.u (.one (dR2 l))),(13,.u (.one (dR2 l))),(14,vI (b9 l)),(15,vI a1),(51,vT a2)] [] ?_ fun Z O hf=>?_
  ·replace hm:=j13
   clear j13
   refine sw_qt bL mixed (by rw[hn]; kernel_rfl) ?_
   rcases bc hm with ⟨c5,hm⟩ | ⟨c5,hm⟩
   ·simp -dsimp [c5]
    cases hm
    exact EE.here (by simp -dsimp [hf])
   ·rcases bc hm with ⟨c6,hm⟩ | ⟨c6,hm⟩
    ·simp -dsimp [c5,c6]
     cases hm
     exact EE.here (by simp -dsimp [hf])
    ·rcases bc hm with ⟨c7,hm⟩ | ⟨c7,hm⟩
     ·simp -dsimp [c5,c6,c7]
      cases hm
      exact EE.here (by simp -dsimp [hf])
     ·rcases bc hm with ⟨c8,hm⟩ | ⟨c8,hm⟩
      ·simp -dsimp [c5,c6,c7,c8]
       cases hm
       exact EE.here (by simp -dsimp [hf])
      ·rcases bc hm with ⟨c9,hm⟩ | ⟨c9,hm⟩
       ·obtain⟨x1,h10,hm⟩:=bnd hm
        obtain⟨y,h11,hm⟩:=bnd hm
        simp -dsimp [hf,c5,c6,c7,c8,c9,h10]
        refine bn (c_point_Compare x1 x y h11) ?_
        simp -dsimp
        cases hm
        exact EE.here (by simp -dsimp [hf])
       ·simp -dsimp [c5,c6,c7,c8,c9]
        cases hm
        exact EE.here (by simp -dsimp [hf])
  ·clear j13
   simp only[Fits,bv,bu,and_true] at hf
   rcases bc hm with ⟨c12,hm⟩ | ⟨c12,hm⟩
   ·refine aW (by simp -dsimp [hf]) c12 ?_
    refine srs hn ?_
    simp -dsimp
    refine b0 (cy (b8 ?_))
    cases hm
    refine bz nofun ?_
    exact⟨rfl,EE.here (by simp -dsimp [Tryz.results43])⟩
   ·refine aV (by simp -dsimp [hf]) c12 ?_
    refine aY ?_
    refine bI ?_
    refine aU ?_
    refine sr1 hn ?_
    simp -dsimp [hf]
    cases hm
    refine bC ?_
    exact EE.here (by simp -dsimp [hf])
 ·refine aV (by simp -dsimp) c3 ?_
  refine bp ?_
  refine b8 ?_
  cases hm
  refine bz nofun ?_
  exact⟨rfl,EE.here (by simp -dsimp [c3])⟩
theorem c_hood_Right (l:List Point) (r:Bool) (hm:jh l=some r):bg Tryz.prog 43 [.u (.one (dR2 l))] (vT r):=by
 refine dG Tryz.func43 Tryz.ntmps43 fun cx hn=>?_
 unfold jh at hm
 refine srs hn ?_
 simp -dsimp
 refine aZ ?_
 obtain⟨a,j15,hm⟩:=bnd hm
 refine scE [(0,.u (.one (dR2 l))),(12,vT a)] [] ?_ fun Z O hf=>?_
 ·replace hm:=j15
  clear j15
  refine sr1 hn ?_
  rcases bc hm with ⟨c1,hm⟩ | ⟨c1,hm⟩
  ·simp -dsimp [c1]
   cases hm
   exact EE.here (by simp -dsimp)
  ·simp -dsimp [c1]
   cases hm
   exact EE.here (by simp -dsimp)
 ·clear j15
  simp only[Fits,bv,bu,and_true] at hf
  rcases bc hm with ⟨c2,hm⟩ | ⟨c2,hm⟩
  ·refine aW (by simp -dsimp [hf]) c2 ?_
   refine srs hn ?_
   simp -dsimp
   refine b0 (b8 ?_)
   cases hm
   refine⟨.inr rfl,?_⟩
   exact EE.here (by simp -dsimp)
  ·refine aV (by simp -dsimp [hf]) c2 ?_
   refine aY (aU (aZ ?_))
   refine srs hn ?_
   simp -dsimp [hf]
   refine b7 ?_
   obtain⟨o_,g14,hm⟩:=bnd hm
   refine bP (l_hood_Right_1 cx hn l g14) (by
     try dsimp only
     exact EE.here (by simp -dsimp [hf])
   ) fun ee Z O xx=>?_
   rcases o_ with r | _u
   ·unfold gD at xx
    dsimp only at xx
    obtain⟨rfl,xx⟩:=xx
    refine cy (b8 ?_)
    cases hm
    exact⟨.inr rfl,xx⟩
   ·unfold gD at xx
    dsimp only at xx
    obtain⟨rfl,xx⟩:=xx
    refine br ?_
    refine aU ?_
    refine see xx fun Z O hf=>?_
    simp only[Fits,bv,bu,and_true] at hf
    refine srs hn ?_
    simp -dsimp
    cases hm
    exact b0 ⟨.inr rfl,EE.here (by simp -dsimp)⟩
def gF (cx:Cx) (t:Tree) (a1:Int) (_x:Node) (tt:Bool ⊕ Unit) (ee:Exit) (Z:Env) (O:Sto):Prop:=match tt with
 | .inl r=>ee=.ret/\EE cx (fun Z O=>∃ v,iR tb Z O Tryz.f17.results.toList=some v/\(v.frz O).free=true/\(v.frz O).wk (vT r)) Z O
 | .inr _u=>ee=.exit 2/\EE cx (bY [(1,vX 1),(47,.u (.one (dR1 t.Nodes))),(48,vI (b9 t.Nodes)),(49,vI a1)] [(1,.box [dI t.States,dR2 t.Hood,dR1 t.Nodes])]) Z O
theorem l_tree_Right_2 (cx:Cx) (hn:cx.n=117) (t:Tree) (a1:Int) (x:Node) {fu:Nat} {stt:Int} {tt:Bool ⊕ Unit} (hh:bh (gM t a1 x) fu stt=some tt) {Z:Env} {O:Sto}
  (hE:cw (fun a3:Int=>[(1,vX 1),(4,vI a1),(5,vX 5),(47,.u (.one (dR1 t.Nodes))),(48,vI (b9 t.Nodes)),(49,vI a1),(74,.u (.one (dL x.Next))),(75,vI (b9 x.Next)),(76,vI a3)]) (fun _a3:Int=>[(1,.box [dI t.States,dR2 t.Hood,dR1 t.Nodes]),(5,.box [dI x.Level,dL x.Next])]) stt Z O):Swp Tryz.prog cx (.loop (dx [1,1,1,0,1,0,0,1,1,0,0,1,1,1,0,0] (bQ Tryz.f17))) Z O (gF cx t a1 x tt):=by
 refine cz hE hh (gF cx t a1 x) ?_
 rintro a3 r hm Z O hf
 simp only[Fits,bv,bu,and_true] at hf
 unfold gM at hm
 dsimp only at hm
 refine srs hn ?_
 simp -dsimp [hf]
 refine aZ ?_
 rcases bc hm with ⟨c14,hm⟩ | ⟨c14,hm⟩
 ·refine aW (by simp -dsimp) c14 ?_
  refine aY (aU (aZ (b7 ?_)))
  refine srs hn ?_
  obtain⟨x1,h15,hm⟩:=bnd hm
  simp -dsimp [hf,c14,h15]
  obtain⟨a4,j26,hm⟩:=bnd hm
  refine scE [(1,vX 1),(4,vI a1),(5,vX 5),(47,.u (.one (dR1 t.Nodes))),(48,vI (b9 t.Nodes)),(49,vI a1),(74,.u (.one (dL x.Next))),(75,vI (b9 x.Next)),(76,vI a3),(114,vT a4)] [(1,.box [dI t.States,dR2 t.Hood,dR1 t.Nodes]),(5,.box [dI x.Level,dL x.Next])] ?_ fun Z O hf=>?_
  ·replace hm:=j26
   clear j26
   refine sw_qt bL mixed (by rw[hn]; kernel_rfl) ?_
   rcases bc hm with ⟨c16,hm⟩ | ⟨c16,hm⟩
   ·simp -dsimp [c16]
    cases hm
    exact EE.here (by simp -dsimp [hf])
   ·rcases bc hm with ⟨c17,hm⟩ | ⟨c17,hm⟩
    ·rcases bc hm with ⟨c18,hm⟩ | ⟨c18,hm⟩
     ·simp -dsimp [hf,c16,c17,c18]
      cases hm
      exact EE.here (by simp -dsimp [hf])
     ·rcases bc hm with ⟨c19,hm⟩ | ⟨c19,hm⟩
      ·rcases bc hm with ⟨c20,hm⟩ | ⟨c20,hm⟩
       ·simp -dsimp [hf,c16,c17,c18,c19,c20]
        cases hm
        exact EE.here (by simp -dsimp [hf])
       ·obtain⟨x2,h21,hm⟩:=bnd hm
        simp -dsimp [hf,c16,c17,c18,c19,c20,h21]
        cases hm
        exact EE.here (by simp -dsimp [hf])
      ·simp -dsimp [hf,c16,c17,c18,c19]
       cases hm
       exact EE.here (by simp -dsimp [hf])
    ·rcases bc hm with ⟨c22,hm⟩ | ⟨c22,hm⟩
     ·rcases bc hm with ⟨c23,hm⟩ | ⟨c23,hm⟩
      ·simp -dsimp [hf,c16,c17,c22,c23]
       cases hm
       exact EE.here (by simp -dsimp [hf])
      ·obtain⟨x2,h24,hm⟩:=bnd hm
       simp -dsimp [hf,c16,c17,c22,c23,h24]
       cases hm
       exact EE.here (by simp -dsimp [hf])
     ·simp -dsimp [hf,c16,c17,c22]
      cases hm
      exact EE.here (by simp -dsimp [hf])
  ·clear j26
   simp only[Fits,bv,bu,and_true] at hf
   rcases bc hm with ⟨c25,hm⟩ | ⟨c25,hm⟩
   ·refine aW (by simp -dsimp [hf]) c25 ?_
    refine srs hn ?_
    simp -dsimp
    refine b0 (cy (b8 ?_))
    cases hm
    refine bz nofun ?_
    exact⟨rfl,EE.here (by simp -dsimp [Tryz.results17])⟩
   ·refine aV (by simp -dsimp [hf]) c25 ?_
    refine aY ?_
    refine bI ?_
    refine aU ?_
    refine sr1 hn ?_
    simp -dsimp [hf]
    cases hm
    refine bC ?_
    exact EE.here (by simp -dsimp [hf])
 ·refine aV (by simp -dsimp) c14 ?_
  refine bp ?_
  refine b8 ?_
  cases hm
  refine bz nofun ?_
  exact⟨rfl,EE.here (by simp -dsimp [hf,c14])⟩
def fK (cx:Cx) (_t:Tree) (tt:Bool ⊕ Unit) (ee:Exit) (Z:Env) (O:Sto):Prop:=match tt with
 | .inl r=>ee=.ret/\EE cx (fun Z O=>∃ v,iR tb Z O Tryz.f17.results.toList=some v/\(v.frz O).free=true/\(v.frz O).wk (vT r)) Z O
 | .inr _u=>ee=.exit 0/\EE cx (bY [] []) Z O
theorem l_tree_Right_1 (cx:Cx) (hn:cx.n=117) (t:Tree) {fu:Nat} {stt:Int} {tt:Bool ⊕ Unit} (hh:bh (gA t) fu stt=some tt) {Z:Env} {O:Sto}
  (hE:cw (fun a1:Int=>[(1,vX 1),(47,.u (.one (dR1 t.Nodes))),(48,vI (b9 t.Nodes)),(49,vI a1)]) (fun _a1:Int=>[(1,.box [dI t.States,dR2 t.Hood,dR1 t.Nodes])]) stt Z O):Swp Tryz.prog cx (.loop (dx [1,1,1,0,1,0,0] (bQ Tryz.f17))) Z O (fK cx t tt):=by
 refine cz hE hh (fK cx t) ?_
 rintro a1 r hm Z O hf
 simp only[Fits,bv,bu,and_true] at hf
 unfold gA at hm
 dsimp only at hm
 refine srs hn ?_
 simp -dsimp [hf]
 refine aZ ?_
 rcases bc hm with ⟨c9,hm⟩ | ⟨c9,hm⟩
 ·refine aW (by simp -dsimp) c9 ?_
  refine aY (aU (aZ (b7 ?_)))
  refine srs hn ?_
  obtain⟨x,h10,hm⟩:=bnd hm
  simp -dsimp [hf,c9,h10]
  refine aZ ?_
  obtain⟨a2,j28,hm⟩:=bnd hm
  refine scE [(1,vX 1),(4,vI a1),(5,vX 5),(47,.u (.one (dR1 t.Nodes))),(48,vI (b9 t.Nodes)),(49,vI a1),(72,vT a2)] [(1,.box [dI t.States,dR2 t.Hood,dR1 t.Nodes]),(5,.box [dI x.Level,dL x.Next])] ?_ fun Z O hf=>?_
  ·replace hm:=j28
   clear j28
   refine sr1 hn ?_
   rcases bc hm with ⟨c11,hm⟩ | ⟨c11,hm⟩
   ·simp -dsimp [c11]
    cases hm
    exact EE.here (by simp -dsimp [hf])
   ·rcases bc hm with ⟨c12,hm⟩ | ⟨c12,hm⟩
    ·simp -dsimp [hf,c11,c12]
     cases hm
     exact EE.here (by simp -dsimp [hf])
    ·simp -dsimp [hf,c11,c12]
     cases hm
     exact EE.here (by simp -dsimp [hf])
  ·clear j28
   simp only[Fits,bv,bu,and_true] at hf
   rcases bc hm with ⟨c13,hm⟩ | ⟨c13,hm⟩
   ·refine aW (by simp -dsimp [hf]) c13 ?_
    refine srs hn ?_
    simp -dsimp
    refine b0 (b8 (cy (b8 ?_)))
    cases hm
    refine bz nofun ?_
    exact⟨rfl,EE.here (by simp -dsimp [Tryz.results17])⟩
   ·refine aV (by simp -dsimp [hf]) c13 ?_
    refine aY (aU ?_)
    refine srs hn ?_
    simp -dsimp [hf]
    refine b7 ?_
    obtain⟨o_,g27,hm⟩:=bnd hm
    refine bP (l_tree_Right_2 cx hn t a1 x g27) (by
      try dsimp only
      exact EE.here (by simp -dsimp [hf])
    ) fun ee Z O xx=>?_
    rcases o_ with r | _u
    ·unfold gF at xx
     dsimp only at xx
     obtain⟨rfl,xx⟩:=xx
     refine cy (cy (b8 ?_))
     cases hm
     refine bz nofun ?_
     unfold fK
     dsimp only
     refine⟨rfl,?_⟩
     exact xx
    ·unfold gF at xx
     dsimp only at xx
     obtain⟨rfl,xx⟩:=xx
     refine br ?_
     refine bI ?_
     refine aU ?_
     refine see xx fun Z O hf=>?_
     simp only[Fits,bv,bu,and_true] at hf
     refine sr1 hn ?_
     simp -dsimp [hf]
     cases hm
     refine bC ?_
     exact EE.here (by simp -dsimp [hf])
 ·refine aV (by simp -dsimp) c9 ?_
  refine bp ?_
  refine b8 ?_
  cases hm
  refine bz nofun ?_
  exact⟨rfl,EE.here (by simp -dsimp [c9])⟩
theorem lV (t:Tree) (r:Bool) (hm:gh t=some r):bg Tryz.prog 17 [.u (.agg [dI t.States,dR2 t.Hood,dR1 t.Nodes])] (vT r):=by
 refine dG Tryz.func17 Tryz.ntmps17 fun cx hn=>?_
 unfold gh at hm
 refine srs hn ?_
 simp -dsimp
 refine srs hn ?_
 simp -dsimp
 refine aZ ?_
 obtain⟨a,j30,hm⟩:=bnd hm
 refine scE [(1,vX 1),(45,vT a)] [(1,.box [dI t.States,dR2 t.Hood,dR1 t.Nodes])] ?_ fun Z O hf=>?_
 ·replace hm:=j30
  clear j30
  refine sw_qt bL mixed (by rw[hn]; kernel_rfl) ?_
  rcases bc hm with ⟨c1,hm⟩ | ⟨c1,hm⟩
  ·simp -dsimp [c1]
   cases hm
   exact EE.here (by simp -dsimp)
  ·rcases bc hm with ⟨c2,hm⟩ | ⟨c2,hm⟩
   ·simp -dsimp [c1,c2]
    cases hm
    exact EE.here (by simp -dsimp)
   ·obtain⟨y,h3,hm⟩:=bnd hm
    simp -dsimp [c1,c2]
    refine bn (c_hood_Right t.Hood y h3) ?_
    rcases bc hm with ⟨c4,hm⟩ | ⟨c4,hm⟩
    ·simp -dsimp [c4]
     cases hm
     exact EE.here (by simp -dsimp)
    ·rcases bc hm with ⟨c5,hm⟩ | ⟨c5,hm⟩
     ·simp -dsimp [c4,c5]
      cases hm
      exact EE.here (by simp -dsimp)
     ·rcases bc hm with ⟨c6,hm⟩ | ⟨c6,hm⟩
      ·simp -dsimp [c4,c5,c6]
       cases hm
       exact EE.here (by simp -dsimp)
      ·obtain⟨x,h7,hm⟩:=bnd hm
       simp -dsimp [c4,c5,c6,h7]
       cases hm
       exact EE.here (by simp -dsimp)
 ·clear j30
  simp only[Fits,bv,bu,and_true] at hf
  rcases bc hm with ⟨c8,hm⟩ | ⟨c8,hm⟩
  ·refine aW (by simp -dsimp [hf]) c8 ?_
   refine srs hn ?_
   simp -dsimp
   refine b0 (b8 ?_)
   cases hm
   refine⟨.inr rfl,?_⟩
   exact EE.here (by simp -dsimp)
  ·refine aV (by simp -dsimp [hf]) c8 ?_
   refine aY (aU (aZ ?_))
   refine srs hn ?_
   simp -dsimp [hf]
   refine b7 ?_
   obtain⟨o_,g29,hm⟩:=bnd hm
   refine bP (l_tree_Right_1 cx hn t g29) (by
     try dsimp only
     exact EE.here (by simp -dsimp [hf])
   ) fun ee Z O xx=>?_
   rcases o_ with r | _u
   ·unfold fK at xx
    dsimp only at xx
    obtain⟨rfl,xx⟩:=xx
    refine cy (b8 ?_)
    cases hm
    exact⟨.inr rfl,xx⟩
   ·unfold fK at xx
    dsimp only at xx
    obtain⟨rfl,xx⟩:=xx
    refine br ?_
    refine aU ?_
    refine see xx fun Z O hf=>?_
    simp only[Fits,bv,bu,and_true] at hf
    refine srs hn ?_
    simp -dsimp
    cases hm
    exact b0 ⟨.inr rfl,EE.here (by simp -dsimp)⟩
def kl (cx:Cx) (_t:Tree) (_in_:List Int) (tt:Int) (ee:Exit) (Z:Env) (O:Sto):Prop:=match tt with
 | k=>ee=.exit 0/\EE cx (bY [(5,vI k)] []) Z O
theorem l_tree_value_1 (cx:Cx) (hn:cx.n=29) (t:Tree) (in_:List Int) {fu:Nat} {stt:Int×Int} {tt:Int} (hh:bh (mi t in_) fu stt=some tt) {Z:Env} {O:Sto}
  (hE:cw (fun stt:Int×Int=>match stt with | (k,a)=>[(2,vX 2),(5,vI k),(12,.u (.one (dL in_))),(13,vI (b9 in_)),(14,vI a)]) (fun stt:Int×Int=>match stt with | (_k,_a)=>[(2,.box [dI t.States,dR2 t.Hood,dR1 t.Nodes])]) stt Z O):Swp Tryz.prog cx (.loop (dx [1,1,0,1,0,0] (bQ Tryz.f90))) Z O (kl cx t in_ tt):=by
 refine cz hE hh (kl cx t in_) ?_
 rintro⟨k,a⟩ r hm Z O hf
 simp only[Fits,bv,bu,and_true] at hf
 unfold mi at hm
 dsimp only at hm
 refine srs hn ?_
 simp -dsimp [hf]
 refine aZ ?_
 rcases bc hm with ⟨c1,hm⟩ | ⟨c1,hm⟩
 ·refine aW (by simp -dsimp) c1 ?_
  refine aY (aU (aZ (b7 ?_)))
  refine srs hn ?_
  obtain⟨x,h2,hm⟩:=bnd hm
  simp -dsimp [hf,c1,h2]
  refine sr1 hn ?_
  obtain⟨x1,h3,hm⟩:=bnd hm
  obtain⟨x2,h4,hm⟩:=bnd hm
  simp -dsimp [hf,h3,h4]
  refine bI ?_
  refine aU ?_
  refine sr1 hn ?_
  simp -dsimp [hf]
  cases hm
  refine bC ?_
  exact EE.here (by simp -dsimp [hf])
 ·refine aV (by simp -dsimp) c1 ?_
  refine bp ?_
  refine b8 ?_
  cases hm
  refine bz nofun ?_
  exact⟨rfl,EE.here (by simp -dsimp [hf,c1])⟩
theorem c_tree_value (t:Tree) (in_:List Int) (r:Int) (hm:oy t in_=some r):bg Tryz.prog 90 [.u (.agg [dI t.States,dR2 t.Hood,dR1 t.Nodes]),.u (.one (dL in_))] (vI r):=by
 refine dG Tryz.func90 Tryz.ntmps90 fun cx hn=>?_
 unfold oy at hm
 refine srs hn ?_
 simp -dsimp
 refine srs hn ?_
 simp -dsimp
 refine aZ ?_
 refine srs hn ?_
 simp -dsimp
 refine b7 ?_
 obtain⟨k,g5,hm⟩:=bnd hm
 refine bP (l_tree_value_1 cx hn t in_ g5) (by
   try dsimp only
   exact eeh
 ) fun ee Z O xx=>?_
 unfold kl at xx
 dsimp only at xx
 obtain⟨rfl,xx⟩:=xx
 refine br ?_
 refine aU ?_
 refine see xx fun Z O hf=>?_
 simp only[Fits,bv,bu,and_true] at hf
 refine srs hn ?_
 simp -dsimp [hf]
 cases hm
 exact b0 ⟨.inr rfl,EE.here (by simp -dsimp)⟩
theorem c_tree_Quiet (t:Tree) (r:Bool) (hm:oo t=some r):bg Tryz.prog 82 [.u (.agg [dI t.States,dR2 t.Hood,dR1 t.Nodes])] (vT r):=by
 refine dG Tryz.func82 Tryz.ntmps82 fun cx hn=>?_
 unfold oo at hm
 refine srs hn ?_
 simp -dsimp
 obtain⟨a,j5,hm⟩:=bnd hm
 refine scE [(2,vT a)] [] ?_ fun Z O hf=>?_
 ·replace hm:=j5
  clear j5
  refine sw_midc bL mixed 7 8 8 0 [[3]] [[10]] [] none (by rw[hn]; kernel_rfl) fb ?_
  dsimp only [List.take,List.drop,gL,gU,jx,pk,List.cons_append,List.nil_append,List.flatten_cons,List.flatten_nil,eJ,eK,List.append_nil]
  obtain⟨y,h1,hm⟩:=bnd hm
  simp -dsimp
  refine bn (lV t y h1) ?_
  rcases bc hm with ⟨c2,hm⟩ | ⟨c2,hm⟩
  ·obtain⟨l,h3,hm⟩:=bnd hm
   obtain⟨⟨h3a,h3b,h3c⟩,rfl⟩:=mkL_some h3
   obtain⟨y1,h4,hm⟩:=bnd hm
   simp -dsimp [c2,h3a,h3c]
   refine m8 (us':=[.u (.agg [dI t.States,dR2 t.Hood,dR1 t.Nodes]),.u (.one (dL (List.replicate (b9 t.Hood).toNat 0)))]) (c_tree_value t (List.replicate (b9 t.Hood).toNat 0) y1 h4) (by simp -dsimp) rfl (dkL hn) ?_
   simp -dsimp
   cases hm
   exact EE.here (by simp -dsimp)
  ·simp -dsimp [c2]
   cases hm
   exact EE.here (by simp -dsimp)
 ·clear j5
  simp only[Fits,bv,bu,and_true] at hf
  cases hm
  exact b0 ⟨.inr rfl,EE.here (by simp -dsimp [hf])⟩
theorem oK (cv:Cell) (r:Point) (hm:kj cv=some r):bg Tryz.prog 59 [.u (.agg [dI cv.X,dI cv.Y,dI cv.S])] (.u (.agg [dI r.X,dI r.Y])):=by
 refine dG Tryz.func59 Tryz.ntmps59 fun cx hn=>?_
 unfold kj at hm
 refine srs hn ?_
 simp -dsimp
 refine srs hn ?_
 simp -dsimp
 cases hm
 exact b0 ⟨.inr rfl,EE.here (by simp -dsimp)⟩
theorem c_pattern_placed (p:Point) (r:Bool) (hm:kN p=some r):bg Tryz.prog 58 [.u (.agg [dI p.X,dI p.Y])] (vT r):=by
 refine dG Tryz.func58 Tryz.ntmps58 fun cx hn=>?_
 unfold kN at hm
 refine srs hn ?_
 simp -dsimp
 obtain⟨a,j2,hm⟩:=bnd hm
 refine scE [(2,vT a)] [] ?_ fun Z O hf=>?_
 ·replace hm:=j2
  clear j2
  refine sr1 hn ?_
  rcases bc hm with ⟨c1,hm⟩ | ⟨c1,hm⟩
  ·simp -dsimp [c1]
   cases hm
   exact EE.here (by simp -dsimp)
  ·simp -dsimp [c1]
   cases hm
   exact EE.here (by simp -dsimp)
 ·clear j2
  simp only[Fits,bv,bu,and_true] at hf
  cases hm
  exact b0 ⟨.inr rfl,EE.here (by simp -dsimp [hf])⟩
theorem c_pattern_order (a b:Cell) (r:Int) (hm:lC a b=some r):bg Tryz.prog 60 [.u (.agg [dI a.X,dI a.Y,dI a.S]),.u (.agg [dI b.X,dI b.Y,dI b.S])] (vI r):=by
 refine dG Tryz.func60 Tryz.ntmps60 fun cx hn=>?_
 unfold lC at hm
 refine srs hn ?_
 simp -dsimp
 refine fQ bL mixed (by rw[hn]; kernel_rfl) ?_
 obtain⟨y,h1,hm⟩:=bnd hm
 simp -dsimp
 refine bn (oK a y h1) ?_
 obtain⟨y1,h2,hm⟩:=bnd hm
 simp -dsimp
 refine bn (oK b y1 h2) ?_
 obtain⟨y2,h3,hm⟩:=bnd hm
 simp -dsimp
 refine bn (c_point_Compare y y1 y2 h3) ?_
 simp -dsimp
 cases hm
 exact b0 ⟨.inr rfl,EE.here (by simp -dsimp)⟩
def eW (cx:Cx) (_p:List Cell) (tt:Bool ⊕ Unit) (ee:Exit) (Z:Env) (O:Sto):Prop:=match tt with
 | .inl r=>ee=.ret/\EE cx (fun Z O=>∃ v,iR tb Z O Tryz.f36.results.toList=some v/\(v.frz O).free=true/\(v.frz O).wk (vT r)) Z O
 | .inr _u=>ee=.exit 0/\EE cx (bY [] []) Z O
theorem l_pattern_Right_1 (cx:Cx) (hn:cx.n=44) (p:List Cell) {fu:Nat} {stt:Int} {tt:Bool ⊕ Unit} (hh:bh (kc p) fu stt=some tt) {Z:Env} {O:Sto}
  (hE:cw (fun a:Int=>[(0,.u (.one (dR0 p))),(8,.u (.one (dR0 p))),(9,vI (b9 p)),(10,vI a)]) (fun _a:Int=>[]) stt Z O):Swp Tryz.prog cx (.loop (dx [1,1,0,1,0,0] (bQ Tryz.f36))) Z O (eW cx p tt):=by
 refine cz hE hh (eW cx p) ?_
 rintro a r hm Z O hf
 simp only[Fits,bv,bu,and_true] at hf
 unfold kc at hm
 dsimp only at hm
 refine srs hn ?_
 simp -dsimp [hf]
 refine aZ ?_
 rcases bc hm with ⟨c2,hm⟩ | ⟨c2,hm⟩
 ·refine aW (by simp -dsimp) c2 ?_
  refine aY (aU (aZ (b7 ?_)))
  refine srs hn ?_
  obtain⟨x,h3,hm⟩:=bnd hm
  simp -dsimp [hf,c2,h3]
  obtain⟨a1,j13,hm⟩:=bnd hm
  refine scE [(0,.u (.one (dR0 p))),(8,.u (.one (dR0 p))),(9,vI (b9 p)),(10,vI a),(42,vT a1)] [] ?_ fun Z O hf=>?_
  ·replace hm:=j13
   clear j13
   refine sw_qt bL mixed (by rw[hn]; kernel_rfl) ?_
   obtain⟨y,h4,hm⟩:=bnd hm
   simp -dsimp
   refine bn (oK x y h4) ?_
   obtain⟨y1,h5,hm⟩:=bnd hm
   simp -dsimp
   refine bn (c_pattern_placed y y1 h5) ?_
   rcases bc hm with ⟨c6,hm⟩ | ⟨c6,hm⟩
   ·simp -dsimp [c6]
    cases hm
    exact EE.here (by simp -dsimp [hf])
   ·rcases bc hm with ⟨c7,hm⟩ | ⟨c7,hm⟩
    ·simp -dsimp [c6,c7]
     cases hm
     exact EE.here (by simp -dsimp [hf])
    ·rcases bc hm with ⟨c8,hm⟩ | ⟨c8,hm⟩
     ·simp -dsimp [c6,c7,c8]
      cases hm
      exact EE.here (by simp -dsimp [hf])
     ·rcases bc hm with ⟨c9,hm⟩ | ⟨c9,hm⟩
      ·obtain⟨x1,h10,hm⟩:=bnd hm
       obtain⟨y2,h11,hm⟩:=bnd hm
       simp -dsimp [hf,c6,c7,c8,c9,h10]
       refine bn (c_pattern_order x1 x y2 h11) ?_
       simp -dsimp
       cases hm
       exact EE.here (by simp -dsimp [hf])
      ·simp -dsimp [c6,c7,c8,c9]
       cases hm
       exact EE.here (by simp -dsimp [hf])
  ·clear j13
   simp only[Fits,bv,bu,and_true] at hf
   rcases bc hm with ⟨c12,hm⟩ | ⟨c12,hm⟩
   ·refine aW (by simp -dsimp [hf]) c12 ?_
    refine srs hn ?_
    simp -dsimp
    refine b0 (cy (b8 ?_))
    cases hm
    refine bz nofun ?_
    exact⟨rfl,EE.here (by simp -dsimp [Tryz.results36])⟩
   ·refine aV (by simp -dsimp [hf]) c12 ?_
    refine aY ?_
    refine bI ?_
    refine aU ?_
    refine sr1 hn ?_
    simp -dsimp [hf]
    cases hm
    refine bC ?_
    exact EE.here (by simp -dsimp [hf])
 ·refine aV (by simp -dsimp) c2 ?_
  refine bp ?_
  refine b8 ?_
  cases hm
  refine bz nofun ?_
  exact⟨rfl,EE.here (by simp -dsimp [c2])⟩
theorem c_pattern_Right (p:List Cell) (r:Bool) (hm:jE p=some r):bg Tryz.prog 36 [.u (.one (dR0 p))] (vT r):=by
 refine dG Tryz.func36 Tryz.ntmps36 fun cx hn=>?_
 unfold jE at hm
 refine srs hn ?_
 simp -dsimp
 refine aZ ?_
 refine srs hn ?_
 simp -dsimp
 rcases bc hm with ⟨c1,hm⟩ | ⟨c1,hm⟩
 ·refine sct c1 ?_
  refine srs hn ?_
  simp -dsimp [c1]
  refine b0 (b8 ?_)
  cases hm
  refine⟨.inr rfl,?_⟩
  exact EE.here (by simp -dsimp)
 ·refine scf c1 ?_
  refine aY (aU (aZ ?_))
  refine srs hn ?_
  simp -dsimp [c1]
  refine b7 ?_
  obtain⟨o_,g14,hm⟩:=bnd hm
  refine bP (l_pattern_Right_1 cx hn p g14) (by
    try dsimp only
    exact EE.here (by simp -dsimp)
  ) fun ee Z O xx=>?_
  rcases o_ with r | _u
  ·unfold eW at xx
   dsimp only at xx
   obtain⟨rfl,xx⟩:=xx
   refine cy (b8 ?_)
   cases hm
   exact⟨.inr rfl,xx⟩
  ·unfold eW at xx
   dsimp only at xx
   obtain⟨rfl,xx⟩:=xx
   refine br ?_
   refine aU ?_
   refine see xx fun Z O hf=>?_
   simp only[Fits,bv,bu,and_true] at hf
   refine srs hn ?_
   simp -dsimp
   cases hm
   exact b0 ⟨.inr rfl,EE.here (by simp -dsimp)⟩
end Go.Proofs.YtlifofijgddjkacGreatDoor
