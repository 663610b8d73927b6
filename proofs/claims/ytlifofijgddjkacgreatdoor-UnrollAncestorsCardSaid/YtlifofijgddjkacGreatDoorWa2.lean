/- That the code does what the functions say (made by cc.py). -/
import Derived.Test.YtlifofijgddjkacGreatDoorWa1
import Derived.Test.YtlifofijgddjkacGreatDoorLays
namespace Go.Proofs.YtlifofijgddjkacGreatDoor
open Go.AM Go.Proofs
set_option maxRecDepth 100000
attribute [-simp] eR fS jn Ob.wipe Ob.ren Ob.frz1
def jF (cx:Cx) (_p:List Cell) (tt:Int) (ee:Exit) (Z:Env) (O:Sto):Prop:=match tt with
 | n=>ee=.exit 0/\EE cx (bY [(3,vI n)] []) Z O
theorem l_pattern_Top_1 (cx:Cx) (hn:cx.n=19) (p:List Cell) {fu:Nat} {stt:Int×Int} {tt:Int} (hh:bh (lv p) fu stt=some tt) {Z:Env} {O:Sto}
  (hE:cw (fun stt:Int×Int=>match stt with | (n,a)=>[(0,.u (.one (dR0 p))),(3,vI n),(6,vI (b9 p)),(7,vI a)]) (fun stt:Int×Int=>match stt with | (_n,_a)=>[]) stt Z O):Swp Tryz.prog cx (.loop (dx [1,1,0,1,0,0] (bQ Tryz.f39))) Z O (jF cx p tt):=by
 refine cz hE hh (jF cx p) ?_
 rintro⟨n,a⟩ r hm Z O hf
 simp only[Fits,bv,bu,and_true] at hf
 unfold lv at hm
 dsimp only at hm
 refine srs hn ?_
 simp -dsimp [hf]
 refine aZ ?_
 rcases bc hm with ⟨c1,hm⟩ | ⟨c1,hm⟩
 ·refine aW (by simp -dsimp) c1 ?_
  refine aY (aU (aZ (b7 ?_)))
  refine srs hn ?_
  simp -dsimp [hf,c1]
  refine sr1 hn ?_
  obtain⟨x,h2,hm⟩:=bnd hm
  simp -dsimp [hf,h2]
  refine bI ?_
  refine aU ?_
  refine sr1 hn ?_
  simp -dsimp [hf]
  cases hm
  refine bC ?_
  exact EE.here (by simp -dsimp [hf])
 ·refine aV (by simp -dsimp) c1 ?_
  refine bp ?_
  refine b8 ?_
  cases hm
  refine bz nofun ?_
  exact⟨rfl,EE.here (by simp -dsimp [hf,c1])⟩
theorem c_pattern_Top (p:List Cell) (r:Int) (hm:kQ p=some r):bg Tryz.prog 39 [.u (.one (dR0 p))] (vI r):=by
 refine dG Tryz.func39 Tryz.ntmps39 fun cx hn=>?_
 unfold kQ at hm
 refine srs hn ?_
 simp -dsimp
 refine srs hn ?_
 simp -dsimp
 refine aZ ?_
 refine srs hn ?_
 simp -dsimp
 refine b7 ?_
 obtain⟨n,g3,hm⟩:=bnd hm
 refine bP (l_pattern_Top_1 cx hn p g3) (by
   try dsimp only
   exact eeh
 ) fun ee Z O xx=>?_
 unfold jF at xx
 dsimp only at xx
 obtain⟨rfl,xx⟩:=xx
 refine br ?_
 refine aU ?_
 refine see xx fun Z O hf=>?_
 simp only[Fits,bv,bu,and_true] at hf
 refine srs hn ?_
 simp -dsimp [hf]
 cases hm
 exact b0 ⟨.inr rfl,EE.here (by simp -dsimp)⟩
theorem c_direct_check (t:Tree) (p:List Cell) (r:Int) (hm:ma t p=some r):bg Tryz.prog 71 [.u (.agg [dI t.States,dR2 t.Hood,dR1 t.Nodes]),.u (.one (dR0 p))] (vI r):=by
 refine dG Tryz.func71 Tryz.ntmps71 fun cx hn=>?_
 unfold ma at hm
 refine srs hn ?_
 simp -dsimp
 refine aZ (b7 ?_)
 refine srs hn ?_
 obtain⟨y,h1,hm⟩:=bnd hm
 simp -dsimp
 refine bi (c_tree_Quiet t y h1) (dkL hn) ?_
 simp -dsimp
 rcases bc hm with ⟨c2,hm⟩ | ⟨c2,hm⟩
 ·refine aW (by simp -dsimp) c2 ?_
  refine srs hn ?_
  simp -dsimp [c2]
  refine b0 (cy (b8 ?_))
  cases hm
  refine⟨.inr rfl,?_⟩
  exact EE.here (by simp -dsimp)
 ·refine aV (by simp -dsimp) c2 ?_
  refine srs hn ?_
  obtain⟨y1,h3,hm⟩:=bnd hm
  simp -dsimp [c2]
  refine bi (c_pattern_Right p y1 h3) (dkL hn) ?_
  simp -dsimp
  rcases bc hm with ⟨c4,hm⟩ | ⟨c4,hm⟩
  ·refine aW (by simp -dsimp) c4 ?_
   refine srs hn ?_
   simp -dsimp [c4]
   refine b0 (cy (b8 ?_))
   cases hm
   refine⟨.inr rfl,?_⟩
   exact EE.here (by simp -dsimp)
  ·refine aV (by simp -dsimp) c4 ?_
   refine fQ bL mixed (by rw[hn]; kernel_rfl) ?_
   obtain⟨y2,h5,hm⟩:=bnd hm
   simp -dsimp [c4]
   refine bn (c_pattern_Top p y2 h5) ?_
   simp -dsimp
   rcases bc hm with ⟨c6,hm⟩ | ⟨c6,hm⟩
   ·refine aW (by simp -dsimp) c6 ?_
    refine srs hn ?_
    simp -dsimp [c6]
    refine b0 (cy (b8 ?_))
    cases hm
    refine⟨.inr rfl,?_⟩
    exact EE.here (by simp -dsimp)
   ·refine aV (by simp -dsimp) c6 ?_
    refine aY ?_
    refine bI ?_
    refine aU ?_
    refine srs hn ?_
    simp -dsimp [c6]
    cases hm
    exact b0 ⟨.inr rfl,EE.here (by simp -dsimp)⟩
def k7 (cx:Cx) (_t:Tree) (p:List Cell) (_n:Int) (tt:Unit) (ee:Exit) (Z:Env) (O:Sto):Prop:=match tt with
 | _u=>ee=.exit 0/\EE cx (bY [(1,.u (.one (dR0 p)))] []) Z O
theorem l_direct_Run_1 (cx:Cx) (hn:cx.n=38) (t:Tree) (p:List Cell) (n:Int) {fu:Nat} {stt:Unit} {tt:Unit} (hh:bh (mB t p n) fu stt=some tt) {Z:Env} {O:Sto}
  (hE:cw (fun _u:Unit=>[(1,.u (.one (dR0 p))),(3,vX 3),(23,vI n),(24,vI 0)]) (fun _u:Unit=>[(3,.box [dI t.States,dR2 t.Hood,dR1 t.Nodes])]) stt Z O):Swp Tryz.prog cx (.loop (dx [1,1,1,0,1,0,0] (bQ Tryz.f53))) Z O (k7 cx t p n tt):=by
 refine cz hE hh (k7 cx t p n) ?_
 rintro _u r hm Z O hf
 simp only[Fits,bv,bu,and_true] at hf
 unfold mB at hm
 dsimp only at hm
 refine srs hn ?_
 simp -dsimp [hf]
 refine aZ ?_
 rcases bc hm with ⟨c5,hm⟩ | ⟨c5,hm⟩
 ·refine aW (by simp -dsimp) c5 ?_
  refine aY (aU (aZ (b7 ?_)))
  refine srs hn ?_
  cases hm
 ·refine aV (by simp -dsimp) c5 ?_
  refine bp ?_
  refine b8 ?_
  cases hm
  refine bz nofun ?_
  exact⟨rfl,EE.here (by simp -dsimp [hf,c5])⟩
theorem c_direct_Run (t:Tree) (p:List Cell) (n:Int) (r:(List Cell)×Int) (hm:oQ t p n=some r):bg Tryz.prog 53 [.u (.agg [dI t.States,dR2 t.Hood,dR1 t.Nodes]),.u (.one (dR0 p)),vI n] (.tup [.one (dR0 r.1),.one (dI r.2)]):=by
 refine dG Tryz.func53 Tryz.ntmps53 fun cx hn=>?_
 unfold oQ at hm
 refine srs hn ?_
 simp -dsimp
 refine aZ ?_
 refine srs hn ?_
 obtain⟨y,h1,hm⟩:=bnd hm
 simp -dsimp
 refine bi (c_direct_check t p y h1) (dkL hn) ?_
 simp -dsimp
 refine srs hn ?_
 simp -dsimp
 rcases bc hm with ⟨c2,hm⟩ | ⟨c2,hm⟩
 ·refine aW (by simp -dsimp) c2 ?_
  refine srs hn ?_
  simp -dsimp [c2]
  refine b0 (b8 ?_)
  cases hm
  refine⟨.inr rfl,?_⟩
  exact EE.here (by simp -dsimp)
 ·refine aV (by simp -dsimp) c2 ?_
  refine aY (aU (aZ ?_))
  obtain⟨a,j7,hm⟩:=bnd hm
  refine scE [(1,.u (.one (dR0 p))),(2,vI n),(3,vX 3),(22,vT a)] [(3,.box [dI t.States,dR2 t.Hood,dR1 t.Nodes])] ?_ fun Z O hf=>?_
  ·replace hm:=j7
   clear j7
   refine sr1 hn ?_
   rcases bc hm with ⟨c3,hm⟩ | ⟨c3,hm⟩
   ·simp -dsimp [c2,c3]
    cases hm
    exact EE.here (by simp -dsimp)
   ·simp -dsimp [c2,c3]
    cases hm
    exact EE.here (by simp -dsimp)
  ·clear j7
   simp only[Fits,bv,bu,and_true] at hf
   rcases bc hm with ⟨c4,hm⟩ | ⟨c4,hm⟩
   ·refine aW (by simp -dsimp [hf]) c4 ?_
    refine srs hn ?_
    simp -dsimp
    refine b0 (b8 ?_)
    cases hm
    refine⟨.inr rfl,?_⟩
    exact EE.here (by simp -dsimp)
   ·refine aV (by simp -dsimp [hf]) c4 ?_
    refine aY (aU (aZ ?_))
    refine srs hn ?_
    simp -dsimp [hf]
    refine b7 ?_
    obtain⟨_u,g6,hm⟩:=bnd hm
    refine bP (l_direct_Run_1 cx hn t p n g6) (by
      try dsimp only
      exact EE.here (by simp -dsimp [hf])
    ) fun ee Z O xx=>?_
    unfold k7 at xx
    dsimp only at xx
    obtain⟨rfl,xx⟩:=xx
    refine br ?_
    refine aU ?_
    refine see xx fun Z O hf=>?_
    simp only[Fits,bv,bu,and_true] at hf
    refine srs hn ?_
    simp -dsimp [hf]
    cases hm
    exact b0 ⟨.inr rfl,EE.here (by simp -dsimp)⟩
def fE (cx:Cx) (_x:B8) (tt:Bool ⊕ Unit) (ee:Exit) (Z:Env) (O:Sto):Prop:=match tt with
 | .inl r=>ee=.ret/\EE cx (fun Z O=>∃ v,iR tb Z O Tryz.f73.results.toList=some v/\(v.frz O).free=true/\(v.frz O).wk (vT r)) Z O
 | .inr _u=>ee=.exit 0/\EE cx (bY [] []) Z O
theorem l_problem_fits_1 (cx:Cx) (hn:cx.n=39) (x:B8) {fu:Nat} {stt:Int×(List Bool)} {tt:Bool ⊕ Unit} (hh:bh (kJ x) fu stt=some tt) {Z:Env} {O:Sto}
  (hE:cw (fun stt:Int×(List Bool)=>match stt with | (a,_seen)=>[(1,vX 1),(3,vX 3),(7,.u (.one (dL x.Syms))),(8,vI (b9 x.Syms)),(9,vI a)]) (fun stt:Int×(List Bool)=>match stt with | (_a,seen)=>[(1,.box [dI x.W,dI x.H,dI x.Gens,dI x.DX,dI x.DY,dL x.Syms]),(3,.box (List.map cB seen))]) stt Z O):Swp Tryz.prog cx (.loop (dx [1,1,0,1,0,0] (bQ Tryz.f73))) Z O (fE cx x tt):=by
 refine cz hE hh (fE cx x) ?_
 rintro⟨a,seen⟩ r hm Z O hf
 simp only[Fits,bv,bu,and_true] at hf
 unfold kJ at hm
 dsimp only at hm
 refine srs hn ?_
 simp -dsimp [hf]
 refine aZ ?_
 rcases bc hm with ⟨c1,hm⟩ | ⟨c1,hm⟩
 ·refine aW (by simp -dsimp) c1 ?_
  refine aY (aU (aZ (b7 ?_)))
  refine srs hn ?_
  obtain⟨x1,h2,hm⟩:=bnd hm
  simp -dsimp [hf,c1,h2]
  refine aZ ?_
  obtain⟨a1,j11,hm⟩:=bnd hm
  refine scE [(1,vX 1),(3,vX 3),(5,vI x1),(7,.u (.one (dL x.Syms))),(8,vI (b9 x.Syms)),(9,vI a),(35,vT a1)] [(1,.box [dI x.W,dI x.H,dI x.Gens,dI x.DX,dI x.DY,dL x.Syms]),(3,.box (List.map cB seen))] ?_ fun Z O hf=>?_
  ·replace hm:=j11
   clear j11
   refine sr1 hn ?_
   rcases bc hm with ⟨c3,hm⟩ | ⟨c3,hm⟩
   ·simp -dsimp [c3]
    cases hm
    exact EE.here (by simp -dsimp [hf])
   ·rcases bc hm with ⟨c4,hm⟩ | ⟨c4,hm⟩
    ·simp -dsimp [c3,c4]
     cases hm
     exact EE.here (by simp -dsimp [hf])
    ·obtain⟨x2,h5,hm⟩:=bnd hm
     rcases bc hm with ⟨c6,hm⟩ | ⟨c6,hm⟩
     ·simp -dsimp [hf,c3,c4,mY h5,o7 h5,c6]
      cases hm
      exact EE.here (by simp -dsimp [hf])
     ·obtain⟨n,h7,hm⟩:=bnd hm
      rcases bc hm with ⟨c8,hm⟩ | ⟨c8,hm⟩
      ·simp -dsimp [hf,c3,c4,mY h5,o7 h5,c6,h7,c8]
       cases hm
       exact EE.here (by simp -dsimp [hf])
      ·simp -dsimp [hf,c3,c4,mY h5,o7 h5,c6,h7,c8]
       cases hm
       exact EE.here (by simp -dsimp [hf])
  ·clear j11
   simp only[Fits,bv,bu,and_true] at hf
   rcases bc hm with ⟨c9,hm⟩ | ⟨c9,hm⟩
   ·refine aW (by simp -dsimp [hf]) c9 ?_
    refine srs hn ?_
    simp -dsimp
    refine b0 (b8 (cy (b8 ?_)))
    cases hm
    refine bz nofun ?_
    exact⟨rfl,EE.here (by simp -dsimp [Tryz.results73])⟩
   ·refine aV (by simp -dsimp [hf]) c9 ?_
    refine aY (aU ?_)
    refine sr1 hn ?_
    obtain⟨x2,h10,hm⟩:=bnd hm
    simp -dsimp [hf,mY h10,aidx_lt2 h10,asetB h10 true]
    refine bI ?_
    refine aU ?_
    refine sr1 hn ?_
    simp -dsimp [hf]
    cases hm
    refine bC ?_
    exact EE.here (by simp -dsimp [hf])
 ·refine aV (by simp -dsimp) c1 ?_
  refine bp ?_
  refine b8 ?_
  cases hm
  refine bz nofun ?_
  exact⟨rfl,EE.here (by simp -dsimp [c1])⟩
theorem c_problem_fits (x:B8) (r:Bool) (hm:mt x=some r):bg Tryz.prog 73 [.u (.agg [dI x.W,dI x.H,dI x.Gens,dI x.DX,dI x.DY,dL x.Syms])] (vT r):=by
 refine dG Tryz.func73 Tryz.ntmps73 fun cx hn=>?_
 unfold mt at hm
 refine srs hn ?_
 simp -dsimp
 refine srs hn ?_
 simp -dsimp
 refine aZ ?_
 refine srs hn ?_
 simp -dsimp
 refine b7 ?_
 obtain⟨o_,g12,hm⟩:=bnd hm
 refine bP (l_problem_fits_1 cx hn x g12) (by
   try dsimp only
   exact eeh
 ) fun ee Z O xx=>?_
 rcases o_ with r | _u
 ·unfold fE at xx
  dsimp only at xx
  obtain⟨rfl,xx⟩:=xx
  refine cy (b8 ?_)
  cases hm
  exact⟨.inr rfl,xx⟩
 ·unfold fE at xx
  dsimp only at xx
  obtain⟨rfl,xx⟩:=xx
  refine br ?_
  refine aU ?_
  refine see xx fun Z O hf=>?_
  simp only[Fits,bv,bu,and_true] at hf
  refine srs hn ?_
  simp -dsimp
  cases hm
  exact b0 ⟨.inr rfl,EE.here (by simp -dsimp)⟩
theorem c_problem_first (x:B8) (r:Int) (hm:lr x=some r):bg Tryz.prog 54 [.u (.agg [dI x.W,dI x.H,dI x.Gens,dI x.DX,dI x.DY,dL x.Syms])] (vI r):=by
 refine dG Tryz.func54 Tryz.ntmps54 fun cx hn=>?_
 unfold lr at hm
 refine srs hn ?_
 simp -dsimp
 refine aZ (b7 ?_)
 refine srs hn ?_
 simp -dsimp
 rcases bc hm with ⟨c1,hm⟩ | ⟨c1,hm⟩
 ·refine sct c1 ?_
  refine srs hn ?_
  simp -dsimp [c1]
  refine b0 (cy (b8 ?_))
  cases hm
  refine⟨.inr rfl,?_⟩
  exact EE.here (by simp -dsimp)
 ·refine scf c1 ?_
  obtain⟨a,j11,hm⟩:=bnd hm
  refine scE [(1,vX 1),(10,vT a)] [(1,.box [dI x.W,dI x.H,dI x.Gens,dI x.DX,dI x.DY,dL x.Syms])] ?_ fun Z O hf=>?_
  ·replace hm:=j11
   clear j11
   refine sr1 hn ?_
   rcases bc hm with ⟨c2,hm⟩ | ⟨c2,hm⟩
   ·simp -dsimp [c1,c2]
    cases hm
    exact EE.here (by simp -dsimp)
   ·simp -dsimp [c1,c2]
    cases hm
    exact EE.here (by simp -dsimp)
  ·clear j11
   simp only[Fits,bv,bu,and_true] at hf
   rcases bc hm with ⟨c3,hm⟩ | ⟨c3,hm⟩
   ·refine aW (by simp -dsimp [hf]) c3 ?_
    refine srs hn ?_
    simp -dsimp
    refine b0 (cy (b8 ?_))
    cases hm
    refine⟨.inr rfl,?_⟩
    exact EE.here (by simp -dsimp)
   ·refine aV (by simp -dsimp [hf]) c3 ?_
    obtain⟨a1,j10,hm⟩:=bnd hm
    refine scE [(25,vT a1)] [] ?_ fun Z O hf=>?_
    ·replace hm:=j10
     clear j10
     refine sr1 hn ?_
     rcases bc hm with ⟨c4,hm⟩ | ⟨c4,hm⟩
     ·simp -dsimp [hf,c4]
      cases hm
      exact EE.here (by simp -dsimp)
     ·rcases bc hm with ⟨c5,hm⟩ | ⟨c5,hm⟩
      ·simp -dsimp [hf,c4,c5]
       cases hm
       exact EE.here (by simp -dsimp)
      ·rcases bc hm with ⟨c6,hm⟩ | ⟨c6,hm⟩
       ·simp -dsimp [hf,c4,c5,c6]
        cases hm
        exact EE.here (by simp -dsimp)
       ·rcases bc hm with ⟨c7,hm⟩ | ⟨c7,hm⟩
        ·simp -dsimp [hf,c4,c5,c6,c7]
         cases hm
         exact EE.here (by simp -dsimp)
        ·obtain⟨y,h8,hm⟩:=bnd hm
         simp -dsimp [hf,c4,c5,c6,c7]
         refine bi (c_problem_fits x y h8) (dkL hn) ?_
         simp -dsimp
         cases hm
         exact EE.here (by simp -dsimp)
    ·clear j10
     simp only[Fits,bv,bu,and_true] at hf
     rcases bc hm with ⟨c9,hm⟩ | ⟨c9,hm⟩
     ·refine aW (by simp -dsimp [hf]) c9 ?_
      refine srs hn ?_
      simp -dsimp
      refine b0 (cy (b8 ?_))
      cases hm
      refine⟨.inr rfl,?_⟩
      exact EE.here (by simp -dsimp)
     ·refine aV (by simp -dsimp [hf]) c9 ?_
      refine aY ?_
      refine bI ?_
      refine aU ?_
      refine srs hn ?_
      simp -dsimp
      cases hm
      exact b0 ⟨.inr rfl,EE.here (by simp -dsimp)⟩
theorem lj (t:Tree) (x:B8) (r:Int) (hm:ir t x=some r):bg Tryz.prog 31 [.u (.agg [dI t.States,dR2 t.Hood,dR1 t.Nodes]),.u (.agg [dI x.W,dI x.H,dI x.Gens,dI x.DX,dI x.DY,dL x.Syms])] (vI r):=by
 refine dG Tryz.func31 Tryz.ntmps31 fun cx hn=>?_
 unfold ir at hm
 refine srs hn ?_
 simp -dsimp
 refine aZ ?_
 refine srs hn ?_
 obtain⟨y,h1,hm⟩:=bnd hm
 simp -dsimp
 refine bi ((c_direct_Run t [] 0 y h1).wk (by simp[V.wkl])) (dkL hn) ?_
 simp -dsimp
 refine srs hn ?_
 simp -dsimp
 rcases bc hm with ⟨c2,hm⟩ | ⟨c2,hm⟩
 ·refine aW (by simp -dsimp) c2 ?_
  refine srs hn ?_
  simp -dsimp [c2]
  refine b0 (b8 ?_)
  cases hm
  refine⟨.inr rfl,?_⟩
  exact EE.here (by simp -dsimp)
 ·refine aV (by simp -dsimp) c2 ?_
  refine aY (aU ?_)
  refine srs hn ?_
  obtain⟨y1,h3,hm⟩:=bnd hm
  simp -dsimp [c2]
  refine bi (c_problem_first x y1 h3) (dkL hn) ?_
  simp -dsimp
  cases hm
  exact b0 ⟨.inr rfl,EE.here (by simp -dsimp)⟩
theorem el (l r:List Int) (hm:cg l=some r):NewFn Tryz.prog 66 [.u (.one (dL l))] (fun o=>o=.row 1 3 (List.map (rI .i64) r)):=by
 refine new_S bL _ Tryz.func66 rfl (by kernel_rfl) (by simp[Tryz.ntmps66]) fun cx hn=>?_
 replace hn:cx.n=8:=hn.trans Tryz.ntmps66
 have ha:=(ct hm).1
 have hr:r=l:=(ct hm).2
 clear hm
 subst hr
 simp only[List.length_nil,Nat.zero_add] at ha
 refine srs hn ?_
 simp -dsimp
 refine aZ ?_
 refine srs hn ?_
 cases r with
 | nil =>
  simp -dsimp
  refine⟨?_,?_⟩
  ·refine aW (b:=true) (by simp -dsimp) rfl ?_
   refine srs hn ?_
   simp -dsimp
   refine b0 (b8 ?_)
   refine⟨.inr rfl,?_⟩; simp -dsimp
  ·refine aV (b:=false) (by simp -dsimp) rfl ?_
   refine aY (aU ?_)
   refine srs hn ?_
   simp -dsimp
   refine b0 ?_
   refine⟨.inr rfl,?_⟩; simp -dsimp
 | cons x xs =>
  simp -dsimp
  refine aV (b:=false) (by simp -dsimp) rfl ?_
  refine aY (aU ?_)
  refine srs hn ?_
  simp only[List.length_cons] at ha
  simp -dsimp [ha]
  refine b0 ?_
  refine⟨.inr rfl,?_⟩; simp -dsimp
theorem c_reduce_Reduce_1 (x:Int) (next r:List Int) (hm:iI x next=some r):bg Tryz.prog 65 [vI x,.u (.one (dL next))] (.u (.one (dL r))):=by
 refine dG Tryz.func65 Tryz.ntmps65 fun cx hn=>?_
 unfold iI at hm
 refine srs hn ?_
 simp -dsimp
 refine srs hn ?_
 simp -dsimp
 cases hm
 exact b0 ⟨.inr rfl,EE.here (by simp -dsimp)⟩
theorem gx (l:List Int) (n base:Int) (r:List Int) (hm:cO l n base=some r):GFn Tryz.prog 95 [vO 1000000,.u (.one (.d (.int .u64 n))),vI base] [.row 1 5 (List.map (rI .u8) l)] (vO 1000001) [none,some (.row 1 5 (List.map (rI .u8) r))]:=appU_g ik rfl tf5 rfl rfl rfl rfl ⟨_,Tryz.func95,by decide,by kernel_rfl⟩ hm
theorem kL (i base:Int) (r:List Int) (hm:dy i base=some r):GFn Tryz.prog 92 [.u (.one (.d .nil)),vI i,vI base] [] (vO 1000000) [some (.row 1 5 (List.map (rI .u8) r))]:=by
 refine dj bL _ Tryz.func92 rfl (by kernel_rfl) (by simp[Tryz.ntmps92]) (by simp) (by first | rfl | simp) (by first | rfl | simp) fun cx hn hk=>?_
 replace hn:cx.n=21:=hn.trans Tryz.ntmps92
 replace hk:cx.k=0:=hk
 unfold dy at hm
 refine srs hn ?_
 simp -dsimp
 refine srs hn ?_
 simp -dsimp
 obtain⟨⟨u,dst⟩,j4,hm⟩:=bnd hm
 refine scE [(0,vO 5000),(2,vI base),(7,.u (.one (.d (.int .u64 u))))] [(5000,.row 1 5 (List.map (rI .u8) dst))] ?_ fun Z O hf=>?_
 ·replace hm:=j4
  clear j4
  refine srs hn ?_
  simp -dsimp
  rcases bc hm with ⟨c1,hm⟩ | ⟨c1,hm⟩
  ·refine sct c1 ?_
   refine srs hn ?_
   obtain⟨l,h2,hm⟩:=bnd hm
   obtain⟨h2a,h2e⟩:=ct h2
   replace h2e:=h2e.symm
   subst h2e
   try simp only[List.length_cons,List.length_nil,Nat.zero_add] at h2a
   try simp only[Nat.mul_one,Nat.reduceLeDiff] at h2a
   simp -dsimp [c1]
   refine sr1 hn ?_
   simp -dsimp
   refine aU ?_
   cases hm
   refine emv 14 5000 ?_
   exact EE.here (by simp -dsimp)
  ·refine scf c1 ?_
   refine aY (aU ?_)
   cases hm
   refine EE.step (Wk.own0 0 5000 1 5 (by simp -dsimp [c1]) (by decide)) ?_
   exact EE.here (by simp -dsimp [c1])
 ·clear j4
  simp only[Fits,bv,bu,and_true] at hf
  refine srs hn ?_
  obtain⟨y,h3,hm⟩:=bnd hm
  simp -dsimp [hf]
  refine clg (gx dst u base y h3) [5000] [5001] (by simp -dsimp [hf]) (dkL hn) ?_
  simp -dsimp
  refine b0 ?_
  cases hm
  refine⟨.inr rfl,?_⟩
  refine emr 5001 1000000 hk ?_
  exact EE.here (by simp -dsimp)
theorem kB (i base:Int) (r:List Int) (hm:dN i base=some r):GFn Tryz.prog 88 [.u (.one (.d .nil)),vI i,vI base] [] (vO 1000000) [some (.row 1 5 (List.map (rI .u8) r))]:=by
 refine dj bL _ Tryz.func88 rfl (by kernel_rfl) (by simp[Tryz.ntmps88]) (by simp) (by first | rfl | simp) (by first | rfl | simp) fun cx hn hk=>?_
 replace hn:cx.n=11:=hn.trans Tryz.ntmps88
 replace hk:cx.k=0:=hk
 unfold dN at hm
 refine srs hn ?_
 simp -dsimp
 refine srs hn ?_
 obtain⟨y,h1,hm⟩:=bnd hm
 simp -dsimp
 refine clg (kL i base y h1) [] [5000] (by simp -dsimp) (dkL hn) ?_
 simp -dsimp
 refine b0 ?_
 cases hm
 refine⟨.inr rfl,?_⟩
 refine emr 5000 1000000 hk ?_
 exact EE.here (by simp -dsimp)
theorem kP (dst:List Int) (i base:Int) (r:List Int) (hm:dz dst i base=some r):GFn Tryz.prog 92 [vO 1000000,vI i,vI base] [.row 1 5 (List.map (rI .u8) dst)] (vO 1000001) [none,some (.row 1 5 (List.map (rI .u8) r))]:=by
 refine dj bL _ Tryz.func92 rfl (by kernel_rfl) (by simp[Tryz.ntmps92]) (by simp) (by first | rfl | simp) (by first | rfl | simp) fun cx hn hk=>?_
 replace hn:cx.n=21:=hn.trans Tryz.ntmps92
 replace hk:cx.k=1:=hk
 unfold dz at hm
 refine srs hn ?_
 simp -dsimp
 refine srs hn ?_
 simp -dsimp
 obtain⟨⟨u,dst1⟩,j4,hm⟩:=bnd hm
 refine scE [(0,vO 5000),(2,vI base),(7,.u (.one (.d (.int .u64 u))))] [(5000,.row 1 5 (List.map (rI .u8) dst1))] ?_ fun Z O hf=>?_
 ·replace hm:=j4
  clear j4
  refine srs hn ?_
  simp -dsimp
  rcases bc hm with ⟨c1,hm⟩ | ⟨c1,hm⟩
  ·refine sct c1 ?_
   refine srs hn ?_
   obtain⟨l,h2,hm⟩:=bnd hm
   obtain⟨h2a,h2e⟩:=ct h2
   replace h2e:=h2e.symm
   subst h2e
   try simp only[List.length_cons,List.length_nil,Nat.zero_add] at h2a
   try simp only[Nat.mul_one,Nat.reduceLeDiff] at h2a
   simp -dsimp [c1,h2a]
   refine sr1 hn ?_
   simp -dsimp
   refine aU ?_
   cases hm
   refine emv 14 5000 ?_
   exact EE.here (by simp -dsimp)
  ·refine scf c1 ?_
   refine aY (aU ?_)
   cases hm
   refine emv 1000000 5000 ?_
   exact EE.here (by simp -dsimp [c1])
 ·clear j4
  simp only[Fits,bv,bu,and_true] at hf
  refine srs hn ?_
  obtain⟨y,h3,hm⟩:=bnd hm
  simp -dsimp [hf]
  refine clg (gx dst1 u base y h3) [5000] [5001] (by simp -dsimp [hf]) (dkL hn) ?_
  simp -dsimp
  refine b0 ?_
  cases hm
  refine⟨.inr rfl,?_⟩
  refine emr 5001 1000001 hk ?_
  exact EE.here (by simp -dsimp)
theorem kA (dst:List Int) (i base:Int) (r:List Int) (hm:dd dst i base=some r):GFn Tryz.prog 88 [vO 1000000,vI i,vI base] [.row 1 5 (List.map (rI .u8) dst)] (vO 1000001) [none,some (.row 1 5 (List.map (rI .u8) r))]:=by
 refine dj bL _ Tryz.func88 rfl (by kernel_rfl) (by simp[Tryz.ntmps88]) (by simp) (by first | rfl | simp) (by first | rfl | simp) fun cx hn hk=>?_
 replace hn:cx.n=11:=hn.trans Tryz.ntmps88
 replace hk:cx.k=1:=hk
 unfold dd at hm
 refine srs hn ?_
 simp -dsimp
 refine srs hn ?_
 obtain⟨y,h1,hm⟩:=bnd hm
 simp -dsimp
 refine clg (kP dst i base y h1) [1000000] [5000] (by simp -dsimp) (dkL hn) ?_
 simp -dsimp
 refine b0 ?_
 cases hm
 refine⟨.inr rfl,?_⟩
 refine emr 5000 1000001 hk ?_
 exact EE.here (by simp -dsimp)
def eC (cx:Cx) (ax:List Node) (al:List (List UInt8×Int)) (level:Int) (next:List Int) (tt:(List Int)) (ee:Exit) (Z:Env) (O:Sto):Prop:=match tt with
 | keyv=>ee=.exit 0/\EE cx (bY [(0,vX 1000000),(1,vI level),(2,.u (.one (dL next))),(7,vO 5002)] [(5002,.row 1 5 (List.map (rI .u8) keyv)),(1000000,.box [.own 1000001,.map 1000002]),(1000001,.row 2 50 (List.map Node.row ax)),(1000002,mOb .str kS (uL (L.int .i64)) al)]) Z O
theorem mF (cx:Cx) (hn:cx.n=68) (_hk:cx.k=3) (ax:List Node) (al:List (List UInt8×Int)) (level:Int) (next:List Int) {fu:Nat} {stt:Int×(List Int)} {tt:(List Int)} (hh:bh (eI ax al level next) fu stt=some tt) {Z:Env} {O:Sto}
  (hE:cw (fun stt:Int×(List Int)=>match stt with | (a,_keyv)=>[(0,vX 1000000),(1,vI level),(2,.u (.one (dL next))),(7,vO 5002),(14,.u (.one (dL next))),(15,vI (b9 next)),(16,vI a)]) (fun stt:Int×(List Int)=>match stt with | (_a,keyv)=>[(5002,.row 1 5 (List.map (rI .u8) keyv)),(1000000,.box [.own 1000001,.map 1000002]),(1000001,.row 2 50 (List.map Node.row ax)),(1000002,mOb .str kS (uL (L.int .i64)) al)]) stt Z O):Swp Tryz.prog cx (.loop (dx [1,1,0,1,0,0] (bQ Tryz.f77))) Z O (eC cx ax al level next tt):=by
 refine cz hE hh (eC cx ax al level next) ?_
 rintro⟨a,keyv⟩ r hm Z O hf
 simp only[Fits,bv,bu,and_true] at hf
 unfold eI at hm
 dsimp only at hm
 refine srs hn ?_
 simp -dsimp [hf]
 refine aZ ?_
 rcases bc hm with ⟨c2,hm⟩ | ⟨c2,hm⟩
 ·refine aW (by simp -dsimp) c2 ?_
  refine aY (aU (aZ (b7 ?_)))
  refine srs hn ?_
  obtain⟨x,h3,hm⟩:=bnd hm
  simp -dsimp [hf,c2,h3]
  refine sr1 hn ?_
  obtain⟨l,h4,hm⟩:=bnd hm
  obtain⟨h4a,h4e⟩:=ct h4
  replace h4e:=h4e.symm
  subst h4e
  try simp only[List.length_cons,List.length_nil,Nat.zero_add] at h4a
  try simp only[Nat.mul_one,Nat.reduceLeDiff] at h4a
  obtain⟨y1,h5,hm⟩:=bnd hm
  simp -dsimp [hf,h4a]
  refine clg (kA (keyv++[32]) x 10 y1 h5) [22] [5001] (by simp -dsimp) (dkL hn) ?_
  simp -dsimp
  refine bI ?_
  refine aU ?_
  refine sr1 hn ?_
  simp -dsimp [hf]
  cases hm
  refine bC ?_
  refine emv 5001 5002 ?_
  exact EE.here (by simp -dsimp [hf])
 ·refine aV (by simp -dsimp) c2 ?_
  refine bp ?_
  refine b8 ?_
  cases hm
  refine bz nofun ?_
  exact⟨rfl,EE.here (by simp -dsimp [hf,c2])⟩
theorem nB (ax:List Node) (al:List (List UInt8×Int)) (level:Int) (next:List Int) (r:Int×(List (List UInt8×Int))×(List Node)) (hm:dp ax al level next=some r):GFn Tryz.prog 77 [vX 1000000,vI level,.u (.one (dL next))] [.box [.own 1000001,.map 1000002],.row 2 50 (List.map Node.row ax),mOb .str kS (uL (L.int .i64)) al] (vI r.1) [some (.box [.own 1000003,.map 1000002]),none,some (mOb .str kS (uL (L.int .i64)) r.2.1),some (.row 2 50 (List.map Node.row r.2.2))]:=by
 refine dj bL _ Tryz.func77 rfl (by kernel_rfl) (by simp[Tryz.ntmps77]) (by simp) (by first | rfl | simp) (by first | rfl | simp) fun cx hn hk=>?_
 replace hn:cx.n=68:=hn.trans Tryz.ntmps77
 replace hk:cx.k=3:=hk
 unfold dp at hm
 refine srs hn ?_
 simp -dsimp
 refine srs hn ?_
 obtain⟨y,h1,hm⟩:=bnd hm
 simp -dsimp
 refine clg (kB level 10 y h1) [] [5000] (by simp -dsimp) (dkL hn) ?_
 simp -dsimp
 refine aZ ?_
 refine srs hn ?_
 simp -dsimp
 refine b7 ?_
 obtain⟨keyv,g6,hm⟩:=bnd hm
 refine bP (mF cx hn hk ax al level next g6) (by
   try dsimp only
   refine emv 5000 5002 ?_
   exact EE.here (by simp -dsimp)
 ) fun ee Z O xx=>?_
 unfold eC at xx
 dsimp only at xx
 obtain⟨rfl,xx⟩:=xx
 refine br ?_
 refine aU ?_
 refine see xx fun Z O hf=>?_
 simp only[Fits,bv,bu,and_true] at hf
 refine aZ ?_
 refine fQ bL mixed (by rw[hn]; kernel_rfl) ?_
 obtain⟨u,h7,hm⟩:=bnd hm
 simp -dsimp [hf,mm h7,(@id (lkM (nl (mOb .str kS (uL (L.int .i64)) al) (.str (ofBytes keyv))) true (.one (dI 0))=some (.tup [.one (dI (mgetD al (ofBytes keyv) 0)),.one (.d (.bool (kZ al (ofBytes keyv))))])) (lk_two (ofBytes keyv) 0))]
 refine srs hn ?_
 simp -dsimp
 rcases bc hm with ⟨c8,hm⟩ | ⟨c8,hm⟩
 ·refine aW (b:=(kZ al (ofBytes keyv))) (by simp -dsimp) c8 ?_
  refine srs hn ?_
  simp -dsimp [c8]
  refine b0 (b8 ?_)
  cases hm
  refine⟨.inr rfl,?_⟩
  refine emr 1000001 1000003 hk ?_
  exact EE.here (by simp -dsimp [hf])
 ·refine aV (b:=(kZ al (ofBytes keyv))) (by simp -dsimp) c8 ?_
  refine aY (aU ?_)
  refine srs hn ?_
  obtain⟨l,h9,hm⟩:=bnd hm
  obtain⟨h9a,h9e⟩:=ct h9
  replace h9e:=h9e.symm
  subst h9e
  try simp only[List.length_cons,List.length_nil,Nat.zero_add] at h9a
  simp -dsimp [hf,c8,h9a]
  refine sw_drNs bL mixed 12 (by rw[hn]; kernel_rfl) ?_
  dsimp only [List.take,List.drop]
  simp -dsimp [hf,mm h7,(@id (msetOb (mOb .str kS (uL (L.int .i64)) al) (.str (ofBytes keyv)) (.one (dI (cu .i64 ((b9 ax)+1) 1)))=mOb .str kS (uL (L.int .i64)) (msetL al (ofBytes keyv) (cu .i64 ((b9 ax)+1) 1))) (mset_ob .str kS (uL (L.int .i64)) al (ofBytes keyv) (cu .i64 ((b9 ax)+1) 1)))]
  refine srs hn ?_
  simp -dsimp [hf]
  refine b0 ?_
  cases hm
  refine⟨.inr rfl,?_⟩
  refine emr 47 1000003 hk ?_
  exact EE.here (by simp -dsimp)
theorem jN (l r:List Point) (hm:cf l=some r):PFn Tryz.prog 78 [.u (.one (dR2 l))] (fun v=>v.wk (.u (.one (dR2 r)))):=by
 refine pfn_E bL _ Tryz.func78 rfl (by kernel_rfl) (by simp[Tryz.ntmps78]) fun cx hn=>?_
 replace hn:cx.n=8:=hn.trans Tryz.ntmps78
 have ha:=(ct hm).1
 have hr:r=l:=(ct hm).2
 clear hm
 subst hr
 simp only[List.length_nil,Nat.zero_add] at ha
 refine srs hn ?_
 simp -dsimp
 refine aZ ?_
 refine srs hn ?_
 cases r with
 | nil =>
  simp -dsimp
  refine⟨?_,?_⟩
  ·refine aW (b:=true) (by simp -dsimp) rfl ?_
   refine srs hn ?_
   simp -dsimp
   refine b0 (b8 ?_)
   refine⟨.inr rfl,EE.here ?_⟩; simp -dsimp
  ·refine aV (b:=false) (by simp -dsimp) rfl ?_
   refine aY (aU ?_)
   refine srs hn ?_
   simp -dsimp
   refine b0 ?_
   refine⟨.inr rfl,EE.here ?_⟩; simp -dsimp
 | cons x xs =>
  simp -dsimp
  refine aV (b:=false) (by simp -dsimp) rfl ?_
  refine aY (aU ?_)
  refine srs hn ?_
  simp only[List.length_cons] at ha
  simp -dsimp [ha]
  refine b0 ?_
  refine⟨.inr rfl,EE.here ?_⟩; simp -dsimp
theorem fR (l r:List Point) (hm:cf l=some r):bg Tryz.prog 78 [.u (.one (dR2 l))] (.u (.one (dR2 r))):=(jN l r hm).pureW
end Go.Proofs.YtlifofijgddjkacGreatDoor
