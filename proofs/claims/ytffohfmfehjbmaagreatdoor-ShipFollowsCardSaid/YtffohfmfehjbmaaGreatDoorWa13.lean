/- That the code does what the functions say (made by cc.py). -/
import Derived.Test.YtffohfmfehjbmaaGreatDoorWa12
namespace Go.Proofs.YtffohfmfehjbmaaGreatDoor
open Go.AM Go.Proofs
set_option maxRecDepth 100000
attribute [-simp] qlookup bF cq Ob.wipe Ob.ren Ob.frz1
def cM (cx:Cx) (_t:Tree) (_cv:Ah) (_n2:Int) (_x:Ship) (_y:(List Cell)×Int) (_y2:(List Shot)×Int) (tt:Bool ⊕ Unit) (ee:Exit) (Z:Env) (O:Sto):Prop:=match tt with
 | .inl r=>ee=.ret/\EE cx (fun Z O=>∃ v,cp tb Z O Tryz.f5.results.toList=some v/\(v.frz O).free=true/\(v.frz O).wk (vT r)) Z O
 | .inr _u=>ee=.exit 0/\EE cx (aY [] []) Z O
theorem l_L50_ShipFollows_1 (cx:Cx) (hn:cx.n=153) (t:Tree) (cv:Ah) (n2:Int) (x:Ship) (y:(List Cell)×Int) (y2:(List Shot)×Int) {fu:Nat} {stt:Int} {tt:Bool ⊕ Unit} (hh:aK (b_L50_ShipFollows_1 t cv n2 x y y2) fu stt=some tt) {Z:Env} {O:Sto}
  (hE:b9 (fun a2:Int=>[(3,vX 3),(4,vX 4),(8,vI (aO .i64 1 (bI .i64 n2))),(9,vX 9),(10,.u (.one (dR0 y.1))),(12,.u (.one (dR4 y2.1))),(103,vI (aB y2.1)),(104,vI a2)]) (fun _a2:Int=>[(3,.box [dI t.States,dR2 t.Hood,dR1 t.Nodes]),(4,.box [dR3 cv.Ships,dI cv.Shot.Ship,dI cv.Shot.Phase,dI cv.Shot.Sym,dI cv.Shot.X,dI cv.Shot.Y,dI cv.N]),(9,.box [dI x.Motion.Period,dI x.Motion.DX,dI x.Motion.DY])]) stt Z O):Swp Tryz.prog cx (.loop (bq [1,1,1,1,1,1,1,1,0,1,0,0] (aU Tryz.f5))) Z O (cM cx t cv n2 x y y2 tt):=by
 refine bc hE hh (cM cx t cv n2 x y y2) ?_
 rintro a2 r hm Z O hf
 simp only[Fits,aR,aQ,and_true] at hf
 unfold b_L50_ShipFollows_1 at hm
 dsimp only at hm
 refine srs hn ?_
 simp -dsimp [hf]
 refine aD ?_
 rcases aM hm with ⟨c18,hm⟩ | ⟨c18,hm⟩
 ·refine aI (by simp -dsimp) c18 ?_
  refine aF (aC (aD (aH ?_)))
  refine srs hn ?_
  simp -dsimp [hf,c18]
  refine fe aP mixed 17 19 19 0 [[0,1,2,3,4,5,6,7,8,9,10,11,12,13,14,15,16],[16]] [[15],[]] [] none (by rw[hn]; kernel_rfl) dc ?_
  dsimp only [List.take,List.drop,dz,dT,eX,pk,List.cons_append,List.nil_append,List.flatten_cons,List.flatten_nil,cz,cA,List.append_nil]
  obtain⟨x1,h19,hm⟩:=bnd hm
  obtain⟨y3,h20,hm⟩:=bnd hm
  simp -dsimp [hf,h19]
  refine aJ (fx t cv.Ships x1 (bP .i64 (bP .i64 a2 (aO .i64 1 (bI .i64 n2))) x.Motion.Period) y3 h20) ?_
  simp -dsimp [hf,h19]
  refine aJ (fx t cv.Ships x1 (bP .i64 (bP .i64 a2 (aO .i64 1 (bI .i64 n2))) x.Motion.Period) y3 h20) ?_
  simp -dsimp
  refine aD ?_
  refine srs hn ?_
  simp -dsimp
  rcases aM hm with ⟨c21,hm⟩ | ⟨c21,hm⟩
  ·refine aI (by simp -dsimp) c21 ?_
   obtain⟨a3,j26,hm⟩:=bnd hm
   refine scE [(6,vT a3)] [] ?_ fun Z O hf=>?_
   ·replace hm:=j26
    clear j26
    refine sr1 hn ?_
    rcases aM hm with ⟨c22,hm⟩ | ⟨c22,hm⟩
    ·obtain⟨y4,h23,hm⟩:=bnd hm
     simp -dsimp [c21,c22]
     refine aA (dU y4 h23) (dkL hn) ?_
     exact zz
    ·rcases aM hm with ⟨c24,hm⟩ | ⟨c24,hm⟩
     ·obtain⟨y4,h25,hm⟩:=bnd hm
      simp -dsimp [c21,c22,c24]
      refine aA (dU y4 h25) (dkL hn) ?_
      exact zz
     ·exact zz
   ·clear j26
    exact zz
  ·refine aG (by simp -dsimp) c21 ?_
   refine aF (aC ?_)
   refine srs hn ?_
   obtain⟨y4,h27,hm⟩:=bnd hm
   simp -dsimp [hf,c21]
   refine aA (dr t cv.Ships y3.1 y4 h27) (dkL hn) ?_
   simp -dsimp
   obtain⟨a3,j31,hm⟩:=bnd hm
   refine scE [(3,vX 3),(4,vX 4),(8,vI (aO .i64 1 (bI .i64 n2))),(9,vX 9),(10,.u (.one (dR0 y.1))),(12,.u (.one (dR4 y2.1))),(103,vI (aB y2.1)),(104,vI a2),(150,vT a3)] [(3,.box [dI t.States,dR2 t.Hood,dR1 t.Nodes]),(4,.box [dR3 cv.Ships,dI cv.Shot.Ship,dI cv.Shot.Phase,dI cv.Shot.Sym,dI cv.Shot.X,dI cv.Shot.Y,dI cv.N]),(9,.box [dI x.Motion.Period,dI x.Motion.DX,dI x.Motion.DY])] ?_ fun Z O hf=>?_
   ·replace hm:=j31
    clear j31
    refine sr1 hn ?_
    rcases aM hm with ⟨c28,hm⟩ | ⟨c28,hm⟩
    ·exact zz
    ·obtain⟨y5,h29,hm⟩:=bnd hm
     simp -dsimp [hf,c28]
     refine aA (c_R05_Same y4.1 y.1 y5 h29) (dkL hn) ?_
     exact zz
   ·clear j31
    exact zz
 ·exact zz
theorem c_L50_ShipFollows (t:Tree) (cv:Ah) (n:Int×Int) (r:Bool) (hm:m_L50_ShipFollows t cv n=some r):PureCall Tryz.prog 5 [.u (.agg [dI t.States,dR2 t.Hood,dR1 t.Nodes]),.u (.agg [dR3 cv.Ships,dI cv.Shot.Ship,dI cv.Shot.Phase,dI cv.Shot.Sym,dI cv.Shot.X,dI cv.Shot.Y,dI cv.N]),.u (.agg [.d (.int .u8 n.1),.d (.int .u8 n.2)])] (vT r):=by
 refine b8 Tryz.func5 Tryz.ntmps5 fun cx hn=>?_
 unfold m_L50_ShipFollows at hm
 refine srs hn ?_
 simp -dsimp
 refine bG aP mixed (by rw[hn]; kernel_rfl) ?_
 obtain⟨n1,h1,hm⟩:=bnd hm
 obtain⟨n2,h2,hm⟩:=bnd hm
 simp -dsimp [(@id (aok 2 0=true) rfl),h1,(@id (aok 2 1=true) rfl),h2]
 refine aD ?_
 obtain⟨a,j35,hm⟩:=bnd hm
 refine scE [(3,vX 3),(4,vX 4),(7,vI (bI .i64 n1)),(8,vI (aO .i64 1 (bI .i64 n2))),(59,vT a)] [(3,.box [dI t.States,dR2 t.Hood,dR1 t.Nodes]),(4,.box [dR3 cv.Ships,dI cv.Shot.Ship,dI cv.Shot.Phase,dI cv.Shot.Sym,dI cv.Shot.X,dI cv.Shot.Y,dI cv.N])] ?_ fun Z O hf=>?_
 ·replace hm:=j35
  clear j35
  refine sr1 hn ?_
  obtain⟨y,h3,hm⟩:=bnd hm
  simp -dsimp
  refine aA (c_L50_small t cv.Ships y h3) (dkL hn) ?_
  exact zz
 ·clear j35
  simp only[Fits,aR,aQ,and_true] at hf
  rcases aM hm with ⟨c8,hm⟩ | ⟨c8,hm⟩
  ·refine aI (by simp -dsimp [hf]) c8 ?_
   refine srs hn ?_
   obtain⟨y,h9,hm⟩:=bnd hm
   simp -dsimp
   refine aA (dU y h9) (dkL hn) ?_
   exact zz
  ·refine aG (by simp -dsimp [hf]) c8 ?_
   refine aF (aC ?_)
   refine srs hn ?_
   obtain⟨x,h10,hm⟩:=bnd hm
   simp -dsimp [hf,h10]
   refine srs hn ?_
   obtain⟨y,h11,hm⟩:=bnd hm
   simp -dsimp [hf]
   refine aA (dr t cv.Ships cv.Shot y h11) (dkL hn) ?_
   simp -dsimp
   refine bG aP mixed (by rw[hn]; kernel_rfl) ?_
   obtain⟨y1,h12,hm⟩:=bnd hm
   simp -dsimp [hf]
   refine aJ (f0 cv.Shot.Sym x.Motion y1 h12) ?_
   obtain⟨y2,h13,hm⟩:=bnd hm
   simp -dsimp [hf]
   refine aJ (c_ship_Stream cv.Shot y1 (bI .i64 n1) (aO .i64 1 (bI .i64 n2)) y2 h13) ?_
   simp -dsimp
   refine aD ?_
   obtain⟨a1,j34,hm⟩:=bnd hm
   refine scE [(3,vX 3),(4,vX 4),(7,vI (bI .i64 n1)),(8,vI (aO .i64 1 (bI .i64 n2))),(9,vX 9),(10,.u (.one (dR0 y.1))),(12,.u (.one (dR4 y2.1))),(96,vT a1)] [(3,.box [dI t.States,dR2 t.Hood,dR1 t.Nodes]),(4,.box [dR3 cv.Ships,dI cv.Shot.Ship,dI cv.Shot.Phase,dI cv.Shot.Sym,dI cv.Shot.X,dI cv.Shot.Y,dI cv.N]),(9,.box [dI x.Motion.Period,dI x.Motion.DX,dI x.Motion.DY])] ?_ fun Z O hf=>?_
   ·replace hm:=j34
    clear j34
    exact zz
   ·clear j34
    simp only[Fits,aR,aQ,and_true] at hf
    rcases aM hm with ⟨c15,hm⟩ | ⟨c15,hm⟩
    ·refine aI (by simp -dsimp [hf]) c15 ?_
     refine srs hn ?_
     obtain⟨y3,h16,hm⟩:=bnd hm
     simp -dsimp
     refine aA (dU y3 h16) (dkL hn) ?_
     exact zz
    ·refine aG (by simp -dsimp [hf]) c15 ?_
     refine aF (aC (aD ?_))
     refine srs hn ?_
     simp -dsimp [hf]
     rcases aM hm with ⟨c17,hm⟩ | ⟨c17,hm⟩
     ·exact zz
     ·refine aG (by simp -dsimp) c17 ?_
      refine aF (aC (aD ?_))
      refine srs hn ?_
      simp -dsimp [hf,c17]
      refine aH ?_
      obtain⟨o_,g32,hm⟩:=bnd hm
      refine aW (l_L50_ShipFollows_1 cx hn t cv n2 x y y2 g32) (by
        try dsimp only
        refine EE.here ?_
        exact zz
      ) fun ee Z O xx=>?_
      rcases o_ with r | _u
      ·exact zz
      ·unfold cM at xx
       dsimp only at xx
       obtain⟨rfl,xx⟩:=xx
       refine bj ?_
       refine aC ?_
       refine see xx fun Z O hf=>?_
       simp only[Fits,aR,aQ,and_true] at hf
       refine srs hn ?_
       obtain⟨y3,h33,hm⟩:=bnd hm
       simp -dsimp
       refine aA (dU y3 h33) (dkL hn) ?_
       exact zz
end Go.Proofs.YtffohfmfehjbmaaGreatDoor
