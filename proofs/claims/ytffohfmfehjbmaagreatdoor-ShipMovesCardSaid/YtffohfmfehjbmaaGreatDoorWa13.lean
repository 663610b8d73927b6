/- That the code does what the functions say (made by cc.py). -/
import Derived.Test.YtffohfmfehjbmaaGreatDoorWa12
namespace Go.Proofs.YtffohfmfehjbmaaGreatDoor
open Go.AM Go.Proofs
attribute [-simp] qlookup bG cq Ob.wipe Ob.ren Ob.frz1
set_option maxRecDepth 100000 in
theorem c_L50_ShipMoves (t:Tree) (cv:Ai) (more:Int) (r:Bool) (hm:m_L50_ShipMoves t cv more=some r):PureCall Tryz.prog 4 [.u (.agg [dI t.States,dR2 t.Hood,dR1 t.Nodes]),.u (.agg [dR3 cv.Ships,dI cv.Shot.Ship,dI cv.Shot.Phase,dI cv.Shot.Sym,dI cv.Shot.X,dI cv.Shot.Y,dI cv.N]),.u (.one (.d (.int .u8 more)))] (vT r):=by
 refine b9 Tryz.func4 Tryz.ntmps4 fun cx hn=>?_
 unfold m_L50_ShipMoves at hm
 refine srs hn ?_
 simp -dsimp
 refine aF ?_
 obtain⟨a,j39,hm⟩:=bnd hm
 refine scE [(2,.u (.one (.d (.int .u8 more)))),(3,vX 3),(4,vX 4),(41,vT a)] [(3,.box [dI t.States,dR2 t.Hood,dR1 t.Nodes]),(4,.box [dR3 cv.Ships,dI cv.Shot.Ship,dI cv.Shot.Phase,dI cv.Shot.Sym,dI cv.Shot.X,dI cv.Shot.Y,dI cv.N])] ?_ fun Z O hf=>?_
 ·replace hm:=j39
  clear j39
  refine sr1 hn ?_
  obtain⟨y,h1,hm⟩:=bnd hm
  simp -dsimp
  refine aB (c_L50_small t cv.Ships y h1) (dkL hn) ?_
  exact zz
 ·clear j39
  simp only[Fits,aQ,aP,and_true] at hf
  rcases aM hm with ⟨c5,hm⟩ | ⟨c5,hm⟩
  ·refine aJ (by simp -dsimp [hf]) c5 ?_
   refine srs hn ?_
   obtain⟨y,h6,hm⟩:=bnd hm
   simp -dsimp
   refine aB (dV y h6) (dkL hn) ?_
   exact zz
  ·refine aH (by simp -dsimp [hf]) c5 ?_
   refine aG (aC ?_)
   refine srs hn ?_
   obtain⟨y,h7,hm⟩:=bnd hm
   simp -dsimp [hf]
   refine aB (eC t cv.Ships cv.Shot cv.N y h7) (dkL hn) ?_
   simp -dsimp
   refine srs hn ?_
   obtain⟨y1,h8,hm⟩:=bnd hm
   simp -dsimp [hf]
   refine aB (dr t cv.Ships cv.Shot y1 h8) (dkL hn) ?_
   simp -dsimp
   refine aF ?_
   refine srs hn ?_
   simp -dsimp
   rcases aM hm with ⟨c9,hm⟩ | ⟨c9,hm⟩
   ·refine aJ (by simp -dsimp) c9 ?_
    obtain⟨a1,j12,hm⟩:=bnd hm
    refine scE [(6,vT a1)] [] ?_ fun Z O hf=>?_
    ·replace hm:=j12
     clear j12
     refine sr1 hn ?_
     rcases aM hm with ⟨c10,hm⟩ | ⟨c10,hm⟩
     ·obtain⟨y2,h11,hm⟩:=bnd hm
      simp -dsimp [c9,c10]
      refine aB (dV y2 h11) (dkL hn) ?_
      exact zz
     ·exact zz
    ·clear j12
     exact zz
   ·refine aH (by simp -dsimp) c9 ?_
    refine aG (aC ?_)
    refine srs hn ?_
    obtain⟨y2,h13,hm⟩:=bnd hm
    simp -dsimp [hf,c9]
    refine aB (dr t cv.Ships y.1 y2 h13) (dkL hn) ?_
    simp -dsimp
    refine srs hn ?_
    obtain⟨y3,h14,hm⟩:=bnd hm
    simp -dsimp [hf]
    refine aB (ev t y1.1 cv.N y3 h14) (dkL hn) ?_
    simp -dsimp
    refine aF ?_
    obtain⟨a1,j38,hm⟩:=bnd hm
    refine scE [(2,.u (.one (.d (.int .u8 more)))),(3,vX 3),(4,vX 4),(7,vX 7),(110,vT a1)] [(3,.box [dI t.States,dR2 t.Hood,dR1 t.Nodes]),(4,.box [dR3 cv.Ships,dI cv.Shot.Ship,dI cv.Shot.Phase,dI cv.Shot.Sym,dI cv.Shot.X,dI cv.Shot.Y,dI cv.N]),(7,.box [dI y.1.Ship,dI y.1.Phase,dI y.1.Sym,dI y.1.X,dI y.1.Y])] ?_ fun Z O hf=>?_
    ·replace hm:=j38
     clear j38
     refine sr1 hn ?_
     rcases aM hm with ⟨c15,hm⟩ | ⟨c15,hm⟩
     ·exact zz
     ·rcases aM hm with ⟨c16,hm⟩ | ⟨c16,hm⟩
      ·exact zz
      ·rcases aM hm with ⟨c17,hm⟩ | ⟨c17,hm⟩
       ·rcases aM hm with ⟨c18,hm⟩ | ⟨c18,hm⟩
        ·exact zz
        ·rcases aM hm with ⟨c19,hm⟩ | ⟨c19,hm⟩
         ·obtain⟨y4,h20,hm⟩:=bnd hm
          simp -dsimp [c15,c16,c17,c18,c19]
          refine aB (fy y3.1 y2.1 y4 h20) (dkL hn) ?_
          exact zz
         ·exact zz
       ·rcases aM hm with ⟨c21,hm⟩ | ⟨c21,hm⟩
        ·obtain⟨y4,h22,hm⟩:=bnd hm
         simp -dsimp [c15,c16,c17,c21]
         refine aB (fy y3.1 y2.1 y4 h22) (dkL hn) ?_
         exact zz
        ·exact zz
    ·clear j38
     simp only[Fits,aQ,aP,and_true] at hf
     rcases aM hm with ⟨c23,hm⟩ | ⟨c23,hm⟩
     ·exact zz
     ·refine aH (by simp -dsimp [hf]) c23 ?_
      refine aG (aC ?_)
      refine srs hn ?_
      obtain⟨n,h24,hm⟩:=bnd hm
      simp -dsimp [hf,h24]
      refine srs hn ?_
      obtain⟨y4,h25,hm⟩:=bnd hm
      simp -dsimp [hf]
      refine aB (eC t cv.Ships y.1 (cE .i64 n) y4 h25) (dkL hn) ?_
      simp -dsimp
      refine srs hn ?_
      obtain⟨y5,h26,hm⟩:=bnd hm
      simp -dsimp [hf]
      refine aB (eC t cv.Ships cv.Shot (aS .i64 cv.N (cE .i64 n)) y5 h26) (dkL hn) ?_
      simp -dsimp
      refine aF ?_
      obtain⟨a2,j37,hm⟩:=bnd hm
      refine scE [(16,vX 16),(17,vI y4.2),(18,vX 18),(19,vI y5.2),(141,vT a2)] [(16,.box [dI y4.1.Ship,dI y4.1.Phase,dI y4.1.Sym,dI y4.1.X,dI y4.1.Y]),(18,.box [dI y5.1.Ship,dI y5.1.Phase,dI y5.1.Sym,dI y5.1.X,dI y5.1.Y])] ?_ fun Z O hf=>?_
      ·replace hm:=j37
       clear j37
       exact zz
      ·clear j37
       simp only[Fits,aQ,aP,and_true] at hf
       rcases aM hm with ⟨c28,hm⟩ | ⟨c28,hm⟩
       ·refine aJ (by simp -dsimp [hf]) c28 ?_
        obtain⟨a3,j33,hm⟩:=bnd hm
        refine scE [(6,vT a3)] [] ?_ fun Z O hf=>?_
        ·replace hm:=j33
         clear j33
         refine sr1 hn ?_
         rcases aM hm with ⟨c29,hm⟩ | ⟨c29,hm⟩
         ·obtain⟨y6,h30,hm⟩:=bnd hm
          simp -dsimp [hf,c29]
          refine aB (dV y6 h30) (dkL hn) ?_
          exact zz
         ·rcases aM hm with ⟨c31,hm⟩ | ⟨c31,hm⟩
          ·obtain⟨y6,h32,hm⟩:=bnd hm
           simp -dsimp [hf,c29,c31]
           refine aB (dV y6 h32) (dkL hn) ?_
           exact zz
          ·exact zz
        ·clear j33
         exact zz
       ·refine aH (by simp -dsimp [hf]) c28 ?_
        refine aG (aC ?_)
        obtain⟨a3,j36,hm⟩:=bnd hm
        refine scE [(6,vT a3)] [] ?_ fun Z O hf=>?_
        ·replace hm:=j36
         clear j36
         refine sr1 hn ?_
         rcases aM hm with ⟨c34,hm⟩ | ⟨c34,hm⟩
         ·obtain⟨y6,h35,hm⟩:=bnd hm
          simp -dsimp [hf,c34]
          refine aB (dV y6 h35) (dkL hn) ?_
          exact zz
         ·exact zz
        ·clear j36
         exact zz
end Go.Proofs.YtffohfmfehjbmaaGreatDoor
