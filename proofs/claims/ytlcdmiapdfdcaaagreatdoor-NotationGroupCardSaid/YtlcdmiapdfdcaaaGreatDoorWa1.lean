/- That the code does what the functions say (made by cc.py). -/
import Derived.Test.YtlcdmiapdfdcaaaGreatDoorTb
import Derived.Test.YtlcdmiapdfdcaaaGreatDoorLax1
namespace Go.Proofs.YtlcdmiapdfdcaaaGreatDoor
open Go.AM Go.Proofs
set_option maxRecDepth 100000
attribute [-simp] qlookup cR dQ Ob.wipe Ob.ren Ob.frz1
def eG (cx:Cx) (_t:Tree) (tt:Bool ⊕ Unit) (ee:Exit) (O:Env) (G:Sto):Prop:=match tt with
 | .inl r=>ee = .ret /\ EE cx (fun O G=>∃ v,e9 tb O G Tryz.f5.results.toList = some v /\ (v.frz G).free = true /\ (v.frz G).wk (vT r)) O G
 | .inr _u=>ee = .exit 0 /\ EE cx (bw [] []) O G
theorem l_L12_Few_1 (cx:Cx) (hn:cx.n = 29) (t:Tree) {fu:Nat} {stt:Int} {tt:Bool ⊕ Unit} (hh:aV (b_L12_Few_1 t) fu stt = some tt) {O:Env} {G:Sto}
  (hE:bH (fun a1:Int=>[(1,vX 1),(16,vI (aX t.Nodes)),(17,vI a1)]) (fun _a1:Int=>[(1,.box [dI t.States,dR1 t.Hood,dR0 t.Nodes])]) stt O G):Swp Tryz.prog cx (.loop (cr [1,1,0,1,0,0] (bq Tryz.f5))) O G (eG cx t tt):=by
 refine bL hE hh (eG cx t) ?_
 rintro a1 r hm O G hf
 simp only [Fits,ba,bb,and_true] at hf
 unfold b_L12_Few_1 at hm
 dsimp only at hm
 refine srs hn ?_
 simp -dsimp [hf]
 refine aU ?_
 rcases aZ hm with ⟨c3,hm⟩ | ⟨c3,hm⟩
 ·refine aQ (by simp -dsimp) c3 ?_
  refine aS (aO (aU (aY ?_)))
  refine srs hn ?_
  simp -dsimp [hf,c3]
  refine srs hn ?_
  obtain ⟨x,h4,hm⟩:=bnd hm
  simp -dsimp [hf,h4]
  rcases aZ hm with ⟨c5,hm⟩ | ⟨c5,hm⟩
  ·refine aQ (by simp -dsimp) c5 ?_
   refine srs hn ?_
   simp -dsimp [c5]
   refine aT (bu (aW ?_))
   cases hm
   refine be nofun ?_
   exact ⟨rfl,EE.here (by simp -dsimp [Tryz.results5])⟩
  ·refine aP (by simp -dsimp) c5 ?_
   refine aS ?_
   refine bh ?_
   refine aO ?_
   refine sr1 hn ?_
   simp -dsimp [hf,c5]
   cases hm
   refine bf ?_
   exact EE.here (by simp -dsimp [hf])
 ·refine aP (by simp -dsimp) c3 ?_
  refine bd ?_
  refine aW ?_
  cases hm
  refine be nofun ?_
  exact ⟨rfl,EE.here (by simp -dsimp [c3])⟩
theorem c_L12_Few (t:Tree) (r:Bool) (hm:m_L12_Few t = some r):PureCall Tryz.prog 5 [.u (.agg [dI t.States,dR1 t.Hood,dR0 t.Nodes])] (vT r):=by
 refine bD Tryz.func5 Tryz.ntmps5 fun cx hn=>?_
 unfold m_L12_Few at hm
 refine srs hn ?_
 simp -dsimp
 refine aU ?_
 obtain ⟨a,j8,hm⟩:=bnd hm
 refine scE [(1,vX 1),(13,vT a)] [(1,.box [dI t.States,dR1 t.Hood,dR0 t.Nodes])] ?_ fun O G hf=>?_
 ·replace hm:=j8
  clear j8
  refine sr1 hn ?_
  rcases aZ hm with ⟨c1,hm⟩ | ⟨c1,hm⟩
  ·simp -dsimp [c1]
   cases hm
   exact EE.here (by simp -dsimp)
  ·simp -dsimp [c1]
   cases hm
   exact EE.here (by simp -dsimp)
 ·clear j8
  simp only [Fits,ba,bb,and_true] at hf
  rcases aZ hm with ⟨c2,hm⟩ | ⟨c2,hm⟩
  ·refine aQ (by simp -dsimp [hf]) c2 ?_
   refine srs hn ?_
   simp -dsimp
   refine aT (aW ?_)
   cases hm
   refine ⟨.inr rfl,?_⟩
   exact EE.here (by simp -dsimp)
  ·refine aP (by simp -dsimp [hf]) c2 ?_
   refine aS (aO (aU ?_))
   refine srs hn ?_
   simp -dsimp [hf]
   refine aY ?_
   obtain ⟨o_,g6,hm⟩:=bnd hm
   refine br (l_L12_Few_1 cx hn t g6) (by
     try dsimp only
     exact EE.here (by simp -dsimp [hf])
   ) fun ee O G x7=>?_
   rcases o_ with r | _u
   ·unfold eG at x7
    dsimp only at x7
    obtain ⟨rfl,x7⟩:=x7
    refine bu (aW ?_)
    cases hm
    exact ⟨.inr rfl,x7⟩
   ·unfold eG at x7
    dsimp only at x7
    obtain ⟨rfl,x7⟩:=x7
    refine bc ?_
    refine aO ?_
    refine see x7 fun O G hf=>?_
    simp only [Fits,ba,bb,and_true] at hf
    refine srs hn ?_
    simp -dsimp
    cases hm
    exact aT ⟨.inr rfl,EE.here (by simp -dsimp)⟩
theorem c_R07_before (a b:Point) (r:Bool) (hm:m_R07_before a b = some r):PureCall Tryz.prog 52 [.u (.agg [dI a.X,dI a.Y]),.u (.agg [dI b.X,dI b.Y])] (vT r):=by
 refine bD Tryz.func52 Tryz.ntmps52 fun cx hn=>?_
 unfold m_R07_before at hm
 refine srs hn ?_
 simp -dsimp
 obtain ⟨a1,j3,hm⟩:=bnd hm
 refine scE [(4,vT a1)] [] ?_ fun O G hf=>?_
 ·replace hm:=j3
  clear j3
  refine sr1 hn ?_
  rcases aZ hm with ⟨c1,hm⟩ | ⟨c1,hm⟩
  ·simp -dsimp [c1]
   cases hm
   exact EE.here (by simp -dsimp)
  ·rcases aZ hm with ⟨c2,hm⟩ | ⟨c2,hm⟩
   ·simp -dsimp [c1,c2]
    cases hm
    exact EE.here (by simp -dsimp)
   ·simp -dsimp [c1,c2]
    cases hm
    exact EE.here (by simp -dsimp)
 ·clear j3
  simp only [Fits,ba,bb,and_true] at hf
  cases hm
  exact aT ⟨.inr rfl,EE.here (by simp -dsimp [hf])⟩
def dw (cx:Cx) (_l:List Point) (tt:Bool ⊕ Unit) (ee:Exit) (O:Env) (G:Sto):Prop:=match tt with
 | .inl r=>ee = .ret /\ EE cx (fun O G=>∃ v,e9 tb O G Tryz.f20.results.toList = some v /\ (v.frz G).free = true /\ (v.frz G).wk (vT r)) O G
 | .inr _u=>ee = .exit 0 /\ EE cx (bw [] []) O G
theorem l_R07_Right_1 (cx:Cx) (hn:cx.n = 55) (l:List Point) {fu:Nat} {stt:Int} {tt:Bool ⊕ Unit} (hh:aV (b_R07_Right_1 l) fu stt = some tt) {O:Env} {G:Sto}
  (hE:bH (fun i:Int=>[(0,.u (.one (dR1 l))),(3,vI i)]) (fun _i:Int=>[]) stt O G):Swp Tryz.prog cx (.loop (cr [1,1,0,1,0,0] (bq Tryz.f20))) O G (dw cx l tt):=by
 refine bL hE hh (dw cx l) ?_
 rintro i r hm O G hf
 simp only [Fits,ba,bb,and_true] at hf
 unfold b_R07_Right_1 at hm
 dsimp only at hm
 refine aU ?_
 refine srs hn ?_
 simp -dsimp [hf]
 rcases aZ hm with ⟨c3,hm⟩ | ⟨c3,hm⟩
 ·refine aQ (by simp -dsimp) c3 ?_
  refine aS (aO (aU (aY ?_)))
  refine srs hn ?_
  obtain ⟨x,h4,hm⟩:=bnd hm
  simp -dsimp [hf,c3,h4]
  obtain ⟨a1,j13,hm⟩:=bnd hm
  refine scE [(0,.u (.one (dR1 l))),(3,vI i),(54,vT a1)] [] ?_ fun O G hf=>?_
  ·replace hm:=j13
   clear j13
   refine sw_qt bA mixed (by rw [hn]; kernel_rfl) ?_
   rcases aZ hm with ⟨c5,hm⟩ | ⟨c5,hm⟩
   ·simp -dsimp [c5]
    cases hm
    exact EE.here (by simp -dsimp [hf])
   ·rcases aZ hm with ⟨c6,hm⟩ | ⟨c6,hm⟩
    ·simp -dsimp [c5,c6]
     cases hm
     exact EE.here (by simp -dsimp [hf])
    ·rcases aZ hm with ⟨c7,hm⟩ | ⟨c7,hm⟩
     ·simp -dsimp [c5,c6,c7]
      cases hm
      exact EE.here (by simp -dsimp [hf])
     ·rcases aZ hm with ⟨c8,hm⟩ | ⟨c8,hm⟩
      ·simp -dsimp [c5,c6,c7,c8]
       cases hm
       exact EE.here (by simp -dsimp [hf])
      ·rcases aZ hm with ⟨c9,hm⟩ | ⟨c9,hm⟩
       ·obtain ⟨x1,h10,hm⟩:=bnd hm
        obtain ⟨y,h11,hm⟩:=bnd hm
        simp -dsimp [hf,c5,c6,c7,c8,c9,h10]
        refine bl (c_R07_before x1 x y h11) ?_
        simp -dsimp
        cases hm
        exact EE.here (by simp -dsimp [hf])
       ·simp -dsimp [hf,c5,c6,c7,c8,c9]
        cases hm
        exact EE.here (by simp -dsimp [hf])
  ·clear j13
   simp only [Fits,ba,bb,and_true] at hf
   rcases aZ hm with ⟨c12,hm⟩ | ⟨c12,hm⟩
   ·refine aQ (by simp -dsimp [hf]) c12 ?_
    refine srs hn ?_
    simp -dsimp
    refine aT (bu (aW ?_))
    cases hm
    refine be nofun ?_
    exact ⟨rfl,EE.here (by simp -dsimp [Tryz.results20])⟩
   ·refine aP (by simp -dsimp [hf]) c12 ?_
    refine aS ?_
    refine bh ?_
    refine aO ?_
    refine sr1 hn ?_
    simp -dsimp [hf]
    cases hm
    refine bf ?_
    exact EE.here (by simp -dsimp [hf])
 ·refine aP (by simp -dsimp) c3 ?_
  refine bd ?_
  refine aW ?_
  cases hm
  refine be nofun ?_
  exact ⟨rfl,EE.here (by simp -dsimp [c3])⟩
theorem c_R07_Right (l:List Point) (r:Bool) (hm:m_R07_Right l = some r):PureCall Tryz.prog 20 [.u (.one (dR1 l))] (vT r):=by
 refine bD Tryz.func20 Tryz.ntmps20 fun cx hn=>?_
 unfold m_R07_Right at hm
 refine srs hn ?_
 simp -dsimp
 refine aU ?_
 obtain ⟨a,j16,hm⟩:=bnd hm
 refine scE [(0,.u (.one (dR1 l))),(12,vT a)] [] ?_ fun O G hf=>?_
 ·replace hm:=j16
  clear j16
  refine sr1 hn ?_
  rcases aZ hm with ⟨c1,hm⟩ | ⟨c1,hm⟩
  ·simp -dsimp [c1]
   cases hm
   exact EE.here (by simp -dsimp)
  ·simp -dsimp [c1]
   cases hm
   exact EE.here (by simp -dsimp)
 ·clear j16
  simp only [Fits,ba,bb,and_true] at hf
  rcases aZ hm with ⟨c2,hm⟩ | ⟨c2,hm⟩
  ·refine aQ (by simp -dsimp [hf]) c2 ?_
   refine srs hn ?_
   simp -dsimp
   refine aT (aW ?_)
   cases hm
   refine ⟨.inr rfl,?_⟩
   exact EE.here (by simp -dsimp)
  ·refine aP (by simp -dsimp [hf]) c2 ?_
   refine aS (aO (aU ?_))
   refine srs hn ?_
   simp -dsimp
   refine aY ?_
   obtain ⟨o_,g14,hm⟩:=bnd hm
   refine br (l_R07_Right_1 cx hn l g14) (by
     try dsimp only
     exact EE.here (by simp -dsimp [hf])
   ) fun ee O G x15=>?_
   rcases o_ with r | _u
   ·unfold dw at x15
    dsimp only at x15
    obtain ⟨rfl,x15⟩:=x15
    refine bu (aW ?_)
    cases hm
    exact ⟨.inr rfl,x15⟩
   ·unfold dw at x15
    dsimp only at x15
    obtain ⟨rfl,x15⟩:=x15
    refine bc ?_
    refine aO ?_
    refine see x15 fun O G hf=>?_
    simp only [Fits,ba,bb,and_true] at hf
    refine srs hn ?_
    simp -dsimp
    cases hm
    exact aT ⟨.inr rfl,EE.here (by simp -dsimp)⟩
def cJ (cx:Cx) (t:Tree) (i:Int) (_x:Node) (tt:Bool ⊕ Unit) (ee:Exit) (O:Env) (G:Sto):Prop:=match tt with
 | .inl r=>ee = .ret /\ EE cx (fun O G=>∃ v,e9 tb O G Tryz.f10.results.toList = some v /\ (v.frz G).free = true /\ (v.frz G).wk (vT r)) O G
 | .inr _u=>ee = .exit 2 /\ EE cx (bw [(1,vX 1),(3,vI (aX t.Nodes)),(4,vI i)] [(1,.box [dI t.States,dR1 t.Hood,dR0 t.Nodes])]) O G
theorem l_R12_Right_2 (cx:Cx) (hn:cx.n = 115) (t:Tree) (i:Int) (x:Node) {fu:Nat} {stt:Int} {tt:Bool ⊕ Unit} (hh:aV (b_R12_Right_2 t i x) fu stt = some tt) {O:Env} {G:Sto}
  (hE:bH (fun s:Int=>[(1,vX 1),(3,vI (aX t.Nodes)),(4,vI i),(5,vX 5),(6,vI s)]) (fun _s:Int=>[(1,.box [dI t.States,dR1 t.Hood,dR0 t.Nodes]),(5,.box [dI x.Level,dL x.Next])]) stt O G):Swp Tryz.prog cx (.loop (cr [1,1,1,0,1,0,0,1,0,0,1,1,1,0,0] (bq Tryz.f10))) O G (cJ cx t i x tt):=by
 refine bL hE hh (cJ cx t i x) ?_
 rintro s r hm O G hf
 simp only [Fits,ba,bb,and_true] at hf
 unfold b_R12_Right_2 at hm
 dsimp only at hm
 refine aU ?_
 refine srs hn ?_
 simp -dsimp [hf]
 rcases aZ hm with ⟨c12,hm⟩ | ⟨c12,hm⟩
 ·refine aQ (by simp -dsimp) c12 ?_
  refine aS (aO (aU (aY ?_)))
  refine srs hn ?_
  obtain ⟨x1,h13,hm⟩:=bnd hm
  simp -dsimp [hf,c12,h13]
  refine aU ?_
  refine srs hn ?_
  simp -dsimp
  rcases aZ hm with ⟨c14,hm⟩ | ⟨c14,hm⟩
  ·refine aQ (by simp -dsimp) c14 ?_
   refine srs hn ?_
   simp -dsimp [c14]
   refine aT (aW (bu (aW ?_)))
   cases hm
   refine be nofun ?_
   exact ⟨rfl,EE.here (by simp -dsimp [Tryz.results10])⟩
  ·refine aP (by simp -dsimp) c14 ?_
   refine aS (aO (aU ?_))
   obtain ⟨a2,j22,hm⟩:=bnd hm
   refine scE [(1,vX 1),(3,vI (aX t.Nodes)),(4,vI i),(5,vX 5),(6,vI s),(7,vI x1),(83,vT a2)] [(1,.box [dI t.States,dR1 t.Hood,dR0 t.Nodes]),(5,.box [dI x.Level,dL x.Next])] ?_ fun O G hf=>?_
   ·replace hm:=j22
    clear j22
    refine sr1 hn ?_
    rcases aZ hm with ⟨c15,hm⟩ | ⟨c15,hm⟩
    ·simp -dsimp [hf,c14,c15]
     cases hm
     exact EE.here (by simp -dsimp [hf])
    ·simp -dsimp [hf,c14,c15]
     cases hm
     exact EE.here (by simp -dsimp [hf])
   ·clear j22
    simp only [Fits,ba,bb,and_true] at hf
    rcases aZ hm with ⟨c16,hm⟩ | ⟨c16,hm⟩
    ·refine aQ (by simp -dsimp [hf]) c16 ?_
     refine srs hn ?_
     simp -dsimp
     refine aT (aW (bu (aW ?_)))
     cases hm
     refine be nofun ?_
     exact ⟨rfl,EE.here (by simp -dsimp [Tryz.results10])⟩
    ·refine aP (by simp -dsimp [hf]) c16 ?_
     refine aS (aO ?_)
     obtain ⟨a3,j21,hm⟩:=bnd hm
     refine scE [(1,vX 1),(3,vI (aX t.Nodes)),(4,vI i),(5,vX 5),(6,vI s),(103,vT a3)] [(1,.box [dI t.States,dR1 t.Hood,dR0 t.Nodes]),(5,.box [dI x.Level,dL x.Next])] ?_ fun O G hf=>?_
     ·replace hm:=j21
      clear j21
      refine sw_qt bA mixed (by rw [hn]; kernel_rfl) ?_
      rcases aZ hm with ⟨c17,hm⟩ | ⟨c17,hm⟩
      ·rcases aZ hm with ⟨c18,hm⟩ | ⟨c18,hm⟩
       ·simp -dsimp [hf,c17,c18]
        cases hm
        exact EE.here (by simp -dsimp [hf])
       ·obtain ⟨x2,h19,hm⟩:=bnd hm
        simp -dsimp [hf,c17,c18,h19]
        cases hm
        exact EE.here (by simp -dsimp [hf])
      ·simp -dsimp [hf,c17]
       cases hm
       exact EE.here (by simp -dsimp [hf])
     ·clear j21
      simp only [Fits,ba,bb,and_true] at hf
      rcases aZ hm with ⟨c20,hm⟩ | ⟨c20,hm⟩
      ·refine aQ (by simp -dsimp [hf]) c20 ?_
       refine srs hn ?_
       simp -dsimp
       refine aT (bu (aW ?_))
       cases hm
       refine be nofun ?_
       exact ⟨rfl,EE.here (by simp -dsimp [Tryz.results10])⟩
      ·refine aP (by simp -dsimp [hf]) c20 ?_
       refine aS ?_
       refine bh ?_
       refine aO ?_
       refine sr1 hn ?_
       simp -dsimp [hf]
       cases hm
       refine bf ?_
       exact EE.here (by simp -dsimp [hf])
 ·refine aP (by simp -dsimp) c12 ?_
  refine bd ?_
  refine aW ?_
  cases hm
  refine be nofun ?_
  exact ⟨rfl,EE.here (by simp -dsimp [hf,c12])⟩
def cX (cx:Cx) (t:Tree) (tt:Bool ⊕ Unit) (ee:Exit) (O:Env) (G:Sto):Prop:=match tt with
 | .inl r=>ee = .ret /\ EE cx (fun O G=>∃ v,e9 tb O G Tryz.f10.results.toList = some v /\ (v.frz G).free = true /\ (v.frz G).wk (vT r)) O G
 | .inr _u=>ee = .exit 0 /\ EE cx (bw [(1,vX 1),(3,vI (aX t.Nodes))] [(1,.box [dI t.States,dR1 t.Hood,dR0 t.Nodes])]) O G
theorem l_R12_Right_1 (cx:Cx) (hn:cx.n = 115) (t:Tree) {fu:Nat} {stt:Int} {tt:Bool ⊕ Unit} (hh:aV (b_R12_Right_1 t) fu stt = some tt) {O:Env} {G:Sto}
  (hE:bH (fun i:Int=>[(1,vX 1),(3,vI (aX t.Nodes)),(4,vI i)]) (fun _i:Int=>[(1,.box [dI t.States,dR1 t.Hood,dR0 t.Nodes])]) stt O G):Swp Tryz.prog cx (.loop (cr [1,1,1,0,1,0,0] (bq Tryz.f10))) O G (cX cx t tt):=by
 refine bL hE hh (cX cx t) ?_
 rintro i r hm O G hf
 simp only [Fits,ba,bb,and_true] at hf
 unfold b_R12_Right_1 at hm
 dsimp only at hm
 refine aU ?_
 refine srs hn ?_
 simp -dsimp [hf]
 rcases aZ hm with ⟨c7,hm⟩ | ⟨c7,hm⟩
 ·refine aQ (by simp -dsimp) c7 ?_
  refine aS (aO (aU (aY ?_)))
  refine srs hn ?_
  obtain ⟨x,h8,hm⟩:=bnd hm
  simp -dsimp [hf,c7,h8]
  refine aU ?_
  obtain ⟨a1,j25,hm⟩:=bnd hm
  refine scE [(1,vX 1),(3,vI (aX t.Nodes)),(4,vI i),(5,vX 5),(61,vT a1)] [(1,.box [dI t.States,dR1 t.Hood,dR0 t.Nodes]),(5,.box [dI x.Level,dL x.Next])] ?_ fun O G hf=>?_
  ·replace hm:=j25
   clear j25
   refine sr1 hn ?_
   rcases aZ hm with ⟨c9,hm⟩ | ⟨c9,hm⟩
   ·simp -dsimp [c9]
    cases hm
    exact EE.here (by simp -dsimp [hf])
   ·rcases aZ hm with ⟨c10,hm⟩ | ⟨c10,hm⟩
    ·simp -dsimp [hf,c9,c10]
     cases hm
     exact EE.here (by simp -dsimp [hf])
    ·simp -dsimp [hf,c9,c10]
     cases hm
     exact EE.here (by simp -dsimp [hf])
  ·clear j25
   simp only [Fits,ba,bb,and_true] at hf
   rcases aZ hm with ⟨c11,hm⟩ | ⟨c11,hm⟩
   ·refine aQ (by simp -dsimp [hf]) c11 ?_
    refine srs hn ?_
    simp -dsimp
    refine aT (aW (bu (aW ?_)))
    cases hm
    refine be nofun ?_
    exact ⟨rfl,EE.here (by simp -dsimp [Tryz.results10])⟩
   ·refine aP (by simp -dsimp [hf]) c11 ?_
    refine aS (aO ?_)
    refine srs hn ?_
    simp -dsimp
    refine aY ?_
    obtain ⟨o_,g23,hm⟩:=bnd hm
    refine br (l_R12_Right_2 cx hn t i x g23) (by
      try dsimp only
      exact EE.here (by simp -dsimp [hf])
    ) fun ee O G x24=>?_
    rcases o_ with r | _u
    ·unfold cJ at x24
     dsimp only at x24
     obtain ⟨rfl,x24⟩:=x24
     refine bu (bu (aW ?_))
     cases hm
     refine be nofun ?_
     unfold cX
     dsimp only
     refine ⟨rfl,?_⟩
     exact x24
    ·unfold cJ at x24
     dsimp only at x24
     obtain ⟨rfl,x24⟩:=x24
     refine bc ?_
     refine bh ?_
     refine aO ?_
     refine see x24 fun O G hf=>?_
     simp only [Fits,ba,bb,and_true] at hf
     refine sr1 hn ?_
     simp -dsimp [hf]
     cases hm
     refine bf ?_
     exact EE.here (by simp -dsimp [hf])
 ·refine aP (by simp -dsimp) c7 ?_
  refine bd ?_
  refine aW ?_
  cases hm
  refine be nofun ?_
  exact ⟨rfl,EE.here (by simp -dsimp [hf,c7])⟩
theorem c_R12_Right (t:Tree) (r:Bool) (hm:m_R12_Right t = some r):PureCall Tryz.prog 10 [.u (.agg [dI t.States,dR1 t.Hood,dR0 t.Nodes])] (vT r):=by
 refine bD Tryz.func10 Tryz.ntmps10 fun cx hn=>?_
 unfold m_R12_Right at hm
 refine srs hn ?_
 simp -dsimp
 refine srs hn ?_
 simp -dsimp
 refine aU ?_
 obtain ⟨a,j29,hm⟩:=bnd hm
 refine scE [(1,vX 1),(3,vI (aX t.Nodes)),(32,vT a)] [(1,.box [dI t.States,dR1 t.Hood,dR0 t.Nodes])] ?_ fun O G hf=>?_
 ·replace hm:=j29
  clear j29
  refine sr1 hn ?_
  rcases aZ hm with ⟨c1,hm⟩ | ⟨c1,hm⟩
  ·simp -dsimp [c1]
   cases hm
   exact EE.here (by simp -dsimp)
  ·rcases aZ hm with ⟨c2,hm⟩ | ⟨c2,hm⟩
   ·simp -dsimp [c1,c2]
    cases hm
    exact EE.here (by simp -dsimp)
   ·obtain ⟨y,h3,hm⟩:=bnd hm
    simp -dsimp [c1,c2]
    refine aR (c_R07_Right t.Hood y h3) (dkL hn) ?_
    rcases aZ hm with ⟨c4,hm⟩ | ⟨c4,hm⟩
    ·simp -dsimp [c4]
     cases hm
     exact EE.here (by simp -dsimp)
    ·rcases aZ hm with ⟨c5,hm⟩ | ⟨c5,hm⟩
     ·simp -dsimp [c4,c5]
      cases hm
      exact EE.here (by simp -dsimp)
     ·simp -dsimp [c4,c5]
      cases hm
      exact EE.here (by simp -dsimp)
 ·clear j29
  simp only [Fits,ba,bb,and_true] at hf
  rcases aZ hm with ⟨c6,hm⟩ | ⟨c6,hm⟩
  ·refine aQ (by simp -dsimp [hf]) c6 ?_
   refine srs hn ?_
   simp -dsimp
   refine aT (aW ?_)
   cases hm
   refine ⟨.inr rfl,?_⟩
   exact EE.here (by simp -dsimp)
  ·refine aP (by simp -dsimp [hf]) c6 ?_
   refine aS (aO (aU ?_))
   refine srs hn ?_
   simp -dsimp
   refine aY ?_
   obtain ⟨o_,g26,hm⟩:=bnd hm
   refine br (l_R12_Right_1 cx hn t g26) (by
     try dsimp only
     exact EE.here (by simp -dsimp [hf])
   ) fun ee O G x27=>?_
   rcases o_ with r | _u
   ·unfold cX at x27
    dsimp only at x27
    obtain ⟨rfl,x27⟩:=x27
    refine bu (aW ?_)
    cases hm
    exact ⟨.inr rfl,x27⟩
   ·unfold cX at x27
    dsimp only at x27
    obtain ⟨rfl,x27⟩:=x27
    refine bc ?_
    refine aO ?_
    refine see x27 fun O G hf=>?_
    simp only [Fits,ba,bb,and_true] at hf
    refine fh bA mixed (by rw [hn]; kernel_rfl) ?_
    obtain ⟨x,h28,hm⟩:=bnd hm
    simp -dsimp [hf,h28]
    cases hm
    exact aT ⟨.inr rfl,EE.here (by simp -dsimp)⟩
theorem cU (s ax:List UInt8) (r:Bool) (hm:m_internal_stringslite_HasPrefix s ax = some r):PureCall Tryz.prog 108 [.u (.one (.d (.str (bs s)))),.u (.one (.d (.str (bs ax))))] (vT r):=by
 refine bD Tryz.func108 Tryz.ntmps108 fun cx hn=>?_
 unfold m_internal_stringslite_HasPrefix at hm
 refine srs hn ?_
 simp -dsimp
 obtain ⟨a,j3,hm⟩:=bnd hm
 refine scE [(4,vT a)] [] ?_ fun O G hf=>?_
 ·replace hm:=j3
  clear j3
  refine sr1 hn ?_
  rcases aZ hm with ⟨c1,hm⟩ | ⟨c1,hm⟩
  ·obtain ⟨s1,h2,hm⟩:=bnd hm
   simp -dsimp [c1,h2]
   cases hm
   exact EE.here (by simp -dsimp)
  ·simp -dsimp [c1]
   cases hm
   exact EE.here (by simp -dsimp)
 ·clear j3
  simp only [Fits,ba,bb,and_true] at hf
  cases hm
  exact aT ⟨.inr rfl,EE.here (by simp -dsimp [hf])⟩
theorem eU (s ax:List UInt8) (r:(List UInt8)×Bool) (hm:m_internal_stringslite_CutPrefix s ax = some r):PureCall Tryz.prog 120 [.u (.one (.d (.str (bs s)))),.u (.one (.d (.str (bs ax))))] (.tup [.one (.d (.str (bs r.1))),.one (.d (.bool r.2))]):=by
 refine bD Tryz.func120 Tryz.ntmps120 fun cx hn=>?_
 unfold m_internal_stringslite_CutPrefix at hm
 refine srs hn ?_
 simp -dsimp
 refine aU ?_
 refine srs hn ?_
 obtain ⟨y,h1,hm⟩:=bnd hm
 simp -dsimp
 refine aR (cU s ax y h1) (dkL hn) ?_
 simp -dsimp
 rcases aZ hm with ⟨c2,hm⟩ | ⟨c2,hm⟩
 ·refine aQ (by simp -dsimp) c2 ?_
  refine srs hn ?_
  simp -dsimp [c2]
  refine aT (aW ?_)
  cases hm
  refine ⟨.inr rfl,?_⟩
  exact EE.here (by simp -dsimp)
 ·refine aP (by simp -dsimp) c2 ?_
  refine aS (aO ?_)
  refine srs hn ?_
  obtain ⟨s1,h3,hm⟩:=bnd hm
  simp -dsimp [c2,h3]
  cases hm
  exact aT ⟨.inr rfl,EE.here (by simp -dsimp)⟩
theorem cq (s ax:List UInt8) (r:(List UInt8)×Bool) (hm:m_strings_CutPrefix s ax = some r):PureCall Tryz.prog 65 [.u (.one (.d (.str (bs s)))),.u (.one (.d (.str (bs ax))))] (.tup [.one (.d (.str (bs r.1))),.one (.d (.bool r.2))]):=by
 refine bD Tryz.func65 Tryz.ntmps65 fun cx hn=>?_
 unfold m_strings_CutPrefix at hm
 refine srs hn ?_
 simp -dsimp
 refine srs hn ?_
 obtain ⟨y,h1,hm⟩:=bnd hm
 simp -dsimp
 refine aR (eU s ax y h1) (dkL hn) ?_
 simp -dsimp
 cases hm
 exact aT ⟨.inr rfl,EE.here (by simp -dsimp)⟩
theorem c_strings_Cut (s sep:List UInt8) (r:(List UInt8)×(List UInt8)×Bool) (hm:m_strings_Cut s sep = some r):PureCall Tryz.prog 66 [.u (.one (.d (.str (bs s)))),.u (.one (.d (.str (bs sep))))] (.tup [.one (.d (.str (bs r.1))),.one (.d (.str (bs r.2.1))),.one (.d (.bool r.2.2))]):=cut_pure cutL (by kernel_rfl) rfl ⟨_,Tryz.func66,by decide,rfl⟩ hm
theorem c_hood_Moore_1 (x y:Int) (r:Bool) (hm:m_hood_Moore_1 x y = some r):PureCall Tryz.prog 123 [vI x,vI y] (vT r):=by
 refine bD Tryz.func123 Tryz.ntmps123 fun cx hn=>?_
 unfold m_hood_Moore_1 at hm
 refine srs hn ?_
 simp -dsimp
 refine srs hn ?_
 simp -dsimp
 cases hm
 exact aT ⟨.inr rfl,EE.here (by simp -dsimp)⟩
def bZ (cx:Cx) (r_ y:Int) (tt:(List Point)) (ee:Exit) (O:Env) (G:Sto):Prop:=match tt with
 | l1=>ee = .exit 2 /\ EE cx (bw [(0,vI r_),(1,.u (.one (.fn 123 []))),(5,vO 5000),(6,vI y)] [(5000,.row 2 49 (List.map Point.row l1))]) O G
theorem fq (cx:Cx) (hn:cx.n = 33) (r_ y:Int) {fu:Nat} {stt:Int×(List Point)} {tt:(List Point)} (hh:aV (b_hood_collect_hood_Moore_1_2 r_ y) fu stt = some tt) {O:Env} {G:Sto}
  (hE:bH (fun stt:Int×(List Point)=>match stt with | (x,_l1)=>[(0,vI r_),(1,.u (.one (.fn 123 []))),(5,vO 5000),(6,vI y),(7,vI x)]) (fun stt:Int×(List Point)=>match stt with | (_x,l1)=>[(5000,.row 2 49 (List.map Point.row l1))]) stt O G):Swp Tryz.prog cx (.loop (cr [1,1,0,1,0,0,1,0,0,1,0,0] (bq Tryz.f122))) O G (bZ cx r_ y tt):=by
 refine bL hE hh (bZ cx r_ y) ?_
 rintro ⟨x,l1⟩ r hm O G hf
 simp only [Fits,ba,bb,and_true] at hf
 unfold b_hood_collect_hood_Moore_1_2 at hm
 dsimp only at hm
 refine aU ?_
 refine srs hn ?_
 simp -dsimp [hf]
 rcases aZ hm with ⟨c2,hm⟩ | ⟨c2,hm⟩
 ·refine aQ (by simp -dsimp) c2 ?_
  refine aS (aO ?_)
  obtain ⟨l2,j6,hm⟩:=bnd hm
  refine scE [(0,vI r_),(1,.u (.one (.fn 123 []))),(5,vO 5000),(6,vI y),(7,vI x)] [(5000,.row 2 49 (List.map Point.row l2))] ?_ fun O G hf=>?_
  ·replace hm:=j6
   clear j6
   refine aY ?_
   refine srs hn ?_
   obtain ⟨y1,h3,hm⟩:=bnd hm
   simp -dsimp [hf,c2]
   refine aR (c_hood_Moore_1 x y y1 h3) (dkL hn) ?_
   simp -dsimp
   rcases aZ hm with ⟨c4,hm⟩ | ⟨c4,hm⟩
   ·refine aQ (by simp -dsimp) c4 ?_
    refine sr1 hn ?_
    obtain ⟨l2,h5,hm⟩:=bnd hm
    obtain ⟨h5a,h5e⟩:=bm h5
    replace h5e:=h5e.symm
    subst h5e
    try simp only [List.length_cons,List.length_nil,Nat.zero_add] at h5a
    simp -dsimp [hf,c4,h5a]
    refine bh ?_
    refine aO ?_
    cases hm
    refine emv 31 5000 ?_
    exact EE.here (by simp -dsimp [hf])
   ·refine aP (by simp -dsimp) c4 ?_
    refine aS ?_
    refine bh ?_
    cases hm
    exact EE.here (by simp -dsimp [hf,c4])
  ·clear j6
   simp only [Fits,ba,bb,and_true] at hf
   refine sr1 hn ?_
   simp -dsimp [hf]
   cases hm
   refine bf ?_
   exact EE.here (by simp -dsimp [hf])
 ·refine aP (by simp -dsimp) c2 ?_
  refine bd ?_
  refine aW ?_
  cases hm
  refine be nofun ?_
  exact ⟨rfl,EE.here (by simp -dsimp [hf,c2])⟩
def ca (cx:Cx) (_r_:Int) (tt:(List Point)) (ee:Exit) (O:Env) (G:Sto):Prop:=match tt with
 | l=>ee = .exit 0 /\ EE cx (bw [(5,vO 5000)] [(5000,.row 2 49 (List.map Point.row l))]) O G
theorem fj (cx:Cx) (hn:cx.n = 33) (r_:Int) {fu:Nat} {stt:Int×(List Point)} {tt:(List Point)} (hh:aV (b_hood_collect_hood_Moore_1_1 r_) fu stt = some tt) {O:Env} {G:Sto}
  (hE:bH (fun stt:Int×(List Point)=>match stt with | (y,_l)=>[(0,vI r_),(1,.u (.one (.fn 123 []))),(5,vO 5000),(6,vI y)]) (fun stt:Int×(List Point)=>match stt with | (_y,l)=>[(5000,.row 2 49 (List.map Point.row l))]) stt O G):Swp Tryz.prog cx (.loop (cr [1,1,0,1,0,0] (bq Tryz.f122))) O G (ca cx r_ tt):=by
 refine bL hE hh (ca cx r_) ?_
 rintro ⟨y,l⟩ r hm O G hf
 simp only [Fits,ba,bb,and_true] at hf
 unfold b_hood_collect_hood_Moore_1_1 at hm
 dsimp only at hm
 refine aU ?_
 refine srs hn ?_
 simp -dsimp [hf]
 rcases aZ hm with ⟨c1,hm⟩ | ⟨c1,hm⟩
 ·refine aQ (by simp -dsimp) c1 ?_
  refine aS (aO (aU (aY ?_)))
  refine srs hn ?_
  simp -dsimp [hf,c1]
  refine aY ?_
  obtain ⟨l1,g7,hm⟩:=bnd hm
  refine br (fq cx hn r_ y g7) (by
    try dsimp only
    exact EE.here (by simp -dsimp [hf])
  ) fun ee O G x8=>?_
  unfold bZ at x8
  dsimp only at x8
  obtain ⟨rfl,x8⟩:=x8
  refine bc ?_
  refine bh ?_
  refine aO ?_
  refine see x8 fun O G hf=>?_
  simp only [Fits,ba,bb,and_true] at hf
  refine sr1 hn ?_
  simp -dsimp [hf]
  cases hm
  refine bf ?_
  exact EE.here (by simp -dsimp [hf])
 ·refine aP (by simp -dsimp) c1 ?_
  refine bd ?_
  refine aW ?_
  cases hm
  refine be nofun ?_
  exact ⟨rfl,EE.here (by simp -dsimp [hf,c1])⟩
theorem fL (r_:Int) (r:List Point) (hm:m_hood_collect_hood_Moore_1 r_ = some r):PureCall Tryz.prog 122 [vI r_,.u (.one (.fn 123 []))] (.u (.one (dR1 r))):=by
 refine bD Tryz.func122 Tryz.ntmps122 fun cx hn=>?_
 unfold m_hood_collect_hood_Moore_1 at hm
 refine srs hn ?_
 simp -dsimp
 refine srs hn ?_
 simp -dsimp
 refine aU ?_
 refine srs hn ?_
 simp -dsimp
 refine aY ?_
 obtain ⟨l,g9,hm⟩:=bnd hm
 refine br (fj cx hn r_ g9) (by
   try dsimp only
   refine EE.step (Wk.own0 5 5000 2 49 (by simp -dsimp) (by decide)) ?_
   exact eeh
 ) fun ee O G x10=>?_
 unfold ca at x10
 dsimp only at x10
 obtain ⟨rfl,x10⟩:=x10
 refine bc ?_
 refine aO ?_
 refine see x10 fun O G hf=>?_
 simp only [Fits,ba,bb,and_true] at hf
 refine srs hn ?_
 simp -dsimp [hf]
 cases hm
 exact aT ⟨.inr rfl,EE.here (by simp -dsimp [hf])⟩
theorem gU (r_:Int) (r:List Point) (hm:m_hood_Moore r_ = some r):PureCall Tryz.prog 67 [vI r_] (.u (.one (dR1 r))):=by
 refine bD Tryz.func67 Tryz.ntmps67 fun cx hn=>?_
 unfold m_hood_Moore at hm
 refine srs hn ?_
 simp -dsimp
 refine aU ?_
 obtain ⟨a,j4,hm⟩:=bnd hm
 refine scE [(0,vI r_),(8,vT a)] [] ?_ fun O G hf=>?_
 ·replace hm:=j4
  clear j4
  refine sr1 hn ?_
  rcases aZ hm with ⟨c1,hm⟩ | ⟨c1,hm⟩
  ·simp -dsimp [c1]
   cases hm
   exact EE.here (by simp -dsimp)
  ·simp -dsimp [c1]
   cases hm
   exact EE.here (by simp -dsimp)
 ·clear j4
  simp only [Fits,ba,bb,and_true] at hf
  rcases aZ hm with ⟨c2,hm⟩ | ⟨c2,hm⟩
  ·refine aQ (by simp -dsimp [hf]) c2 ?_
   refine srs hn ?_
   simp -dsimp
   refine aT (aW ?_)
   cases hm
   refine ⟨.inr rfl,?_⟩
   exact EE.here (by simp -dsimp)
  ·refine aP (by simp -dsimp [hf]) c2 ?_
   refine aS (aO ?_)
   refine srs hn ?_
   obtain ⟨y,h3,hm⟩:=bnd hm
   simp -dsimp [hf]
   refine aR (fL r_ y h3) (dkL hn) ?_
   simp -dsimp
   cases hm
   exact aT ⟨.inr rfl,EE.here (by simp -dsimp)⟩
theorem eJ (s aA:List UInt8) (r:Bool) (hm:m_internal_stringslite_HasSuffix s aA = some r):PureCall Tryz.prog 156 [.u (.one (.d (.str (bs s)))),.u (.one (.d (.str (bs aA))))] (vT r):=by
 refine bD Tryz.func156 Tryz.ntmps156 fun cx hn=>?_
 unfold m_internal_stringslite_HasSuffix at hm
 refine srs hn ?_
 simp -dsimp
 obtain ⟨a,j3,hm⟩:=bnd hm
 refine scE [(4,vT a)] [] ?_ fun O G hf=>?_
 ·replace hm:=j3
  clear j3
  refine sr1 hn ?_
  rcases aZ hm with ⟨c1,hm⟩ | ⟨c1,hm⟩
  ·obtain ⟨s1,h2,hm⟩:=bnd hm
   simp -dsimp [c1,h2]
   cases hm
   exact EE.here (by simp -dsimp)
  ·simp -dsimp [c1]
   cases hm
   exact EE.here (by simp -dsimp)
 ·clear j3
  simp only [Fits,ba,bb,and_true] at hf
  cases hm
  exact aT ⟨.inr rfl,EE.here (by simp -dsimp [hf])⟩
theorem eP (s aA:List UInt8) (r:(List UInt8)×Bool) (hm:m_internal_stringslite_CutSuffix s aA = some r):PureCall Tryz.prog 124 [.u (.one (.d (.str (bs s)))),.u (.one (.d (.str (bs aA))))] (.tup [.one (.d (.str (bs r.1))),.one (.d (.bool r.2))]):=by
 refine bD Tryz.func124 Tryz.ntmps124 fun cx hn=>?_
 unfold m_internal_stringslite_CutSuffix at hm
 refine srs hn ?_
 simp -dsimp
 refine aU ?_
 refine srs hn ?_
 obtain ⟨y,h1,hm⟩:=bnd hm
 simp -dsimp
 refine aR (eJ s aA y h1) (dkL hn) ?_
 simp -dsimp
 rcases aZ hm with ⟨c2,hm⟩ | ⟨c2,hm⟩
 ·refine aQ (by simp -dsimp) c2 ?_
  refine srs hn ?_
  simp -dsimp [c2]
  refine aT (aW ?_)
  cases hm
  refine ⟨.inr rfl,?_⟩
  exact EE.here (by simp -dsimp)
 ·refine aP (by simp -dsimp) c2 ?_
  refine aS (aO ?_)
  refine srs hn ?_
  obtain ⟨s1,h3,hm⟩:=bnd hm
  simp -dsimp [c2,h3]
  cases hm
  exact aT ⟨.inr rfl,EE.here (by simp -dsimp)⟩
theorem d5 (s aA:List UInt8) (r:(List UInt8)×Bool) (hm:m_strings_CutSuffix s aA = some r):PureCall Tryz.prog 68 [.u (.one (.d (.str (bs s)))),.u (.one (.d (.str (bs aA))))] (.tup [.one (.d (.str (bs r.1))),.one (.d (.bool r.2))]):=by
 refine bD Tryz.func68 Tryz.ntmps68 fun cx hn=>?_
 unfold m_strings_CutSuffix at hm
 refine srs hn ?_
 simp -dsimp
 refine srs hn ?_
 obtain ⟨y,h1,hm⟩:=bnd hm
 simp -dsimp
 refine aR (eP s aA y h1) (dkL hn) ?_
 simp -dsimp
 cases hm
 exact aT ⟨.inr rfl,EE.here (by simp -dsimp)⟩
theorem c_hood_Neumann_1 (x y a:Int) (r:Bool) (hm:m_hood_Neumann_1 x y a = some r):PureCall Tryz.prog 125 [vI x,vI y,.u (.one (.ref ((rI .i64) a) 0))] (vT r):=by
 refine bD Tryz.func125 Tryz.ntmps125 fun cx hn=>?_
 unfold m_hood_Neumann_1 at hm
 refine srs hn ?_
 simp -dsimp
 refine srs hn ?_
 simp -dsimp
 cases hm
 exact aT ⟨.inr rfl,EE.here (by simp -dsimp)⟩
def bM (cx:Cx) (r_ cv y:Int) (tt:(List Point)) (ee:Exit) (O:Env) (G:Sto):Prop:=match tt with
 | l1=>ee = .exit 2 /\ EE cx (bw [(0,vI r_),(1,.u (.one (.fn 125 [.box 1000000 0]))),(5,vO 5000),(6,vI y)] [(5000,.row 2 49 (List.map Point.row l1)),(1000000,.box [dI cv])]) O G
theorem eI (cx:Cx) (hn:cx.n = 33) (_hk:cx.k = 1) (r_ cv y:Int) {fu:Nat} {stt:Int×(List Point)} {tt:(List Point)} (hh:aV (b_hood_collect_hood_Neumann_1_o_2 r_ cv y) fu stt = some tt) {O:Env} {G:Sto}
  (hE:bH (fun stt:Int×(List Point)=>match stt with | (x,_l1)=>[(0,vI r_),(1,.u (.one (.fn 125 [.box 1000000 0]))),(5,vO 5000),(6,vI y),(7,vI x)]) (fun stt:Int×(List Point)=>match stt with | (_x,l1)=>[(5000,.row 2 49 (List.map Point.row l1)),(1000000,.box [dI cv])]) stt O G):Swp Tryz.prog cx (.loop (cr [1,1,0,1,0,0,1,0,0,1,0,0] (bq Tryz.f122))) O G (bM cx r_ cv y tt):=by
 refine bL hE hh (bM cx r_ cv y) ?_
 rintro ⟨x,l1⟩ r hm O G hf
 simp only [Fits,ba,bb,and_true] at hf
 unfold b_hood_collect_hood_Neumann_1_o_2 at hm
 dsimp only at hm
 refine aU ?_
 refine srs hn ?_
 simp -dsimp [hf]
 rcases aZ hm with ⟨c2,hm⟩ | ⟨c2,hm⟩
 ·refine aQ (by simp -dsimp) c2 ?_
  refine aS (aO ?_)
  obtain ⟨l2,j6,hm⟩:=bnd hm
  refine scE [(0,vI r_),(1,.u (.one (.fn 125 [.box 1000000 0]))),(5,vO 5000),(6,vI y),(7,vI x)] [(5000,.row 2 49 (List.map Point.row l2)),(1000000,.box [dI cv])] ?_ fun O G hf=>?_
  ·replace hm:=j6
   clear j6
   refine aY ?_
   refine srs hn ?_
   obtain ⟨y1,h3,hm⟩:=bnd hm
   simp -dsimp [hf,c2]
   refine fQ (us':=[vI x,vI y,.u (.one (.ref ((rI .i64) cv) 0))]) (c_hood_Neumann_1 x y cv y1 h3) (by simp -dsimp [hf]) rfl (dkL hn) ?_
   simp -dsimp
   rcases aZ hm with ⟨c4,hm⟩ | ⟨c4,hm⟩
   ·refine aQ (by simp -dsimp) c4 ?_
    refine sr1 hn ?_
    obtain ⟨l2,h5,hm⟩:=bnd hm
    obtain ⟨h5a,h5e⟩:=bm h5
    replace h5e:=h5e.symm
    subst h5e
    try simp only [List.length_cons,List.length_nil,Nat.zero_add] at h5a
    simp -dsimp [hf,c4,h5a]
    refine bh ?_
    refine aO ?_
    cases hm
    refine emv 31 5000 ?_
    exact EE.here (by simp -dsimp [hf])
   ·refine aP (by simp -dsimp) c4 ?_
    refine aS ?_
    refine bh ?_
    cases hm
    exact EE.here (by simp -dsimp [hf,c4])
  ·clear j6
   simp only [Fits,ba,bb,and_true] at hf
   refine sr1 hn ?_
   simp -dsimp [hf]
   cases hm
   refine bf ?_
   exact EE.here (by simp -dsimp [hf])
 ·refine aP (by simp -dsimp) c2 ?_
  refine bd ?_
  refine aW ?_
  cases hm
  refine be nofun ?_
  exact ⟨rfl,EE.here (by simp -dsimp [hf,c2])⟩
def bN (cx:Cx) (_r_ cv:Int) (tt:(List Point)) (ee:Exit) (O:Env) (G:Sto):Prop:=match tt with
 | l=>ee = .exit 0 /\ EE cx (bw [(5,vO 5000)] [(5000,.row 2 49 (List.map Point.row l)),(1000000,.box [dI cv])]) O G
theorem eH (cx:Cx) (hn:cx.n = 33) (hk:cx.k = 1) (r_ cv:Int) {fu:Nat} {stt:Int×(List Point)} {tt:(List Point)} (hh:aV (b_hood_collect_hood_Neumann_1_o_1 r_ cv) fu stt = some tt) {O:Env} {G:Sto}
  (hE:bH (fun stt:Int×(List Point)=>match stt with | (y,_l)=>[(0,vI r_),(1,.u (.one (.fn 125 [.box 1000000 0]))),(5,vO 5000),(6,vI y)]) (fun stt:Int×(List Point)=>match stt with | (_y,l)=>[(5000,.row 2 49 (List.map Point.row l)),(1000000,.box [dI cv])]) stt O G):Swp Tryz.prog cx (.loop (cr [1,1,0,1,0,0] (bq Tryz.f122))) O G (bN cx r_ cv tt):=by
 refine bL hE hh (bN cx r_ cv) ?_
 rintro ⟨y,l⟩ r hm O G hf
 simp only [Fits,ba,bb,and_true] at hf
 unfold b_hood_collect_hood_Neumann_1_o_1 at hm
 dsimp only at hm
 refine aU ?_
 refine srs hn ?_
 simp -dsimp [hf]
 rcases aZ hm with ⟨c1,hm⟩ | ⟨c1,hm⟩
 ·refine aQ (by simp -dsimp) c1 ?_
  refine aS (aO (aU (aY ?_)))
  refine srs hn ?_
  simp -dsimp [hf,c1]
  refine aY ?_
  obtain ⟨l1,g7,hm⟩:=bnd hm
  refine br (eI cx hn hk r_ cv y g7) (by
    try dsimp only
    exact EE.here (by simp -dsimp [hf])
  ) fun ee O G x8=>?_
  unfold bM at x8
  dsimp only at x8
  obtain ⟨rfl,x8⟩:=x8
  refine bc ?_
  refine bh ?_
  refine aO ?_
  refine see x8 fun O G hf=>?_
  simp only [Fits,ba,bb,and_true] at hf
  refine sr1 hn ?_
  simp -dsimp [hf]
  cases hm
  refine bf ?_
  exact EE.here (by simp -dsimp [hf])
 ·refine aP (by simp -dsimp) c1 ?_
  refine bd ?_
  refine aW ?_
  cases hm
  refine be nofun ?_
  exact ⟨rfl,EE.here (by simp -dsimp [hf,c1])⟩
theorem eV (r_ cv:Int) (r:List Point) (hm:m_hood_collect_hood_Neumann_1_o r_ cv = some r):GFn Tryz.prog 122 [vI r_,.u (.one (.fn 125 [.box 1000000 0]))] [.box [dI cv]] (vO 1000001) [some (.box [dI cv]),some (.row 2 49 (List.map Point.row r))]:=by
 refine cy bA _ Tryz.func122 rfl (by kernel_rfl) (by simp [Tryz.ntmps122]) (by simp) (by first | rfl | simp) (by first | rfl | simp) fun cx hn hk=>?_
 replace hn:cx.n = 33:=hn.trans Tryz.ntmps122
 replace hk:cx.k = 1:=hk
 unfold m_hood_collect_hood_Neumann_1_o at hm
 refine srs hn ?_
 simp -dsimp
 refine srs hn ?_
 simp -dsimp
 refine aU ?_
 refine srs hn ?_
 simp -dsimp
 refine aY ?_
 obtain ⟨l,g9,hm⟩:=bnd hm
 refine br (eH cx hn hk r_ cv g9) (by
   try dsimp only
   refine EE.step (Wk.own0 5 5000 2 49 (by simp -dsimp) (by decide)) ?_
   exact eeh
 ) fun ee O G x10=>?_
 unfold bN at x10
 dsimp only at x10
 obtain ⟨rfl,x10⟩:=x10
 refine bc ?_
 refine aO ?_
 refine see x10 fun O G hf=>?_
 simp only [Fits,ba,bb,and_true] at hf
 refine srs hn ?_
 simp -dsimp [hf]
 refine aT ?_
 cases hm
 refine ⟨.inr rfl,?_⟩
 refine emr 5000 1000001 hk ?_
 exact EE.here (by simp -dsimp [hf])
end Go.Proofs.YtlcdmiapdfdcaaaGreatDoor
