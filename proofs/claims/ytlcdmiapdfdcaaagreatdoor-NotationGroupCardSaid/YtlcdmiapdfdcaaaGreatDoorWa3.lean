/- That the code does what the functions say (made by cc.py). -/
import Derived.Test.YtlcdmiapdfdcaaaGreatDoorWa2
namespace Go.Proofs.YtlcdmiapdfdcaaaGreatDoor
open Go.AM Go.Proofs
set_option maxRecDepth 100000
attribute [-simp] qlookup cR dQ Ob.wipe Ob.ren Ob.frz1
theorem dY (s:List UInt8) (r:Av×Int) (hm:m_generations_Parse s = some r):PureCall Tryz.prog 31 [.u (.one (.d (.str (bs s))))] (.tup [.agg [dR1 r.1.Hood,dI r.1.States,dL r.1.Birth,dL r.1.Survive],.one (dI r.2)]):=by
 refine bD Tryz.func31 Tryz.ntmps31 fun cx hn=>?_
 unfold m_generations_Parse at hm
 refine srs hn ?_
 simp -dsimp
 refine srs hn ?_
 obtain ⟨y,h1,hm⟩:=bnd hm
 simp -dsimp
 refine aR (gU 1 y h1) (dkL hn) ?_
 simp -dsimp
 obtain ⟨⟨s1,am⟩,j50,hm⟩:=bnd hm
 refine scE [(0,.u (.one (.d (.str (bs s1))))),(2,vX 2),(4,vX 4)] [(2,.box [.d .nil,dI 0,.d .nil,.d .nil]),(4,.box [dR1 am,dI 0,.d .nil,.d .nil])] ?_ fun O G hf=>?_
 ·replace hm:=j50
  clear j50
  refine srs hn ?_
  obtain ⟨y1,h2,hm⟩:=bnd hm
  simp -dsimp
  refine aR (d5 s ([86]:List UInt8) y1 h2) (dkL hn) ?_
  simp -dsimp
  refine srs hn ?_
  simp -dsimp
  rcases aZ hm with ⟨c3,hm⟩ | ⟨c3,hm⟩
  ·refine aQ (by simp -dsimp) c3 ?_
   refine sr1 hn ?_
   obtain ⟨y2,h4,hm⟩:=bnd hm
   simp -dsimp [c3]
   refine aR (gf 1 y2 h4) (dkL hn) ?_
   simp -dsimp
   cases hm
   exact EE.here (by simp -dsimp)
  ·refine aP (by simp -dsimp) c3 ?_
   refine srs hn ?_
   obtain ⟨y2,h5,hm⟩:=bnd hm
   simp -dsimp [c3]
   refine aR (d5 s ([72]:List UInt8) y2 h5) (dkL hn) ?_
   simp -dsimp
   refine srs hn ?_
   simp -dsimp
   rcases aZ hm with ⟨c6,hm⟩ | ⟨c6,hm⟩
   ·refine aQ (by simp -dsimp) c6 ?_
    refine sr1 hn ?_
    obtain ⟨y3,h7,hm⟩:=bnd hm
    simp -dsimp [c6]
    refine aR (c_hood_Hex y3 h7) (dkL hn) ?_
    simp -dsimp
    cases hm
    exact EE.here (by simp -dsimp)
   ·refine aP (by simp -dsimp) c6 ?_
    refine aS (aO ?_)
    cases hm
    exact EE.here (by simp -dsimp [c6])
 ·clear j50
  simp only [Fits,ba,bb,and_true] at hf
  refine srs hn ?_
  obtain ⟨y1,h8,hm⟩:=bnd hm
  simp -dsimp [hf]
  refine aR (c_strings_Split s1 ([47]:List UInt8) y1 h8) (dkL hn) ?_
  simp -dsimp
  refine aU ?_
  refine srs hn ?_
  simp -dsimp
  rcases aZ hm with ⟨c9,hm⟩ | ⟨c9,hm⟩
  ·refine aQ (by simp -dsimp) c9 ?_
   refine srs hn ?_
   simp -dsimp [hf,c9]
   refine aT (aW ?_)
   cases hm
   refine ⟨.inr rfl,?_⟩
   exact EE.here (by simp -dsimp [hf])
  ·refine aP (by simp -dsimp) c9 ?_
   refine aS (aO ?_)
   refine fh bA mixed (by rw [hn]; kernel_rfl) ?_
   obtain ⟨x,h10,hm⟩:=bnd hm
   obtain ⟨x1,h11,hm⟩:=bnd hm
   obtain ⟨x2,h12,hm⟩:=bnd hm
   simp -dsimp [c9,h10,h11,h12]
   refine aU ?_
   refine srs hn ?_
   obtain ⟨y2,h13,hm⟩:=bnd hm
   simp -dsimp [hf]
   refine aR (cq s1 ([66]:List UInt8) y2 h13) (dkL hn) ?_
   simp -dsimp
   refine srs hn ?_
   simp -dsimp
   rcases aZ hm with ⟨c14,hm⟩ | ⟨c14,hm⟩
   ·refine aQ (by simp -dsimp) c14 ?_
    refine srs hn ?_
    obtain ⟨y3,h15,hm⟩:=bnd hm
    simp -dsimp [c14]
    refine aR (c_strings_Split y2.1 ([47]:List UInt8) y3 h15) (dkL hn) ?_
    simp -dsimp
    refine srs hn ?_
    obtain ⟨x3,h16,hm⟩:=bnd hm
    obtain ⟨y4,h17,hm⟩:=bnd hm
    simp -dsimp [h16]
    refine aR (cq x3 ([83]:List UInt8) y4 h17) (dkL hn) ?_
    simp -dsimp
    refine srs hn ?_
    obtain ⟨x4,h18,hm⟩:=bnd hm
    obtain ⟨y5,h19,hm⟩:=bnd hm
    simp -dsimp [h18]
    refine aR (cq x4 ([67]:List UInt8) y5 h19) (dkL hn) ?_
    simp -dsimp
    refine aU ?_
    obtain ⟨a,j36,hm⟩:=bnd hm
    refine scE [(2,vX 2),(4,vX 4),(9,.u (.one (.d (.sl 1 (List.map rT y3))))),(15,.u (.one (.d (.str (bs y4.1))))),(17,.u (.one (.d (.str (bs y5.1))))),(85,vT a)] [(2,.box [.d .nil,dI 0,.d .nil,.d .nil]),(4,.box [dR1 am,dI 0,.d .nil,.d .nil])] ?_ fun O G hf=>?_
    ·replace hm:=j36
     clear j36
     refine sr1 hn ?_
     rcases aZ hm with ⟨c20,hm⟩ | ⟨c20,hm⟩
     ·simp -dsimp [c20]
      cases hm
      exact EE.here (by simp -dsimp [hf])
     ·simp -dsimp [c20]
      cases hm
      exact EE.here (by simp -dsimp [hf])
    ·clear j36
     simp only [Fits,ba,bb,and_true] at hf
     rcases aZ hm with ⟨c21,hm⟩ | ⟨c21,hm⟩
     ·refine aQ (by simp -dsimp [hf]) c21 ?_
      refine srs hn ?_
      simp -dsimp [hf]
      refine aT (aW (aW ?_))
      cases hm
      refine ⟨.inr rfl,?_⟩
      exact EE.here (by simp -dsimp [hf])
     ·refine aP (by simp -dsimp [hf]) c21 ?_
      refine aS (aO ?_)
      refine sr1 hn ?_
      obtain ⟨x5,h22,hm⟩:=bnd hm
      simp -dsimp [hf,h22]
      refine aO ?_
      refine srs hn ?_
      obtain ⟨y6,h23,hm⟩:=bnd hm
      simp -dsimp
      refine aR (cT x5 y6 h23) (dkL hn) ?_
      simp -dsimp
      refine srs hn ?_
      obtain ⟨y7,h24,hm⟩:=bnd hm
      simp -dsimp
      refine aR (cT y4.1 y7 h24) (dkL hn) ?_
      simp -dsimp
      refine aU ?_
      obtain ⟨a1,j35,hm⟩:=bnd hm
      refine scE [(2,vX 2),(4,vX 4),(12,.u (.one (.d (.str (bs y5.1))))),(19,.u (.one (dL y6.1))),(21,.u (.one (dL y7.1))),(112,vT a1)] [(2,.box [.d .nil,dI 0,.d .nil,.d .nil]),(4,.box [dR1 am,dI 0,.d .nil,.d .nil])] ?_ fun O G hf=>?_
      ·replace hm:=j35
       clear j35
       refine sr1 hn ?_
       rcases aZ hm with ⟨c25,hm⟩ | ⟨c25,hm⟩
       ·simp -dsimp [c25]
        cases hm
        exact EE.here (by simp -dsimp [hf])
       ·rcases aZ hm with ⟨c26,hm⟩ | ⟨c26,hm⟩
        ·simp -dsimp [c25,c26]
         cases hm
         exact EE.here (by simp -dsimp [hf])
        ·obtain ⟨y8,h27,hm⟩:=bnd hm
         simp -dsimp [c25,c26]
         refine aR (fp y5.1 y8 h27) (dkL hn) ?_
         simp -dsimp
         cases hm
         exact EE.here (by simp -dsimp [hf])
      ·clear j35
       simp only [Fits,ba,bb,and_true] at hf
       rcases aZ hm with ⟨c28,hm⟩ | ⟨c28,hm⟩
       ·refine aQ (by simp -dsimp [hf]) c28 ?_
        refine srs hn ?_
        simp -dsimp [hf]
        refine aT (aW ?_)
        cases hm
        refine ⟨.inr rfl,?_⟩
        exact EE.here (by simp -dsimp [hf])
       ·refine aP (by simp -dsimp [hf]) c28 ?_
        refine aS (aO ?_)
        refine srs hn ?_
        obtain ⟨y8,h29,hm⟩:=bnd hm
        simp -dsimp [hf]
        refine aR (ga y5.1 y8 h29) (dkL hn) ?_
        simp -dsimp [hf]
        refine srs hn ?_
        simp -dsimp [hf]
        refine aU ?_
        obtain ⟨a2,j34,hm⟩:=bnd hm
        refine scE [(2,vX 2),(4,vX 4),(136,vT a2)] [(2,.box [.d .nil,dI 0,.d .nil,.d .nil]),(4,.box [dR1 am,dI y8,dL y6.1,dL y7.1])] ?_ fun O G hf=>?_
        ·replace hm:=j34
         clear j34
         refine sr1 hn ?_
         rcases aZ hm with ⟨c30,hm⟩ | ⟨c30,hm⟩
         ·simp -dsimp [hf,c30]
          cases hm
          exact EE.here (by simp -dsimp [hf])
         ·rcases aZ hm with ⟨c31,hm⟩ | ⟨c31,hm⟩
          ·simp -dsimp [hf,c30,c31]
           cases hm
           exact EE.here (by simp -dsimp [hf])
          ·obtain ⟨y9,h32,hm⟩:=bnd hm
           simp -dsimp [hf,c30,c31]
           refine aR (cA (⟨am,y8,y6.1,y7.1⟩:Av) y9 h32) (dkL hn) ?_
           simp -dsimp
           cases hm
           exact EE.here (by simp -dsimp [hf])
        ·clear j34
         simp only [Fits,ba,bb,and_true] at hf
         rcases aZ hm with ⟨c33,hm⟩ | ⟨c33,hm⟩
         ·refine aQ (by simp -dsimp [hf]) c33 ?_
          refine srs hn ?_
          simp -dsimp [hf]
          refine aT (aW ?_)
          cases hm
          refine ⟨.inr rfl,?_⟩
          exact EE.here (by simp -dsimp [hf])
         ·refine aP (by simp -dsimp [hf]) c33 ?_
          refine aS (aO ?_)
          refine srs hn ?_
          simp -dsimp [hf]
          cases hm
          exact aT ⟨.inr rfl,EE.here (by simp -dsimp [hf])⟩
   ·refine aP (by simp -dsimp) c14 ?_
    refine aS (aO ?_)
    refine srs hn ?_
    obtain ⟨y3,h37,hm⟩:=bnd hm
    simp -dsimp [c14]
    refine aR (cT x y3 h37) (dkL hn) ?_
    simp -dsimp
    refine srs hn ?_
    obtain ⟨y4,h38,hm⟩:=bnd hm
    simp -dsimp
    refine aR (cT x1 y4 h38) (dkL hn) ?_
    simp -dsimp
    refine aU ?_
    obtain ⟨a,j49,hm⟩:=bnd hm
    refine scE [(2,vX 2),(4,vX 4),(12,.u (.one (.d (.str (bs x2))))),(19,.u (.one (dL y3.1))),(21,.u (.one (dL y4.1))),(112,vT a)] [(2,.box [.d .nil,dI 0,.d .nil,.d .nil]),(4,.box [dR1 am,dI 0,.d .nil,.d .nil])] ?_ fun O G hf=>?_
    ·replace hm:=j49
     clear j49
     refine sr1 hn ?_
     rcases aZ hm with ⟨c39,hm⟩ | ⟨c39,hm⟩
     ·simp -dsimp [c39]
      cases hm
      exact EE.here (by simp -dsimp [hf])
     ·rcases aZ hm with ⟨c40,hm⟩ | ⟨c40,hm⟩
      ·simp -dsimp [c39,c40]
       cases hm
       exact EE.here (by simp -dsimp [hf])
      ·obtain ⟨y5,h41,hm⟩:=bnd hm
       simp -dsimp [c39,c40]
       refine aR (fp x2 y5 h41) (dkL hn) ?_
       simp -dsimp
       cases hm
       exact EE.here (by simp -dsimp [hf])
    ·clear j49
     simp only [Fits,ba,bb,and_true] at hf
     rcases aZ hm with ⟨c42,hm⟩ | ⟨c42,hm⟩
     ·refine aQ (by simp -dsimp [hf]) c42 ?_
      refine srs hn ?_
      simp -dsimp [hf]
      refine aT (aW ?_)
      cases hm
      refine ⟨.inr rfl,?_⟩
      exact EE.here (by simp -dsimp [hf])
     ·refine aP (by simp -dsimp [hf]) c42 ?_
      refine aS (aO ?_)
      refine srs hn ?_
      obtain ⟨y5,h43,hm⟩:=bnd hm
      simp -dsimp [hf]
      refine aR (ga x2 y5 h43) (dkL hn) ?_
      simp -dsimp [hf]
      refine srs hn ?_
      simp -dsimp [hf]
      refine aU ?_
      obtain ⟨a1,j48,hm⟩:=bnd hm
      refine scE [(2,vX 2),(4,vX 4),(136,vT a1)] [(2,.box [.d .nil,dI 0,.d .nil,.d .nil]),(4,.box [dR1 am,dI y5,dL y3.1,dL y4.1])] ?_ fun O G hf=>?_
      ·replace hm:=j48
       clear j48
       refine sr1 hn ?_
       rcases aZ hm with ⟨c44,hm⟩ | ⟨c44,hm⟩
       ·simp -dsimp [hf,c44]
        cases hm
        exact EE.here (by simp -dsimp [hf])
       ·rcases aZ hm with ⟨c45,hm⟩ | ⟨c45,hm⟩
        ·simp -dsimp [hf,c44,c45]
         cases hm
         exact EE.here (by simp -dsimp [hf])
        ·obtain ⟨y6,h46,hm⟩:=bnd hm
         simp -dsimp [hf,c44,c45]
         refine aR (cA (⟨am,y5,y3.1,y4.1⟩:Av) y6 h46) (dkL hn) ?_
         simp -dsimp
         cases hm
         exact EE.here (by simp -dsimp [hf])
      ·clear j48
       simp only [Fits,ba,bb,and_true] at hf
       rcases aZ hm with ⟨c47,hm⟩ | ⟨c47,hm⟩
       ·refine aQ (by simp -dsimp [hf]) c47 ?_
        refine srs hn ?_
        simp -dsimp [hf]
        refine aT (aW ?_)
        cases hm
        refine ⟨.inr rfl,?_⟩
        exact EE.here (by simp -dsimp [hf])
       ·refine aP (by simp -dsimp [hf]) c47 ?_
        refine aS (aO ?_)
        refine srs hn ?_
        simp -dsimp [hf]
        cases hm
        exact aT ⟨.inr rfl,EE.here (by simp -dsimp [hf])⟩
theorem c_strings_Trim (s cs r:List UInt8) (hm:m_strings_Trim s cs = some r):PureCall Tryz.prog 134 [.u (.one (.d (.str (bs s)))),.u (.one (.d (.str (bs cs))))] (.u (.one (.d (.str (bs r))))):=trim_pure trimL (by intro w; exact (Tryz.zeroValue200 w).trans (by rfl)) (by kernel_rfl) rfl ⟨_,Tryz.func134,by decide,rfl⟩ hm
theorem eZ (s:List UInt8) (r:Int×Bool×Bool) (hm:m_wolfram_number s = some r):PureCall Tryz.prog 83 [.u (.one (.d (.str (bs s))))] (.tup [.one (dI r.1),.one (.d (.bool r.2.1)),.one (.d (.bool r.2.2))]):=by
 refine bD Tryz.func83 Tryz.ntmps83 fun cx hn=>?_
 unfold m_wolfram_number at hm
 refine srs hn ?_
 simp -dsimp
 refine aU ?_
 obtain ⟨a,j9,hm⟩:=bnd hm
 refine scE [(0,.u (.one (.d (.str (bs s))))),(22,vT a)] [] ?_ fun O G hf=>?_
 ·replace hm:=j9
  clear j9
  refine sr1 hn ?_
  rcases aZ hm with ⟨c1,hm⟩ | ⟨c1,hm⟩
  ·simp -dsimp [c1]
   cases hm
   exact EE.here (by simp -dsimp)
  ·rcases aZ hm with ⟨c2,hm⟩ | ⟨c2,hm⟩
   ·obtain ⟨b,h3,hm⟩:=bnd hm
    rcases aZ hm with ⟨c4,hm⟩ | ⟨c4,hm⟩
    ·simp -dsimp [c1,c2,h3,c4]
     cases hm
     exact EE.here (by simp -dsimp)
    ·obtain ⟨y,h5,hm⟩:=bnd hm
     simp -dsimp [c1,c2,h3,c4]
     refine aR (c_strings_Trim s ([48,49,50,51,52,53,54,55,56,57]:List UInt8) y h5) (dkL hn) ?_
     simp -dsimp
     cases hm
     exact EE.here (by simp -dsimp)
   ·obtain ⟨y,h6,hm⟩:=bnd hm
    simp -dsimp [c1,c2]
    refine aR (c_strings_Trim s ([48,49,50,51,52,53,54,55,56,57]:List UInt8) y h6) (dkL hn) ?_
    simp -dsimp
    cases hm
    exact EE.here (by simp -dsimp)
 ·clear j9
  simp only [Fits,ba,bb,and_true] at hf
  rcases aZ hm with ⟨c7,hm⟩ | ⟨c7,hm⟩
  ·refine aQ (by simp -dsimp [hf]) c7 ?_
   refine srs hn ?_
   simp -dsimp
   refine aT (aW ?_)
   cases hm
   refine ⟨.inr rfl,?_⟩
   exact EE.here (by simp -dsimp)
  ·refine aP (by simp -dsimp [hf]) c7 ?_
   refine aS (aO ?_)
   refine srs hn ?_
   obtain ⟨y,h8,hm⟩:=bnd hm
   simp -dsimp [hf]
   refine aR (ga s y h8) (dkL hn) ?_
   simp -dsimp
   refine fh bA mixed (by rw [hn]; kernel_rfl) ?_
   simp -dsimp
   cases hm
   exact aT ⟨.inr rfl,EE.here (by simp -dsimp)⟩
theorem c_wolfram_sums (states r:Int) (hm:m_wolfram_sums states = some r):PureCall Tryz.prog 135 [vI states] (vI r):=by
 refine bD Tryz.func135 Tryz.ntmps135 fun cx hn=>?_
 unfold m_wolfram_sums at hm
 refine srs hn ?_
 simp -dsimp
 refine srs hn ?_
 simp -dsimp
 cases hm
 exact aT ⟨.inr rfl,EE.here (by simp -dsimp)⟩
def dj (cx:Cx) (_states _y:Int) (tt:(Int×(List Int))) (ee:Exit) (O:Env) (G:Sto):Prop:=match tt with
 | (n1,l)=>ee = .exit 0 /\ EE cx (bw [(1,vI n1),(6,vO 5000)] [(5000,.row 1 3 (List.map (rI .i64) l))]) O G
theorem l_wolfram_Digits_1 (cx:Cx) (hn:cx.n = 32) (states y:Int) {fu:Nat} {stt:Int×Int×(List Int)} {tt:(Int×(List Int))} (hh:aV (b_wolfram_Digits_1 states y) fu stt = some tt) {O:Env} {G:Sto}
  (hE:bH (fun stt:Int×Int×(List Int)=>match stt with | (n1,a1,_l)=>[(0,vI states),(1,vI n1),(6,vO 5000),(16,vI y),(17,vI a1)]) (fun stt:Int×Int×(List Int)=>match stt with | (_n1,_a1,l)=>[(5000,.row 1 3 (List.map (rI .i64) l))]) stt O G):Swp Tryz.prog cx (.loop (cr [1,1,1,1,0,1,0,0] (bq Tryz.f84))) O G (dj cx states y tt):=by
 refine bL hE hh (dj cx states y) ?_
 rintro ⟨n1,a1,l⟩ r hm O G hf
 simp only [Fits,ba,bb,and_true] at hf
 unfold b_wolfram_Digits_1 at hm
 dsimp only at hm
 refine srs hn ?_
 simp -dsimp [hf]
 refine aU ?_
 rcases aZ hm with ⟨c5,hm⟩ | ⟨c5,hm⟩
 ·refine aQ (by simp -dsimp) c5 ?_
  refine aS (aO (aU (aY ?_)))
  refine srs hn ?_
  obtain ⟨n2,h6,hm⟩:=bnd hm
  obtain ⟨l1,h7,hm⟩:=bnd hm
  obtain ⟨h7a,h7e⟩:=bm h7
  replace h7e:=h7e.symm
  subst h7e
  try simp only [List.length_cons,List.length_nil,Nat.zero_add] at h7a
  simp -dsimp [hf,c5,h6,h7a]
  refine sr1 hn ?_
  obtain ⟨n3,h8,hm⟩:=bnd hm
  simp -dsimp [hf,h8]
  refine bh ?_
  refine aO ?_
  refine sr1 hn ?_
  simp -dsimp [hf]
  cases hm
  refine bf ?_
  refine emv 24 5000 ?_
  exact EE.here (by simp -dsimp [hf])
 ·refine aP (by simp -dsimp) c5 ?_
  refine bd ?_
  refine aW ?_
  cases hm
  refine be nofun ?_
  exact ⟨rfl,EE.here (by simp -dsimp [hf,c5])⟩
theorem gH (states n:Int) (r:(List Int)×Int) (hm:m_wolfram_Digits states n = some r):PureCall Tryz.prog 84 [vI states,vI n] (.tup [.one (dL r.1),.one (dI r.2)]):=by
 refine bD Tryz.func84 Tryz.ntmps84 fun cx hn=>?_
 unfold m_wolfram_Digits at hm
 refine srs hn ?_
 simp -dsimp
 refine aU ?_
 obtain ⟨a,j12,hm⟩:=bnd hm
 refine scE [(0,vI states),(1,vI n),(12,vT a)] [] ?_ fun O G hf=>?_
 ·replace hm:=j12
  clear j12
  refine sr1 hn ?_
  rcases aZ hm with ⟨c1,hm⟩ | ⟨c1,hm⟩
  ·simp -dsimp [c1]
   cases hm
   exact EE.here (by simp -dsimp)
  ·simp -dsimp [c1]
   cases hm
   exact EE.here (by simp -dsimp)
 ·clear j12
  simp only [Fits,ba,bb,and_true] at hf
  rcases aZ hm with ⟨c2,hm⟩ | ⟨c2,hm⟩
  ·refine aQ (by simp -dsimp [hf]) c2 ?_
   refine srs hn ?_
   simp -dsimp
   refine aT (aW ?_)
   cases hm
   refine ⟨.inr rfl,?_⟩
   exact EE.here (by simp -dsimp)
  ·refine aP (by simp -dsimp [hf]) c2 ?_
   refine aS (aO (aU ?_))
   refine srs hn ?_
   simp -dsimp [hf]
   rcases aZ hm with ⟨c3,hm⟩ | ⟨c3,hm⟩
   ·refine aQ (by simp -dsimp) c3 ?_
    refine srs hn ?_
    simp -dsimp [c3]
    refine aT (aW ?_)
    cases hm
    refine ⟨.inr rfl,?_⟩
    exact EE.here (by simp -dsimp)
   ·refine aP (by simp -dsimp) c3 ?_
    refine aS (aO ?_)
    refine srs hn ?_
    simp -dsimp [c3]
    refine aU ?_
    refine srs hn ?_
    obtain ⟨y,h4,hm⟩:=bnd hm
    simp -dsimp [hf]
    refine aR (c_wolfram_sums states y h4) (dkL hn) ?_
    simp -dsimp
    refine aY ?_
    obtain ⟨⟨n1,l⟩,g9,hm⟩:=bnd hm
    refine br (l_wolfram_Digits_1 cx hn states y g9) (by
      try dsimp only
      refine EE.step (Wk.own0 6 5000 1 3 (by simp -dsimp) (by decide)) ?_
      exact EE.here (by simp -dsimp [hf])
    ) fun ee O G x10=>?_
    unfold dj at x10
    dsimp only at x10
    obtain ⟨rfl,x10⟩:=x10
    refine bc ?_
    refine aO ?_
    refine see x10 fun O G hf=>?_
    simp only [Fits,ba,bb,and_true] at hf
    refine aU ?_
    refine srs hn ?_
    simp -dsimp [hf]
    rcases aZ hm with ⟨c11,hm⟩ | ⟨c11,hm⟩
    ·refine aQ (by simp -dsimp) c11 ?_
     refine srs hn ?_
     simp -dsimp [c11]
     refine aT (aW ?_)
     cases hm
     refine ⟨.inr rfl,?_⟩
     exact EE.here (by simp -dsimp)
    ·refine aP (by simp -dsimp) c11 ?_
     refine aS (aO ?_)
     refine srs hn ?_
     simp -dsimp [hf,c11]
     cases hm
     exact aT ⟨.inr rfl,EE.here (by simp -dsimp [hf])⟩
theorem fv (s:List UInt8) (r:Int×Int×Bool×Int) (hm:m_wolfram_Parse s = some r):PureCall Tryz.prog 33 [.u (.one (.d (.str (bs s))))] (.tup [.one (dI r.1),.one (dI r.2.1),.one (.d (.bool r.2.2.1)),.one (dI r.2.2.2)]):=by
 refine bD Tryz.func33 Tryz.ntmps33 fun cx hn=>?_
 unfold m_wolfram_Parse at hm
 refine srs hn ?_
 simp -dsimp
 refine aU ?_
 refine srs hn ?_
 obtain ⟨y,h1,hm⟩:=bnd hm
 simp -dsimp
 refine aR (cq s ([87]:List UInt8) y h1) (dkL hn) ?_
 simp -dsimp
 refine srs hn ?_
 simp -dsimp
 rcases aZ hm with ⟨c2,hm⟩ | ⟨c2,hm⟩
 ·refine aQ (by simp -dsimp) c2 ?_
  refine srs hn ?_
  obtain ⟨y1,h3,hm⟩:=bnd hm
  simp -dsimp [c2]
  refine aR (eZ y.1 y1 h3) (dkL hn) ?_
  simp -dsimp
  refine aU (aY ?_)
  refine srs hn ?_
  simp -dsimp
  rcases aZ hm with ⟨c4,hm⟩ | ⟨c4,hm⟩
  ·refine aQ (by simp -dsimp) c4 ?_
   refine srs hn ?_
   simp -dsimp [c4]
   refine aT (bu (aW (aW ?_)))
   cases hm
   refine ⟨.inr rfl,?_⟩
   exact EE.here (by simp -dsimp)
  ·refine aP (by simp -dsimp) c4 ?_
   obtain ⟨a,j7,hm⟩:=bnd hm
   refine scE [(8,vI y1.1),(39,vT a)] [] ?_ fun O G hf=>?_
   ·replace hm:=j7
    clear j7
    refine sr1 hn ?_
    rcases aZ hm with ⟨c5,hm⟩ | ⟨c5,hm⟩
    ·simp -dsimp [c4,c5]
     cases hm
     exact EE.here (by simp -dsimp)
    ·simp -dsimp [c4,c5]
     cases hm
     exact EE.here (by simp -dsimp)
   ·clear j7
    simp only [Fits,ba,bb,and_true] at hf
    rcases aZ hm with ⟨c6,hm⟩ | ⟨c6,hm⟩
    ·refine aQ (by simp -dsimp [hf]) c6 ?_
     refine srs hn ?_
     simp -dsimp
     refine aT (bu (aW (aW ?_)))
     cases hm
     refine ⟨.inr rfl,?_⟩
     exact EE.here (by simp -dsimp)
    ·refine aP (by simp -dsimp [hf]) c6 ?_
     refine aS ?_
     refine bh ?_
     refine aO ?_
     refine srs hn ?_
     simp -dsimp [hf]
     refine aT (aW ?_)
     cases hm
     refine ⟨.inr rfl,?_⟩
     exact EE.here (by simp -dsimp)
 ·refine aP (by simp -dsimp) c2 ?_
  refine aS (aO ?_)
  refine srs hn ?_
  obtain ⟨y1,h8,hm⟩:=bnd hm
  simp -dsimp [c2]
  refine aR (cq s ([84]:List UInt8) y1 h8) (dkL hn) ?_
  simp -dsimp
  refine srs hn ?_
  obtain ⟨y2,h9,hm⟩:=bnd hm
  simp -dsimp
  refine aR (c_strings_Cut y1.1 ([47]:List UInt8) y2 h9) (dkL hn) ?_
  simp -dsimp
  refine srs hn ?_
  obtain ⟨y3,h10,hm⟩:=bnd hm
  simp -dsimp
  refine aR (eZ y2.1 y3 h10) (dkL hn) ?_
  simp -dsimp
  refine srs hn ?_
  obtain ⟨y4,h11,hm⟩:=bnd hm
  simp -dsimp
  refine aR (eZ y2.2.1 y4 h11) (dkL hn) ?_
  simp -dsimp
  refine aU (aY ?_)
  obtain ⟨a,j21,hm⟩:=bnd hm
  refine scE [(16,vI y3.1),(18,vT y3.2.2),(19,vI y4.1),(21,vT y4.2.2),(70,vT a)] [] ?_ fun O G hf=>?_
  ·replace hm:=j21
   clear j21
   refine sr1 hn ?_
   rcases aZ hm with ⟨c12,hm⟩ | ⟨c12,hm⟩
   ·simp -dsimp [c12]
    cases hm
    exact EE.here (by simp -dsimp)
   ·rcases aZ hm with ⟨c13,hm⟩ | ⟨c13,hm⟩
    ·simp -dsimp [c12,c13]
     cases hm
     exact EE.here (by simp -dsimp)
    ·rcases aZ hm with ⟨c14,hm⟩ | ⟨c14,hm⟩
     ·simp -dsimp [c12,c13,c14]
      cases hm
      exact EE.here (by simp -dsimp)
     ·simp -dsimp [c12,c13,c14]
      cases hm
      exact EE.here (by simp -dsimp)
  ·clear j21
   simp only [Fits,ba,bb,and_true] at hf
   rcases aZ hm with ⟨c15,hm⟩ | ⟨c15,hm⟩
   ·refine aQ (by simp -dsimp [hf]) c15 ?_
    refine srs hn ?_
    simp -dsimp
    refine aT (bu (aW ?_))
    cases hm
    refine ⟨.inr rfl,?_⟩
    exact EE.here (by simp -dsimp)
   ·refine aP (by simp -dsimp [hf]) c15 ?_
    obtain ⟨a1,j20,hm⟩:=bnd hm
    refine scE [(16,vI y3.1),(19,vI y4.1),(85,vT a1)] [] ?_ fun O G hf=>?_
    ·replace hm:=j20
     clear j20
     refine sr1 hn ?_
     rcases aZ hm with ⟨c16,hm⟩ | ⟨c16,hm⟩
     ·simp -dsimp [hf,c16]
      cases hm
      exact EE.here (by simp -dsimp [hf])
     ·simp -dsimp [hf,c16]
      cases hm
      exact EE.here (by simp -dsimp [hf])
    ·clear j20
     simp only [Fits,ba,bb,and_true] at hf
     rcases aZ hm with ⟨c17,hm⟩ | ⟨c17,hm⟩
     ·refine aQ (by simp -dsimp [hf]) c17 ?_
      refine srs hn ?_
      simp -dsimp
      refine aT (bu (aW ?_))
      cases hm
      refine ⟨.inr rfl,?_⟩
      exact EE.here (by simp -dsimp)
     ·refine aP (by simp -dsimp [hf]) c17 ?_
      refine aS ?_
      refine bh ?_
      refine aO (aU ?_)
      refine srs hn ?_
      obtain ⟨y5,h18,hm⟩:=bnd hm
      simp -dsimp [hf]
      refine aR (gH y4.1 y3.1 y5 h18) (dkL hn) ?_
      simp -dsimp
      refine srs hn ?_
      simp -dsimp
      rcases aZ hm with ⟨c19,hm⟩ | ⟨c19,hm⟩
      ·refine aQ (by simp -dsimp) c19 ?_
       refine srs hn ?_
       simp -dsimp [c19]
       refine aT (aW ?_)
       cases hm
       refine ⟨.inr rfl,?_⟩
       exact EE.here (by simp -dsimp)
      ·refine aP (by simp -dsimp) c19 ?_
       refine aS (aO ?_)
       refine srs hn ?_
       simp -dsimp [hf,c19]
       cases hm
       exact aT ⟨.inr rfl,EE.here (by simp -dsimp)⟩
theorem fA (s ax:List UInt8) (r:Bool) (hm:m_strings_HasPrefix s ax = some r):PureCall Tryz.prog 44 [.u (.one (.d (.str (bs s)))),.u (.one (.d (.str (bs ax))))] (vT r):=by
 refine bD Tryz.func44 Tryz.ntmps44 fun cx hn=>?_
 unfold m_strings_HasPrefix at hm
 refine srs hn ?_
 simp -dsimp
 refine srs hn ?_
 obtain ⟨y,h1,hm⟩:=bnd hm
 simp -dsimp
 refine aR (cU s ax y h1) (dkL hn) ?_
 simp -dsimp
 cases hm
 exact aT ⟨.inr rfl,EE.here (by simp -dsimp)⟩
theorem c_strings_Index (s sub:List UInt8) (r:Int) (hm:m_strings_Index s sub = some r):PureCall Tryz.prog 109 [.u (.one (.d (.str (bs s)))),.u (.one (.d (.str (bs sub))))] (vI r):=index_pure indexL (by kernel_rfl) rfl ⟨_,Tryz.func109,by decide,rfl⟩ hm
theorem fY (s aK:List UInt8) (r:Bool) (hm:m_strings_Contains s aK = some r):PureCall Tryz.prog 45 [.u (.one (.d (.str (bs s)))),.u (.one (.d (.str (bs aK))))] (vT r):=by
 refine bD Tryz.func45 Tryz.ntmps45 fun cx hn=>?_
 unfold m_strings_Contains at hm
 refine srs hn ?_
 simp -dsimp
 refine srs hn ?_
 obtain ⟨y,h1,hm⟩:=bnd hm
 simp -dsimp
 refine aR (c_strings_Index s aK y h1) (dkL hn) ?_
 simp -dsimp
 cases hm
 exact aT ⟨.inr rfl,EE.here (by simp -dsimp)⟩
theorem cu (s:List UInt8) (r:Int) (hm:m_notation_Kind s = some r):PureCall Tryz.prog 17 [.u (.one (.d (.str (bs s))))] (vI r):=by
 refine bD Tryz.func17 Tryz.ntmps17 fun cx hn=>?_
 unfold m_notation_Kind at hm
 refine srs hn ?_
 simp -dsimp
 refine aU ?_
 refine srs hn ?_
 obtain ⟨y,h1,hm⟩:=bnd hm
 simp -dsimp
 refine aR (f9 s y h1) (dkL hn) ?_
 simp -dsimp
 refine srs hn ?_
 simp -dsimp
 rcases aZ hm with ⟨c2,hm⟩ | ⟨c2,hm⟩
 ·refine aQ (by simp -dsimp) c2 ?_
  refine srs hn ?_
  simp -dsimp [c2]
  refine aT (aW ?_)
  cases hm
  refine ⟨.inr rfl,?_⟩
  exact EE.here (by simp -dsimp)
 ·refine aP (by simp -dsimp) c2 ?_
  refine aS (aO (aU ?_))
  refine srs hn ?_
  obtain ⟨y1,h3,hm⟩:=bnd hm
  simp -dsimp [c2]
  refine aR (dY s y1 h3) (dkL hn) ?_
  simp -dsimp
  refine srs hn ?_
  simp -dsimp
  rcases aZ hm with ⟨c4,hm⟩ | ⟨c4,hm⟩
  ·refine aQ (by simp -dsimp) c4 ?_
   refine srs hn ?_
   simp -dsimp [c4]
   refine aT (aW ?_)
   cases hm
   refine ⟨.inr rfl,?_⟩
   exact EE.here (by simp -dsimp)
  ·refine aP (by simp -dsimp) c4 ?_
   refine aS (aO (aU ?_))
   refine srs hn ?_
   obtain ⟨y2,h5,hm⟩:=bnd hm
   simp -dsimp [c4]
   refine aR (fv s y2 h5) (dkL hn) ?_
   simp -dsimp
   refine srs hn ?_
   simp -dsimp
   rcases aZ hm with ⟨c6,hm⟩ | ⟨c6,hm⟩
   ·refine aQ (by simp -dsimp) c6 ?_
    refine aY ?_
    refine srs hn ?_
    obtain ⟨y3,h7,hm⟩:=bnd hm
    simp -dsimp [c6]
    refine aR (fA s ([87]:List UInt8) y3 h7) (dkL hn) ?_
    simp -dsimp
    rcases aZ hm with ⟨c8,hm⟩ | ⟨c8,hm⟩
    ·refine aQ (by simp -dsimp) c8 ?_
     refine srs hn ?_
     simp -dsimp [c8]
     refine aT (bu (aW ?_))
     cases hm
     refine ⟨.inr rfl,?_⟩
     exact EE.here (by simp -dsimp)
    ·refine aP (by simp -dsimp) c8 ?_
     refine srs hn ?_
     obtain ⟨y4,h9,hm⟩:=bnd hm
     simp -dsimp [c8]
     refine aR (fA s ([84]:List UInt8) y4 h9) (dkL hn) ?_
     simp -dsimp
     rcases aZ hm with ⟨c10,hm⟩ | ⟨c10,hm⟩
     ·refine aQ (by simp -dsimp) c10 ?_
      refine srs hn ?_
      simp -dsimp [c10]
      refine aT (bu (aW ?_))
      cases hm
      refine ⟨.inr rfl,?_⟩
      exact EE.here (by simp -dsimp)
     ·refine aP (by simp -dsimp) c10 ?_
      refine aS ?_
      refine bh ?_
      refine aO (aU ?_)
      refine srs hn ?_
      obtain ⟨y5,h11,hm⟩:=bnd hm
      simp -dsimp [c10]
      refine aR (fY s ([10]:List UInt8) y5 h11) (dkL hn) ?_
      simp -dsimp
      rcases aZ hm with ⟨c12,hm⟩ | ⟨c12,hm⟩
      ·refine aQ (by simp -dsimp) c12 ?_
       refine srs hn ?_
       simp -dsimp [c12]
       refine aT (aW ?_)
       cases hm
       refine ⟨.inr rfl,?_⟩
       exact EE.here (by simp -dsimp)
      ·refine aP (by simp -dsimp) c12 ?_
       refine aS (aO ?_)
       refine srs hn ?_
       simp -dsimp [c12]
       cases hm
       exact aT ⟨.inr rfl,EE.here (by simp -dsimp)⟩
   ·refine aP (by simp -dsimp) c6 ?_
    refine aS (aO (aU ?_))
    refine srs hn ?_
    obtain ⟨y3,h13,hm⟩:=bnd hm
    simp -dsimp [c6]
    refine aR (fY s ([10]:List UInt8) y3 h13) (dkL hn) ?_
    simp -dsimp
    rcases aZ hm with ⟨c14,hm⟩ | ⟨c14,hm⟩
    ·refine aQ (by simp -dsimp) c14 ?_
     refine srs hn ?_
     simp -dsimp [c14]
     refine aT (aW ?_)
     cases hm
     refine ⟨.inr rfl,?_⟩
     exact EE.here (by simp -dsimp)
    ·refine aP (by simp -dsimp) c14 ?_
     refine aS (aO ?_)
     refine srs hn ?_
     simp -dsimp [c14]
     cases hm
     exact aT ⟨.inr rfl,EE.here (by simp -dsimp)⟩
theorem c_cmp_isNaN_int (x:Int) (r:Bool) (hm:m_cmp_isNaN_int x = some r):PureCall Tryz.prog 117 [vI x] (vT r):=by
 refine bD Tryz.func117 Tryz.ntmps117 fun cx hn=>?_
 unfold m_cmp_isNaN_int at hm
 refine srs hn ?_
 simp -dsimp
 refine srs hn ?_
 simp -dsimp
 cases hm
 exact aT ⟨.inr rfl,EE.here (by simp -dsimp)⟩
theorem gk (x y r:Int) (hm:m_cmp_Compare_int x y = some r):PureCall Tryz.prog 58 [vI x,vI y] (vI r):=by
 refine bD Tryz.func58 Tryz.ntmps58 fun cx hn=>?_
 unfold m_cmp_Compare_int at hm
 refine srs hn ?_
 simp -dsimp
 refine srs hn ?_
 obtain ⟨y1,h1,hm⟩:=bnd hm
 simp -dsimp
 refine aR (c_cmp_isNaN_int x y1 h1) (dkL hn) ?_
 simp -dsimp
 refine srs hn ?_
 obtain ⟨y2,h2,hm⟩:=bnd hm
 simp -dsimp
 refine aR (c_cmp_isNaN_int y y2 h2) (dkL hn) ?_
 simp -dsimp
 refine aU ?_
 refine srs hn ?_
 simp -dsimp
 rcases aZ hm with ⟨c3,hm⟩ | ⟨c3,hm⟩
 ·refine aQ (by simp -dsimp) c3 ?_
  refine aU ?_
  refine srs hn ?_
  simp -dsimp [c3]
  rcases aZ hm with ⟨c4,hm⟩ | ⟨c4,hm⟩
  ·refine aQ (by simp -dsimp) c4 ?_
   refine srs hn ?_
   simp -dsimp [c4]
   refine aT (aW (aW ?_))
   cases hm
   refine ⟨.inr rfl,?_⟩
   exact EE.here (by simp -dsimp)
  ·refine aP (by simp -dsimp) c4 ?_
   refine aS (aO ?_)
   refine srs hn ?_
   simp -dsimp [c4]
   refine aT (aW ?_)
   cases hm
   refine ⟨.inr rfl,?_⟩
   exact EE.here (by simp -dsimp)
 ·refine aP (by simp -dsimp) c3 ?_
  refine aS (aO (aU ?_))
  refine srs hn ?_
  simp -dsimp [c3]
  rcases aZ hm with ⟨c5,hm⟩ | ⟨c5,hm⟩
  ·refine aQ (by simp -dsimp) c5 ?_
   refine srs hn ?_
   simp -dsimp [c5]
   refine aT (aW ?_)
   cases hm
   refine ⟨.inr rfl,?_⟩
   exact EE.here (by simp -dsimp)
  ·refine aP (by simp -dsimp) c5 ?_
   refine aS (aO (aU ?_))
   refine srs hn ?_
   simp -dsimp [c5]
   rcases aZ hm with ⟨c6,hm⟩ | ⟨c6,hm⟩
   ·refine aQ (by simp -dsimp) c6 ?_
    refine srs hn ?_
    simp -dsimp [c6]
    refine aT (aW ?_)
    cases hm
    refine ⟨.inr rfl,?_⟩
    exact EE.here (by simp -dsimp)
   ·refine aP (by simp -dsimp) c6 ?_
    refine aS (aO (aU ?_))
    refine srs hn ?_
    simp -dsimp [c6]
    rcases aZ hm with ⟨c7,hm⟩ | ⟨c7,hm⟩
    ·refine aQ (by simp -dsimp) c7 ?_
     refine srs hn ?_
     simp -dsimp [c7]
     refine aT (aW ?_)
     cases hm
     refine ⟨.inr rfl,?_⟩
     exact EE.here (by simp -dsimp)
    ·refine aP (by simp -dsimp) c7 ?_
     refine aS (aO ?_)
     refine srs hn ?_
     simp -dsimp [c7]
     cases hm
     exact aT ⟨.inr rfl,EE.here (by simp -dsimp)⟩
end Go.Proofs.YtlcdmiapdfdcaaaGreatDoor
