/- That the code does what the functions say (made by cc.py). -/
import Derived.Test.YtlcdmiapdfdcaaaGreatDoorWa7
namespace Go.Proofs.YtlcdmiapdfdcaaaGreatDoor
open Go.AM Go.Proofs
set_option maxRecDepth 100000
attribute [-simp] qlookup cR dQ Ob.wipe Ob.ren Ob.frz1
theorem c_generations_Plain (t r:Av) (hm:m_generations_Plain t = some r):PureCall Tryz.prog 103 [.u (.agg [dR1 t.Hood,dI t.States,dL t.Birth,dL t.Survive])] (.u (.agg [dR1 r.Hood,dI r.States,dL r.Birth,dL r.Survive])):=by
 refine bD Tryz.func103 Tryz.ntmps103 fun cx hn=>?_
 unfold m_generations_Plain at hm
 refine srs hn ?_
 simp -dsimp
 refine aU ?_
 refine srs hn ?_
 obtain ⟨y,h1,hm⟩:=bnd hm
 simp -dsimp
 refine aR (cA t y h1) (dkL hn) ?_
 simp -dsimp
 rcases aZ hm with ⟨c2,hm⟩ | ⟨c2,hm⟩
 ·refine aQ (by simp -dsimp) c2 ?_
  refine srs hn ?_
  simp -dsimp [c2]
  refine aT (aW ?_)
  cases hm
  refine ⟨.inr rfl,?_⟩
  exact EE.here (by simp -dsimp)
 ·refine aP (by simp -dsimp) c2 ?_
  refine aS (aO ?_)
  refine srs hn ?_
  simp -dsimp [c2]
  refine srs hn ?_
  simp -dsimp
  cases hm
  exact aT ⟨.inr rfl,EE.here (by simp -dsimp)⟩
theorem gv (i:Int) (r:List UInt8) (hm:m_internal_strconv_small i = some r):PureCall Tryz.prog 201 [vI i] (.u (.one (.d (.str (bs r))))):=by
 refine bD Tryz.func201 Tryz.ntmps201 fun cx hn=>?_
 unfold m_internal_strconv_small at hm
 refine srs hn ?_
 simp -dsimp
 refine aU ?_
 refine srs hn ?_
 simp -dsimp
 rcases aZ hm with ⟨c1,hm⟩ | ⟨c1,hm⟩
 ·refine sct c1 ?_
  refine srs hn ?_
  obtain ⟨s,h2,hm⟩:=bnd hm
  simp -dsimp [c1,h2]
  refine aT (aW ?_)
  cases hm
  refine ⟨.inr rfl,?_⟩
  exact EE.here (by simp -dsimp)
 ·refine scf c1 ?_
  refine aS (aO ?_)
  refine srs hn ?_
  obtain ⟨s,h3,hm⟩:=bnd hm
  simp -dsimp [c1,h3]
  cases hm
  exact aT ⟨.inr rfl,EE.here (by simp -dsimp)⟩
theorem fx (i base:Int) (r:List UInt8) (hm:m_internal_strconv_FormatInt i base = some r):PureCall Tryz.prog 179 [vI i,vI base] (.u (.one (.d (.str (bs r))))):=by
 refine bD Tryz.func179 Tryz.ntmps179 fun cx hn=>?_
 unfold m_internal_strconv_FormatInt at hm
 refine srs hn ?_
 simp -dsimp
 refine aU ?_
 refine srs hn ?_
 simp -dsimp
 rcases aZ hm with ⟨c1,hm⟩ | ⟨c1,hm⟩
 ·refine sct c1 ?_
  refine aU ?_
  obtain ⟨a,j7,hm⟩:=bnd hm
  refine scE [(0,vI i),(17,vT a)] [] ?_ fun O G hf=>?_
  ·replace hm:=j7
   clear j7
   refine sr1 hn ?_
   rcases aZ hm with ⟨c2,hm⟩ | ⟨c2,hm⟩
   ·simp -dsimp [c1,c2]
    cases hm
    exact EE.here (by simp -dsimp)
   ·simp -dsimp [c1,c2]
    cases hm
    exact EE.here (by simp -dsimp)
  ·clear j7
   simp only [Fits,ba,bb,and_true] at hf
   rcases aZ hm with ⟨c3,hm⟩ | ⟨c3,hm⟩
   ·refine aQ (by simp -dsimp [hf]) c3 ?_
    refine srs hn ?_
    obtain ⟨y,h4,hm⟩:=bnd hm
    simp -dsimp [hf]
    refine aR (gv i y h4) (dkL hn) ?_
    simp -dsimp
    refine aT (aW (aW ?_))
    cases hm
    refine ⟨.inr rfl,?_⟩
    exact EE.here (by simp -dsimp)
   ·refine aP (by simp -dsimp [hf]) c3 ?_
    refine aS (aO ?_)
    refine srs hn ?_
    simp -dsimp
    refine srs hn ?_
    simp -dsimp [hf]
    obtain ⟨u,j6,hm⟩:=bnd hm
    refine scE [(0,vI i),(5,vX 5),(6,.u (.one (.d (.int .u64 u))))] [(5,.box (List.map (cI .u8) [0,0,0,0,0,0,0,0,0,0,0,0,0,0,0,0,0,0,0,0,0,0,0,0]))] ?_ fun O G hf=>?_
    ·replace hm:=j6
     clear j6
     refine srs hn ?_
     simp -dsimp [hf]
     rcases aZ hm with ⟨c5,hm⟩ | ⟨c5,hm⟩
     ·refine aQ (by simp -dsimp) c5 ?_
      refine sr1 hn ?_
      simp -dsimp [c5]
      cases hm
      exact EE.here (by simp -dsimp [hf])
     ·refine aP (by simp -dsimp) c5 ?_
      refine aS (aO ?_)
      cases hm
      exact EE.here (by simp -dsimp [hf,c5])
    ·clear j6
     simp only [Fits,ba,bb,and_true] at hf
     refine srs hn ?_
     cases hm
 ·refine scf c1 ?_
  refine aS (aO ?_)
  refine srs hn ?_
  cases hm
theorem gG (i:Int) (r:List UInt8) (hm:m_internal_strconv_Itoa i = some r):PureCall Tryz.prog 151 [vI i] (.u (.one (.d (.str (bs r))))):=by
 refine bD Tryz.func151 Tryz.ntmps151 fun cx hn=>?_
 unfold m_internal_strconv_Itoa at hm
 refine srs hn ?_
 simp -dsimp
 refine srs hn ?_
 obtain ⟨y,h1,hm⟩:=bnd hm
 simp -dsimp
 refine aR (fx i 10 y h1) (dkL hn) ?_
 simp -dsimp
 cases hm
 exact aT ⟨.inr rfl,EE.here (by simp -dsimp)⟩
theorem c_strconv_Itoa (i:Int) (r:List UInt8) (hm:m_strconv_Itoa i = some r):PureCall Tryz.prog 104 [vI i] (.u (.one (.d (.str (bs r))))):=by
 refine bD Tryz.func104 Tryz.ntmps104 fun cx hn=>?_
 unfold m_strconv_Itoa at hm
 refine srs hn ?_
 simp -dsimp
 refine srs hn ?_
 obtain ⟨y,h1,hm⟩:=bnd hm
 simp -dsimp
 refine aR (gG i y h1) (dkL hn) ?_
 simp -dsimp
 cases hm
 exact aT ⟨.inr rfl,EE.here (by simp -dsimp)⟩
theorem c_generations_Text (t:Av) (r:List UInt8) (hm:m_generations_Text t = some r):PureCall Tryz.prog 39 [.u (.agg [dR1 t.Hood,dI t.States,dL t.Birth,dL t.Survive])] (.u (.one (.d (.str (bs r))))):=by
 refine bD Tryz.func39 Tryz.ntmps39 fun cx hn=>?_
 unfold m_generations_Text at hm
 refine srs hn ?_
 simp -dsimp
 refine aU ?_
 obtain ⟨a,j16,hm⟩:=bnd hm
 refine scE [(1,vX 1),(13,vT a)] [(1,.box [dR1 t.Hood,dI t.States,dL t.Birth,dL t.Survive])] ?_ fun O G hf=>?_
 ·replace hm:=j16
  clear j16
  refine sr1 hn ?_
  obtain ⟨y,h1,hm⟩:=bnd hm
  simp -dsimp
  refine aR (cA t y h1) (dkL hn) ?_
  rcases aZ hm with ⟨c2,hm⟩ | ⟨c2,hm⟩
  ·simp -dsimp [c2]
   cases hm
   exact EE.here (by simp -dsimp)
  ·simp -dsimp [c2]
   cases hm
   exact EE.here (by simp -dsimp)
 ·clear j16
  simp only [Fits,ba,bb,and_true] at hf
  rcases aZ hm with ⟨c3,hm⟩ | ⟨c3,hm⟩
  ·refine aQ (by simp -dsimp [hf]) c3 ?_
   refine srs hn ?_
   simp -dsimp
   refine aT (aW ?_)
   cases hm
   refine ⟨.inr rfl,?_⟩
   exact EE.here (by simp -dsimp)
  ·refine aP (by simp -dsimp [hf]) c3 ?_
   refine aS (aO ?_)
   refine srs hn ?_
   obtain ⟨y,h4,hm⟩:=bnd hm
   simp -dsimp [hf]
   refine aR (c_generations_Plain t y h4) (dkL hn) ?_
   obtain ⟨y1,h5,hm⟩:=bnd hm
   simp -dsimp
   refine aR (c_lifelike_Text y y1 h5) (dkL hn) ?_
   simp -dsimp
   refine srs hn ?_
   simp -dsimp
   obtain ⟨⟨s,end_⟩,j15,hm⟩:=bnd hm
   refine scE [(1,vX 1),(3,.u (.one (.d (.str (bs s))))),(4,.u (.one (.d (.str (bs end_)))))] [(1,.box [dR1 t.Hood,dI t.States,dL t.Birth,dL t.Survive])] ?_ fun O G hf=>?_
   ·replace hm:=j15
    clear j15
    refine srs hn ?_
    obtain ⟨s,h6,hm⟩:=bnd hm
    simp -dsimp [h6]
    obtain ⟨a1,j10,hm⟩:=bnd hm
    refine scE [(1,vX 1),(3,.u (.one (.d (.str (bs y1))))),(4,.u (.one (.d (.str (bs ([]:List UInt8)))))),(5,.u (.one (.d (.str (bs s))))),(27,vT a1)] [(1,.box [dR1 t.Hood,dI t.States,dL t.Birth,dL t.Survive])] ?_ fun O G hf=>?_
    ·replace hm:=j10
     clear j10
     refine sr1 hn ?_
     rcases aZ hm with ⟨c7,hm⟩ | ⟨c7,hm⟩
     ·simp -dsimp [c7]
      cases hm
      exact EE.here (by simp -dsimp [hf])
     ·simp -dsimp [c7]
      cases hm
      exact EE.here (by simp -dsimp [hf])
    ·clear j10
     simp only [Fits,ba,bb,and_true] at hf
     rcases aZ hm with ⟨c8,hm⟩ | ⟨c8,hm⟩
     ·refine aQ (by simp -dsimp [hf]) c8 ?_
      refine sr1 hn ?_
      obtain ⟨s1,h9,hm⟩:=bnd hm
      simp -dsimp [hf,h9]
      cases hm
      exact EE.here (by simp -dsimp [hf])
     ·refine aP (by simp -dsimp [hf]) c8 ?_
      refine aS (aO ?_)
      cases hm
      exact EE.here (by simp -dsimp [hf])
   ·clear j15
    simp only [Fits,ba,bb,and_true] at hf
    refine srs hn ?_
    obtain ⟨s1,h11,hm⟩:=bnd hm
    obtain ⟨y2,h12,hm⟩:=bnd hm
    simp -dsimp [hf,h11]
    refine aR (c_strconv_Itoa t.States y2 h12) (dkL hn) ?_
    obtain ⟨s2,h13,hm⟩:=bnd hm
    obtain ⟨s3,h14,hm⟩:=bnd hm
    simp -dsimp [hf,h13,h14]
    cases hm
    exact aT ⟨.inr rfl,EE.here (by simp -dsimp)⟩
theorem c_notation_Canon (s:List UInt8) (r:(List UInt8)×Int) (hm:m_notation_Canon s = some r):PureCall Tryz.prog 15 [.u (.one (.d (.str (bs s))))] (.tup [.one (.d (.str (bs r.1))),.one (dI r.2)]):=by
 refine bD Tryz.func15 Tryz.ntmps15 fun cx hn=>?_
 unfold m_notation_Canon at hm
 refine srs hn ?_
 simp -dsimp
 refine srs hn ?_
 simp -dsimp
 obtain ⟨⟨out,e_⟩,j14,hm⟩:=bnd hm
 refine scE [(4,.u (.one (.d (.str (bs out))))),(5,vI e_)] [] ?_ fun O G hf=>?_
 ·replace hm:=j14
  clear j14
  refine srs hn ?_
  obtain ⟨y,h1,hm⟩:=bnd hm
  simp -dsimp
  refine aR (cu s y h1) (dkL hn) ?_
  simp -dsimp
  refine aY ?_
  refine srs hn ?_
  simp -dsimp
  rcases aZ hm with ⟨c2,hm⟩ | ⟨c2,hm⟩
  ·refine aQ (by simp -dsimp) c2 ?_
   refine srs hn ?_
   simp -dsimp [c2]
   refine srs hn ?_
   obtain ⟨y1,h3,hm⟩:=bnd hm
   simp -dsimp
   refine aR (f9 s y1 h3) (dkL hn) ?_
   simp -dsimp
   refine sr1 hn ?_
   obtain ⟨y2,h4,hm⟩:=bnd hm
   simp -dsimp
   refine aR (c_lifelike_Text y1.1 y2 h4) (dkL hn) ?_
   simp -dsimp
   refine bh ?_
   cases hm
   exact EE.here (by simp -dsimp)
  ·refine aP (by simp -dsimp) c2 ?_
   refine srs hn ?_
   simp -dsimp [c2]
   rcases aZ hm with ⟨c5,hm⟩ | ⟨c5,hm⟩
   ·refine aQ (by simp -dsimp) c5 ?_
    refine srs hn ?_
    simp -dsimp [c5]
    refine srs hn ?_
    obtain ⟨y1,h6,hm⟩:=bnd hm
    simp -dsimp
    refine aR (dY s y1 h6) (dkL hn) ?_
    simp -dsimp
    refine sr1 hn ?_
    obtain ⟨y2,h7,hm⟩:=bnd hm
    simp -dsimp
    refine aR (c_generations_Text y1.1 y2 h7) (dkL hn) ?_
    simp -dsimp
    refine bh ?_
    cases hm
    exact EE.here (by simp -dsimp)
   ·refine aP (by simp -dsimp) c5 ?_
    obtain ⟨a,j12,hm⟩:=bnd hm
    refine scE [(0,.u (.one (.d (.str (bs s))))),(4,.u (.one (.d (.str (bs ([]:List UInt8)))))),(5,vI 7),(10,vI y),(29,vT a)] [] ?_ fun O G hf=>?_
    ·replace hm:=j12
     clear j12
     refine srs hn ?_
     simp -dsimp [c5]
     rcases aZ hm with ⟨c8,hm⟩ | ⟨c8,hm⟩
     ·refine aQ (by simp -dsimp) c8 ?_
      refine aS (aO ?_)
      cases hm
      exact EE.here (by simp -dsimp [c8])
     ·refine aP (by simp -dsimp) c8 ?_
      refine sr1 hn ?_
      simp -dsimp [c8]
      cases hm
      exact EE.here (by simp -dsimp)
    ·clear j12
     simp only [Fits,ba,bb,and_true] at hf
     rcases aZ hm with ⟨c9,hm⟩ | ⟨c9,hm⟩
     ·refine aQ (by simp -dsimp [hf]) c9 ?_
      refine srs hn ?_
      obtain ⟨y1,h10,hm⟩:=bnd hm
      simp -dsimp [hf]
      refine aR (fv s y1 h10) (dkL hn) ?_
      simp -dsimp
      refine sr1 hn ?_
      simp -dsimp [hf]
      refine bh ?_
      cases hm
      exact EE.here (by simp -dsimp)
     ·refine aP (by simp -dsimp [hf]) c9 ?_
      refine srs hn ?_
      simp -dsimp [hf]
      rcases aZ hm with ⟨c11,hm⟩ | ⟨c11,hm⟩
      ·refine aQ (by simp -dsimp) c11 ?_
       refine srs hn ?_
       simp -dsimp [c11]
       refine srs hn ?_
       cases hm
      ·refine aP (by simp -dsimp) c11 ?_
       refine aS ?_
       refine bh ?_
       cases hm
       exact EE.here (by simp -dsimp [hf,c11])
 ·clear j14
  simp only [Fits,ba,bb,and_true] at hf
  refine aU ?_
  refine srs hn ?_
  simp -dsimp [hf]
  rcases aZ hm with ⟨c13,hm⟩ | ⟨c13,hm⟩
  ·refine aQ (by simp -dsimp) c13 ?_
   refine srs hn ?_
   simp -dsimp [hf,c13]
   refine aT (aW ?_)
   cases hm
   refine ⟨.inr rfl,?_⟩
   exact EE.here (by simp -dsimp)
  ·refine aP (by simp -dsimp) c13 ?_
   refine aS (aO ?_)
   refine srs hn ?_
   simp -dsimp [hf,c13]
   cases hm
   exact aT ⟨.inr rfl,EE.here (by simp -dsimp)⟩
def d9 (cx:Cx) (t:Tree) (a1:Int) (_x:Node) (tt:Bool ⊕ Unit) (ee:Exit) (O:Env) (G:Sto):Prop:=match tt with
 | .inl r=>ee = .ret /\ EE cx (fun O G=>∃ v,e9 tb O G Tryz.f22.results.toList = some v /\ (v.frz G).free = true /\ (v.frz G).wk (vT r)) O G
 | .inr _u=>ee = .exit 2 /\ EE cx (bw [(1,vX 1),(47,.u (.one (dR0 t.Nodes))),(48,vI (aX t.Nodes)),(49,vI a1)] [(1,.box [dI t.States,dR1 t.Hood,dR0 t.Nodes])]) O G
theorem l_tree_Right_2 (cx:Cx) (hn:cx.n = 117) (t:Tree) (a1:Int) (x:Node) {fu:Nat} {stt:Int} {tt:Bool ⊕ Unit} (hh:aV (b_tree_Right_2 t a1 x) fu stt = some tt) {O:Env} {G:Sto}
  (hE:bH (fun a3:Int=>[(1,vX 1),(4,vI a1),(5,vX 5),(47,.u (.one (dR0 t.Nodes))),(48,vI (aX t.Nodes)),(49,vI a1),(74,.u (.one (dL x.Next))),(75,vI (aX x.Next)),(76,vI a3)]) (fun _a3:Int=>[(1,.box [dI t.States,dR1 t.Hood,dR0 t.Nodes]),(5,.box [dI x.Level,dL x.Next])]) stt O G):Swp Tryz.prog cx (.loop (cr [1,1,1,0,1,0,0,1,1,0,0,1,1,1,0,0] (bq Tryz.f22))) O G (d9 cx t a1 x tt):=by
 refine bL hE hh (d9 cx t a1 x) ?_
 rintro a3 r hm O G hf
 simp only [Fits,ba,bb,and_true] at hf
 unfold b_tree_Right_2 at hm
 dsimp only at hm
 refine srs hn ?_
 simp -dsimp [hf]
 refine aU ?_
 rcases aZ hm with ⟨c14,hm⟩ | ⟨c14,hm⟩
 ·refine aQ (by simp -dsimp) c14 ?_
  refine aS (aO (aU (aY ?_)))
  refine srs hn ?_
  obtain ⟨x1,h15,hm⟩:=bnd hm
  simp -dsimp [hf,c14,h15]
  obtain ⟨a4,j26,hm⟩:=bnd hm
  refine scE [(1,vX 1),(4,vI a1),(5,vX 5),(47,.u (.one (dR0 t.Nodes))),(48,vI (aX t.Nodes)),(49,vI a1),(74,.u (.one (dL x.Next))),(75,vI (aX x.Next)),(76,vI a3),(114,vT a4)] [(1,.box [dI t.States,dR1 t.Hood,dR0 t.Nodes]),(5,.box [dI x.Level,dL x.Next])] ?_ fun O G hf=>?_
  ·replace hm:=j26
   clear j26
   refine sw_qt bA mixed (by rw [hn]; kernel_rfl) ?_
   rcases aZ hm with ⟨c16,hm⟩ | ⟨c16,hm⟩
   ·simp -dsimp [c16]
    cases hm
    exact EE.here (by simp -dsimp [hf])
   ·rcases aZ hm with ⟨c17,hm⟩ | ⟨c17,hm⟩
    ·rcases aZ hm with ⟨c18,hm⟩ | ⟨c18,hm⟩
     ·simp -dsimp [hf,c16,c17,c18]
      cases hm
      exact EE.here (by simp -dsimp [hf])
     ·rcases aZ hm with ⟨c19,hm⟩ | ⟨c19,hm⟩
      ·rcases aZ hm with ⟨c20,hm⟩ | ⟨c20,hm⟩
       ·simp -dsimp [hf,c16,c17,c18,c19,c20]
        cases hm
        exact EE.here (by simp -dsimp [hf])
       ·obtain ⟨x2,h21,hm⟩:=bnd hm
        simp -dsimp [hf,c16,c17,c18,c19,c20,h21]
        cases hm
        exact EE.here (by simp -dsimp [hf])
      ·simp -dsimp [hf,c16,c17,c18,c19]
       cases hm
       exact EE.here (by simp -dsimp [hf])
    ·rcases aZ hm with ⟨c22,hm⟩ | ⟨c22,hm⟩
     ·rcases aZ hm with ⟨c23,hm⟩ | ⟨c23,hm⟩
      ·simp -dsimp [hf,c16,c17,c22,c23]
       cases hm
       exact EE.here (by simp -dsimp [hf])
      ·obtain ⟨x2,h24,hm⟩:=bnd hm
       simp -dsimp [hf,c16,c17,c22,c23,h24]
       cases hm
       exact EE.here (by simp -dsimp [hf])
     ·simp -dsimp [hf,c16,c17,c22]
      cases hm
      exact EE.here (by simp -dsimp [hf])
  ·clear j26
   simp only [Fits,ba,bb,and_true] at hf
   rcases aZ hm with ⟨c25,hm⟩ | ⟨c25,hm⟩
   ·refine aQ (by simp -dsimp [hf]) c25 ?_
    refine srs hn ?_
    simp -dsimp
    refine aT (bu (aW ?_))
    cases hm
    refine be nofun ?_
    exact ⟨rfl,EE.here (by simp -dsimp [Tryz.results22])⟩
   ·refine aP (by simp -dsimp [hf]) c25 ?_
    refine aS ?_
    refine bh ?_
    refine aO ?_
    refine sr1 hn ?_
    simp -dsimp [hf]
    cases hm
    refine bf ?_
    exact EE.here (by simp -dsimp [hf])
 ·refine aP (by simp -dsimp) c14 ?_
  refine bd ?_
  refine aW ?_
  cases hm
  refine be nofun ?_
  exact ⟨rfl,EE.here (by simp -dsimp [hf,c14])⟩
def cN (cx:Cx) (_t:Tree) (tt:Bool ⊕ Unit) (ee:Exit) (O:Env) (G:Sto):Prop:=match tt with
 | .inl r=>ee = .ret /\ EE cx (fun O G=>∃ v,e9 tb O G Tryz.f22.results.toList = some v /\ (v.frz G).free = true /\ (v.frz G).wk (vT r)) O G
 | .inr _u=>ee = .exit 0 /\ EE cx (bw [] []) O G
theorem l_tree_Right_1 (cx:Cx) (hn:cx.n = 117) (t:Tree) {fu:Nat} {stt:Int} {tt:Bool ⊕ Unit} (hh:aV (b_tree_Right_1 t) fu stt = some tt) {O:Env} {G:Sto}
  (hE:bH (fun a1:Int=>[(1,vX 1),(47,.u (.one (dR0 t.Nodes))),(48,vI (aX t.Nodes)),(49,vI a1)]) (fun _a1:Int=>[(1,.box [dI t.States,dR1 t.Hood,dR0 t.Nodes])]) stt O G):Swp Tryz.prog cx (.loop (cr [1,1,1,0,1,0,0] (bq Tryz.f22))) O G (cN cx t tt):=by
 refine bL hE hh (cN cx t) ?_
 rintro a1 r hm O G hf
 simp only [Fits,ba,bb,and_true] at hf
 unfold b_tree_Right_1 at hm
 dsimp only at hm
 refine srs hn ?_
 simp -dsimp [hf]
 refine aU ?_
 rcases aZ hm with ⟨c9,hm⟩ | ⟨c9,hm⟩
 ·refine aQ (by simp -dsimp) c9 ?_
  refine aS (aO (aU (aY ?_)))
  refine srs hn ?_
  obtain ⟨x,h10,hm⟩:=bnd hm
  simp -dsimp [hf,c9,h10]
  refine aU ?_
  obtain ⟨a2,j29,hm⟩:=bnd hm
  refine scE [(1,vX 1),(4,vI a1),(5,vX 5),(47,.u (.one (dR0 t.Nodes))),(48,vI (aX t.Nodes)),(49,vI a1),(72,vT a2)] [(1,.box [dI t.States,dR1 t.Hood,dR0 t.Nodes]),(5,.box [dI x.Level,dL x.Next])] ?_ fun O G hf=>?_
  ·replace hm:=j29
   clear j29
   refine sr1 hn ?_
   rcases aZ hm with ⟨c11,hm⟩ | ⟨c11,hm⟩
   ·simp -dsimp [c11]
    cases hm
    exact EE.here (by simp -dsimp [hf])
   ·rcases aZ hm with ⟨c12,hm⟩ | ⟨c12,hm⟩
    ·simp -dsimp [hf,c11,c12]
     cases hm
     exact EE.here (by simp -dsimp [hf])
    ·simp -dsimp [hf,c11,c12]
     cases hm
     exact EE.here (by simp -dsimp [hf])
  ·clear j29
   simp only [Fits,ba,bb,and_true] at hf
   rcases aZ hm with ⟨c13,hm⟩ | ⟨c13,hm⟩
   ·refine aQ (by simp -dsimp [hf]) c13 ?_
    refine srs hn ?_
    simp -dsimp
    refine aT (aW (bu (aW ?_)))
    cases hm
    refine be nofun ?_
    exact ⟨rfl,EE.here (by simp -dsimp [Tryz.results22])⟩
   ·refine aP (by simp -dsimp [hf]) c13 ?_
    refine aS (aO ?_)
    refine srs hn ?_
    simp -dsimp [hf]
    refine aY ?_
    obtain ⟨o_,g27,hm⟩:=bnd hm
    refine br (l_tree_Right_2 cx hn t a1 x g27) (by
      try dsimp only
      exact EE.here (by simp -dsimp [hf])
    ) fun ee O G x28=>?_
    rcases o_ with r | _u
    ·unfold d9 at x28
     dsimp only at x28
     obtain ⟨rfl,x28⟩:=x28
     refine bu (bu (aW ?_))
     cases hm
     refine be nofun ?_
     unfold cN
     dsimp only
     refine ⟨rfl,?_⟩
     exact x28
    ·unfold d9 at x28
     dsimp only at x28
     obtain ⟨rfl,x28⟩:=x28
     refine bc ?_
     refine bh ?_
     refine aO ?_
     refine see x28 fun O G hf=>?_
     simp only [Fits,ba,bb,and_true] at hf
     refine sr1 hn ?_
     simp -dsimp [hf]
     cases hm
     refine bf ?_
     exact EE.here (by simp -dsimp [hf])
 ·refine aP (by simp -dsimp) c9 ?_
  refine bd ?_
  refine aW ?_
  cases hm
  refine be nofun ?_
  exact ⟨rfl,EE.here (by simp -dsimp [c9])⟩
theorem dO (t:Tree) (r:Bool) (hm:m_tree_Right t = some r):PureCall Tryz.prog 22 [.u (.agg [dI t.States,dR1 t.Hood,dR0 t.Nodes])] (vT r):=by
 refine bD Tryz.func22 Tryz.ntmps22 fun cx hn=>?_
 unfold m_tree_Right at hm
 refine srs hn ?_
 simp -dsimp
 refine srs hn ?_
 simp -dsimp
 refine aU ?_
 obtain ⟨a,j32,hm⟩:=bnd hm
 refine scE [(1,vX 1),(45,vT a)] [(1,.box [dI t.States,dR1 t.Hood,dR0 t.Nodes])] ?_ fun O G hf=>?_
 ·replace hm:=j32
  clear j32
  refine sw_qt bA mixed (by rw [hn]; kernel_rfl) ?_
  rcases aZ hm with ⟨c1,hm⟩ | ⟨c1,hm⟩
  ·simp -dsimp [c1]
   cases hm
   exact EE.here (by simp -dsimp)
  ·rcases aZ hm with ⟨c2,hm⟩ | ⟨c2,hm⟩
   ·simp -dsimp [c1,c2]
    cases hm
    exact EE.here (by simp -dsimp)
   ·obtain ⟨y,h3,hm⟩:=bnd hm
    simp -dsimp [c1,c2]
    refine bl (c_hood_Right t.Hood y h3) ?_
    rcases aZ hm with ⟨c4,hm⟩ | ⟨c4,hm⟩
    ·simp -dsimp [c4]
     cases hm
     exact EE.here (by simp -dsimp)
    ·rcases aZ hm with ⟨c5,hm⟩ | ⟨c5,hm⟩
     ·simp -dsimp [c4,c5]
      cases hm
      exact EE.here (by simp -dsimp)
     ·rcases aZ hm with ⟨c6,hm⟩ | ⟨c6,hm⟩
      ·simp -dsimp [c4,c5,c6]
       cases hm
       exact EE.here (by simp -dsimp)
      ·obtain ⟨x,h7,hm⟩:=bnd hm
       simp -dsimp [c4,c5,c6,h7]
       cases hm
       exact EE.here (by simp -dsimp)
 ·clear j32
  simp only [Fits,ba,bb,and_true] at hf
  rcases aZ hm with ⟨c8,hm⟩ | ⟨c8,hm⟩
  ·refine aQ (by simp -dsimp [hf]) c8 ?_
   refine srs hn ?_
   simp -dsimp
   refine aT (aW ?_)
   cases hm
   refine ⟨.inr rfl,?_⟩
   exact EE.here (by simp -dsimp)
  ·refine aP (by simp -dsimp [hf]) c8 ?_
   refine aS (aO (aU ?_))
   refine srs hn ?_
   simp -dsimp [hf]
   refine aY ?_
   obtain ⟨o_,g30,hm⟩:=bnd hm
   refine br (l_tree_Right_1 cx hn t g30) (by
     try dsimp only
     exact EE.here (by simp -dsimp [hf])
   ) fun ee O G x31=>?_
   rcases o_ with r | _u
   ·unfold cN at x31
    dsimp only at x31
    obtain ⟨rfl,x31⟩:=x31
    refine bu (aW ?_)
    cases hm
    exact ⟨.inr rfl,x31⟩
   ·unfold cN at x31
    dsimp only at x31
    obtain ⟨rfl,x31⟩:=x31
    refine bc ?_
    refine aO ?_
    refine see x31 fun O G hf=>?_
    simp only [Fits,ba,bb,and_true] at hf
    refine srs hn ?_
    simp -dsimp
    cases hm
    exact aT ⟨.inr rfl,EE.here (by simp -dsimp)⟩
theorem c_tree_Eval_1 (s:Int) (a:Tree) (r:Bool) (hm:m_tree_Eval_1 s a = some r):PureCall Tryz.prog 42 [vI s,.u (.one (.ref (Tree.row a) 0))] (vT r):=by
 refine bD Tryz.func42 Tryz.ntmps42 fun cx hn=>?_
 unfold m_tree_Eval_1 at hm
 refine srs hn ?_
 simp -dsimp
 obtain ⟨a1,j2,hm⟩:=bnd hm
 refine scE [(3,vT a1)] [] ?_ fun O G hf=>?_
 ·replace hm:=j2
  clear j2
  refine sr1 hn ?_
  rcases aZ hm with ⟨c1,hm⟩ | ⟨c1,hm⟩
  ·simp -dsimp [c1]
   cases hm
   exact EE.here (by simp -dsimp)
  ·simp -dsimp [c1]
   cases hm
   exact EE.here (by simp -dsimp)
 ·clear j2
  simp only [Fits,ba,bb,and_true] at hf
  cases hm
  exact aT ⟨.inr rfl,EE.here (by simp -dsimp [hf])⟩
def bg (cx:Cx) (_s:List Int) (_cv:Tree) (tt:Int ⊕ Unit) (ee:Exit) (O:Env) (G:Sto):Prop:=match tt with
 | .inl r=>ee = .ret /\ EE cx (fun O G=>∃ v,e9 tb O G Tryz.f107.results.toList = some v /\ (v.frz G).free = true /\ (v.frz G).wk (vI r)) O G
 | .inr _u=>ee = .exit 0 /\ EE cx (bw [] []) O G
theorem dx (cx:Cx) (hn:cx.n = 19) (s:List Int) (cv:Tree) {fu:Nat} {stt:Int} {tt:Int ⊕ Unit} (hh:aV (b_slices_IndexFunc_int_int_tree_Eval_1_1 s cv) fu stt = some tt) {O:Env} {G:Sto}
  (hE:bH (fun a:Int=>[(0,.u (.one (dL s))),(1,.u (.one (.fn 42 [.ref (Tree.row cv) 0]))),(7,vI (aX s)),(8,vI a)]) (fun _a:Int=>[]) stt O G):Swp Tryz.prog cx (.loop (cr [1,0,1,0,0] (bq Tryz.f107))) O G (bg cx s cv tt):=by
 refine bL hE hh (bg cx s cv) ?_
 rintro a r hm O G hf
 simp only [Fits,ba,bb,and_true] at hf
 unfold b_slices_IndexFunc_int_int_tree_Eval_1_1 at hm
 dsimp only at hm
 refine srs hn ?_
 simp -dsimp [hf]
 refine aU ?_
 rcases aZ hm with ⟨c1,hm⟩ | ⟨c1,hm⟩
 ·refine aQ (by simp -dsimp) c1 ?_
  refine aS (aO (aU (aY ?_)))
  refine srs hn ?_
  simp -dsimp [hf,c1]
  refine srs hn ?_
  obtain ⟨x,h2,hm⟩:=bnd hm
  obtain ⟨y,h3,hm⟩:=bnd hm
  simp -dsimp [hf,h2]
  refine aR (c_tree_Eval_1 x cv y h3) (dkL hn) ?_
  simp -dsimp
  rcases aZ hm with ⟨c4,hm⟩ | ⟨c4,hm⟩
  ·refine aQ (by simp -dsimp) c4 ?_
   refine srs hn ?_
   simp -dsimp [c4]
   refine aT (bu (aW ?_))
   cases hm
   refine be nofun ?_
   exact ⟨rfl,EE.here (by simp -dsimp [Tryz.results107])⟩
  ·refine aP (by simp -dsimp) c4 ?_
   refine aS ?_
   refine bh ?_
   refine aO ?_
   refine sr1 hn ?_
   simp -dsimp [hf,c4]
   cases hm
   refine bf ?_
   exact EE.here (by simp -dsimp [hf])
 ·refine aP (by simp -dsimp) c1 ?_
  refine bd ?_
  refine aW ?_
  cases hm
  refine be nofun ?_
  exact ⟨rfl,EE.here (by simp -dsimp [c1])⟩
theorem dF (s:List Int) (cv:Tree) (r:Int) (hm:m_slices_IndexFunc_int_int_tree_Eval_1 s cv = some r):PureCall Tryz.prog 107 [.u (.one (dL s)),.u (.one (.fn 42 [.ref (Tree.row cv) 0]))] (vI r):=by
 refine bD Tryz.func107 Tryz.ntmps107 fun cx hn=>?_
 unfold m_slices_IndexFunc_int_int_tree_Eval_1 at hm
 refine srs hn ?_
 simp -dsimp
 refine aU ?_
 refine srs hn ?_
 simp -dsimp
 refine aY ?_
 obtain ⟨o_,g5,hm⟩:=bnd hm
 refine br (dx cx hn s cv g5) (by
   try dsimp only
   exact eeh
 ) fun ee O G x6=>?_
 rcases o_ with r | _u
 ·unfold bg at x6
  dsimp only at x6
  obtain ⟨rfl,x6⟩:=x6
  refine bu (aW ?_)
  cases hm
  exact ⟨.inr rfl,x6⟩
 ·unfold bg at x6
  dsimp only at x6
  obtain ⟨rfl,x6⟩:=x6
  refine bc ?_
  refine aO ?_
  refine see x6 fun O G hf=>?_
  simp only [Fits,ba,bb,and_true] at hf
  refine srs hn ?_
  simp -dsimp
  cases hm
  exact aT ⟨.inr rfl,EE.here (by simp -dsimp)⟩
theorem dv (s:List Int) (cv:Tree) (r:Bool) (hm:m_slices_ContainsFunc_int_int_tree_Eval_1 s cv = some r):PureCall Tryz.prog 41 [.u (.one (dL s)),.u (.one (.fn 42 [.ref (Tree.row cv) 0]))] (vT r):=by
 refine bD Tryz.func41 Tryz.ntmps41 fun cx hn=>?_
 unfold m_slices_ContainsFunc_int_int_tree_Eval_1 at hm
 refine srs hn ?_
 simp -dsimp
 refine srs hn ?_
 obtain ⟨y,h1,hm⟩:=bnd hm
 simp -dsimp
 refine aR (dF s cv y h1) (dkL hn) ?_
 simp -dsimp
 cases hm
 exact aT ⟨.inr rfl,EE.here (by simp -dsimp)⟩
def eQ (cx:Cx) (_t:Tree) (_in_:List Int) (tt:Int) (ee:Exit) (O:Env) (G:Sto):Prop:=match tt with
 | k=>ee = .exit 0 /\ EE cx (bw [(5,vI k)] []) O G
theorem l_tree_value_1 (cx:Cx) (hn:cx.n = 29) (t:Tree) (in_:List Int) {fu:Nat} {stt:Int×Int} {tt:Int} (hh:aV (b_tree_value_1 t in_) fu stt = some tt) {O:Env} {G:Sto}
  (hE:bH (fun stt:Int×Int=>match stt with | (k,a)=>[(2,vX 2),(5,vI k),(12,.u (.one (dL in_))),(13,vI (aX in_)),(14,vI a)]) (fun stt:Int×Int=>match stt with | (_k,_a)=>[(2,.box [dI t.States,dR1 t.Hood,dR0 t.Nodes])]) stt O G):Swp Tryz.prog cx (.loop (cr [1,1,0,1,0,0] (bq Tryz.f43))) O G (eQ cx t in_ tt):=by
 refine bL hE hh (eQ cx t in_) ?_
 rintro ⟨k,a⟩ r hm O G hf
 simp only [Fits,ba,bb,and_true] at hf
 unfold b_tree_value_1 at hm
 dsimp only at hm
 refine srs hn ?_
 simp -dsimp [hf]
 refine aU ?_
 rcases aZ hm with ⟨c1,hm⟩ | ⟨c1,hm⟩
 ·refine aQ (by simp -dsimp) c1 ?_
  refine aS (aO (aU (aY ?_)))
  refine srs hn ?_
  obtain ⟨x,h2,hm⟩:=bnd hm
  simp -dsimp [hf,c1,h2]
  refine sr1 hn ?_
  obtain ⟨x1,h3,hm⟩:=bnd hm
  obtain ⟨x2,h4,hm⟩:=bnd hm
  simp -dsimp [hf,h3,h4]
  refine bh ?_
  refine aO ?_
  refine sr1 hn ?_
  simp -dsimp [hf]
  cases hm
  refine bf ?_
  exact EE.here (by simp -dsimp [hf])
 ·refine aP (by simp -dsimp) c1 ?_
  refine bd ?_
  refine aW ?_
  cases hm
  refine be nofun ?_
  exact ⟨rfl,EE.here (by simp -dsimp [hf,c1])⟩
theorem c_tree_value (t:Tree) (in_:List Int) (r:Int) (hm:m_tree_value t in_ = some r):PureCall Tryz.prog 43 [.u (.agg [dI t.States,dR1 t.Hood,dR0 t.Nodes]),.u (.one (dL in_))] (vI r):=by
 refine bD Tryz.func43 Tryz.ntmps43 fun cx hn=>?_
 unfold m_tree_value at hm
 refine srs hn ?_
 simp -dsimp
 refine srs hn ?_
 simp -dsimp
 refine aU ?_
 refine srs hn ?_
 simp -dsimp
 refine aY ?_
 obtain ⟨k,g5,hm⟩:=bnd hm
 refine br (l_tree_value_1 cx hn t in_ g5) (by
   try dsimp only
   exact eeh
 ) fun ee O G x6=>?_
 unfold eQ at x6
 dsimp only at x6
 obtain ⟨rfl,x6⟩:=x6
 refine bc ?_
 refine aO ?_
 refine see x6 fun O G hf=>?_
 simp only [Fits,ba,bb,and_true] at hf
 refine srs hn ?_
 simp -dsimp [hf]
 cases hm
 exact aT ⟨.inr rfl,EE.here (by simp -dsimp)⟩
theorem c_tree_Eval (t:Tree) (in_:List Int) (r:Int×Int) (hm:m_tree_Eval t in_ = some r):PureCall Tryz.prog 16 [.u (.agg [dI t.States,dR1 t.Hood,dR0 t.Nodes]),.u (.one (dL in_))] (.tup [.one (dI r.1),.one (dI r.2)]):=by
 refine bD Tryz.func16 Tryz.ntmps16 fun cx hn=>?_
 unfold m_tree_Eval at hm
 refine srs hn ?_
 simp -dsimp
 refine aU (aY ?_)
 refine srs hn ?_
 obtain ⟨y,h1,hm⟩:=bnd hm
 simp -dsimp
 refine aR (dO t y h1) (dkL hn) ?_
 simp -dsimp
 rcases aZ hm with ⟨c2,hm⟩ | ⟨c2,hm⟩
 ·refine aQ (by simp -dsimp) c2 ?_
  refine srs hn ?_
  simp -dsimp [c2]
  refine aT (bu (aW ?_))
  cases hm
  refine ⟨.inr rfl,?_⟩
  exact EE.here (by simp -dsimp)
 ·refine aP (by simp -dsimp) c2 ?_
  refine srs hn ?_
  simp -dsimp [c2]
  rcases aZ hm with ⟨c3,hm⟩ | ⟨c3,hm⟩
  ·refine aQ (by simp -dsimp) c3 ?_
   refine srs hn ?_
   simp -dsimp [c3]
   refine aT (bu (aW ?_))
   cases hm
   refine ⟨.inr rfl,?_⟩
   exact EE.here (by simp -dsimp)
  ·refine aP (by simp -dsimp) c3 ?_
   refine srs hn ?_
   obtain ⟨y1,h4,hm⟩:=bnd hm
   simp -dsimp [c3]
   refine fQ (us':=[.u (.one (dL in_)),.u (.one (.fn 42 [.ref (Tree.row t) 0]))]) (dv in_ t y1 h4) (by simp -dsimp) rfl (dkL hn) ?_
   simp -dsimp
   rcases aZ hm with ⟨c5,hm⟩ | ⟨c5,hm⟩
   ·refine aQ (by simp -dsimp) c5 ?_
    refine srs hn ?_
    simp -dsimp [c5]
    refine aT (bu (aW ?_))
    cases hm
    refine ⟨.inr rfl,?_⟩
    exact EE.here (by simp -dsimp)
   ·refine aP (by simp -dsimp) c5 ?_
    refine aS ?_
    refine bh ?_
    refine aO ?_
    refine srs hn ?_
    obtain ⟨y2,h6,hm⟩:=bnd hm
    simp -dsimp [c5]
    refine aR (c_tree_value t in_ y2 h6) (dkL hn) ?_
    simp -dsimp
    cases hm
    exact aT ⟨.inr rfl,EE.here (by simp -dsimp)⟩
theorem dh (l r:List Int) (hm:m_slices_Clone_int_int l = some r):NewFn Tryz.prog 116 [.u (.one (dL l))] (fun o=>o = .row 1 3 (List.map (rI .i64) r)):=by
 refine new_S bA _ Tryz.func116 rfl (by kernel_rfl) (by simp [Tryz.ntmps116]) fun cx hn=>?_
 replace hn:cx.n = 8:=hn.trans Tryz.ntmps116
 have ha:=(bm hm).1
 have hr:r = l:=(bm hm).2
 clear hm
 subst hr
 simp only [List.length_nil,Nat.zero_add] at ha
 refine srs hn ?_
 simp -dsimp
 refine aU ?_
 refine srs hn ?_
 cases r with
 | nil =>
  simp -dsimp
  refine ⟨?_,?_⟩
  ·refine aQ (b:=true) (by simp -dsimp) rfl ?_
   refine srs hn ?_
   simp -dsimp
   refine aT (aW ?_)
   refine ⟨.inr rfl,?_⟩; simp -dsimp
  ·refine aP (b:=false) (by simp -dsimp) rfl ?_
   refine aS (aO ?_)
   refine srs hn ?_
   simp -dsimp
   refine aT ?_
   refine ⟨.inr rfl,?_⟩; simp -dsimp
 | cons x xs =>
  simp -dsimp
  refine aP (b:=false) (by simp -dsimp) rfl ?_
  refine aS (aO ?_)
  refine srs hn ?_
  simp only [List.length_cons] at ha
  simp -dsimp [ha]
  refine aT ?_
  refine ⟨.inr rfl,?_⟩; simp -dsimp
theorem gr (x:Int) (next r:List Int) (hm:m_reduce_Reduce_1 x next = some r):PureCall Tryz.prog 56 [vI x,.u (.one (dL next))] (.u (.one (dL r))):=by
 refine bD Tryz.func56 Tryz.ntmps56 fun cx hn=>?_
 unfold m_reduce_Reduce_1 at hm
 refine srs hn ?_
 simp -dsimp
 refine srs hn ?_
 simp -dsimp
 cases hm
 exact aT ⟨.inr rfl,EE.here (by simp -dsimp)⟩
theorem fe (i base:Int) (r:List Int) (hm:m_internal_strconv_AppendInt_N i base = some r):GFn Tryz.prog 155 [.u (.one (.d .nil)),vI i,vI base] [] (vO 1000000) [some (.row 1 5 (List.map (rI .u8) r))]:=by
 refine cy bA _ Tryz.func155 rfl (by kernel_rfl) (by simp [Tryz.ntmps155]) (by simp) (by first | rfl | simp) (by first | rfl | simp) fun cx hn hk=>?_
 replace hn:cx.n = 21:=hn.trans Tryz.ntmps155
 replace hk:cx.k = 0:=hk
 unfold m_internal_strconv_AppendInt_N at hm
 refine srs hn ?_
 simp -dsimp
 refine srs hn ?_
 simp -dsimp
 obtain ⟨⟨u,dst⟩,j4,hm⟩:=bnd hm
 refine scE [(0,vO 5000),(2,vI base),(7,.u (.one (.d (.int .u64 u))))] [(5000,.row 1 5 (List.map (rI .u8) dst))] ?_ fun O G hf=>?_
 ·replace hm:=j4
  clear j4
  refine srs hn ?_
  simp -dsimp
  rcases aZ hm with ⟨c1,hm⟩ | ⟨c1,hm⟩
  ·refine sct c1 ?_
   refine srs hn ?_
   obtain ⟨l,h2,hm⟩:=bnd hm
   obtain ⟨h2a,h2e⟩:=bm h2
   replace h2e:=h2e.symm
   subst h2e
   try simp only [List.length_cons,List.length_nil,Nat.zero_add] at h2a
   try simp only [Nat.mul_one,Nat.reduceLeDiff] at h2a
   simp -dsimp [c1]
   refine sr1 hn ?_
   simp -dsimp
   refine aO ?_
   cases hm
   refine emv 14 5000 ?_
   exact EE.here (by simp -dsimp)
  ·refine scf c1 ?_
   refine aS (aO ?_)
   cases hm
   refine EE.step (Wk.own0 0 5000 1 5 (by simp -dsimp [c1]) (by decide)) ?_
   exact EE.here (by simp -dsimp [c1])
 ·clear j4
  simp only [Fits,ba,bb,and_true] at hf
  refine srs hn ?_
  obtain ⟨y,h3,hm⟩:=bnd hm
  simp -dsimp [hf]
  refine clg (cZ dst u base y h3) [5000] [5001] (by simp -dsimp [hf]) (dkL hn) ?_
  simp -dsimp
  refine aT ?_
  cases hm
  refine ⟨.inr rfl,?_⟩
  refine emr 5001 1000000 hk ?_
  exact EE.here (by simp -dsimp)
theorem eY (i base:Int) (r:List Int) (hm:m_strconv_AppendInt_N i base = some r):GFn Tryz.prog 118 [.u (.one (.d .nil)),vI i,vI base] [] (vO 1000000) [some (.row 1 5 (List.map (rI .u8) r))]:=by
 refine cy bA _ Tryz.func118 rfl (by kernel_rfl) (by simp [Tryz.ntmps118]) (by simp) (by first | rfl | simp) (by first | rfl | simp) fun cx hn hk=>?_
 replace hn:cx.n = 11:=hn.trans Tryz.ntmps118
 replace hk:cx.k = 0:=hk
 unfold m_strconv_AppendInt_N at hm
 refine srs hn ?_
 simp -dsimp
 refine srs hn ?_
 obtain ⟨y,h1,hm⟩:=bnd hm
 simp -dsimp
 refine clg (fe i base y h1) [] [5000] (by simp -dsimp) (dkL hn) ?_
 simp -dsimp
 refine aT ?_
 cases hm
 refine ⟨.inr rfl,?_⟩
 refine emr 5000 1000000 hk ?_
 exact EE.here (by simp -dsimp)
end Go.Proofs.YtlcdmiapdfdcaaaGreatDoor
