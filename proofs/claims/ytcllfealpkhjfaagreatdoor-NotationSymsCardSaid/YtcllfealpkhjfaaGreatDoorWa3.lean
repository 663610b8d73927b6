/- That the code does what the functions say (made by cc.py). -/
import Derived.Test.YtcllfealpkhjfaaGreatDoorWa1
namespace Go.Proofs.YtcllfealpkhjfaaGreatDoor
open Go.AM Go.Proofs
set_option maxRecDepth 100000
attribute [-simp] qlookup cd cW Ob.wipe Ob.ren Ob.frz1
theorem eS (s:List UInt8) (r:Int×Bool×Bool) (hm:m_wolfram_number s=some r):PureCall Tryz.prog 67 [.u (.one (.d (.str (bs s))))] (.tup [.one (dI r.1),.one (.d (.bool r.2.1)),.one (.d (.bool r.2.2))]):=by
 refine bo Tryz.func67 Tryz.ntmps67 fun cx hn=>?_
 unfold m_wolfram_number at hm
 refine srs hn ?_
 simp -dsimp
 refine aS ?_
 obtain⟨a,j9,hm⟩:=bnd hm
 refine scE [(0,.u (.one (.d (.str (bs s))))),(22,vT a)] [] ?_ fun Z O hf=>?_
 ·replace hm:=j9
  clear j9
  refine sr1 hn ?_
  rcases aZ hm with ⟨c1,hm⟩ | ⟨c1,hm⟩
  ·exact zz
  ·rcases aZ hm with ⟨c2,hm⟩ | ⟨c2,hm⟩
   ·obtain⟨b,h3,hm⟩:=bnd hm
    rcases aZ hm with ⟨c4,hm⟩ | ⟨c4,hm⟩
    ·exact zz
    ·obtain⟨y,h5,hm⟩:=bnd hm
     simp -dsimp [c1,c2,h3,c4]
     refine aR (c_strings_Trim s ([48,49,50,51,52,53,54,55,56,57]:List UInt8) y h5) (dkL hn) ?_
     exact zz
   ·obtain⟨y,h6,hm⟩:=bnd hm
    simp -dsimp [c1,c2]
    refine aR (c_strings_Trim s ([48,49,50,51,52,53,54,55,56,57]:List UInt8) y h6) (dkL hn) ?_
    exact zz
 ·clear j9
  simp only[Fits,b8,b9,and_true] at hf
  rcases aZ hm with ⟨c7,hm⟩ | ⟨c7,hm⟩
  ·exact zz
  ·refine aX (by simp -dsimp [hf]) c7 ?_
   refine aU (aQ ?_)
   refine srs hn ?_
   obtain⟨y,h8,hm⟩:=bnd hm
   simp -dsimp [hf]
   refine aR (fW s y h8) (dkL hn) ?_
   exact zz
theorem c_wolfram_sums (states r:Int) (hm:m_wolfram_sums states=some r):PureCall Tryz.prog 128 [vI states] (vI r):=by
 refine bo Tryz.func128 Tryz.ntmps128 fun cx hn=>?_
 unfold m_wolfram_sums at hm
 refine srs hn ?_
 simp -dsimp
 refine srs hn ?_
 simp -dsimp
 cases hm
 exact bb ⟨.inr rfl,EE.here (by simp -dsimp)⟩
def fT (cx:Cx) (_states _y:Int) (tt:(Int×(List Int))) (ee:Exit) (Z:Env) (O:Sto):Prop:=match tt with
 | (n1,l)=>ee=.exit 0/\EE cx (bg [(1,vI n1),(6,vO 5000)] [(5000,.row 1 3 (List.map (rI .i64) l))]) Z O
theorem l_wolfram_Digits_1 (cx:Cx) (hn:cx.n=32) (states y:Int) {fu:Nat} {stt:Int×Int×(List Int)} {tt:(Int×(List Int))} (hh:aY (b_wolfram_Digits_1 states y) fu stt=some tt) {Z:Env} {O:Sto}
  (hE:bl (fun stt:Int×Int×(List Int)=>match stt with | (n1,a1,_l)=>[(0,vI states),(1,vI n1),(6,vO 5000),(16,vI y),(17,vI a1)]) (fun stt:Int×Int×(List Int)=>match stt with | (_n1,_a1,l)=>[(5000,.row 1 3 (List.map (rI .i64) l))]) stt Z O):Swp Tryz.prog cx (.loop (bA [1,1,1,1,0,1,0,0] (be Tryz.f68))) Z O (fT cx states y tt):=by
 refine bm hE hh (fT cx states y) ?_
 rintro⟨n1,a1,l⟩ r hm Z O hf
 simp only[Fits,b8,b9,and_true] at hf
 unfold b_wolfram_Digits_1 at hm
 dsimp only at hm
 refine srs hn ?_
 simp -dsimp [hf]
 refine aS ?_
 rcases aZ hm with ⟨c5,hm⟩ | ⟨c5,hm⟩
 ·refine aV (by simp -dsimp) c5 ?_
  refine aU (aQ (aS (aW ?_)))
  refine srs hn ?_
  obtain⟨n2,h6,hm⟩:=bnd hm
  obtain⟨l1,h7,hm⟩:=bnd hm
  obtain⟨h7a,h7e⟩:=b6 h7
  replace h7e:=h7e.symm
  subst h7e
  try simp only[List.length_cons,List.length_nil,Nat.zero_add] at h7a
  simp -dsimp [hf,c5,h6,h7a]
  refine sr1 hn ?_
  obtain⟨n3,h8,hm⟩:=bnd hm
  simp -dsimp [hf,h8]
  refine bv ?_
  refine aQ ?_
  refine sr1 hn ?_
  simp -dsimp [hf]
  cases hm
  refine bE ?_
  refine emv 24 5000 ?_
  exact zz
 ·exact zz
theorem gM (states n:Int) (r:(List Int)×Int) (hm:m_wolfram_Digits states n=some r):PureCall Tryz.prog 68 [vI states,vI n] (.tup [.one (dL r.1),.one (dI r.2)]):=by
 refine bo Tryz.func68 Tryz.ntmps68 fun cx hn=>?_
 unfold m_wolfram_Digits at hm
 refine srs hn ?_
 simp -dsimp
 refine aS ?_
 obtain⟨a,j11,hm⟩:=bnd hm
 refine scE [(0,vI states),(1,vI n),(12,vT a)] [] ?_ fun Z O hf=>?_
 ·replace hm:=j11
  clear j11
  exact zz
 ·clear j11
  simp only[Fits,b8,b9,and_true] at hf
  rcases aZ hm with ⟨c2,hm⟩ | ⟨c2,hm⟩
  ·exact zz
  ·refine aX (by simp -dsimp [hf]) c2 ?_
   refine aU (aQ (aS ?_))
   refine srs hn ?_
   simp -dsimp [hf]
   rcases aZ hm with ⟨c3,hm⟩ | ⟨c3,hm⟩
   ·exact zz
   ·refine aX (by simp -dsimp) c3 ?_
    refine aU (aQ ?_)
    refine srs hn ?_
    simp -dsimp [c3]
    refine aS ?_
    refine srs hn ?_
    obtain⟨y,h4,hm⟩:=bnd hm
    simp -dsimp [hf]
    refine aR (c_wolfram_sums states y h4) (dkL hn) ?_
    simp -dsimp
    refine aW ?_
    obtain⟨⟨n1,l⟩,g9,hm⟩:=bnd hm
    refine bd (l_wolfram_Digits_1 cx hn states y g9) (by
      try dsimp only
      refine EE.step (Wk.own0 6 5000 1 3 (by simp -dsimp) (by decide)) ?_
      exact zz
    ) fun ee Z O xx=>?_
    exact zz
theorem fq (s:List UInt8) (r:Int×Int×Bool×Int) (hm:m_wolfram_Parse s=some r):PureCall Tryz.prog 21 [.u (.one (.d (.str (bs s))))] (.tup [.one (dI r.1),.one (dI r.2.1),.one (.d (.bool r.2.2.1)),.one (dI r.2.2.2)]):=by
 refine bo Tryz.func21 Tryz.ntmps21 fun cx hn=>?_
 unfold m_wolfram_Parse at hm
 refine srs hn ?_
 simp -dsimp
 refine aS ?_
 refine srs hn ?_
 obtain⟨y,h1,hm⟩:=bnd hm
 simp -dsimp
 refine aR (bU s ([87]:List UInt8) y h1) (dkL hn) ?_
 simp -dsimp
 refine srs hn ?_
 simp -dsimp
 rcases aZ hm with ⟨c2,hm⟩ | ⟨c2,hm⟩
 ·refine aV (by simp -dsimp) c2 ?_
  refine srs hn ?_
  obtain⟨y1,h3,hm⟩:=bnd hm
  simp -dsimp [c2]
  refine aR (eS y.1 y1 h3) (dkL hn) ?_
  simp -dsimp
  refine aS (aW ?_)
  refine srs hn ?_
  simp -dsimp
  rcases aZ hm with ⟨c4,hm⟩ | ⟨c4,hm⟩
  ·exact zz
  ·refine aX (by simp -dsimp) c4 ?_
   obtain⟨a,j7,hm⟩:=bnd hm
   refine scE [(8,vI y1.1),(39,vT a)] [] ?_ fun Z O hf=>?_
   ·replace hm:=j7
    clear j7
    exact zz
   ·clear j7
    exact zz
 ·refine aX (by simp -dsimp) c2 ?_
  refine aU (aQ ?_)
  refine srs hn ?_
  obtain⟨y1,h8,hm⟩:=bnd hm
  simp -dsimp [c2]
  refine aR (bU s ([84]:List UInt8) y1 h8) (dkL hn) ?_
  simp -dsimp
  refine srs hn ?_
  obtain⟨y2,h9,hm⟩:=bnd hm
  simp -dsimp
  refine aR (c_strings_Cut y1.1 ([47]:List UInt8) y2 h9) (dkL hn) ?_
  simp -dsimp
  refine srs hn ?_
  obtain⟨y3,h10,hm⟩:=bnd hm
  simp -dsimp
  refine aR (eS y2.1 y3 h10) (dkL hn) ?_
  simp -dsimp
  refine srs hn ?_
  obtain⟨y4,h11,hm⟩:=bnd hm
  simp -dsimp
  refine aR (eS y2.2.1 y4 h11) (dkL hn) ?_
  simp -dsimp
  refine aS (aW ?_)
  obtain⟨a,j21,hm⟩:=bnd hm
  refine scE [(16,vI y3.1),(18,vT y3.2.2),(19,vI y4.1),(21,vT y4.2.2),(70,vT a)] [] ?_ fun Z O hf=>?_
  ·replace hm:=j21
   clear j21
   exact zz
  ·clear j21
   simp only[Fits,b8,b9,and_true] at hf
   rcases aZ hm with ⟨c15,hm⟩ | ⟨c15,hm⟩
   ·exact zz
   ·refine aX (by simp -dsimp [hf]) c15 ?_
    obtain⟨a1,j20,hm⟩:=bnd hm
    refine scE [(16,vI y3.1),(19,vI y4.1),(85,vT a1)] [] ?_ fun Z O hf=>?_
    ·replace hm:=j20
     clear j20
     exact zz
    ·clear j20
     simp only[Fits,b8,b9,and_true] at hf
     rcases aZ hm with ⟨c17,hm⟩ | ⟨c17,hm⟩
     ·exact zz
     ·refine aX (by simp -dsimp [hf]) c17 ?_
      refine aU ?_
      refine bv ?_
      refine aQ (aS ?_)
      refine srs hn ?_
      obtain⟨y5,h18,hm⟩:=bnd hm
      simp -dsimp [hf]
      refine aR (gM y4.1 y3.1 y5 h18) (dkL hn) ?_
      exact zz
theorem fv (s ay:List UInt8) (r:Bool) (hm:m_strings_HasPrefix s ay=some r):PureCall Tryz.prog 33 [.u (.one (.d (.str (bs s)))),.u (.one (.d (.str (bs ay))))] (vT r):=by
 refine bo Tryz.func33 Tryz.ntmps33 fun cx hn=>?_
 unfold m_strings_HasPrefix at hm
 refine srs hn ?_
 simp -dsimp
 refine srs hn ?_
 obtain⟨y,h1,hm⟩:=bnd hm
 simp -dsimp
 refine aR (cB s ay y h1) (dkL hn) ?_
 exact zz
theorem c_strings_Index (s sub:List UInt8) (r:Int) (hm:m_strings_Index s sub=some r):PureCall Tryz.prog 94 [.u (.one (.d (.str (bs s)))),.u (.one (.d (.str (bs sub))))] (vI r):=index_pure indexL (by kernel_rfl) rfl ⟨_,Tryz.func94,by decide,rfl⟩ hm
theorem gb (s aO:List UInt8) (r:Bool) (hm:m_strings_Contains s aO=some r):PureCall Tryz.prog 34 [.u (.one (.d (.str (bs s)))),.u (.one (.d (.str (bs aO))))] (vT r):=by
 refine bo Tryz.func34 Tryz.ntmps34 fun cx hn=>?_
 unfold m_strings_Contains at hm
 refine srs hn ?_
 simp -dsimp
 refine srs hn ?_
 obtain⟨y,h1,hm⟩:=bnd hm
 simp -dsimp
 refine aR (c_strings_Index s aO y h1) (dkL hn) ?_
 simp -dsimp
 cases hm
 exact bb ⟨.inr rfl,EE.here (by simp -dsimp)⟩
theorem bV (s:List UInt8) (r:Int) (hm:m_notation_Kind s=some r):PureCall Tryz.prog 12 [.u (.one (.d (.str (bs s))))] (vI r):=by
 refine bo Tryz.func12 Tryz.ntmps12 fun cx hn=>?_
 unfold m_notation_Kind at hm
 refine srs hn ?_
 simp -dsimp
 refine aS ?_
 refine srs hn ?_
 obtain⟨y,h1,hm⟩:=bnd hm
 simp -dsimp
 refine aR (eK s y h1) (dkL hn) ?_
 simp -dsimp
 refine srs hn ?_
 simp -dsimp
 rcases aZ hm with ⟨c2,hm⟩ | ⟨c2,hm⟩
 ·exact zz
 ·refine aX (by simp -dsimp) c2 ?_
  refine aU (aQ (aS ?_))
  refine srs hn ?_
  obtain⟨y1,h3,hm⟩:=bnd hm
  simp -dsimp [c2]
  refine aR (dJ s y1 h3) (dkL hn) ?_
  simp -dsimp
  refine srs hn ?_
  simp -dsimp
  rcases aZ hm with ⟨c4,hm⟩ | ⟨c4,hm⟩
  ·exact zz
  ·refine aX (by simp -dsimp) c4 ?_
   refine aU (aQ (aS ?_))
   refine srs hn ?_
   obtain⟨y2,h5,hm⟩:=bnd hm
   simp -dsimp [c4]
   refine aR (fq s y2 h5) (dkL hn) ?_
   simp -dsimp
   refine srs hn ?_
   simp -dsimp
   rcases aZ hm with ⟨c6,hm⟩ | ⟨c6,hm⟩
   ·refine aV (by simp -dsimp) c6 ?_
    refine aW ?_
    refine srs hn ?_
    obtain⟨y3,h7,hm⟩:=bnd hm
    simp -dsimp [c6]
    refine aR (fv s ([87]:List UInt8) y3 h7) (dkL hn) ?_
    simp -dsimp
    rcases aZ hm with ⟨c8,hm⟩ | ⟨c8,hm⟩
    ·exact zz
    ·refine aX (by simp -dsimp) c8 ?_
     refine srs hn ?_
     obtain⟨y4,h9,hm⟩:=bnd hm
     simp -dsimp [c8]
     refine aR (fv s ([84]:List UInt8) y4 h9) (dkL hn) ?_
     simp -dsimp
     rcases aZ hm with ⟨c10,hm⟩ | ⟨c10,hm⟩
     ·exact zz
     ·refine aX (by simp -dsimp) c10 ?_
      refine aU ?_
      refine bv ?_
      refine aQ (aS ?_)
      refine srs hn ?_
      obtain⟨y5,h11,hm⟩:=bnd hm
      simp -dsimp [c10]
      refine aR (gb s ([10]:List UInt8) y5 h11) (dkL hn) ?_
      exact zz
   ·refine aX (by simp -dsimp) c6 ?_
    refine aU (aQ (aS ?_))
    refine srs hn ?_
    obtain⟨y3,h13,hm⟩:=bnd hm
    simp -dsimp [c6]
    refine aR (gb s ([10]:List UInt8) y3 h13) (dkL hn) ?_
    exact zz
theorem c_cmp_isNaN_int (x:Int) (r:Bool) (hm:m_cmp_isNaN_int x=some r):PureCall Tryz.prog 148 [vI x] (vT r):=by
 refine bo Tryz.func148 Tryz.ntmps148 fun cx hn=>?_
 unfold m_cmp_isNaN_int at hm
 refine srs hn ?_
 simp -dsimp
 refine srs hn ?_
 simp -dsimp
 cases hm
 exact bb ⟨.inr rfl,EE.here (by simp -dsimp)⟩
theorem gy (x y r:Int) (hm:m_cmp_Compare_int x y=some r):PureCall Tryz.prog 98 [vI x,vI y] (vI r):=by
 refine bo Tryz.func98 Tryz.ntmps98 fun cx hn=>?_
 unfold m_cmp_Compare_int at hm
 refine srs hn ?_
 simp -dsimp
 refine srs hn ?_
 obtain⟨y1,h1,hm⟩:=bnd hm
 simp -dsimp
 refine aR (c_cmp_isNaN_int x y1 h1) (dkL hn) ?_
 simp -dsimp
 refine srs hn ?_
 obtain⟨y2,h2,hm⟩:=bnd hm
 simp -dsimp
 refine aR (c_cmp_isNaN_int y y2 h2) (dkL hn) ?_
 exact zz
def F_cmp_Or_int_1 (cx:Cx) (_vals:List Int) (tt:Int ⊕ Unit) (ee:Exit) (Z:Env) (O:Sto):Prop:=match tt with
 | .inl r=>ee=.ret/\EE cx (fun Z O=>∃ v,di tb Z O Tryz.f97.results.toList=some v/\(v.frz O).free=true/\(v.frz O).wk (vI r)) Z O
 | .inr _u=>ee=.exit 0/\EE cx (bg [(3,vI 0)] []) Z O
theorem l_cmp_Or_int_1 (cx:Cx) (hn:cx.n=18) (vals:List Int) {fu:Nat} {stt:Int} {tt:Int ⊕ Unit} (hh:aY (b_cmp_Or_int_1 vals) fu stt=some tt) {Z:Env} {O:Sto}
  (hE:bl (fun a:Int=>[(3,vI 0),(6,.u (.one (dL vals))),(7,vI (aT vals)),(8,vI a)]) (fun _a:Int=>[]) stt Z O):Swp Tryz.prog cx (.loop (bA [1,1,0,1,0,0] (be Tryz.f97))) Z O (F_cmp_Or_int_1 cx vals tt):=by
 refine bm hE hh (F_cmp_Or_int_1 cx vals) ?_
 rintro a r hm Z O hf
 simp only[Fits,b8,b9,and_true] at hf
 unfold b_cmp_Or_int_1 at hm
 exact zz
theorem c_cmp_Or_int (vals:List Int) (r:Int) (hm:m_cmp_Or_int vals=some r):PureCall Tryz.prog 97 [.u (.one (dL vals))] (vI r):=by
 refine bo Tryz.func97 Tryz.ntmps97 fun cx hn=>?_
 unfold m_cmp_Or_int at hm
 refine srs hn ?_
 simp -dsimp
 refine srs hn ?_
 simp -dsimp
 refine aS ?_
 refine srs hn ?_
 simp -dsimp
 refine aW ?_
 obtain⟨o_,g4,hm⟩:=bnd hm
 refine bd (l_cmp_Or_int_1 cx hn vals g4) (by
   try dsimp only
   exact eeh
 ) fun ee Z O xx=>?_
 rcases o_ with r | _u
 ·exact zz
 ·exact zz
theorem c_point_Compare (a b:Point) (r:Int) (hm:m_point_Compare a b=some r):PureCall Tryz.prog 37 [.u (.agg [dI a.X,dI a.Y]),.u (.agg [dI b.X,dI b.Y])] (vI r):=by
 refine bo Tryz.func37 Tryz.ntmps37 fun cx hn=>?_
 unfold m_point_Compare at hm
 refine srs hn ?_
 simp -dsimp
 refine sw_qts bj mixed (by rw[hn]; kernel_rfl) ?_
 obtain⟨y,h1,hm⟩:=bnd hm
 simp -dsimp
 refine b7 (gy a.Y b.Y y h1) ?_
 obtain⟨y1,h2,hm⟩:=bnd hm
 simp -dsimp
 refine b7 (gy a.X b.X y1 h2) ?_
 obtain⟨y2,h3,hm⟩:=bnd hm
 simp -dsimp
 refine b7 (c_cmp_Or_int [y,y1] y2 h3) ?_
 exact zz
def F_hood_Right_1 (cx:Cx) (_l:List Point) (tt:Bool ⊕ Unit) (ee:Exit) (Z:Env) (O:Sto):Prop:=match tt with
 | .inl r=>ee=.ret/\EE cx (fun Z O=>∃ v,di tb Z O Tryz.f91.results.toList=some v/\(v.frz O).free=true/\(v.frz O).wk (vT r)) Z O
 | .inr _u=>ee=.exit 0/\EE cx (bg [] []) Z O
theorem l_hood_Right_1 (cx:Cx) (hn:cx.n=53) (l:List Point) {fu:Nat} {stt:Int} {tt:Bool ⊕ Unit} (hh:aY (b_hood_Right_1 l) fu stt=some tt) {Z:Env} {O:Sto}
  (hE:bl (fun a1:Int=>[(0,.u (.one (dR1 l))),(13,.u (.one (dR1 l))),(14,vI (aT l)),(15,vI a1)]) (fun _a1:Int=>[]) stt Z O):Swp Tryz.prog cx (.loop (bA [1,1,0,1,0,0] (be Tryz.f91))) Z O (F_hood_Right_1 cx l tt):=by
 refine bm hE hh (F_hood_Right_1 cx l) ?_
 rintro a1 r hm Z O hf
 simp only[Fits,b8,b9,and_true] at hf
 unfold b_hood_Right_1 at hm
 dsimp only at hm
 refine srs hn ?_
 simp -dsimp [hf]
 refine aS ?_
 rcases aZ hm with ⟨c3,hm⟩ | ⟨c3,hm⟩
 ·refine aV (by simp -dsimp) c3 ?_
  refine aU (aQ (aS (aW ?_)))
  refine srs hn ?_
  obtain⟨x,h4,hm⟩:=bnd hm
  simp -dsimp [hf,c3,h4]
  obtain⟨a2,j13,hm⟩:=bnd hm
  refine scE [(0,.u (.one (dR1 l))),(13,.u (.one (dR1 l))),(14,vI (aT l)),(15,vI a1),(51,vT a2)] [] ?_ fun Z O hf=>?_
  ·replace hm:=j13
   clear j13
   refine sw_qt bj mixed (by rw[hn]; kernel_rfl) ?_
   rcases aZ hm with ⟨c5,hm⟩ | ⟨c5,hm⟩
   ·exact zz
   ·rcases aZ hm with ⟨c6,hm⟩ | ⟨c6,hm⟩
    ·exact zz
    ·rcases aZ hm with ⟨c7,hm⟩ | ⟨c7,hm⟩
     ·exact zz
     ·rcases aZ hm with ⟨c8,hm⟩ | ⟨c8,hm⟩
      ·exact zz
      ·rcases aZ hm with ⟨c9,hm⟩ | ⟨c9,hm⟩
       ·obtain⟨x1,h10,hm⟩:=bnd hm
        obtain⟨y,h11,hm⟩:=bnd hm
        simp -dsimp [hf,c5,c6,c7,c8,c9,h10]
        refine b7 (c_point_Compare x1 x y h11) ?_
        exact zz
       ·exact zz
  ·clear j13
   exact zz
 ·exact zz
theorem c_hood_Right (l:List Point) (r:Bool) (hm:m_hood_Right l=some r):PureCall Tryz.prog 91 [.u (.one (dR1 l))] (vT r):=by
 refine bo Tryz.func91 Tryz.ntmps91 fun cx hn=>?_
 unfold m_hood_Right at hm
 refine srs hn ?_
 simp -dsimp
 refine aS ?_
 obtain⟨a,j15,hm⟩:=bnd hm
 refine scE [(0,.u (.one (dR1 l))),(12,vT a)] [] ?_ fun Z O hf=>?_
 ·replace hm:=j15
  clear j15
  exact zz
 ·clear j15
  simp only[Fits,b8,b9,and_true] at hf
  rcases aZ hm with ⟨c2,hm⟩ | ⟨c2,hm⟩
  ·exact zz
  ·refine aX (by simp -dsimp [hf]) c2 ?_
   refine aU (aQ (aS ?_))
   refine srs hn ?_
   simp -dsimp [hf]
   refine aW ?_
   obtain⟨o_,g14,hm⟩:=bnd hm
   refine bd (l_hood_Right_1 cx hn l g14) (by
     try dsimp only
     exact EE.here (by simp -dsimp [hf])
   ) fun ee Z O xx=>?_
   rcases o_ with r | _u
   ·exact zz
   ·exact zz
def ch (cx:Cx) (_s:List Point) (_v:Point) (tt:Int ⊕ Unit) (ee:Exit) (Z:Env) (O:Sto):Prop:=match tt with
 | .inl r=>ee=.ret/\EE cx (fun Z O=>∃ v,di tb Z O Tryz.f123.results.toList=some v/\(v.frz O).free=true/\(v.frz O).wk (vI r)) Z O
 | .inr _u=>ee=.exit 0/\EE cx (bg [] []) Z O
theorem dF (cx:Cx) (hn:cx.n=19) (s:List Point) (v:Point) {fu:Nat} {stt:Int} {tt:Int ⊕ Unit} (hh:aY (b_slices_Index_api_Point_api_Point_1 s v) fu stt=some tt) {Z:Env} {O:Sto}
  (hE:bl (fun a:Int=>[(0,.u (.one (dR1 s))),(3,vX 3),(7,vI (aT s)),(8,vI a)]) (fun _a:Int=>[(3,.box [dI v.X,dI v.Y])]) stt Z O):Swp Tryz.prog cx (.loop (bA [1,0,1,0,0] (be Tryz.f123))) Z O (ch cx s v tt):=by
 refine bm hE hh (ch cx s v) ?_
 rintro a r hm Z O hf
 simp only[Fits,b8,b9,and_true] at hf
 unfold b_slices_Index_api_Point_api_Point_1 at hm
 exact zz
theorem dY (s:List Point) (v:Point) (r:Int) (hm:m_slices_Index_api_Point_api_Point s v=some r):PureCall Tryz.prog 123 [.u (.one (dR1 s)),.u (.agg [dI v.X,dI v.Y])] (vI r):=by
 refine bo Tryz.func123 Tryz.ntmps123 fun cx hn=>?_
 unfold m_slices_Index_api_Point_api_Point at hm
 refine srs hn ?_
 simp -dsimp
 refine aS ?_
 refine srs hn ?_
 simp -dsimp
 refine aW ?_
 obtain⟨o_,g4,hm⟩:=bnd hm
 refine bd (dF cx hn s v g4) (by
   try dsimp only
   exact eeh
 ) fun ee Z O xx=>?_
 rcases o_ with r | _u
 ·exact zz
 ·exact zz
theorem c_hood_Centre (l:List Point) (r:Int) (hm:m_hood_Centre l=some r):PureCall Tryz.prog 61 [.u (.one (dR1 l))] (vI r):=by
 refine bo Tryz.func61 Tryz.ntmps61 fun cx hn=>?_
 unfold m_hood_Centre at hm
 refine srs hn ?_
 simp -dsimp
 refine aS ?_
 refine srs hn ?_
 obtain⟨y,h1,hm⟩:=bnd hm
 simp -dsimp
 refine aR (c_hood_Right l y h1) (dkL hn) ?_
 simp -dsimp
 rcases aZ hm with ⟨c2,hm⟩ | ⟨c2,hm⟩
 ·exact zz
 ·refine aX (by simp -dsimp) c2 ?_
  refine aU (aQ ?_)
  refine srs hn ?_
  obtain⟨y1,h3,hm⟩:=bnd hm
  simp -dsimp [c2]
  refine aR (dY l (⟨0,0⟩:Point) y1 h3) (dkL hn) ?_
  exact zz
theorem dW (l r:List Point) (hm:m_slices_Clone_api_Point_api_Point l=some r):r=l:=(b6 hm).2
theorem ef (l r:List Point) (hm:m_slices_Clone_api_Point_api_Point l=some r):PFn Tryz.prog 66 [.u (.one (dR1 l))] (fun v=>v.wk (.u (.one (dR1 r)))):=by
 refine pfn_E bj _ Tryz.func66 rfl (by kernel_rfl) (by simp[Tryz.ntmps66]) fun cx hn=>?_
 replace hn:cx.n=8:=hn.trans Tryz.ntmps66
 have ha:=(b6 hm).1
 have hr:r=l:=(b6 hm).2
 clear hm
 subst hr
 simp only[List.length_nil,Nat.zero_add] at ha
 refine srs hn ?_
 simp -dsimp
 refine aS ?_
 refine srs hn ?_
 cases r with
 | nil =>
  simp -dsimp
  refine⟨?_,?_⟩
  ·refine aV (b:=true) (by simp -dsimp) rfl ?_
   refine srs hn ?_
   simp -dsimp
   refine bb (bS ?_)
   refine⟨.inr rfl,EE.here ?_⟩; simp -dsimp
  ·refine aX (b:=false) (by simp -dsimp) rfl ?_
   refine aU (aQ ?_)
   refine srs hn ?_
   simp -dsimp
   refine bb ?_
   refine⟨.inr rfl,EE.here ?_⟩; simp -dsimp
 | cons x xs =>
  simp -dsimp
  refine aX (b:=false) (by simp -dsimp) rfl ?_
  refine aU (aQ ?_)
  refine srs hn ?_
  simp only[List.length_cons] at ha
  simp -dsimp [ha]
  refine bb ?_
  refine⟨.inr rfl,EE.here ?_⟩; simp -dsimp
theorem cr (l r:List Point) (hm:m_slices_Clone_api_Point_api_Point l=some r):PureCall Tryz.prog 66 [.u (.one (dR1 l))] (.u (.one (dR1 r))):=(ef l r hm).pureW
theorem dX (l r:List Point) (hm:m_slices_Clone_api_Point_api_Point l=some r):NewFn Tryz.prog 66 [.u (.one (dR1 l))] (fun o=>o=.row 2 67 (List.map Point.row r)):=by
 refine new_S bj _ Tryz.func66 rfl (by kernel_rfl) (by simp[Tryz.ntmps66]) fun cx hn=>?_
 replace hn:cx.n=8:=hn.trans Tryz.ntmps66
 have ha:=(b6 hm).1
 have hr:r=l:=(b6 hm).2
 clear hm
 subst hr
 simp only[List.length_nil,Nat.zero_add] at ha
 refine srs hn ?_
 simp -dsimp
 refine aS ?_
 refine srs hn ?_
 cases r with
 | nil =>
  simp -dsimp
  refine⟨?_,?_⟩
  ·refine aV (b:=true) (by simp -dsimp) rfl ?_
   refine srs hn ?_
   simp -dsimp
   refine bb (bS ?_)
   refine⟨.inr rfl,?_⟩; simp -dsimp
  ·refine aX (b:=false) (by simp -dsimp) rfl ?_
   refine aU (aQ ?_)
   refine srs hn ?_
   simp -dsimp
   refine bb ?_
   refine⟨.inr rfl,?_⟩; simp -dsimp
 | cons x xs =>
  simp -dsimp
  refine aX (b:=false) (by simp -dsimp) rfl ?_
  refine aU (aQ ?_)
  refine srs hn ?_
  simp only[List.length_cons] at ha
  simp -dsimp [ha]
  refine bb ?_
  refine⟨.inr rfl,?_⟩; simp -dsimp
end Go.Proofs.YtcllfealpkhjfaaGreatDoor
namespace Go.Proofs.YtcllfealpkhjfaaGreatDoor
open Go.AM Go.Proofs
set_option maxRecDepth 100000
attribute [-simp] qlookup cd cW Ob.wipe Ob.ren Ob.frz1
def dN (cx:Cx) (_s:List Int) (_v:Int) (tt:Int ⊕ Unit) (ee:Exit) (Z:Env) (O:Sto):Prop:=match tt with
 | .inl r=>ee=.ret/\EE cx (fun Z O=>∃ v,di tb Z O Tryz.f124.results.toList=some v/\(v.frz O).free=true/\(v.frz O).wk (vI r)) Z O
 | .inr _u=>ee=.exit 0/\EE cx (bg [] []) Z O
theorem gI (cx:Cx) (hn:cx.n=19) (s:List Int) (v:Int) {fu:Nat} {stt:Int} {tt:Int ⊕ Unit} (hh:aY (b_slices_Index_int_int_1 s v) fu stt=some tt) {Z:Env} {O:Sto}
  (hE:bl (fun a:Int=>[(0,.u (.one (dL s))),(1,vI v),(7,vI (aT s)),(8,vI a)]) (fun _a:Int=>[]) stt Z O):Swp Tryz.prog cx (.loop (bA [1,0,1,0,0] (be Tryz.f124))) Z O (dN cx s v tt):=by
 refine bm hE hh (dN cx s v) ?_
 rintro a r hm Z O hf
 simp only[Fits,b8,b9,and_true] at hf
 unfold b_slices_Index_int_int_1 at hm
 exact zz
theorem ie (s:List Int) (v r:Int) (hm:m_slices_Index_int_int s v=some r):PureCall Tryz.prog 124 [.u (.one (dL s)),vI v] (vI r):=by
 refine bo Tryz.func124 Tryz.ntmps124 fun cx hn=>?_
 unfold m_slices_Index_int_int at hm
 refine srs hn ?_
 simp -dsimp
 refine aS ?_
 refine srs hn ?_
 simp -dsimp
 refine aW ?_
 obtain⟨o_,g4,hm⟩:=bnd hm
 refine bd (gI cx hn s v g4) (by
   try dsimp only
   exact eeh
 ) fun ee Z O xx=>?_
 rcases o_ with r | _u
 ·exact zz
 ·exact zz
theorem dA (s:List Int) (v:Int) (r:Bool) (hm:m_slices_Contains_int_int s v=some r):PureCall Tryz.prog 64 [.u (.one (dL s)),vI v] (vT r):=by
 refine bo Tryz.func64 Tryz.ntmps64 fun cx hn=>?_
 unfold m_slices_Contains_int_int at hm
 refine srs hn ?_
 simp -dsimp
 refine srs hn ?_
 obtain⟨y,h1,hm⟩:=bnd hm
 simp -dsimp
 refine aR (ie s v y h1) (dkL hn) ?_
 simp -dsimp
 exact zz
theorem c_totaltree_Totals_2 (s:Ax) (a:Aw) (r:Int) (hm:m_totaltree_Totals_2 s a=some r):PureCall Tryz.prog 63 [.u (.agg [dI s.ones,dI s.centre]),.u (.one (.ref (Aw.row a) 0))] (vI r):=by
 refine bo Tryz.func63 Tryz.ntmps63 fun cx hn=>?_
 unfold m_totaltree_Totals_2 at hm
 refine srs hn ?_
 simp -dsimp
 refine srs hn ?_
 simp -dsimp
 refine aS (aW ?_)
 refine srs hn ?_
 simp -dsimp
 rcases aZ hm with ⟨c1,hm⟩ | ⟨c1,hm⟩
 ·refine sct c1 ?_
  obtain⟨next,j4,hm⟩:=bnd hm
  refine scE [(4,vI next)] [] ?_ fun Z O hf=>?_
  ·replace hm:=j4
   clear j4
   refine srs hn ?_
   obtain⟨y,h2,hm⟩:=bnd hm
   simp -dsimp [c1]
   refine aR (dA a.Birth s.ones y h2) (dkL hn) ?_
   exact zz
  ·clear j4
   exact zz
 ·refine scf c1 ?_
  obtain⟨a1,j9,hm⟩:=bnd hm
  refine scE [(1,.u (.one (.ref (Aw.row a) 0))),(4,vI s.centre),(17,vT a1)] [] ?_ fun Z O hf=>?_
  ·replace hm:=j9
   clear j9
   refine sr1 hn ?_
   rcases aZ hm with ⟨c5,hm⟩ | ⟨c5,hm⟩
   ·obtain⟨y,h6,hm⟩:=bnd hm
    simp -dsimp [c1,c5]
    refine aR (dA a.Survive s.ones y h6) (dkL hn) ?_
    exact zz
   ·exact zz
  ·clear j9
   exact zz
theorem gU (s:Ax) (at_ state a:Int) (r:Int×Int) (hm:m_totaltree_Totals_1_o s at_ state a=some r):GFn Tryz.prog 62 [.u (.agg [dI s.ones,dI s.centre]),vI at_,vI state,vX 1000000] [.box [dI a]] (.u (.agg [dI r.1,dI r.2])) [some (.box [dI a])]:=by
 refine bI bj _ Tryz.func62 rfl (by kernel_rfl) (by simp[Tryz.ntmps62]) (by simp) (by first | rfl | simp) (by first | rfl | simp) fun cx hn hk=>?_
 replace hn:cx.n=22:=hn.trans Tryz.ntmps62
 replace hk:cx.k=1:=hk
 unfold m_totaltree_Totals_1_o at hm
 refine srs hn ?_
 simp -dsimp
 obtain⟨⟨sones,scentre⟩,j3,hm⟩:=bnd hm
 refine scE [(4,vX 4),(7,vX 7)] [(4,.box [dI sones,dI scentre]),(7,.box [dI 0,dI 0]),(1000000,.box [dI a])] ?_ fun Z O hf=>?_
 ·replace hm:=j3
  clear j3
  refine aW ?_
  refine srs hn ?_
  simp -dsimp
  rcases aZ hm with ⟨c1,hm⟩ | ⟨c1,hm⟩
  ·refine sct c1 ?_
   refine sr1 hn ?_
   simp -dsimp [c1]
   refine bv ?_
   cases hm
   exact EE.here (by simp -dsimp)
  ·refine scf c1 ?_
   refine srs hn ?_
   simp -dsimp [c1]
   rcases aZ hm with ⟨c2,hm⟩ | ⟨c2,hm⟩
   ·refine aV (by simp -dsimp) c2 ?_
    refine sr1 hn ?_
    simp -dsimp [c2]
    refine bv ?_
    cases hm
    exact EE.here (by simp -dsimp)
   ·refine aX (by simp -dsimp) c2 ?_
    refine aU ?_
    refine bv ?_
    cases hm
    exact EE.here (by simp -dsimp [c2])
 ·clear j3
  exact zz
theorem cJ (l:List Int) (n base:Int) (r:List Int) (hm:m_internal_strconv_AppendUint_o l n base=some r):GFn Tryz.prog 186 [vO 1000000,.u (.one (.d (.int .u64 n))),vI base] [.row 1 5 (List.map (rI .u8) l)] (vO 1000001) [none,some (.row 1 5 (List.map (rI .u8) r))]:=appU_g appL rfl tf5 rfl rfl rfl rfl ⟨_,Tryz.func186,by decide,by kernel_rfl⟩ hm
theorem eO (dst:List Int) (i base:Int) (r:List Int) (hm:m_internal_strconv_AppendInt_o dst i base=some r):GFn Tryz.prog 159 [vO 1000000,vI i,vI base] [.row 1 5 (List.map (rI .u8) dst)] (vO 1000001) [none,some (.row 1 5 (List.map (rI .u8) r))]:=by
 refine bI bj _ Tryz.func159 rfl (by kernel_rfl) (by simp[Tryz.ntmps159]) (by simp) (by first | rfl | simp) (by first | rfl | simp) fun cx hn hk=>?_
 replace hn:cx.n=21:=hn.trans Tryz.ntmps159
 replace hk:cx.k=1:=hk
 unfold m_internal_strconv_AppendInt_o at hm
 refine srs hn ?_
 simp -dsimp
 refine srs hn ?_
 simp -dsimp
 obtain⟨⟨u,dst1⟩,j4,hm⟩:=bnd hm
 refine scE [(0,vO 5000),(2,vI base),(7,.u (.one (.d (.int .u64 u))))] [(5000,.row 1 5 (List.map (rI .u8) dst1))] ?_ fun Z O hf=>?_
 ·replace hm:=j4
  clear j4
  refine srs hn ?_
  simp -dsimp
  rcases aZ hm with ⟨c1,hm⟩ | ⟨c1,hm⟩
  ·refine sct c1 ?_
   refine srs hn ?_
   obtain⟨l,h2,hm⟩:=bnd hm
   obtain⟨h2a,h2e⟩:=b6 h2
   replace h2e:=h2e.symm
   subst h2e
   try simp only[List.length_cons,List.length_nil,Nat.zero_add] at h2a
   try simp only[Nat.mul_one,Nat.reduceLeDiff] at h2a
   simp -dsimp [c1,h2a]
   refine sr1 hn ?_
   simp -dsimp
   refine aQ ?_
   cases hm
   refine emv 14 5000 ?_
   exact zz
  ·refine scf c1 ?_
   refine aU (aQ ?_)
   cases hm
   refine emv 1000000 5000 ?_
   exact zz
 ·clear j4
  simp only[Fits,b8,b9,and_true] at hf
  refine srs hn ?_
  obtain⟨y,h3,hm⟩:=bnd hm
  simp -dsimp [hf]
  refine clg (cJ dst1 u base y h3) [5000] [5001] (by simp -dsimp [hf]) (dkL hn) ?_
  simp -dsimp
  refine bb ?_
  cases hm
  refine⟨.inr rfl,?_⟩
  refine emr 5001 1000001 hk ?_
  exact zz
theorem bX (dst:List Int) (i base:Int) (r:List Int) (hm:m_strconv_AppendInt_o dst i base=some r):GFn Tryz.prog 126 [vO 1000000,vI i,vI base] [.row 1 5 (List.map (rI .u8) dst)] (vO 1000001) [none,some (.row 1 5 (List.map (rI .u8) r))]:=by
 refine bI bj _ Tryz.func126 rfl (by kernel_rfl) (by simp[Tryz.ntmps126]) (by simp) (by first | rfl | simp) (by first | rfl | simp) fun cx hn hk=>?_
 replace hn:cx.n=11:=hn.trans Tryz.ntmps126
 replace hk:cx.k=1:=hk
 unfold m_strconv_AppendInt_o at hm
 refine srs hn ?_
 simp -dsimp
 refine srs hn ?_
 obtain⟨y,h1,hm⟩:=bnd hm
 simp -dsimp
 refine clg (eO dst i base y h1) [1000000] [5000] (by simp -dsimp) (dkL hn) ?_
 simp -dsimp
 refine bb ?_
 cases hm
 refine⟨.inr rfl,?_⟩
 refine emr 5000 1000001 hk ?_
 exact zz
def br (rcv:(Ay->(List Point)->(List Point)->Int->(List Int)->(List Int)->(List (Ay×Int))->Int->Int->(List (List UInt8×Int))->Int->(List Point)->(List Node)->Option (Int×(List (Ay×Int))×(List (List UInt8×Int))×(List Node)))):Prop:=∀ (p:Ay) (a ag:List Point) (a8:Int) (aw ai:List Int) (a1:List (Ay×Int)) (a2 cv:Int) (cv1:List (List UInt8×Int)) (av:Int) (az:List Point) (ar:List Node) (r:Int×(List (Ay×Int))×(List (List UInt8×Int))×(List Node)),rcv p a ag a8 aw ai a1 a2 cv cv1 av az ar=some r->GFn Tryz.prog 125 [.u (.agg [dI p.at_,dI p.s.ones,dI p.s.centre]),vX 1000000,vX 1000001,vX 1000003,vX 1000005,vX 1000006,vX 1000007,vX 1000009,vX 1000011] [.box [dR1 a],.box [.fn 63 [.box 1000002 0]],.box [dR1 ag,dI a8,dL aw,dL ai],.box [.map 1000004],mOb (.ints 3) Ay.key (uL (L.int .i64)) a1,.box [dI a2],.box [.fn 125 [.box 1000000 0,.box 1000001 0,.box 1000003 0,.box 1000005 0,.box 1000006 0,.box 1000007 0,.box 1000009 0,.box 1000011 0]],.box [.fn 62 [.box 1000008 0]],.box [dI cv],.box [.map 1000010],mOb .str kS (uL (L.int .i64)) cv1,.box [dI av,dR1 az,.own 1000012],.row 2 32 (List.map Node.row ar)] (vI r.1) [some (.box [dR1 a]),some (.box [.fn 63 [.box 1000002 0]]),some (.box [dR1 ag,dI a8,dL aw,dL ai]),some (.box [.map 1000004]),some (mOb (.ints 3) Ay.key (uL (L.int .i64)) r.2.1),some (.box [dI a2]),some (.box [.fn 125 [.box 1000000 0,.box 1000001 0,.box 1000003 0,.box 1000005 0,.box 1000006 0,.box 1000007 0,.box 1000009 0,.box 1000011 0]]),some (.box [.fn 62 [.box 1000008 0]]),some (.box [dI cv]),some (.box [.map 1000010]),some (mOb .str kS (uL (L.int .i64)) r.2.2.1),some (.box [dI av,dR1 az,.own 1000013]),none,some (.row 2 32 (List.map Node.row r.2.2.2))]
def bp (cx:Cx) (_rcv:(Ay->(List Point)->(List Point)->Int->(List Int)->(List Int)->(List (Ay×Int))->Int->Int->(List (List UInt8×Int))->Int->(List Point)->(List Node)->Option (Int×(List (Ay×Int))×(List (List UInt8×Int))×(List Node)))) (p:Ay) (a ag:List Point) (a8:Int) (aw ai:List Int) (a2 cv av:Int) (az:List Point) (_u:Unit) (tt:((List Node)×(List Int)×(List Int)×(List (Ay×Int))×(List (List UInt8×Int)))) (ee:Exit) (Z:Env) (O:Sto):Prop:=match tt with
 | (l,keyv,l1,mp,mp1)=>ee=.exit 0/\EE cx (bg [(3,vX 1000003),(7,vX 1000009),(8,vX 1000011),(9,vX 9),(13,vX 13),(14,vO 5003)] [(9,.box [dI p.at_,dI p.s.ones,dI p.s.centre]),(13,.box [dI (bc .i64 (aT a) p.at_),.own 5004]),(5000,.row 2 32 (List.map Node.row l)),(5003,.row 1 5 (List.map (rI .u8) keyv)),(5004,.row 1 3 (List.map (rI .i64) l1)),(1000000,.box [dR1 a]),(1000001,.box [.fn 63 [.box 1000002 0]]),(1000002,.box [dR1 ag,dI a8,dL aw,dL ai]),(1000003,.box [.map 1000004]),(1000004,mOb (.ints 3) Ay.key (uL (L.int .i64)) mp),(1000005,.box [dI a2]),(1000006,.box [.fn 125 [.box 1000000 0,.box 1000001 0,.box 1000003 0,.box 1000005 0,.box 1000006 0,.box 1000007 0,.box 1000009 0,.box 1000011 0]]),(1000007,.box [.fn 62 [.box 1000008 0]]),(1000008,.box [dI cv]),(1000009,.box [.map 1000010]),(1000010,mOb .str kS (uL (L.int .i64)) mp1),(1000011,.box [dI av,dR1 az,.own 5000])]) Z O
theorem co (cx:Cx) (hn:cx.n=101) (_hk:cx.k=13) (rcv:(Ay->(List Point)->(List Point)->Int->(List Int)->(List Int)->(List (Ay×Int))->Int->Int->(List (List UInt8×Int))->Int->(List Point)->(List Node)->Option (Int×(List (Ay×Int))×(List (List UInt8×Int))×(List Node)))) (p:Ay) (a ag:List Point) (a8:Int) (aw ai:List Int) (a2 cv av:Int) (az:List Point) (u:Unit) (aI:br rcv) {fu:Nat} {stt:Int×(List Node)×(List Int)×(List Int)×(List (Ay×Int))×(List (List UInt8×Int))} {tt:((List Node)×(List Int)×(List Int)×(List (Ay×Int))×(List (List UInt8×Int)))} (hh:aY (b_totaltree_build_totaltree_sum_1_o_o_o_o_o_o_o_o_1 rcv p a ag a8 aw ai a2 cv av az u) fu stt=some tt) {Z:Env} {O:Sto}
  (hE:bl (fun stt:Int×(List Node)×(List Int)×(List Int)×(List (Ay×Int))×(List (List UInt8×Int))=>match stt with | (a3,_l,_keyv,_l1,_mp,_mp1)=>[(3,vX 1000003),(5,vX 1000006),(6,vX 1000007),(7,vX 1000009),(8,vX 1000011),(9,vX 9),(13,vX 13),(14,vO 5003),(46,vI a2),(47,vI a3)]) (fun stt:Int×(List Node)×(List Int)×(List Int)×(List (Ay×Int))×(List (List UInt8×Int))=>match stt with | (_a3,l,keyv,l1,mp,mp1)=>[(9,.box [dI p.at_,dI p.s.ones,dI p.s.centre]),(13,.box [dI (bc .i64 (aT a) p.at_),.own 5004]),(5000,.row 2 32 (List.map Node.row l)),(5003,.row 1 5 (List.map (rI .u8) keyv)),(5004,.row 1 3 (List.map (rI .i64) l1)),(1000000,.box [dR1 a]),(1000001,.box [.fn 63 [.box 1000002 0]]),(1000002,.box [dR1 ag,dI a8,dL aw,dL ai]),(1000003,.box [.map 1000004]),(1000004,mOb (.ints 3) Ay.key (uL (L.int .i64)) mp),(1000005,.box [dI a2]),(1000006,.box [.fn 125 [.box 1000000 0,.box 1000001 0,.box 1000003 0,.box 1000005 0,.box 1000006 0,.box 1000007 0,.box 1000009 0,.box 1000011 0]]),(1000007,.box [.fn 62 [.box 1000008 0]]),(1000008,.box [dI cv]),(1000009,.box [.map 1000010]),(1000010,mOb .str kS (uL (L.int .i64)) mp1),(1000011,.box [dI av,dR1 az,.own 5000])]) stt Z O):Swp Tryz.prog cx (.loop (bA [1,1,1,1,1,0,1,0,0] (be Tryz.f125))) Z O (bp cx rcv p a ag a8 aw ai a2 cv av az u tt):=by
 refine bm hE hh (bp cx rcv p a ag a8 aw ai a2 cv av az u) ?_
 rintro⟨a3,l,keyv,l1,mp,mp1⟩ r hm Z O hf
 simp only[Fits,b8,b9,and_true] at hf
 unfold b_totaltree_build_totaltree_sum_1_o_o_o_o_o_o_o_o_1 at hm
 dsimp only at hm
 refine srs hn ?_
 simp -dsimp [hf]
 refine aS ?_
 rcases aZ hm with ⟨c5,hm⟩ | ⟨c5,hm⟩
 ·refine aV (by simp -dsimp) c5 ?_
  refine aU (aQ (aS (aW ?_)))
  refine srs hn ?_
  simp -dsimp [hf,c5]
  refine f9 bj mixed 10 11 12 0 [[0,1,2,3]] [[]] [true] none (by rw[hn]; kernel_rfl) cM ?_
  dsimp only [List.take,List.drop,dy,dO,eY,pk,List.cons_append,List.nil_append,List.flatten_cons,List.flatten_nil,cC,cE,List.append_nil]
  obtain⟨y,h6,hm⟩:=bnd hm
  simp -dsimp [hf]
  refine callE_g (gU p.s p.at_ a3 cv y h6) [1000008] [] rfl rfl rfl (by simp -dsimp) rfl (by simp -dsimp [hf]) (by first | rfl | simp) rfl (dkL hn) rfl rfl (by simp) nofun (by simp) ?_
  obtain⟨y1,h7,hm⟩:=bnd hm
  simp -dsimp [hf]
  refine clg (aI (⟨(bq .i64 p.at_ 1),⟨y.1,y.2⟩⟩:Ay) a ag a8 aw ai mp a2 cv mp1 av az l y1 h7) [1000000,1000001,1000002,1000003,1000004,1000005,1000006,1000007,1000008,1000009,1000010,1000011,5000] [5001] (by simp -dsimp [hf]) (dkL hn) ?_
  simp -dsimp
  refine srs hn ?_
  obtain⟨l2,h8,hm⟩:=bnd hm
  obtain⟨h8a,h8e⟩:=b6 h8
  replace h8e:=h8e.symm
  subst h8e
  try simp only[List.length_cons,List.length_nil,Nat.zero_add] at h8a
  simp -dsimp [hf,h8a]
  refine sr1 hn ?_
  obtain⟨l3,h9,hm⟩:=bnd hm
  obtain⟨h9a,h9e⟩:=b6 h9
  replace h9e:=h9e.symm
  subst h9e
  try simp only[List.length_cons,List.length_nil,Nat.zero_add] at h9a
  try simp only[Nat.mul_one,Nat.reduceLeDiff] at h9a
  obtain⟨y2,h10,hm⟩:=bnd hm
  simp -dsimp [hf,h9a]
  refine clg (bX (keyv++[32]) y1.1 10 y2 h10) [71] [5002] (by simp -dsimp) (dkL hn) ?_
  simp -dsimp
  refine bv ?_
  refine aQ ?_
  refine sr1 hn ?_
  simp -dsimp [hf]
  cases hm
  refine bE ?_
  refine emv 5002 5003 ?_
  refine emv 67 5004 ?_
  refine emv 5001 5000 ?_
  exact zz
 ·exact zz
theorem cq (rcv:(Ay->(List Point)->(List Point)->Int->(List Int)->(List Int)->(List (Ay×Int))->Int->Int->(List (List UInt8×Int))->Int->(List Point)->(List Node)->Option (Int×(List (Ay×Int))×(List (List UInt8×Int))×(List Node)))) (aI:br rcv) (p:Ay) (a ag:List Point) (a8:Int) (aw ai:List Int) (a1:List (Ay×Int)) (a2 cv:Int) (cv1:List (List UInt8×Int)) (av:Int) (az:List Point) (ar:List Node) (r:Int×(List (Ay×Int))×(List (List UInt8×Int))×(List Node)) (hm:mb_totaltree_build_totaltree_sum_1_o_o_o_o_o_o_o_o rcv p a ag a8 aw ai a1 a2 cv cv1 av az ar=some r):GFn Tryz.prog 125 [.u (.agg [dI p.at_,dI p.s.ones,dI p.s.centre]),vX 1000000,vX 1000001,vX 1000003,vX 1000005,vX 1000006,vX 1000007,vX 1000009,vX 1000011] [.box [dR1 a],.box [.fn 63 [.box 1000002 0]],.box [dR1 ag,dI a8,dL aw,dL ai],.box [.map 1000004],mOb (.ints 3) Ay.key (uL (L.int .i64)) a1,.box [dI a2],.box [.fn 125 [.box 1000000 0,.box 1000001 0,.box 1000003 0,.box 1000005 0,.box 1000006 0,.box 1000007 0,.box 1000009 0,.box 1000011 0]],.box [.fn 62 [.box 1000008 0]],.box [dI cv],.box [.map 1000010],mOb .str kS (uL (L.int .i64)) cv1,.box [dI av,dR1 az,.own 1000012],.row 2 32 (List.map Node.row ar)] (vI r.1) [some (.box [dR1 a]),some (.box [.fn 63 [.box 1000002 0]]),some (.box [dR1 ag,dI a8,dL aw,dL ai]),some (.box [.map 1000004]),some (mOb (.ints 3) Ay.key (uL (L.int .i64)) r.2.1),some (.box [dI a2]),some (.box [.fn 125 [.box 1000000 0,.box 1000001 0,.box 1000003 0,.box 1000005 0,.box 1000006 0,.box 1000007 0,.box 1000009 0,.box 1000011 0]]),some (.box [.fn 62 [.box 1000008 0]]),some (.box [dI cv]),some (.box [.map 1000010]),some (mOb .str kS (uL (L.int .i64)) r.2.2.1),some (.box [dI av,dR1 az,.own 1000013]),none,some (.row 2 32 (List.map Node.row r.2.2.2))]:=by
 refine bI bj _ Tryz.func125 rfl (by kernel_rfl) (by simp[Tryz.ntmps125]) (by simp) (by first | rfl | simp) (by first | rfl | simp) fun cx hn hk=>?_
 replace hn:cx.n=101:=hn.trans Tryz.ntmps125
 replace hk:cx.k=13:=hk
 unfold mb_totaltree_build_totaltree_sum_1_o_o_o_o_o_o_o_o at hm
 refine srs hn ?_
 simp -dsimp
 refine aS ?_
 refine srs hn ?_
 simp -dsimp
 rcases aZ hm with ⟨c1,hm⟩ | ⟨c1,hm⟩
 ·refine sct c1 ?_
  refine srs hn ?_
  obtain⟨y,h2,hm⟩:=bnd hm
  simp -dsimp [c1]
  refine fN (us':=[.u (.agg [dI p.s.ones,dI p.s.centre]),.u (.one (.ref (Aw.row (⟨ag,a8,aw,ai⟩:Aw)) 0))]) (c_totaltree_Totals_2 p.s (⟨ag,a8,aw,ai⟩:Aw) y h2) (by simp -dsimp) rfl (dkL hn) ?_
  simp -dsimp
  refine bb (bS ?_)
  cases hm
  refine⟨.inr rfl,?_⟩
  refine emr 1000012 1000013 hk ?_
  exact zz
 ·refine scf c1 ?_
  refine aU (aQ (aS ?_))
  refine srs hn ?_
  obtain⟨u,h3,hm⟩:=bnd hm
  simp -dsimp [c1,df h3 (.head _),df h3 (.tail _ (.head _)),df h3 (.tail _ (.tail _ (.head _))),(@id (lkM (fi (mOb (.ints 3) Ay.key (uL (L.int .i64)) a1) (.ints [p.at_,p.s.ones,p.s.centre])) true (.one (dI 0))=some (.tup [.one (dI (ek a1 p 0)),.one (.d (.bool (cb a1 p)))])) (lk_two p 0))]
  refine srs hn ?_
  simp -dsimp
  rcases aZ hm with ⟨c4,hm⟩ | ⟨c4,hm⟩
  ·refine aV (b:=(cb a1 p)) (by simp -dsimp) c4 ?_
   refine srs hn ?_
   simp -dsimp [c4]
   refine bb (bS ?_)
   cases hm
   refine⟨.inr rfl,?_⟩
   refine emr 1000012 1000013 hk ?_
   exact zz
  ·refine aX (b:=(cb a1 p)) (by simp -dsimp) c4 ?_
   refine aU (aQ ?_)
   refine srs hn ?_
   simp -dsimp [c4]
   refine sw_regBs bj 3 (by rw[hn]; kernel_rfl) ?_
   dsimp only [List.take,List.drop]
   simp -dsimp
   refine aS ?_
   refine srs hn ?_
   simp -dsimp
   refine aW ?_
   obtain⟨⟨l,keyv,l1,mp,mp1⟩,g11,hm⟩:=bnd hm
   refine bd (co cx hn hk rcv p a ag a8 aw ai a2 cv av az u aI g11) (by
     try dsimp only
     refine emv 45 5003 ?_
     refine emv 1000012 5000 ?_
     refine EE.step (Wk.own0b 13 1 5004 1 3 [dI (bc .i64 (aT a) p.at_),.d .nil] (by simp -dsimp) (by rfl) (by decide) (by decide)) ?_
     exact zz
   ) fun ee Z O xx=>?_
   unfold bp at xx
   dsimp only at xx
   obtain⟨rfl,xx⟩:=xx
   refine bh ?_
   refine aQ ?_
   refine see xx fun Z O hf=>?_
   simp only[Fits,b8,b9,and_true] at hf
   refine srs hn ?_
   obtain⟨u1,h12,hm⟩:=bnd hm
   simp -dsimp [hf,dP h12,(@id (lkM (fi (mOb .str kS (uL (L.int .i64)) mp1) (.str (ofBytes keyv))) true (.one (dI 0))=some (.tup [.one (dI (ek mp1 (ofBytes keyv) 0)),.one (.d (.bool (cb mp1 (ofBytes keyv))))])) (lk_two (ofBytes keyv) 0))]
   obtain⟨⟨idv,mp2,l2⟩,j15,hm⟩:=bnd hm
   refine scE [(3,vX 1000003),(9,vX 9),(17,vI idv)] [(9,.box [dI p.at_,dI p.s.ones,dI p.s.centre]),(5000,.row 2 32 (List.map Node.row l2)),(1000000,.box [dR1 a]),(1000001,.box [.fn 63 [.box 1000002 0]]),(1000002,.box [dR1 ag,dI a8,dL aw,dL ai]),(1000003,.box [.map 1000004]),(1000004,mOb (.ints 3) Ay.key (uL (L.int .i64)) mp),(1000005,.box [dI a2]),(1000006,.box [.fn 125 [.box 1000000 0,.box 1000001 0,.box 1000003 0,.box 1000005 0,.box 1000006 0,.box 1000007 0,.box 1000009 0,.box 1000011 0]]),(1000007,.box [.fn 62 [.box 1000008 0]]),(1000008,.box [dI cv]),(1000009,.box [.map 1000010]),(1000010,mOb .str kS (uL (L.int .i64)) mp2),(1000011,.box [dI av,dR1 az,.own 5000])] ?_ fun Z O hf=>?_
   ·replace hm:=j15
    clear j15
    refine srs hn ?_
    simp -dsimp
    rcases aZ hm with ⟨c13,hm⟩ | ⟨c13,hm⟩
    ·refine aV (b:=(bB (cb mp1 (ofBytes keyv)))) (by simp -dsimp) c13 ?_
     refine srs hn ?_
     simp -dsimp [hf,c13]
     refine Swp.pre (Wk.frz 5004 1 3 (List.map (rI .i64) l1) (by simp -dsimp [hf])) ?_
     refine srs hn ?_
     obtain⟨l2,h14,hm⟩:=bnd hm
     obtain⟨h14a,h14e⟩:=b6 h14
     replace h14e:=h14e.symm
     subst h14e
     try simp only[List.length_cons,List.length_nil,Nat.zero_add] at h14a
     simp -dsimp [hf,h14a]
     refine sr1 hn ?_
     simp -dsimp [hf,dP h12,(@id (ga (mOb .str kS (uL (L.int .i64)) mp1) (.str (ofBytes keyv)) (.one (dI (aT l)))=mOb .str kS (uL (L.int .i64)) (dD mp1 (ofBytes keyv) (aT l))) (gp .str kS (uL (L.int .i64)) mp1 (ofBytes keyv) (aT l)))]
     refine aQ ?_
     cases hm
     refine emv 91 5000 ?_
     exact zz
    ·exact zz
   ·clear j15
    simp only[Fits,b8,b9,and_true] at hf
    refine srs hn ?_
    simp -dsimp [hf,df h3 (.head _),df h3 (.tail _ (.head _)),df h3 (.tail _ (.tail _ (.head _))),(@id (ga (mOb (.ints 3) Ay.key (uL (L.int .i64)) mp) (.ints [p.at_,p.s.ones,p.s.centre]) (.one (dI idv))=mOb (.ints 3) Ay.key (uL (L.int .i64)) (dD mp p idv)) (gp (.ints 3) Ay.key (uL (L.int .i64)) mp p idv))]
    refine srs hn ?_
    simp -dsimp [hf]
    refine bb ?_
    cases hm
    refine⟨.inr rfl,?_⟩
    refine emr 5000 1000013 hk ?_
    exact zz
theorem cw (p:Ay) (a ag:List Point) (a8:Int) (aw ai:List Int) (a1:List (Ay×Int)) (a2 cv:Int) (cv1:List (List UInt8×Int)) (av:Int) (az:List Point) (ar:List Node) (r:Int×(List (Ay×Int))×(List (List UInt8×Int))×(List Node)) (hm:m_totaltree_build_totaltree_sum_1_o_o_o_o_o_o_o_o p a ag a8 aw ai a1 a2 cv cv1 av az ar=some r):GFn Tryz.prog 125 [.u (.agg [dI p.at_,dI p.s.ones,dI p.s.centre]),vX 1000000,vX 1000001,vX 1000003,vX 1000005,vX 1000006,vX 1000007,vX 1000009,vX 1000011] [.box [dR1 a],.box [.fn 63 [.box 1000002 0]],.box [dR1 ag,dI a8,dL aw,dL ai],.box [.map 1000004],mOb (.ints 3) Ay.key (uL (L.int .i64)) a1,.box [dI a2],.box [.fn 125 [.box 1000000 0,.box 1000001 0,.box 1000003 0,.box 1000005 0,.box 1000006 0,.box 1000007 0,.box 1000009 0,.box 1000011 0]],.box [.fn 62 [.box 1000008 0]],.box [dI cv],.box [.map 1000010],mOb .str kS (uL (L.int .i64)) cv1,.box [dI av,dR1 az,.own 1000012],.row 2 32 (List.map Node.row ar)] (vI r.1) [some (.box [dR1 a]),some (.box [.fn 63 [.box 1000002 0]]),some (.box [dR1 ag,dI a8,dL aw,dL ai]),some (.box [.map 1000004]),some (mOb (.ints 3) Ay.key (uL (L.int .i64)) r.2.1),some (.box [dI a2]),some (.box [.fn 125 [.box 1000000 0,.box 1000001 0,.box 1000003 0,.box 1000005 0,.box 1000006 0,.box 1000007 0,.box 1000009 0,.box 1000011 0]]),some (.box [.fn 62 [.box 1000008 0]]),some (.box [dI cv]),some (.box [.map 1000010]),some (mOb .str kS (uL (L.int .i64)) r.2.2.1),some (.box [dI av,dR1 az,.own 1000013]),none,some (.row 2 32 (List.map Node.row r.2.2.2))]:=eC br (by intro _; intro _; intro _; intro _; intro _; intro _; intro _; intro _; intro _; intro _; intro _; intro _; intro _; intro _; intro hm; cases hm) cq fg p a ag a8 aw ai a1 a2 cv cv1 av az ar r hm
theorem bH (states:Int) (l:List Point) (start:Ax) (cv:Int) (ag:List Point) (a8:Int) (aw ai:List Int) (r:List Node) (hm:m_totaltree_build_totaltree_sum_totaltree_Totals_1_o_totaltree_Totals_2_o states l start cv ag a8 aw ai=some r):GFn Tryz.prog 65 [vI states,.u (.one (dR1 l)),.u (.agg [dI start.ones,dI start.centre]),.u (.one (.fn 62 [.box 1000000 0])),.u (.one (.fn 63 [.box 1000001 0]))] [.box [dI cv],.box [dR1 ag,dI a8,dL aw,dL ai]] (.u (.agg [dI states,dR1 l,dR0 r])) [some (.box [dI cv]),some (.box [dR1 ag,dI a8,dL aw,dL ai])]:=by
 refine bI bj _ Tryz.func65 rfl (by kernel_rfl) (by simp[Tryz.ntmps65]) (by simp) (by first | rfl | simp) (by first | rfl | simp) fun cx hn hk=>?_
 replace hn:cx.n=26:=hn.trans Tryz.ntmps65
 replace hk:cx.k=2:=hk
 unfold m_totaltree_build_totaltree_sum_totaltree_Totals_1_o_totaltree_Totals_2_o at hm
 refine srs hn ?_
 simp -dsimp
 refine srs hn ?_
 simp -dsimp
 refine srs hn ?_
 simp -dsimp [(@id (Ob.map (.ints 3) []=mOb (.ints 3) Ay.key (uL (L.int .i64)) ([]:List (Ay×Int))) (fC (.ints 3) Ay.key (uL (L.int .i64))))]
 refine srs hn ?_
 simp -dsimp [(@id (Ob.map .str []=mOb .str kS (uL (L.int .i64)) ([]:List (List UInt8×Int))) (fC .str kS (uL (L.int .i64))))]
 refine srs hn ?_
 simp -dsimp
 refine srs hn ?_
 simp -dsimp
 refine Swp.pre (Wk.own0b 10 2 5000 2 32 [dI 0,.d .nil,.d .nil] (by simp -dsimp) (by rfl) (by decide) (by decide)) ?_
 refine Swp.pre (Wk.own0b 11 2 5001 2 32 [dI states,dR1 l,.d .nil] (by simp -dsimp) (by rfl) (by decide) (by decide)) ?_
 refine srs hn ?_
 obtain⟨y,h1,hm⟩:=bnd hm
 simp -dsimp
 refine callL_g (cw (⟨0,⟨start.ones,start.centre⟩⟩:Ay) l ag a8 aw ai [] states cv [] states l [] y h1) [6,9,1000001,12,18,5,14,8,1000000,13,19,11,5001] [5002] rfl rfl rfl (by simp -dsimp) rfl (by simp -dsimp) (by first | rfl | simp) rfl (dkL hn) ?_
 simp -dsimp
 refine Swp.pre (Wk.frz 5002 2 32 (List.map Node.row y.2.2.2) (by simp -dsimp)) ?_
 exact zz
theorem fO (x:Aw) (r:Tree×Int) (hm:m_totaltree_Totals x=some r):PureCall Tryz.prog 20 [.u (.agg [dR1 x.Hood,dI x.States,dL x.Birth,dL x.Survive])] (.tup [.agg [dI r.1.States,dR1 r.1.Hood,dR0 r.1.Nodes],.one (dI r.2)]):=by
 refine bo Tryz.func20 Tryz.ntmps20 fun cx hn=>?_
 unfold m_totaltree_Totals at hm
 refine srs hn ?_
 simp -dsimp
 refine aS ?_
 refine srs hn ?_
 obtain⟨y,h1,hm⟩:=bnd hm
 simp -dsimp
 refine aR (bY x y h1) (dkL hn) ?_
 simp -dsimp
 rcases aZ hm with ⟨c2,hm⟩ | ⟨c2,hm⟩
 ·exact zz
 ·refine aX (by simp -dsimp) c2 ?_
  refine aU (aQ ?_)
  refine srs hn ?_
  obtain⟨y1,h3,hm⟩:=bnd hm
  simp -dsimp [c2]
  refine aR (c_hood_Centre x.Hood y1 h3) (dkL hn) ?_
  simp -dsimp
  refine srs hn ?_
  simp -dsimp
  refine srs hn ?_
  simp -dsimp
  refine gt bj mixed 8 (by rw[hn]; kernel_rfl) ?_
  dsimp only [List.take,List.drop]
  obtain⟨y2,h4,hm⟩:=bnd hm
  simp -dsimp
  refine b7 (cr x.Hood y2 h4) ?_
  obtain⟨y3,h5,hm⟩:=bnd hm
  simp -dsimp
  refine clg (bH x.States y2 (⟨0,0⟩:Ax) y1 x.Hood x.States x.Birth x.Survive y3 h5) [4,1] [] (by simp -dsimp) (dkL hn) ?_
  exact zz
end Go.Proofs.YtcllfealpkhjfaaGreatDoor
