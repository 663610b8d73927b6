/- That the code does what the functions say (made by cc.py). -/
import Derived.Test.YtlifofijgddjkabGreatDoorWa2
namespace Go.Proofs.YtlifofijgddjkabGreatDoor
open Go.AM Go.Proofs
set_option maxRecDepth 100000
attribute [-simp] qlookup cz dQ Ob.wipe Ob.ren Ob.frz1
def fM (cx:Cx) (_states _y:Int) (tt:(Int×(List Int))) (ee:Exit) (Z:Env) (O:Sto):Prop:=match tt with
 | (n1,l)=>ee=.exit 0/\EE cx (be [(1,vI n1),(6,vO 5000)] [(5000,.row 1 3 (List.map (rI .i64) l))]) Z O
theorem l_wolfram_Digits_1 (cx:Cx) (hn:cx.n=32) (states y:Int) {fu:Nat} {stt:Int×Int×(List Int)} {tt:(Int×(List Int))} (hh:aT (b_wolfram_Digits_1 states y) fu stt=some tt) {Z:Env} {O:Sto}
  (hE:bz (fun stt:Int×Int×(List Int)=>match stt with | (n1,a1,_l)=>[(0,vI states),(1,vI n1),(6,vO 5000),(16,vI y),(17,vI a1)]) (fun stt:Int×Int×(List Int)=>match stt with | (_n1,_a1,l)=>[(5000,.row 1 3 (List.map (rI .i64) l))]) stt Z O):Swp Tryz.prog cx (.loop (bW [1,1,1,1,0,1,0,0] (bd Tryz.f48))) Z O (fM cx states y tt):=by
 refine bC hE hh (fM cx states y) ?_
 rintro⟨n1,a1,l⟩ r hm Z O hf
 simp only[Fits,aZ,b6,and_true] at hf
 unfold b_wolfram_Digits_1 at hm
 dsimp only at hm
 refine srs hn ?_
 simp -dsimp [hf]
 refine aN ?_
 rcases aU hm with ⟨c5,hm⟩ | ⟨c5,hm⟩
 ·refine aQ (by simp -dsimp) c5 ?_
  refine aP (aM (aN (aS ?_)))
  refine srs hn ?_
  obtain⟨n2,h6,hm⟩:=bnd hm
  obtain⟨l1,h7,hm⟩:=bnd hm
  obtain⟨h7a,h7e⟩:=aW h7
  replace h7e:=h7e.symm
  subst h7e
  try simp only[List.length_cons,List.length_nil,Nat.zero_add] at h7a
  simp -dsimp [hf,c5,h6,h7a]
  refine sr1 hn ?_
  obtain⟨n3,h8,hm⟩:=bnd hm
  simp -dsimp [hf,h8]
  refine bN ?_
  refine aM ?_
  refine sr1 hn ?_
  simp -dsimp [hf]
  cases hm
  refine cE ?_
  refine emv 24 5000 ?_
  exact zz
 ·exact zz
theorem gq (states n:Int) (r:(List Int)×Int) (hm:m_wolfram_Digits states n=some r):PureCall Tryz.prog 48 [vI states,vI n] (.tup [.one (dL r.1),.one (dI r.2)]):=by
 refine bf Tryz.func48 Tryz.ntmps48 fun cx hn=>?_
 unfold m_wolfram_Digits at hm
 refine srs hn ?_
 simp -dsimp
 refine aN ?_
 obtain⟨a,j11,hm⟩:=bnd hm
 refine scE [(0,vI states),(1,vI n),(12,vT a)] [] ?_ fun Z O hf=>?_
 ·replace hm:=j11
  clear j11
  exact zz
 ·clear j11
  simp only[Fits,aZ,b6,and_true] at hf
  rcases aU hm with ⟨c2,hm⟩ | ⟨c2,hm⟩
  ·exact zz
  ·refine aR (by simp -dsimp [hf]) c2 ?_
   refine aP (aM (aN ?_))
   refine srs hn ?_
   simp -dsimp [hf]
   rcases aU hm with ⟨c3,hm⟩ | ⟨c3,hm⟩
   ·exact zz
   ·refine aR (by simp -dsimp) c3 ?_
    refine aP (aM ?_)
    refine srs hn ?_
    simp -dsimp [c3]
    refine aN ?_
    refine srs hn ?_
    obtain⟨y,h4,hm⟩:=bnd hm
    simp -dsimp [hf]
    refine aL (c_wolfram_sums states y h4) (dkL hn) ?_
    simp -dsimp
    refine aS ?_
    obtain⟨⟨n1,l⟩,g9,hm⟩:=bnd hm
    refine bc (l_wolfram_Digits_1 cx hn states y g9) (by
      try dsimp only
      refine EE.step (Wk.own0 6 5000 1 3 (by simp -dsimp) (by decide)) ?_
      exact zz
    ) fun ee Z O xx=>?_
    exact zz
theorem f8 (s:List UInt8) (r:Int×Int×Bool×Int) (hm:m_wolfram_Parse s=some r):PureCall Tryz.prog 14 [.u (.one (.d (.str (bs s))))] (.tup [.one (dI r.1),.one (dI r.2.1),.one (.d (.bool r.2.2.1)),.one (dI r.2.2.2)]):=by
 refine bf Tryz.func14 Tryz.ntmps14 fun cx hn=>?_
 unfold m_wolfram_Parse at hm
 refine srs hn ?_
 simp -dsimp
 refine aN ?_
 refine srs hn ?_
 obtain⟨y,h1,hm⟩:=bnd hm
 simp -dsimp
 refine aL (bP s ([87]:List UInt8) y h1) (dkL hn) ?_
 simp -dsimp
 refine srs hn ?_
 simp -dsimp
 rcases aU hm with ⟨c2,hm⟩ | ⟨c2,hm⟩
 ·refine aQ (by simp -dsimp) c2 ?_
  refine srs hn ?_
  obtain⟨y1,h3,hm⟩:=bnd hm
  simp -dsimp [c2]
  refine aL (eO y.1 y1 h3) (dkL hn) ?_
  simp -dsimp
  refine aN (aS ?_)
  refine srs hn ?_
  simp -dsimp
  rcases aU hm with ⟨c4,hm⟩ | ⟨c4,hm⟩
  ·exact zz
  ·refine aR (by simp -dsimp) c4 ?_
   obtain⟨a,j7,hm⟩:=bnd hm
   refine scE [(8,vI y1.1),(39,vT a)] [] ?_ fun Z O hf=>?_
   ·replace hm:=j7
    clear j7
    exact zz
   ·clear j7
    exact zz
 ·refine aR (by simp -dsimp) c2 ?_
  refine aP (aM ?_)
  refine srs hn ?_
  obtain⟨y1,h8,hm⟩:=bnd hm
  simp -dsimp [c2]
  refine aL (bP s ([84]:List UInt8) y1 h8) (dkL hn) ?_
  simp -dsimp
  refine srs hn ?_
  obtain⟨y2,h9,hm⟩:=bnd hm
  simp -dsimp
  refine aL (c_strings_Cut y1.1 ([47]:List UInt8) y2 h9) (dkL hn) ?_
  simp -dsimp
  refine srs hn ?_
  obtain⟨y3,h10,hm⟩:=bnd hm
  simp -dsimp
  refine aL (eO y2.1 y3 h10) (dkL hn) ?_
  simp -dsimp
  refine srs hn ?_
  obtain⟨y4,h11,hm⟩:=bnd hm
  simp -dsimp
  refine aL (eO y2.2.1 y4 h11) (dkL hn) ?_
  simp -dsimp
  refine aN (aS ?_)
  obtain⟨a,j21,hm⟩:=bnd hm
  refine scE [(16,vI y3.1),(18,vT y3.2.2),(19,vI y4.1),(21,vT y4.2.2),(70,vT a)] [] ?_ fun Z O hf=>?_
  ·replace hm:=j21
   clear j21
   exact zz
  ·clear j21
   simp only[Fits,aZ,b6,and_true] at hf
   rcases aU hm with ⟨c15,hm⟩ | ⟨c15,hm⟩
   ·exact zz
   ·refine aR (by simp -dsimp [hf]) c15 ?_
    obtain⟨a1,j20,hm⟩:=bnd hm
    refine scE [(16,vI y3.1),(19,vI y4.1),(85,vT a1)] [] ?_ fun Z O hf=>?_
    ·replace hm:=j20
     clear j20
     exact zz
    ·clear j20
     simp only[Fits,aZ,b6,and_true] at hf
     rcases aU hm with ⟨c17,hm⟩ | ⟨c17,hm⟩
     ·exact zz
     ·refine aR (by simp -dsimp [hf]) c17 ?_
      refine aP ?_
      refine bN ?_
      refine aM (aN ?_)
      refine srs hn ?_
      obtain⟨y5,h18,hm⟩:=bnd hm
      simp -dsimp [hf]
      refine aL (gq y4.1 y3.1 y5 h18) (dkL hn) ?_
      exact zz
theorem ff (s ax:List UInt8) (r:Bool) (hm:m_strings_HasPrefix s ax=some r):PureCall Tryz.prog 15 [.u (.one (.d (.str (bs s)))),.u (.one (.d (.str (bs ax))))] (vT r):=by
 refine bf Tryz.func15 Tryz.ntmps15 fun cx hn=>?_
 unfold m_strings_HasPrefix at hm
 refine srs hn ?_
 simp -dsimp
 refine srs hn ?_
 obtain⟨y,h1,hm⟩:=bnd hm
 simp -dsimp
 refine aL (cF s ax y h1) (dkL hn) ?_
 exact zz
theorem c_strings_Index (s sub:List UInt8) (r:Int) (hm:m_strings_Index s sub=some r):PureCall Tryz.prog 50 [.u (.one (.d (.str (bs s)))),.u (.one (.d (.str (bs sub))))] (vI r):=index_pure indexL (by kernel_rfl) rfl ⟨_,Tryz.func50,by decide,rfl⟩ hm
theorem fN (s aK:List UInt8) (r:Bool) (hm:m_strings_Contains s aK=some r):PureCall Tryz.prog 16 [.u (.one (.d (.str (bs s)))),.u (.one (.d (.str (bs aK))))] (vT r):=by
 refine bf Tryz.func16 Tryz.ntmps16 fun cx hn=>?_
 unfold m_strings_Contains at hm
 refine srs hn ?_
 simp -dsimp
 refine srs hn ?_
 obtain⟨y,h1,hm⟩:=bnd hm
 simp -dsimp
 refine aL (c_strings_Index s aK y h1) (dkL hn) ?_
 simp -dsimp
 exact zz
theorem bH (s:List UInt8) (r:Int) (hm:m_notation_Kind s=some r):PureCall Tryz.prog 4 [.u (.one (.d (.str (bs s))))] (vI r):=by
 refine bf Tryz.func4 Tryz.ntmps4 fun cx hn=>?_
 unfold m_notation_Kind at hm
 refine srs hn ?_
 simp -dsimp
 refine aN ?_
 refine srs hn ?_
 obtain⟨y,h1,hm⟩:=bnd hm
 simp -dsimp
 refine aL (du s y h1) (dkL hn) ?_
 simp -dsimp
 refine srs hn ?_
 simp -dsimp
 rcases aU hm with ⟨c2,hm⟩ | ⟨c2,hm⟩
 ·exact zz
 ·refine aR (by simp -dsimp) c2 ?_
  refine aP (aM (aN ?_))
  refine srs hn ?_
  obtain⟨y1,h3,hm⟩:=bnd hm
  simp -dsimp [c2]
  refine aL (cM s y1 h3) (dkL hn) ?_
  simp -dsimp
  refine srs hn ?_
  simp -dsimp
  rcases aU hm with ⟨c4,hm⟩ | ⟨c4,hm⟩
  ·exact zz
  ·refine aR (by simp -dsimp) c4 ?_
   refine aP (aM (aN ?_))
   refine srs hn ?_
   obtain⟨y2,h5,hm⟩:=bnd hm
   simp -dsimp [c4]
   refine aL (f8 s y2 h5) (dkL hn) ?_
   simp -dsimp
   refine srs hn ?_
   simp -dsimp
   rcases aU hm with ⟨c6,hm⟩ | ⟨c6,hm⟩
   ·refine aQ (by simp -dsimp) c6 ?_
    refine aS ?_
    refine srs hn ?_
    obtain⟨y3,h7,hm⟩:=bnd hm
    simp -dsimp [c6]
    refine aL (ff s ([87]:List UInt8) y3 h7) (dkL hn) ?_
    simp -dsimp
    rcases aU hm with ⟨c8,hm⟩ | ⟨c8,hm⟩
    ·exact zz
    ·refine aR (by simp -dsimp) c8 ?_
     refine srs hn ?_
     obtain⟨y4,h9,hm⟩:=bnd hm
     simp -dsimp [c8]
     refine aL (ff s ([84]:List UInt8) y4 h9) (dkL hn) ?_
     simp -dsimp
     rcases aU hm with ⟨c10,hm⟩ | ⟨c10,hm⟩
     ·exact zz
     ·refine aR (by simp -dsimp) c10 ?_
      refine aP ?_
      refine bN ?_
      refine aM (aN ?_)
      refine srs hn ?_
      obtain⟨y5,h11,hm⟩:=bnd hm
      simp -dsimp [c10]
      refine aL (fN s ([10]:List UInt8) y5 h11) (dkL hn) ?_
      exact zz
   ·refine aR (by simp -dsimp) c6 ?_
    refine aP (aM (aN ?_))
    refine srs hn ?_
    obtain⟨y3,h13,hm⟩:=bnd hm
    simp -dsimp [c6]
    refine aL (fN s ([10]:List UInt8) y3 h13) (dkL hn) ?_
    exact zz
theorem c_cmp_isNaN_int (x:Int) (r:Bool) (hm:m_cmp_isNaN_int x=some r):PureCall Tryz.prog 167 [vI x] (vT r):=by
 refine bf Tryz.func167 Tryz.ntmps167 fun cx hn=>?_
 unfold m_cmp_isNaN_int at hm
 refine srs hn ?_
 simp -dsimp
 refine srs hn ?_
 simp -dsimp
 cases hm
 exact aY ⟨.inr rfl,EE.here (by simp -dsimp)⟩
theorem fS (x y r:Int) (hm:m_cmp_Compare_int x y=some r):PureCall Tryz.prog 132 [vI x,vI y] (vI r):=by
 refine bf Tryz.func132 Tryz.ntmps132 fun cx hn=>?_
 unfold m_cmp_Compare_int at hm
 refine srs hn ?_
 simp -dsimp
 refine srs hn ?_
 obtain⟨y1,h1,hm⟩:=bnd hm
 simp -dsimp
 refine aL (c_cmp_isNaN_int x y1 h1) (dkL hn) ?_
 simp -dsimp
 refine srs hn ?_
 obtain⟨y2,h2,hm⟩:=bnd hm
 simp -dsimp
 refine aL (c_cmp_isNaN_int y y2 h2) (dkL hn) ?_
 exact zz
def F_cmp_Or_int_1 (cx:Cx) (_vals:List Int) (tt:Int ⊕ Unit) (ee:Exit) (Z:Env) (O:Sto):Prop:=match tt with
 | .inl r=>ee=.ret/\EE cx (fun Z O=>∃ v,ez tb Z O Tryz.f131.results.toList=some v/\(v.frz O).free=true/\(v.frz O).wk (vI r)) Z O
 | .inr _u=>ee=.exit 0/\EE cx (be [(3,vI 0)] []) Z O
theorem l_cmp_Or_int_1 (cx:Cx) (hn:cx.n=18) (vals:List Int) {fu:Nat} {stt:Int} {tt:Int ⊕ Unit} (hh:aT (b_cmp_Or_int_1 vals) fu stt=some tt) {Z:Env} {O:Sto}
  (hE:bz (fun a:Int=>[(3,vI 0),(6,.u (.one (dL vals))),(7,vI (aO vals)),(8,vI a)]) (fun _a:Int=>[]) stt Z O):Swp Tryz.prog cx (.loop (bW [1,1,0,1,0,0] (bd Tryz.f131))) Z O (F_cmp_Or_int_1 cx vals tt):=by
 refine bC hE hh (F_cmp_Or_int_1 cx vals) ?_
 rintro a r hm Z O hf
 simp only[Fits,aZ,b6,and_true] at hf
 unfold b_cmp_Or_int_1 at hm
 exact zz
theorem c_cmp_Or_int (vals:List Int) (r:Int) (hm:m_cmp_Or_int vals=some r):PureCall Tryz.prog 131 [.u (.one (dL vals))] (vI r):=by
 refine bf Tryz.func131 Tryz.ntmps131 fun cx hn=>?_
 unfold m_cmp_Or_int at hm
 refine srs hn ?_
 simp -dsimp
 refine srs hn ?_
 simp -dsimp
 refine aN ?_
 refine srs hn ?_
 simp -dsimp
 refine aS ?_
 obtain⟨o_,g4,hm⟩:=bnd hm
 refine bc (l_cmp_Or_int_1 cx hn vals g4) (by
   try dsimp only
   exact eeh
 ) fun ee Z O xx=>?_
 rcases o_ with r | _u
 ·exact zz
 ·exact zz
theorem c_point_Compare (a b:Point) (r:Int) (hm:m_point_Compare a b=some r):PureCall Tryz.prog 85 [.u (.agg [dI a.X,dI a.Y]),.u (.agg [dI b.X,dI b.Y])] (vI r):=by
 refine bf Tryz.func85 Tryz.ntmps85 fun cx hn=>?_
 unfold m_point_Compare at hm
 refine srs hn ?_
 simp -dsimp
 refine sw_qts bh mixed (by rw[hn]; kernel_rfl) ?_
 obtain⟨y,h1,hm⟩:=bnd hm
 simp -dsimp
 refine aV (fS a.Y b.Y y h1) ?_
 obtain⟨y1,h2,hm⟩:=bnd hm
 simp -dsimp
 refine aV (fS a.X b.X y1 h2) ?_
 obtain⟨y2,h3,hm⟩:=bnd hm
 simp -dsimp
 refine aV (c_cmp_Or_int [y,y1] y2 h3) ?_
 exact zz
def F_hood_Right_1 (cx:Cx) (_l:List Point) (tt:Bool ⊕ Unit) (ee:Exit) (Z:Env) (O:Sto):Prop:=match tt with
 | .inl r=>ee=.ret/\EE cx (fun Z O=>∃ v,ez tb Z O Tryz.f37.results.toList=some v/\(v.frz O).free=true/\(v.frz O).wk (vT r)) Z O
 | .inr _u=>ee=.exit 0/\EE cx (be [] []) Z O
theorem l_hood_Right_1 (cx:Cx) (hn:cx.n=53) (l:List Point) {fu:Nat} {stt:Int} {tt:Bool ⊕ Unit} (hh:aT (b_hood_Right_1 l) fu stt=some tt) {Z:Env} {O:Sto}
  (hE:bz (fun a1:Int=>[(0,.u (.one (dR1 l))),(13,.u (.one (dR1 l))),(14,vI (aO l)),(15,vI a1)]) (fun _a1:Int=>[]) stt Z O):Swp Tryz.prog cx (.loop (bW [1,1,0,1,0,0] (bd Tryz.f37))) Z O (F_hood_Right_1 cx l tt):=by
 refine bC hE hh (F_hood_Right_1 cx l) ?_
 rintro a1 r hm Z O hf
 simp only[Fits,aZ,b6,and_true] at hf
 unfold b_hood_Right_1 at hm
 dsimp only at hm
 refine srs hn ?_
 simp -dsimp [hf]
 refine aN ?_
 rcases aU hm with ⟨c3,hm⟩ | ⟨c3,hm⟩
 ·refine aQ (by simp -dsimp) c3 ?_
  refine aP (aM (aN (aS ?_)))
  refine srs hn ?_
  obtain⟨x,h4,hm⟩:=bnd hm
  simp -dsimp [hf,c3,h4]
  obtain⟨a2,j13,hm⟩:=bnd hm
  refine scE [(0,.u (.one (dR1 l))),(13,.u (.one (dR1 l))),(14,vI (aO l)),(15,vI a1),(51,vT a2)] [] ?_ fun Z O hf=>?_
  ·replace hm:=j13
   clear j13
   refine sw_qt bh mixed (by rw[hn]; kernel_rfl) ?_
   rcases aU hm with ⟨c5,hm⟩ | ⟨c5,hm⟩
   ·exact zz
   ·rcases aU hm with ⟨c6,hm⟩ | ⟨c6,hm⟩
    ·exact zz
    ·rcases aU hm with ⟨c7,hm⟩ | ⟨c7,hm⟩
     ·exact zz
     ·rcases aU hm with ⟨c8,hm⟩ | ⟨c8,hm⟩
      ·exact zz
      ·rcases aU hm with ⟨c9,hm⟩ | ⟨c9,hm⟩
       ·obtain⟨x1,h10,hm⟩:=bnd hm
        obtain⟨y,h11,hm⟩:=bnd hm
        simp -dsimp [hf,c5,c6,c7,c8,c9,h10]
        refine aV (c_point_Compare x1 x y h11) ?_
        exact zz
       ·exact zz
  ·clear j13
   exact zz
 ·exact zz
theorem gt (l:List Point) (r:Bool) (hm:m_hood_Right l=some r):PureCall Tryz.prog 37 [.u (.one (dR1 l))] (vT r):=by
 refine bf Tryz.func37 Tryz.ntmps37 fun cx hn=>?_
 unfold m_hood_Right at hm
 refine srs hn ?_
 simp -dsimp
 refine aN ?_
 obtain⟨a,j15,hm⟩:=bnd hm
 refine scE [(0,.u (.one (dR1 l))),(12,vT a)] [] ?_ fun Z O hf=>?_
 ·replace hm:=j15
  clear j15
  exact zz
 ·clear j15
  simp only[Fits,aZ,b6,and_true] at hf
  rcases aU hm with ⟨c2,hm⟩ | ⟨c2,hm⟩
  ·exact zz
  ·refine aR (by simp -dsimp [hf]) c2 ?_
   refine aP (aM (aN ?_))
   refine srs hn ?_
   simp -dsimp [hf]
   refine aS ?_
   obtain⟨o_,g14,hm⟩:=bnd hm
   refine bc (l_hood_Right_1 cx hn l g14) (by
     try dsimp only
     exact EE.here (by simp -dsimp [hf])
   ) fun ee Z O xx=>?_
   rcases o_ with r | _u
   ·exact zz
   ·exact zz
def bY (cx:Cx) (_s:List Point) (_v:Point) (tt:Int ⊕ Unit) (ee:Exit) (Z:Env) (O:Sto):Prop:=match tt with
 | .inl r=>ee=.ret/\EE cx (fun Z O=>∃ v,ez tb Z O Tryz.f91.results.toList=some v/\(v.frz O).free=true/\(v.frz O).wk (vI r)) Z O
 | .inr _u=>ee=.exit 0/\EE cx (be [] []) Z O
theorem dE (cx:Cx) (hn:cx.n=19) (s:List Point) (v:Point) {fu:Nat} {stt:Int} {tt:Int ⊕ Unit} (hh:aT (b_slices_Index_api_Point_api_Point_1 s v) fu stt=some tt) {Z:Env} {O:Sto}
  (hE:bz (fun a:Int=>[(0,.u (.one (dR1 s))),(3,vX 3),(7,vI (aO s)),(8,vI a)]) (fun _a:Int=>[(3,.box [dI v.X,dI v.Y])]) stt Z O):Swp Tryz.prog cx (.loop (bW [1,0,1,0,0] (bd Tryz.f91))) Z O (bY cx s v tt):=by
 refine bC hE hh (bY cx s v) ?_
 rintro a r hm Z O hf
 simp only[Fits,aZ,b6,and_true] at hf
 unfold b_slices_Index_api_Point_api_Point_1 at hm
 exact zz
theorem cm (s:List Point) (v:Point) (r:Int) (hm:m_slices_Index_api_Point_api_Point s v=some r):PureCall Tryz.prog 91 [.u (.one (dR1 s)),.u (.agg [dI v.X,dI v.Y])] (vI r):=by
 refine bf Tryz.func91 Tryz.ntmps91 fun cx hn=>?_
 unfold m_slices_Index_api_Point_api_Point at hm
 refine srs hn ?_
 simp -dsimp
 refine aN ?_
 refine srs hn ?_
 simp -dsimp
 refine aS ?_
 obtain⟨o_,g4,hm⟩:=bnd hm
 refine bc (dE cx hn s v g4) (by
   try dsimp only
   exact eeh
 ) fun ee Z O xx=>?_
 rcases o_ with r | _u
 ·exact zz
 ·exact zz
theorem c_hood_Centre (l:List Point) (r:Int) (hm:m_hood_Centre l=some r):PureCall Tryz.prog 66 [.u (.one (dR1 l))] (vI r):=by
 refine bf Tryz.func66 Tryz.ntmps66 fun cx hn=>?_
 unfold m_hood_Centre at hm
 refine srs hn ?_
 simp -dsimp
 refine aN ?_
 refine srs hn ?_
 obtain⟨y,h1,hm⟩:=bnd hm
 simp -dsimp
 refine aL (gt l y h1) (dkL hn) ?_
 simp -dsimp
 rcases aU hm with ⟨c2,hm⟩ | ⟨c2,hm⟩
 ·exact zz
 ·refine aR (by simp -dsimp) c2 ?_
  refine aP (aM ?_)
  refine srs hn ?_
  obtain⟨y1,h3,hm⟩:=bnd hm
  simp -dsimp [c2]
  refine aL (cm l (⟨0,0⟩:Point) y1 h3) (dkL hn) ?_
  exact zz
theorem dZ (l r:List Point) (hm:m_slices_Clone_api_Point_api_Point l=some r):r=l:=(aW hm).2
theorem dR (l r:List Point) (hm:m_slices_Clone_api_Point_api_Point l=some r):PFn Tryz.prog 70 [.u (.one (dR1 l))] (fun v=>v.wk (.u (.one (dR1 r)))):=by
 refine pfn_E bh _ Tryz.func70 rfl (by kernel_rfl) (by simp[Tryz.ntmps70]) fun cx hn=>?_
 replace hn:cx.n=8:=hn.trans Tryz.ntmps70
 have ha:=(aW hm).1
 have hr:r=l:=(aW hm).2
 clear hm
 subst hr
 simp only[List.length_nil,Nat.zero_add] at ha
 refine srs hn ?_
 simp -dsimp
 refine aN ?_
 refine srs hn ?_
 cases r with
 | nil =>
  simp -dsimp
  refine⟨?_,?_⟩
  ·refine aQ (b:=true) (by simp -dsimp) rfl ?_
   refine srs hn ?_
   simp -dsimp
   refine aY (dT ?_)
   refine⟨.inr rfl,EE.here ?_⟩; simp -dsimp
  ·refine aR (b:=false) (by simp -dsimp) rfl ?_
   refine aP (aM ?_)
   refine srs hn ?_
   simp -dsimp
   refine aY ?_
   refine⟨.inr rfl,EE.here ?_⟩; simp -dsimp
 | cons x xs =>
  simp -dsimp
  refine aR (b:=false) (by simp -dsimp) rfl ?_
  refine aP (aM ?_)
  refine srs hn ?_
  simp only[List.length_cons] at ha
  simp -dsimp [ha]
  refine aY ?_
  refine⟨.inr rfl,EE.here ?_⟩; simp -dsimp
theorem cj (l r:List Point) (hm:m_slices_Clone_api_Point_api_Point l=some r):PureCall Tryz.prog 70 [.u (.one (dR1 l))] (.u (.one (dR1 r))):=(dR l r hm).pureW
theorem dW (l r:List Point) (hm:m_slices_Clone_api_Point_api_Point l=some r):NewFn Tryz.prog 70 [.u (.one (dR1 l))] (fun o=>o=.row 2 42 (List.map Point.row r)):=by
 refine new_S bh _ Tryz.func70 rfl (by kernel_rfl) (by simp[Tryz.ntmps70]) fun cx hn=>?_
 replace hn:cx.n=8:=hn.trans Tryz.ntmps70
 have ha:=(aW hm).1
 have hr:r=l:=(aW hm).2
 clear hm
 subst hr
 simp only[List.length_nil,Nat.zero_add] at ha
 refine srs hn ?_
 simp -dsimp
 refine aN ?_
 refine srs hn ?_
 cases r with
 | nil =>
  simp -dsimp
  refine⟨?_,?_⟩
  ·refine aQ (b:=true) (by simp -dsimp) rfl ?_
   refine srs hn ?_
   simp -dsimp
   refine aY (dT ?_)
   refine⟨.inr rfl,?_⟩; simp -dsimp
  ·refine aR (b:=false) (by simp -dsimp) rfl ?_
   refine aP (aM ?_)
   refine srs hn ?_
   simp -dsimp
   refine aY ?_
   refine⟨.inr rfl,?_⟩; simp -dsimp
 | cons x xs =>
  simp -dsimp
  refine aR (b:=false) (by simp -dsimp) rfl ?_
  refine aP (aM ?_)
  refine srs hn ?_
  simp only[List.length_cons] at ha
  simp -dsimp [ha]
  refine aY ?_
  refine⟨.inr rfl,?_⟩; simp -dsimp
def dN (cx:Cx) (_s:List Int) (_v:Int) (tt:Int ⊕ Unit) (ee:Exit) (Z:Env) (O:Sto):Prop:=match tt with
 | .inl r=>ee=.ret/\EE cx (fun Z O=>∃ v,ez tb Z O Tryz.f93.results.toList=some v/\(v.frz O).free=true/\(v.frz O).wk (vI r)) Z O
 | .inr _u=>ee=.exit 0/\EE cx (be [] []) Z O
theorem gk (cx:Cx) (hn:cx.n=19) (s:List Int) (v:Int) {fu:Nat} {stt:Int} {tt:Int ⊕ Unit} (hh:aT (b_slices_Index_int_int_1 s v) fu stt=some tt) {Z:Env} {O:Sto}
  (hE:bz (fun a:Int=>[(0,.u (.one (dL s))),(1,vI v),(7,vI (aO s)),(8,vI a)]) (fun _a:Int=>[]) stt Z O):Swp Tryz.prog cx (.loop (bW [1,0,1,0,0] (bd Tryz.f93))) Z O (dN cx s v tt):=by
 refine bC hE hh (dN cx s v) ?_
 rintro a r hm Z O hf
 simp only[Fits,aZ,b6,and_true] at hf
 unfold b_slices_Index_int_int_1 at hm
 exact zz
theorem gv (s:List Int) (v r:Int) (hm:m_slices_Index_int_int s v=some r):PureCall Tryz.prog 93 [.u (.one (dL s)),vI v] (vI r):=by
 refine bf Tryz.func93 Tryz.ntmps93 fun cx hn=>?_
 unfold m_slices_Index_int_int at hm
 refine srs hn ?_
 simp -dsimp
 refine aN ?_
 refine srs hn ?_
 simp -dsimp
 refine aS ?_
 obtain⟨o_,g4,hm⟩:=bnd hm
 refine bc (gk cx hn s v g4) (by
   try dsimp only
   exact eeh
 ) fun ee Z O xx=>?_
 rcases o_ with r | _u
 ·exact zz
 ·exact zz
theorem bQ (s:List Int) (v:Int) (r:Bool) (hm:m_slices_Contains_int_int s v=some r):PureCall Tryz.prog 46 [.u (.one (dL s)),vI v] (vT r):=by
 refine bf Tryz.func46 Tryz.ntmps46 fun cx hn=>?_
 unfold m_slices_Contains_int_int at hm
 refine srs hn ?_
 simp -dsimp
 refine srs hn ?_
 obtain⟨y,h1,hm⟩:=bnd hm
 simp -dsimp
 refine aL (gv s v y h1) (dkL hn) ?_
 simp -dsimp
 cases hm
 exact aY ⟨.inr rfl,EE.here (by simp -dsimp)⟩
end Go.Proofs.YtlifofijgddjkabGreatDoor
