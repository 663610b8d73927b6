/- That the code does what the functions say (made by cc.py). -/
import Derived.Test.YtffohfmfehjbmaaGreatDoorWa1
namespace Go.Proofs.YtffohfmfehjbmaaGreatDoor
open Go.AM Go.Proofs
set_option maxRecDepth 100000
attribute [-simp] qlookup bF cq Ob.wipe Ob.ren Ob.frz1
theorem fi (s:List UInt8) (r:Ai×Int) (hm:m_lifelike_Parse s=some r):PureCall Tryz.prog 37 [.u (.one (.d (.str (bs s))))] (.tup [.agg [dR2 r.1.Hood,dI r.1.States,dL r.1.Birth,dL r.1.Survive],.one (dI r.2)]):=by
 refine b8 Tryz.func37 Tryz.ntmps37 fun cx hn=>?_
 unfold m_lifelike_Parse at hm
 refine srs hn ?_
 simp -dsimp
 refine srs hn ?_
 obtain⟨y,h1,hm⟩:=bnd hm
 simp -dsimp
 refine aA (c_strings_CutPrefix s ([66]:List UInt8) y h1) (dkL hn) ?_
 simp -dsimp
 refine srs hn ?_
 obtain⟨y1,h2,hm⟩:=bnd hm
 simp -dsimp
 refine aA (c_strings_Cut y.1 ([47,83]:List UInt8) y1 h2) (dkL hn) ?_
 simp -dsimp
 refine aD ?_
 obtain⟨a,j17,hm⟩:=bnd hm
 refine scE [(2,vX 2),(6,.u (.one (.d (.str (bs y1.1))))),(7,.u (.one (.d (.str (bs y1.2.1))))),(30,vT a)] [(2,.box [.d .nil,dI 0,.d .nil,.d .nil])] ?_ fun Z O hf=>?_
 ·replace hm:=j17
  clear j17
  exact zz
 ·clear j17
  simp only[Fits,aR,aQ,and_true] at hf
  rcases aM hm with ⟨c4,hm⟩ | ⟨c4,hm⟩
  ·exact zz
  ·refine aG (by simp -dsimp [hf]) c4 ?_
   refine aF (aC ?_)
   refine srs hn ?_
   obtain⟨y2,h5,hm⟩:=bnd hm
   simp -dsimp
   refine aA (c_hood_Moore 1 y2 h5) (dkL hn) ?_
   simp -dsimp
   refine aD ?_
   refine srs hn ?_
   obtain⟨y3,h6,hm⟩:=bnd hm
   simp -dsimp [hf]
   refine aA (ej y1.2.1 ([86]:List UInt8) y3 h6) (dkL hn) ?_
   simp -dsimp
   refine srs hn ?_
   simp -dsimp
   rcases aM hm with ⟨c7,hm⟩ | ⟨c7,hm⟩
   ·exact zz
   ·refine aG (by simp -dsimp) c7 ?_
    refine srs hn ?_
    obtain⟨y4,h8,hm⟩:=bnd hm
    simp -dsimp [hf,c7]
    refine aA (ej y1.2.1 ([72]:List UInt8) y4 h8) (dkL hn) ?_
    simp -dsimp
    refine srs hn ?_
    simp -dsimp
    rcases aM hm with ⟨c9,hm⟩ | ⟨c9,hm⟩
    ·exact zz
    ·refine aG (by simp -dsimp) c9 ?_
     refine aF (aC ?_)
     refine srs hn ?_
     obtain⟨y5,h10,hm⟩:=bnd hm
     simp -dsimp [hf,c9]
     refine aA (eP y1.1 y5 h10) (dkL hn) ?_
     simp -dsimp
     refine srs hn ?_
     obtain⟨y6,h11,hm⟩:=bnd hm
     simp -dsimp [hf]
     refine aA (eP y1.2.1 y6 h11) (dkL hn) ?_
     simp -dsimp
     refine aD ?_
     obtain⟨a1,j16,hm⟩:=bnd hm
     refine scE [(2,vX 2),(9,vX 9),(69,vT a1)] [(2,.box [.d .nil,dI 0,.d .nil,.d .nil]),(9,.box [dR2 y2,dI 2,dL y5.1,dL y6.1])] ?_ fun Z O hf=>?_
     ·replace hm:=j16
      clear j16
      exact zz
     ·clear j16
      simp only[Fits,aR,aQ,and_true] at hf
      rcases aM hm with ⟨c13,hm⟩ | ⟨c13,hm⟩
      ·exact zz
      ·refine aG (by simp -dsimp [hf]) c13 ?_
       refine aF (aC (aD ?_))
       refine srs hn ?_
       obtain⟨y7,h14,hm⟩:=bnd hm
       simp -dsimp [hf]
       refine aA (fj (⟨y2,2,y5.1,y6.1⟩:Ai) y7 h14) (dkL hn) ?_
       exact zz
theorem c_notation_Kind (s:List UInt8) (r:Int) (hm:m_notation_Kind s=some r):PureCall Tryz.prog 36 [.u (.one (.d (.str (bs s))))] (vI r):=by
 refine b8 Tryz.func36 Tryz.ntmps36 fun cx hn=>?_
 unfold m_notation_Kind at hm
 refine srs hn ?_
 simp -dsimp
 refine aD ?_
 refine srs hn ?_
 obtain⟨y,h1,hm⟩:=bnd hm
 simp -dsimp
 refine aA (fi s y h1) (dkL hn) ?_
 exact zz
theorem c_cmp_isNaN_int (x:Int) (r:Bool) (hm:m_cmp_isNaN_int x=some r):PureCall Tryz.prog 185 [vI x] (vT r):=by
 refine b8 Tryz.func185 Tryz.ntmps185 fun cx hn=>?_
 unfold m_cmp_isNaN_int at hm
 refine srs hn ?_
 simp -dsimp
 refine srs hn ?_
 simp -dsimp
 cases hm
 exact b6 ⟨.inr rfl,EE.here (by simp -dsimp)⟩
theorem cr (x y r:Int) (hm:m_cmp_Compare_int x y=some r):PureCall Tryz.prog 121 [vI x,vI y] (vI r):=by
 refine b8 Tryz.func121 Tryz.ntmps121 fun cx hn=>?_
 unfold m_cmp_Compare_int at hm
 refine srs hn ?_
 simp -dsimp
 refine srs hn ?_
 obtain⟨y1,h1,hm⟩:=bnd hm
 simp -dsimp
 refine aA (c_cmp_isNaN_int x y1 h1) (dkL hn) ?_
 simp -dsimp
 refine srs hn ?_
 obtain⟨y2,h2,hm⟩:=bnd hm
 simp -dsimp
 refine aA (c_cmp_isNaN_int y y2 h2) (dkL hn) ?_
 exact zz
def F_cmp_Or_int_1 (cx:Cx) (_vals:List Int) (tt:Int ⊕ Unit) (ee:Exit) (Z:Env) (O:Sto):Prop:=match tt with
 | .inl r=>ee=.ret/\EE cx (fun Z O=>∃ v,cp tb Z O Tryz.f120.results.toList=some v/\(v.frz O).free=true/\(v.frz O).wk (vI r)) Z O
 | .inr _u=>ee=.exit 0/\EE cx (aY [(3,vI 0)] []) Z O
theorem l_cmp_Or_int_1 (cx:Cx) (hn:cx.n=18) (vals:List Int) {fu:Nat} {stt:Int} {tt:Int ⊕ Unit} (hh:aK (b_cmp_Or_int_1 vals) fu stt=some tt) {Z:Env} {O:Sto}
  (hE:b9 (fun a:Int=>[(3,vI 0),(6,.u (.one (dL vals))),(7,vI (aB vals)),(8,vI a)]) (fun _a:Int=>[]) stt Z O):Swp Tryz.prog cx (.loop (bq [1,1,0,1,0,0] (aU Tryz.f120))) Z O (F_cmp_Or_int_1 cx vals tt):=by
 refine bc hE hh (F_cmp_Or_int_1 cx vals) ?_
 rintro a r hm Z O hf
 simp only[Fits,aR,aQ,and_true] at hf
 unfold b_cmp_Or_int_1 at hm
 exact zz
theorem c_cmp_Or_int (vals:List Int) (r:Int) (hm:m_cmp_Or_int vals=some r):PureCall Tryz.prog 120 [.u (.one (dL vals))] (vI r):=by
 refine b8 Tryz.func120 Tryz.ntmps120 fun cx hn=>?_
 unfold m_cmp_Or_int at hm
 refine srs hn ?_
 simp -dsimp
 refine srs hn ?_
 simp -dsimp
 refine aD ?_
 refine srs hn ?_
 simp -dsimp
 refine aH ?_
 obtain⟨o_,g4,hm⟩:=bnd hm
 refine aW (l_cmp_Or_int_1 cx hn vals g4) (by
   try dsimp only
   exact eeh
 ) fun ee Z O xx=>?_
 rcases o_ with r | _u
 ·exact zz
 ·exact zz
theorem ec (a b:Point) (r:Int) (hm:m_point_Compare a b=some r):PureCall Tryz.prog 49 [.u (.agg [dI a.X,dI a.Y]),.u (.agg [dI b.X,dI b.Y])] (vI r):=by
 refine b8 Tryz.func49 Tryz.ntmps49 fun cx hn=>?_
 unfold m_point_Compare at hm
 refine srs hn ?_
 simp -dsimp
 refine bG aP mixed (by rw[hn]; kernel_rfl) ?_
 obtain⟨y,h1,hm⟩:=bnd hm
 simp -dsimp
 refine aJ (cr a.Y b.Y y h1) ?_
 obtain⟨y1,h2,hm⟩:=bnd hm
 simp -dsimp
 refine aJ (cr a.X b.X y1 h2) ?_
 obtain⟨y2,h3,hm⟩:=bnd hm
 simp -dsimp
 refine aJ (c_cmp_Or_int [y,y1] y2 h3) ?_
 exact zz
def F_hood_Right_1 (cx:Cx) (_l:List Point) (tt:Bool ⊕ Unit) (ee:Exit) (Z:Env) (O:Sto):Prop:=match tt with
 | .inl r=>ee=.ret/\EE cx (fun Z O=>∃ v,cp tb Z O Tryz.f117.results.toList=some v/\(v.frz O).free=true/\(v.frz O).wk (vT r)) Z O
 | .inr _u=>ee=.exit 0/\EE cx (aY [] []) Z O
theorem l_hood_Right_1 (cx:Cx) (hn:cx.n=53) (l:List Point) {fu:Nat} {stt:Int} {tt:Bool ⊕ Unit} (hh:aK (b_hood_Right_1 l) fu stt=some tt) {Z:Env} {O:Sto}
  (hE:b9 (fun a1:Int=>[(0,.u (.one (dR2 l))),(13,.u (.one (dR2 l))),(14,vI (aB l)),(15,vI a1)]) (fun _a1:Int=>[]) stt Z O):Swp Tryz.prog cx (.loop (bq [1,1,0,1,0,0] (aU Tryz.f117))) Z O (F_hood_Right_1 cx l tt):=by
 refine bc hE hh (F_hood_Right_1 cx l) ?_
 rintro a1 r hm Z O hf
 simp only[Fits,aR,aQ,and_true] at hf
 unfold b_hood_Right_1 at hm
 dsimp only at hm
 refine srs hn ?_
 simp -dsimp [hf]
 refine aD ?_
 rcases aM hm with ⟨c3,hm⟩ | ⟨c3,hm⟩
 ·refine aI (by simp -dsimp) c3 ?_
  refine aF (aC (aD (aH ?_)))
  refine srs hn ?_
  obtain⟨x,h4,hm⟩:=bnd hm
  simp -dsimp [hf,c3,h4]
  obtain⟨a2,j13,hm⟩:=bnd hm
  refine scE [(0,.u (.one (dR2 l))),(13,.u (.one (dR2 l))),(14,vI (aB l)),(15,vI a1),(51,vT a2)] [] ?_ fun Z O hf=>?_
  ·replace hm:=j13
   clear j13
   refine sw_qt aP mixed (by rw[hn]; kernel_rfl) ?_
   rcases aM hm with ⟨c5,hm⟩ | ⟨c5,hm⟩
   ·exact zz
   ·rcases aM hm with ⟨c6,hm⟩ | ⟨c6,hm⟩
    ·exact zz
    ·rcases aM hm with ⟨c7,hm⟩ | ⟨c7,hm⟩
     ·exact zz
     ·rcases aM hm with ⟨c8,hm⟩ | ⟨c8,hm⟩
      ·exact zz
      ·rcases aM hm with ⟨c9,hm⟩ | ⟨c9,hm⟩
       ·obtain⟨x1,h10,hm⟩:=bnd hm
        obtain⟨y,h11,hm⟩:=bnd hm
        simp -dsimp [hf,c5,c6,c7,c8,c9,h10]
        refine aJ (ec x1 x y h11) ?_
        exact zz
       ·exact zz
  ·clear j13
   exact zz
 ·exact zz
theorem c_hood_Right (l:List Point) (r:Bool) (hm:m_hood_Right l=some r):PureCall Tryz.prog 117 [.u (.one (dR2 l))] (vT r):=by
 refine b8 Tryz.func117 Tryz.ntmps117 fun cx hn=>?_
 unfold m_hood_Right at hm
 refine srs hn ?_
 simp -dsimp
 refine aD ?_
 obtain⟨a,j15,hm⟩:=bnd hm
 refine scE [(0,.u (.one (dR2 l))),(12,vT a)] [] ?_ fun Z O hf=>?_
 ·replace hm:=j15
  clear j15
  exact zz
 ·clear j15
  simp only[Fits,aR,aQ,and_true] at hf
  rcases aM hm with ⟨c2,hm⟩ | ⟨c2,hm⟩
  ·exact zz
  ·refine aG (by simp -dsimp [hf]) c2 ?_
   refine aF (aC (aD ?_))
   refine srs hn ?_
   simp -dsimp [hf]
   refine aH ?_
   obtain⟨o_,g14,hm⟩:=bnd hm
   refine aW (l_hood_Right_1 cx hn l g14) (by
     try dsimp only
     exact EE.here (by simp -dsimp [hf])
   ) fun ee Z O xx=>?_
   rcases o_ with r | _u
   ·exact zz
   ·exact zz
def bD (cx:Cx) (_s:List Point) (_v:Point) (tt:Int ⊕ Unit) (ee:Exit) (Z:Env) (O:Sto):Prop:=match tt with
 | .inl r=>ee=.ret/\EE cx (fun Z O=>∃ v,cp tb Z O Tryz.f160.results.toList=some v/\(v.frz O).free=true/\(v.frz O).wk (vI r)) Z O
 | .inr _u=>ee=.exit 0/\EE cx (aY [] []) Z O
theorem cJ (cx:Cx) (hn:cx.n=19) (s:List Point) (v:Point) {fu:Nat} {stt:Int} {tt:Int ⊕ Unit} (hh:aK (b_slices_Index_api_Point_api_Point_1 s v) fu stt=some tt) {Z:Env} {O:Sto}
  (hE:b9 (fun a:Int=>[(0,.u (.one (dR2 s))),(3,vX 3),(7,vI (aB s)),(8,vI a)]) (fun _a:Int=>[(3,.box [dI v.X,dI v.Y])]) stt Z O):Swp Tryz.prog cx (.loop (bq [1,0,1,0,0] (aU Tryz.f160))) Z O (bD cx s v tt):=by
 refine bc hE hh (bD cx s v) ?_
 rintro a r hm Z O hf
 simp only[Fits,aR,aQ,and_true] at hf
 unfold b_slices_Index_api_Point_api_Point_1 at hm
 exact zz
theorem cV (s:List Point) (v:Point) (r:Int) (hm:m_slices_Index_api_Point_api_Point s v=some r):PureCall Tryz.prog 160 [.u (.one (dR2 s)),.u (.agg [dI v.X,dI v.Y])] (vI r):=by
 refine b8 Tryz.func160 Tryz.ntmps160 fun cx hn=>?_
 unfold m_slices_Index_api_Point_api_Point at hm
 refine srs hn ?_
 simp -dsimp
 refine aD ?_
 refine srs hn ?_
 simp -dsimp
 refine aH ?_
 obtain⟨o_,g4,hm⟩:=bnd hm
 refine aW (cJ cx hn s v g4) (by
   try dsimp only
   exact eeh
 ) fun ee Z O xx=>?_
 rcases o_ with r | _u
 ·exact zz
 ·exact zz
theorem c_hood_Centre (l:List Point) (r:Int) (hm:m_hood_Centre l=some r):PureCall Tryz.prog 95 [.u (.one (dR2 l))] (vI r):=by
 refine b8 Tryz.func95 Tryz.ntmps95 fun cx hn=>?_
 unfold m_hood_Centre at hm
 refine srs hn ?_
 simp -dsimp
 refine aD ?_
 refine srs hn ?_
 obtain⟨y,h1,hm⟩:=bnd hm
 simp -dsimp
 refine aA (c_hood_Right l y h1) (dkL hn) ?_
 simp -dsimp
 rcases aM hm with ⟨c2,hm⟩ | ⟨c2,hm⟩
 ·exact zz
 ·refine aG (by simp -dsimp) c2 ?_
  refine aF (aC ?_)
  refine srs hn ?_
  obtain⟨y1,h3,hm⟩:=bnd hm
  simp -dsimp [c2]
  refine aA (cV l (⟨0,0⟩:Point) y1 h3) (dkL hn) ?_
  exact zz
theorem cZ (l r:List Point) (hm:m_slices_Clone_api_Point_api_Point l=some r):r=l:=(aS hm).2
theorem cY (l r:List Point) (hm:m_slices_Clone_api_Point_api_Point l=some r):PFn Tryz.prog 100 [.u (.one (dR2 l))] (fun v=>v.wk (.u (.one (dR2 r)))):=by
 refine pfn_E aP _ Tryz.func100 rfl (by kernel_rfl) (by simp[Tryz.ntmps100]) fun cx hn=>?_
 replace hn:cx.n=8:=hn.trans Tryz.ntmps100
 have ha:=(aS hm).1
 have hr:r=l:=(aS hm).2
 clear hm
 subst hr
 simp only[List.length_nil,Nat.zero_add] at ha
 refine srs hn ?_
 simp -dsimp
 refine aD ?_
 refine srs hn ?_
 cases r with
 | nil =>
  simp -dsimp
  refine⟨?_,?_⟩
  ·refine aI (b:=true) (by simp -dsimp) rfl ?_
   refine srs hn ?_
   simp -dsimp
   refine b6 (dF ?_)
   refine⟨.inr rfl,EE.here ?_⟩; simp -dsimp
  ·refine aG (b:=false) (by simp -dsimp) rfl ?_
   refine aF (aC ?_)
   refine srs hn ?_
   simp -dsimp
   refine b6 ?_
   refine⟨.inr rfl,EE.here ?_⟩; simp -dsimp
 | cons x xs =>
  simp -dsimp
  refine aG (b:=false) (by simp -dsimp) rfl ?_
  refine aF (aC ?_)
  refine srs hn ?_
  simp only[List.length_cons] at ha
  simp -dsimp [ha]
  refine b6 ?_
  refine⟨.inr rfl,EE.here ?_⟩; simp -dsimp
theorem bM (l r:List Point) (hm:m_slices_Clone_api_Point_api_Point l=some r):PureCall Tryz.prog 100 [.u (.one (dR2 l))] (.u (.one (dR2 r))):=(cY l r hm).pureW
theorem cW (l r:List Point) (hm:m_slices_Clone_api_Point_api_Point l=some r):NewFn Tryz.prog 100 [.u (.one (dR2 l))] (fun o=>o=.row 2 65 (List.map Point.row r)):=by
 refine new_S aP _ Tryz.func100 rfl (by kernel_rfl) (by simp[Tryz.ntmps100]) fun cx hn=>?_
 replace hn:cx.n=8:=hn.trans Tryz.ntmps100
 have ha:=(aS hm).1
 have hr:r=l:=(aS hm).2
 clear hm
 subst hr
 simp only[List.length_nil,Nat.zero_add] at ha
 refine srs hn ?_
 simp -dsimp
 refine aD ?_
 refine srs hn ?_
 cases r with
 | nil =>
  simp -dsimp
  refine⟨?_,?_⟩
  ·refine aI (b:=true) (by simp -dsimp) rfl ?_
   refine srs hn ?_
   simp -dsimp
   refine b6 (dF ?_)
   refine⟨.inr rfl,?_⟩; simp -dsimp
  ·refine aG (b:=false) (by simp -dsimp) rfl ?_
   refine aF (aC ?_)
   refine srs hn ?_
   simp -dsimp
   refine b6 ?_
   refine⟨.inr rfl,?_⟩; simp -dsimp
 | cons x xs =>
  simp -dsimp
  refine aG (b:=false) (by simp -dsimp) rfl ?_
  refine aF (aC ?_)
  refine srs hn ?_
  simp only[List.length_cons] at ha
  simp -dsimp [ha]
  refine b6 ?_
  refine⟨.inr rfl,?_⟩; simp -dsimp
def cQ (cx:Cx) (_s:List Int) (_v:Int) (tt:Int ⊕ Unit) (ee:Exit) (Z:Env) (O:Sto):Prop:=match tt with
 | .inl r=>ee=.ret/\EE cx (fun Z O=>∃ v,cp tb Z O Tryz.f161.results.toList=some v/\(v.frz O).free=true/\(v.frz O).wk (vI r)) Z O
 | .inr _u=>ee=.exit 0/\EE cx (aY [] []) Z O
theorem f9 (cx:Cx) (hn:cx.n=19) (s:List Int) (v:Int) {fu:Nat} {stt:Int} {tt:Int ⊕ Unit} (hh:aK (b_slices_Index_int_int_1 s v) fu stt=some tt) {Z:Env} {O:Sto}
  (hE:b9 (fun a:Int=>[(0,.u (.one (dL s))),(1,vI v),(7,vI (aB s)),(8,vI a)]) (fun _a:Int=>[]) stt Z O):Swp Tryz.prog cx (.loop (bq [1,0,1,0,0] (aU Tryz.f161))) Z O (cQ cx s v tt):=by
 refine bc hE hh (cQ cx s v) ?_
 rintro a r hm Z O hf
 simp only[Fits,aR,aQ,and_true] at hf
 unfold b_slices_Index_int_int_1 at hm
 exact zz
theorem fv (s:List Int) (v r:Int) (hm:m_slices_Index_int_int s v=some r):PureCall Tryz.prog 161 [.u (.one (dL s)),vI v] (vI r):=by
 refine b8 Tryz.func161 Tryz.ntmps161 fun cx hn=>?_
 unfold m_slices_Index_int_int at hm
 refine srs hn ?_
 simp -dsimp
 refine aD ?_
 refine srs hn ?_
 simp -dsimp
 refine aH ?_
 obtain⟨o_,g4,hm⟩:=bnd hm
 refine aW (f9 cx hn s v g4) (by
   try dsimp only
   exact eeh
 ) fun ee Z O xx=>?_
 rcases o_ with r | _u
 ·exact zz
 ·exact zz
theorem cG (s:List Int) (v:Int) (r:Bool) (hm:m_slices_Contains_int_int s v=some r):PureCall Tryz.prog 98 [.u (.one (dL s)),vI v] (vT r):=by
 refine b8 Tryz.func98 Tryz.ntmps98 fun cx hn=>?_
 unfold m_slices_Contains_int_int at hm
 refine srs hn ?_
 simp -dsimp
 refine srs hn ?_
 obtain⟨y,h1,hm⟩:=bnd hm
 simp -dsimp
 refine aA (fv s v y h1) (dkL hn) ?_
 simp -dsimp
 cases hm
 exact b6 ⟨.inr rfl,EE.here (by simp -dsimp)⟩
theorem c_totaltree_Totals_2 (s:Aj) (a:Ai) (r:Int) (hm:m_totaltree_Totals_2 s a=some r):PureCall Tryz.prog 97 [.u (.agg [dI s.ones,dI s.centre]),.u (.one (.ref (Ai.row a) 0))] (vI r):=by
 refine b8 Tryz.func97 Tryz.ntmps97 fun cx hn=>?_
 unfold m_totaltree_Totals_2 at hm
 refine srs hn ?_
 simp -dsimp
 refine srs hn ?_
 simp -dsimp
 refine aD (aH ?_)
 refine srs hn ?_
 simp -dsimp
 rcases aM hm with ⟨c1,hm⟩ | ⟨c1,hm⟩
 ·refine sct c1 ?_
  obtain⟨next,j4,hm⟩:=bnd hm
  refine scE [(4,vI next)] [] ?_ fun Z O hf=>?_
  ·replace hm:=j4
   clear j4
   refine srs hn ?_
   obtain⟨y,h2,hm⟩:=bnd hm
   simp -dsimp [c1]
   refine aA (cG a.Birth s.ones y h2) (dkL hn) ?_
   exact zz
  ·clear j4
   exact zz
 ·refine scf c1 ?_
  obtain⟨a1,j9,hm⟩:=bnd hm
  refine scE [(1,.u (.one (.ref (Ai.row a) 0))),(4,vI s.centre),(17,vT a1)] [] ?_ fun Z O hf=>?_
  ·replace hm:=j9
   clear j9
   refine sr1 hn ?_
   rcases aM hm with ⟨c5,hm⟩ | ⟨c5,hm⟩
   ·obtain⟨y,h6,hm⟩:=bnd hm
    simp -dsimp [c1,c5]
    refine aA (cG a.Survive s.ones y h6) (dkL hn) ?_
    exact zz
   ·exact zz
  ·clear j9
   exact zz
theorem fN (s:Aj) (at_ state a:Int) (r:Int×Int) (hm:m_totaltree_Totals_1_o s at_ state a=some r):GFn Tryz.prog 96 [.u (.agg [dI s.ones,dI s.centre]),vI at_,vI state,vX 1000000] [.box [dI a]] (.u (.agg [dI r.1,dI r.2])) [some (.box [dI a])]:=by
 refine bu aP _ Tryz.func96 rfl (by kernel_rfl) (by simp[Tryz.ntmps96]) (by simp) (by first | rfl | simp) (by first | rfl | simp) fun cx hn hk=>?_
 replace hn:cx.n=22:=hn.trans Tryz.ntmps96
 replace hk:cx.k=1:=hk
 unfold m_totaltree_Totals_1_o at hm
 refine srs hn ?_
 simp -dsimp
 obtain⟨⟨sones,scentre⟩,j3,hm⟩:=bnd hm
 refine scE [(4,vX 4),(7,vX 7)] [(4,.box [dI sones,dI scentre]),(7,.box [dI 0,dI 0]),(1000000,.box [dI a])] ?_ fun Z O hf=>?_
 ·replace hm:=j3
  clear j3
  refine aH ?_
  refine srs hn ?_
  simp -dsimp
  rcases aM hm with ⟨c1,hm⟩ | ⟨c1,hm⟩
  ·refine sct c1 ?_
   refine sr1 hn ?_
   simp -dsimp [c1]
   refine bp ?_
   cases hm
   exact EE.here (by simp -dsimp)
  ·refine scf c1 ?_
   refine srs hn ?_
   simp -dsimp [c1]
   rcases aM hm with ⟨c2,hm⟩ | ⟨c2,hm⟩
   ·refine aI (by simp -dsimp) c2 ?_
    refine sr1 hn ?_
    simp -dsimp [c2]
    refine bp ?_
    cases hm
    exact EE.here (by simp -dsimp)
   ·refine aG (by simp -dsimp) c2 ?_
    refine aF ?_
    refine bp ?_
    cases hm
    exact EE.here (by simp -dsimp [c2])
 ·clear j3
  exact zz
theorem bV (l:List Int) (n base:Int) (r:List Int) (hm:m_internal_strconv_AppendUint_o l n base=some r):GFn Tryz.prog 250 [vO 1000000,.u (.one (.d (.int .u64 n))),vI base] [.row 1 5 (List.map (rI .u8) l)] (vO 1000001) [none,some (.row 1 5 (List.map (rI .u8) r))]:=appU_g appL rfl tf5 rfl rfl rfl rfl ⟨_,Tryz.func250,by decide,by kernel_rfl⟩ hm
theorem dG (dst:List Int) (i base:Int) (r:List Int) (hm:m_internal_strconv_AppendInt_o dst i base=some r):GFn Tryz.prog 213 [vO 1000000,vI i,vI base] [.row 1 5 (List.map (rI .u8) dst)] (vO 1000001) [none,some (.row 1 5 (List.map (rI .u8) r))]:=by
 refine bu aP _ Tryz.func213 rfl (by kernel_rfl) (by simp[Tryz.ntmps213]) (by simp) (by first | rfl | simp) (by first | rfl | simp) fun cx hn hk=>?_
 replace hn:cx.n=21:=hn.trans Tryz.ntmps213
 replace hk:cx.k=1:=hk
 unfold m_internal_strconv_AppendInt_o at hm
 refine srs hn ?_
 simp -dsimp
 refine srs hn ?_
 simp -dsimp
 obtain⟨⟨u,dst1⟩,j4,hm⟩:=bnd hm
 refine scE [(0,vO 5000),(2,vI base),(7,.u (.one (.d (.int .u64 u))))] [(5000,.row 1 5 (List.map (rI .u8) dst1))] ?_ fun Z O hf=>?_
 ·replace hm:=j4
  clear j4
  refine srs hn ?_
  simp -dsimp
  rcases aM hm with ⟨c1,hm⟩ | ⟨c1,hm⟩
  ·refine sct c1 ?_
   refine srs hn ?_
   obtain⟨l,h2,hm⟩:=bnd hm
   obtain⟨h2a,h2e⟩:=aS h2
   replace h2e:=h2e.symm
   subst h2e
   try simp only[List.length_cons,List.length_nil,Nat.zero_add] at h2a
   try simp only[Nat.mul_one,Nat.reduceLeDiff] at h2a
   simp -dsimp [c1,h2a]
   refine sr1 hn ?_
   simp -dsimp
   refine aC ?_
   cases hm
   refine emv 14 5000 ?_
   exact zz
  ·refine scf c1 ?_
   refine aF (aC ?_)
   cases hm
   refine emv 1000000 5000 ?_
   exact zz
 ·clear j4
  simp only[Fits,aR,aQ,and_true] at hf
  refine srs hn ?_
  obtain⟨y,h3,hm⟩:=bnd hm
  simp -dsimp [hf]
  refine clg (bV dst1 u base y h3) [5000] [5001] (by simp -dsimp [hf]) (dkL hn) ?_
  simp -dsimp
  refine b6 ?_
  cases hm
  refine⟨.inr rfl,?_⟩
  refine emr 5001 1000001 hk ?_
  exact zz
theorem co (dst:List Int) (i base:Int) (r:List Int) (hm:m_strconv_AppendInt_o dst i base=some r):GFn Tryz.prog 163 [vO 1000000,vI i,vI base] [.row 1 5 (List.map (rI .u8) dst)] (vO 1000001) [none,some (.row 1 5 (List.map (rI .u8) r))]:=by
 refine bu aP _ Tryz.func163 rfl (by kernel_rfl) (by simp[Tryz.ntmps163]) (by simp) (by first | rfl | simp) (by first | rfl | simp) fun cx hn hk=>?_
 replace hn:cx.n=11:=hn.trans Tryz.ntmps163
 replace hk:cx.k=1:=hk
 unfold m_strconv_AppendInt_o at hm
 refine srs hn ?_
 simp -dsimp
 refine srs hn ?_
 obtain⟨y,h1,hm⟩:=bnd hm
 simp -dsimp
 refine clg (dG dst i base y h1) [1000000] [5000] (by simp -dsimp) (dkL hn) ?_
 simp -dsimp
 refine b6 ?_
 cases hm
 refine⟨.inr rfl,?_⟩
 refine emr 5000 1000001 hk ?_
 exact zz
end Go.Proofs.YtffohfmfehjbmaaGreatDoor
