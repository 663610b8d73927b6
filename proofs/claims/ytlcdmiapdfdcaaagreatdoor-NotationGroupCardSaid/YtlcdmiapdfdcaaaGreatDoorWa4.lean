/- That the code does what the functions say (made by cc.py). -/
import Derived.Test.YtlcdmiapdfdcaaaGreatDoorWa3
namespace Go.Proofs.YtlcdmiapdfdcaaaGreatDoor
open Go.AM Go.Proofs
set_option maxRecDepth 100000
attribute [-simp] qlookup cR dQ Ob.wipe Ob.ren Ob.frz1
def d6 (cx:Cx) (_vals:List Int) (tt:Int ⊕ Unit) (ee:Exit) (O:Env) (G:Sto):Prop:=match tt with
 | .inl r=>ee = .ret /\ EE cx (fun O G=>∃ v,e9 tb O G Tryz.f57.results.toList = some v /\ (v.frz G).free = true /\ (v.frz G).wk (vI r)) O G
 | .inr _u=>ee = .exit 0 /\ EE cx (bw [(3,vI 0)] []) O G
theorem l_cmp_Or_int_1 (cx:Cx) (hn:cx.n = 18) (vals:List Int) {fu:Nat} {stt:Int} {tt:Int ⊕ Unit} (hh:aV (b_cmp_Or_int_1 vals) fu stt = some tt) {O:Env} {G:Sto}
  (hE:bH (fun a:Int=>[(3,vI 0),(6,.u (.one (dL vals))),(7,vI (aX vals)),(8,vI a)]) (fun _a:Int=>[]) stt O G):Swp Tryz.prog cx (.loop (cr [1,1,0,1,0,0] (bq Tryz.f57))) O G (d6 cx vals tt):=by
 refine bL hE hh (d6 cx vals) ?_
 rintro a r hm O G hf
 simp only [Fits,ba,bb,and_true] at hf
 unfold b_cmp_Or_int_1 at hm
 dsimp only at hm
 refine srs hn ?_
 simp -dsimp [hf]
 refine aU ?_
 rcases aZ hm with ⟨c1,hm⟩ | ⟨c1,hm⟩
 ·refine aQ (by simp -dsimp) c1 ?_
  refine aS (aO (aU (aY ?_)))
  refine srs hn ?_
  obtain ⟨x,h2,hm⟩:=bnd hm
  simp -dsimp [hf,c1,h2]
  refine srs hn ?_
  simp -dsimp [hf]
  rcases aZ hm with ⟨c3,hm⟩ | ⟨c3,hm⟩
  ·refine aQ (by simp -dsimp) c3 ?_
   refine srs hn ?_
   simp -dsimp [c3]
   refine aT (bu (aW ?_))
   cases hm
   refine be nofun ?_
   exact ⟨rfl,EE.here (by simp -dsimp [Tryz.results57])⟩
  ·refine aP (by simp -dsimp) c3 ?_
   refine aS ?_
   refine bh ?_
   refine aO ?_
   refine sr1 hn ?_
   simp -dsimp [hf,c3]
   cases hm
   refine bf ?_
   exact EE.here (by simp -dsimp [hf])
 ·refine aP (by simp -dsimp) c1 ?_
  refine bd ?_
  refine aW ?_
  cases hm
  refine be nofun ?_
  exact ⟨rfl,EE.here (by simp -dsimp [hf,c1])⟩
theorem c_cmp_Or_int (vals:List Int) (r:Int) (hm:m_cmp_Or_int vals = some r):PureCall Tryz.prog 57 [.u (.one (dL vals))] (vI r):=by
 refine bD Tryz.func57 Tryz.ntmps57 fun cx hn=>?_
 unfold m_cmp_Or_int at hm
 refine srs hn ?_
 simp -dsimp
 refine srs hn ?_
 simp -dsimp
 refine aU ?_
 refine srs hn ?_
 simp -dsimp
 refine aY ?_
 obtain ⟨o_,g4,hm⟩:=bnd hm
 refine br (l_cmp_Or_int_1 cx hn vals g4) (by
   try dsimp only
   exact eeh
 ) fun ee O G x5=>?_
 rcases o_ with r | _u
 ·unfold d6 at x5
  dsimp only at x5
  obtain ⟨rfl,x5⟩:=x5
  refine bu (aW ?_)
  cases hm
  exact ⟨.inr rfl,x5⟩
 ·unfold d6 at x5
  dsimp only at x5
  obtain ⟨rfl,x5⟩:=x5
  refine bc ?_
  refine aO ?_
  refine see x5 fun O G hf=>?_
  simp only [Fits,ba,bb,and_true] at hf
  refine srs hn ?_
  simp -dsimp [hf]
  cases hm
  exact aT ⟨.inr rfl,EE.here (by simp -dsimp)⟩
theorem c_point_Compare (a b:Point) (r:Int) (hm:m_point_Compare a b = some r):PureCall Tryz.prog 25 [.u (.agg [dI a.X,dI a.Y]),.u (.agg [dI b.X,dI b.Y])] (vI r):=by
 refine bD Tryz.func25 Tryz.ntmps25 fun cx hn=>?_
 unfold m_point_Compare at hm
 refine srs hn ?_
 simp -dsimp
 refine fh bA mixed (by rw [hn]; kernel_rfl) ?_
 obtain ⟨y,h1,hm⟩:=bnd hm
 simp -dsimp
 refine bl (gk a.Y b.Y y h1) ?_
 obtain ⟨y1,h2,hm⟩:=bnd hm
 simp -dsimp
 refine bl (gk a.X b.X y1 h2) ?_
 obtain ⟨y2,h3,hm⟩:=bnd hm
 simp -dsimp
 refine bl (c_cmp_Or_int [y,y1] y2 h3) ?_
 simp -dsimp
 cases hm
 exact aT ⟨.inr rfl,EE.here (by simp -dsimp)⟩
def d7 (cx:Cx) (_l:List Point) (tt:Bool ⊕ Unit) (ee:Exit) (O:Env) (G:Sto):Prop:=match tt with
 | .inl r=>ee = .ret /\ EE cx (fun O G=>∃ v,e9 tb O G Tryz.f54.results.toList = some v /\ (v.frz G).free = true /\ (v.frz G).wk (vT r)) O G
 | .inr _u=>ee = .exit 0 /\ EE cx (bw [] []) O G
theorem l_hood_Right_1 (cx:Cx) (hn:cx.n = 53) (l:List Point) {fu:Nat} {stt:Int} {tt:Bool ⊕ Unit} (hh:aV (b_hood_Right_1 l) fu stt = some tt) {O:Env} {G:Sto}
  (hE:bH (fun a1:Int=>[(0,.u (.one (dR1 l))),(13,.u (.one (dR1 l))),(14,vI (aX l)),(15,vI a1)]) (fun _a1:Int=>[]) stt O G):Swp Tryz.prog cx (.loop (cr [1,1,0,1,0,0] (bq Tryz.f54))) O G (d7 cx l tt):=by
 refine bL hE hh (d7 cx l) ?_
 rintro a1 r hm O G hf
 simp only [Fits,ba,bb,and_true] at hf
 unfold b_hood_Right_1 at hm
 dsimp only at hm
 refine srs hn ?_
 simp -dsimp [hf]
 refine aU ?_
 rcases aZ hm with ⟨c3,hm⟩ | ⟨c3,hm⟩
 ·refine aQ (by simp -dsimp) c3 ?_
  refine aS (aO (aU (aY ?_)))
  refine srs hn ?_
  obtain ⟨x,h4,hm⟩:=bnd hm
  simp -dsimp [hf,c3,h4]
  obtain ⟨a2,j13,hm⟩:=bnd hm
  refine scE [(0,.u (.one (dR1 l))),(13,.u (.one (dR1 l))),(14,vI (aX l)),(15,vI a1),(51,vT a2)] [] ?_ fun O G hf=>?_
  ·replace hm:=j13
   clear j13
   refine sw_qt bA mixed (by rw [hn]; kernel_rfl) ?_
   rcases aZ hm with ⟨c5,hm⟩ | ⟨c5,hm⟩
   ·simp -dsimp [c5]
    cases hm
    exact EE.here (by simp -dsimp [hf])
   ·rcases aZ hm with ⟨c6,hm⟩ | ⟨c6,hm⟩
    ·simp -dsimp [c5,c6]
     cases hm
     exact EE.here (by simp -dsimp [hf])
    ·rcases aZ hm with ⟨c7,hm⟩ | ⟨c7,hm⟩
     ·simp -dsimp [c5,c6,c7]
      cases hm
      exact EE.here (by simp -dsimp [hf])
     ·rcases aZ hm with ⟨c8,hm⟩ | ⟨c8,hm⟩
      ·simp -dsimp [c5,c6,c7,c8]
       cases hm
       exact EE.here (by simp -dsimp [hf])
      ·rcases aZ hm with ⟨c9,hm⟩ | ⟨c9,hm⟩
       ·obtain ⟨x1,h10,hm⟩:=bnd hm
        obtain ⟨y,h11,hm⟩:=bnd hm
        simp -dsimp [hf,c5,c6,c7,c8,c9,h10]
        refine bl (c_point_Compare x1 x y h11) ?_
        simp -dsimp
        cases hm
        exact EE.here (by simp -dsimp [hf])
       ·simp -dsimp [c5,c6,c7,c8,c9]
        cases hm
        exact EE.here (by simp -dsimp [hf])
  ·clear j13
   simp only [Fits,ba,bb,and_true] at hf
   rcases aZ hm with ⟨c12,hm⟩ | ⟨c12,hm⟩
   ·refine aQ (by simp -dsimp [hf]) c12 ?_
    refine srs hn ?_
    simp -dsimp
    refine aT (bu (aW ?_))
    cases hm
    refine be nofun ?_
    exact ⟨rfl,EE.here (by simp -dsimp [Tryz.results54])⟩
   ·refine aP (by simp -dsimp [hf]) c12 ?_
    refine aS ?_
    refine bh ?_
    refine aO ?_
    refine sr1 hn ?_
    simp -dsimp [hf]
    cases hm
    refine bf ?_
    exact EE.here (by simp -dsimp [hf])
 ·refine aP (by simp -dsimp) c3 ?_
  refine bd ?_
  refine aW ?_
  cases hm
  refine be nofun ?_
  exact ⟨rfl,EE.here (by simp -dsimp [c3])⟩
theorem c_hood_Right (l:List Point) (r:Bool) (hm:m_hood_Right l = some r):PureCall Tryz.prog 54 [.u (.one (dR1 l))] (vT r):=by
 refine bD Tryz.func54 Tryz.ntmps54 fun cx hn=>?_
 unfold m_hood_Right at hm
 refine srs hn ?_
 simp -dsimp
 refine aU ?_
 obtain ⟨a,j16,hm⟩:=bnd hm
 refine scE [(0,.u (.one (dR1 l))),(12,vT a)] [] ?_ fun O G hf=>?_
 ·replace hm:=j16
  clear j16
  refine sr1 hn ?_
  rcases aZ hm with ⟨c1,hm⟩ | ⟨c1,hm⟩
  ·simp -dsimp [c1]
   cases hm
   exact EE.here (by simp -dsimp)
  ·simp -dsimp [c1]
   cases hm
   exact EE.here (by simp -dsimp)
 ·clear j16
  simp only [Fits,ba,bb,and_true] at hf
  rcases aZ hm with ⟨c2,hm⟩ | ⟨c2,hm⟩
  ·refine aQ (by simp -dsimp [hf]) c2 ?_
   refine srs hn ?_
   simp -dsimp
   refine aT (aW ?_)
   cases hm
   refine ⟨.inr rfl,?_⟩
   exact EE.here (by simp -dsimp)
  ·refine aP (by simp -dsimp [hf]) c2 ?_
   refine aS (aO (aU ?_))
   refine srs hn ?_
   simp -dsimp [hf]
   refine aY ?_
   obtain ⟨o_,g14,hm⟩:=bnd hm
   refine br (l_hood_Right_1 cx hn l g14) (by
     try dsimp only
     exact EE.here (by simp -dsimp [hf])
   ) fun ee O G x15=>?_
   rcases o_ with r | _u
   ·unfold d7 at x15
    dsimp only at x15
    obtain ⟨rfl,x15⟩:=x15
    refine bu (aW ?_)
    cases hm
    exact ⟨.inr rfl,x15⟩
   ·unfold d7 at x15
    dsimp only at x15
    obtain ⟨rfl,x15⟩:=x15
    refine bc ?_
    refine aO ?_
    refine see x15 fun O G hf=>?_
    simp only [Fits,ba,bb,and_true] at hf
    refine srs hn ?_
    simp -dsimp
    cases hm
    exact aT ⟨.inr rfl,EE.here (by simp -dsimp)⟩
def bo (cx:Cx) (_s:List Point) (_v:Point) (tt:Int ⊕ Unit) (ee:Exit) (O:Env) (G:Sto):Prop:=match tt with
 | .inl r=>ee = .ret /\ EE cx (fun O G=>∃ v,e9 tb O G Tryz.f131.results.toList = some v /\ (v.frz G).free = true /\ (v.frz G).wk (vI r)) O G
 | .inr _u=>ee = .exit 0 /\ EE cx (bw [] []) O G
theorem dZ (cx:Cx) (hn:cx.n = 19) (s:List Point) (v:Point) {fu:Nat} {stt:Int} {tt:Int ⊕ Unit} (hh:aV (b_slices_Index_api_Point_api_Point_1 s v) fu stt = some tt) {O:Env} {G:Sto}
  (hE:bH (fun a:Int=>[(0,.u (.one (dR1 s))),(3,vX 3),(7,vI (aX s)),(8,vI a)]) (fun _a:Int=>[(3,.box [dI v.X,dI v.Y])]) stt O G):Swp Tryz.prog cx (.loop (cr [1,0,1,0,0] (bq Tryz.f131))) O G (bo cx s v tt):=by
 refine bL hE hh (bo cx s v) ?_
 rintro a r hm O G hf
 simp only [Fits,ba,bb,and_true] at hf
 unfold b_slices_Index_api_Point_api_Point_1 at hm
 dsimp only at hm
 refine srs hn ?_
 simp -dsimp [hf]
 refine aU ?_
 rcases aZ hm with ⟨c1,hm⟩ | ⟨c1,hm⟩
 ·refine aQ (by simp -dsimp) c1 ?_
  refine aS (aO (aU (aY ?_)))
  refine srs hn ?_
  simp -dsimp [hf,c1]
  refine fh bA mixed (by rw [hn]; kernel_rfl) ?_
  obtain ⟨x,h2,hm⟩:=bnd hm
  simp -dsimp [hf,h2]
  rcases aZ hm with ⟨c3,hm⟩ | ⟨c3,hm⟩
  ·refine aQ (by simp -dsimp) c3 ?_
   refine srs hn ?_
   simp -dsimp [c3]
   refine aT (bu (aW ?_))
   cases hm
   refine be nofun ?_
   exact ⟨rfl,EE.here (by simp -dsimp [Tryz.results131])⟩
  ·refine aP (by simp -dsimp) c3 ?_
   refine aS ?_
   refine bh ?_
   refine aO ?_
   refine sr1 hn ?_
   simp -dsimp [hf,c3]
   cases hm
   refine bf ?_
   exact EE.here (by simp -dsimp [hf])
 ·refine aP (by simp -dsimp) c1 ?_
  refine bd ?_
  refine aW ?_
  cases hm
  refine be nofun ?_
  exact ⟨rfl,EE.here (by simp -dsimp [c1])⟩
theorem eq (s:List Point) (v:Point) (r:Int) (hm:m_slices_Index_api_Point_api_Point s v = some r):PureCall Tryz.prog 131 [.u (.one (dR1 s)),.u (.agg [dI v.X,dI v.Y])] (vI r):=by
 refine bD Tryz.func131 Tryz.ntmps131 fun cx hn=>?_
 unfold m_slices_Index_api_Point_api_Point at hm
 refine srs hn ?_
 simp -dsimp
 refine aU ?_
 refine srs hn ?_
 simp -dsimp
 refine aY ?_
 obtain ⟨o_,g4,hm⟩:=bnd hm
 refine br (dZ cx hn s v g4) (by
   try dsimp only
   exact eeh
 ) fun ee O G x5=>?_
 rcases o_ with r | _u
 ·unfold bo at x5
  dsimp only at x5
  obtain ⟨rfl,x5⟩:=x5
  refine bu (aW ?_)
  cases hm
  exact ⟨.inr rfl,x5⟩
 ·unfold bo at x5
  dsimp only at x5
  obtain ⟨rfl,x5⟩:=x5
  refine bc ?_
  refine aO ?_
  refine see x5 fun O G hf=>?_
  simp only [Fits,ba,bb,and_true] at hf
  refine srs hn ?_
  simp -dsimp
  cases hm
  exact aT ⟨.inr rfl,EE.here (by simp -dsimp)⟩
theorem c_hood_Centre (l:List Point) (r:Int) (hm:m_hood_Centre l = some r):PureCall Tryz.prog 77 [.u (.one (dR1 l))] (vI r):=by
 refine bD Tryz.func77 Tryz.ntmps77 fun cx hn=>?_
 unfold m_hood_Centre at hm
 refine srs hn ?_
 simp -dsimp
 refine aU ?_
 refine srs hn ?_
 obtain ⟨y,h1,hm⟩:=bnd hm
 simp -dsimp
 refine aR (c_hood_Right l y h1) (dkL hn) ?_
 simp -dsimp
 rcases aZ hm with ⟨c2,hm⟩ | ⟨c2,hm⟩
 ·refine aQ (by simp -dsimp) c2 ?_
  refine srs hn ?_
  simp -dsimp [c2]
  refine aT (aW ?_)
  cases hm
  refine ⟨.inr rfl,?_⟩
  exact EE.here (by simp -dsimp)
 ·refine aP (by simp -dsimp) c2 ?_
  refine aS (aO ?_)
  refine srs hn ?_
  obtain ⟨y1,h3,hm⟩:=bnd hm
  simp -dsimp [c2]
  refine aR (eq l (⟨0,0⟩:Point) y1 h3) (dkL hn) ?_
  simp -dsimp
  cases hm
  exact aT ⟨.inr rfl,EE.here (by simp -dsimp)⟩
theorem el (l r:List Point) (hm:m_slices_Clone_api_Point_api_Point l = some r):r = l:=(bm hm).2
theorem ey (l r:List Point) (hm:m_slices_Clone_api_Point_api_Point l = some r):PFn Tryz.prog 82 [.u (.one (dR1 l))] (fun v=>v.wk (.u (.one (dR1 r)))):=by
 refine pfn_E bA _ Tryz.func82 rfl (by kernel_rfl) (by simp [Tryz.ntmps82]) fun cx hn=>?_
 replace hn:cx.n = 8:=hn.trans Tryz.ntmps82
 have ha:=(bm hm).1
 have hr:r = l:=(bm hm).2
 clear hm
 subst hr
 simp only [List.length_nil,Nat.zero_add] at ha
 refine srs hn ?_
 simp -dsimp
 refine aU ?_
 refine srs hn ?_
 cases r with
 | nil =>
  simp -dsimp
  refine ⟨?_,?_⟩
  ·refine aQ (b:=true) (by simp -dsimp) rfl ?_
   refine srs hn ?_
   simp -dsimp
   refine aT (aW ?_)
   refine ⟨.inr rfl,EE.here ?_⟩; simp -dsimp
  ·refine aP (b:=false) (by simp -dsimp) rfl ?_
   refine aS (aO ?_)
   refine srs hn ?_
   simp -dsimp
   refine aT ?_
   refine ⟨.inr rfl,EE.here ?_⟩; simp -dsimp
 | cons x xs =>
  simp -dsimp
  refine aP (b:=false) (by simp -dsimp) rfl ?_
  refine aS (aO ?_)
  refine srs hn ?_
  simp only [List.length_cons] at ha
  simp -dsimp [ha]
  refine aT ?_
  refine ⟨.inr rfl,EE.here ?_⟩; simp -dsimp
theorem cO (l r:List Point) (hm:m_slices_Clone_api_Point_api_Point l = some r):PureCall Tryz.prog 82 [.u (.one (dR1 l))] (.u (.one (dR1 r))):=(ey l r hm).pureW
theorem er (l r:List Point) (hm:m_slices_Clone_api_Point_api_Point l = some r):NewFn Tryz.prog 82 [.u (.one (dR1 l))] (fun o=>o = .row 2 49 (List.map Point.row r)):=by
 refine new_S bA _ Tryz.func82 rfl (by kernel_rfl) (by simp [Tryz.ntmps82]) fun cx hn=>?_
 replace hn:cx.n = 8:=hn.trans Tryz.ntmps82
 have ha:=(bm hm).1
 have hr:r = l:=(bm hm).2
 clear hm
 subst hr
 simp only [List.length_nil,Nat.zero_add] at ha
 refine srs hn ?_
 simp -dsimp
 refine aU ?_
 refine srs hn ?_
 cases r with
 | nil =>
  simp -dsimp
  refine ⟨?_,?_⟩
  ·refine aQ (b:=true) (by simp -dsimp) rfl ?_
   refine srs hn ?_
   simp -dsimp
   refine aT (aW ?_)
   refine ⟨.inr rfl,?_⟩; simp -dsimp
  ·refine aP (b:=false) (by simp -dsimp) rfl ?_
   refine aS (aO ?_)
   refine srs hn ?_
   simp -dsimp
   refine aT ?_
   refine ⟨.inr rfl,?_⟩; simp -dsimp
 | cons x xs =>
  simp -dsimp
  refine aP (b:=false) (by simp -dsimp) rfl ?_
  refine aS (aO ?_)
  refine srs hn ?_
  simp only [List.length_cons] at ha
  simp -dsimp [ha]
  refine aT ?_
  refine ⟨.inr rfl,?_⟩; simp -dsimp
def bQ (cx:Cx) (_s:List Int) (_v:Int) (tt:Int ⊕ Unit) (ee:Exit) (O:Env) (G:Sto):Prop:=match tt with
 | .inl r=>ee = .ret /\ EE cx (fun O G=>∃ v,e9 tb O G Tryz.f132.results.toList = some v /\ (v.frz G).free = true /\ (v.frz G).wk (vI r)) O G
 | .inr _u=>ee = .exit 0 /\ EE cx (bw [] []) O G
theorem gy (cx:Cx) (hn:cx.n = 19) (s:List Int) (v:Int) {fu:Nat} {stt:Int} {tt:Int ⊕ Unit} (hh:aV (b_slices_Index_int_int_1 s v) fu stt = some tt) {O:Env} {G:Sto}
  (hE:bH (fun a:Int=>[(0,.u (.one (dL s))),(1,vI v),(7,vI (aX s)),(8,vI a)]) (fun _a:Int=>[]) stt O G):Swp Tryz.prog cx (.loop (cr [1,0,1,0,0] (bq Tryz.f132))) O G (bQ cx s v tt):=by
 refine bL hE hh (bQ cx s v) ?_
 rintro a r hm O G hf
 simp only [Fits,ba,bb,and_true] at hf
 unfold b_slices_Index_int_int_1 at hm
 dsimp only at hm
 refine srs hn ?_
 simp -dsimp [hf]
 refine aU ?_
 rcases aZ hm with ⟨c1,hm⟩ | ⟨c1,hm⟩
 ·refine aQ (by simp -dsimp) c1 ?_
  refine aS (aO (aU (aY ?_)))
  refine srs hn ?_
  simp -dsimp [hf,c1]
  refine srs hn ?_
  obtain ⟨x,h2,hm⟩:=bnd hm
  simp -dsimp [hf,h2]
  rcases aZ hm with ⟨c3,hm⟩ | ⟨c3,hm⟩
  ·refine aQ (by simp -dsimp) c3 ?_
   refine srs hn ?_
   simp -dsimp [c3]
   refine aT (bu (aW ?_))
   cases hm
   refine be nofun ?_
   exact ⟨rfl,EE.here (by simp -dsimp [Tryz.results132])⟩
  ·refine aP (by simp -dsimp) c3 ?_
   refine aS ?_
   refine bh ?_
   refine aO ?_
   refine sr1 hn ?_
   simp -dsimp [hf,c3]
   cases hm
   refine bf ?_
   exact EE.here (by simp -dsimp [hf])
 ·refine aP (by simp -dsimp) c1 ?_
  refine bd ?_
  refine aW ?_
  cases hm
  refine be nofun ?_
  exact ⟨rfl,EE.here (by simp -dsimp [c1])⟩
theorem gZ (s:List Int) (v r:Int) (hm:m_slices_Index_int_int s v = some r):PureCall Tryz.prog 132 [.u (.one (dL s)),vI v] (vI r):=by
 refine bD Tryz.func132 Tryz.ntmps132 fun cx hn=>?_
 unfold m_slices_Index_int_int at hm
 refine srs hn ?_
 simp -dsimp
 refine aU ?_
 refine srs hn ?_
 simp -dsimp
 refine aY ?_
 obtain ⟨o_,g4,hm⟩:=bnd hm
 refine br (gy cx hn s v g4) (by
   try dsimp only
   exact eeh
 ) fun ee O G x5=>?_
 rcases o_ with r | _u
 ·unfold bQ at x5
  dsimp only at x5
  obtain ⟨rfl,x5⟩:=x5
  refine bu (aW ?_)
  cases hm
  exact ⟨.inr rfl,x5⟩
 ·unfold bQ at x5
  dsimp only at x5
  obtain ⟨rfl,x5⟩:=x5
  refine bc ?_
  refine aO ?_
  refine see x5 fun O G hf=>?_
  simp only [Fits,ba,bb,and_true] at hf
  refine srs hn ?_
  simp -dsimp
  cases hm
  exact aT ⟨.inr rfl,EE.here (by simp -dsimp)⟩
theorem dS (s:List Int) (v:Int) (r:Bool) (hm:m_slices_Contains_int_int s v = some r):PureCall Tryz.prog 80 [.u (.one (dL s)),vI v] (vT r):=by
 refine bD Tryz.func80 Tryz.ntmps80 fun cx hn=>?_
 unfold m_slices_Contains_int_int at hm
 refine srs hn ?_
 simp -dsimp
 refine srs hn ?_
 obtain ⟨y,h1,hm⟩:=bnd hm
 simp -dsimp
 refine aR (gZ s v y h1) (dkL hn) ?_
 simp -dsimp
 cases hm
 exact aT ⟨.inr rfl,EE.here (by simp -dsimp)⟩
theorem c_totaltree_Totals_2 (s:Aw) (a:Av) (r:Int) (hm:m_totaltree_Totals_2 s a = some r):PureCall Tryz.prog 79 [.u (.agg [dI s.ones,dI s.centre]),.u (.one (.ref (Av.row a) 0))] (vI r):=by
 refine bD Tryz.func79 Tryz.ntmps79 fun cx hn=>?_
 unfold m_totaltree_Totals_2 at hm
 refine srs hn ?_
 simp -dsimp
 refine srs hn ?_
 simp -dsimp
 refine aU (aY ?_)
 refine srs hn ?_
 simp -dsimp
 rcases aZ hm with ⟨c1,hm⟩ | ⟨c1,hm⟩
 ·refine sct c1 ?_
  obtain ⟨next,j4,hm⟩:=bnd hm
  refine scE [(4,vI next)] [] ?_ fun O G hf=>?_
  ·replace hm:=j4
   clear j4
   refine srs hn ?_
   obtain ⟨y,h2,hm⟩:=bnd hm
   simp -dsimp [c1]
   refine aR (dS a.Birth s.ones y h2) (dkL hn) ?_
   simp -dsimp
   rcases aZ hm with ⟨c3,hm⟩ | ⟨c3,hm⟩
   ·refine aQ (by simp -dsimp) c3 ?_
    refine sr1 hn ?_
    simp -dsimp [c3]
    cases hm
    exact EE.here (by simp -dsimp)
   ·refine aP (by simp -dsimp) c3 ?_
    refine aS (aO ?_)
    cases hm
    exact EE.here (by simp -dsimp [c3])
  ·clear j4
   simp only [Fits,ba,bb,and_true] at hf
   refine srs hn ?_
   simp -dsimp [hf]
   refine aT (bu (aW ?_))
   cases hm
   refine ⟨.inr rfl,?_⟩
   exact EE.here (by simp -dsimp)
 ·refine scf c1 ?_
  obtain ⟨a1,j9,hm⟩:=bnd hm
  refine scE [(1,.u (.one (.ref (Av.row a) 0))),(4,vI s.centre),(17,vT a1)] [] ?_ fun O G hf=>?_
  ·replace hm:=j9
   clear j9
   refine sr1 hn ?_
   rcases aZ hm with ⟨c5,hm⟩ | ⟨c5,hm⟩
   ·obtain ⟨y,h6,hm⟩:=bnd hm
    simp -dsimp [c1,c5]
    refine aR (dS a.Survive s.ones y h6) (dkL hn) ?_
    simp -dsimp
    cases hm
    exact EE.here (by simp -dsimp)
   ·simp -dsimp [c1,c5]
    cases hm
    exact EE.here (by simp -dsimp)
  ·clear j9
   simp only [Fits,ba,bb,and_true] at hf
   rcases aZ hm with ⟨c7,hm⟩ | ⟨c7,hm⟩
   ·refine aQ (by simp -dsimp [hf]) c7 ?_
    refine srs hn ?_
    simp -dsimp
    refine aT (bu (aW ?_))
    cases hm
    refine ⟨.inr rfl,?_⟩
    exact EE.here (by simp -dsimp)
   ·refine aP (by simp -dsimp [hf]) c7 ?_
    refine aS ?_
    refine bh ?_
    refine aO ?_
    refine srs hn ?_
    obtain ⟨n,h8,hm⟩:=bnd hm
    simp -dsimp [hf,h8]
    cases hm
    exact aT ⟨.inr rfl,EE.here (by simp -dsimp)⟩
theorem gX (s:Aw) (at_ state a:Int) (r:Int×Int) (hm:m_totaltree_Totals_1_o s at_ state a = some r):GFn Tryz.prog 78 [.u (.agg [dI s.ones,dI s.centre]),vI at_,vI state,vX 1000000] [.box [dI a]] (.u (.agg [dI r.1,dI r.2])) [some (.box [dI a])]:=by
 refine cy bA _ Tryz.func78 rfl (by kernel_rfl) (by simp [Tryz.ntmps78]) (by simp) (by first | rfl | simp) (by first | rfl | simp) fun cx hn hk=>?_
 replace hn:cx.n = 22:=hn.trans Tryz.ntmps78
 replace hk:cx.k = 1:=hk
 unfold m_totaltree_Totals_1_o at hm
 refine srs hn ?_
 simp -dsimp
 obtain ⟨⟨sones,scentre⟩,j3,hm⟩:=bnd hm
 refine scE [(4,vX 4),(7,vX 7)] [(4,.box [dI sones,dI scentre]),(7,.box [dI 0,dI 0]),(1000000,.box [dI a])] ?_ fun O G hf=>?_
 ·replace hm:=j3
  clear j3
  refine aY ?_
  refine srs hn ?_
  simp -dsimp
  rcases aZ hm with ⟨c1,hm⟩ | ⟨c1,hm⟩
  ·refine sct c1 ?_
   refine sr1 hn ?_
   simp -dsimp [c1]
   refine bh ?_
   cases hm
   exact EE.here (by simp -dsimp)
  ·refine scf c1 ?_
   refine srs hn ?_
   simp -dsimp [c1]
   rcases aZ hm with ⟨c2,hm⟩ | ⟨c2,hm⟩
   ·refine aQ (by simp -dsimp) c2 ?_
    refine sr1 hn ?_
    simp -dsimp [c2]
    refine bh ?_
    cases hm
    exact EE.here (by simp -dsimp)
   ·refine aP (by simp -dsimp) c2 ?_
    refine aS ?_
    refine bh ?_
    cases hm
    exact EE.here (by simp -dsimp [c2])
 ·clear j3
  simp only [Fits,ba,bb,and_true] at hf
  refine srs hn ?_
  simp -dsimp [hf]
  cases hm
  exact aT ⟨.inr rfl,EE.here (by simp -dsimp [hf])⟩
theorem cZ (l:List Int) (n base:Int) (r:List Int) (hm:m_internal_strconv_AppendUint_o l n base = some r):GFn Tryz.prog 184 [vO 1000000,.u (.one (.d (.int .u64 n))),vI base] [.row 1 5 (List.map (rI .u8) l)] (vO 1000001) [none,some (.row 1 5 (List.map (rI .u8) r))]:=appU_g appL rfl tf5 rfl rfl rfl rfl ⟨_,Tryz.func184,by decide,by kernel_rfl⟩ hm
theorem fb (dst:List Int) (i base:Int) (r:List Int) (hm:m_internal_strconv_AppendInt_o dst i base = some r):GFn Tryz.prog 155 [vO 1000000,vI i,vI base] [.row 1 5 (List.map (rI .u8) dst)] (vO 1000001) [none,some (.row 1 5 (List.map (rI .u8) r))]:=by
 refine cy bA _ Tryz.func155 rfl (by kernel_rfl) (by simp [Tryz.ntmps155]) (by simp) (by first | rfl | simp) (by first | rfl | simp) fun cx hn hk=>?_
 replace hn:cx.n = 21:=hn.trans Tryz.ntmps155
 replace hk:cx.k = 1:=hk
 unfold m_internal_strconv_AppendInt_o at hm
 refine srs hn ?_
 simp -dsimp
 refine srs hn ?_
 simp -dsimp
 obtain ⟨⟨u,dst1⟩,j4,hm⟩:=bnd hm
 refine scE [(0,vO 5000),(2,vI base),(7,.u (.one (.d (.int .u64 u))))] [(5000,.row 1 5 (List.map (rI .u8) dst1))] ?_ fun O G hf=>?_
 ·replace hm:=j4
  clear j4
  refine srs hn ?_
  simp -dsimp
  rcases aZ hm with ⟨c1,hm⟩ | ⟨c1,hm⟩
  ·refine sct c1 ?_
   refine srs hn ?_
   obtain ⟨l,h2,hm⟩:=bnd hm
   obtain ⟨h2a,h2e⟩:=bm h2
   replace h2e:=h2e.symm
   subst h2e
   try simp only [List.length_cons,List.length_nil,Nat.zero_add] at h2a
   try simp only [Nat.mul_one,Nat.reduceLeDiff] at h2a
   simp -dsimp [c1,h2a]
   refine sr1 hn ?_
   simp -dsimp
   refine aO ?_
   cases hm
   refine emv 14 5000 ?_
   exact EE.here (by simp -dsimp)
  ·refine scf c1 ?_
   refine aS (aO ?_)
   cases hm
   refine emv 1000000 5000 ?_
   exact EE.here (by simp -dsimp [c1])
 ·clear j4
  simp only [Fits,ba,bb,and_true] at hf
  refine srs hn ?_
  obtain ⟨y,h3,hm⟩:=bnd hm
  simp -dsimp [hf]
  refine clg (cZ dst1 u base y h3) [5000] [5001] (by simp -dsimp [hf]) (dkL hn) ?_
  simp -dsimp
  refine aT ?_
  cases hm
  refine ⟨.inr rfl,?_⟩
  refine emr 5001 1000001 hk ?_
  exact EE.here (by simp -dsimp)
theorem cz (dst:List Int) (i base:Int) (r:List Int) (hm:m_strconv_AppendInt_o dst i base = some r):GFn Tryz.prog 118 [vO 1000000,vI i,vI base] [.row 1 5 (List.map (rI .u8) dst)] (vO 1000001) [none,some (.row 1 5 (List.map (rI .u8) r))]:=by
 refine cy bA _ Tryz.func118 rfl (by kernel_rfl) (by simp [Tryz.ntmps118]) (by simp) (by first | rfl | simp) (by first | rfl | simp) fun cx hn hk=>?_
 replace hn:cx.n = 11:=hn.trans Tryz.ntmps118
 replace hk:cx.k = 1:=hk
 unfold m_strconv_AppendInt_o at hm
 refine srs hn ?_
 simp -dsimp
 refine srs hn ?_
 obtain ⟨y,h1,hm⟩:=bnd hm
 simp -dsimp
 refine clg (fb dst i base y h1) [1000000] [5000] (by simp -dsimp) (dkL hn) ?_
 simp -dsimp
 refine aT ?_
 cases hm
 refine ⟨.inr rfl,?_⟩
 refine emr 5000 1000001 hk ?_
 exact EE.here (by simp -dsimp)
end Go.Proofs.YtlcdmiapdfdcaaaGreatDoor
