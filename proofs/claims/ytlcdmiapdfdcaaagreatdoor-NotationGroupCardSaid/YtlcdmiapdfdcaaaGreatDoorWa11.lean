/- That the code does what the functions say (made by cc.py). -/
import Derived.Test.YtlcdmiapdfdcaaaGreatDoorWa10
namespace Go.Proofs.YtlcdmiapdfdcaaaGreatDoor
open Go.AM Go.Proofs
set_option maxRecDepth 100000
attribute [-simp] qlookup cR dQ Ob.wipe Ob.ren Ob.frz1
theorem c_reduce_Reduce (t r:Tree) (hm:m_reduce_Reduce t = some r):PureCall Tryz.prog 23 [.u (.agg [dI t.States,dR1 t.Hood,dR0 t.Nodes])] (.u (.agg [dI r.States,dR1 r.Hood,dR0 r.Nodes])):=by
 refine bD Tryz.func23 Tryz.ntmps23 fun cx hn=>?_
 unfold m_reduce_Reduce at hm
 refine srs hn ?_
 simp -dsimp
 refine aU ?_
 refine srs hn ?_
 obtain ⟨y,h1,hm⟩:=bnd hm
 simp -dsimp
 refine aR (dO t y h1) (dkL hn) ?_
 simp -dsimp
 rcases aZ hm with ⟨c2,hm⟩ | ⟨c2,hm⟩
 ·refine aQ (by simp -dsimp) c2 ?_
  refine srs hn ?_
  simp -dsimp [c2]
  refine aT (aW ?_)
  cases hm
  refine ⟨.inr rfl,?_⟩
  exact EE.here (by simp -dsimp)
 ·refine aP (by simp -dsimp) c2 ?_
  refine aS (aO ?_)
  refine srs hn ?_
  obtain ⟨y1,h3,hm⟩:=bnd hm
  simp -dsimp [c2]
  refine aR (eS t y1 h3) (dkL hn) ?_
  simp -dsimp
  cases hm
  exact aT ⟨.inr rfl,EE.here (by simp -dsimp)⟩
def bO (cx:Cx) (_sv1 _sv2:List Int) (tt:Bool ⊕ Unit) (ee:Exit) (O:Env) (G:Sto):Prop:=match tt with
 | .inl r=>ee = .ret /\ EE cx (fun O G=>∃ v,e9 tb O G Tryz.f64.results.toList = some v /\ (v.frz G).free = true /\ (v.frz G).wk (vT r)) O G
 | .inr _u=>ee = .exit 0 /\ EE cx (bw [] []) O G
theorem gB (cx:Cx) (hn:cx.n = 26) (sv1 sv2:List Int) {fu:Nat} {stt:Int} {tt:Bool ⊕ Unit} (hh:aV (b_slices_Equal_int_int_1 sv1 sv2) fu stt = some tt) {O:Env} {G:Sto}
  (hE:bH (fun a:Int=>[(0,.u (.one (dL sv1))),(1,.u (.one (dL sv2))),(12,vI (aX sv1)),(13,vI a)]) (fun _a:Int=>[]) stt O G):Swp Tryz.prog cx (.loop (cr [1,1,0,1,0,0] (bq Tryz.f64))) O G (bO cx sv1 sv2 tt):=by
 refine bL hE hh (bO cx sv1 sv2) ?_
 rintro a r hm O G hf
 simp only [Fits,ba,bb,and_true] at hf
 unfold b_slices_Equal_int_int_1 at hm
 dsimp only at hm
 refine srs hn ?_
 simp -dsimp [hf]
 refine aU ?_
 rcases aZ hm with ⟨c2,hm⟩ | ⟨c2,hm⟩
 ·refine aQ (by simp -dsimp) c2 ?_
  refine aS (aO (aU (aY ?_)))
  refine srs hn ?_
  simp -dsimp [hf,c2]
  refine fh bA mixed (by rw [hn]; kernel_rfl) ?_
  obtain ⟨x,h3,hm⟩:=bnd hm
  obtain ⟨x1,h4,hm⟩:=bnd hm
  simp -dsimp [hf,h3,h4]
  rcases aZ hm with ⟨c5,hm⟩ | ⟨c5,hm⟩
  ·refine aQ (by simp -dsimp) c5 ?_
   refine srs hn ?_
   simp -dsimp [c5]
   refine aT (bu (aW ?_))
   cases hm
   refine be nofun ?_
   exact ⟨rfl,EE.here (by simp -dsimp [Tryz.results64])⟩
  ·refine aP (by simp -dsimp) c5 ?_
   refine aS ?_
   refine bh ?_
   refine aO ?_
   refine sr1 hn ?_
   simp -dsimp [hf,c5]
   cases hm
   refine bf ?_
   exact EE.here (by simp -dsimp [hf])
 ·refine aP (by simp -dsimp) c2 ?_
  refine bd ?_
  refine aW ?_
  cases hm
  refine be nofun ?_
  exact ⟨rfl,EE.here (by simp -dsimp [c2])⟩
theorem hH (sv1 sv2:List Int) (r:Bool) (hm:m_slices_Equal_int_int sv1 sv2 = some r):PureCall Tryz.prog 64 [.u (.one (dL sv1)),.u (.one (dL sv2))] (vT r):=by
 refine bD Tryz.func64 Tryz.ntmps64 fun cx hn=>?_
 unfold m_slices_Equal_int_int at hm
 refine srs hn ?_
 simp -dsimp
 refine aU ?_
 refine srs hn ?_
 simp -dsimp
 rcases aZ hm with ⟨c1,hm⟩ | ⟨c1,hm⟩
 ·refine sct c1 ?_
  refine srs hn ?_
  simp -dsimp [c1]
  refine aT (aW ?_)
  cases hm
  refine ⟨.inr rfl,?_⟩
  exact EE.here (by simp -dsimp)
 ·refine scf c1 ?_
  refine aS (aO (aU ?_))
  refine srs hn ?_
  simp -dsimp [c1]
  refine aY ?_
  obtain ⟨o_,g6,hm⟩:=bnd hm
  refine br (gB cx hn sv1 sv2 g6) (by
    try dsimp only
    exact EE.here (by simp -dsimp)
  ) fun ee O G x7=>?_
  rcases o_ with r | _u
  ·unfold bO at x7
   dsimp only at x7
   obtain ⟨rfl,x7⟩:=x7
   refine bu (aW ?_)
   cases hm
   exact ⟨.inr rfl,x7⟩
  ·unfold bO at x7
   dsimp only at x7
   obtain ⟨rfl,x7⟩:=x7
   refine bc ?_
   refine aO ?_
   refine see x7 fun O G hf=>?_
   simp only [Fits,ba,bb,and_true] at hf
   refine srs hn ?_
   simp -dsimp
   cases hm
   exact aT ⟨.inr rfl,EE.here (by simp -dsimp)⟩
theorem c_tree_Same_1 (x y:Node) (r:Bool) (hm:m_tree_Same_1 x y = some r):PureCall Tryz.prog 63 [.u (.agg [dI x.Level,dL x.Next]),.u (.agg [dI y.Level,dL y.Next])] (vT r):=by
 refine bD Tryz.func63 Tryz.ntmps63 fun cx hn=>?_
 unfold m_tree_Same_1 at hm
 refine srs hn ?_
 simp -dsimp
 obtain ⟨a,j3,hm⟩:=bnd hm
 refine scE [(4,vT a)] [] ?_ fun O G hf=>?_
 ·replace hm:=j3
  clear j3
  refine sr1 hn ?_
  rcases aZ hm with ⟨c1,hm⟩ | ⟨c1,hm⟩
  ·obtain ⟨y1,h2,hm⟩:=bnd hm
   simp -dsimp [c1]
   refine aR (hH x.Next y.Next y1 h2) (dkL hn) ?_
   simp -dsimp
   cases hm
   exact EE.here (by simp -dsimp)
  ·simp -dsimp [c1]
   cases hm
   exact EE.here (by simp -dsimp)
 ·clear j3
  simp only [Fits,ba,bb,and_true] at hf
  cases hm
  exact aT ⟨.inr rfl,EE.here (by simp -dsimp [hf])⟩
def b9 (cx:Cx) (_sv1 _sv2:List Node) (tt:Bool ⊕ Unit) (ee:Exit) (O:Env) (G:Sto):Prop:=match tt with
 | .inl r=>ee = .ret /\ EE cx (fun O G=>∃ v,e9 tb O G Tryz.f62.results.toList = some v /\ (v.frz G).free = true /\ (v.frz G).wk (vT r)) O G
 | .inr _u=>ee = .exit 0 /\ EE cx (bw [] []) O G
theorem cf (cx:Cx) (hn:cx.n = 32) (sv1 sv2:List Node) {fu:Nat} {stt:Int} {tt:Bool ⊕ Unit} (hh:aV (b_slices_EqualFunc_api_Node_api_Node_api_Node_api_Node_tree_Same_1_1 sv1 sv2) fu stt = some tt) {O:Env} {G:Sto}
  (hE:bH (fun a:Int=>[(1,.u (.one (dR0 sv2))),(2,.u (.one (.fn 63 []))),(15,.u (.one (dR0 sv1))),(16,vI (aX sv1)),(17,vI a)]) (fun _a:Int=>[]) stt O G):Swp Tryz.prog cx (.loop (cr [1,1,0,1,0,0] (bq Tryz.f62))) O G (b9 cx sv1 sv2 tt):=by
 refine bL hE hh (b9 cx sv1 sv2) ?_
 rintro a r hm O G hf
 simp only [Fits,ba,bb,and_true] at hf
 unfold b_slices_EqualFunc_api_Node_api_Node_api_Node_api_Node_tree_Same_1_1 at hm
 dsimp only at hm
 refine srs hn ?_
 simp -dsimp [hf]
 refine aU ?_
 rcases aZ hm with ⟨c2,hm⟩ | ⟨c2,hm⟩
 ·refine aQ (by simp -dsimp) c2 ?_
  refine aS (aO (aU (aY ?_)))
  refine srs hn ?_
  obtain ⟨x,h3,hm⟩:=bnd hm
  simp -dsimp [hf,c2,h3]
  refine srs hn ?_
  obtain ⟨x1,h4,hm⟩:=bnd hm
  simp -dsimp [hf,h4]
  refine srs hn ?_
  obtain ⟨y,h5,hm⟩:=bnd hm
  simp -dsimp [hf]
  refine aR (c_tree_Same_1 x x1 y h5) (dkL hn) ?_
  simp -dsimp
  rcases aZ hm with ⟨c6,hm⟩ | ⟨c6,hm⟩
  ·refine aQ (by simp -dsimp) c6 ?_
   refine srs hn ?_
   simp -dsimp [c6]
   refine aT (bu (aW ?_))
   cases hm
   refine be nofun ?_
   exact ⟨rfl,EE.here (by simp -dsimp [Tryz.results62])⟩
  ·refine aP (by simp -dsimp) c6 ?_
   refine aS ?_
   refine bh ?_
   refine aO ?_
   refine sr1 hn ?_
   simp -dsimp [hf,c6]
   cases hm
   refine bf ?_
   exact EE.here (by simp -dsimp [hf])
 ·refine aP (by simp -dsimp) c2 ?_
  refine bd ?_
  refine aW ?_
  cases hm
  refine be nofun ?_
  exact ⟨rfl,EE.here (by simp -dsimp [c2])⟩
theorem ch (sv1 sv2:List Node) (r:Bool) (hm:m_slices_EqualFunc_api_Node_api_Node_api_Node_api_Node_tree_Same_1 sv1 sv2 = some r):PureCall Tryz.prog 62 [.u (.one (dR0 sv1)),.u (.one (dR0 sv2)),.u (.one (.fn 63 []))] (vT r):=by
 refine bD Tryz.func62 Tryz.ntmps62 fun cx hn=>?_
 unfold m_slices_EqualFunc_api_Node_api_Node_api_Node_api_Node_tree_Same_1 at hm
 refine srs hn ?_
 simp -dsimp
 refine aU ?_
 refine srs hn ?_
 simp -dsimp
 rcases aZ hm with ⟨c1,hm⟩ | ⟨c1,hm⟩
 ·refine sct c1 ?_
  refine srs hn ?_
  simp -dsimp [c1]
  refine aT (aW ?_)
  cases hm
  refine ⟨.inr rfl,?_⟩
  exact EE.here (by simp -dsimp)
 ·refine scf c1 ?_
  refine aS (aO (aU ?_))
  refine srs hn ?_
  simp -dsimp [c1]
  refine aY ?_
  obtain ⟨o_,g7,hm⟩:=bnd hm
  refine br (cf cx hn sv1 sv2 g7) (by
    try dsimp only
    exact EE.here (by simp -dsimp)
  ) fun ee O G x8=>?_
  rcases o_ with r | _u
  ·unfold b9 at x8
   dsimp only at x8
   obtain ⟨rfl,x8⟩:=x8
   refine bu (aW ?_)
   cases hm
   exact ⟨.inr rfl,x8⟩
  ·unfold b9 at x8
   dsimp only at x8
   obtain ⟨rfl,x8⟩:=x8
   refine bc ?_
   refine aO ?_
   refine see x8 fun O G hf=>?_
   simp only [Fits,ba,bb,and_true] at hf
   refine srs hn ?_
   simp -dsimp
   cases hm
   exact aT ⟨.inr rfl,EE.here (by simp -dsimp)⟩
theorem c_tree_Same (a b:Tree) (r:Bool) (hm:m_tree_Same a b = some r):PureCall Tryz.prog 29 [.u (.agg [dI a.States,dR1 a.Hood,dR0 a.Nodes]),.u (.agg [dI b.States,dR1 b.Hood,dR0 b.Nodes])] (vT r):=by
 refine bD Tryz.func29 Tryz.ntmps29 fun cx hn=>?_
 unfold m_tree_Same at hm
 refine srs hn ?_
 simp -dsimp
 obtain ⟨a1,j5,hm⟩:=bnd hm
 refine scE [(4,vT a1)] [] ?_ fun O G hf=>?_
 ·replace hm:=j5
  clear j5
  refine sr1 hn ?_
  rcases aZ hm with ⟨c1,hm⟩ | ⟨c1,hm⟩
  ·obtain ⟨y,h2,hm⟩:=bnd hm
   simp -dsimp [c1]
   refine aR (fo a.Hood b.Hood y h2) (dkL hn) ?_
   rcases aZ hm with ⟨c3,hm⟩ | ⟨c3,hm⟩
   ·obtain ⟨y1,h4,hm⟩:=bnd hm
    simp -dsimp [c3]
    refine aR (ch a.Nodes b.Nodes y1 h4) (dkL hn) ?_
    simp -dsimp
    cases hm
    exact EE.here (by simp -dsimp)
   ·simp -dsimp [c3]
    cases hm
    exact EE.here (by simp -dsimp)
  ·simp -dsimp [c1]
   cases hm
   exact EE.here (by simp -dsimp)
 ·clear j5
  simp only [Fits,ba,bb,and_true] at hf
  cases hm
  exact aT ⟨.inr rfl,EE.here (by simp -dsimp [hf])⟩
theorem c_reduce_Equal (a b:Tree) (r:Bool) (hm:m_reduce_Equal a b = some r):PureCall Tryz.prog 13 [.u (.agg [dI a.States,dR1 a.Hood,dR0 a.Nodes]),.u (.agg [dI b.States,dR1 b.Hood,dR0 b.Nodes])] (vT r):=by
 refine bD Tryz.func13 Tryz.ntmps13 fun cx hn=>?_
 unfold m_reduce_Equal at hm
 refine srs hn ?_
 simp -dsimp
 obtain ⟨a1,j11,hm⟩:=bnd hm
 refine scE [(4,vT a1)] [] ?_ fun O G hf=>?_
 ·replace hm:=j11
  clear j11
  refine sw_qt bA mixed (by rw [hn]; kernel_rfl) ?_
  obtain ⟨y,h1,hm⟩:=bnd hm
  simp -dsimp
  refine bl (dO a y h1) ?_
  rcases aZ hm with ⟨c2,hm⟩ | ⟨c2,hm⟩
  ·obtain ⟨y1,h3,hm⟩:=bnd hm
   simp -dsimp [c2]
   refine bl (dO b y1 h3) ?_
   rcases aZ hm with ⟨c4,hm⟩ | ⟨c4,hm⟩
   ·rcases aZ hm with ⟨c5,hm⟩ | ⟨c5,hm⟩
    ·obtain ⟨y2,h6,hm⟩:=bnd hm
     simp -dsimp [c4,c5]
     refine bl (fo a.Hood b.Hood y2 h6) ?_
     rcases aZ hm with ⟨c7,hm⟩ | ⟨c7,hm⟩
     ·obtain ⟨y3,h8,hm⟩:=bnd hm
      simp -dsimp [c7]
      refine bl (c_reduce_Reduce a y3 h8) ?_
      obtain ⟨y4,h9,hm⟩:=bnd hm
      simp -dsimp
      refine bl (c_reduce_Reduce b y4 h9) ?_
      obtain ⟨y5,h10,hm⟩:=bnd hm
      simp -dsimp
      refine bl (c_tree_Same y3 y4 y5 h10) ?_
      simp -dsimp
      cases hm
      exact EE.here (by simp -dsimp)
     ·simp -dsimp [c7]
      cases hm
      exact EE.here (by simp -dsimp)
    ·simp -dsimp [c4,c5]
     cases hm
     exact EE.here (by simp -dsimp)
   ·simp -dsimp [c4]
    cases hm
    exact EE.here (by simp -dsimp)
  ·simp -dsimp [c2]
   cases hm
   exact EE.here (by simp -dsimp)
 ·clear j11
  simp only [Fits,ba,bb,and_true] at hf
  cases hm
  exact aT ⟨.inr rfl,EE.here (by simp -dsimp [hf])⟩
def dD (cx:Cx) (_t:Tree) (tt:(List Int)) (ee:Exit) (O:Env) (G:Sto):Prop:=match tt with
 | out=>ee = .exit 0 /\ EE cx (bw [(3,vO 5000)] [(5000,.row 1 3 (List.map (rI .i64) out))]) O G
theorem l_notation_Syms_1 (cx:Cx) (hn:cx.n = 29) (t:Tree) {fu:Nat} {stt:Int×(List Int)} {tt:(List Int)} (hh:aV (b_notation_Syms_1 t) fu stt = some tt) {O:Env} {G:Sto}
  (hE:bH (fun stt:Int×(List Int)=>match stt with | (a,_out)=>[(1,vX 1),(3,vO 5000),(7,vI a)]) (fun stt:Int×(List Int)=>match stt with | (_a,out)=>[(1,.box [dI t.States,dR1 t.Hood,dR0 t.Nodes]),(5000,.row 1 3 (List.map (rI .i64) out))]) stt O G):Swp Tryz.prog cx (.loop (cr [1,1,0,1,0,0] (bq Tryz.f8))) O G (dD cx t tt):=by
 refine bL hE hh (dD cx t) ?_
 rintro ⟨a,out⟩ r hm O G hf
 simp only [Fits,ba,bb,and_true] at hf
 unfold b_notation_Syms_1 at hm
 dsimp only at hm
 refine srs hn ?_
 simp -dsimp [hf]
 refine aU ?_
 rcases aZ hm with ⟨c1,hm⟩ | ⟨c1,hm⟩
 ·refine aQ (by simp -dsimp) c1 ?_
  refine aS (aO ?_)
  obtain ⟨out1,j8,hm⟩:=bnd hm
  refine scE [(1,vX 1),(3,vO 5000),(7,vI a)] [(1,.box [dI t.States,dR1 t.Hood,dR0 t.Nodes]),(5000,.row 1 3 (List.map (rI .i64) out1))] ?_ fun O G hf=>?_
  ·replace hm:=j8
   clear j8
   refine aY ?_
   refine srs hn ?_
   simp -dsimp [hf,c1]
   refine srs hn ?_
   obtain ⟨y,h2,hm⟩:=bnd hm
   simp -dsimp [hf]
   refine aR (gx a t y h2) (dkL hn) ?_
   simp -dsimp
   obtain ⟨a1,j7,hm⟩:=bnd hm
   refine scE [(1,vX 1),(3,vO 5000),(4,vI a),(7,vI a),(22,vT a1)] [(1,.box [dI t.States,dR1 t.Hood,dR0 t.Nodes]),(5000,.row 1 3 (List.map (rI .i64) out))] ?_ fun O G hf=>?_
   ·replace hm:=j7
    clear j7
    refine sr1 hn ?_
    rcases aZ hm with ⟨c3,hm⟩ | ⟨c3,hm⟩
    ·obtain ⟨y1,h4,hm⟩:=bnd hm
     simp -dsimp [hf,c3]
     refine aR (c_reduce_Equal t y.1 y1 h4) (dkL hn) ?_
     simp -dsimp
     cases hm
     exact EE.here (by simp -dsimp [hf])
    ·simp -dsimp [c3]
     cases hm
     exact EE.here (by simp -dsimp [hf])
   ·clear j7
    simp only [Fits,ba,bb,and_true] at hf
    rcases aZ hm with ⟨c5,hm⟩ | ⟨c5,hm⟩
    ·refine aQ (by simp -dsimp [hf]) c5 ?_
     refine sr1 hn ?_
     obtain ⟨l,h6,hm⟩:=bnd hm
     obtain ⟨h6a,h6e⟩:=bm h6
     replace h6e:=h6e.symm
     subst h6e
     try simp only [List.length_cons,List.length_nil,Nat.zero_add] at h6a
     simp -dsimp [hf,h6a]
     refine bh ?_
     refine aO ?_
     cases hm
     refine emv 26 5000 ?_
     exact EE.here (by simp -dsimp [hf])
    ·refine aP (by simp -dsimp [hf]) c5 ?_
     refine aS ?_
     refine bh ?_
     cases hm
     exact EE.here (by simp -dsimp [hf])
  ·clear j8
   simp only [Fits,ba,bb,and_true] at hf
   refine sr1 hn ?_
   simp -dsimp [hf]
   cases hm
   refine bf ?_
   exact EE.here (by simp -dsimp [hf])
 ·refine aP (by simp -dsimp) c1 ?_
  refine bd ?_
  refine aW ?_
  cases hm
  refine be nofun ?_
  exact ⟨rfl,EE.here (by simp -dsimp [hf,c1])⟩
theorem eg (t:Tree) (r:List Int) (hm:m_notation_Syms t = some r):PureCall Tryz.prog 8 [.u (.agg [dI t.States,dR1 t.Hood,dR0 t.Nodes])] (.u (.one (dL r))):=by
 refine bD Tryz.func8 Tryz.ntmps8 fun cx hn=>?_
 unfold m_notation_Syms at hm
 refine srs hn ?_
 simp -dsimp
 refine srs hn ?_
 simp -dsimp
 refine aU ?_
 refine srs hn ?_
 simp -dsimp
 refine aY ?_
 obtain ⟨out,g9,hm⟩:=bnd hm
 refine br (l_notation_Syms_1 cx hn t g9) (by
   try dsimp only
   refine EE.step (Wk.own0 3 5000 1 3 (by simp -dsimp) (by decide)) ?_
   exact eeh
 ) fun ee O G x10=>?_
 unfold dD at x10
 dsimp only at x10
 obtain ⟨rfl,x10⟩:=x10
 refine bc ?_
 refine aO ?_
 refine see x10 fun O G hf=>?_
 simp only [Fits,ba,bb,and_true] at hf
 refine srs hn ?_
 simp -dsimp [hf]
 cases hm
 exact aT ⟨.inr rfl,EE.here (by simp -dsimp [hf])⟩
def dN (cx:Cx) (_a _b:List Int) (tt:Bool ⊕ Unit) (ee:Exit) (O:Env) (G:Sto):Prop:=match tt with
 | .inl r=>ee = .ret /\ EE cx (fun O G=>∃ v,e9 tb O G Tryz.f7.results.toList = some v /\ (v.frz G).free = true /\ (v.frz G).wk (vT r)) O G
 | .inr _u=>ee = .exit 0 /\ EE cx (bw [] []) O G
theorem l_L12_Ints_1 (cx:Cx) (hn:cx.n = 26) (a b:List Int) {fu:Nat} {stt:Int} {tt:Bool ⊕ Unit} (hh:aV (b_L12_Ints_1 a b) fu stt = some tt) {O:Env} {G:Sto}
  (hE:bH (fun a1:Int=>[(0,.u (.one (dL a))),(1,.u (.one (dL b))),(12,vI (aX a)),(13,vI a1)]) (fun _a1:Int=>[]) stt O G):Swp Tryz.prog cx (.loop (cr [1,1,0,1,0,0] (bq Tryz.f7))) O G (dN cx a b tt):=by
 refine bL hE hh (dN cx a b) ?_
 rintro a1 r hm O G hf
 simp only [Fits,ba,bb,and_true] at hf
 unfold b_L12_Ints_1 at hm
 dsimp only at hm
 refine srs hn ?_
 simp -dsimp [hf]
 refine aU ?_
 rcases aZ hm with ⟨c2,hm⟩ | ⟨c2,hm⟩
 ·refine aQ (by simp -dsimp) c2 ?_
  refine aS (aO (aU (aY ?_)))
  refine srs hn ?_
  simp -dsimp [hf,c2]
  refine fh bA mixed (by rw [hn]; kernel_rfl) ?_
  obtain ⟨x,h3,hm⟩:=bnd hm
  obtain ⟨x1,h4,hm⟩:=bnd hm
  simp -dsimp [hf,h3,h4]
  rcases aZ hm with ⟨c5,hm⟩ | ⟨c5,hm⟩
  ·refine aQ (by simp -dsimp) c5 ?_
   refine srs hn ?_
   simp -dsimp [c5]
   refine aT (bu (aW ?_))
   cases hm
   refine be nofun ?_
   exact ⟨rfl,EE.here (by simp -dsimp [Tryz.results7])⟩
  ·refine aP (by simp -dsimp) c5 ?_
   refine aS ?_
   refine bh ?_
   refine aO ?_
   refine sr1 hn ?_
   simp -dsimp [hf,c5]
   cases hm
   refine bf ?_
   exact EE.here (by simp -dsimp [hf])
 ·refine aP (by simp -dsimp) c2 ?_
  refine bd ?_
  refine aW ?_
  cases hm
  refine be nofun ?_
  exact ⟨rfl,EE.here (by simp -dsimp [c2])⟩
theorem c_L12_Ints (a b:List Int) (r:Bool) (hm:m_L12_Ints a b = some r):PureCall Tryz.prog 7 [.u (.one (dL a)),.u (.one (dL b))] (vT r):=by
 refine bD Tryz.func7 Tryz.ntmps7 fun cx hn=>?_
 unfold m_L12_Ints at hm
 refine srs hn ?_
 simp -dsimp
 refine aU ?_
 refine srs hn ?_
 simp -dsimp
 rcases aZ hm with ⟨c1,hm⟩ | ⟨c1,hm⟩
 ·refine sct c1 ?_
  refine srs hn ?_
  simp -dsimp [c1]
  refine aT (aW ?_)
  cases hm
  refine ⟨.inr rfl,?_⟩
  exact EE.here (by simp -dsimp)
 ·refine scf c1 ?_
  refine aS (aO (aU ?_))
  refine srs hn ?_
  simp -dsimp [c1]
  refine aY ?_
  obtain ⟨o_,g6,hm⟩:=bnd hm
  refine br (l_L12_Ints_1 cx hn a b g6) (by
    try dsimp only
    exact EE.here (by simp -dsimp)
  ) fun ee O G x7=>?_
  rcases o_ with r | _u
  ·unfold dN at x7
   dsimp only at x7
   obtain ⟨rfl,x7⟩:=x7
   refine bu (aW ?_)
   cases hm
   exact ⟨.inr rfl,x7⟩
  ·unfold dN at x7
   dsimp only at x7
   obtain ⟨rfl,x7⟩:=x7
   refine bc ?_
   refine aO ?_
   refine see x7 fun O G hf=>?_
   simp only [Fits,ba,bb,and_true] at hf
   refine srs hn ?_
   simp -dsimp
   cases hm
   exact aT ⟨.inr rfl,EE.here (by simp -dsimp)⟩
theorem c_L16_awake (r:Bool) (hm:m_L16_awake = some r):PureCall Tryz.prog 6 [] (vT r):=by
 refine bD Tryz.func6 Tryz.ntmps6 fun cx hn=>?_
 unfold m_L16_awake at hm
 refine srs hn ?_
 simp -dsimp
 refine srs hn ?_
 obtain ⟨y,h1,hm⟩:=bnd hm
 simp -dsimp
 refine aR (d8 ([66,51,47,83,50,51]:List UInt8) y h1) (dkL hn) ?_
 simp -dsimp
 refine srs hn ?_
 obtain ⟨y1,h2,hm⟩:=bnd hm
 simp -dsimp
 refine aR (d8 ([66,50,47,83,51,52,72]:List UInt8) y1 h2) (dkL hn) ?_
 simp -dsimp
 refine srs hn ?_
 obtain ⟨y2,h3,hm⟩:=bnd hm
 simp -dsimp
 refine aR (d8 ([87,49,49,48]:List UInt8) y2 h3) (dkL hn) ?_
 simp -dsimp
 refine srs hn ?_
 obtain ⟨y3,h4,hm⟩:=bnd hm
 simp -dsimp
 refine aR (d8 ([66,57,47,83]:List UInt8) y3 h4) (dkL hn) ?_
 simp -dsimp
 refine srs hn ?_
 obtain ⟨y4,h5,hm⟩:=bnd hm
 simp -dsimp
 refine aR (d8 ([108,105,102,101]:List UInt8) y4 h5) (dkL hn) ?_
 simp -dsimp
 refine srs hn ?_
 obtain ⟨y5,h6,hm⟩:=bnd hm
 simp -dsimp
 refine aR (c_notation_Canon ([47,50,47,51]:List UInt8) y5 h6) (dkL hn) ?_
 simp -dsimp
 refine srs hn ?_
 obtain ⟨y6,h7,hm⟩:=bnd hm
 simp -dsimp
 refine aR (c_tree_Eval y.1 [1,1,1,0,0,0,0,0,0] y6 h7) (dkL hn) ?_
 simp -dsimp
 refine aU ?_
 obtain ⟨a,j37,hm⟩:=bnd hm
 refine scE [(1,vX 1),(3,vX 3),(5,vX 5),(78,vT a)] [(1,.box [dI y.1.States,dR1 y.1.Hood,dR0 y.1.Nodes]),(3,.box [dI y1.1.States,dR1 y1.1.Hood,dR0 y1.1.Nodes]),(5,.box [dI y2.1.States,dR1 y2.1.Hood,dR0 y2.1.Nodes])] ?_ fun O G hf=>?_
 ·replace hm:=j37
  clear j37
  refine sr1 hn ?_
  rcases aZ hm with ⟨c8,hm⟩ | ⟨c8,hm⟩
  ·simp -dsimp [c8]
   cases hm
   exact EE.here (by simp -dsimp)
  ·rcases aZ hm with ⟨c9,hm⟩ | ⟨c9,hm⟩
   ·simp -dsimp [c8,c9]
    cases hm
    exact EE.here (by simp -dsimp)
   ·rcases aZ hm with ⟨c10,hm⟩ | ⟨c10,hm⟩
    ·simp -dsimp [c8,c9,c10]
     cases hm
     exact EE.here (by simp -dsimp)
    ·rcases aZ hm with ⟨c11,hm⟩ | ⟨c11,hm⟩
     ·simp -dsimp [c8,c9,c10,c11]
      cases hm
      exact EE.here (by simp -dsimp)
     ·rcases aZ hm with ⟨c12,hm⟩ | ⟨c12,hm⟩
      ·simp -dsimp [c8,c9,c10,c11,c12]
       cases hm
       exact EE.here (by simp -dsimp)
      ·rcases aZ hm with ⟨c13,hm⟩ | ⟨c13,hm⟩
       ·simp -dsimp [c8,c9,c10,c11,c12,c13]
        cases hm
        exact EE.here (by simp -dsimp)
       ·rcases aZ hm with ⟨c14,hm⟩ | ⟨c14,hm⟩
        ·simp -dsimp [c8,c9,c10,c11,c12,c13,c14]
         cases hm
         exact EE.here (by simp -dsimp)
        ·rcases aZ hm with ⟨c15,hm⟩ | ⟨c15,hm⟩
         ·simp -dsimp [c8,c9,c10,c11,c12,c13,c14,c15]
          cases hm
          exact EE.here (by simp -dsimp)
         ·simp -dsimp [c8,c9,c10,c11,c12,c13,c14,c15]
          cases hm
          exact EE.here (by simp -dsimp)
 ·clear j37
  simp only [Fits,ba,bb,and_true] at hf
  rcases aZ hm with ⟨c16,hm⟩ | ⟨c16,hm⟩
  ·refine aQ (by simp -dsimp [hf]) c16 ?_
   refine srs hn ?_
   simp -dsimp
   refine aT (aW ?_)
   cases hm
   refine ⟨.inr rfl,?_⟩
   exact EE.here (by simp -dsimp)
  ·refine aP (by simp -dsimp [hf]) c16 ?_
   refine aS (aO ?_)
   obtain ⟨a1,j36,hm⟩:=bnd hm
   refine scE [(0,vT a1)] [] ?_ fun O G hf=>?_
   ·replace hm:=j36
    clear j36
    refine sr1 hn ?_
    obtain ⟨y7,h17,hm⟩:=bnd hm
    simp -dsimp
    refine aR (cu ([66,51,47,83,50,51]:List UInt8) y7 h17) (dkL hn) ?_
    rcases aZ hm with ⟨c18,hm⟩ | ⟨c18,hm⟩
    ·obtain ⟨y8,h19,hm⟩:=bnd hm
     simp -dsimp [c18]
     refine aR (cu ([47,50,47,51]:List UInt8) y8 h19) (dkL hn) ?_
     rcases aZ hm with ⟨c20,hm⟩ | ⟨c20,hm⟩
     ·obtain ⟨y9,h21,hm⟩:=bnd hm
      simp -dsimp [c20]
      refine aR (cu ([87,51,48]:List UInt8) y9 h21) (dkL hn) ?_
      rcases aZ hm with ⟨c22,hm⟩ | ⟨c22,hm⟩
      ·obtain ⟨y10,h23,hm⟩:=bnd hm
       simp -dsimp [c22]
       refine aR (cu ([84,55,55,55,47,51]:List UInt8) y10 h23) (dkL hn) ?_
       rcases aZ hm with ⟨c24,hm⟩ | ⟨c24,hm⟩
       ·obtain ⟨y11,h25,hm⟩:=bnd hm
        simp -dsimp [c24]
        refine aR (cu ([98,51,47,115,50,51]:List UInt8) y11 h25) (dkL hn) ?_
        rcases aZ hm with ⟨c26,hm⟩ | ⟨c26,hm⟩
        ·obtain ⟨y12,h27,hm⟩:=bnd hm
         simp -dsimp [c26]
         refine aR (cu ([120,10]:List UInt8) y12 h27) (dkL hn) ?_
         rcases aZ hm with ⟨c28,hm⟩ | ⟨c28,hm⟩
         ·obtain ⟨y13,h29,hm⟩:=bnd hm
          simp -dsimp [hf,c28]
          refine aR (eg y.1 y13 h29) (dkL hn) ?_
          rcases aZ hm with ⟨c30,hm⟩ | ⟨c30,hm⟩
          ·obtain ⟨y14,h31,hm⟩:=bnd hm
           simp -dsimp [hf,c30]
           refine aR (eg y1.1 y14 h31) (dkL hn) ?_
           obtain ⟨y15,h32,hm⟩:=bnd hm
           simp -dsimp
           refine aR (c_L12_Ints y14 [0,2,5,7] y15 h32) (dkL hn) ?_
           rcases aZ hm with ⟨c33,hm⟩ | ⟨c33,hm⟩
           ·obtain ⟨y16,h34,hm⟩:=bnd hm
            simp -dsimp [hf,c33]
            refine aR (eg y2.1 y16 h34) (dkL hn) ?_
            obtain ⟨y17,h35,hm⟩:=bnd hm
            simp -dsimp
            refine aR (c_L12_Ints y16 [0,6] y17 h35) (dkL hn) ?_
            simp -dsimp
            cases hm
            exact EE.here (by simp -dsimp)
           ·simp -dsimp [c33]
            cases hm
            exact EE.here (by simp -dsimp)
          ·simp -dsimp [c30]
           cases hm
           exact EE.here (by simp -dsimp)
         ·simp -dsimp [c28]
          cases hm
          exact EE.here (by simp -dsimp)
        ·simp -dsimp [c26]
         cases hm
         exact EE.here (by simp -dsimp)
       ·simp -dsimp [c24]
        cases hm
        exact EE.here (by simp -dsimp)
      ·simp -dsimp [c22]
       cases hm
       exact EE.here (by simp -dsimp)
     ·simp -dsimp [c20]
      cases hm
      exact EE.here (by simp -dsimp)
    ·simp -dsimp [c18]
     cases hm
     exact EE.here (by simp -dsimp)
   ·clear j36
    simp only [Fits,ba,bb,and_true] at hf
    cases hm
    exact aT ⟨.inr rfl,EE.here (by simp -dsimp [hf])⟩
def bC (cx:Cx) (_s:List (Int×Int×Int×Int)) (_v:Int×Int×Int×Int) (tt:Int ⊕ Unit) (ee:Exit) (O:Env) (G:Sto):Prop:=match tt with
 | .inl r=>ee = .ret /\ EE cx (fun O G=>∃ v,e9 tb O G Tryz.f53.results.toList = some v /\ (v.frz G).free = true /\ (v.frz G).wk (vI r)) O G
 | .inr _u=>ee = .exit 0 /\ EE cx (bw [] []) O G
theorem fy (cx:Cx) (hn:cx.n = 19) (s:List (Int×Int×Int×Int)) (v:Int×Int×Int×Int) {fu:Nat} {stt:Int} {tt:Int ⊕ Unit} (hh:aV (b_slices_Index_4_int_4_int_1 s v) fu stt = some tt) {O:Env} {G:Sto}
  (hE:bH (fun a:Int=>[(0,.u (.one (.d (.sl 4 (List.map (fun (x:Int×Int×Int×Int)=>[L.int .i64 x.1,L.int .i64 x.2.1,L.int .i64 x.2.2.1,L.int .i64 x.2.2.2]) s))))),(3,vX 3),(7,vI (aX s)),(8,vI a)]) (fun _a:Int=>[(3,.box [dI v.1,dI v.2.1,dI v.2.2.1,dI v.2.2.2])]) stt O G):Swp Tryz.prog cx (.loop (cr [1,0,1,0,0] (bq Tryz.f53))) O G (bC cx s v tt):=by
 refine bL hE hh (bC cx s v) ?_
 rintro a r hm O G hf
 simp only [Fits,ba,bb,and_true] at hf
 unfold b_slices_Index_4_int_4_int_1 at hm
 dsimp only at hm
 refine srs hn ?_
 simp -dsimp [hf]
 refine aU ?_
 rcases aZ hm with ⟨c1,hm⟩ | ⟨c1,hm⟩
 ·refine aQ (by simp -dsimp) c1 ?_
  refine aS (aO (aU (aY ?_)))
  refine srs hn ?_
  simp -dsimp [hf,c1]
  refine fh bA mixed (by rw [hn]; kernel_rfl) ?_
  obtain ⟨x,h2,hm⟩:=bnd hm
  simp -dsimp [hf,h2]
  rcases aZ hm with ⟨c3,hm⟩ | ⟨c3,hm⟩
  ·refine aQ (by simp -dsimp) c3 ?_
   refine srs hn ?_
   simp -dsimp [c3]
   refine aT (bu (aW ?_))
   cases hm
   refine be nofun ?_
   exact ⟨rfl,EE.here (by simp -dsimp [Tryz.results53])⟩
  ·refine aP (by simp -dsimp) c3 ?_
   refine aS ?_
   refine bh ?_
   refine aO ?_
   refine sr1 hn ?_
   simp -dsimp [hf,c3]
   cases hm
   refine bf ?_
   exact EE.here (by simp -dsimp [hf])
 ·refine aP (by simp -dsimp) c1 ?_
  refine bd ?_
  refine aW ?_
  cases hm
  refine be nofun ?_
  exact ⟨rfl,EE.here (by simp -dsimp [c1])⟩
theorem fU (s:List (Int×Int×Int×Int)) (v:Int×Int×Int×Int) (r:Int) (hm:m_slices_Index_4_int_4_int s v = some r):PureCall Tryz.prog 53 [.u (.one (.d (.sl 4 (List.map (fun (x:Int×Int×Int×Int)=>[L.int .i64 x.1,L.int .i64 x.2.1,L.int .i64 x.2.2.1,L.int .i64 x.2.2.2]) s)))),.u (.agg [dI v.1,dI v.2.1,dI v.2.2.1,dI v.2.2.2])] (vI r):=by
 refine bD Tryz.func53 Tryz.ntmps53 fun cx hn=>?_
 unfold m_slices_Index_4_int_4_int at hm
 refine srs hn ?_
 simp -dsimp
 refine aU ?_
 refine srs hn ?_
 simp -dsimp
 refine aY ?_
 obtain ⟨o_,g4,hm⟩:=bnd hm
 refine br (fy cx hn s v g4) (by
   try dsimp only
   exact eeh
 ) fun ee O G x5=>?_
 rcases o_ with r | _u
 ·unfold bC at x5
  dsimp only at x5
  obtain ⟨rfl,x5⟩:=x5
  refine bu (aW ?_)
  cases hm
  exact ⟨.inr rfl,x5⟩
 ·unfold bC at x5
  dsimp only at x5
  obtain ⟨rfl,x5⟩:=x5
  refine bc ?_
  refine aO ?_
  refine see x5 fun O G hf=>?_
  simp only [Fits,ba,bb,and_true] at hf
  refine srs hn ?_
  simp -dsimp
  cases hm
  exact aT ⟨.inr rfl,EE.here (by simp -dsimp)⟩
theorem c_symmetry_Compose (a b r:Int) (hm:m_symmetry_Compose a b = some r):PureCall Tryz.prog 21 [vI a,vI b] (vI r):=by
 refine bD Tryz.func21 Tryz.ntmps21 fun cx hn=>?_
 unfold m_symmetry_Compose at hm
 refine srs hn ?_
 simp -dsimp
 refine srs hn ?_
 obtain ⟨y,h1,hm⟩:=bnd hm
 simp -dsimp
 refine aR (da a (⟨1,0⟩:Point) y h1) (dkL hn) ?_
 obtain ⟨y1,h2,hm⟩:=bnd hm
 simp -dsimp
 refine aR (da b y y1 h2) (dkL hn) ?_
 simp -dsimp
 refine srs hn ?_
 obtain ⟨y2,h3,hm⟩:=bnd hm
 simp -dsimp
 refine aR (da a (⟨0,1⟩:Point) y2 h3) (dkL hn) ?_
 obtain ⟨y3,h4,hm⟩:=bnd hm
 simp -dsimp
 refine aR (da b y2 y3 h4) (dkL hn) ?_
 simp -dsimp
 refine fh bA mixed (by rw [hn]; kernel_rfl) ?_
 obtain ⟨y4,h5,hm⟩:=bnd hm
 simp -dsimp [(@id (sliceR 4 8 g0L = some (.u (.one (.d (.sl 4 (List.map (fun (x:Int×Int×Int×Int)=>[.int .i64 x.1,.int .i64 x.2.1,.int .i64 x.2.2.1,.int .i64 x.2.2.2]) g0R)))))) rfl)]
 refine bl (fU g0R ((y1.X,y3.X,y1.Y,y3.Y):Int×Int×Int×Int) y4 h5) ?_
 simp -dsimp
 cases hm
 exact aT ⟨.inr rfl,EE.here (by simp -dsimp)⟩
end Go.Proofs.YtlcdmiapdfdcaaaGreatDoor
