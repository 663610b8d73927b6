/- That the code does what the functions say (made by cc.py). -/
import Derived.Test.YtlifofijgddjkabGreatDoorWa9
namespace Go.Proofs.YtlifofijgddjkabGreatDoor
open Go.AM Go.Proofs
set_option maxRecDepth 100000
attribute [-simp] qlookup cz dQ Ob.wipe Ob.ren Ob.frz1
theorem c_reduce_Reduce (t r:Tree) (hm:m_reduce_Reduce t=some r):PureCall Tryz.prog 84 [.u (.agg [dI t.States,dR1 t.Hood,dR0 t.Nodes])] (.u (.agg [dI r.States,dR1 r.Hood,dR0 r.Nodes])):=by
 refine bf Tryz.func84 Tryz.ntmps84 fun cx hn=>?_
 unfold m_reduce_Reduce at hm
 refine srs hn ?_
 simp -dsimp
 refine aN ?_
 refine srs hn ?_
 obtain⟨y,h1,hm⟩:=bnd hm
 simp -dsimp
 refine aL (dx t y h1) (dkL hn) ?_
 simp -dsimp
 rcases aU hm with ⟨c2,hm⟩ | ⟨c2,hm⟩
 ·exact zz
 ·refine aR (by simp -dsimp) c2 ?_
  refine aP (aM ?_)
  refine srs hn ?_
  obtain⟨y1,h3,hm⟩:=bnd hm
  simp -dsimp [c2]
  refine aL (eC t y1 h3) (dkL hn) ?_
  exact zz
def dM (cx:Cx) (_sv1 _sv2:List Int) (tt:Bool ⊕ Unit) (ee:Exit) (Z:Env) (O:Sto):Prop:=match tt with
 | .inl r=>ee=.ret/\EE cx (fun Z O=>∃ v,ez tb Z O Tryz.f138.results.toList=some v/\(v.frz O).free=true/\(v.frz O).wk (vT r)) Z O
 | .inr _u=>ee=.exit 0/\EE cx (be [] []) Z O
theorem gh (cx:Cx) (hn:cx.n=26) (sv1 sv2:List Int) {fu:Nat} {stt:Int} {tt:Bool ⊕ Unit} (hh:aT (b_slices_Equal_int_int_1 sv1 sv2) fu stt=some tt) {Z:Env} {O:Sto}
  (hE:bz (fun a:Int=>[(0,.u (.one (dL sv1))),(1,.u (.one (dL sv2))),(12,vI (aO sv1)),(13,vI a)]) (fun _a:Int=>[]) stt Z O):Swp Tryz.prog cx (.loop (bW [1,1,0,1,0,0] (bd Tryz.f138))) Z O (dM cx sv1 sv2 tt):=by
 refine bC hE hh (dM cx sv1 sv2) ?_
 rintro a r hm Z O hf
 simp only[Fits,aZ,b6,and_true] at hf
 unfold b_slices_Equal_int_int_1 at hm
 exact zz
theorem gH (sv1 sv2:List Int) (r:Bool) (hm:m_slices_Equal_int_int sv1 sv2=some r):PureCall Tryz.prog 138 [.u (.one (dL sv1)),.u (.one (dL sv2))] (vT r):=by
 refine bf Tryz.func138 Tryz.ntmps138 fun cx hn=>?_
 unfold m_slices_Equal_int_int at hm
 refine srs hn ?_
 simp -dsimp
 refine aN ?_
 refine srs hn ?_
 simp -dsimp
 rcases aU hm with ⟨c1,hm⟩ | ⟨c1,hm⟩
 ·exact zz
 ·refine scf c1 ?_
  refine aP (aM (aN ?_))
  refine srs hn ?_
  simp -dsimp [c1]
  refine aS ?_
  obtain⟨o_,g6,hm⟩:=bnd hm
  refine bc (gh cx hn sv1 sv2 g6) (by
    try dsimp only
    exact EE.here (by simp -dsimp)
  ) fun ee Z O xx=>?_
  rcases o_ with r | _u
  ·exact zz
  ·exact zz
theorem c_tree_Same_1 (x y:Node) (r:Bool) (hm:m_tree_Same_1 x y=some r):PureCall Tryz.prog 137 [.u (.agg [dI x.Level,dL x.Next]),.u (.agg [dI y.Level,dL y.Next])] (vT r):=by
 refine bf Tryz.func137 Tryz.ntmps137 fun cx hn=>?_
 unfold m_tree_Same_1 at hm
 refine srs hn ?_
 simp -dsimp
 obtain⟨a,j3,hm⟩:=bnd hm
 refine scE [(4,vT a)] [] ?_ fun Z O hf=>?_
 ·replace hm:=j3
  clear j3
  refine sr1 hn ?_
  rcases aU hm with ⟨c1,hm⟩ | ⟨c1,hm⟩
  ·obtain⟨y1,h2,hm⟩:=bnd hm
   simp -dsimp [c1]
   refine aL (gH x.Next y.Next y1 h2) (dkL hn) ?_
   exact zz
  ·exact zz
 ·clear j3
  exact zz
def b8 (cx:Cx) (_sv1 _sv2:List Node) (tt:Bool ⊕ Unit) (ee:Exit) (Z:Env) (O:Sto):Prop:=match tt with
 | .inl r=>ee=.ret/\EE cx (fun Z O=>∃ v,ez tb Z O Tryz.f136.results.toList=some v/\(v.frz O).free=true/\(v.frz O).wk (vT r)) Z O
 | .inr _u=>ee=.exit 0/\EE cx (be [] []) Z O
theorem bF (cx:Cx) (hn:cx.n=32) (sv1 sv2:List Node) {fu:Nat} {stt:Int} {tt:Bool ⊕ Unit} (hh:aT (b_slices_EqualFunc_api_Node_api_Node_api_Node_api_Node_tree_Same_1_1 sv1 sv2) fu stt=some tt) {Z:Env} {O:Sto}
  (hE:bz (fun a:Int=>[(1,.u (.one (dR0 sv2))),(2,.u (.one (.fn 137 []))),(15,.u (.one (dR0 sv1))),(16,vI (aO sv1)),(17,vI a)]) (fun _a:Int=>[]) stt Z O):Swp Tryz.prog cx (.loop (bW [1,1,0,1,0,0] (bd Tryz.f136))) Z O (b8 cx sv1 sv2 tt):=by
 refine bC hE hh (b8 cx sv1 sv2) ?_
 rintro a r hm Z O hf
 simp only[Fits,aZ,b6,and_true] at hf
 unfold b_slices_EqualFunc_api_Node_api_Node_api_Node_api_Node_tree_Same_1_1 at hm
 dsimp only at hm
 refine srs hn ?_
 simp -dsimp [hf]
 refine aN ?_
 rcases aU hm with ⟨c2,hm⟩ | ⟨c2,hm⟩
 ·refine aQ (by simp -dsimp) c2 ?_
  refine aP (aM (aN (aS ?_)))
  refine srs hn ?_
  obtain⟨x,h3,hm⟩:=bnd hm
  simp -dsimp [hf,c2,h3]
  refine srs hn ?_
  obtain⟨x1,h4,hm⟩:=bnd hm
  simp -dsimp [hf,h4]
  refine srs hn ?_
  obtain⟨y,h5,hm⟩:=bnd hm
  simp -dsimp [hf]
  refine aL (c_tree_Same_1 x x1 y h5) (dkL hn) ?_
  exact zz
 ·exact zz
theorem bI (sv1 sv2:List Node) (r:Bool) (hm:m_slices_EqualFunc_api_Node_api_Node_api_Node_api_Node_tree_Same_1 sv1 sv2=some r):PureCall Tryz.prog 136 [.u (.one (dR0 sv1)),.u (.one (dR0 sv2)),.u (.one (.fn 137 []))] (vT r):=by
 refine bf Tryz.func136 Tryz.ntmps136 fun cx hn=>?_
 unfold m_slices_EqualFunc_api_Node_api_Node_api_Node_api_Node_tree_Same_1 at hm
 refine srs hn ?_
 simp -dsimp
 refine aN ?_
 refine srs hn ?_
 simp -dsimp
 rcases aU hm with ⟨c1,hm⟩ | ⟨c1,hm⟩
 ·exact zz
 ·refine scf c1 ?_
  refine aP (aM (aN ?_))
  refine srs hn ?_
  simp -dsimp [c1]
  refine aS ?_
  obtain⟨o_,g7,hm⟩:=bnd hm
  refine bc (bF cx hn sv1 sv2 g7) (by
    try dsimp only
    exact EE.here (by simp -dsimp)
  ) fun ee Z O xx=>?_
  rcases o_ with r | _u
  ·exact zz
  ·exact zz
theorem c_tree_Same (a b:Tree) (r:Bool) (hm:m_tree_Same a b=some r):PureCall Tryz.prog 89 [.u (.agg [dI a.States,dR1 a.Hood,dR0 a.Nodes]),.u (.agg [dI b.States,dR1 b.Hood,dR0 b.Nodes])] (vT r):=by
 refine bf Tryz.func89 Tryz.ntmps89 fun cx hn=>?_
 unfold m_tree_Same at hm
 refine srs hn ?_
 simp -dsimp
 obtain⟨a1,j5,hm⟩:=bnd hm
 refine scE [(4,vT a1)] [] ?_ fun Z O hf=>?_
 ·replace hm:=j5
  clear j5
  refine sr1 hn ?_
  rcases aU hm with ⟨c1,hm⟩ | ⟨c1,hm⟩
  ·obtain⟨y,h2,hm⟩:=bnd hm
   simp -dsimp [c1]
   refine aL (eX a.Hood b.Hood y h2) (dkL hn) ?_
   rcases aU hm with ⟨c3,hm⟩ | ⟨c3,hm⟩
   ·obtain⟨y1,h4,hm⟩:=bnd hm
    simp -dsimp [c3]
    refine aL (bI a.Nodes b.Nodes y1 h4) (dkL hn) ?_
    exact zz
   ·exact zz
  ·exact zz
 ·clear j5
  exact zz
theorem c_reduce_Equal (a b:Tree) (r:Bool) (hm:m_reduce_Equal a b=some r):PureCall Tryz.prog 36 [.u (.agg [dI a.States,dR1 a.Hood,dR0 a.Nodes]),.u (.agg [dI b.States,dR1 b.Hood,dR0 b.Nodes])] (vT r):=by
 refine bf Tryz.func36 Tryz.ntmps36 fun cx hn=>?_
 unfold m_reduce_Equal at hm
 refine srs hn ?_
 simp -dsimp
 obtain⟨a1,j11,hm⟩:=bnd hm
 refine scE [(4,vT a1)] [] ?_ fun Z O hf=>?_
 ·replace hm:=j11
  clear j11
  refine sw_qt bh mixed (by rw[hn]; kernel_rfl) ?_
  obtain⟨y,h1,hm⟩:=bnd hm
  simp -dsimp
  refine aV (dx a y h1) ?_
  rcases aU hm with ⟨c2,hm⟩ | ⟨c2,hm⟩
  ·obtain⟨y1,h3,hm⟩:=bnd hm
   simp -dsimp [c2]
   refine aV (dx b y1 h3) ?_
   rcases aU hm with ⟨c4,hm⟩ | ⟨c4,hm⟩
   ·rcases aU hm with ⟨c5,hm⟩ | ⟨c5,hm⟩
    ·obtain⟨y2,h6,hm⟩:=bnd hm
     simp -dsimp [c4,c5]
     refine aV (eX a.Hood b.Hood y2 h6) ?_
     rcases aU hm with ⟨c7,hm⟩ | ⟨c7,hm⟩
     ·obtain⟨y3,h8,hm⟩:=bnd hm
      simp -dsimp [c7]
      refine aV (c_reduce_Reduce a y3 h8) ?_
      obtain⟨y4,h9,hm⟩:=bnd hm
      simp -dsimp
      refine aV (c_reduce_Reduce b y4 h9) ?_
      obtain⟨y5,h10,hm⟩:=bnd hm
      simp -dsimp
      refine aV (c_tree_Same y3 y4 y5 h10) ?_
      exact zz
     ·exact zz
    ·exact zz
   ·exact zz
  ·exact zz
 ·clear j11
  exact zz
def fV (cx:Cx) (_t:Tree) (tt:(List Int)) (ee:Exit) (Z:Env) (O:Sto):Prop:=match tt with
 | out=>ee=.exit 0/\EE cx (be [(3,vO 5000)] [(5000,.row 1 3 (List.map (rI .i64) out))]) Z O
theorem l_notation_Syms_1 (cx:Cx) (hn:cx.n=29) (t:Tree) {fu:Nat} {stt:Int×(List Int)} {tt:(List Int)} (hh:aT (b_notation_Syms_1 t) fu stt=some tt) {Z:Env} {O:Sto}
  (hE:bz (fun stt:Int×(List Int)=>match stt with | (a,_out)=>[(1,vX 1),(3,vO 5000),(7,vI a)]) (fun stt:Int×(List Int)=>match stt with | (_a,out)=>[(1,.box [dI t.States,dR1 t.Hood,dR0 t.Nodes]),(5000,.row 1 3 (List.map (rI .i64) out))]) stt Z O):Swp Tryz.prog cx (.loop (bW [1,1,0,1,0,0] (bd Tryz.f10))) Z O (fV cx t tt):=by
 refine bC hE hh (fV cx t) ?_
 rintro⟨a,out⟩ r hm Z O hf
 simp only[Fits,aZ,b6,and_true] at hf
 unfold b_notation_Syms_1 at hm
 dsimp only at hm
 refine srs hn ?_
 simp -dsimp [hf]
 refine aN ?_
 rcases aU hm with ⟨c1,hm⟩ | ⟨c1,hm⟩
 ·refine aQ (by simp -dsimp) c1 ?_
  refine aP (aM ?_)
  obtain⟨out1,j8,hm⟩:=bnd hm
  refine scE [(1,vX 1),(3,vO 5000),(7,vI a)] [(1,.box [dI t.States,dR1 t.Hood,dR0 t.Nodes]),(5000,.row 1 3 (List.map (rI .i64) out1))] ?_ fun Z O hf=>?_
  ·replace hm:=j8
   clear j8
   refine aS ?_
   refine srs hn ?_
   simp -dsimp [hf,c1]
   refine srs hn ?_
   obtain⟨y,h2,hm⟩:=bnd hm
   simp -dsimp [hf]
   refine aL (c_reduce_Turn a t y h2) (dkL hn) ?_
   simp -dsimp
   obtain⟨a1,j7,hm⟩:=bnd hm
   refine scE [(1,vX 1),(3,vO 5000),(4,vI a),(7,vI a),(22,vT a1)] [(1,.box [dI t.States,dR1 t.Hood,dR0 t.Nodes]),(5000,.row 1 3 (List.map (rI .i64) out))] ?_ fun Z O hf=>?_
   ·replace hm:=j7
    clear j7
    refine sr1 hn ?_
    rcases aU hm with ⟨c3,hm⟩ | ⟨c3,hm⟩
    ·obtain⟨y1,h4,hm⟩:=bnd hm
     simp -dsimp [hf,c3]
     refine aL (c_reduce_Equal t y.1 y1 h4) (dkL hn) ?_
     exact zz
    ·exact zz
   ·clear j7
    simp only[Fits,aZ,b6,and_true] at hf
    rcases aU hm with ⟨c5,hm⟩ | ⟨c5,hm⟩
    ·refine aQ (by simp -dsimp [hf]) c5 ?_
     refine sr1 hn ?_
     obtain⟨l,h6,hm⟩:=bnd hm
     obtain⟨h6a,h6e⟩:=aW h6
     replace h6e:=h6e.symm
     subst h6e
     try simp only[List.length_cons,List.length_nil,Nat.zero_add] at h6a
     simp -dsimp [hf,h6a]
     refine bN ?_
     refine aM ?_
     cases hm
     refine emv 26 5000 ?_
     exact zz
    ·exact zz
  ·clear j8
   exact zz
 ·exact zz
theorem dP (t:Tree) (r:List Int) (hm:m_notation_Syms t=some r):PureCall Tryz.prog 10 [.u (.agg [dI t.States,dR1 t.Hood,dR0 t.Nodes])] (.u (.one (dL r))):=by
 refine bf Tryz.func10 Tryz.ntmps10 fun cx hn=>?_
 unfold m_notation_Syms at hm
 refine srs hn ?_
 simp -dsimp
 refine srs hn ?_
 simp -dsimp
 refine aN ?_
 refine srs hn ?_
 simp -dsimp
 refine aS ?_
 obtain⟨out,g9,hm⟩:=bnd hm
 refine bc (l_notation_Syms_1 cx hn t g9) (by
   try dsimp only
   refine EE.step (Wk.own0 3 5000 1 3 (by simp -dsimp) (by decide)) ?_
   exact zz
 ) fun ee Z O xx=>?_
 exact zz
def F_L12_Ints_1 (cx:Cx) (_a _b:List Int) (tt:Bool ⊕ Unit) (ee:Exit) (Z:Env) (O:Sto):Prop:=match tt with
 | .inl r=>ee=.ret/\EE cx (fun Z O=>∃ v,ez tb Z O Tryz.f9.results.toList=some v/\(v.frz O).free=true/\(v.frz O).wk (vT r)) Z O
 | .inr _u=>ee=.exit 0/\EE cx (be [] []) Z O
theorem l_L12_Ints_1 (cx:Cx) (hn:cx.n=26) (a b:List Int) {fu:Nat} {stt:Int} {tt:Bool ⊕ Unit} (hh:aT (b_L12_Ints_1 a b) fu stt=some tt) {Z:Env} {O:Sto}
  (hE:bz (fun a1:Int=>[(0,.u (.one (dL a))),(1,.u (.one (dL b))),(12,vI (aO a)),(13,vI a1)]) (fun _a1:Int=>[]) stt Z O):Swp Tryz.prog cx (.loop (bW [1,1,0,1,0,0] (bd Tryz.f9))) Z O (F_L12_Ints_1 cx a b tt):=by
 refine bC hE hh (F_L12_Ints_1 cx a b) ?_
 rintro a1 r hm Z O hf
 simp only[Fits,aZ,b6,and_true] at hf
 unfold b_L12_Ints_1 at hm
 exact zz
theorem c_L12_Ints (a b:List Int) (r:Bool) (hm:m_L12_Ints a b=some r):PureCall Tryz.prog 9 [.u (.one (dL a)),.u (.one (dL b))] (vT r):=by
 refine bf Tryz.func9 Tryz.ntmps9 fun cx hn=>?_
 unfold m_L12_Ints at hm
 refine srs hn ?_
 simp -dsimp
 refine aN ?_
 refine srs hn ?_
 simp -dsimp
 rcases aU hm with ⟨c1,hm⟩ | ⟨c1,hm⟩
 ·exact zz
 ·refine scf c1 ?_
  refine aP (aM (aN ?_))
  refine srs hn ?_
  simp -dsimp [c1]
  refine aS ?_
  obtain⟨o_,g6,hm⟩:=bnd hm
  refine bc (l_L12_Ints_1 cx hn a b g6) (by
    try dsimp only
    exact EE.here (by simp -dsimp)
  ) fun ee Z O xx=>?_
  rcases o_ with r | _u
  ·exact zz
  ·exact zz
theorem eT (r:Bool) (hm:m_L16_awake=some r):PureCall Tryz.prog 5 [] (vT r):=by
 refine bf Tryz.func5 Tryz.ntmps5 fun cx hn=>?_
 unfold m_L16_awake at hm
 refine srs hn ?_
 simp -dsimp
 refine srs hn ?_
 obtain⟨y,h1,hm⟩:=bnd hm
 simp -dsimp
 refine aL (cf ([66,51,47,83,50,51]:List UInt8) y h1) (dkL hn) ?_
 simp -dsimp
 refine srs hn ?_
 obtain⟨y1,h2,hm⟩:=bnd hm
 simp -dsimp
 refine aL (cf ([66,50,47,83,51,52,72]:List UInt8) y1 h2) (dkL hn) ?_
 simp -dsimp
 refine srs hn ?_
 obtain⟨y2,h3,hm⟩:=bnd hm
 simp -dsimp
 refine aL (cf ([87,49,49,48]:List UInt8) y2 h3) (dkL hn) ?_
 simp -dsimp
 refine srs hn ?_
 obtain⟨y3,h4,hm⟩:=bnd hm
 simp -dsimp
 refine aL (cf ([66,57,47,83]:List UInt8) y3 h4) (dkL hn) ?_
 simp -dsimp
 refine srs hn ?_
 obtain⟨y4,h5,hm⟩:=bnd hm
 simp -dsimp
 refine aL (cf ([108,105,102,101]:List UInt8) y4 h5) (dkL hn) ?_
 simp -dsimp
 refine srs hn ?_
 obtain⟨y5,h6,hm⟩:=bnd hm
 simp -dsimp
 refine aL (c_notation_Canon ([47,50,47,51]:List UInt8) y5 h6) (dkL hn) ?_
 simp -dsimp
 refine srs hn ?_
 obtain⟨y6,h7,hm⟩:=bnd hm
 simp -dsimp
 refine aL (c_tree_Eval y.1 [1,1,1,0,0,0,0,0,0] y6 h7) (dkL hn) ?_
 simp -dsimp
 refine aN ?_
 obtain⟨a,j37,hm⟩:=bnd hm
 refine scE [(1,vX 1),(3,vX 3),(5,vX 5),(78,vT a)] [(1,.box [dI y.1.States,dR1 y.1.Hood,dR0 y.1.Nodes]),(3,.box [dI y1.1.States,dR1 y1.1.Hood,dR0 y1.1.Nodes]),(5,.box [dI y2.1.States,dR1 y2.1.Hood,dR0 y2.1.Nodes])] ?_ fun Z O hf=>?_
 ·replace hm:=j37
  clear j37
  exact zz
 ·clear j37
  simp only[Fits,aZ,b6,and_true] at hf
  rcases aU hm with ⟨c16,hm⟩ | ⟨c16,hm⟩
  ·exact zz
  ·refine aR (by simp -dsimp [hf]) c16 ?_
   refine aP (aM ?_)
   obtain⟨a1,j36,hm⟩:=bnd hm
   refine scE [(0,vT a1)] [] ?_ fun Z O hf=>?_
   ·replace hm:=j36
    clear j36
    refine sr1 hn ?_
    obtain⟨y7,h17,hm⟩:=bnd hm
    simp -dsimp
    refine aL (bH ([66,51,47,83,50,51]:List UInt8) y7 h17) (dkL hn) ?_
    rcases aU hm with ⟨c18,hm⟩ | ⟨c18,hm⟩
    ·obtain⟨y8,h19,hm⟩:=bnd hm
     simp -dsimp [c18]
     refine aL (bH ([47,50,47,51]:List UInt8) y8 h19) (dkL hn) ?_
     rcases aU hm with ⟨c20,hm⟩ | ⟨c20,hm⟩
     ·obtain⟨y9,h21,hm⟩:=bnd hm
      simp -dsimp [c20]
      refine aL (bH ([87,51,48]:List UInt8) y9 h21) (dkL hn) ?_
      rcases aU hm with ⟨c22,hm⟩ | ⟨c22,hm⟩
      ·obtain⟨y10,h23,hm⟩:=bnd hm
       simp -dsimp [c22]
       refine aL (bH ([84,55,55,55,47,51]:List UInt8) y10 h23) (dkL hn) ?_
       rcases aU hm with ⟨c24,hm⟩ | ⟨c24,hm⟩
       ·obtain⟨y11,h25,hm⟩:=bnd hm
        simp -dsimp [c24]
        refine aL (bH ([98,51,47,115,50,51]:List UInt8) y11 h25) (dkL hn) ?_
        rcases aU hm with ⟨c26,hm⟩ | ⟨c26,hm⟩
        ·obtain⟨y12,h27,hm⟩:=bnd hm
         simp -dsimp [c26]
         refine aL (bH ([120,10]:List UInt8) y12 h27) (dkL hn) ?_
         rcases aU hm with ⟨c28,hm⟩ | ⟨c28,hm⟩
         ·obtain⟨y13,h29,hm⟩:=bnd hm
          simp -dsimp [hf,c28]
          refine aL (dP y.1 y13 h29) (dkL hn) ?_
          rcases aU hm with ⟨c30,hm⟩ | ⟨c30,hm⟩
          ·obtain⟨y14,h31,hm⟩:=bnd hm
           simp -dsimp [hf,c30]
           refine aL (dP y1.1 y14 h31) (dkL hn) ?_
           obtain⟨y15,h32,hm⟩:=bnd hm
           simp -dsimp
           refine aL (c_L12_Ints y14 [0,2,5,7] y15 h32) (dkL hn) ?_
           rcases aU hm with ⟨c33,hm⟩ | ⟨c33,hm⟩
           ·obtain⟨y16,h34,hm⟩:=bnd hm
            simp -dsimp [hf,c33]
            refine aL (dP y2.1 y16 h34) (dkL hn) ?_
            obtain⟨y17,h35,hm⟩:=bnd hm
            simp -dsimp
            refine aL (c_L12_Ints y16 [0,6] y17 h35) (dkL hn) ?_
            exact zz
           ·exact zz
          ·exact zz
         ·exact zz
        ·exact zz
       ·exact zz
      ·exact zz
     ·exact zz
    ·exact zz
   ·clear j36
    exact zz
theorem dw (s:List Point) (v:Point) (r:Bool) (hm:m_slices_Contains_api_Point_api_Point s v=some r):PureCall Tryz.prog 40 [.u (.one (dR1 s)),.u (.agg [dI v.X,dI v.Y])] (vT r):=by
 refine bf Tryz.func40 Tryz.ntmps40 fun cx hn=>?_
 unfold m_slices_Contains_api_Point_api_Point at hm
 refine srs hn ?_
 simp -dsimp
 refine srs hn ?_
 obtain⟨y,h1,hm⟩:=bnd hm
 simp -dsimp
 refine aL (cm s v y h1) (dkL hn) ?_
 simp -dsimp
 exact zz
theorem c_hood_Syms_1 (p:Point) (a:List Point) (a1:Int) (r:Bool) (hm:m_hood_Syms_1 p a a1=some r):PureCall Tryz.prog 39 [.u (.agg [dI p.X,dI p.Y]),.u (.one (.ref ((rS 2 Point.row) a) 0)),.u (.one (.ref ((rI .i64) a1) 0))] (vT r):=by
 refine bf Tryz.func39 Tryz.ntmps39 fun cx hn=>?_
 unfold m_hood_Syms_1 at hm
 refine srs hn ?_
 simp -dsimp
 refine sw_qts bh mixed (by rw[hn]; kernel_rfl) ?_
 obtain⟨y,h1,hm⟩:=bnd hm
 simp -dsimp
 refine aV (gl a1 p y h1) ?_
 obtain⟨y1,h2,hm⟩:=bnd hm
 simp -dsimp
 refine aV (dw a y y1 h2) ?_
 simp -dsimp
 exact zz
def bp (cx:Cx) (_s _cv:List Point) (_cv1:Int) (tt:Int ⊕ Unit) (ee:Exit) (Z:Env) (O:Sto):Prop:=match tt with
 | .inl r=>ee=.ret/\EE cx (fun Z O=>∃ v,ez tb Z O Tryz.f90.results.toList=some v/\(v.frz O).free=true/\(v.frz O).wk (vI r)) Z O
 | .inr _u=>ee=.exit 0/\EE cx (be [] []) Z O
theorem cd (cx:Cx) (hn:cx.n=19) (s cv:List Point) (cv1:Int) {fu:Nat} {stt:Int} {tt:Int ⊕ Unit} (hh:aT (b_slices_IndexFunc_api_Point_api_Point_hood_Syms_1_1 s cv cv1) fu stt=some tt) {Z:Env} {O:Sto}
  (hE:bz (fun a:Int=>[(0,.u (.one (dR1 s))),(1,.u (.one (.fn 39 [.ref ((rS 2 Point.row) cv) 0,.ref ((rI .i64) cv1) 0]))),(7,vI (aO s)),(8,vI a)]) (fun _a:Int=>[]) stt Z O):Swp Tryz.prog cx (.loop (bW [1,0,1,0,0] (bd Tryz.f90))) Z O (bp cx s cv cv1 tt):=by
 refine bC hE hh (bp cx s cv cv1) ?_
 rintro a r hm Z O hf
 simp only[Fits,aZ,b6,and_true] at hf
 unfold b_slices_IndexFunc_api_Point_api_Point_hood_Syms_1_1 at hm
 dsimp only at hm
 refine srs hn ?_
 simp -dsimp [hf]
 refine aN ?_
 rcases aU hm with ⟨c1,hm⟩ | ⟨c1,hm⟩
 ·refine aQ (by simp -dsimp) c1 ?_
  refine aP (aM (aN (aS ?_)))
  refine srs hn ?_
  simp -dsimp [hf,c1]
  refine srs hn ?_
  obtain⟨x,h2,hm⟩:=bnd hm
  obtain⟨y,h3,hm⟩:=bnd hm
  simp -dsimp [hf,h2]
  refine aL (c_hood_Syms_1 x cv cv1 y h3) (dkL hn) ?_
  exact zz
 ·exact zz
theorem co (s cv:List Point) (cv1 r:Int) (hm:m_slices_IndexFunc_api_Point_api_Point_hood_Syms_1 s cv cv1=some r):PureCall Tryz.prog 90 [.u (.one (dR1 s)),.u (.one (.fn 39 [.ref ((rS 2 Point.row) cv) 0,.ref ((rI .i64) cv1) 0]))] (vI r):=by
 refine bf Tryz.func90 Tryz.ntmps90 fun cx hn=>?_
 unfold m_slices_IndexFunc_api_Point_api_Point_hood_Syms_1 at hm
 refine srs hn ?_
 simp -dsimp
 refine aN ?_
 refine srs hn ?_
 simp -dsimp
 refine aS ?_
 obtain⟨o_,g5,hm⟩:=bnd hm
 refine bc (cd cx hn s cv cv1 g5) (by
   try dsimp only
   exact eeh
 ) fun ee Z O xx=>?_
 rcases o_ with r | _u
 ·exact zz
 ·exact zz
theorem bZ (s cv:List Point) (cv1:Int) (r:Bool) (hm:m_slices_ContainsFunc_api_Point_api_Point_hood_Syms_1 s cv cv1=some r):PureCall Tryz.prog 38 [.u (.one (dR1 s)),.u (.one (.fn 39 [.ref ((rS 2 Point.row) cv) 0,.ref ((rI .i64) cv1) 0]))] (vT r):=by
 refine bf Tryz.func38 Tryz.ntmps38 fun cx hn=>?_
 unfold m_slices_ContainsFunc_api_Point_api_Point_hood_Syms_1 at hm
 refine srs hn ?_
 simp -dsimp
 refine srs hn ?_
 obtain⟨y,h1,hm⟩:=bnd hm
 simp -dsimp
 refine aL (co s cv cv1 y h1) (dkL hn) ?_
 simp -dsimp
 cases hm
 exact aY ⟨.inr rfl,EE.here (by simp -dsimp)⟩
def F_hood_Syms_1 (cx:Cx) (_l:List Point) (tt:(List Int)) (ee:Exit) (Z:Env) (O:Sto):Prop:=match tt with
 | out=>ee=.exit 0/\EE cx (be [(3,vO 5000)] [(5000,.row 1 3 (List.map (rI .i64) out))]) Z O
theorem l_hood_Syms_1 (cx:Cx) (hn:cx.n=21) (l:List Point) {fu:Nat} {stt:Int×(List Int)} {tt:(List Int)} (hh:aT (b_hood_Syms_1 l) fu stt=some tt) {Z:Env} {O:Sto}
  (hE:bz (fun stt:Int×(List Int)=>match stt with | (a,_out)=>[(1,vX 1),(3,vO 5000),(8,vI a)]) (fun stt:Int×(List Int)=>match stt with | (_a,out)=>[(1,.box [dR1 l]),(5000,.row 1 3 (List.map (rI .i64) out))]) stt Z O):Swp Tryz.prog cx (.loop (bW [1,1,1,0,1,0,0] (bd Tryz.f11))) Z O (F_hood_Syms_1 cx l tt):=by
 refine bC hE hh (F_hood_Syms_1 cx l) ?_
 rintro⟨a,out⟩ r hm Z O hf
 simp only[Fits,aZ,b6,and_true] at hf
 unfold b_hood_Syms_1 at hm
 dsimp only at hm
 refine srs hn ?_
 simp -dsimp [hf]
 refine aN ?_
 rcases aU hm with ⟨c3,hm⟩ | ⟨c3,hm⟩
 ·refine aQ (by simp -dsimp) c3 ?_
  refine aP (aM ?_)
  obtain⟨out1,j7,hm⟩:=bnd hm
  refine scE [(1,vX 1),(3,vO 5000),(8,vI a)] [(1,.box [dR1 l]),(5000,.row 1 3 (List.map (rI .i64) out1))] ?_ fun Z O hf=>?_
  ·replace hm:=j7
   clear j7
   refine aS ?_
   refine srs hn ?_
   simp -dsimp [hf,c3]
   refine srs hn ?_
   obtain⟨y1,h4,hm⟩:=bnd hm
   simp -dsimp [hf]
   refine eI (us':=[.u (.one (dR1 l)),.u (.one (.fn 39 [.ref ((rS 2 Point.row) l) 0,.ref ((rI .i64) a) 0]))]) (bZ l l a y1 h4) (by simp -dsimp [hf]) rfl (dkL hn) ?_
   simp -dsimp
   rcases aU hm with ⟨c5,hm⟩ | ⟨c5,hm⟩
   ·refine aQ (by simp -dsimp) c5 ?_
    refine sr1 hn ?_
    obtain⟨l1,h6,hm⟩:=bnd hm
    obtain⟨h6a,h6e⟩:=aW h6
    replace h6e:=h6e.symm
    subst h6e
    try simp only[List.length_cons,List.length_nil,Nat.zero_add] at h6a
    simp -dsimp [hf,c5,h6a]
    refine bN ?_
    refine aM ?_
    cases hm
    refine emv 18 5000 ?_
    exact zz
   ·exact zz
  ·clear j7
   exact zz
 ·exact zz
theorem c_hood_Syms (l:List Point) (r:List Int) (hm:m_hood_Syms l=some r):PureCall Tryz.prog 11 [.u (.one (dR1 l))] (.u (.one (dL r))):=by
 refine bf Tryz.func11 Tryz.ntmps11 fun cx hn=>?_
 unfold m_hood_Syms at hm
 refine srs hn ?_
 simp -dsimp
 refine aN ?_
 refine srs hn ?_
 obtain⟨y,h1,hm⟩:=bnd hm
 simp -dsimp
 refine aL (gt l y h1) (dkL hn) ?_
 simp -dsimp
 rcases aU hm with ⟨c2,hm⟩ | ⟨c2,hm⟩
 ·exact zz
 ·refine aR (by simp -dsimp) c2 ?_
  refine aP (aM ?_)
  refine srs hn ?_
  simp -dsimp [c2]
  refine aN ?_
  refine srs hn ?_
  simp -dsimp
  refine aS ?_
  obtain⟨out,g8,hm⟩:=bnd hm
  refine bc (l_hood_Syms_1 cx hn l g8) (by
    try dsimp only
    refine EE.step (Wk.own0 3 5000 1 3 (by simp -dsimp) (by decide)) ?_
    exact zz
  ) fun ee Z O xx=>?_
  exact zz
end Go.Proofs.YtlifofijgddjkabGreatDoor
namespace Go.Proofs.YtlifofijgddjkabGreatDoor
open Go.AM Go.Proofs
set_option maxRecDepth 100000
attribute [-simp] qlookup cz dQ Ob.wipe Ob.ren Ob.frz1
theorem c_generations_Next (t:Ar) (state count r:Int) (hm:m_generations_Next t state count=some r):PureCall Tryz.prog 13 [.u (.agg [dR1 t.Hood,dI t.States,dL t.Birth,dL t.Survive]),vI state,vI count] (vI r):=by
 refine bf Tryz.func13 Tryz.ntmps13 fun cx hn=>?_
 unfold m_generations_Next at hm
 refine srs hn ?_
 simp -dsimp
 refine aN ?_
 obtain⟨a,j17,hm⟩:=bnd hm
 refine scE [(1,vI state),(2,vI count),(3,vX 3),(30,vT a)] [(3,.box [dR1 t.Hood,dI t.States,dL t.Birth,dL t.Survive])] ?_ fun Z O hf=>?_
 ·replace hm:=j17
  clear j17
  refine sr1 hn ?_
  obtain⟨y,h1,hm⟩:=bnd hm
  simp -dsimp
  refine aL (bL t y h1) (dkL hn) ?_
  exact zz
 ·clear j17
  simp only[Fits,aZ,b6,and_true] at hf
  rcases aU hm with ⟨c6,hm⟩ | ⟨c6,hm⟩
  ·exact zz
  ·refine aR (by simp -dsimp [hf]) c6 ?_
   refine aP (aM (aN (aS ?_)))
   obtain⟨a1,j16,hm⟩:=bnd hm
   refine scE [(1,vI state),(3,vX 3),(31,vT a1)] [(3,.box [dR1 t.Hood,dI t.States,dL t.Birth,dL t.Survive])] ?_ fun Z O hf=>?_
   ·replace hm:=j16
    clear j16
    obtain⟨a1,j12,hm⟩:=bnd hm
    refine scE [(1,vI state),(2,vI count),(3,vX 3),(31,vT a1)] [(3,.box [dR1 t.Hood,dI t.States,dL t.Birth,dL t.Survive])] ?_ fun Z O hf=>?_
    ·replace hm:=j12
     clear j12
     refine sr1 hn ?_
     rcases aU hm with ⟨c7,hm⟩ | ⟨c7,hm⟩
     ·obtain⟨y,h8,hm⟩:=bnd hm
      simp -dsimp [hf,c7]
      refine aL (bQ t.Birth count y h8) (dkL hn) ?_
      exact zz
     ·exact zz
    ·clear j12
     simp only[Fits,aZ,b6,and_true] at hf
     rcases aU hm with ⟨c9,hm⟩ | ⟨c9,hm⟩
     ·exact zz
     ·refine aR (by simp -dsimp [hf]) c9 ?_
      refine sr1 hn ?_
      rcases aU hm with ⟨c10,hm⟩ | ⟨c10,hm⟩
      ·obtain⟨y,h11,hm⟩:=bnd hm
       simp -dsimp [hf,c10]
       refine aL (bQ t.Survive count y h11) (dkL hn) ?_
       exact zz
      ·exact zz
   ·clear j16
    exact zz
def cT (cx:Cx) (_in_:List Int) (aE:List Point) (aB:Int) (aF az:List Int) (y3:Int×Int) (tt:Bool ⊕ (Int×Int)) (ee:Exit) (Z:Env) (O:Sto):Prop:=match tt with
 | .inl r=>ee=.ret/\EE cx (fun Z O=>∃ v,ez tb Z O Tryz.f3.results.toList=some v/\(v.frz O).free=true/\(v.frz O).wk (vT r)) Z O
 | .inr (count,state)=>ee=.exit 0/\EE cx (be [(6,vX 6),(10,vI y3.1),(12,vI count),(13,vI state)] [(6,.box [dR1 aE,dI aB,dL aF,dL az])]) Z O
set_option maxHeartbeats 1000000 in
theorem gD (cx:Cx) (hn:cx.n=131) (in_:List Int) (aE:List Point) (aB:Int) (aF az:List Int) (y3:Int×Int) {fu:Nat} {stt:Int×Int×Int} {tt:Bool ⊕ (Int×Int)} (hh:aT (b_L16_NotationCounts_1 in_ aE aB aF az y3) fu stt=some tt) {Z:Env} {O:Sto}
  (hE:bz (fun stt:Int×Int×Int=>match stt with | (count,state,a3)=>[(1,.u (.one (dL in_))),(6,vX 6),(10,vI y3.1),(12,vI count),(13,vI state),(95,vI (aO aE)),(96,vI a3)]) (fun stt:Int×Int×Int=>match stt with | (_count,_state,_a3)=>[(6,.box [dR1 aE,dI aB,dL aF,dL az])]) stt Z O):Swp Tryz.prog cx (.loop (bW [1,1,1,1,1,1,1,1,1,1,1,0,1,0,0] (bd Tryz.f3))) Z O (cT cx in_ aE aB aF az y3 tt):=by
 refine bC hE hh (cT cx in_ aE aB aF az y3) ?_
 rintro⟨count,state,a3⟩ r hm Z O hf
 simp only[Fits,aZ,b6,and_true] at hf
 unfold b_L16_NotationCounts_1 at hm
 exact zz
set_option maxHeartbeats 1000000 in
theorem c_L16_NotationCounts (s:List UInt8) (in_:List Int) (r:Bool) (hm:m_L16_NotationCounts s in_=some r):PureCall Tryz.prog 3 [.u (.one (.d (.str (bs s)))),.u (.one (dL in_))] (vT r):=by
 refine bf Tryz.func3 Tryz.ntmps3 fun cx hn=>?_
 unfold m_L16_NotationCounts at hm
 refine srs hn ?_
 simp -dsimp
 refine srs hn ?_
 obtain⟨y,h1,hm⟩:=bnd hm
 simp -dsimp
 refine aL (bH s y h1) (dkL hn) ?_
 simp -dsimp
 refine aN ?_
 obtain⟨a,j43,hm⟩:=bnd hm
 refine scE [(0,.u (.one (.d (.str (bs s))))),(1,.u (.one (dL in_))),(5,vI y),(32,vT a)] [] ?_ fun Z O hf=>?_
 ·replace hm:=j43
  clear j43
  exact zz
 ·clear j43
  simp only[Fits,aZ,b6,and_true] at hf
  rcases aU hm with ⟨c5,hm⟩ | ⟨c5,hm⟩
  ·refine aQ (by simp -dsimp [hf]) c5 ?_
   refine srs hn ?_
   obtain⟨y1,h6,hm⟩:=bnd hm
   simp -dsimp
   refine aL (eT y1 h6) (dkL hn) ?_
   exact zz
  ·refine aR (by simp -dsimp [hf]) c5 ?_
   refine aP (aM ?_)
   refine srs hn ?_
   obtain⟨y1,h7,hm⟩:=bnd hm
   simp -dsimp [hf]
   refine aL (du s y1 h7) (dkL hn) ?_
   simp -dsimp
   obtain⟨⟨e_,aE,aB,aF,az⟩,j42,hm⟩:=bnd hm
   refine scE [(0,.u (.one (.d (.str (bs s))))),(1,.u (.one (dL in_))),(6,vX 6),(7,vI e_)] [(6,.box [dR1 aE,dI aB,dL aF,dL az])] ?_ fun Z O hf=>?_
   ·replace hm:=j42
    clear j42
    refine srs hn ?_
    simp -dsimp [hf]
    rcases aU hm with ⟨c8,hm⟩ | ⟨c8,hm⟩
    ·refine aQ (by simp -dsimp) c8 ?_
     refine sr1 hn ?_
     obtain⟨y2,h9,hm⟩:=bnd hm
     simp -dsimp [hf,c8]
     refine aL (cM s y2 h9) (dkL hn) ?_
     simp -dsimp
     exact zz
    ·exact zz
   ·clear j42
    simp only[Fits,aZ,b6,and_true] at hf
    refine srs hn ?_
    obtain⟨y2,h10,hm⟩:=bnd hm
    simp -dsimp [hf]
    refine aL (cf s y2 h10) (dkL hn) ?_
    simp -dsimp
    refine aN ?_
    obtain⟨a1,j41,hm⟩:=bnd hm
    refine scE [(1,.u (.one (dL in_))),(6,vX 6),(7,vI e_),(8,vX 8),(9,vI y2.2),(56,vT a1)] [(6,.box [dR1 aE,dI aB,dL aF,dL az]),(8,.box [dI y2.1.States,dR1 y2.1.Hood,dR0 y2.1.Nodes])] ?_ fun Z O hf=>?_
    ·replace hm:=j41
     clear j41
     exact zz
    ·clear j41
     simp only[Fits,aZ,b6,and_true] at hf
     rcases aU hm with ⟨c12,hm⟩ | ⟨c12,hm⟩
     ·refine aQ (by simp -dsimp [hf]) c12 ?_
      obtain⟨a2,j15,hm⟩:=bnd hm
      refine scE [(4,vT a2)] [] ?_ fun Z O hf=>?_
      ·replace hm:=j15
       clear j15
       refine sr1 hn ?_
       rcases aU hm with ⟨c13,hm⟩ | ⟨c13,hm⟩
       ·obtain⟨y3,h14,hm⟩:=bnd hm
        simp -dsimp [hf,c13]
        refine aL (eT y3 h14) (dkL hn) ?_
        exact zz
       ·exact zz
      ·clear j15
       exact zz
     ·refine aR (by simp -dsimp [hf]) c12 ?_
      refine aP (aM (aN ?_))
      obtain⟨a2,j40,hm⟩:=bnd hm
      refine scE [(1,.u (.one (dL in_))),(6,vX 6),(8,vX 8),(75,vT a2)] [(6,.box [dR1 aE,dI aB,dL aF,dL az]),(8,.box [dI y2.1.States,dR1 y2.1.Hood,dR0 y2.1.Nodes])] ?_ fun Z O hf=>?_
      ·replace hm:=j40
       clear j40
       refine sw_qt bh mixed (by rw[hn]; kernel_rfl) ?_
       rcases aU hm with ⟨c16,hm⟩ | ⟨c16,hm⟩
       ·exact zz
       ·obtain⟨y3,h17,hm⟩:=bnd hm
        simp -dsimp [hf,c16]
        refine aV (dP y2.1 y3 h17) ?_
        obtain⟨y4,h18,hm⟩:=bnd hm
        simp -dsimp [hf]
        refine aV (c_hood_Syms aE y4 h18) ?_
        obtain⟨y5,h19,hm⟩:=bnd hm
        simp -dsimp
        refine aV (c_L12_Ints y3 y4 y5 h19) ?_
        exact zz
      ·clear j40
       simp only[Fits,aZ,b6,and_true] at hf
       rcases aU hm with ⟨c20,hm⟩ | ⟨c20,hm⟩
       ·exact zz
       ·refine aR (by simp -dsimp [hf]) c20 ?_
        refine aP (aM ?_)
        refine srs hn ?_
        obtain⟨y3,h21,hm⟩:=bnd hm
        simp -dsimp [hf]
        refine aL (c_tree_Eval y2.1 in_ y3 h21) (dkL hn) ?_
        simp -dsimp
        refine aN ?_
        refine srs hn ?_
        simp -dsimp
        rcases aU hm with ⟨c22,hm⟩ | ⟨c22,hm⟩
        ·refine aQ (by simp -dsimp) c22 ?_
         obtain⟨a3,j27,hm⟩:=bnd hm
         refine scE [(4,vT a3)] [] ?_ fun Z O hf=>?_
         ·replace hm:=j27
          clear j27
          refine sr1 hn ?_
          rcases aU hm with ⟨c23,hm⟩ | ⟨c23,hm⟩
          ·obtain⟨y4,h24,hm⟩:=bnd hm
           simp -dsimp [c22,c23]
           refine aL (eT y4 h24) (dkL hn) ?_
           exact zz
          ·rcases aU hm with ⟨c25,hm⟩ | ⟨c25,hm⟩
           ·obtain⟨y4,h26,hm⟩:=bnd hm
            simp -dsimp [c22,c23,c25]
            refine aL (eT y4 h26) (dkL hn) ?_
            exact zz
           ·exact zz
         ·clear j27
          exact zz
        ·refine aR (by simp -dsimp) c22 ?_
         refine aP (aM ?_)
         refine srs hn ?_
         simp -dsimp [c22]
         refine aN ?_
         refine srs hn ?_
         simp -dsimp [hf]
         refine aS ?_
         obtain⟨o_,g35,hm⟩:=bnd hm
         refine bc (gD cx hn in_ aE aB aF az y3 g35) (by
           try dsimp only
           refine EE.here ?_
           exact zz
         ) fun ee Z O xx=>?_
         rcases o_ with r | ⟨count,state⟩
         ·exact zz
         ·unfold cT at xx
          dsimp only at xx
          obtain⟨rfl,xx⟩:=xx
          refine bG ?_
          refine aM ?_
          refine see xx fun Z O hf=>?_
          simp only[Fits,aZ,b6,and_true] at hf
          obtain⟨a3,j39,hm⟩:=bnd hm
          refine scE [(4,vT a3)] [] ?_ fun Z O hf=>?_
          ·replace hm:=j39
           clear j39
           refine sr1 hn ?_
           obtain⟨y4,h36,hm⟩:=bnd hm
           simp -dsimp [hf]
           refine aL (c_generations_Next (⟨aE,aB,aF,az⟩:Ar) state count y4 h36) (dkL hn) ?_
           rcases aU hm with ⟨c37,hm⟩ | ⟨c37,hm⟩
           ·obtain⟨y5,h38,hm⟩:=bnd hm
            simp -dsimp [c37]
            refine aL (eT y5 h38) (dkL hn) ?_
            exact zz
           ·exact zz
          ·clear j39
           exact zz
end Go.Proofs.YtlifofijgddjkabGreatDoor
