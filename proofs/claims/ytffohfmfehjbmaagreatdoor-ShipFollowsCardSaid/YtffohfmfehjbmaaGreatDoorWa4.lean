/- That the code does what the functions say (made by cc.py). -/
import Derived.Test.YtffohfmfehjbmaaGreatDoorWa2
namespace Go.Proofs.YtffohfmfehjbmaaGreatDoor
open Go.AM Go.Proofs
set_option maxRecDepth 100000
attribute [-simp] qlookup bF cq Ob.wipe Ob.ren Ob.frz1
def F_tree_Right_2 (cx:Cx) (t:Tree) (a1:Int) (_x:Node) (tt:Bool ⊕ Unit) (ee:Exit) (Z:Env) (O:Sto):Prop:=match tt with
 | .inl r=>ee=.ret/\EE cx (fun Z O=>∃ v,cp tb Z O Tryz.f47.results.toList=some v/\(v.frz O).free=true/\(v.frz O).wk (vT r)) Z O
 | .inr _u=>ee=.exit 2/\EE cx (aY [(1,vX 1),(47,.u (.one (dR1 t.Nodes))),(48,vI (aB t.Nodes)),(49,vI a1)] [(1,.box [dI t.States,dR2 t.Hood,dR1 t.Nodes])]) Z O
theorem l_tree_Right_2 (cx:Cx) (hn:cx.n=117) (t:Tree) (a1:Int) (x:Node) {fu:Nat} {stt:Int} {tt:Bool ⊕ Unit} (hh:aK (b_tree_Right_2 t a1 x) fu stt=some tt) {Z:Env} {O:Sto}
  (hE:b9 (fun a3:Int=>[(1,vX 1),(4,vI a1),(5,vX 5),(47,.u (.one (dR1 t.Nodes))),(48,vI (aB t.Nodes)),(49,vI a1),(74,.u (.one (dL x.Next))),(75,vI (aB x.Next)),(76,vI a3)]) (fun _a3:Int=>[(1,.box [dI t.States,dR2 t.Hood,dR1 t.Nodes]),(5,.box [dI x.Level,dL x.Next])]) stt Z O):Swp Tryz.prog cx (.loop (bq [1,1,1,0,1,0,0,1,1,0,0,1,1,1,0,0] (aU Tryz.f47))) Z O (F_tree_Right_2 cx t a1 x tt):=by
 refine bc hE hh (F_tree_Right_2 cx t a1 x) ?_
 rintro a3 r hm Z O hf
 simp only[Fits,aR,aQ,and_true] at hf
 unfold b_tree_Right_2 at hm
 dsimp only at hm
 refine srs hn ?_
 simp -dsimp [hf]
 refine aD ?_
 rcases aM hm with ⟨c14,hm⟩ | ⟨c14,hm⟩
 ·refine aI (by simp -dsimp) c14 ?_
  refine aF (aC (aD (aH ?_)))
  refine srs hn ?_
  obtain⟨x1,h15,hm⟩:=bnd hm
  simp -dsimp [hf,c14,h15]
  obtain⟨a4,j26,hm⟩:=bnd hm
  refine scE [(1,vX 1),(4,vI a1),(5,vX 5),(47,.u (.one (dR1 t.Nodes))),(48,vI (aB t.Nodes)),(49,vI a1),(74,.u (.one (dL x.Next))),(75,vI (aB x.Next)),(76,vI a3),(114,vT a4)] [(1,.box [dI t.States,dR2 t.Hood,dR1 t.Nodes]),(5,.box [dI x.Level,dL x.Next])] ?_ fun Z O hf=>?_
  ·replace hm:=j26
   clear j26
   exact zz
  ·clear j26
   exact zz
 ·exact zz
def F_tree_Right_1 (cx:Cx) (_t:Tree) (tt:Bool ⊕ Unit) (ee:Exit) (Z:Env) (O:Sto):Prop:=match tt with
 | .inl r=>ee=.ret/\EE cx (fun Z O=>∃ v,cp tb Z O Tryz.f47.results.toList=some v/\(v.frz O).free=true/\(v.frz O).wk (vT r)) Z O
 | .inr _u=>ee=.exit 0/\EE cx (aY [] []) Z O
theorem l_tree_Right_1 (cx:Cx) (hn:cx.n=117) (t:Tree) {fu:Nat} {stt:Int} {tt:Bool ⊕ Unit} (hh:aK (b_tree_Right_1 t) fu stt=some tt) {Z:Env} {O:Sto}
  (hE:b9 (fun a1:Int=>[(1,vX 1),(47,.u (.one (dR1 t.Nodes))),(48,vI (aB t.Nodes)),(49,vI a1)]) (fun _a1:Int=>[(1,.box [dI t.States,dR2 t.Hood,dR1 t.Nodes])]) stt Z O):Swp Tryz.prog cx (.loop (bq [1,1,1,0,1,0,0] (aU Tryz.f47))) Z O (F_tree_Right_1 cx t tt):=by
 refine bc hE hh (F_tree_Right_1 cx t) ?_
 rintro a1 r hm Z O hf
 simp only[Fits,aR,aQ,and_true] at hf
 unfold b_tree_Right_1 at hm
 dsimp only at hm
 refine srs hn ?_
 simp -dsimp [hf]
 refine aD ?_
 rcases aM hm with ⟨c9,hm⟩ | ⟨c9,hm⟩
 ·refine aI (by simp -dsimp) c9 ?_
  refine aF (aC (aD (aH ?_)))
  refine srs hn ?_
  obtain⟨x,h10,hm⟩:=bnd hm
  simp -dsimp [hf,c9,h10]
  refine aD ?_
  obtain⟨a2,j28,hm⟩:=bnd hm
  refine scE [(1,vX 1),(4,vI a1),(5,vX 5),(47,.u (.one (dR1 t.Nodes))),(48,vI (aB t.Nodes)),(49,vI a1),(72,vT a2)] [(1,.box [dI t.States,dR2 t.Hood,dR1 t.Nodes]),(5,.box [dI x.Level,dL x.Next])] ?_ fun Z O hf=>?_
  ·replace hm:=j28
   clear j28
   exact zz
  ·clear j28
   simp only[Fits,aR,aQ,and_true] at hf
   rcases aM hm with ⟨c13,hm⟩ | ⟨c13,hm⟩
   ·exact zz
   ·refine aG (by simp -dsimp [hf]) c13 ?_
    refine aF (aC ?_)
    refine srs hn ?_
    simp -dsimp [hf]
    refine aH ?_
    obtain⟨o_,g27,hm⟩:=bnd hm
    refine aW (l_tree_Right_2 cx hn t a1 x g27) (by
      try dsimp only
      refine EE.here ?_
      exact zz
    ) fun ee Z O xx=>?_
    rcases o_ with r | _u
    ·exact zz
    ·exact zz
 ·exact zz
theorem cC (t:Tree) (r:Bool) (hm:m_tree_Right t=some r):PureCall Tryz.prog 47 [.u (.agg [dI t.States,dR2 t.Hood,dR1 t.Nodes])] (vT r):=by
 refine b8 Tryz.func47 Tryz.ntmps47 fun cx hn=>?_
 unfold m_tree_Right at hm
 refine srs hn ?_
 simp -dsimp
 refine srs hn ?_
 simp -dsimp
 refine aD ?_
 obtain⟨a,j30,hm⟩:=bnd hm
 refine scE [(1,vX 1),(45,vT a)] [(1,.box [dI t.States,dR2 t.Hood,dR1 t.Nodes])] ?_ fun Z O hf=>?_
 ·replace hm:=j30
  clear j30
  refine sw_qt aP mixed (by rw[hn]; kernel_rfl) ?_
  rcases aM hm with ⟨c1,hm⟩ | ⟨c1,hm⟩
  ·exact zz
  ·rcases aM hm with ⟨c2,hm⟩ | ⟨c2,hm⟩
   ·exact zz
   ·obtain⟨y,h3,hm⟩:=bnd hm
    simp -dsimp [c1,c2]
    refine aJ (c_hood_Right t.Hood y h3) ?_
    exact zz
 ·clear j30
  simp only[Fits,aR,aQ,and_true] at hf
  rcases aM hm with ⟨c8,hm⟩ | ⟨c8,hm⟩
  ·exact zz
  ·refine aG (by simp -dsimp [hf]) c8 ?_
   refine aF (aC (aD ?_))
   refine srs hn ?_
   simp -dsimp [hf]
   refine aH ?_
   obtain⟨o_,g29,hm⟩:=bnd hm
   refine aW (l_tree_Right_1 cx hn t g29) (by
     try dsimp only
     exact EE.here (by simp -dsimp [hf])
   ) fun ee Z O xx=>?_
   rcases o_ with r | _u
   ·exact zz
   ·exact zz
def F_tree_value_1 (cx:Cx) (_t:Tree) (_in_:List Int) (tt:Int) (ee:Exit) (Z:Env) (O:Sto):Prop:=match tt with
 | k=>ee=.exit 0/\EE cx (aY [(5,vI k)] []) Z O
theorem l_tree_value_1 (cx:Cx) (hn:cx.n=29) (t:Tree) (in_:List Int) {fu:Nat} {stt:Int×Int} {tt:Int} (hh:aK (b_tree_value_1 t in_) fu stt=some tt) {Z:Env} {O:Sto}
  (hE:b9 (fun stt:Int×Int=>match stt with | (k,a)=>[(2,vX 2),(5,vI k),(12,.u (.one (dL in_))),(13,vI (aB in_)),(14,vI a)]) (fun stt:Int×Int=>match stt with | (_k,_a)=>[(2,.box [dI t.States,dR2 t.Hood,dR1 t.Nodes])]) stt Z O):Swp Tryz.prog cx (.loop (bq [1,1,0,1,0,0] (aU Tryz.f68))) Z O (F_tree_value_1 cx t in_ tt):=by
 refine bc hE hh (F_tree_value_1 cx t in_) ?_
 rintro⟨k,a⟩ r hm Z O hf
 simp only[Fits,aR,aQ,and_true] at hf
 unfold b_tree_value_1 at hm
 exact zz
theorem c_tree_value (t:Tree) (in_:List Int) (r:Int) (hm:m_tree_value t in_=some r):PureCall Tryz.prog 68 [.u (.agg [dI t.States,dR2 t.Hood,dR1 t.Nodes]),.u (.one (dL in_))] (vI r):=by
 refine b8 Tryz.func68 Tryz.ntmps68 fun cx hn=>?_
 unfold m_tree_value at hm
 refine srs hn ?_
 simp -dsimp
 refine srs hn ?_
 simp -dsimp
 refine aD ?_
 refine srs hn ?_
 simp -dsimp
 refine aH ?_
 obtain⟨k,g5,hm⟩:=bnd hm
 refine aW (l_tree_value_1 cx hn t in_ g5) (by
   try dsimp only
   exact eeh
 ) fun ee Z O xx=>?_
 exact zz
theorem fw (t:Tree) (r:Bool) (hm:m_tree_Quiet t=some r):PureCall Tryz.prog 27 [.u (.agg [dI t.States,dR2 t.Hood,dR1 t.Nodes])] (vT r):=by
 refine b8 Tryz.func27 Tryz.ntmps27 fun cx hn=>?_
 unfold m_tree_Quiet at hm
 refine srs hn ?_
 simp -dsimp
 obtain⟨a,j5,hm⟩:=bnd hm
 refine scE [(2,vT a)] [] ?_ fun Z O hf=>?_
 ·replace hm:=j5
  clear j5
  refine sw_midc aP mixed 7 8 8 0 [[3]] [[10]] [] none (by rw[hn]; kernel_rfl) dc ?_
  dsimp only [List.take,List.drop,dz,dT,eX,pk,List.cons_append,List.nil_append,List.flatten_cons,List.flatten_nil,cz,cA,List.append_nil]
  obtain⟨y,h1,hm⟩:=bnd hm
  simp -dsimp
  refine aJ (cC t y h1) ?_
  rcases aM hm with ⟨c2,hm⟩ | ⟨c2,hm⟩
  ·obtain⟨l,h3,hm⟩:=bnd hm
   obtain⟨⟨h3a,h3b,h3c⟩,rfl⟩:=eJ h3
   obtain⟨y1,h4,hm⟩:=bnd hm
   simp -dsimp [c2,h3a,h3c]
   refine callL_brw (us':=[.u (.agg [dI t.States,dR2 t.Hood,dR1 t.Nodes]),.u (.one (dL (List.replicate (aB t.Hood).toNat 0)))]) (c_tree_value t (List.replicate (aB t.Hood).toNat 0) y1 h4) (by simp -dsimp) rfl (dkL hn) ?_
   exact zz
  ·exact zz
 ·clear j5
  exact zz
theorem cg (cv:Cell) (r:Point) (hm:m_pattern_at cv=some r):PureCall Tryz.prog 74 [.u (.agg [dI cv.X,dI cv.Y,dI cv.S])] (.u (.agg [dI r.X,dI r.Y])):=by
 refine b8 Tryz.func74 Tryz.ntmps74 fun cx hn=>?_
 unfold m_pattern_at at hm
 exact zz
theorem dJ (p:Point) (r:Bool) (hm:m_pattern_placed p=some r):PureCall Tryz.prog 73 [.u (.agg [dI p.X,dI p.Y])] (vT r):=by
 refine b8 Tryz.func73 Tryz.ntmps73 fun cx hn=>?_
 unfold m_pattern_placed at hm
 refine srs hn ?_
 simp -dsimp
 obtain⟨a,j2,hm⟩:=bnd hm
 refine scE [(2,vT a)] [] ?_ fun Z O hf=>?_
 ·replace hm:=j2
  clear j2
  exact zz
 ·clear j2
  exact zz
theorem c_pattern_order (a b:Cell) (r:Int) (hm:m_pattern_order a b=some r):PureCall Tryz.prog 143 [.u (.agg [dI a.X,dI a.Y,dI a.S]),.u (.agg [dI b.X,dI b.Y,dI b.S])] (vI r):=by
 refine b8 Tryz.func143 Tryz.ntmps143 fun cx hn=>?_
 unfold m_pattern_order at hm
 refine srs hn ?_
 simp -dsimp
 refine bG aP mixed (by rw[hn]; kernel_rfl) ?_
 obtain⟨y,h1,hm⟩:=bnd hm
 simp -dsimp
 refine aJ (cg a y h1) ?_
 obtain⟨y1,h2,hm⟩:=bnd hm
 simp -dsimp
 refine aJ (cg b y1 h2) ?_
 obtain⟨y2,h3,hm⟩:=bnd hm
 simp -dsimp
 refine aJ (ec y y1 y2 h3) ?_
 exact zz
def eS (cx:Cx) (_p:List Cell) (tt:Bool ⊕ Unit) (ee:Exit) (Z:Env) (O:Sto):Prop:=match tt with
 | .inl r=>ee=.ret/\EE cx (fun Z O=>∃ v,cp tb Z O Tryz.f69.results.toList=some v/\(v.frz O).free=true/\(v.frz O).wk (vT r)) Z O
 | .inr _u=>ee=.exit 0/\EE cx (aY [] []) Z O
theorem l_pattern_Right_1 (cx:Cx) (hn:cx.n=44) (p:List Cell) {fu:Nat} {stt:Int} {tt:Bool ⊕ Unit} (hh:aK (b_pattern_Right_1 p) fu stt=some tt) {Z:Env} {O:Sto}
  (hE:b9 (fun a:Int=>[(0,.u (.one (dR0 p))),(8,.u (.one (dR0 p))),(9,vI (aB p)),(10,vI a)]) (fun _a:Int=>[]) stt Z O):Swp Tryz.prog cx (.loop (bq [1,1,0,1,0,0] (aU Tryz.f69))) Z O (eS cx p tt):=by
 refine bc hE hh (eS cx p) ?_
 rintro a r hm Z O hf
 simp only[Fits,aR,aQ,and_true] at hf
 unfold b_pattern_Right_1 at hm
 dsimp only at hm
 refine srs hn ?_
 simp -dsimp [hf]
 refine aD ?_
 rcases aM hm with ⟨c2,hm⟩ | ⟨c2,hm⟩
 ·refine aI (by simp -dsimp) c2 ?_
  refine aF (aC (aD (aH ?_)))
  refine srs hn ?_
  obtain⟨x,h3,hm⟩:=bnd hm
  simp -dsimp [hf,c2,h3]
  obtain⟨a1,j13,hm⟩:=bnd hm
  refine scE [(0,.u (.one (dR0 p))),(8,.u (.one (dR0 p))),(9,vI (aB p)),(10,vI a),(42,vT a1)] [] ?_ fun Z O hf=>?_
  ·replace hm:=j13
   clear j13
   refine sw_qt aP mixed (by rw[hn]; kernel_rfl) ?_
   obtain⟨y,h4,hm⟩:=bnd hm
   simp -dsimp
   refine aJ (cg x y h4) ?_
   obtain⟨y1,h5,hm⟩:=bnd hm
   simp -dsimp
   refine aJ (dJ y y1 h5) ?_
   rcases aM hm with ⟨c6,hm⟩ | ⟨c6,hm⟩
   ·exact zz
   ·rcases aM hm with ⟨c7,hm⟩ | ⟨c7,hm⟩
    ·exact zz
    ·rcases aM hm with ⟨c8,hm⟩ | ⟨c8,hm⟩
     ·exact zz
     ·rcases aM hm with ⟨c9,hm⟩ | ⟨c9,hm⟩
      ·obtain⟨x1,h10,hm⟩:=bnd hm
       obtain⟨y2,h11,hm⟩:=bnd hm
       simp -dsimp [hf,c6,c7,c8,c9,h10]
       refine aJ (c_pattern_order x1 x y2 h11) ?_
       exact zz
      ·exact zz
  ·clear j13
   exact zz
 ·exact zz
theorem ck (p:List Cell) (r:Bool) (hm:m_pattern_Right p=some r):PureCall Tryz.prog 69 [.u (.one (dR0 p))] (vT r):=by
 refine b8 Tryz.func69 Tryz.ntmps69 fun cx hn=>?_
 unfold m_pattern_Right at hm
 refine srs hn ?_
 simp -dsimp
 refine aD ?_
 refine srs hn ?_
 simp -dsimp
 rcases aM hm with ⟨c1,hm⟩ | ⟨c1,hm⟩
 ·exact zz
 ·refine scf c1 ?_
  refine aF (aC (aD ?_))
  refine srs hn ?_
  simp -dsimp [c1]
  refine aH ?_
  obtain⟨o_,g14,hm⟩:=bnd hm
  refine aW (l_pattern_Right_1 cx hn p g14) (by
    try dsimp only
    exact EE.here (by simp -dsimp)
  ) fun ee Z O xx=>?_
  rcases o_ with r | _u
  ·exact zz
  ·exact zz
def F_pattern_Box_1 (cx:Cx) (p:List Cell) (tt:(Int×Int)) (ee:Exit) (Z:Env) (O:Sto):Prop:=match tt with
 | (left,right)=>ee=.exit 0/\EE cx (aY [(0,.u (.one (dR0 p))),(2,vX 2),(4,vI left),(5,vI right)] [(2,.box [dI 0,dI 0,dI 0,dI 0])]) Z O
theorem l_pattern_Box_1 (cx:Cx) (hn:cx.n=62) (p:List Cell) {fu:Nat} {stt:Int×Int×Int} {tt:(Int×Int)} (hh:aK (b_pattern_Box_1 p) fu stt=some tt) {Z:Env} {O:Sto}
  (hE:b9 (fun stt:Int×Int×Int=>match stt with | (left,right,a1)=>[(0,.u (.one (dR0 p))),(2,vX 2),(4,vI left),(5,vI right),(26,.u (.one (dR0 p))),(27,vI (aB p)),(28,vI a1)]) (fun stt:Int×Int×Int=>match stt with | (_left,_right,_a1)=>[(2,.box [dI 0,dI 0,dI 0,dI 0])]) stt Z O):Swp Tryz.prog cx (.loop (bq [1,1,1,0,1,0,0] (aU Tryz.f45))) Z O (F_pattern_Box_1 cx p tt):=by
 refine bc hE hh (F_pattern_Box_1 cx p) ?_
 rintro⟨left,right,a1⟩ r hm Z O hf
 simp only[Fits,aR,aQ,and_true] at hf
 unfold b_pattern_Box_1 at hm
 exact zz
theorem eZ (p:List Cell) (r:Box×Bool) (hm:m_pattern_Box p=some r):PureCall Tryz.prog 45 [.u (.one (dR0 p))] (.tup [.agg [dI r.1.X,dI r.1.Y,dI r.1.W,dI r.1.H],.one (.d (.bool r.2))]):=by
 refine b8 Tryz.func45 Tryz.ntmps45 fun cx hn=>?_
 unfold m_pattern_Box at hm
 refine srs hn ?_
 simp -dsimp
 refine aD ?_
 obtain⟨a,j9,hm⟩:=bnd hm
 refine scE [(0,.u (.one (dR0 p))),(2,vX 2),(16,vT a)] [(2,.box [dI 0,dI 0,dI 0,dI 0])] ?_ fun Z O hf=>?_
 ·replace hm:=j9
  clear j9
  refine sr1 hn ?_
  rcases aM hm with ⟨c1,hm⟩ | ⟨c1,hm⟩
  ·exact zz
  ·obtain⟨y,h2,hm⟩:=bnd hm
   simp -dsimp [c1]
   refine aA (ck p y h2) (dkL hn) ?_
   exact zz
 ·clear j9
  simp only[Fits,aR,aQ,and_true] at hf
  rcases aM hm with ⟨c3,hm⟩ | ⟨c3,hm⟩
  ·exact zz
  ·refine aG (by simp -dsimp [hf]) c3 ?_
   refine aF (aC ?_)
   refine bG aP mixed (by rw[hn]; kernel_rfl) ?_
   obtain⟨x,h4,hm⟩:=bnd hm
   simp -dsimp [hf,h4]
   refine aD ?_
   refine srs hn ?_
   simp -dsimp [hf]
   refine aH ?_
   obtain⟨⟨left,right⟩,g7,hm⟩:=bnd hm
   refine aW (l_pattern_Box_1 cx hn p g7) (by
     try dsimp only
     exact EE.here (by simp -dsimp [hf])
   ) fun ee Z O xx=>?_
   exact zz
def F_pattern_Top_1 (cx:Cx) (_p:List Cell) (tt:Int) (ee:Exit) (Z:Env) (O:Sto):Prop:=match tt with
 | n=>ee=.exit 0/\EE cx (aY [(3,vI n)] []) Z O
theorem l_pattern_Top_1 (cx:Cx) (hn:cx.n=19) (p:List Cell) {fu:Nat} {stt:Int×Int} {tt:Int} (hh:aK (b_pattern_Top_1 p) fu stt=some tt) {Z:Env} {O:Sto}
  (hE:b9 (fun stt:Int×Int=>match stt with | (n,a)=>[(0,.u (.one (dR0 p))),(3,vI n),(6,vI (aB p)),(7,vI a)]) (fun stt:Int×Int=>match stt with | (_n,_a)=>[]) stt Z O):Swp Tryz.prog cx (.loop (bq [1,1,0,1,0,0] (aU Tryz.f75))) Z O (F_pattern_Top_1 cx p tt):=by
 refine bc hE hh (F_pattern_Top_1 cx p) ?_
 rintro⟨n,a⟩ r hm Z O hf
 simp only[Fits,aR,aQ,and_true] at hf
 unfold b_pattern_Top_1 at hm
 exact zz
theorem c_pattern_Top (p:List Cell) (r:Int) (hm:m_pattern_Top p=some r):PureCall Tryz.prog 75 [.u (.one (dR0 p))] (vI r):=by
 refine b8 Tryz.func75 Tryz.ntmps75 fun cx hn=>?_
 unfold m_pattern_Top at hm
 refine srs hn ?_
 simp -dsimp
 refine srs hn ?_
 simp -dsimp
 refine aD ?_
 refine srs hn ?_
 simp -dsimp
 refine aH ?_
 obtain⟨n,g3,hm⟩:=bnd hm
 refine aW (l_pattern_Top_1 cx hn p g3) (by
   try dsimp only
   exact eeh
 ) fun ee Z O xx=>?_
 exact zz
theorem c_direct_check (t:Tree) (p:List Cell) (r:Int) (hm:m_direct_check t p=some r):PureCall Tryz.prog 31 [.u (.agg [dI t.States,dR2 t.Hood,dR1 t.Nodes]),.u (.one (dR0 p))] (vI r):=by
 refine b8 Tryz.func31 Tryz.ntmps31 fun cx hn=>?_
 unfold m_direct_check at hm
 refine srs hn ?_
 simp -dsimp
 refine aD (aH ?_)
 refine srs hn ?_
 obtain⟨y,h1,hm⟩:=bnd hm
 simp -dsimp
 refine aA (fw t y h1) (dkL hn) ?_
 simp -dsimp
 rcases aM hm with ⟨c2,hm⟩ | ⟨c2,hm⟩
 ·exact zz
 ·refine aG (by simp -dsimp) c2 ?_
  refine srs hn ?_
  obtain⟨y1,h3,hm⟩:=bnd hm
  simp -dsimp [c2]
  refine aA (ck p y1 h3) (dkL hn) ?_
  simp -dsimp
  rcases aM hm with ⟨c4,hm⟩ | ⟨c4,hm⟩
  ·exact zz
  ·refine aG (by simp -dsimp) c4 ?_
   refine bG aP mixed (by rw[hn]; kernel_rfl) ?_
   obtain⟨y2,h5,hm⟩:=bnd hm
   simp -dsimp [c4]
   refine aJ (c_pattern_Top p y2 h5) ?_
   exact zz
def dS (cx:Cx) (_p:List Cell) (tt:(List (Point×Int))) (ee:Exit) (Z:Env) (O:Sto):Prop:=match tt with
 | m=>ee=.exit 0/\EE cx (aY [(3,.u (.one (.map 6)))] [(6,mOb (.ints 2) Point.key (uL (L.int .i64)) m)]) Z O
theorem l_direct_of_1 (cx:Cx) (hn:cx.n=23) (_hk:cx.k=0) (p:List Cell) {fu:Nat} {stt:Int×(List (Point×Int))} {tt:(List (Point×Int))} (hh:aK (b_direct_of_1 p) fu stt=some tt) {Z:Env} {O:Sto}
  (hE:b9 (fun stt:Int×(List (Point×Int))=>match stt with | (a,_m)=>[(3,.u (.one (.map 6))),(7,.u (.one (dR0 p))),(8,vI (aB p)),(9,vI a)]) (fun stt:Int×(List (Point×Int))=>match stt with | (_a,m)=>[(6,mOb (.ints 2) Point.key (uL (L.int .i64)) m)]) stt Z O):Swp Tryz.prog cx (.loop (bq [1,1,0,1,0,0] (aU Tryz.f76))) Z O (dS cx p tt):=by
 refine bc hE hh (dS cx p) ?_
 rintro⟨a,m⟩ r hm Z O hf
 simp only[Fits,aR,aQ,and_true] at hf
 unfold b_direct_of_1 at hm
 dsimp only at hm
 refine srs hn ?_
 simp -dsimp [hf]
 refine aD ?_
 rcases aM hm with ⟨c1,hm⟩ | ⟨c1,hm⟩
 ·refine aI (by simp -dsimp) c1 ?_
  refine aF (aC (aD (aH ?_)))
  refine srs hn ?_
  obtain⟨x,h2,hm⟩:=bnd hm
  simp -dsimp [hf,c1,h2]
  refine sr1 hn ?_
  obtain⟨u,h3,hm⟩:=bnd hm
  simp -dsimp [hf,ct h3 (.head _),ct h3 (.tail _ (.head _)),(@id (fM (mOb (.ints 2) Point.key (uL (L.int .i64)) m) (.ints [x.X,x.Y]) (.one (dI x.S))=mOb (.ints 2) Point.key (uL (L.int .i64)) (cP m (⟨x.X,x.Y⟩:Point) x.S)) (mset_ob (.ints 2) Point.key (uL (L.int .i64)) m (⟨x.X,x.Y⟩:Point) x.S))]
  refine bp ?_
  refine aC ?_
  refine sr1 hn ?_
  simp -dsimp [hf]
  cases hm
  refine bO ?_
  exact EE.here (by simp -dsimp [hf])
 ·refine aG (by simp -dsimp) c1 ?_
  refine swp_exit ?_
  refine dF ?_
  cases hm
  refine rd_out nofun ?_
  exact⟨rfl,EE.here (by simp -dsimp [hf,c1])⟩
theorem g_direct_of (p:List Cell) (r:List (Point×Int)) (hm:m_direct_of p=some r):GFn Tryz.prog 76 [.u (.one (dR0 p))] [] (.u (.one (.map 1000000))) [some (mOb (.ints 2) Point.key (uL (L.int .i64)) r)]:=by
 refine bu aP _ Tryz.func76 rfl (by kernel_rfl) (by simp[Tryz.ntmps76]) (by simp) (by first | rfl | simp) (by first | rfl | simp) fun cx hn hk=>?_
 replace hn:cx.n=23:=hn.trans Tryz.ntmps76
 replace hk:cx.k=0:=hk
 unfold m_direct_of at hm
 refine srs hn ?_
 simp -dsimp
 refine srs hn ?_
 simp -dsimp [(@id (Ob.map (.ints 2) []=mOb (.ints 2) Point.key (uL (L.int .i64)) ([]:List (Point×Int))) (fq (.ints 2) Point.key (uL (L.int .i64))))]
 refine aD ?_
 refine srs hn ?_
 simp -dsimp
 refine aH ?_
 obtain⟨m,g4,hm⟩:=bnd hm
 refine aW (l_direct_of_1 cx hn hk p g4) (by
   try dsimp only
   refine EE.here ?_
   exact zz
 ) fun ee Z O xx=>?_
 unfold dS at xx
 dsimp only at xx
 obtain⟨rfl,xx⟩:=xx
 refine bj ?_
 refine aC ?_
 refine see xx fun Z O hf=>?_
 simp only[Fits,aR,aQ,and_true] at hf
 refine srs hn ?_
 simp -dsimp [hf]
 refine b6 ?_
 cases hm
 refine⟨.inr rfl,?_⟩
 refine emr 6 1000000 hk ?_
 exact zz
def bX (cx:Cx) (m:List (Point×Int)) (_t:Tree) (_p:Point) (tt:Int) (ee:Exit) (Z:Env) (O:Sto):Prop:=match tt with
 | k=>ee=.exit 0/\EE cx (aY [(7,vI k)] [(1000000,mOb (.ints 2) Point.key (uL (L.int .i64)) m)]) Z O
theorem fg (cx:Cx) (hn:cx.n=44) (_hk:cx.k=1) (m:List (Point×Int)) (t:Tree) (p:Point) {fu:Nat} {stt:Int×Int} {tt:Int} (hh:aK (b_direct_cells_next_o_1 m t p) fu stt=some tt) {Z:Env} {O:Sto}
  (hE:b9 (fun stt:Int×Int=>match stt with | (k,a)=>[(0,.u (.one (.map 1000000))),(4,vX 4),(5,vX 5),(7,vI k),(15,.u (.one (dR2 t.Hood))),(16,vI (aB t.Hood)),(17,vI a)]) (fun stt:Int×Int=>match stt with | (_k,_a)=>[(4,.box [dI t.States,dR2 t.Hood,dR1 t.Nodes]),(5,.box [dI p.X,dI p.Y]),(1000000,mOb (.ints 2) Point.key (uL (L.int .i64)) m)]) stt Z O):Swp Tryz.prog cx (.loop (bq [1,1,0,1,0,0] (aU Tryz.f77))) Z O (bX cx m t p tt):=by
 refine bc hE hh (bX cx m t p) ?_
 rintro⟨k,a⟩ r hm Z O hf
 simp only[Fits,aR,aQ,and_true] at hf
 unfold b_direct_cells_next_o_1 at hm
 dsimp only at hm
 refine srs hn ?_
 simp -dsimp [hf]
 refine aD ?_
 rcases aM hm with ⟨c1,hm⟩ | ⟨c1,hm⟩
 ·refine aI (by simp -dsimp) c1 ?_
  refine aF (aC (aD (aH ?_)))
  refine srs hn ?_
  obtain⟨x,h2,hm⟩:=bnd hm
  simp -dsimp [hf,c1,h2]
  refine sw_qt aP mixed (by rw[hn]; kernel_rfl) ?_
  obtain⟨x1,h3,hm⟩:=bnd hm
  obtain⟨u,h4,hm⟩:=bnd hm
  obtain⟨x2,h5,hm⟩:=bnd hm
  simp -dsimp [hf,h3,ct h4 (.head _),ct h4 (.tail _ (.head _)),(@id (lkM (eH (mOb (.ints 2) Point.key (uL (L.int .i64)) m) (.ints [(aO .i64 p.X x.X),(aO .i64 p.Y x.Y)])) false (.one (dI 0))=some (vI (bN m (⟨(aO .i64 p.X x.X),(aO .i64 p.Y x.Y)⟩:Point) 0))) (lk_val (⟨(aO .i64 p.X x.X),(aO .i64 p.Y x.Y)⟩:Point) 0)),h5]
  refine bp ?_
  refine aC ?_
  refine sr1 hn ?_
  simp -dsimp [hf]
  cases hm
  refine bO ?_
  exact EE.here (by simp -dsimp [hf])
 ·refine aG (by simp -dsimp) c1 ?_
  refine swp_exit ?_
  refine dF ?_
  cases hm
  refine rd_out nofun ?_
  exact⟨rfl,EE.here (by simp -dsimp [hf,c1])⟩
theorem g_direct_cells_next_o (m:List (Point×Int)) (t:Tree) (p:Point) (r:Int) (hm:m_direct_cells_next_o m t p=some r):GFn Tryz.prog 77 [.u (.one (.map 1000000)),.u (.agg [dI t.States,dR2 t.Hood,dR1 t.Nodes]),.u (.agg [dI p.X,dI p.Y])] [mOb (.ints 2) Point.key (uL (L.int .i64)) m] (vI r) [some (mOb (.ints 2) Point.key (uL (L.int .i64)) m)]:=by
 refine bu aP _ Tryz.func77 rfl (by kernel_rfl) (by simp[Tryz.ntmps77]) (by simp) (by first | rfl | simp) (by first | rfl | simp) fun cx hn hk=>?_
 replace hn:cx.n=44:=hn.trans Tryz.ntmps77
 replace hk:cx.k=1:=hk
 unfold m_direct_cells_next_o at hm
 refine srs hn ?_
 simp -dsimp
 refine srs hn ?_
 simp -dsimp
 refine aD ?_
 refine srs hn ?_
 simp -dsimp
 refine aH ?_
 obtain⟨k,g6,hm⟩:=bnd hm
 refine aW (fg cx hn hk m t p g6) (by
   try dsimp only
   exact eeh
 ) fun ee Z O xx=>?_
 exact zz
theorem c_direct_place (p:Point) (r:Bool) (hm:m_direct_place p=some r):PureCall Tryz.prog 78 [.u (.agg [dI p.X,dI p.Y])] (vT r):=by
 refine b8 Tryz.func78 Tryz.ntmps78 fun cx hn=>?_
 unfold m_direct_place at hm
 refine srs hn ?_
 simp -dsimp
 obtain⟨a,j2,hm⟩:=bnd hm
 refine scE [(2,vT a)] [] ?_ fun Z O hf=>?_
 ·replace hm:=j2
  clear j2
  exact zz
 ·clear j2
  exact zz
end Go.Proofs.YtffohfmfehjbmaaGreatDoor
