/- That the code does what the functions say (made by cc.py). -/
import Derived.Test.YtnkmjlncmlmnbaaGreatDoorTb
import Derived.Test.YtnkmjlncmlmnbaaGreatDoorLays
namespace Go.Proofs.YtnkmjlncmlmnbaaGreatDoor
open Go.AM Go.Proofs
set_option maxRecDepth 100000
attribute [-simp] qlookup cb cL Ob.wipe Ob.ren Ob.frz1
def gF (cx:Cx) (_t:Tree) (x:Bl) (tt:Bool ⊕ Unit) (ee:Exit) (Z:Env) (O:Sto):Prop:=match tt with
 | .inl r=>ee=.ret/\EE cx (fun Z O=>∃ v,dd tb Z O Tryz.f4.results.toList=some v/\(v.frz O).free=true/\(v.frz O).wk (vT r)) Z O
 | .inr _u=>ee=.exit 0/\EE cx (bw [(3,vX 3)] [(3,.box [dI x.W,dI x.H,dI x.Gens,dI x.DX,dI x.DY,dL x.Syms])]) Z O
theorem l_L45_Small_1 (cx:Cx) (hn:cx.n=81) (t:Tree) (x:Bl) {fu:Nat} {stt:Int} {tt:Bool ⊕ Unit} (hh:bh (b_L45_Small_1 t x) fu stt=some tt) {Z:Env} {O:Sto}
  (hE:bA (fun a1:Int=>[(2,vX 2),(3,vX 3),(34,vI (bf t.Nodes)),(35,vI a1)]) (fun _a1:Int=>[(2,.box [dI t.States,dR2 t.Hood,dR1 t.Nodes]),(3,.box [dI x.W,dI x.H,dI x.Gens,dI x.DX,dI x.DY,dL x.Syms])]) stt Z O):Swp Tryz.prog cx (.loop (bJ [1,1,0,1,0,0] (bv Tryz.f4))) Z O (gF cx t x tt):=by
 refine bC hE hh (gF cx t x) ?_
 rintro a1 r hm Z O hf
 simp only[Fits,bo,bn,and_true] at hf
 unfold b_L45_Small_1 at hm
 exact zz
theorem c_L45_Small (t:Tree) (x:Bl) (r:Bool) (hm:m_L45_Small t x=some r):PureCall Tryz.prog 4 [.u (.agg [dI t.States,dR2 t.Hood,dR1 t.Nodes]),.u (.agg [dI x.W,dI x.H,dI x.Gens,dI x.DX,dI x.DY,dL x.Syms])] (vT r):=by
 refine bK Tryz.func4 Tryz.ntmps4 fun cx hn=>?_
 unfold m_L45_Small at hm
 refine srs hn ?_
 simp -dsimp
 refine ba ?_
 obtain⟨a,j16,hm⟩:=bnd hm
 refine scE [(2,vX 2),(3,vX 3),(31,vT a)] [(2,.box [dI t.States,dR2 t.Hood,dR1 t.Nodes]),(3,.box [dI x.W,dI x.H,dI x.Gens,dI x.DX,dI x.DY,dL x.Syms])] ?_ fun Z O hf=>?_
 ·replace hm:=j16
  clear j16
  exact zz
 ·clear j16
  simp only[Fits,bo,bn,and_true] at hf
  rcases bl hm with ⟨c5,hm⟩ | ⟨c5,hm⟩
  ·exact zz
  ·refine bi (by simp -dsimp [hf]) c5 ?_
   refine bd (b9 (ba ?_))
   refine srs hn ?_
   simp -dsimp [hf]
   refine bc ?_
   obtain⟨o_,g9,hm⟩:=bnd hm
   refine bu (l_L45_Small_1 cx hn t x g9) (by
     try dsimp only
     exact EE.here (by simp -dsimp [hf])
   ) fun ee Z O xx=>?_
   rcases o_ with r | _u
   ·exact zz
   ·unfold gF at xx
    dsimp only at xx
    obtain⟨rfl,xx⟩:=xx
    refine bz ?_
    refine b9 ?_
    refine see xx fun Z O hf=>?_
    simp only[Fits,bo,bn,and_true] at hf
    obtain⟨a1,j15,hm⟩:=bnd hm
    refine scE [(4,vT a1)] [] ?_ fun Z O hf=>?_
    ·replace hm:=j15
     clear j15
     exact zz
    ·clear j15
     exact zz
theorem fG (r:Tree) (hm:m_L45_keep=some r):PureCall Tryz.prog 9 [] (.u (.agg [dI r.States,dR2 r.Hood,dR1 r.Nodes])):=by
 refine bK Tryz.func9 Tryz.ntmps9 fun cx hn=>?_
 unfold m_L45_keep at hm
 exact zz
theorem c_cmp_isNaN_int (x:Int) (r:Bool) (hm:m_cmp_isNaN_int x=some r):PureCall Tryz.prog 119 [vI x] (vT r):=by
 refine bK Tryz.func119 Tryz.ntmps119 fun cx hn=>?_
 unfold m_cmp_isNaN_int at hm
 refine srs hn ?_
 simp -dsimp
 refine srs hn ?_
 simp -dsimp
 exact zz
theorem gr (x y r:Int) (hm:m_cmp_Compare_int x y=some r):PureCall Tryz.prog 108 [vI x,vI y] (vI r):=by
 refine bK Tryz.func108 Tryz.ntmps108 fun cx hn=>?_
 unfold m_cmp_Compare_int at hm
 refine srs hn ?_
 simp -dsimp
 refine srs hn ?_
 obtain⟨y1,h1,hm⟩:=bnd hm
 simp -dsimp
 refine bg (c_cmp_isNaN_int x y1 h1) (dkL hn) ?_
 simp -dsimp
 refine srs hn ?_
 obtain⟨y2,h2,hm⟩:=bnd hm
 simp -dsimp
 refine bg (c_cmp_isNaN_int y y2 h2) (dkL hn) ?_
 exact zz
def F_cmp_Or_int_1 (cx:Cx) (_vals:List Int) (tt:Int ⊕ Unit) (ee:Exit) (Z:Env) (O:Sto):Prop:=match tt with
 | .inl r=>ee=.ret/\EE cx (fun Z O=>∃ v,dd tb Z O Tryz.f107.results.toList=some v/\(v.frz O).free=true/\(v.frz O).wk (vI r)) Z O
 | .inr _u=>ee=.exit 0/\EE cx (bw [(3,vI 0)] []) Z O
theorem l_cmp_Or_int_1 (cx:Cx) (hn:cx.n=18) (vals:List Int) {fu:Nat} {stt:Int} {tt:Int ⊕ Unit} (hh:bh (b_cmp_Or_int_1 vals) fu stt=some tt) {Z:Env} {O:Sto}
  (hE:bA (fun a:Int=>[(3,vI 0),(6,.u (.one (dL vals))),(7,vI (bf vals)),(8,vI a)]) (fun _a:Int=>[]) stt Z O):Swp Tryz.prog cx (.loop (bJ [1,1,0,1,0,0] (bv Tryz.f107))) Z O (F_cmp_Or_int_1 cx vals tt):=by
 refine bC hE hh (F_cmp_Or_int_1 cx vals) ?_
 rintro a r hm Z O hf
 simp only[Fits,bo,bn,and_true] at hf
 unfold b_cmp_Or_int_1 at hm
 exact zz
theorem c_cmp_Or_int (vals:List Int) (r:Int) (hm:m_cmp_Or_int vals=some r):PureCall Tryz.prog 107 [.u (.one (dL vals))] (vI r):=by
 refine bK Tryz.func107 Tryz.ntmps107 fun cx hn=>?_
 unfold m_cmp_Or_int at hm
 refine srs hn ?_
 simp -dsimp
 refine srs hn ?_
 simp -dsimp
 refine ba ?_
 refine srs hn ?_
 simp -dsimp
 refine bc ?_
 obtain⟨o_,g4,hm⟩:=bnd hm
 refine bu (l_cmp_Or_int_1 cx hn vals g4) (by
   try dsimp only
   exact eeh
 ) fun ee Z O xx=>?_
 rcases o_ with r | _u
 ·exact zz
 ·exact zz
theorem c_point_Compare (a b:Point) (r:Int) (hm:m_point_Compare a b=some r):PureCall Tryz.prog 83 [.u (.agg [dI a.X,dI a.Y]),.u (.agg [dI b.X,dI b.Y])] (vI r):=by
 refine bK Tryz.func83 Tryz.ntmps83 fun cx hn=>?_
 unfold m_point_Compare at hm
 refine srs hn ?_
 simp -dsimp
 refine cO bq mixed (by rw[hn]; kernel_rfl) ?_
 obtain⟨y,h1,hm⟩:=bnd hm
 simp -dsimp
 refine bj (gr a.Y b.Y y h1) ?_
 obtain⟨y1,h2,hm⟩:=bnd hm
 simp -dsimp
 refine bj (gr a.X b.X y1 h2) ?_
 obtain⟨y2,h3,hm⟩:=bnd hm
 simp -dsimp
 refine bj (c_cmp_Or_int [y,y1] y2 h3) ?_
 exact zz
def F_hood_Right_1 (cx:Cx) (_l:List Point) (tt:Bool ⊕ Unit) (ee:Exit) (Z:Env) (O:Sto):Prop:=match tt with
 | .inl r=>ee=.ret/\EE cx (fun Z O=>∃ v,dd tb Z O Tryz.f47.results.toList=some v/\(v.frz O).free=true/\(v.frz O).wk (vT r)) Z O
 | .inr _u=>ee=.exit 0/\EE cx (bw [] []) Z O
theorem l_hood_Right_1 (cx:Cx) (hn:cx.n=53) (l:List Point) {fu:Nat} {stt:Int} {tt:Bool ⊕ Unit} (hh:bh (b_hood_Right_1 l) fu stt=some tt) {Z:Env} {O:Sto}
  (hE:bA (fun a1:Int=>[(0,.u (.one (dR2 l))),(13,.u (.one (dR2 l))),(14,vI (bf l)),(15,vI a1)]) (fun _a1:Int=>[]) stt Z O):Swp Tryz.prog cx (.loop (bJ [1,1,0,1,0,0] (bv Tryz.f47))) Z O (F_hood_Right_1 cx l tt):=by
 refine bC hE hh (F_hood_Right_1 cx l) ?_
 rintro a1 r hm Z O hf
 simp only[Fits,bo,bn,and_true] at hf
 unfold b_hood_Right_1 at hm
 dsimp only at hm
 refine srs hn ?_
 simp -dsimp [hf]
 refine ba ?_
 rcases bl hm with ⟨c3,hm⟩ | ⟨c3,hm⟩
 ·refine be (by simp -dsimp) c3 ?_
  refine bd (b9 (ba (bc ?_)))
  refine srs hn ?_
  obtain⟨x,h4,hm⟩:=bnd hm
  simp -dsimp [hf,c3,h4]
  obtain⟨a2,j13,hm⟩:=bnd hm
  refine scE [(0,.u (.one (dR2 l))),(13,.u (.one (dR2 l))),(14,vI (bf l)),(15,vI a1),(51,vT a2)] [] ?_ fun Z O hf=>?_
  ·replace hm:=j13
   clear j13
   refine sw_qt bq mixed (by rw[hn]; kernel_rfl) ?_
   rcases bl hm with ⟨c5,hm⟩ | ⟨c5,hm⟩
   ·exact zz
   ·rcases bl hm with ⟨c6,hm⟩ | ⟨c6,hm⟩
    ·exact zz
    ·rcases bl hm with ⟨c7,hm⟩ | ⟨c7,hm⟩
     ·exact zz
     ·rcases bl hm with ⟨c8,hm⟩ | ⟨c8,hm⟩
      ·exact zz
      ·rcases bl hm with ⟨c9,hm⟩ | ⟨c9,hm⟩
       ·obtain⟨x1,h10,hm⟩:=bnd hm
        obtain⟨y,h11,hm⟩:=bnd hm
        simp -dsimp [hf,c5,c6,c7,c8,c9,h10]
        refine bj (c_point_Compare x1 x y h11) ?_
        exact zz
       ·exact zz
  ·clear j13
   exact zz
 ·exact zz
theorem c_hood_Right (l:List Point) (r:Bool) (hm:m_hood_Right l=some r):PureCall Tryz.prog 47 [.u (.one (dR2 l))] (vT r):=by
 refine bK Tryz.func47 Tryz.ntmps47 fun cx hn=>?_
 unfold m_hood_Right at hm
 refine srs hn ?_
 simp -dsimp
 refine ba ?_
 obtain⟨a,j15,hm⟩:=bnd hm
 refine scE [(0,.u (.one (dR2 l))),(12,vT a)] [] ?_ fun Z O hf=>?_
 ·replace hm:=j15
  clear j15
  exact zz
 ·clear j15
  simp only[Fits,bo,bn,and_true] at hf
  rcases bl hm with ⟨c2,hm⟩ | ⟨c2,hm⟩
  ·exact zz
  ·refine bi (by simp -dsimp [hf]) c2 ?_
   refine bd (b9 (ba ?_))
   refine srs hn ?_
   simp -dsimp [hf]
   refine bc ?_
   obtain⟨o_,g14,hm⟩:=bnd hm
   refine bu (l_hood_Right_1 cx hn l g14) (by
     try dsimp only
     exact EE.here (by simp -dsimp [hf])
   ) fun ee Z O xx=>?_
   rcases o_ with r | _u
   ·exact zz
   ·exact zz
def F_tree_Right_2 (cx:Cx) (t:Tree) (a1:Int) (_x:Node) (tt:Bool ⊕ Unit) (ee:Exit) (Z:Env) (O:Sto):Prop:=match tt with
 | .inl r=>ee=.ret/\EE cx (fun Z O=>∃ v,dd tb Z O Tryz.f32.results.toList=some v/\(v.frz O).free=true/\(v.frz O).wk (vT r)) Z O
 | .inr _u=>ee=.exit 2/\EE cx (bw [(1,vX 1),(47,.u (.one (dR1 t.Nodes))),(48,vI (bf t.Nodes)),(49,vI a1)] [(1,.box [dI t.States,dR2 t.Hood,dR1 t.Nodes])]) Z O
theorem l_tree_Right_2 (cx:Cx) (hn:cx.n=117) (t:Tree) (a1:Int) (x:Node) {fu:Nat} {stt:Int} {tt:Bool ⊕ Unit} (hh:bh (b_tree_Right_2 t a1 x) fu stt=some tt) {Z:Env} {O:Sto}
  (hE:bA (fun a3:Int=>[(1,vX 1),(4,vI a1),(5,vX 5),(47,.u (.one (dR1 t.Nodes))),(48,vI (bf t.Nodes)),(49,vI a1),(74,.u (.one (dL x.Next))),(75,vI (bf x.Next)),(76,vI a3)]) (fun _a3:Int=>[(1,.box [dI t.States,dR2 t.Hood,dR1 t.Nodes]),(5,.box [dI x.Level,dL x.Next])]) stt Z O):Swp Tryz.prog cx (.loop (bJ [1,1,1,0,1,0,0,1,1,0,0,1,1,1,0,0] (bv Tryz.f32))) Z O (F_tree_Right_2 cx t a1 x tt):=by
 refine bC hE hh (F_tree_Right_2 cx t a1 x) ?_
 rintro a3 r hm Z O hf
 simp only[Fits,bo,bn,and_true] at hf
 unfold b_tree_Right_2 at hm
 dsimp only at hm
 refine srs hn ?_
 simp -dsimp [hf]
 refine ba ?_
 rcases bl hm with ⟨c14,hm⟩ | ⟨c14,hm⟩
 ·refine be (by simp -dsimp) c14 ?_
  refine bd (b9 (ba (bc ?_)))
  refine srs hn ?_
  obtain⟨x1,h15,hm⟩:=bnd hm
  simp -dsimp [hf,c14,h15]
  obtain⟨a4,j26,hm⟩:=bnd hm
  refine scE [(1,vX 1),(4,vI a1),(5,vX 5),(47,.u (.one (dR1 t.Nodes))),(48,vI (bf t.Nodes)),(49,vI a1),(74,.u (.one (dL x.Next))),(75,vI (bf x.Next)),(76,vI a3),(114,vT a4)] [(1,.box [dI t.States,dR2 t.Hood,dR1 t.Nodes]),(5,.box [dI x.Level,dL x.Next])] ?_ fun Z O hf=>?_
  ·replace hm:=j26
   clear j26
   exact zz
  ·clear j26
   exact zz
 ·exact zz
def F_tree_Right_1 (cx:Cx) (_t:Tree) (tt:Bool ⊕ Unit) (ee:Exit) (Z:Env) (O:Sto):Prop:=match tt with
 | .inl r=>ee=.ret/\EE cx (fun Z O=>∃ v,dd tb Z O Tryz.f32.results.toList=some v/\(v.frz O).free=true/\(v.frz O).wk (vT r)) Z O
 | .inr _u=>ee=.exit 0/\EE cx (bw [] []) Z O
theorem l_tree_Right_1 (cx:Cx) (hn:cx.n=117) (t:Tree) {fu:Nat} {stt:Int} {tt:Bool ⊕ Unit} (hh:bh (b_tree_Right_1 t) fu stt=some tt) {Z:Env} {O:Sto}
  (hE:bA (fun a1:Int=>[(1,vX 1),(47,.u (.one (dR1 t.Nodes))),(48,vI (bf t.Nodes)),(49,vI a1)]) (fun _a1:Int=>[(1,.box [dI t.States,dR2 t.Hood,dR1 t.Nodes])]) stt Z O):Swp Tryz.prog cx (.loop (bJ [1,1,1,0,1,0,0] (bv Tryz.f32))) Z O (F_tree_Right_1 cx t tt):=by
 refine bC hE hh (F_tree_Right_1 cx t) ?_
 rintro a1 r hm Z O hf
 simp only[Fits,bo,bn,and_true] at hf
 unfold b_tree_Right_1 at hm
 dsimp only at hm
 refine srs hn ?_
 simp -dsimp [hf]
 refine ba ?_
 rcases bl hm with ⟨c9,hm⟩ | ⟨c9,hm⟩
 ·refine be (by simp -dsimp) c9 ?_
  refine bd (b9 (ba (bc ?_)))
  refine srs hn ?_
  obtain⟨x,h10,hm⟩:=bnd hm
  simp -dsimp [hf,c9,h10]
  refine ba ?_
  obtain⟨a2,j28,hm⟩:=bnd hm
  refine scE [(1,vX 1),(4,vI a1),(5,vX 5),(47,.u (.one (dR1 t.Nodes))),(48,vI (bf t.Nodes)),(49,vI a1),(72,vT a2)] [(1,.box [dI t.States,dR2 t.Hood,dR1 t.Nodes]),(5,.box [dI x.Level,dL x.Next])] ?_ fun Z O hf=>?_
  ·replace hm:=j28
   clear j28
   exact zz
  ·clear j28
   simp only[Fits,bo,bn,and_true] at hf
   rcases bl hm with ⟨c13,hm⟩ | ⟨c13,hm⟩
   ·exact zz
   ·refine bi (by simp -dsimp [hf]) c13 ?_
    refine bd (b9 ?_)
    refine srs hn ?_
    simp -dsimp [hf]
    refine bc ?_
    obtain⟨o_,g27,hm⟩:=bnd hm
    refine bu (l_tree_Right_2 cx hn t a1 x g27) (by
      try dsimp only
      refine EE.here ?_
      exact zz
    ) fun ee Z O xx=>?_
    rcases o_ with r | _u
    ·exact zz
    ·exact zz
 ·exact zz
theorem fe (t:Tree) (r:Bool) (hm:m_tree_Right t=some r):PureCall Tryz.prog 32 [.u (.agg [dI t.States,dR2 t.Hood,dR1 t.Nodes])] (vT r):=by
 refine bK Tryz.func32 Tryz.ntmps32 fun cx hn=>?_
 unfold m_tree_Right at hm
 refine srs hn ?_
 simp -dsimp
 refine srs hn ?_
 simp -dsimp
 refine ba ?_
 obtain⟨a,j30,hm⟩:=bnd hm
 refine scE [(1,vX 1),(45,vT a)] [(1,.box [dI t.States,dR2 t.Hood,dR1 t.Nodes])] ?_ fun Z O hf=>?_
 ·replace hm:=j30
  clear j30
  refine sw_qt bq mixed (by rw[hn]; kernel_rfl) ?_
  rcases bl hm with ⟨c1,hm⟩ | ⟨c1,hm⟩
  ·exact zz
  ·rcases bl hm with ⟨c2,hm⟩ | ⟨c2,hm⟩
   ·exact zz
   ·obtain⟨y,h3,hm⟩:=bnd hm
    simp -dsimp [c1,c2]
    refine bj (c_hood_Right t.Hood y h3) ?_
    exact zz
 ·clear j30
  simp only[Fits,bo,bn,and_true] at hf
  rcases bl hm with ⟨c8,hm⟩ | ⟨c8,hm⟩
  ·exact zz
  ·refine bi (by simp -dsimp [hf]) c8 ?_
   refine bd (b9 (ba ?_))
   refine srs hn ?_
   simp -dsimp [hf]
   refine bc ?_
   obtain⟨o_,g29,hm⟩:=bnd hm
   refine bu (l_tree_Right_1 cx hn t g29) (by
     try dsimp only
     exact EE.here (by simp -dsimp [hf])
   ) fun ee Z O xx=>?_
   rcases o_ with r | _u
   ·exact zz
   ·exact zz
def F_tree_value_1 (cx:Cx) (_t:Tree) (_in_:List Int) (tt:Int) (ee:Exit) (Z:Env) (O:Sto):Prop:=match tt with
 | k=>ee=.exit 0/\EE cx (bw [(5,vI k)] []) Z O
theorem l_tree_value_1 (cx:Cx) (hn:cx.n=29) (t:Tree) (in_:List Int) {fu:Nat} {stt:Int×Int} {tt:Int} (hh:bh (b_tree_value_1 t in_) fu stt=some tt) {Z:Env} {O:Sto}
  (hE:bA (fun stt:Int×Int=>match stt with | (k,a)=>[(2,vX 2),(5,vI k),(12,.u (.one (dL in_))),(13,vI (bf in_)),(14,vI a)]) (fun stt:Int×Int=>match stt with | (_k,_a)=>[(2,.box [dI t.States,dR2 t.Hood,dR1 t.Nodes])]) stt Z O):Swp Tryz.prog cx (.loop (bJ [1,1,0,1,0,0] (bv Tryz.f115))) Z O (F_tree_value_1 cx t in_ tt):=by
 refine bC hE hh (F_tree_value_1 cx t in_) ?_
 rintro⟨k,a⟩ r hm Z O hf
 simp only[Fits,bo,bn,and_true] at hf
 unfold b_tree_value_1 at hm
 exact zz
theorem c_tree_value (t:Tree) (in_:List Int) (r:Int) (hm:m_tree_value t in_=some r):PureCall Tryz.prog 115 [.u (.agg [dI t.States,dR2 t.Hood,dR1 t.Nodes]),.u (.one (dL in_))] (vI r):=by
 refine bK Tryz.func115 Tryz.ntmps115 fun cx hn=>?_
 unfold m_tree_value at hm
 refine srs hn ?_
 simp -dsimp
 refine srs hn ?_
 simp -dsimp
 refine ba ?_
 refine srs hn ?_
 simp -dsimp
 refine bc ?_
 obtain⟨k,g5,hm⟩:=bnd hm
 refine bu (l_tree_value_1 cx hn t in_ g5) (by
   try dsimp only
   exact eeh
 ) fun ee Z O xx=>?_
 exact zz
theorem c_tree_Quiet (t:Tree) (r:Bool) (hm:m_tree_Quiet t=some r):PureCall Tryz.prog 99 [.u (.agg [dI t.States,dR2 t.Hood,dR1 t.Nodes])] (vT r):=by
 refine bK Tryz.func99 Tryz.ntmps99 fun cx hn=>?_
 unfold m_tree_Quiet at hm
 refine srs hn ?_
 simp -dsimp
 obtain⟨a,j5,hm⟩:=bnd hm
 refine scE [(2,vT a)] [] ?_ fun Z O hf=>?_
 ·replace hm:=j5
  clear j5
  refine sw_midc bq mixed 7 8 8 0 [[3]] [[10]] [] none (by rw[hn]; kernel_rfl) bO ?_
  dsimp only [List.take,List.drop,cn,cp,cV,pk,List.cons_append,List.nil_append,List.flatten_cons,List.flatten_nil,bN,bM,List.append_nil]
  obtain⟨y,h1,hm⟩:=bnd hm
  simp -dsimp
  refine bj (fe t y h1) ?_
  rcases bl hm with ⟨c2,hm⟩ | ⟨c2,hm⟩
  ·obtain⟨l,h3,hm⟩:=bnd hm
   obtain⟨⟨h3a,h3b,h3c⟩,rfl⟩:=mkL_some h3
   obtain⟨y1,h4,hm⟩:=bnd hm
   simp -dsimp [c2,h3a,h3c]
   refine dj (us':=[.u (.agg [dI t.States,dR2 t.Hood,dR1 t.Nodes]),.u (.one (dL (List.replicate (bf t.Hood).toNat 0)))]) (c_tree_value t (List.replicate (bf t.Hood).toNat 0) y1 h4) (by simp -dsimp) rfl (dkL hn) ?_
   exact zz
  ·exact zz
 ·clear j5
  exact zz
theorem ie (cv:Cell) (r:Point) (hm:m_pattern_at cv=some r):PureCall Tryz.prog 74 [.u (.agg [dI cv.X,dI cv.Y,dI cv.S])] (.u (.agg [dI r.X,dI r.Y])):=by
 refine bK Tryz.func74 Tryz.ntmps74 fun cx hn=>?_
 unfold m_pattern_at at hm
 exact zz
theorem c_pattern_placed (p:Point) (r:Bool) (hm:m_pattern_placed p=some r):PureCall Tryz.prog 73 [.u (.agg [dI p.X,dI p.Y])] (vT r):=by
 refine bK Tryz.func73 Tryz.ntmps73 fun cx hn=>?_
 unfold m_pattern_placed at hm
 refine srs hn ?_
 simp -dsimp
 obtain⟨a,j2,hm⟩:=bnd hm
 refine scE [(2,vT a)] [] ?_ fun Z O hf=>?_
 ·replace hm:=j2
  clear j2
  exact zz
 ·clear j2
  exact zz
theorem c_pattern_order (a b:Cell) (r:Int) (hm:m_pattern_order a b=some r):PureCall Tryz.prog 75 [.u (.agg [dI a.X,dI a.Y,dI a.S]),.u (.agg [dI b.X,dI b.Y,dI b.S])] (vI r):=by
 refine bK Tryz.func75 Tryz.ntmps75 fun cx hn=>?_
 unfold m_pattern_order at hm
 refine srs hn ?_
 simp -dsimp
 refine cO bq mixed (by rw[hn]; kernel_rfl) ?_
 obtain⟨y,h1,hm⟩:=bnd hm
 simp -dsimp
 refine bj (ie a y h1) ?_
 obtain⟨y1,h2,hm⟩:=bnd hm
 simp -dsimp
 refine bj (ie b y1 h2) ?_
 obtain⟨y2,h3,hm⟩:=bnd hm
 simp -dsimp
 refine bj (c_point_Compare y y1 y2 h3) ?_
 exact zz
def gB (cx:Cx) (_p:List Cell) (tt:Bool ⊕ Unit) (ee:Exit) (Z:Env) (O:Sto):Prop:=match tt with
 | .inl r=>ee=.ret/\EE cx (fun Z O=>∃ v,dd tb Z O Tryz.f37.results.toList=some v/\(v.frz O).free=true/\(v.frz O).wk (vT r)) Z O
 | .inr _u=>ee=.exit 0/\EE cx (bw [] []) Z O
theorem l_pattern_Right_1 (cx:Cx) (hn:cx.n=44) (p:List Cell) {fu:Nat} {stt:Int} {tt:Bool ⊕ Unit} (hh:bh (b_pattern_Right_1 p) fu stt=some tt) {Z:Env} {O:Sto}
  (hE:bA (fun a:Int=>[(0,.u (.one (dR0 p))),(8,.u (.one (dR0 p))),(9,vI (bf p)),(10,vI a)]) (fun _a:Int=>[]) stt Z O):Swp Tryz.prog cx (.loop (bJ [1,1,0,1,0,0] (bv Tryz.f37))) Z O (gB cx p tt):=by
 refine bC hE hh (gB cx p) ?_
 rintro a r hm Z O hf
 simp only[Fits,bo,bn,and_true] at hf
 unfold b_pattern_Right_1 at hm
 dsimp only at hm
 refine srs hn ?_
 simp -dsimp [hf]
 refine ba ?_
 rcases bl hm with ⟨c2,hm⟩ | ⟨c2,hm⟩
 ·refine be (by simp -dsimp) c2 ?_
  refine bd (b9 (ba (bc ?_)))
  refine srs hn ?_
  obtain⟨x,h3,hm⟩:=bnd hm
  simp -dsimp [hf,c2,h3]
  obtain⟨a1,j13,hm⟩:=bnd hm
  refine scE [(0,.u (.one (dR0 p))),(8,.u (.one (dR0 p))),(9,vI (bf p)),(10,vI a),(42,vT a1)] [] ?_ fun Z O hf=>?_
  ·replace hm:=j13
   clear j13
   refine sw_qt bq mixed (by rw[hn]; kernel_rfl) ?_
   obtain⟨y,h4,hm⟩:=bnd hm
   simp -dsimp
   refine bj (ie x y h4) ?_
   obtain⟨y1,h5,hm⟩:=bnd hm
   simp -dsimp
   refine bj (c_pattern_placed y y1 h5) ?_
   rcases bl hm with ⟨c6,hm⟩ | ⟨c6,hm⟩
   ·exact zz
   ·rcases bl hm with ⟨c7,hm⟩ | ⟨c7,hm⟩
    ·exact zz
    ·rcases bl hm with ⟨c8,hm⟩ | ⟨c8,hm⟩
     ·exact zz
     ·rcases bl hm with ⟨c9,hm⟩ | ⟨c9,hm⟩
      ·obtain⟨x1,h10,hm⟩:=bnd hm
       obtain⟨y2,h11,hm⟩:=bnd hm
       simp -dsimp [hf,c6,c7,c8,c9,h10]
       refine bj (c_pattern_order x1 x y2 h11) ?_
       exact zz
      ·exact zz
  ·clear j13
   exact zz
 ·exact zz
theorem c_pattern_Right (p:List Cell) (r:Bool) (hm:m_pattern_Right p=some r):PureCall Tryz.prog 37 [.u (.one (dR0 p))] (vT r):=by
 refine bK Tryz.func37 Tryz.ntmps37 fun cx hn=>?_
 unfold m_pattern_Right at hm
 refine srs hn ?_
 simp -dsimp
 refine ba ?_
 refine srs hn ?_
 simp -dsimp
 rcases bl hm with ⟨c1,hm⟩ | ⟨c1,hm⟩
 ·exact zz
 ·refine scf c1 ?_
  refine bd (b9 (ba ?_))
  refine srs hn ?_
  simp -dsimp [c1]
  refine bc ?_
  obtain⟨o_,g14,hm⟩:=bnd hm
  refine bu (l_pattern_Right_1 cx hn p g14) (by
    try dsimp only
    exact EE.here (by simp -dsimp)
  ) fun ee Z O xx=>?_
  rcases o_ with r | _u
  ·exact zz
  ·exact zz
end Go.Proofs.YtnkmjlncmlmnbaaGreatDoor
namespace Go.Proofs.YtnkmjlncmlmnbaaGreatDoor
open Go.AM Go.Proofs
set_option maxRecDepth 100000
attribute [-simp] qlookup cb cL Ob.wipe Ob.ren Ob.frz1
def F_pattern_Top_1 (cx:Cx) (_p:List Cell) (tt:Int) (ee:Exit) (Z:Env) (O:Sto):Prop:=match tt with
 | n=>ee=.exit 0/\EE cx (bw [(3,vI n)] []) Z O
theorem l_pattern_Top_1 (cx:Cx) (hn:cx.n=19) (p:List Cell) {fu:Nat} {stt:Int×Int} {tt:Int} (hh:bh (b_pattern_Top_1 p) fu stt=some tt) {Z:Env} {O:Sto}
  (hE:bA (fun stt:Int×Int=>match stt with | (n,a)=>[(0,.u (.one (dR0 p))),(3,vI n),(6,vI (bf p)),(7,vI a)]) (fun stt:Int×Int=>match stt with | (_n,_a)=>[]) stt Z O):Swp Tryz.prog cx (.loop (bJ [1,1,0,1,0,0] (bv Tryz.f40))) Z O (F_pattern_Top_1 cx p tt):=by
 refine bC hE hh (F_pattern_Top_1 cx p) ?_
 rintro⟨n,a⟩ r hm Z O hf
 simp only[Fits,bo,bn,and_true] at hf
 unfold b_pattern_Top_1 at hm
 exact zz
theorem c_pattern_Top (p:List Cell) (r:Int) (hm:m_pattern_Top p=some r):PureCall Tryz.prog 40 [.u (.one (dR0 p))] (vI r):=by
 refine bK Tryz.func40 Tryz.ntmps40 fun cx hn=>?_
 unfold m_pattern_Top at hm
 refine srs hn ?_
 simp -dsimp
 refine srs hn ?_
 simp -dsimp
 refine ba ?_
 refine srs hn ?_
 simp -dsimp
 refine bc ?_
 obtain⟨n,g3,hm⟩:=bnd hm
 refine bu (l_pattern_Top_1 cx hn p g3) (by
   try dsimp only
   exact eeh
 ) fun ee Z O xx=>?_
 exact zz
theorem c_direct_check (t:Tree) (p:List Cell) (r:Int) (hm:m_direct_check t p=some r):PureCall Tryz.prog 78 [.u (.agg [dI t.States,dR2 t.Hood,dR1 t.Nodes]),.u (.one (dR0 p))] (vI r):=by
 refine bK Tryz.func78 Tryz.ntmps78 fun cx hn=>?_
 unfold m_direct_check at hm
 refine srs hn ?_
 simp -dsimp
 refine ba (bc ?_)
 refine srs hn ?_
 obtain⟨y,h1,hm⟩:=bnd hm
 simp -dsimp
 refine bg (c_tree_Quiet t y h1) (dkL hn) ?_
 simp -dsimp
 rcases bl hm with ⟨c2,hm⟩ | ⟨c2,hm⟩
 ·exact zz
 ·refine bi (by simp -dsimp) c2 ?_
  refine srs hn ?_
  obtain⟨y1,h3,hm⟩:=bnd hm
  simp -dsimp [c2]
  refine bg (c_pattern_Right p y1 h3) (dkL hn) ?_
  simp -dsimp
  rcases bl hm with ⟨c4,hm⟩ | ⟨c4,hm⟩
  ·exact zz
  ·refine bi (by simp -dsimp) c4 ?_
   refine cO bq mixed (by rw[hn]; kernel_rfl) ?_
   obtain⟨y2,h5,hm⟩:=bnd hm
   simp -dsimp [c4]
   refine bj (c_pattern_Top p y2 h5) ?_
   exact zz
def F_direct_Run_1 (cx:Cx) (_t:Tree) (p:List Cell) (_n:Int) (tt:Unit) (ee:Exit) (Z:Env) (O:Sto):Prop:=match tt with
 | _u=>ee=.exit 0/\EE cx (bw [(1,.u (.one (dR0 p)))] []) Z O
theorem l_direct_Run_1 (cx:Cx) (hn:cx.n=38) (t:Tree) (p:List Cell) (n:Int) {fu:Nat} {stt:Unit} {tt:Unit} (hh:bh (b_direct_Run_1 t p n) fu stt=some tt) {Z:Env} {O:Sto}
  (hE:bA (fun _u:Unit=>[(1,.u (.one (dR0 p))),(3,vX 3),(23,vI n),(24,vI 0)]) (fun _u:Unit=>[(3,.box [dI t.States,dR2 t.Hood,dR1 t.Nodes])]) stt Z O):Swp Tryz.prog cx (.loop (bJ [1,1,1,0,1,0,0] (bv Tryz.f44))) Z O (F_direct_Run_1 cx t p n tt):=by
 refine bC hE hh (F_direct_Run_1 cx t p n) ?_
 rintro _u r hm Z O hf
 simp only[Fits,bo,bn,and_true] at hf
 unfold b_direct_Run_1 at hm
 exact zz
theorem c_direct_Run (t:Tree) (p:List Cell) (n:Int) (r:(List Cell)×Int) (hm:m_direct_Run t p n=some r):PureCall Tryz.prog 44 [.u (.agg [dI t.States,dR2 t.Hood,dR1 t.Nodes]),.u (.one (dR0 p)),vI n] (.tup [.one (dR0 r.1),.one (dI r.2)]):=by
 refine bK Tryz.func44 Tryz.ntmps44 fun cx hn=>?_
 unfold m_direct_Run at hm
 refine srs hn ?_
 simp -dsimp
 refine ba ?_
 refine srs hn ?_
 obtain⟨y,h1,hm⟩:=bnd hm
 simp -dsimp
 refine bg (c_direct_check t p y h1) (dkL hn) ?_
 simp -dsimp
 refine srs hn ?_
 simp -dsimp
 rcases bl hm with ⟨c2,hm⟩ | ⟨c2,hm⟩
 ·exact zz
 ·refine bi (by simp -dsimp) c2 ?_
  refine bd (b9 (ba ?_))
  obtain⟨a,j7,hm⟩:=bnd hm
  refine scE [(1,.u (.one (dR0 p))),(2,vI n),(3,vX 3),(22,vT a)] [(3,.box [dI t.States,dR2 t.Hood,dR1 t.Nodes])] ?_ fun Z O hf=>?_
  ·replace hm:=j7
   clear j7
   exact zz
  ·clear j7
   simp only[Fits,bo,bn,and_true] at hf
   rcases bl hm with ⟨c4,hm⟩ | ⟨c4,hm⟩
   ·exact zz
   ·refine bi (by simp -dsimp [hf]) c4 ?_
    refine bd (b9 (ba ?_))
    refine srs hn ?_
    simp -dsimp [hf]
    refine bc ?_
    obtain⟨_u,g6,hm⟩:=bnd hm
    refine bu (l_direct_Run_1 cx hn t p n g6) (by
      try dsimp only
      exact EE.here (by simp -dsimp [hf])
    ) fun ee Z O xx=>?_
    exact zz
def hO (cx:Cx) (_x:Bl) (tt:Bool ⊕ Unit) (ee:Exit) (Z:Env) (O:Sto):Prop:=match tt with
 | .inl r=>ee=.ret/\EE cx (fun Z O=>∃ v,dd tb Z O Tryz.f80.results.toList=some v/\(v.frz O).free=true/\(v.frz O).wk (vT r)) Z O
 | .inr _u=>ee=.exit 0/\EE cx (bw [] []) Z O
theorem l_problem_fits_1 (cx:Cx) (hn:cx.n=39) (x:Bl) {fu:Nat} {stt:Int×(List Bool)} {tt:Bool ⊕ Unit} (hh:bh (b_problem_fits_1 x) fu stt=some tt) {Z:Env} {O:Sto}
  (hE:bA (fun stt:Int×(List Bool)=>match stt with | (a,_seen)=>[(1,vX 1),(3,vX 3),(7,.u (.one (dL x.Syms))),(8,vI (bf x.Syms)),(9,vI a)]) (fun stt:Int×(List Bool)=>match stt with | (_a,seen)=>[(1,.box [dI x.W,dI x.H,dI x.Gens,dI x.DX,dI x.DY,dL x.Syms]),(3,.box (List.map cB seen))]) stt Z O):Swp Tryz.prog cx (.loop (bJ [1,1,0,1,0,0] (bv Tryz.f80))) Z O (hO cx x tt):=by
 refine bC hE hh (hO cx x) ?_
 rintro⟨a,seen⟩ r hm Z O hf
 simp only[Fits,bo,bn,and_true] at hf
 unfold b_problem_fits_1 at hm
 dsimp only at hm
 refine srs hn ?_
 simp -dsimp [hf]
 refine ba ?_
 rcases bl hm with ⟨c1,hm⟩ | ⟨c1,hm⟩
 ·refine be (by simp -dsimp) c1 ?_
  refine bd (b9 (ba (bc ?_)))
  refine srs hn ?_
  obtain⟨x1,h2,hm⟩:=bnd hm
  simp -dsimp [hf,c1,h2]
  refine ba ?_
  obtain⟨a1,j11,hm⟩:=bnd hm
  refine scE [(1,vX 1),(3,vX 3),(5,vI x1),(7,.u (.one (dL x.Syms))),(8,vI (bf x.Syms)),(9,vI a),(35,vT a1)] [(1,.box [dI x.W,dI x.H,dI x.Gens,dI x.DX,dI x.DY,dL x.Syms]),(3,.box (List.map cB seen))] ?_ fun Z O hf=>?_
  ·replace hm:=j11
   clear j11
   refine sr1 hn ?_
   rcases bl hm with ⟨c3,hm⟩ | ⟨c3,hm⟩
   ·exact zz
   ·rcases bl hm with ⟨c4,hm⟩ | ⟨c4,hm⟩
    ·exact zz
    ·obtain⟨x2,h5,hm⟩:=bnd hm
     rcases bl hm with ⟨c6,hm⟩ | ⟨c6,hm⟩
     ·simp -dsimp [hf,c3,c4,aidx_ok h5,aidx_get h5,c6]
      cases hm
      exact EE.here (by simp -dsimp [hf])
     ·obtain⟨n,h7,hm⟩:=bnd hm
      rcases bl hm with ⟨c8,hm⟩ | ⟨c8,hm⟩
      ·simp -dsimp [hf,c3,c4,aidx_ok h5,aidx_get h5,c6,h7,c8]
       cases hm
       exact EE.here (by simp -dsimp [hf])
      ·simp -dsimp [hf,c3,c4,aidx_ok h5,aidx_get h5,c6,h7,c8]
       cases hm
       exact EE.here (by simp -dsimp [hf])
  ·clear j11
   simp only[Fits,bo,bn,and_true] at hf
   rcases bl hm with ⟨c9,hm⟩ | ⟨c9,hm⟩
   ·exact zz
   ·refine bi (by simp -dsimp [hf]) c9 ?_
    refine bd (b9 ?_)
    refine sr1 hn ?_
    obtain⟨x2,h10,hm⟩:=bnd hm
    simp -dsimp [hf,aidx_ok h10,aidx_lt2 h10,asetB h10 true]
    refine bD ?_
    refine b9 ?_
    refine sr1 hn ?_
    simp -dsimp [hf]
    cases hm
    refine bI ?_
    exact EE.here (by simp -dsimp [hf])
 ·exact zz
theorem c_problem_fits (x:Bl) (r:Bool) (hm:m_problem_fits x=some r):PureCall Tryz.prog 80 [.u (.agg [dI x.W,dI x.H,dI x.Gens,dI x.DX,dI x.DY,dL x.Syms])] (vT r):=by
 refine bK Tryz.func80 Tryz.ntmps80 fun cx hn=>?_
 unfold m_problem_fits at hm
 refine srs hn ?_
 simp -dsimp
 refine srs hn ?_
 simp -dsimp
 refine ba ?_
 refine srs hn ?_
 simp -dsimp
 refine bc ?_
 obtain⟨o_,g12,hm⟩:=bnd hm
 refine bu (l_problem_fits_1 cx hn x g12) (by
   try dsimp only
   exact eeh
 ) fun ee Z O xx=>?_
 rcases o_ with r | _u
 ·exact zz
 ·exact zz
theorem c_problem_first (x:Bl) (r:Int) (hm:m_problem_first x=some r):PureCall Tryz.prog 45 [.u (.agg [dI x.W,dI x.H,dI x.Gens,dI x.DX,dI x.DY,dL x.Syms])] (vI r):=by
 refine bK Tryz.func45 Tryz.ntmps45 fun cx hn=>?_
 unfold m_problem_first at hm
 refine srs hn ?_
 simp -dsimp
 refine ba (bc ?_)
 refine srs hn ?_
 simp -dsimp
 rcases bl hm with ⟨c1,hm⟩ | ⟨c1,hm⟩
 ·exact zz
 ·refine scf c1 ?_
  obtain⟨a,j11,hm⟩:=bnd hm
  refine scE [(1,vX 1),(10,vT a)] [(1,.box [dI x.W,dI x.H,dI x.Gens,dI x.DX,dI x.DY,dL x.Syms])] ?_ fun Z O hf=>?_
  ·replace hm:=j11
   clear j11
   exact zz
  ·clear j11
   simp only[Fits,bo,bn,and_true] at hf
   rcases bl hm with ⟨c3,hm⟩ | ⟨c3,hm⟩
   ·exact zz
   ·refine bi (by simp -dsimp [hf]) c3 ?_
    obtain⟨a1,j10,hm⟩:=bnd hm
    refine scE [(25,vT a1)] [] ?_ fun Z O hf=>?_
    ·replace hm:=j10
     clear j10
     refine sr1 hn ?_
     rcases bl hm with ⟨c4,hm⟩ | ⟨c4,hm⟩
     ·exact zz
     ·rcases bl hm with ⟨c5,hm⟩ | ⟨c5,hm⟩
      ·exact zz
      ·rcases bl hm with ⟨c6,hm⟩ | ⟨c6,hm⟩
       ·exact zz
       ·rcases bl hm with ⟨c7,hm⟩ | ⟨c7,hm⟩
        ·exact zz
        ·obtain⟨y,h8,hm⟩:=bnd hm
         simp -dsimp [hf,c4,c5,c6,c7]
         refine bg (c_problem_fits x y h8) (dkL hn) ?_
         exact zz
    ·clear j10
     exact zz
theorem eQ (t:Tree) (x:Bl) (r:Int) (hm:m_problem_Check t x=some r):PureCall Tryz.prog 14 [.u (.agg [dI t.States,dR2 t.Hood,dR1 t.Nodes]),.u (.agg [dI x.W,dI x.H,dI x.Gens,dI x.DX,dI x.DY,dL x.Syms])] (vI r):=by
 refine bK Tryz.func14 Tryz.ntmps14 fun cx hn=>?_
 unfold m_problem_Check at hm
 refine srs hn ?_
 simp -dsimp
 refine ba ?_
 refine srs hn ?_
 obtain⟨y,h1,hm⟩:=bnd hm
 simp -dsimp
 refine bg ((c_direct_Run t [] 0 y h1).wk (by simp[V.wkl])) (dkL hn) ?_
 simp -dsimp
 refine srs hn ?_
 simp -dsimp
 rcases bl hm with ⟨c2,hm⟩ | ⟨c2,hm⟩
 ·exact zz
 ·refine bi (by simp -dsimp) c2 ?_
  refine bd (b9 ?_)
  refine srs hn ?_
  obtain⟨y1,h3,hm⟩:=bnd hm
  simp -dsimp [c2]
  refine bg (c_problem_first x y1 h3) (dkL hn) ?_
  exact zz
theorem cd (l r:List Int) (hm:m_slices_Clone_int_int l=some r):NewFn Tryz.prog 84 [.u (.one (dL l))] (fun o=>o=.row 1 3 (List.map (rI .i64) r)):=by
 refine new_S bq _ Tryz.func84 rfl (by kernel_rfl) (by simp[Tryz.ntmps84]) fun cx hn=>?_
 replace hn:cx.n=8:=hn.trans Tryz.ntmps84
 have ha:=(bp hm).1
 have hr:r=l:=(bp hm).2
 clear hm
 subst hr
 simp only[List.length_nil,Nat.zero_add] at ha
 refine srs hn ?_
 simp -dsimp
 refine ba ?_
 refine srs hn ?_
 cases r with
 | nil =>
  simp -dsimp
  refine⟨?_,?_⟩
  ·refine be (b:=true) (by simp -dsimp) rfl ?_
   refine srs hn ?_
   simp -dsimp
   refine bE (eZ ?_)
   refine⟨.inr rfl,?_⟩; simp -dsimp
  ·refine bi (b:=false) (by simp -dsimp) rfl ?_
   refine bd (b9 ?_)
   refine srs hn ?_
   simp -dsimp
   refine bE ?_
   refine⟨.inr rfl,?_⟩; simp -dsimp
 | cons x xs =>
  simp -dsimp
  refine bi (b:=false) (by simp -dsimp) rfl ?_
  refine bd (b9 ?_)
  refine srs hn ?_
  simp only[List.length_cons] at ha
  simp -dsimp [ha]
  refine bE ?_
  refine⟨.inr rfl,?_⟩; simp -dsimp
theorem c_reduce_Reduce_1 (x:Int) (next r:List Int) (hm:m_reduce_Reduce_1 x next=some r):PureCall Tryz.prog 82 [vI x,.u (.one (dL next))] (.u (.one (dL r))):=by
 refine bK Tryz.func82 Tryz.ntmps82 fun cx hn=>?_
 unfold m_reduce_Reduce_1 at hm
 exact zz
theorem d6 (l:List Int) (n base:Int) (r:List Int) (hm:m_internal_strconv_AppendUint_o l n base=some r):GFn Tryz.prog 134 [vO 1000000,.u (.one (.d (.int .u64 n))),vI base] [.row 1 5 (List.map (rI .u8) l)] (vO 1000001) [none,some (.row 1 5 (List.map (rI .u8) r))]:=appU_g bQ rfl tf5 rfl rfl rfl rfl ⟨_,Tryz.func134,by decide,by kernel_rfl⟩ hm
theorem eL (i base:Int) (r:List Int) (hm:m_internal_strconv_AppendInt_N i base=some r):GFn Tryz.prog 123 [.u (.one (.d .nil)),vI i,vI base] [] (vO 1000000) [some (.row 1 5 (List.map (rI .u8) r))]:=by
 refine bG bq _ Tryz.func123 rfl (by kernel_rfl) (by simp[Tryz.ntmps123]) (by simp) (by first | rfl | simp) (by first | rfl | simp) fun cx hn hk=>?_
 replace hn:cx.n=21:=hn.trans Tryz.ntmps123
 replace hk:cx.k=0:=hk
 unfold m_internal_strconv_AppendInt_N at hm
 refine srs hn ?_
 simp -dsimp
 refine srs hn ?_
 simp -dsimp
 obtain⟨⟨u,dst⟩,j4,hm⟩:=bnd hm
 refine scE [(0,vO 5000),(2,vI base),(7,.u (.one (.d (.int .u64 u))))] [(5000,.row 1 5 (List.map (rI .u8) dst))] ?_ fun Z O hf=>?_
 ·replace hm:=j4
  clear j4
  refine srs hn ?_
  simp -dsimp
  rcases bl hm with ⟨c1,hm⟩ | ⟨c1,hm⟩
  ·refine sct c1 ?_
   refine srs hn ?_
   obtain⟨l,h2,hm⟩:=bnd hm
   obtain⟨h2a,h2e⟩:=bp h2
   replace h2e:=h2e.symm
   subst h2e
   try simp only[List.length_cons,List.length_nil,Nat.zero_add] at h2a
   try simp only[Nat.mul_one,Nat.reduceLeDiff] at h2a
   simp -dsimp [c1]
   refine sr1 hn ?_
   simp -dsimp
   refine b9 ?_
   cases hm
   refine emv 14 5000 ?_
   exact zz
  ·refine scf c1 ?_
   refine bd (b9 ?_)
   cases hm
   refine EE.step (Wk.own0 0 5000 1 5 (by simp -dsimp [c1]) (by decide)) ?_
   exact zz
 ·clear j4
  simp only[Fits,bo,bn,and_true] at hf
  refine srs hn ?_
  obtain⟨y,h3,hm⟩:=bnd hm
  simp -dsimp [hf]
  refine clg (d6 dst u base y h3) [5000] [5001] (by simp -dsimp [hf]) (dkL hn) ?_
  simp -dsimp
  refine bE ?_
  cases hm
  refine⟨.inr rfl,?_⟩
  refine emr 5001 1000000 hk ?_
  exact zz
theorem ew (i base:Int) (r:List Int) (hm:m_strconv_AppendInt_N i base=some r):GFn Tryz.prog 117 [.u (.one (.d .nil)),vI i,vI base] [] (vO 1000000) [some (.row 1 5 (List.map (rI .u8) r))]:=by
 refine bG bq _ Tryz.func117 rfl (by kernel_rfl) (by simp[Tryz.ntmps117]) (by simp) (by first | rfl | simp) (by first | rfl | simp) fun cx hn hk=>?_
 replace hn:cx.n=11:=hn.trans Tryz.ntmps117
 replace hk:cx.k=0:=hk
 unfold m_strconv_AppendInt_N at hm
 refine srs hn ?_
 simp -dsimp
 refine srs hn ?_
 obtain⟨y,h1,hm⟩:=bnd hm
 simp -dsimp
 refine clg (eL i base y h1) [] [5000] (by simp -dsimp) (dkL hn) ?_
 simp -dsimp
 refine bE ?_
 cases hm
 refine⟨.inr rfl,?_⟩
 refine emr 5000 1000000 hk ?_
 exact zz
theorem eE (dst:List Int) (i base:Int) (r:List Int) (hm:m_internal_strconv_AppendInt_o dst i base=some r):GFn Tryz.prog 123 [vO 1000000,vI i,vI base] [.row 1 5 (List.map (rI .u8) dst)] (vO 1000001) [none,some (.row 1 5 (List.map (rI .u8) r))]:=by
 refine bG bq _ Tryz.func123 rfl (by kernel_rfl) (by simp[Tryz.ntmps123]) (by simp) (by first | rfl | simp) (by first | rfl | simp) fun cx hn hk=>?_
 replace hn:cx.n=21:=hn.trans Tryz.ntmps123
 replace hk:cx.k=1:=hk
 unfold m_internal_strconv_AppendInt_o at hm
 refine srs hn ?_
 simp -dsimp
 refine srs hn ?_
 simp -dsimp
 obtain⟨⟨u,dst1⟩,j4,hm⟩:=bnd hm
 refine scE [(0,vO 5000),(2,vI base),(7,.u (.one (.d (.int .u64 u))))] [(5000,.row 1 5 (List.map (rI .u8) dst1))] ?_ fun Z O hf=>?_
 ·replace hm:=j4
  clear j4
  refine srs hn ?_
  simp -dsimp
  rcases bl hm with ⟨c1,hm⟩ | ⟨c1,hm⟩
  ·refine sct c1 ?_
   refine srs hn ?_
   obtain⟨l,h2,hm⟩:=bnd hm
   obtain⟨h2a,h2e⟩:=bp h2
   replace h2e:=h2e.symm
   subst h2e
   try simp only[List.length_cons,List.length_nil,Nat.zero_add] at h2a
   try simp only[Nat.mul_one,Nat.reduceLeDiff] at h2a
   simp -dsimp [c1,h2a]
   refine sr1 hn ?_
   simp -dsimp
   refine b9 ?_
   cases hm
   refine emv 14 5000 ?_
   exact zz
  ·refine scf c1 ?_
   refine bd (b9 ?_)
   cases hm
   refine emv 1000000 5000 ?_
   exact zz
 ·clear j4
  simp only[Fits,bo,bn,and_true] at hf
  refine srs hn ?_
  obtain⟨y,h3,hm⟩:=bnd hm
  simp -dsimp [hf]
  refine clg (d6 dst1 u base y h3) [5000] [5001] (by simp -dsimp [hf]) (dkL hn) ?_
  simp -dsimp
  refine bE ?_
  cases hm
  refine⟨.inr rfl,?_⟩
  refine emr 5001 1000001 hk ?_
  exact zz
theorem ev (dst:List Int) (i base:Int) (r:List Int) (hm:m_strconv_AppendInt_o dst i base=some r):GFn Tryz.prog 117 [vO 1000000,vI i,vI base] [.row 1 5 (List.map (rI .u8) dst)] (vO 1000001) [none,some (.row 1 5 (List.map (rI .u8) r))]:=by
 refine bG bq _ Tryz.func117 rfl (by kernel_rfl) (by simp[Tryz.ntmps117]) (by simp) (by first | rfl | simp) (by first | rfl | simp) fun cx hn hk=>?_
 replace hn:cx.n=11:=hn.trans Tryz.ntmps117
 replace hk:cx.k=1:=hk
 unfold m_strconv_AppendInt_o at hm
 refine srs hn ?_
 simp -dsimp
 refine srs hn ?_
 obtain⟨y,h1,hm⟩:=bnd hm
 simp -dsimp
 refine clg (eE dst i base y h1) [1000000] [5000] (by simp -dsimp) (dkL hn) ?_
 simp -dsimp
 refine bE ?_
 cases hm
 refine⟨.inr rfl,?_⟩
 refine emr 5000 1000001 hk ?_
 exact zz
def cM (cx:Cx) (aA:List Node) (ak:List (List UInt8×Int)) (level:Int) (next:List Int) (tt:(List Int)) (ee:Exit) (Z:Env) (O:Sto):Prop:=match tt with
 | keyv=>ee=.exit 0/\EE cx (bw [(0,vX 1000000),(1,vI level),(2,.u (.one (dL next))),(7,vO 5002)] [(5002,.row 1 5 (List.map (rI .u8) keyv)),(1000000,.box [.own 1000001,.map 1000002]),(1000001,.row 2 39 (List.map Node.row aA)),(1000002,mOb .str kS (uL (L.int .i64)) ak)]) Z O
theorem gl (cx:Cx) (hn:cx.n=68) (_hk:cx.k=3) (aA:List Node) (ak:List (List UInt8×Int)) (level:Int) (next:List Int) {fu:Nat} {stt:Int×(List Int)} {tt:(List Int)} (hh:bh (b_reduce_builder_node_o_1 aA ak level next) fu stt=some tt) {Z:Env} {O:Sto}
  (hE:bA (fun stt:Int×(List Int)=>match stt with | (a,_keyv)=>[(0,vX 1000000),(1,vI level),(2,.u (.one (dL next))),(7,vO 5002),(14,.u (.one (dL next))),(15,vI (bf next)),(16,vI a)]) (fun stt:Int×(List Int)=>match stt with | (_a,keyv)=>[(5002,.row 1 5 (List.map (rI .u8) keyv)),(1000000,.box [.own 1000001,.map 1000002]),(1000001,.row 2 39 (List.map Node.row aA)),(1000002,mOb .str kS (uL (L.int .i64)) ak)]) stt Z O):Swp Tryz.prog cx (.loop (bJ [1,1,0,1,0,0] (bv Tryz.f104))) Z O (cM cx aA ak level next tt):=by
 refine bC hE hh (cM cx aA ak level next) ?_
 rintro⟨a,keyv⟩ r hm Z O hf
 simp only[Fits,bo,bn,and_true] at hf
 unfold b_reduce_builder_node_o_1 at hm
 dsimp only at hm
 refine srs hn ?_
 simp -dsimp [hf]
 refine ba ?_
 rcases bl hm with ⟨c2,hm⟩ | ⟨c2,hm⟩
 ·refine be (by simp -dsimp) c2 ?_
  refine bd (b9 (ba (bc ?_)))
  refine srs hn ?_
  obtain⟨x,h3,hm⟩:=bnd hm
  simp -dsimp [hf,c2,h3]
  refine sr1 hn ?_
  obtain⟨l,h4,hm⟩:=bnd hm
  obtain⟨h4a,h4e⟩:=bp h4
  replace h4e:=h4e.symm
  subst h4e
  try simp only[List.length_cons,List.length_nil,Nat.zero_add] at h4a
  try simp only[Nat.mul_one,Nat.reduceLeDiff] at h4a
  obtain⟨y1,h5,hm⟩:=bnd hm
  simp -dsimp [hf,h4a]
  refine clg (ev (keyv++[32]) x 10 y1 h5) [22] [5001] (by simp -dsimp) (dkL hn) ?_
  simp -dsimp
  refine bD ?_
  refine b9 ?_
  refine sr1 hn ?_
  simp -dsimp [hf]
  cases hm
  refine bI ?_
  refine emv 5001 5002 ?_
  exact zz
 ·exact zz
theorem gU (aA:List Node) (ak:List (List UInt8×Int)) (level:Int) (next:List Int) (r:Int×(List (List UInt8×Int))×(List Node)) (hm:m_reduce_builder_node_o aA ak level next=some r):GFn Tryz.prog 104 [vX 1000000,vI level,.u (.one (dL next))] [.box [.own 1000001,.map 1000002],.row 2 39 (List.map Node.row aA),mOb .str kS (uL (L.int .i64)) ak] (vI r.1) [some (.box [.own 1000003,.map 1000002]),none,some (mOb .str kS (uL (L.int .i64)) r.2.1),some (.row 2 39 (List.map Node.row r.2.2))]:=by
 refine bG bq _ Tryz.func104 rfl (by kernel_rfl) (by simp[Tryz.ntmps104]) (by simp) (by first | rfl | simp) (by first | rfl | simp) fun cx hn hk=>?_
 replace hn:cx.n=68:=hn.trans Tryz.ntmps104
 replace hk:cx.k=3:=hk
 unfold m_reduce_builder_node_o at hm
 refine srs hn ?_
 simp -dsimp
 refine srs hn ?_
 obtain⟨y,h1,hm⟩:=bnd hm
 simp -dsimp
 refine clg (ew level 10 y h1) [] [5000] (by simp -dsimp) (dkL hn) ?_
 simp -dsimp
 refine ba ?_
 refine srs hn ?_
 simp -dsimp
 refine bc ?_
 obtain⟨keyv,g6,hm⟩:=bnd hm
 refine bu (gl cx hn hk aA ak level next g6) (by
   try dsimp only
   refine emv 5000 5002 ?_
   exact zz
 ) fun ee Z O xx=>?_
 unfold cM at xx
 dsimp only at xx
 obtain⟨rfl,xx⟩:=xx
 refine bz ?_
 refine b9 ?_
 refine see xx fun Z O hf=>?_
 simp only[Fits,bo,bn,and_true] at hf
 refine ba ?_
 refine cO bq mixed (by rw[hn]; kernel_rfl) ?_
 obtain⟨u,h7,hm⟩:=bnd hm
 simp -dsimp [hf,fQ h7,(@id (lkM (gO (mOb .str kS (uL (L.int .i64)) ak) (.str (ofBytes keyv))) true (.one (dI 0))=some (.tup [.one (dI (mgetD ak (ofBytes keyv) 0)),.one (.d (.bool (eu ak (ofBytes keyv))))])) (lk_two (ofBytes keyv) 0))]
 refine srs hn ?_
 simp -dsimp
 rcases bl hm with ⟨c8,hm⟩ | ⟨c8,hm⟩
 ·refine be (b:=(eu ak (ofBytes keyv))) (by simp -dsimp) c8 ?_
  refine srs hn ?_
  simp -dsimp [c8]
  refine bE (eZ ?_)
  cases hm
  refine⟨.inr rfl,?_⟩
  refine emr 1000001 1000003 hk ?_
  exact zz
 ·refine bi (b:=(eu ak (ofBytes keyv))) (by simp -dsimp) c8 ?_
  refine bd (b9 ?_)
  refine srs hn ?_
  obtain⟨l,h9,hm⟩:=bnd hm
  obtain⟨h9a,h9e⟩:=bp h9
  replace h9e:=h9e.symm
  subst h9e
  try simp only[List.length_cons,List.length_nil,Nat.zero_add] at h9a
  simp -dsimp [hf,c8,h9a]
  refine fg bq mixed 12 (by rw[hn]; kernel_rfl) ?_
  dsimp only [List.take,List.drop]
  simp -dsimp [hf,fQ h7,(@id (msetOb (mOb .str kS (uL (L.int .i64)) ak) (.str (ofBytes keyv)) (.one (dI (br .i64 ((bf aA)+1) 1)))=mOb .str kS (uL (L.int .i64)) (msetL ak (ofBytes keyv) (br .i64 ((bf aA)+1) 1))) (mset_ob .str kS (uL (L.int .i64)) ak (ofBytes keyv) (br .i64 ((bf aA)+1) 1)))]
  refine srs hn ?_
  simp -dsimp [hf]
  refine bE ?_
  cases hm
  refine⟨.inr rfl,?_⟩
  refine emr 47 1000003 hk ?_
  exact zz
theorem dU (l r:List Point) (hm:m_slices_Clone_api_Point_api_Point l=some r):PFn Tryz.prog 105 [.u (.one (dR2 l))] (fun v=>v.wk (.u (.one (dR2 r)))):=by
 refine pfn_E bq _ Tryz.func105 rfl (by kernel_rfl) (by simp[Tryz.ntmps105]) fun cx hn=>?_
 replace hn:cx.n=8:=hn.trans Tryz.ntmps105
 have ha:=(bp hm).1
 have hr:r=l:=(bp hm).2
 clear hm
 subst hr
 simp only[List.length_nil,Nat.zero_add] at ha
 refine srs hn ?_
 simp -dsimp
 refine ba ?_
 refine srs hn ?_
 cases r with
 | nil =>
  simp -dsimp
  refine⟨?_,?_⟩
  ·refine be (b:=true) (by simp -dsimp) rfl ?_
   refine srs hn ?_
   simp -dsimp
   refine bE (eZ ?_)
   refine⟨.inr rfl,EE.here ?_⟩; simp -dsimp
  ·refine bi (b:=false) (by simp -dsimp) rfl ?_
   refine bd (b9 ?_)
   refine srs hn ?_
   simp -dsimp
   refine bE ?_
   refine⟨.inr rfl,EE.here ?_⟩; simp -dsimp
 | cons x xs =>
  simp -dsimp
  refine bi (b:=false) (by simp -dsimp) rfl ?_
  refine bd (b9 ?_)
  refine srs hn ?_
  simp only[List.length_cons] at ha
  simp -dsimp [ha]
  refine bE ?_
  refine⟨.inr rfl,EE.here ?_⟩; simp -dsimp
theorem cH (l r:List Point) (hm:m_slices_Clone_api_Point_api_Point l=some r):PureCall Tryz.prog 105 [.u (.one (dR2 l))] (.u (.one (dR2 r))):=(dU l r hm).pureW
end Go.Proofs.YtnkmjlncmlmnbaaGreatDoor
