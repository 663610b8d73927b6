/- That the code does what the functions say (made by cc.py). -/
import Derived.Test.YtlifofijgddjkabGreatDoorWa6
namespace Go.Proofs.YtlifofijgddjkabGreatDoor
open Go.AM Go.Proofs
set_option maxRecDepth 100000
attribute [-simp] qlookup cz dQ Ob.wipe Ob.ren Ob.frz1
theorem c_generations_Plain (t r:Ar) (hm:m_generations_Plain t=some r):PureCall Tryz.prog 101 [.u (.agg [dR1 t.Hood,dI t.States,dL t.Birth,dL t.Survive])] (.u (.agg [dR1 r.Hood,dI r.States,dL r.Birth,dL r.Survive])):=by
 refine bf Tryz.func101 Tryz.ntmps101 fun cx hn=>?_
 unfold m_generations_Plain at hm
 refine srs hn ?_
 simp -dsimp
 refine aN ?_
 refine srs hn ?_
 obtain⟨y,h1,hm⟩:=bnd hm
 simp -dsimp
 refine aL (bL t y h1) (dkL hn) ?_
 exact zz
theorem gb (i:Int) (r:List UInt8) (hm:m_internal_strconv_small i=some r):PureCall Tryz.prog 186 [vI i] (.u (.one (.d (.str (bs r))))):=by
 refine bf Tryz.func186 Tryz.ntmps186 fun cx hn=>?_
 unfold m_internal_strconv_small at hm
 exact zz
theorem fc (i base:Int) (r:List UInt8) (hm:m_internal_strconv_FormatInt i base=some r):PureCall Tryz.prog 175 [vI i,vI base] (.u (.one (.d (.str (bs r))))):=by
 refine bf Tryz.func175 Tryz.ntmps175 fun cx hn=>?_
 unfold m_internal_strconv_FormatInt at hm
 refine srs hn ?_
 simp -dsimp
 refine aN ?_
 refine srs hn ?_
 simp -dsimp
 rcases aU hm with ⟨c1,hm⟩ | ⟨c1,hm⟩
 ·refine sct c1 ?_
  refine aN ?_
  obtain⟨a,j7,hm⟩:=bnd hm
  refine scE [(0,vI i),(17,vT a)] [] ?_ fun Z O hf=>?_
  ·replace hm:=j7
   clear j7
   exact zz
  ·clear j7
   simp only[Fits,aZ,b6,and_true] at hf
   rcases aU hm with ⟨c3,hm⟩ | ⟨c3,hm⟩
   ·refine aQ (by simp -dsimp [hf]) c3 ?_
    refine srs hn ?_
    obtain⟨y,h4,hm⟩:=bnd hm
    simp -dsimp [hf]
    refine aL (gb i y h4) (dkL hn) ?_
    exact zz
   ·refine aR (by simp -dsimp [hf]) c3 ?_
    refine aP (aM ?_)
    refine srs hn ?_
    simp -dsimp
    refine srs hn ?_
    simp -dsimp [hf]
    obtain⟨u,j6,hm⟩:=bnd hm
    refine scE [(0,vI i),(5,vX 5),(6,.u (.one (.d (.int .u64 u))))] [(5,.box (List.map (cI .u8) [0,0,0,0,0,0,0,0,0,0,0,0,0,0,0,0,0,0,0,0,0,0,0,0]))] ?_ fun Z O hf=>?_
    ·replace hm:=j6
     clear j6
     exact zz
    ·clear j6
     exact zz
 ·exact zz
theorem gm (i:Int) (r:List UInt8) (hm:m_internal_strconv_Itoa i=some r):PureCall Tryz.prog 151 [vI i] (.u (.one (.d (.str (bs r))))):=by
 refine bf Tryz.func151 Tryz.ntmps151 fun cx hn=>?_
 unfold m_internal_strconv_Itoa at hm
 refine srs hn ?_
 simp -dsimp
 refine srs hn ?_
 obtain⟨y,h1,hm⟩:=bnd hm
 simp -dsimp
 refine aL (fc i 10 y h1) (dkL hn) ?_
 exact zz
theorem c_strconv_Itoa (i:Int) (r:List UInt8) (hm:m_strconv_Itoa i=some r):PureCall Tryz.prog 102 [vI i] (.u (.one (.d (.str (bs r))))):=by
 refine bf Tryz.func102 Tryz.ntmps102 fun cx hn=>?_
 unfold m_strconv_Itoa at hm
 refine srs hn ?_
 simp -dsimp
 refine srs hn ?_
 obtain⟨y,h1,hm⟩:=bnd hm
 simp -dsimp
 refine aL (gm i y h1) (dkL hn) ?_
 exact zz
theorem c_generations_Text (t:Ar) (r:List UInt8) (hm:m_generations_Text t=some r):PureCall Tryz.prog 52 [.u (.agg [dR1 t.Hood,dI t.States,dL t.Birth,dL t.Survive])] (.u (.one (.d (.str (bs r))))):=by
 refine bf Tryz.func52 Tryz.ntmps52 fun cx hn=>?_
 unfold m_generations_Text at hm
 refine srs hn ?_
 simp -dsimp
 refine aN ?_
 obtain⟨a,j16,hm⟩:=bnd hm
 refine scE [(1,vX 1),(13,vT a)] [(1,.box [dR1 t.Hood,dI t.States,dL t.Birth,dL t.Survive])] ?_ fun Z O hf=>?_
 ·replace hm:=j16
  clear j16
  refine sr1 hn ?_
  obtain⟨y,h1,hm⟩:=bnd hm
  simp -dsimp
  refine aL (bL t y h1) (dkL hn) ?_
  exact zz
 ·clear j16
  simp only[Fits,aZ,b6,and_true] at hf
  rcases aU hm with ⟨c3,hm⟩ | ⟨c3,hm⟩
  ·exact zz
  ·refine aR (by simp -dsimp [hf]) c3 ?_
   refine aP (aM ?_)
   refine srs hn ?_
   obtain⟨y,h4,hm⟩:=bnd hm
   simp -dsimp [hf]
   refine aL (c_generations_Plain t y h4) (dkL hn) ?_
   obtain⟨y1,h5,hm⟩:=bnd hm
   simp -dsimp
   refine aL (c_lifelike_Text y y1 h5) (dkL hn) ?_
   simp -dsimp
   refine srs hn ?_
   simp -dsimp
   obtain⟨⟨s,end_⟩,j15,hm⟩:=bnd hm
   refine scE [(1,vX 1),(3,.u (.one (.d (.str (bs s))))),(4,.u (.one (.d (.str (bs end_)))))] [(1,.box [dR1 t.Hood,dI t.States,dL t.Birth,dL t.Survive])] ?_ fun Z O hf=>?_
   ·replace hm:=j15
    clear j15
    refine srs hn ?_
    obtain⟨s,h6,hm⟩:=bnd hm
    simp -dsimp [h6]
    obtain⟨a1,j10,hm⟩:=bnd hm
    refine scE [(1,vX 1),(3,.u (.one (.d (.str (bs y1))))),(4,.u (.one (.d (.str (bs ([]:List UInt8)))))),(5,.u (.one (.d (.str (bs s))))),(27,vT a1)] [(1,.box [dR1 t.Hood,dI t.States,dL t.Birth,dL t.Survive])] ?_ fun Z O hf=>?_
    ·replace hm:=j10
     clear j10
     exact zz
    ·clear j10
     exact zz
   ·clear j15
    simp only[Fits,aZ,b6,and_true] at hf
    refine srs hn ?_
    obtain⟨s1,h11,hm⟩:=bnd hm
    obtain⟨y2,h12,hm⟩:=bnd hm
    simp -dsimp [hf,h11]
    refine aL (c_strconv_Itoa t.States y2 h12) (dkL hn) ?_
    exact zz
theorem c_notation_Canon (s:List UInt8) (r:(List UInt8)×Int) (hm:m_notation_Canon s=some r):PureCall Tryz.prog 17 [.u (.one (.d (.str (bs s))))] (.tup [.one (.d (.str (bs r.1))),.one (dI r.2)]):=by
 refine bf Tryz.func17 Tryz.ntmps17 fun cx hn=>?_
 unfold m_notation_Canon at hm
 refine srs hn ?_
 simp -dsimp
 refine srs hn ?_
 simp -dsimp
 obtain⟨⟨out,e_⟩,j14,hm⟩:=bnd hm
 refine scE [(4,.u (.one (.d (.str (bs out))))),(5,vI e_)] [] ?_ fun Z O hf=>?_
 ·replace hm:=j14
  clear j14
  refine srs hn ?_
  obtain⟨y,h1,hm⟩:=bnd hm
  simp -dsimp
  refine aL (bH s y h1) (dkL hn) ?_
  simp -dsimp
  refine aS ?_
  refine srs hn ?_
  simp -dsimp
  rcases aU hm with ⟨c2,hm⟩ | ⟨c2,hm⟩
  ·refine aQ (by simp -dsimp) c2 ?_
   refine srs hn ?_
   simp -dsimp [c2]
   refine srs hn ?_
   obtain⟨y1,h3,hm⟩:=bnd hm
   simp -dsimp
   refine aL (du s y1 h3) (dkL hn) ?_
   simp -dsimp
   refine sr1 hn ?_
   obtain⟨y2,h4,hm⟩:=bnd hm
   simp -dsimp
   refine aL (c_lifelike_Text y1.1 y2 h4) (dkL hn) ?_
   exact zz
  ·refine aR (by simp -dsimp) c2 ?_
   refine srs hn ?_
   simp -dsimp [c2]
   rcases aU hm with ⟨c5,hm⟩ | ⟨c5,hm⟩
   ·refine aQ (by simp -dsimp) c5 ?_
    refine srs hn ?_
    simp -dsimp [c5]
    refine srs hn ?_
    obtain⟨y1,h6,hm⟩:=bnd hm
    simp -dsimp
    refine aL (cM s y1 h6) (dkL hn) ?_
    simp -dsimp
    refine sr1 hn ?_
    obtain⟨y2,h7,hm⟩:=bnd hm
    simp -dsimp
    refine aL (c_generations_Text y1.1 y2 h7) (dkL hn) ?_
    exact zz
   ·refine aR (by simp -dsimp) c5 ?_
    obtain⟨a,j12,hm⟩:=bnd hm
    refine scE [(0,.u (.one (.d (.str (bs s))))),(4,.u (.one (.d (.str (bs ([]:List UInt8)))))),(5,vI 7),(10,vI y),(29,vT a)] [] ?_ fun Z O hf=>?_
    ·replace hm:=j12
     clear j12
     exact zz
    ·clear j12
     simp only[Fits,aZ,b6,and_true] at hf
     rcases aU hm with ⟨c9,hm⟩ | ⟨c9,hm⟩
     ·refine aQ (by simp -dsimp [hf]) c9 ?_
      refine srs hn ?_
      obtain⟨y1,h10,hm⟩:=bnd hm
      simp -dsimp [hf]
      refine aL (f8 s y1 h10) (dkL hn) ?_
      exact zz
     ·exact zz
 ·clear j14
  exact zz
def F_tree_Right_2 (cx:Cx) (t:Tree) (a1:Int) (_x:Node) (tt:Bool ⊕ Unit) (ee:Exit) (Z:Env) (O:Sto):Prop:=match tt with
 | .inl r=>ee=.ret/\EE cx (fun Z O=>∃ v,ez tb Z O Tryz.f42.results.toList=some v/\(v.frz O).free=true/\(v.frz O).wk (vT r)) Z O
 | .inr _u=>ee=.exit 2/\EE cx (be [(1,vX 1),(47,.u (.one (dR0 t.Nodes))),(48,vI (aO t.Nodes)),(49,vI a1)] [(1,.box [dI t.States,dR1 t.Hood,dR0 t.Nodes])]) Z O
theorem l_tree_Right_2 (cx:Cx) (hn:cx.n=117) (t:Tree) (a1:Int) (x:Node) {fu:Nat} {stt:Int} {tt:Bool ⊕ Unit} (hh:aT (b_tree_Right_2 t a1 x) fu stt=some tt) {Z:Env} {O:Sto}
  (hE:bz (fun a3:Int=>[(1,vX 1),(4,vI a1),(5,vX 5),(47,.u (.one (dR0 t.Nodes))),(48,vI (aO t.Nodes)),(49,vI a1),(74,.u (.one (dL x.Next))),(75,vI (aO x.Next)),(76,vI a3)]) (fun _a3:Int=>[(1,.box [dI t.States,dR1 t.Hood,dR0 t.Nodes]),(5,.box [dI x.Level,dL x.Next])]) stt Z O):Swp Tryz.prog cx (.loop (bW [1,1,1,0,1,0,0,1,1,0,0,1,1,1,0,0] (bd Tryz.f42))) Z O (F_tree_Right_2 cx t a1 x tt):=by
 refine bC hE hh (F_tree_Right_2 cx t a1 x) ?_
 rintro a3 r hm Z O hf
 simp only[Fits,aZ,b6,and_true] at hf
 unfold b_tree_Right_2 at hm
 dsimp only at hm
 refine srs hn ?_
 simp -dsimp [hf]
 refine aN ?_
 rcases aU hm with ⟨c14,hm⟩ | ⟨c14,hm⟩
 ·refine aQ (by simp -dsimp) c14 ?_
  refine aP (aM (aN (aS ?_)))
  refine srs hn ?_
  obtain⟨x1,h15,hm⟩:=bnd hm
  simp -dsimp [hf,c14,h15]
  obtain⟨a4,j26,hm⟩:=bnd hm
  refine scE [(1,vX 1),(4,vI a1),(5,vX 5),(47,.u (.one (dR0 t.Nodes))),(48,vI (aO t.Nodes)),(49,vI a1),(74,.u (.one (dL x.Next))),(75,vI (aO x.Next)),(76,vI a3),(114,vT a4)] [(1,.box [dI t.States,dR1 t.Hood,dR0 t.Nodes]),(5,.box [dI x.Level,dL x.Next])] ?_ fun Z O hf=>?_
  ·replace hm:=j26
   clear j26
   exact zz
  ·clear j26
   exact zz
 ·exact zz
def F_tree_Right_1 (cx:Cx) (_t:Tree) (tt:Bool ⊕ Unit) (ee:Exit) (Z:Env) (O:Sto):Prop:=match tt with
 | .inl r=>ee=.ret/\EE cx (fun Z O=>∃ v,ez tb Z O Tryz.f42.results.toList=some v/\(v.frz O).free=true/\(v.frz O).wk (vT r)) Z O
 | .inr _u=>ee=.exit 0/\EE cx (be [] []) Z O
theorem l_tree_Right_1 (cx:Cx) (hn:cx.n=117) (t:Tree) {fu:Nat} {stt:Int} {tt:Bool ⊕ Unit} (hh:aT (b_tree_Right_1 t) fu stt=some tt) {Z:Env} {O:Sto}
  (hE:bz (fun a1:Int=>[(1,vX 1),(47,.u (.one (dR0 t.Nodes))),(48,vI (aO t.Nodes)),(49,vI a1)]) (fun _a1:Int=>[(1,.box [dI t.States,dR1 t.Hood,dR0 t.Nodes])]) stt Z O):Swp Tryz.prog cx (.loop (bW [1,1,1,0,1,0,0] (bd Tryz.f42))) Z O (F_tree_Right_1 cx t tt):=by
 refine bC hE hh (F_tree_Right_1 cx t) ?_
 rintro a1 r hm Z O hf
 simp only[Fits,aZ,b6,and_true] at hf
 unfold b_tree_Right_1 at hm
 dsimp only at hm
 refine srs hn ?_
 simp -dsimp [hf]
 refine aN ?_
 rcases aU hm with ⟨c9,hm⟩ | ⟨c9,hm⟩
 ·refine aQ (by simp -dsimp) c9 ?_
  refine aP (aM (aN (aS ?_)))
  refine srs hn ?_
  obtain⟨x,h10,hm⟩:=bnd hm
  simp -dsimp [hf,c9,h10]
  refine aN ?_
  obtain⟨a2,j28,hm⟩:=bnd hm
  refine scE [(1,vX 1),(4,vI a1),(5,vX 5),(47,.u (.one (dR0 t.Nodes))),(48,vI (aO t.Nodes)),(49,vI a1),(72,vT a2)] [(1,.box [dI t.States,dR1 t.Hood,dR0 t.Nodes]),(5,.box [dI x.Level,dL x.Next])] ?_ fun Z O hf=>?_
  ·replace hm:=j28
   clear j28
   exact zz
  ·clear j28
   simp only[Fits,aZ,b6,and_true] at hf
   rcases aU hm with ⟨c13,hm⟩ | ⟨c13,hm⟩
   ·exact zz
   ·refine aR (by simp -dsimp [hf]) c13 ?_
    refine aP (aM ?_)
    refine srs hn ?_
    simp -dsimp [hf]
    refine aS ?_
    obtain⟨o_,g27,hm⟩:=bnd hm
    refine bc (l_tree_Right_2 cx hn t a1 x g27) (by
      try dsimp only
      refine EE.here ?_
      exact zz
    ) fun ee Z O xx=>?_
    rcases o_ with r | _u
    ·exact zz
    ·exact zz
 ·exact zz
theorem dx (t:Tree) (r:Bool) (hm:m_tree_Right t=some r):PureCall Tryz.prog 42 [.u (.agg [dI t.States,dR1 t.Hood,dR0 t.Nodes])] (vT r):=by
 refine bf Tryz.func42 Tryz.ntmps42 fun cx hn=>?_
 unfold m_tree_Right at hm
 refine srs hn ?_
 simp -dsimp
 refine srs hn ?_
 simp -dsimp
 refine aN ?_
 obtain⟨a,j30,hm⟩:=bnd hm
 refine scE [(1,vX 1),(45,vT a)] [(1,.box [dI t.States,dR1 t.Hood,dR0 t.Nodes])] ?_ fun Z O hf=>?_
 ·replace hm:=j30
  clear j30
  refine sw_qt bh mixed (by rw[hn]; kernel_rfl) ?_
  rcases aU hm with ⟨c1,hm⟩ | ⟨c1,hm⟩
  ·exact zz
  ·rcases aU hm with ⟨c2,hm⟩ | ⟨c2,hm⟩
   ·exact zz
   ·obtain⟨y,h3,hm⟩:=bnd hm
    simp -dsimp [c1,c2]
    refine aV (gt t.Hood y h3) ?_
    exact zz
 ·clear j30
  simp only[Fits,aZ,b6,and_true] at hf
  rcases aU hm with ⟨c8,hm⟩ | ⟨c8,hm⟩
  ·exact zz
  ·refine aR (by simp -dsimp [hf]) c8 ?_
   refine aP (aM (aN ?_))
   refine srs hn ?_
   simp -dsimp [hf]
   refine aS ?_
   obtain⟨o_,g29,hm⟩:=bnd hm
   refine bc (l_tree_Right_1 cx hn t g29) (by
     try dsimp only
     exact EE.here (by simp -dsimp [hf])
   ) fun ee Z O xx=>?_
   rcases o_ with r | _u
   ·exact zz
   ·exact zz
theorem c_tree_Eval_1 (s:Int) (a:Tree) (r:Bool) (hm:m_tree_Eval_1 s a=some r):PureCall Tryz.prog 44 [vI s,.u (.one (.ref (Tree.row a) 0))] (vT r):=by
 refine bf Tryz.func44 Tryz.ntmps44 fun cx hn=>?_
 unfold m_tree_Eval_1 at hm
 refine srs hn ?_
 simp -dsimp
 obtain⟨a1,j2,hm⟩:=bnd hm
 refine scE [(3,vT a1)] [] ?_ fun Z O hf=>?_
 ·replace hm:=j2
  clear j2
  exact zz
 ·clear j2
  exact zz
def bS (cx:Cx) (_s:List Int) (_cv:Tree) (tt:Int ⊕ Unit) (ee:Exit) (Z:Env) (O:Sto):Prop:=match tt with
 | .inl r=>ee=.ret/\EE cx (fun Z O=>∃ v,ez tb Z O Tryz.f92.results.toList=some v/\(v.frz O).free=true/\(v.frz O).wk (vI r)) Z O
 | .inr _u=>ee=.exit 0/\EE cx (be [] []) Z O
theorem dd (cx:Cx) (hn:cx.n=19) (s:List Int) (cv:Tree) {fu:Nat} {stt:Int} {tt:Int ⊕ Unit} (hh:aT (b_slices_IndexFunc_int_int_tree_Eval_1_1 s cv) fu stt=some tt) {Z:Env} {O:Sto}
  (hE:bz (fun a:Int=>[(0,.u (.one (dL s))),(1,.u (.one (.fn 44 [.ref (Tree.row cv) 0]))),(7,vI (aO s)),(8,vI a)]) (fun _a:Int=>[]) stt Z O):Swp Tryz.prog cx (.loop (bW [1,0,1,0,0] (bd Tryz.f92))) Z O (bS cx s cv tt):=by
 refine bC hE hh (bS cx s cv) ?_
 rintro a r hm Z O hf
 simp only[Fits,aZ,b6,and_true] at hf
 unfold b_slices_IndexFunc_int_int_tree_Eval_1_1 at hm
 dsimp only at hm
 refine srs hn ?_
 simp -dsimp [hf]
 refine aN ?_
 rcases aU hm with ⟨c1,hm⟩ | ⟨c1,hm⟩
 ·refine aQ (by simp -dsimp) c1 ?_
  refine aP (aM (aN (aS ?_)))
  refine srs hn ?_
  simp -dsimp [hf,c1]
  refine srs hn ?_
  obtain⟨x,h2,hm⟩:=bnd hm
  obtain⟨y,h3,hm⟩:=bnd hm
  simp -dsimp [hf,h2]
  refine aL (c_tree_Eval_1 x cv y h3) (dkL hn) ?_
  exact zz
 ·exact zz
theorem dq (s:List Int) (cv:Tree) (r:Int) (hm:m_slices_IndexFunc_int_int_tree_Eval_1 s cv=some r):PureCall Tryz.prog 92 [.u (.one (dL s)),.u (.one (.fn 44 [.ref (Tree.row cv) 0]))] (vI r):=by
 refine bf Tryz.func92 Tryz.ntmps92 fun cx hn=>?_
 unfold m_slices_IndexFunc_int_int_tree_Eval_1 at hm
 refine srs hn ?_
 simp -dsimp
 refine aN ?_
 refine srs hn ?_
 simp -dsimp
 refine aS ?_
 obtain⟨o_,g5,hm⟩:=bnd hm
 refine bc (dd cx hn s cv g5) (by
   try dsimp only
   exact eeh
 ) fun ee Z O xx=>?_
 rcases o_ with r | _u
 ·exact zz
 ·exact zz
theorem d7 (s:List Int) (cv:Tree) (r:Bool) (hm:m_slices_ContainsFunc_int_int_tree_Eval_1 s cv=some r):PureCall Tryz.prog 43 [.u (.one (dL s)),.u (.one (.fn 44 [.ref (Tree.row cv) 0]))] (vT r):=by
 refine bf Tryz.func43 Tryz.ntmps43 fun cx hn=>?_
 unfold m_slices_ContainsFunc_int_int_tree_Eval_1 at hm
 refine srs hn ?_
 simp -dsimp
 refine srs hn ?_
 obtain⟨y,h1,hm⟩:=bnd hm
 simp -dsimp
 refine aL (dq s cv y h1) (dkL hn) ?_
 simp -dsimp
 exact zz
def F_tree_value_1 (cx:Cx) (_t:Tree) (_in_:List Int) (tt:Int) (ee:Exit) (Z:Env) (O:Sto):Prop:=match tt with
 | k=>ee=.exit 0/\EE cx (be [(5,vI k)] []) Z O
theorem l_tree_value_1 (cx:Cx) (hn:cx.n=29) (t:Tree) (in_:List Int) {fu:Nat} {stt:Int×Int} {tt:Int} (hh:aT (b_tree_value_1 t in_) fu stt=some tt) {Z:Env} {O:Sto}
  (hE:bz (fun stt:Int×Int=>match stt with | (k,a)=>[(2,vX 2),(5,vI k),(12,.u (.one (dL in_))),(13,vI (aO in_)),(14,vI a)]) (fun stt:Int×Int=>match stt with | (_k,_a)=>[(2,.box [dI t.States,dR1 t.Hood,dR0 t.Nodes])]) stt Z O):Swp Tryz.prog cx (.loop (bW [1,1,0,1,0,0] (bd Tryz.f45))) Z O (F_tree_value_1 cx t in_ tt):=by
 refine bC hE hh (F_tree_value_1 cx t in_) ?_
 rintro⟨k,a⟩ r hm Z O hf
 simp only[Fits,aZ,b6,and_true] at hf
 unfold b_tree_value_1 at hm
 exact zz
theorem c_tree_value (t:Tree) (in_:List Int) (r:Int) (hm:m_tree_value t in_=some r):PureCall Tryz.prog 45 [.u (.agg [dI t.States,dR1 t.Hood,dR0 t.Nodes]),.u (.one (dL in_))] (vI r):=by
 refine bf Tryz.func45 Tryz.ntmps45 fun cx hn=>?_
 unfold m_tree_value at hm
 refine srs hn ?_
 simp -dsimp
 refine srs hn ?_
 simp -dsimp
 refine aN ?_
 refine srs hn ?_
 simp -dsimp
 refine aS ?_
 obtain⟨k,g5,hm⟩:=bnd hm
 refine bc (l_tree_value_1 cx hn t in_ g5) (by
   try dsimp only
   exact eeh
 ) fun ee Z O xx=>?_
 exact zz
theorem c_tree_Eval (t:Tree) (in_:List Int) (r:Int×Int) (hm:m_tree_Eval t in_=some r):PureCall Tryz.prog 12 [.u (.agg [dI t.States,dR1 t.Hood,dR0 t.Nodes]),.u (.one (dL in_))] (.tup [.one (dI r.1),.one (dI r.2)]):=by
 refine bf Tryz.func12 Tryz.ntmps12 fun cx hn=>?_
 unfold m_tree_Eval at hm
 refine srs hn ?_
 simp -dsimp
 refine aN (aS ?_)
 refine srs hn ?_
 obtain⟨y,h1,hm⟩:=bnd hm
 simp -dsimp
 refine aL (dx t y h1) (dkL hn) ?_
 simp -dsimp
 rcases aU hm with ⟨c2,hm⟩ | ⟨c2,hm⟩
 ·exact zz
 ·refine aR (by simp -dsimp) c2 ?_
  refine srs hn ?_
  simp -dsimp [c2]
  rcases aU hm with ⟨c3,hm⟩ | ⟨c3,hm⟩
  ·exact zz
  ·refine aR (by simp -dsimp) c3 ?_
   refine srs hn ?_
   obtain⟨y1,h4,hm⟩:=bnd hm
   simp -dsimp [c3]
   refine eI (us':=[.u (.one (dL in_)),.u (.one (.fn 44 [.ref (Tree.row t) 0]))]) (d7 in_ t y1 h4) (by simp -dsimp) rfl (dkL hn) ?_
   simp -dsimp
   rcases aU hm with ⟨c5,hm⟩ | ⟨c5,hm⟩
   ·exact zz
   ·refine aR (by simp -dsimp) c5 ?_
    refine aP ?_
    refine bN ?_
    refine aM ?_
    refine srs hn ?_
    obtain⟨y2,h6,hm⟩:=bnd hm
    simp -dsimp [c5]
    refine aL (c_tree_value t in_ y2 h6) (dkL hn) ?_
    exact zz
theorem cY (l r:List Int) (hm:m_slices_Clone_int_int l=some r):NewFn Tryz.prog 166 [.u (.one (dL l))] (fun o=>o=.row 1 3 (List.map (rI .i64) r)):=by
 refine new_S bh _ Tryz.func166 rfl (by kernel_rfl) (by simp[Tryz.ntmps166]) fun cx hn=>?_
 replace hn:cx.n=8:=hn.trans Tryz.ntmps166
 have ha:=(aW hm).1
 have hr:r=l:=(aW hm).2
 clear hm
 subst hr
 simp only[List.length_nil,Nat.zero_add] at ha
 refine srs hn ?_
 simp -dsimp
 refine aN ?_
 refine srs hn ?_
 cases r with
 | nil =>
  simp -dsimp
  refine⟨?_,?_⟩
  ·refine aQ (b:=true) (by simp -dsimp) rfl ?_
   refine srs hn ?_
   simp -dsimp
   refine aY (dT ?_)
   refine⟨.inr rfl,?_⟩; simp -dsimp
  ·refine aR (b:=false) (by simp -dsimp) rfl ?_
   refine aP (aM ?_)
   refine srs hn ?_
   simp -dsimp
   refine aY ?_
   refine⟨.inr rfl,?_⟩; simp -dsimp
 | cons x xs =>
  simp -dsimp
  refine aR (b:=false) (by simp -dsimp) rfl ?_
  refine aP (aM ?_)
  refine srs hn ?_
  simp only[List.length_cons] at ha
  simp -dsimp [ha]
  refine aY ?_
  refine⟨.inr rfl,?_⟩; simp -dsimp
theorem fZ (x:Int) (next r:List Int) (hm:m_reduce_Reduce_1 x next=some r):PureCall Tryz.prog 130 [vI x,.u (.one (dL next))] (.u (.one (dL r))):=by
 refine bf Tryz.func130 Tryz.ntmps130 fun cx hn=>?_
 unfold m_reduce_Reduce_1 at hm
 exact zz
theorem eH (i base:Int) (r:List Int) (hm:m_internal_strconv_AppendInt_N i base=some r):GFn Tryz.prog 159 [.u (.one (.d .nil)),vI i,vI base] [] (vO 1000000) [some (.row 1 5 (List.map (rI .u8) r))]:=by
 refine bT bh _ Tryz.func159 rfl (by kernel_rfl) (by simp[Tryz.ntmps159]) (by simp) (by first | rfl | simp) (by first | rfl | simp) fun cx hn hk=>?_
 replace hn:cx.n=21:=hn.trans Tryz.ntmps159
 replace hk:cx.k=0:=hk
 unfold m_internal_strconv_AppendInt_N at hm
 refine srs hn ?_
 simp -dsimp
 refine srs hn ?_
 simp -dsimp
 obtain⟨⟨u,dst⟩,j4,hm⟩:=bnd hm
 refine scE [(0,vO 5000),(2,vI base),(7,.u (.one (.d (.int .u64 u))))] [(5000,.row 1 5 (List.map (rI .u8) dst))] ?_ fun Z O hf=>?_
 ·replace hm:=j4
  clear j4
  refine srs hn ?_
  simp -dsimp
  rcases aU hm with ⟨c1,hm⟩ | ⟨c1,hm⟩
  ·refine sct c1 ?_
   refine srs hn ?_
   obtain⟨l,h2,hm⟩:=bnd hm
   obtain⟨h2a,h2e⟩:=aW h2
   replace h2e:=h2e.symm
   subst h2e
   try simp only[List.length_cons,List.length_nil,Nat.zero_add] at h2a
   try simp only[Nat.mul_one,Nat.reduceLeDiff] at h2a
   simp -dsimp [c1]
   refine sr1 hn ?_
   simp -dsimp
   refine aM ?_
   cases hm
   refine emv 14 5000 ?_
   exact zz
  ·refine scf c1 ?_
   refine aP (aM ?_)
   cases hm
   refine EE.step (Wk.own0 0 5000 1 5 (by simp -dsimp [c1]) (by decide)) ?_
   exact zz
 ·clear j4
  simp only[Fits,aZ,b6,and_true] at hf
  refine srs hn ?_
  obtain⟨y,h3,hm⟩:=bnd hm
  simp -dsimp [hf]
  refine clg (cK dst u base y h3) [5000] [5001] (by simp -dsimp [hf]) (dkL hn) ?_
  simp -dsimp
  refine aY ?_
  cases hm
  refine⟨.inr rfl,?_⟩
  refine emr 5001 1000000 hk ?_
  exact zz
theorem eF (i base:Int) (r:List Int) (hm:m_strconv_AppendInt_N i base=some r):GFn Tryz.prog 114 [.u (.one (.d .nil)),vI i,vI base] [] (vO 1000000) [some (.row 1 5 (List.map (rI .u8) r))]:=by
 refine bT bh _ Tryz.func114 rfl (by kernel_rfl) (by simp[Tryz.ntmps114]) (by simp) (by first | rfl | simp) (by first | rfl | simp) fun cx hn hk=>?_
 replace hn:cx.n=11:=hn.trans Tryz.ntmps114
 replace hk:cx.k=0:=hk
 unfold m_strconv_AppendInt_N at hm
 refine srs hn ?_
 simp -dsimp
 refine srs hn ?_
 obtain⟨y,h1,hm⟩:=bnd hm
 simp -dsimp
 refine clg (eH i base y h1) [] [5000] (by simp -dsimp) (dkL hn) ?_
 simp -dsimp
 refine aY ?_
 cases hm
 refine⟨.inr rfl,?_⟩
 refine emr 5000 1000000 hk ?_
 exact zz
end Go.Proofs.YtlifofijgddjkabGreatDoor
