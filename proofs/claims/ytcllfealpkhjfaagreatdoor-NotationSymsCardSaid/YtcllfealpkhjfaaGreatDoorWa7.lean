/- That the code does what the functions say (made by cc.py). -/
import Derived.Test.YtcllfealpkhjfaaGreatDoorWa5
namespace Go.Proofs.YtcllfealpkhjfaaGreatDoor
open Go.AM Go.Proofs
set_option maxRecDepth 100000
attribute [-simp] qlookup cd cW Ob.wipe Ob.ren Ob.frz1
theorem c_generations_Plain (t r:Aw) (hm:m_generations_Plain t=some r):PureCall Tryz.prog 87 [.u (.agg [dR1 t.Hood,dI t.States,dL t.Birth,dL t.Survive])] (.u (.agg [dR1 r.Hood,dI r.States,dL r.Birth,dL r.Survive])):=by
 refine bo Tryz.func87 Tryz.ntmps87 fun cx hn=>?_
 unfold m_generations_Plain at hm
 refine srs hn ?_
 simp -dsimp
 refine aS ?_
 refine srs hn ?_
 obtain⟨y,h1,hm⟩:=bnd hm
 simp -dsimp
 refine aR (bY t y h1) (dkL hn) ?_
 exact zz
theorem gC (i:Int) (r:List UInt8) (hm:m_internal_strconv_small i=some r):PureCall Tryz.prog 197 [vI i] (.u (.one (.d (.str (bs r))))):=by
 refine bo Tryz.func197 Tryz.ntmps197 fun cx hn=>?_
 unfold m_internal_strconv_small at hm
 exact zz
theorem fh (i base:Int) (r:List UInt8) (hm:m_internal_strconv_FormatInt i base=some r):PureCall Tryz.prog 175 [vI i,vI base] (.u (.one (.d (.str (bs r))))):=by
 refine bo Tryz.func175 Tryz.ntmps175 fun cx hn=>?_
 unfold m_internal_strconv_FormatInt at hm
 refine srs hn ?_
 simp -dsimp
 refine aS ?_
 refine srs hn ?_
 simp -dsimp
 rcases aZ hm with ⟨c1,hm⟩ | ⟨c1,hm⟩
 ·refine sct c1 ?_
  refine aS ?_
  obtain⟨a,j7,hm⟩:=bnd hm
  refine scE [(0,vI i),(17,vT a)] [] ?_ fun Z O hf=>?_
  ·replace hm:=j7
   clear j7
   exact zz
  ·clear j7
   simp only[Fits,b8,b9,and_true] at hf
   rcases aZ hm with ⟨c3,hm⟩ | ⟨c3,hm⟩
   ·refine aV (by simp -dsimp [hf]) c3 ?_
    refine srs hn ?_
    obtain⟨y,h4,hm⟩:=bnd hm
    simp -dsimp [hf]
    refine aR (gC i y h4) (dkL hn) ?_
    exact zz
   ·refine aX (by simp -dsimp [hf]) c3 ?_
    refine aU (aQ ?_)
    refine srs hn ?_
    simp -dsimp
    refine srs hn ?_
    simp -dsimp [hf]
    obtain⟨u,j6,hm⟩:=bnd hm
    refine scE [(0,vI i),(5,vX 5),(6,.u (.one (.d (.int .u64 u))))] [(5,.box (List.map (cI .u8) [0,0,0,0,0,0,0,0,0,0,0,0,0,0,0,0,0,0,0,0,0,0,0,0]))] ?_ fun Z O hf=>?_
    ·replace hm:=j6
     clear j6
     exact zz
    ·clear j6
     exact zz
 ·exact zz
theorem gP (i:Int) (r:List UInt8) (hm:m_internal_strconv_Itoa i=some r):PureCall Tryz.prog 144 [vI i] (.u (.one (.d (.str (bs r))))):=by
 refine bo Tryz.func144 Tryz.ntmps144 fun cx hn=>?_
 unfold m_internal_strconv_Itoa at hm
 refine srs hn ?_
 simp -dsimp
 refine srs hn ?_
 obtain⟨y,h1,hm⟩:=bnd hm
 simp -dsimp
 refine aR (fh i 10 y h1) (dkL hn) ?_
 exact zz
theorem c_strconv_Itoa (i:Int) (r:List UInt8) (hm:m_strconv_Itoa i=some r):PureCall Tryz.prog 88 [vI i] (.u (.one (.d (.str (bs r))))):=by
 refine bo Tryz.func88 Tryz.ntmps88 fun cx hn=>?_
 unfold m_strconv_Itoa at hm
 refine srs hn ?_
 simp -dsimp
 refine srs hn ?_
 obtain⟨y,h1,hm⟩:=bnd hm
 simp -dsimp
 refine aR (gP i y h1) (dkL hn) ?_
 exact zz
theorem c_generations_Text (t:Aw) (r:List UInt8) (hm:m_generations_Text t=some r):PureCall Tryz.prog 27 [.u (.agg [dR1 t.Hood,dI t.States,dL t.Birth,dL t.Survive])] (.u (.one (.d (.str (bs r))))):=by
 refine bo Tryz.func27 Tryz.ntmps27 fun cx hn=>?_
 unfold m_generations_Text at hm
 refine srs hn ?_
 simp -dsimp
 refine aS ?_
 obtain⟨a,j16,hm⟩:=bnd hm
 refine scE [(1,vX 1),(13,vT a)] [(1,.box [dR1 t.Hood,dI t.States,dL t.Birth,dL t.Survive])] ?_ fun Z O hf=>?_
 ·replace hm:=j16
  clear j16
  refine sr1 hn ?_
  obtain⟨y,h1,hm⟩:=bnd hm
  simp -dsimp
  refine aR (bY t y h1) (dkL hn) ?_
  exact zz
 ·clear j16
  simp only[Fits,b8,b9,and_true] at hf
  rcases aZ hm with ⟨c3,hm⟩ | ⟨c3,hm⟩
  ·exact zz
  ·refine aX (by simp -dsimp [hf]) c3 ?_
   refine aU (aQ ?_)
   refine srs hn ?_
   obtain⟨y,h4,hm⟩:=bnd hm
   simp -dsimp [hf]
   refine aR (c_generations_Plain t y h4) (dkL hn) ?_
   obtain⟨y1,h5,hm⟩:=bnd hm
   simp -dsimp
   refine aR (c_lifelike_Text y y1 h5) (dkL hn) ?_
   simp -dsimp
   refine srs hn ?_
   simp -dsimp
   obtain⟨⟨s,end_⟩,j15,hm⟩:=bnd hm
   refine scE [(1,vX 1),(3,.u (.one (.d (.str (bs s))))),(4,.u (.one (.d (.str (bs end_)))))] [(1,.box [dR1 t.Hood,dI t.States,dL t.Birth,dL t.Survive])] ?_ fun Z O hf=>?_
   ·replace hm:=j15
    clear j15
    refine srs hn ?_
    obtain⟨s,h6,hm⟩:=bnd hm
    simp -dsimp [h6]
    obtain⟨a1,j10,hm⟩:=bnd hm
    refine scE [(1,vX 1),(3,.u (.one (.d (.str (bs y1))))),(4,.u (.one (.d (.str (bs ([]:List UInt8)))))),(5,.u (.one (.d (.str (bs s))))),(27,vT a1)] [(1,.box [dR1 t.Hood,dI t.States,dL t.Birth,dL t.Survive])] ?_ fun Z O hf=>?_
    ·replace hm:=j10
     clear j10
     exact zz
    ·clear j10
     exact zz
   ·clear j15
    simp only[Fits,b8,b9,and_true] at hf
    refine srs hn ?_
    obtain⟨s1,h11,hm⟩:=bnd hm
    obtain⟨y2,h12,hm⟩:=bnd hm
    simp -dsimp [hf,h11]
    refine aR (c_strconv_Itoa t.States y2 h12) (dkL hn) ?_
    exact zz
theorem c_notation_Canon (s:List UInt8) (r:(List UInt8)×Int) (hm:m_notation_Canon s=some r):PureCall Tryz.prog 10 [.u (.one (.d (.str (bs s))))] (.tup [.one (.d (.str (bs r.1))),.one (dI r.2)]):=by
 refine bo Tryz.func10 Tryz.ntmps10 fun cx hn=>?_
 unfold m_notation_Canon at hm
 refine srs hn ?_
 simp -dsimp
 refine srs hn ?_
 simp -dsimp
 obtain⟨⟨out,e_⟩,j14,hm⟩:=bnd hm
 refine scE [(4,.u (.one (.d (.str (bs out))))),(5,vI e_)] [] ?_ fun Z O hf=>?_
 ·replace hm:=j14
  clear j14
  refine srs hn ?_
  obtain⟨y,h1,hm⟩:=bnd hm
  simp -dsimp
  refine aR (bV s y h1) (dkL hn) ?_
  simp -dsimp
  refine aW ?_
  refine srs hn ?_
  simp -dsimp
  rcases aZ hm with ⟨c2,hm⟩ | ⟨c2,hm⟩
  ·refine aV (by simp -dsimp) c2 ?_
   refine srs hn ?_
   simp -dsimp [c2]
   refine srs hn ?_
   obtain⟨y1,h3,hm⟩:=bnd hm
   simp -dsimp
   refine aR (eK s y1 h3) (dkL hn) ?_
   simp -dsimp
   refine sr1 hn ?_
   obtain⟨y2,h4,hm⟩:=bnd hm
   simp -dsimp
   refine aR (c_lifelike_Text y1.1 y2 h4) (dkL hn) ?_
   exact zz
  ·refine aX (by simp -dsimp) c2 ?_
   refine srs hn ?_
   simp -dsimp [c2]
   rcases aZ hm with ⟨c5,hm⟩ | ⟨c5,hm⟩
   ·refine aV (by simp -dsimp) c5 ?_
    refine srs hn ?_
    simp -dsimp [c5]
    refine srs hn ?_
    obtain⟨y1,h6,hm⟩:=bnd hm
    simp -dsimp
    refine aR (dJ s y1 h6) (dkL hn) ?_
    simp -dsimp
    refine sr1 hn ?_
    obtain⟨y2,h7,hm⟩:=bnd hm
    simp -dsimp
    refine aR (c_generations_Text y1.1 y2 h7) (dkL hn) ?_
    exact zz
   ·refine aX (by simp -dsimp) c5 ?_
    obtain⟨a,j12,hm⟩:=bnd hm
    refine scE [(0,.u (.one (.d (.str (bs s))))),(4,.u (.one (.d (.str (bs ([]:List UInt8)))))),(5,vI 7),(10,vI y),(29,vT a)] [] ?_ fun Z O hf=>?_
    ·replace hm:=j12
     clear j12
     exact zz
    ·clear j12
     simp only[Fits,b8,b9,and_true] at hf
     rcases aZ hm with ⟨c9,hm⟩ | ⟨c9,hm⟩
     ·refine aV (by simp -dsimp [hf]) c9 ?_
      refine srs hn ?_
      obtain⟨y1,h10,hm⟩:=bnd hm
      simp -dsimp [hf]
      refine aR (fq s y1 h10) (dkL hn) ?_
      exact zz
     ·exact zz
 ·clear j14
  exact zz
def F_tree_Right_2 (cx:Cx) (t:Tree) (a1:Int) (_x:Node) (tt:Bool ⊕ Unit) (ee:Exit) (Z:Env) (O:Sto):Prop:=match tt with
 | .inl r=>ee=.ret/\EE cx (fun Z O=>∃ v,di tb Z O Tryz.f29.results.toList=some v/\(v.frz O).free=true/\(v.frz O).wk (vT r)) Z O
 | .inr _u=>ee=.exit 2/\EE cx (bg [(1,vX 1),(47,.u (.one (dR0 t.Nodes))),(48,vI (aT t.Nodes)),(49,vI a1)] [(1,.box [dI t.States,dR1 t.Hood,dR0 t.Nodes])]) Z O
theorem l_tree_Right_2 (cx:Cx) (hn:cx.n=117) (t:Tree) (a1:Int) (x:Node) {fu:Nat} {stt:Int} {tt:Bool ⊕ Unit} (hh:aY (b_tree_Right_2 t a1 x) fu stt=some tt) {Z:Env} {O:Sto}
  (hE:bl (fun a3:Int=>[(1,vX 1),(4,vI a1),(5,vX 5),(47,.u (.one (dR0 t.Nodes))),(48,vI (aT t.Nodes)),(49,vI a1),(74,.u (.one (dL x.Next))),(75,vI (aT x.Next)),(76,vI a3)]) (fun _a3:Int=>[(1,.box [dI t.States,dR1 t.Hood,dR0 t.Nodes]),(5,.box [dI x.Level,dL x.Next])]) stt Z O):Swp Tryz.prog cx (.loop (bA [1,1,1,0,1,0,0,1,1,0,0,1,1,1,0,0] (be Tryz.f29))) Z O (F_tree_Right_2 cx t a1 x tt):=by
 refine bm hE hh (F_tree_Right_2 cx t a1 x) ?_
 rintro a3 r hm Z O hf
 simp only[Fits,b8,b9,and_true] at hf
 unfold b_tree_Right_2 at hm
 dsimp only at hm
 refine srs hn ?_
 simp -dsimp [hf]
 refine aS ?_
 rcases aZ hm with ⟨c14,hm⟩ | ⟨c14,hm⟩
 ·refine aV (by simp -dsimp) c14 ?_
  refine aU (aQ (aS (aW ?_)))
  refine srs hn ?_
  obtain⟨x1,h15,hm⟩:=bnd hm
  simp -dsimp [hf,c14,h15]
  obtain⟨a4,j26,hm⟩:=bnd hm
  refine scE [(1,vX 1),(4,vI a1),(5,vX 5),(47,.u (.one (dR0 t.Nodes))),(48,vI (aT t.Nodes)),(49,vI a1),(74,.u (.one (dL x.Next))),(75,vI (aT x.Next)),(76,vI a3),(114,vT a4)] [(1,.box [dI t.States,dR1 t.Hood,dR0 t.Nodes]),(5,.box [dI x.Level,dL x.Next])] ?_ fun Z O hf=>?_
  ·replace hm:=j26
   clear j26
   exact zz
  ·clear j26
   exact zz
 ·exact zz
def F_tree_Right_1 (cx:Cx) (_t:Tree) (tt:Bool ⊕ Unit) (ee:Exit) (Z:Env) (O:Sto):Prop:=match tt with
 | .inl r=>ee=.ret/\EE cx (fun Z O=>∃ v,di tb Z O Tryz.f29.results.toList=some v/\(v.frz O).free=true/\(v.frz O).wk (vT r)) Z O
 | .inr _u=>ee=.exit 0/\EE cx (bg [] []) Z O
theorem l_tree_Right_1 (cx:Cx) (hn:cx.n=117) (t:Tree) {fu:Nat} {stt:Int} {tt:Bool ⊕ Unit} (hh:aY (b_tree_Right_1 t) fu stt=some tt) {Z:Env} {O:Sto}
  (hE:bl (fun a1:Int=>[(1,vX 1),(47,.u (.one (dR0 t.Nodes))),(48,vI (aT t.Nodes)),(49,vI a1)]) (fun _a1:Int=>[(1,.box [dI t.States,dR1 t.Hood,dR0 t.Nodes])]) stt Z O):Swp Tryz.prog cx (.loop (bA [1,1,1,0,1,0,0] (be Tryz.f29))) Z O (F_tree_Right_1 cx t tt):=by
 refine bm hE hh (F_tree_Right_1 cx t) ?_
 rintro a1 r hm Z O hf
 simp only[Fits,b8,b9,and_true] at hf
 unfold b_tree_Right_1 at hm
 dsimp only at hm
 refine srs hn ?_
 simp -dsimp [hf]
 refine aS ?_
 rcases aZ hm with ⟨c9,hm⟩ | ⟨c9,hm⟩
 ·refine aV (by simp -dsimp) c9 ?_
  refine aU (aQ (aS (aW ?_)))
  refine srs hn ?_
  obtain⟨x,h10,hm⟩:=bnd hm
  simp -dsimp [hf,c9,h10]
  refine aS ?_
  obtain⟨a2,j28,hm⟩:=bnd hm
  refine scE [(1,vX 1),(4,vI a1),(5,vX 5),(47,.u (.one (dR0 t.Nodes))),(48,vI (aT t.Nodes)),(49,vI a1),(72,vT a2)] [(1,.box [dI t.States,dR1 t.Hood,dR0 t.Nodes]),(5,.box [dI x.Level,dL x.Next])] ?_ fun Z O hf=>?_
  ·replace hm:=j28
   clear j28
   exact zz
  ·clear j28
   simp only[Fits,b8,b9,and_true] at hf
   rcases aZ hm with ⟨c13,hm⟩ | ⟨c13,hm⟩
   ·exact zz
   ·refine aX (by simp -dsimp [hf]) c13 ?_
    refine aU (aQ ?_)
    refine srs hn ?_
    simp -dsimp [hf]
    refine aW ?_
    obtain⟨o_,g27,hm⟩:=bnd hm
    refine bd (l_tree_Right_2 cx hn t a1 x g27) (by
      try dsimp only
      refine EE.here ?_
      exact zz
    ) fun ee Z O xx=>?_
    rcases o_ with r | _u
    ·exact zz
    ·exact zz
 ·exact zz
theorem dx (t:Tree) (r:Bool) (hm:m_tree_Right t=some r):PureCall Tryz.prog 29 [.u (.agg [dI t.States,dR1 t.Hood,dR0 t.Nodes])] (vT r):=by
 refine bo Tryz.func29 Tryz.ntmps29 fun cx hn=>?_
 unfold m_tree_Right at hm
 refine srs hn ?_
 simp -dsimp
 refine srs hn ?_
 simp -dsimp
 refine aS ?_
 obtain⟨a,j30,hm⟩:=bnd hm
 refine scE [(1,vX 1),(45,vT a)] [(1,.box [dI t.States,dR1 t.Hood,dR0 t.Nodes])] ?_ fun Z O hf=>?_
 ·replace hm:=j30
  clear j30
  refine sw_qt bj mixed (by rw[hn]; kernel_rfl) ?_
  rcases aZ hm with ⟨c1,hm⟩ | ⟨c1,hm⟩
  ·exact zz
  ·rcases aZ hm with ⟨c2,hm⟩ | ⟨c2,hm⟩
   ·exact zz
   ·obtain⟨y,h3,hm⟩:=bnd hm
    simp -dsimp [c1,c2]
    refine b7 (c_hood_Right t.Hood y h3) ?_
    exact zz
 ·clear j30
  simp only[Fits,b8,b9,and_true] at hf
  rcases aZ hm with ⟨c8,hm⟩ | ⟨c8,hm⟩
  ·exact zz
  ·refine aX (by simp -dsimp [hf]) c8 ?_
   refine aU (aQ (aS ?_))
   refine srs hn ?_
   simp -dsimp [hf]
   refine aW ?_
   obtain⟨o_,g29,hm⟩:=bnd hm
   refine bd (l_tree_Right_1 cx hn t g29) (by
     try dsimp only
     exact EE.here (by simp -dsimp [hf])
   ) fun ee Z O xx=>?_
   rcases o_ with r | _u
   ·exact zz
   ·exact zz
theorem c_tree_Eval_1 (s:Int) (a:Tree) (r:Bool) (hm:m_tree_Eval_1 s a=some r):PureCall Tryz.prog 31 [vI s,.u (.one (.ref (Tree.row a) 0))] (vT r):=by
 refine bo Tryz.func31 Tryz.ntmps31 fun cx hn=>?_
 unfold m_tree_Eval_1 at hm
 refine srs hn ?_
 simp -dsimp
 obtain⟨a1,j2,hm⟩:=bnd hm
 refine scE [(3,vT a1)] [] ?_ fun Z O hf=>?_
 ·replace hm:=j2
  clear j2
  exact zz
 ·clear j2
  exact zz
def bW (cx:Cx) (_s:List Int) (_cv:Tree) (tt:Int ⊕ Unit) (ee:Exit) (Z:Env) (O:Sto):Prop:=match tt with
 | .inl r=>ee=.ret/\EE cx (fun Z O=>∃ v,di tb Z O Tryz.f92.results.toList=some v/\(v.frz O).free=true/\(v.frz O).wk (vI r)) Z O
 | .inr _u=>ee=.exit 0/\EE cx (bg [] []) Z O
theorem d8 (cx:Cx) (hn:cx.n=19) (s:List Int) (cv:Tree) {fu:Nat} {stt:Int} {tt:Int ⊕ Unit} (hh:aY (b_slices_IndexFunc_int_int_tree_Eval_1_1 s cv) fu stt=some tt) {Z:Env} {O:Sto}
  (hE:bl (fun a:Int=>[(0,.u (.one (dL s))),(1,.u (.one (.fn 31 [.ref (Tree.row cv) 0]))),(7,vI (aT s)),(8,vI a)]) (fun _a:Int=>[]) stt Z O):Swp Tryz.prog cx (.loop (bA [1,0,1,0,0] (be Tryz.f92))) Z O (bW cx s cv tt):=by
 refine bm hE hh (bW cx s cv) ?_
 rintro a r hm Z O hf
 simp only[Fits,b8,b9,and_true] at hf
 unfold b_slices_IndexFunc_int_int_tree_Eval_1_1 at hm
 dsimp only at hm
 refine srs hn ?_
 simp -dsimp [hf]
 refine aS ?_
 rcases aZ hm with ⟨c1,hm⟩ | ⟨c1,hm⟩
 ·refine aV (by simp -dsimp) c1 ?_
  refine aU (aQ (aS (aW ?_)))
  refine srs hn ?_
  simp -dsimp [hf,c1]
  refine srs hn ?_
  obtain⟨x,h2,hm⟩:=bnd hm
  obtain⟨y,h3,hm⟩:=bnd hm
  simp -dsimp [hf,h2]
  refine aR (c_tree_Eval_1 x cv y h3) (dkL hn) ?_
  exact zz
 ·exact zz
theorem dl (s:List Int) (cv:Tree) (r:Int) (hm:m_slices_IndexFunc_int_int_tree_Eval_1 s cv=some r):PureCall Tryz.prog 92 [.u (.one (dL s)),.u (.one (.fn 31 [.ref (Tree.row cv) 0]))] (vI r):=by
 refine bo Tryz.func92 Tryz.ntmps92 fun cx hn=>?_
 unfold m_slices_IndexFunc_int_int_tree_Eval_1 at hm
 refine srs hn ?_
 simp -dsimp
 refine aS ?_
 refine srs hn ?_
 simp -dsimp
 refine aW ?_
 obtain⟨o_,g5,hm⟩:=bnd hm
 refine bd (d8 cx hn s cv g5) (by
   try dsimp only
   exact eeh
 ) fun ee Z O xx=>?_
 rcases o_ with r | _u
 ·exact zz
 ·exact zz
theorem d7 (s:List Int) (cv:Tree) (r:Bool) (hm:m_slices_ContainsFunc_int_int_tree_Eval_1 s cv=some r):PureCall Tryz.prog 30 [.u (.one (dL s)),.u (.one (.fn 31 [.ref (Tree.row cv) 0]))] (vT r):=by
 refine bo Tryz.func30 Tryz.ntmps30 fun cx hn=>?_
 unfold m_slices_ContainsFunc_int_int_tree_Eval_1 at hm
 refine srs hn ?_
 simp -dsimp
 refine srs hn ?_
 obtain⟨y,h1,hm⟩:=bnd hm
 simp -dsimp
 refine aR (dl s cv y h1) (dkL hn) ?_
 simp -dsimp
 exact zz
def F_tree_value_1 (cx:Cx) (_t:Tree) (_in_:List Int) (tt:Int) (ee:Exit) (Z:Env) (O:Sto):Prop:=match tt with
 | k=>ee=.exit 0/\EE cx (bg [(5,vI k)] []) Z O
theorem l_tree_value_1 (cx:Cx) (hn:cx.n=29) (t:Tree) (in_:List Int) {fu:Nat} {stt:Int×Int} {tt:Int} (hh:aY (b_tree_value_1 t in_) fu stt=some tt) {Z:Env} {O:Sto}
  (hE:bl (fun stt:Int×Int=>match stt with | (k,a)=>[(2,vX 2),(5,vI k),(12,.u (.one (dL in_))),(13,vI (aT in_)),(14,vI a)]) (fun stt:Int×Int=>match stt with | (_k,_a)=>[(2,.box [dI t.States,dR1 t.Hood,dR0 t.Nodes])]) stt Z O):Swp Tryz.prog cx (.loop (bA [1,1,0,1,0,0] (be Tryz.f32))) Z O (F_tree_value_1 cx t in_ tt):=by
 refine bm hE hh (F_tree_value_1 cx t in_) ?_
 rintro⟨k,a⟩ r hm Z O hf
 simp only[Fits,b8,b9,and_true] at hf
 unfold b_tree_value_1 at hm
 exact zz
theorem c_tree_value (t:Tree) (in_:List Int) (r:Int) (hm:m_tree_value t in_=some r):PureCall Tryz.prog 32 [.u (.agg [dI t.States,dR1 t.Hood,dR0 t.Nodes]),.u (.one (dL in_))] (vI r):=by
 refine bo Tryz.func32 Tryz.ntmps32 fun cx hn=>?_
 unfold m_tree_value at hm
 refine srs hn ?_
 simp -dsimp
 refine srs hn ?_
 simp -dsimp
 refine aS ?_
 refine srs hn ?_
 simp -dsimp
 refine aW ?_
 obtain⟨k,g5,hm⟩:=bnd hm
 refine bd (l_tree_value_1 cx hn t in_ g5) (by
   try dsimp only
   exact eeh
 ) fun ee Z O xx=>?_
 exact zz
theorem c_tree_Eval (t:Tree) (in_:List Int) (r:Int×Int) (hm:m_tree_Eval t in_=some r):PureCall Tryz.prog 11 [.u (.agg [dI t.States,dR1 t.Hood,dR0 t.Nodes]),.u (.one (dL in_))] (.tup [.one (dI r.1),.one (dI r.2)]):=by
 refine bo Tryz.func11 Tryz.ntmps11 fun cx hn=>?_
 unfold m_tree_Eval at hm
 refine srs hn ?_
 simp -dsimp
 refine aS (aW ?_)
 refine srs hn ?_
 obtain⟨y,h1,hm⟩:=bnd hm
 simp -dsimp
 refine aR (dx t y h1) (dkL hn) ?_
 simp -dsimp
 rcases aZ hm with ⟨c2,hm⟩ | ⟨c2,hm⟩
 ·exact zz
 ·refine aX (by simp -dsimp) c2 ?_
  refine srs hn ?_
  simp -dsimp [c2]
  rcases aZ hm with ⟨c3,hm⟩ | ⟨c3,hm⟩
  ·exact zz
  ·refine aX (by simp -dsimp) c3 ?_
   refine srs hn ?_
   obtain⟨y1,h4,hm⟩:=bnd hm
   simp -dsimp [c3]
   refine fN (us':=[.u (.one (dL in_)),.u (.one (.fn 31 [.ref (Tree.row t) 0]))]) (d7 in_ t y1 h4) (by simp -dsimp) rfl (dkL hn) ?_
   simp -dsimp
   rcases aZ hm with ⟨c5,hm⟩ | ⟨c5,hm⟩
   ·exact zz
   ·refine aX (by simp -dsimp) c5 ?_
    refine aU ?_
    refine bv ?_
    refine aQ ?_
    refine srs hn ?_
    obtain⟨y2,h6,hm⟩:=bnd hm
    simp -dsimp [c5]
    refine aR (c_tree_value t in_ y2 h6) (dkL hn) ?_
    exact zz
theorem cY (l r:List Int) (hm:m_slices_Clone_int_int l=some r):NewFn Tryz.prog 147 [.u (.one (dL l))] (fun o=>o=.row 1 3 (List.map (rI .i64) r)):=by
 refine new_S bj _ Tryz.func147 rfl (by kernel_rfl) (by simp[Tryz.ntmps147]) fun cx hn=>?_
 replace hn:cx.n=8:=hn.trans Tryz.ntmps147
 have ha:=(b6 hm).1
 have hr:r=l:=(b6 hm).2
 clear hm
 subst hr
 simp only[List.length_nil,Nat.zero_add] at ha
 refine srs hn ?_
 simp -dsimp
 refine aS ?_
 refine srs hn ?_
 cases r with
 | nil =>
  simp -dsimp
  refine⟨?_,?_⟩
  ·refine aV (b:=true) (by simp -dsimp) rfl ?_
   refine srs hn ?_
   simp -dsimp
   refine bb (bS ?_)
   refine⟨.inr rfl,?_⟩; simp -dsimp
  ·refine aX (b:=false) (by simp -dsimp) rfl ?_
   refine aU (aQ ?_)
   refine srs hn ?_
   simp -dsimp
   refine bb ?_
   refine⟨.inr rfl,?_⟩; simp -dsimp
 | cons x xs =>
  simp -dsimp
  refine aX (b:=false) (by simp -dsimp) rfl ?_
  refine aU (aQ ?_)
  refine srs hn ?_
  simp only[List.length_cons] at ha
  simp -dsimp [ha]
  refine bb ?_
  refine⟨.inr rfl,?_⟩; simp -dsimp
theorem gv (x:Int) (next r:List Int) (hm:m_reduce_Reduce_1 x next=some r):PureCall Tryz.prog 96 [vI x,.u (.one (dL next))] (.u (.one (dL r))):=by
 refine bo Tryz.func96 Tryz.ntmps96 fun cx hn=>?_
 unfold m_reduce_Reduce_1 at hm
 exact zz
theorem eL (i base:Int) (r:List Int) (hm:m_internal_strconv_AppendInt_N i base=some r):GFn Tryz.prog 159 [.u (.one (.d .nil)),vI i,vI base] [] (vO 1000000) [some (.row 1 5 (List.map (rI .u8) r))]:=by
 refine bI bj _ Tryz.func159 rfl (by kernel_rfl) (by simp[Tryz.ntmps159]) (by simp) (by first | rfl | simp) (by first | rfl | simp) fun cx hn hk=>?_
 replace hn:cx.n=21:=hn.trans Tryz.ntmps159
 replace hk:cx.k=0:=hk
 unfold m_internal_strconv_AppendInt_N at hm
 refine srs hn ?_
 simp -dsimp
 refine srs hn ?_
 simp -dsimp
 obtain⟨⟨u,dst⟩,j4,hm⟩:=bnd hm
 refine scE [(0,vO 5000),(2,vI base),(7,.u (.one (.d (.int .u64 u))))] [(5000,.row 1 5 (List.map (rI .u8) dst))] ?_ fun Z O hf=>?_
 ·replace hm:=j4
  clear j4
  refine srs hn ?_
  simp -dsimp
  rcases aZ hm with ⟨c1,hm⟩ | ⟨c1,hm⟩
  ·refine sct c1 ?_
   refine srs hn ?_
   obtain⟨l,h2,hm⟩:=bnd hm
   obtain⟨h2a,h2e⟩:=b6 h2
   replace h2e:=h2e.symm
   subst h2e
   try simp only[List.length_cons,List.length_nil,Nat.zero_add] at h2a
   try simp only[Nat.mul_one,Nat.reduceLeDiff] at h2a
   simp -dsimp [c1]
   refine sr1 hn ?_
   simp -dsimp
   refine aQ ?_
   cases hm
   refine emv 14 5000 ?_
   exact zz
  ·refine scf c1 ?_
   refine aU (aQ ?_)
   cases hm
   refine EE.step (Wk.own0 0 5000 1 5 (by simp -dsimp [c1]) (by decide)) ?_
   exact zz
 ·clear j4
  simp only[Fits,b8,b9,and_true] at hf
  refine srs hn ?_
  obtain⟨y,h3,hm⟩:=bnd hm
  simp -dsimp [hf]
  refine clg (cJ dst u base y h3) [5000] [5001] (by simp -dsimp [hf]) (dkL hn) ?_
  simp -dsimp
  refine bb ?_
  cases hm
  refine⟨.inr rfl,?_⟩
  refine emr 5001 1000000 hk ?_
  exact zz
theorem eJ (i base:Int) (r:List Int) (hm:m_strconv_AppendInt_N i base=some r):GFn Tryz.prog 126 [.u (.one (.d .nil)),vI i,vI base] [] (vO 1000000) [some (.row 1 5 (List.map (rI .u8) r))]:=by
 refine bI bj _ Tryz.func126 rfl (by kernel_rfl) (by simp[Tryz.ntmps126]) (by simp) (by first | rfl | simp) (by first | rfl | simp) fun cx hn hk=>?_
 replace hn:cx.n=11:=hn.trans Tryz.ntmps126
 replace hk:cx.k=0:=hk
 unfold m_strconv_AppendInt_N at hm
 refine srs hn ?_
 simp -dsimp
 refine srs hn ?_
 obtain⟨y,h1,hm⟩:=bnd hm
 simp -dsimp
 refine clg (eL i base y h1) [] [5000] (by simp -dsimp) (dkL hn) ?_
 simp -dsimp
 refine bb ?_
 cases hm
 refine⟨.inr rfl,?_⟩
 refine emr 5000 1000000 hk ?_
 exact zz
end Go.Proofs.YtcllfealpkhjfaaGreatDoor
namespace Go.Proofs.YtcllfealpkhjfaaGreatDoor
open Go.AM Go.Proofs
set_option maxRecDepth 100000
attribute [-simp] qlookup cd cW Ob.wipe Ob.ren Ob.frz1
def cA (cx:Cx) (aq:List Node) (aa:List (List UInt8×Int)) (level:Int) (next:List Int) (tt:(List Int)) (ee:Exit) (Z:Env) (O:Sto):Prop:=match tt with
 | keyv=>ee=.exit 0/\EE cx (bg [(0,vX 1000000),(1,vI level),(2,.u (.one (dL next))),(7,vO 5002)] [(5002,.row 1 5 (List.map (rI .u8) keyv)),(1000000,.box [.own 1000001,.map 1000002]),(1000001,.row 2 32 (List.map Node.row aq)),(1000002,mOb .str kS (uL (L.int .i64)) aa)]) Z O
theorem gj (cx:Cx) (hn:cx.n=68) (_hk:cx.k=3) (aq:List Node) (aa:List (List UInt8×Int)) (level:Int) (next:List Int) {fu:Nat} {stt:Int×(List Int)} {tt:(List Int)} (hh:aY (b_reduce_builder_node_o_1 aq aa level next) fu stt=some tt) {Z:Env} {O:Sto}
  (hE:bl (fun stt:Int×(List Int)=>match stt with | (a,_keyv)=>[(0,vX 1000000),(1,vI level),(2,.u (.one (dL next))),(7,vO 5002),(14,.u (.one (dL next))),(15,vI (aT next)),(16,vI a)]) (fun stt:Int×(List Int)=>match stt with | (_a,keyv)=>[(5002,.row 1 5 (List.map (rI .u8) keyv)),(1000000,.box [.own 1000001,.map 1000002]),(1000001,.row 2 32 (List.map Node.row aq)),(1000002,mOb .str kS (uL (L.int .i64)) aa)]) stt Z O):Swp Tryz.prog cx (.loop (bA [1,1,0,1,0,0] (be Tryz.f99))) Z O (cA cx aq aa level next tt):=by
 refine bm hE hh (cA cx aq aa level next) ?_
 rintro⟨a,keyv⟩ r hm Z O hf
 simp only[Fits,b8,b9,and_true] at hf
 unfold b_reduce_builder_node_o_1 at hm
 dsimp only at hm
 refine srs hn ?_
 simp -dsimp [hf]
 refine aS ?_
 rcases aZ hm with ⟨c2,hm⟩ | ⟨c2,hm⟩
 ·refine aV (by simp -dsimp) c2 ?_
  refine aU (aQ (aS (aW ?_)))
  refine srs hn ?_
  obtain⟨x,h3,hm⟩:=bnd hm
  simp -dsimp [hf,c2,h3]
  refine sr1 hn ?_
  obtain⟨l,h4,hm⟩:=bnd hm
  obtain⟨h4a,h4e⟩:=b6 h4
  replace h4e:=h4e.symm
  subst h4e
  try simp only[List.length_cons,List.length_nil,Nat.zero_add] at h4a
  try simp only[Nat.mul_one,Nat.reduceLeDiff] at h4a
  obtain⟨y1,h5,hm⟩:=bnd hm
  simp -dsimp [hf,h4a]
  refine clg (bX (keyv++[32]) x 10 y1 h5) [22] [5001] (by simp -dsimp) (dkL hn) ?_
  simp -dsimp
  refine bv ?_
  refine aQ ?_
  refine sr1 hn ?_
  simp -dsimp [hf]
  cases hm
  refine bE ?_
  refine emv 5001 5002 ?_
  exact zz
 ·exact zz
theorem ep (aq:List Node) (aa:List (List UInt8×Int)) (level:Int) (next:List Int) (r:Int×(List (List UInt8×Int))×(List Node)) (hm:m_reduce_builder_node_o aq aa level next=some r):GFn Tryz.prog 99 [vX 1000000,vI level,.u (.one (dL next))] [.box [.own 1000001,.map 1000002],.row 2 32 (List.map Node.row aq),mOb .str kS (uL (L.int .i64)) aa] (vI r.1) [some (.box [.own 1000003,.map 1000002]),none,some (mOb .str kS (uL (L.int .i64)) r.2.1),some (.row 2 32 (List.map Node.row r.2.2))]:=by
 refine bI bj _ Tryz.func99 rfl (by kernel_rfl) (by simp[Tryz.ntmps99]) (by simp) (by first | rfl | simp) (by first | rfl | simp) fun cx hn hk=>?_
 replace hn:cx.n=68:=hn.trans Tryz.ntmps99
 replace hk:cx.k=3:=hk
 unfold m_reduce_builder_node_o at hm
 refine srs hn ?_
 simp -dsimp
 refine srs hn ?_
 obtain⟨y,h1,hm⟩:=bnd hm
 simp -dsimp
 refine clg (eJ level 10 y h1) [] [5000] (by simp -dsimp) (dkL hn) ?_
 simp -dsimp
 refine aS ?_
 refine srs hn ?_
 simp -dsimp
 refine aW ?_
 obtain⟨keyv,g6,hm⟩:=bnd hm
 refine bd (gj cx hn hk aq aa level next g6) (by
   try dsimp only
   refine emv 5000 5002 ?_
   exact zz
 ) fun ee Z O xx=>?_
 unfold cA at xx
 dsimp only at xx
 obtain⟨rfl,xx⟩:=xx
 refine bh ?_
 refine aQ ?_
 refine see xx fun Z O hf=>?_
 simp only[Fits,b8,b9,and_true] at hf
 refine aS ?_
 refine sw_qts bj mixed (by rw[hn]; kernel_rfl) ?_
 obtain⟨u,h7,hm⟩:=bnd hm
 simp -dsimp [hf,dP h7,(@id (lkM (fi (mOb .str kS (uL (L.int .i64)) aa) (.str (ofBytes keyv))) true (.one (dI 0))=some (.tup [.one (dI (ek aa (ofBytes keyv) 0)),.one (.d (.bool (cb aa (ofBytes keyv))))])) (lk_two (ofBytes keyv) 0))]
 refine srs hn ?_
 simp -dsimp
 rcases aZ hm with ⟨c8,hm⟩ | ⟨c8,hm⟩
 ·refine aV (b:=(cb aa (ofBytes keyv))) (by simp -dsimp) c8 ?_
  refine srs hn ?_
  simp -dsimp [c8]
  refine bb (bS ?_)
  cases hm
  refine⟨.inr rfl,?_⟩
  refine emr 1000001 1000003 hk ?_
  exact zz
 ·refine aX (b:=(cb aa (ofBytes keyv))) (by simp -dsimp) c8 ?_
  refine aU (aQ ?_)
  refine srs hn ?_
  obtain⟨l,h9,hm⟩:=bnd hm
  obtain⟨h9a,h9e⟩:=b6 h9
  replace h9e:=h9e.symm
  subst h9e
  try simp only[List.length_cons,List.length_nil,Nat.zero_add] at h9a
  simp -dsimp [hf,c8,h9a]
  refine gt bj mixed 12 (by rw[hn]; kernel_rfl) ?_
  dsimp only [List.take,List.drop]
  simp -dsimp [hf,dP h7,(@id (ga (mOb .str kS (uL (L.int .i64)) aa) (.str (ofBytes keyv)) (.one (dI (bc .i64 ((aT aq)+1) 1)))=mOb .str kS (uL (L.int .i64)) (dD aa (ofBytes keyv) (bc .i64 ((aT aq)+1) 1))) (gp .str kS (uL (L.int .i64)) aa (ofBytes keyv) (bc .i64 ((aT aq)+1) 1)))]
  refine srs hn ?_
  simp -dsimp [hf]
  refine bb ?_
  cases hm
  refine⟨.inr rfl,?_⟩
  refine emr 47 1000003 hk ?_
  exact zz
section
attribute [-simp] List.map_set List.set_set
def cu (rcv:(Int->(List Int)->(List Node)->(List Node)->Option (Int×(List Int)×(List Node)))):Prop:=∀ (k:Int) (a:List Int) (a1 cv:List Node) (r:Int×(List Int)×(List Node)),rcv k a a1 cv=some r->GFn Tryz.prog 149 [vI k,vX 1000000,vX 1000002,vX 1000003,vX 1000004] [.box [.own 1000001],.row 1 3 (List.map (rI .i64) a),.box [dR0 a1],.box [.fn 149 [.box 1000000 0,.box 1000002 0,.box 1000003 0,.box 1000004 0]],.box [.own 1000005],.row 2 32 (List.map Node.row cv)] (vI r.1) [some (.box [.own 1000001]),some (.row 1 3 (List.map (rI .i64) r.2.1)),some (.box [dR0 a1]),some (.box [.fn 149 [.box 1000000 0,.box 1000002 0,.box 1000003 0,.box 1000004 0]]),some (.box [.own 1000006]),none,some (.row 2 32 (List.map Node.row r.2.2))]
def cg (cx:Cx) (_rcv:(Int->(List Int)->(List Node)->(List Node)->Option (Int×(List Int)×(List Node)))) (k:Int) (a1:List Node) (x1:Node) (_y:List Int) (tt:((List Int)×(List Node)×(List Int))) (ee:Exit) (Z:Env) (O:Sto):Prop:=match tt with
 | (l,l1,l2)=>ee=.exit 0/\EE cx (bg [(0,vI k),(1,vX 1000000),(4,vX 1000004),(7,vX 7)] [(7,.box [dI x1.Level,.own 30]),(30,.row 1 3 (List.map (rI .i64) l)),(5000,.row 2 32 (List.map Node.row l1)),(1000000,.box [.own 1000001]),(1000001,.row 1 3 (List.map (rI .i64) l2)),(1000002,.box [dR0 a1]),(1000003,.box [.fn 149 [.box 1000000 0,.box 1000002 0,.box 1000003 0,.box 1000004 0]]),(1000004,.box [.own 5000])]) Z O
theorem ff (cx:Cx) (hn:cx.n=63) (_hk:cx.k=6) (rcv:(Int->(List Int)->(List Node)->(List Node)->Option (Int×(List Int)×(List Node)))) (k:Int) (a1:List Node) (x1:Node) (y:List Int) (aI:cu rcv) {fu:Nat} {stt:Int×(List Int)×(List Node)×(List Int)} {tt:((List Int)×(List Node)×(List Int))} (hh:aY (b_reduce_ordered_1_o_o_o_o_1 rcv k a1 x1 y) fu stt=some tt) {Z:Env} {O:Sto}
  (hE:bl (fun stt:Int×(List Int)×(List Node)×(List Int)=>match stt with | (a2,_l,_l2,_l1)=>[(0,vI k),(1,vX 1000000),(3,vX 1000003),(4,vX 1000004),(7,vX 7),(33,vO 30),(34,vI (aT y)),(35,vI a2)]) (fun stt:Int×(List Int)×(List Node)×(List Int)=>match stt with | (_a2,l,l2,l1)=>[(7,.box [dI x1.Level,.own 30]),(30,.row 1 3 (List.map (rI .i64) l)),(5000,.row 2 32 (List.map Node.row l2)),(1000000,.box [.own 1000001]),(1000001,.row 1 3 (List.map (rI .i64) l1)),(1000002,.box [dR0 a1]),(1000003,.box [.fn 149 [.box 1000000 0,.box 1000002 0,.box 1000003 0,.box 1000004 0]]),(1000004,.box [.own 5000])]) stt Z O):Swp Tryz.prog cx (.loop (bA [1,1,1,0,1,0,0] (be Tryz.f149))) Z O (cg cx rcv k a1 x1 y tt):=by
 refine bm hE hh (cg cx rcv k a1 x1 y) ?_
 rintro⟨a2,l,l2,l1⟩ r hm Z O hf
 simp only[Fits,b8,b9,and_true] at hf
 unfold b_reduce_ordered_1_o_o_o_o_1 at hm
 dsimp only at hm
 refine srs hn ?_
 simp -dsimp [hf]
 refine aS ?_
 rcases aZ hm with ⟨c5,hm⟩ | ⟨c5,hm⟩
 ·refine aV (by simp -dsimp) c5 ?_
  refine aU (aQ ?_)
  obtain⟨⟨l3,l4,l5⟩,j9,hm⟩:=bnd hm
  refine scE [(0,vI k),(1,vX 1000000),(3,vX 1000003),(4,vX 1000004),(7,vX 7),(33,vO 30),(34,vI (aT y)),(35,vI a2)] [(7,.box [dI x1.Level,.own 30]),(30,.row 1 3 (List.map (rI .i64) l3)),(5000,.row 2 32 (List.map Node.row l5)),(1000000,.box [.own 1000001]),(1000001,.row 1 3 (List.map (rI .i64) l4)),(1000002,.box [dR0 a1]),(1000003,.box [.fn 149 [.box 1000000 0,.box 1000002 0,.box 1000003 0,.box 1000004 0]]),(1000004,.box [.own 5000])] ?_ fun Z O hf=>?_
  ·replace hm:=j9
   clear j9
   refine aW ?_
   refine srs hn ?_
   obtain⟨x2,h6,hm⟩:=bnd hm
   simp -dsimp [hf,c5,h6,bf h6]
   refine srs hn ?_
   simp -dsimp [hf]
   rcases aZ hm with ⟨c7,hm⟩ | ⟨c7,hm⟩
   ·refine aV (by simp -dsimp) c7 ?_
    refine sw_midc bj mixed 5 6 6 0 [[0,1,2]] [[5001]] [] none (by rw[hn]; kernel_rfl) cM ?_
    dsimp only [List.take,List.drop,dy,dO,eY,pk,List.cons_append,List.nil_append,List.flatten_cons,List.flatten_nil,cC,cE,List.append_nil]
    obtain⟨y1,h8,hm⟩:=bnd hm
    simp -dsimp [hf,c7]
    refine callE_g (aI x2 l1 a1 l2 y1 h8) [1000000,1000001,1000002,1000003,1000004,5000] [5001] rfl rfl rfl (by simp -dsimp) rfl (by simp -dsimp [hf]) (by first | rfl | simp) rfl (dkL hn) rfl rfl (by simp) nofun (by simp) ?_
    simp -dsimp [hf,h6,bf h6,rsetI .i64 l a2.toNat y1.1]
    refine bv ?_
    refine aQ ?_
    cases hm
    refine emv 5001 5000 ?_
    exact zz
   ·exact zz
  ·clear j9
   exact zz
 ·exact zz
theorem fK (rcv:(Int->(List Int)->(List Node)->(List Node)->Option (Int×(List Int)×(List Node)))) (aI:cu rcv) (k:Int) (a:List Int) (a1 cv:List Node) (r:Int×(List Int)×(List Node)) (hm:mb_reduce_ordered_1_o_o_o_o rcv k a a1 cv=some r):GFn Tryz.prog 149 [vI k,vX 1000000,vX 1000002,vX 1000003,vX 1000004] [.box [.own 1000001],.row 1 3 (List.map (rI .i64) a),.box [dR0 a1],.box [.fn 149 [.box 1000000 0,.box 1000002 0,.box 1000003 0,.box 1000004 0]],.box [.own 1000005],.row 2 32 (List.map Node.row cv)] (vI r.1) [some (.box [.own 1000001]),some (.row 1 3 (List.map (rI .i64) r.2.1)),some (.box [dR0 a1]),some (.box [.fn 149 [.box 1000000 0,.box 1000002 0,.box 1000003 0,.box 1000004 0]]),some (.box [.own 1000006]),none,some (.row 2 32 (List.map Node.row r.2.2))]:=by
 refine bI bj _ Tryz.func149 rfl (by kernel_rfl) (by simp[Tryz.ntmps149]) (by simp) (by first | rfl | simp) (by first | rfl | simp) fun cx hn hk=>?_
 replace hn:cx.n=63:=hn.trans Tryz.ntmps149
 replace hk:cx.k=6:=hk
 unfold mb_reduce_ordered_1_o_o_o_o at hm
 refine srs hn ?_
 simp -dsimp
 refine aS ?_
 refine srs hn ?_
 obtain⟨x,h1,hm⟩:=bnd hm
 simp -dsimp [h1,bf h1]
 rcases aZ hm with ⟨c2,hm⟩ | ⟨c2,hm⟩
 ·refine aV (by simp -dsimp) c2 ?_
  refine srs hn ?_
  simp -dsimp [h1,bf h1,c2]
  refine bb (bS ?_)
  cases hm
  refine⟨.inr rfl,?_⟩
  refine emr 1000005 1000006 hk ?_
  exact zz
 ·refine aX (by simp -dsimp) c2 ?_
  refine aU (aQ ?_)
  refine f9 bj mixed 10 11 13 12 [[0,1,2,3,4]] [[30]] [true,false] (some (7,.box [dI 0,.d .nil])) (by rw[hn]; kernel_rfl) (fltT_some 32 _ (by kernel_rfl) rfl rfl rfl (by simp[C.wipe])) ?_
  dsimp only [List.take,List.drop,dy,dO,eY,pk,List.cons_append,List.nil_append,List.flatten_cons,List.flatten_nil,cC,cE,List.append_nil]
  obtain⟨x1,h3,hm⟩:=bnd hm
  obtain⟨y,h4,hm⟩:=bnd hm
  simp -dsimp [c2,h3]
  refine callE_new (cY x1.Next y h4) (dkL hn) (by decide) rfl rfl (by simp) (by rintro _ _ ⟨⟩; simp[C.wipe]) (by simp) ?_
  simp -dsimp [h3]
  refine aS ?_
  refine srs hn ?_
  simp -dsimp
  refine aW ?_
  obtain⟨⟨l,l1,l2⟩,g10,hm⟩:=bnd hm
  refine bd (ff cx hn hk rcv k a1 x1 y aI g10) (by
    try dsimp only
    refine emv 1000005 5000 ?_
    exact zz
  ) fun ee Z O xx=>?_
  unfold cg at xx
  dsimp only at xx
  obtain⟨rfl,xx⟩:=xx
  refine bh ?_
  refine aQ ?_
  refine see xx fun Z O hf=>?_
  simp only[Fits,b8,b9,and_true] at hf
  refine Swp.pre (Wk.frz 30 1 3 (List.map (rI .i64) l) (by simp -dsimp [hf])) ?_
  refine srs hn ?_
  obtain⟨l3,h11,hm⟩:=bnd hm
  obtain⟨h11a,h11e⟩:=b6 h11
  replace h11e:=h11e.symm
  subst h11e
  try simp only[List.length_cons,List.length_nil,Nat.zero_add] at h11a
  simp -dsimp [hf,h11a]
  refine srs hn ?_
  obtain⟨x2,h12,hm⟩:=bnd hm
  simp -dsimp [hf,h12,bf h12,rsetI .i64 l2 k.toNat ((aT l1)+1)]
  refine srs hn ?_
  simp -dsimp [hf]
  refine bb ?_
  cases hm
  refine⟨.inr rfl,?_⟩
  refine emr 54 1000006 hk ?_
  exact zz
theorem ge (k:Int) (a:List Int) (a1 cv:List Node) (r:Int×(List Int)×(List Node)) (hm:m_reduce_ordered_1_o_o_o_o k a a1 cv=some r):GFn Tryz.prog 149 [vI k,vX 1000000,vX 1000002,vX 1000003,vX 1000004] [.box [.own 1000001],.row 1 3 (List.map (rI .i64) a),.box [dR0 a1],.box [.fn 149 [.box 1000000 0,.box 1000002 0,.box 1000003 0,.box 1000004 0]],.box [.own 1000005],.row 2 32 (List.map Node.row cv)] (vI r.1) [some (.box [.own 1000001]),some (.row 1 3 (List.map (rI .i64) r.2.1)),some (.box [dR0 a1]),some (.box [.fn 149 [.box 1000000 0,.box 1000002 0,.box 1000003 0,.box 1000004 0]]),some (.box [.own 1000006]),none,some (.row 2 32 (List.map Node.row r.2.2))]:=eC cu (by intro _; intro _; intro _; intro _; intro _; intro hm; cases hm) fK fg k a a1 cv r hm
end
theorem eT (nodes:List Node) (root:Int) (r:List Node) (hm:m_reduce_ordered nodes root=some r):PureCall Tryz.prog 100 [.u (.one (dR0 nodes)),vI root] (.u (.one (dR0 r))):=by
 refine bo Tryz.func100 Tryz.ntmps100 fun cx hn=>?_
 unfold m_reduce_ordered at hm
 refine srs hn ?_
 simp -dsimp
 refine srs hn ?_
 obtain⟨l,h1,hm⟩:=bnd hm
 obtain⟨⟨h1a,h1b,h1c⟩,rfl⟩:=gO h1
 simp -dsimp [h1a,h1c]
 refine srs hn ?_
 simp -dsimp
 refine srs hn ?_
 simp -dsimp
 refine srs hn ?_
 simp -dsimp
 refine Swp.pre (Wk.own0b 6 0 5000 2 32 [.d .nil] (by simp -dsimp) (by rfl) (by decide) (by decide)) ?_
 refine srs hn ?_
 obtain⟨y,h2,hm⟩:=bnd hm
 simp -dsimp
 refine clg (ge root (List.replicate (aT nodes).toNat 0) nodes [] y h2) [5,10,2,7,6,5000] [5001] (by simp -dsimp) (dkL hn) ?_
 exact zz
section
attribute [-simp] List.map_set List.set_set
def bJ (cx:Cx) (t:Tree) (a:Int) (mp:List (List UInt8×Int)) (l:List Node) (to_:List Int) (x:Node) (_y:List Int) (tt:(List Int)) (ee:Exit) (Z:Env) (O:Sto):Prop:=match tt with
 | next=>ee=.exit 2/\EE cx (bg [(1,.u (.one (.fn 96 []))),(2,vX 2),(4,vX 4),(5,vX 5),(6,vO 5002),(8,vX 8),(9,vO 23),(15,.u (.one (dR0 t.Nodes))),(16,vI (aT t.Nodes)),(17,vI a)] [(2,.box [dI t.States,dR1 t.Hood,dR0 t.Nodes]),(4,.box [dI 0,.d .nil,.d .nil]),(5,.box [.own 5000,.map 12]),(8,.box [dI x.Level,dL x.Next]),(12,mOb .str kS (uL (L.int .i64)) mp),(23,.row 1 3 (List.map (rI .i64) next)),(5000,.row 2 32 (List.map Node.row l)),(5002,.row 1 3 (List.map (rI .i64) to_))]) Z O
theorem dK (cx:Cx) (hn:cx.n=69) (_hk:cx.k=0) (t:Tree) (a:Int) (mp:List (List UInt8×Int)) (l:List Node) (to_:List Int) (x:Node) (y:List Int) {fu:Nat} {stt:Int×(List Int)} {tt:(List Int)} (hh:aY (b_reduce_rebuilt_reduce_Reduce_1_w_2 t a mp l to_ x y) fu stt=some tt) {Z:Env} {O:Sto}
  (hE:bl (fun stt:Int×(List Int)=>match stt with | (a1,_next)=>[(1,.u (.one (.fn 96 []))),(2,vX 2),(4,vX 4),(5,vX 5),(6,vO 5002),(8,vX 8),(9,vO 23),(15,.u (.one (dR0 t.Nodes))),(16,vI (aT t.Nodes)),(17,vI a),(24,vO 23),(25,vI (aT y)),(26,vI a1)]) (fun stt:Int×(List Int)=>match stt with | (_a1,next)=>[(2,.box [dI t.States,dR1 t.Hood,dR0 t.Nodes]),(4,.box [dI 0,.d .nil,.d .nil]),(5,.box [.own 5000,.map 12]),(8,.box [dI x.Level,dL x.Next]),(12,mOb .str kS (uL (L.int .i64)) mp),(23,.row 1 3 (List.map (rI .i64) next)),(5000,.row 2 32 (List.map Node.row l)),(5002,.row 1 3 (List.map (rI .i64) to_))]) stt Z O):Swp Tryz.prog cx (.loop (bA [1,1,1,0,1,0,0,1,1,0,0,1,1,0,1,0,0] (be Tryz.f95))) Z O (bJ cx t a mp l to_ x y tt):=by
 refine bm hE hh (bJ cx t a mp l to_ x y) ?_
 rintro⟨a1,next⟩ r hm Z O hf
 simp only[Fits,b8,b9,and_true] at hf
 unfold b_reduce_rebuilt_reduce_Reduce_1_w_2 at hm
 dsimp only at hm
 refine srs hn ?_
 simp -dsimp [hf]
 refine aS ?_
 rcases aZ hm with ⟨c4,hm⟩ | ⟨c4,hm⟩
 ·refine aV (by simp -dsimp) c4 ?_
  refine aU (aQ ?_)
  obtain⟨next1,j8,hm⟩:=bnd hm
  refine scE [(1,.u (.one (.fn 96 []))),(2,vX 2),(4,vX 4),(5,vX 5),(6,vO 5002),(8,vX 8),(9,vO 23),(15,.u (.one (dR0 t.Nodes))),(16,vI (aT t.Nodes)),(17,vI a),(24,vO 23),(25,vI (aT y)),(26,vI a1)] [(2,.box [dI t.States,dR1 t.Hood,dR0 t.Nodes]),(4,.box [dI 0,.d .nil,.d .nil]),(5,.box [.own 5000,.map 12]),(8,.box [dI x.Level,dL x.Next]),(12,mOb .str kS (uL (L.int .i64)) mp),(23,.row 1 3 (List.map (rI .i64) next1)),(5000,.row 2 32 (List.map Node.row l)),(5002,.row 1 3 (List.map (rI .i64) to_))] ?_ fun Z O hf=>?_
  ·replace hm:=j8
   clear j8
   refine aW ?_
   refine srs hn ?_
   obtain⟨x1,h5,hm⟩:=bnd hm
   simp -dsimp [hf,c4,h5,bf h5]
   refine srs hn ?_
   simp -dsimp [hf]
   rcases aZ hm with ⟨c6,hm⟩ | ⟨c6,hm⟩
   ·refine aV (by simp -dsimp) c6 ?_
    refine sr1 hn ?_
    obtain⟨x2,h7,hm⟩:=bnd hm
    simp -dsimp [hf,h5,bf h5,c6,h7,bf h7,rsetI .i64 next a1.toNat x2]
    refine bv ?_
    cases hm
    exact EE.here (by simp -dsimp [hf])
   ·refine aX (by simp -dsimp) c6 ?_
    refine aU ?_
    refine bv ?_
    cases hm
    exact EE.here (by simp -dsimp [hf,c6])
  ·clear j8
   exact zz
 ·exact zz
def bK (cx:Cx) (t:Tree) (tt:((List (List UInt8×Int))×(List Node)×(List Int))) (ee:Exit) (Z:Env) (O:Sto):Prop:=match tt with
 | (mp,l,to_)=>ee=.exit 0/\EE cx (bg [(2,vX 2),(4,vX 4),(5,vX 5),(6,vO 5002)] [(2,.box [dI t.States,dR1 t.Hood,dR0 t.Nodes]),(4,.box [dI 0,.d .nil,.d .nil]),(5,.box [.own 5000,.map 12]),(12,mOb .str kS (uL (L.int .i64)) mp),(5000,.row 2 32 (List.map Node.row l)),(5002,.row 1 3 (List.map (rI .i64) to_))]) Z O
theorem dH (cx:Cx) (hn:cx.n=69) (hk:cx.k=0) (t:Tree) {fu:Nat} {stt:Int×(List (List UInt8×Int))×(List Node)×(List Int)} {tt:((List (List UInt8×Int))×(List Node)×(List Int))} (hh:aY (b_reduce_rebuilt_reduce_Reduce_1_w_1 t) fu stt=some tt) {Z:Env} {O:Sto}
  (hE:bl (fun stt:Int×(List (List UInt8×Int))×(List Node)×(List Int)=>match stt with | (a,_mp,_l,_to_)=>[(1,.u (.one (.fn 96 []))),(2,vX 2),(4,vX 4),(5,vX 5),(6,vO 5002),(15,.u (.one (dR0 t.Nodes))),(16,vI (aT t.Nodes)),(17,vI a)]) (fun stt:Int×(List (List UInt8×Int))×(List Node)×(List Int)=>match stt with | (_a,mp,l,to_)=>[(2,.box [dI t.States,dR1 t.Hood,dR0 t.Nodes]),(4,.box [dI 0,.d .nil,.d .nil]),(5,.box [.own 5000,.map 12]),(12,mOb .str kS (uL (L.int .i64)) mp),(5000,.row 2 32 (List.map Node.row l)),(5002,.row 1 3 (List.map (rI .i64) to_))]) stt Z O):Swp Tryz.prog cx (.loop (bA [1,1,1,0,1,0,0] (be Tryz.f95))) Z O (bK cx t tt):=by
 refine bm hE hh (bK cx t) ?_
 rintro⟨a,mp,l,to_⟩ r hm Z O hf
 simp only[Fits,b8,b9,and_true] at hf
 unfold b_reduce_rebuilt_reduce_Reduce_1_w_1 at hm
 dsimp only at hm
 refine srs hn ?_
 simp -dsimp [hf]
 refine aS ?_
 rcases aZ hm with ⟨c1,hm⟩ | ⟨c1,hm⟩
 ·refine aV (by simp -dsimp) c1 ?_
  refine aU (aQ (aS (aW ?_)))
  refine srs hn ?_
  obtain⟨x,h2,hm⟩:=bnd hm
  simp -dsimp [hf,c1,h2]
  refine srs hn ?_
  obtain⟨y,h3,hm⟩:=bnd hm
  simp -dsimp
  refine callL_new (cY x.Next y h3) (dkL hn) (by decide) ?_
  simp -dsimp
  refine aS ?_
  refine srs hn ?_
  simp -dsimp
  refine aW ?_
  obtain⟨next,g9,hm⟩:=bnd hm
  refine bd (dK cx hn hk t a mp l to_ x y g9) (by
    try dsimp only
    exact EE.here (by simp -dsimp [hf])
  ) fun ee Z O xx=>?_
  unfold bJ at xx
  dsimp only at xx
  obtain⟨rfl,xx⟩:=xx
  refine bh ?_
  refine aQ ?_
  refine see xx fun Z O hf=>?_
  simp only[Fits,b8,b9,and_true] at hf
  refine Swp.pre (Wk.frz 23 1 3 (List.map (rI .i64) next) (by simp -dsimp [hf])) ?_
  refine sw_midc bj mixed 8 9 10 0 [[0]] [[5001]] [true] none (by rw[hn]; kernel_rfl) cM ?_
  dsimp only [List.take,List.drop,dy,dO,eY,pk,List.cons_append,List.nil_append,List.flatten_cons,List.flatten_nil,cC,cE,List.append_nil]
  obtain⟨y1,h10,hm⟩:=bnd hm
  simp -dsimp [hf]
  refine b7 (gv x.Level next y1 h10) ?_
  obtain⟨y2,h11,hm⟩:=bnd hm
  simp -dsimp [hf]
  refine callE_g (ep l mp x.Level y1 y2 h11) [5,5000,12] [5001] rfl rfl rfl (by simp -dsimp) rfl (by simp -dsimp [hf]) (by first | rfl | simp) rfl (dkL hn) rfl rfl (by simp) nofun (by simp) ?_
  obtain⟨l1,h12,hm⟩:=bnd hm
  obtain⟨h12a,h12e⟩:=b6 h12
  replace h12e:=h12e.symm
  subst h12e
  try simp only[List.length_cons,List.length_nil,Nat.zero_add] at h12a
  simp -dsimp [hf,h12a]
  refine bv ?_
  refine aQ ?_
  refine sr1 hn ?_
  simp -dsimp [hf]
  cases hm
  refine bE ?_
  refine emv 52 5002 ?_
  refine emv 5001 5000 ?_
  exact zz
 ·exact zz
theorem dZ (t:Tree) (r:List Node) (hm:m_reduce_rebuilt_reduce_Reduce_1_w t=some r):GFn Tryz.prog 95 [.u (.agg [dI t.States,dR1 t.Hood,dR0 t.Nodes]),.u (.one (.fn 96 []))] [] (.u (.agg [dI t.States,.own 1000000,dR0 r])) [some (.row 2 67 (List.map Point.row t.Hood))]:=by
 refine bI bj _ Tryz.func95 rfl (by kernel_rfl) (by simp[Tryz.ntmps95]) (by simp) (by first | rfl | simp) (by first | rfl | simp) fun cx hn hk=>?_
 replace hn:cx.n=69:=hn.trans Tryz.ntmps95
 replace hk:cx.k=0:=hk
 unfold m_reduce_rebuilt_reduce_Reduce_1_w at hm
 refine srs hn ?_
 simp -dsimp
 refine srs hn ?_
 simp -dsimp [(@id (Ob.map .str []=mOb .str kS (uL (L.int .i64)) ([]:List (List UInt8×Int))) (fC .str kS (uL (L.int .i64))))]
 refine srs hn ?_
 simp -dsimp
 refine aS ?_
 refine srs hn ?_
 simp -dsimp
 refine aW ?_
 obtain⟨⟨mp,l,to_⟩,g13,hm⟩:=bnd hm
 refine bd (dH cx hn hk t g13) (by
   try dsimp only
   refine EE.step (Wk.own0 6 5002 1 3 (by simp -dsimp) (by decide)) ?_
   refine EE.step (Wk.own0b 5 0 5000 2 32 [.d .nil,.map 12] (by simp -dsimp) (by rfl) (by decide) (by decide)) ?_
   exact zz
 ) fun ee Z O xx=>?_
 unfold bK at xx
 dsimp only at xx
 obtain⟨rfl,xx⟩:=xx
 refine bh ?_
 refine aQ ?_
 refine see xx fun Z O hf=>?_
 simp only[Fits,b8,b9,and_true] at hf
 refine Swp.pre (Wk.frz 5000 2 32 (List.map Node.row l) (by simp -dsimp [hf])) ?_
 refine f9 bj mixed 0 0 14 4 [] [] [true,true,true,true,true,true,true,true,true,true,true,true,true,true] (some (58,.row 2 67 (List.map Point.row t.Hood))) (by rw[hn]; kernel_rfl) fltT_row ?_
 dsimp only [List.take,List.drop,dy,dO,eY,pk,List.cons_append,List.nil_append,List.flatten_cons,List.flatten_nil,cC,cE,List.append_nil]
 obtain⟨l1,h14,hm⟩:=bnd hm
 obtain rfl:=dW _ _ h14
 simp -dsimp [hf]
 refine callE_flt (dX _ _ h14) (dkL hn) (by decide) rfl rfl ?_
 obtain⟨x,h15,hm⟩:=bnd hm
 obtain⟨y,h16,hm⟩:=bnd hm
 simp -dsimp [hf,h15,bf h15]
 refine b7 (eT l x y h16) ?_
 simp -dsimp [hf]
 refine bb ?_
 cases hm
 refine⟨.inr rfl,?_⟩
 refine emr 58 1000000 hk ?_
 exact zz
end
theorem g_reduce_Reduce_w (t:Tree) (r:Int×(List Node)×(List Point)) (hm:m_reduce_Reduce_w t=some r):GFn Tryz.prog 35 [.u (.agg [dI t.States,dR1 t.Hood,dR0 t.Nodes])] [] (.u (.agg [dI r.1,.own 1000000,dR0 r.2.1])) [some (.row 2 67 (List.map Point.row r.2.2))]:=by
 refine bI bj _ Tryz.func35 rfl (by kernel_rfl) (by simp[Tryz.ntmps35]) (by simp) (by first | rfl | simp) (by first | rfl | simp) fun cx hn hk=>?_
 replace hn:cx.n=9:=hn.trans Tryz.ntmps35
 replace hk:cx.k=0:=hk
 unfold m_reduce_Reduce_w at hm
 refine srs hn ?_
 simp -dsimp
 refine aS ?_
 refine srs hn ?_
 obtain⟨y,h1,hm⟩:=bnd hm
 simp -dsimp
 refine aR (dx t y h1) (dkL hn) ?_
 simp -dsimp
 rcases aZ hm with ⟨c2,hm⟩ | ⟨c2,hm⟩
 ·refine aV (by simp -dsimp) c2 ?_
  refine srs hn ?_
  simp -dsimp [c2]
  refine bb (bS ?_)
  cases hm
  refine⟨.inr rfl,?_⟩
  refine emr 5001 1000000 hk ?_
  refine EE.step (Wk.own0b 2 1 5001 2 67 [dI 0,.d .nil,.d .nil] (by simp -dsimp) (by rfl) (by decide) (by decide)) ?_
  refine emr 5001 1000000 hk ?_
  exact zz
 ·refine aX (by simp -dsimp) c2 ?_
  refine aU (aQ ?_)
  refine srs hn ?_
  obtain⟨y1,h3,hm⟩:=bnd hm
  simp -dsimp [c2]
  refine clg (dZ t y1 h3) [] [5000] (by simp -dsimp) (dkL hn) ?_
  simp -dsimp
  refine bb ?_
  cases hm
  refine⟨.inr rfl,?_⟩
  refine emr 5000 1000000 hk ?_
  exact zz
theorem c_symmetry_Apply (k:Int) (p r:Point) (hm:m_symmetry_Apply k p=some r):PureCall Tryz.prog 36 [vI k,.u (.agg [dI p.X,dI p.Y])] (.u (.agg [dI r.X,dI r.Y])):=by
 refine bo Tryz.func36 Tryz.ntmps36 fun cx hn=>?_
 unfold m_symmetry_Apply at hm
 refine srs hn ?_
 simp -dsimp
 refine srs hn ?_
 obtain⟨x,h1,hm⟩:=bnd hm
 simp -dsimp [aidx_ok h1,g1_get h1]
 refine srs hn ?_
 simp -dsimp [(@id (aok 4 0=true) rfl),(@id (aok 4 1=true) rfl),(@id (aok 4 2=true) rfl),(@id (aok 4 3=true) rfl)]
 cases hm
 exact bb ⟨.inr rfl,EE.here (by simp -dsimp)⟩
def ck (cx:Cx) (aq:List Node) (aa:List (List UInt8×Int)) (level:Int) (next:List Int) (tt:(List Int)) (ee:Exit) (Z:Env) (O:Sto):Prop:=match tt with
 | keyv=>ee=.exit 0/\EE cx (bg [(0,vX 1000000),(1,vI level),(2,vO 1000003),(7,vO 5002)] [(5002,.row 1 5 (List.map (rI .u8) keyv)),(1000000,.box [.own 1000001,.map 1000002]),(1000001,.row 2 32 (List.map Node.row aq)),(1000002,mOb .str kS (uL (L.int .i64)) aa),(1000003,.row 1 3 (List.map (rI .i64) next))]) Z O
theorem fH (cx:Cx) (hn:cx.n=68) (_hk:cx.k=4) (aq:List Node) (aa:List (List UInt8×Int)) (level:Int) (next:List Int) {fu:Nat} {stt:Int×(List Int)} {tt:(List Int)} (hh:aY (b_reduce_builder_node_o_o_1 aq aa level next) fu stt=some tt) {Z:Env} {O:Sto}
  (hE:bl (fun stt:Int×(List Int)=>match stt with | (a,_keyv)=>[(0,vX 1000000),(1,vI level),(2,vO 1000003),(7,vO 5002),(14,vO 1000003),(15,vI (aT next)),(16,vI a)]) (fun stt:Int×(List Int)=>match stt with | (_a,keyv)=>[(5002,.row 1 5 (List.map (rI .u8) keyv)),(1000000,.box [.own 1000001,.map 1000002]),(1000001,.row 2 32 (List.map Node.row aq)),(1000002,mOb .str kS (uL (L.int .i64)) aa),(1000003,.row 1 3 (List.map (rI .i64) next))]) stt Z O):Swp Tryz.prog cx (.loop (bA [1,1,0,1,0,0] (be Tryz.f99))) Z O (ck cx aq aa level next tt):=by
 refine bm hE hh (ck cx aq aa level next) ?_
 rintro⟨a,keyv⟩ r hm Z O hf
 simp only[Fits,b8,b9,and_true] at hf
 unfold b_reduce_builder_node_o_o_1 at hm
 dsimp only at hm
 refine srs hn ?_
 simp -dsimp [hf]
 refine aS ?_
 rcases aZ hm with ⟨c2,hm⟩ | ⟨c2,hm⟩
 ·refine aV (by simp -dsimp) c2 ?_
  refine aU (aQ (aS (aW ?_)))
  refine srs hn ?_
  obtain⟨x,h3,hm⟩:=bnd hm
  simp -dsimp [hf,c2,h3,bf h3]
  refine sr1 hn ?_
  obtain⟨l,h4,hm⟩:=bnd hm
  obtain⟨h4a,h4e⟩:=b6 h4
  replace h4e:=h4e.symm
  subst h4e
  try simp only[List.length_cons,List.length_nil,Nat.zero_add] at h4a
  try simp only[Nat.mul_one,Nat.reduceLeDiff] at h4a
  obtain⟨y1,h5,hm⟩:=bnd hm
  simp -dsimp [hf,h4a]
  refine clg (bX (keyv++[32]) x 10 y1 h5) [22] [5001] (by simp -dsimp) (dkL hn) ?_
  simp -dsimp
  refine bv ?_
  refine aQ ?_
  refine sr1 hn ?_
  simp -dsimp [hf]
  cases hm
  refine bE ?_
  refine emv 5001 5002 ?_
  exact zz
 ·exact zz
theorem dz (aq:List Node) (aa:List (List UInt8×Int)) (level:Int) (next:List Int) (r:Int×(List (List UInt8×Int))×(List Node)) (hm:m_reduce_builder_node_o_o aq aa level next=some r):GFn Tryz.prog 99 [vX 1000000,vI level,vO 1000003] [.box [.own 1000001,.map 1000002],.row 2 32 (List.map Node.row aq),mOb .str kS (uL (L.int .i64)) aa,.row 1 3 (List.map (rI .i64) next)] (vI r.1) [some (.box [.own 1000004,.map 1000002]),none,some (mOb .str kS (uL (L.int .i64)) r.2.1),none,some (.row 2 32 (List.map Node.row r.2.2))]:=by
 refine bI bj _ Tryz.func99 rfl (by kernel_rfl) (by simp[Tryz.ntmps99]) (by simp) (by first | rfl | simp) (by first | rfl | simp) fun cx hn hk=>?_
 replace hn:cx.n=68:=hn.trans Tryz.ntmps99
 replace hk:cx.k=4:=hk
 unfold m_reduce_builder_node_o_o at hm
 refine srs hn ?_
 simp -dsimp
 refine srs hn ?_
 obtain⟨y,h1,hm⟩:=bnd hm
 simp -dsimp
 refine clg (eJ level 10 y h1) [] [5000] (by simp -dsimp) (dkL hn) ?_
 simp -dsimp
 refine aS ?_
 refine srs hn ?_
 simp -dsimp
 refine aW ?_
 obtain⟨keyv,g6,hm⟩:=bnd hm
 refine bd (fH cx hn hk aq aa level next g6) (by
   try dsimp only
   refine emv 5000 5002 ?_
   exact zz
 ) fun ee Z O xx=>?_
 unfold ck at xx
 dsimp only at xx
 obtain⟨rfl,xx⟩:=xx
 refine bh ?_
 refine aQ ?_
 refine see xx fun Z O hf=>?_
 simp only[Fits,b8,b9,and_true] at hf
 refine aS ?_
 refine sw_qts bj mixed (by rw[hn]; kernel_rfl) ?_
 obtain⟨u,h7,hm⟩:=bnd hm
 simp -dsimp [hf,dP h7,(@id (lkM (fi (mOb .str kS (uL (L.int .i64)) aa) (.str (ofBytes keyv))) true (.one (dI 0))=some (.tup [.one (dI (ek aa (ofBytes keyv) 0)),.one (.d (.bool (cb aa (ofBytes keyv))))])) (lk_two (ofBytes keyv) 0))]
 refine srs hn ?_
 simp -dsimp
 rcases aZ hm with ⟨c8,hm⟩ | ⟨c8,hm⟩
 ·refine aV (b:=(cb aa (ofBytes keyv))) (by simp -dsimp) c8 ?_
  refine srs hn ?_
  simp -dsimp [c8]
  refine bb (bS ?_)
  cases hm
  refine⟨.inr rfl,?_⟩
  refine emr 1000001 1000004 hk ?_
  exact zz
 ·refine aX (b:=(cb aa (ofBytes keyv))) (by simp -dsimp) c8 ?_
  refine aU (aQ ?_)
  refine Swp.pre (Wk.frz 1000003 1 3 (List.map (rI .i64) next) (by simp -dsimp [hf])) ?_
  refine srs hn ?_
  obtain⟨l,h9,hm⟩:=bnd hm
  obtain⟨h9a,h9e⟩:=b6 h9
  replace h9e:=h9e.symm
  subst h9e
  try simp only[List.length_cons,List.length_nil,Nat.zero_add] at h9a
  simp -dsimp [hf,c8,h9a]
  refine gt bj mixed 12 (by rw[hn]; kernel_rfl) ?_
  dsimp only [List.take,List.drop]
  simp -dsimp [hf,dP h7,(@id (ga (mOb .str kS (uL (L.int .i64)) aa) (.str (ofBytes keyv)) (.one (dI (bc .i64 ((aT aq)+1) 1)))=mOb .str kS (uL (L.int .i64)) (dD aa (ofBytes keyv) (bc .i64 ((aT aq)+1) 1))) (gp .str kS (uL (L.int .i64)) aa (ofBytes keyv) (bc .i64 ((aT aq)+1) 1)))]
  refine srs hn ?_
  simp -dsimp [hf]
  refine bb ?_
  cases hm
  refine⟨.inr rfl,?_⟩
  refine emr 47 1000004 hk ?_
  exact zz
end Go.Proofs.YtcllfealpkhjfaaGreatDoor
