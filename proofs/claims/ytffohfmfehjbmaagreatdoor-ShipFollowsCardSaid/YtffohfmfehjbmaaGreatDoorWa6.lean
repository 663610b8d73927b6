/- That the code does what the functions say (made by cc.py). -/
import Derived.Test.YtffohfmfehjbmaaGreatDoorWa5
namespace Go.Proofs.YtffohfmfehjbmaaGreatDoor
open Go.AM Go.Proofs
set_option maxRecDepth 100000
attribute [-simp] qlookup bF cq Ob.wipe Ob.ren Ob.frz1
def dQ (cx:Cx) (_l:List Cell) (tt:((List Cell)×Int) ⊕ (List Cell)) (ee:Exit) (Z:Env) (O:Sto):Prop:=match tt with
 | .inl r=>ee=.ret/\EE cx (fun Z O=>∃ v,cp tb Z O Tryz.f79.results.toList=some v/\(v.frz O).free=true/\(v.frz O).wk (.tup [.one (dR0 r.1),.one (dI r.2)])) Z O
 | .inr out=>ee=.exit 0/\EE cx (aY [(4,vO 5000)] [(5000,.row 3 61 (List.map Cell.row out))]) Z O
theorem l_pattern_From_1 (cx:Cx) (hn:cx.n=61) (l:List Cell) {fu:Nat} {stt:Int×(List Cell)} {tt:((List Cell)×Int) ⊕ (List Cell)} (hh:aK (b_pattern_From_1 l) fu stt=some tt) {Z:Env} {O:Sto}
  (hE:b9 (fun stt:Int×(List Cell)=>match stt with | (a,_out)=>[(4,vO 5000),(8,.u (.one (dR0 l))),(9,vI (aB l)),(10,vI a)]) (fun stt:Int×(List Cell)=>match stt with | (_a,out)=>[(5000,.row 3 61 (List.map Cell.row out))]) stt Z O):Swp Tryz.prog cx (.loop (bq [1,1,0,1,0,0] (aU Tryz.f79))) Z O (dQ cx l tt):=by
 refine bc hE hh (dQ cx l) ?_
 rintro⟨a,out⟩ r hm Z O hf
 simp only[Fits,aR,aQ,and_true] at hf
 unfold b_pattern_From_1 at hm
 dsimp only at hm
 refine srs hn ?_
 simp -dsimp [hf]
 refine aD ?_
 rcases aM hm with ⟨c1,hm⟩ | ⟨c1,hm⟩
 ·refine aI (by simp -dsimp) c1 ?_
  refine aF (aC (aD (aH ?_)))
  refine srs hn ?_
  obtain⟨x,h2,hm⟩:=bnd hm
  simp -dsimp [hf,c1,h2]
  refine aH ?_
  refine srs hn ?_
  obtain⟨y,h3,hm⟩:=bnd hm
  simp -dsimp
  refine aA (cg x y h3) (dkL hn) ?_
  obtain⟨y1,h4,hm⟩:=bnd hm
  simp -dsimp
  refine aA (dJ y y1 h4) (dkL hn) ?_
  simp -dsimp
  rcases aM hm with ⟨c5,hm⟩ | ⟨c5,hm⟩
  ·exact zz
  ·refine aG (by simp -dsimp) c5 ?_
   obtain⟨a1,j10,hm⟩:=bnd hm
   refine scE [(4,vO 5000),(6,vX 6),(8,.u (.one (dR0 l))),(9,vI (aB l)),(10,vI a),(19,vT a1)] [(6,.box [dI x.X,dI x.Y,dI x.S]),(5000,.row 3 61 (List.map Cell.row out))] ?_ fun Z O hf=>?_
   ·replace hm:=j10
    clear j10
    exact zz
   ·clear j10
    simp only[Fits,aR,aQ,and_true] at hf
    rcases aM hm with ⟨c7,hm⟩ | ⟨c7,hm⟩
    ·exact zz
    ·refine aG (by simp -dsimp [hf]) c7 ?_
     refine srs hn ?_
     simp -dsimp [hf]
     rcases aM hm with ⟨c8,hm⟩ | ⟨c8,hm⟩
     ·refine aI (by simp -dsimp) c8 ?_
      refine sr1 hn ?_
      obtain⟨l1,h9,hm⟩:=bnd hm
      obtain⟨h9a,h9e⟩:=aS h9
      replace h9e:=h9e.symm
      subst h9e
      try simp only[List.length_cons,List.length_nil,Nat.zero_add] at h9a
      simp -dsimp [hf,c8,h9a]
      refine bp ?_
      refine bp ?_
      refine aC ?_
      refine sr1 hn ?_
      simp -dsimp [hf]
      cases hm
      refine bO ?_
      refine emv 35 5000 ?_
      exact zz
     ·exact zz
 ·exact zz
def fc (cx:Cx) (_out y:List Cell) (tt:((List Cell)×Int) ⊕ Unit) (ee:Exit) (Z:Env) (O:Sto):Prop:=match tt with
 | .inl r=>ee=.ret/\EE cx (fun Z O=>∃ v,cp tb Z O Tryz.f79.results.toList=some v/\(v.frz O).free=true/\(v.frz O).wk (.tup [.one (dR0 r.1),.one (dI r.2)])) Z O
 | .inr _u=>ee=.exit 3/\EE cx (aY [(4,vO 5000)] [(5000,.row 3 61 (List.map Cell.row y))]) Z O
theorem l_pattern_From_2 (cx:Cx) (hn:cx.n=61) (out y:List Cell) {fu:Nat} {stt:Int} {tt:((List Cell)×Int) ⊕ Unit} (hh:aK (b_pattern_From_2 out y) fu stt=some tt) {Z:Env} {O:Sto}
  (hE:b9 (fun i:Int=>[(4,vO 5000),(7,vI i)]) (fun _i:Int=>[(5000,.row 3 61 (List.map Cell.row y))]) stt Z O):Swp Tryz.prog cx (.loop (bq [1,1,1,1,0,1,0,0] (aU Tryz.f79))) Z O (fc cx out y tt):=by
 refine bc hE hh (fc cx out y) ?_
 rintro i r hm Z O hf
 simp only[Fits,aR,aQ,and_true] at hf
 unfold b_pattern_From_2 at hm
 dsimp only at hm
 refine aD ?_
 refine srs hn ?_
 simp -dsimp [hf]
 rcases aM hm with ⟨c13,hm⟩ | ⟨c13,hm⟩
 ·refine aI (by simp -dsimp) c13 ?_
  refine aF (aC (aD (aH ?_)))
  refine bG aP mixed (by rw[hn]; kernel_rfl) ?_
  obtain⟨x,h14,hm⟩:=bnd hm
  obtain⟨y1,h15,hm⟩:=bnd hm
  simp -dsimp [hf,c13,h14,aZ h14]
  refine aJ (cg x y1 h15) ?_
  obtain⟨x1,h16,hm⟩:=bnd hm
  obtain⟨y2,h17,hm⟩:=bnd hm
  simp -dsimp [hf,h16,aZ h16]
  refine aJ (cg x1 y2 h17) ?_
  exact zz
 ·exact zz
theorem c_pattern_From (l:List Cell) (r:(List Cell)×Int) (hm:m_pattern_From l=some r):PureCall Tryz.prog 79 [.u (.one (dR0 l))] (.tup [.one (dR0 r.1),.one (dI r.2)]):=by
 refine b8 Tryz.func79 Tryz.ntmps79 fun cx hn=>?_
 unfold m_pattern_From at hm
 refine srs hn ?_
 simp -dsimp
 refine srs hn ?_
 simp -dsimp
 refine aD ?_
 refine srs hn ?_
 simp -dsimp
 refine aH ?_
 obtain⟨o_,g11,hm⟩:=bnd hm
 refine aW (l_pattern_From_1 cx hn l g11) (by
   try dsimp only
   refine EE.step (Wk.own0 4 5000 3 61 (by simp -dsimp) (by decide)) ?_
   exact zz
 ) fun ee Z O xx=>?_
 rcases o_ with r | out
 ·exact zz
 ·unfold dQ at xx
  dsimp only at xx
  obtain⟨rfl,xx⟩:=xx
  refine bj ?_
  refine aC ?_
  refine see xx fun Z O hf=>?_
  simp only[Fits,aR,aQ,and_true] at hf
  refine srs hn ?_
  obtain⟨y,h12,hm⟩:=bnd hm
  simp -dsimp [hf]
  refine clg (bA out y h12) [5000] [] (by simp -dsimp [hf]) (dkL hn) ?_
  simp -dsimp
  refine aD ?_
  refine srs hn ?_
  simp -dsimp
  refine aH ?_
  obtain⟨o_1,g19,hm⟩:=bnd hm
  refine aW (l_pattern_From_2 cx hn out y g19) (by
    try dsimp only
    exact EE.here (by simp -dsimp [hf])
  ) fun ee Z O xx=>?_
  rcases o_1 with r | _u
  ·exact zz
  ·exact zz
def F_direct_step_2 (cx:Cx) (t:Tree) (p:List Cell) (y:List (Point×Int)) (a:Int) (_x:Cell) (tt:((List Cell)×Int) ⊕ ((List (Point×Bool))×(List Cell))) (ee:Exit) (Z:Env) (O:Sto):Prop:=match tt with
 | .inl r=>ee=.ret/\EE cx (fun Z O=>∃ v,cp tb Z O Tryz.f32.results.toList=some v/\(v.frz O).free=true/\(v.frz O).wk (.tup [.one (dR0 r.1),.one (dI r.2)])) Z O
 | .inr (ab,l1)=>ee=.exit 2/\EE cx (aY [(2,vX 2),(6,.u (.one (.map 5000))),(7,.u (.one (.map 17))),(8,vO 5001),(18,.u (.one (dR0 p))),(19,vI (aB p)),(20,vI a)] [(2,.box [dI t.States,dR2 t.Hood,dR1 t.Nodes]),(17,mOb (.ints 2) Point.key (uL L.bool) ab),(5000,mOb (.ints 2) Point.key (uL (L.int .i64)) y),(5001,.row 3 61 (List.map Cell.row l1))]) Z O
theorem l_direct_step_2 (cx:Cx) (hn:cx.n=71) (t:Tree) (p:List Cell) (y:List (Point×Int)) (a:Int) (x:Cell) {fu:Nat} {stt:Int×(List (Point×Bool))×(List Cell)} {tt:((List Cell)×Int) ⊕ ((List (Point×Bool))×(List Cell))} (hh:aK (b_direct_step_2 t p y a x) fu stt=some tt) {Z:Env} {O:Sto}
  (hE:b9 (fun stt:Int×(List (Point×Bool))×(List Cell)=>match stt with | (a1,_ab,_l1)=>[(2,vX 2),(6,.u (.one (.map 5000))),(7,.u (.one (.map 17))),(8,vO 5001),(10,vX 10),(18,.u (.one (dR0 p))),(19,vI (aB p)),(20,vI a),(25,.u (.one (dR2 t.Hood))),(26,vI (aB t.Hood)),(27,vI a1)]) (fun stt:Int×(List (Point×Bool))×(List Cell)=>match stt with | (_a1,ab,l1)=>[(2,.box [dI t.States,dR2 t.Hood,dR1 t.Nodes]),(10,.box [dI x.X,dI x.Y,dI x.S]),(17,mOb (.ints 2) Point.key (uL L.bool) ab),(5000,mOb (.ints 2) Point.key (uL (L.int .i64)) y),(5001,.row 3 61 (List.map Cell.row l1))]) stt Z O):Swp Tryz.prog cx (.loop (bq [1,1,1,1,0,1,0,0,1,1,0,0,1,1,0,0] (aU Tryz.f32))) Z O (F_direct_step_2 cx t p y a x tt):=by
 refine bc hE hh (F_direct_step_2 cx t p y a x) ?_
 rintro⟨a1,ab,l1⟩ r hm Z O hf
 simp only[Fits,aR,aQ,and_true] at hf
 unfold b_direct_step_2 at hm
 dsimp only at hm
 refine srs hn ?_
 simp -dsimp [hf]
 refine aD ?_
 rcases aM hm with ⟨c4,hm⟩ | ⟨c4,hm⟩
 ·refine aI (by simp -dsimp) c4 ?_
  refine aF (aC (aD (aH ?_)))
  refine srs hn ?_
  obtain⟨x1,h5,hm⟩:=bnd hm
  simp -dsimp [hf,c4,h5]
  refine srs hn ?_
  simp -dsimp [hf]
  refine aD ?_
  refine srs hn ?_
  obtain⟨u,h6,hm⟩:=bnd hm
  simp -dsimp [hf,ct h6 (.head _),ct h6 (.tail _ (.head _)),(@id (lkM (eH (mOb (.ints 2) Point.key (uL L.bool) ab) (.ints [(aL .i64 x.X x1.X),(aL .i64 x.Y x1.Y)])) false (.one (.d (.bool false)))=some (vT (bN ab (⟨(aL .i64 x.X x1.X),(aL .i64 x.Y x1.Y)⟩:Point) false))) (lk_val (⟨(aL .i64 x.X x1.X),(aL .i64 x.Y x1.Y)⟩:Point) false))]
  rcases aM hm with ⟨c7,hm⟩ | ⟨c7,hm⟩
  ·exact zz
  ·refine aG (b:=(bN ab (⟨(aL .i64 x.X x1.X),(aL .i64 x.Y x1.Y)⟩:Point) false)) (by simp -dsimp) c7 ?_
   refine aF (aC ?_)
   refine srs hn ?_
   simp -dsimp [hf,ct h6 (.head _),ct h6 (.tail _ (.head _)),c7,(@id (fM (mOb (.ints 2) Point.key (uL L.bool) ab) (.ints [(aL .i64 x.X x1.X),(aL .i64 x.Y x1.Y)]) (.one (.d (.bool true)))=mOb (.ints 2) Point.key (uL L.bool) (cP ab (⟨(aL .i64 x.X x1.X),(aL .i64 x.Y x1.Y)⟩:Point) true)) (mset_ob (.ints 2) Point.key (uL L.bool) ab (⟨(aL .i64 x.X x1.X),(aL .i64 x.Y x1.Y)⟩:Point) true))]
   refine srs hn ?_
   obtain⟨y1,h8,hm⟩:=bnd hm
   simp -dsimp [hf]
   refine callL_g (g_direct_cells_next_o y t (⟨(aL .i64 x.X x1.X),(aL .i64 x.Y x1.Y)⟩:Point) y1 h8) [5000] [] rfl rfl rfl (by simp -dsimp) rfl (by simp -dsimp [hf]) (by first | rfl | simp) rfl (dkL hn) ?_
   simp -dsimp
   refine srs hn ?_
   simp -dsimp
   rcases aM hm with ⟨c9,hm⟩ | ⟨c9,hm⟩
   ·refine aI (b:=(gtB y1 0)) (by simp -dsimp) c9 ?_
    refine aD ?_
    refine srs hn ?_
    obtain⟨y2,h10,hm⟩:=bnd hm
    simp -dsimp [c9]
    refine aA (c_direct_place (⟨(aL .i64 x.X x1.X),(aL .i64 x.Y x1.Y)⟩:Point) y2 h10) (dkL hn) ?_
    simp -dsimp
    rcases aM hm with ⟨c11,hm⟩ | ⟨c11,hm⟩
    ·exact zz
    ·refine aG (b:=(ba y2)) (by simp -dsimp) c11 ?_
     refine aF (aC ?_)
     refine sr1 hn ?_
     obtain⟨l2,h12,hm⟩:=bnd hm
     obtain⟨h12a,h12e⟩:=aS h12
     replace h12e:=h12e.symm
     subst h12e
     try simp only[List.length_cons,List.length_nil,Nat.zero_add] at h12a
     simp -dsimp [hf,c11,h12a]
     refine bp ?_
     refine aC ?_
     refine sr1 hn ?_
     simp -dsimp [hf]
     cases hm
     refine bO ?_
     refine emv 64 5001 ?_
     exact zz
   ·exact zz
 ·exact zz
def eh (cx:Cx) (_t:Tree) (_p:List Cell) (_y:List (Point×Int)) (tt:((List Cell)×Int) ⊕ (List Cell)) (ee:Exit) (Z:Env) (O:Sto):Prop:=match tt with
 | .inl r=>ee=.ret/\EE cx (fun Z O=>∃ v,cp tb Z O Tryz.f32.results.toList=some v/\(v.frz O).free=true/\(v.frz O).wk (.tup [.one (dR0 r.1),.one (dI r.2)])) Z O
 | .inr l=>ee=.exit 0/\EE cx (aY [(8,vO 5001)] [(5001,.row 3 61 (List.map Cell.row l))]) Z O
theorem l_direct_step_1 (cx:Cx) (hn:cx.n=71) (t:Tree) (p:List Cell) (y:List (Point×Int)) {fu:Nat} {stt:Int×(List (Point×Bool))×(List Cell)} {tt:((List Cell)×Int) ⊕ (List Cell)} (hh:aK (b_direct_step_1 t p y) fu stt=some tt) {Z:Env} {O:Sto}
  (hE:b9 (fun stt:Int×(List (Point×Bool))×(List Cell)=>match stt with | (a,_done,_l)=>[(2,vX 2),(6,.u (.one (.map 5000))),(7,.u (.one (.map 17))),(8,vO 5001),(18,.u (.one (dR0 p))),(19,vI (aB p)),(20,vI a)]) (fun stt:Int×(List (Point×Bool))×(List Cell)=>match stt with | (_a,done,l)=>[(2,.box [dI t.States,dR2 t.Hood,dR1 t.Nodes]),(17,mOb (.ints 2) Point.key (uL L.bool) done),(5000,mOb (.ints 2) Point.key (uL (L.int .i64)) y),(5001,.row 3 61 (List.map Cell.row l))]) stt Z O):Swp Tryz.prog cx (.loop (bq [1,1,1,1,0,1,0,0] (aU Tryz.f32))) Z O (eh cx t p y tt):=by
 refine bc hE hh (eh cx t p y) ?_
 rintro⟨a,done,l⟩ r hm Z O hf
 simp only[Fits,aR,aQ,and_true] at hf
 unfold b_direct_step_1 at hm
 dsimp only at hm
 refine srs hn ?_
 simp -dsimp [hf]
 refine aD ?_
 rcases aM hm with ⟨c2,hm⟩ | ⟨c2,hm⟩
 ·refine aI (by simp -dsimp) c2 ?_
  refine aF (aC (aD (aH ?_)))
  refine srs hn ?_
  obtain⟨x,h3,hm⟩:=bnd hm
  simp -dsimp [hf,c2,h3]
  refine srs hn ?_
  simp -dsimp [hf]
  refine aH ?_
  obtain⟨o_,g13,hm⟩:=bnd hm
  refine aW (l_direct_step_2 cx hn t p y a x g13) (by
    try dsimp only
    exact EE.here (by simp -dsimp [hf])
  ) fun ee Z O xx=>?_
  rcases o_ with r | ⟨ab,l1⟩
  ·exact zz
  ·exact zz
 ·exact zz
theorem c_direct_step (t:Tree) (p:List Cell) (r:(List Cell)×Int) (hm:m_direct_step t p=some r):PureCall Tryz.prog 32 [.u (.agg [dI t.States,dR2 t.Hood,dR1 t.Nodes]),.u (.one (dR0 p))] (.tup [.one (dR0 r.1),.one (dI r.2)]):=by
 refine b8 Tryz.func32 Tryz.ntmps32 fun cx hn=>?_
 unfold m_direct_step at hm
 refine srs hn ?_
 simp -dsimp
 refine srs hn ?_
 obtain⟨y,h1,hm⟩:=bnd hm
 simp -dsimp
 refine clg (g_direct_of p y h1) [] [5000] (by simp -dsimp) (dkL hn) ?_
 simp -dsimp
 refine srs hn ?_
 simp -dsimp [(@id (Ob.map (.ints 2) []=mOb (.ints 2) Point.key (uL L.bool) ([]:List (Point×Bool))) (fq (.ints 2) Point.key (uL L.bool)))]
 refine srs hn ?_
 simp -dsimp
 refine aD ?_
 refine srs hn ?_
 simp -dsimp
 refine aH ?_
 obtain⟨o_,g14,hm⟩:=bnd hm
 refine aW (l_direct_step_1 cx hn t p y g14) (by
   try dsimp only
   refine EE.step (Wk.own0 8 5001 3 61 (by simp -dsimp) (by decide)) ?_
   exact zz
 ) fun ee Z O xx=>?_
 rcases o_ with r | l
 ·exact zz
 ·unfold eh at xx
  dsimp only at xx
  obtain⟨rfl,xx⟩:=xx
  refine bj ?_
  refine aC ?_
  refine see xx fun Z O hf=>?_
  simp only[Fits,aR,aQ,and_true] at hf
  refine Swp.pre (Wk.frz 5001 3 61 (List.map Cell.row l) (by simp -dsimp [hf])) ?_
  refine srs hn ?_
  obtain⟨y1,h15,hm⟩:=bnd hm
  simp -dsimp [hf]
  refine aA (c_pattern_From l y1 h15) (dkL hn) ?_
  exact zz
def F_direct_Run_1 (cx:Cx) (_t:Tree) (_n:Int) (tt:((List Cell)×Int) ⊕ (List Cell)) (ee:Exit) (Z:Env) (O:Sto):Prop:=match tt with
 | .inl r=>ee=.ret/\EE cx (fun Z O=>∃ v,cp tb Z O Tryz.f11.results.toList=some v/\(v.frz O).free=true/\(v.frz O).wk (.tup [.one (dR0 r.1),.one (dI r.2)])) Z O
 | .inr p1=>ee=.exit 0/\EE cx (aY [(1,.u (.one (dR0 p1)))] []) Z O
theorem l_direct_Run_1 (cx:Cx) (hn:cx.n=38) (t:Tree) (n:Int) {fu:Nat} {stt:(List Cell)×Int} {tt:((List Cell)×Int) ⊕ (List Cell)} (hh:aK (b_direct_Run_1 t n) fu stt=some tt) {Z:Env} {O:Sto}
  (hE:b9 (fun stt:(List Cell)×Int=>match stt with | (p1,a1)=>[(1,.u (.one (dR0 p1))),(3,vX 3),(23,vI n),(24,vI a1)]) (fun stt:(List Cell)×Int=>match stt with | (_p1,_a1)=>[(3,.box [dI t.States,dR2 t.Hood,dR1 t.Nodes])]) stt Z O):Swp Tryz.prog cx (.loop (bq [1,1,1,0,1,0,0] (aU Tryz.f11))) Z O (F_direct_Run_1 cx t n tt):=by
 refine bc hE hh (F_direct_Run_1 cx t n) ?_
 rintro⟨p1,a1⟩ r hm Z O hf
 simp only[Fits,aR,aQ,and_true] at hf
 unfold b_direct_Run_1 at hm
 dsimp only at hm
 refine srs hn ?_
 simp -dsimp [hf]
 refine aD ?_
 rcases aM hm with ⟨c5,hm⟩ | ⟨c5,hm⟩
 ·refine aI (by simp -dsimp) c5 ?_
  refine aF (aC (aD (aH ?_)))
  refine srs hn ?_
  obtain⟨y1,h6,hm⟩:=bnd hm
  simp -dsimp [hf,c5]
  refine aA (c_direct_step t p1 y1 h6) (dkL hn) ?_
  exact zz
 ·exact zz
theorem fL (t:Tree) (p:List Cell) (n:Int) (r:(List Cell)×Int) (hm:m_direct_Run t p n=some r):PureCall Tryz.prog 11 [.u (.agg [dI t.States,dR2 t.Hood,dR1 t.Nodes]),.u (.one (dR0 p)),vI n] (.tup [.one (dR0 r.1),.one (dI r.2)]):=by
 refine b8 Tryz.func11 Tryz.ntmps11 fun cx hn=>?_
 unfold m_direct_Run at hm
 refine srs hn ?_
 simp -dsimp
 refine aD ?_
 refine srs hn ?_
 obtain⟨y,h1,hm⟩:=bnd hm
 simp -dsimp
 refine aA (c_direct_check t p y h1) (dkL hn) ?_
 simp -dsimp
 refine srs hn ?_
 simp -dsimp
 rcases aM hm with ⟨c2,hm⟩ | ⟨c2,hm⟩
 ·exact zz
 ·refine aG (by simp -dsimp) c2 ?_
  refine aF (aC (aD ?_))
  obtain⟨a,j9,hm⟩:=bnd hm
  refine scE [(1,.u (.one (dR0 p))),(2,vI n),(3,vX 3),(22,vT a)] [(3,.box [dI t.States,dR2 t.Hood,dR1 t.Nodes])] ?_ fun Z O hf=>?_
  ·replace hm:=j9
   clear j9
   exact zz
  ·clear j9
   simp only[Fits,aR,aQ,and_true] at hf
   rcases aM hm with ⟨c4,hm⟩ | ⟨c4,hm⟩
   ·exact zz
   ·refine aG (by simp -dsimp [hf]) c4 ?_
    refine aF (aC (aD ?_))
    refine srs hn ?_
    simp -dsimp [hf]
    refine aH ?_
    obtain⟨o_,g8,hm⟩:=bnd hm
    refine aW (l_direct_Run_1 cx hn t n g8) (by
      try dsimp only
      exact EE.here (by simp -dsimp [hf])
    ) fun ee Z O xx=>?_
    rcases o_ with r | p1
    ·exact zz
    ·exact zz
theorem c_period_proper (n:Int) (r:Bool) (hm:m_period_proper n=some r):PureCall Tryz.prog 181 [vI n] (vT r):=by
 refine b8 Tryz.func181 Tryz.ntmps181 fun cx hn=>?_
 unfold m_period_proper at hm
 refine srs hn ?_
 simp -dsimp
 obtain⟨a,j2,hm⟩:=bnd hm
 refine scE [(2,vT a)] [] ?_ fun Z O hf=>?_
 ·replace hm:=j2
  clear j2
  exact zz
 ·clear j2
  exact zz
theorem c_direct_Step (t:Tree) (p:List Cell) (r:(List Cell)×Int) (hm:m_direct_Step t p=some r):PureCall Tryz.prog 182 [.u (.agg [dI t.States,dR2 t.Hood,dR1 t.Nodes]),.u (.one (dR0 p))] (.tup [.one (dR0 r.1),.one (dI r.2)]):=by
 refine b8 Tryz.func182 Tryz.ntmps182 fun cx hn=>?_
 unfold m_direct_Step at hm
 refine srs hn ?_
 simp -dsimp
 refine aD ?_
 refine srs hn ?_
 obtain⟨y,h1,hm⟩:=bnd hm
 simp -dsimp
 refine aA (c_direct_check t p y h1) (dkL hn) ?_
 simp -dsimp
 refine srs hn ?_
 simp -dsimp
 rcases aM hm with ⟨c2,hm⟩ | ⟨c2,hm⟩
 ·exact zz
 ·refine aG (by simp -dsimp) c2 ?_
  refine aF (aC ?_)
  refine srs hn ?_
  obtain⟨y1,h3,hm⟩:=bnd hm
  simp -dsimp [c2]
  refine aA (c_direct_step t p y1 h3) (dkL hn) ?_
  exact zz
end Go.Proofs.YtffohfmfehjbmaaGreatDoor
