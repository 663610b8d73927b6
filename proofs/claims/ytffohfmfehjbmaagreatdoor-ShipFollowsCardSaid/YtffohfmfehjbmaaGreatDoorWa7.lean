/- That the code does what the functions say (made by cc.py). -/
import Derived.Test.YtffohfmfehjbmaaGreatDoorWa6
namespace Go.Proofs.YtffohfmfehjbmaaGreatDoor
open Go.AM Go.Proofs
set_option maxRecDepth 100000
attribute [-simp] qlookup bF cq Ob.wipe Ob.ren Ob.frz1
def ff (cx:Cx) (_a _b:List Cell) (x x1:Cell) (tt:(Int×Int×Bool) ⊕ Unit) (ee:Exit) (Z:Env) (O:Sto):Prop:=match tt with
 | .inl r=>ee=.ret/\EE cx (fun Z O=>∃ v,cp tb Z O Tryz.f183.results.toList=some v/\(v.frz O).free=true/\(v.frz O).wk (.tup [.one (dI r.1),.one (dI r.2.1),.one (.d (.bool r.2.2))])) Z O
 | .inr _u=>ee=.exit 0/\EE cx (aY [(4,vI (aL .i64 x.X x1.X)),(5,vI (aL .i64 x.Y x1.Y))] []) Z O
theorem l_period_moved_1 (cx:Cx) (hn:cx.n=69) (a b:List Cell) (x x1:Cell) {fu:Nat} {stt:Int} {tt:(Int×Int×Bool) ⊕ Unit} (hh:aK (b_period_moved_1 a b x x1) fu stt=some tt) {Z:Env} {O:Sto}
  (hE:b9 (fun a2:Int=>[(0,.u (.one (dR0 a))),(1,.u (.one (dR0 b))),(4,vI (aL .i64 x.X x1.X)),(5,vI (aL .i64 x.Y x1.Y)),(37,vI (aB a)),(38,vI a2)]) (fun _a2:Int=>[]) stt Z O):Swp Tryz.prog cx (.loop (bq [1,1,1,0,1,0,0] (aU Tryz.f183))) Z O (ff cx a b x x1 tt):=by
 refine bc hE hh (ff cx a b x x1) ?_
 rintro a2 r hm Z O hf
 simp only[Fits,aR,aQ,and_true] at hf
 unfold b_period_moved_1 at hm
 exact zz
theorem c_period_moved (a b:List Cell) (r:Int×Int×Bool) (hm:m_period_moved a b=some r):PureCall Tryz.prog 183 [.u (.one (dR0 a)),.u (.one (dR0 b))] (.tup [.one (dI r.1),.one (dI r.2.1),.one (.d (.bool r.2.2))]):=by
 refine b8 Tryz.func183 Tryz.ntmps183 fun cx hn=>?_
 unfold m_period_moved at hm
 refine srs hn ?_
 simp -dsimp
 refine aD ?_
 obtain⟨a1,j10,hm⟩:=bnd hm
 refine scE [(0,.u (.one (dR0 a))),(1,.u (.one (dR0 b))),(17,vT a1)] [] ?_ fun Z O hf=>?_
 ·replace hm:=j10
  clear j10
  exact zz
 ·clear j10
  simp only[Fits,aR,aQ,and_true] at hf
  rcases aM hm with ⟨c2,hm⟩ | ⟨c2,hm⟩
  ·exact zz
  ·refine aG (by simp -dsimp [hf]) c2 ?_
   refine aF (aC ?_)
   refine bG aP mixed (by rw[hn]; kernel_rfl) ?_
   obtain⟨x,h3,hm⟩:=bnd hm
   obtain⟨x1,h4,hm⟩:=bnd hm
   simp -dsimp [hf,h3,h4]
   refine aD ?_
   refine srs hn ?_
   simp -dsimp [hf]
   refine aH ?_
   obtain⟨o_,g9,hm⟩:=bnd hm
   refine aW (l_period_moved_1 cx hn a b x x1 g9) (by
     try dsimp only
     exact EE.here (by simp -dsimp [hf])
   ) fun ee Z O xx=>?_
   rcases o_ with r | _u
   ·exact zz
   ·exact zz
def F_period_Find_1 (cx:Cx) (_t:Tree) (_p:List Cell) (_most:Int) (tt:(Motion×Bool×Int) ⊕ Unit) (ee:Exit) (Z:Env) (O:Sto):Prop:=match tt with
 | .inl r=>ee=.ret/\EE cx (fun Z O=>∃ v,cp tb Z O Tryz.f116.results.toList=some v/\(v.frz O).free=true/\(v.frz O).wk (.tup [.agg [dI r.1.Period,dI r.1.DX,dI r.1.DY],.one (.d (.bool r.2.1)),.one (dI r.2.2)])) Z O
 | .inr _u=>ee=.exit 0/\EE cx (aY [(6,vX 6)] [(6,.box [dI 0,dI 0,dI 0])]) Z O
theorem l_period_Find_1 (cx:Cx) (hn:cx.n=67) (t:Tree) (p:List Cell) (most:Int) {fu:Nat} {stt:(List Cell)×Int} {tt:(Motion×Bool×Int) ⊕ Unit} (hh:aK (b_period_Find_1 t p most) fu stt=some tt) {Z:Env} {O:Sto}
  (hE:b9 (fun stt:(List Cell)×Int=>match stt with | (q,gv)=>[(1,.u (.one (dR0 p))),(2,vI most),(3,vX 3),(6,vX 6),(11,.u (.one (dR0 q))),(12,vI gv)]) (fun stt:(List Cell)×Int=>match stt with | (_q,_gv)=>[(3,.box [dI t.States,dR2 t.Hood,dR1 t.Nodes]),(6,.box [dI 0,dI 0,dI 0])]) stt Z O):Swp Tryz.prog cx (.loop (bq [1,1,1,1,0,1,0,0] (aU Tryz.f116))) Z O (F_period_Find_1 cx t p most tt):=by
 refine bc hE hh (F_period_Find_1 cx t p most) ?_
 rintro⟨q,gv⟩ r hm Z O hf
 simp only[Fits,aR,aQ,and_true] at hf
 unfold b_period_Find_1 at hm
 dsimp only at hm
 refine aD ?_
 obtain⟨a,j11,hm⟩:=bnd hm
 refine scE [(1,.u (.one (dR0 p))),(2,vI most),(3,vX 3),(6,vX 6),(11,.u (.one (dR0 q))),(12,vI gv),(40,vT a)] [(3,.box [dI t.States,dR2 t.Hood,dR1 t.Nodes]),(6,.box [dI 0,dI 0,dI 0])] ?_ fun Z O hf=>?_
 ·replace hm:=j11
  clear j11
  exact zz
 ·clear j11
  simp only[Fits,aR,aQ,and_true] at hf
  rcases aM hm with ⟨c6,hm⟩ | ⟨c6,hm⟩
  ·refine aI (by simp -dsimp [hf]) c6 ?_
   refine aF (aC (aD (aH ?_)))
   refine srs hn ?_
   obtain⟨y2,h7,hm⟩:=bnd hm
   simp -dsimp [hf]
   refine aA (c_direct_Step t q y2 h7) (dkL hn) ?_
   simp -dsimp
   refine aD ?_
   refine srs hn ?_
   simp -dsimp
   rcases aM hm with ⟨c8,hm⟩ | ⟨c8,hm⟩
   ·exact zz
   ·refine aG (by simp -dsimp) c8 ?_
    refine aF (aC ?_)
    refine srs hn ?_
    simp -dsimp [c8]
    refine srs hn ?_
    obtain⟨y3,h9,hm⟩:=bnd hm
    simp -dsimp [hf]
    refine aA (c_period_moved p y2.1 y3 h9) (dkL hn) ?_
    exact zz
  ·exact zz
theorem c_period_Find (t:Tree) (p:List Cell) (most:Int) (r:Motion×Bool×Int) (hm:m_period_Find t p most=some r):PureCall Tryz.prog 116 [.u (.agg [dI t.States,dR2 t.Hood,dR1 t.Nodes]),.u (.one (dR0 p)),vI most] (.tup [.agg [dI r.1.Period,dI r.1.DX,dI r.1.DY],.one (.d (.bool r.2.1)),.one (dI r.2.2)]):=by
 refine b8 Tryz.func116 Tryz.ntmps116 fun cx hn=>?_
 unfold m_period_Find at hm
 refine srs hn ?_
 simp -dsimp
 refine aD ?_
 refine srs hn ?_
 obtain⟨y,h1,hm⟩:=bnd hm
 simp -dsimp
 refine aA (fL t p 0 y h1) (dkL hn) ?_
 simp -dsimp
 refine srs hn ?_
 simp -dsimp
 rcases aM hm with ⟨c2,hm⟩ | ⟨c2,hm⟩
 ·exact zz
 ·refine aG (by simp -dsimp) c2 ?_
  refine aF (aC (aD ?_))
  refine srs hn ?_
  obtain⟨y1,h3,hm⟩:=bnd hm
  simp -dsimp [c2]
  refine aA (c_period_proper most y1 h3) (dkL hn) ?_
  simp -dsimp
  rcases aM hm with ⟨c4,hm⟩ | ⟨c4,hm⟩
  ·exact zz
  ·refine aG (by simp -dsimp) c4 ?_
   refine aF (aC ?_)
   refine srs hn ?_
   simp -dsimp [c4]
   refine aD ?_
   refine srs hn ?_
   simp -dsimp
   refine aH ?_
   obtain⟨o_,g12,hm⟩:=bnd hm
   refine aW (l_period_Find_1 cx hn t p most g12) (by
     try dsimp only
     exact EE.here (by simp -dsimp)
   ) fun ee Z O xx=>?_
   rcases o_ with r | _u
   ·exact zz
   ·exact zz
theorem c_period_Has (t:Tree) (p:List Cell) (m:Motion) (r:Bool×Int) (hm:m_period_Has t p m=some r):PureCall Tryz.prog 46 [.u (.agg [dI t.States,dR2 t.Hood,dR1 t.Nodes]),.u (.one (dR0 p)),.u (.agg [dI m.Period,dI m.DX,dI m.DY])] (.tup [.one (.d (.bool r.1)),.one (dI r.2)]):=by
 refine b8 Tryz.func46 Tryz.ntmps46 fun cx hn=>?_
 unfold m_period_Has at hm
 refine srs hn ?_
 simp -dsimp
 refine srs hn ?_
 obtain⟨y,h1,hm⟩:=bnd hm
 simp -dsimp
 refine aA (c_period_Find t p m.Period y h1) (dkL hn) ?_
 simp -dsimp
 obtain⟨a,j3,hm⟩:=bnd hm
 refine scE [(6,vT a),(7,vI y.2.2)] [] ?_ fun Z O hf=>?_
 ·replace hm:=j3
  clear j3
  exact zz
 ·clear j3
  exact zz
theorem c_ship_Right (t:Tree) (s:Ship) (r:Bool) (hm:m_ship_Right t s=some r):PureCall Tryz.prog 19 [.u (.agg [dI t.States,dR2 t.Hood,dR1 t.Nodes]),.u (.agg [dR0 s.Cells,dI s.Motion.Period,dI s.Motion.DX,dI s.Motion.DY])] (vT r):=by
 refine b8 Tryz.func19 Tryz.ntmps19 fun cx hn=>?_
 unfold m_ship_Right at hm
 refine srs hn ?_
 simp -dsimp
 refine srs hn ?_
 obtain⟨y,h1,hm⟩:=bnd hm
 simp -dsimp
 refine aA (eZ s.Cells y h1) (dkL hn) ?_
 simp -dsimp
 refine aD ?_
 obtain⟨a,j8,hm⟩:=bnd hm
 refine scE [(2,vX 2),(3,vX 3),(26,vT a)] [(2,.box [dI t.States,dR2 t.Hood,dR1 t.Nodes]),(3,.box [dR0 s.Cells,dI s.Motion.Period,dI s.Motion.DX,dI s.Motion.DY])] ?_ fun Z O hf=>?_
 ·replace hm:=j8
  clear j8
  exact zz
 ·clear j8
  simp only[Fits,aR,aQ,and_true] at hf
  rcases aM hm with ⟨c4,hm⟩ | ⟨c4,hm⟩
  ·exact zz
  ·refine aG (by simp -dsimp [hf]) c4 ?_
   refine aF (aC ?_)
   refine srs hn ?_
   obtain⟨y1,h5,hm⟩:=bnd hm
   simp -dsimp [hf]
   refine aA (c_period_Has t s.Cells s.Motion y1 h5) (dkL hn) ?_
   simp -dsimp
   obtain⟨a1,j7,hm⟩:=bnd hm
   refine scE [(4,vT a1)] [] ?_ fun Z O hf=>?_
   ·replace hm:=j7
    clear j7
    exact zz
   ·clear j7
    exact zz
def fk (cx:Cx) (_p:List Cell) (_y:Box×Bool) (tt:(List Cell)) (ee:Exit) (Z:Env) (O:Sto):Prop:=match tt with
 | out=>ee=.exit 0/\EE cx (aY [(5,vO 5000)] [(5000,.row 3 61 (List.map Cell.row out))]) Z O
theorem l_algebra_Home_1 (cx:Cx) (hn:cx.n=48) (p:List Cell) (y:Box×Bool) {fu:Nat} {stt:Int×(List Cell)} {tt:(List Cell)} (hh:aK (b_algebra_Home_1 p y) fu stt=some tt) {Z:Env} {O:Sto}
  (hE:b9 (fun stt:Int×(List Cell)=>match stt with | (a1,_out)=>[(3,vX 3),(5,vO 5000),(24,.u (.one (dR0 p))),(25,vI (aB p)),(26,vI a1)]) (fun stt:Int×(List Cell)=>match stt with | (_a1,out)=>[(3,.box [dI y.1.X,dI y.1.Y,dI y.1.W,dI y.1.H]),(5000,.row 3 61 (List.map Cell.row out))]) stt Z O):Swp Tryz.prog cx (.loop (bq [1,1,1,1,0,1,0,0] (aU Tryz.f30))) Z O (fk cx p y tt):=by
 refine bc hE hh (fk cx p y) ?_
 rintro⟨a1,out⟩ r hm Z O hf
 simp only[Fits,aR,aQ,and_true] at hf
 unfold b_algebra_Home_1 at hm
 dsimp only at hm
 refine srs hn ?_
 simp -dsimp [hf]
 refine aD ?_
 rcases aM hm with ⟨c6,hm⟩ | ⟨c6,hm⟩
 ·refine aI (by simp -dsimp) c6 ?_
  refine aF (aC (aD (aH ?_)))
  refine srs hn ?_
  obtain⟨x,h7,hm⟩:=bnd hm
  simp -dsimp [hf,c6,h7]
  refine sr1 hn ?_
  obtain⟨l1,h8,hm⟩:=bnd hm
  obtain⟨h8a,h8e⟩:=aS h8
  replace h8e:=h8e.symm
  subst h8e
  try simp only[List.length_cons,List.length_nil,Nat.zero_add] at h8a
  simp -dsimp [hf,h8a]
  refine bp ?_
  refine aC ?_
  refine sr1 hn ?_
  simp -dsimp [hf]
  cases hm
  refine bO ?_
  refine emv 45 5000 ?_
  exact zz
 ·exact zz
theorem c_algebra_Home (p r:List Cell) (hm:m_algebra_Home p=some r):PureCall Tryz.prog 30 [.u (.one (dR0 p))] (.u (.one (dR0 r))):=by
 refine b8 Tryz.func30 Tryz.ntmps30 fun cx hn=>?_
 unfold m_algebra_Home at hm
 refine srs hn ?_
 simp -dsimp
 refine srs hn ?_
 obtain⟨y,h1,hm⟩:=bnd hm
 simp -dsimp
 refine aA (eZ p y h1) (dkL hn) ?_
 simp -dsimp
 refine aD ?_
 obtain⟨a,j10,hm⟩:=bnd hm
 refine scE [(0,.u (.one (dR0 p))),(3,vX 3),(19,vT a)] [(3,.box [dI y.1.X,dI y.1.Y,dI y.1.W,dI y.1.H])] ?_ fun Z O hf=>?_
 ·replace hm:=j10
  clear j10
  refine sr1 hn ?_
  rcases aM hm with ⟨c2,hm⟩ | ⟨c2,hm⟩
  ·exact zz
  ·obtain⟨y1,h3,hm⟩:=bnd hm
   simp -dsimp [c2]
   refine aA (ck p y1 h3) (dkL hn) ?_
   exact zz
 ·clear j10
  simp only[Fits,aR,aQ,and_true] at hf
  rcases aM hm with ⟨c4,hm⟩ | ⟨c4,hm⟩
  ·exact zz
  ·refine aG (by simp -dsimp [hf]) c4 ?_
   refine aF (aC ?_)
   refine srs hn ?_
   obtain⟨l,h5,hm⟩:=bnd hm
   obtain⟨⟨h5a,h5b,h5c⟩,rfl⟩:=eJ h5
   simp -dsimp [hf,h5b,h5c]
   refine aD ?_
   refine srs hn ?_
   simp -dsimp [hf]
   refine aH ?_
   obtain⟨out,g9,hm⟩:=bnd hm
   refine aW (l_algebra_Home_1 cx hn p y g9) (by
     try dsimp only
     refine emv 23 5000 ?_
     exact zz
   ) fun ee Z O xx=>?_
   exact zz
theorem c_ship_Phase (t:Tree) (s:Ship) (n:Int) (r:(List Cell)×Int) (hm:m_ship_Phase t s n=some r):PureCall Tryz.prog 18 [.u (.agg [dI t.States,dR2 t.Hood,dR1 t.Nodes]),.u (.agg [dR0 s.Cells,dI s.Motion.Period,dI s.Motion.DX,dI s.Motion.DY]),vI n] (.tup [.one (dR0 r.1),.one (dI r.2)]):=by
 refine b8 Tryz.func18 Tryz.ntmps18 fun cx hn=>?_
 unfold m_ship_Phase at hm
 refine srs hn ?_
 simp -dsimp
 refine aD (aH ?_)
 refine srs hn ?_
 obtain⟨y,h1,hm⟩:=bnd hm
 simp -dsimp
 refine aA (fw t y h1) (dkL hn) ?_
 simp -dsimp
 rcases aM hm with ⟨c2,hm⟩ | ⟨c2,hm⟩
 ·exact zz
 ·refine aG (by simp -dsimp) c2 ?_
  obtain⟨a,j10,hm⟩:=bnd hm
  refine scE [(2,vI n),(3,vX 3),(4,vX 4),(14,vT a)] [(3,.box [dI t.States,dR2 t.Hood,dR1 t.Nodes]),(4,.box [dR0 s.Cells,dI s.Motion.Period,dI s.Motion.DX,dI s.Motion.DY])] ?_ fun Z O hf=>?_
  ·replace hm:=j10
   clear j10
   refine sr1 hn ?_
   rcases aM hm with ⟨c3,hm⟩ | ⟨c3,hm⟩
   ·exact zz
   ·rcases aM hm with ⟨c4,hm⟩ | ⟨c4,hm⟩
    ·exact zz
    ·obtain⟨y1,h5,hm⟩:=bnd hm
     simp -dsimp [c2,c3,c4]
     refine aA (c_ship_Right t s y1 h5) (dkL hn) ?_
     exact zz
  ·clear j10
   simp only[Fits,aR,aQ,and_true] at hf
   rcases aM hm with ⟨c6,hm⟩ | ⟨c6,hm⟩
   ·exact zz
   ·refine aG (by simp -dsimp [hf]) c6 ?_
    refine aF ?_
    refine bp ?_
    refine aC ?_
    refine bG aP mixed (by rw[hn]; kernel_rfl) ?_
    obtain⟨n1,h7,hm⟩:=bnd hm
    obtain⟨y1,h8,hm⟩:=bnd hm
    simp -dsimp [hf,h7]
    refine aJ (fL t s.Cells n1 y1 h8) ?_
    simp -dsimp
    refine srs hn ?_
    obtain⟨y2,h9,hm⟩:=bnd hm
    simp -dsimp
    refine aA (c_algebra_Home y1.1 y2 h9) (dkL hn) ?_
    exact zz
theorem dO (k:Int) (p r:Point) (hm:m_symmetry_Apply k p=some r):PureCall Tryz.prog 35 [vI k,.u (.agg [dI p.X,dI p.Y])] (.u (.agg [dI r.X,dI r.Y])):=by
 refine b8 Tryz.func35 Tryz.ntmps35 fun cx hn=>?_
 unfold m_symmetry_Apply at hm
 refine srs hn ?_
 simp -dsimp
 refine srs hn ?_
 obtain⟨x,h1,hm⟩:=bnd hm
 simp -dsimp [aidx_ok h1,g0_get h1]
 refine srs hn ?_
 simp -dsimp [(@id (aok 4 0=true) rfl),(@id (aok 4 1=true) rfl),(@id (aok 4 2=true) rfl),(@id (aok 4 3=true) rfl)]
 cases hm
 exact b6 ⟨.inr rfl,EE.here (by simp -dsimp)⟩
theorem c_algebra_order (a b:Cell) (r:Int) (hm:m_algebra_order a b=some r):PureCall Tryz.prog 71 [.u (.agg [dI a.X,dI a.Y,dI a.S]),.u (.agg [dI b.X,dI b.Y,dI b.S])] (vI r):=by
 refine b8 Tryz.func71 Tryz.ntmps71 fun cx hn=>?_
 unfold m_algebra_order at hm
 refine srs hn ?_
 simp -dsimp
 refine bG aP mixed (by rw[hn]; kernel_rfl) ?_
 obtain⟨y,h1,hm⟩:=bnd hm
 simp -dsimp
 refine aJ (cr a.Y b.Y y h1) ?_
 obtain⟨y1,h2,hm⟩:=bnd hm
 simp -dsimp
 refine aJ (cr a.X b.X y1 h2) ?_
 obtain⟨y2,h3,hm⟩:=bnd hm
 simp -dsimp
 refine aJ (c_cmp_Or_int [y,y1] y2 h3) ?_
 exact zz
end Go.Proofs.YtffohfmfehjbmaaGreatDoor
