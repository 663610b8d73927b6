/- That the code does what the functions say (made by cc.py). -/
import Derived.Test.YtffohfmfehjbmaaGreatDoorWa3
import Derived.Test.YtffohfmfehjbmaaGreatDoorWa11
namespace Go.Proofs.YtffohfmfehjbmaaGreatDoor
open Go.AM Go.Proofs
set_option maxRecDepth 100000
attribute [-simp] qlookup bF cq Ob.wipe Ob.ren Ob.frz1
theorem fx (t:Tree) (ships:List Ship) (x:Shot) (n:Int) (r:Shot×Int) (hm:m_ship_Later t ships x n=some r):PureCall Tryz.prog 8 [.u (.agg [dI t.States,dR2 t.Hood,dR1 t.Nodes]),.u (.one (dR3 ships)),.u (.agg [dI x.Ship,dI x.Phase,dI x.Sym,dI x.X,dI x.Y]),vI n] (.tup [.agg [dI r.1.Ship,dI r.1.Phase,dI r.1.Sym,dI r.1.X,dI r.1.Y],.one (dI r.2)]):=by
 refine b8 Tryz.func8 Tryz.ntmps8 fun cx hn=>?_
 unfold m_ship_Later at hm
 refine srs hn ?_
 simp -dsimp
 refine aD ?_
 refine srs hn ?_
 obtain⟨y,h1,hm⟩:=bnd hm
 simp -dsimp
 refine aA (dr t ships x y h1) (dkL hn) ?_
 simp -dsimp
 refine srs hn ?_
 simp -dsimp
 rcases aM hm with ⟨c2,hm⟩ | ⟨c2,hm⟩
 ·exact zz
 ·refine aG (by simp -dsimp) c2 ?_
  refine aF (aC (aD ?_))
  obtain⟨a,j18,hm⟩:=bnd hm
  refine scE [(1,.u (.one (dR3 ships))),(3,vI n),(4,vX 4),(6,vX 6),(8,vX 8),(37,vT a)] [(4,.box [dI t.States,dR2 t.Hood,dR1 t.Nodes]),(6,.box [dI x.Ship,dI x.Phase,dI x.Sym,dI x.X,dI x.Y]),(8,.box [dI 0,dI 0,dI 0,dI 0,dI 0])] ?_ fun Z O hf=>?_
  ·replace hm:=j18
   clear j18
   exact zz
  ·clear j18
   simp only[Fits,aR,aQ,and_true] at hf
   rcases aM hm with ⟨c4,hm⟩ | ⟨c4,hm⟩
   ·exact zz
   ·refine aG (by simp -dsimp [hf]) c4 ?_
    refine aF (aC (aD ?_))
    refine srs hn ?_
    obtain⟨y1,h5,hm⟩:=bnd hm
    simp -dsimp [hf]
    refine aA (c_reduce_Turn x.Sym t y1 h5) (dkL hn) ?_
    simp -dsimp
    obtain⟨a1,j17,hm⟩:=bnd hm
    refine scE [(1,.u (.one (dR3 ships))),(3,vI n),(4,vX 4),(6,vX 6),(8,vX 8),(53,vT a1)] [(4,.box [dI t.States,dR2 t.Hood,dR1 t.Nodes]),(6,.box [dI x.Ship,dI x.Phase,dI x.Sym,dI x.X,dI x.Y]),(8,.box [dI 0,dI 0,dI 0,dI 0,dI 0])] ?_ fun Z O hf=>?_
    ·replace hm:=j17
     clear j17
     refine sr1 hn ?_
     rcases aM hm with ⟨c6,hm⟩ | ⟨c6,hm⟩
     ·exact zz
     ·obtain⟨y2,h7,hm⟩:=bnd hm
      simp -dsimp [hf,c6]
      refine aA (c_reduce_Equal t y1.1 y2 h7) (dkL hn) ?_
      exact zz
    ·clear j17
     simp only[Fits,aR,aQ,and_true] at hf
     rcases aM hm with ⟨c8,hm⟩ | ⟨c8,hm⟩
     ·exact zz
     ·refine aG (by simp -dsimp [hf]) c8 ?_
      refine aF (aC ?_)
      refine srs hn ?_
      obtain⟨x1,h9,hm⟩:=bnd hm
      simp -dsimp [hf,h9]
      refine srs hn ?_
      obtain⟨y2,h10,hm⟩:=bnd hm
      simp -dsimp [hf]
      refine aA (c_ship_corner t x1 x.Sym x.Phase y2 h10) (dkL hn) ?_
      simp -dsimp
      refine aD ?_
      refine srs hn ?_
      simp -dsimp
      rcases aM hm with ⟨c11,hm⟩ | ⟨c11,hm⟩
      ·exact zz
      ·refine aG (by simp -dsimp) c11 ?_
       refine aF (aC ?_)
       refine srs hn ?_
       obtain⟨y3,h12,hm⟩:=bnd hm
       simp -dsimp [hf,c11]
       refine aA (c_ship_corner t x1 x.Sym (aO .i64 x.Phase n) y3 h12) (dkL hn) ?_
       simp -dsimp
       refine aD ?_
       refine srs hn ?_
       simp -dsimp
       rcases aM hm with ⟨c13,hm⟩ | ⟨c13,hm⟩
       ·exact zz
       ·refine aG (by simp -dsimp) c13 ?_
        refine aF (aC ?_)
        refine fe aP mixed 29 30 30 0 [[0,1,2,3,4,5,6,7,8,9,10,11,12,13,14,15,16,17,18,19,20,21,22,23,24,25,26,27,28]] [[18]] [] none (by rw[hn]; kernel_rfl) dc ?_
        dsimp only [List.take,List.drop,dz,dT,eX,pk,List.cons_append,List.nil_append,List.flatten_cons,List.flatten_nil,cz,cA,List.append_nil]
        obtain⟨n1,h14,hm⟩:=bnd hm
        simp -dsimp [hf,c13,h14]
        refine aD ?_
        refine srs hn ?_
        obtain⟨y4,h15,hm⟩:=bnd hm
        simp -dsimp [hf]
        refine aA (dr t ships (⟨x.Ship,n1,x.Sym,(aL .i64 (aO .i64 x.X y3.1.X) y2.1.X),(aL .i64 (aO .i64 x.Y y3.1.Y) y2.1.Y)⟩:Shot) y4 h15) (dkL hn) ?_
        exact zz
theorem c_ship_in (x y:Int) (r:Bool) (hm:m_ship_in x y=some r):PureCall Tryz.prog 34 [vI x,vI y] (vT r):=by
 refine b8 Tryz.func34 Tryz.ntmps34 fun cx hn=>?_
 unfold m_ship_in at hm
 refine srs hn ?_
 simp -dsimp
 obtain⟨a,j2,hm⟩:=bnd hm
 refine scE [(4,vT a)] [] ?_ fun Z O hf=>?_
 ·replace hm:=j2
  clear j2
  exact zz
 ·clear j2
  exact zz
def F_ship_Stream_1 (cx:Cx) (_x:Shot) (_m:Motion) (_count _gap:Int) (tt:((List Shot)×Int) ⊕ (List Shot)) (ee:Exit) (Z:Env) (O:Sto):Prop:=match tt with
 | .inl r=>ee=.ret/\EE cx (fun Z O=>∃ v,cp tb Z O Tryz.f13.results.toList=some v/\(v.frz O).free=true/\(v.frz O).wk (.tup [.one (dR4 r.1),.one (dI r.2)])) Z O
 | .inr out=>ee=.exit 0/\EE cx (aY [(10,vO 5000)] [(5000,.row 5 28 (List.map Shot.row out))]) Z O
theorem l_ship_Stream_1 (cx:Cx) (hn:cx.n=88) (x:Shot) (m:Motion) (count gap:Int) {fu:Nat} {stt:Int×(List Shot)} {tt:((List Shot)×Int) ⊕ (List Shot)} (hh:aK (b_ship_Stream_1 x m count gap) fu stt=some tt) {Z:Env} {O:Sto}
  (hE:b9 (fun stt:Int×(List Shot)=>match stt with | (a1,_out)=>[(3,vI gap),(4,vX 4),(5,vX 5),(10,vO 5000),(45,vI count),(46,vI a1)]) (fun stt:Int×(List Shot)=>match stt with | (_a1,out)=>[(4,.box [dI x.Ship,dI x.Phase,dI x.Sym,dI x.X,dI x.Y]),(5,.box [dI m.Period,dI m.DX,dI m.DY]),(5000,.row 5 28 (List.map Shot.row out))]) stt Z O):Swp Tryz.prog cx (.loop (bq [1,1,1,0,1,0,0] (aU Tryz.f13))) Z O (F_ship_Stream_1 cx x m count gap tt):=by
 refine bc hE hh (F_ship_Stream_1 cx x m count gap) ?_
 rintro⟨a1,out⟩ r hm Z O hf
 simp only[Fits,aR,aQ,and_true] at hf
 unfold b_ship_Stream_1 at hm
 dsimp only at hm
 refine srs hn ?_
 simp -dsimp [hf]
 refine aD ?_
 rcases aM hm with ⟨c9,hm⟩ | ⟨c9,hm⟩
 ·refine aI (by simp -dsimp) c9 ?_
  refine aF (aC (aD (aH ?_)))
  refine srs hn ?_
  simp -dsimp [hf,c9]
  refine aD ?_
  refine srs hn ?_
  obtain⟨y,h10,hm⟩:=bnd hm
  simp -dsimp [hf]
  refine aA (c_ship_in x.X x.Y y h10) (dkL hn) ?_
  simp -dsimp
  rcases aM hm with ⟨c11,hm⟩ | ⟨c11,hm⟩
  ·exact zz
  ·refine aG (by simp -dsimp) c11 ?_
   refine aF (aC ?_)
   refine srs hn ?_
   simp -dsimp [hf,c11]
   refine srs hn ?_
   simp -dsimp [hf]
   refine srs hn ?_
   simp -dsimp [hf]
   refine aD ?_
   refine srs hn ?_
   obtain⟨y1,h12,hm⟩:=bnd hm
   simp -dsimp
   refine aA (c_ship_in (aL .i64 x.X (bP .i64 (bP .i64 a1 gap) m.DX)) (aL .i64 x.Y (bP .i64 (bP .i64 a1 gap) m.DY)) y1 h12) (dkL hn) ?_
   simp -dsimp
   rcases aM hm with ⟨c13,hm⟩ | ⟨c13,hm⟩
   ·exact zz
   ·refine aG (by simp -dsimp) c13 ?_
    refine aF (aC ?_)
    refine sr1 hn ?_
    obtain⟨l,h14,hm⟩:=bnd hm
    obtain⟨h14a,h14e⟩:=aS h14
    replace h14e:=h14e.symm
    subst h14e
    try simp only[List.length_cons,List.length_nil,Nat.zero_add] at h14a
    simp -dsimp [hf,c13,h14a]
    refine bp ?_
    refine aC ?_
    refine sr1 hn ?_
    simp -dsimp [hf]
    cases hm
    refine bO ?_
    refine emv 85 5000 ?_
    exact zz
 ·exact zz
theorem c_ship_Stream (x:Shot) (m:Motion) (count gap:Int) (r:(List Shot)×Int) (hm:m_ship_Stream x m count gap=some r):PureCall Tryz.prog 13 [.u (.agg [dI x.Ship,dI x.Phase,dI x.Sym,dI x.X,dI x.Y]),.u (.agg [dI m.Period,dI m.DX,dI m.DY]),vI count,vI gap] (.tup [.one (dR4 r.1),.one (dI r.2)]):=by
 refine b8 Tryz.func13 Tryz.ntmps13 fun cx hn=>?_
 unfold m_ship_Stream at hm
 refine srs hn ?_
 simp -dsimp
 refine aD ?_
 obtain⟨a,j16,hm⟩:=bnd hm
 refine scE [(2,vI count),(3,vI gap),(4,vX 4),(5,vX 5),(44,vT a)] [(4,.box [dI x.Ship,dI x.Phase,dI x.Sym,dI x.X,dI x.Y]),(5,.box [dI m.Period,dI m.DX,dI m.DY])] ?_ fun Z O hf=>?_
 ·replace hm:=j16
  clear j16
  refine sr1 hn ?_
  rcases aM hm with ⟨c1,hm⟩ | ⟨c1,hm⟩
  ·exact zz
  ·rcases aM hm with ⟨c2,hm⟩ | ⟨c2,hm⟩
   ·exact zz
   ·obtain⟨y,h3,hm⟩:=bnd hm
    simp -dsimp [c1,c2]
    refine aA (c_ship_in m.DX m.DY y h3) (dkL hn) ?_
    exact zz
 ·clear j16
  simp only[Fits,aR,aQ,and_true] at hf
  rcases aM hm with ⟨c8,hm⟩ | ⟨c8,hm⟩
  ·exact zz
  ·refine aG (by simp -dsimp [hf]) c8 ?_
   refine aF (aC ?_)
   refine srs hn ?_
   simp -dsimp
   refine aD ?_
   refine srs hn ?_
   simp -dsimp [hf]
   refine aH ?_
   obtain⟨o_,g15,hm⟩:=bnd hm
   refine aW (l_ship_Stream_1 cx hn x m count gap g15) (by
     try dsimp only
     refine EE.step (Wk.own0 10 5000 5 28 (by simp -dsimp) (by decide)) ?_
     exact zz
   ) fun ee Z O xx=>?_
   rcases o_ with r | out
   ·exact zz
   ·exact zz
theorem eQ (a b r:Int) (hm:m_R05_order a b=some r):PureCall Tryz.prog 80 [vI a,vI b] (vI r):=by
 refine b8 Tryz.func80 Tryz.ntmps80 fun cx hn=>?_
 unfold m_R05_order at hm
 exact zz
def eg (cx:Cx) (a b:List Cell) (tt:Int ⊕ Unit) (ee:Exit) (Z:Env) (O:Sto):Prop:=match tt with
 | .inl r=>ee=.ret/\EE cx (fun Z O=>∃ v,cp tb Z O Tryz.f33.results.toList=some v/\(v.frz O).free=true/\(v.frz O).wk (vI r)) Z O
 | .inr _u=>ee=.exit 0/\EE cx (aY [(0,.u (.one (dR0 a))),(1,.u (.one (dR0 b)))] []) Z O
theorem l_R05_Compare_1 (cx:Cx) (hn:cx.n=89) (a b:List Cell) {fu:Nat} {stt:Int} {tt:Int ⊕ Unit} (hh:aK (b_R05_Compare_1 a b) fu stt=some tt) {Z:Env} {O:Sto}
  (hE:b9 (fun i:Int=>[(0,.u (.one (dR0 a))),(1,.u (.one (dR0 b))),(5,vI i)]) (fun _i:Int=>[]) stt Z O):Swp Tryz.prog cx (.loop (bq [1,0,1,0,0] (aU Tryz.f33))) Z O (eg cx a b tt):=by
 refine bc hE hh (eg cx a b) ?_
 rintro i r hm Z O hf
 simp only[Fits,aR,aQ,and_true] at hf
 unfold b_R05_Compare_1 at hm
 dsimp only at hm
 refine aD ?_
 obtain⟨a1,j11,hm⟩:=bnd hm
 refine scE [(0,.u (.one (dR0 a))),(1,.u (.one (dR0 b))),(5,vI i),(15,vT a1)] [] ?_ fun Z O hf=>?_
 ·replace hm:=j11
  clear j11
  exact zz
 ·clear j11
  simp only[Fits,aR,aQ,and_true] at hf
  rcases aM hm with ⟨c2,hm⟩ | ⟨c2,hm⟩
  ·refine aI (by simp -dsimp [hf]) c2 ?_
   refine aF (aC (aD (aH (aD ?_))))
   refine bG aP mixed (by rw[hn]; kernel_rfl) ?_
   obtain⟨x,h3,hm⟩:=bnd hm
   obtain⟨x1,h4,hm⟩:=bnd hm
   simp -dsimp [hf,h3,h4]
   rcases aM hm with ⟨c5,hm⟩ | ⟨c5,hm⟩
   ·refine aI (by simp -dsimp) c5 ?_
    refine bG aP mixed (by rw[hn]; kernel_rfl) ?_
    obtain⟨y,h6,hm⟩:=bnd hm
    simp -dsimp [hf,h3,h4,c5]
    refine aJ (eQ x.Y x1.Y y h6) ?_
    exact zz
   ·refine aG (by simp -dsimp) c5 ?_
    refine aF (aC (aD ?_))
    refine bG aP mixed (by rw[hn]; kernel_rfl) ?_
    simp -dsimp [hf,h3,h4,c5]
    rcases aM hm with ⟨c7,hm⟩ | ⟨c7,hm⟩
    ·refine aI (by simp -dsimp) c7 ?_
     refine bG aP mixed (by rw[hn]; kernel_rfl) ?_
     obtain⟨y,h8,hm⟩:=bnd hm
     simp -dsimp [hf,h3,h4,c7]
     refine aJ (eQ x.X x1.X y h8) ?_
     exact zz
    ·refine aG (by simp -dsimp) c7 ?_
     refine aF (aC ?_)
     refine bG aP mixed (by rw[hn]; kernel_rfl) ?_
     simp -dsimp [hf,h3,h4,c7]
     rcases aM hm with ⟨c9,hm⟩ | ⟨c9,hm⟩
     ·refine aI (by simp -dsimp) c9 ?_
      refine bG aP mixed (by rw[hn]; kernel_rfl) ?_
      obtain⟨y,h10,hm⟩:=bnd hm
      simp -dsimp [hf,h3,h4,c9]
      refine aJ (eQ x.S x1.S y h10) ?_
      exact zz
     ·exact zz
  ·exact zz
theorem c_R05_Compare (a b:List Cell) (r:Int) (hm:m_R05_Compare a b=some r):PureCall Tryz.prog 33 [.u (.one (dR0 a)),.u (.one (dR0 b))] (vI r):=by
 refine b8 Tryz.func33 Tryz.ntmps33 fun cx hn=>?_
 unfold m_R05_Compare at hm
 refine srs hn ?_
 simp -dsimp
 refine aD ?_
 refine srs hn ?_
 simp -dsimp
 refine aH ?_
 obtain⟨o_,g12,hm⟩:=bnd hm
 refine aW (l_R05_Compare_1 cx hn a b g12) (by
   try dsimp only
   exact eeh
 ) fun ee Z O xx=>?_
 rcases o_ with r | _u
 ·exact zz
 ·unfold eg at xx
  dsimp only at xx
  obtain⟨rfl,xx⟩:=xx
  refine bj ?_
  refine aC ?_
  refine see xx fun Z O hf=>?_
  simp only[Fits,aR,aQ,and_true] at hf
  refine srs hn ?_
  obtain⟨y,h13,hm⟩:=bnd hm
  simp -dsimp [hf]
  refine aA (eQ (aB a) (aB b) y h13) (dkL hn) ?_
  exact zz
theorem c_R05_Same (a b:List Cell) (r:Bool) (hm:m_R05_Same a b=some r):PureCall Tryz.prog 12 [.u (.one (dR0 a)),.u (.one (dR0 b))] (vT r):=by
 refine b8 Tryz.func12 Tryz.ntmps12 fun cx hn=>?_
 unfold m_R05_Same at hm
 refine srs hn ?_
 simp -dsimp
 refine srs hn ?_
 obtain⟨y,h1,hm⟩:=bnd hm
 simp -dsimp
 refine aA (c_R05_Compare a b y h1) (dkL hn) ?_
 simp -dsimp
 exact zz
theorem dU (r:Bool) (hm:m_L50_awake=some r):PureCall Tryz.prog 7 [] (vT r):=by
 refine b8 Tryz.func7 Tryz.ntmps7 fun cx hn=>?_
 unfold m_L50_awake at hm
 refine srs hn ?_
 simp -dsimp
 refine srs hn ?_
 obtain⟨y,h1,hm⟩:=bnd hm
 simp -dsimp
 refine aA (c_notation_Parse ([66,51,47,83,50,51]:List UInt8) y h1) (dkL hn) ?_
 simp -dsimp
 refine srs hn ?_
 obtain⟨y1,h2,hm⟩:=bnd hm
 simp -dsimp
 refine aA (c_L50_glider y1 h2) (dkL hn) ?_
 simp -dsimp
 refine srs hn ?_
 obtain⟨y2,h3,hm⟩:=bnd hm
 simp -dsimp
 refine aA (dr y.1 [y1] (⟨0,0,0,0,0⟩:Shot) y2 h3) (dkL hn) ?_
 simp -dsimp
 refine bG aP mixed (by rw[hn]; kernel_rfl) ?_
 obtain⟨x,h4,hm⟩:=bnd hm
 obtain⟨y3,h5,hm⟩:=bnd hm
 simp -dsimp [(@id (idx [[(.sl 3 (List.map Cell.row y1.Cells)),(.int .i64 y1.Motion.Period),(.int .i64 y1.Motion.DX),(.int .i64 y1.Motion.DY)]] 0=some (Ship.row x)) (idx_rows Ship.row h4))]
 refine aJ (c_ship_Phase y.1 x 1 y3 h5) ?_
 simp -dsimp
 refine srs hn ?_
 obtain⟨y4,h6,hm⟩:=bnd hm
 simp -dsimp
 refine aA (fx y.1 [y1] (⟨0,0,0,5,5⟩:Shot) 6 y4 h6) (dkL hn) ?_
 simp -dsimp
 refine srs hn ?_
 obtain⟨y5,h7,hm⟩:=bnd hm
 simp -dsimp [(@id (idx [[(.sl 3 (List.map Cell.row y1.Cells)),(.int .i64 y1.Motion.Period),(.int .i64 y1.Motion.DX),(.int .i64 y1.Motion.DY)]] 0=some (Ship.row x)) (idx_rows Ship.row h4))]
 refine aA (c_ship_Stream (⟨0,0,0,0,0⟩:Shot) x.Motion 3 5 y5 h7) (dkL hn) ?_
 simp -dsimp
 refine aD ?_
 obtain⟨a,j25,hm⟩:=bnd hm
 refine scE [(1,vX 1),(3,.u (.one (dR3 [y1]))),(4,.u (.one (dR0 y2.1))),(6,.u (.one (dR0 y3.1))),(8,vX 8),(10,.u (.one (dR4 y5.1))),(71,vT a)] [(1,.box [dI y.1.States,dR2 y.1.Hood,dR1 y.1.Nodes]),(8,.box [dI y4.1.Ship,dI y4.1.Phase,dI y4.1.Sym,dI y4.1.X,dI y4.1.Y])] ?_ fun Z O hf=>?_
 ·replace hm:=j25
  clear j25
  exact zz
 ·clear j25
  simp only[Fits,aR,aQ,and_true] at hf
  rcases aM hm with ⟨c13,hm⟩ | ⟨c13,hm⟩
  ·exact zz
  ·refine aG (b:=a) (by simp -dsimp [hf]) c13 ?_
   refine aF (aC ?_)
   obtain⟨a1,j24,hm⟩:=bnd hm
   refine scE [(0,vT a1)] [] ?_ fun Z O hf=>?_
   ·replace hm:=j24
    clear j24
    refine sw_qt aP mixed (by rw[hn]; kernel_rfl) ?_
    obtain⟨y6,h14,hm⟩:=bnd hm
    simp -dsimp [hf,(@id (idx [[(.sl 3 (List.map Cell.row y1.Cells)),(.int .i64 y1.Motion.Period),(.int .i64 y1.Motion.DX),(.int .i64 y1.Motion.DY)]] 0=some (Ship.row x)) (idx_rows Ship.row h4))]
    refine aJ (c_ship_Right y.1 x y6 h14) ?_
    rcases aM hm with ⟨c15,hm⟩ | ⟨c15,hm⟩
    ·obtain⟨y7,h16,hm⟩:=bnd hm
     simp -dsimp [hf,(@id (idx [[(.sl 3 (List.map Cell.row y1.Cells)),(.int .i64 y1.Motion.Period),(.int .i64 y1.Motion.DX),(.int .i64 y1.Motion.DY)]] 0=some (Ship.row x)) (idx_rows Ship.row h4)),c15]
     refine aJ (c_R05_Same y2.1 x.Cells y7 h16) ?_
     rcases aM hm with ⟨c17,hm⟩ | ⟨c17,hm⟩
     ·obtain⟨y8,h18,hm⟩:=bnd hm
      simp -dsimp [hf,c17]
      refine aJ (c_R05_Same y3.1 [(⟨0,0,1⟩:Cell),(⟨2,0,1⟩:Cell),(⟨1,1,1⟩:Cell),(⟨2,1,1⟩:Cell),(⟨1,2,1⟩:Cell)] y8 h18) ?_
      rcases aM hm with ⟨c19,hm⟩ | ⟨c19,hm⟩
      ·rcases aM hm with ⟨c20,hm⟩ | ⟨c20,hm⟩
       ·obtain⟨x1,h21,hm⟩:=bnd hm
        rcases aM hm with ⟨c22,hm⟩ | ⟨c22,hm⟩
        ·obtain⟨y9,h23,hm⟩:=bnd hm
         simp -dsimp [hf,(@id (idx [[(.sl 3 (List.map Cell.row y1.Cells)),(.int .i64 y1.Motion.Period),(.int .i64 y1.Motion.DX),(.int .i64 y1.Motion.DY)]] 0=some (Ship.row x)) (idx_rows Ship.row h4)),c19,c20,h21,c22]
         refine aJ (f0 1 x.Motion y9 h23) ?_
         exact zz
        ·exact zz
       ·exact zz
      ·exact zz
     ·exact zz
    ·exact zz
   ·clear j24
    exact zz
end Go.Proofs.YtffohfmfehjbmaaGreatDoor
