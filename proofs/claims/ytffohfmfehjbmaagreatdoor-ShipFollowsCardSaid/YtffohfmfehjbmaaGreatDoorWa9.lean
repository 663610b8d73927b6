/- That the code does what the functions say (made by cc.py). -/
import Derived.Test.YtffohfmfehjbmaaGreatDoorWa8
namespace Go.Proofs.YtffohfmfehjbmaaGreatDoor
open Go.AM Go.Proofs
set_option maxRecDepth 100000
attribute [-simp] qlookup bF cq Ob.wipe Ob.ren Ob.frz1
def dE (cx:Cx) (_k:Int) (_p:List Cell) (tt:(List Cell)) (ee:Exit) (Z:Env) (O:Sto):Prop:=match tt with
 | out=>ee=.exit 0/\EE cx (aY [(6,vO 5000)] [(5000,.row 3 61 (List.map Cell.row out))]) Z O
theorem l_algebra_Turn_1 (cx:Cx) (hn:cx.n=43) (k:Int) (p:List Cell) {fu:Nat} {stt:Int×(List Cell)} {tt:(List Cell)} (hh:aK (b_algebra_Turn_1 k p) fu stt=some tt) {Z:Env} {O:Sto}
  (hE:b9 (fun stt:Int×(List Cell)=>match stt with | (a,_out)=>[(0,vI k),(6,vO 5000),(16,.u (.one (dR0 p))),(17,vI (aB p)),(18,vI a)]) (fun stt:Int×(List Cell)=>match stt with | (_a,out)=>[(5000,.row 3 61 (List.map Cell.row out))]) stt Z O):Swp Tryz.prog cx (.loop (bq [1,1,1,0,1,0,0] (aU Tryz.f28))) Z O (dE cx k p tt):=by
 refine bc hE hh (dE cx k p) ?_
 rintro⟨a,out⟩ r hm Z O hf
 simp only[Fits,aR,aQ,and_true] at hf
 unfold b_algebra_Turn_1 at hm
 dsimp only at hm
 refine srs hn ?_
 simp -dsimp [hf]
 refine aD ?_
 rcases aM hm with ⟨c4,hm⟩ | ⟨c4,hm⟩
 ·refine aI (by simp -dsimp) c4 ?_
  refine aF (aC (aD (aH ?_)))
  refine srs hn ?_
  obtain⟨x,h5,hm⟩:=bnd hm
  simp -dsimp [hf,c4,h5]
  refine srs hn ?_
  obtain⟨y1,h6,hm⟩:=bnd hm
  simp -dsimp [hf]
  refine aA (dO k (⟨x.X,x.Y⟩:Point) y1 h6) (dkL hn) ?_
  simp -dsimp
  refine sr1 hn ?_
  obtain⟨l1,h7,hm⟩:=bnd hm
  obtain⟨h7a,h7e⟩:=aS h7
  replace h7e:=h7e.symm
  subst h7e
  try simp only[List.length_cons,List.length_nil,Nat.zero_add] at h7a
  simp -dsimp [hf,h7a]
  refine bp ?_
  refine aC ?_
  refine sr1 hn ?_
  simp -dsimp [hf]
  cases hm
  refine bO ?_
  refine emv 38 5000 ?_
  exact zz
 ·exact zz
theorem c_algebra_Turn (k:Int) (p:List Cell) (r:(List Cell)×Int) (hm:m_algebra_Turn k p=some r):PureCall Tryz.prog 28 [vI k,.u (.one (dR0 p))] (.tup [.one (dR0 r.1),.one (dI r.2)]):=by
 refine b8 Tryz.func28 Tryz.ntmps28 fun cx hn=>?_
 unfold m_algebra_Turn at hm
 refine srs hn ?_
 simp -dsimp
 refine aD ?_
 refine srs hn ?_
 obtain⟨y,h1,hm⟩:=bnd hm
 simp -dsimp
 refine aA (ck p y h1) (dkL hn) ?_
 simp -dsimp
 rcases aM hm with ⟨c2,hm⟩ | ⟨c2,hm⟩
 ·exact zz
 ·refine aG (by simp -dsimp) c2 ?_
  refine aF (aC ?_)
  refine srs hn ?_
  obtain⟨l,h3,hm⟩:=bnd hm
  obtain⟨⟨h3a,h3b,h3c⟩,rfl⟩:=eJ h3
  simp -dsimp [c2,h3b,h3c]
  refine aD ?_
  refine srs hn ?_
  simp -dsimp
  refine aH ?_
  obtain⟨out,g8,hm⟩:=bnd hm
  refine aW (l_algebra_Turn_1 cx hn k p g8) (by
    try dsimp only
    refine emv 15 5000 ?_
    exact zz
  ) fun ee Z O xx=>?_
  unfold dE at xx
  dsimp only at xx
  obtain⟨rfl,xx⟩:=xx
  refine bj ?_
  refine aC ?_
  refine see xx fun Z O hf=>?_
  simp only[Fits,aR,aQ,and_true] at hf
  refine srs hn ?_
  obtain⟨y1,h9,hm⟩:=bnd hm
  simp -dsimp [hf]
  refine clg (bw out y1 h9) [5000] [] (by simp -dsimp [hf]) (dkL hn) ?_
  exact zz
theorem cT (l r:List Cell) (hm:m_slices_Clone_api_Pattern_api_Cell l=some r):NewFn Tryz.prog 72 [.u (.one (dR0 l))] (fun o=>o=.row 3 61 (List.map Cell.row r)):=by
 refine new_S aP _ Tryz.func72 rfl (by kernel_rfl) (by simp[Tryz.ntmps72]) fun cx hn=>?_
 replace hn:cx.n=8:=hn.trans Tryz.ntmps72
 have ha:=(aS hm).1
 have hr:r=l:=(aS hm).2
 clear hm
 subst hr
 simp only[List.length_nil,Nat.zero_add] at ha
 refine srs hn ?_
 simp -dsimp
 refine aD ?_
 refine srs hn ?_
 cases r with
 | nil =>
  simp -dsimp
  refine⟨?_,?_⟩
  ·refine aI (b:=true) (by simp -dsimp) rfl ?_
   refine srs hn ?_
   simp -dsimp
   refine b6 (dF ?_)
   refine⟨.inr rfl,?_⟩; simp -dsimp
  ·refine aG (b:=false) (by simp -dsimp) rfl ?_
   refine aF (aC ?_)
   refine srs hn ?_
   simp -dsimp
   refine b6 ?_
   refine⟨.inr rfl,?_⟩; simp -dsimp
 | cons x xs =>
  simp -dsimp
  refine aG (b:=false) (by simp -dsimp) rfl ?_
  refine aF (aC ?_)
  refine srs hn ?_
  simp only[List.length_cons] at ha
  simp -dsimp [ha]
  refine b6 ?_
  refine⟨.inr rfl,?_⟩; simp -dsimp
section
attribute [-simp] List.map_set List.set_set
def eT (cx:Cx) (_dx _dy:Int) (_y1:List Cell) (tt:((List Cell)×Int) ⊕ (List Cell)) (ee:Exit) (Z:Env) (O:Sto):Prop:=match tt with
 | .inl r=>ee=.ret/\EE cx (fun Z O=>∃ v,cp tb Z O Tryz.f29.results.toList=some v/\(v.frz O).free=true/\(v.frz O).wk (.tup [.one (dR0 r.1),.one (dI r.2)])) Z O
 | .inr out=>ee=.exit 0/\EE cx (aY [(8,vO 24)] [(24,.row 3 61 (List.map Cell.row out))]) Z O
theorem l_pattern_Shift_1 (cx:Cx) (hn:cx.n=57) (dx dy:Int) (y1:List Cell) {fu:Nat} {stt:Int×(List Cell)} {tt:((List Cell)×Int) ⊕ (List Cell)} (hh:aK (b_pattern_Shift_1 dx dy y1) fu stt=some tt) {Z:Env} {O:Sto}
  (hE:b9 (fun stt:Int×(List Cell)=>match stt with | (a1,_out)=>[(1,vI dx),(2,vI dy),(8,vO 24),(26,vI (aB y1)),(27,vI a1)]) (fun stt:Int×(List Cell)=>match stt with | (_a1,out)=>[(24,.row 3 61 (List.map Cell.row out))]) stt Z O):Swp Tryz.prog cx (.loop (bq [1,1,1,1,0,1,0,0] (aU Tryz.f29))) Z O (eT cx dx dy y1 tt):=by
 refine bc hE hh (eT cx dx dy y1) ?_
 rintro⟨a1,out⟩ r hm Z O hf
 simp only[Fits,aR,aQ,and_true] at hf
 unfold b_pattern_Shift_1 at hm
 dsimp only at hm
 refine srs hn ?_
 simp -dsimp [hf]
 refine aD ?_
 rcases aM hm with ⟨c6,hm⟩ | ⟨c6,hm⟩
 ·refine aI (by simp -dsimp) c6 ?_
  refine aF (aC (aD (aH ?_)))
  refine srs hn ?_
  simp -dsimp [hf,c6]
  refine srs hn ?_
  obtain⟨x,h7,hm⟩:=bnd hm
  simp -dsimp [hf,h7,aZ h7,Cell.rset out a1.toNat (aO .i64 x.X dx) x.Y x.S]
  refine srs hn ?_
  obtain⟨x1,h8,hm⟩:=bnd hm
  simp -dsimp [hf,h8,aZ h8,Cell.rset (out.set a1.toNat (⟨(aO .i64 x.X dx),x.Y,x.S⟩:Cell)) a1.toNat x1.X (aO .i64 x1.Y dy) x1.S]
  refine srs hn ?_
  obtain⟨x2,h9,hm⟩:=bnd hm
  obtain⟨y2,h10,hm⟩:=bnd hm
  simp -dsimp [hf,h9,aZ h9]
  refine aA (cg x2 y2 h10) (dkL hn) ?_
  obtain⟨y3,h11,hm⟩:=bnd hm
  simp -dsimp
  refine aA (dJ y2 y3 h11) (dkL hn) ?_
  exact zz
 ·exact zz
theorem c_pattern_Shift (p:List Cell) (dx dy:Int) (r:(List Cell)×Int) (hm:m_pattern_Shift p dx dy=some r):PureCall Tryz.prog 29 [.u (.one (dR0 p)),vI dx,vI dy] (.tup [.one (dR0 r.1),.one (dI r.2)]):=by
 refine b8 Tryz.func29 Tryz.ntmps29 fun cx hn=>?_
 unfold m_pattern_Shift at hm
 refine srs hn ?_
 simp -dsimp
 refine aD ?_
 refine srs hn ?_
 obtain⟨y,h1,hm⟩:=bnd hm
 simp -dsimp
 refine aA (ck p y h1) (dkL hn) ?_
 simp -dsimp
 rcases aM hm with ⟨c2,hm⟩ | ⟨c2,hm⟩
 ·exact zz
 ·refine aG (by simp -dsimp) c2 ?_
  refine aF (aC (aD ?_))
  obtain⟨a,j14,hm⟩:=bnd hm
  refine scE [(0,.u (.one (dR0 p))),(1,vI dx),(2,vI dy),(22,vT a)] [] ?_ fun Z O hf=>?_
  ·replace hm:=j14
   clear j14
   exact zz
  ·clear j14
   simp only[Fits,aR,aQ,and_true] at hf
   rcases aM hm with ⟨c4,hm⟩ | ⟨c4,hm⟩
   ·exact zz
   ·refine aG (by simp -dsimp [hf]) c4 ?_
    refine aF (aC ?_)
    refine srs hn ?_
    obtain⟨y1,h5,hm⟩:=bnd hm
    simp -dsimp [hf]
    refine callL_new (cT p y1 h5) (dkL hn) (by decide) ?_
    simp -dsimp
    refine aD ?_
    refine srs hn ?_
    simp -dsimp
    refine aH ?_
    obtain⟨o_,g13,hm⟩:=bnd hm
    refine aW (l_pattern_Shift_1 cx hn dx dy y1 g13) (by
      try dsimp only
      refine EE.here ?_
      exact zz
    ) fun ee Z O xx=>?_
    rcases o_ with r | out
    ·exact zz
    ·exact zz
end
theorem dr (t:Tree) (ships:List Ship) (x:Shot) (r:(List Cell)×Int) (hm:m_ship_Place t ships x=some r):PureCall Tryz.prog 10 [.u (.agg [dI t.States,dR2 t.Hood,dR1 t.Nodes]),.u (.one (dR3 ships)),.u (.agg [dI x.Ship,dI x.Phase,dI x.Sym,dI x.X,dI x.Y])] (.tup [.one (dR0 r.1),.one (dI r.2)]):=by
 refine b8 Tryz.func10 Tryz.ntmps10 fun cx hn=>?_
 unfold m_ship_Place at hm
 refine srs hn ?_
 simp -dsimp
 refine aD (aH ?_)
 refine srs hn ?_
 obtain⟨y,h1,hm⟩:=bnd hm
 simp -dsimp
 refine aA (fw t y h1) (dkL hn) ?_
 simp -dsimp
 rcases aM hm with ⟨c2,hm⟩ | ⟨c2,hm⟩
 ·exact zz
 ·refine aG (by simp -dsimp) c2 ?_
  obtain⟨a,j15,hm⟩:=bnd hm
  refine scE [(1,.u (.one (dR3 ships))),(3,vX 3),(5,vX 5),(14,vT a)] [(3,.box [dI t.States,dR2 t.Hood,dR1 t.Nodes]),(5,.box [dI x.Ship,dI x.Phase,dI x.Sym,dI x.X,dI x.Y])] ?_ fun Z O hf=>?_
  ·replace hm:=j15
   clear j15
   exact zz
  ·clear j15
   simp only[Fits,aR,aQ,and_true] at hf
   rcases aM hm with ⟨c4,hm⟩ | ⟨c4,hm⟩
   ·exact zz
   ·refine aG (by simp -dsimp [hf]) c4 ?_
    obtain⟨a1,j14,hm⟩:=bnd hm
    refine scE [(1,.u (.one (dR3 ships))),(3,vX 3),(5,vX 5),(25,vT a1)] [(3,.box [dI t.States,dR2 t.Hood,dR1 t.Nodes]),(5,.box [dI x.Ship,dI x.Phase,dI x.Sym,dI x.X,dI x.Y])] ?_ fun Z O hf=>?_
    ·replace hm:=j14
     clear j14
     exact zz
    ·clear j14
     simp only[Fits,aR,aQ,and_true] at hf
     rcases aM hm with ⟨c6,hm⟩ | ⟨c6,hm⟩
     ·exact zz
     ·refine aG (by simp -dsimp [hf]) c6 ?_
      refine aF ?_
      refine bp ?_
      refine aC ?_
      refine bG aP mixed (by rw[hn]; kernel_rfl) ?_
      obtain⟨x1,h7,hm⟩:=bnd hm
      obtain⟨y1,h8,hm⟩:=bnd hm
      simp -dsimp [hf,h7]
      refine aJ (c_ship_Phase t x1 x.Phase y1 h8) ?_
      simp -dsimp
      refine aD ?_
      refine srs hn ?_
      simp -dsimp
      rcases aM hm with ⟨c9,hm⟩ | ⟨c9,hm⟩
      ·exact zz
      ·refine aG (by simp -dsimp) c9 ?_
       refine aF (aC (aD ?_))
       refine srs hn ?_
       obtain⟨y2,h10,hm⟩:=bnd hm
       simp -dsimp [hf,c9]
       refine aA (c_algebra_Turn x.Sym y1.1 y2 h10) (dkL hn) ?_
       simp -dsimp
       refine srs hn ?_
       simp -dsimp
       rcases aM hm with ⟨c11,hm⟩ | ⟨c11,hm⟩
       ·exact zz
       ·refine aG (by simp -dsimp) c11 ?_
        refine aF (aC ?_)
        refine bG aP mixed (by rw[hn]; kernel_rfl) ?_
        obtain⟨y3,h12,hm⟩:=bnd hm
        simp -dsimp [c11]
        refine aJ (c_algebra_Home y2.1 y3 h12) ?_
        obtain⟨y4,h13,hm⟩:=bnd hm
        simp -dsimp [hf]
        refine aJ (c_pattern_Shift y3 x.X x.Y y4 h13) ?_
        exact zz
theorem cd (l r:List Int) (hm:m_slices_Clone_int_int l=some r):NewFn Tryz.prog 184 [.u (.one (dL l))] (fun o=>o=.row 1 3 (List.map (rI .i64) r)):=by
 refine new_S aP _ Tryz.func184 rfl (by kernel_rfl) (by simp[Tryz.ntmps184]) fun cx hn=>?_
 replace hn:cx.n=8:=hn.trans Tryz.ntmps184
 have ha:=(aS hm).1
 have hr:r=l:=(aS hm).2
 clear hm
 subst hr
 simp only[List.length_nil,Nat.zero_add] at ha
 refine srs hn ?_
 simp -dsimp
 refine aD ?_
 refine srs hn ?_
 cases r with
 | nil =>
  simp -dsimp
  refine⟨?_,?_⟩
  ·refine aI (b:=true) (by simp -dsimp) rfl ?_
   refine srs hn ?_
   simp -dsimp
   refine b6 (dF ?_)
   refine⟨.inr rfl,?_⟩; simp -dsimp
  ·refine aG (b:=false) (by simp -dsimp) rfl ?_
   refine aF (aC ?_)
   refine srs hn ?_
   simp -dsimp
   refine b6 ?_
   refine⟨.inr rfl,?_⟩; simp -dsimp
 | cons x xs =>
  simp -dsimp
  refine aG (b:=false) (by simp -dsimp) rfl ?_
  refine aF (aC ?_)
  refine srs hn ?_
  simp only[List.length_cons] at ha
  simp -dsimp [ha]
  refine b6 ?_
  refine⟨.inr rfl,?_⟩; simp -dsimp
theorem eU (x:Int) (next r:List Int) (hm:m_reduce_Reduce_1 x next=some r):PureCall Tryz.prog 119 [vI x,.u (.one (dL next))] (.u (.one (dL r))):=by
 refine b8 Tryz.func119 Tryz.ntmps119 fun cx hn=>?_
 unfold m_reduce_Reduce_1 at hm
 exact zz
theorem dP (i base:Int) (r:List Int) (hm:m_internal_strconv_AppendInt_N i base=some r):GFn Tryz.prog 213 [.u (.one (.d .nil)),vI i,vI base] [] (vO 1000000) [some (.row 1 5 (List.map (rI .u8) r))]:=by
 refine bu aP _ Tryz.func213 rfl (by kernel_rfl) (by simp[Tryz.ntmps213]) (by simp) (by first | rfl | simp) (by first | rfl | simp) fun cx hn hk=>?_
 replace hn:cx.n=21:=hn.trans Tryz.ntmps213
 replace hk:cx.k=0:=hk
 unfold m_internal_strconv_AppendInt_N at hm
 refine srs hn ?_
 simp -dsimp
 refine srs hn ?_
 simp -dsimp
 obtain⟨⟨u,dst⟩,j4,hm⟩:=bnd hm
 refine scE [(0,vO 5000),(2,vI base),(7,.u (.one (.d (.int .u64 u))))] [(5000,.row 1 5 (List.map (rI .u8) dst))] ?_ fun Z O hf=>?_
 ·replace hm:=j4
  clear j4
  refine srs hn ?_
  simp -dsimp
  rcases aM hm with ⟨c1,hm⟩ | ⟨c1,hm⟩
  ·refine sct c1 ?_
   refine srs hn ?_
   obtain⟨l,h2,hm⟩:=bnd hm
   obtain⟨h2a,h2e⟩:=aS h2
   replace h2e:=h2e.symm
   subst h2e
   try simp only[List.length_cons,List.length_nil,Nat.zero_add] at h2a
   try simp only[Nat.mul_one,Nat.reduceLeDiff] at h2a
   simp -dsimp [c1]
   refine sr1 hn ?_
   simp -dsimp
   refine aC ?_
   cases hm
   refine emv 14 5000 ?_
   exact zz
  ·refine scf c1 ?_
   refine aF (aC ?_)
   cases hm
   refine EE.step (Wk.own0 0 5000 1 5 (by simp -dsimp [c1]) (by decide)) ?_
   exact zz
 ·clear j4
  simp only[Fits,aR,aQ,and_true] at hf
  refine srs hn ?_
  obtain⟨y,h3,hm⟩:=bnd hm
  simp -dsimp [hf]
  refine clg (bV dst u base y h3) [5000] [5001] (by simp -dsimp [hf]) (dkL hn) ?_
  simp -dsimp
  refine b6 ?_
  cases hm
  refine⟨.inr rfl,?_⟩
  refine emr 5001 1000000 hk ?_
  exact zz
theorem dC (i base:Int) (r:List Int) (hm:m_strconv_AppendInt_N i base=some r):GFn Tryz.prog 163 [.u (.one (.d .nil)),vI i,vI base] [] (vO 1000000) [some (.row 1 5 (List.map (rI .u8) r))]:=by
 refine bu aP _ Tryz.func163 rfl (by kernel_rfl) (by simp[Tryz.ntmps163]) (by simp) (by first | rfl | simp) (by first | rfl | simp) fun cx hn hk=>?_
 replace hn:cx.n=11:=hn.trans Tryz.ntmps163
 replace hk:cx.k=0:=hk
 unfold m_strconv_AppendInt_N at hm
 refine srs hn ?_
 simp -dsimp
 refine srs hn ?_
 obtain⟨y,h1,hm⟩:=bnd hm
 simp -dsimp
 refine clg (dP i base y h1) [] [5000] (by simp -dsimp) (dkL hn) ?_
 simp -dsimp
 refine b6 ?_
 cases hm
 refine⟨.inr rfl,?_⟩
 refine emr 5000 1000000 hk ?_
 exact zz
def bR (cx:Cx) (ag:List Node) (a8:List (List UInt8×Int)) (level:Int) (next:List Int) (tt:(List Int)) (ee:Exit) (Z:Env) (O:Sto):Prop:=match tt with
 | keyv=>ee=.exit 0/\EE cx (aY [(0,vX 1000000),(1,vI level),(2,.u (.one (dL next))),(7,vO 5002)] [(5002,.row 1 5 (List.map (rI .u8) keyv)),(1000000,.box [.own 1000001,.map 1000002]),(1000001,.row 2 80 (List.map Node.row ag)),(1000002,mOb .str kS (uL (L.int .i64)) a8)]) Z O
theorem eO (cx:Cx) (hn:cx.n=68) (_hk:cx.k=3) (ag:List Node) (a8:List (List UInt8×Int)) (level:Int) (next:List Int) {fu:Nat} {stt:Int×(List Int)} {tt:(List Int)} (hh:aK (b_reduce_builder_node_o_1 ag a8 level next) fu stt=some tt) {Z:Env} {O:Sto}
  (hE:b9 (fun stt:Int×(List Int)=>match stt with | (a,_keyv)=>[(0,vX 1000000),(1,vI level),(2,.u (.one (dL next))),(7,vO 5002),(14,.u (.one (dL next))),(15,vI (aB next)),(16,vI a)]) (fun stt:Int×(List Int)=>match stt with | (_a,keyv)=>[(5002,.row 1 5 (List.map (rI .u8) keyv)),(1000000,.box [.own 1000001,.map 1000002]),(1000001,.row 2 80 (List.map Node.row ag)),(1000002,mOb .str kS (uL (L.int .i64)) a8)]) stt Z O):Swp Tryz.prog cx (.loop (bq [1,1,0,1,0,0] (aU Tryz.f122))) Z O (bR cx ag a8 level next tt):=by
 refine bc hE hh (bR cx ag a8 level next) ?_
 rintro⟨a,keyv⟩ r hm Z O hf
 simp only[Fits,aR,aQ,and_true] at hf
 unfold b_reduce_builder_node_o_1 at hm
 dsimp only at hm
 refine srs hn ?_
 simp -dsimp [hf]
 refine aD ?_
 rcases aM hm with ⟨c2,hm⟩ | ⟨c2,hm⟩
 ·refine aI (by simp -dsimp) c2 ?_
  refine aF (aC (aD (aH ?_)))
  refine srs hn ?_
  obtain⟨x,h3,hm⟩:=bnd hm
  simp -dsimp [hf,c2,h3]
  refine sr1 hn ?_
  obtain⟨l,h4,hm⟩:=bnd hm
  obtain⟨h4a,h4e⟩:=aS h4
  replace h4e:=h4e.symm
  subst h4e
  try simp only[List.length_cons,List.length_nil,Nat.zero_add] at h4a
  try simp only[Nat.mul_one,Nat.reduceLeDiff] at h4a
  obtain⟨y1,h5,hm⟩:=bnd hm
  simp -dsimp [hf,h4a]
  refine clg (co (keyv++[32]) x 10 y1 h5) [22] [5001] (by simp -dsimp) (dkL hn) ?_
  simp -dsimp
  refine bp ?_
  refine aC ?_
  refine sr1 hn ?_
  simp -dsimp [hf]
  cases hm
  refine bO ?_
  refine emv 5001 5002 ?_
  exact zz
 ·exact zz
theorem d9 (ag:List Node) (a8:List (List UInt8×Int)) (level:Int) (next:List Int) (r:Int×(List (List UInt8×Int))×(List Node)) (hm:m_reduce_builder_node_o ag a8 level next=some r):GFn Tryz.prog 122 [vX 1000000,vI level,.u (.one (dL next))] [.box [.own 1000001,.map 1000002],.row 2 80 (List.map Node.row ag),mOb .str kS (uL (L.int .i64)) a8] (vI r.1) [some (.box [.own 1000003,.map 1000002]),none,some (mOb .str kS (uL (L.int .i64)) r.2.1),some (.row 2 80 (List.map Node.row r.2.2))]:=by
 refine bu aP _ Tryz.func122 rfl (by kernel_rfl) (by simp[Tryz.ntmps122]) (by simp) (by first | rfl | simp) (by first | rfl | simp) fun cx hn hk=>?_
 replace hn:cx.n=68:=hn.trans Tryz.ntmps122
 replace hk:cx.k=3:=hk
 unfold m_reduce_builder_node_o at hm
 refine srs hn ?_
 simp -dsimp
 refine srs hn ?_
 obtain⟨y,h1,hm⟩:=bnd hm
 simp -dsimp
 refine clg (dC level 10 y h1) [] [5000] (by simp -dsimp) (dkL hn) ?_
 simp -dsimp
 refine aD ?_
 refine srs hn ?_
 simp -dsimp
 refine aH ?_
 obtain⟨keyv,g6,hm⟩:=bnd hm
 refine aW (eO cx hn hk ag a8 level next g6) (by
   try dsimp only
   refine emv 5000 5002 ?_
   exact zz
 ) fun ee Z O xx=>?_
 unfold bR at xx
 dsimp only at xx
 obtain⟨rfl,xx⟩:=xx
 refine bj ?_
 refine aC ?_
 refine see xx fun Z O hf=>?_
 simp only[Fits,aR,aQ,and_true] at hf
 refine aD ?_
 refine bG aP mixed (by rw[hn]; kernel_rfl) ?_
 obtain⟨u,h7,hm⟩:=bnd hm
 simp -dsimp [hf,fo h7,(@id (lkM (eH (mOb .str kS (uL (L.int .i64)) a8) (.str (ofBytes keyv))) true (.one (dI 0))=some (.tup [.one (dI (bN a8 (ofBytes keyv) 0)),.one (.d (.bool (cS a8 (ofBytes keyv))))])) (lk_two (ofBytes keyv) 0))]
 refine srs hn ?_
 simp -dsimp
 rcases aM hm with ⟨c8,hm⟩ | ⟨c8,hm⟩
 ·refine aI (b:=(cS a8 (ofBytes keyv))) (by simp -dsimp) c8 ?_
  refine srs hn ?_
  simp -dsimp [c8]
  refine b6 (dF ?_)
  cases hm
  refine⟨.inr rfl,?_⟩
  refine emr 1000001 1000003 hk ?_
  exact zz
 ·refine aG (b:=(cS a8 (ofBytes keyv))) (by simp -dsimp) c8 ?_
  refine aF (aC ?_)
  refine srs hn ?_
  obtain⟨l,h9,hm⟩:=bnd hm
  obtain⟨h9a,h9e⟩:=aS h9
  replace h9e:=h9e.symm
  subst h9e
  try simp only[List.length_cons,List.length_nil,Nat.zero_add] at h9a
  simp -dsimp [hf,c8,h9a]
  refine sw_drNs aP mixed 12 (by rw[hn]; kernel_rfl) ?_
  dsimp only [List.take,List.drop]
  simp -dsimp [hf,fo h7,(@id (fM (mOb .str kS (uL (L.int .i64)) a8) (.str (ofBytes keyv)) (.one (dI (aL .i64 ((aB ag)+1) 1)))=mOb .str kS (uL (L.int .i64)) (cP a8 (ofBytes keyv) (aL .i64 ((aB ag)+1) 1))) (mset_ob .str kS (uL (L.int .i64)) a8 (ofBytes keyv) (aL .i64 ((aB ag)+1) 1)))]
  refine srs hn ?_
  simp -dsimp [hf]
  refine b6 ?_
  cases hm
  refine⟨.inr rfl,?_⟩
  refine emr 47 1000003 hk ?_
  exact zz
section
attribute [-simp] List.map_set List.set_set
def bK (rcv:(Int->(List Int)->(List Node)->(List Node)->Option (Int×(List Int)×(List Node)))):Prop:=∀ (k:Int) (a:List Int) (a1 cv:List Node) (r:Int×(List Int)×(List Node)),rcv k a a1 cv=some r->GFn Tryz.prog 186 [vI k,vX 1000000,vX 1000002,vX 1000003,vX 1000004] [.box [.own 1000001],.row 1 3 (List.map (rI .i64) a),.box [dR1 a1],.box [.fn 186 [.box 1000000 0,.box 1000002 0,.box 1000003 0,.box 1000004 0]],.box [.own 1000005],.row 2 80 (List.map Node.row cv)] (vI r.1) [some (.box [.own 1000001]),some (.row 1 3 (List.map (rI .i64) r.2.1)),some (.box [dR1 a1]),some (.box [.fn 186 [.box 1000000 0,.box 1000002 0,.box 1000003 0,.box 1000004 0]]),some (.box [.own 1000006]),none,some (.row 2 80 (List.map Node.row r.2.2))]
def bz (cx:Cx) (_rcv:(Int->(List Int)->(List Node)->(List Node)->Option (Int×(List Int)×(List Node)))) (k:Int) (a1:List Node) (x1:Node) (_y:List Int) (tt:((List Int)×(List Node)×(List Int))) (ee:Exit) (Z:Env) (O:Sto):Prop:=match tt with
 | (l,l1,l2)=>ee=.exit 0/\EE cx (aY [(0,vI k),(1,vX 1000000),(4,vX 1000004),(7,vX 7)] [(7,.box [dI x1.Level,.own 30]),(30,.row 1 3 (List.map (rI .i64) l)),(5000,.row 2 80 (List.map Node.row l1)),(1000000,.box [.own 1000001]),(1000001,.row 1 3 (List.map (rI .i64) l2)),(1000002,.box [dR1 a1]),(1000003,.box [.fn 186 [.box 1000000 0,.box 1000002 0,.box 1000003 0,.box 1000004 0]]),(1000004,.box [.own 5000])]) Z O
theorem ef (cx:Cx) (hn:cx.n=63) (_hk:cx.k=6) (rcv:(Int->(List Int)->(List Node)->(List Node)->Option (Int×(List Int)×(List Node)))) (k:Int) (a1:List Node) (x1:Node) (y:List Int) (hrcv:bK rcv) {fu:Nat} {stt:Int×(List Int)×(List Node)×(List Int)} {tt:((List Int)×(List Node)×(List Int))} (hh:aK (b_reduce_ordered_1_o_o_o_o_1 rcv k a1 x1 y) fu stt=some tt) {Z:Env} {O:Sto}
  (hE:b9 (fun stt:Int×(List Int)×(List Node)×(List Int)=>match stt with | (a2,_l,_l2,_l1)=>[(0,vI k),(1,vX 1000000),(3,vX 1000003),(4,vX 1000004),(7,vX 7),(33,vO 30),(34,vI (aB y)),(35,vI a2)]) (fun stt:Int×(List Int)×(List Node)×(List Int)=>match stt with | (_a2,l,l2,l1)=>[(7,.box [dI x1.Level,.own 30]),(30,.row 1 3 (List.map (rI .i64) l)),(5000,.row 2 80 (List.map Node.row l2)),(1000000,.box [.own 1000001]),(1000001,.row 1 3 (List.map (rI .i64) l1)),(1000002,.box [dR1 a1]),(1000003,.box [.fn 186 [.box 1000000 0,.box 1000002 0,.box 1000003 0,.box 1000004 0]]),(1000004,.box [.own 5000])]) stt Z O):Swp Tryz.prog cx (.loop (bq [1,1,1,0,1,0,0] (aU Tryz.f186))) Z O (bz cx rcv k a1 x1 y tt):=by
 refine bc hE hh (bz cx rcv k a1 x1 y) ?_
 rintro⟨a2,l,l2,l1⟩ r hm Z O hf
 simp only[Fits,aR,aQ,and_true] at hf
 unfold b_reduce_ordered_1_o_o_o_o_1 at hm
 dsimp only at hm
 refine srs hn ?_
 simp -dsimp [hf]
 refine aD ?_
 rcases aM hm with ⟨c5,hm⟩ | ⟨c5,hm⟩
 ·refine aI (by simp -dsimp) c5 ?_
  refine aF (aC ?_)
  obtain⟨⟨l3,l4,l5⟩,j9,hm⟩:=bnd hm
  refine scE [(0,vI k),(1,vX 1000000),(3,vX 1000003),(4,vX 1000004),(7,vX 7),(33,vO 30),(34,vI (aB y)),(35,vI a2)] [(7,.box [dI x1.Level,.own 30]),(30,.row 1 3 (List.map (rI .i64) l3)),(5000,.row 2 80 (List.map Node.row l5)),(1000000,.box [.own 1000001]),(1000001,.row 1 3 (List.map (rI .i64) l4)),(1000002,.box [dR1 a1]),(1000003,.box [.fn 186 [.box 1000000 0,.box 1000002 0,.box 1000003 0,.box 1000004 0]]),(1000004,.box [.own 5000])] ?_ fun Z O hf=>?_
  ·replace hm:=j9
   clear j9
   refine aH ?_
   refine srs hn ?_
   obtain⟨x2,h6,hm⟩:=bnd hm
   simp -dsimp [hf,c5,h6,aZ h6]
   refine srs hn ?_
   simp -dsimp [hf]
   rcases aM hm with ⟨c7,hm⟩ | ⟨c7,hm⟩
   ·refine aI (by simp -dsimp) c7 ?_
    refine sw_midc aP mixed 5 6 6 0 [[0,1,2]] [[5001]] [] none (by rw[hn]; kernel_rfl) dc ?_
    dsimp only [List.take,List.drop,dz,dT,eX,pk,List.cons_append,List.nil_append,List.flatten_cons,List.flatten_nil,cz,cA,List.append_nil]
    obtain⟨y1,h8,hm⟩:=bnd hm
    simp -dsimp [hf,c7]
    refine callE_g (hrcv x2 l1 a1 l2 y1 h8) [1000000,1000001,1000002,1000003,1000004,5000] [5001] rfl rfl rfl (by simp -dsimp) rfl (by simp -dsimp [hf]) (by first | rfl | simp) rfl (dkL hn) rfl rfl (by simp) nofun (by simp) ?_
    simp -dsimp [hf,h6,aZ h6,rsetI .i64 l a2.toNat y1.1]
    refine bp ?_
    refine aC ?_
    cases hm
    refine emv 5001 5000 ?_
    exact zz
   ·exact zz
  ·clear j9
   exact zz
 ·exact zz
theorem el (rcv:(Int->(List Int)->(List Node)->(List Node)->Option (Int×(List Int)×(List Node)))) (hrcv:bK rcv) (k:Int) (a:List Int) (a1 cv:List Node) (r:Int×(List Int)×(List Node)) (hm:mb_reduce_ordered_1_o_o_o_o rcv k a a1 cv=some r):GFn Tryz.prog 186 [vI k,vX 1000000,vX 1000002,vX 1000003,vX 1000004] [.box [.own 1000001],.row 1 3 (List.map (rI .i64) a),.box [dR1 a1],.box [.fn 186 [.box 1000000 0,.box 1000002 0,.box 1000003 0,.box 1000004 0]],.box [.own 1000005],.row 2 80 (List.map Node.row cv)] (vI r.1) [some (.box [.own 1000001]),some (.row 1 3 (List.map (rI .i64) r.2.1)),some (.box [dR1 a1]),some (.box [.fn 186 [.box 1000000 0,.box 1000002 0,.box 1000003 0,.box 1000004 0]]),some (.box [.own 1000006]),none,some (.row 2 80 (List.map Node.row r.2.2))]:=by
 refine bu aP _ Tryz.func186 rfl (by kernel_rfl) (by simp[Tryz.ntmps186]) (by simp) (by first | rfl | simp) (by first | rfl | simp) fun cx hn hk=>?_
 replace hn:cx.n=63:=hn.trans Tryz.ntmps186
 replace hk:cx.k=6:=hk
 unfold mb_reduce_ordered_1_o_o_o_o at hm
 refine srs hn ?_
 simp -dsimp
 refine aD ?_
 refine srs hn ?_
 obtain⟨x,h1,hm⟩:=bnd hm
 simp -dsimp [h1,aZ h1]
 rcases aM hm with ⟨c2,hm⟩ | ⟨c2,hm⟩
 ·refine aI (by simp -dsimp) c2 ?_
  refine srs hn ?_
  simp -dsimp [h1,aZ h1,c2]
  refine b6 (dF ?_)
  cases hm
  refine⟨.inr rfl,?_⟩
  refine emr 1000005 1000006 hk ?_
  exact zz
 ·refine aG (by simp -dsimp) c2 ?_
  refine aF (aC ?_)
  refine fe aP mixed 10 11 13 12 [[0,1,2,3,4]] [[30]] [true,false] (some (7,.box [dI 0,.d .nil])) (by rw[hn]; kernel_rfl) (fltT_some 80 _ (by kernel_rfl) rfl rfl rfl (by simp[C.wipe])) ?_
  dsimp only [List.take,List.drop,dz,dT,eX,pk,List.cons_append,List.nil_append,List.flatten_cons,List.flatten_nil,cz,cA,List.append_nil]
  obtain⟨x1,h3,hm⟩:=bnd hm
  obtain⟨y,h4,hm⟩:=bnd hm
  simp -dsimp [c2,h3]
  refine callE_new (cd x1.Next y h4) (dkL hn) (by decide) rfl rfl (by simp) (by rintro _ _ ⟨⟩; simp[C.wipe]) (by simp) ?_
  simp -dsimp [h3]
  refine aD ?_
  refine srs hn ?_
  simp -dsimp
  refine aH ?_
  obtain⟨⟨l,l1,l2⟩,g10,hm⟩:=bnd hm
  refine aW (ef cx hn hk rcv k a1 x1 y hrcv g10) (by
    try dsimp only
    refine emv 1000005 5000 ?_
    exact zz
  ) fun ee Z O xx=>?_
  unfold bz at xx
  dsimp only at xx
  obtain⟨rfl,xx⟩:=xx
  refine bj ?_
  refine aC ?_
  refine see xx fun Z O hf=>?_
  simp only[Fits,aR,aQ,and_true] at hf
  refine Swp.pre (Wk.frz 30 1 3 (List.map (rI .i64) l) (by simp -dsimp [hf])) ?_
  refine srs hn ?_
  obtain⟨l3,h11,hm⟩:=bnd hm
  obtain⟨h11a,h11e⟩:=aS h11
  replace h11e:=h11e.symm
  subst h11e
  try simp only[List.length_cons,List.length_nil,Nat.zero_add] at h11a
  simp -dsimp [hf,h11a]
  refine srs hn ?_
  obtain⟨x2,h12,hm⟩:=bnd hm
  simp -dsimp [hf,h12,aZ h12,rsetI .i64 l2 k.toNat ((aB l1)+1)]
  refine srs hn ?_
  simp -dsimp [hf]
  refine b6 ?_
  cases hm
  refine⟨.inr rfl,?_⟩
  refine emr 54 1000006 hk ?_
  exact zz
theorem eD (k:Int) (a:List Int) (a1 cv:List Node) (r:Int×(List Int)×(List Node)) (hm:m_reduce_ordered_1_o_o_o_o k a a1 cv=some r):GFn Tryz.prog 186 [vI k,vX 1000000,vX 1000002,vX 1000003,vX 1000004] [.box [.own 1000001],.row 1 3 (List.map (rI .i64) a),.box [dR1 a1],.box [.fn 186 [.box 1000000 0,.box 1000002 0,.box 1000003 0,.box 1000004 0]],.box [.own 1000005],.row 2 80 (List.map Node.row cv)] (vI r.1) [some (.box [.own 1000001]),some (.row 1 3 (List.map (rI .i64) r.2.1)),some (.box [dR1 a1]),some (.box [.fn 186 [.box 1000000 0,.box 1000002 0,.box 1000003 0,.box 1000004 0]]),some (.box [.own 1000006]),none,some (.row 2 80 (List.map Node.row r.2.2))]:=recN_ind bK (by intro _; intro _; intro _; intro _; intro _; intro hm; cases hm) el recF k a a1 cv r hm
end
theorem dD (nodes:List Node) (root:Int) (r:List Node) (hm:m_reduce_ordered nodes root=some r):PureCall Tryz.prog 123 [.u (.one (dR1 nodes)),vI root] (.u (.one (dR1 r))):=by
 refine b8 Tryz.func123 Tryz.ntmps123 fun cx hn=>?_
 unfold m_reduce_ordered at hm
 refine srs hn ?_
 simp -dsimp
 refine srs hn ?_
 obtain⟨l,h1,hm⟩:=bnd hm
 obtain⟨⟨h1a,h1b,h1c⟩,rfl⟩:=eJ h1
 simp -dsimp [h1a,h1c]
 refine srs hn ?_
 simp -dsimp
 refine srs hn ?_
 simp -dsimp
 refine srs hn ?_
 simp -dsimp
 refine Swp.pre (Wk.own0b 6 0 5000 2 80 [.d .nil] (by simp -dsimp) (by rfl) (by decide) (by decide)) ?_
 refine srs hn ?_
 obtain⟨y,h2,hm⟩:=bnd hm
 simp -dsimp
 refine clg (eD root (List.replicate (aB nodes).toNat 0) nodes [] y h2) [5,10,2,7,6,5000] [5001] (by simp -dsimp) (dkL hn) ?_
 exact zz
end Go.Proofs.YtffohfmfehjbmaaGreatDoor
