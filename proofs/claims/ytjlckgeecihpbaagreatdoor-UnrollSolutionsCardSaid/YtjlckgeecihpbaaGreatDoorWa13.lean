/- That the code does what the functions say (made by cc.py). -/
import Derived.Test.YtjlckgeecihpbaaGreatDoorWa11
namespace Go.Proofs.YtjlckgeecihpbaaGreatDoor
open Go.AM Go.Proofs
set_option maxRecDepth 100000
attribute [-simp] ey eY i7 Ob.wipe Ob.ren Ob.frz1
section
attribute [-simp] List.map_set List.set_set
def nY (cx:Cx) (p:List Cell) (y:Box×Bool) (tt:(List Int)) (ee:Exit) (Z:Env) (O:Sto):Prop:=match tt with
 | l1=>ee=.exit 0/\EE cx (bH [(2,vX 2),(5,vX 5)] [(2,.box [.d (.bool false),dI 0,dI 0,dI 0,dI 0,.d .nil,.d .nil]),(5,.box [.d (.bool (leB (ck .i64 y.1.W y.1.H) 40000)),dI y.1.X,dI y.1.Y,dI y.1.W,dI y.1.H,.own 30,dR0 p]),(30,.row 1 3 (List.map (rI .i64) l1))]) Z O
instance l_R20_states_1 (p y) {fu stt tt}:LtP (ba (gp p y) fu stt=some tt) (lp 67 stt (fun | (i,_l1)=>[(0,.u (.one (dR0 p))),(2,vX 2),(3,vX 3),(5,vX 5),(6,vI i)]) (fun | (_i,l1)=>[(2,.box [.d (.bool false),dI 0,dI 0,dI 0,dI 0,.d .nil,.d .nil]),(3,.box [dI y.1.X,dI y.1.Y,dI y.1.W,dI y.1.H]),(5,.box [.d (.bool (leB (ck .i64 y.1.W y.1.H) 40000)),dI y.1.X,dI y.1.Y,dI y.1.W,dI y.1.H,.own 30,dR0 p]),(30,.row 1 3 (List.map (rI .i64) l1))]) (cC [1,1,1,1,1,0,1,0,0] (bD Tryz.f107)) fun cx=>nY cx p y tt):=⟨fun hh cx hn Z O hE=>by
 refine bN hE hh (nY cx p y) ?_
 rintro⟨i,l1⟩ r hm Z O hf
 simp only[Fits,bB,bA,and_true] at hf
 unfold gp at hm
 dsimp only at hm
 refine aZ ?_
 refine srs hn ?_
 simp -dsimp [hf]
 rcases bz hm with ⟨c4,hm⟩ | ⟨c4,hm⟩
 ·refine b9 (by simp -dsimp) c4 ?_
  refine b0 (aY (aZ (b7 ?_)))
  refine nR bO mixed 27 (by rw[hn]; kernel_rfl) ?_
  dsimp only [List.take,List.drop]
  obtain⟨x,h5,hm⟩:=bnd hm
  obtain⟨x1,h6,hm⟩:=bnd hm
  simp -dsimp [hf,c4,h5,h6,da h6,rsetI .i64 l1 (bL .i64 (bo .i64 (ck .i64 (bL .i64 x.Y y.1.Y) y.1.W) x.X) y.1.X).toNat x.S]
  refine cr ?_
  refine aY ?_
  refine sr1 hn ?_
  simp -dsimp [hf]
  cases hm
  refine d8 ?_
  exact EE.here (by simp -dsimp [hf])
 ·exact zz⟩
instance c_R20_states (p r):CtP (ls p=some r) (bc Tryz.prog 107 [.u (.one (dR0 p))] (.u (.agg [.d (.bool r.flat),dI r.box.X,dI r.box.Y,dI r.box.W,dI r.box.H,dL r.cells,dR0 r.list]))):=⟨fun hm=>by
 refine cu Tryz.func107 Tryz.ntmps107 fun cx hn=>?_
 unfold ls at hm
 refine srs hn ?_
 simp -dsimp
 refine srs hn ?_
 obtain⟨y,h1,hm⟩:=bnd hm
 simp -dsimp
 refine bi (CtP.pf h1) (dkL hn) ?_
 simp -dsimp
 refine srs hn ?_
 simp -dsimp
 refine aZ ?_
 refine srs hn ?_
 simp -dsimp
 rcases bz hm with ⟨c2,hm⟩ | ⟨c2,hm⟩
 ·exact zz
 ·refine bf (by simp -dsimp) c2 ?_
  refine b0 (aY ?_)
  refine srs hn ?_
  obtain⟨l,h3,hm⟩:=bnd hm
  obtain⟨⟨h3a,h3b,h3c⟩,rfl⟩:=nu h3
  simp -dsimp [c2,h3a,h3c]
  refine aZ ?_
  refine srs hn ?_
  simp -dsimp
  refine b7 ?_
  obtain⟨l1,g7,hm⟩:=bnd hm
  refine bG (LtP.pf g7 cx hn) (by
    try dsimp only
    refine EE.here ?_
    exact zz
  ) fun ee Z O xx=>?_
  unfold nY at xx
  dsimp only at xx
  obtain⟨rfl,xx⟩:=xx
  refine bK ?_
  refine aY ?_
  refine see xx fun Z O hf=>?_
  simp only[Fits,bB,bA,and_true] at hf
  refine Swp.pre (Wk.frz 30 1 3 (List.map (rI .i64) l1) (by simp -dsimp [hf])) ?_
  exact zz⟩
end
def lL (cx:Cx) (_f:Bl) (_n:Int) (_q:Point) (tt:Bool ⊕ Unit) (ee:Exit) (Z:Env) (O:Sto):Prop:=match tt with
 | .inl r=>ee=.ret/\EE cx (fun Z O=>∃ v,fC tb Z O Tryz.f118.results.toList=some v/\(v.frz O).free=true/\(v.frz O).wk (vT r)) Z O
 | .inr _u=>ee=.exit 0/\EE cx (bH [] []) Z O
instance l_R20_field_earlier_1 (f n q) {fu stt tt}:LtP (ba (dl f n q) fu stt=some tt) (lp 45 stt (fun i=>[(1,vI n),(3,vX 3),(5,vX 5),(7,vI i)]) (fun _i=>[(3,.box [.d (.bool f.flat),dI f.box.X,dI f.box.Y,dI f.box.W,dI f.box.H,dL f.cells,dR0 f.list]),(5,.box [dI q.X,dI q.Y])]) (cC [1,0,1,0,0] (bD Tryz.f118)) fun cx=>lL cx f n q tt):=⟨fun hh cx hn Z O hE=>by
 refine bN hE hh (lL cx f n q) ?_
 rintro i r hm Z O hf
 simp only[Fits,bB,bA,and_true] at hf
 unfold dl at hm
 dsimp only at hm
 refine aZ ?_
 refine srs hn ?_
 simp -dsimp [hf]
 rcases bz hm with ⟨c1,hm⟩ | ⟨c1,hm⟩
 ·refine b9 (by simp -dsimp) c1 ?_
  refine b0 (aY (aZ (b7 ?_)))
  refine iM bO mixed (by rw[hn]; kernel_rfl) ?_
  obtain⟨x,h2,hm⟩:=bnd hm
  simp -dsimp [hf,c1,h2]
  obtain⟨a,j5,hm⟩:=bnd hm
  refine scE [(1,vI n),(3,vX 3),(5,vX 5),(7,vI i),(44,vT a)] [(3,.box [.d (.bool f.flat),dI f.box.X,dI f.box.Y,dI f.box.W,dI f.box.H,dL f.cells,dR0 f.list]),(5,.box [dI q.X,dI q.Y])] ?_ fun Z O hf=>?_
  ·replace hm:=j5
   clear j5
   exact zz
  ·clear j5
   exact zz
 ·exact zz⟩
instance c_R20_field_earlier (f n q r):CtP (fy f n q=some r) (bc Tryz.prog 118 [.u (.agg [.d (.bool f.flat),dI f.box.X,dI f.box.Y,dI f.box.W,dI f.box.H,dL f.cells,dR0 f.list]),vI n,.u (.agg [dI q.X,dI q.Y])] (vT r)):=⟨fun hm=>by
 refine cu Tryz.func118 Tryz.ntmps118 fun cx hn=>?_
 unfold fy at hm
 refine srs hn ?_
 simp -dsimp
 refine aZ ?_
 refine srs hn ?_
 simp -dsimp
 refine b7 ?_
 obtain⟨o_,g6,hm⟩:=bnd hm
 refine bG (LtP.pf g6 cx hn) (by
   try dsimp only
   exact eeh
 ) fun ee Z O xx=>?_
 rcases o_ with r | _u
 ·exact zz
 ·exact zz⟩
def nK (cx:Cx) (f:Bl) (y:Int) (_out:List Point) (tt:(List Point)) (ee:Exit) (Z:Env) (O:Sto):Prop:=match tt with
 | aC=>ee=.exit 2/\EE cx (bH [(1,vX 1),(3,vO 5000),(4,vI y)] [(1,.box [.d (.bool f.flat),dI f.box.X,dI f.box.Y,dI f.box.W,dI f.box.H,dL f.cells,dR0 f.list]),(5000,.row 2 74 (List.map Point.row aC))]) Z O
set_option maxHeartbeats 1000000 in
instance l_R20_field_near_2 (f y out) {fu stt tt}:LtP (ba (eh f y out) fu stt=some tt) (lp 93 stt (fun | (x,_aC)=>[(1,vX 1),(3,vO 5000),(4,vI y),(5,vI x)]) (fun | (_x,aC)=>[(1,.box [.d (.bool f.flat),dI f.box.X,dI f.box.Y,dI f.box.W,dI f.box.H,dL f.cells,dR0 f.list]),(5000,.row 2 74 (List.map Point.row aC))]) (cC [1,1,0,1,0,0,1,0,0,1,0,0,1,0,0] (bD Tryz.f108)) fun cx=>nK cx f y out tt):=⟨fun hh cx hn Z O hE=>by
 refine bN hE hh (nK cx f y out) ?_
 rintro⟨x,aC⟩ r hm Z O hf
 simp only[Fits,bB,bA,and_true] at hf
 unfold eh at hm
 dsimp only at hm
 refine aZ ?_
 refine srs hn ?_
 simp -dsimp [hf]
 rcases bz hm with ⟨c3,hm⟩ | ⟨c3,hm⟩
 ·refine b9 (by simp -dsimp) c3 ?_
  refine b0 (aY (aZ (b7 ?_)))
  refine sr1 hn ?_
  obtain⟨l,h4,hm⟩:=bnd hm
  obtain⟨h4a,h4e⟩:=bQ h4
  replace h4e:=h4e.symm
  subst h4e
  try simp only[List.length_cons,List.length_nil,Nat.zero_add] at h4a
  simp -dsimp [hf,c3,h4a]
  refine cr ?_
  refine aY ?_
  refine sr1 hn ?_
  simp -dsimp [hf]
  cases hm
  refine d8 ?_
  refine emv 49 5000 ?_
  exact zz
 ·exact zz⟩
def kB (cx:Cx) (_f:Bl) (tt:(List Point)) (ee:Exit) (Z:Env) (O:Sto):Prop:=match tt with
 | out=>ee=.exit 0/\EE cx (bH [(3,vO 5000)] [(5000,.row 2 74 (List.map Point.row out))]) Z O
set_option maxHeartbeats 1000000 in
instance l_R20_field_near_1 (f) {fu stt tt}:LtP (ba (ej f) fu stt=some tt) (lp 93 stt (fun | (y,_out)=>[(1,vX 1),(3,vO 5000),(4,vI y)]) (fun | (_y,out)=>[(1,.box [.d (.bool f.flat),dI f.box.X,dI f.box.Y,dI f.box.W,dI f.box.H,dL f.cells,dR0 f.list]),(5000,.row 2 74 (List.map Point.row out))]) (cC [1,1,0,1,0,0,1,0,0] (bD Tryz.f108)) fun cx=>kB cx f tt):=⟨fun hh cx hn Z O hE=>by
 refine bN hE hh (kB cx f) ?_
 rintro⟨y,out⟩ r hm Z O hf
 simp only[Fits,bB,bA,and_true] at hf
 unfold ej at hm
 exact zz⟩
def nq (cx:Cx) (f:Bl) (i:Int) (_out:List Point) (y:Int) (tt:(List Point)) (ee:Exit) (Z:Env) (O:Sto):Prop:=match tt with
 | aT=>ee=.exit 8/\EE cx (bH [(1,vX 1),(3,vO 5000),(6,vI i),(7,vI y)] [(1,.box [.d (.bool f.flat),dI f.box.X,dI f.box.Y,dI f.box.W,dI f.box.H,dL f.cells,dR0 f.list]),(5000,.row 2 74 (List.map Point.row aT))]) Z O
set_option maxHeartbeats 1000000 in
instance l_R20_field_near_5 (f i out y) {fu stt tt}:LtP (ba (dD f i out y) fu stt=some tt) (lp 93 stt (fun | (x,_aT)=>[(1,vX 1),(3,vO 5000),(6,vI i),(7,vI y),(8,vI x)]) (fun | (_x,aT)=>[(1,.box [.d (.bool f.flat),dI f.box.X,dI f.box.Y,dI f.box.W,dI f.box.H,dL f.cells,dR0 f.list]),(5000,.row 2 74 (List.map Point.row aT))]) (cC [1,1,1,0,1,0,0,1,0,0,1,0,0,1,0,0,1,0,0] (bD Tryz.f108)) fun cx=>nq cx f i out y tt):=⟨fun hh cx hn Z O hE=>by
 refine bN hE hh (nq cx f i out y) ?_
 rintro⟨x,aT⟩ r hm Z O hf
 simp only[Fits,bB,bA,and_true] at hf
 unfold dD at hm
 dsimp only at hm
 refine aZ ?_
 refine srs hn ?_
 simp -dsimp [hf]
 rcases bz hm with ⟨c9,hm⟩ | ⟨c9,hm⟩
 ·refine b9 (by simp -dsimp) c9 ?_
  refine b0 (aY ?_)
  obtain⟨out3,j14,hm⟩:=bnd hm
  refine scE [(1,vX 1),(3,vO 5000),(6,vI i),(7,vI y),(8,vI x)] [(1,.box [.d (.bool f.flat),dI f.box.X,dI f.box.Y,dI f.box.W,dI f.box.H,dL f.cells,dR0 f.list]),(5000,.row 2 74 (List.map Point.row out3))] ?_ fun Z O hf=>?_
  ·replace hm:=j14
   clear j14
   refine b7 ?_
   refine ja bO mixed 17 18 18 0 [[0,1,2,3,4,5,6,7,8,9,10,11,12,13,14,15,16]] [[9]] [] none (by rw[hn]; kernel_rfl) ep ?_
   dsimp only [List.take,List.drop,gz,gP,jl,pk,List.cons_append,List.nil_append,List.flatten_cons,List.flatten_nil,dY,dW,List.append_nil]
   obtain⟨x1,h10,hm⟩:=bnd hm
   simp -dsimp [hf,c9,h10]
   refine srs hn ?_
   obtain⟨y1,h11,hm⟩:=bnd hm
   simp -dsimp [hf]
   refine bi (CtP.pf h11) (dkL hn) ?_
   simp -dsimp
   rcases bz hm with ⟨c12,hm⟩ | ⟨c12,hm⟩
   ·refine b9 (by simp -dsimp) c12 ?_
    refine sr1 hn ?_
    obtain⟨l,h13,hm⟩:=bnd hm
    obtain⟨h13a,h13e⟩:=bQ h13
    replace h13e:=h13e.symm
    subst h13e
    try simp only[List.length_cons,List.length_nil,Nat.zero_add] at h13a
    simp -dsimp [hf,c12,h13a]
    refine cr ?_
    refine aY ?_
    cases hm
    refine emv 91 5000 ?_
    exact zz
   ·exact zz
  ·clear j14
   exact zz
 ·exact zz⟩
def nP (cx:Cx) (f:Bl) (i:Int) (_out:List Point) (tt:(List Point)) (ee:Exit) (Z:Env) (O:Sto):Prop:=match tt with
 | aC=>ee=.exit 6/\EE cx (bH [(1,vX 1),(3,vO 5000),(6,vI i)] [(1,.box [.d (.bool f.flat),dI f.box.X,dI f.box.Y,dI f.box.W,dI f.box.H,dL f.cells,dR0 f.list]),(5000,.row 2 74 (List.map Point.row aC))]) Z O
set_option maxHeartbeats 1000000 in
instance l_R20_field_near_4 (f i out) {fu stt tt}:LtP (ba (eR f i out) fu stt=some tt) (lp 93 stt (fun | (y,_aC)=>[(1,vX 1),(3,vO 5000),(6,vI i),(7,vI y)]) (fun | (_y,aC)=>[(1,.box [.d (.bool f.flat),dI f.box.X,dI f.box.Y,dI f.box.W,dI f.box.H,dL f.cells,dR0 f.list]),(5000,.row 2 74 (List.map Point.row aC))]) (cC [1,1,1,0,1,0,0,1,0,0,1,0,0] (bD Tryz.f108)) fun cx=>nP cx f i out tt):=⟨fun hh cx hn Z O hE=>by
 refine bN hE hh (nP cx f i out) ?_
 rintro⟨y,aC⟩ r hm Z O hf
 simp only[Fits,bB,bA,and_true] at hf
 unfold eR at hm
 exact zz⟩
def kJ (cx:Cx) (_f:Bl) (tt:(List Point)) (ee:Exit) (Z:Env) (O:Sto):Prop:=match tt with
 | out=>ee=.exit 4/\EE cx (bH [(3,vO 5000)] [(5000,.row 2 74 (List.map Point.row out))]) Z O
set_option maxHeartbeats 1000000 in
instance l_R20_field_near_3 (f) {fu stt tt}:LtP (ba (ef f) fu stt=some tt) (lp 93 stt (fun | (i,_out)=>[(1,vX 1),(3,vO 5000),(6,vI i)]) (fun | (_i,out)=>[(1,.box [.d (.bool f.flat),dI f.box.X,dI f.box.Y,dI f.box.W,dI f.box.H,dL f.cells,dR0 f.list]),(5000,.row 2 74 (List.map Point.row out))]) (cC [1,1,1,0,1,0,0] (bD Tryz.f108)) fun cx=>kJ cx f tt):=⟨fun hh cx hn Z O hE=>by
 refine bN hE hh (kJ cx f) ?_
 rintro⟨i,out⟩ r hm Z O hf
 simp only[Fits,bB,bA,and_true] at hf
 unfold ef at hm
 exact zz⟩
set_option maxHeartbeats 1000000 in
instance c_R20_field_near (f r):CtP (ig f=some r) (bc Tryz.prog 108 [.u (.agg [.d (.bool f.flat),dI f.box.X,dI f.box.Y,dI f.box.W,dI f.box.H,dL f.cells,dR0 f.list])] (.u (.one (dR2 r)))):=⟨fun hm=>by
 refine cu Tryz.func108 Tryz.ntmps108 fun cx hn=>?_
 unfold ig at hm
 refine srs hn ?_
 simp -dsimp
 refine srs hn ?_
 simp -dsimp
 refine aZ ?_
 refine srs hn ?_
 simp -dsimp
 rcases bz hm with ⟨c1,hm⟩ | ⟨c1,hm⟩
 ·refine sct c1 ?_
  refine aZ ?_
  refine srs hn ?_
  simp -dsimp [c1]
  refine b7 ?_
  obtain⟨out,g6,hm⟩:=bnd hm
  refine bG (LtP.pf g6 cx hn) (by
    try dsimp only
    refine EE.step (Wk.own0 3 5000 2 74 (by simp -dsimp) (by decide)) ?_
    exact zz
  ) fun ee Z O xx=>?_
  unfold kB at xx
  dsimp only at xx
  obtain⟨rfl,xx⟩:=xx
  refine bK ?_
  refine aY ?_
  refine see xx fun Z O hf=>?_
  simp only[Fits,bB,bA,and_true] at hf
  refine srs hn ?_
  simp -dsimp [hf]
  refine bC (fI ?_)
  cases hm
  refine⟨.inr rfl,?_⟩
  exact EE.here (by simp -dsimp [hf])
 ·refine scf c1 ?_
  refine b0 (aY (aZ ?_))
  refine srs hn ?_
  simp -dsimp [c1]
  refine b7 ?_
  obtain⟨out,g17,hm⟩:=bnd hm
  refine bG (LtP.pf g17 cx hn) (by
    try dsimp only
    refine EE.step (Wk.own0 3 5000 2 74 (by simp -dsimp) (by decide)) ?_
    exact zz
  ) fun ee Z O xx=>?_
  unfold kJ at xx
  dsimp only at xx
  obtain⟨rfl,xx⟩:=xx
  refine bK ?_
  refine aY ?_
  refine see xx fun Z O hf=>?_
  simp only[Fits,bB,bA,and_true] at hf
  refine srs hn ?_
  simp -dsimp [hf]
  refine bC ?_
  cases hm
  refine⟨.inr rfl,?_⟩
  exact EE.here (by simp -dsimp [hf])⟩
def F_R05_Get_1 (cx:Cx) (_p:List Cell) (_x _y:Int) (tt:Int ⊕ Unit) (ee:Exit) (Z:Env) (O:Sto):Prop:=match tt with
 | .inl r=>ee=.ret/\EE cx (fun Z O=>∃ v,fC tb Z O Tryz.f123.results.toList=some v/\(v.frz O).free=true/\(v.frz O).wk (vI r)) Z O
 | .inr _u=>ee=.exit 0/\EE cx (bH [] []) Z O
instance l_R05_Get_1 (p x y) {fu stt tt}:LtP (ba (jH p x y) fu stt=some tt) (lp 35 stt (fun i=>[(0,.u (.one (dR0 p))),(1,vI x),(2,vI y),(7,vI i)]) (fun _i=>[]) (cC [1,0,1,0,0] (bD Tryz.f123)) fun cx=>F_R05_Get_1 cx p x y tt):=⟨fun hh cx hn Z O hE=>by
 refine bN hE hh (F_R05_Get_1 cx p x y) ?_
 rintro i r hm Z O hf
 simp only[Fits,bB,bA,and_true] at hf
 unfold jH at hm
 dsimp only at hm
 refine aZ ?_
 refine srs hn ?_
 simp -dsimp [hf]
 rcases bz hm with ⟨c1,hm⟩ | ⟨c1,hm⟩
 ·refine b9 (by simp -dsimp) c1 ?_
  refine b0 (aY (aZ (b7 ?_)))
  obtain⟨a,j6,hm⟩:=bnd hm
  refine scE [(0,.u (.one (dR0 p))),(1,vI x),(2,vI y),(7,vI i),(29,vT a)] [] ?_ fun Z O hf=>?_
  ·replace hm:=j6
   clear j6
   exact zz
  ·clear j6
   exact zz
 ·exact zz⟩
instance c_R05_Get (p x y r):CtP (pp p x y=some r) (bc Tryz.prog 123 [.u (.one (dR0 p)),vI x,vI y] (vI r)):=⟨fun hm=>by
 refine cu Tryz.func123 Tryz.ntmps123 fun cx hn=>?_
 unfold pp at hm
 refine srs hn ?_
 simp -dsimp
 refine aZ ?_
 refine srs hn ?_
 simp -dsimp
 refine b7 ?_
 obtain⟨o_,g7,hm⟩:=bnd hm
 refine bG (LtP.pf g7 cx hn) (by
   try dsimp only
   exact eeh
 ) fun ee Z O xx=>?_
 rcases o_ with r | _u
 ·exact zz
 ·exact zz⟩
instance c_R20_field_at (f x y r):CtP (i8 f x y=some r) (bc Tryz.prog 119 [.u (.agg [.d (.bool f.flat),dI f.box.X,dI f.box.Y,dI f.box.W,dI f.box.H,dL f.cells,dR0 f.list]),vI x,vI y] (vI r)):=⟨fun hm=>by
 refine cu Tryz.func119 Tryz.ntmps119 fun cx hn=>?_
 unfold i8 at hm
 refine srs hn ?_
 simp -dsimp
 refine aZ ?_
 refine srs hn ?_
 simp -dsimp
 rcases bz hm with ⟨c1,hm⟩ | ⟨c1,hm⟩
 ·exact zz
 ·refine scf c1 ?_
  refine b0 (aY (aZ ?_))
  obtain⟨a,j8,hm⟩:=bnd hm
  refine scE [(1,vI x),(2,vI y),(3,vX 3),(48,vT a)] [(3,.box [.d (.bool f.flat),dI f.box.X,dI f.box.Y,dI f.box.W,dI f.box.H,dL f.cells,dR0 f.list])] ?_ fun Z O hf=>?_
  ·replace hm:=j8
   clear j8
   exact zz
  ·clear j8
   exact zz⟩
def pC (cx:Cx) (t:Tree) (_f:Bl) (_x _y:Int) (tt:(List Int)) (ee:Exit) (Z:Env) (O:Sto):Prop:=match tt with
 | in_=>ee=.exit 0/\EE cx (bH [(4,vX 4),(9,vO 5000)] [(4,.box [dI t.States,dR2 t.Hood,dR1 t.Nodes]),(5000,.row 1 3 (List.map (rI .i64) in_))]) Z O
instance l_R20_next_1 (t f x y) {fu stt tt}:LtP (ba (jQ t f x y) fu stt=some tt) (lp 42 stt (fun | (i,_in_)=>[(2,vI x),(3,vI y),(4,vX 4),(5,vX 5),(9,vO 5000),(10,vI i)]) (fun | (_i,in_)=>[(4,.box [dI t.States,dR2 t.Hood,dR1 t.Nodes]),(5,.box [.d (.bool f.flat),dI f.box.X,dI f.box.Y,dI f.box.W,dI f.box.H,dL f.cells,dR0 f.list]),(5000,.row 1 3 (List.map (rI .i64) in_))]) (cC [1,1,0,1,0,0] (bD Tryz.f109)) fun cx=>pC cx t f x y tt):=⟨fun hh cx hn Z O hE=>by
 refine bN hE hh (pC cx t f x y) ?_
 rintro⟨i,in_⟩ r hm Z O hf
 simp only[Fits,bB,bA,and_true] at hf
 unfold jQ at hm
 dsimp only at hm
 refine aZ ?_
 refine srs hn ?_
 simp -dsimp [hf]
 rcases bz hm with ⟨c1,hm⟩ | ⟨c1,hm⟩
 ·refine b9 (by simp -dsimp) c1 ?_
  refine b0 (aY (aZ (b7 ?_)))
  refine nR bO mixed 20 (by rw[hn]; kernel_rfl) ?_
  dsimp only [List.take,List.drop]
  obtain⟨x1,h2,hm⟩:=bnd hm
  obtain⟨y1,h3,hm⟩:=bnd hm
  simp -dsimp [hf,c1,h2]
  refine br (CtP.pf h3) ?_
  obtain⟨l,h4,hm⟩:=bnd hm
  obtain⟨h4a,h4e⟩:=bQ h4
  replace h4e:=h4e.symm
  subst h4e
  try simp only[List.length_cons,List.length_nil,Nat.zero_add] at h4a
  simp -dsimp [hf,h4a]
  refine cr ?_
  refine aY ?_
  refine sr1 hn ?_
  simp -dsimp [hf]
  cases hm
  refine d8 ?_
  refine emv 38 5000 ?_
  exact zz
 ·exact zz⟩
instance c_R20_next (t f x y r):CtP (nv t f x y=some r) (bc Tryz.prog 109 [.u (.agg [dI t.States,dR2 t.Hood,dR1 t.Nodes]),.u (.agg [.d (.bool f.flat),dI f.box.X,dI f.box.Y,dI f.box.W,dI f.box.H,dL f.cells,dR0 f.list]),vI x,vI y] (vI r)):=⟨fun hm=>by
 refine cu Tryz.func109 Tryz.ntmps109 fun cx hn=>?_
 unfold nv at hm
 refine srs hn ?_
 simp -dsimp
 refine srs hn ?_
 simp -dsimp
 refine aZ ?_
 refine srs hn ?_
 simp -dsimp
 refine b7 ?_
 obtain⟨in_,g5,hm⟩:=bnd hm
 refine bG (LtP.pf g5 cx hn) (by
   try dsimp only
   refine EE.step (Wk.own0 9 5000 1 3 (by simp -dsimp) (by decide)) ?_
   exact zz
 ) fun ee Z O xx=>?_
 unfold pC at xx
 dsimp only at xx
 obtain⟨rfl,xx⟩:=xx
 refine bK ?_
 refine aY ?_
 refine see xx fun Z O hf=>?_
 simp only[Fits,bB,bA,and_true] at hf
 refine srs hn ?_
 obtain⟨y1,h6,hm⟩:=bnd hm
 simp -dsimp [hf]
 refine nk (us':=[.u (.agg [dI t.States,dR2 t.Hood,dR1 t.Nodes]),.u (.one (dL in_))]) (CtP.pf h6) (by simp -dsimp [hf]) rfl (dkL hn) ?_
 simp -dsimp
 refine bC ?_
 cases hm
 refine⟨.inr rfl,?_⟩
 exact EE.here (by simp -dsimp)⟩
instance c_R20_valid (x y r):CtP (me x y=some r) (bc Tryz.prog 110 [vI x,vI y] (vT r)):=⟨fun hm=>by
 refine cu Tryz.func110 Tryz.ntmps110 fun cx hn=>?_
 unfold me at hm
 refine srs hn ?_
 simp -dsimp
 obtain⟨a,j4,hm⟩:=bnd hm
 refine scE [(4,vT a)] [] ?_ fun Z O hf=>?_
 ·replace hm:=j4
  clear j4
  exact zz
 ·clear j4
  exact zz⟩
def pW (cx:Cx) (_t:Tree) (_y1:Bl) (_y2:List Point) (tt:(Bool×(List Cell))) (ee:Exit) (Z:Env) (O:Sto):Prop:=match tt with
 | (out,l)=>ee=.exit 0/\EE cx (bH [(9,vO 5000),(10,vT out)] [(5000,.row 3 53 (List.map Cell.row l))]) Z O
instance l_R20_Step_1 (t y1 y2) {fu stt tt}:LtP (ba (gM t y1 y2) fu stt=some tt) (lp 69 stt (fun | (out,i,_l)=>[(2,vX 2),(7,vX 7),(8,.u (.one (dR2 y2))),(9,vO 5000),(10,vT out),(11,vI i)]) (fun | (_out,_i,l)=>[(2,.box [dI t.States,dR2 t.Hood,dR1 t.Nodes]),(7,.box [.d (.bool y1.flat),dI y1.box.X,dI y1.box.Y,dI y1.box.W,dI y1.box.H,dL y1.cells,dR0 y1.list]),(5000,.row 3 53 (List.map Cell.row l))]) (cC [1,1,1,1,1,1,0,1,0,0] (bD Tryz.f90)) fun cx=>pW cx t y1 y2 tt):=⟨fun hh cx hn Z O hE=>by
 refine bN hE hh (pW cx t y1 y2) ?_
 rintro⟨out,i,l⟩ r hm Z O hf
 simp only[Fits,bB,bA,and_true] at hf
 unfold gM at hm
 dsimp only at hm
 refine aZ ?_
 refine srs hn ?_
 simp -dsimp [hf]
 rcases bz hm with ⟨c5,hm⟩ | ⟨c5,hm⟩
 ·refine b9 (by simp -dsimp) c5 ?_
  refine b0 (aY ?_)
  obtain⟨⟨aC,l1⟩,j12,hm⟩:=bnd hm
  refine scE [(2,vX 2),(7,vX 7),(8,.u (.one (dR2 y2))),(9,vO 5000),(10,vT aC),(11,vI i)] [(2,.box [dI t.States,dR2 t.Hood,dR1 t.Nodes]),(7,.box [.d (.bool y1.flat),dI y1.box.X,dI y1.box.Y,dI y1.box.W,dI y1.box.H,dL y1.cells,dR0 y1.list]),(5000,.row 3 53 (List.map Cell.row l1))] ?_ fun Z O hf=>?_
  ·replace hm:=j12
   clear j12
   refine b7 ?_
   refine srs hn ?_
   obtain⟨x,h6,hm⟩:=bnd hm
   simp -dsimp [hf,c5,h6]
   refine srs hn ?_
   obtain⟨y3,h7,hm⟩:=bnd hm
   simp -dsimp [hf]
   refine bi (CtP.pf h7) (dkL hn) ?_
   simp -dsimp
   refine srs hn ?_
   simp -dsimp
   rcases bz hm with ⟨c8,hm⟩ | ⟨c8,hm⟩
   ·refine b9 (by simp -dsimp) c8 ?_
    refine srs hn ?_
    obtain⟨l1,h9,hm⟩:=bnd hm
    obtain⟨h9a,h9e⟩:=bQ h9
    replace h9e:=h9e.symm
    subst h9e
    try simp only[List.length_cons,List.length_nil,Nat.zero_add] at h9a
    simp -dsimp [hf,c8,h9a]
    refine sr1 hn ?_
    rcases bz hm with ⟨c10,hm⟩ | ⟨c10,hm⟩
    ·simp -dsimp [hf,c10]
     refine cr ?_
     refine aY ?_
     cases hm
     refine emv 51 5000 ?_
     exact zz
    ·obtain⟨y4,h11,hm⟩:=bnd hm
     simp -dsimp [hf,c10]
     refine bi (CtP.pf h11) (dkL hn) ?_
     simp -dsimp
     refine cr ?_
     refine aY ?_
     cases hm
     refine emv 51 5000 ?_
     exact zz
   ·exact zz
  ·clear j12
   exact zz
 ·exact zz⟩
instance c_R20_Step (t p r):CtP (jA t p=some r) (bc Tryz.prog 90 [.u (.agg [dI t.States,dR2 t.Hood,dR1 t.Nodes]),.u (.one (dR0 p))] (.tup [.one (dR0 r.1),.one (dI r.2)])):=⟨fun hm=>by
 refine cu Tryz.func90 Tryz.ntmps90 fun cx hn=>?_
 unfold jA at hm
 refine srs hn ?_
 simp -dsimp
 refine aZ ?_
 refine srs hn ?_
 obtain⟨y,h1,hm⟩:=bnd hm
 simp -dsimp
 refine bi (CtP.pf h1) (dkL hn) ?_
 simp -dsimp
 refine srs hn ?_
 simp -dsimp
 rcases bz hm with ⟨c2,hm⟩ | ⟨c2,hm⟩
 ·exact zz
 ·refine bf (by simp -dsimp) c2 ?_
  refine b0 (aY ?_)
  refine srs hn ?_
  obtain⟨y1,h3,hm⟩:=bnd hm
  simp -dsimp [c2]
  refine bi (CtP.pf h3) (dkL hn) ?_
  simp -dsimp
  refine srs hn ?_
  obtain⟨y2,h4,hm⟩:=bnd hm
  simp -dsimp
  refine bi (CtP.pf h4) (dkL hn) ?_
  simp -dsimp
  refine srs hn ?_
  simp -dsimp
  refine srs hn ?_
  simp -dsimp
  refine aZ ?_
  refine srs hn ?_
  simp -dsimp
  refine b7 ?_
  obtain⟨⟨out,l⟩,g13,hm⟩:=bnd hm
  refine bG (LtP.pf g13 cx hn) (by
    try dsimp only
    refine EE.step (Wk.own0 9 5000 3 53 (by simp -dsimp) (by decide)) ?_
    exact zz
  ) fun ee Z O xx=>?_
  unfold pW at xx
  dsimp only at xx
  obtain⟨rfl,xx⟩:=xx
  refine bK ?_
  refine aY ?_
  refine see xx fun Z O hf=>?_
  simp only[Fits,bB,bA,and_true] at hf
  refine aZ ?_
  refine srs hn ?_
  simp -dsimp [hf]
  rcases bz hm with ⟨c14,hm⟩ | ⟨c14,hm⟩
  ·exact zz
  ·refine bf (by simp -dsimp) c14 ?_
   refine b0 (aY (aZ ?_))
   refine srs hn ?_
   simp -dsimp [hf,c14]
   rcases bz hm with ⟨c15,hm⟩ | ⟨c15,hm⟩
   ·exact zz
   ·refine bf (by simp -dsimp) c15 ?_
    refine b0 (aY ?_)
    refine Swp.pre (Wk.frz 5000 3 53 (List.map Cell.row l) (by simp -dsimp [hf])) ?_
    exact zz⟩
end Go.Proofs.YtjlckgeecihpbaaGreatDoor
namespace Go.Proofs.YtjlckgeecihpbaaGreatDoor
open Go.AM Go.Proofs
set_option maxRecDepth 100000
attribute [-simp] ey eY i7 Ob.wipe Ob.ren Ob.frz1
def F_R20_History_1 (cx:Cx) (_t:Tree) (_n:Int) (tt:((List (List Cell))×Int) ⊕ (List (List Cell))) (ee:Exit) (Z:Env) (O:Sto):Prop:=match tt with
 | .inl r=>ee=.ret/\EE cx (fun Z O=>∃ v,fC tb Z O Tryz.f64.results.toList=some v/\(v.frz O).free=true/\(v.frz O).wk (.tup [.one (.d (.sl 1 (List.map (rS 3 Cell.row) r.1))),.one (dI r.2)])) Z O
 | .inr out=>ee=.exit 0/\EE cx (bH [(9,vO 5000)] [(5000,.row 1 30 (List.map (rS 3 Cell.row) out))]) Z O
instance l_R20_History_1 (t n) {fu stt tt}:LtP (ba (gK t n) fu stt=some tt) (lp 49 stt (fun | (i,_out)=>[(2,vI n),(3,vX 3),(9,vO 5000),(10,vI i)]) (fun | (_i,out)=>[(3,.box [dI t.States,dR2 t.Hood,dR1 t.Nodes]),(5000,.row 1 30 (List.map (rS 3 Cell.row) out))]) (cC [1,1,1,1,0,1,0,0] (bD Tryz.f64)) fun cx=>F_R20_History_1 cx t n tt):=⟨fun hh cx hn Z O hE=>by
 refine bN hE hh (F_R20_History_1 cx t n) ?_
 rintro⟨i,out⟩ r hm Z O hf
 simp only[Fits,bB,bA,and_true] at hf
 unfold gK at hm
 dsimp only at hm
 refine aZ ?_
 refine srs hn ?_
 simp -dsimp [hf]
 rcases bz hm with ⟨c5,hm⟩ | ⟨c5,hm⟩
 ·refine b9 (by simp -dsimp) c5 ?_
  refine b0 (aY (aZ (b7 ?_)))
  refine iM bO mixed (by rw[hn]; kernel_rfl) ?_
  obtain⟨x,h6,hm⟩:=bnd hm
  obtain⟨y1,h7,hm⟩:=bnd hm
  simp -dsimp [hf,c5,h6,da h6]
  refine br (CtP.pf h7) ?_
  simp -dsimp
  refine aZ ?_
  refine srs hn ?_
  simp -dsimp
  rcases bz hm with ⟨c8,hm⟩ | ⟨c8,hm⟩
  ·exact zz
  ·refine bf (by simp -dsimp) c8 ?_
   refine b0 (aY ?_)
   refine sr1 hn ?_
   obtain⟨l,h9,hm⟩:=bnd hm
   obtain⟨h9a,h9e⟩:=bQ h9
   replace h9e:=h9e.symm
   subst h9e
   try simp only[List.length_cons,List.length_nil,Nat.zero_add] at h9a
   simp -dsimp [hf,c8,h9a]
   refine cr ?_
   refine aY ?_
   refine sr1 hn ?_
   simp -dsimp [hf]
   cases hm
   refine d8 ?_
   refine emv 47 5000 ?_
   exact zz
 ·exact zz⟩
instance c_R20_History (t p n r):CtP (mc t p n=some r) (bc Tryz.prog 64 [.u (.agg [dI t.States,dR2 t.Hood,dR1 t.Nodes]),.u (.one (dR0 p)),vI n] (.tup [.one (.d (.sl 1 (List.map (rS 3 Cell.row) r.1))),.one (dI r.2)])):=⟨fun hm=>by
 refine cu Tryz.func64 Tryz.ntmps64 fun cx hn=>?_
 unfold mc at hm
 refine srs hn ?_
 simp -dsimp
 refine aZ ?_
 refine srs hn ?_
 obtain⟨y,h1,hm⟩:=bnd hm
 simp -dsimp
 refine bi (CtP.pf h1) (dkL hn) ?_
 simp -dsimp
 refine srs hn ?_
 simp -dsimp
 rcases bz hm with ⟨c2,hm⟩ | ⟨c2,hm⟩
 ·exact zz
 ·refine bf (by simp -dsimp) c2 ?_
  refine b0 (aY (aZ ?_))
  obtain⟨a,j11,hm⟩:=bnd hm
  refine scE [(1,.u (.one (dR0 p))),(2,vI n),(3,vX 3),(24,vT a)] [(3,.box [dI t.States,dR2 t.Hood,dR1 t.Nodes])] ?_ fun Z O hf=>?_
  ·replace hm:=j11
   clear j11
   exact zz
  ·clear j11
   simp only[Fits,bB,bA,and_true] at hf
   rcases bz hm with ⟨c4,hm⟩ | ⟨c4,hm⟩
   ·exact zz
   ·refine bf (by simp -dsimp [hf]) c4 ?_
    refine b0 (aY ?_)
    refine sw_regBs bO 1 (by rw[hn]; kernel_rfl) ?_
    dsimp only [List.take,List.drop]
    simp -dsimp [hf]
    refine aZ ?_
    refine srs hn ?_
    simp -dsimp
    refine b7 ?_
    obtain⟨o_,g10,hm⟩:=bnd hm
    refine bG (LtP.pf g10 cx hn) (by
      try dsimp only
      refine emv 26 5000 ?_
      exact zz
    ) fun ee Z O xx=>?_
    rcases o_ with r | out
    ·exact zz
    ·exact zz⟩
instance c_R20_Run (t p n r):CtP (pg t p n=some r) (bc Tryz.prog 34 [.u (.agg [dI t.States,dR2 t.Hood,dR1 t.Nodes]),.u (.one (dR0 p)),vI n] (.tup [.one (dR0 r.1),.one (dI r.2)])):=⟨fun hm=>by
 refine cu Tryz.func34 Tryz.ntmps34 fun cx hn=>?_
 unfold pg at hm
 exact zz⟩
def F_R05_Shift_1 (cx:Cx) (_p:List Cell) (_dx _dy:Int) (tt:((List Cell)×Int) ⊕ (List Cell)) (ee:Exit) (Z:Env) (O:Sto):Prop:=match tt with
 | .inl r=>ee=.ret/\EE cx (fun Z O=>∃ v,fC tb Z O Tryz.f35.results.toList=some v/\(v.frz O).free=true/\(v.frz O).wk (.tup [.one (dR0 r.1),.one (dI r.2)])) Z O
 | .inr out=>ee=.exit 0/\EE cx (bH [(8,vO 5000)] [(5000,.row 3 53 (List.map Cell.row out))]) Z O
instance l_R05_Shift_1 (p dx dy) {fu stt tt}:LtP (ba (jc p dx dy) fu stt=some tt) (lp 73 stt (fun | (i,_out)=>[(0,.u (.one (dR0 p))),(1,vI dx),(2,vI dy),(8,vO 5000),(9,vI i)]) (fun | (_i,out)=>[(5000,.row 3 53 (List.map Cell.row out))]) (cC [1,1,1,1,0,1,0,0] (bD Tryz.f35)) fun cx=>F_R05_Shift_1 cx p dx dy tt):=⟨fun hh cx hn Z O hE=>by
 refine bN hE hh (F_R05_Shift_1 cx p dx dy) ?_
 rintro⟨i,out⟩ r hm Z O hf
 simp only[Fits,bB,bA,and_true] at hf
 unfold jc at hm
 dsimp only at hm
 refine aZ ?_
 refine srs hn ?_
 simp -dsimp [hf]
 rcases bz hm with ⟨c7,hm⟩ | ⟨c7,hm⟩
 ·refine b9 (by simp -dsimp) c7 ?_
  refine b0 (aY (aZ (b7 (aZ ?_))))
  refine iM bO mixed (by rw[hn]; kernel_rfl) ?_
  obtain⟨x,h8,hm⟩:=bnd hm
  obtain⟨y1,h9,hm⟩:=bnd hm
  simp -dsimp [hf,c7,h8]
  refine br (CtP.pf h9) ?_
  simp -dsimp
  rcases bz hm with ⟨c10,hm⟩ | ⟨c10,hm⟩
  ·exact zz
  ·refine bf (by simp -dsimp) c10 ?_
   refine b0 (aY ?_)
   refine nR bO mixed 22 (by rw[hn]; kernel_rfl) ?_
   dsimp only [List.take,List.drop]
   obtain⟨l,h11,hm⟩:=bnd hm
   obtain⟨h11a,h11e⟩:=bQ h11
   replace h11e:=h11e.symm
   subst h11e
   try simp only[List.length_cons,List.length_nil,Nat.zero_add] at h11a
   simp -dsimp [hf,h8,c10,h11a]
   refine cr ?_
   refine aY ?_
   refine sr1 hn ?_
   simp -dsimp [hf]
   cases hm
   refine d8 ?_
   refine emv 71 5000 ?_
   exact zz
 ·exact zz⟩
instance c_R05_Shift (p dx dy r):CtP (mg p dx dy=some r) (bc Tryz.prog 35 [.u (.one (dR0 p)),vI dx,vI dy] (.tup [.one (dR0 r.1),.one (dI r.2)])):=⟨fun hm=>by
 refine cu Tryz.func35 Tryz.ntmps35 fun cx hn=>?_
 unfold mg at hm
 refine srs hn ?_
 simp -dsimp
 refine aZ ?_
 refine srs hn ?_
 obtain⟨y,h1,hm⟩:=bnd hm
 simp -dsimp
 refine bi (CtP.pf h1) (dkL hn) ?_
 simp -dsimp
 rcases bz hm with ⟨c2,hm⟩ | ⟨c2,hm⟩
 ·exact zz
 ·refine bf (by simp -dsimp) c2 ?_
  refine b0 (aY (aZ ?_))
  obtain⟨a,j13,hm⟩:=bnd hm
  refine scE [(0,.u (.one (dR0 p))),(1,vI dx),(2,vI dy),(26,vT a)] [] ?_ fun Z O hf=>?_
  ·replace hm:=j13
   clear j13
   exact zz
  ·clear j13
   simp only[Fits,bB,bA,and_true] at hf
   rcases bz hm with ⟨c6,hm⟩ | ⟨c6,hm⟩
   ·exact zz
   ·refine bf (by simp -dsimp [hf]) c6 ?_
    refine b0 (aY ?_)
    refine srs hn ?_
    simp -dsimp
    refine aZ ?_
    refine srs hn ?_
    simp -dsimp
    refine b7 ?_
    obtain⟨o_,g12,hm⟩:=bnd hm
    refine bG (LtP.pf g12 cx hn) (by
      try dsimp only
      refine EE.step (Wk.own0 8 5000 3 53 (by simp -dsimp) (by decide)) ?_
      exact zz
    ) fun ee Z O xx=>?_
    rcases o_ with r | out
    ·exact zz
    ·exact zz⟩
def nw (cx:Cx) (t:Tree) (x:Bg) (p:List Cell) (tt:(Bool×Int) ⊕ Unit) (ee:Exit) (Z:Env) (O:Sto):Prop:=match tt with
 | .inl r=>ee=.ret/\EE cx (fun Z O=>∃ v,fC tb Z O Tryz.f8.results.toList=some v/\(v.frz O).free=true/\(v.frz O).wk (.tup [.one (.d (.bool r.1)),.one (dI r.2)])) Z O
 | .inr _u=>ee=.exit 0/\EE cx (bH [(2,.u (.one (dR0 p))),(3,vX 3),(4,vX 4)] [(3,.box [dI t.States,dR2 t.Hood,dR1 t.Nodes]),(4,.box [dI x.W,dI x.H,dI x.Gens,dI x.DX,dI x.DY,dL x.Syms])]) Z O
instance l_R44_Solves_1 (t x p) {fu stt tt}:LtP (ba (gk t x p) fu stt=some tt) (lp 106 stt (fun i=>[(2,.u (.one (dR0 p))),(3,vX 3),(4,vX 4),(10,vI i)]) (fun _i=>[(3,.box [dI t.States,dR2 t.Hood,dR1 t.Nodes]),(4,.box [dI x.W,dI x.H,dI x.Gens,dI x.DX,dI x.DY,dL x.Syms])]) (cC [1,1,1,0,1,0,0] (bD Tryz.f8)) fun cx=>nw cx t x p tt):=⟨fun hh cx hn Z O hE=>by
 refine bN hE hh (nw cx t x p) ?_
 rintro i r hm Z O hf
 simp only[Fits,bB,bA,and_true] at hf
 unfold gk at hm
 dsimp only at hm
 refine aZ ?_
 refine srs hn ?_
 simp -dsimp [hf]
 rcases bz hm with ⟨c5,hm⟩ | ⟨c5,hm⟩
 ·refine b9 (by simp -dsimp) c5 ?_
  refine b0 (aY (aZ (b7 ?_)))
  obtain⟨a,j11,hm⟩:=bnd hm
  refine scE [(2,.u (.one (dR0 p))),(3,vX 3),(4,vX 4),(10,vI i),(67,vT a)] [(3,.box [dI t.States,dR2 t.Hood,dR1 t.Nodes]),(4,.box [dI x.W,dI x.H,dI x.Gens,dI x.DX,dI x.DY,dL x.Syms])] ?_ fun Z O hf=>?_
  ·replace hm:=j11
   clear j11
   exact zz
  ·clear j11
   exact zz
 ·exact zz⟩
def F_R44_Solves_2 (cx:Cx) (t:Tree) (x:Bg) (p:List Cell) (tt:(Bool×Int) ⊕ Unit) (ee:Exit) (Z:Env) (O:Sto):Prop:=match tt with
 | .inl r=>ee=.ret/\EE cx (fun Z O=>∃ v,fC tb Z O Tryz.f8.results.toList=some v/\(v.frz O).free=true/\(v.frz O).wk (.tup [.one (.d (.bool r.1)),.one (dI r.2)])) Z O
 | .inr _u=>ee=.exit 2/\EE cx (bH [(2,.u (.one (dR0 p))),(3,vX 3),(4,vX 4)] [(3,.box [dI t.States,dR2 t.Hood,dR1 t.Nodes]),(4,.box [dI x.W,dI x.H,dI x.Gens,dI x.DX,dI x.DY,dL x.Syms])]) Z O
instance l_R44_Solves_2 (t x p) {fu stt tt}:LtP (ba (ga t x p) fu stt=some tt) (lp 106 stt (fun i=>[(2,.u (.one (dR0 p))),(3,vX 3),(4,vX 4),(11,vI i)]) (fun _i=>[(3,.box [dI t.States,dR2 t.Hood,dR1 t.Nodes]),(4,.box [dI x.W,dI x.H,dI x.Gens,dI x.DX,dI x.DY,dL x.Syms])]) (cC [1,1,1,1,0,1,0,0] (bD Tryz.f8)) fun cx=>F_R44_Solves_2 cx t x p tt):=⟨fun hh cx hn Z O hE=>by
 refine bN hE hh (F_R44_Solves_2 cx t x p) ?_
 rintro i r hm Z O hf
 simp only[Fits,bB,bA,and_true] at hf
 unfold ga at hm
 exact zz⟩
instance c_R44_Solves (t x p r):CtP (lC t x p=some r) (bc Tryz.prog 8 [.u (.agg [dI t.States,dR2 t.Hood,dR1 t.Nodes]),.u (.agg [dI x.W,dI x.H,dI x.Gens,dI x.DX,dI x.DY,dL x.Syms]),.u (.one (dR0 p))] (.tup [.one (.d (.bool r.1)),.one (dI r.2)])):=⟨fun hm=>by
 refine cu Tryz.func8 Tryz.ntmps8 fun cx hn=>?_
 unfold lC at hm
 refine srs hn ?_
 simp -dsimp
 refine aZ ?_
 refine srs hn ?_
 obtain⟨y,h1,hm⟩:=bnd hm
 simp -dsimp
 refine bi (CtP.pf h1) (dkL hn) ?_
 simp -dsimp
 refine srs hn ?_
 simp -dsimp
 rcases bz hm with ⟨c2,hm⟩ | ⟨c2,hm⟩
 ·exact zz
 ·refine bf (by simp -dsimp) c2 ?_
  refine b0 (aY (aZ ?_))
  refine srs hn ?_
  obtain⟨y1,h3,hm⟩:=bnd hm
  simp -dsimp [c2]
  refine bi (CtP.pf h3) (dkL hn) ?_
  simp -dsimp
  refine srs hn ?_
  simp -dsimp
  rcases bz hm with ⟨c4,hm⟩ | ⟨c4,hm⟩
  ·exact zz
  ·refine bf (by simp -dsimp) c4 ?_
   refine b0 (aY (aZ ?_))
   refine srs hn ?_
   simp -dsimp [c4]
   refine b7 ?_
   obtain⟨o_,g12,hm⟩:=bnd hm
   refine bG (LtP.pf g12 cx hn) (by
     try dsimp only
     exact EE.here (by simp -dsimp)
   ) fun ee Z O xx=>?_
   rcases o_ with r | _u
   ·exact zz
   ·unfold nw at xx
    dsimp only at xx
    obtain⟨rfl,xx⟩:=xx
    refine bK ?_
    refine aY ?_
    refine see xx fun Z O hf=>?_
    simp only[Fits,bB,bA,and_true] at hf
    refine aZ ?_
    refine srs hn ?_
    simp -dsimp
    refine b7 ?_
    obtain⟨o_1,g18,hm⟩:=bnd hm
    refine bG (LtP.pf g18 cx hn) (by
      try dsimp only
      refine EE.here ?_
      exact zz
    ) fun ee Z O xx=>?_
    rcases o_1 with r | _u
    ·exact zz
    ·exact zz⟩
def oq (cx:Cx) (f:Bh) (which:List Int) (values:List Bool) (a:Int) (_x1:List Int) (tt:Bool) (ee:Exit) (Z:Env) (O:Sto):Prop:=match tt with
 | ok=>ee=.exit 2/\EE cx (bH [(2,.u (.one (.d (.sl 1 (List.map rB values))))),(3,vX 3),(9,vT ok),(12,.u (.one (dL which))),(13,vI (b8 which)),(14,vI a)] [(3,.box [dI f.Vars,.d (.sl 1 (List.map (rS 1 (rI .i64)) f.Clauses))])]) Z O
instance l_L45_satisfied_2 (f which values a x1) {fu stt tt}:LtP (ba (ez f which values a x1) fu stt=some tt) (lp 46 stt (fun | (ok,a1)=>[(2,.u (.one (.d (.sl 1 (List.map rB values))))),(3,vX 3),(9,vT ok),(12,.u (.one (dL which))),(13,vI (b8 which)),(14,vI a),(22,.u (.one (dL x1))),(23,vI (b8 x1)),(24,vI a1)]) (fun | (_ok,_a1)=>[(3,.box [dI f.Vars,.d (.sl 1 (List.map (rS 1 (rI .i64)) f.Clauses))])]) (cC [1,0,1,0,0,1,1,0,0,1,1,0,1,0,0] (bD Tryz.f36)) fun cx=>oq cx f which values a x1 tt):=⟨fun hh cx hn Z O hE=>by
 refine bN hE hh (oq cx f which values a x1) ?_
 rintro⟨ok,a1⟩ r hm Z O hf
 simp only[Fits,bB,bA,and_true] at hf
 unfold ez at hm
 exact zz⟩
def oF (cx:Cx) (_f:Bh) (_which:List Int) (_values:List Bool) (tt:Bool ⊕ Unit) (ee:Exit) (Z:Env) (O:Sto):Prop:=match tt with
 | .inl r=>ee=.ret/\EE cx (fun Z O=>∃ v,fC tb Z O Tryz.f36.results.toList=some v/\(v.frz O).free=true/\(v.frz O).wk (vT r)) Z O
 | .inr _u=>ee=.exit 0/\EE cx (bH [] []) Z O
instance l_L45_satisfied_1 (f which values) {fu stt tt}:LtP (ba (eE f which values) fu stt=some tt) (lp 46 stt (fun a=>[(2,.u (.one (.d (.sl 1 (List.map rB values))))),(3,vX 3),(12,.u (.one (dL which))),(13,vI (b8 which)),(14,vI a)]) (fun _a=>[(3,.box [dI f.Vars,.d (.sl 1 (List.map (rS 1 (rI .i64)) f.Clauses))])]) (cC [1,0,1,0,0] (bD Tryz.f36)) fun cx=>oF cx f which values tt):=⟨fun hh cx hn Z O hE=>by
 refine bN hE hh (oF cx f which values) ?_
 rintro a r hm Z O hf
 simp only[Fits,bB,bA,and_true] at hf
 unfold eE at hm
 exact zz⟩
instance c_L45_satisfied (f which values r):CtP (eJ f which values=some r) (bc Tryz.prog 36 [.u (.agg [dI f.Vars,.d (.sl 1 (List.map (rS 1 (rI .i64)) f.Clauses))]),.u (.one (dL which)),.u (.one (.d (.sl 1 (List.map rB values))))] (vT r)):=⟨fun hm=>by
 refine cu Tryz.func36 Tryz.ntmps36 fun cx hn=>?_
 unfold eJ at hm
 refine srs hn ?_
 simp -dsimp
 refine aZ ?_
 refine srs hn ?_
 simp -dsimp
 refine b7 ?_
 obtain⟨o_,g10,hm⟩:=bnd hm
 refine bG (LtP.pf g10 cx hn) (by
   try dsimp only
   exact eeh
 ) fun ee Z O xx=>?_
 rcases o_ with r | _u
 ·exact zz
 ·exact zz⟩
end Go.Proofs.YtjlckgeecihpbaaGreatDoor
