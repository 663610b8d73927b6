/- That the code does what the functions say (made by cc.py). -/
import Derived.Test.YtffohfmfehjbmaaGreatDoorWa10
namespace Go.Proofs.YtffohfmfehjbmaaGreatDoor
open Go.AM Go.Proofs
set_option maxRecDepth 100000
attribute [-simp] qlookup bF cq Ob.wipe Ob.ren Ob.frz1
section
attribute [-simp] List.map_set List.set_set
def ei (cx:Cx) (_k:Int) (y1:Int×(List Node)×(List Point)) (tt:(List Point)) (ee:Exit) (Z:Env) (O:Sto):Prop:=match tt with
 | l=>ee=.exit 0/\EE cx (aY [(4,vX 4),(6,vX 6)] [(4,.box [dI 0,.d .nil,.d .nil]),(6,.box [dI y1.1,.own 5000,dR1 y1.2.1]),(5000,.row 2 65 (List.map Point.row l))]) Z O
theorem l_reduce_Turn_1 (cx:Cx) (hn:cx.n=83) (k:Int) (y1:Int×(List Node)×(List Point)) {fu:Nat} {stt:Int×(List Point)} {tt:(List Point)} (hh:aK (b_reduce_Turn_1 k y1) fu stt=some tt) {Z:Env} {O:Sto}
  (hE:b9 (fun stt:Int×(List Point)=>match stt with | (a,_l)=>[(0,vI k),(4,vX 4),(6,vX 6),(18,vO 5000),(19,vI (aB y1.2.2)),(20,vI a)]) (fun stt:Int×(List Point)=>match stt with | (_a,l)=>[(4,.box [dI 0,.d .nil,.d .nil]),(6,.box [dI y1.1,.own 5000,dR1 y1.2.1]),(5000,.row 2 65 (List.map Point.row l))]) stt Z O):Swp Tryz.prog cx (.loop (bq [1,1,1,0,1,0,0] (aU Tryz.f20))) Z O (ei cx k y1 tt):=by
 refine bc hE hh (ei cx k y1) ?_
 rintro⟨a,l⟩ r hm Z O hf
 simp only[Fits,aR,aQ,and_true] at hf
 unfold b_reduce_Turn_1 at hm
 dsimp only at hm
 refine srs hn ?_
 simp -dsimp [hf]
 refine aD ?_
 rcases aM hm with ⟨c4,hm⟩ | ⟨c4,hm⟩
 ·refine aI (by simp -dsimp) c4 ?_
  refine aF (aC (aD (aH ?_)))
  refine srs hn ?_
  obtain⟨x,h5,hm⟩:=bnd hm
  simp -dsimp [hf,c4,h5,aZ h5]
  refine sw_drN aP mixed 6 (by rw[hn]; kernel_rfl) ?_
  dsimp only [List.take,List.drop]
  obtain⟨y2,h6,hm⟩:=bnd hm
  simp -dsimp [hf]
  refine aJ (dO k x y2 h6) ?_
  simp -dsimp [hf,h5,aZ h5,Point.rset l a.toNat y2.X y2.Y]
  exact zz
 ·exact zz
def F_reduce_Turn_3 (cx:Cx) (y1:Int×(List Node)×(List Point)) (tt:(Bool×(List Node)×(List Point))) (ee:Exit) (Z:Env) (O:Sto):Prop:=match tt with
 | (aw,au,l2)=>ee=.exit 4/\EE cx (aY [(4,vX 4),(6,vX 6),(9,vT aw)] [(4,.box [dI 0,.d .nil,.d .nil]),(6,.box [dI y1.1,.own 5000,dR1 au]),(5000,.row 2 65 (List.map Point.row l2))]) Z O
theorem l_reduce_Turn_3 (cx:Cx) (hn:cx.n=83) (y1:Int×(List Node)×(List Point)) {fu:Nat} {stt:Bool×Int×(List Node)×(List Point)} {tt:(Bool×(List Node)×(List Point))} (hh:aK (b_reduce_Turn_3 y1) fu stt=some tt) {Z:Env} {O:Sto}
  (hE:b9 (fun stt:Bool×Int×(List Node)×(List Point)=>match stt with | (aw,i,_au,_l2)=>[(4,vX 4),(6,vX 6),(9,vT aw),(10,vI i)]) (fun stt:Bool×Int×(List Node)×(List Point)=>match stt with | (_aw,_i,au,l2)=>[(4,.box [dI 0,.d .nil,.d .nil]),(6,.box [dI y1.1,.own 5000,dR1 au]),(5000,.row 2 65 (List.map Point.row l2))]) stt Z O):Swp Tryz.prog cx (.loop (bq [1,1,1,1,0,1,0,0,1,0,1,1,0,0] (aU Tryz.f20))) Z O (F_reduce_Turn_3 cx y1 tt):=by
 refine bc hE hh (F_reduce_Turn_3 cx y1) ?_
 rintro⟨aw,i,au,l2⟩ r hm Z O hf
 simp only[Fits,aR,aQ,and_true] at hf
 unfold b_reduce_Turn_3 at hm
 dsimp only at hm
 refine aD ?_
 refine srs hn ?_
 simp -dsimp [hf]
 rcases aM hm with ⟨c9,hm⟩ | ⟨c9,hm⟩
 ·refine aI (by simp -dsimp) c9 ?_
  refine aF (aC ?_)
  obtain⟨⟨sorted2,uNodes2,l3⟩,j16,hm⟩:=bnd hm
  refine scE [(4,vX 4),(6,vX 6),(9,vT sorted2),(10,vI i)] [(4,.box [dI 0,.d .nil,.d .nil]),(6,.box [dI y1.1,.own 5000,dR1 uNodes2]),(5000,.row 2 65 (List.map Point.row l3))] ?_ fun Z O hf=>?_
  ·replace hm:=j16
   clear j16
   refine aH ?_
   refine bG aP mixed (by rw[hn]; kernel_rfl) ?_
   obtain⟨x,h10,hm⟩:=bnd hm
   obtain⟨x1,h11,hm⟩:=bnd hm
   obtain⟨y2,h12,hm⟩:=bnd hm
   simp -dsimp [hf,c9,h10,aZ h10,h11,aZ h11]
   refine aJ (ec x x1 y2 h12) ?_
   simp -dsimp
   rcases aM hm with ⟨c13,hm⟩ | ⟨c13,hm⟩
   ·refine aI (by simp -dsimp) c13 ?_
    refine srs hn ?_
    obtain⟨y3,h14,hm⟩:=bnd hm
    simp -dsimp [hf,c13]
    refine clg (g_reduce_swapped_o_w y1.1 l2 au (aL .i64 i 1) y3 h14) [5000] [] (by simp -dsimp [hf]) (dkL hn) ?_
    simp -dsimp [hf]
    refine fe aP mixed 19 20 20 0 [[4,5,6]] [[]] [] none (by rw[hn]; kernel_rfl) dc ?_
    dsimp only [List.take,List.drop,dz,dT,eX,pk,List.cons_append,List.nil_append,List.flatten_cons,List.flatten_nil,cz,cA,List.append_nil]
    obtain⟨x2,h15,hm⟩:=bnd hm
    simp -dsimp [hf,h10,aZ h10,h11,aZ h11,Point.rset l2 (aL .i64 i 1).toNat x1.X x1.Y,h15,aZ h15,Point.rset (l2.set (aL .i64 i 1).toNat x1) i.toNat x.X x.Y]
    refine sr1 hn ?_
    simp -dsimp
    refine bp ?_
    cases hm
    exact EE.here (by simp -dsimp [hf])
   ·exact zz
  ·clear j16
   exact zz
 ·exact zz
def eb (cx:Cx) (y1:Int×(List Node)×(List Point)) (tt:((List Node)×(List Point))) (ee:Exit) (Z:Env) (O:Sto):Prop:=match tt with
 | (az,l1)=>ee=.exit 2/\EE cx (aY [(4,vX 4),(6,vX 6)] [(4,.box [dI 0,.d .nil,.d .nil]),(6,.box [dI y1.1,.own 5000,dR1 az]),(5000,.row 2 65 (List.map Point.row l1))]) Z O
theorem l_reduce_Turn_2 (cx:Cx) (hn:cx.n=83) (y1:Int×(List Node)×(List Point)) {fu:Nat} {stt:Bool×(List Node)×(List Point)} {tt:((List Node)×(List Point))} (hh:aK (b_reduce_Turn_2 y1) fu stt=some tt) {Z:Env} {O:Sto}
  (hE:b9 (fun stt:Bool×(List Node)×(List Point)=>match stt with | (sorted,_az,_l1)=>[(4,vX 4),(6,vX 6),(9,vT sorted)]) (fun stt:Bool×(List Node)×(List Point)=>match stt with | (_sorted,az,l1)=>[(4,.box [dI 0,.d .nil,.d .nil]),(6,.box [dI y1.1,.own 5000,dR1 az]),(5000,.row 2 65 (List.map Point.row l1))]) stt Z O):Swp Tryz.prog cx (.loop (bq [1,1,1,1,0,1,0,0] (aU Tryz.f20))) Z O (eb cx y1 tt):=by
 refine bc hE hh (eb cx y1) ?_
 rintro⟨sorted,az,l1⟩ r hm Z O hf
 simp only[Fits,aR,aQ,and_true] at hf
 unfold b_reduce_Turn_2 at hm
 dsimp only at hm
 refine aD ?_
 refine srs hn ?_
 simp -dsimp [hf]
 rcases aM hm with ⟨c8,hm⟩ | ⟨c8,hm⟩
 ·refine aI (by simp -dsimp) c8 ?_
  refine aF (aC (aH ?_))
  refine srs hn ?_
  simp -dsimp [c8]
  refine srs hn ?_
  simp -dsimp
  refine aH ?_
  obtain⟨⟨aw,au,l2⟩,g17,hm⟩:=bnd hm
  refine aW (l_reduce_Turn_3 cx hn y1 g17) (by
    try dsimp only
    exact EE.here (by simp -dsimp [hf])
  ) fun ee Z O xx=>?_
  exact zz
 ·exact zz
theorem c_reduce_Turn (k:Int) (t:Tree) (r:Tree×Int) (hm:m_reduce_Turn k t=some r):PureCall Tryz.prog 20 [vI k,.u (.agg [dI t.States,dR2 t.Hood,dR1 t.Nodes])] (.tup [.agg [dI r.1.States,dR2 r.1.Hood,dR1 r.1.Nodes],.one (dI r.2)]):=by
 refine b8 Tryz.func20 Tryz.ntmps20 fun cx hn=>?_
 unfold m_reduce_Turn at hm
 refine srs hn ?_
 simp -dsimp
 refine aD ?_
 refine srs hn ?_
 obtain⟨y,h1,hm⟩:=bnd hm
 simp -dsimp
 refine aA (cC t y h1) (dkL hn) ?_
 simp -dsimp
 rcases aM hm with ⟨c2,hm⟩ | ⟨c2,hm⟩
 ·exact zz
 ·refine aG (by simp -dsimp) c2 ?_
  refine aF (aC ?_)
  refine srs hn ?_
  obtain⟨y1,h3,hm⟩:=bnd hm
  simp -dsimp [c2]
  refine clg (g_reduce_Reduce_w t y1 h3) [] [5000] (by simp -dsimp) (dkL hn) ?_
  simp -dsimp
  refine aD ?_
  refine srs hn ?_
  simp -dsimp
  refine aH ?_
  obtain⟨l,g7,hm⟩:=bnd hm
  refine aW (l_reduce_Turn_1 cx hn k y1 g7) (by
    try dsimp only
    exact EE.here (by simp -dsimp)
  ) fun ee Z O xx=>?_
  unfold ei at xx
  dsimp only at xx
  obtain⟨rfl,xx⟩:=xx
  refine bj ?_
  refine aC ?_
  refine see xx fun Z O hf=>?_
  simp only[Fits,aR,aQ,and_true] at hf
  refine aD ?_
  refine srs hn ?_
  simp -dsimp
  refine aH ?_
  obtain⟨⟨az,l1⟩,g18,hm⟩:=bnd hm
  refine aW (l_reduce_Turn_2 cx hn y1 g18) (by
    try dsimp only
    exact EE.here (by simp -dsimp [hf])
  ) fun ee Z O xx=>?_
  unfold eb at xx
  dsimp only at xx
  obtain⟨rfl,xx⟩:=xx
  refine bj ?_
  refine aC ?_
  refine see xx fun Z O hf=>?_
  simp only[Fits,aR,aQ,and_true] at hf
  refine Swp.pre (Wk.frz 5000 2 65 (List.map Point.row l1) (by simp -dsimp [hf])) ?_
  refine srs hn ?_
  obtain⟨y2,h19,hm⟩:=bnd hm
  simp -dsimp [hf]
  refine aA (c_reduce_sized (⟨y1.1,l1,az⟩:Tree) y2 h19) (dkL hn) ?_
  exact zz
end
section
attribute [-simp] List.map_set List.set_set
def bn (cx:Cx) (t:Tree) (a:Int) (mp:List (List UInt8×Int)) (l:List Node) (to_:List Int) (x:Node) (_y:List Int) (tt:(List Int)) (ee:Exit) (Z:Env) (O:Sto):Prop:=match tt with
 | next=>ee=.exit 2/\EE cx (aY [(1,.u (.one (.fn 119 []))),(2,vX 2),(4,vX 4),(5,vX 5),(6,vO 5002),(8,vX 8),(9,vO 23),(15,.u (.one (dR1 t.Nodes))),(16,vI (aB t.Nodes)),(17,vI a)] [(2,.box [dI t.States,dR2 t.Hood,dR1 t.Nodes]),(4,.box [dI 0,.d .nil,.d .nil]),(5,.box [.own 5000,.map 12]),(8,.box [dI x.Level,dL x.Next]),(12,mOb .str kS (uL (L.int .i64)) mp),(23,.row 1 3 (List.map (rI .i64) next)),(5000,.row 2 80 (List.map Node.row l)),(5002,.row 1 3 (List.map (rI .i64) to_))]) Z O
theorem cX (cx:Cx) (hn:cx.n=69) (t:Tree) (a:Int) (mp:List (List UInt8×Int)) (l:List Node) (to_:List Int) (x:Node) (y:List Int) {fu:Nat} {stt:Int×(List Int)} {tt:(List Int)} (hh:aK (b_reduce_rebuilt_reduce_Reduce_1_2 t a mp l to_ x y) fu stt=some tt) {Z:Env} {O:Sto}
  (hE:b9 (fun stt:Int×(List Int)=>match stt with | (a1,_next)=>[(1,.u (.one (.fn 119 []))),(2,vX 2),(4,vX 4),(5,vX 5),(6,vO 5002),(8,vX 8),(9,vO 23),(15,.u (.one (dR1 t.Nodes))),(16,vI (aB t.Nodes)),(17,vI a),(24,vO 23),(25,vI (aB y)),(26,vI a1)]) (fun stt:Int×(List Int)=>match stt with | (_a1,next)=>[(2,.box [dI t.States,dR2 t.Hood,dR1 t.Nodes]),(4,.box [dI 0,.d .nil,.d .nil]),(5,.box [.own 5000,.map 12]),(8,.box [dI x.Level,dL x.Next]),(12,mOb .str kS (uL (L.int .i64)) mp),(23,.row 1 3 (List.map (rI .i64) next)),(5000,.row 2 80 (List.map Node.row l)),(5002,.row 1 3 (List.map (rI .i64) to_))]) stt Z O):Swp Tryz.prog cx (.loop (bq [1,1,1,0,1,0,0,1,1,0,0,1,1,0,1,0,0] (aU Tryz.f118))) Z O (bn cx t a mp l to_ x y tt):=by
 refine bc hE hh (bn cx t a mp l to_ x y) ?_
 rintro⟨a1,next⟩ r hm Z O hf
 simp only[Fits,aR,aQ,and_true] at hf
 unfold b_reduce_rebuilt_reduce_Reduce_1_2 at hm
 dsimp only at hm
 refine srs hn ?_
 simp -dsimp [hf]
 refine aD ?_
 rcases aM hm with ⟨c4,hm⟩ | ⟨c4,hm⟩
 ·refine aI (by simp -dsimp) c4 ?_
  refine aF (aC ?_)
  obtain⟨next1,j8,hm⟩:=bnd hm
  refine scE [(1,.u (.one (.fn 119 []))),(2,vX 2),(4,vX 4),(5,vX 5),(6,vO 5002),(8,vX 8),(9,vO 23),(15,.u (.one (dR1 t.Nodes))),(16,vI (aB t.Nodes)),(17,vI a),(24,vO 23),(25,vI (aB y)),(26,vI a1)] [(2,.box [dI t.States,dR2 t.Hood,dR1 t.Nodes]),(4,.box [dI 0,.d .nil,.d .nil]),(5,.box [.own 5000,.map 12]),(8,.box [dI x.Level,dL x.Next]),(12,mOb .str kS (uL (L.int .i64)) mp),(23,.row 1 3 (List.map (rI .i64) next1)),(5000,.row 2 80 (List.map Node.row l)),(5002,.row 1 3 (List.map (rI .i64) to_))] ?_ fun Z O hf=>?_
  ·replace hm:=j8
   clear j8
   refine aH ?_
   refine srs hn ?_
   obtain⟨x1,h5,hm⟩:=bnd hm
   simp -dsimp [hf,c4,h5,aZ h5]
   refine srs hn ?_
   simp -dsimp [hf]
   rcases aM hm with ⟨c6,hm⟩ | ⟨c6,hm⟩
   ·refine aI (by simp -dsimp) c6 ?_
    refine sr1 hn ?_
    obtain⟨x2,h7,hm⟩:=bnd hm
    simp -dsimp [hf,h5,aZ h5,c6,h7,aZ h7,rsetI .i64 next a1.toNat x2]
    refine bp ?_
    cases hm
    exact EE.here (by simp -dsimp [hf])
   ·refine aG (by simp -dsimp) c6 ?_
    refine aF ?_
    refine bp ?_
    cases hm
    exact EE.here (by simp -dsimp [hf,c6])
  ·clear j8
   exact zz
 ·exact zz
def bm (cx:Cx) (t:Tree) (tt:((List (List UInt8×Int))×(List Node)×(List Int))) (ee:Exit) (Z:Env) (O:Sto):Prop:=match tt with
 | (mp,l,to_)=>ee=.exit 0/\EE cx (aY [(2,vX 2),(4,vX 4),(5,vX 5),(6,vO 5002)] [(2,.box [dI t.States,dR2 t.Hood,dR1 t.Nodes]),(4,.box [dI 0,.d .nil,.d .nil]),(5,.box [.own 5000,.map 12]),(12,mOb .str kS (uL (L.int .i64)) mp),(5000,.row 2 80 (List.map Node.row l)),(5002,.row 1 3 (List.map (rI .i64) to_))]) Z O
theorem d7 (cx:Cx) (hn:cx.n=69) (t:Tree) {fu:Nat} {stt:Int×(List (List UInt8×Int))×(List Node)×(List Int)} {tt:((List (List UInt8×Int))×(List Node)×(List Int))} (hh:aK (b_reduce_rebuilt_reduce_Reduce_1_1 t) fu stt=some tt) {Z:Env} {O:Sto}
  (hE:b9 (fun stt:Int×(List (List UInt8×Int))×(List Node)×(List Int)=>match stt with | (a,_mp,_l,_to_)=>[(1,.u (.one (.fn 119 []))),(2,vX 2),(4,vX 4),(5,vX 5),(6,vO 5002),(15,.u (.one (dR1 t.Nodes))),(16,vI (aB t.Nodes)),(17,vI a)]) (fun stt:Int×(List (List UInt8×Int))×(List Node)×(List Int)=>match stt with | (_a,mp,l,to_)=>[(2,.box [dI t.States,dR2 t.Hood,dR1 t.Nodes]),(4,.box [dI 0,.d .nil,.d .nil]),(5,.box [.own 5000,.map 12]),(12,mOb .str kS (uL (L.int .i64)) mp),(5000,.row 2 80 (List.map Node.row l)),(5002,.row 1 3 (List.map (rI .i64) to_))]) stt Z O):Swp Tryz.prog cx (.loop (bq [1,1,1,0,1,0,0] (aU Tryz.f118))) Z O (bm cx t tt):=by
 refine bc hE hh (bm cx t) ?_
 rintro⟨a,mp,l,to_⟩ r hm Z O hf
 simp only[Fits,aR,aQ,and_true] at hf
 unfold b_reduce_rebuilt_reduce_Reduce_1_1 at hm
 dsimp only at hm
 refine srs hn ?_
 simp -dsimp [hf]
 refine aD ?_
 rcases aM hm with ⟨c1,hm⟩ | ⟨c1,hm⟩
 ·refine aI (by simp -dsimp) c1 ?_
  refine aF (aC (aD (aH ?_)))
  refine srs hn ?_
  obtain⟨x,h2,hm⟩:=bnd hm
  simp -dsimp [hf,c1,h2]
  refine srs hn ?_
  obtain⟨y,h3,hm⟩:=bnd hm
  simp -dsimp
  refine callL_new (cd x.Next y h3) (dkL hn) (by decide) ?_
  simp -dsimp
  refine aD ?_
  refine srs hn ?_
  simp -dsimp
  refine aH ?_
  obtain⟨next,g9,hm⟩:=bnd hm
  refine aW (cX cx hn t a mp l to_ x y g9) (by
    try dsimp only
    exact EE.here (by simp -dsimp [hf])
  ) fun ee Z O xx=>?_
  unfold bn at xx
  dsimp only at xx
  obtain⟨rfl,xx⟩:=xx
  refine bj ?_
  refine aC ?_
  refine see xx fun Z O hf=>?_
  simp only[Fits,aR,aQ,and_true] at hf
  refine Swp.pre (Wk.frz 23 1 3 (List.map (rI .i64) next) (by simp -dsimp [hf])) ?_
  refine sw_midc aP mixed 8 9 10 0 [[0]] [[5001]] [true] none (by rw[hn]; kernel_rfl) dc ?_
  dsimp only [List.take,List.drop,dz,dT,eX,pk,List.cons_append,List.nil_append,List.flatten_cons,List.flatten_nil,cz,cA,List.append_nil]
  obtain⟨y1,h10,hm⟩:=bnd hm
  simp -dsimp [hf]
  refine aJ (eU x.Level next y1 h10) ?_
  obtain⟨y2,h11,hm⟩:=bnd hm
  simp -dsimp [hf]
  refine callE_g (d9 l mp x.Level y1 y2 h11) [5,5000,12] [5001] rfl rfl rfl (by simp -dsimp) rfl (by simp -dsimp [hf]) (by first | rfl | simp) rfl (dkL hn) rfl rfl (by simp) nofun (by simp) ?_
  obtain⟨l1,h12,hm⟩:=bnd hm
  obtain⟨h12a,h12e⟩:=aS h12
  replace h12e:=h12e.symm
  subst h12e
  try simp only[List.length_cons,List.length_nil,Nat.zero_add] at h12a
  simp -dsimp [hf,h12a]
  refine bp ?_
  refine aC ?_
  refine sr1 hn ?_
  simp -dsimp [hf]
  cases hm
  refine bO ?_
  refine emv 52 5002 ?_
  refine emv 5001 5000 ?_
  exact zz
 ·exact zz
theorem dm (t r:Tree) (hm:m_reduce_rebuilt_reduce_Reduce_1 t=some r):PureCall Tryz.prog 118 [.u (.agg [dI t.States,dR2 t.Hood,dR1 t.Nodes]),.u (.one (.fn 119 []))] (.u (.agg [dI r.States,dR2 r.Hood,dR1 r.Nodes])):=by
 refine b8 Tryz.func118 Tryz.ntmps118 fun cx hn=>?_
 unfold m_reduce_rebuilt_reduce_Reduce_1 at hm
 refine srs hn ?_
 simp -dsimp
 refine srs hn ?_
 simp -dsimp [(@id (Ob.map .str []=mOb .str kS (uL (L.int .i64)) ([]:List (List UInt8×Int))) (fq .str kS (uL (L.int .i64))))]
 refine srs hn ?_
 simp -dsimp
 refine aD ?_
 refine srs hn ?_
 simp -dsimp
 refine aH ?_
 obtain⟨⟨mp,l,to_⟩,g13,hm⟩:=bnd hm
 refine aW (d7 cx hn t g13) (by
   try dsimp only
   refine EE.step (Wk.own0 6 5002 1 3 (by simp -dsimp) (by decide)) ?_
   refine EE.step (Wk.own0b 5 0 5000 2 80 [.d .nil,.map 12] (by simp -dsimp) (by rfl) (by decide) (by decide)) ?_
   exact zz
 ) fun ee Z O xx=>?_
 unfold bm at xx
 dsimp only at xx
 obtain⟨rfl,xx⟩:=xx
 refine bj ?_
 refine aC ?_
 refine see xx fun Z O hf=>?_
 simp only[Fits,aR,aQ,and_true] at hf
 refine Swp.pre (Wk.frz 5000 2 80 (List.map Node.row l) (by simp -dsimp [hf])) ?_
 refine sw_drNs aP mixed 14 (by rw[hn]; kernel_rfl) ?_
 dsimp only [List.take,List.drop]
 obtain⟨y,h14,hm⟩:=bnd hm
 simp -dsimp [hf]
 refine aJ (bM t.Hood y h14) ?_
 obtain⟨x,h15,hm⟩:=bnd hm
 obtain⟨y1,h16,hm⟩:=bnd hm
 simp -dsimp [hf,h15,aZ h15]
 refine aJ (dD l x y1 h16) ?_
 exact zz
end
theorem c_reduce_Reduce (t r:Tree) (hm:m_reduce_Reduce t=some r):PureCall Tryz.prog 48 [.u (.agg [dI t.States,dR2 t.Hood,dR1 t.Nodes])] (.u (.agg [dI r.States,dR2 r.Hood,dR1 r.Nodes])):=by
 refine b8 Tryz.func48 Tryz.ntmps48 fun cx hn=>?_
 unfold m_reduce_Reduce at hm
 refine srs hn ?_
 simp -dsimp
 refine aD ?_
 refine srs hn ?_
 obtain⟨y,h1,hm⟩:=bnd hm
 simp -dsimp
 refine aA (cC t y h1) (dkL hn) ?_
 simp -dsimp
 rcases aM hm with ⟨c2,hm⟩ | ⟨c2,hm⟩
 ·exact zz
 ·refine aG (by simp -dsimp) c2 ?_
  refine aF (aC ?_)
  refine srs hn ?_
  obtain⟨y1,h3,hm⟩:=bnd hm
  simp -dsimp [c2]
  refine aA (dm t y1 h3) (dkL hn) ?_
  exact zz
def cR (cx:Cx) (_sv1 _sv2:List Int) (tt:Bool ⊕ Unit) (ee:Exit) (Z:Env) (O:Sto):Prop:=match tt with
 | .inl r=>ee=.ret/\EE cx (fun Z O=>∃ v,cp tb Z O Tryz.f127.results.toList=some v/\(v.frz O).free=true/\(v.frz O).wk (vT r)) Z O
 | .inr _u=>ee=.exit 0/\EE cx (aY [] []) Z O
theorem f7 (cx:Cx) (hn:cx.n=26) (sv1 sv2:List Int) {fu:Nat} {stt:Int} {tt:Bool ⊕ Unit} (hh:aK (b_slices_Equal_int_int_1 sv1 sv2) fu stt=some tt) {Z:Env} {O:Sto}
  (hE:b9 (fun a:Int=>[(0,.u (.one (dL sv1))),(1,.u (.one (dL sv2))),(12,vI (aB sv1)),(13,vI a)]) (fun _a:Int=>[]) stt Z O):Swp Tryz.prog cx (.loop (bq [1,1,0,1,0,0] (aU Tryz.f127))) Z O (cR cx sv1 sv2 tt):=by
 refine bc hE hh (cR cx sv1 sv2) ?_
 rintro a r hm Z O hf
 simp only[Fits,aR,aQ,and_true] at hf
 unfold b_slices_Equal_int_int_1 at hm
 exact zz
theorem fy (sv1 sv2:List Int) (r:Bool) (hm:m_slices_Equal_int_int sv1 sv2=some r):PureCall Tryz.prog 127 [.u (.one (dL sv1)),.u (.one (dL sv2))] (vT r):=by
 refine b8 Tryz.func127 Tryz.ntmps127 fun cx hn=>?_
 unfold m_slices_Equal_int_int at hm
 refine srs hn ?_
 simp -dsimp
 refine aD ?_
 refine srs hn ?_
 simp -dsimp
 rcases aM hm with ⟨c1,hm⟩ | ⟨c1,hm⟩
 ·exact zz
 ·refine scf c1 ?_
  refine aF (aC (aD ?_))
  refine srs hn ?_
  simp -dsimp [c1]
  refine aH ?_
  obtain⟨o_,g6,hm⟩:=bnd hm
  refine aW (f7 cx hn sv1 sv2 g6) (by
    try dsimp only
    exact EE.here (by simp -dsimp)
  ) fun ee Z O xx=>?_
  rcases o_ with r | _u
  ·exact zz
  ·exact zz
theorem c_tree_Same_1 (x y:Node) (r:Bool) (hm:m_tree_Same_1 x y=some r):PureCall Tryz.prog 126 [.u (.agg [dI x.Level,dL x.Next]),.u (.agg [dI y.Level,dL y.Next])] (vT r):=by
 refine b8 Tryz.func126 Tryz.ntmps126 fun cx hn=>?_
 unfold m_tree_Same_1 at hm
 refine srs hn ?_
 simp -dsimp
 obtain⟨a,j3,hm⟩:=bnd hm
 refine scE [(4,vT a)] [] ?_ fun Z O hf=>?_
 ·replace hm:=j3
  clear j3
  refine sr1 hn ?_
  rcases aM hm with ⟨c1,hm⟩ | ⟨c1,hm⟩
  ·obtain⟨y1,h2,hm⟩:=bnd hm
   simp -dsimp [c1]
   refine aA (fy x.Next y.Next y1 h2) (dkL hn) ?_
   exact zz
  ·exact zz
 ·clear j3
  exact zz
def aT (cx:Cx) (_sv1 _sv2:List Node) (tt:Bool ⊕ Unit) (ee:Exit) (Z:Env) (O:Sto):Prop:=match tt with
 | .inl r=>ee=.ret/\EE cx (fun Z O=>∃ v,cp tb Z O Tryz.f125.results.toList=some v/\(v.frz O).free=true/\(v.frz O).wk (vT r)) Z O
 | .inr _u=>ee=.exit 0/\EE cx (aY [] []) Z O
theorem bh (cx:Cx) (hn:cx.n=32) (sv1 sv2:List Node) {fu:Nat} {stt:Int} {tt:Bool ⊕ Unit} (hh:aK (b_slices_EqualFunc_api_Node_api_Node_api_Node_api_Node_tree_Same_1_1 sv1 sv2) fu stt=some tt) {Z:Env} {O:Sto}
  (hE:b9 (fun a:Int=>[(1,.u (.one (dR1 sv2))),(2,.u (.one (.fn 126 []))),(15,.u (.one (dR1 sv1))),(16,vI (aB sv1)),(17,vI a)]) (fun _a:Int=>[]) stt Z O):Swp Tryz.prog cx (.loop (bq [1,1,0,1,0,0] (aU Tryz.f125))) Z O (aT cx sv1 sv2 tt):=by
 refine bc hE hh (aT cx sv1 sv2) ?_
 rintro a r hm Z O hf
 simp only[Fits,aR,aQ,and_true] at hf
 unfold b_slices_EqualFunc_api_Node_api_Node_api_Node_api_Node_tree_Same_1_1 at hm
 dsimp only at hm
 refine srs hn ?_
 simp -dsimp [hf]
 refine aD ?_
 rcases aM hm with ⟨c2,hm⟩ | ⟨c2,hm⟩
 ·refine aI (by simp -dsimp) c2 ?_
  refine aF (aC (aD (aH ?_)))
  refine srs hn ?_
  obtain⟨x,h3,hm⟩:=bnd hm
  simp -dsimp [hf,c2,h3]
  refine srs hn ?_
  obtain⟨x1,h4,hm⟩:=bnd hm
  simp -dsimp [hf,h4]
  refine srs hn ?_
  obtain⟨y,h5,hm⟩:=bnd hm
  simp -dsimp [hf]
  refine aA (c_tree_Same_1 x x1 y h5) (dkL hn) ?_
  exact zz
 ·exact zz
theorem bk (sv1 sv2:List Node) (r:Bool) (hm:m_slices_EqualFunc_api_Node_api_Node_api_Node_api_Node_tree_Same_1 sv1 sv2=some r):PureCall Tryz.prog 125 [.u (.one (dR1 sv1)),.u (.one (dR1 sv2)),.u (.one (.fn 126 []))] (vT r):=by
 refine b8 Tryz.func125 Tryz.ntmps125 fun cx hn=>?_
 unfold m_slices_EqualFunc_api_Node_api_Node_api_Node_api_Node_tree_Same_1 at hm
 refine srs hn ?_
 simp -dsimp
 refine aD ?_
 refine srs hn ?_
 simp -dsimp
 rcases aM hm with ⟨c1,hm⟩ | ⟨c1,hm⟩
 ·exact zz
 ·refine scf c1 ?_
  refine aF (aC (aD ?_))
  refine srs hn ?_
  simp -dsimp [c1]
  refine aH ?_
  obtain⟨o_,g7,hm⟩:=bnd hm
  refine aW (bh cx hn sv1 sv2 g7) (by
    try dsimp only
    exact EE.here (by simp -dsimp)
  ) fun ee Z O xx=>?_
  rcases o_ with r | _u
  ·exact zz
  ·exact zz
theorem c_tree_Same (a b:Tree) (r:Bool) (hm:m_tree_Same a b=some r):PureCall Tryz.prog 53 [.u (.agg [dI a.States,dR2 a.Hood,dR1 a.Nodes]),.u (.agg [dI b.States,dR2 b.Hood,dR1 b.Nodes])] (vT r):=by
 refine b8 Tryz.func53 Tryz.ntmps53 fun cx hn=>?_
 unfold m_tree_Same at hm
 refine srs hn ?_
 simp -dsimp
 obtain⟨a1,j5,hm⟩:=bnd hm
 refine scE [(4,vT a1)] [] ?_ fun Z O hf=>?_
 ·replace hm:=j5
  clear j5
  refine sr1 hn ?_
  rcases aM hm with ⟨c1,hm⟩ | ⟨c1,hm⟩
  ·obtain⟨y,h2,hm⟩:=bnd hm
   simp -dsimp [c1]
   refine aA (c_hood_Same a.Hood b.Hood y h2) (dkL hn) ?_
   rcases aM hm with ⟨c3,hm⟩ | ⟨c3,hm⟩
   ·obtain⟨y1,h4,hm⟩:=bnd hm
    simp -dsimp [c3]
    refine aA (bk a.Nodes b.Nodes y1 h4) (dkL hn) ?_
    exact zz
   ·exact zz
  ·exact zz
 ·clear j5
  exact zz
theorem c_reduce_Equal (a b:Tree) (r:Bool) (hm:m_reduce_Equal a b=some r):PureCall Tryz.prog 21 [.u (.agg [dI a.States,dR2 a.Hood,dR1 a.Nodes]),.u (.agg [dI b.States,dR2 b.Hood,dR1 b.Nodes])] (vT r):=by
 refine b8 Tryz.func21 Tryz.ntmps21 fun cx hn=>?_
 unfold m_reduce_Equal at hm
 refine srs hn ?_
 simp -dsimp
 obtain⟨a1,j11,hm⟩:=bnd hm
 refine scE [(4,vT a1)] [] ?_ fun Z O hf=>?_
 ·replace hm:=j11
  clear j11
  refine sw_qt aP mixed (by rw[hn]; kernel_rfl) ?_
  obtain⟨y,h1,hm⟩:=bnd hm
  simp -dsimp
  refine aJ (cC a y h1) ?_
  rcases aM hm with ⟨c2,hm⟩ | ⟨c2,hm⟩
  ·obtain⟨y1,h3,hm⟩:=bnd hm
   simp -dsimp [c2]
   refine aJ (cC b y1 h3) ?_
   rcases aM hm with ⟨c4,hm⟩ | ⟨c4,hm⟩
   ·rcases aM hm with ⟨c5,hm⟩ | ⟨c5,hm⟩
    ·obtain⟨y2,h6,hm⟩:=bnd hm
     simp -dsimp [c4,c5]
     refine aJ (c_hood_Same a.Hood b.Hood y2 h6) ?_
     rcases aM hm with ⟨c7,hm⟩ | ⟨c7,hm⟩
     ·obtain⟨y3,h8,hm⟩:=bnd hm
      simp -dsimp [c7]
      refine aJ (c_reduce_Reduce a y3 h8) ?_
      obtain⟨y4,h9,hm⟩:=bnd hm
      simp -dsimp
      refine aJ (c_reduce_Reduce b y4 h9) ?_
      obtain⟨y5,h10,hm⟩:=bnd hm
      simp -dsimp
      refine aJ (c_tree_Same y3 y4 y5 h10) ?_
      exact zz
     ·exact zz
    ·exact zz
   ·exact zz
  ·exact zz
 ·clear j11
  exact zz
theorem f0 (k:Int) (m r:Motion) (hm:m_ship_Turned k m=some r):PureCall Tryz.prog 14 [vI k,.u (.agg [dI m.Period,dI m.DX,dI m.DY])] (.u (.agg [dI r.Period,dI r.DX,dI r.DY])):=by
 refine b8 Tryz.func14 Tryz.ntmps14 fun cx hn=>?_
 unfold m_ship_Turned at hm
 refine srs hn ?_
 simp -dsimp
 refine srs hn ?_
 obtain⟨y,h1,hm⟩:=bnd hm
 simp -dsimp
 refine aA (dO k (⟨m.DX,m.DY⟩:Point) y h1) (dkL hn) ?_
 exact zz
theorem c_ship_corner (t:Tree) (s:Ship) (sym n:Int) (r:Point×Int) (hm:m_ship_corner t s sym n=some r):PureCall Tryz.prog 22 [.u (.agg [dI t.States,dR2 t.Hood,dR1 t.Nodes]),.u (.agg [dR0 s.Cells,dI s.Motion.Period,dI s.Motion.DX,dI s.Motion.DY]),vI sym,vI n] (.tup [.agg [dI r.1.X,dI r.1.Y],.one (dI r.2)]):=by
 refine b8 Tryz.func22 Tryz.ntmps22 fun cx hn=>?_
 unfold m_ship_corner at hm
 refine srs hn ?_
 simp -dsimp
 refine bG aP mixed (by rw[hn]; kernel_rfl) ?_
 obtain⟨n1,h1,hm⟩:=bnd hm
 obtain⟨y,h2,hm⟩:=bnd hm
 simp -dsimp [h1]
 refine aJ (fL t s.Cells n1 y h2) ?_
 simp -dsimp
 refine aD ?_
 refine srs hn ?_
 simp -dsimp
 rcases aM hm with ⟨c3,hm⟩ | ⟨c3,hm⟩
 ·exact zz
 ·refine aG (by simp -dsimp) c3 ?_
  refine aF (aC (aD ?_))
  refine srs hn ?_
  obtain⟨y1,h4,hm⟩:=bnd hm
  simp -dsimp [c3]
  refine aA (c_algebra_Turn sym y.1 y1 h4) (dkL hn) ?_
  simp -dsimp
  refine srs hn ?_
  simp -dsimp
  rcases aM hm with ⟨c5,hm⟩ | ⟨c5,hm⟩
  ·exact zz
  ·refine aG (by simp -dsimp) c5 ?_
   refine aF (aC ?_)
   refine srs hn ?_
   obtain⟨y2,h6,hm⟩:=bnd hm
   simp -dsimp [c5]
   refine aA (eZ y1.1 y2 h6) (dkL hn) ?_
   simp -dsimp
   refine srs hn ?_
   obtain⟨y3,h7,hm⟩:=bnd hm
   simp -dsimp
   refine aA (f0 sym s.Motion y3 h7) (dkL hn) ?_
   simp -dsimp
   refine srs hn ?_
   obtain⟨n2,h8,hm⟩:=bnd hm
   simp -dsimp [h8]
   refine srs hn ?_
   simp -dsimp
   cases hm
   exact b6 ⟨.inr rfl,EE.here (by simp -dsimp)⟩
end Go.Proofs.YtffohfmfehjbmaaGreatDoor
