/- That the code does what the functions say (made by cc.py). -/
import Derived.Test.YtffohfmfehjbmaaGreatDoorWa9
namespace Go.Proofs.YtffohfmfehjbmaaGreatDoor
open Go.AM Go.Proofs
set_option maxRecDepth 100000
attribute [-simp] qlookup bF cq Ob.wipe Ob.ren Ob.frz1
section
attribute [-simp] List.map_set List.set_set
def bg (cx:Cx) (t:Tree) (a:Int) (mp:List (List UInt8×Int)) (l:List Node) (to_:List Int) (x:Node) (_y:List Int) (tt:(List Int)) (ee:Exit) (Z:Env) (O:Sto):Prop:=match tt with
 | next=>ee=.exit 2/\EE cx (aY [(1,.u (.one (.fn 119 []))),(2,vX 2),(4,vX 4),(5,vX 5),(6,vO 5002),(8,vX 8),(9,vO 23),(15,.u (.one (dR1 t.Nodes))),(16,vI (aB t.Nodes)),(17,vI a)] [(2,.box [dI t.States,dR2 t.Hood,dR1 t.Nodes]),(4,.box [dI 0,.d .nil,.d .nil]),(5,.box [.own 5000,.map 12]),(8,.box [dI x.Level,dL x.Next]),(12,mOb .str kS (uL (L.int .i64)) mp),(23,.row 1 3 (List.map (rI .i64) next)),(5000,.row 2 80 (List.map Node.row l)),(5002,.row 1 3 (List.map (rI .i64) to_))]) Z O
theorem cL (cx:Cx) (hn:cx.n=69) (_hk:cx.k=0) (t:Tree) (a:Int) (mp:List (List UInt8×Int)) (l:List Node) (to_:List Int) (x:Node) (y:List Int) {fu:Nat} {stt:Int×(List Int)} {tt:(List Int)} (hh:aK (b_reduce_rebuilt_reduce_Reduce_1_w_2 t a mp l to_ x y) fu stt=some tt) {Z:Env} {O:Sto}
  (hE:b9 (fun stt:Int×(List Int)=>match stt with | (a1,_next)=>[(1,.u (.one (.fn 119 []))),(2,vX 2),(4,vX 4),(5,vX 5),(6,vO 5002),(8,vX 8),(9,vO 23),(15,.u (.one (dR1 t.Nodes))),(16,vI (aB t.Nodes)),(17,vI a),(24,vO 23),(25,vI (aB y)),(26,vI a1)]) (fun stt:Int×(List Int)=>match stt with | (_a1,next)=>[(2,.box [dI t.States,dR2 t.Hood,dR1 t.Nodes]),(4,.box [dI 0,.d .nil,.d .nil]),(5,.box [.own 5000,.map 12]),(8,.box [dI x.Level,dL x.Next]),(12,mOb .str kS (uL (L.int .i64)) mp),(23,.row 1 3 (List.map (rI .i64) next)),(5000,.row 2 80 (List.map Node.row l)),(5002,.row 1 3 (List.map (rI .i64) to_))]) stt Z O):Swp Tryz.prog cx (.loop (bq [1,1,1,0,1,0,0,1,1,0,0,1,1,0,1,0,0] (aU Tryz.f118))) Z O (bg cx t a mp l to_ x y tt):=by
 refine bc hE hh (bg cx t a mp l to_ x y) ?_
 rintro⟨a1,next⟩ r hm Z O hf
 simp only[Fits,aR,aQ,and_true] at hf
 unfold b_reduce_rebuilt_reduce_Reduce_1_w_2 at hm
 dsimp only at hm
 refine srs hn ?_
 simp -dsimp [hf]
 refine aD ?_
 rcases aM hm with ⟨c4,hm⟩ | ⟨c4,hm⟩
 ·refine aI (by simp -dsimp) c4 ?_
  refine aF (aC ?_)
  obtain⟨next1,j8,hm⟩:=bnd hm
  refine scE [(1,.u (.one (.fn 119 []))),(2,vX 2),(4,vX 4),(5,vX 5),(6,vO 5002),(8,vX 8),(9,vO 23),(15,.u (.one (dR1 t.Nodes))),(16,vI (aB t.Nodes)),(17,vI a),(24,vO 23),(25,vI (aB y)),(26,vI a1)] [(2,.box [dI t.States,dR2 t.Hood,dR1 t.Nodes]),(4,.box [dI 0,.d .nil,.d .nil]),(5,.box [.own 5000,.map 12]),(8,.box [dI x.Level,dL x.Next]),(12,mOb .str kS (uL (L.int .i64)) mp),(23,.row 1 3 (List.map (rI .i64) next1)),(5000,.row 2 80 (List.map Node.row l)),(5002,.row 1 3 (List.map (rI .i64) to_))] ?_ fun Z O hf=>?_
  ·replace hm:=j8
   clear j8
   refine aH ?_
   refine srs hn ?_
   obtain⟨x1,h5,hm⟩:=bnd hm
   simp -dsimp [hf,c4,h5,aZ h5]
   refine srs hn ?_
   simp -dsimp [hf]
   rcases aM hm with ⟨c6,hm⟩ | ⟨c6,hm⟩
   ·refine aI (by simp -dsimp) c6 ?_
    refine sr1 hn ?_
    obtain⟨x2,h7,hm⟩:=bnd hm
    simp -dsimp [hf,h5,aZ h5,c6,h7,aZ h7,rsetI .i64 next a1.toNat x2]
    refine bp ?_
    cases hm
    exact EE.here (by simp -dsimp [hf])
   ·refine aG (by simp -dsimp) c6 ?_
    refine aF ?_
    refine bp ?_
    cases hm
    exact EE.here (by simp -dsimp [hf,c6])
  ·clear j8
   exact zz
 ·exact zz
def bf (cx:Cx) (t:Tree) (tt:((List (List UInt8×Int))×(List Node)×(List Int))) (ee:Exit) (Z:Env) (O:Sto):Prop:=match tt with
 | (mp,l,to_)=>ee=.exit 0/\EE cx (aY [(2,vX 2),(4,vX 4),(5,vX 5),(6,vO 5002)] [(2,.box [dI t.States,dR2 t.Hood,dR1 t.Nodes]),(4,.box [dI 0,.d .nil,.d .nil]),(5,.box [.own 5000,.map 12]),(12,mOb .str kS (uL (L.int .i64)) mp),(5000,.row 2 80 (List.map Node.row l)),(5002,.row 1 3 (List.map (rI .i64) to_))]) Z O
theorem cK (cx:Cx) (hn:cx.n=69) (hk:cx.k=0) (t:Tree) {fu:Nat} {stt:Int×(List (List UInt8×Int))×(List Node)×(List Int)} {tt:((List (List UInt8×Int))×(List Node)×(List Int))} (hh:aK (b_reduce_rebuilt_reduce_Reduce_1_w_1 t) fu stt=some tt) {Z:Env} {O:Sto}
  (hE:b9 (fun stt:Int×(List (List UInt8×Int))×(List Node)×(List Int)=>match stt with | (a,_mp,_l,_to_)=>[(1,.u (.one (.fn 119 []))),(2,vX 2),(4,vX 4),(5,vX 5),(6,vO 5002),(15,.u (.one (dR1 t.Nodes))),(16,vI (aB t.Nodes)),(17,vI a)]) (fun stt:Int×(List (List UInt8×Int))×(List Node)×(List Int)=>match stt with | (_a,mp,l,to_)=>[(2,.box [dI t.States,dR2 t.Hood,dR1 t.Nodes]),(4,.box [dI 0,.d .nil,.d .nil]),(5,.box [.own 5000,.map 12]),(12,mOb .str kS (uL (L.int .i64)) mp),(5000,.row 2 80 (List.map Node.row l)),(5002,.row 1 3 (List.map (rI .i64) to_))]) stt Z O):Swp Tryz.prog cx (.loop (bq [1,1,1,0,1,0,0] (aU Tryz.f118))) Z O (bf cx t tt):=by
 refine bc hE hh (bf cx t) ?_
 rintro⟨a,mp,l,to_⟩ r hm Z O hf
 simp only[Fits,aR,aQ,and_true] at hf
 unfold b_reduce_rebuilt_reduce_Reduce_1_w_1 at hm
 dsimp only at hm
 refine srs hn ?_
 simp -dsimp [hf]
 refine aD ?_
 rcases aM hm with ⟨c1,hm⟩ | ⟨c1,hm⟩
 ·refine aI (by simp -dsimp) c1 ?_
  refine aF (aC (aD (aH ?_)))
  refine srs hn ?_
  obtain⟨x,h2,hm⟩:=bnd hm
  simp -dsimp [hf,c1,h2]
  refine srs hn ?_
  obtain⟨y,h3,hm⟩:=bnd hm
  simp -dsimp
  refine callL_new (cd x.Next y h3) (dkL hn) (by decide) ?_
  simp -dsimp
  refine aD ?_
  refine srs hn ?_
  simp -dsimp
  refine aH ?_
  obtain⟨next,g9,hm⟩:=bnd hm
  refine aW (cL cx hn hk t a mp l to_ x y g9) (by
    try dsimp only
    exact EE.here (by simp -dsimp [hf])
  ) fun ee Z O xx=>?_
  unfold bg at xx
  dsimp only at xx
  obtain⟨rfl,xx⟩:=xx
  refine bj ?_
  refine aC ?_
  refine see xx fun Z O hf=>?_
  simp only[Fits,aR,aQ,and_true] at hf
  refine Swp.pre (Wk.frz 23 1 3 (List.map (rI .i64) next) (by simp -dsimp [hf])) ?_
  refine sw_midc aP mixed 8 9 10 0 [[0]] [[5001]] [true] none (by rw[hn]; kernel_rfl) dc ?_
  dsimp only [List.take,List.drop,dz,dT,eX,pk,List.cons_append,List.nil_append,List.flatten_cons,List.flatten_nil,cz,cA,List.append_nil]
  obtain⟨y1,h10,hm⟩:=bnd hm
  simp -dsimp [hf]
  refine aJ (eU x.Level next y1 h10) ?_
  obtain⟨y2,h11,hm⟩:=bnd hm
  simp -dsimp [hf]
  refine callE_g (d9 l mp x.Level y1 y2 h11) [5,5000,12] [5001] rfl rfl rfl (by simp -dsimp) rfl (by simp -dsimp [hf]) (by first | rfl | simp) rfl (dkL hn) rfl rfl (by simp) nofun (by simp) ?_
  obtain⟨l1,h12,hm⟩:=bnd hm
  obtain⟨h12a,h12e⟩:=aS h12
  replace h12e:=h12e.symm
  subst h12e
  try simp only[List.length_cons,List.length_nil,Nat.zero_add] at h12a
  simp -dsimp [hf,h12a]
  refine bp ?_
  refine aC ?_
  refine sr1 hn ?_
  simp -dsimp [hf]
  cases hm
  refine bO ?_
  refine emv 52 5002 ?_
  refine emv 5001 5000 ?_
  exact zz
 ·exact zz
theorem d6 (t:Tree) (r:List Node) (hm:m_reduce_rebuilt_reduce_Reduce_1_w t=some r):GFn Tryz.prog 118 [.u (.agg [dI t.States,dR2 t.Hood,dR1 t.Nodes]),.u (.one (.fn 119 []))] [] (.u (.agg [dI t.States,.own 1000000,dR1 r])) [some (.row 2 65 (List.map Point.row t.Hood))]:=by
 refine bu aP _ Tryz.func118 rfl (by kernel_rfl) (by simp[Tryz.ntmps118]) (by simp) (by first | rfl | simp) (by first | rfl | simp) fun cx hn hk=>?_
 replace hn:cx.n=69:=hn.trans Tryz.ntmps118
 replace hk:cx.k=0:=hk
 unfold m_reduce_rebuilt_reduce_Reduce_1_w at hm
 refine srs hn ?_
 simp -dsimp
 refine srs hn ?_
 simp -dsimp [(@id (Ob.map .str []=mOb .str kS (uL (L.int .i64)) ([]:List (List UInt8×Int))) (fq .str kS (uL (L.int .i64))))]
 refine srs hn ?_
 simp -dsimp
 refine aD ?_
 refine srs hn ?_
 simp -dsimp
 refine aH ?_
 obtain⟨⟨mp,l,to_⟩,g13,hm⟩:=bnd hm
 refine aW (cK cx hn hk t g13) (by
   try dsimp only
   refine EE.step (Wk.own0 6 5002 1 3 (by simp -dsimp) (by decide)) ?_
   refine EE.step (Wk.own0b 5 0 5000 2 80 [.d .nil,.map 12] (by simp -dsimp) (by rfl) (by decide) (by decide)) ?_
   exact zz
 ) fun ee Z O xx=>?_
 unfold bf at xx
 dsimp only at xx
 obtain⟨rfl,xx⟩:=xx
 refine bj ?_
 refine aC ?_
 refine see xx fun Z O hf=>?_
 simp only[Fits,aR,aQ,and_true] at hf
 refine Swp.pre (Wk.frz 5000 2 80 (List.map Node.row l) (by simp -dsimp [hf])) ?_
 refine fe aP mixed 0 0 14 4 [] [] [true,true,true,true,true,true,true,true,true,true,true,true,true,true] (some (58,.row 2 65 (List.map Point.row t.Hood))) (by rw[hn]; kernel_rfl) fltT_row ?_
 dsimp only [List.take,List.drop,dz,dT,eX,pk,List.cons_append,List.nil_append,List.flatten_cons,List.flatten_nil,cz,cA,List.append_nil]
 obtain⟨l1,h14,hm⟩:=bnd hm
 obtain rfl:=cZ _ _ h14
 simp -dsimp [hf]
 refine callE_flt (cW _ _ h14) (dkL hn) (by decide) rfl rfl ?_
 obtain⟨x,h15,hm⟩:=bnd hm
 obtain⟨y,h16,hm⟩:=bnd hm
 simp -dsimp [hf,h15,aZ h15]
 refine aJ (dD l x y h16) ?_
 simp -dsimp [hf]
 refine b6 ?_
 cases hm
 refine⟨.inr rfl,?_⟩
 refine emr 58 1000000 hk ?_
 exact zz
end
theorem g_reduce_Reduce_w (t:Tree) (r:Int×(List Node)×(List Point)) (hm:m_reduce_Reduce_w t=some r):GFn Tryz.prog 48 [.u (.agg [dI t.States,dR2 t.Hood,dR1 t.Nodes])] [] (.u (.agg [dI r.1,.own 1000000,dR1 r.2.1])) [some (.row 2 65 (List.map Point.row r.2.2))]:=by
 refine bu aP _ Tryz.func48 rfl (by kernel_rfl) (by simp[Tryz.ntmps48]) (by simp) (by first | rfl | simp) (by first | rfl | simp) fun cx hn hk=>?_
 replace hn:cx.n=9:=hn.trans Tryz.ntmps48
 replace hk:cx.k=0:=hk
 unfold m_reduce_Reduce_w at hm
 refine srs hn ?_
 simp -dsimp
 refine aD ?_
 refine srs hn ?_
 obtain⟨y,h1,hm⟩:=bnd hm
 simp -dsimp
 refine aA (cC t y h1) (dkL hn) ?_
 simp -dsimp
 rcases aM hm with ⟨c2,hm⟩ | ⟨c2,hm⟩
 ·refine aI (by simp -dsimp) c2 ?_
  refine srs hn ?_
  simp -dsimp [c2]
  refine b6 (dF ?_)
  cases hm
  refine⟨.inr rfl,?_⟩
  refine emr 5001 1000000 hk ?_
  refine EE.step (Wk.own0b 2 1 5001 2 65 [dI 0,.d .nil,.d .nil] (by simp -dsimp) (by rfl) (by decide) (by decide)) ?_
  refine emr 5001 1000000 hk ?_
  exact zz
 ·refine aG (by simp -dsimp) c2 ?_
  refine aF (aC ?_)
  refine srs hn ?_
  obtain⟨y1,h3,hm⟩:=bnd hm
  simp -dsimp [c2]
  refine clg (d6 t y1 h3) [] [5000] (by simp -dsimp) (dkL hn) ?_
  simp -dsimp
  refine b6 ?_
  cases hm
  refine⟨.inr rfl,?_⟩
  refine emr 5000 1000000 hk ?_
  exact zz
def bE (cx:Cx) (ag:List Node) (a8:List (List UInt8×Int)) (level:Int) (next:List Int) (tt:(List Int)) (ee:Exit) (Z:Env) (O:Sto):Prop:=match tt with
 | keyv=>ee=.exit 0/\EE cx (aY [(0,vX 1000000),(1,vI level),(2,vO 1000003),(7,vO 5002)] [(5002,.row 1 5 (List.map (rI .u8) keyv)),(1000000,.box [.own 1000001,.map 1000002]),(1000001,.row 2 80 (List.map Node.row ag)),(1000002,mOb .str kS (uL (L.int .i64)) a8),(1000003,.row 1 3 (List.map (rI .i64) next))]) Z O
theorem er (cx:Cx) (hn:cx.n=68) (_hk:cx.k=4) (ag:List Node) (a8:List (List UInt8×Int)) (level:Int) (next:List Int) {fu:Nat} {stt:Int×(List Int)} {tt:(List Int)} (hh:aK (b_reduce_builder_node_o_o_1 ag a8 level next) fu stt=some tt) {Z:Env} {O:Sto}
  (hE:b9 (fun stt:Int×(List Int)=>match stt with | (a,_keyv)=>[(0,vX 1000000),(1,vI level),(2,vO 1000003),(7,vO 5002),(14,vO 1000003),(15,vI (aB next)),(16,vI a)]) (fun stt:Int×(List Int)=>match stt with | (_a,keyv)=>[(5002,.row 1 5 (List.map (rI .u8) keyv)),(1000000,.box [.own 1000001,.map 1000002]),(1000001,.row 2 80 (List.map Node.row ag)),(1000002,mOb .str kS (uL (L.int .i64)) a8),(1000003,.row 1 3 (List.map (rI .i64) next))]) stt Z O):Swp Tryz.prog cx (.loop (bq [1,1,0,1,0,0] (aU Tryz.f122))) Z O (bE cx ag a8 level next tt):=by
 refine bc hE hh (bE cx ag a8 level next) ?_
 rintro⟨a,keyv⟩ r hm Z O hf
 simp only[Fits,aR,aQ,and_true] at hf
 unfold b_reduce_builder_node_o_o_1 at hm
 dsimp only at hm
 refine srs hn ?_
 simp -dsimp [hf]
 refine aD ?_
 rcases aM hm with ⟨c2,hm⟩ | ⟨c2,hm⟩
 ·refine aI (by simp -dsimp) c2 ?_
  refine aF (aC (aD (aH ?_)))
  refine srs hn ?_
  obtain⟨x,h3,hm⟩:=bnd hm
  simp -dsimp [hf,c2,h3,aZ h3]
  refine sr1 hn ?_
  obtain⟨l,h4,hm⟩:=bnd hm
  obtain⟨h4a,h4e⟩:=aS h4
  replace h4e:=h4e.symm
  subst h4e
  try simp only[List.length_cons,List.length_nil,Nat.zero_add] at h4a
  try simp only[Nat.mul_one,Nat.reduceLeDiff] at h4a
  obtain⟨y1,h5,hm⟩:=bnd hm
  simp -dsimp [hf,h4a]
  refine clg (co (keyv++[32]) x 10 y1 h5) [22] [5001] (by simp -dsimp) (dkL hn) ?_
  simp -dsimp
  refine bp ?_
  refine aC ?_
  refine sr1 hn ?_
  simp -dsimp [hf]
  cases hm
  refine bO ?_
  refine emv 5001 5002 ?_
  exact zz
 ·exact zz
theorem cH (ag:List Node) (a8:List (List UInt8×Int)) (level:Int) (next:List Int) (r:Int×(List (List UInt8×Int))×(List Node)) (hm:m_reduce_builder_node_o_o ag a8 level next=some r):GFn Tryz.prog 122 [vX 1000000,vI level,vO 1000003] [.box [.own 1000001,.map 1000002],.row 2 80 (List.map Node.row ag),mOb .str kS (uL (L.int .i64)) a8,.row 1 3 (List.map (rI .i64) next)] (vI r.1) [some (.box [.own 1000004,.map 1000002]),none,some (mOb .str kS (uL (L.int .i64)) r.2.1),none,some (.row 2 80 (List.map Node.row r.2.2))]:=by
 refine bu aP _ Tryz.func122 rfl (by kernel_rfl) (by simp[Tryz.ntmps122]) (by simp) (by first | rfl | simp) (by first | rfl | simp) fun cx hn hk=>?_
 replace hn:cx.n=68:=hn.trans Tryz.ntmps122
 replace hk:cx.k=4:=hk
 unfold m_reduce_builder_node_o_o at hm
 refine srs hn ?_
 simp -dsimp
 refine srs hn ?_
 obtain⟨y,h1,hm⟩:=bnd hm
 simp -dsimp
 refine clg (dC level 10 y h1) [] [5000] (by simp -dsimp) (dkL hn) ?_
 simp -dsimp
 refine aD ?_
 refine srs hn ?_
 simp -dsimp
 refine aH ?_
 obtain⟨keyv,g6,hm⟩:=bnd hm
 refine aW (er cx hn hk ag a8 level next g6) (by
   try dsimp only
   refine emv 5000 5002 ?_
   exact zz
 ) fun ee Z O xx=>?_
 unfold bE at xx
 dsimp only at xx
 obtain⟨rfl,xx⟩:=xx
 refine bj ?_
 refine aC ?_
 refine see xx fun Z O hf=>?_
 simp only[Fits,aR,aQ,and_true] at hf
 refine aD ?_
 refine bG aP mixed (by rw[hn]; kernel_rfl) ?_
 obtain⟨u,h7,hm⟩:=bnd hm
 simp -dsimp [hf,fo h7,(@id (lkM (eH (mOb .str kS (uL (L.int .i64)) a8) (.str (ofBytes keyv))) true (.one (dI 0))=some (.tup [.one (dI (bN a8 (ofBytes keyv) 0)),.one (.d (.bool (cS a8 (ofBytes keyv))))])) (lk_two (ofBytes keyv) 0))]
 refine srs hn ?_
 simp -dsimp
 rcases aM hm with ⟨c8,hm⟩ | ⟨c8,hm⟩
 ·refine aI (b:=(cS a8 (ofBytes keyv))) (by simp -dsimp) c8 ?_
  refine srs hn ?_
  simp -dsimp [c8]
  refine b6 (dF ?_)
  cases hm
  refine⟨.inr rfl,?_⟩
  refine emr 1000001 1000004 hk ?_
  exact zz
 ·refine aG (b:=(cS a8 (ofBytes keyv))) (by simp -dsimp) c8 ?_
  refine aF (aC ?_)
  refine Swp.pre (Wk.frz 1000003 1 3 (List.map (rI .i64) next) (by simp -dsimp [hf])) ?_
  refine srs hn ?_
  obtain⟨l,h9,hm⟩:=bnd hm
  obtain⟨h9a,h9e⟩:=aS h9
  replace h9e:=h9e.symm
  subst h9e
  try simp only[List.length_cons,List.length_nil,Nat.zero_add] at h9a
  simp -dsimp [hf,c8,h9a]
  refine sw_drNs aP mixed 12 (by rw[hn]; kernel_rfl) ?_
  dsimp only [List.take,List.drop]
  simp -dsimp [hf,fo h7,(@id (fM (mOb .str kS (uL (L.int .i64)) a8) (.str (ofBytes keyv)) (.one (dI (aL .i64 ((aB ag)+1) 1)))=mOb .str kS (uL (L.int .i64)) (cP a8 (ofBytes keyv) (aL .i64 ((aB ag)+1) 1))) (mset_ob .str kS (uL (L.int .i64)) a8 (ofBytes keyv) (aL .i64 ((aB ag)+1) 1)))]
  refine srs hn ?_
  simp -dsimp [hf]
  refine b6 ?_
  cases hm
  refine⟨.inr rfl,?_⟩
  refine emr 47 1000004 hk ?_
  exact zz
section
attribute [-simp] List.map_set List.set_set
def cj (cx:Cx) (ae:Int) (ak:List Point) (ac:List Node) (i a:Int) (to_:List Int) (x:Node) (a1:Int) (mp1:List (List UInt8×Int)) (next:List Int) (l3:List Node) (tt:(List Int)) (ee:Exit) (Z:Env) (O:Sto):Prop:=match tt with
 | inner=>ee=.exit 5/\EE cx (aY [(2,vX 2),(4,vX 4),(5,vI (aL .i64 (aB ak) i)),(6,vX 6),(7,vO 26),(8,vI a),(9,vX 9),(10,vO 42),(11,vI a1),(13,vO 62),(28,.u (.one (dR1 ac))),(29,vI (aB ac)),(30,vI a),(44,.u (.one (dL x.Next))),(45,vI (aB x.Next)),(46,vI a1)] [(2,.box [dI ae,.own 1000000,dR1 ac]),(4,.box [dI 0,.d .nil,.d .nil]),(6,.box [.own 5000,.map 21]),(9,.box [dI x.Level,dL x.Next]),(21,mOb .str kS (uL (L.int .i64)) mp1),(26,.row 1 3 (List.map (rI .i64) to_)),(42,.row 1 3 (List.map (rI .i64) next)),(62,.row 1 3 (List.map (rI .i64) inner)),(5000,.row 2 80 (List.map Node.row l3)),(1000000,.row 2 65 (List.map Point.row ak))]) Z O
theorem fC (cx:Cx) (hn:cx.n=137) (_hk:cx.k=1) (ae:Int) (ak:List Point) (ac:List Node) (i a:Int) (to_:List Int) (x:Node) (a1:Int) (mp1:List (List UInt8×Int)) (next:List Int) (l3:List Node) {fu:Nat} {stt:Int×(List Int)} {tt:(List Int)} (hh:aK (b_reduce_swapped_o_w_3 ae ak ac i a to_ x a1 mp1 next l3) fu stt=some tt) {Z:Env} {O:Sto}
  (hE:b9 (fun stt:Int×(List Int)=>match stt with | (a2,_inner)=>[(2,vX 2),(4,vX 4),(5,vI (aL .i64 (aB ak) i)),(6,vX 6),(7,vO 26),(8,vI a),(9,vX 9),(10,vO 42),(11,vI a1),(13,vO 62),(28,.u (.one (dR1 ac))),(29,vI (aB ac)),(30,vI a),(44,.u (.one (dL x.Next))),(45,vI (aB x.Next)),(46,vI a1),(64,.u (.one (dL x.Next))),(65,vI (aB x.Next)),(66,vI a2)]) (fun stt:Int×(List Int)=>match stt with | (_a2,inner)=>[(2,.box [dI ae,.own 1000000,dR1 ac]),(4,.box [dI 0,.d .nil,.d .nil]),(6,.box [.own 5000,.map 21]),(9,.box [dI x.Level,dL x.Next]),(21,mOb .str kS (uL (L.int .i64)) mp1),(26,.row 1 3 (List.map (rI .i64) to_)),(42,.row 1 3 (List.map (rI .i64) next)),(62,.row 1 3 (List.map (rI .i64) inner)),(5000,.row 2 80 (List.map Node.row l3)),(1000000,.row 2 65 (List.map Point.row ak))]) stt Z O):Swp Tryz.prog cx (.loop (bq [1,1,1,1,0,1,0,0,1,1,0,0,1,1,1,0,1,0,0,1,1,0,0,1,0,1,0,1,0,1,0,0] (aU Tryz.f50))) Z O (cj cx ae ak ac i a to_ x a1 mp1 next l3 tt):=by
 refine bc hE hh (cj cx ae ak ac i a to_ x a1 mp1 next l3) ?_
 rintro⟨a2,inner⟩ r hm Z O hf
 simp only[Fits,aR,aQ,and_true] at hf
 unfold b_reduce_swapped_o_w_3 at hm
 dsimp only at hm
 refine srs hn ?_
 simp -dsimp [hf]
 refine aD ?_
 rcases aM hm with ⟨c10,hm⟩ | ⟨c10,hm⟩
 ·refine aI (by simp -dsimp) c10 ?_
  refine aF (aC ?_)
  obtain⟨inner1,j18,hm⟩:=bnd hm
  refine scE [(2,vX 2),(4,vX 4),(5,vI (aL .i64 (aB ak) i)),(6,vX 6),(7,vO 26),(8,vI a),(9,vX 9),(10,vO 42),(11,vI a1),(13,vO 62),(28,.u (.one (dR1 ac))),(29,vI (aB ac)),(30,vI a),(44,.u (.one (dL x.Next))),(45,vI (aB x.Next)),(46,vI a1),(64,.u (.one (dL x.Next))),(65,vI (aB x.Next)),(66,vI a2)] [(2,.box [dI ae,.own 1000000,dR1 ac]),(4,.box [dI 0,.d .nil,.d .nil]),(6,.box [.own 5000,.map 21]),(9,.box [dI x.Level,dL x.Next]),(21,mOb .str kS (uL (L.int .i64)) mp1),(26,.row 1 3 (List.map (rI .i64) to_)),(42,.row 1 3 (List.map (rI .i64) next)),(62,.row 1 3 (List.map (rI .i64) inner1)),(5000,.row 2 80 (List.map Node.row l3)),(1000000,.row 2 65 (List.map Point.row ak))] ?_ fun Z O hf=>?_
  ·replace hm:=j18
   clear j18
   refine aH ?_
   refine srs hn ?_
   obtain⟨x2,h11,hm⟩:=bnd hm
   simp -dsimp [hf,c10,h11]
   refine srs hn ?_
   obtain⟨x3,h12,hm⟩:=bnd hm
   obtain⟨x4,h13,hm⟩:=bnd hm
   obtain⟨x5,h14,hm⟩:=bnd hm
   simp -dsimp [hf,h12,h13,h14,aZ h14,rsetI .i64 inner a2.toNat x4]
   refine srs hn ?_
   simp -dsimp [hf]
   rcases aM hm with ⟨c15,hm⟩ | ⟨c15,hm⟩
   ·refine aI (by simp -dsimp) c15 ?_
    refine sr1 hn ?_
    obtain⟨x6,h16,hm⟩:=bnd hm
    obtain⟨x7,h17,hm⟩:=bnd hm
    simp -dsimp [hf,c15,h16,aZ h16,h17,aZ h17,rsetI .i64 (inner.set a2.toNat x4) a2.toNat x7]
    refine bp ?_
    cases hm
    exact EE.here (by simp -dsimp [hf])
   ·refine aG (by simp -dsimp) c15 ?_
    refine aF ?_
    refine bp ?_
    cases hm
    exact EE.here (by simp -dsimp [hf,c15])
  ·clear j18
   exact zz
 ·exact zz
def ca (cx:Cx) (ae:Int) (ak:List Point) (ac:List Node) (i a:Int) (to_:List Int) (x:Node) (tt:((List (List UInt8×Int))×(List Int)×(List Node))) (ee:Exit) (Z:Env) (O:Sto):Prop:=match tt with
 | (mp1,next,l3)=>ee=.exit 2/\EE cx (aY [(2,vX 2),(4,vX 4),(5,vI (aL .i64 (aB ak) i)),(6,vX 6),(7,vO 26),(8,vI a),(9,vX 9),(10,vO 42),(28,.u (.one (dR1 ac))),(29,vI (aB ac)),(30,vI a)] [(2,.box [dI ae,.own 1000000,dR1 ac]),(4,.box [dI 0,.d .nil,.d .nil]),(6,.box [.own 5000,.map 21]),(9,.box [dI x.Level,dL x.Next]),(21,mOb .str kS (uL (L.int .i64)) mp1),(26,.row 1 3 (List.map (rI .i64) to_)),(42,.row 1 3 (List.map (rI .i64) next)),(5000,.row 2 80 (List.map Node.row l3)),(1000000,.row 2 65 (List.map Point.row ak))]) Z O
theorem fP (cx:Cx) (hn:cx.n=137) (hk:cx.k=1) (ae:Int) (ak:List Point) (ac:List Node) (i a:Int) (to_:List Int) (x:Node) {fu:Nat} {stt:Int×(List (List UInt8×Int))×(List Int)×(List Node)} {tt:((List (List UInt8×Int))×(List Int)×(List Node))} (hh:aK (b_reduce_swapped_o_w_2 ae ak ac i a to_ x) fu stt=some tt) {Z:Env} {O:Sto}
  (hE:b9 (fun stt:Int×(List (List UInt8×Int))×(List Int)×(List Node)=>match stt with | (a1,_mp1,_next,_l3)=>[(2,vX 2),(4,vX 4),(5,vI (aL .i64 (aB ak) i)),(6,vX 6),(7,vO 26),(8,vI a),(9,vX 9),(10,vO 42),(28,.u (.one (dR1 ac))),(29,vI (aB ac)),(30,vI a),(44,.u (.one (dL x.Next))),(45,vI (aB x.Next)),(46,vI a1)]) (fun stt:Int×(List (List UInt8×Int))×(List Int)×(List Node)=>match stt with | (_a1,mp1,next,l3)=>[(2,.box [dI ae,.own 1000000,dR1 ac]),(4,.box [dI 0,.d .nil,.d .nil]),(6,.box [.own 5000,.map 21]),(9,.box [dI x.Level,dL x.Next]),(21,mOb .str kS (uL (L.int .i64)) mp1),(26,.row 1 3 (List.map (rI .i64) to_)),(42,.row 1 3 (List.map (rI .i64) next)),(5000,.row 2 80 (List.map Node.row l3)),(1000000,.row 2 65 (List.map Point.row ak))]) stt Z O):Swp Tryz.prog cx (.loop (bq [1,1,1,1,0,1,0,0,1,1,0,0,1,1,1,0,1,0,0] (aU Tryz.f50))) Z O (ca cx ae ak ac i a to_ x tt):=by
 refine bc hE hh (ca cx ae ak ac i a to_ x) ?_
 rintro⟨a1,mp1,next,l3⟩ r hm Z O hf
 simp only[Fits,aR,aQ,and_true] at hf
 unfold b_reduce_swapped_o_w_2 at hm
 dsimp only at hm
 refine srs hn ?_
 simp -dsimp [hf]
 refine aD ?_
 rcases aM hm with ⟨c6,hm⟩ | ⟨c6,hm⟩
 ·refine aI (by simp -dsimp) c6 ?_
  refine aF (aC (aD (aH ?_)))
  refine srs hn ?_
  obtain⟨x1,h7,hm⟩:=bnd hm
  simp -dsimp [hf,c6,h7]
  refine aH ?_
  refine srs hn ?_
  simp -dsimp [hf]
  rcases aM hm with ⟨c8,hm⟩ | ⟨c8,hm⟩
  ·refine aI (by simp -dsimp) c8 ?_
   refine srs hn ?_
   obtain⟨l4,h9,hm⟩:=bnd hm
   obtain⟨⟨h9a,h9b,h9c⟩,rfl⟩:=eJ h9
   simp -dsimp [hf,c8,h9a,h9c]
   refine aD ?_
   refine srs hn ?_
   simp -dsimp [hf]
   refine aH ?_
   obtain⟨inner,g19,hm⟩:=bnd hm
   refine aW (fC cx hn hk ae ak ac i a to_ x a1 mp1 next l3 g19) (by
     try dsimp only
     refine EE.here ?_
     exact zz
   ) fun ee Z O xx=>?_
   unfold cj at xx
   dsimp only at xx
   obtain⟨rfl,xx⟩:=xx
   refine bj ?_
   refine aC ?_
   refine see xx fun Z O hf=>?_
   simp only[Fits,aR,aQ,and_true] at hf
   refine sr1 hn ?_
   obtain⟨y,h20,hm⟩:=bnd hm
   simp -dsimp [hf]
   refine clg (cH l3 mp1 (aL .i64 (aL .i64 (aB ak) i) 1) inner y h20) [6,5000,21,62] [5001] (by simp -dsimp [hf]) (dkL hn) ?_
   obtain⟨x2,h21,hm⟩:=bnd hm
   simp -dsimp [hf,h21,aZ h21,rsetI .i64 next a1.toNat y.1]
   refine bp ?_
   refine bp ?_
   refine aC ?_
   refine sr1 hn ?_
   simp -dsimp [hf]
   cases hm
   refine bO ?_
   refine emv 5001 5000 ?_
   exact zz
  ·refine aG (by simp -dsimp) c8 ?_
   refine srs hn ?_
   simp -dsimp [hf,c8]
   rcases aM hm with ⟨c22,hm⟩ | ⟨c22,hm⟩
   ·refine aI (by simp -dsimp) c22 ?_
    refine sr1 hn ?_
    obtain⟨x2,h23,hm⟩:=bnd hm
    obtain⟨x3,h24,hm⟩:=bnd hm
    simp -dsimp [hf,c22,h23,aZ h23,h24,aZ h24,rsetI .i64 next a1.toNat x2]
    refine bp ?_
    refine bp ?_
    refine aC ?_
    refine sr1 hn ?_
    simp -dsimp [hf]
    cases hm
    refine bO ?_
    exact EE.here (by simp -dsimp [hf])
   ·refine aG (by simp -dsimp) c22 ?_
    refine sr1 hn ?_
    obtain⟨x2,h25,hm⟩:=bnd hm
    simp -dsimp [hf,c22,h25,aZ h25,rsetI .i64 next a1.toNat x1]
    refine bp ?_
    refine bp ?_
    refine aC ?_
    refine sr1 hn ?_
    simp -dsimp [hf]
    cases hm
    refine bO ?_
    exact EE.here (by simp -dsimp [hf])
 ·exact zz
def cb (cx:Cx) (ae:Int) (ak:List Point) (ac:List Node) (_i:Int) (tt:((List (List UInt8×Int))×(List Int)×(List Node))) (ee:Exit) (Z:Env) (O:Sto):Prop:=match tt with
 | (mp,to_,l1)=>ee=.exit 0/\EE cx (aY [(2,vX 2),(4,vX 4),(6,vX 6),(7,vO 26)] [(2,.box [dI ae,.own 1000000,dR1 ac]),(4,.box [dI 0,.d .nil,.d .nil]),(6,.box [.own 5000,.map 21]),(21,mOb .str kS (uL (L.int .i64)) mp),(26,.row 1 3 (List.map (rI .i64) to_)),(5000,.row 2 80 (List.map Node.row l1)),(1000000,.row 2 65 (List.map Point.row ak))]) Z O
theorem fp (cx:Cx) (hn:cx.n=137) (hk:cx.k=1) (ae:Int) (ak:List Point) (ac:List Node) (i:Int) {fu:Nat} {stt:Int×(List (List UInt8×Int))×(List Int)×(List Node)} {tt:((List (List UInt8×Int))×(List Int)×(List Node))} (hh:aK (b_reduce_swapped_o_w_1 ae ak ac i) fu stt=some tt) {Z:Env} {O:Sto}
  (hE:b9 (fun stt:Int×(List (List UInt8×Int))×(List Int)×(List Node)=>match stt with | (a,_mp,_to_,_l1)=>[(2,vX 2),(4,vX 4),(5,vI (aL .i64 (aB ak) i)),(6,vX 6),(7,vO 26),(28,.u (.one (dR1 ac))),(29,vI (aB ac)),(30,vI a)]) (fun stt:Int×(List (List UInt8×Int))×(List Int)×(List Node)=>match stt with | (_a,mp,to_,l1)=>[(2,.box [dI ae,.own 1000000,dR1 ac]),(4,.box [dI 0,.d .nil,.d .nil]),(6,.box [.own 5000,.map 21]),(21,mOb .str kS (uL (L.int .i64)) mp),(26,.row 1 3 (List.map (rI .i64) to_)),(5000,.row 2 80 (List.map Node.row l1)),(1000000,.row 2 65 (List.map Point.row ak))]) stt Z O):Swp Tryz.prog cx (.loop (bq [1,1,1,1,0,1,0,0] (aU Tryz.f50))) Z O (cb cx ae ak ac i tt):=by
 refine bc hE hh (cb cx ae ak ac i) ?_
 rintro⟨a,mp,to_,l1⟩ r hm Z O hf
 simp only[Fits,aR,aQ,and_true] at hf
 unfold b_reduce_swapped_o_w_1 at hm
 dsimp only at hm
 refine srs hn ?_
 simp -dsimp [hf]
 refine aD ?_
 rcases aM hm with ⟨c2,hm⟩ | ⟨c2,hm⟩
 ·refine aI (by simp -dsimp) c2 ?_
  refine aF (aC (aD (aH ?_)))
  refine srs hn ?_
  obtain⟨x,h3,hm⟩:=bnd hm
  simp -dsimp [hf,c2,h3]
  refine aD ?_
  refine srs hn ?_
  simp -dsimp [hf]
  rcases aM hm with ⟨c4,hm⟩ | ⟨c4,hm⟩
  ·exact zz
  ·refine aG (by simp -dsimp) c4 ?_
   refine aF (aC ?_)
   refine srs hn ?_
   obtain⟨l2,h5,hm⟩:=bnd hm
   obtain⟨⟨h5a,h5b,h5c⟩,rfl⟩:=eJ h5
   simp -dsimp [hf,c4,h5a,h5c]
   refine aD ?_
   refine srs hn ?_
   simp -dsimp
   refine aH ?_
   obtain⟨⟨mp1,next,l3⟩,g26,hm⟩:=bnd hm
   refine aW (fP cx hn hk ae ak ac i a to_ x g26) (by
     try dsimp only
     refine EE.here ?_
     exact zz
   ) fun ee Z O xx=>?_
   unfold ca at xx
   dsimp only at xx
   obtain⟨rfl,xx⟩:=xx
   refine bj ?_
   refine aC ?_
   refine see xx fun Z O hf=>?_
   simp only[Fits,aR,aQ,and_true] at hf
   refine sr1 hn ?_
   obtain⟨y,h27,hm⟩:=bnd hm
   simp -dsimp [hf]
   refine clg (cH l3 mp1 x.Level next y h27) [6,5000,21,42] [5002] (by simp -dsimp [hf]) (dkL hn) ?_
   obtain⟨x1,h28,hm⟩:=bnd hm
   simp -dsimp [hf,h28,aZ h28,rsetI .i64 to_ a.toNat y.1]
   refine bp ?_
   refine aC ?_
   refine sr1 hn ?_
   simp -dsimp [hf]
   cases hm
   refine bO ?_
   refine emv 5002 5000 ?_
   exact zz
 ·exact zz
theorem g_reduce_swapped_o_w (ae:Int) (ak:List Point) (ac:List Node) (i:Int) (r:List Node) (hm:m_reduce_swapped_o_w ae ak ac i=some r):GFn Tryz.prog 50 [.u (.agg [dI ae,.own 1000000,dR1 ac]),vI i] [.row 2 65 (List.map Point.row ak)] (.u (.agg [dI ae,.own 1000000,dR1 r])) [some (.row 2 65 (List.map Point.row ak))]:=by
 refine bu aP _ Tryz.func50 rfl (by kernel_rfl) (by simp[Tryz.ntmps50]) (by simp) (by first | rfl | simp) (by first | rfl | simp) fun cx hn hk=>?_
 replace hn:cx.n=137:=hn.trans Tryz.ntmps50
 replace hk:cx.k=1:=hk
 unfold m_reduce_swapped_o_w at hm
 refine srs hn ?_
 simp -dsimp
 refine srs hn ?_
 simp -dsimp
 refine srs hn ?_
 simp -dsimp [(@id (Ob.map .str []=mOb .str kS (uL (L.int .i64)) ([]:List (List UInt8×Int))) (fq .str kS (uL (L.int .i64))))]
 refine srs hn ?_
 obtain⟨l,h1,hm⟩:=bnd hm
 obtain⟨⟨h1a,h1b,h1c⟩,rfl⟩:=eJ h1
 simp -dsimp [h1a,h1c]
 refine aD ?_
 refine srs hn ?_
 simp -dsimp
 refine aH ?_
 obtain⟨⟨mp,to_,l1⟩,g29,hm⟩:=bnd hm
 refine aW (fp cx hn hk ae ak ac i g29) (by
   try dsimp only
   refine EE.step (Wk.own0b 6 0 5000 2 80 [.d .nil,.map 21] (by simp -dsimp) (by rfl) (by decide) (by decide)) ?_
   exact zz
 ) fun ee Z O xx=>?_
 unfold cb at xx
 dsimp only at xx
 obtain⟨rfl,xx⟩:=xx
 refine bj ?_
 refine aC ?_
 refine see xx fun Z O hf=>?_
 simp only[Fits,aR,aQ,and_true] at hf
 refine Swp.pre (Wk.frz 5000 2 80 (List.map Node.row l1) (by simp -dsimp [hf])) ?_
 refine sw_drNs aP mixed 13 (by rw[hn]; kernel_rfl) ?_
 dsimp only [List.take,List.drop]
 obtain⟨x,h30,hm⟩:=bnd hm
 obtain⟨y,h31,hm⟩:=bnd hm
 simp -dsimp [hf,h30,aZ h30]
 refine aJ (dD l1 x y h31) ?_
 exact zz
end
theorem c_reduce_sized (t:Tree) (r:Tree×Int) (hm:m_reduce_sized t=some r):PureCall Tryz.prog 51 [.u (.agg [dI t.States,dR2 t.Hood,dR1 t.Nodes])] (.tup [.agg [dI r.1.States,dR2 r.1.Hood,dR1 r.1.Nodes],.one (dI r.2)]):=by
 refine b8 Tryz.func51 Tryz.ntmps51 fun cx hn=>?_
 unfold m_reduce_sized at hm
 exact zz
end Go.Proofs.YtffohfmfehjbmaaGreatDoor
