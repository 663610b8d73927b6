/- That the code does what the functions say (made by cc.py). -/
import Derived.Test.YtjlckgeecihpbaaGreatDoorWa1
namespace Go.Proofs.YtjlckgeecihpbaaGreatDoor
open Go.AM Go.Proofs
set_option maxRecDepth 100000
attribute [-simp] ey eY i7 Ob.wipe Ob.ren Ob.frz1
section
attribute [-simp] List.map_set List.set_set
def gn (rcv:(Int->(List Int)->(List Node)->(List Node)->Option (Int×(List Int)×(List Node)))):Prop:=∀ (k:Int) (a:List Int) (a1 cv:List Node) (r:Int×(List Int)×(List Node)),rcv k a a1 cv=some r->GFn Tryz.prog 114 [vI k,vX 1000000,vX 1000002,vX 1000003,vX 1000004] [.box [.own 1000001],.row 1 3 (List.map (rI .i64) a),.box [dR1 a1],.box [.fn 114 [.box 1000000 0,.box 1000002 0,.box 1000003 0,.box 1000004 0]],.box [.own 1000005],.row 2 47 (List.map Node.row cv)] (vI r.1) [some (.box [.own 1000001]),some (.row 1 3 (List.map (rI .i64) r.2.1)),some (.box [dR1 a1]),some (.box [.fn 114 [.box 1000000 0,.box 1000002 0,.box 1000003 0,.box 1000004 0]]),some (.box [.own 1000006]),none,some (.row 2 47 (List.map Node.row r.2.2))]
def fq (cx:Cx) (_rcv:(Int->(List Int)->(List Node)->(List Node)->Option (Int×(List Int)×(List Node)))) (k:Int) (a1:List Node) (x1:Node) (_y:List Int) (tt:((List Int)×(List Node)×(List Int))) (ee:Exit) (Z:Env) (O:Sto):Prop:=match tt with
 | (l,l1,l2)=>ee=.exit 0/\EE cx (bH [(0,vI k),(1,vX 1000000),(4,vX 1000004),(7,vX 7)] [(7,.box [dI x1.Level,.own 30]),(30,.row 1 3 (List.map (rI .i64) l)),(5000,.row 2 47 (List.map Node.row l1)),(1000000,.box [.own 1000001]),(1000001,.row 1 3 (List.map (rI .i64) l2)),(1000002,.box [dR1 a1]),(1000003,.box [.fn 114 [.box 1000000 0,.box 1000002 0,.box 1000003 0,.box 1000004 0]]),(1000004,.box [.own 5000])]) Z O
theorem my (cx:Cx) (hn:cx.n=63) (_hk:cx.k=6) (rcv:(Int->(List Int)->(List Node)->(List Node)->Option (Int×(List Int)×(List Node)))) (k:Int) (a1:List Node) (x1:Node) (y:List Int) (hrcv:gn rcv) {fu:Nat} {stt:Int×(List Int)×(List Node)×(List Int)} {tt:((List Int)×(List Node)×(List Int))} (hh:ba (bP rcv k a1 x1 y) fu stt=some tt) {Z:Env} {O:Sto}
  (hE:jk (fun stt:Int×(List Int)×(List Node)×(List Int)=>match stt with | (a2,_l,_l2,_l1)=>[(0,vI k),(1,vX 1000000),(3,vX 1000003),(4,vX 1000004),(7,vX 7),(33,vO 30),(34,vI (b8 y)),(35,vI a2)]) (fun stt:Int×(List Int)×(List Node)×(List Int)=>match stt with | (_a2,l,l2,l1)=>[(7,.box [dI x1.Level,.own 30]),(30,.row 1 3 (List.map (rI .i64) l)),(5000,.row 2 47 (List.map Node.row l2)),(1000000,.box [.own 1000001]),(1000001,.row 1 3 (List.map (rI .i64) l1)),(1000002,.box [dR1 a1]),(1000003,.box [.fn 114 [.box 1000000 0,.box 1000002 0,.box 1000003 0,.box 1000004 0]]),(1000004,.box [.own 5000])]) stt Z O):Swp Tryz.prog cx (.loop (cC [1,1,1,0,1,0,0] (bD Tryz.f114))) Z O (fq cx rcv k a1 x1 y tt):=by
 refine bN hE hh (fq cx rcv k a1 x1 y) ?_
 rintro⟨a2,l,l2,l1⟩ r hm Z O hf
 simp only[Fits,bB,bA,and_true] at hf
 unfold bP at hm
 dsimp only at hm
 refine srs hn ?_
 simp -dsimp [hf]
 refine aZ ?_
 rcases bz hm with ⟨c5,hm⟩ | ⟨c5,hm⟩
 ·refine b9 (by simp -dsimp) c5 ?_
  refine b0 (aY ?_)
  obtain⟨⟨l3,l4,l5⟩,j9,hm⟩:=bnd hm
  refine scE [(0,vI k),(1,vX 1000000),(3,vX 1000003),(4,vX 1000004),(7,vX 7),(33,vO 30),(34,vI (b8 y)),(35,vI a2)] [(7,.box [dI x1.Level,.own 30]),(30,.row 1 3 (List.map (rI .i64) l3)),(5000,.row 2 47 (List.map Node.row l5)),(1000000,.box [.own 1000001]),(1000001,.row 1 3 (List.map (rI .i64) l4)),(1000002,.box [dR1 a1]),(1000003,.box [.fn 114 [.box 1000000 0,.box 1000002 0,.box 1000003 0,.box 1000004 0]]),(1000004,.box [.own 5000])] ?_ fun Z O hf=>?_
  ·replace hm:=j9
   clear j9
   refine b7 ?_
   refine srs hn ?_
   obtain⟨x2,h6,hm⟩:=bnd hm
   simp -dsimp [hf,c5,h6,da h6]
   refine srs hn ?_
   simp -dsimp [hf]
   rcases bz hm with ⟨c7,hm⟩ | ⟨c7,hm⟩
   ·refine b9 (by simp -dsimp) c7 ?_
    refine sw_midc bO mixed 5 6 6 0 [[0,1,2]] [[5001]] [] none (by rw[hn]; kernel_rfl) ep ?_
    dsimp only [List.take,List.drop,gz,gP,jl,pk,List.cons_append,List.nil_append,List.flatten_cons,List.flatten_nil,dY,dW,List.append_nil]
    obtain⟨y1,h8,hm⟩:=bnd hm
    simp -dsimp [hf,c7]
    refine mN (hrcv x2 l1 a1 l2 y1 h8) [1000000,1000001,1000002,1000003,1000004,5000] [5001] rfl rfl rfl (by simp -dsimp) rfl (by simp -dsimp [hf]) (by first | rfl | simp) rfl (dkL hn) rfl rfl (by simp) nofun (by simp) ?_
    simp -dsimp [hf,h6,da h6,rsetI .i64 l a2.toNat y1.1]
    refine cr ?_
    refine aY ?_
    cases hm
    refine emv 5001 5000 ?_
    exact zz
   ·exact zz
  ·clear j9
   exact zz
 ·exact zz
theorem mS (rcv:(Int->(List Int)->(List Node)->(List Node)->Option (Int×(List Int)×(List Node)))) (hrcv:gn rcv) (k:Int) (a:List Int) (a1 cv:List Node) (r:Int×(List Int)×(List Node)) (hm:bV rcv k a a1 cv=some r):GFn Tryz.prog 114 [vI k,vX 1000000,vX 1000002,vX 1000003,vX 1000004] [.box [.own 1000001],.row 1 3 (List.map (rI .i64) a),.box [dR1 a1],.box [.fn 114 [.box 1000000 0,.box 1000002 0,.box 1000003 0,.box 1000004 0]],.box [.own 1000005],.row 2 47 (List.map Node.row cv)] (vI r.1) [some (.box [.own 1000001]),some (.row 1 3 (List.map (rI .i64) r.2.1)),some (.box [dR1 a1]),some (.box [.fn 114 [.box 1000000 0,.box 1000002 0,.box 1000003 0,.box 1000004 0]]),some (.box [.own 1000006]),none,some (.row 2 47 (List.map Node.row r.2.2))]:=by
 refine dm bO _ Tryz.func114 rfl (by kernel_rfl) (by simp[Tryz.ntmps114]) (by simp) (by first | rfl | simp) (by first | rfl | simp) fun cx hn hk=>?_
 replace hn:cx.n=63:=hn.trans Tryz.ntmps114
 replace hk:cx.k=6:=hk
 unfold bV at hm
 refine srs hn ?_
 simp -dsimp
 refine aZ ?_
 refine srs hn ?_
 obtain⟨x,h1,hm⟩:=bnd hm
 simp -dsimp [h1,da h1]
 rcases bz hm with ⟨c2,hm⟩ | ⟨c2,hm⟩
 ·refine b9 (by simp -dsimp) c2 ?_
  refine srs hn ?_
  simp -dsimp [h1,da h1,c2]
  refine bC (fI ?_)
  cases hm
  refine⟨.inr rfl,?_⟩
  refine emr 1000005 1000006 hk ?_
  exact zz
 ·refine bf (by simp -dsimp) c2 ?_
  refine b0 (aY ?_)
  refine ja bO mixed 10 11 13 12 [[0,1,2,3,4]] [[30]] [true,false] (some (7,.box [dI 0,.d .nil])) (by rw[hn]; kernel_rfl) (fltT_some 47 _ (by kernel_rfl) rfl rfl rfl (by simp[C.wipe])) ?_
  dsimp only [List.take,List.drop,gz,gP,jl,pk,List.cons_append,List.nil_append,List.flatten_cons,List.flatten_nil,dY,dW,List.append_nil]
  obtain⟨x1,h3,hm⟩:=bnd hm
  obtain⟨y,h4,hm⟩:=bnd hm
  simp -dsimp [c2,h3]
  refine callE_new (eF x1.Next y h4) (dkL hn) (by decide) rfl rfl (by simp) (by rintro _ _ ⟨⟩; simp[C.wipe]) (by simp) ?_
  simp -dsimp [h3]
  refine aZ ?_
  refine srs hn ?_
  simp -dsimp
  refine b7 ?_
  obtain⟨⟨l,l1,l2⟩,g10,hm⟩:=bnd hm
  refine bG (my cx hn hk rcv k a1 x1 y hrcv g10) (by
    try dsimp only
    refine emv 1000005 5000 ?_
    exact zz
  ) fun ee Z O xx=>?_
  unfold fq at xx
  dsimp only at xx
  obtain⟨rfl,xx⟩:=xx
  refine bK ?_
  refine aY ?_
  refine see xx fun Z O hf=>?_
  simp only[Fits,bB,bA,and_true] at hf
  refine Swp.pre (Wk.frz 30 1 3 (List.map (rI .i64) l) (by simp -dsimp [hf])) ?_
  refine srs hn ?_
  obtain⟨l3,h11,hm⟩:=bnd hm
  obtain⟨h11a,h11e⟩:=bQ h11
  replace h11e:=h11e.symm
  subst h11e
  try simp only[List.length_cons,List.length_nil,Nat.zero_add] at h11a
  simp -dsimp [hf,h11a]
  refine srs hn ?_
  obtain⟨x2,h12,hm⟩:=bnd hm
  simp -dsimp [hf,h12,da h12,rsetI .i64 l2 k.toNat ((b8 l1)+1)]
  refine srs hn ?_
  simp -dsimp [hf]
  refine bC ?_
  cases hm
  refine⟨.inr rfl,?_⟩
  refine emr 54 1000006 hk ?_
  exact zz
theorem nr (k:Int) (a:List Int) (a1 cv:List Node) (r:Int×(List Int)×(List Node)) (hm:ge k a a1 cv=some r):GFn Tryz.prog 114 [vI k,vX 1000000,vX 1000002,vX 1000003,vX 1000004] [.box [.own 1000001],.row 1 3 (List.map (rI .i64) a),.box [dR1 a1],.box [.fn 114 [.box 1000000 0,.box 1000002 0,.box 1000003 0,.box 1000004 0]],.box [.own 1000005],.row 2 47 (List.map Node.row cv)] (vI r.1) [some (.box [.own 1000001]),some (.row 1 3 (List.map (rI .i64) r.2.1)),some (.box [dR1 a1]),some (.box [.fn 114 [.box 1000000 0,.box 1000002 0,.box 1000003 0,.box 1000004 0]]),some (.box [.own 1000006]),none,some (.row 2 47 (List.map Node.row r.2.2))]:=recN_ind gn (by intro _; intro _; intro _; intro _; intro _; intro hm; cases hm) mS recF k a a1 cv r hm
end
instance c_reduce_ordered (nodes root r):CtP (fV nodes root=some r) (bc Tryz.prog 98 [.u (.one (dR1 nodes)),vI root] (.u (.one (dR1 r)))):=⟨fun hm=>by
 refine cu Tryz.func98 Tryz.ntmps98 fun cx hn=>?_
 unfold fV at hm
 refine srs hn ?_
 simp -dsimp
 refine srs hn ?_
 obtain⟨l,h1,hm⟩:=bnd hm
 obtain⟨⟨h1a,h1b,h1c⟩,rfl⟩:=nu h1
 simp -dsimp [h1a,h1c]
 refine srs hn ?_
 simp -dsimp
 refine srs hn ?_
 simp -dsimp
 refine srs hn ?_
 simp -dsimp
 refine Swp.pre (Wk.own0b 6 0 5000 2 47 [.d .nil] (by simp -dsimp) (by rfl) (by decide) (by decide)) ?_
 refine srs hn ?_
 obtain⟨y,h2,hm⟩:=bnd hm
 simp -dsimp
 refine clg (nr root (List.replicate (b8 nodes).toNat 0) nodes [] y h2) [5,10,2,7,6,5000] [5001] (by simp -dsimp) (dkL hn) ?_
 exact zz⟩
section
attribute [-simp] List.map_set List.set_set
def e9 (cx:Cx) (t:Tree) (a:Int) (mp:List (List UInt8×Int)) (l:List Node) (to_:List Int) (x:Node) (_y:List Int) (tt:(List Int)) (ee:Exit) (Z:Env) (O:Sto):Prop:=match tt with
 | next=>ee=.exit 2/\EE cx (bH [(1,.u (.one (.fn 74 []))),(2,vX 2),(4,vX 4),(5,vX 5),(6,vO 5002),(8,vX 8),(9,vO 23),(15,.u (.one (dR1 t.Nodes))),(16,vI (b8 t.Nodes)),(17,vI a)] [(2,.box [dI t.States,dR2 t.Hood,dR1 t.Nodes]),(4,.box [dI 0,.d .nil,.d .nil]),(5,.box [.own 5000,.map 12]),(8,.box [dI x.Level,dL x.Next]),(12,mOb .str kS (uL (L.int .i64)) mp),(23,.row 1 3 (List.map (rI .i64) next)),(5000,.row 2 47 (List.map Node.row l)),(5002,.row 1 3 (List.map (rI .i64) to_))]) Z O
instance l_reduce_rebuilt_reduce_Reduce_1_2 (t a mp l to_ x y) {fu stt tt}:LtP (ba (bu t a mp l to_ x y) fu stt=some tt) (lp 69 stt (fun | (a1,_next)=>[(1,.u (.one (.fn 74 []))),(2,vX 2),(4,vX 4),(5,vX 5),(6,vO 5002),(8,vX 8),(9,vO 23),(15,.u (.one (dR1 t.Nodes))),(16,vI (b8 t.Nodes)),(17,vI a),(24,vO 23),(25,vI (b8 y)),(26,vI a1)]) (fun | (_a1,next)=>[(2,.box [dI t.States,dR2 t.Hood,dR1 t.Nodes]),(4,.box [dI 0,.d .nil,.d .nil]),(5,.box [.own 5000,.map 12]),(8,.box [dI x.Level,dL x.Next]),(12,mOb .str kS (uL (L.int .i64)) mp),(23,.row 1 3 (List.map (rI .i64) next)),(5000,.row 2 47 (List.map Node.row l)),(5002,.row 1 3 (List.map (rI .i64) to_))]) (cC [1,1,1,0,1,0,0,1,1,0,0,1,1,0,1,0,0] (bD Tryz.f73)) fun cx=>e9 cx t a mp l to_ x y tt):=⟨fun hh cx hn Z O hE=>by
 refine bN hE hh (e9 cx t a mp l to_ x y) ?_
 rintro⟨a1,next⟩ r hm Z O hf
 simp only[Fits,bB,bA,and_true] at hf
 unfold bu at hm
 dsimp only at hm
 refine srs hn ?_
 simp -dsimp [hf]
 refine aZ ?_
 rcases bz hm with ⟨c4,hm⟩ | ⟨c4,hm⟩
 ·refine b9 (by simp -dsimp) c4 ?_
  refine b0 (aY ?_)
  obtain⟨aI,j8,hm⟩:=bnd hm
  refine scE [(1,.u (.one (.fn 74 []))),(2,vX 2),(4,vX 4),(5,vX 5),(6,vO 5002),(8,vX 8),(9,vO 23),(15,.u (.one (dR1 t.Nodes))),(16,vI (b8 t.Nodes)),(17,vI a),(24,vO 23),(25,vI (b8 y)),(26,vI a1)] [(2,.box [dI t.States,dR2 t.Hood,dR1 t.Nodes]),(4,.box [dI 0,.d .nil,.d .nil]),(5,.box [.own 5000,.map 12]),(8,.box [dI x.Level,dL x.Next]),(12,mOb .str kS (uL (L.int .i64)) mp),(23,.row 1 3 (List.map (rI .i64) aI)),(5000,.row 2 47 (List.map Node.row l)),(5002,.row 1 3 (List.map (rI .i64) to_))] ?_ fun Z O hf=>?_
  ·replace hm:=j8
   clear j8
   refine b7 ?_
   refine srs hn ?_
   obtain⟨x1,h5,hm⟩:=bnd hm
   simp -dsimp [hf,c4,h5,da h5]
   refine srs hn ?_
   simp -dsimp [hf]
   rcases bz hm with ⟨c6,hm⟩ | ⟨c6,hm⟩
   ·refine b9 (by simp -dsimp) c6 ?_
    refine sr1 hn ?_
    obtain⟨x2,h7,hm⟩:=bnd hm
    simp -dsimp [hf,h5,da h5,c6,h7,da h7,rsetI .i64 next a1.toNat x2]
    refine cr ?_
    cases hm
    exact EE.here (by simp -dsimp [hf])
   ·refine bf (by simp -dsimp) c6 ?_
    refine b0 ?_
    refine cr ?_
    cases hm
    exact EE.here (by simp -dsimp [hf,c6])
  ·clear j8
   exact zz
 ·exact zz⟩
def eg (cx:Cx) (t:Tree) (tt:((List (List UInt8×Int))×(List Node)×(List Int))) (ee:Exit) (Z:Env) (O:Sto):Prop:=match tt with
 | (mp,l,to_)=>ee=.exit 0/\EE cx (bH [(2,vX 2),(4,vX 4),(5,vX 5),(6,vO 5002)] [(2,.box [dI t.States,dR2 t.Hood,dR1 t.Nodes]),(4,.box [dI 0,.d .nil,.d .nil]),(5,.box [.own 5000,.map 12]),(12,mOb .str kS (uL (L.int .i64)) mp),(5000,.row 2 47 (List.map Node.row l)),(5002,.row 1 3 (List.map (rI .i64) to_))]) Z O
instance l_reduce_rebuilt_reduce_Reduce_1_1 (t) {fu stt tt}:LtP (ba (bS t) fu stt=some tt) (lp 69 stt (fun | (a,_mp,_l,_to_)=>[(1,.u (.one (.fn 74 []))),(2,vX 2),(4,vX 4),(5,vX 5),(6,vO 5002),(15,.u (.one (dR1 t.Nodes))),(16,vI (b8 t.Nodes)),(17,vI a)]) (fun | (_a,mp,l,to_)=>[(2,.box [dI t.States,dR2 t.Hood,dR1 t.Nodes]),(4,.box [dI 0,.d .nil,.d .nil]),(5,.box [.own 5000,.map 12]),(12,mOb .str kS (uL (L.int .i64)) mp),(5000,.row 2 47 (List.map Node.row l)),(5002,.row 1 3 (List.map (rI .i64) to_))]) (cC [1,1,1,0,1,0,0] (bD Tryz.f73)) fun cx=>eg cx t tt):=⟨fun hh cx hn Z O hE=>by
 refine bN hE hh (eg cx t) ?_
 rintro⟨a,mp,l,to_⟩ r hm Z O hf
 simp only[Fits,bB,bA,and_true] at hf
 unfold bS at hm
 dsimp only at hm
 refine srs hn ?_
 simp -dsimp [hf]
 refine aZ ?_
 rcases bz hm with ⟨c1,hm⟩ | ⟨c1,hm⟩
 ·refine b9 (by simp -dsimp) c1 ?_
  refine b0 (aY (aZ (b7 ?_)))
  refine srs hn ?_
  obtain⟨x,h2,hm⟩:=bnd hm
  simp -dsimp [hf,c1,h2]
  refine srs hn ?_
  obtain⟨y,h3,hm⟩:=bnd hm
  simp -dsimp
  refine callL_new (eF x.Next y h3) (dkL hn) (by decide) ?_
  simp -dsimp
  refine aZ ?_
  refine srs hn ?_
  simp -dsimp
  refine b7 ?_
  obtain⟨next,g9,hm⟩:=bnd hm
  refine bG (LtP.pf g9 cx hn) (by
    try dsimp only
    exact EE.here (by simp -dsimp [hf])
  ) fun ee Z O xx=>?_
  unfold e9 at xx
  dsimp only at xx
  obtain⟨rfl,xx⟩:=xx
  refine bK ?_
  refine aY ?_
  refine see xx fun Z O hf=>?_
  simp only[Fits,bB,bA,and_true] at hf
  refine Swp.pre (Wk.frz 23 1 3 (List.map (rI .i64) next) (by simp -dsimp [hf])) ?_
  refine sw_midc bO mixed 8 9 10 0 [[0]] [[5001]] [true] none (by rw[hn]; kernel_rfl) ep ?_
  dsimp only [List.take,List.drop,gz,gP,jl,pk,List.cons_append,List.nil_append,List.flatten_cons,List.flatten_nil,dY,dW,List.append_nil]
  obtain⟨y1,h10,hm⟩:=bnd hm
  simp -dsimp [hf]
  refine br (CtP.pf h10) ?_
  obtain⟨y2,h11,hm⟩:=bnd hm
  simp -dsimp [hf]
  refine mN (p9 l mp x.Level y1 y2 h11) [5,5000,12] [5001] rfl rfl rfl (by simp -dsimp) rfl (by simp -dsimp [hf]) (by first | rfl | simp) rfl (dkL hn) rfl rfl (by simp) nofun (by simp) ?_
  obtain⟨l1,h12,hm⟩:=bnd hm
  obtain⟨h12a,h12e⟩:=bQ h12
  replace h12e:=h12e.symm
  subst h12e
  try simp only[List.length_cons,List.length_nil,Nat.zero_add] at h12a
  simp -dsimp [hf,h12a]
  refine cr ?_
  refine aY ?_
  refine sr1 hn ?_
  simp -dsimp [hf]
  cases hm
  refine d8 ?_
  refine emv 52 5002 ?_
  refine emv 5001 5000 ?_
  exact zz
 ·exact zz⟩
instance c_reduce_rebuilt_reduce_Reduce_1 (t r):CtP (cG t=some r) (bc Tryz.prog 73 [.u (.agg [dI t.States,dR2 t.Hood,dR1 t.Nodes]),.u (.one (.fn 74 []))] (.u (.agg [dI r.States,dR2 r.Hood,dR1 r.Nodes]))):=⟨fun hm=>by
 refine cu Tryz.func73 Tryz.ntmps73 fun cx hn=>?_
 unfold cG at hm
 refine srs hn ?_
 simp -dsimp
 refine srs hn ?_
 simp -dsimp [(@id (Ob.map .str []=mOb .str kS (uL (L.int .i64)) ([]:List (List UInt8×Int))) (mOb_nil .str kS (uL (L.int .i64))))]
 refine srs hn ?_
 simp -dsimp
 refine aZ ?_
 refine srs hn ?_
 simp -dsimp
 refine b7 ?_
 obtain⟨⟨mp,l,to_⟩,g13,hm⟩:=bnd hm
 refine bG (LtP.pf g13 cx hn) (by
   try dsimp only
   refine EE.step (Wk.own0 6 5002 1 3 (by simp -dsimp) (by decide)) ?_
   refine EE.step (Wk.own0b 5 0 5000 2 47 [.d .nil,.map 12] (by simp -dsimp) (by rfl) (by decide) (by decide)) ?_
   exact zz
 ) fun ee Z O xx=>?_
 unfold eg at xx
 dsimp only at xx
 obtain⟨rfl,xx⟩:=xx
 refine bK ?_
 refine aY ?_
 refine see xx fun Z O hf=>?_
 simp only[Fits,bB,bA,and_true] at hf
 refine Swp.pre (Wk.frz 5000 2 47 (List.map Node.row l) (by simp -dsimp [hf])) ?_
 refine sw_drNs bO mixed 14 (by rw[hn]; kernel_rfl) ?_
 dsimp only [List.take,List.drop]
 obtain⟨y,h14,hm⟩:=bnd hm
 simp -dsimp [hf]
 refine br (CtP.pf h14) ?_
 obtain⟨x,h15,hm⟩:=bnd hm
 obtain⟨y1,h16,hm⟩:=bnd hm
 simp -dsimp [hf,h15,da h15]
 refine br (CtP.pf h16) ?_
 simp -dsimp [hf]
 refine bC ?_
 cases hm
 refine⟨.inr rfl,?_⟩
 exact EE.here (by simp -dsimp [hf])⟩
end
instance c_reduce_Reduce (t r):CtP (gJ t=some r) (bc Tryz.prog 46 [.u (.agg [dI t.States,dR2 t.Hood,dR1 t.Nodes])] (.u (.agg [dI r.States,dR2 r.Hood,dR1 r.Nodes]))):=⟨fun hm=>by
 refine cu Tryz.func46 Tryz.ntmps46 fun cx hn=>?_
 unfold gJ at hm
 refine srs hn ?_
 simp -dsimp
 refine aZ ?_
 refine srs hn ?_
 obtain⟨y,h1,hm⟩:=bnd hm
 simp -dsimp
 refine bi (CtP.pf h1) (dkL hn) ?_
 simp -dsimp
 rcases bz hm with ⟨c2,hm⟩ | ⟨c2,hm⟩
 ·refine b9 (by simp -dsimp) c2 ?_
  refine srs hn ?_
  simp -dsimp [c2]
  refine bC (fI ?_)
  cases hm
  refine⟨.inr rfl,?_⟩
  exact EE.here (by simp -dsimp)
 ·refine bf (by simp -dsimp) c2 ?_
  refine b0 (aY ?_)
  refine srs hn ?_
  obtain⟨y1,h3,hm⟩:=bnd hm
  simp -dsimp [c2]
  refine bi (CtP.pf h3) (dkL hn) ?_
  simp -dsimp
  refine bC ?_
  cases hm
  refine⟨.inr rfl,?_⟩
  exact EE.here (by simp -dsimp)⟩
instance c_lower_Bits (states r):CtP (iS states=some r) (bc Tryz.prog 30 [vI states] (vI r)):=⟨fun hm=>by
 refine cu Tryz.func30 Tryz.ntmps30 fun cx hn=>?_
 unfold iS at hm
 refine srs hn ?_
 simp -dsimp
 refine aZ (b7 ?_)
 refine srs hn ?_
 simp -dsimp
 rcases bz hm with ⟨c1,hm⟩ | ⟨c1,hm⟩
 ·exact zz
 ·refine scf c1 ?_
  obtain⟨a,j7,hm⟩:=bnd hm
  refine scE [(0,vI states),(6,vT a)] [] ?_ fun Z O hf=>?_
  ·replace hm:=j7
   clear j7
   exact zz
  ·clear j7
   simp only[Fits,bB,bA,and_true] at hf
   rcases bz hm with ⟨c3,hm⟩ | ⟨c3,hm⟩
   ·exact zz
   ·refine bf (by simp -dsimp [hf]) c3 ?_
    obtain⟨a1,j6,hm⟩:=bnd hm
    refine scE [(11,vT a1)] [] ?_ fun Z O hf=>?_
    ·replace hm:=j6
     clear j6
     exact zz
    ·clear j6
     exact zz⟩
theorem g_unroll_start (t:Tree) (r:Int×(List Point)×(List Node)×Int) (hm:iq t=some r):GFn Tryz.prog 16 [.u (.agg [dI t.States,dR2 t.Hood,dR1 t.Nodes])] [] (vX 1000001) [some (mOb .str kS (uA Tree.row) []),some (.box [dI 0,.d .nil,dI r.1,dR2 r.2.1,dR1 r.2.2.1,dI r.2.2.2,.map 1000000])]:=by
 refine dm bO _ Tryz.func16 rfl (by kernel_rfl) (by simp[Tryz.ntmps16]) (by simp) (by first | rfl | simp) (by first | rfl | simp) fun cx hn hk=>?_
 replace hn:cx.n=11:=hn.trans Tryz.ntmps16
 replace hk:cx.k=0:=hk
 unfold iq at hm
 refine srs hn ?_
 simp -dsimp
 refine ja bO mixed 5 6 6 0 [[0,1,2,3,4]] [[8]] [] none (by rw[hn]; kernel_rfl) ep ?_
 dsimp only [List.take,List.drop,gz,gP,jl,pk,List.cons_append,List.nil_append,List.flatten_cons,List.flatten_nil,dY,dW,List.append_nil]
 obtain⟨y,h1,hm⟩:=bnd hm
 simp -dsimp
 refine br (CtP.pf h1) ?_
 obtain⟨y1,h2,hm⟩:=bnd hm
 simp -dsimp
 refine br (CtP.pf h2) ?_
 simp -dsimp [(@id (Ob.map .str []=mOb .str kS (uA Tree.row) ([]:List (List UInt8×Tree))) (mOb_nil .str kS (uA Tree.row)))]
 refine br (CtP.pf h1) ?_
 simp -dsimp
 refine br (CtP.pf h2) ?_
 simp -dsimp
 refine bC ?_
 cases hm
 refine⟨.inr rfl,?_⟩
 refine emr 8 1000000 hk ?_
 refine emr 10 1000001 hk ?_
 exact zz
def mF (cx:Cx) (_l:List Point) (tt:Int) (ee:Exit) (Z:Env) (O:Sto):Prop:=match tt with
 | r_=>ee=.exit 0/\EE cx (bH [(3,vI r_)] []) Z O
instance l_hood_Radius_1 (l) {fu stt tt}:LtP (ba (gL l) fu stt=some tt) (lp 28 stt (fun | (r_,a)=>[(3,vI r_),(8,.u (.one (dR2 l))),(9,vI (b8 l)),(10,vI a)]) (fun | (_r_,_a)=>[]) (cC [1,1,0,1,0,1,0,0] (bD Tryz.f17)) fun cx=>mF cx l tt):=⟨fun hh cx hn Z O hE=>by
 refine bN hE hh (mF cx l) ?_
 rintro⟨r_,a⟩ r hm Z O hf
 simp only[Fits,bB,bA,and_true] at hf
 unfold gL at hm
 exact zz⟩
instance c_hood_Radius (l r):CtP (fQ l=some r) (bc Tryz.prog 17 [.u (.one (dR2 l))] (vI r)):=⟨fun hm=>by
 refine cu Tryz.func17 Tryz.ntmps17 fun cx hn=>?_
 unfold fQ at hm
 refine srs hn ?_
 simp -dsimp
 refine srs hn ?_
 simp -dsimp
 obtain⟨r_,j6,hm⟩:=bnd hm
 refine scE [(3,vI r_)] [] ?_ fun Z O hf=>?_
 ·replace hm:=j6
  clear j6
  refine srs hn ?_
  obtain⟨y,h1,hm⟩:=bnd hm
  simp -dsimp
  refine bi (CtP.pf h1) (dkL hn) ?_
  simp -dsimp
  rcases bz hm with ⟨c2,hm⟩ | ⟨c2,hm⟩
  ·refine b9 (by simp -dsimp) c2 ?_
   refine srs hn ?_
   simp -dsimp [c2]
   refine b7 ?_
   obtain⟨r_,g5,hm⟩:=bnd hm
   refine bG (LtP.pf g5 cx hn) (by
     try dsimp only
     exact EE.here (by simp -dsimp)
   ) fun ee Z O xx=>?_
   unfold mF at xx
   dsimp only at xx
   obtain⟨rfl,xx⟩:=xx
   refine bK ?_
   refine aY ?_
   cases hm
   refine ee_bind (by rfl) (by rfl) xx fun Z O hf=>?_
   simp only[Fits,bB,bA,and_true] at hf
   exact EE.here (by simp -dsimp [hf])
  ·refine bf (by simp -dsimp) c2 ?_
   refine b0 (aY ?_)
   cases hm
   exact EE.here (by simp -dsimp [c2])
 ·clear j6
  exact zz⟩
def gl (cx:Cx) (ah:List (List Int)) (aa:Int) (ag:List Point) (ae:List Node) (ak:Int) (ai:List (List UInt8×Tree)) (tt:((List Int)×Int)) (ee:Exit) (Z:Env) (O:Sto):Prop:=match tt with
 | (l,aj)=>ee=.exit 0/\EE cx (bH [(3,vO 5000)] [(5000,.row 1 3 (List.map (rI .i64) l)),(1000000,.box [dI aj,.own 1000001,dI aa,dR2 ag,dR1 ae,dI ak,.map 1000002]),(1000001,.row 1 26 (List.map (rS 1 (rI .i64)) ah)),(1000002,mOb .str kS (uA Tree.row) ai)]) Z O
theorem o5 (cx:Cx) (hn:cx.n=29) (_hk:cx.k=3) (ah:List (List Int)) (aa:Int) (ag:List Point) (ae:List Node) (ak:Int) (ai:List (List UInt8×Tree)) {fu:Nat} {stt:Int×(List Int)×Int} {tt:((List Int)×Int)} (hh:ba (cS ah aa ag ae ak ai) fu stt=some tt) {Z:Env} {O:Sto}
  (hE:jk (fun stt:Int×(List Int)×Int=>match stt with | (a,_l,_aj)=>[(0,vX 1000000),(3,vO 5000),(7,vI ak),(8,vI a)]) (fun stt:Int×(List Int)×Int=>match stt with | (_a,l,aj)=>[(5000,.row 1 3 (List.map (rI .i64) l)),(1000000,.box [dI aj,.own 1000001,dI aa,dR2 ag,dR1 ae,dI ak,.map 1000002]),(1000001,.row 1 26 (List.map (rS 1 (rI .i64)) ah)),(1000002,mOb .str kS (uA Tree.row) ai)]) stt Z O):Swp Tryz.prog cx (.loop (cC [1,1,0,1,0,0] (bD Tryz.f48))) Z O (gl cx ah aa ag ae ak ai tt):=by
 refine bN hE hh (gl cx ah aa ag ae ak ai) ?_
 rintro⟨a,l,aj⟩ r hm Z O hf
 simp only[Fits,bB,bA,and_true] at hf
 unfold cS at hm
 dsimp only at hm
 refine srs hn ?_
 simp -dsimp [hf]
 refine aZ ?_
 rcases bz hm with ⟨c1,hm⟩ | ⟨c1,hm⟩
 ·refine b9 (by simp -dsimp) c1 ?_
  refine b0 (aY (aZ (b7 ?_)))
  refine srs hn ?_
  simp -dsimp [hf,c1]
  refine sr1 hn ?_
  obtain⟨l1,h2,hm⟩:=bnd hm
  obtain⟨h2a,h2e⟩:=bQ h2
  replace h2e:=h2e.symm
  subst h2e
  try simp only[List.length_cons,List.length_nil,Nat.zero_add] at h2a
  simp -dsimp [hf,h2a]
  refine cr ?_
  refine aY ?_
  refine sr1 hn ?_
  simp -dsimp [hf]
  cases hm
  refine d8 ?_
  refine emv 26 5000 ?_
  exact zz
 ·exact zz
theorem kg (ab:Int) (ah:List (List Int)) (aa:Int) (ag:List Point) (ae:List Node) (ak:Int) (ai:List (List UInt8×Tree)) (r:(List Int)×Int) (hm:di ab ah aa ag ae ak ai=some r):GFn Tryz.prog 48 [vX 1000000] [.box [dI ab,.own 1000001,dI aa,dR2 ag,dR1 ae,dI ak,.map 1000002],.row 1 26 (List.map (rS 1 (rI .i64)) ah),mOb .str kS (uA Tree.row) ai] (.u (.one (dL r.1))) [some (.box [dI r.2,.own 1000001,dI aa,dR2 ag,dR1 ae,dI ak,.map 1000002]),some (.row 1 26 (List.map (rS 1 (rI .i64)) ah)),some (mOb .str kS (uA Tree.row) ai)]:=by
 refine dm bO _ Tryz.func48 rfl (by kernel_rfl) (by simp[Tryz.ntmps48]) (by simp) (by first | rfl | simp) (by first | rfl | simp) fun cx hn hk=>?_
 replace hn:cx.n=29:=hn.trans Tryz.ntmps48
 replace hk:cx.k=3:=hk
 unfold di at hm
 refine srs hn ?_
 simp -dsimp
 refine srs hn ?_
 simp -dsimp
 refine aZ ?_
 refine srs hn ?_
 simp -dsimp
 refine b7 ?_
 obtain⟨⟨l,aj⟩,g3,hm⟩:=bnd hm
 refine bG (o5 cx hn hk ah aa ag ae ak ai g3) (by
   try dsimp only
   refine EE.step (Wk.own0 3 5000 1 3 (by simp -dsimp) (by decide)) ?_
   exact zz
 ) fun ee Z O xx=>?_
 unfold gl at xx
 dsimp only at xx
 obtain⟨rfl,xx⟩:=xx
 refine bK ?_
 refine aY ?_
 refine see xx fun Z O hf=>?_
 simp only[Fits,bB,bA,and_true] at hf
 refine srs hn ?_
 simp -dsimp [hf]
 cases hm
 exact bC ⟨.inr rfl,EE.here (by simp -dsimp [hf])⟩
section
attribute [-simp] List.map_set List.set_set
def kC (cx:Cx) (_cv:Int) (_y:List Int) (tt:(List Int)) (ee:Exit) (Z:Env) (O:Sto):Prop:=match tt with
 | l=>ee=.exit 0/\EE cx (bH [(5,vO 8)] [(8,.row 1 3 (List.map (rI .i64) l))]) Z O
instance l_unroll_against_1 (cv y) {fu stt tt}:LtP (ba (eW cv y) fu stt=some tt) (lp 29 stt (fun | (a,_l)=>[(1,vI cv),(5,vO 8),(10,vI (b8 y)),(11,vI a)]) (fun | (_a,l)=>[(8,.row 1 3 (List.map (rI .i64) l))]) (cC [1,1,0,1,0,0] (bD Tryz.f49)) fun cx=>kC cx cv y tt):=⟨fun hh cx hn Z O hE=>by
 refine bN hE hh (kC cx cv y) ?_
 rintro⟨a,l⟩ r hm Z O hf
 simp only[Fits,bB,bA,and_true] at hf
 unfold eW at hm
 dsimp only at hm
 refine srs hn ?_
 simp -dsimp [hf]
 refine aZ ?_
 rcases bz hm with ⟨c2,hm⟩ | ⟨c2,hm⟩
 ·refine b9 (by simp -dsimp) c2 ?_
  refine b0 (aY ?_)
  obtain⟨l1,j6,hm⟩:=bnd hm
  refine scE [(1,vI cv),(5,vO 8),(10,vI (b8 y)),(11,vI a)] [(8,.row 1 3 (List.map (rI .i64) l1))] ?_ fun Z O hf=>?_
  ·replace hm:=j6
   clear j6
   refine b7 ?_
   refine srs hn ?_
   simp -dsimp [hf,c2]
   refine srs hn ?_
   obtain⟨n,h3,hm⟩:=bnd hm
   simp -dsimp [hf,h3]
   rcases bz hm with ⟨c4,hm⟩ | ⟨c4,hm⟩
   ·refine b9 (by simp -dsimp) c4 ?_
    refine sr1 hn ?_
    obtain⟨x,h5,hm⟩:=bnd hm
    simp -dsimp [hf,c4,h5,da h5,rsetI .i64 l a.toNat (cz .i64 x)]
    refine cr ?_
    cases hm
    exact EE.here (by simp -dsimp [hf])
   ·refine bf (by simp -dsimp) c4 ?_
    refine b0 ?_
    refine cr ?_
    cases hm
    exact EE.here (by simp -dsimp [hf,c4])
  ·clear j6
   exact zz
 ·exact zz⟩
instance c_unroll_against (vars cv r):CtP (fS vars cv=some r) (bc Tryz.prog 49 [.u (.one (dL vars)),vI cv] (.u (.one (dL r)))):=⟨fun hm=>by
 refine cu Tryz.func49 Tryz.ntmps49 fun cx hn=>?_
 unfold fS at hm
 refine srs hn ?_
 simp -dsimp
 refine srs hn ?_
 obtain⟨y,h1,hm⟩:=bnd hm
 simp -dsimp
 refine callL_new (eF vars y h1) (dkL hn) (by decide) ?_
 simp -dsimp
 refine aZ ?_
 refine srs hn ?_
 simp -dsimp
 refine b7 ?_
 obtain⟨l,g7,hm⟩:=bnd hm
 refine bG (LtP.pf g7 cx hn) (by
   try dsimp only
   exact EE.here (by simp -dsimp)
 ) fun ee Z O xx=>?_
 unfold kC at xx
 dsimp only at xx
 obtain⟨rfl,xx⟩:=xx
 refine bK ?_
 refine aY ?_
 refine see xx fun Z O hf=>?_
 simp only[Fits,bB,bA,and_true] at hf
 refine srs hn ?_
 simp -dsimp [hf]
 refine bC ?_
 cases hm
 refine⟨.inr rfl,?_⟩
 exact EE.here (by simp -dsimp [hf])⟩
end
theorem eL (ab:Int) (ah:List (List Int)) (aa:Int) (ag:List Point) (ae:List Node) (ak:Int) (ai:List (List UInt8×Tree)) (l:List Int) (r:Unit) (hm:cp ab ah aa ag ae ak ai l=some r):GFn Tryz.prog 41 [vX 1000000,.u (.one (dL l))] [.box [dI ab,.own 1000001,dI aa,dR2 ag,dR1 ae,dI ak,.map 1000002],.row 1 26 (List.map (rS 1 (rI .i64)) ah),mOb .str kS (uA Tree.row) ai] (.tup []) [some (.box [dI ab,.own 1000003,dI aa,dR2 ag,dR1 ae,dI ak,.map 1000002]),none,some (mOb .str kS (uA Tree.row) ai),some (.row 1 26 (List.map (rS 1 (rI .i64)) (ah++[l])))]:=by
 refine dm bO _ Tryz.func41 rfl (by kernel_rfl) (by simp[Tryz.ntmps41]) (by simp) (by first | rfl | simp) (by first | rfl | simp) fun cx hn hk=>?_
 replace hn:cx.n=16:=hn.trans Tryz.ntmps41
 replace hk:cx.k=3:=hk
 unfold cp at hm
 refine sr1 hn ?_
 obtain⟨l1,h1,hm⟩:=bnd hm
 obtain⟨h1a,h1e⟩:=bQ h1
 replace h1e:=h1e.symm
 subst h1e
 try simp only[List.length_cons,List.length_nil,Nat.zero_add] at h1a
 simp -dsimp [h1a]
 cases hm
 try refine⟨.inl rfl,?_⟩
 refine emr 12 1000003 hk ?_
 exact zz
end Go.Proofs.YtjlckgeecihpbaaGreatDoor
namespace Go.Proofs.YtjlckgeecihpbaaGreatDoor
open Go.AM Go.Proofs
set_option maxRecDepth 100000
attribute [-simp] ey eY i7 Ob.wipe Ob.ren Ob.frz1
def gA (cx:Cx) (ah:List (List Int)) (aa:Int) (ag:List Point) (ae:List Node) (ak:Int) (ai:List (List UInt8×Tree)) (box:Box) (tt:((List Bi)×Int)) (ee:Exit) (Z:Env) (O:Sto):Prop:=match tt with
 | (l,aj)=>ee=.exit 0/\EE cx (bH [(0,vX 1000000),(4,vX 4),(5,vX 5)] [(4,.box [dI 0,dI 0,dI 0,dI 0,.d .nil]),(5,.box [dI box.X,dI box.Y,dI box.W,dI box.H,.own 5000]),(5000,.row 2 72 (List.map Bi.row l)),(1000000,.box [dI aj,.own 1000001,dI aa,dR2 ag,dR1 ae,dI ak,.map 1000002]),(1000001,.row 1 26 (List.map (rS 1 (rI .i64)) ah)),(1000002,mOb .str kS (uA Tree.row) ai)]) Z O
set_option maxHeartbeats 1000000 in
theorem o9 (cx:Cx) (hn:cx.n=56) (_hk:cx.k=3) (ah:List (List Int)) (aa:Int) (ag:List Point) (ae:List Node) (ak:Int) (ai:List (List UInt8×Tree)) (box:Box) {fu:Nat} {stt:Int×(List Bi)×Int} {tt:((List Bi)×Int)} (hh:ba (cX ah aa ag ae ak ai box) fu stt=some tt) {Z:Env} {O:Sto}
  (hE:jk (fun stt:Int×(List Bi)×Int=>match stt with | (a,_l,_aj)=>[(0,vX 1000000),(4,vX 4),(5,vX 5),(15,vI (ck .i64 box.W box.H)),(16,vI a)]) (fun stt:Int×(List Bi)×Int=>match stt with | (_a,l,aj)=>[(4,.box [dI 0,dI 0,dI 0,dI 0,.d .nil]),(5,.box [dI box.X,dI box.Y,dI box.W,dI box.H,.own 5000]),(5000,.row 2 72 (List.map Bi.row l)),(1000000,.box [dI aj,.own 1000001,dI aa,dR2 ag,dR1 ae,dI ak,.map 1000002]),(1000001,.row 1 26 (List.map (rS 1 (rI .i64)) ah)),(1000002,mOb .str kS (uA Tree.row) ai)]) stt Z O):Swp Tryz.prog cx (.loop (cC [1,1,0,1,0,0] (bD Tryz.f18))) Z O (gA cx ah aa ag ae ak ai box tt):=by
 refine bN hE hh (gA cx ah aa ag ae ak ai box) ?_
 rintro⟨a,l,aj⟩ r hm Z O hf
 simp only[Fits,bB,bA,and_true] at hf
 unfold cX at hm
 dsimp only at hm
 refine srs hn ?_
 simp -dsimp [hf]
 refine aZ ?_
 rcases bz hm with ⟨c1,hm⟩ | ⟨c1,hm⟩
 ·refine b9 (by simp -dsimp) c1 ?_
  refine b0 (aY (aZ (b7 ?_)))
  refine sw_midc bO mixed 3 4 6 0 [[0,1]] [[]] [true,true] none (by rw[hn]; kernel_rfl) ep ?_
  dsimp only [List.take,List.drop,gz,gP,jl,pk,List.cons_append,List.nil_append,List.flatten_cons,List.flatten_nil,dY,dW,List.append_nil]
  obtain⟨y,h2,hm⟩:=bnd hm
  simp -dsimp [hf,c1]
  refine mN (kg aj ah aa ag ae ak ai y h2) [1000000,1000001,1000002] [] rfl rfl rfl (by simp -dsimp) rfl (by simp -dsimp [hf]) (by first | rfl | simp) rfl (dkL hn) rfl rfl (by simp) nofun (by simp) ?_
  obtain⟨u,h3,hm⟩:=bnd hm
  obtain⟨l1,h4,hm⟩:=bnd hm
  obtain⟨h4a,h4e⟩:=bQ h4
  replace h4e:=h4e.symm
  subst h4e
  try simp only[List.length_cons,List.length_nil,Nat.zero_add] at h4a
  simp -dsimp [hf,h4a]
  refine cr ?_
  refine aY ?_
  refine sr1 hn ?_
  simp -dsimp [hf]
  cases hm
  refine d8 ?_
  refine emv 24 5000 ?_
  exact EE.here (by simp -dsimp [hf,gu h3 1 (rI .i64)])
 ·exact zz
def gC (cx:Cx) (aa:Int) (ag:List Point) (ae:List Node) (ak:Int) (ai:List (List UInt8×Tree)) (box:Box) (l:List Bi) (aj a:Int) (_x:Bi) (tt:(List (List Int))) (ee:Exit) (Z:Env) (O:Sto):Prop:=match tt with
 | l2=>ee=.exit 4/\EE cx (bH [(0,vX 1000000),(4,vX 4),(5,vX 5),(28,vO 5000),(29,vI (b8 l)),(30,vI a)] [(4,.box [dI 0,dI 0,dI 0,dI 0,.d .nil]),(5,.box [dI box.X,dI box.Y,dI box.W,dI box.H,.own 5000]),(5000,.row 2 72 (List.map Bi.row l)),(5002,.row 1 26 (List.map (rS 1 (rI .i64)) l2)),(1000000,.box [dI aj,.own 5002,dI aa,dR2 ag,dR1 ae,dI ak,.map 1000002]),(1000002,mOb .str kS (uA Tree.row) ai)]) Z O
set_option maxHeartbeats 1000000 in
theorem oc (cx:Cx) (hn:cx.n=56) (_hk:cx.k=3) (aa:Int) (ag:List Point) (ae:List Node) (ak:Int) (ai:List (List UInt8×Tree)) (box:Box) (l:List Bi) (aj a:Int) (x:Bi) {fu:Nat} {stt:Int×(List (List Int))} {tt:(List (List Int))} (hh:ba (cE aa ag ae ak ai box l aj a x) fu stt=some tt) {Z:Env} {O:Sto}
  (hE:jk (fun stt:Int×(List (List Int))=>match stt with | (cv,_l2)=>[(0,vX 1000000),(4,vX 4),(5,vX 5),(7,vX 7),(8,vI cv),(28,vO 5000),(29,vI (b8 l)),(30,vI a)]) (fun stt:Int×(List (List Int))=>match stt with | (_cv,l2)=>[(4,.box [dI 0,dI 0,dI 0,dI 0,.d .nil]),(5,.box [dI box.X,dI box.Y,dI box.W,dI box.H,.own 5000]),(7,.box [dI x.constant,.d (pnil 1 (List.map (rI .i64) x.vars))]),(5000,.row 2 72 (List.map Bi.row l)),(5002,.row 1 26 (List.map (rS 1 (rI .i64)) l2)),(1000000,.box [dI aj,.own 5002,dI aa,dR2 ag,dR1 ae,dI ak,.map 1000002]),(1000002,mOb .str kS (uA Tree.row) ai)]) stt Z O):Swp Tryz.prog cx (.loop (cC [1,1,1,0,1,0,0,1,1,0,0,1,1,0,0] (bD Tryz.f18))) Z O (gC cx aa ag ae ak ai box l aj a x tt):=by
 refine bN hE hh (gC cx aa ag ae ak ai box l aj a x) ?_
 rintro⟨cv,l2⟩ r hm Z O hf
 simp only[Fits,bB,bA,and_true] at hf
 unfold cE at hm
 dsimp only at hm
 refine aZ ?_
 refine srs hn ?_
 obtain⟨n,h8,hm⟩:=bnd hm
 simp -dsimp [hf,h8]
 rcases bz hm with ⟨c9,hm⟩ | ⟨c9,hm⟩
 ·refine b9 (by simp -dsimp) c9 ?_
  refine b0 (aY (aZ (b7 ?_)))
  refine sr1 hn ?_
  obtain⟨u,h10,hm⟩:=bnd hm
  obtain⟨y,h11,hm⟩:=bnd hm
  simp -dsimp [hf,c9,gu h10 1 (rI .i64)]
  refine bi (CtP.pf h11) (dkL hn) ?_
  obtain⟨y1,h12,hm⟩:=bnd hm
  simp -dsimp
  refine clg (eL aj l2 aa ag ae ak ai y y1 h12) [1000000,5002,1000002] [5001] (by simp -dsimp [hf]) (dkL hn) ?_
  simp -dsimp [gu h10 1 (rI .i64)]
  refine cr ?_
  refine aY ?_
  refine sr1 hn ?_
  simp -dsimp [hf]
  cases hm
  refine d8 ?_
  refine emv 5001 5002 ?_
  exact zz
 ·exact zz
def eM (cx:Cx) (aa:Int) (ag:List Point) (ae:List Node) (ak:Int) (ai:List (List UInt8×Tree)) (box:Box) (l:List Bi) (aj:Int) (tt:(List (List Int))) (ee:Exit) (Z:Env) (O:Sto):Prop:=match tt with
 | l1=>ee=.exit 2/\EE cx (bH [(4,vX 4),(5,vX 5)] [(4,.box [dI 0,dI 0,dI 0,dI 0,.d .nil]),(5,.box [dI box.X,dI box.Y,dI box.W,dI box.H,.own 5000]),(5000,.row 2 72 (List.map Bi.row l)),(5002,.row 1 26 (List.map (rS 1 (rI .i64)) l1)),(1000000,.box [dI aj,.own 5002,dI aa,dR2 ag,dR1 ae,dI ak,.map 1000002]),(1000002,mOb .str kS (uA Tree.row) ai)]) Z O
set_option maxHeartbeats 1000000 in
theorem od (cx:Cx) (hn:cx.n=56) (hk:cx.k=3) (aa:Int) (ag:List Point) (ae:List Node) (ak:Int) (ai:List (List UInt8×Tree)) (box:Box) (l:List Bi) (aj:Int) {fu:Nat} {stt:Int×(List (List Int))} {tt:(List (List Int))} (hh:ba (cW aa ag ae ak ai box l aj) fu stt=some tt) {Z:Env} {O:Sto}
  (hE:jk (fun stt:Int×(List (List Int))=>match stt with | (a,_l1)=>[(0,vX 1000000),(4,vX 4),(5,vX 5),(28,vO 5000),(29,vI (b8 l)),(30,vI a)]) (fun stt:Int×(List (List Int))=>match stt with | (_a,l1)=>[(4,.box [dI 0,dI 0,dI 0,dI 0,.d .nil]),(5,.box [dI box.X,dI box.Y,dI box.W,dI box.H,.own 5000]),(5000,.row 2 72 (List.map Bi.row l)),(5002,.row 1 26 (List.map (rS 1 (rI .i64)) l1)),(1000000,.box [dI aj,.own 5002,dI aa,dR2 ag,dR1 ae,dI ak,.map 1000002]),(1000002,mOb .str kS (uA Tree.row) ai)]) stt Z O):Swp Tryz.prog cx (.loop (cC [1,1,1,0,1,0,0] (bD Tryz.f18))) Z O (eM cx aa ag ae ak ai box l aj tt):=by
 refine bN hE hh (eM cx aa ag ae ak ai box l aj) ?_
 rintro⟨a,l1⟩ r hm Z O hf
 simp only[Fits,bB,bA,and_true] at hf
 unfold cW at hm
 dsimp only at hm
 refine srs hn ?_
 simp -dsimp [hf]
 refine aZ ?_
 rcases bz hm with ⟨c6,hm⟩ | ⟨c6,hm⟩
 ·refine b9 (by simp -dsimp) c6 ?_
  refine b0 (aY (aZ (b7 ?_)))
  refine srs hn ?_
  obtain⟨x,h7,hm⟩:=bnd hm
  simp -dsimp [hf,c6,h7,da h7]
  refine srs hn ?_
  simp -dsimp [hf]
  refine b7 ?_
  obtain⟨l2,g13,hm⟩:=bnd hm
  refine bG (oc cx hn hk aa ag ae ak ai box l aj a x g13) (by
    try dsimp only
    exact EE.here (by simp -dsimp [hf])
  ) fun ee Z O xx=>?_
  unfold gC at xx
  dsimp only at xx
  obtain⟨rfl,xx⟩:=xx
  refine bK ?_
  refine cr ?_
  refine aY ?_
  refine see xx fun Z O hf=>?_
  simp only[Fits,bB,bA,and_true] at hf
  refine sr1 hn ?_
  simp -dsimp [hf]
  cases hm
  refine d8 ?_
  exact EE.here (by simp -dsimp [hf])
 ·refine bf (by simp -dsimp) c6 ?_
  refine swp_exit ?_
  refine fI ?_
  cases hm
  refine rd_out nofun ?_
  exact⟨rfl,EE.here (by simp -dsimp [hf,c6])⟩
set_option maxHeartbeats 1000000 in
theorem kW (ab:Int) (ah:List (List Int)) (aa:Int) (ag:List Point) (ae:List Node) (ak:Int) (ai:List (List UInt8×Tree)) (box:Box) (r:(List Bi)×(List (List Int))×Int) (hm:dw ab ah aa ag ae ak ai box=some r):GFn Tryz.prog 18 [vX 1000000,.u (.agg [dI box.X,dI box.Y,dI box.W,dI box.H])] [.box [dI ab,.own 1000001,dI aa,dR2 ag,dR1 ae,dI ak,.map 1000002],.row 1 26 (List.map (rS 1 (rI .i64)) ah),mOb .str kS (uA Tree.row) ai] (.u (.agg [dI box.X,dI box.Y,dI box.W,dI box.H,dR3 r.1])) [some (.box [dI r.2.2,.own 1000003,dI aa,dR2 ag,dR1 ae,dI ak,.map 1000002]),none,some (mOb .str kS (uA Tree.row) ai),some (.row 1 26 (List.map (rS 1 (rI .i64)) r.2.1))]:=by
 refine dm bO _ Tryz.func18 rfl (by kernel_rfl) (by simp[Tryz.ntmps18]) (by simp) (by first | rfl | simp) (by first | rfl | simp) fun cx hn hk=>?_
 replace hn:cx.n=56:=hn.trans Tryz.ntmps18
 replace hk:cx.k=3:=hk
 unfold dw at hm
 refine srs hn ?_
 simp -dsimp
 refine srs hn ?_
 simp -dsimp
 refine aZ ?_
 refine srs hn ?_
 simp -dsimp
 refine b7 ?_
 obtain⟨⟨l,aj⟩,g5,hm⟩:=bnd hm
 refine bG (o9 cx hn hk ah aa ag ae ak ai box g5) (by
   try dsimp only
   refine EE.step (Wk.own0b 5 4 5000 2 72 [dI box.X,dI box.Y,dI box.W,dI box.H,.d .nil] (by simp -dsimp) (by rfl) (by decide) (by decide)) ?_
   exact zz
 ) fun ee Z O xx=>?_
 unfold gA at xx
 dsimp only at xx
 obtain⟨rfl,xx⟩:=xx
 refine bK ?_
 refine aY ?_
 refine see xx fun Z O hf=>?_
 simp only[Fits,bB,bA,and_true] at hf
 refine aZ ?_
 refine srs hn ?_
 simp -dsimp [hf]
 refine b7 ?_
 obtain⟨l1,g14,hm⟩:=bnd hm
 refine bG (od cx hn hk aa ag ae ak ai box l aj g14) (by
   try dsimp only
   refine emv 1000001 5002 ?_
   exact zz
 ) fun ee Z O xx=>?_
 unfold eM at xx
 dsimp only at xx
 obtain⟨rfl,xx⟩:=xx
 refine bK ?_
 refine aY ?_
 refine see xx fun Z O hf=>?_
 simp only[Fits,bB,bA,and_true] at hf
 refine Swp.pre (Wk.frz 5000 2 72 (List.map Bi.row l) (by simp -dsimp [hf])) ?_
 refine srs hn ?_
 simp -dsimp [hf]
 refine bC ?_
 cases hm
 refine⟨.inr rfl,?_⟩
 refine emr 5002 1000003 hk ?_
 exact zz
instance c_point_in (n r):CtP (lQ n=some r) (bc Tryz.prog 77 [vI n] (vT r)):=⟨fun hm=>by
 refine cu Tryz.func77 Tryz.ntmps77 fun cx hn=>?_
 unfold lQ at hm
 refine srs hn ?_
 simp -dsimp
 obtain⟨a,j2,hm⟩:=bnd hm
 refine scE [(2,vT a)] [] ?_ fun Z O hf=>?_
 ·replace hm:=j2
  clear j2
  exact zz
 ·clear j2
  exact zz⟩
instance c_point_Right (b r):CtP (kc b=some r) (bc Tryz.prog 50 [.u (.agg [dI b.X,dI b.Y,dI b.W,dI b.H])] (vT r)):=⟨fun hm=>by
 refine cu Tryz.func50 Tryz.ntmps50 fun cx hn=>?_
 unfold kc at hm
 refine srs hn ?_
 simp -dsimp
 obtain⟨a,j12,hm⟩:=bnd hm
 refine scE [(2,vT a)] [] ?_ fun Z O hf=>?_
 ·replace hm:=j12
  clear j12
  exact zz
 ·clear j12
  exact zz⟩
instance c_symmetry_Apply (k p r):CtP (ic k p=some r) (bc Tryz.prog 52 [vI k,.u (.agg [dI p.X,dI p.Y])] (.u (.agg [dI r.X,dI r.Y]))):=⟨fun hm=>by
 refine cu Tryz.func52 Tryz.ntmps52 fun cx hn=>?_
 unfold ic at hm
 refine srs hn ?_
 simp -dsimp
 refine srs hn ?_
 obtain⟨x,h1,hm⟩:=bnd hm
 simp -dsimp [aidx_ok h1,g0_get h1]
 refine srs hn ?_
 simp -dsimp [(@id (aok 4 0=true) rfl),(@id (aok 4 1=true) rfl),(@id (aok 4 2=true) rfl),(@id (aok 4 3=true) rfl)]
 refine bC ?_
 cases hm
 refine⟨.inr rfl,?_⟩
 exact EE.here (by simp -dsimp)⟩
instance c_symmetry_Turn (k b r):CtP (mC k b=some r) (bc Tryz.prog 51 [vI k,.u (.agg [dI b.X,dI b.Y,dI b.W,dI b.H])] (.u (.agg [dI r.X,dI r.Y,dI r.W,dI r.H]))):=⟨fun hm=>by
 refine cu Tryz.func51 Tryz.ntmps51 fun cx hn=>?_
 unfold mC at hm
 refine srs hn ?_
 simp -dsimp
 refine aZ ?_
 refine srs hn ?_
 obtain⟨y,h1,hm⟩:=bnd hm
 simp -dsimp
 refine bi (CtP.pf h1) (dkL hn) ?_
 simp -dsimp
 rcases bz hm with ⟨c2,hm⟩ | ⟨c2,hm⟩
 ·refine b9 (by simp -dsimp) c2 ?_
  refine srs hn ?_
  simp -dsimp [c2]
  refine bC (fI ?_)
  cases hm
  refine⟨.inr rfl,?_⟩
  exact EE.here (by simp -dsimp)
 ·refine bf (by simp -dsimp) c2 ?_
  refine b0 (aY ?_)
  refine srs hn ?_
  obtain⟨y1,h3,hm⟩:=bnd hm
  simp -dsimp [c2]
  refine bi (CtP.pf h3) (dkL hn) ?_
  simp -dsimp
  refine srs hn ?_
  obtain⟨y2,h4,hm⟩:=bnd hm
  simp -dsimp
  refine bi (CtP.pf h4) (dkL hn) ?_
  simp -dsimp
  refine iM bO mixed (by rw[hn]; kernel_rfl) ?_
  simp -dsimp
  refine srs hn ?_
  simp -dsimp
  refine bC ?_
  cases hm
  refine⟨.inr rfl,?_⟩
  exact EE.here (by simp -dsimp)⟩
instance c_symmetry_Within (k b p r):CtP (fe k b p=some r) (bc Tryz.prog 19 [vI k,.u (.agg [dI b.X,dI b.Y,dI b.W,dI b.H]),.u (.agg [dI p.X,dI p.Y])] (.u (.agg [dI r.X,dI r.Y]))):=⟨fun hm=>by
 refine cu Tryz.func19 Tryz.ntmps19 fun cx hn=>?_
 unfold fe at hm
 refine srs hn ?_
 simp -dsimp
 refine aZ ?_
 obtain⟨a,j7,hm⟩:=bnd hm
 refine scE [(0,vI k),(4,vX 4),(5,vX 5),(6,vX 6),(20,vT a)] [(4,.box [dI b.X,dI b.Y,dI b.W,dI b.H]),(5,.box [dI p.X,dI p.Y]),(6,.box [dI 0,dI 0])] ?_ fun Z O hf=>?_
 ·replace hm:=j7
  clear j7
  exact zz
 ·clear j7
  simp only[Fits,bB,bA,and_true] at hf
  rcases bz hm with ⟨c4,hm⟩ | ⟨c4,hm⟩
  ·exact zz
  ·refine bf (by simp -dsimp [hf]) c4 ?_
   refine b0 (aY ?_)
   refine ja bO mixed 6 7 8 7 [[0,1,2,3,4,5]] [[7]] [false] (some (8,.box [dI 0,dI 0])) (by rw[hn]; kernel_rfl) (fltT_some 74 _ (by kernel_rfl) rfl rfl rfl (by simp[C.wipe])) ?_
   dsimp only [List.take,List.drop,gz,gP,jl,pk,List.cons_append,List.nil_append,List.flatten_cons,List.flatten_nil,dY,dW,List.append_nil]
   obtain⟨y,h5,hm⟩:=bnd hm
   simp -dsimp [hf]
   refine br (CtP.pf h5) ?_
   obtain⟨y1,h6,hm⟩:=bnd hm
   simp -dsimp [hf]
   refine br (CtP.pf h6) ?_
   simp -dsimp [hf]
   refine br (CtP.pf h5) ?_
   simp -dsimp [hf]
   refine br (CtP.pf h6) ?_
   simp -dsimp
   refine srs hn ?_
   simp -dsimp [hf]
   refine bC ?_
   cases hm
   refine⟨.inr rfl,?_⟩
   exact EE.here (by simp -dsimp [hf])⟩
instance c_unroll_field_at (f x y r):CtP (dS f x y=some r) (bc Tryz.prog 21 [.u (.agg [dI f.box.X,dI f.box.Y,dI f.box.W,dI f.box.H,dR3 f.values]),vI x,vI y] (.u (.agg [dI r.constant,.d (pnil 1 (List.map (rI .i64) r.vars))]))):=⟨fun hm=>by
 refine cu Tryz.func21 Tryz.ntmps21 fun cx hn=>?_
 unfold dS at hm
 refine srs hn ?_
 simp -dsimp
 refine iM bO mixed (by rw[hn]; kernel_rfl) ?_
 simp -dsimp
 refine aZ ?_
 obtain⟨a,j6,hm⟩:=bnd hm
 refine scE [(1,vI (bL .i64 x f.box.X)),(2,vI (bL .i64 y f.box.Y)),(3,vX 3),(6,vX 6),(36,vT a)] [(3,.box [dI f.box.X,dI f.box.Y,dI f.box.W,dI f.box.H,dR3 f.values]),(6,.box [dI 0,.d .nil])] ?_ fun Z O hf=>?_
 ·replace hm:=j6
  clear j6
  exact zz
 ·clear j6
  exact zz⟩
def gB (cx:Cx) (ab aa:Int) (ag:List Point) (ae:List Node) (ak:Int) (ai:List (List UInt8×Tree)) (_x _y:List Int) (tt:(List (List Int))) (ee:Exit) (Z:Env) (O:Sto):Prop:=match tt with
 | l=>ee=.exit 0/\EE cx (bH [] [(5002,.row 1 26 (List.map (rS 1 (rI .i64)) l)),(1000000,.box [dI ab,.own 5002,dI aa,dR2 ag,dR1 ae,dI ak,.map 1000002]),(1000002,mOb .str kS (uA Tree.row) ai)]) Z O
theorem oh (cx:Cx) (hn:cx.n=37) (_hk:cx.k=3) (ab aa:Int) (ag:List Point) (ae:List Node) (ak:Int) (ai:List (List UInt8×Tree)) (x y:List Int) {fu:Nat} {stt:Int×(List (List Int))} {tt:(List (List Int))} (hh:ba (dN ab aa ag ae ak ai x y) fu stt=some tt) {Z:Env} {O:Sto}
  (hE:jk (fun stt:Int×(List (List Int))=>match stt with | (a,_l)=>[(0,vX 1000000),(1,.u (.one (dL x))),(2,.u (.one (dL y))),(8,vI (b8 x)),(9,vI a)]) (fun stt:Int×(List (List Int))=>match stt with | (_a,l)=>[(5002,.row 1 26 (List.map (rS 1 (rI .i64)) l)),(1000000,.box [dI ab,.own 5002,dI aa,dR2 ag,dR1 ae,dI ak,.map 1000002]),(1000002,mOb .str kS (uA Tree.row) ai)]) stt Z O):Swp Tryz.prog cx (.loop (cC [1,0,0] (bD Tryz.f20))) Z O (gB cx ab aa ag ae ak ai x y tt):=by
 refine bN hE hh (gB cx ab aa ag ae ak ai x y) ?_
 rintro⟨a,l⟩ r hm Z O hf
 simp only[Fits,bB,bA,and_true] at hf
 unfold dN at hm
 dsimp only at hm
 refine srs hn ?_
 simp -dsimp [hf]
 refine aZ ?_
 rcases bz hm with ⟨c1,hm⟩ | ⟨c1,hm⟩
 ·refine b9 (by simp -dsimp) c1 ?_
  refine b0 (aY (aZ (b7 ?_)))
  refine srs hn ?_
  simp -dsimp [hf,c1]
  refine sw_drNs bO mixed 11 (by rw[hn]; kernel_rfl) ?_
  dsimp only [List.take,List.drop]
  obtain⟨x1,h2,hm⟩:=bnd hm
  obtain⟨x2,h3,hm⟩:=bnd hm
  obtain⟨y1,h4,hm⟩:=bnd hm
  simp -dsimp [hf,h2,h3]
  refine clg (eL ab l aa ag ae ak ai [(cz .i64 x1),x2] y1 h4) [1000000,5002,1000002] [5000] (by simp -dsimp [hf]) (dkL hn) ?_
  simp -dsimp
  refine nR bO mixed 11 (by rw[hn]; kernel_rfl) ?_
  dsimp only [List.take,List.drop]
  obtain⟨y2,h5,hm⟩:=bnd hm
  simp -dsimp [hf,h2,h3]
  refine clg (eL ab (l++[[(cz .i64 x1),x2]]) aa ag ae ak ai [x1,(cz .i64 x2)] y2 h5) [1000000,5000,1000002] [5001] (by simp -dsimp) (dkL hn) ?_
  simp -dsimp
  refine cr ?_
  refine aY ?_
  refine sr1 hn ?_
  simp -dsimp [hf]
  cases hm
  refine d8 ?_
  refine emv 5001 5002 ?_
  exact zz
 ·exact zz
theorem kL (ab:Int) (ah:List (List Int)) (aa:Int) (ag:List Point) (ae:List Node) (ak:Int) (ai:List (List UInt8×Tree)) (x y:List Int) (r:List (List Int)) (hm:du ab ah aa ag ae ak ai x y=some r):GFn Tryz.prog 20 [vX 1000000,.u (.one (dL x)),.u (.one (dL y))] [.box [dI ab,.own 1000001,dI aa,dR2 ag,dR1 ae,dI ak,.map 1000002],.row 1 26 (List.map (rS 1 (rI .i64)) ah),mOb .str kS (uA Tree.row) ai] (.tup []) [some (.box [dI ab,.own 1000003,dI aa,dR2 ag,dR1 ae,dI ak,.map 1000002]),none,some (mOb .str kS (uA Tree.row) ai),some (.row 1 26 (List.map (rS 1 (rI .i64)) r))]:=by
 refine dm bO _ Tryz.func20 rfl (by kernel_rfl) (by simp[Tryz.ntmps20]) (by simp) (by first | rfl | simp) (by first | rfl | simp) fun cx hn hk=>?_
 replace hn:cx.n=37:=hn.trans Tryz.ntmps20
 replace hk:cx.k=3:=hk
 unfold du at hm
 refine srs hn ?_
 simp -dsimp
 refine b7 ?_
 obtain⟨l,g6,hm⟩:=bnd hm
 refine bG (oh cx hn hk ab aa ag ae ak ai x y g6) (by
   try dsimp only
   refine emv 1000001 5002 ?_
   exact zz
 ) fun ee Z O xx=>?_
 unfold gB at xx
 dsimp only at xx
 obtain⟨rfl,xx⟩:=xx
 refine bK ?_
 cases hm
 try refine⟨.inl rfl,?_⟩
 refine ee_bind (by rfl) (by rfl) xx fun Z O hf=>?_
 simp only[Fits,bB,bA,and_true,true_and] at hf
 refine emr 5002 1000003 hk ?_
 exact zz
section
attribute [-simp] List.map_set List.set_set
def gZ (cx:Cx) (_next:List Int) (aK:Int) (aR:List Point) (aN:List Node) (a a1:Int) (tt:(List Int)) (ee:Exit) (Z:Env) (O:Sto):Prop:=match tt with
 | aI=>ee=.exit 0/\EE cx (bH [(1,vO 1000000)] [(1000000,.row 1 3 (List.map (rI .i64) aI)),(1000001,.box [dI aK,dR2 aR,dR1 aN]),(1000002,.box [dI a]),(1000003,.box [dI a1])]) Z O
theorem oY (cx:Cx) (hn:cx.n=33) (_hk:cx.k=4) (next:List Int) (aK:Int) (aR:List Point) (aN:List Node) (a a1:Int) {fu:Nat} {stt:Int×(List Int)} {tt:(List Int)} (hh:ba (cL next aK aR aN a a1) fu stt=some tt) {Z:Env} {O:Sto}
  (hE:jk (fun stt:Int×(List Int)=>match stt with | (a2,_aI)=>[(1,vO 1000000),(4,vX 1000003),(17,vI (b8 next)),(18,vI a2)]) (fun stt:Int×(List Int)=>match stt with | (_a2,aI)=>[(1000000,.row 1 3 (List.map (rI .i64) aI)),(1000001,.box [dI aK,dR2 aR,dR1 aN]),(1000002,.box [dI a]),(1000003,.box [dI a1])]) stt Z O):Swp Tryz.prog cx (.loop (cC [1,0,1,0,1,0,0] (bD Tryz.f101))) Z O (gZ cx next aK aR aN a a1 tt):=by
 refine bN hE hh (gZ cx next aK aR aN a a1) ?_
 rintro⟨a2,aI⟩ r hm Z O hf
 simp only[Fits,bB,bA,and_true] at hf
 unfold cL at hm
 dsimp only at hm
 refine srs hn ?_
 simp -dsimp [hf]
 refine aZ ?_
 rcases bz hm with ⟨c2,hm⟩ | ⟨c2,hm⟩
 ·refine b9 (by simp -dsimp) c2 ?_
  refine b0 (aY ?_)
  obtain⟨next2,j6,hm⟩:=bnd hm
  refine scE [(1,vO 1000000),(4,vX 1000003),(17,vI (b8 next)),(18,vI a2)] [(1000000,.row 1 3 (List.map (rI .i64) next2)),(1000001,.box [dI aK,dR2 aR,dR1 aN]),(1000002,.box [dI a]),(1000003,.box [dI a1])] ?_ fun Z O hf=>?_
  ·replace hm:=j6
   clear j6
   refine b7 ?_
   refine srs hn ?_
   simp -dsimp [hf,c2]
   refine srs hn ?_
   simp -dsimp [hf]
   rcases bz hm with ⟨c3,hm⟩ | ⟨c3,hm⟩
   ·refine b9 (by simp -dsimp) c3 ?_
    refine sr1 hn ?_
    obtain⟨x,h4,hm⟩:=bnd hm
    obtain⟨x1,h5,hm⟩:=bnd hm
    simp -dsimp [hf,c3,h4,da h4,h5,da h5,rsetI .i64 aI a2.toNat x]
    refine cr ?_
    cases hm
    exact EE.here (by simp -dsimp [hf])
   ·refine bf (by simp -dsimp) c3 ?_
    refine b0 ?_
    refine cr ?_
    cases hm
    exact EE.here (by simp -dsimp [hf,c3])
  ·clear j6
   exact zz
 ·exact zz
theorem pB (level:Int) (next:List Int) (aK:Int) (aR:List Point) (aN:List Node) (a a1:Int) (r:List Int) (hm:dE level next aK aR aN a a1=some r):GFn Tryz.prog 101 [vI level,vO 1000000,vX 1000001,vX 1000002,vX 1000003] [.row 1 3 (List.map (rI .i64) next),.box [dI aK,dR2 aR,dR1 aN],.box [dI a],.box [dI a1]] (vO 1000000) [some (.row 1 3 (List.map (rI .i64) r)),some (.box [dI aK,dR2 aR,dR1 aN]),some (.box [dI a]),some (.box [dI a1])]:=by
 refine dm bO _ Tryz.func101 rfl (by kernel_rfl) (by simp[Tryz.ntmps101]) (by simp) (by first | rfl | simp) (by first | rfl | simp) fun cx hn hk=>?_
 replace hn:cx.n=33:=hn.trans Tryz.ntmps101
 replace hk:cx.k=4:=hk
 unfold dE at hm
 refine srs hn ?_
 simp -dsimp
 obtain⟨aI,j8,hm⟩:=bnd hm
 refine scE [(1,vO 1000000)] [(1000000,.row 1 3 (List.map (rI .i64) aI)),(1000001,.box [dI aK,dR2 aR,dR1 aN]),(1000002,.box [dI a]),(1000003,.box [dI a1])] ?_ fun Z O hf=>?_
 ·replace hm:=j8
  clear j8
  refine srs hn ?_
  simp -dsimp
  rcases bz hm with ⟨c1,hm⟩ | ⟨c1,hm⟩
  ·refine sct c1 ?_
   refine srs hn ?_
   simp -dsimp [c1]
   refine b7 ?_
   obtain⟨aI,g7,hm⟩:=bnd hm
   refine bG (oY cx hn hk next aK aR aN a a1 g7) (by
     try dsimp only
     exact EE.here (by simp -dsimp)
   ) fun ee Z O xx=>?_
   unfold gZ at xx
   dsimp only at xx
   obtain⟨rfl,xx⟩:=xx
   refine bK ?_
   refine aY ?_
   cases hm
   refine ee_bind (by rfl) (by rfl) xx fun Z O hf=>?_
   simp only[Fits,bB,bA,and_true] at hf
   exact EE.here (by simp -dsimp [hf])
  ·refine scf c1 ?_
   refine b0 (aY ?_)
   cases hm
   exact EE.here (by simp -dsimp [c1])
 ·clear j8
  exact zz
end
def fM (cx:Cx) (az:List Node) (am:List (List UInt8×Int)) (level:Int) (next:List Int) (tt:(List Int)) (ee:Exit) (Z:Env) (O:Sto):Prop:=match tt with
 | keyv=>ee=.exit 0/\EE cx (bH [(0,vX 1000000),(1,vI level),(2,vO 1000003),(7,vO 5002)] [(5002,.row 1 5 (List.map (rI .u8) keyv)),(1000000,.box [.own 1000001,.map 1000002]),(1000001,.row 2 47 (List.map Node.row az)),(1000002,mOb .str kS (uL (L.int .i64)) am),(1000003,.row 1 3 (List.map (rI .i64) next))]) Z O
theorem mY (cx:Cx) (hn:cx.n=68) (_hk:cx.k=4) (az:List Node) (am:List (List UInt8×Int)) (level:Int) (next:List Int) {fu:Nat} {stt:Int×(List Int)} {tt:(List Int)} (hh:ba (ew az am level next) fu stt=some tt) {Z:Env} {O:Sto}
  (hE:jk (fun stt:Int×(List Int)=>match stt with | (a,_keyv)=>[(0,vX 1000000),(1,vI level),(2,vO 1000003),(7,vO 5002),(14,vO 1000003),(15,vI (b8 next)),(16,vI a)]) (fun stt:Int×(List Int)=>match stt with | (_a,keyv)=>[(5002,.row 1 5 (List.map (rI .u8) keyv)),(1000000,.box [.own 1000001,.map 1000002]),(1000001,.row 2 47 (List.map Node.row az)),(1000002,mOb .str kS (uL (L.int .i64)) am),(1000003,.row 1 3 (List.map (rI .i64) next))]) stt Z O):Swp Tryz.prog cx (.loop (cC [1,1,0,1,0,0] (bD Tryz.f96))) Z O (fM cx az am level next tt):=by
 refine bN hE hh (fM cx az am level next) ?_
 rintro⟨a,keyv⟩ r hm Z O hf
 simp only[Fits,bB,bA,and_true] at hf
 unfold ew at hm
 dsimp only at hm
 refine srs hn ?_
 simp -dsimp [hf]
 refine aZ ?_
 rcases bz hm with ⟨c2,hm⟩ | ⟨c2,hm⟩
 ·refine b9 (by simp -dsimp) c2 ?_
  refine b0 (aY (aZ (b7 ?_)))
  refine srs hn ?_
  obtain⟨x,h3,hm⟩:=bnd hm
  simp -dsimp [hf,c2,h3,da h3]
  refine sr1 hn ?_
  obtain⟨l,h4,hm⟩:=bnd hm
  obtain⟨h4a,h4e⟩:=bQ h4
  replace h4e:=h4e.symm
  subst h4e
  try simp only[List.length_cons,List.length_nil,Nat.zero_add] at h4a
  try simp only[Nat.mul_one,Nat.reduceLeDiff] at h4a
  obtain⟨y1,h5,hm⟩:=bnd hm
  simp -dsimp [hf,h4a]
  refine clg (lN (keyv++[32]) x 10 y1 h5) [22] [5001] (by simp -dsimp) (dkL hn) ?_
  simp -dsimp
  refine cr ?_
  refine aY ?_
  refine sr1 hn ?_
  simp -dsimp [hf]
  cases hm
  refine d8 ?_
  refine emv 5001 5002 ?_
  exact zz
 ·exact zz
theorem o6 (az:List Node) (am:List (List UInt8×Int)) (level:Int) (next:List Int) (r:Int×(List (List UInt8×Int))×(List Node)) (hm:dR az am level next=some r):GFn Tryz.prog 96 [vX 1000000,vI level,vO 1000003] [.box [.own 1000001,.map 1000002],.row 2 47 (List.map Node.row az),mOb .str kS (uL (L.int .i64)) am,.row 1 3 (List.map (rI .i64) next)] (vI r.1) [some (.box [.own 1000004,.map 1000002]),none,some (mOb .str kS (uL (L.int .i64)) r.2.1),none,some (.row 2 47 (List.map Node.row r.2.2))]:=by
 refine dm bO _ Tryz.func96 rfl (by kernel_rfl) (by simp[Tryz.ntmps96]) (by simp) (by first | rfl | simp) (by first | rfl | simp) fun cx hn hk=>?_
 replace hn:cx.n=68:=hn.trans Tryz.ntmps96
 replace hk:cx.k=4:=hk
 unfold dR at hm
 refine srs hn ?_
 simp -dsimp
 refine srs hn ?_
 obtain⟨y,h1,hm⟩:=bnd hm
 simp -dsimp
 refine clg (lM level 10 y h1) [] [5000] (by simp -dsimp) (dkL hn) ?_
 simp -dsimp
 refine aZ ?_
 refine srs hn ?_
 simp -dsimp
 refine b7 ?_
 obtain⟨keyv,g6,hm⟩:=bnd hm
 refine bG (mY cx hn hk az am level next g6) (by
   try dsimp only
   refine emv 5000 5002 ?_
   exact zz
 ) fun ee Z O xx=>?_
 unfold fM at xx
 dsimp only at xx
 obtain⟨rfl,xx⟩:=xx
 refine bK ?_
 refine aY ?_
 refine see xx fun Z O hf=>?_
 simp only[Fits,bB,bA,and_true] at hf
 refine aZ ?_
 refine iM bO mixed (by rw[hn]; kernel_rfl) ?_
 obtain⟨u,h7,hm⟩:=bnd hm
 simp -dsimp [hf,nM h7,(@id (lkM (oI (mOb .str kS (uL (L.int .i64)) am) (.str (ofBytes keyv))) true (.one (dI 0))=some (.tup [.one (dI (mgetD am (ofBytes keyv) 0)),.one (.d (.bool (lP am (ofBytes keyv))))])) (lk_two (ofBytes keyv) 0))]
 refine srs hn ?_
 simp -dsimp
 rcases bz hm with ⟨c8,hm⟩ | ⟨c8,hm⟩
 ·refine b9 (b:=(lP am (ofBytes keyv))) (by simp -dsimp) c8 ?_
  refine srs hn ?_
  simp -dsimp [c8]
  refine bC (fI ?_)
  cases hm
  refine⟨.inr rfl,?_⟩
  refine emr 1000001 1000004 hk ?_
  exact zz
 ·refine bf (b:=(lP am (ofBytes keyv))) (by simp -dsimp) c8 ?_
  refine b0 (aY ?_)
  refine Swp.pre (Wk.frz 1000003 1 3 (List.map (rI .i64) next) (by simp -dsimp [hf])) ?_
  refine srs hn ?_
  obtain⟨l,h9,hm⟩:=bnd hm
  obtain⟨h9a,h9e⟩:=bQ h9
  replace h9e:=h9e.symm
  subst h9e
  try simp only[List.length_cons,List.length_nil,Nat.zero_add] at h9a
  simp -dsimp [hf,c8,h9a]
  refine sw_drNs bO mixed 12 (by rw[hn]; kernel_rfl) ?_
  dsimp only [List.take,List.drop]
  simp -dsimp [hf,nM h7,(@id (msetOb (mOb .str kS (uL (L.int .i64)) am) (.str (ofBytes keyv)) (.one (dI (bL .i64 ((b8 az)+1) 1)))=mOb .str kS (uL (L.int .i64)) (msetL am (ofBytes keyv) (bL .i64 ((b8 az)+1) 1))) (mset_ob .str kS (uL (L.int .i64)) am (ofBytes keyv) (bL .i64 ((b8 az)+1) 1)))]
  refine srs hn ?_
  simp -dsimp [hf]
  refine bC ?_
  cases hm
  refine⟨.inr rfl,?_⟩
  refine emr 47 1000004 hk ?_
  exact zz
end Go.Proofs.YtjlckgeecihpbaaGreatDoor
