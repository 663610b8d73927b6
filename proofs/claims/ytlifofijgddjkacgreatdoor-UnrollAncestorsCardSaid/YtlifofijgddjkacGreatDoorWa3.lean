/- That the code does what the functions say (made by cc.py). -/
import Derived.Test.YtlifofijgddjkacGreatDoorWa2
namespace Go.Proofs.YtlifofijgddjkacGreatDoor
open Go.AM Go.Proofs
set_option maxRecDepth 100000
attribute [-simp] eR fS jn Ob.wipe Ob.ren Ob.frz1
section
attribute [-simp] List.map_set List.set_set
def fM (rcv:(Int->(List Int)->(List Node)->(List Node)->Option (Int×(List Int)×(List Node)))):Prop:=∀ (k:Int) (a:List Int) (a1 cv:List Node) (r:Int×(List Int)×(List Node)),rcv k a a1 cv=some r->GFn Tryz.prog 89 [vI k,vX 1000000,vX 1000002,vX 1000003,vX 1000004] [.box [.own 1000001],.row 1 3 (List.map (rI .i64) a),.box [dR1 a1],.box [.fn 89 [.box 1000000 0,.box 1000002 0,.box 1000003 0,.box 1000004 0]],.box [.own 1000005],.row 2 50 (List.map Node.row cv)] (vI r.1) [some (.box [.own 1000001]),some (.row 1 3 (List.map (rI .i64) r.2.1)),some (.box [dR1 a1]),some (.box [.fn 89 [.box 1000000 0,.box 1000002 0,.box 1000003 0,.box 1000004 0]]),some (.box [.own 1000006]),none,some (.row 2 50 (List.map Node.row r.2.2))]
def dX (cx:Cx) (_rcv:(Int->(List Int)->(List Node)->(List Node)->Option (Int×(List Int)×(List Node)))) (k:Int) (a1:List Node) (x1:Node) (_y:List Int) (tt:((List Int)×(List Node)×(List Int))) (ee:Exit) (Z:Env) (O:Sto):Prop:=match tt with
 | (l,l1,l2)=>ee=.exit 0/\EE cx (bY [(0,vI k),(1,vX 1000000),(4,vX 1000004),(7,vX 7)] [(7,.box [dI x1.Level,.own 30]),(30,.row 1 3 (List.map (rI .i64) l)),(5000,.row 2 50 (List.map Node.row l1)),(1000000,.box [.own 1000001]),(1000001,.row 1 3 (List.map (rI .i64) l2)),(1000002,.box [dR1 a1]),(1000003,.box [.fn 89 [.box 1000000 0,.box 1000002 0,.box 1000003 0,.box 1000004 0]]),(1000004,.box [.own 5000])]) Z O
theorem lm (cx:Cx) (hn:cx.n=63) (_hk:cx.k=6) (rcv:(Int->(List Int)->(List Node)->(List Node)->Option (Int×(List Int)×(List Node)))) (k:Int) (a1:List Node) (x1:Node) (y:List Int) (hrcv:fM rcv) {fu:Nat} {stt:Int×(List Int)×(List Node)×(List Int)} {tt:((List Int)×(List Node)×(List Int))} (hh:bh (bR rcv k a1 x1 y) fu stt=some tt) {Z:Env} {O:Sto}
  (hE:cw (fun stt:Int×(List Int)×(List Node)×(List Int)=>match stt with | (a2,_l,_l2,_l1)=>[(0,vI k),(1,vX 1000000),(3,vX 1000003),(4,vX 1000004),(7,vX 7),(33,vO 30),(34,vI (b9 y)),(35,vI a2)]) (fun stt:Int×(List Int)×(List Node)×(List Int)=>match stt with | (_a2,l,l2,l1)=>[(7,.box [dI x1.Level,.own 30]),(30,.row 1 3 (List.map (rI .i64) l)),(5000,.row 2 50 (List.map Node.row l2)),(1000000,.box [.own 1000001]),(1000001,.row 1 3 (List.map (rI .i64) l1)),(1000002,.box [dR1 a1]),(1000003,.box [.fn 89 [.box 1000000 0,.box 1000002 0,.box 1000003 0,.box 1000004 0]]),(1000004,.box [.own 5000])]) stt Z O):Swp Tryz.prog cx (.loop (dx [1,1,1,0,1,0,0] (bQ Tryz.f89))) Z O (dX cx rcv k a1 x1 y tt):=by
 refine cz hE hh (dX cx rcv k a1 x1 y) ?_
 rintro⟨a2,l,l2,l1⟩ r hm Z O hf
 simp only[Fits,bv,bu,and_true] at hf
 unfold bR at hm
 dsimp only at hm
 refine srs hn ?_
 simp -dsimp [hf]
 refine aZ ?_
 rcases bc hm with ⟨c5,hm⟩ | ⟨c5,hm⟩
 ·refine aW (by simp -dsimp) c5 ?_
  refine aY (aU ?_)
  obtain⟨⟨l3,l4,l5⟩,j9,hm⟩:=bnd hm
  refine scE [(0,vI k),(1,vX 1000000),(3,vX 1000003),(4,vX 1000004),(7,vX 7),(33,vO 30),(34,vI (b9 y)),(35,vI a2)] [(7,.box [dI x1.Level,.own 30]),(30,.row 1 3 (List.map (rI .i64) l3)),(5000,.row 2 50 (List.map Node.row l5)),(1000000,.box [.own 1000001]),(1000001,.row 1 3 (List.map (rI .i64) l4)),(1000002,.box [dR1 a1]),(1000003,.box [.fn 89 [.box 1000000 0,.box 1000002 0,.box 1000003 0,.box 1000004 0]]),(1000004,.box [.own 5000])] ?_ fun Z O hf=>?_
  ·replace hm:=j9
   clear j9
   refine b7 ?_
   refine srs hn ?_
   obtain⟨x2,h6,hm⟩:=bnd hm
   simp -dsimp [hf,c5,h6,df h6]
   refine srs hn ?_
   simp -dsimp [hf]
   rcases bc hm with ⟨c7,hm⟩ | ⟨c7,hm⟩
   ·refine aW (by simp -dsimp) c7 ?_
    refine sw_midc bL mixed 5 6 6 0 [[0,1,2]] [[5001]] [] none (by rw[hn]; kernel_rfl) fb ?_
    dsimp only [List.take,List.drop,gL,gU,jx,pk,List.cons_append,List.nil_append,List.flatten_cons,List.flatten_nil,eJ,eK,List.append_nil]
    obtain⟨y1,h8,hm⟩:=bnd hm
    simp -dsimp [hf,c7]
    refine lN (hrcv x2 l1 a1 l2 y1 h8) [1000000,1000001,1000002,1000003,1000004,5000] [5001] rfl rfl rfl (by simp -dsimp) rfl (by simp -dsimp [hf]) (by first | rfl | simp) rfl (dkL hn) rfl rfl (by simp) nofun (by simp) ?_
    simp -dsimp [hf,h6,df h6,rsetI .i64 l a2.toNat y1.1]
    refine bI ?_
    refine aU ?_
    cases hm
    refine emv 5001 5000 ?_
    exact EE.here (by simp -dsimp [hf])
   ·refine aV (by simp -dsimp) c7 ?_
    refine aY ?_
    refine bI ?_
    cases hm
    exact EE.here (by simp -dsimp [hf,c7])
  ·clear j9
   simp only[Fits,bv,bu,and_true] at hf
   refine sr1 hn ?_
   simp -dsimp [hf]
   cases hm
   refine bC ?_
   exact EE.here (by simp -dsimp [hf])
 ·refine aV (by simp -dsimp) c5 ?_
  refine bp ?_
  refine b8 ?_
  cases hm
  refine bz nofun ?_
  exact⟨rfl,EE.here (by simp -dsimp [hf,c5])⟩
theorem lK (rcv:(Int->(List Int)->(List Node)->(List Node)->Option (Int×(List Int)×(List Node)))) (hrcv:fM rcv) (k:Int) (a:List Int) (a1 cv:List Node) (r:Int×(List Int)×(List Node)) (hm:bV rcv k a a1 cv=some r):GFn Tryz.prog 89 [vI k,vX 1000000,vX 1000002,vX 1000003,vX 1000004] [.box [.own 1000001],.row 1 3 (List.map (rI .i64) a),.box [dR1 a1],.box [.fn 89 [.box 1000000 0,.box 1000002 0,.box 1000003 0,.box 1000004 0]],.box [.own 1000005],.row 2 50 (List.map Node.row cv)] (vI r.1) [some (.box [.own 1000001]),some (.row 1 3 (List.map (rI .i64) r.2.1)),some (.box [dR1 a1]),some (.box [.fn 89 [.box 1000000 0,.box 1000002 0,.box 1000003 0,.box 1000004 0]]),some (.box [.own 1000006]),none,some (.row 2 50 (List.map Node.row r.2.2))]:=by
 refine dj bL _ Tryz.func89 rfl (by kernel_rfl) (by simp[Tryz.ntmps89]) (by simp) (by first | rfl | simp) (by first | rfl | simp) fun cx hn hk=>?_
 replace hn:cx.n=63:=hn.trans Tryz.ntmps89
 replace hk:cx.k=6:=hk
 unfold bV at hm
 refine srs hn ?_
 simp -dsimp
 refine aZ ?_
 refine srs hn ?_
 obtain⟨x,h1,hm⟩:=bnd hm
 simp -dsimp [h1,df h1]
 rcases bc hm with ⟨c2,hm⟩ | ⟨c2,hm⟩
 ·refine aW (by simp -dsimp) c2 ?_
  refine srs hn ?_
  simp -dsimp [h1,df h1,c2]
  refine b0 (b8 ?_)
  cases hm
  refine⟨.inr rfl,?_⟩
  refine emr 1000005 1000006 hk ?_
  exact EE.here (by simp -dsimp)
 ·refine aV (by simp -dsimp) c2 ?_
  refine aY (aU ?_)
  refine k9 bL mixed 10 11 13 12 [[0,1,2,3,4]] [[30]] [true,false] (some (7,.box [dI 0,.d .nil])) (by rw[hn]; kernel_rfl) (fltT_some 50 _ (by kernel_rfl) rfl rfl rfl (by simp[C.wipe])) ?_
  dsimp only [List.take,List.drop,gL,gU,jx,pk,List.cons_append,List.nil_append,List.flatten_cons,List.flatten_nil,eJ,eK,List.append_nil]
  obtain⟨x1,h3,hm⟩:=bnd hm
  obtain⟨y,h4,hm⟩:=bnd hm
  simp -dsimp [c2,h3]
  refine callE_new (el x1.Next y h4) (dkL hn) (by decide) rfl rfl (by simp) (by rintro _ _ ⟨⟩; simp[C.wipe]) (by simp) ?_
  simp -dsimp [h3]
  refine aZ ?_
  refine srs hn ?_
  simp -dsimp
  refine b7 ?_
  obtain⟨⟨l,l1,l2⟩,g10,hm⟩:=bnd hm
  refine bP (lm cx hn hk rcv k a1 x1 y hrcv g10) (by
    try dsimp only
    refine emv 1000005 5000 ?_
    exact EE.here (by simp -dsimp)
  ) fun ee Z O xx=>?_
  unfold dX at xx
  dsimp only at xx
  obtain⟨rfl,xx⟩:=xx
  refine br ?_
  refine aU ?_
  refine see xx fun Z O hf=>?_
  simp only[Fits,bv,bu,and_true] at hf
  refine Swp.pre (Wk.frz 30 1 3 (List.map (rI .i64) l) (by simp -dsimp [hf])) ?_
  refine srs hn ?_
  obtain⟨l3,h11,hm⟩:=bnd hm
  obtain⟨h11a,h11e⟩:=ct h11
  replace h11e:=h11e.symm
  subst h11e
  try simp only[List.length_cons,List.length_nil,Nat.zero_add] at h11a
  simp -dsimp [hf,h11a]
  refine srs hn ?_
  obtain⟨x2,h12,hm⟩:=bnd hm
  simp -dsimp [hf,h12,df h12,rsetI .i64 l2 k.toNat ((b9 l1)+1)]
  refine srs hn ?_
  simp -dsimp [hf]
  refine b0 ?_
  cases hm
  refine⟨.inr rfl,?_⟩
  refine emr 54 1000006 hk ?_
  exact EE.here (by simp -dsimp [hf])
theorem mc (k:Int) (a:List Int) (a1 cv:List Node) (r:Int×(List Int)×(List Node)) (hm:fI k a a1 cv=some r):GFn Tryz.prog 89 [vI k,vX 1000000,vX 1000002,vX 1000003,vX 1000004] [.box [.own 1000001],.row 1 3 (List.map (rI .i64) a),.box [dR1 a1],.box [.fn 89 [.box 1000000 0,.box 1000002 0,.box 1000003 0,.box 1000004 0]],.box [.own 1000005],.row 2 50 (List.map Node.row cv)] (vI r.1) [some (.box [.own 1000001]),some (.row 1 3 (List.map (rI .i64) r.2.1)),some (.box [dR1 a1]),some (.box [.fn 89 [.box 1000000 0,.box 1000002 0,.box 1000003 0,.box 1000004 0]]),some (.box [.own 1000006]),none,some (.row 2 50 (List.map Node.row r.2.2))]:=recN_ind fM (by intro _; intro _; intro _; intro _; intro _; intro hm; cases hm) lK recF k a a1 cv r hm
end
theorem nS (nodes:List Node) (root:Int) (r:List Node) (hm:fA nodes root=some r):bg Tryz.prog 79 [.u (.one (dR1 nodes)),vI root] (.u (.one (dR1 r))):=by
 refine dG Tryz.func79 Tryz.ntmps79 fun cx hn=>?_
 unfold fA at hm
 refine srs hn ?_
 simp -dsimp
 refine srs hn ?_
 obtain⟨l,h1,hm⟩:=bnd hm
 obtain⟨⟨h1a,h1b,h1c⟩,rfl⟩:=mkL_some h1
 simp -dsimp [h1a,h1c]
 refine srs hn ?_
 simp -dsimp
 refine srs hn ?_
 simp -dsimp
 refine srs hn ?_
 simp -dsimp
 refine Swp.pre (Wk.own0b 6 0 5000 2 50 [.d .nil] (by simp -dsimp) (by rfl) (by decide) (by decide)) ?_
 refine srs hn ?_
 obtain⟨y,h2,hm⟩:=bnd hm
 simp -dsimp
 refine clg (mc root (List.replicate (b9 nodes).toNat 0) nodes [] y h2) [5,10,2,7,6,5000] [5001] (by simp -dsimp) (dkL hn) ?_
 simp -dsimp
 refine srs hn ?_
 simp -dsimp
 cases hm
 exact b0 ⟨.inr rfl,EE.here (by simp -dsimp)⟩
section
attribute [-simp] List.map_set List.set_set
def d8 (cx:Cx) (t:Tree) (a:Int) (mp:List (List UInt8×Int)) (l:List Node) (to_:List Int) (x:Node) (_y:List Int) (tt:(List Int)) (ee:Exit) (Z:Env) (O:Sto):Prop:=match tt with
 | next=>ee=.exit 2/\EE cx (bY [(1,.u (.one (.fn 65 []))),(2,vX 2),(4,vX 4),(5,vX 5),(6,vO 5002),(8,vX 8),(9,vO 23),(15,.u (.one (dR1 t.Nodes))),(16,vI (b9 t.Nodes)),(17,vI a)] [(2,.box [dI t.States,dR2 t.Hood,dR1 t.Nodes]),(4,.box [dI 0,.d .nil,.d .nil]),(5,.box [.own 5000,.map 12]),(8,.box [dI x.Level,dL x.Next]),(12,mOb .str kS (uL (L.int .i64)) mp),(23,.row 1 3 (List.map (rI .i64) next)),(5000,.row 2 50 (List.map Node.row l)),(5002,.row 1 3 (List.map (rI .i64) to_))]) Z O
theorem jP (cx:Cx) (hn:cx.n=69) (t:Tree) (a:Int) (mp:List (List UInt8×Int)) (l:List Node) (to_:List Int) (x:Node) (y:List Int) {fu:Nat} {stt:Int×(List Int)} {tt:(List Int)} (hh:bh (bA t a mp l to_ x y) fu stt=some tt) {Z:Env} {O:Sto}
  (hE:cw (fun stt:Int×(List Int)=>match stt with | (a1,_next)=>[(1,.u (.one (.fn 65 []))),(2,vX 2),(4,vX 4),(5,vX 5),(6,vO 5002),(8,vX 8),(9,vO 23),(15,.u (.one (dR1 t.Nodes))),(16,vI (b9 t.Nodes)),(17,vI a),(24,vO 23),(25,vI (b9 y)),(26,vI a1)]) (fun stt:Int×(List Int)=>match stt with | (_a1,next)=>[(2,.box [dI t.States,dR2 t.Hood,dR1 t.Nodes]),(4,.box [dI 0,.d .nil,.d .nil]),(5,.box [.own 5000,.map 12]),(8,.box [dI x.Level,dL x.Next]),(12,mOb .str kS (uL (L.int .i64)) mp),(23,.row 1 3 (List.map (rI .i64) next)),(5000,.row 2 50 (List.map Node.row l)),(5002,.row 1 3 (List.map (rI .i64) to_))]) stt Z O):Swp Tryz.prog cx (.loop (dx [1,1,1,0,1,0,0,1,1,0,0,1,1,0,1,0,0] (bQ Tryz.f64))) Z O (d8 cx t a mp l to_ x y tt):=by
 refine cz hE hh (d8 cx t a mp l to_ x y) ?_
 rintro⟨a1,next⟩ r hm Z O hf
 simp only[Fits,bv,bu,and_true] at hf
 unfold bA at hm
 dsimp only at hm
 refine srs hn ?_
 simp -dsimp [hf]
 refine aZ ?_
 rcases bc hm with ⟨c4,hm⟩ | ⟨c4,hm⟩
 ·refine aW (by simp -dsimp) c4 ?_
  refine aY (aU ?_)
  obtain⟨aG,j8,hm⟩:=bnd hm
  refine scE [(1,.u (.one (.fn 65 []))),(2,vX 2),(4,vX 4),(5,vX 5),(6,vO 5002),(8,vX 8),(9,vO 23),(15,.u (.one (dR1 t.Nodes))),(16,vI (b9 t.Nodes)),(17,vI a),(24,vO 23),(25,vI (b9 y)),(26,vI a1)] [(2,.box [dI t.States,dR2 t.Hood,dR1 t.Nodes]),(4,.box [dI 0,.d .nil,.d .nil]),(5,.box [.own 5000,.map 12]),(8,.box [dI x.Level,dL x.Next]),(12,mOb .str kS (uL (L.int .i64)) mp),(23,.row 1 3 (List.map (rI .i64) aG)),(5000,.row 2 50 (List.map Node.row l)),(5002,.row 1 3 (List.map (rI .i64) to_))] ?_ fun Z O hf=>?_
  ·replace hm:=j8
   clear j8
   refine b7 ?_
   refine srs hn ?_
   obtain⟨x1,h5,hm⟩:=bnd hm
   simp -dsimp [hf,c4,h5,df h5]
   refine srs hn ?_
   simp -dsimp [hf]
   rcases bc hm with ⟨c6,hm⟩ | ⟨c6,hm⟩
   ·refine aW (by simp -dsimp) c6 ?_
    refine sr1 hn ?_
    obtain⟨x2,h7,hm⟩:=bnd hm
    simp -dsimp [hf,h5,df h5,c6,h7,df h7,rsetI .i64 next a1.toNat x2]
    refine bI ?_
    cases hm
    exact EE.here (by simp -dsimp [hf])
   ·refine aV (by simp -dsimp) c6 ?_
    refine aY ?_
    refine bI ?_
    cases hm
    exact EE.here (by simp -dsimp [hf,c6])
  ·clear j8
   simp only[Fits,bv,bu,and_true] at hf
   refine sr1 hn ?_
   simp -dsimp [hf]
   cases hm
   refine bC ?_
   exact EE.here (by simp -dsimp [hf])
 ·refine aV (by simp -dsimp) c4 ?_
  refine bp ?_
  refine b8 ?_
  cases hm
  refine bz nofun ?_
  exact⟨rfl,EE.here (by simp -dsimp [hf,c4])⟩
def da (cx:Cx) (t:Tree) (tt:((List (List UInt8×Int))×(List Node)×(List Int))) (ee:Exit) (Z:Env) (O:Sto):Prop:=match tt with
 | (mp,l,to_)=>ee=.exit 0/\EE cx (bY [(2,vX 2),(4,vX 4),(5,vX 5),(6,vO 5002)] [(2,.box [dI t.States,dR2 t.Hood,dR1 t.Nodes]),(4,.box [dI 0,.d .nil,.d .nil]),(5,.box [.own 5000,.map 12]),(12,mOb .str kS (uL (L.int .i64)) mp),(5000,.row 2 50 (List.map Node.row l)),(5002,.row 1 3 (List.map (rI .i64) to_))]) Z O
theorem jS (cx:Cx) (hn:cx.n=69) (t:Tree) {fu:Nat} {stt:Int×(List (List UInt8×Int))×(List Node)×(List Int)} {tt:((List (List UInt8×Int))×(List Node)×(List Int))} (hh:bh (bT t) fu stt=some tt) {Z:Env} {O:Sto}
  (hE:cw (fun stt:Int×(List (List UInt8×Int))×(List Node)×(List Int)=>match stt with | (a,_mp,_l,_to_)=>[(1,.u (.one (.fn 65 []))),(2,vX 2),(4,vX 4),(5,vX 5),(6,vO 5002),(15,.u (.one (dR1 t.Nodes))),(16,vI (b9 t.Nodes)),(17,vI a)]) (fun stt:Int×(List (List UInt8×Int))×(List Node)×(List Int)=>match stt with | (_a,mp,l,to_)=>[(2,.box [dI t.States,dR2 t.Hood,dR1 t.Nodes]),(4,.box [dI 0,.d .nil,.d .nil]),(5,.box [.own 5000,.map 12]),(12,mOb .str kS (uL (L.int .i64)) mp),(5000,.row 2 50 (List.map Node.row l)),(5002,.row 1 3 (List.map (rI .i64) to_))]) stt Z O):Swp Tryz.prog cx (.loop (dx [1,1,1,0,1,0,0] (bQ Tryz.f64))) Z O (da cx t tt):=by
 refine cz hE hh (da cx t) ?_
 rintro⟨a,mp,l,to_⟩ r hm Z O hf
 simp only[Fits,bv,bu,and_true] at hf
 unfold bT at hm
 dsimp only at hm
 refine srs hn ?_
 simp -dsimp [hf]
 refine aZ ?_
 rcases bc hm with ⟨c1,hm⟩ | ⟨c1,hm⟩
 ·refine aW (by simp -dsimp) c1 ?_
  refine aY (aU (aZ (b7 ?_)))
  refine srs hn ?_
  obtain⟨x,h2,hm⟩:=bnd hm
  simp -dsimp [hf,c1,h2]
  refine srs hn ?_
  obtain⟨y,h3,hm⟩:=bnd hm
  simp -dsimp
  refine callL_new (el x.Next y h3) (dkL hn) (by decide) ?_
  simp -dsimp
  refine aZ ?_
  refine srs hn ?_
  simp -dsimp
  refine b7 ?_
  obtain⟨next,g9,hm⟩:=bnd hm
  refine bP (jP cx hn t a mp l to_ x y g9) (by
    try dsimp only
    exact EE.here (by simp -dsimp [hf])
  ) fun ee Z O xx=>?_
  unfold d8 at xx
  dsimp only at xx
  obtain⟨rfl,xx⟩:=xx
  refine br ?_
  refine aU ?_
  refine see xx fun Z O hf=>?_
  simp only[Fits,bv,bu,and_true] at hf
  refine Swp.pre (Wk.frz 23 1 3 (List.map (rI .i64) next) (by simp -dsimp [hf])) ?_
  refine sw_midc bL mixed 8 9 10 0 [[0]] [[5001]] [true] none (by rw[hn]; kernel_rfl) fb ?_
  dsimp only [List.take,List.drop,gL,gU,jx,pk,List.cons_append,List.nil_append,List.flatten_cons,List.flatten_nil,eJ,eK,List.append_nil]
  obtain⟨y1,h10,hm⟩:=bnd hm
  simp -dsimp [hf]
  refine bn (c_reduce_Reduce_1 x.Level next y1 h10) ?_
  obtain⟨y2,h11,hm⟩:=bnd hm
  simp -dsimp [hf]
  refine lN (nB l mp x.Level y1 y2 h11) [5,5000,12] [5001] rfl rfl rfl (by simp -dsimp) rfl (by simp -dsimp [hf]) (by first | rfl | simp) rfl (dkL hn) rfl rfl (by simp) nofun (by simp) ?_
  obtain⟨l1,h12,hm⟩:=bnd hm
  obtain⟨h12a,h12e⟩:=ct h12
  replace h12e:=h12e.symm
  subst h12e
  try simp only[List.length_cons,List.length_nil,Nat.zero_add] at h12a
  simp -dsimp [hf,h12a]
  refine bI ?_
  refine aU ?_
  refine sr1 hn ?_
  simp -dsimp [hf]
  cases hm
  refine bC ?_
  refine emv 52 5002 ?_
  refine emv 5001 5000 ?_
  exact EE.here (by simp -dsimp [hf])
 ·refine aV (by simp -dsimp) c1 ?_
  refine bp ?_
  refine b8 ?_
  cases hm
  refine bz nofun ?_
  exact⟨rfl,EE.here (by simp -dsimp [hf,c1])⟩
theorem kd (t r:Tree) (hm:cG t=some r):bg Tryz.prog 64 [.u (.agg [dI t.States,dR2 t.Hood,dR1 t.Nodes]),.u (.one (.fn 65 []))] (.u (.agg [dI r.States,dR2 r.Hood,dR1 r.Nodes])):=by
 refine dG Tryz.func64 Tryz.ntmps64 fun cx hn=>?_
 unfold cG at hm
 refine srs hn ?_
 simp -dsimp
 refine srs hn ?_
 simp -dsimp [(@id (Ob.map .str []=mOb .str kS (uL (L.int .i64)) ([]:List (List UInt8×Int))) (mOb_nil .str kS (uL (L.int .i64))))]
 refine srs hn ?_
 simp -dsimp
 refine aZ ?_
 refine srs hn ?_
 simp -dsimp
 refine b7 ?_
 obtain⟨⟨mp,l,to_⟩,g13,hm⟩:=bnd hm
 refine bP (jS cx hn t g13) (by
   try dsimp only
   refine EE.step (Wk.own0 6 5002 1 3 (by simp -dsimp) (by decide)) ?_
   refine EE.step (Wk.own0b 5 0 5000 2 50 [.d .nil,.map 12] (by simp -dsimp) (by rfl) (by decide) (by decide)) ?_
   exact EE.here (by simp -dsimp)
 ) fun ee Z O xx=>?_
 unfold da at xx
 dsimp only at xx
 obtain⟨rfl,xx⟩:=xx
 refine br ?_
 refine aU ?_
 refine see xx fun Z O hf=>?_
 simp only[Fits,bv,bu,and_true] at hf
 refine Swp.pre (Wk.frz 5000 2 50 (List.map Node.row l) (by simp -dsimp [hf])) ?_
 refine sw_drNs bL mixed 14 (by rw[hn]; kernel_rfl) ?_
 dsimp only [List.take,List.drop]
 obtain⟨y,h14,hm⟩:=bnd hm
 simp -dsimp [hf]
 refine bn (fR t.Hood y h14) ?_
 obtain⟨x,h15,hm⟩:=bnd hm
 obtain⟨y1,h16,hm⟩:=bnd hm
 simp -dsimp [hf,h15,df h15]
 refine bn (nS l x y1 h16) ?_
 simp -dsimp [hf]
 cases hm
 exact b0 ⟨.inr rfl,EE.here (by simp -dsimp [hf])⟩
end
theorem c_reduce_Reduce (t r:Tree) (hm:ge t=some r):bg Tryz.prog 47 [.u (.agg [dI t.States,dR2 t.Hood,dR1 t.Nodes])] (.u (.agg [dI r.States,dR2 r.Hood,dR1 r.Nodes])):=by
 refine dG Tryz.func47 Tryz.ntmps47 fun cx hn=>?_
 unfold ge at hm
 refine srs hn ?_
 simp -dsimp
 refine aZ ?_
 refine srs hn ?_
 obtain⟨y,h1,hm⟩:=bnd hm
 simp -dsimp
 refine bi (lV t y h1) (dkL hn) ?_
 simp -dsimp
 rcases bc hm with ⟨c2,hm⟩ | ⟨c2,hm⟩
 ·refine aW (by simp -dsimp) c2 ?_
  refine srs hn ?_
  simp -dsimp [c2]
  refine b0 (b8 ?_)
  cases hm
  refine⟨.inr rfl,?_⟩
  exact EE.here (by simp -dsimp)
 ·refine aV (by simp -dsimp) c2 ?_
  refine aY (aU ?_)
  refine srs hn ?_
  obtain⟨y1,h3,hm⟩:=bnd hm
  simp -dsimp [c2]
  refine bi (kd t y1 h3) (dkL hn) ?_
  simp -dsimp
  cases hm
  exact b0 ⟨.inr rfl,EE.here (by simp -dsimp)⟩
theorem lS (states r:Int) (hm:hX states=some r):bg Tryz.prog 40 [vI states] (vI r):=by
 refine dG Tryz.func40 Tryz.ntmps40 fun cx hn=>?_
 unfold hX at hm
 refine srs hn ?_
 simp -dsimp
 refine aZ (b7 ?_)
 refine srs hn ?_
 simp -dsimp
 rcases bc hm with ⟨c1,hm⟩ | ⟨c1,hm⟩
 ·refine sct c1 ?_
  refine srs hn ?_
  simp -dsimp [c1]
  refine b0 (cy (b8 ?_))
  cases hm
  refine⟨.inr rfl,?_⟩
  exact EE.here (by simp -dsimp)
 ·refine scf c1 ?_
  obtain⟨a,j7,hm⟩:=bnd hm
  refine scE [(0,vI states),(6,vT a)] [] ?_ fun Z O hf=>?_
  ·replace hm:=j7
   clear j7
   refine srs hn ?_
   simp -dsimp [c1]
   rcases bc hm with ⟨c2,hm⟩ | ⟨c2,hm⟩
   ·refine aW (by simp -dsimp) c2 ?_
    refine aY (aU ?_)
    cases hm
    exact EE.here (by simp -dsimp [c2])
   ·refine aV (by simp -dsimp) c2 ?_
    refine sr1 hn ?_
    simp -dsimp [c2]
    cases hm
    exact EE.here (by simp -dsimp)
  ·clear j7
   simp only[Fits,bv,bu,and_true] at hf
   rcases bc hm with ⟨c3,hm⟩ | ⟨c3,hm⟩
   ·refine aW (by simp -dsimp [hf]) c3 ?_
    refine srs hn ?_
    simp -dsimp
    refine b0 (cy (b8 ?_))
    cases hm
    refine⟨.inr rfl,?_⟩
    exact EE.here (by simp -dsimp)
   ·refine aV (by simp -dsimp [hf]) c3 ?_
    obtain⟨a1,j6,hm⟩:=bnd hm
    refine scE [(11,vT a1)] [] ?_ fun Z O hf=>?_
    ·replace hm:=j6
     clear j6
     refine sr1 hn ?_
     rcases bc hm with ⟨c4,hm⟩ | ⟨c4,hm⟩
     ·simp -dsimp [hf,c4]
      cases hm
      exact EE.here (by simp -dsimp)
     ·simp -dsimp [hf,c4]
      cases hm
      exact EE.here (by simp -dsimp)
    ·clear j6
     simp only[Fits,bv,bu,and_true] at hf
     rcases bc hm with ⟨c5,hm⟩ | ⟨c5,hm⟩
     ·refine aW (by simp -dsimp [hf]) c5 ?_
      refine srs hn ?_
      simp -dsimp
      refine b0 (cy (b8 ?_))
      cases hm
      refine⟨.inr rfl,?_⟩
      exact EE.here (by simp -dsimp)
     ·refine aV (by simp -dsimp [hf]) c5 ?_
      refine aY ?_
      refine bI ?_
      refine aU ?_
      refine srs hn ?_
      simp -dsimp
      cases hm
      exact b0 ⟨.inr rfl,EE.here (by simp -dsimp)⟩
theorem g_unroll_start (t:Tree) (r:Int×(List Point)×(List Node)×Int) (hm:gO t=some r):GFn Tryz.prog 22 [.u (.agg [dI t.States,dR2 t.Hood,dR1 t.Nodes])] [] (vX 1000001) [some (mOb .str kS (uA Tree.row) []),some (.box [dI 0,.d .nil,dI r.1,dR2 r.2.1,dR1 r.2.2.1,dI r.2.2.2,.map 1000000])]:=by
 refine dj bL _ Tryz.func22 rfl (by kernel_rfl) (by simp[Tryz.ntmps22]) (by simp) (by first | rfl | simp) (by first | rfl | simp) fun cx hn hk=>?_
 replace hn:cx.n=11:=hn.trans Tryz.ntmps22
 replace hk:cx.k=0:=hk
 unfold gO at hm
 refine srs hn ?_
 simp -dsimp
 refine k9 bL mixed 5 6 6 0 [[0,1,2,3,4]] [[8]] [] none (by rw[hn]; kernel_rfl) fb ?_
 dsimp only [List.take,List.drop,gL,gU,jx,pk,List.cons_append,List.nil_append,List.flatten_cons,List.flatten_nil,eJ,eK,List.append_nil]
 obtain⟨y,h1,hm⟩:=bnd hm
 simp -dsimp
 refine bn (c_reduce_Reduce t y h1) ?_
 obtain⟨y1,h2,hm⟩:=bnd hm
 simp -dsimp
 refine bn (lS t.States y1 h2) ?_
 simp -dsimp [(@id (Ob.map .str []=mOb .str kS (uA Tree.row) ([]:List (List UInt8×Tree))) (mOb_nil .str kS (uA Tree.row)))]
 refine bn (c_reduce_Reduce t y h1) ?_
 simp -dsimp
 refine bn (lS t.States y1 h2) ?_
 simp -dsimp
 refine b0 ?_
 cases hm
 refine⟨.inr rfl,?_⟩
 refine emr 8 1000000 hk ?_
 refine emr 10 1000001 hk ?_
 exact EE.here (by simp -dsimp)
def jD (cx:Cx) (_l:List Point) (tt:Int) (ee:Exit) (Z:Env) (O:Sto):Prop:=match tt with
 | r_=>ee=.exit 0/\EE cx (bY [(3,vI r_)] []) Z O
theorem l_hood_Radius_1 (cx:Cx) (hn:cx.n=28) (l:List Point) {fu:Nat} {stt:Int×Int} {tt:Int} (hh:bh (dT l) fu stt=some tt) {Z:Env} {O:Sto}
  (hE:cw (fun stt:Int×Int=>match stt with | (r_,a)=>[(3,vI r_),(8,.u (.one (dR2 l))),(9,vI (b9 l)),(10,vI a)]) (fun stt:Int×Int=>match stt with | (_r_,_a)=>[]) stt Z O):Swp Tryz.prog cx (.loop (dx [1,1,0,1,0,1,0,0] (bQ Tryz.f21))) Z O (jD cx l tt):=by
 refine cz hE hh (jD cx l) ?_
 rintro⟨r_,a⟩ r hm Z O hf
 simp only[Fits,bv,bu,and_true] at hf
 unfold dT at hm
 dsimp only at hm
 refine srs hn ?_
 simp -dsimp [hf]
 refine aZ ?_
 rcases bc hm with ⟨c3,hm⟩ | ⟨c3,hm⟩
 ·refine aW (by simp -dsimp) c3 ?_
  refine aY (aU (aZ (b7 ?_)))
  refine srs hn ?_
  obtain⟨x,h4,hm⟩:=bnd hm
  simp -dsimp [hf,c3,h4]
  refine sr1 hn ?_
  simp -dsimp [hf]
  refine bI ?_
  refine aU ?_
  refine sr1 hn ?_
  simp -dsimp [hf]
  cases hm
  refine bC ?_
  exact EE.here (by simp -dsimp [hf])
 ·refine aV (by simp -dsimp) c3 ?_
  refine bp ?_
  refine b8 ?_
  cases hm
  refine bz nofun ?_
  exact⟨rfl,EE.here (by simp -dsimp [hf,c3])⟩
theorem c_hood_Radius (l:List Point) (r:Int) (hm:dw l=some r):bg Tryz.prog 21 [.u (.one (dR2 l))] (vI r):=by
 refine dG Tryz.func21 Tryz.ntmps21 fun cx hn=>?_
 unfold dw at hm
 refine srs hn ?_
 simp -dsimp
 refine srs hn ?_
 simp -dsimp
 obtain⟨r_,j6,hm⟩:=bnd hm
 refine scE [(3,vI r_)] [] ?_ fun Z O hf=>?_
 ·replace hm:=j6
  clear j6
  refine srs hn ?_
  obtain⟨y,h1,hm⟩:=bnd hm
  simp -dsimp
  refine bi (c_hood_Right l y h1) (dkL hn) ?_
  simp -dsimp
  rcases bc hm with ⟨c2,hm⟩ | ⟨c2,hm⟩
  ·refine aW (by simp -dsimp) c2 ?_
   refine srs hn ?_
   simp -dsimp [c2]
   refine b7 ?_
   obtain⟨r_,g5,hm⟩:=bnd hm
   refine bP (l_hood_Radius_1 cx hn l g5) (by
     try dsimp only
     exact EE.here (by simp -dsimp)
   ) fun ee Z O xx=>?_
   unfold jD at xx
   dsimp only at xx
   obtain⟨rfl,xx⟩:=xx
   refine br ?_
   refine aU ?_
   cases hm
   refine ee_bind (by rfl) (by rfl) xx fun Z O hf=>?_
   simp only[Fits,bv,bu,and_true] at hf
   exact EE.here (by simp -dsimp [hf])
  ·refine aV (by simp -dsimp) c2 ?_
   refine aY (aU ?_)
   cases hm
   exact EE.here (by simp -dsimp [c2])
 ·clear j6
  simp only[Fits,bv,bu,and_true] at hf
  refine srs hn ?_
  simp -dsimp [hf]
  cases hm
  exact b0 ⟨.inr rfl,EE.here (by simp -dsimp)⟩
def ej (cx:Cx) (ah:List (List Int)) (aa:Int) (ag:List Point) (ae:List Node) (ak:Int) (ai:List (List UInt8×Tree)) (tt:((List Int)×Int)) (ee:Exit) (Z:Env) (O:Sto):Prop:=match tt with
 | (l,aj)=>ee=.exit 0/\EE cx (bY [(3,vO 5000)] [(5000,.row 1 3 (List.map (rI .i64) l)),(1000000,.box [dI aj,.own 1000001,dI aa,dR2 ag,dR1 ae,dI ak,.map 1000002]),(1000001,.row 1 26 (List.map (rS 1 (rI .i64)) ah)),(1000002,mOb .str kS (uA Tree.row) ai)]) Z O
theorem mn (cx:Cx) (hn:cx.n=29) (_hk:cx.k=3) (ah:List (List Int)) (aa:Int) (ag:List Point) (ae:List Node) (ak:Int) (ai:List (List UInt8×Tree)) {fu:Nat} {stt:Int×(List Int)×Int} {tt:((List Int)×Int)} (hh:bh (cS ah aa ag ae ak ai) fu stt=some tt) {Z:Env} {O:Sto}
  (hE:cw (fun stt:Int×(List Int)×Int=>match stt with | (a,_l,_aj)=>[(0,vX 1000000),(3,vO 5000),(7,vI ak),(8,vI a)]) (fun stt:Int×(List Int)×Int=>match stt with | (_a,l,aj)=>[(5000,.row 1 3 (List.map (rI .i64) l)),(1000000,.box [dI aj,.own 1000001,dI aa,dR2 ag,dR1 ae,dI ak,.map 1000002]),(1000001,.row 1 26 (List.map (rS 1 (rI .i64)) ah)),(1000002,mOb .str kS (uA Tree.row) ai)]) stt Z O):Swp Tryz.prog cx (.loop (dx [1,1,0,1,0,0] (bQ Tryz.f48))) Z O (ej cx ah aa ag ae ak ai tt):=by
 refine cz hE hh (ej cx ah aa ag ae ak ai) ?_
 rintro⟨a,l,aj⟩ r hm Z O hf
 simp only[Fits,bv,bu,and_true] at hf
 unfold cS at hm
 dsimp only at hm
 refine srs hn ?_
 simp -dsimp [hf]
 refine aZ ?_
 rcases bc hm with ⟨c1,hm⟩ | ⟨c1,hm⟩
 ·refine aW (by simp -dsimp) c1 ?_
  refine aY (aU (aZ (b7 ?_)))
  refine srs hn ?_
  simp -dsimp [hf,c1]
  refine sr1 hn ?_
  obtain⟨l1,h2,hm⟩:=bnd hm
  obtain⟨h2a,h2e⟩:=ct h2
  replace h2e:=h2e.symm
  subst h2e
  try simp only[List.length_cons,List.length_nil,Nat.zero_add] at h2a
  simp -dsimp [hf,h2a]
  refine bI ?_
  refine aU ?_
  refine sr1 hn ?_
  simp -dsimp [hf]
  cases hm
  refine bC ?_
  refine emv 26 5000 ?_
  exact EE.here (by simp -dsimp [hf])
 ·refine aV (by simp -dsimp) c1 ?_
  refine bp ?_
  refine b8 ?_
  cases hm
  refine bz nofun ?_
  exact⟨rfl,EE.here (by simp -dsimp [hf,c1])⟩
theorem jy (ab:Int) (ah:List (List Int)) (aa:Int) (ag:List Point) (ae:List Node) (ak:Int) (ai:List (List UInt8×Tree)) (r:(List Int)×Int) (hm:dc ab ah aa ag ae ak ai=some r):GFn Tryz.prog 48 [vX 1000000] [.box [dI ab,.own 1000001,dI aa,dR2 ag,dR1 ae,dI ak,.map 1000002],.row 1 26 (List.map (rS 1 (rI .i64)) ah),mOb .str kS (uA Tree.row) ai] (.u (.one (dL r.1))) [some (.box [dI r.2,.own 1000001,dI aa,dR2 ag,dR1 ae,dI ak,.map 1000002]),some (.row 1 26 (List.map (rS 1 (rI .i64)) ah)),some (mOb .str kS (uA Tree.row) ai)]:=by
 refine dj bL _ Tryz.func48 rfl (by kernel_rfl) (by simp[Tryz.ntmps48]) (by simp) (by first | rfl | simp) (by first | rfl | simp) fun cx hn hk=>?_
 replace hn:cx.n=29:=hn.trans Tryz.ntmps48
 replace hk:cx.k=3:=hk
 unfold dc at hm
 refine srs hn ?_
 simp -dsimp
 refine srs hn ?_
 simp -dsimp
 refine aZ ?_
 refine srs hn ?_
 simp -dsimp
 refine b7 ?_
 obtain⟨⟨l,aj⟩,g3,hm⟩:=bnd hm
 refine bP (mn cx hn hk ah aa ag ae ak ai g3) (by
   try dsimp only
   refine EE.step (Wk.own0 3 5000 1 3 (by simp -dsimp) (by decide)) ?_
   exact eeh
 ) fun ee Z O xx=>?_
 unfold ej at xx
 dsimp only at xx
 obtain⟨rfl,xx⟩:=xx
 refine br ?_
 refine aU ?_
 refine see xx fun Z O hf=>?_
 simp only[Fits,bv,bu,and_true] at hf
 refine srs hn ?_
 simp -dsimp [hf]
 cases hm
 exact b0 ⟨.inr rfl,EE.here (by simp -dsimp [hf])⟩
section
attribute [-simp] List.map_set List.set_set
def gY (cx:Cx) (_cv:Int) (_y:List Int) (tt:(List Int)) (ee:Exit) (Z:Env) (O:Sto):Prop:=match tt with
 | l=>ee=.exit 0/\EE cx (bY [(5,vO 8)] [(8,.row 1 3 (List.map (rI .i64) l))]) Z O
theorem l_unroll_against_1 (cx:Cx) (hn:cx.n=29) (cv:Int) (y:List Int) {fu:Nat} {stt:Int×(List Int)} {tt:(List Int)} (hh:bh (eM cv y) fu stt=some tt) {Z:Env} {O:Sto}
  (hE:cw (fun stt:Int×(List Int)=>match stt with | (a,_l)=>[(1,vI cv),(5,vO 8),(10,vI (b9 y)),(11,vI a)]) (fun stt:Int×(List Int)=>match stt with | (_a,l)=>[(8,.row 1 3 (List.map (rI .i64) l))]) stt Z O):Swp Tryz.prog cx (.loop (dx [1,1,0,1,0,0] (bQ Tryz.f49))) Z O (gY cx cv y tt):=by
 refine cz hE hh (gY cx cv y) ?_
 rintro⟨a,l⟩ r hm Z O hf
 simp only[Fits,bv,bu,and_true] at hf
 unfold eM at hm
 dsimp only at hm
 refine srs hn ?_
 simp -dsimp [hf]
 refine aZ ?_
 rcases bc hm with ⟨c2,hm⟩ | ⟨c2,hm⟩
 ·refine aW (by simp -dsimp) c2 ?_
  refine aY (aU ?_)
  obtain⟨l1,j6,hm⟩:=bnd hm
  refine scE [(1,vI cv),(5,vO 8),(10,vI (b9 y)),(11,vI a)] [(8,.row 1 3 (List.map (rI .i64) l1))] ?_ fun Z O hf=>?_
  ·replace hm:=j6
   clear j6
   refine b7 ?_
   refine srs hn ?_
   simp -dsimp [hf,c2]
   refine srs hn ?_
   obtain⟨n,h3,hm⟩:=bnd hm
   simp -dsimp [hf,h3]
   rcases bc hm with ⟨c4,hm⟩ | ⟨c4,hm⟩
   ·refine aW (by simp -dsimp) c4 ?_
    refine sr1 hn ?_
    obtain⟨x,h5,hm⟩:=bnd hm
    simp -dsimp [hf,c4,h5,df h5,rsetI .i64 l a.toNat (cQ .i64 x)]
    refine bI ?_
    cases hm
    exact EE.here (by simp -dsimp [hf])
   ·refine aV (by simp -dsimp) c4 ?_
    refine aY ?_
    refine bI ?_
    cases hm
    exact EE.here (by simp -dsimp [hf,c4])
  ·clear j6
   simp only[Fits,bv,bu,and_true] at hf
   refine sr1 hn ?_
   simp -dsimp [hf]
   cases hm
   refine bC ?_
   exact EE.here (by simp -dsimp [hf])
 ·refine aV (by simp -dsimp) c2 ?_
  refine bp ?_
  refine b8 ?_
  cases hm
  refine bz nofun ?_
  exact⟨rfl,EE.here (by simp -dsimp [hf,c2])⟩
theorem nL (vars:List Int) (cv:Int) (r:List Int) (hm:fB vars cv=some r):bg Tryz.prog 49 [.u (.one (dL vars)),vI cv] (.u (.one (dL r))):=by
 refine dG Tryz.func49 Tryz.ntmps49 fun cx hn=>?_
 unfold fB at hm
 refine srs hn ?_
 simp -dsimp
 refine srs hn ?_
 obtain⟨y,h1,hm⟩:=bnd hm
 simp -dsimp
 refine callL_new (el vars y h1) (dkL hn) (by decide) ?_
 simp -dsimp
 refine aZ ?_
 refine srs hn ?_
 simp -dsimp
 refine b7 ?_
 obtain⟨l,g7,hm⟩:=bnd hm
 refine bP (l_unroll_against_1 cx hn cv y g7) (by
   try dsimp only
   exact EE.here (by simp -dsimp)
 ) fun ee Z O xx=>?_
 unfold gY at xx
 dsimp only at xx
 obtain⟨rfl,xx⟩:=xx
 refine br ?_
 refine aU ?_
 refine see xx fun Z O hf=>?_
 simp only[Fits,bv,bu,and_true] at hf
 refine srs hn ?_
 simp -dsimp [hf]
 cases hm
 exact b0 ⟨.inr rfl,EE.here (by simp -dsimp [hf])⟩
end
theorem eF (ab:Int) (ah:List (List Int)) (aa:Int) (ag:List Point) (ae:List Node) (ak:Int) (ai:List (List UInt8×Tree)) (l:List Int) (r:Unit) (hm:cn ab ah aa ag ae ak ai l=some r):GFn Tryz.prog 26 [vX 1000000,.u (.one (dL l))] [.box [dI ab,.own 1000001,dI aa,dR2 ag,dR1 ae,dI ak,.map 1000002],.row 1 26 (List.map (rS 1 (rI .i64)) ah),mOb .str kS (uA Tree.row) ai] (.tup []) [some (.box [dI ab,.own 1000003,dI aa,dR2 ag,dR1 ae,dI ak,.map 1000002]),none,some (mOb .str kS (uA Tree.row) ai),some (.row 1 26 (List.map (rS 1 (rI .i64)) (ah++[l])))]:=by
 refine dj bL _ Tryz.func26 rfl (by kernel_rfl) (by simp[Tryz.ntmps26]) (by simp) (by first | rfl | simp) (by first | rfl | simp) fun cx hn hk=>?_
 replace hn:cx.n=16:=hn.trans Tryz.ntmps26
 replace hk:cx.k=3:=hk
 unfold cn at hm
 refine sr1 hn ?_
 obtain⟨l1,h1,hm⟩:=bnd hm
 obtain⟨h1a,h1e⟩:=ct h1
 replace h1e:=h1e.symm
 subst h1e
 try simp only[List.length_cons,List.length_nil,Nat.zero_add] at h1a
 simp -dsimp [h1a]
 cases hm
 try refine⟨.inl rfl,?_⟩
 refine emr 12 1000003 hk ?_
 exact EE.here (by simp -dsimp)
end Go.Proofs.YtlifofijgddjkacGreatDoor
