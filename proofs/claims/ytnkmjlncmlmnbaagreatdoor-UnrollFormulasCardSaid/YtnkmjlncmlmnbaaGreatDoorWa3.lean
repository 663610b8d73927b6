/- That the code does what the functions say (made by cc.py). -/
import Derived.Test.YtnkmjlncmlmnbaaGreatDoorWa1
namespace Go.Proofs.YtnkmjlncmlmnbaaGreatDoor
open Go.AM Go.Proofs
set_option maxRecDepth 100000
attribute [-simp] qlookup cb cL Ob.wipe Ob.ren Ob.frz1
section
attribute [-simp] List.map_set List.set_set
def cG (rcv:(Int->(List Int)->(List Node)->(List Node)->Option (Int×(List Int)×(List Node)))):Prop:=∀ (k:Int) (a:List Int) (a1 cv:List Node) (r:Int×(List Int)×(List Node)),rcv k a a1 cv=some r->GFn Tryz.prog 118 [vI k,vX 1000000,vX 1000002,vX 1000003,vX 1000004] [.box [.own 1000001],.row 1 3 (List.map (rI .i64) a),.box [dR1 a1],.box [.fn 118 [.box 1000000 0,.box 1000002 0,.box 1000003 0,.box 1000004 0]],.box [.own 1000005],.row 2 39 (List.map Node.row cv)] (vI r.1) [some (.box [.own 1000001]),some (.row 1 3 (List.map (rI .i64) r.2.1)),some (.box [dR1 a1]),some (.box [.fn 118 [.box 1000000 0,.box 1000002 0,.box 1000003 0,.box 1000004 0]]),some (.box [.own 1000006]),none,some (.row 2 39 (List.map Node.row r.2.2))]
def cu (cx:Cx) (_rcv:(Int->(List Int)->(List Node)->(List Node)->Option (Int×(List Int)×(List Node)))) (k:Int) (a1:List Node) (x1:Node) (_y:List Int) (tt:((List Int)×(List Node)×(List Int))) (ee:Exit) (Z:Env) (O:Sto):Prop:=match tt with
 | (l,l1,l2)=>ee=.exit 0/\EE cx (bw [(0,vI k),(1,vX 1000000),(4,vX 1000004),(7,vX 7)] [(7,.box [dI x1.Level,.own 30]),(30,.row 1 3 (List.map (rI .i64) l)),(5000,.row 2 39 (List.map Node.row l1)),(1000000,.box [.own 1000001]),(1000001,.row 1 3 (List.map (rI .i64) l2)),(1000002,.box [dR1 a1]),(1000003,.box [.fn 118 [.box 1000000 0,.box 1000002 0,.box 1000003 0,.box 1000004 0]]),(1000004,.box [.own 5000])]) Z O
theorem eR (cx:Cx) (hn:cx.n=63) (_hk:cx.k=6) (rcv:(Int->(List Int)->(List Node)->(List Node)->Option (Int×(List Int)×(List Node)))) (k:Int) (a1:List Node) (x1:Node) (y:List Int) (hrcv:cG rcv) {fu:Nat} {stt:Int×(List Int)×(List Node)×(List Int)} {tt:((List Int)×(List Node)×(List Int))} (hh:bh (b_reduce_ordered_1_o_o_o_o_1 rcv k a1 x1 y) fu stt=some tt) {Z:Env} {O:Sto}
  (hE:bA (fun stt:Int×(List Int)×(List Node)×(List Int)=>match stt with | (a2,_l,_l2,_l1)=>[(0,vI k),(1,vX 1000000),(3,vX 1000003),(4,vX 1000004),(7,vX 7),(33,vO 30),(34,vI (bf y)),(35,vI a2)]) (fun stt:Int×(List Int)×(List Node)×(List Int)=>match stt with | (_a2,l,l2,l1)=>[(7,.box [dI x1.Level,.own 30]),(30,.row 1 3 (List.map (rI .i64) l)),(5000,.row 2 39 (List.map Node.row l2)),(1000000,.box [.own 1000001]),(1000001,.row 1 3 (List.map (rI .i64) l1)),(1000002,.box [dR1 a1]),(1000003,.box [.fn 118 [.box 1000000 0,.box 1000002 0,.box 1000003 0,.box 1000004 0]]),(1000004,.box [.own 5000])]) stt Z O):Swp Tryz.prog cx (.loop (bJ [1,1,1,0,1,0,0] (bv Tryz.f118))) Z O (cu cx rcv k a1 x1 y tt):=by
 refine bC hE hh (cu cx rcv k a1 x1 y) ?_
 rintro⟨a2,l,l2,l1⟩ r hm Z O hf
 simp only[Fits,bo,bn,and_true] at hf
 unfold b_reduce_ordered_1_o_o_o_o_1 at hm
 dsimp only at hm
 refine srs hn ?_
 simp -dsimp [hf]
 refine ba ?_
 rcases bl hm with ⟨c5,hm⟩ | ⟨c5,hm⟩
 ·refine be (by simp -dsimp) c5 ?_
  refine bd (b9 ?_)
  obtain⟨⟨l3,l4,l5⟩,j9,hm⟩:=bnd hm
  refine scE [(0,vI k),(1,vX 1000000),(3,vX 1000003),(4,vX 1000004),(7,vX 7),(33,vO 30),(34,vI (bf y)),(35,vI a2)] [(7,.box [dI x1.Level,.own 30]),(30,.row 1 3 (List.map (rI .i64) l3)),(5000,.row 2 39 (List.map Node.row l5)),(1000000,.box [.own 1000001]),(1000001,.row 1 3 (List.map (rI .i64) l4)),(1000002,.box [dR1 a1]),(1000003,.box [.fn 118 [.box 1000000 0,.box 1000002 0,.box 1000003 0,.box 1000004 0]]),(1000004,.box [.own 5000])] ?_ fun Z O hf=>?_
  ·replace hm:=j9
   clear j9
   refine bc ?_
   refine srs hn ?_
   obtain⟨x2,h6,hm⟩:=bnd hm
   simp -dsimp [hf,c5,h6,bF h6]
   refine srs hn ?_
   simp -dsimp [hf]
   rcases bl hm with ⟨c7,hm⟩ | ⟨c7,hm⟩
   ·refine be (by simp -dsimp) c7 ?_
    refine sw_midc bq mixed 5 6 6 0 [[0,1,2]] [[5001]] [] none (by rw[hn]; kernel_rfl) bO ?_
    dsimp only [List.take,List.drop,cn,cp,cV,pk,List.cons_append,List.nil_append,List.flatten_cons,List.flatten_nil,bN,bM,List.append_nil]
    obtain⟨y1,h8,hm⟩:=bnd hm
    simp -dsimp [hf,c7]
    refine fo (hrcv x2 l1 a1 l2 y1 h8) [1000000,1000001,1000002,1000003,1000004,5000] [5001] rfl rfl rfl (by simp -dsimp) rfl (by simp -dsimp [hf]) (by first | rfl | simp) rfl (dkL hn) rfl rfl (by simp) nofun (by simp) ?_
    simp -dsimp [hf,h6,bF h6,rsetI .i64 l a2.toNat y1.1]
    refine bD ?_
    refine b9 ?_
    cases hm
    refine emv 5001 5000 ?_
    exact zz
   ·exact zz
  ·clear j9
   exact zz
 ·exact zz
theorem fk (rcv:(Int->(List Int)->(List Node)->(List Node)->Option (Int×(List Int)×(List Node)))) (hrcv:cG rcv) (k:Int) (a:List Int) (a1 cv:List Node) (r:Int×(List Int)×(List Node)) (hm:mb_reduce_ordered_1_o_o_o_o rcv k a a1 cv=some r):GFn Tryz.prog 118 [vI k,vX 1000000,vX 1000002,vX 1000003,vX 1000004] [.box [.own 1000001],.row 1 3 (List.map (rI .i64) a),.box [dR1 a1],.box [.fn 118 [.box 1000000 0,.box 1000002 0,.box 1000003 0,.box 1000004 0]],.box [.own 1000005],.row 2 39 (List.map Node.row cv)] (vI r.1) [some (.box [.own 1000001]),some (.row 1 3 (List.map (rI .i64) r.2.1)),some (.box [dR1 a1]),some (.box [.fn 118 [.box 1000000 0,.box 1000002 0,.box 1000003 0,.box 1000004 0]]),some (.box [.own 1000006]),none,some (.row 2 39 (List.map Node.row r.2.2))]:=by
 refine bG bq _ Tryz.func118 rfl (by kernel_rfl) (by simp[Tryz.ntmps118]) (by simp) (by first | rfl | simp) (by first | rfl | simp) fun cx hn hk=>?_
 replace hn:cx.n=63:=hn.trans Tryz.ntmps118
 replace hk:cx.k=6:=hk
 unfold mb_reduce_ordered_1_o_o_o_o at hm
 refine srs hn ?_
 simp -dsimp
 refine ba ?_
 refine srs hn ?_
 obtain⟨x,h1,hm⟩:=bnd hm
 simp -dsimp [h1,bF h1]
 rcases bl hm with ⟨c2,hm⟩ | ⟨c2,hm⟩
 ·refine be (by simp -dsimp) c2 ?_
  refine srs hn ?_
  simp -dsimp [h1,bF h1,c2]
  refine bE (eZ ?_)
  cases hm
  refine⟨.inr rfl,?_⟩
  refine emr 1000005 1000006 hk ?_
  exact zz
 ·refine bi (by simp -dsimp) c2 ?_
  refine bd (b9 ?_)
  refine cm bq mixed 10 11 13 12 [[0,1,2,3,4]] [[30]] [true,false] (some (7,.box [dI 0,.d .nil])) (by rw[hn]; kernel_rfl) (fltT_some 39 _ (by kernel_rfl) rfl rfl rfl (by simp[C.wipe])) ?_
  dsimp only [List.take,List.drop,cn,cp,cV,pk,List.cons_append,List.nil_append,List.flatten_cons,List.flatten_nil,bN,bM,List.append_nil]
  obtain⟨x1,h3,hm⟩:=bnd hm
  obtain⟨y,h4,hm⟩:=bnd hm
  simp -dsimp [c2,h3]
  refine callE_new (cd x1.Next y h4) (dkL hn) (by decide) rfl rfl (by simp) (by rintro _ _ ⟨⟩; simp[C.wipe]) (by simp) ?_
  simp -dsimp [h3]
  refine ba ?_
  refine srs hn ?_
  simp -dsimp
  refine bc ?_
  obtain⟨⟨l,l1,l2⟩,g10,hm⟩:=bnd hm
  refine bu (eR cx hn hk rcv k a1 x1 y hrcv g10) (by
    try dsimp only
    refine emv 1000005 5000 ?_
    exact zz
  ) fun ee Z O xx=>?_
  unfold cu at xx
  dsimp only at xx
  obtain⟨rfl,xx⟩:=xx
  refine bz ?_
  refine b9 ?_
  refine see xx fun Z O hf=>?_
  simp only[Fits,bo,bn,and_true] at hf
  refine Swp.pre (Wk.frz 30 1 3 (List.map (rI .i64) l) (by simp -dsimp [hf])) ?_
  refine srs hn ?_
  obtain⟨l3,h11,hm⟩:=bnd hm
  obtain⟨h11a,h11e⟩:=bp h11
  replace h11e:=h11e.symm
  subst h11e
  try simp only[List.length_cons,List.length_nil,Nat.zero_add] at h11a
  simp -dsimp [hf,h11a]
  refine srs hn ?_
  obtain⟨x2,h12,hm⟩:=bnd hm
  simp -dsimp [hf,h12,bF h12,rsetI .i64 l2 k.toNat ((bf l1)+1)]
  refine srs hn ?_
  simp -dsimp [hf]
  refine bE ?_
  cases hm
  refine⟨.inr rfl,?_⟩
  refine emr 54 1000006 hk ?_
  exact zz
theorem fV (k:Int) (a:List Int) (a1 cv:List Node) (r:Int×(List Int)×(List Node)) (hm:m_reduce_ordered_1_o_o_o_o k a a1 cv=some r):GFn Tryz.prog 118 [vI k,vX 1000000,vX 1000002,vX 1000003,vX 1000004] [.box [.own 1000001],.row 1 3 (List.map (rI .i64) a),.box [dR1 a1],.box [.fn 118 [.box 1000000 0,.box 1000002 0,.box 1000003 0,.box 1000004 0]],.box [.own 1000005],.row 2 39 (List.map Node.row cv)] (vI r.1) [some (.box [.own 1000001]),some (.row 1 3 (List.map (rI .i64) r.2.1)),some (.box [dR1 a1]),some (.box [.fn 118 [.box 1000000 0,.box 1000002 0,.box 1000003 0,.box 1000004 0]]),some (.box [.own 1000006]),none,some (.row 2 39 (List.map Node.row r.2.2))]:=recN_ind cG (by intro _; intro _; intro _; intro _; intro _; intro hm; cases hm) fk recF k a a1 cv r hm
end
theorem gV (nodes:List Node) (root:Int) (r:List Node) (hm:m_reduce_ordered nodes root=some r):PureCall Tryz.prog 106 [.u (.one (dR1 nodes)),vI root] (.u (.one (dR1 r))):=by
 refine bK Tryz.func106 Tryz.ntmps106 fun cx hn=>?_
 unfold m_reduce_ordered at hm
 refine srs hn ?_
 simp -dsimp
 refine srs hn ?_
 obtain⟨l,h1,hm⟩:=bnd hm
 obtain⟨⟨h1a,h1b,h1c⟩,rfl⟩:=mkL_some h1
 simp -dsimp [h1a,h1c]
 refine srs hn ?_
 simp -dsimp
 refine srs hn ?_
 simp -dsimp
 refine srs hn ?_
 simp -dsimp
 refine Swp.pre (Wk.own0b 6 0 5000 2 39 [.d .nil] (by simp -dsimp) (by rfl) (by decide) (by decide)) ?_
 refine srs hn ?_
 obtain⟨y,h2,hm⟩:=bnd hm
 simp -dsimp
 refine clg (fV root (List.replicate (bf nodes).toNat 0) nodes [] y h2) [5,10,2,7,6,5000] [5001] (by simp -dsimp) (dkL hn) ?_
 exact zz
section
attribute [-simp] List.map_set List.set_set
def ca (cx:Cx) (t:Tree) (a:Int) (mp:List (List UInt8×Int)) (l:List Node) (to_:List Int) (x:Node) (_y:List Int) (tt:(List Int)) (ee:Exit) (Z:Env) (O:Sto):Prop:=match tt with
 | next=>ee=.exit 2/\EE cx (bw [(1,.u (.one (.fn 82 []))),(2,vX 2),(4,vX 4),(5,vX 5),(6,vO 5002),(8,vX 8),(9,vO 23),(15,.u (.one (dR1 t.Nodes))),(16,vI (bf t.Nodes)),(17,vI a)] [(2,.box [dI t.States,dR2 t.Hood,dR1 t.Nodes]),(4,.box [dI 0,.d .nil,.d .nil]),(5,.box [.own 5000,.map 12]),(8,.box [dI x.Level,dL x.Next]),(12,mOb .str kS (uL (L.int .i64)) mp),(23,.row 1 3 (List.map (rI .i64) next)),(5000,.row 2 39 (List.map Node.row l)),(5002,.row 1 3 (List.map (rI .i64) to_))]) Z O
theorem dW (cx:Cx) (hn:cx.n=69) (t:Tree) (a:Int) (mp:List (List UInt8×Int)) (l:List Node) (to_:List Int) (x:Node) (y:List Int) {fu:Nat} {stt:Int×(List Int)} {tt:(List Int)} (hh:bh (b_reduce_rebuilt_reduce_Reduce_1_2 t a mp l to_ x y) fu stt=some tt) {Z:Env} {O:Sto}
  (hE:bA (fun stt:Int×(List Int)=>match stt with | (a1,_next)=>[(1,.u (.one (.fn 82 []))),(2,vX 2),(4,vX 4),(5,vX 5),(6,vO 5002),(8,vX 8),(9,vO 23),(15,.u (.one (dR1 t.Nodes))),(16,vI (bf t.Nodes)),(17,vI a),(24,vO 23),(25,vI (bf y)),(26,vI a1)]) (fun stt:Int×(List Int)=>match stt with | (_a1,next)=>[(2,.box [dI t.States,dR2 t.Hood,dR1 t.Nodes]),(4,.box [dI 0,.d .nil,.d .nil]),(5,.box [.own 5000,.map 12]),(8,.box [dI x.Level,dL x.Next]),(12,mOb .str kS (uL (L.int .i64)) mp),(23,.row 1 3 (List.map (rI .i64) next)),(5000,.row 2 39 (List.map Node.row l)),(5002,.row 1 3 (List.map (rI .i64) to_))]) stt Z O):Swp Tryz.prog cx (.loop (bJ [1,1,1,0,1,0,0,1,1,0,0,1,1,0,1,0,0] (bv Tryz.f81))) Z O (ca cx t a mp l to_ x y tt):=by
 refine bC hE hh (ca cx t a mp l to_ x y) ?_
 rintro⟨a1,next⟩ r hm Z O hf
 simp only[Fits,bo,bn,and_true] at hf
 unfold b_reduce_rebuilt_reduce_Reduce_1_2 at hm
 dsimp only at hm
 refine srs hn ?_
 simp -dsimp [hf]
 refine ba ?_
 rcases bl hm with ⟨c4,hm⟩ | ⟨c4,hm⟩
 ·refine be (by simp -dsimp) c4 ?_
  refine bd (b9 ?_)
  obtain⟨aJ,j8,hm⟩:=bnd hm
  refine scE [(1,.u (.one (.fn 82 []))),(2,vX 2),(4,vX 4),(5,vX 5),(6,vO 5002),(8,vX 8),(9,vO 23),(15,.u (.one (dR1 t.Nodes))),(16,vI (bf t.Nodes)),(17,vI a),(24,vO 23),(25,vI (bf y)),(26,vI a1)] [(2,.box [dI t.States,dR2 t.Hood,dR1 t.Nodes]),(4,.box [dI 0,.d .nil,.d .nil]),(5,.box [.own 5000,.map 12]),(8,.box [dI x.Level,dL x.Next]),(12,mOb .str kS (uL (L.int .i64)) mp),(23,.row 1 3 (List.map (rI .i64) aJ)),(5000,.row 2 39 (List.map Node.row l)),(5002,.row 1 3 (List.map (rI .i64) to_))] ?_ fun Z O hf=>?_
  ·replace hm:=j8
   clear j8
   refine bc ?_
   refine srs hn ?_
   obtain⟨x1,h5,hm⟩:=bnd hm
   simp -dsimp [hf,c4,h5,bF h5]
   refine srs hn ?_
   simp -dsimp [hf]
   rcases bl hm with ⟨c6,hm⟩ | ⟨c6,hm⟩
   ·refine be (by simp -dsimp) c6 ?_
    refine sr1 hn ?_
    obtain⟨x2,h7,hm⟩:=bnd hm
    simp -dsimp [hf,h5,bF h5,c6,h7,bF h7,rsetI .i64 next a1.toNat x2]
    refine bD ?_
    cases hm
    exact EE.here (by simp -dsimp [hf])
   ·refine bi (by simp -dsimp) c6 ?_
    refine bd ?_
    refine bD ?_
    cases hm
    exact EE.here (by simp -dsimp [hf,c6])
  ·clear j8
   exact zz
 ·exact zz
def bZ (cx:Cx) (t:Tree) (tt:((List (List UInt8×Int))×(List Node)×(List Int))) (ee:Exit) (Z:Env) (O:Sto):Prop:=match tt with
 | (mp,l,to_)=>ee=.exit 0/\EE cx (bw [(2,vX 2),(4,vX 4),(5,vX 5),(6,vO 5002)] [(2,.box [dI t.States,dR2 t.Hood,dR1 t.Nodes]),(4,.box [dI 0,.d .nil,.d .nil]),(5,.box [.own 5000,.map 12]),(12,mOb .str kS (uL (L.int .i64)) mp),(5000,.row 2 39 (List.map Node.row l)),(5002,.row 1 3 (List.map (rI .i64) to_))]) Z O
theorem dZ (cx:Cx) (hn:cx.n=69) (t:Tree) {fu:Nat} {stt:Int×(List (List UInt8×Int))×(List Node)×(List Int)} {tt:((List (List UInt8×Int))×(List Node)×(List Int))} (hh:bh (b_reduce_rebuilt_reduce_Reduce_1_1 t) fu stt=some tt) {Z:Env} {O:Sto}
  (hE:bA (fun stt:Int×(List (List UInt8×Int))×(List Node)×(List Int)=>match stt with | (a,_mp,_l,_to_)=>[(1,.u (.one (.fn 82 []))),(2,vX 2),(4,vX 4),(5,vX 5),(6,vO 5002),(15,.u (.one (dR1 t.Nodes))),(16,vI (bf t.Nodes)),(17,vI a)]) (fun stt:Int×(List (List UInt8×Int))×(List Node)×(List Int)=>match stt with | (_a,mp,l,to_)=>[(2,.box [dI t.States,dR2 t.Hood,dR1 t.Nodes]),(4,.box [dI 0,.d .nil,.d .nil]),(5,.box [.own 5000,.map 12]),(12,mOb .str kS (uL (L.int .i64)) mp),(5000,.row 2 39 (List.map Node.row l)),(5002,.row 1 3 (List.map (rI .i64) to_))]) stt Z O):Swp Tryz.prog cx (.loop (bJ [1,1,1,0,1,0,0] (bv Tryz.f81))) Z O (bZ cx t tt):=by
 refine bC hE hh (bZ cx t) ?_
 rintro⟨a,mp,l,to_⟩ r hm Z O hf
 simp only[Fits,bo,bn,and_true] at hf
 unfold b_reduce_rebuilt_reduce_Reduce_1_1 at hm
 dsimp only at hm
 refine srs hn ?_
 simp -dsimp [hf]
 refine ba ?_
 rcases bl hm with ⟨c1,hm⟩ | ⟨c1,hm⟩
 ·refine be (by simp -dsimp) c1 ?_
  refine bd (b9 (ba (bc ?_)))
  refine srs hn ?_
  obtain⟨x,h2,hm⟩:=bnd hm
  simp -dsimp [hf,c1,h2]
  refine srs hn ?_
  obtain⟨y,h3,hm⟩:=bnd hm
  simp -dsimp
  refine callL_new (cd x.Next y h3) (dkL hn) (by decide) ?_
  simp -dsimp
  refine ba ?_
  refine srs hn ?_
  simp -dsimp
  refine bc ?_
  obtain⟨next,g9,hm⟩:=bnd hm
  refine bu (dW cx hn t a mp l to_ x y g9) (by
    try dsimp only
    exact EE.here (by simp -dsimp [hf])
  ) fun ee Z O xx=>?_
  unfold ca at xx
  dsimp only at xx
  obtain⟨rfl,xx⟩:=xx
  refine bz ?_
  refine b9 ?_
  refine see xx fun Z O hf=>?_
  simp only[Fits,bo,bn,and_true] at hf
  refine Swp.pre (Wk.frz 23 1 3 (List.map (rI .i64) next) (by simp -dsimp [hf])) ?_
  refine sw_midc bq mixed 8 9 10 0 [[0]] [[5001]] [true] none (by rw[hn]; kernel_rfl) bO ?_
  dsimp only [List.take,List.drop,cn,cp,cV,pk,List.cons_append,List.nil_append,List.flatten_cons,List.flatten_nil,bN,bM,List.append_nil]
  obtain⟨y1,h10,hm⟩:=bnd hm
  simp -dsimp [hf]
  refine bj (c_reduce_Reduce_1 x.Level next y1 h10) ?_
  obtain⟨y2,h11,hm⟩:=bnd hm
  simp -dsimp [hf]
  refine fo (gU l mp x.Level y1 y2 h11) [5,5000,12] [5001] rfl rfl rfl (by simp -dsimp) rfl (by simp -dsimp [hf]) (by first | rfl | simp) rfl (dkL hn) rfl rfl (by simp) nofun (by simp) ?_
  obtain⟨l1,h12,hm⟩:=bnd hm
  obtain⟨h12a,h12e⟩:=bp h12
  replace h12e:=h12e.symm
  subst h12e
  try simp only[List.length_cons,List.length_nil,Nat.zero_add] at h12a
  simp -dsimp [hf,h12a]
  refine bD ?_
  refine b9 ?_
  refine sr1 hn ?_
  simp -dsimp [hf]
  cases hm
  refine bI ?_
  refine emv 52 5002 ?_
  refine emv 5001 5000 ?_
  exact zz
 ·exact zz
theorem ef (t r:Tree) (hm:m_reduce_rebuilt_reduce_Reduce_1 t=some r):PureCall Tryz.prog 81 [.u (.agg [dI t.States,dR2 t.Hood,dR1 t.Nodes]),.u (.one (.fn 82 []))] (.u (.agg [dI r.States,dR2 r.Hood,dR1 r.Nodes])):=by
 refine bK Tryz.func81 Tryz.ntmps81 fun cx hn=>?_
 unfold m_reduce_rebuilt_reduce_Reduce_1 at hm
 refine srs hn ?_
 simp -dsimp
 refine srs hn ?_
 simp -dsimp [(@id (Ob.map .str []=mOb .str kS (uL (L.int .i64)) ([]:List (List UInt8×Int))) (mOb_nil .str kS (uL (L.int .i64))))]
 refine srs hn ?_
 simp -dsimp
 refine ba ?_
 refine srs hn ?_
 simp -dsimp
 refine bc ?_
 obtain⟨⟨mp,l,to_⟩,g13,hm⟩:=bnd hm
 refine bu (dZ cx hn t g13) (by
   try dsimp only
   refine EE.step (Wk.own0 6 5002 1 3 (by simp -dsimp) (by decide)) ?_
   refine EE.step (Wk.own0b 5 0 5000 2 39 [.d .nil,.map 12] (by simp -dsimp) (by rfl) (by decide) (by decide)) ?_
   exact zz
 ) fun ee Z O xx=>?_
 unfold bZ at xx
 dsimp only at xx
 obtain⟨rfl,xx⟩:=xx
 refine bz ?_
 refine b9 ?_
 refine see xx fun Z O hf=>?_
 simp only[Fits,bo,bn,and_true] at hf
 refine Swp.pre (Wk.frz 5000 2 39 (List.map Node.row l) (by simp -dsimp [hf])) ?_
 refine fg bq mixed 14 (by rw[hn]; kernel_rfl) ?_
 dsimp only [List.take,List.drop]
 obtain⟨y,h14,hm⟩:=bnd hm
 simp -dsimp [hf]
 refine bj (cH t.Hood y h14) ?_
 obtain⟨x,h15,hm⟩:=bnd hm
 obtain⟨y1,h16,hm⟩:=bnd hm
 simp -dsimp [hf,h15,bF h15]
 refine bj (gV l x y1 h16) ?_
 exact zz
end
theorem c_reduce_Reduce (t r:Tree) (hm:m_reduce_Reduce t=some r):PureCall Tryz.prog 46 [.u (.agg [dI t.States,dR2 t.Hood,dR1 t.Nodes])] (.u (.agg [dI r.States,dR2 r.Hood,dR1 r.Nodes])):=by
 refine bK Tryz.func46 Tryz.ntmps46 fun cx hn=>?_
 unfold m_reduce_Reduce at hm
 refine srs hn ?_
 simp -dsimp
 refine ba ?_
 refine srs hn ?_
 obtain⟨y,h1,hm⟩:=bnd hm
 simp -dsimp
 refine bg (fe t y h1) (dkL hn) ?_
 simp -dsimp
 rcases bl hm with ⟨c2,hm⟩ | ⟨c2,hm⟩
 ·exact zz
 ·refine bi (by simp -dsimp) c2 ?_
  refine bd (b9 ?_)
  refine srs hn ?_
  obtain⟨y1,h3,hm⟩:=bnd hm
  simp -dsimp [c2]
  refine bg (ef t y1 h3) (dkL hn) ?_
  exact zz
theorem fh (states r:Int) (hm:m_lower_Bits states=some r):PureCall Tryz.prog 41 [vI states] (vI r):=by
 refine bK Tryz.func41 Tryz.ntmps41 fun cx hn=>?_
 unfold m_lower_Bits at hm
 refine srs hn ?_
 simp -dsimp
 refine ba (bc ?_)
 refine srs hn ?_
 simp -dsimp
 rcases bl hm with ⟨c1,hm⟩ | ⟨c1,hm⟩
 ·exact zz
 ·refine scf c1 ?_
  obtain⟨a,j7,hm⟩:=bnd hm
  refine scE [(0,vI states),(6,vT a)] [] ?_ fun Z O hf=>?_
  ·replace hm:=j7
   clear j7
   exact zz
  ·clear j7
   simp only[Fits,bo,bn,and_true] at hf
   rcases bl hm with ⟨c3,hm⟩ | ⟨c3,hm⟩
   ·exact zz
   ·refine bi (by simp -dsimp [hf]) c3 ?_
    obtain⟨a1,j6,hm⟩:=bnd hm
    refine scE [(11,vT a1)] [] ?_ fun Z O hf=>?_
    ·replace hm:=j6
     clear j6
     exact zz
    ·clear j6
     exact zz
theorem g_unroll_start (t:Tree) (r:Int×(List Point)×(List Node)×Int) (hm:m_unroll_start t=some r):GFn Tryz.prog 15 [.u (.agg [dI t.States,dR2 t.Hood,dR1 t.Nodes])] [] (vX 1000001) [some (mOb .str kS (uA Tree.row) []),some (.box [dI 0,.d .nil,dI r.1,dR2 r.2.1,dR1 r.2.2.1,dI r.2.2.2,.map 1000000])]:=by
 refine bG bq _ Tryz.func15 rfl (by kernel_rfl) (by simp[Tryz.ntmps15]) (by simp) (by first | rfl | simp) (by first | rfl | simp) fun cx hn hk=>?_
 replace hn:cx.n=11:=hn.trans Tryz.ntmps15
 replace hk:cx.k=0:=hk
 unfold m_unroll_start at hm
 refine srs hn ?_
 simp -dsimp
 refine cm bq mixed 5 6 6 0 [[0,1,2,3,4]] [[8]] [] none (by rw[hn]; kernel_rfl) bO ?_
 dsimp only [List.take,List.drop,cn,cp,cV,pk,List.cons_append,List.nil_append,List.flatten_cons,List.flatten_nil,bN,bM,List.append_nil]
 obtain⟨y,h1,hm⟩:=bnd hm
 simp -dsimp
 refine bj (c_reduce_Reduce t y h1) ?_
 obtain⟨y1,h2,hm⟩:=bnd hm
 simp -dsimp
 refine bj (fh t.States y1 h2) ?_
 simp -dsimp [(@id (Ob.map .str []=mOb .str kS (uA Tree.row) ([]:List (List UInt8×Tree))) (mOb_nil .str kS (uA Tree.row)))]
 refine bj (c_reduce_Reduce t y h1) ?_
 simp -dsimp
 refine bj (fh t.States y1 h2) ?_
 simp -dsimp
 refine bE ?_
 cases hm
 refine⟨.inr rfl,?_⟩
 refine emr 8 1000000 hk ?_
 refine emr 10 1000001 hk ?_
 exact zz
def F_hood_Radius_1 (cx:Cx) (_l:List Point) (tt:Int) (ee:Exit) (Z:Env) (O:Sto):Prop:=match tt with
 | r_=>ee=.exit 0/\EE cx (bw [(3,vI r_)] []) Z O
theorem l_hood_Radius_1 (cx:Cx) (hn:cx.n=28) (l:List Point) {fu:Nat} {stt:Int×Int} {tt:Int} (hh:bh (b_hood_Radius_1 l) fu stt=some tt) {Z:Env} {O:Sto}
  (hE:bA (fun stt:Int×Int=>match stt with | (r_,a)=>[(3,vI r_),(8,.u (.one (dR2 l))),(9,vI (bf l)),(10,vI a)]) (fun stt:Int×Int=>match stt with | (_r_,_a)=>[]) stt Z O):Swp Tryz.prog cx (.loop (bJ [1,1,0,1,0,1,0,0] (bv Tryz.f16))) Z O (F_hood_Radius_1 cx l tt):=by
 refine bC hE hh (F_hood_Radius_1 cx l) ?_
 rintro⟨r_,a⟩ r hm Z O hf
 simp only[Fits,bo,bn,and_true] at hf
 unfold b_hood_Radius_1 at hm
 exact zz
theorem c_hood_Radius (l:List Point) (r:Int) (hm:m_hood_Radius l=some r):PureCall Tryz.prog 16 [.u (.one (dR2 l))] (vI r):=by
 refine bK Tryz.func16 Tryz.ntmps16 fun cx hn=>?_
 unfold m_hood_Radius at hm
 refine srs hn ?_
 simp -dsimp
 refine srs hn ?_
 simp -dsimp
 obtain⟨r_,j6,hm⟩:=bnd hm
 refine scE [(3,vI r_)] [] ?_ fun Z O hf=>?_
 ·replace hm:=j6
  clear j6
  refine srs hn ?_
  obtain⟨y,h1,hm⟩:=bnd hm
  simp -dsimp
  refine bg (c_hood_Right l y h1) (dkL hn) ?_
  simp -dsimp
  rcases bl hm with ⟨c2,hm⟩ | ⟨c2,hm⟩
  ·refine be (by simp -dsimp) c2 ?_
   refine srs hn ?_
   simp -dsimp [c2]
   refine bc ?_
   obtain⟨r_,g5,hm⟩:=bnd hm
   refine bu (l_hood_Radius_1 cx hn l g5) (by
     try dsimp only
     exact EE.here (by simp -dsimp)
   ) fun ee Z O xx=>?_
   exact zz
  ·exact zz
 ·clear j6
  exact zz
def dA (cx:Cx) (ag:List (List Int)) (a8:Int) (ae:List Point) (ab:List Node) (aj:Int) (ah:List (List UInt8×Tree)) (tt:((List Int)×Int)) (ee:Exit) (Z:Env) (O:Sto):Prop:=match tt with
 | (l,ai)=>ee=.exit 0/\EE cx (bw [(3,vO 5000)] [(5000,.row 1 3 (List.map (rI .i64) l)),(1000000,.box [dI ai,.own 1000001,dI a8,dR2 ae,dR1 ab,dI aj,.map 1000002]),(1000001,.row 1 26 (List.map (rS 1 (rI .i64)) ag)),(1000002,mOb .str kS (uA Tree.row) ah)]) Z O
theorem fK (cx:Cx) (hn:cx.n=29) (_hk:cx.k=3) (ag:List (List Int)) (a8:Int) (ae:List Point) (ab:List Node) (aj:Int) (ah:List (List UInt8×Tree)) {fu:Nat} {stt:Int×(List Int)×Int} {tt:((List Int)×Int)} (hh:bh (b_unroll_builder_fresh_o_1 ag a8 ae ab aj ah) fu stt=some tt) {Z:Env} {O:Sto}
  (hE:bA (fun stt:Int×(List Int)×Int=>match stt with | (a,_l,_ai)=>[(0,vX 1000000),(3,vO 5000),(7,vI aj),(8,vI a)]) (fun stt:Int×(List Int)×Int=>match stt with | (_a,l,ai)=>[(5000,.row 1 3 (List.map (rI .i64) l)),(1000000,.box [dI ai,.own 1000001,dI a8,dR2 ae,dR1 ab,dI aj,.map 1000002]),(1000001,.row 1 26 (List.map (rS 1 (rI .i64)) ag)),(1000002,mOb .str kS (uA Tree.row) ah)]) stt Z O):Swp Tryz.prog cx (.loop (bJ [1,1,0,1,0,0] (bv Tryz.f48))) Z O (dA cx ag a8 ae ab aj ah tt):=by
 refine bC hE hh (dA cx ag a8 ae ab aj ah) ?_
 rintro⟨a,l,ai⟩ r hm Z O hf
 simp only[Fits,bo,bn,and_true] at hf
 unfold b_unroll_builder_fresh_o_1 at hm
 dsimp only at hm
 refine srs hn ?_
 simp -dsimp [hf]
 refine ba ?_
 rcases bl hm with ⟨c1,hm⟩ | ⟨c1,hm⟩
 ·refine be (by simp -dsimp) c1 ?_
  refine bd (b9 (ba (bc ?_)))
  refine srs hn ?_
  simp -dsimp [hf,c1]
  refine sr1 hn ?_
  obtain⟨l1,h2,hm⟩:=bnd hm
  obtain⟨h2a,h2e⟩:=bp h2
  replace h2e:=h2e.symm
  subst h2e
  try simp only[List.length_cons,List.length_nil,Nat.zero_add] at h2a
  simp -dsimp [hf,h2a]
  refine bD ?_
  refine b9 ?_
  refine sr1 hn ?_
  simp -dsimp [hf]
  cases hm
  refine bI ?_
  refine emv 26 5000 ?_
  exact zz
 ·exact zz
theorem dQ (aa:Int) (ag:List (List Int)) (a8:Int) (ae:List Point) (ab:List Node) (aj:Int) (ah:List (List UInt8×Tree)) (r:(List Int)×Int) (hm:m_unroll_builder_fresh_o aa ag a8 ae ab aj ah=some r):GFn Tryz.prog 48 [vX 1000000] [.box [dI aa,.own 1000001,dI a8,dR2 ae,dR1 ab,dI aj,.map 1000002],.row 1 26 (List.map (rS 1 (rI .i64)) ag),mOb .str kS (uA Tree.row) ah] (.u (.one (dL r.1))) [some (.box [dI r.2,.own 1000001,dI a8,dR2 ae,dR1 ab,dI aj,.map 1000002]),some (.row 1 26 (List.map (rS 1 (rI .i64)) ag)),some (mOb .str kS (uA Tree.row) ah)]:=by
 refine bG bq _ Tryz.func48 rfl (by kernel_rfl) (by simp[Tryz.ntmps48]) (by simp) (by first | rfl | simp) (by first | rfl | simp) fun cx hn hk=>?_
 replace hn:cx.n=29:=hn.trans Tryz.ntmps48
 replace hk:cx.k=3:=hk
 unfold m_unroll_builder_fresh_o at hm
 refine srs hn ?_
 simp -dsimp
 refine srs hn ?_
 simp -dsimp
 refine ba ?_
 refine srs hn ?_
 simp -dsimp
 refine bc ?_
 obtain⟨⟨l,ai⟩,g3,hm⟩:=bnd hm
 refine bu (fK cx hn hk ag a8 ae ab aj ah g3) (by
   try dsimp only
   refine EE.step (Wk.own0 3 5000 1 3 (by simp -dsimp) (by decide)) ?_
   exact zz
 ) fun ee Z O xx=>?_
 exact zz
section
attribute [-simp] List.map_set List.set_set
def fI (cx:Cx) (_cv:Int) (_y:List Int) (tt:(List Int)) (ee:Exit) (Z:Env) (O:Sto):Prop:=match tt with
 | l=>ee=.exit 0/\EE cx (bw [(5,vO 8)] [(8,.row 1 3 (List.map (rI .i64) l))]) Z O
theorem l_unroll_against_1 (cx:Cx) (hn:cx.n=29) (cv:Int) (y:List Int) {fu:Nat} {stt:Int×(List Int)} {tt:(List Int)} (hh:bh (b_unroll_against_1 cv y) fu stt=some tt) {Z:Env} {O:Sto}
  (hE:bA (fun stt:Int×(List Int)=>match stt with | (a,_l)=>[(1,vI cv),(5,vO 8),(10,vI (bf y)),(11,vI a)]) (fun stt:Int×(List Int)=>match stt with | (_a,l)=>[(8,.row 1 3 (List.map (rI .i64) l))]) stt Z O):Swp Tryz.prog cx (.loop (bJ [1,1,0,1,0,0] (bv Tryz.f49))) Z O (fI cx cv y tt):=by
 refine bC hE hh (fI cx cv y) ?_
 rintro⟨a,l⟩ r hm Z O hf
 simp only[Fits,bo,bn,and_true] at hf
 unfold b_unroll_against_1 at hm
 dsimp only at hm
 refine srs hn ?_
 simp -dsimp [hf]
 refine ba ?_
 rcases bl hm with ⟨c2,hm⟩ | ⟨c2,hm⟩
 ·refine be (by simp -dsimp) c2 ?_
  refine bd (b9 ?_)
  obtain⟨l1,j6,hm⟩:=bnd hm
  refine scE [(1,vI cv),(5,vO 8),(10,vI (bf y)),(11,vI a)] [(8,.row 1 3 (List.map (rI .i64) l1))] ?_ fun Z O hf=>?_
  ·replace hm:=j6
   clear j6
   refine bc ?_
   refine srs hn ?_
   simp -dsimp [hf,c2]
   refine srs hn ?_
   obtain⟨n,h3,hm⟩:=bnd hm
   simp -dsimp [hf,h3]
   rcases bl hm with ⟨c4,hm⟩ | ⟨c4,hm⟩
   ·refine be (by simp -dsimp) c4 ?_
    refine sr1 hn ?_
    obtain⟨x,h5,hm⟩:=bnd hm
    simp -dsimp [hf,c4,h5,bF h5,rsetI .i64 l a.toNat (bH .i64 x)]
    refine bD ?_
    cases hm
    exact EE.here (by simp -dsimp [hf])
   ·refine bi (by simp -dsimp) c4 ?_
    refine bd ?_
    refine bD ?_
    cases hm
    exact EE.here (by simp -dsimp [hf,c4])
  ·clear j6
   exact zz
 ·exact zz
theorem hP (vars:List Int) (cv:Int) (r:List Int) (hm:m_unroll_against vars cv=some r):PureCall Tryz.prog 49 [.u (.one (dL vars)),vI cv] (.u (.one (dL r))):=by
 refine bK Tryz.func49 Tryz.ntmps49 fun cx hn=>?_
 unfold m_unroll_against at hm
 refine srs hn ?_
 simp -dsimp
 refine srs hn ?_
 obtain⟨y,h1,hm⟩:=bnd hm
 simp -dsimp
 refine callL_new (cd vars y h1) (dkL hn) (by decide) ?_
 simp -dsimp
 refine ba ?_
 refine srs hn ?_
 simp -dsimp
 refine bc ?_
 obtain⟨l,g7,hm⟩:=bnd hm
 refine bu (l_unroll_against_1 cx hn cv y g7) (by
   try dsimp only
   exact EE.here (by simp -dsimp)
 ) fun ee Z O xx=>?_
 exact zz
end
theorem cj (aa:Int) (ag:List (List Int)) (a8:Int) (ae:List Point) (ab:List Node) (aj:Int) (ah:List (List UInt8×Tree)) (l:List Int) (r:Unit) (hm:m_unroll_builder_clause_o aa ag a8 ae ab aj ah l=some r):GFn Tryz.prog 36 [vX 1000000,.u (.one (dL l))] [.box [dI aa,.own 1000001,dI a8,dR2 ae,dR1 ab,dI aj,.map 1000002],.row 1 26 (List.map (rS 1 (rI .i64)) ag),mOb .str kS (uA Tree.row) ah] (.tup []) [some (.box [dI aa,.own 1000003,dI a8,dR2 ae,dR1 ab,dI aj,.map 1000002]),none,some (mOb .str kS (uA Tree.row) ah),some (.row 1 26 (List.map (rS 1 (rI .i64)) (ag++[l])))]:=by
 refine bG bq _ Tryz.func36 rfl (by kernel_rfl) (by simp[Tryz.ntmps36]) (by simp) (by first | rfl | simp) (by first | rfl | simp) fun cx hn hk=>?_
 replace hn:cx.n=16:=hn.trans Tryz.ntmps36
 replace hk:cx.k=3:=hk
 unfold m_unroll_builder_clause_o at hm
 refine sr1 hn ?_
 obtain⟨l1,h1,hm⟩:=bnd hm
 obtain⟨h1a,h1e⟩:=bp h1
 replace h1e:=h1e.symm
 subst h1e
 try simp only[List.length_cons,List.length_nil,Nat.zero_add] at h1a
 simp -dsimp [h1a]
 cases hm
 try refine⟨.inl rfl,?_⟩
 refine emr 12 1000003 hk ?_
 exact zz
end Go.Proofs.YtnkmjlncmlmnbaaGreatDoor
namespace Go.Proofs.YtnkmjlncmlmnbaaGreatDoor
open Go.AM Go.Proofs
set_option maxRecDepth 100000
attribute [-simp] qlookup cb cL Ob.wipe Ob.ren Ob.frz1
def cT (cx:Cx) (ag:List (List Int)) (a8:Int) (ae:List Point) (ab:List Node) (aj:Int) (ah:List (List UInt8×Tree)) (box:Box) (tt:((List Bn)×Int)) (ee:Exit) (Z:Env) (O:Sto):Prop:=match tt with
 | (l,ai)=>ee=.exit 0/\EE cx (bw [(0,vX 1000000),(4,vX 4),(5,vX 5)] [(4,.box [dI 0,dI 0,dI 0,dI 0,.d .nil]),(5,.box [dI box.X,dI box.Y,dI box.W,dI box.H,.own 5000]),(5000,.row 2 68 (List.map Bn.row l)),(1000000,.box [dI ai,.own 1000001,dI a8,dR2 ae,dR1 ab,dI aj,.map 1000002]),(1000001,.row 1 26 (List.map (rS 1 (rI .i64)) ag)),(1000002,mOb .str kS (uA Tree.row) ah)]) Z O
theorem gh (cx:Cx) (hn:cx.n=56) (_hk:cx.k=3) (ag:List (List Int)) (a8:Int) (ae:List Point) (ab:List Node) (aj:Int) (ah:List (List UInt8×Tree)) (box:Box) {fu:Nat} {stt:Int×(List Bn)×Int} {tt:((List Bn)×Int)} (hh:bh (b_unroll_builder_free_o_1 ag a8 ae ab aj ah box) fu stt=some tt) {Z:Env} {O:Sto}
  (hE:bA (fun stt:Int×(List Bn)×Int=>match stt with | (a,_l,_ai)=>[(0,vX 1000000),(4,vX 4),(5,vX 5),(15,vI (bB .i64 box.W box.H)),(16,vI a)]) (fun stt:Int×(List Bn)×Int=>match stt with | (_a,l,ai)=>[(4,.box [dI 0,dI 0,dI 0,dI 0,.d .nil]),(5,.box [dI box.X,dI box.Y,dI box.W,dI box.H,.own 5000]),(5000,.row 2 68 (List.map Bn.row l)),(1000000,.box [dI ai,.own 1000001,dI a8,dR2 ae,dR1 ab,dI aj,.map 1000002]),(1000001,.row 1 26 (List.map (rS 1 (rI .i64)) ag)),(1000002,mOb .str kS (uA Tree.row) ah)]) stt Z O):Swp Tryz.prog cx (.loop (bJ [1,1,0,1,0,0] (bv Tryz.f17))) Z O (cT cx ag a8 ae ab aj ah box tt):=by
 refine bC hE hh (cT cx ag a8 ae ab aj ah box) ?_
 rintro⟨a,l,ai⟩ r hm Z O hf
 simp only[Fits,bo,bn,and_true] at hf
 unfold b_unroll_builder_free_o_1 at hm
 dsimp only at hm
 refine srs hn ?_
 simp -dsimp [hf]
 refine ba ?_
 rcases bl hm with ⟨c1,hm⟩ | ⟨c1,hm⟩
 ·refine be (by simp -dsimp) c1 ?_
  refine bd (b9 (ba (bc ?_)))
  refine sw_midc bq mixed 3 4 6 0 [[0,1]] [[]] [true,true] none (by rw[hn]; kernel_rfl) bO ?_
  dsimp only [List.take,List.drop,cn,cp,cV,pk,List.cons_append,List.nil_append,List.flatten_cons,List.flatten_nil,bN,bM,List.append_nil]
  obtain⟨y,h2,hm⟩:=bnd hm
  simp -dsimp [hf,c1]
  refine fo (dQ ai ag a8 ae ab aj ah y h2) [1000000,1000001,1000002] [] rfl rfl rfl (by simp -dsimp) rfl (by simp -dsimp [hf]) (by first | rfl | simp) rfl (dkL hn) rfl rfl (by simp) nofun (by simp) ?_
  obtain⟨u,h3,hm⟩:=bnd hm
  obtain⟨l1,h4,hm⟩:=bnd hm
  obtain⟨h4a,h4e⟩:=bp h4
  replace h4e:=h4e.symm
  subst h4e
  try simp only[List.length_cons,List.length_nil,Nat.zero_add] at h4a
  simp -dsimp [hf,h4a]
  refine bD ?_
  refine b9 ?_
  refine sr1 hn ?_
  simp -dsimp [hf]
  cases hm
  refine bI ?_
  refine emv 24 5000 ?_
  exact EE.here (by simp -dsimp [hf,cU h3 1 (rI .i64)])
 ·exact zz
def dM (cx:Cx) (a8:Int) (ae:List Point) (ab:List Node) (aj:Int) (ah:List (List UInt8×Tree)) (box:Box) (l:List Bn) (ai a:Int) (_x:Bn) (tt:(List (List Int))) (ee:Exit) (Z:Env) (O:Sto):Prop:=match tt with
 | l2=>ee=.exit 4/\EE cx (bw [(0,vX 1000000),(4,vX 4),(5,vX 5),(28,vO 5000),(29,vI (bf l)),(30,vI a)] [(4,.box [dI 0,dI 0,dI 0,dI 0,.d .nil]),(5,.box [dI box.X,dI box.Y,dI box.W,dI box.H,.own 5000]),(5000,.row 2 68 (List.map Bn.row l)),(5002,.row 1 26 (List.map (rS 1 (rI .i64)) l2)),(1000000,.box [dI ai,.own 5002,dI a8,dR2 ae,dR1 ab,dI aj,.map 1000002]),(1000002,mOb .str kS (uA Tree.row) ah)]) Z O
theorem gf (cx:Cx) (hn:cx.n=56) (_hk:cx.k=3) (a8:Int) (ae:List Point) (ab:List Node) (aj:Int) (ah:List (List UInt8×Tree)) (box:Box) (l:List Bn) (ai a:Int) (x:Bn) {fu:Nat} {stt:Int×(List (List Int))} {tt:(List (List Int))} (hh:bh (b_unroll_builder_free_o_3 a8 ae ab aj ah box l ai a x) fu stt=some tt) {Z:Env} {O:Sto}
  (hE:bA (fun stt:Int×(List (List Int))=>match stt with | (cv,_l2)=>[(0,vX 1000000),(4,vX 4),(5,vX 5),(7,vX 7),(8,vI cv),(28,vO 5000),(29,vI (bf l)),(30,vI a)]) (fun stt:Int×(List (List Int))=>match stt with | (_cv,l2)=>[(4,.box [dI 0,dI 0,dI 0,dI 0,.d .nil]),(5,.box [dI box.X,dI box.Y,dI box.W,dI box.H,.own 5000]),(7,.box [dI x.constant,.d (pnil 1 (List.map (rI .i64) x.vars))]),(5000,.row 2 68 (List.map Bn.row l)),(5002,.row 1 26 (List.map (rS 1 (rI .i64)) l2)),(1000000,.box [dI ai,.own 5002,dI a8,dR2 ae,dR1 ab,dI aj,.map 1000002]),(1000002,mOb .str kS (uA Tree.row) ah)]) stt Z O):Swp Tryz.prog cx (.loop (bJ [1,1,1,0,1,0,0,1,1,0,0,1,1,0,0] (bv Tryz.f17))) Z O (dM cx a8 ae ab aj ah box l ai a x tt):=by
 refine bC hE hh (dM cx a8 ae ab aj ah box l ai a x) ?_
 rintro⟨cv,l2⟩ r hm Z O hf
 simp only[Fits,bo,bn,and_true] at hf
 unfold b_unroll_builder_free_o_3 at hm
 dsimp only at hm
 refine ba ?_
 refine srs hn ?_
 obtain⟨n,h8,hm⟩:=bnd hm
 simp -dsimp [hf,h8]
 rcases bl hm with ⟨c9,hm⟩ | ⟨c9,hm⟩
 ·refine be (by simp -dsimp) c9 ?_
  refine bd (b9 (ba (bc ?_)))
  refine sr1 hn ?_
  obtain⟨u,h10,hm⟩:=bnd hm
  obtain⟨y,h11,hm⟩:=bnd hm
  simp -dsimp [hf,c9,cU h10 1 (rI .i64)]
  refine bg (hP x.vars cv y h11) (dkL hn) ?_
  obtain⟨y1,h12,hm⟩:=bnd hm
  simp -dsimp
  refine clg (cj ai l2 a8 ae ab aj ah y y1 h12) [1000000,5002,1000002] [5001] (by simp -dsimp [hf]) (dkL hn) ?_
  simp -dsimp [cU h10 1 (rI .i64)]
  refine bD ?_
  refine b9 ?_
  refine sr1 hn ?_
  simp -dsimp [hf]
  cases hm
  refine bI ?_
  refine emv 5001 5002 ?_
  exact zz
 ·exact zz
def cS (cx:Cx) (a8:Int) (ae:List Point) (ab:List Node) (aj:Int) (ah:List (List UInt8×Tree)) (box:Box) (l:List Bn) (ai:Int) (tt:(List (List Int))) (ee:Exit) (Z:Env) (O:Sto):Prop:=match tt with
 | l1=>ee=.exit 2/\EE cx (bw [(4,vX 4),(5,vX 5)] [(4,.box [dI 0,dI 0,dI 0,dI 0,.d .nil]),(5,.box [dI box.X,dI box.Y,dI box.W,dI box.H,.own 5000]),(5000,.row 2 68 (List.map Bn.row l)),(5002,.row 1 26 (List.map (rS 1 (rI .i64)) l1)),(1000000,.box [dI ai,.own 5002,dI a8,dR2 ae,dR1 ab,dI aj,.map 1000002]),(1000002,mOb .str kS (uA Tree.row) ah)]) Z O
theorem ga (cx:Cx) (hn:cx.n=56) (hk:cx.k=3) (a8:Int) (ae:List Point) (ab:List Node) (aj:Int) (ah:List (List UInt8×Tree)) (box:Box) (l:List Bn) (ai:Int) {fu:Nat} {stt:Int×(List (List Int))} {tt:(List (List Int))} (hh:bh (b_unroll_builder_free_o_2 a8 ae ab aj ah box l ai) fu stt=some tt) {Z:Env} {O:Sto}
  (hE:bA (fun stt:Int×(List (List Int))=>match stt with | (a,_l1)=>[(0,vX 1000000),(4,vX 4),(5,vX 5),(28,vO 5000),(29,vI (bf l)),(30,vI a)]) (fun stt:Int×(List (List Int))=>match stt with | (_a,l1)=>[(4,.box [dI 0,dI 0,dI 0,dI 0,.d .nil]),(5,.box [dI box.X,dI box.Y,dI box.W,dI box.H,.own 5000]),(5000,.row 2 68 (List.map Bn.row l)),(5002,.row 1 26 (List.map (rS 1 (rI .i64)) l1)),(1000000,.box [dI ai,.own 5002,dI a8,dR2 ae,dR1 ab,dI aj,.map 1000002]),(1000002,mOb .str kS (uA Tree.row) ah)]) stt Z O):Swp Tryz.prog cx (.loop (bJ [1,1,1,0,1,0,0] (bv Tryz.f17))) Z O (cS cx a8 ae ab aj ah box l ai tt):=by
 refine bC hE hh (cS cx a8 ae ab aj ah box l ai) ?_
 rintro⟨a,l1⟩ r hm Z O hf
 simp only[Fits,bo,bn,and_true] at hf
 unfold b_unroll_builder_free_o_2 at hm
 dsimp only at hm
 refine srs hn ?_
 simp -dsimp [hf]
 refine ba ?_
 rcases bl hm with ⟨c6,hm⟩ | ⟨c6,hm⟩
 ·refine be (by simp -dsimp) c6 ?_
  refine bd (b9 (ba (bc ?_)))
  refine srs hn ?_
  obtain⟨x,h7,hm⟩:=bnd hm
  simp -dsimp [hf,c6,h7,bF h7]
  refine srs hn ?_
  simp -dsimp [hf]
  refine bc ?_
  obtain⟨l2,g13,hm⟩:=bnd hm
  refine bu (gf cx hn hk a8 ae ab aj ah box l ai a x g13) (by
    try dsimp only
    refine EE.here ?_
    exact zz
  ) fun ee Z O xx=>?_
  exact zz
 ·exact zz
theorem e9 (aa:Int) (ag:List (List Int)) (a8:Int) (ae:List Point) (ab:List Node) (aj:Int) (ah:List (List UInt8×Tree)) (box:Box) (r:(List Bn)×(List (List Int))×Int) (hm:m_unroll_builder_free_o aa ag a8 ae ab aj ah box=some r):GFn Tryz.prog 17 [vX 1000000,.u (.agg [dI box.X,dI box.Y,dI box.W,dI box.H])] [.box [dI aa,.own 1000001,dI a8,dR2 ae,dR1 ab,dI aj,.map 1000002],.row 1 26 (List.map (rS 1 (rI .i64)) ag),mOb .str kS (uA Tree.row) ah] (.u (.agg [dI box.X,dI box.Y,dI box.W,dI box.H,dR4 r.1])) [some (.box [dI r.2.2,.own 1000003,dI a8,dR2 ae,dR1 ab,dI aj,.map 1000002]),none,some (mOb .str kS (uA Tree.row) ah),some (.row 1 26 (List.map (rS 1 (rI .i64)) r.2.1))]:=by
 refine bG bq _ Tryz.func17 rfl (by kernel_rfl) (by simp[Tryz.ntmps17]) (by simp) (by first | rfl | simp) (by first | rfl | simp) fun cx hn hk=>?_
 replace hn:cx.n=56:=hn.trans Tryz.ntmps17
 replace hk:cx.k=3:=hk
 unfold m_unroll_builder_free_o at hm
 refine srs hn ?_
 simp -dsimp
 refine srs hn ?_
 simp -dsimp
 refine ba ?_
 refine srs hn ?_
 simp -dsimp
 refine bc ?_
 obtain⟨⟨l,ai⟩,g5,hm⟩:=bnd hm
 refine bu (gh cx hn hk ag a8 ae ab aj ah box g5) (by
   try dsimp only
   refine EE.step (Wk.own0b 5 4 5000 2 68 [dI box.X,dI box.Y,dI box.W,dI box.H,.d .nil] (by simp -dsimp) (by rfl) (by decide) (by decide)) ?_
   exact zz
 ) fun ee Z O xx=>?_
 unfold cT at xx
 dsimp only at xx
 obtain⟨rfl,xx⟩:=xx
 refine bz ?_
 refine b9 ?_
 refine see xx fun Z O hf=>?_
 simp only[Fits,bo,bn,and_true] at hf
 refine ba ?_
 refine srs hn ?_
 simp -dsimp [hf]
 refine bc ?_
 obtain⟨l1,g14,hm⟩:=bnd hm
 refine bu (ga cx hn hk a8 ae ab aj ah box l ai g14) (by
   try dsimp only
   refine emv 1000001 5002 ?_
   exact zz
 ) fun ee Z O xx=>?_
 unfold cS at xx
 dsimp only at xx
 obtain⟨rfl,xx⟩:=xx
 refine bz ?_
 refine b9 ?_
 refine see xx fun Z O hf=>?_
 simp only[Fits,bo,bn,and_true] at hf
 refine Swp.pre (Wk.frz 5000 2 68 (List.map Bn.row l) (by simp -dsimp [hf])) ?_
 refine srs hn ?_
 simp -dsimp [hf]
 refine bE ?_
 cases hm
 refine⟨.inr rfl,?_⟩
 refine emr 5002 1000003 hk ?_
 exact zz
theorem i2 (n:Int) (r:Bool) (hm:m_point_in n=some r):PureCall Tryz.prog 85 [vI n] (vT r):=by
 refine bK Tryz.func85 Tryz.ntmps85 fun cx hn=>?_
 unfold m_point_in at hm
 refine srs hn ?_
 simp -dsimp
 obtain⟨a,j2,hm⟩:=bnd hm
 refine scE [(2,vT a)] [] ?_ fun Z O hf=>?_
 ·replace hm:=j2
  clear j2
  exact zz
 ·clear j2
  exact zz
theorem gC (b:Box) (r:Bool) (hm:m_point_Right b=some r):PureCall Tryz.prog 50 [.u (.agg [dI b.X,dI b.Y,dI b.W,dI b.H])] (vT r):=by
 refine bK Tryz.func50 Tryz.ntmps50 fun cx hn=>?_
 unfold m_point_Right at hm
 refine srs hn ?_
 simp -dsimp
 obtain⟨a,j12,hm⟩:=bnd hm
 refine scE [(2,vT a)] [] ?_ fun Z O hf=>?_
 ·replace hm:=j12
  clear j12
  refine sr1 hn ?_
  rcases bl hm with ⟨c1,hm⟩ | ⟨c1,hm⟩
  ·rcases bl hm with ⟨c2,hm⟩ | ⟨c2,hm⟩
   ·rcases bl hm with ⟨c3,hm⟩ | ⟨c3,hm⟩
    ·rcases bl hm with ⟨c4,hm⟩ | ⟨c4,hm⟩
     ·obtain⟨y,h5,hm⟩:=bnd hm
      simp -dsimp [c1,c2,c3,c4]
      refine bg (i2 b.X y h5) (dkL hn) ?_
      rcases bl hm with ⟨c6,hm⟩ | ⟨c6,hm⟩
      ·obtain⟨y1,h7,hm⟩:=bnd hm
       simp -dsimp [c6]
       refine bg (i2 b.Y y1 h7) (dkL hn) ?_
       rcases bl hm with ⟨c8,hm⟩ | ⟨c8,hm⟩
       ·obtain⟨y2,h9,hm⟩:=bnd hm
        simp -dsimp [c8]
        refine bg (i2 (br .i64 (bk .i64 b.X b.W) 1) y2 h9) (dkL hn) ?_
        rcases bl hm with ⟨c10,hm⟩ | ⟨c10,hm⟩
        ·obtain⟨y3,h11,hm⟩:=bnd hm
         simp -dsimp [c10]
         refine bg (i2 (br .i64 (bk .i64 b.Y b.H) 1) y3 h11) (dkL hn) ?_
         exact zz
        ·exact zz
       ·exact zz
      ·exact zz
     ·exact zz
    ·exact zz
   ·exact zz
  ·exact zz
 ·clear j12
  exact zz
theorem dJ (k:Int) (p r:Point) (hm:m_symmetry_Apply k p=some r):PureCall Tryz.prog 52 [vI k,.u (.agg [dI p.X,dI p.Y])] (.u (.agg [dI r.X,dI r.Y])):=by
 refine bK Tryz.func52 Tryz.ntmps52 fun cx hn=>?_
 unfold m_symmetry_Apply at hm
 refine srs hn ?_
 simp -dsimp
 refine srs hn ?_
 obtain⟨x,h1,hm⟩:=bnd hm
 simp -dsimp [aidx_ok h1,g0_get h1]
 refine srs hn ?_
 simp -dsimp [(@id (aok 4 0=true) rfl),(@id (aok 4 1=true) rfl),(@id (aok 4 2=true) rfl),(@id (aok 4 3=true) rfl)]
 cases hm
 exact bE ⟨.inr rfl,EE.here (by simp -dsimp)⟩
theorem c_symmetry_Turn (k:Int) (b r:Box) (hm:m_symmetry_Turn k b=some r):PureCall Tryz.prog 51 [vI k,.u (.agg [dI b.X,dI b.Y,dI b.W,dI b.H])] (.u (.agg [dI r.X,dI r.Y,dI r.W,dI r.H])):=by
 refine bK Tryz.func51 Tryz.ntmps51 fun cx hn=>?_
 unfold m_symmetry_Turn at hm
 refine srs hn ?_
 simp -dsimp
 refine ba ?_
 refine srs hn ?_
 obtain⟨y,h1,hm⟩:=bnd hm
 simp -dsimp
 refine bg (gC b y h1) (dkL hn) ?_
 simp -dsimp
 rcases bl hm with ⟨c2,hm⟩ | ⟨c2,hm⟩
 ·exact zz
 ·refine bi (by simp -dsimp) c2 ?_
  refine bd (b9 ?_)
  refine srs hn ?_
  obtain⟨y1,h3,hm⟩:=bnd hm
  simp -dsimp [c2]
  refine bg (dJ k (⟨b.X,b.Y⟩:Point) y1 h3) (dkL hn) ?_
  simp -dsimp
  refine srs hn ?_
  obtain⟨y2,h4,hm⟩:=bnd hm
  simp -dsimp
  refine bg (dJ k (⟨(br .i64 (bk .i64 b.X b.W) 1),(br .i64 (bk .i64 b.Y b.H) 1)⟩:Point) y2 h4) (dkL hn) ?_
  simp -dsimp
  refine cO bq mixed (by rw[hn]; kernel_rfl) ?_
  simp -dsimp
  refine srs hn ?_
  simp -dsimp
  cases hm
  exact bE ⟨.inr rfl,EE.here (by simp -dsimp)⟩
theorem gp (k:Int) (b:Box) (p r:Point) (hm:m_symmetry_Within k b p=some r):PureCall Tryz.prog 18 [vI k,.u (.agg [dI b.X,dI b.Y,dI b.W,dI b.H]),.u (.agg [dI p.X,dI p.Y])] (.u (.agg [dI r.X,dI r.Y])):=by
 refine bK Tryz.func18 Tryz.ntmps18 fun cx hn=>?_
 unfold m_symmetry_Within at hm
 refine srs hn ?_
 simp -dsimp
 refine ba ?_
 obtain⟨a,j7,hm⟩:=bnd hm
 refine scE [(0,vI k),(4,vX 4),(5,vX 5),(6,vX 6),(20,vT a)] [(4,.box [dI b.X,dI b.Y,dI b.W,dI b.H]),(5,.box [dI p.X,dI p.Y]),(6,.box [dI 0,dI 0])] ?_ fun Z O hf=>?_
 ·replace hm:=j7
  clear j7
  refine sr1 hn ?_
  obtain⟨y,h1,hm⟩:=bnd hm
  simp -dsimp
  refine bg (gC b y h1) (dkL hn) ?_
  rcases bl hm with ⟨c2,hm⟩ | ⟨c2,hm⟩
  ·exact zz
  ·obtain⟨y1,h3,hm⟩:=bnd hm
   simp -dsimp [c2]
   refine bg (gC (⟨p.X,p.Y,1,1⟩:Box) y1 h3) (dkL hn) ?_
   exact zz
 ·clear j7
  simp only[Fits,bo,bn,and_true] at hf
  rcases bl hm with ⟨c4,hm⟩ | ⟨c4,hm⟩
  ·exact zz
  ·refine bi (by simp -dsimp [hf]) c4 ?_
   refine bd (b9 ?_)
   refine cm bq mixed 6 7 8 7 [[0,1,2,3,4,5]] [[7]] [false] (some (8,.box [dI 0,dI 0])) (by rw[hn]; kernel_rfl) (fltT_some 70 _ (by kernel_rfl) rfl rfl rfl (by simp[C.wipe])) ?_
   dsimp only [List.take,List.drop,cn,cp,cV,pk,List.cons_append,List.nil_append,List.flatten_cons,List.flatten_nil,bN,bM,List.append_nil]
   obtain⟨y,h5,hm⟩:=bnd hm
   simp -dsimp [hf]
   refine bj (c_symmetry_Turn k b y h5) ?_
   obtain⟨y1,h6,hm⟩:=bnd hm
   simp -dsimp [hf]
   refine bj (dJ k p y1 h6) ?_
   simp -dsimp [hf]
   refine bj (c_symmetry_Turn k b y h5) ?_
   simp -dsimp [hf]
   refine bj (dJ k p y1 h6) ?_
   exact zz
theorem dm (f:Bo) (x y:Int) (r:Bn) (hm:m_unroll_field_at f x y=some r):PureCall Tryz.prog 20 [.u (.agg [dI f.box.X,dI f.box.Y,dI f.box.W,dI f.box.H,dR4 f.values]),vI x,vI y] (.u (.agg [dI r.constant,.d (pnil 1 (List.map (rI .i64) r.vars))])):=by
 refine bK Tryz.func20 Tryz.ntmps20 fun cx hn=>?_
 unfold m_unroll_field_at at hm
 refine srs hn ?_
 simp -dsimp
 refine cO bq mixed (by rw[hn]; kernel_rfl) ?_
 simp -dsimp
 refine ba ?_
 obtain⟨a,j6,hm⟩:=bnd hm
 refine scE [(1,vI (br .i64 x f.box.X)),(2,vI (br .i64 y f.box.Y)),(3,vX 3),(6,vX 6),(36,vT a)] [(3,.box [dI f.box.X,dI f.box.Y,dI f.box.W,dI f.box.H,dR4 f.values]),(6,.box [dI 0,.d .nil])] ?_ fun Z O hf=>?_
 ·replace hm:=j6
  clear j6
  exact zz
 ·clear j6
  exact zz
def cQ (cx:Cx) (aa a8:Int) (ae:List Point) (ab:List Node) (aj:Int) (ah:List (List UInt8×Tree)) (_x _y:List Int) (tt:(List (List Int))) (ee:Exit) (Z:Env) (O:Sto):Prop:=match tt with
 | l=>ee=.exit 0/\EE cx (bw [] [(5002,.row 1 26 (List.map (rS 1 (rI .i64)) l)),(1000000,.box [dI aa,.own 5002,dI a8,dR2 ae,dR1 ab,dI aj,.map 1000002]),(1000002,mOb .str kS (uA Tree.row) ah)]) Z O
theorem gj (cx:Cx) (hn:cx.n=37) (_hk:cx.k=3) (aa a8:Int) (ae:List Point) (ab:List Node) (aj:Int) (ah:List (List UInt8×Tree)) (x y:List Int) {fu:Nat} {stt:Int×(List (List Int))} {tt:(List (List Int))} (hh:bh (b_unroll_builder_same_o_1 aa a8 ae ab aj ah x y) fu stt=some tt) {Z:Env} {O:Sto}
  (hE:bA (fun stt:Int×(List (List Int))=>match stt with | (a,_l)=>[(0,vX 1000000),(1,.u (.one (dL x))),(2,.u (.one (dL y))),(8,vI (bf x)),(9,vI a)]) (fun stt:Int×(List (List Int))=>match stt with | (_a,l)=>[(5002,.row 1 26 (List.map (rS 1 (rI .i64)) l)),(1000000,.box [dI aa,.own 5002,dI a8,dR2 ae,dR1 ab,dI aj,.map 1000002]),(1000002,mOb .str kS (uA Tree.row) ah)]) stt Z O):Swp Tryz.prog cx (.loop (bJ [1,0,0] (bv Tryz.f19))) Z O (cQ cx aa a8 ae ab aj ah x y tt):=by
 refine bC hE hh (cQ cx aa a8 ae ab aj ah x y) ?_
 rintro⟨a,l⟩ r hm Z O hf
 simp only[Fits,bo,bn,and_true] at hf
 unfold b_unroll_builder_same_o_1 at hm
 dsimp only at hm
 refine srs hn ?_
 simp -dsimp [hf]
 refine ba ?_
 rcases bl hm with ⟨c1,hm⟩ | ⟨c1,hm⟩
 ·refine be (by simp -dsimp) c1 ?_
  refine bd (b9 (ba (bc ?_)))
  refine srs hn ?_
  simp -dsimp [hf,c1]
  refine fg bq mixed 11 (by rw[hn]; kernel_rfl) ?_
  dsimp only [List.take,List.drop]
  obtain⟨x1,h2,hm⟩:=bnd hm
  obtain⟨x2,h3,hm⟩:=bnd hm
  obtain⟨y1,h4,hm⟩:=bnd hm
  simp -dsimp [hf,h2,h3]
  refine clg (cj aa l a8 ae ab aj ah [(bH .i64 x1),x2] y1 h4) [1000000,5002,1000002] [5000] (by simp -dsimp [hf]) (dkL hn) ?_
  simp -dsimp
  refine dl bq mixed 11 (by rw[hn]; kernel_rfl) ?_
  dsimp only [List.take,List.drop]
  obtain⟨y2,h5,hm⟩:=bnd hm
  simp -dsimp [hf,h2,h3]
  refine clg (cj aa (l++[[(bH .i64 x1),x2]]) a8 ae ab aj ah [x1,(bH .i64 x2)] y2 h5) [1000000,5000,1000002] [5001] (by simp -dsimp) (dkL hn) ?_
  simp -dsimp
  refine bD ?_
  refine b9 ?_
  refine sr1 hn ?_
  simp -dsimp [hf]
  cases hm
  refine bI ?_
  refine emv 5001 5002 ?_
  exact zz
 ·exact zz
theorem e7 (aa:Int) (ag:List (List Int)) (a8:Int) (ae:List Point) (ab:List Node) (aj:Int) (ah:List (List UInt8×Tree)) (x y:List Int) (r:List (List Int)) (hm:m_unroll_builder_same_o aa ag a8 ae ab aj ah x y=some r):GFn Tryz.prog 19 [vX 1000000,.u (.one (dL x)),.u (.one (dL y))] [.box [dI aa,.own 1000001,dI a8,dR2 ae,dR1 ab,dI aj,.map 1000002],.row 1 26 (List.map (rS 1 (rI .i64)) ag),mOb .str kS (uA Tree.row) ah] (.tup []) [some (.box [dI aa,.own 1000003,dI a8,dR2 ae,dR1 ab,dI aj,.map 1000002]),none,some (mOb .str kS (uA Tree.row) ah),some (.row 1 26 (List.map (rS 1 (rI .i64)) r))]:=by
 refine bG bq _ Tryz.func19 rfl (by kernel_rfl) (by simp[Tryz.ntmps19]) (by simp) (by first | rfl | simp) (by first | rfl | simp) fun cx hn hk=>?_
 replace hn:cx.n=37:=hn.trans Tryz.ntmps19
 replace hk:cx.k=3:=hk
 unfold m_unroll_builder_same_o at hm
 refine srs hn ?_
 simp -dsimp
 refine bc ?_
 obtain⟨l,g6,hm⟩:=bnd hm
 refine bu (gj cx hn hk aa a8 ae ab aj ah x y g6) (by
   try dsimp only
   refine emv 1000001 5002 ?_
   exact zz
 ) fun ee Z O xx=>?_
 unfold cQ at xx
 dsimp only at xx
 obtain⟨rfl,xx⟩:=xx
 refine bz ?_
 cases hm
 try refine⟨.inl rfl,?_⟩
 refine ee_bind (by rfl) (by rfl) xx fun Z O hf=>?_
 simp only[Fits,bo,bn,and_true,true_and] at hf
 refine emr 5002 1000003 hk ?_
 exact zz
section
attribute [-simp] List.map_set List.set_set
def dP (cx:Cx) (_next:List Int) (aL:Int) (aV:List Point) (aQ:List Node) (a a1:Int) (tt:(List Int)) (ee:Exit) (Z:Env) (O:Sto):Prop:=match tt with
 | aJ=>ee=.exit 0/\EE cx (bw [(1,vO 1000000)] [(1000000,.row 1 3 (List.map (rI .i64) aJ)),(1000001,.box [dI aL,dR2 aV,dR1 aQ]),(1000002,.box [dI a]),(1000003,.box [dI a1])]) Z O
theorem gM (cx:Cx) (hn:cx.n=33) (_hk:cx.k=4) (next:List Int) (aL:Int) (aV:List Point) (aQ:List Node) (a a1:Int) {fu:Nat} {stt:Int×(List Int)} {tt:(List Int)} (hh:bh (b_reduce_Fix_1_o_o_o_o_1 next aL aV aQ a a1) fu stt=some tt) {Z:Env} {O:Sto}
  (hE:bA (fun stt:Int×(List Int)=>match stt with | (a2,_aJ)=>[(1,vO 1000000),(4,vX 1000003),(17,vI (bf next)),(18,vI a2)]) (fun stt:Int×(List Int)=>match stt with | (_a2,aJ)=>[(1000000,.row 1 3 (List.map (rI .i64) aJ)),(1000001,.box [dI aL,dR2 aV,dR1 aQ]),(1000002,.box [dI a]),(1000003,.box [dI a1])]) stt Z O):Swp Tryz.prog cx (.loop (bJ [1,0,1,0,1,0,0] (bv Tryz.f109))) Z O (dP cx next aL aV aQ a a1 tt):=by
 refine bC hE hh (dP cx next aL aV aQ a a1) ?_
 rintro⟨a2,aJ⟩ r hm Z O hf
 simp only[Fits,bo,bn,and_true] at hf
 unfold b_reduce_Fix_1_o_o_o_o_1 at hm
 dsimp only at hm
 refine srs hn ?_
 simp -dsimp [hf]
 refine ba ?_
 rcases bl hm with ⟨c2,hm⟩ | ⟨c2,hm⟩
 ·refine be (by simp -dsimp) c2 ?_
  refine bd (b9 ?_)
  obtain⟨next2,j6,hm⟩:=bnd hm
  refine scE [(1,vO 1000000),(4,vX 1000003),(17,vI (bf next)),(18,vI a2)] [(1000000,.row 1 3 (List.map (rI .i64) next2)),(1000001,.box [dI aL,dR2 aV,dR1 aQ]),(1000002,.box [dI a]),(1000003,.box [dI a1])] ?_ fun Z O hf=>?_
  ·replace hm:=j6
   clear j6
   refine bc ?_
   refine srs hn ?_
   simp -dsimp [hf,c2]
   refine srs hn ?_
   simp -dsimp [hf]
   rcases bl hm with ⟨c3,hm⟩ | ⟨c3,hm⟩
   ·refine be (by simp -dsimp) c3 ?_
    refine sr1 hn ?_
    obtain⟨x,h4,hm⟩:=bnd hm
    obtain⟨x1,h5,hm⟩:=bnd hm
    simp -dsimp [hf,c3,h4,bF h4,h5,bF h5,rsetI .i64 aJ a2.toNat x]
    refine bD ?_
    cases hm
    exact EE.here (by simp -dsimp [hf])
   ·refine bi (by simp -dsimp) c3 ?_
    refine bd ?_
    refine bD ?_
    cases hm
    exact EE.here (by simp -dsimp [hf,c3])
  ·clear j6
   exact zz
 ·exact zz
theorem ik (level:Int) (next:List Int) (aL:Int) (aV:List Point) (aQ:List Node) (a a1:Int) (r:List Int) (hm:m_reduce_Fix_1_o_o_o_o level next aL aV aQ a a1=some r):GFn Tryz.prog 109 [vI level,vO 1000000,vX 1000001,vX 1000002,vX 1000003] [.row 1 3 (List.map (rI .i64) next),.box [dI aL,dR2 aV,dR1 aQ],.box [dI a],.box [dI a1]] (vO 1000000) [some (.row 1 3 (List.map (rI .i64) r)),some (.box [dI aL,dR2 aV,dR1 aQ]),some (.box [dI a]),some (.box [dI a1])]:=by
 refine bG bq _ Tryz.func109 rfl (by kernel_rfl) (by simp[Tryz.ntmps109]) (by simp) (by first | rfl | simp) (by first | rfl | simp) fun cx hn hk=>?_
 replace hn:cx.n=33:=hn.trans Tryz.ntmps109
 replace hk:cx.k=4:=hk
 unfold m_reduce_Fix_1_o_o_o_o at hm
 refine srs hn ?_
 simp -dsimp
 obtain⟨aJ,j8,hm⟩:=bnd hm
 refine scE [(1,vO 1000000)] [(1000000,.row 1 3 (List.map (rI .i64) aJ)),(1000001,.box [dI aL,dR2 aV,dR1 aQ]),(1000002,.box [dI a]),(1000003,.box [dI a1])] ?_ fun Z O hf=>?_
 ·replace hm:=j8
  clear j8
  refine srs hn ?_
  simp -dsimp
  rcases bl hm with ⟨c1,hm⟩ | ⟨c1,hm⟩
  ·refine sct c1 ?_
   refine srs hn ?_
   simp -dsimp [c1]
   refine bc ?_
   obtain⟨aJ,g7,hm⟩:=bnd hm
   refine bu (gM cx hn hk next aL aV aQ a a1 g7) (by
     try dsimp only
     exact EE.here (by simp -dsimp)
   ) fun ee Z O xx=>?_
   exact zz
  ·exact zz
 ·clear j8
  exact zz
end
def cz (cx:Cx) (aA:List Node) (ak:List (List UInt8×Int)) (level:Int) (next:List Int) (tt:(List Int)) (ee:Exit) (Z:Env) (O:Sto):Prop:=match tt with
 | keyv=>ee=.exit 0/\EE cx (bw [(0,vX 1000000),(1,vI level),(2,vO 1000003),(7,vO 5002)] [(5002,.row 1 5 (List.map (rI .u8) keyv)),(1000000,.box [.own 1000001,.map 1000002]),(1000001,.row 2 39 (List.map Node.row aA)),(1000002,mOb .str kS (uL (L.int .i64)) ak),(1000003,.row 1 3 (List.map (rI .i64) next))]) Z O
theorem fi (cx:Cx) (hn:cx.n=68) (_hk:cx.k=4) (aA:List Node) (ak:List (List UInt8×Int)) (level:Int) (next:List Int) {fu:Nat} {stt:Int×(List Int)} {tt:(List Int)} (hh:bh (b_reduce_builder_node_o_o_1 aA ak level next) fu stt=some tt) {Z:Env} {O:Sto}
  (hE:bA (fun stt:Int×(List Int)=>match stt with | (a,_keyv)=>[(0,vX 1000000),(1,vI level),(2,vO 1000003),(7,vO 5002),(14,vO 1000003),(15,vI (bf next)),(16,vI a)]) (fun stt:Int×(List Int)=>match stt with | (_a,keyv)=>[(5002,.row 1 5 (List.map (rI .u8) keyv)),(1000000,.box [.own 1000001,.map 1000002]),(1000001,.row 2 39 (List.map Node.row aA)),(1000002,mOb .str kS (uL (L.int .i64)) ak),(1000003,.row 1 3 (List.map (rI .i64) next))]) stt Z O):Swp Tryz.prog cx (.loop (bJ [1,1,0,1,0,0] (bv Tryz.f104))) Z O (cz cx aA ak level next tt):=by
 refine bC hE hh (cz cx aA ak level next) ?_
 rintro⟨a,keyv⟩ r hm Z O hf
 simp only[Fits,bo,bn,and_true] at hf
 unfold b_reduce_builder_node_o_o_1 at hm
 dsimp only at hm
 refine srs hn ?_
 simp -dsimp [hf]
 refine ba ?_
 rcases bl hm with ⟨c2,hm⟩ | ⟨c2,hm⟩
 ·refine be (by simp -dsimp) c2 ?_
  refine bd (b9 (ba (bc ?_)))
  refine srs hn ?_
  obtain⟨x,h3,hm⟩:=bnd hm
  simp -dsimp [hf,c2,h3,bF h3]
  refine sr1 hn ?_
  obtain⟨l,h4,hm⟩:=bnd hm
  obtain⟨h4a,h4e⟩:=bp h4
  replace h4e:=h4e.symm
  subst h4e
  try simp only[List.length_cons,List.length_nil,Nat.zero_add] at h4a
  try simp only[Nat.mul_one,Nat.reduceLeDiff] at h4a
  obtain⟨y1,h5,hm⟩:=bnd hm
  simp -dsimp [hf,h4a]
  refine clg (ev (keyv++[32]) x 10 y1 h5) [22] [5001] (by simp -dsimp) (dkL hn) ?_
  simp -dsimp
  refine bD ?_
  refine b9 ?_
  refine sr1 hn ?_
  simp -dsimp [hf]
  cases hm
  refine bI ?_
  refine emv 5001 5002 ?_
  exact zz
 ·exact zz
theorem gg (aA:List Node) (ak:List (List UInt8×Int)) (level:Int) (next:List Int) (r:Int×(List (List UInt8×Int))×(List Node)) (hm:m_reduce_builder_node_o_o aA ak level next=some r):GFn Tryz.prog 104 [vX 1000000,vI level,vO 1000003] [.box [.own 1000001,.map 1000002],.row 2 39 (List.map Node.row aA),mOb .str kS (uL (L.int .i64)) ak,.row 1 3 (List.map (rI .i64) next)] (vI r.1) [some (.box [.own 1000004,.map 1000002]),none,some (mOb .str kS (uL (L.int .i64)) r.2.1),none,some (.row 2 39 (List.map Node.row r.2.2))]:=by
 refine bG bq _ Tryz.func104 rfl (by kernel_rfl) (by simp[Tryz.ntmps104]) (by simp) (by first | rfl | simp) (by first | rfl | simp) fun cx hn hk=>?_
 replace hn:cx.n=68:=hn.trans Tryz.ntmps104
 replace hk:cx.k=4:=hk
 unfold m_reduce_builder_node_o_o at hm
 refine srs hn ?_
 simp -dsimp
 refine srs hn ?_
 obtain⟨y,h1,hm⟩:=bnd hm
 simp -dsimp
 refine clg (ew level 10 y h1) [] [5000] (by simp -dsimp) (dkL hn) ?_
 simp -dsimp
 refine ba ?_
 refine srs hn ?_
 simp -dsimp
 refine bc ?_
 obtain⟨keyv,g6,hm⟩:=bnd hm
 refine bu (fi cx hn hk aA ak level next g6) (by
   try dsimp only
   refine emv 5000 5002 ?_
   exact zz
 ) fun ee Z O xx=>?_
 unfold cz at xx
 dsimp only at xx
 obtain⟨rfl,xx⟩:=xx
 refine bz ?_
 refine b9 ?_
 refine see xx fun Z O hf=>?_
 simp only[Fits,bo,bn,and_true] at hf
 refine ba ?_
 refine cO bq mixed (by rw[hn]; kernel_rfl) ?_
 obtain⟨u,h7,hm⟩:=bnd hm
 simp -dsimp [hf,fQ h7,(@id (lkM (gO (mOb .str kS (uL (L.int .i64)) ak) (.str (ofBytes keyv))) true (.one (dI 0))=some (.tup [.one (dI (mgetD ak (ofBytes keyv) 0)),.one (.d (.bool (eu ak (ofBytes keyv))))])) (lk_two (ofBytes keyv) 0))]
 refine srs hn ?_
 simp -dsimp
 rcases bl hm with ⟨c8,hm⟩ | ⟨c8,hm⟩
 ·refine be (b:=(eu ak (ofBytes keyv))) (by simp -dsimp) c8 ?_
  refine srs hn ?_
  simp -dsimp [c8]
  refine bE (eZ ?_)
  cases hm
  refine⟨.inr rfl,?_⟩
  refine emr 1000001 1000004 hk ?_
  exact zz
 ·refine bi (b:=(eu ak (ofBytes keyv))) (by simp -dsimp) c8 ?_
  refine bd (b9 ?_)
  refine Swp.pre (Wk.frz 1000003 1 3 (List.map (rI .i64) next) (by simp -dsimp [hf])) ?_
  refine srs hn ?_
  obtain⟨l,h9,hm⟩:=bnd hm
  obtain⟨h9a,h9e⟩:=bp h9
  replace h9e:=h9e.symm
  subst h9e
  try simp only[List.length_cons,List.length_nil,Nat.zero_add] at h9a
  simp -dsimp [hf,c8,h9a]
  refine fg bq mixed 12 (by rw[hn]; kernel_rfl) ?_
  dsimp only [List.take,List.drop]
  simp -dsimp [hf,fQ h7,(@id (msetOb (mOb .str kS (uL (L.int .i64)) ak) (.str (ofBytes keyv)) (.one (dI (br .i64 ((bf aA)+1) 1)))=mOb .str kS (uL (L.int .i64)) (msetL ak (ofBytes keyv) (br .i64 ((bf aA)+1) 1))) (mset_ob .str kS (uL (L.int .i64)) ak (ofBytes keyv) (br .i64 ((bf aA)+1) 1)))]
  refine srs hn ?_
  simp -dsimp [hf]
  refine bE ?_
  cases hm
  refine⟨.inr rfl,?_⟩
  refine emr 47 1000004 hk ?_
  exact zz
end Go.Proofs.YtnkmjlncmlmnbaaGreatDoor
