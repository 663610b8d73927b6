/- That the code does what the functions say (made by cc.py). -/
import Derived.Test.YtbgliammfkgfoaaGreatDoorWa1
namespace Go.Proofs.YtbgliammfkgfoaaGreatDoor
open Go.AM Go.Proofs
set_option maxRecDepth 100000
attribute [-simp] dD e6 gg Ob.wipe Ob.ren Ob.frz1
section
attribute [-simp] List.map_set List.set_set
def dw (cx:Cx) (t:Tree) (a:Int) (mp:List (List UInt8×Int)) (l:List Node) (to_:List Int) (x:Node) (_y:List Int) (tt:(List Int)) (ee:Exit) (Z:Env) (O:Sto):Prop:=match tt with
 | next=>ee=.exit 2/\EE cx (bH [(1,.u (.one (.fn 116 []))),(2,vX 2),(4,vX 4),(5,vX 5),(6,vO 5002),(8,vX 8),(9,vO 23),(15,.u (.one (dR1 t.Nodes))),(16,vI (bf t.Nodes)),(17,vI a)] [(2,.box [dI t.States,dR2 t.Hood,dR1 t.Nodes]),(4,.box [dI 0,.d .nil,.d .nil]),(5,.box [.own 5000,.map 12]),(8,.box [dI x.Level,dL x.Next]),(12,mOb .str kS (uL (L.int .i64)) mp),(23,.row 1 3 (List.map (rI .i64) next)),(5000,.row 2 54 (List.map Node.row l)),(5002,.row 1 3 (List.map (rI .i64) to_))]) Z O
instance l_reduce_rebuilt_reduce_Reduce_1_2 (t a mp l to_ x y) {fu stt tt}:LtP (bm (dr t a mp l to_ x y) fu stt=some tt) (lp 69 stt (fun | (a1,_next)=>[(1,.u (.one (.fn 116 []))),(2,vX 2),(4,vX 4),(5,vX 5),(6,vO 5002),(8,vX 8),(9,vO 23),(15,.u (.one (dR1 t.Nodes))),(16,vI (bf t.Nodes)),(17,vI a),(24,vO 23),(25,vI (bf y)),(26,vI a1)]) (fun | (_a1,next)=>[(2,.box [dI t.States,dR2 t.Hood,dR1 t.Nodes]),(4,.box [dI 0,.d .nil,.d .nil]),(5,.box [.own 5000,.map 12]),(8,.box [dI x.Level,dL x.Next]),(12,mOb .str kS (uL (L.int .i64)) mp),(23,.row 1 3 (List.map (rI .i64) next)),(5000,.row 2 54 (List.map Node.row l)),(5002,.row 1 3 (List.map (rI .i64) to_))]) (cD [1,1,1,0,1,0,0,1,1,0,0,1,1,0,1,0,0] (bC Tryz.f115)) fun cx=>dw cx t a mp l to_ x y tt):=⟨fun hh cx hn Z O hE=>by
 refine bZ hE hh (dw cx t a mp l to_ x y) ?_
 rintro⟨a1,next⟩ r hm Z O hf
 simp only[Fits,bv,bw,and_true] at hf
 unfold dr at hm
 dsimp only at hm
 refine srs hn ?_
 simp -dsimp [hf]
 refine ba ?_
 rcases bz hm with ⟨c4,hm⟩ | ⟨c4,hm⟩
 ·refine bg (by simp -dsimp) c4 ?_
  refine be (b9 ?_)
  obtain⟨aL,j8,hm⟩:=bnd hm
  refine scE [(1,.u (.one (.fn 116 []))),(2,vX 2),(4,vX 4),(5,vX 5),(6,vO 5002),(8,vX 8),(9,vO 23),(15,.u (.one (dR1 t.Nodes))),(16,vI (bf t.Nodes)),(17,vI a),(24,vO 23),(25,vI (bf y)),(26,vI a1)] [(2,.box [dI t.States,dR2 t.Hood,dR1 t.Nodes]),(4,.box [dI 0,.d .nil,.d .nil]),(5,.box [.own 5000,.map 12]),(8,.box [dI x.Level,dL x.Next]),(12,mOb .str kS (uL (L.int .i64)) mp),(23,.row 1 3 (List.map (rI .i64) aL)),(5000,.row 2 54 (List.map Node.row l)),(5002,.row 1 3 (List.map (rI .i64) to_))] ?_ fun Z O hf=>?_
  ·replace hm:=j8
   clear j8
   refine bb ?_
   refine srs hn ?_
   obtain⟨x1,h5,hm⟩:=bnd hm
   simp -dsimp [hf,c4,h5,bV h5]
   refine srs hn ?_
   simp -dsimp [hf]
   rcases bz hm with ⟨c6,hm⟩ | ⟨c6,hm⟩
   ·refine bg (by simp -dsimp) c6 ?_
    refine sr1 hn ?_
    obtain⟨x2,h7,hm⟩:=bnd hm
    simp -dsimp [hf,h5,bV h5,c6,h7,bV h7,mJ .i64 next a1.toNat x2]
    refine ca ?_
    cases hm
    exact EE.here (by simp -dsimp [hf])
   ·refine bi (by simp -dsimp) c6 ?_
    refine be ?_
    refine ca ?_
    cases hm
    exact EE.here (by simp -dsimp [hf,c6])
  ·clear j8
   exact zz
 ·exact zz⟩
def dp (cx:Cx) (t:Tree) (tt:((List (List UInt8×Int))×(List Node)×(List Int))) (ee:Exit) (Z:Env) (O:Sto):Prop:=match tt with
 | (mp,l,to_)=>ee=.exit 0/\EE cx (bH [(2,vX 2),(4,vX 4),(5,vX 5),(6,vO 5002)] [(2,.box [dI t.States,dR2 t.Hood,dR1 t.Nodes]),(4,.box [dI 0,.d .nil,.d .nil]),(5,.box [.own 5000,.map 12]),(12,mOb .str kS (uL (L.int .i64)) mp),(5000,.row 2 54 (List.map Node.row l)),(5002,.row 1 3 (List.map (rI .i64) to_))]) Z O
instance l_reduce_rebuilt_reduce_Reduce_1_1 (t) {fu stt tt}:LtP (bm (dq t) fu stt=some tt) (lp 69 stt (fun | (a,_mp,_l,_to_)=>[(1,.u (.one (.fn 116 []))),(2,vX 2),(4,vX 4),(5,vX 5),(6,vO 5002),(15,.u (.one (dR1 t.Nodes))),(16,vI (bf t.Nodes)),(17,vI a)]) (fun | (_a,mp,l,to_)=>[(2,.box [dI t.States,dR2 t.Hood,dR1 t.Nodes]),(4,.box [dI 0,.d .nil,.d .nil]),(5,.box [.own 5000,.map 12]),(12,mOb .str kS (uL (L.int .i64)) mp),(5000,.row 2 54 (List.map Node.row l)),(5002,.row 1 3 (List.map (rI .i64) to_))]) (cD [1,1,1,0,1,0,0] (bC Tryz.f115)) fun cx=>dp cx t tt):=⟨fun hh cx hn Z O hE=>by
 refine bZ hE hh (dp cx t) ?_
 rintro⟨a,mp,l,to_⟩ r hm Z O hf
 simp only[Fits,bv,bw,and_true] at hf
 unfold dq at hm
 dsimp only at hm
 refine srs hn ?_
 simp -dsimp [hf]
 refine ba ?_
 rcases bz hm with ⟨c1,hm⟩ | ⟨c1,hm⟩
 ·refine bg (by simp -dsimp) c1 ?_
  refine be (b9 (ba (bb ?_)))
  refine srs hn ?_
  obtain⟨x,h2,hm⟩:=bnd hm
  simp -dsimp [hf,c1,h2]
  refine srs hn ?_
  obtain⟨y,h3,hm⟩:=bnd hm
  simp -dsimp
  refine callL_new (d7 x.Next y h3) (dkL hn) (by decide) ?_
  simp -dsimp
  refine ba ?_
  refine srs hn ?_
  simp -dsimp
  refine bb ?_
  obtain⟨next,g9,hm⟩:=bnd hm
  refine bG (LtP.pf g9 cx hn) (by
    try dsimp only
    exact EE.here (by simp -dsimp [hf])
  ) fun ee Z O xx=>?_
  unfold dw at xx
  dsimp only at xx
  obtain⟨rfl,xx⟩:=xx
  refine bA ?_
  refine b9 ?_
  refine see xx fun Z O hf=>?_
  simp only[Fits,bv,bw,and_true] at hf
  refine Swp.pre (Wk.frz 23 1 3 (List.map (rI .i64) next) (by simp -dsimp [hf])) ?_
  refine oT bE mixed 8 9 10 0 [[0]] [[5001]] [true] none (by rw[hn]; kernel_rfl) cN ?_
  dsimp only [List.take,List.drop,ef,eD,gp,pk,List.cons_append,List.nil_append,List.flatten_cons,List.flatten_nil,cO,cP,List.append_nil]
  obtain⟨y1,h10,hm⟩:=bnd hm
  simp -dsimp [hf]
  refine br (CtP.pf h10) ?_
  obtain⟨y2,h11,hm⟩:=bnd hm
  simp -dsimp [hf]
  refine nj (nR l mp x.Level y1 y2 h11) [5,5000,12] [5001] rfl rfl rfl (by simp -dsimp) rfl (by simp -dsimp [hf]) (by first | rfl | simp) rfl (dkL hn) rfl rfl (by simp) nofun (by simp) ?_
  obtain⟨l1,h12,hm⟩:=bnd hm
  obtain⟨h12a,h12e⟩:=bL h12
  replace h12e:=h12e.symm
  subst h12e
  try simp only[List.length_cons,List.length_nil,Nat.zero_add] at h12a
  simp -dsimp [hf,h12a]
  refine ca ?_
  refine b9 ?_
  refine sr1 hn ?_
  simp -dsimp [hf]
  cases hm
  refine bW ?_
  refine emv 52 5002 ?_
  refine emv 5001 5000 ?_
  exact zz
 ·exact zz⟩
instance c_reduce_rebuilt_reduce_Reduce_1 (t r):CtP (dF t=some r) (bj Tryz.prog 115 [.u (.agg [dI t.States,dR2 t.Hood,dR1 t.Nodes]),.u (.one (.fn 116 []))] (.u (.agg [dI r.States,dR2 r.Hood,dR1 r.Nodes]))):=⟨fun hm=>by
 refine db Tryz.func115 Tryz.ntmps115 fun cx hn=>?_
 unfold dF at hm
 refine srs hn ?_
 simp -dsimp
 refine srs hn ?_
 simp -dsimp [(@id (Ob.map .str []=mOb .str kS (uL (L.int .i64)) ([]:List (List UInt8×Int))) (mOb_nil .str kS (uL (L.int .i64))))]
 refine srs hn ?_
 simp -dsimp
 refine ba ?_
 refine srs hn ?_
 simp -dsimp
 refine bb ?_
 obtain⟨⟨mp,l,to_⟩,g13,hm⟩:=bnd hm
 refine bG (LtP.pf g13 cx hn) (by
   try dsimp only
   refine EE.step (Wk.own0 6 5002 1 3 (by simp -dsimp) (by decide)) ?_
   refine EE.step (Wk.own0b 5 0 5000 2 54 [.d .nil,.map 12] (by simp -dsimp) (by rfl) (by decide) (by decide)) ?_
   exact zz
 ) fun ee Z O xx=>?_
 unfold dp at xx
 dsimp only at xx
 obtain⟨rfl,xx⟩:=xx
 refine bA ?_
 refine b9 ?_
 refine see xx fun Z O hf=>?_
 simp only[Fits,bv,bw,and_true] at hf
 refine Swp.pre (Wk.frz 5000 2 54 (List.map Node.row l) (by simp -dsimp [hf])) ?_
 refine oK bE mixed 14 (by rw[hn]; kernel_rfl) ?_
 dsimp only [List.take,List.drop]
 obtain⟨y,h14,hm⟩:=bnd hm
 simp -dsimp [hf]
 refine br (CtP.pf h14) ?_
 obtain⟨x,h15,hm⟩:=bnd hm
 obtain⟨y1,h16,hm⟩:=bnd hm
 simp -dsimp [hf,h15,bV h15]
 refine br (CtP.pf h16) ?_
 simp -dsimp [hf]
 refine bq ?_
 cases hm
 refine⟨.inr rfl,?_⟩
 exact EE.here (by simp -dsimp [hf])⟩
end
instance c_reduce_Reduce (t r):CtP (lz t=some r) (bj Tryz.prog 83 [.u (.agg [dI t.States,dR2 t.Hood,dR1 t.Nodes])] (.u (.agg [dI r.States,dR2 r.Hood,dR1 r.Nodes]))):=⟨fun hm=>by
 refine db Tryz.func83 Tryz.ntmps83 fun cx hn=>?_
 unfold lz at hm
 refine srs hn ?_
 simp -dsimp
 refine ba ?_
 refine srs hn ?_
 obtain⟨y,h1,hm⟩:=bnd hm
 simp -dsimp
 refine bp (CtP.pf h1) (dkL hn) ?_
 simp -dsimp
 rcases bz hm with ⟨c2,hm⟩ | ⟨c2,hm⟩
 ·refine bg (by simp -dsimp) c2 ?_
  refine srs hn ?_
  simp -dsimp [c2]
  refine bq (cw ?_)
  cases hm
  refine⟨.inr rfl,?_⟩
  exact EE.here (by simp -dsimp)
 ·refine bi (by simp -dsimp) c2 ?_
  refine be (b9 ?_)
  refine srs hn ?_
  obtain⟨y1,h3,hm⟩:=bnd hm
  simp -dsimp [c2]
  refine bp (CtP.pf h3) (dkL hn) ?_
  simp -dsimp
  refine bq ?_
  cases hm
  refine⟨.inr rfl,?_⟩
  exact EE.here (by simp -dsimp)⟩
instance c_lower_Bits (states r):CtP (jQ states=some r) (bj Tryz.prog 35 [vI states] (vI r)):=⟨fun hm=>by
 refine db Tryz.func35 Tryz.ntmps35 fun cx hn=>?_
 unfold jQ at hm
 refine srs hn ?_
 simp -dsimp
 refine ba (bb ?_)
 refine srs hn ?_
 simp -dsimp
 rcases bz hm with ⟨c1,hm⟩ | ⟨c1,hm⟩
 ·exact zz
 ·refine scf c1 ?_
  obtain⟨a,j7,hm⟩:=bnd hm
  refine scE [(0,vI states),(6,vT a)] [] ?_ fun Z O hf=>?_
  ·replace hm:=j7
   clear j7
   exact zz
  ·clear j7
   simp only[Fits,bv,bw,and_true] at hf
   rcases bz hm with ⟨c3,hm⟩ | ⟨c3,hm⟩
   ·exact zz
   ·refine bi (by simp -dsimp [hf]) c3 ?_
    obtain⟨a1,j6,hm⟩:=bnd hm
    refine scE [(11,vT a1)] [] ?_ fun Z O hf=>?_
    ·replace hm:=j6
     clear j6
     exact zz
    ·clear j6
     exact zz⟩
theorem g_unroll_start (t:Tree) (r:Int×(List Point)×(List Node)×Int) (hm:m7 t=some r):GFn Tryz.prog 50 [.u (.agg [dI t.States,dR2 t.Hood,dR1 t.Nodes])] [] (vX 1000001) [some (mOb .str kS (uA Tree.row) []),some (.box [dI 0,.d .nil,dI r.1,dR2 r.2.1,dR1 r.2.2.1,dI r.2.2.2,.map 1000000])]:=by
 refine bY bE _ Tryz.func50 rfl (by kernel_rfl) (by simp[Tryz.ntmps50]) (by simp) (by first | rfl | simp) (by first | rfl | simp) fun cx hn hk=>?_
 replace hn:cx.n=11:=hn.trans Tryz.ntmps50
 replace hk:cx.k=0:=hk
 unfold m7 at hm
 refine srs hn ?_
 simp -dsimp
 refine gz bE mixed 5 6 6 0 [[0,1,2,3,4]] [[8]] [] none (by rw[hn]; kernel_rfl) cN ?_
 dsimp only [List.take,List.drop,ef,eD,gp,pk,List.cons_append,List.nil_append,List.flatten_cons,List.flatten_nil,cO,cP,List.append_nil]
 obtain⟨y,h1,hm⟩:=bnd hm
 simp -dsimp
 refine br (CtP.pf h1) ?_
 obtain⟨y1,h2,hm⟩:=bnd hm
 simp -dsimp
 refine br (CtP.pf h2) ?_
 simp -dsimp [(@id (Ob.map .str []=mOb .str kS (uA Tree.row) ([]:List (List UInt8×Tree))) (mOb_nil .str kS (uA Tree.row)))]
 refine br (CtP.pf h1) ?_
 simp -dsimp
 refine br (CtP.pf h2) ?_
 simp -dsimp
 refine bq ?_
 cases hm
 refine⟨.inr rfl,?_⟩
 refine emr 8 1000000 hk ?_
 refine emr 10 1000001 hk ?_
 exact zz
def ff (cx:Cx) (ag:List (List Int)) (aa:Int) (ae:List Point) (ab:List Node) (al:Int) (aj:List (List UInt8×Tree)) (tt:((List Int)×Int)) (ee:Exit) (Z:Env) (O:Sto):Prop:=match tt with
 | (l,ai)=>ee=.exit 0/\EE cx (bH [(3,vO 5000)] [(5000,.row 1 3 (List.map (rI .i64) l)),(1000000,.box [dI ai,.own 1000001,dI aa,dR2 ae,dR1 ab,dI al,.map 1000002]),(1000001,.row 1 26 (List.map (rS 1 (rI .i64)) ag)),(1000002,mOb .str kS (uA Tree.row) aj)]) Z O
theorem mh (cx:Cx) (hn:cx.n=29) (_hk:cx.k=3) (ag:List (List Int)) (aa:Int) (ae:List Point) (ab:List Node) (al:Int) (aj:List (List UInt8×Tree)) {fu:Nat} {stt:Int×(List Int)×Int} {tt:((List Int)×Int)} (hh:bm (fi ag aa ae ab al aj) fu stt=some tt) {Z:Env} {O:Sto}
  (hE:eh (fun stt:Int×(List Int)×Int=>match stt with | (a,_l,_ai)=>[(0,vX 1000000),(3,vO 5000),(7,vI al),(8,vI a)]) (fun stt:Int×(List Int)×Int=>match stt with | (_a,l,ai)=>[(5000,.row 1 3 (List.map (rI .i64) l)),(1000000,.box [dI ai,.own 1000001,dI aa,dR2 ae,dR1 ab,dI al,.map 1000002]),(1000001,.row 1 26 (List.map (rS 1 (rI .i64)) ag)),(1000002,mOb .str kS (uA Tree.row) aj)]) stt Z O):Swp Tryz.prog cx (.loop (cD [1,1,0,1,0,0] (bC Tryz.f84))) Z O (ff cx ag aa ae ab al aj tt):=by
 refine bZ hE hh (ff cx ag aa ae ab al aj) ?_
 rintro⟨a,l,ai⟩ r hm Z O hf
 simp only[Fits,bv,bw,and_true] at hf
 unfold fi at hm
 dsimp only at hm
 refine srs hn ?_
 simp -dsimp [hf]
 refine ba ?_
 rcases bz hm with ⟨c1,hm⟩ | ⟨c1,hm⟩
 ·refine bg (by simp -dsimp) c1 ?_
  refine be (b9 (ba (bb ?_)))
  refine srs hn ?_
  simp -dsimp [hf,c1]
  refine sr1 hn ?_
  obtain⟨l1,h2,hm⟩:=bnd hm
  obtain⟨h2a,h2e⟩:=bL h2
  replace h2e:=h2e.symm
  subst h2e
  try simp only[List.length_cons,List.length_nil,Nat.zero_add] at h2a
  simp -dsimp [hf,h2a]
  refine ca ?_
  refine b9 ?_
  refine sr1 hn ?_
  simp -dsimp [hf]
  cases hm
  refine bW ?_
  refine emv 26 5000 ?_
  exact zz
 ·exact zz
theorem jk (ah:Int) (ag:List (List Int)) (aa:Int) (ae:List Point) (ab:List Node) (al:Int) (aj:List (List UInt8×Tree)) (r:(List Int)×Int) (hm:dY ah ag aa ae ab al aj=some r):GFn Tryz.prog 84 [vX 1000000] [.box [dI ah,.own 1000001,dI aa,dR2 ae,dR1 ab,dI al,.map 1000002],.row 1 26 (List.map (rS 1 (rI .i64)) ag),mOb .str kS (uA Tree.row) aj] (.u (.one (dL r.1))) [some (.box [dI r.2,.own 1000001,dI aa,dR2 ae,dR1 ab,dI al,.map 1000002]),some (.row 1 26 (List.map (rS 1 (rI .i64)) ag)),some (mOb .str kS (uA Tree.row) aj)]:=by
 refine bY bE _ Tryz.func84 rfl (by kernel_rfl) (by simp[Tryz.ntmps84]) (by simp) (by first | rfl | simp) (by first | rfl | simp) fun cx hn hk=>?_
 replace hn:cx.n=29:=hn.trans Tryz.ntmps84
 replace hk:cx.k=3:=hk
 unfold dY at hm
 refine srs hn ?_
 simp -dsimp
 refine srs hn ?_
 simp -dsimp
 refine ba ?_
 refine srs hn ?_
 simp -dsimp
 refine bb ?_
 obtain⟨⟨l,ai⟩,g3,hm⟩:=bnd hm
 refine bG (mh cx hn hk ag aa ae ab al aj g3) (by
   try dsimp only
   refine EE.step (Wk.own0 3 5000 1 3 (by simp -dsimp) (by decide)) ?_
   exact zz
 ) fun ee Z O xx=>?_
 unfold ff at xx
 dsimp only at xx
 obtain⟨rfl,xx⟩:=xx
 refine bA ?_
 refine b9 ?_
 refine see xx fun Z O hf=>?_
 simp only[Fits,bv,bw,and_true] at hf
 refine srs hn ?_
 simp -dsimp [hf]
 cases hm
 exact bq ⟨.inr rfl,EE.here (by simp -dsimp [hf])⟩
section
attribute [-simp] List.map_set List.set_set
def js (cx:Cx) (_cv:Int) (_y:List Int) (tt:(List Int)) (ee:Exit) (Z:Env) (O:Sto):Prop:=match tt with
 | l=>ee=.exit 0/\EE cx (bH [(5,vO 8)] [(8,.row 1 3 (List.map (rI .i64) l))]) Z O
instance l_unroll_against_1 (cv y) {fu stt tt}:LtP (bm (jA cv y) fu stt=some tt) (lp 29 stt (fun | (a,_l)=>[(1,vI cv),(5,vO 8),(10,vI (bf y)),(11,vI a)]) (fun | (_a,l)=>[(8,.row 1 3 (List.map (rI .i64) l))]) (cD [1,1,0,1,0,0] (bC Tryz.f85)) fun cx=>js cx cv y tt):=⟨fun hh cx hn Z O hE=>by
 refine bZ hE hh (js cx cv y) ?_
 rintro⟨a,l⟩ r hm Z O hf
 simp only[Fits,bv,bw,and_true] at hf
 unfold jA at hm
 dsimp only at hm
 refine srs hn ?_
 simp -dsimp [hf]
 refine ba ?_
 rcases bz hm with ⟨c2,hm⟩ | ⟨c2,hm⟩
 ·refine bg (by simp -dsimp) c2 ?_
  refine be (b9 ?_)
  obtain⟨l1,j6,hm⟩:=bnd hm
  refine scE [(1,vI cv),(5,vO 8),(10,vI (bf y)),(11,vI a)] [(8,.row 1 3 (List.map (rI .i64) l1))] ?_ fun Z O hf=>?_
  ·replace hm:=j6
   clear j6
   refine bb ?_
   refine srs hn ?_
   simp -dsimp [hf,c2]
   refine srs hn ?_
   obtain⟨n,h3,hm⟩:=bnd hm
   simp -dsimp [hf,h3]
   rcases bz hm with ⟨c4,hm⟩ | ⟨c4,hm⟩
   ·refine bg (by simp -dsimp) c4 ?_
    refine sr1 hn ?_
    obtain⟨x,h5,hm⟩:=bnd hm
    simp -dsimp [hf,c4,h5,bV h5,mJ .i64 l a.toNat (cA .i64 x)]
    refine ca ?_
    cases hm
    exact EE.here (by simp -dsimp [hf])
   ·refine bi (by simp -dsimp) c4 ?_
    refine be ?_
    refine ca ?_
    cases hm
    exact EE.here (by simp -dsimp [hf,c4])
  ·clear j6
   exact zz
 ·exact zz⟩
instance c_unroll_against (vars cv r):CtP (iR vars cv=some r) (bj Tryz.prog 85 [.u (.one (dL vars)),vI cv] (.u (.one (dL r)))):=⟨fun hm=>by
 refine db Tryz.func85 Tryz.ntmps85 fun cx hn=>?_
 unfold iR at hm
 refine srs hn ?_
 simp -dsimp
 refine srs hn ?_
 obtain⟨y,h1,hm⟩:=bnd hm
 simp -dsimp
 refine callL_new (d7 vars y h1) (dkL hn) (by decide) ?_
 simp -dsimp
 refine ba ?_
 refine srs hn ?_
 simp -dsimp
 refine bb ?_
 obtain⟨l,g7,hm⟩:=bnd hm
 refine bG (LtP.pf g7 cx hn) (by
   try dsimp only
   exact EE.here (by simp -dsimp)
 ) fun ee Z O xx=>?_
 unfold js at xx
 dsimp only at xx
 obtain⟨rfl,xx⟩:=xx
 refine bA ?_
 refine b9 ?_
 refine see xx fun Z O hf=>?_
 simp only[Fits,bv,bw,and_true] at hf
 refine srs hn ?_
 simp -dsimp [hf]
 refine bq ?_
 cases hm
 refine⟨.inr rfl,?_⟩
 exact EE.here (by simp -dsimp [hf])⟩
end
theorem iU (ah:Int) (ag:List (List Int)) (aa:Int) (ae:List Point) (ab:List Node) (al:Int) (aj:List (List UInt8×Tree)) (l:List Int) (r:Unit) (hm:dQ ah ag aa ae ab al aj l=some r):GFn Tryz.prog 54 [vX 1000000,.u (.one (dL l))] [.box [dI ah,.own 1000001,dI aa,dR2 ae,dR1 ab,dI al,.map 1000002],.row 1 26 (List.map (rS 1 (rI .i64)) ag),mOb .str kS (uA Tree.row) aj] (.tup []) [some (.box [dI ah,.own 1000003,dI aa,dR2 ae,dR1 ab,dI al,.map 1000002]),none,some (mOb .str kS (uA Tree.row) aj),some (.row 1 26 (List.map (rS 1 (rI .i64)) (ag++[l])))]:=by
 refine bY bE _ Tryz.func54 rfl (by kernel_rfl) (by simp[Tryz.ntmps54]) (by simp) (by first | rfl | simp) (by first | rfl | simp) fun cx hn hk=>?_
 replace hn:cx.n=16:=hn.trans Tryz.ntmps54
 replace hk:cx.k=3:=hk
 unfold dQ at hm
 refine sr1 hn ?_
 obtain⟨l1,h1,hm⟩:=bnd hm
 obtain⟨h1a,h1e⟩:=bL h1
 replace h1e:=h1e.symm
 subst h1e
 try simp only[List.length_cons,List.length_nil,Nat.zero_add] at h1a
 simp -dsimp [h1a]
 cases hm
 try refine⟨.inl rfl,?_⟩
 refine emr 12 1000003 hk ?_
 exact zz
def fG (cx:Cx) (ag:List (List Int)) (aa:Int) (ae:List Point) (ab:List Node) (al:Int) (aj:List (List UInt8×Tree)) (box:Box) (tt:((List Bj)×Int)) (ee:Exit) (Z:Env) (O:Sto):Prop:=match tt with
 | (l,ai)=>ee=.exit 0/\EE cx (bH [(0,vX 1000000),(4,vX 4),(5,vX 5)] [(4,.box [dI 0,dI 0,dI 0,dI 0,.d .nil]),(5,.box [dI box.X,dI box.Y,dI box.W,dI box.H,.own 5000]),(5000,.row 2 97 (List.map Bj.row l)),(1000000,.box [dI ai,.own 1000001,dI aa,dR2 ae,dR1 ab,dI al,.map 1000002]),(1000001,.row 1 26 (List.map (rS 1 (rI .i64)) ag)),(1000002,mOb .str kS (uA Tree.row) aj)]) Z O
set_option maxHeartbeats 1000000 in
theorem mO (cx:Cx) (hn:cx.n=56) (_hk:cx.k=3) (ag:List (List Int)) (aa:Int) (ae:List Point) (ab:List Node) (al:Int) (aj:List (List UInt8×Tree)) (box:Box) {fu:Nat} {stt:Int×(List Bj)×Int} {tt:((List Bj)×Int)} (hh:bm (fv ag aa ae ab al aj box) fu stt=some tt) {Z:Env} {O:Sto}
  (hE:eh (fun stt:Int×(List Bj)×Int=>match stt with | (a,_l,_ai)=>[(0,vX 1000000),(4,vX 4),(5,vX 5),(15,vI (bU .i64 box.W box.H)),(16,vI a)]) (fun stt:Int×(List Bj)×Int=>match stt with | (_a,l,ai)=>[(4,.box [dI 0,dI 0,dI 0,dI 0,.d .nil]),(5,.box [dI box.X,dI box.Y,dI box.W,dI box.H,.own 5000]),(5000,.row 2 97 (List.map Bj.row l)),(1000000,.box [dI ai,.own 1000001,dI aa,dR2 ae,dR1 ab,dI al,.map 1000002]),(1000001,.row 1 26 (List.map (rS 1 (rI .i64)) ag)),(1000002,mOb .str kS (uA Tree.row) aj)]) stt Z O):Swp Tryz.prog cx (.loop (cD [1,1,0,1,0,0] (bC Tryz.f51))) Z O (fG cx ag aa ae ab al aj box tt):=by
 refine bZ hE hh (fG cx ag aa ae ab al aj box) ?_
 rintro⟨a,l,ai⟩ r hm Z O hf
 simp only[Fits,bv,bw,and_true] at hf
 unfold fv at hm
 dsimp only at hm
 refine srs hn ?_
 simp -dsimp [hf]
 refine ba ?_
 rcases bz hm with ⟨c1,hm⟩ | ⟨c1,hm⟩
 ·refine bg (by simp -dsimp) c1 ?_
  refine be (b9 (ba (bb ?_)))
  refine oT bE mixed 3 4 6 0 [[0,1]] [[]] [true,true] none (by rw[hn]; kernel_rfl) cN ?_
  dsimp only [List.take,List.drop,ef,eD,gp,pk,List.cons_append,List.nil_append,List.flatten_cons,List.flatten_nil,cO,cP,List.append_nil]
  obtain⟨y,h2,hm⟩:=bnd hm
  simp -dsimp [hf,c1]
  refine nj (jk ai ag aa ae ab al aj y h2) [1000000,1000001,1000002] [] rfl rfl rfl (by simp -dsimp) rfl (by simp -dsimp [hf]) (by first | rfl | simp) rfl (dkL hn) rfl rfl (by simp) nofun (by simp) ?_
  obtain⟨u,h3,hm⟩:=bnd hm
  obtain⟨l1,h4,hm⟩:=bnd hm
  obtain⟨h4a,h4e⟩:=bL h4
  replace h4e:=h4e.symm
  subst h4e
  try simp only[List.length_cons,List.length_nil,Nat.zero_add] at h4a
  simp -dsimp [hf,h4a]
  refine ca ?_
  refine b9 ?_
  refine sr1 hn ?_
  simp -dsimp [hf]
  cases hm
  refine bW ?_
  refine emv 24 5000 ?_
  exact EE.here (by simp -dsimp [hf,k8 h3 1 (rI .i64)])
 ·exact zz
def fE (cx:Cx) (aa:Int) (ae:List Point) (ab:List Node) (al:Int) (aj:List (List UInt8×Tree)) (box:Box) (l:List Bj) (ai a:Int) (_x:Bj) (tt:(List (List Int))) (ee:Exit) (Z:Env) (O:Sto):Prop:=match tt with
 | l2=>ee=.exit 4/\EE cx (bH [(0,vX 1000000),(4,vX 4),(5,vX 5),(28,vO 5000),(29,vI (bf l)),(30,vI a)] [(4,.box [dI 0,dI 0,dI 0,dI 0,.d .nil]),(5,.box [dI box.X,dI box.Y,dI box.W,dI box.H,.own 5000]),(5000,.row 2 97 (List.map Bj.row l)),(5002,.row 1 26 (List.map (rS 1 (rI .i64)) l2)),(1000000,.box [dI ai,.own 5002,dI aa,dR2 ae,dR1 ab,dI al,.map 1000002]),(1000002,mOb .str kS (uA Tree.row) aj)]) Z O
set_option maxHeartbeats 1000000 in
theorem mP (cx:Cx) (hn:cx.n=56) (_hk:cx.k=3) (aa:Int) (ae:List Point) (ab:List Node) (al:Int) (aj:List (List UInt8×Tree)) (box:Box) (l:List Bj) (ai a:Int) (x:Bj) {fu:Nat} {stt:Int×(List (List Int))} {tt:(List (List Int))} (hh:bm (fx aa ae ab al aj box l ai a x) fu stt=some tt) {Z:Env} {O:Sto}
  (hE:eh (fun stt:Int×(List (List Int))=>match stt with | (cv,_l2)=>[(0,vX 1000000),(4,vX 4),(5,vX 5),(7,vX 7),(8,vI cv),(28,vO 5000),(29,vI (bf l)),(30,vI a)]) (fun stt:Int×(List (List Int))=>match stt with | (_cv,l2)=>[(4,.box [dI 0,dI 0,dI 0,dI 0,.d .nil]),(5,.box [dI box.X,dI box.Y,dI box.W,dI box.H,.own 5000]),(7,.box [dI x.constant,.d (pnil 1 (List.map (rI .i64) x.vars))]),(5000,.row 2 97 (List.map Bj.row l)),(5002,.row 1 26 (List.map (rS 1 (rI .i64)) l2)),(1000000,.box [dI ai,.own 5002,dI aa,dR2 ae,dR1 ab,dI al,.map 1000002]),(1000002,mOb .str kS (uA Tree.row) aj)]) stt Z O):Swp Tryz.prog cx (.loop (cD [1,1,1,0,1,0,0,1,1,0,0,1,1,0,0] (bC Tryz.f51))) Z O (fE cx aa ae ab al aj box l ai a x tt):=by
 refine bZ hE hh (fE cx aa ae ab al aj box l ai a x) ?_
 rintro⟨cv,l2⟩ r hm Z O hf
 simp only[Fits,bv,bw,and_true] at hf
 unfold fx at hm
 dsimp only at hm
 refine ba ?_
 refine srs hn ?_
 obtain⟨n,h8,hm⟩:=bnd hm
 simp -dsimp [hf,h8]
 rcases bz hm with ⟨c9,hm⟩ | ⟨c9,hm⟩
 ·refine bg (by simp -dsimp) c9 ?_
  refine be (b9 (ba (bb ?_)))
  refine sr1 hn ?_
  obtain⟨u,h10,hm⟩:=bnd hm
  obtain⟨y,h11,hm⟩:=bnd hm
  simp -dsimp [hf,c9,k8 h10 1 (rI .i64)]
  refine bp (CtP.pf h11) (dkL hn) ?_
  obtain⟨y1,h12,hm⟩:=bnd hm
  simp -dsimp
  refine clg (iU ai l2 aa ae ab al aj y y1 h12) [1000000,5002,1000002] [5001] (by simp -dsimp [hf]) (dkL hn) ?_
  simp -dsimp [k8 h10 1 (rI .i64)]
  refine ca ?_
  refine b9 ?_
  refine sr1 hn ?_
  simp -dsimp [hf]
  cases hm
  refine bW ?_
  refine emv 5001 5002 ?_
  exact zz
 ·exact zz
def dP (cx:Cx) (aa:Int) (ae:List Point) (ab:List Node) (al:Int) (aj:List (List UInt8×Tree)) (box:Box) (l:List Bj) (ai:Int) (tt:(List (List Int))) (ee:Exit) (Z:Env) (O:Sto):Prop:=match tt with
 | l1=>ee=.exit 2/\EE cx (bH [(4,vX 4),(5,vX 5)] [(4,.box [dI 0,dI 0,dI 0,dI 0,.d .nil]),(5,.box [dI box.X,dI box.Y,dI box.W,dI box.H,.own 5000]),(5000,.row 2 97 (List.map Bj.row l)),(5002,.row 1 26 (List.map (rS 1 (rI .i64)) l1)),(1000000,.box [dI ai,.own 5002,dI aa,dR2 ae,dR1 ab,dI al,.map 1000002]),(1000002,mOb .str kS (uA Tree.row) aj)]) Z O
set_option maxHeartbeats 1000000 in
theorem mV (cx:Cx) (hn:cx.n=56) (hk:cx.k=3) (aa:Int) (ae:List Point) (ab:List Node) (al:Int) (aj:List (List UInt8×Tree)) (box:Box) (l:List Bj) (ai:Int) {fu:Nat} {stt:Int×(List (List Int))} {tt:(List (List Int))} (hh:bm (fC aa ae ab al aj box l ai) fu stt=some tt) {Z:Env} {O:Sto}
  (hE:eh (fun stt:Int×(List (List Int))=>match stt with | (a,_l1)=>[(0,vX 1000000),(4,vX 4),(5,vX 5),(28,vO 5000),(29,vI (bf l)),(30,vI a)]) (fun stt:Int×(List (List Int))=>match stt with | (_a,l1)=>[(4,.box [dI 0,dI 0,dI 0,dI 0,.d .nil]),(5,.box [dI box.X,dI box.Y,dI box.W,dI box.H,.own 5000]),(5000,.row 2 97 (List.map Bj.row l)),(5002,.row 1 26 (List.map (rS 1 (rI .i64)) l1)),(1000000,.box [dI ai,.own 5002,dI aa,dR2 ae,dR1 ab,dI al,.map 1000002]),(1000002,mOb .str kS (uA Tree.row) aj)]) stt Z O):Swp Tryz.prog cx (.loop (cD [1,1,1,0,1,0,0] (bC Tryz.f51))) Z O (dP cx aa ae ab al aj box l ai tt):=by
 refine bZ hE hh (dP cx aa ae ab al aj box l ai) ?_
 rintro⟨a,l1⟩ r hm Z O hf
 simp only[Fits,bv,bw,and_true] at hf
 unfold fC at hm
 dsimp only at hm
 refine srs hn ?_
 simp -dsimp [hf]
 refine ba ?_
 rcases bz hm with ⟨c6,hm⟩ | ⟨c6,hm⟩
 ·refine bg (by simp -dsimp) c6 ?_
  refine be (b9 (ba (bb ?_)))
  refine srs hn ?_
  obtain⟨x,h7,hm⟩:=bnd hm
  simp -dsimp [hf,c6,h7,bV h7]
  refine srs hn ?_
  simp -dsimp [hf]
  refine bb ?_
  obtain⟨l2,g13,hm⟩:=bnd hm
  refine bG (mP cx hn hk aa ae ab al aj box l ai a x g13) (by
    try dsimp only
    exact EE.here (by simp -dsimp [hf])
  ) fun ee Z O xx=>?_
  unfold fE at xx
  dsimp only at xx
  obtain⟨rfl,xx⟩:=xx
  refine bA ?_
  refine ca ?_
  refine b9 ?_
  refine see xx fun Z O hf=>?_
  simp only[Fits,bv,bw,and_true] at hf
  refine sr1 hn ?_
  simp -dsimp [hf]
  cases hm
  refine bW ?_
  exact EE.here (by simp -dsimp [hf])
 ·refine bi (by simp -dsimp) c6 ?_
  refine gR ?_
  refine cw ?_
  cases hm
  refine jG nofun ?_
  exact⟨rfl,EE.here (by simp -dsimp [hf,c6])⟩
set_option maxHeartbeats 1000000 in
theorem nX (ah:Int) (ag:List (List Int)) (aa:Int) (ae:List Point) (ab:List Node) (al:Int) (aj:List (List UInt8×Tree)) (box:Box) (r:(List Bj)×(List (List Int))×Int) (hm:gn ah ag aa ae ab al aj box=some r):GFn Tryz.prog 51 [vX 1000000,.u (.agg [dI box.X,dI box.Y,dI box.W,dI box.H])] [.box [dI ah,.own 1000001,dI aa,dR2 ae,dR1 ab,dI al,.map 1000002],.row 1 26 (List.map (rS 1 (rI .i64)) ag),mOb .str kS (uA Tree.row) aj] (.u (.agg [dI box.X,dI box.Y,dI box.W,dI box.H,dR4 r.1])) [some (.box [dI r.2.2,.own 1000003,dI aa,dR2 ae,dR1 ab,dI al,.map 1000002]),none,some (mOb .str kS (uA Tree.row) aj),some (.row 1 26 (List.map (rS 1 (rI .i64)) r.2.1))]:=by
 refine bY bE _ Tryz.func51 rfl (by kernel_rfl) (by simp[Tryz.ntmps51]) (by simp) (by first | rfl | simp) (by first | rfl | simp) fun cx hn hk=>?_
 replace hn:cx.n=56:=hn.trans Tryz.ntmps51
 replace hk:cx.k=3:=hk
 unfold gn at hm
 refine srs hn ?_
 simp -dsimp
 refine srs hn ?_
 simp -dsimp
 refine ba ?_
 refine srs hn ?_
 simp -dsimp
 refine bb ?_
 obtain⟨⟨l,ai⟩,g5,hm⟩:=bnd hm
 refine bG (mO cx hn hk ag aa ae ab al aj box g5) (by
   try dsimp only
   refine EE.step (Wk.own0b 5 4 5000 2 97 [dI box.X,dI box.Y,dI box.W,dI box.H,.d .nil] (by simp -dsimp) (by rfl) (by decide) (by decide)) ?_
   exact zz
 ) fun ee Z O xx=>?_
 unfold fG at xx
 dsimp only at xx
 obtain⟨rfl,xx⟩:=xx
 refine bA ?_
 refine b9 ?_
 refine see xx fun Z O hf=>?_
 simp only[Fits,bv,bw,and_true] at hf
 refine ba ?_
 refine srs hn ?_
 simp -dsimp [hf]
 refine bb ?_
 obtain⟨l1,g14,hm⟩:=bnd hm
 refine bG (mV cx hn hk aa ae ab al aj box l ai g14) (by
   try dsimp only
   refine emv 1000001 5002 ?_
   exact zz
 ) fun ee Z O xx=>?_
 unfold dP at xx
 dsimp only at xx
 obtain⟨rfl,xx⟩:=xx
 refine bA ?_
 refine b9 ?_
 refine see xx fun Z O hf=>?_
 simp only[Fits,bv,bw,and_true] at hf
 refine Swp.pre (Wk.frz 5000 2 97 (List.map Bj.row l) (by simp -dsimp [hf])) ?_
 refine srs hn ?_
 simp -dsimp [hf]
 refine bq ?_
 cases hm
 refine⟨.inr rfl,?_⟩
 refine emr 5002 1000003 hk ?_
 exact zz
instance c_unroll_field_at (f x y r):CtP (jS f x y=some r) (bj Tryz.prog 86 [.u (.agg [dI f.box.X,dI f.box.Y,dI f.box.W,dI f.box.H,dR4 f.values]),vI x,vI y] (.u (.agg [dI r.constant,.d (pnil 1 (List.map (rI .i64) r.vars))]))):=⟨fun hm=>by
 refine db Tryz.func86 Tryz.ntmps86 fun cx hn=>?_
 unfold jS at hm
 refine srs hn ?_
 simp -dsimp
 refine ly bE mixed (by rw[hn]; kernel_rfl) ?_
 simp -dsimp
 refine ba ?_
 obtain⟨a,j6,hm⟩:=bnd hm
 refine scE [(1,vI (bK .i64 x f.box.X)),(2,vI (bK .i64 y f.box.Y)),(3,vX 3),(6,vX 6),(36,vT a)] [(3,.box [dI f.box.X,dI f.box.Y,dI f.box.W,dI f.box.H,dR4 f.values]),(6,.box [dI 0,.d .nil])] ?_ fun Z O hf=>?_
 ·replace hm:=j6
  clear j6
  exact zz
 ·clear j6
  exact zz⟩
end Go.Proofs.YtbgliammfkgfoaaGreatDoor
namespace Go.Proofs.YtbgliammfkgfoaaGreatDoor
open Go.AM Go.Proofs
set_option maxRecDepth 100000
attribute [-simp] dD e6 gg Ob.wipe Ob.ren Ob.frz1
section
attribute [-simp] List.map_set List.set_set
def fW (cx:Cx) (_next:List Int) (aN:Int) (aV:List Point) (aS:List Node) (a a1:Int) (tt:(List Int)) (ee:Exit) (Z:Env) (O:Sto):Prop:=match tt with
 | aL=>ee=.exit 0/\EE cx (bH [(1,vO 1000000)] [(1000000,.row 1 3 (List.map (rI .i64) aL)),(1000001,.box [dI aN,dR2 aV,dR1 aS]),(1000002,.box [dI a]),(1000003,.box [dI a1])]) Z O
theorem nC (cx:Cx) (hn:cx.n=33) (_hk:cx.k=4) (next:List Int) (aN:Int) (aV:List Point) (aS:List Node) (a a1:Int) {fu:Nat} {stt:Int×(List Int)} {tt:(List Int)} (hh:bm (fP next aN aV aS a a1) fu stt=some tt) {Z:Env} {O:Sto}
  (hE:eh (fun stt:Int×(List Int)=>match stt with | (a2,_aL)=>[(1,vO 1000000),(4,vX 1000003),(17,vI (bf next)),(18,vI a2)]) (fun stt:Int×(List Int)=>match stt with | (_a2,aL)=>[(1000000,.row 1 3 (List.map (rI .i64) aL)),(1000001,.box [dI aN,dR2 aV,dR1 aS]),(1000002,.box [dI a]),(1000003,.box [dI a1])]) stt Z O):Swp Tryz.prog cx (.loop (cD [1,0,1,0,1,0,0] (bC Tryz.f135))) Z O (fW cx next aN aV aS a a1 tt):=by
 refine bZ hE hh (fW cx next aN aV aS a a1) ?_
 rintro⟨a2,aL⟩ r hm Z O hf
 simp only[Fits,bv,bw,and_true] at hf
 unfold fP at hm
 dsimp only at hm
 refine srs hn ?_
 simp -dsimp [hf]
 refine ba ?_
 rcases bz hm with ⟨c2,hm⟩ | ⟨c2,hm⟩
 ·refine bg (by simp -dsimp) c2 ?_
  refine be (b9 ?_)
  obtain⟨next2,j6,hm⟩:=bnd hm
  refine scE [(1,vO 1000000),(4,vX 1000003),(17,vI (bf next)),(18,vI a2)] [(1000000,.row 1 3 (List.map (rI .i64) next2)),(1000001,.box [dI aN,dR2 aV,dR1 aS]),(1000002,.box [dI a]),(1000003,.box [dI a1])] ?_ fun Z O hf=>?_
  ·replace hm:=j6
   clear j6
   refine bb ?_
   refine srs hn ?_
   simp -dsimp [hf,c2]
   refine srs hn ?_
   simp -dsimp [hf]
   rcases bz hm with ⟨c3,hm⟩ | ⟨c3,hm⟩
   ·refine bg (by simp -dsimp) c3 ?_
    refine sr1 hn ?_
    obtain⟨x,h4,hm⟩:=bnd hm
    obtain⟨x1,h5,hm⟩:=bnd hm
    simp -dsimp [hf,c3,h4,bV h4,h5,bV h5,mJ .i64 aL a2.toNat x]
    refine ca ?_
    cases hm
    exact EE.here (by simp -dsimp [hf])
   ·refine bi (by simp -dsimp) c3 ?_
    refine be ?_
    refine ca ?_
    cases hm
    exact EE.here (by simp -dsimp [hf,c3])
  ·clear j6
   exact zz
 ·exact zz
theorem oe (level:Int) (next:List Int) (aN:Int) (aV:List Point) (aS:List Node) (a a1:Int) (r:List Int) (hm:gO level next aN aV aS a a1=some r):GFn Tryz.prog 135 [vI level,vO 1000000,vX 1000001,vX 1000002,vX 1000003] [.row 1 3 (List.map (rI .i64) next),.box [dI aN,dR2 aV,dR1 aS],.box [dI a],.box [dI a1]] (vO 1000000) [some (.row 1 3 (List.map (rI .i64) r)),some (.box [dI aN,dR2 aV,dR1 aS]),some (.box [dI a]),some (.box [dI a1])]:=by
 refine bY bE _ Tryz.func135 rfl (by kernel_rfl) (by simp[Tryz.ntmps135]) (by simp) (by first | rfl | simp) (by first | rfl | simp) fun cx hn hk=>?_
 replace hn:cx.n=33:=hn.trans Tryz.ntmps135
 replace hk:cx.k=4:=hk
 unfold gO at hm
 refine srs hn ?_
 simp -dsimp
 obtain⟨aL,j8,hm⟩:=bnd hm
 refine scE [(1,vO 1000000)] [(1000000,.row 1 3 (List.map (rI .i64) aL)),(1000001,.box [dI aN,dR2 aV,dR1 aS]),(1000002,.box [dI a]),(1000003,.box [dI a1])] ?_ fun Z O hf=>?_
 ·replace hm:=j8
  clear j8
  refine srs hn ?_
  simp -dsimp
  rcases bz hm with ⟨c1,hm⟩ | ⟨c1,hm⟩
  ·refine sct c1 ?_
   refine srs hn ?_
   simp -dsimp [c1]
   refine bb ?_
   obtain⟨aL,g7,hm⟩:=bnd hm
   refine bG (nC cx hn hk next aN aV aS a a1 g7) (by
     try dsimp only
     exact EE.here (by simp -dsimp)
   ) fun ee Z O xx=>?_
   unfold fW at xx
   dsimp only at xx
   obtain⟨rfl,xx⟩:=xx
   refine bA ?_
   refine b9 ?_
   cases hm
   refine ee_bind (by rfl) (by rfl) xx fun Z O hf=>?_
   simp only[Fits,bv,bw,and_true] at hf
   exact EE.here (by simp -dsimp [hf])
  ·refine scf c1 ?_
   refine be (b9 ?_)
   cases hm
   exact EE.here (by simp -dsimp [c1])
 ·clear j8
  exact zz
end
def eV (cx:Cx) (ay:List Node) (aq:List (List UInt8×Int)) (level:Int) (next:List Int) (tt:(List Int)) (ee:Exit) (Z:Env) (O:Sto):Prop:=match tt with
 | keyv=>ee=.exit 0/\EE cx (bH [(0,vX 1000000),(1,vI level),(2,vO 1000003),(7,vO 5002)] [(5002,.row 1 5 (List.map (rI .u8) keyv)),(1000000,.box [.own 1000001,.map 1000002]),(1000001,.row 2 54 (List.map Node.row ay)),(1000002,mOb .str kS (uL (L.int .i64)) aq),(1000003,.row 1 3 (List.map (rI .i64) next))]) Z O
theorem lL (cx:Cx) (hn:cx.n=68) (_hk:cx.k=4) (ay:List Node) (aq:List (List UInt8×Int)) (level:Int) (next:List Int) {fu:Nat} {stt:Int×(List Int)} {tt:(List Int)} (hh:bm (eS ay aq level next) fu stt=some tt) {Z:Env} {O:Sto}
  (hE:eh (fun stt:Int×(List Int)=>match stt with | (a,_keyv)=>[(0,vX 1000000),(1,vI level),(2,vO 1000003),(7,vO 5002),(14,vO 1000003),(15,vI (bf next)),(16,vI a)]) (fun stt:Int×(List Int)=>match stt with | (_a,keyv)=>[(5002,.row 1 5 (List.map (rI .u8) keyv)),(1000000,.box [.own 1000001,.map 1000002]),(1000001,.row 2 54 (List.map Node.row ay)),(1000002,mOb .str kS (uL (L.int .i64)) aq),(1000003,.row 1 3 (List.map (rI .i64) next))]) stt Z O):Swp Tryz.prog cx (.loop (cD [1,1,0,1,0,0] (bC Tryz.f132))) Z O (eV cx ay aq level next tt):=by
 refine bZ hE hh (eV cx ay aq level next) ?_
 rintro⟨a,keyv⟩ r hm Z O hf
 simp only[Fits,bv,bw,and_true] at hf
 unfold eS at hm
 dsimp only at hm
 refine srs hn ?_
 simp -dsimp [hf]
 refine ba ?_
 rcases bz hm with ⟨c2,hm⟩ | ⟨c2,hm⟩
 ·refine bg (by simp -dsimp) c2 ?_
  refine be (b9 (ba (bb ?_)))
  refine srs hn ?_
  obtain⟨x,h3,hm⟩:=bnd hm
  simp -dsimp [hf,c2,h3,bV h3]
  refine sr1 hn ?_
  obtain⟨l,h4,hm⟩:=bnd hm
  obtain⟨h4a,h4e⟩:=bL h4
  replace h4e:=h4e.symm
  subst h4e
  try simp only[List.length_cons,List.length_nil,Nat.zero_add] at h4a
  try simp only[Nat.mul_one,Nat.reduceLeDiff] at h4a
  obtain⟨y1,h5,hm⟩:=bnd hm
  simp -dsimp [hf,h4a]
  refine clg (ko (keyv++[32]) x 10 y1 h5) [22] [5001] (by simp -dsimp) (dkL hn) ?_
  simp -dsimp
  refine ca ?_
  refine b9 ?_
  refine sr1 hn ?_
  simp -dsimp [hf]
  cases hm
  refine bW ?_
  refine emv 5001 5002 ?_
  exact zz
 ·exact zz
theorem mU (ay:List Node) (aq:List (List UInt8×Int)) (level:Int) (next:List Int) (r:Int×(List (List UInt8×Int))×(List Node)) (hm:fB ay aq level next=some r):GFn Tryz.prog 132 [vX 1000000,vI level,vO 1000003] [.box [.own 1000001,.map 1000002],.row 2 54 (List.map Node.row ay),mOb .str kS (uL (L.int .i64)) aq,.row 1 3 (List.map (rI .i64) next)] (vI r.1) [some (.box [.own 1000004,.map 1000002]),none,some (mOb .str kS (uL (L.int .i64)) r.2.1),none,some (.row 2 54 (List.map Node.row r.2.2))]:=by
 refine bY bE _ Tryz.func132 rfl (by kernel_rfl) (by simp[Tryz.ntmps132]) (by simp) (by first | rfl | simp) (by first | rfl | simp) fun cx hn hk=>?_
 replace hn:cx.n=68:=hn.trans Tryz.ntmps132
 replace hk:cx.k=4:=hk
 unfold fB at hm
 refine srs hn ?_
 simp -dsimp
 refine srs hn ?_
 obtain⟨y,h1,hm⟩:=bnd hm
 simp -dsimp
 refine clg (kq level 10 y h1) [] [5000] (by simp -dsimp) (dkL hn) ?_
 simp -dsimp
 refine ba ?_
 refine srs hn ?_
 simp -dsimp
 refine bb ?_
 obtain⟨keyv,g6,hm⟩:=bnd hm
 refine bG (lL cx hn hk ay aq level next g6) (by
   try dsimp only
   refine emv 5000 5002 ?_
   exact zz
 ) fun ee Z O xx=>?_
 unfold eV at xx
 dsimp only at xx
 obtain⟨rfl,xx⟩:=xx
 refine bA ?_
 refine b9 ?_
 refine see xx fun Z O hf=>?_
 simp only[Fits,bv,bw,and_true] at hf
 refine ba ?_
 refine ly bE mixed (by rw[hn]; kernel_rfl) ?_
 obtain⟨u,h7,hm⟩:=bnd hm
 simp -dsimp [hf,mm h7,(@id (lkM (nD (mOb .str kS (uL (L.int .i64)) aq) (.str (ofBytes keyv))) true (.one (dI 0))=some (.tup [.one (dI (fe aq (ofBytes keyv) 0)),.one (.d (.bool (cH aq (ofBytes keyv))))])) (lk_two (ofBytes keyv) 0))]
 refine srs hn ?_
 simp -dsimp
 rcases bz hm with ⟨c8,hm⟩ | ⟨c8,hm⟩
 ·refine bg (b:=(cH aq (ofBytes keyv))) (by simp -dsimp) c8 ?_
  refine srs hn ?_
  simp -dsimp [c8]
  refine bq (cw ?_)
  cases hm
  refine⟨.inr rfl,?_⟩
  refine emr 1000001 1000004 hk ?_
  exact zz
 ·refine bi (b:=(cH aq (ofBytes keyv))) (by simp -dsimp) c8 ?_
  refine be (b9 ?_)
  refine Swp.pre (Wk.frz 1000003 1 3 (List.map (rI .i64) next) (by simp -dsimp [hf])) ?_
  refine srs hn ?_
  obtain⟨l,h9,hm⟩:=bnd hm
  obtain⟨h9a,h9e⟩:=bL h9
  replace h9e:=h9e.symm
  subst h9e
  try simp only[List.length_cons,List.length_nil,Nat.zero_add] at h9a
  simp -dsimp [hf,c8,h9a]
  refine oK bE mixed 12 (by rw[hn]; kernel_rfl) ?_
  dsimp only [List.take,List.drop]
  simp -dsimp [hf,mm h7,(@id (msetOb (mOb .str kS (uL (L.int .i64)) aq) (.str (ofBytes keyv)) (.one (dI (bK .i64 ((bf ay)+1) 1)))=mOb .str kS (uL (L.int .i64)) (ig aq (ofBytes keyv) (bK .i64 ((bf ay)+1) 1))) (mset_ob .str kS (uL (L.int .i64)) aq (ofBytes keyv) (bK .i64 ((bf ay)+1) 1)))]
  refine srs hn ?_
  simp -dsimp [hf]
  refine bq ?_
  cases hm
  refine⟨.inr rfl,?_⟩
  refine emr 47 1000004 hk ?_
  exact zz
section
attribute [-simp] List.map_set List.set_set
def d6 (cx:Cx) (t:Tree) (aB:Int) (aO:List Point) (aF:List Node) (cv cv1 a:Int) (mp:List (List UInt8×Int)) (l:List Node) (to_:List Int) (x:Node) (_y:List Int) (tt:(List Int)) (ee:Exit) (Z:Env) (O:Sto):Prop:=match tt with
 | next=>ee=.exit 2/\EE cx (bH [(1,.u (.one (.fn 135 [.box 1000000 0,.box 1000001 0,.box 1000002 0]))),(2,vX 2),(4,vX 4),(5,vX 5),(6,vO 5002),(8,vX 8),(9,vO 23),(15,.u (.one (dR1 t.Nodes))),(16,vI (bf t.Nodes)),(17,vI a)] [(2,.box [dI t.States,dR2 t.Hood,dR1 t.Nodes]),(4,.box [dI 0,.d .nil,.d .nil]),(5,.box [.own 5000,.map 12]),(8,.box [dI x.Level,dL x.Next]),(12,mOb .str kS (uL (L.int .i64)) mp),(23,.row 1 3 (List.map (rI .i64) next)),(5000,.row 2 54 (List.map Node.row l)),(5002,.row 1 3 (List.map (rI .i64) to_)),(1000000,.box [dI aB,dR2 aO,dR1 aF]),(1000001,.box [dI cv]),(1000002,.box [dI cv1])]) Z O
set_option maxHeartbeats 1000000 in
theorem iS (cx:Cx) (hn:cx.n=69) (_hk:cx.k=3) (t:Tree) (aB:Int) (aO:List Point) (aF:List Node) (cv cv1 a:Int) (mp:List (List UInt8×Int)) (l:List Node) (to_:List Int) (x:Node) (y:List Int) {fu:Nat} {stt:Int×(List Int)} {tt:(List Int)} (hh:bm (cZ t aB aO aF cv cv1 a mp l to_ x y) fu stt=some tt) {Z:Env} {O:Sto}
  (hE:eh (fun stt:Int×(List Int)=>match stt with | (a1,_next)=>[(1,.u (.one (.fn 135 [.box 1000000 0,.box 1000001 0,.box 1000002 0]))),(2,vX 2),(4,vX 4),(5,vX 5),(6,vO 5002),(8,vX 8),(9,vO 23),(15,.u (.one (dR1 t.Nodes))),(16,vI (bf t.Nodes)),(17,vI a),(24,vO 23),(25,vI (bf y)),(26,vI a1)]) (fun stt:Int×(List Int)=>match stt with | (_a1,next)=>[(2,.box [dI t.States,dR2 t.Hood,dR1 t.Nodes]),(4,.box [dI 0,.d .nil,.d .nil]),(5,.box [.own 5000,.map 12]),(8,.box [dI x.Level,dL x.Next]),(12,mOb .str kS (uL (L.int .i64)) mp),(23,.row 1 3 (List.map (rI .i64) next)),(5000,.row 2 54 (List.map Node.row l)),(5002,.row 1 3 (List.map (rI .i64) to_)),(1000000,.box [dI aB,dR2 aO,dR1 aF]),(1000001,.box [dI cv]),(1000002,.box [dI cv1])]) stt Z O):Swp Tryz.prog cx (.loop (cD [1,1,1,0,1,0,0,1,1,0,0,1,1,0,1,0,0] (bC Tryz.f115))) Z O (d6 cx t aB aO aF cv cv1 a mp l to_ x y tt):=by
 refine bZ hE hh (d6 cx t aB aO aF cv cv1 a mp l to_ x y) ?_
 rintro⟨a1,next⟩ r hm Z O hf
 simp only[Fits,bv,bw,and_true] at hf
 unfold cZ at hm
 dsimp only at hm
 refine srs hn ?_
 simp -dsimp [hf]
 refine ba ?_
 rcases bz hm with ⟨c4,hm⟩ | ⟨c4,hm⟩
 ·refine bg (by simp -dsimp) c4 ?_
  refine be (b9 ?_)
  obtain⟨aL,j8,hm⟩:=bnd hm
  refine scE [(1,.u (.one (.fn 135 [.box 1000000 0,.box 1000001 0,.box 1000002 0]))),(2,vX 2),(4,vX 4),(5,vX 5),(6,vO 5002),(8,vX 8),(9,vO 23),(15,.u (.one (dR1 t.Nodes))),(16,vI (bf t.Nodes)),(17,vI a),(24,vO 23),(25,vI (bf y)),(26,vI a1)] [(2,.box [dI t.States,dR2 t.Hood,dR1 t.Nodes]),(4,.box [dI 0,.d .nil,.d .nil]),(5,.box [.own 5000,.map 12]),(8,.box [dI x.Level,dL x.Next]),(12,mOb .str kS (uL (L.int .i64)) mp),(23,.row 1 3 (List.map (rI .i64) aL)),(5000,.row 2 54 (List.map Node.row l)),(5002,.row 1 3 (List.map (rI .i64) to_)),(1000000,.box [dI aB,dR2 aO,dR1 aF]),(1000001,.box [dI cv]),(1000002,.box [dI cv1])] ?_ fun Z O hf=>?_
  ·replace hm:=j8
   clear j8
   refine bb ?_
   refine srs hn ?_
   obtain⟨x1,h5,hm⟩:=bnd hm
   simp -dsimp [hf,c4,h5,bV h5]
   refine srs hn ?_
   simp -dsimp [hf]
   rcases bz hm with ⟨c6,hm⟩ | ⟨c6,hm⟩
   ·refine bg (by simp -dsimp) c6 ?_
    refine sr1 hn ?_
    obtain⟨x2,h7,hm⟩:=bnd hm
    simp -dsimp [hf,h5,bV h5,c6,h7,bV h7,mJ .i64 next a1.toNat x2]
    refine ca ?_
    cases hm
    exact EE.here (by simp -dsimp [hf])
   ·refine bi (by simp -dsimp) c6 ?_
    refine be ?_
    refine ca ?_
    cases hm
    exact EE.here (by simp -dsimp [hf,c6])
  ·clear j8
   exact zz
 ·exact zz
def d5 (cx:Cx) (t:Tree) (aB:Int) (aO:List Point) (aF:List Node) (cv cv1:Int) (tt:((List (List UInt8×Int))×(List Node)×(List Int))) (ee:Exit) (Z:Env) (O:Sto):Prop:=match tt with
 | (mp,l,to_)=>ee=.exit 0/\EE cx (bH [(2,vX 2),(4,vX 4),(5,vX 5),(6,vO 5002)] [(2,.box [dI t.States,dR2 t.Hood,dR1 t.Nodes]),(4,.box [dI 0,.d .nil,.d .nil]),(5,.box [.own 5000,.map 12]),(12,mOb .str kS (uL (L.int .i64)) mp),(5000,.row 2 54 (List.map Node.row l)),(5002,.row 1 3 (List.map (rI .i64) to_)),(1000000,.box [dI aB,dR2 aO,dR1 aF]),(1000001,.box [dI cv]),(1000002,.box [dI cv1])]) Z O
set_option maxHeartbeats 1000000 in
theorem iM (cx:Cx) (hn:cx.n=69) (hk:cx.k=3) (t:Tree) (aB:Int) (aO:List Point) (aF:List Node) (cv cv1:Int) {fu:Nat} {stt:Int×(List (List UInt8×Int))×(List Node)×(List Int)} {tt:((List (List UInt8×Int))×(List Node)×(List Int))} (hh:bm (d9 t aB aO aF cv cv1) fu stt=some tt) {Z:Env} {O:Sto}
  (hE:eh (fun stt:Int×(List (List UInt8×Int))×(List Node)×(List Int)=>match stt with | (a,_mp,_l,_to_)=>[(1,.u (.one (.fn 135 [.box 1000000 0,.box 1000001 0,.box 1000002 0]))),(2,vX 2),(4,vX 4),(5,vX 5),(6,vO 5002),(15,.u (.one (dR1 t.Nodes))),(16,vI (bf t.Nodes)),(17,vI a)]) (fun stt:Int×(List (List UInt8×Int))×(List Node)×(List Int)=>match stt with | (_a,mp,l,to_)=>[(2,.box [dI t.States,dR2 t.Hood,dR1 t.Nodes]),(4,.box [dI 0,.d .nil,.d .nil]),(5,.box [.own 5000,.map 12]),(12,mOb .str kS (uL (L.int .i64)) mp),(5000,.row 2 54 (List.map Node.row l)),(5002,.row 1 3 (List.map (rI .i64) to_)),(1000000,.box [dI aB,dR2 aO,dR1 aF]),(1000001,.box [dI cv]),(1000002,.box [dI cv1])]) stt Z O):Swp Tryz.prog cx (.loop (cD [1,1,1,0,1,0,0] (bC Tryz.f115))) Z O (d5 cx t aB aO aF cv cv1 tt):=by
 refine bZ hE hh (d5 cx t aB aO aF cv cv1) ?_
 rintro⟨a,mp,l,to_⟩ r hm Z O hf
 simp only[Fits,bv,bw,and_true] at hf
 unfold d9 at hm
 dsimp only at hm
 refine srs hn ?_
 simp -dsimp [hf]
 refine ba ?_
 rcases bz hm with ⟨c1,hm⟩ | ⟨c1,hm⟩
 ·refine bg (by simp -dsimp) c1 ?_
  refine be (b9 (ba (bb ?_)))
  refine srs hn ?_
  obtain⟨x,h2,hm⟩:=bnd hm
  simp -dsimp [hf,c1,h2]
  refine srs hn ?_
  obtain⟨y,h3,hm⟩:=bnd hm
  simp -dsimp
  refine callL_new (d7 x.Next y h3) (dkL hn) (by decide) ?_
  simp -dsimp
  refine ba ?_
  refine srs hn ?_
  simp -dsimp
  refine bb ?_
  obtain⟨next,g9,hm⟩:=bnd hm
  refine bG (iS cx hn hk t aB aO aF cv cv1 a mp l to_ x y g9) (by
    try dsimp only
    exact EE.here (by simp -dsimp [hf])
  ) fun ee Z O xx=>?_
  unfold d6 at xx
  dsimp only at xx
  obtain⟨rfl,xx⟩:=xx
  refine bA ?_
  refine b9 ?_
  refine see xx fun Z O hf=>?_
  simp only[Fits,bv,bw,and_true] at hf
  refine oT bE mixed 7 9 10 0 [[0,1,2],[0]] [[],[5001]] [true] none (by rw[hn]; kernel_rfl) cN ?_
  dsimp only [List.take,List.drop,ef,eD,gp,pk,List.cons_append,List.nil_append,List.flatten_cons,List.flatten_nil,cO,cP,List.append_nil]
  obtain⟨y1,h10,hm⟩:=bnd hm
  simp -dsimp [hf]
  refine nj (oe x.Level next aB aO aF cv cv1 y1 h10) [23,1000000,1000001,1000002] [] rfl rfl rfl (by simp -dsimp) rfl (by simp -dsimp [hf]) (by first | rfl | simp) rfl (dkL hn) rfl rfl (by simp) nofun (by simp) ?_
  obtain⟨y2,h11,hm⟩:=bnd hm
  simp -dsimp [hf]
  refine nj (mU l mp x.Level y1 y2 h11) [5,5000,12,23] [5001] rfl rfl rfl (by simp -dsimp) rfl (by simp -dsimp [hf]) (by first | rfl | simp) rfl (dkL hn) rfl rfl (by simp) nofun (by simp) ?_
  obtain⟨l1,h12,hm⟩:=bnd hm
  obtain⟨h12a,h12e⟩:=bL h12
  replace h12e:=h12e.symm
  subst h12e
  try simp only[List.length_cons,List.length_nil,Nat.zero_add] at h12a
  simp -dsimp [hf,h12a]
  refine ca ?_
  refine b9 ?_
  refine sr1 hn ?_
  simp -dsimp [hf]
  cases hm
  refine bW ?_
  refine emv 52 5002 ?_
  refine emv 5001 5000 ?_
  exact zz
 ·exact zz
set_option maxHeartbeats 1000000 in
theorem jj (t:Tree) (aB:Int) (aO:List Point) (aF:List Node) (cv cv1:Int) (r:(List Point)×(List Node)) (hm:dd t aB aO aF cv cv1=some r):GFn Tryz.prog 115 [.u (.agg [dI t.States,dR2 t.Hood,dR1 t.Nodes]),.u (.one (.fn 135 [.box 1000000 0,.box 1000001 0,.box 1000002 0]))] [.box [dI aB,dR2 aO,dR1 aF],.box [dI cv],.box [dI cv1]] (.u (.agg [dI t.States,dR2 r.1,dR1 r.2])) [some (.box [dI aB,dR2 aO,dR1 aF]),some (.box [dI cv]),some (.box [dI cv1])]:=by
 refine bY bE _ Tryz.func115 rfl (by kernel_rfl) (by simp[Tryz.ntmps115]) (by simp) (by first | rfl | simp) (by first | rfl | simp) fun cx hn hk=>?_
 replace hn:cx.n=69:=hn.trans Tryz.ntmps115
 replace hk:cx.k=3:=hk
 unfold dd at hm
 refine srs hn ?_
 simp -dsimp
 refine srs hn ?_
 simp -dsimp [(@id (Ob.map .str []=mOb .str kS (uL (L.int .i64)) ([]:List (List UInt8×Int))) (mOb_nil .str kS (uL (L.int .i64))))]
 refine srs hn ?_
 simp -dsimp
 refine ba ?_
 refine srs hn ?_
 simp -dsimp
 refine bb ?_
 obtain⟨⟨mp,l,to_⟩,g13,hm⟩:=bnd hm
 refine bG (iM cx hn hk t aB aO aF cv cv1 g13) (by
   try dsimp only
   refine EE.step (Wk.own0 6 5002 1 3 (by simp -dsimp) (by decide)) ?_
   refine EE.step (Wk.own0b 5 0 5000 2 54 [.d .nil,.map 12] (by simp -dsimp) (by rfl) (by decide) (by decide)) ?_
   exact zz
 ) fun ee Z O xx=>?_
 unfold d5 at xx
 dsimp only at xx
 obtain⟨rfl,xx⟩:=xx
 refine bA ?_
 refine b9 ?_
 refine see xx fun Z O hf=>?_
 simp only[Fits,bv,bw,and_true] at hf
 refine Swp.pre (Wk.frz 5000 2 54 (List.map Node.row l) (by simp -dsimp [hf])) ?_
 refine oK bE mixed 14 (by rw[hn]; kernel_rfl) ?_
 dsimp only [List.take,List.drop]
 obtain⟨y,h14,hm⟩:=bnd hm
 simp -dsimp [hf]
 refine br (CtP.pf h14) ?_
 obtain⟨x,h15,hm⟩:=bnd hm
 obtain⟨y1,h16,hm⟩:=bnd hm
 simp -dsimp [hf,h15,bV h15]
 refine br (CtP.pf h16) ?_
 simp -dsimp [hf]
 cases hm
 exact bq ⟨.inr rfl,EE.here (by simp -dsimp [hf])⟩
end
instance c_reduce_Fix (t k s r):CtP (ot t k s=some r) (bj Tryz.prog 117 [.u (.agg [dI t.States,dR2 t.Hood,dR1 t.Nodes]),vI k,vI s] (.tup [.agg [dI r.1.States,dR2 r.1.Hood,dR1 r.1.Nodes],.one (dI r.2)])):=⟨fun hm=>by
 refine db Tryz.func117 Tryz.ntmps117 fun cx hn=>?_
 unfold ot at hm
 refine srs hn ?_
 simp -dsimp
 refine ba (bb ?_)
 refine srs hn ?_
 obtain⟨y,h1,hm⟩:=bnd hm
 simp -dsimp
 refine bp (CtP.pf h1) (dkL hn) ?_
 simp -dsimp
 rcases bz hm with ⟨c2,hm⟩ | ⟨c2,hm⟩
 ·exact zz
 ·refine bi (by simp -dsimp) c2 ?_
  obtain⟨a,j9,hm⟩:=bnd hm
  refine scE [(3,vX 3),(4,vX 4),(5,vX 5),(6,vX 6),(13,vT a)] [(3,.box [dI t.States,dR2 t.Hood,dR1 t.Nodes]),(4,.box [dI k]),(5,.box [dI s]),(6,.box [dI 0,.d .nil,.d .nil])] ?_ fun Z O hf=>?_
  ·replace hm:=j9
   clear j9
   exact zz
  ·clear j9
   simp only[Fits,bv,bw,and_true] at hf
   rcases bz hm with ⟨c4,hm⟩ | ⟨c4,hm⟩
   ·exact zz
   ·refine bi (by simp -dsimp [hf]) c4 ?_
    obtain⟨a1,j8,hm⟩:=bnd hm
    refine scE [(3,vX 3),(4,vX 4),(5,vX 5),(6,vX 6),(24,vT a1)] [(3,.box [dI t.States,dR2 t.Hood,dR1 t.Nodes]),(4,.box [dI k]),(5,.box [dI s]),(6,.box [dI 0,.d .nil,.d .nil])] ?_ fun Z O hf=>?_
    ·replace hm:=j8
     clear j8
     exact zz
    ·clear j8
     simp only[Fits,bv,bw,and_true] at hf
     rcases bz hm with ⟨c6,hm⟩ | ⟨c6,hm⟩
     ·exact zz
     ·refine bi (by simp -dsimp [hf]) c6 ?_
      refine be ?_
      refine ca ?_
      refine b9 ?_
      refine srs hn ?_
      obtain⟨y1,h7,hm⟩:=bnd hm
      simp -dsimp [hf]
      refine clg (jj t t.States t.Hood t.Nodes k s y1 h7) [3,4,5] [] (by simp -dsimp [hf]) (dkL hn) ?_
      exact zz⟩
end Go.Proofs.YtbgliammfkgfoaaGreatDoor
