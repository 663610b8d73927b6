/- That the code does what the functions say (made by cc.py). -/
import Derived.Test.YtbgliammfkgfoaaGreatDoorWa3
namespace Go.Proofs.YtbgliammfkgfoaaGreatDoor
open Go.AM Go.Proofs
set_option maxRecDepth 100000
attribute [-simp] dD e6 gg Ob.wipe Ob.ren Ob.frz1
def ew (cx:Cx) (ah:Int) (ag:List (List Int)) (aa:Int) (ae:List Point) (ab:List Node) (al:Int) (aj:List (List UInt8×Tree)) (in_:List Bj) (tt:(List Int)) (ee:Exit) (Z:Env) (O:Sto):Prop:=match tt with
 | keyv=>ee=.exit 0/\EE cx (bH [(0,vX 1000000),(1,vO 1000003),(4,vX 4),(5,vO 5000)] [(4,.box [dI 0,.d .nil,.d .nil]),(5000,.row 1 5 (List.map (rI .u8) keyv)),(1000000,.box [dI ah,.own 1000001,dI aa,dR2 ae,dR1 ab,dI al,.map 1000002]),(1000001,.row 1 26 (List.map (rS 1 (rI .i64)) ag)),(1000002,mOb .str kS (uA Tree.row) aj),(1000003,.row 2 97 (List.map Bj.row in_))]) Z O
set_option maxHeartbeats 1000000 in
theorem lv (cx:Cx) (hn:cx.n=73) (_hk:cx.k=4) (ah:Int) (ag:List (List Int)) (aa:Int) (ae:List Point) (ab:List Node) (al:Int) (aj:List (List UInt8×Tree)) (in_:List Bj) {fu:Nat} {stt:Int×(List Int)} {tt:(List Int)} (hh:bm (ek ah ag aa ae ab al aj in_) fu stt=some tt) {Z:Env} {O:Sto}
  (hE:eh (fun stt:Int×(List Int)=>match stt with | (a,_keyv)=>[(0,vX 1000000),(1,vO 1000003),(4,vX 4),(5,vO 5000),(13,vO 1000003),(14,vI (bf in_)),(15,vI a)]) (fun stt:Int×(List Int)=>match stt with | (_a,keyv)=>[(4,.box [dI 0,.d .nil,.d .nil]),(5000,.row 1 5 (List.map (rI .u8) keyv)),(1000000,.box [dI ah,.own 1000001,dI aa,dR2 ae,dR1 ab,dI al,.map 1000002]),(1000001,.row 1 26 (List.map (rS 1 (rI .i64)) ag)),(1000002,mOb .str kS (uA Tree.row) aj),(1000003,.row 2 97 (List.map Bj.row in_))]) stt Z O):Swp Tryz.prog cx (.loop (cD [1,1,0,1,0,0] (bC Tryz.f87))) Z O (ew cx ah ag aa ae ab al aj in_ tt):=by
 refine bZ hE hh (ew cx ah ag aa ae ab al aj in_) ?_
 rintro⟨a,keyv⟩ r hm Z O hf
 simp only[Fits,bv,bw,and_true] at hf
 unfold ek at hm
 dsimp only at hm
 refine srs hn ?_
 simp -dsimp [hf]
 refine ba ?_
 rcases bz hm with ⟨c1,hm⟩ | ⟨c1,hm⟩
 ·refine bg (by simp -dsimp) c1 ?_
  refine be (b9 (ba (bb ?_)))
  refine srs hn ?_
  obtain⟨x,h2,hm⟩:=bnd hm
  simp -dsimp [hf,c1,h2,bV h2]
  refine srs hn ?_
  simp -dsimp
  obtain⟨k,j5,hm⟩:=bnd hm
  refine scE [(0,vX 1000000),(1,vO 1000003),(4,vX 4),(5,vO 5000),(8,.u (.one (.d (.int .u8 k)))),(13,vO 1000003),(14,vI (bf in_)),(15,vI a)] [(4,.box [dI 0,.d .nil,.d .nil]),(5000,.row 1 5 (List.map (rI .u8) keyv)),(1000000,.box [dI ah,.own 1000001,dI aa,dR2 ae,dR1 ab,dI al,.map 1000002]),(1000001,.row 1 26 (List.map (rS 1 (rI .i64)) ag)),(1000002,mOb .str kS (uA Tree.row) aj),(1000003,.row 2 97 (List.map Bj.row in_))] ?_ fun Z O hf=>?_
  ·replace hm:=j5
   clear j5
   exact zz
  ·clear j5
   simp only[Fits,bv,bw,and_true] at hf
   refine sr1 hn ?_
   obtain⟨l,h4,hm⟩:=bnd hm
   obtain⟨h4a,h4e⟩:=bL h4
   replace h4e:=h4e.symm
   subst h4e
   try simp only[List.length_cons,List.length_nil,Nat.zero_add] at h4a
   try simp only[Nat.mul_one,Nat.reduceLeDiff] at h4a
   simp -dsimp [hf,h4a]
   refine ca ?_
   refine b9 ?_
   refine sr1 hn ?_
   simp -dsimp [hf]
   cases hm
   refine bW ?_
   refine emv 28 5000 ?_
   exact zz
 ·exact zz
def ev (cx:Cx) (ah:Int) (ag:List (List Int)) (aa:Int) (ae:List Point) (ab:List Node) (al:Int) (aj:List (List UInt8×Tree)) (in_:List Bj) (keyv:List Int) (_u:Unit) (tt:(Int×(List Point)×(List Node))) (ee:Exit) (Z:Env) (O:Sto):Prop:=match tt with
 | (aA,aM,aC)=>ee=.exit 2/\EE cx (bH [(0,vX 1000000),(4,vX 4),(5,vO 5000),(9,vX 9)] [(4,.box [dI 0,.d .nil,.d .nil]),(9,.box [dI aA,dR2 aM,dR1 aC]),(5000,.row 1 5 (List.map (rI .u8) keyv)),(1000000,.box [dI ah,.own 1000001,dI aa,dR2 ae,dR1 ab,dI al,.map 1000002]),(1000001,.row 1 26 (List.map (rS 1 (rI .i64)) ag)),(1000002,mOb .str kS (uA Tree.row) aj),(1000003,.row 2 97 (List.map Bj.row in_))]) Z O
set_option maxHeartbeats 1000000 in
theorem lu (cx:Cx) (hn:cx.n=73) (_hk:cx.k=4) (ah:Int) (ag:List (List Int)) (aa:Int) (ae:List Point) (ab:List Node) (al:Int) (aj:List (List UInt8×Tree)) (in_:List Bj) (keyv:List Int) (u:Unit) {fu:Nat} {stt:Int×Int×(List Point)×(List Node)} {tt:(Int×(List Point)×(List Node))} (hh:bm (eA ah ag aa ae ab al aj in_ keyv u) fu stt=some tt) {Z:Env} {O:Sto}
  (hE:eh (fun stt:Int×Int×(List Point)×(List Node)=>match stt with | (a,_aA,_aM,_aC)=>[(0,vX 1000000),(4,vX 4),(5,vO 5000),(9,vX 9),(46,vO 1000003),(47,vI (bf in_)),(48,vI a)]) (fun stt:Int×Int×(List Point)×(List Node)=>match stt with | (_a,aA,aM,aC)=>[(4,.box [dI 0,.d .nil,.d .nil]),(9,.box [dI aA,dR2 aM,dR1 aC]),(5000,.row 1 5 (List.map (rI .u8) keyv)),(1000000,.box [dI ah,.own 1000001,dI aa,dR2 ae,dR1 ab,dI al,.map 1000002]),(1000001,.row 1 26 (List.map (rS 1 (rI .i64)) ag)),(1000002,mOb .str kS (uA Tree.row) aj),(1000003,.row 2 97 (List.map Bj.row in_))]) stt Z O):Swp Tryz.prog cx (.loop (cD [1,1,1,1,0,1,0,1,0,1,0,0] (bC Tryz.f87))) Z O (ev cx ah ag aa ae ab al aj in_ keyv u tt):=by
 refine bZ hE hh (ev cx ah ag aa ae ab al aj in_ keyv u) ?_
 rintro⟨a,aA,aM,aC⟩ r hm Z O hf
 simp only[Fits,bv,bw,and_true] at hf
 unfold eA at hm
 dsimp only at hm
 refine srs hn ?_
 simp -dsimp [hf]
 refine ba ?_
 rcases bz hm with ⟨c10,hm⟩ | ⟨c10,hm⟩
 ·refine bg (by simp -dsimp) c10 ?_
  refine be (b9 ?_)
  obtain⟨⟨b8,tHood1,tNodes1⟩,j14,hm⟩:=bnd hm
  refine scE [(0,vX 1000000),(4,vX 4),(5,vO 5000),(9,vX 9),(46,vO 1000003),(47,vI (bf in_)),(48,vI a)] [(4,.box [dI 0,.d .nil,.d .nil]),(9,.box [dI b8,dR2 tHood1,dR1 tNodes1]),(5000,.row 1 5 (List.map (rI .u8) keyv)),(1000000,.box [dI ah,.own 1000001,dI aa,dR2 ae,dR1 ab,dI al,.map 1000002]),(1000001,.row 1 26 (List.map (rS 1 (rI .i64)) ag)),(1000002,mOb .str kS (uA Tree.row) aj),(1000003,.row 2 97 (List.map Bj.row in_))] ?_ fun Z O hf=>?_
  ·replace hm:=j14
   clear j14
   refine bb ?_
   refine srs hn ?_
   obtain⟨x,h11,hm⟩:=bnd hm
   simp -dsimp [hf,c10,h11,bV h11]
   refine srs hn ?_
   simp -dsimp
   rcases bz hm with ⟨c12,hm⟩ | ⟨c12,hm⟩
   ·refine bg (by simp -dsimp) c12 ?_
    refine sr1 hn ?_
    obtain⟨y,h13,hm⟩:=bnd hm
    simp -dsimp [hf,c12]
    refine bp (CtP.pf h13) (dkL hn) ?_
    simp -dsimp [hf]
    refine ca ?_
    cases hm
    exact EE.here (by simp -dsimp [hf])
   ·refine bi (by simp -dsimp) c12 ?_
    refine be ?_
    refine ca ?_
    cases hm
    exact EE.here (by simp -dsimp [hf,c12])
  ·clear j14
   exact zz
 ·exact zz
set_option maxHeartbeats 1000000 in
theorem md (ah:Int) (ag:List (List Int)) (aa:Int) (ae:List Point) (ab:List Node) (al:Int) (aj:List (List UInt8×Tree)) (in_:List Bj) (r:Int×(List Point)×(List Node)×(List (List UInt8×Tree))) (hm:f7 ah ag aa ae ab al aj in_=some r):GFn Tryz.prog 87 [vX 1000000,vO 1000003] [.box [dI ah,.own 1000001,dI aa,dR2 ae,dR1 ab,dI al,.map 1000002],.row 1 26 (List.map (rS 1 (rI .i64)) ag),mOb .str kS (uA Tree.row) aj,.row 2 97 (List.map Bj.row in_)] (.u (.agg [dI r.1,dR2 r.2.1,dR1 r.2.2.1])) [some (.box [dI ah,.own 1000001,dI aa,dR2 ae,dR1 ab,dI al,.map 1000002]),some (.row 1 26 (List.map (rS 1 (rI .i64)) ag)),some (mOb .str kS (uA Tree.row) r.2.2.2),some (.row 2 97 (List.map Bj.row in_))]:=by
 refine bY bE _ Tryz.func87 rfl (by kernel_rfl) (by simp[Tryz.ntmps87]) (by simp) (by first | rfl | simp) (by first | rfl | simp) fun cx hn hk=>?_
 replace hn:cx.n=73:=hn.trans Tryz.ntmps87
 replace hk:cx.k=4:=hk
 unfold f7 at hm
 refine srs hn ?_
 simp -dsimp
 refine srs hn ?_
 simp -dsimp
 refine ba ?_
 refine srs hn ?_
 simp -dsimp
 refine bb ?_
 obtain⟨keyv,g6,hm⟩:=bnd hm
 refine bG (lv cx hn hk ah ag aa ae ab al aj in_ g6) (by
   try dsimp only
   refine EE.step (Wk.own0 5 5000 1 5 (by simp -dsimp) (by decide)) ?_
   exact zz
 ) fun ee Z O xx=>?_
 unfold ew at xx
 dsimp only at xx
 obtain⟨rfl,xx⟩:=xx
 refine bA ?_
 refine b9 ?_
 refine see xx fun Z O hf=>?_
 simp only[Fits,bv,bw,and_true] at hf
 refine gz bE mixed 10 12 12 0 [[0,1,2,3,4,5,6,7,8,9],[9]] [[9],[]] [] none (by rw[hn]; kernel_rfl) cN ?_
 dsimp only [List.take,List.drop,ef,eD,gp,pk,List.cons_append,List.nil_append,List.flatten_cons,List.flatten_nil,cO,cP,List.append_nil]
 obtain⟨u,h7,hm⟩:=bnd hm
 rcases bz hm with ⟨c8,hm⟩ | ⟨c8,hm⟩
 ·obtain⟨v,h9,hm⟩:=bnd hm
  simp -dsimp [hf,mm h7,(@id (lkM (nD (mOb .str kS (uA Tree.row) aj) (.str (ofBytes keyv))) true (.agg [dI 0,.d .nil,.d .nil])=some (.tup [.agg [dI v.States,dR2 v.Hood,dR1 v.Nodes],.one (.d (.bool true))])) (lk_some (kf:=kS) (vf:=(uA Tree.row)) _ h9))]
  refine ba ?_
  refine srs hn ?_
  simp -dsimp
  refine bi (b:=false) (by simp -dsimp) rfl ?_
  refine be (b9 ?_)
  refine srs hn ?_
  simp -dsimp [hf]
  cases hm
  exact bq ⟨.inr rfl,EE.here (by simp -dsimp [hf])⟩
 ·simp -dsimp [hf,mm h7,(@id (lkM (nD (mOb .str kS (uA Tree.row) aj) (.str (ofBytes keyv))) true (.agg [dI 0,.d .nil,.d .nil])=some (.tup [.agg [dI 0,.d .nil,.d .nil],.one (.d (.bool false))])) (lk_none (kf:=kS) (vf:=(uA Tree.row)) _ c8))]
  refine ba ?_
  refine srs hn ?_
  simp -dsimp
  refine bg (b:=true) (by simp -dsimp) rfl ?_
  refine srs hn ?_
  simp -dsimp [hf]
  refine ba ?_
  refine srs hn ?_
  simp -dsimp [hf]
  refine bb ?_
  obtain⟨⟨aA,aM,aC⟩,g15,hm⟩:=bnd hm
  refine bG (lu cx hn hk ah ag aa ae ab al aj in_ keyv u g15) (by
    try dsimp only
    refine EE.here ?_
    exact zz
  ) fun ee Z O xx=>?_
  unfold ev at xx
  dsimp only at xx
  obtain⟨rfl,xx⟩:=xx
  refine bA ?_
  refine b9 ?_
  refine see xx fun Z O hf=>?_
  simp only[Fits,bv,bw,and_true] at hf
  refine sw_drN bE mixed 7 (by rw[hn]; kernel_rfl) ?_
  dsimp only [List.take,List.drop]
  simp -dsimp [hf,mm h7,(@id (msetOb (mOb .str kS (uA Tree.row) aj) (.str (ofBytes keyv)) (.agg [dI aA,dR2 aM,dR1 aC])=mOb .str kS (uA Tree.row) (ig aj (ofBytes keyv) (⟨aA,aM,aC⟩:Tree))) (mset_ob .str kS (uA Tree.row) aj (ofBytes keyv) (⟨aA,aM,aC⟩:Tree)))]
  refine b9 ?_
  refine srs hn ?_
  simp -dsimp [hf]
  cases hm
  exact bq ⟨.inr rfl,EE.here (by simp -dsimp [hf])⟩
instance c_unroll_builder_tree_2 (n a r):CtP (gC n a=some r) (bj Tryz.prog 119 [vI n,.u (.one (.ref (Node.row a) 0))] (vT r)):=⟨fun hm=>by
 refine db Tryz.func119 Tryz.ntmps119 fun cx hn=>?_
 unfold gC at hm
 exact zz⟩
def cX (cx:Cx) (_s:List Int) (_cv:Node) (tt:Int ⊕ Unit) (ee:Exit) (Z:Env) (O:Sto):Prop:=match tt with
 | .inl r=>ee=.ret/\EE cx (fun Z O=>∃ v,gF tb Z O Tryz.f82.results.toList=some v/\(v.frz O).free=true/\(v.frz O).wk (vI r)) Z O
 | .inr _u=>ee=.exit 0/\EE cx (bH [] []) Z O
instance l_slices_IndexFunc_int_int_unroll_builder_tree_2_1 (s cv) {fu stt tt}:LtP (bm (ck s cv) fu stt=some tt) (lp 19 stt (fun a=>[(0,.u (.one (dL s))),(1,.u (.one (.fn 119 [.ref (Node.row cv) 0]))),(7,vI (bf s)),(8,vI a)]) (fun _a=>[]) (cD [1,0,1,0,0] (bC Tryz.f82)) fun cx=>cX cx s cv tt):=⟨fun hh cx hn Z O hE=>by
 refine bZ hE hh (cX cx s cv) ?_
 rintro a r hm Z O hf
 simp only[Fits,bv,bw,and_true] at hf
 unfold ck at hm
 exact zz⟩
instance c_slices_IndexFunc_int_int_unroll_builder_tree_2 (s cv r):CtP (co s cv=some r) (bj Tryz.prog 82 [.u (.one (dL s)),.u (.one (.fn 119 [.ref (Node.row cv) 0]))] (vI r)):=⟨fun hm=>by
 refine db Tryz.func82 Tryz.ntmps82 fun cx hn=>?_
 unfold co at hm
 refine srs hn ?_
 simp -dsimp
 refine ba ?_
 refine srs hn ?_
 simp -dsimp
 refine bb ?_
 obtain⟨o_,g5,hm⟩:=bnd hm
 refine bG (LtP.pf g5 cx hn) (by
   try dsimp only
   exact eeh
 ) fun ee Z O xx=>?_
 rcases o_ with r | _u
 ·exact zz
 ·exact zz⟩
instance c_slices_ContainsFunc_int_int_unroll_builder_tree_2 (s cv r):CtP (ci s cv=some r) (bj Tryz.prog 48 [.u (.one (dL s)),.u (.one (.fn 119 [.ref (Node.row cv) 0]))] (vT r)):=⟨fun hm=>by
 refine db Tryz.func48 Tryz.ntmps48 fun cx hn=>?_
 unfold ci at hm
 refine srs hn ?_
 simp -dsimp
 refine srs hn ?_
 obtain⟨y,h1,hm⟩:=bnd hm
 simp -dsimp
 refine bp (CtP.pf h1) (dkL hn) ?_
 simp -dsimp
 refine bq ?_
 cases hm
 refine⟨.inr rfl,?_⟩
 exact EE.here (by simp -dsimp)⟩
theorem i6 (s b7:Int) (aNext:List Int) (a:List Bj) (r:Int×(List Int)) (hm:dC s b7 aNext a=some r):GFn Tryz.prog 118 [vI s,vX 1000000,vX 1000001] [.box [dI b7,dL aNext],.box [.own 1000002],.row 2 97 (List.map Bj.row a)] (.u (.agg [dI r.1,.d (pnil 1 (List.map (rI .i64) r.2))])) [some (.box [dI b7,dL aNext]),some (.box [.own 1000002]),some (.row 2 97 (List.map Bj.row a))]:=by
 refine bY bE _ Tryz.func118 rfl (by kernel_rfl) (by simp[Tryz.ntmps118]) (by simp) (by first | rfl | simp) (by first | rfl | simp) fun cx hn hk=>?_
 replace hn:cx.n=22:=hn.trans Tryz.ntmps118
 replace hk:cx.k=3:=hk
 unfold dC at hm
 refine srs hn ?_
 simp -dsimp
 refine ba ?_
 refine srs hn ?_
 simp -dsimp
 rcases bz hm with ⟨c1,hm⟩ | ⟨c1,hm⟩
 ·exact zz
 ·refine scf c1 ?_
  refine be (b9 ?_)
  refine oK bE mixed 6 (by rw[hn]; kernel_rfl) ?_
  dsimp only [List.take,List.drop]
  obtain⟨x,h3,hm⟩:=bnd hm
  obtain⟨x1,h4,hm⟩:=bnd hm
  simp -dsimp [c1,h3,h4,bV h4]
  cases hm
  exact bq ⟨.inr rfl,EE.here (by simp -dsimp)⟩
theorem lQ (ah:Int) (ag:List (List Int)) (aa:Int) (ae:List Point) (ab:List Node) (al:Int) (aj:List (List UInt8×Tree)) (l:List Int) (r:Unit) (hm:eN ah ag aa ae ab al aj l=some r):GFn Tryz.prog 54 [vX 1000000,vO 1000003] [.box [dI ah,.own 1000001,dI aa,dR2 ae,dR1 ab,dI al,.map 1000002],.row 1 26 (List.map (rS 1 (rI .i64)) ag),mOb .str kS (uA Tree.row) aj,.row 1 3 (List.map (rI .i64) l)] (.tup []) [some (.box [dI ah,.own 1000004,dI aa,dR2 ae,dR1 ab,dI al,.map 1000002]),none,some (mOb .str kS (uA Tree.row) aj),none,some (.row 1 26 (List.map (rS 1 (rI .i64)) (ag++[l])))]:=by
 refine bY bE _ Tryz.func54 rfl (by kernel_rfl) (by simp[Tryz.ntmps54]) (by simp) (by first | rfl | simp) (by first | rfl | simp) fun cx hn hk=>?_
 replace hn:cx.n=16:=hn.trans Tryz.ntmps54
 replace hk:cx.k=4:=hk
 unfold eN at hm
 refine Swp.pre (Wk.frz 1000003 1 3 (List.map (rI .i64) l) (by simp -dsimp)) ?_
 refine sr1 hn ?_
 obtain⟨l1,h1,hm⟩:=bnd hm
 obtain⟨h1a,h1e⟩:=bL h1
 replace h1e:=h1e.symm
 subst h1e
 try simp only[List.length_cons,List.length_nil,Nat.zero_add] at h1a
 simp -dsimp [h1a]
 cases hm
 try refine⟨.inl rfl,?_⟩
 refine emr 12 1000004 hk ?_
 exact zz
theorem d8 (l:List Int) (aQ:Int) (aK:List (List Int)) (aT:Int) (aX:List Point) (aU:List Node) (abits:Int) (b6:List (List UInt8×Tree)) (a:List Int) (r:List (List Int)) (hm:ch l aQ aK aT aX aU abits b6 a=some r):GFn Tryz.prog 136 [.u (.one (dL l)),vX 1000000,vX 1000004] [.box [.box 1000001 0],.box [dI aQ,.own 1000002,dI aT,dR2 aX,dR1 aU,dI abits,.map 1000003],.row 1 26 (List.map (rS 1 (rI .i64)) aK),mOb .str kS (uA Tree.row) b6,.box [dL a]] (.tup []) [some (.box [.box 1000001 0]),some (.box [dI aQ,.own 1000005,dI aT,dR2 aX,dR1 aU,dI abits,.map 1000003]),none,some (mOb .str kS (uA Tree.row) b6),some (.box [dL a]),some (.row 1 26 (List.map (rS 1 (rI .i64)) r))]:=by
 refine bY bE _ Tryz.func136 rfl (by kernel_rfl) (by simp[Tryz.ntmps136]) (by simp) (by first | rfl | simp) (by first | rfl | simp) fun cx hn hk=>?_
 replace hn:cx.n=10:=hn.trans Tryz.ntmps136
 replace hk:cx.k=5:=hk
 unfold ch at hm
 refine sw_midp bE mixed [] [0,1,3,2,4,5] [0,1,3,2,4,5] 3 5 5 0 [[0,2],[0]] [[6],[8]] [] none (by rw[hn]; kernel_rfl) (by dsimp only [dU,k3,adO,rnL,pmL,pk,rnO,rnG,iK,List.cons_append,List.nil_append]<;>exact rfl) cN ?_
 dsimp only [List.take,List.drop,ef,eD,gp,pk,List.cons_append,List.nil_append,List.flatten_cons,List.flatten_nil,cO,cP,List.append_nil]
 obtain⟨y,h1,hm⟩:=bnd hm
 simp -dsimp
 refine callE_new (d7 a y h1) (dkL hn) (by decide) rfl rfl (by simp) nofun (by simp) ?_
 obtain⟨l1,h2,hm⟩:=bnd hm
 obtain⟨h2a,h2e⟩:=bL h2
 replace h2e:=h2e.symm
 subst h2e
 try simp only[List.length_cons,List.length_nil,Nat.zero_add,List.nil_append,List.length_append,List.length_map,List.length_replicate] at h2a
 obtain⟨y1,h3,hm⟩:=bnd hm
 simp -dsimp [h2a]
 refine clg (lQ aQ aK aT aX aU abits b6 (y++l) y1 h3) [1000001,1000002,1000003,8] [5000] (by simp -dsimp) (dkL hn) ?_
 simp -dsimp
 cases hm
 try refine⟨.inl rfl,?_⟩
 refine emr 5000 1000005 hk ?_
 exact zz
def eB (cx:Cx) (ah aa:Int) (ae:List Point) (ab:List Node) (al:Int) (aj:List (List UInt8×Tree)) (_aH _own:List Int) (_v:Bj) (tt:(List (List Int))) (ee:Exit) (Z:Env) (O:Sto):Prop:=match tt with
 | l=>ee=.exit 0/\EE cx (bH [] [(5004,.row 1 26 (List.map (rS 1 (rI .i64)) l)),(1000000,.box [dI ah,.own 5004,dI aa,dR2 ae,dR1 ab,dI al,.map 1000002]),(1000002,mOb .str kS (uA Tree.row) aj)]) Z O
theorem lE (cx:Cx) (hn:cx.n=60) (_hk:cx.k=3) (ah aa:Int) (ae:List Point) (ab:List Node) (al:Int) (aj:List (List UInt8×Tree)) (aH own:List Int) (v:Bj) {fu:Nat} {stt:Int×(List (List Int))} {tt:(List (List Int))} (hh:bm (eC ah aa ae ab al aj aH own v) fu stt=some tt) {Z:Env} {O:Sto}
  (hE:eh (fun stt:Int×(List (List Int))=>match stt with | (a,_l)=>[(4,vX 4),(5,vX 5),(7,vX 7),(11,.u (.one (dL own))),(12,vI (bf own)),(13,vI a)]) (fun stt:Int×(List (List Int))=>match stt with | (_a,l)=>[(4,.box [.box 1000000 0]),(5,.box [dL aH]),(7,.box [dI v.constant,.d (pnil 1 (List.map (rI .i64) v.vars))]),(5004,.row 1 26 (List.map (rS 1 (rI .i64)) l)),(1000000,.box [dI ah,.own 5004,dI aa,dR2 ae,dR1 ab,dI al,.map 1000002]),(1000002,mOb .str kS (uA Tree.row) aj)]) stt Z O):Swp Tryz.prog cx (.loop (cD [1,1,0,0] (bC Tryz.f120))) Z O (eB cx ah aa ae ab al aj aH own v tt):=by
 refine bZ hE hh (eB cx ah aa ae ab al aj aH own v) ?_
 rintro⟨a,l⟩ r hm Z O hf
 simp only[Fits,bv,bw,and_true] at hf
 unfold eC at hm
 dsimp only at hm
 refine srs hn ?_
 simp -dsimp [hf]
 refine ba ?_
 rcases bz hm with ⟨c1,hm⟩ | ⟨c1,hm⟩
 ·refine bg (by simp -dsimp) c1 ?_
  refine be (b9 ?_)
  obtain⟨l1,j12,hm⟩:=bnd hm
  refine scE [(4,vX 4),(5,vX 5),(7,vX 7),(11,.u (.one (dL own))),(12,vI (bf own)),(13,vI a)] [(4,.box [.box 1000000 0]),(5,.box [dL aH]),(7,.box [dI v.constant,.d (pnil 1 (List.map (rI .i64) v.vars))]),(5004,.row 1 26 (List.map (rS 1 (rI .i64)) l1)),(1000000,.box [dI ah,.own 5004,dI aa,dR2 ae,dR1 ab,dI al,.map 1000002]),(1000002,mOb .str kS (uA Tree.row) aj)] ?_ fun Z O hf=>?_
  ·replace hm:=j12
   clear j12
   refine bb ?_
   refine srs hn ?_
   obtain⟨x,h2,hm⟩:=bnd hm
   simp -dsimp [hf,c1,h2]
   refine srs hn ?_
   simp -dsimp [hf]
   refine bb ?_
   refine srs hn ?_
   simp -dsimp [hf]
   rcases bz hm with ⟨c3,hm⟩ | ⟨c3,hm⟩
   ·refine bg (by simp -dsimp) c3 ?_
    refine srs hn ?_
    obtain⟨u,h4,hm⟩:=bnd hm
    obtain⟨x1,h5,hm⟩:=bnd hm
    obtain⟨y,h6,hm⟩:=bnd hm
    simp -dsimp [hf,c3,k8 h4 1 (rI .i64),h5]
    refine clg (d8 [(cA .i64 x),x1] ah l aa ae ab al aj aH y h6) [4,1000000,5004,1000002,5] [5000] (by simp -dsimp [hf]) (dkL hn) ?_
    simp -dsimp [k8 h4 1 (rI .i64)]
    refine sr1 hn ?_
    obtain⟨y1,h7,hm⟩:=bnd hm
    simp -dsimp [hf,k8 h4 1 (rI .i64),h5]
    refine clg (d8 [x,(cA .i64 x1)] ah y aa ae ab al aj aH y1 h7) [4,1000000,5000,1000002,5] [5001] (by simp -dsimp) (dkL hn) ?_
    simp -dsimp
    refine ca ?_
    refine ca ?_
    refine b9 ?_
    cases hm
    refine emv 5001 5004 ?_
    exact zz
   ·refine bi (by simp -dsimp) c3 ?_
    refine srs hn ?_
    obtain⟨n,h8,hm⟩:=bnd hm
    simp -dsimp [hf,c3,h8]
    rcases bz hm with ⟨c9,hm⟩ | ⟨c9,hm⟩
    ·refine bg (by simp -dsimp) c9 ?_
     refine sr1 hn ?_
     obtain⟨y,h10,hm⟩:=bnd hm
     simp -dsimp [c9]
     refine clg (d8 [x] ah l aa ae ab al aj aH y h10) [4,1000000,5004,1000002,5] [5002] (by simp -dsimp [hf]) (dkL hn) ?_
     simp -dsimp
     refine ca ?_
     refine ca ?_
     refine b9 ?_
     cases hm
     refine emv 5002 5004 ?_
     exact zz
    ·refine bi (by simp -dsimp) c9 ?_
     refine sr1 hn ?_
     obtain⟨y,h11,hm⟩:=bnd hm
     simp -dsimp [c9]
     refine clg (d8 [(cA .i64 x)] ah l aa ae ab al aj aH y h11) [4,1000000,5004,1000002,5] [5003] (by simp -dsimp [hf]) (dkL hn) ?_
     simp -dsimp
     refine ca ?_
     refine ca ?_
     refine b9 ?_
     cases hm
     refine emv 5003 5004 ?_
     exact zz
  ·clear j12
   exact zz
 ·exact zz
theorem mn (ah:Int) (ag:List (List Int)) (aa:Int) (ae:List Point) (ab:List Node) (al:Int) (aj:List (List UInt8×Tree)) (aH own:List Int) (v:Bj) (r:List (List Int)) (hm:f8 ah ag aa ae ab al aj aH own v=some r):GFn Tryz.prog 120 [vX 1000000,.u (.one (dL aH)),.u (.one (dL own)),.u (.agg [dI v.constant,.d (pnil 1 (List.map (rI .i64) v.vars))])] [.box [dI ah,.own 1000001,dI aa,dR2 ae,dR1 ab,dI al,.map 1000002],.row 1 26 (List.map (rS 1 (rI .i64)) ag),mOb .str kS (uA Tree.row) aj] (.tup []) [some (.box [dI ah,.own 1000003,dI aa,dR2 ae,dR1 ab,dI al,.map 1000002]),none,some (mOb .str kS (uA Tree.row) aj),some (.row 1 26 (List.map (rS 1 (rI .i64)) r))]:=by
 refine bY bE _ Tryz.func120 rfl (by kernel_rfl) (by simp[Tryz.ntmps120]) (by simp) (by first | rfl | simp) (by first | rfl | simp) fun cx hn hk=>?_
 replace hn:cx.n=60:=hn.trans Tryz.ntmps120
 replace hk:cx.k=3:=hk
 unfold f8 at hm
 refine srs hn ?_
 simp -dsimp
 refine srs hn ?_
 simp -dsimp
 refine bb ?_
 obtain⟨l,g13,hm⟩:=bnd hm
 refine bG (lE cx hn hk ah aa ae ab al aj aH own v g13) (by
   try dsimp only
   refine emv 1000001 5004 ?_
   exact zz
 ) fun ee Z O xx=>?_
 unfold eB at xx
 dsimp only at xx
 obtain⟨rfl,xx⟩:=xx
 refine bA ?_
 cases hm
 try refine⟨.inl rfl,?_⟩
 refine ee_bind (by rfl) (by rfl) xx fun Z O hf=>?_
 simp only[Fits,bv,bw,and_true,true_and] at hf
 refine emr 5004 1000003 hk ?_
 exact zz
end Go.Proofs.YtbgliammfkgfoaaGreatDoor
namespace Go.Proofs.YtbgliammfkgfoaaGreatDoor
open Go.AM Go.Proofs
set_option maxRecDepth 100000
attribute [-simp] dD e6 gg Ob.wipe Ob.ren Ob.frz1
def eH (cx:Cx) (aa:Int) (ae:List Point) (ab:List Node) (al:Int) (aj:List (List UInt8×Tree)) (t:Tree) (in_:List Bj) (a:Int) (l1:List Bj) (_x:Node) (_x1:Bj) (y1:(List Int)×Int) (x2:Bj) (_u:Unit) (tt:(List (List Int))) (ee:Exit) (Z:Env) (O:Sto):Prop:=match tt with
 | l3=>ee=.exit 2/\EE cx (bH [(0,vX 1000000),(2,vO 1000003),(4,vX 4),(6,vX 6),(7,vX 7),(19,.u (.one (dR1 t.Nodes))),(20,vI (bf t.Nodes)),(21,vI a)] [(4,.box [dI t.States,dR2 t.Hood,dR1 t.Nodes]),(6,.box [dI 0,.d .nil]),(7,.box [.own 17]),(17,.row 2 97 (List.map Bj.row (l1.set a.toNat (⟨x2.constant,y1.1⟩:Bj)))),(5001,.row 1 26 (List.map (rS 1 (rI .i64)) l3)),(1000000,.box [dI y1.2,.own 5001,dI aa,dR2 ae,dR1 ab,dI al,.map 1000002]),(1000002,mOb .str kS (uA Tree.row) aj),(1000003,.row 2 97 (List.map Bj.row in_))]) Z O
set_option maxHeartbeats 1000000 in
theorem lJ (cx:Cx) (hn:cx.n=77) (_hk:cx.k=4) (aa:Int) (ae:List Point) (ab:List Node) (al:Int) (aj:List (List UInt8×Tree)) (t:Tree) (in_:List Bj) (a:Int) (l1:List Bj) (x:Node) (x1:Bj) (y1:(List Int)×Int) (x2:Bj) (u:Unit) {fu:Nat} {stt:Int×(List (List Int))} {tt:(List (List Int))} (hh:bm (eO aa ae ab al aj t in_ a l1 x x1 y1 x2 u) fu stt=some tt) {Z:Env} {O:Sto}
  (hE:eh (fun stt:Int×(List (List Int))=>match stt with | (a1,_l3)=>[(0,vX 1000000),(2,vO 1000003),(4,vX 4),(6,vX 6),(7,vX 7),(10,.u (.one (.fn 118 [.box 9 0,.box 7 0]))),(11,.u (.one (.d (pnil 1 (List.map (rI .i64) x1.vars))))),(12,.u (.one (dL y1.1))),(19,.u (.one (dR1 t.Nodes))),(20,vI (bf t.Nodes)),(21,vI a),(56,vI (bf x.Next)),(57,vI a1)]) (fun stt:Int×(List (List Int))=>match stt with | (_a1,l3)=>[(4,.box [dI t.States,dR2 t.Hood,dR1 t.Nodes]),(6,.box [dI 0,.d .nil]),(7,.box [.own 17]),(9,.box [dI x.Level,dL x.Next]),(17,.row 2 97 (List.map Bj.row (l1.set a.toNat (⟨x2.constant,y1.1⟩:Bj)))),(5001,.row 1 26 (List.map (rS 1 (rI .i64)) l3)),(1000000,.box [dI y1.2,.own 5001,dI aa,dR2 ae,dR1 ab,dI al,.map 1000002]),(1000002,mOb .str kS (uA Tree.row) aj),(1000003,.row 2 97 (List.map Bj.row in_))]) stt Z O):Swp Tryz.prog cx (.loop (cD [1,1,0,1,0,0,1,1,0,0,1,1,1,1,1,1,1,0,0] (bC Tryz.f88))) Z O (eH cx aa ae ab al aj t in_ a l1 x x1 y1 x2 u tt):=by
 refine bZ hE hh (eH cx aa ae ab al aj t in_ a l1 x x1 y1 x2 u) ?_
 rintro⟨a1,l3⟩ r hm Z O hf
 simp only[Fits,bv,bw,and_true] at hf
 unfold eO at hm
 dsimp only at hm
 refine srs hn ?_
 simp -dsimp [hf]
 refine ba ?_
 rcases bz hm with ⟨c12,hm⟩ | ⟨c12,hm⟩
 ·refine bg (by simp -dsimp) c12 ?_
  refine be (b9 (ba (bb ?_)))
  refine srs hn ?_
  simp -dsimp [hf,c12]
  refine sr1 hn ?_
  obtain⟨u1,h13,hm⟩:=bnd hm
  obtain⟨y2,h14,hm⟩:=bnd hm
  simp -dsimp [hf,k8 h13 1 (rI .i64)]
  refine bp (CtP.pf h14) (dkL hn) ?_
  obtain⟨y3,h15,hm⟩:=bnd hm
  simp -dsimp [hf]
  refine clg (i6 a1 x.Level x.Next (l1.set a.toNat (⟨x2.constant,y1.1⟩:Bj)) y3 h15) [9,7,17] [] (by simp -dsimp [hf]) (dkL hn) ?_
  obtain⟨y4,h16,hm⟩:=bnd hm
  simp -dsimp
  refine clg (mn y1.2 l3 aa ae ab al aj y2 y1.1 (⟨y3.1,y3.2⟩:Bj) y4 h16) [1000000,5001,1000002] [5000] (by simp -dsimp [hf]) (dkL hn) ?_
  simp -dsimp [k8 h13 1 (rI .i64)]
  refine ca ?_
  refine b9 ?_
  refine sr1 hn ?_
  simp -dsimp [hf]
  cases hm
  refine bW ?_
  refine emv 5000 5001 ?_
  exact zz
 ·exact zz
def eR (cx:Cx) (aa:Int) (ae:List Point) (ab:List Node) (al:Int) (aj:List (List UInt8×Tree)) (_t:Tree) (in_:List Bj) (tt:((List Bj)×(List (List Int))×Int)) (ee:Exit) (Z:Env) (O:Sto):Prop:=match tt with
 | (l1,l2,ai)=>ee=.exit 0/\EE cx (bH [(6,vX 6),(7,vX 7)] [(6,.box [dI 0,.d .nil]),(7,.box [.own 17]),(17,.row 2 97 (List.map Bj.row l1)),(5001,.row 1 26 (List.map (rS 1 (rI .i64)) l2)),(1000000,.box [dI ai,.own 5001,dI aa,dR2 ae,dR1 ab,dI al,.map 1000002]),(1000002,mOb .str kS (uA Tree.row) aj),(1000003,.row 2 97 (List.map Bj.row in_))]) Z O
set_option maxHeartbeats 1000000 in
theorem lK (cx:Cx) (hn:cx.n=77) (hk:cx.k=4) (aa:Int) (ae:List Point) (ab:List Node) (al:Int) (aj:List (List UInt8×Tree)) (t:Tree) (in_:List Bj) {fu:Nat} {stt:Int×(List Bj)×(List (List Int))×Int} {tt:((List Bj)×(List (List Int))×Int)} (hh:bm (eP aa ae ab al aj t in_) fu stt=some tt) {Z:Env} {O:Sto}
  (hE:eh (fun stt:Int×(List Bj)×(List (List Int))×Int=>match stt with | (a,_l1,_l2,_ai)=>[(0,vX 1000000),(2,vO 1000003),(4,vX 4),(6,vX 6),(7,vX 7),(19,.u (.one (dR1 t.Nodes))),(20,vI (bf t.Nodes)),(21,vI a)]) (fun stt:Int×(List Bj)×(List (List Int))×Int=>match stt with | (_a,l1,l2,ai)=>[(4,.box [dI t.States,dR2 t.Hood,dR1 t.Nodes]),(6,.box [dI 0,.d .nil]),(7,.box [.own 17]),(17,.row 2 97 (List.map Bj.row l1)),(5001,.row 1 26 (List.map (rS 1 (rI .i64)) l2)),(1000000,.box [dI ai,.own 5001,dI aa,dR2 ae,dR1 ab,dI al,.map 1000002]),(1000002,mOb .str kS (uA Tree.row) aj),(1000003,.row 2 97 (List.map Bj.row in_))]) stt Z O):Swp Tryz.prog cx (.loop (cD [1,1,0,1,0,0] (bC Tryz.f88))) Z O (eR cx aa ae ab al aj t in_ tt):=by
 refine bZ hE hh (eR cx aa ae ab al aj t in_) ?_
 rintro⟨a,l1,l2,ai⟩ r hm Z O hf
 simp only[Fits,bv,bw,and_true] at hf
 unfold eP at hm
 dsimp only at hm
 refine srs hn ?_
 simp -dsimp [hf]
 refine ba ?_
 rcases bz hm with ⟨c2,hm⟩ | ⟨c2,hm⟩
 ·refine bg (by simp -dsimp) c2 ?_
  refine be (b9 (ba (bb ?_)))
  refine srs hn ?_
  obtain⟨x,h3,hm⟩:=bnd hm
  simp -dsimp [hf,c2,h3]
  refine srs hn ?_
  simp -dsimp [hf]
  refine ba ?_
  refine srs hn ?_
  obtain⟨y,h4,hm⟩:=bnd hm
  simp -dsimp
  refine iF (us':=[.u (.one (dL x.Next)),.u (.one (.fn 119 [.ref (Node.row x) 0]))]) (CtP.pf h4) (by simp -dsimp) rfl (dkL hn) ?_
  simp -dsimp
  rcases bz hm with ⟨c5,hm⟩ | ⟨c5,hm⟩
  ·refine bg (by simp -dsimp) c5 ?_
   refine gz bE mixed 3 4 4 0 [[0,1]] [[]] [] none (by rw[hn]; kernel_rfl) cN ?_
   dsimp only [List.take,List.drop,ef,eD,gp,pk,List.cons_append,List.nil_append,List.flatten_cons,List.flatten_nil,cO,cP,List.append_nil]
   obtain⟨y1,h6,hm⟩:=bnd hm
   simp -dsimp [hf,c5]
   refine nj (i6 0 x.Level x.Next l1 y1 h6) [9,7,17] [] rfl rfl rfl (by simp -dsimp) rfl (by simp -dsimp [hf]) (by first | rfl | simp) rfl (dkL hn) rfl rfl (by simp) nofun (by simp) ?_
   obtain⟨x1,h7,hm⟩:=bnd hm
   simp -dsimp [hf,h7,bV h7]
   exact zz
  ·refine bi (by simp -dsimp) c5 ?_
   refine be (b9 ?_)
   refine srs hn ?_
   obtain⟨x1,h8,hm⟩:=bnd hm
   simp -dsimp [hf,c5,h8,bV h8]
   refine srs hn ?_
   obtain⟨y1,h9,hm⟩:=bnd hm
   simp -dsimp [hf]
   refine clg (jk ai l2 aa ae ab al aj y1 h9) [1000000,5001,1000002] [] (by simp -dsimp [hf]) (dkL hn) ?_
   simp -dsimp
   refine srs hn ?_
   obtain⟨x2,h10,hm⟩:=bnd hm
   obtain⟨u,h11,hm⟩:=bnd hm
   simp -dsimp [hf,h10,bV h10]
   refine srs hn ?_
   simp -dsimp
   refine bb ?_
   obtain⟨l3,g17,hm⟩:=bnd hm
   refine bG (lJ cx hn hk aa ae ab al aj t in_ a l1 x x1 y1 x2 u g17) (by
     try dsimp only
     exact EE.here (by simp -dsimp [hf,k8 h11 1 (rI .i64)])
   ) fun ee Z O xx=>?_
   unfold eH at xx
   dsimp only at xx
   obtain⟨rfl,xx⟩:=xx
   refine bA ?_
   refine ca ?_
   refine b9 ?_
   refine see xx fun Z O hf=>?_
   simp only[Fits,bv,bw,and_true] at hf
   refine sr1 hn ?_
   simp -dsimp [hf]
   cases hm
   refine bW ?_
   exact EE.here (by simp -dsimp [hf,k8 h11 1 (rI .i64)])
 ·exact zz
set_option maxHeartbeats 1000000 in
theorem mX (ah:Int) (ag:List (List Int)) (aa:Int) (ae:List Point) (ab:List Node) (al:Int) (aj:List (List UInt8×Tree)) (t:Tree) (in_:List Bj) (r:Int×(List Int)×(List (List Int))×Int) (hm:fq ah ag aa ae ab al aj t in_=some r):GFn Tryz.prog 88 [vX 1000000,.u (.agg [dI t.States,dR2 t.Hood,dR1 t.Nodes]),vO 1000003] [.box [dI ah,.own 1000001,dI aa,dR2 ae,dR1 ab,dI al,.map 1000002],.row 1 26 (List.map (rS 1 (rI .i64)) ag),mOb .str kS (uA Tree.row) aj,.row 2 97 (List.map Bj.row in_)] (.u (.agg [dI r.1,.d (pnil 1 (List.map (rI .i64) r.2.1))])) [some (.box [dI r.2.2.2,.own 1000004,dI aa,dR2 ae,dR1 ab,dI al,.map 1000002]),none,some (mOb .str kS (uA Tree.row) aj),some (.row 2 97 (List.map Bj.row in_)),some (.row 1 26 (List.map (rS 1 (rI .i64)) r.2.2.1))]:=by
 refine bY bE _ Tryz.func88 rfl (by kernel_rfl) (by simp[Tryz.ntmps88]) (by simp) (by first | rfl | simp) (by first | rfl | simp) fun cx hn hk=>?_
 replace hn:cx.n=77:=hn.trans Tryz.ntmps88
 replace hk:cx.k=4:=hk
 unfold fq at hm
 refine srs hn ?_
 simp -dsimp
 refine srs hn ?_
 obtain⟨l,h1,hm⟩:=bnd hm
 obtain⟨⟨h1a,h1b,h1c⟩,rfl⟩:=mC h1
 simp -dsimp [h1a,h1c]
 refine ba ?_
 refine srs hn ?_
 simp -dsimp
 refine bb ?_
 obtain⟨⟨l1,l2,ai⟩,g18,hm⟩:=bnd hm
 refine bG (lK cx hn hk aa ae ab al aj t in_ g18) (by
   try dsimp only
   refine emv 1000001 5001 ?_
   exact zz
 ) fun ee Z O xx=>?_
 unfold eR at xx
 dsimp only at xx
 obtain⟨rfl,xx⟩:=xx
 refine bA ?_
 refine b9 ?_
 refine see xx fun Z O hf=>?_
 simp only[Fits,bv,bw,and_true] at hf
 refine srs hn ?_
 obtain⟨x,h19,hm⟩:=bnd hm
 simp -dsimp [hf,h19,bV h19]
 refine bq ?_
 cases hm
 refine⟨.inr rfl,?_⟩
 refine emr 5001 1000004 hk ?_
 exact zz
theorem jg (ah:Int) (ag:List (List Int)) (aa:Int) (ae:List Point) (ab:List Node) (al:Int) (aj:List (List UInt8×Tree)) (r:Bool) (hm:dZ ah ag aa ae ab al aj=some r):GFn Tryz.prog 55 [vX 1000000] [.box [dI ah,.own 1000001,dI aa,dR2 ae,dR1 ab,dI al,.map 1000002],.row 1 26 (List.map (rS 1 (rI .i64)) ag),mOb .str kS (uA Tree.row) aj] (vT r) [some (.box [dI ah,.own 1000001,dI aa,dR2 ae,dR1 ab,dI al,.map 1000002]),some (.row 1 26 (List.map (rS 1 (rI .i64)) ag)),some (mOb .str kS (uA Tree.row) aj)]:=by
 refine bY bE _ Tryz.func55 rfl (by kernel_rfl) (by simp[Tryz.ntmps55]) (by simp) (by first | rfl | simp) (by first | rfl | simp) fun cx hn hk=>?_
 replace hn:cx.n=18:=hn.trans Tryz.ntmps55
 replace hk:cx.k=3:=hk
 unfold dZ at hm
 refine srs hn ?_
 simp -dsimp
 obtain⟨a,j2,hm⟩:=bnd hm
 refine scE [(2,vT a)] [(1000000,.box [dI ah,.own 1000001,dI aa,dR2 ae,dR1 ab,dI al,.map 1000002]),(1000001,.row 1 26 (List.map (rS 1 (rI .i64)) ag)),(1000002,mOb .str kS (uA Tree.row) aj)] ?_ fun Z O hf=>?_
 ·replace hm:=j2
  clear j2
  exact zz
 ·clear j2
  exact zz
def fJ (cx:Cx) (aa:Int) (ae:List Point) (ab:List Node) (al:Int) (f:Bl) (box:Box) (fixed:Bool) (y x:Int) (l2:List Bj) (l3:List (List Int)) (aw:Int) (mp1:List (List UInt8×Tree)) (tt:(List Bj)) (ee:Exit) (Z:Env) (O:Sto):Prop:=match tt with
 | in_=>ee=.exit 4/\EE cx (bH [(0,vX 1000000),(3,vT fixed),(5,vX 5),(6,vX 6),(8,vX 8),(10,vX 10),(11,vI y),(12,vI x),(13,vO 5000)] [(5,.box [dI f.box.X,dI f.box.Y,dI f.box.W,dI f.box.H,dR4 f.values]),(6,.box [dI box.X,dI box.Y,dI box.W,dI box.H]),(8,.box [dI 0,dI 0,dI 0,dI 0,.d .nil]),(10,.box [dI box.X,dI box.Y,dI box.W,dI box.H,.own 5002]),(5000,.row 2 97 (List.map Bj.row in_)),(5002,.row 2 97 (List.map Bj.row l2)),(5003,.row 1 26 (List.map (rS 1 (rI .i64)) l3)),(1000000,.box [dI aw,.own 5003,dI aa,dR2 ae,dR1 ab,dI al,.map 1000002]),(1000002,mOb .str kS (uA Tree.row) mp1)]) Z O
set_option maxHeartbeats 1000000 in
theorem mZ (cx:Cx) (hn:cx.n=86) (_hk:cx.k=3) (aa:Int) (ae:List Point) (ab:List Node) (al:Int) (f:Bl) (box:Box) (fixed:Bool) (y x:Int) (l2:List Bj) (l3:List (List Int)) (aw:Int) (mp1:List (List UInt8×Tree)) {fu:Nat} {stt:Int×(List Bj)} {tt:(List Bj)} (hh:bm (fI aa ae ab al f box fixed y x l2 l3 aw mp1) fu stt=some tt) {Z:Env} {O:Sto}
  (hE:eh (fun stt:Int×(List Bj)=>match stt with | (a,_in_)=>[(0,vX 1000000),(3,vT fixed),(5,vX 5),(6,vX 6),(8,vX 8),(10,vX 10),(11,vI y),(12,vI x),(13,vO 5000),(45,.u (.one (dR2 ae))),(46,vI (bf ae)),(47,vI a)]) (fun stt:Int×(List Bj)=>match stt with | (_a,in_)=>[(5,.box [dI f.box.X,dI f.box.Y,dI f.box.W,dI f.box.H,dR4 f.values]),(6,.box [dI box.X,dI box.Y,dI box.W,dI box.H]),(8,.box [dI 0,dI 0,dI 0,dI 0,.d .nil]),(10,.box [dI box.X,dI box.Y,dI box.W,dI box.H,.own 5002]),(5000,.row 2 97 (List.map Bj.row in_)),(5002,.row 2 97 (List.map Bj.row l2)),(5003,.row 1 26 (List.map (rS 1 (rI .i64)) l3)),(1000000,.box [dI aw,.own 5003,dI aa,dR2 ae,dR1 ab,dI al,.map 1000002]),(1000002,mOb .str kS (uA Tree.row) mp1)]) stt Z O):Swp Tryz.prog cx (.loop (cD [1,1,0,1,0,0,1,0,0,1,0,0,1,0,0,1,0,1,0,0] (bC Tryz.f52))) Z O (fJ cx aa ae ab al f box fixed y x l2 l3 aw mp1 tt):=by
 refine bZ hE hh (fJ cx aa ae ab al f box fixed y x l2 l3 aw mp1) ?_
 rintro⟨a,in_⟩ r hm Z O hf
 simp only[Fits,bv,bw,and_true] at hf
 unfold fI at hm
 dsimp only at hm
 refine srs hn ?_
 simp -dsimp [hf]
 refine ba ?_
 rcases bz hm with ⟨c3,hm⟩ | ⟨c3,hm⟩
 ·refine bg (by simp -dsimp) c3 ?_
  refine be (b9 (ba (bb ?_)))
  refine srs hn ?_
  obtain⟨x1,h4,hm⟩:=bnd hm
  simp -dsimp [hf,c3,h4]
  refine sr1 hn ?_
  obtain⟨y1,h5,hm⟩:=bnd hm
  simp -dsimp [hf]
  refine bp (CtP.pf h5) (dkL hn) ?_
  obtain⟨l4,h6,hm⟩:=bnd hm
  obtain⟨h6a,h6e⟩:=bL h6
  replace h6e:=h6e.symm
  subst h6e
  try simp only[List.length_cons,List.length_nil,Nat.zero_add] at h6a
  simp -dsimp [hf,h6a]
  refine ca ?_
  refine b9 ?_
  refine sr1 hn ?_
  simp -dsimp [hf]
  cases hm
  refine bW ?_
  refine emv 63 5000 ?_
  exact zz
 ·exact zz
def fH (cx:Cx) (aa:Int) (ae:List Point) (ab:List Node) (al:Int) (f:Bl) (box:Box) (fixed:Bool) (y:Int) (tt:(Int×Int×Int×Int×(List Bj)×Bool×Int×(List (List UInt8×Tree))×(List (List Int))) ⊕ ((List Bj)×(List (List Int))×Int×(List (List UInt8×Tree)))) (ee:Exit) (Z:Env) (O:Sto):Prop:=match tt with
 | .inl r=>ee=.ret/\EE cx (fun Z O=>∃ v,gF tb Z O Tryz.f52.results.toList=some v/\(v.frzL O).wk (.tup [.agg [dI r.1,dI r.2.1,dI r.2.2.1,dI r.2.2.2.1,dR4 r.2.2.2.2.1],.one (.d (.bool r.2.2.2.2.2.1))])/\mo inBase [some (.box [dI r.2.2.2.2.2.2.1,.own 1000003,dI aa,dR2 ae,dR1 ab,dI al,.map 1000002]),none,some (mOb .str kS (uA Tree.row) r.2.2.2.2.2.2.2.1),some (.row 1 26 (List.map (rS 1 (rI .i64)) r.2.2.2.2.2.2.2.2))] O) Z O
 | .inr (l2,l3,aw,mp1)=>ee=.exit 2/\EE cx (bH [(0,vX 1000000),(3,vT fixed),(5,vX 5),(6,vX 6),(8,vX 8),(10,vX 10),(11,vI y)] [(5,.box [dI f.box.X,dI f.box.Y,dI f.box.W,dI f.box.H,dR4 f.values]),(6,.box [dI box.X,dI box.Y,dI box.W,dI box.H]),(8,.box [dI 0,dI 0,dI 0,dI 0,.d .nil]),(10,.box [dI box.X,dI box.Y,dI box.W,dI box.H,.own 5002]),(5002,.row 2 97 (List.map Bj.row l2)),(5003,.row 1 26 (List.map (rS 1 (rI .i64)) l3)),(1000000,.box [dI aw,.own 5003,dI aa,dR2 ae,dR1 ab,dI al,.map 1000002]),(1000002,mOb .str kS (uA Tree.row) mp1)]) Z O
set_option maxHeartbeats 1000000 in
theorem mR (cx:Cx) (hn:cx.n=86) (hk:cx.k=3) (aa:Int) (ae:List Point) (ab:List Node) (al:Int) (f:Bl) (box:Box) (fixed:Bool) (y:Int) {fu:Nat} {stt:Int×(List Bj)×(List (List Int))×Int×(List (List UInt8×Tree))} {tt:(Int×Int×Int×Int×(List Bj)×Bool×Int×(List (List UInt8×Tree))×(List (List Int))) ⊕ ((List Bj)×(List (List Int))×Int×(List (List UInt8×Tree)))} (hh:bm (fA aa ae ab al f box fixed y) fu stt=some tt) {Z:Env} {O:Sto}
  (hE:eh (fun stt:Int×(List Bj)×(List (List Int))×Int×(List (List UInt8×Tree))=>match stt with | (x,_l2,_l3,_aw,_mp1)=>[(0,vX 1000000),(3,vT fixed),(5,vX 5),(6,vX 6),(8,vX 8),(10,vX 10),(11,vI y),(12,vI x)]) (fun stt:Int×(List Bj)×(List (List Int))×Int×(List (List UInt8×Tree))=>match stt with | (_x,l2,l3,aw,mp1)=>[(5,.box [dI f.box.X,dI f.box.Y,dI f.box.W,dI f.box.H,dR4 f.values]),(6,.box [dI box.X,dI box.Y,dI box.W,dI box.H]),(8,.box [dI 0,dI 0,dI 0,dI 0,.d .nil]),(10,.box [dI box.X,dI box.Y,dI box.W,dI box.H,.own 5002]),(5002,.row 2 97 (List.map Bj.row l2)),(5003,.row 1 26 (List.map (rS 1 (rI .i64)) l3)),(1000000,.box [dI aw,.own 5003,dI aa,dR2 ae,dR1 ab,dI al,.map 1000002]),(1000002,mOb .str kS (uA Tree.row) mp1)]) stt Z O):Swp Tryz.prog cx (.loop (cD [1,1,0,1,0,0,1,0,0,1,0,0] (bC Tryz.f52))) Z O (fH cx aa ae ab al f box fixed y tt):=by
 refine bZ hE hh (fH cx aa ae ab al f box fixed y) ?_
 rintro⟨x,l2,l3,aw,mp1⟩ r hm Z O hf
 simp only[Fits,bv,bw,and_true] at hf
 unfold fA at hm
 dsimp only at hm
 refine ba ?_
 refine srs hn ?_
 simp -dsimp [hf]
 rcases bz hm with ⟨c2,hm⟩ | ⟨c2,hm⟩
 ·refine bg (by simp -dsimp) c2 ?_
  refine be (b9 (ba (bb ?_)))
  refine srs hn ?_
  simp -dsimp [c2]
  refine ba ?_
  refine srs hn ?_
  simp -dsimp [hf]
  refine bb ?_
  obtain⟨in_,g7,hm⟩:=bnd hm
  refine bG (mZ cx hn hk aa ae ab al f box fixed y x l2 l3 aw mp1 g7) (by
    try dsimp only
    refine EE.step (Wk.own0 13 5000 2 97 (by simp -dsimp) (by decide)) ?_
    exact zz
  ) fun ee Z O xx=>?_
  unfold fJ at xx
  dsimp only at xx
  obtain⟨rfl,xx⟩:=xx
  refine bA ?_
  refine b9 ?_
  refine see xx fun Z O hf=>?_
  simp only[Fits,bv,bw,and_true] at hf
  refine srs hn ?_
  simp -dsimp [hf]
  obtain⟨⟨aA,aM,aC,mp2⟩,j14,hm⟩:=bnd hm
  refine scE [(0,vX 1000000),(3,vT fixed),(5,vX 5),(6,vX 6),(8,vX 8),(10,vX 10),(11,vI y),(12,vI x),(13,vO 5000),(16,vX 16)] [(5,.box [dI f.box.X,dI f.box.Y,dI f.box.W,dI f.box.H,dR4 f.values]),(6,.box [dI box.X,dI box.Y,dI box.W,dI box.H]),(8,.box [dI 0,dI 0,dI 0,dI 0,.d .nil]),(10,.box [dI box.X,dI box.Y,dI box.W,dI box.H,.own 5002]),(16,.box [dI aA,dR2 aM,dR1 aC]),(5000,.row 2 97 (List.map Bj.row in_)),(5002,.row 2 97 (List.map Bj.row l2)),(5003,.row 1 26 (List.map (rS 1 (rI .i64)) l3)),(1000000,.box [dI aw,.own 5003,dI aa,dR2 ae,dR1 ab,dI al,.map 1000002]),(1000002,mOb .str kS (uA Tree.row) mp2)] ?_ fun Z O hf=>?_
  ·replace hm:=j14
   clear j14
   refine srs hn ?_
   simp -dsimp [hf]
   rcases bz hm with ⟨c8,hm⟩ | ⟨c8,hm⟩
   ·refine bg (by simp -dsimp) c8 ?_
    refine sr1 hn ?_
    obtain⟨y1,h9,hm⟩:=bnd hm
    simp -dsimp [hf,c8]
    refine clg (md aw l3 aa ae ab al mp1 in_ y1 h9) [1000000,5003,1000002,5000] [] (by simp -dsimp [hf]) (dkL hn) ?_
    simp -dsimp [c8]
    cases hm
    exact EE.here (by simp -dsimp [hf,c8])
   ·exact zz
  ·clear j14
   simp only[Fits,bv,bw,and_true] at hf
   refine gz bE mixed 5 6 7 0 [[0,1]] [[5001]] [true] none (by rw[hn]; kernel_rfl) cN ?_
   dsimp only [List.take,List.drop,ef,eD,gp,pk,List.cons_append,List.nil_append,List.flatten_cons,List.flatten_nil,cO,cP,List.append_nil]
   obtain⟨y1,h10,hm⟩:=bnd hm
   simp -dsimp [hf]
   refine nj (mX aw l3 aa ae ab al mp2 (⟨aA,aM,aC⟩:Tree) in_ y1 h10) [1000000,5003,1000002,5000] [5001] rfl rfl rfl (by simp -dsimp) rfl (by simp -dsimp [hf]) (by first | rfl | simp) rfl (dkL hn) rfl rfl (by simp) nofun (by simp) ?_
   obtain⟨l4,h11,hm⟩:=bnd hm
   obtain⟨h11a,h11e⟩:=bL h11
   replace h11e:=h11e.symm
   subst h11e
   try simp only[List.length_cons,List.length_nil,Nat.zero_add] at h11a
   simp -dsimp [hf,h11a]
   refine srs hn ?_
   obtain⟨y2,h12,hm⟩:=bnd hm
   simp -dsimp [hf]
   refine clg (jg y1.2.2.2 y1.2.2.1 aa ae ab al mp2 y2 h12) [1000000,5001,1000002] [] (by simp -dsimp) (dkL hn) ?_
   simp -dsimp
   rcases bz hm with ⟨c13,hm⟩ | ⟨c13,hm⟩
   ·refine bg (by simp -dsimp) c13 ?_
    refine srs hn ?_
    simp -dsimp [hf,c13]
    refine bq (ma (cw ?_))
    cases hm
    refine jG nofun ?_
    unfold fH
    dsimp only
    refine⟨rfl,?_⟩
    refine emr 5001 1000003 hk ?_
    exact zz
   ·refine bi (by simp -dsimp) c13 ?_
    refine be ?_
    refine ca ?_
    refine b9 ?_
    refine sr1 hn ?_
    simp -dsimp [hf,c13]
    cases hm
    refine bW ?_
    refine emv 80 5002 ?_
    refine emv 5001 5003 ?_
    exact zz
 ·exact zz
def dR (cx:Cx) (aa:Int) (ae:List Point) (ab:List Node) (al:Int) (_f:Bl) (box:Box) (_fixed:Bool) (tt:(Int×Int×Int×Int×(List Bj)×Bool×Int×(List (List UInt8×Tree))×(List (List Int))) ⊕ ((List Bj)×(List (List Int))×Int×(List (List UInt8×Tree)))) (ee:Exit) (Z:Env) (O:Sto):Prop:=match tt with
 | .inl r=>ee=.ret/\EE cx (fun Z O=>∃ v,gF tb Z O Tryz.f52.results.toList=some v/\(v.frzL O).wk (.tup [.agg [dI r.1,dI r.2.1,dI r.2.2.1,dI r.2.2.2.1,dR4 r.2.2.2.2.1],.one (.d (.bool r.2.2.2.2.2.1))])/\mo inBase [some (.box [dI r.2.2.2.2.2.2.1,.own 1000003,dI aa,dR2 ae,dR1 ab,dI al,.map 1000002]),none,some (mOb .str kS (uA Tree.row) r.2.2.2.2.2.2.2.1),some (.row 1 26 (List.map (rS 1 (rI .i64)) r.2.2.2.2.2.2.2.2))] O) Z O
 | .inr (l,l1,ai,mp)=>ee=.exit 0/\EE cx (bH [(8,vX 8),(10,vX 10)] [(8,.box [dI 0,dI 0,dI 0,dI 0,.d .nil]),(10,.box [dI box.X,dI box.Y,dI box.W,dI box.H,.own 5002]),(5002,.row 2 97 (List.map Bj.row l)),(5003,.row 1 26 (List.map (rS 1 (rI .i64)) l1)),(1000000,.box [dI ai,.own 5003,dI aa,dR2 ae,dR1 ab,dI al,.map 1000002]),(1000002,mOb .str kS (uA Tree.row) mp)]) Z O
set_option maxHeartbeats 1000000 in
theorem mS (cx:Cx) (hn:cx.n=86) (hk:cx.k=3) (aa:Int) (ae:List Point) (ab:List Node) (al:Int) (f:Bl) (box:Box) (fixed:Bool) {fu:Nat} {stt:Int×(List Bj)×(List (List Int))×Int×(List (List UInt8×Tree))} {tt:(Int×Int×Int×Int×(List Bj)×Bool×Int×(List (List UInt8×Tree))×(List (List Int))) ⊕ ((List Bj)×(List (List Int))×Int×(List (List UInt8×Tree)))} (hh:bm (ft aa ae ab al f box fixed) fu stt=some tt) {Z:Env} {O:Sto}
  (hE:eh (fun stt:Int×(List Bj)×(List (List Int))×Int×(List (List UInt8×Tree))=>match stt with | (y,_l,_l1,_ai,_mp)=>[(0,vX 1000000),(3,vT fixed),(5,vX 5),(6,vX 6),(8,vX 8),(10,vX 10),(11,vI y)]) (fun stt:Int×(List Bj)×(List (List Int))×Int×(List (List UInt8×Tree))=>match stt with | (_y,l,l1,ai,mp)=>[(5,.box [dI f.box.X,dI f.box.Y,dI f.box.W,dI f.box.H,dR4 f.values]),(6,.box [dI box.X,dI box.Y,dI box.W,dI box.H]),(8,.box [dI 0,dI 0,dI 0,dI 0,.d .nil]),(10,.box [dI box.X,dI box.Y,dI box.W,dI box.H,.own 5002]),(5002,.row 2 97 (List.map Bj.row l)),(5003,.row 1 26 (List.map (rS 1 (rI .i64)) l1)),(1000000,.box [dI ai,.own 5003,dI aa,dR2 ae,dR1 ab,dI al,.map 1000002]),(1000002,mOb .str kS (uA Tree.row) mp)]) stt Z O):Swp Tryz.prog cx (.loop (cD [1,1,0,1,0,0] (bC Tryz.f52))) Z O (dR cx aa ae ab al f box fixed tt):=by
 refine bZ hE hh (dR cx aa ae ab al f box fixed) ?_
 rintro⟨y,l,l1,ai,mp⟩ r hm Z O hf
 simp only[Fits,bv,bw,and_true] at hf
 unfold ft at hm
 dsimp only at hm
 refine ba ?_
 refine srs hn ?_
 simp -dsimp [hf]
 rcases bz hm with ⟨c1,hm⟩ | ⟨c1,hm⟩
 ·refine bg (by simp -dsimp) c1 ?_
  refine be (b9 (ba (bb ?_)))
  refine srs hn ?_
  simp -dsimp [hf,c1]
  refine bb ?_
  obtain⟨o_,g15,hm⟩:=bnd hm
  refine bG (mR cx hn hk aa ae ab al f box fixed y g15) (by
    try dsimp only
    exact EE.here (by simp -dsimp [hf])
  ) fun ee Z O xx=>?_
  rcases o_ with r | ⟨l2,l3,aw,mp1⟩
  ·exact zz
  ·exact zz
 ·exact zz
set_option maxHeartbeats 1000000 in
theorem o6 (ah:Int) (ag:List (List Int)) (aa:Int) (ae:List Point) (ab:List Node) (al:Int) (aj:List (List UInt8×Tree)) (f:Bl) (box:Box) (fixed:Bool) (r:Int×Int×Int×Int×(List Bj)×Bool×Int×(List (List UInt8×Tree))×(List (List Int))) (hm:gu ah ag aa ae ab al aj f box fixed=some r):GFn Tryz.prog 52 [vX 1000000,.u (.agg [dI f.box.X,dI f.box.Y,dI f.box.W,dI f.box.H,dR4 f.values]),.u (.agg [dI box.X,dI box.Y,dI box.W,dI box.H]),vT fixed] [.box [dI ah,.own 1000001,dI aa,dR2 ae,dR1 ab,dI al,.map 1000002],.row 1 26 (List.map (rS 1 (rI .i64)) ag),mOb .str kS (uA Tree.row) aj] (.tup [.agg [dI r.1,dI r.2.1,dI r.2.2.1,dI r.2.2.2.1,dR4 r.2.2.2.2.1],.one (.d (.bool r.2.2.2.2.2.1))]) [some (.box [dI r.2.2.2.2.2.2.1,.own 1000003,dI aa,dR2 ae,dR1 ab,dI al,.map 1000002]),none,some (mOb .str kS (uA Tree.row) r.2.2.2.2.2.2.2.1),some (.row 1 26 (List.map (rS 1 (rI .i64)) r.2.2.2.2.2.2.2.2))]:=by
 refine bY bE _ Tryz.func52 rfl (by kernel_rfl) (by simp[Tryz.ntmps52]) (by simp) (by first | rfl | simp) (by first | rfl | simp) fun cx hn hk=>?_
 replace hn:cx.n=86:=hn.trans Tryz.ntmps52
 replace hk:cx.k=3:=hk
 unfold gu at hm
 refine srs hn ?_
 simp -dsimp
 refine srs hn ?_
 simp -dsimp
 refine ba ?_
 refine srs hn ?_
 simp -dsimp
 refine bb ?_
 obtain⟨o_,g16,hm⟩:=bnd hm
 refine bG (mS cx hn hk aa ae ab al f box fixed g16) (by
   try dsimp only
   refine emv 1000001 5003 ?_
   refine EE.step (Wk.own0b 10 4 5002 2 97 [dI box.X,dI box.Y,dI box.W,dI box.H,.d .nil] (by simp -dsimp) (by rfl) (by decide) (by decide)) ?_
   exact zz
 ) fun ee Z O xx=>?_
 rcases o_ with r | ⟨l,l1,ai,mp⟩
 ·unfold dR at xx
  dsimp only at xx
  obtain⟨rfl,xx⟩:=xx
  refine ma (cw ?_)
  cases hm
  refine⟨.inr rfl,?_⟩
  first | exact xx | exact xx.mono fun Z O h=>by simpa -dsimp using h
 ·unfold dR at xx
  dsimp only at xx
  obtain⟨rfl,xx⟩:=xx
  refine bA ?_
  refine b9 ?_
  refine see xx fun Z O hf=>?_
  simp only[Fits,bv,bw,and_true] at hf
  refine Swp.pre (Wk.frz 5002 2 97 (List.map Bj.row l) (by simp -dsimp [hf])) ?_
  refine srs hn ?_
  simp -dsimp [hf]
  refine bq ?_
  cases hm
  refine⟨.inr rfl,?_⟩
  refine emr 5003 1000003 hk ?_
  exact zz
def fZ (cx:Cx) (ah aa:Int) (ae:List Point) (ab:List Node) (al:Int) (aj:List (List UInt8×Tree)) (_vars:List Int) (_cv:Int) (tt:(List (List Int))) (ee:Exit) (Z:Env) (O:Sto):Prop:=match tt with
 | l=>ee=.exit 0/\EE cx (bH [] [(5001,.row 1 26 (List.map (rS 1 (rI .i64)) l)),(1000000,.box [dI ah,.own 5001,dI aa,dR2 ae,dR1 ab,dI al,.map 1000002]),(1000002,mOb .str kS (uA Tree.row) aj)]) Z O
theorem nK (cx:Cx) (hn:cx.n=27) (_hk:cx.k=3) (ah aa:Int) (ae:List Point) (ab:List Node) (al:Int) (aj:List (List UInt8×Tree)) (vars:List Int) (cv:Int) {fu:Nat} {stt:Int×(List (List Int))} {tt:(List (List Int))} (hh:bm (fT ah aa ae ab al aj vars cv) fu stt=some tt) {Z:Env} {O:Sto}
  (hE:eh (fun stt:Int×(List (List Int))=>match stt with | (a,_l)=>[(0,vX 1000000),(2,vI cv),(8,.u (.one (dL vars))),(9,vI (bf vars)),(10,vI a)]) (fun stt:Int×(List (List Int))=>match stt with | (_a,l)=>[(5001,.row 1 26 (List.map (rS 1 (rI .i64)) l)),(1000000,.box [dI ah,.own 5001,dI aa,dR2 ae,dR1 ab,dI al,.map 1000002]),(1000002,mOb .str kS (uA Tree.row) aj)]) stt Z O):Swp Tryz.prog cx (.loop (cD [1,0,0] (bC Tryz.f53))) Z O (fZ cx ah aa ae ab al aj vars cv tt):=by
 refine bZ hE hh (fZ cx ah aa ae ab al aj vars cv) ?_
 rintro⟨a,l⟩ r hm Z O hf
 simp only[Fits,bv,bw,and_true] at hf
 unfold fT at hm
 dsimp only at hm
 refine srs hn ?_
 simp -dsimp [hf]
 refine ba ?_
 rcases bz hm with ⟨c1,hm⟩ | ⟨c1,hm⟩
 ·refine bg (by simp -dsimp) c1 ?_
  refine be (b9 (ba (bb ?_)))
  refine srs hn ?_
  obtain⟨x,h2,hm⟩:=bnd hm
  simp -dsimp [hf,c1,h2]
  obtain⟨v,j6,hm⟩:=bnd hm
  refine scE [(0,vX 1000000),(2,vI cv),(7,vI v),(8,.u (.one (dL vars))),(9,vI (bf vars)),(10,vI a)] [(5001,.row 1 26 (List.map (rS 1 (rI .i64)) l)),(1000000,.box [dI ah,.own 5001,dI aa,dR2 ae,dR1 ab,dI al,.map 1000002]),(1000002,mOb .str kS (uA Tree.row) aj)] ?_ fun Z O hf=>?_
  ·replace hm:=j6
   clear j6
   exact zz
  ·clear j6
   simp only[Fits,bv,bw,and_true] at hf
   refine sr1 hn ?_
   obtain⟨y,h5,hm⟩:=bnd hm
   simp -dsimp [hf]
   refine clg (iU ah l aa ae ab al aj [v] y h5) [1000000,5001,1000002] [5000] (by simp -dsimp [hf]) (dkL hn) ?_
   simp -dsimp
   refine ca ?_
   refine b9 ?_
   refine sr1 hn ?_
   simp -dsimp [hf]
   cases hm
   refine bW ?_
   refine emv 5000 5001 ?_
   exact zz
 ·exact zz
theorem o8 (ah:Int) (ag:List (List Int)) (aa:Int) (ae:List Point) (ab:List Node) (al:Int) (aj:List (List UInt8×Tree)) (vars:List Int) (cv:Int) (r:List (List Int)) (hm:gL ah ag aa ae ab al aj vars cv=some r):GFn Tryz.prog 53 [vX 1000000,.u (.one (dL vars)),vI cv] [.box [dI ah,.own 1000001,dI aa,dR2 ae,dR1 ab,dI al,.map 1000002],.row 1 26 (List.map (rS 1 (rI .i64)) ag),mOb .str kS (uA Tree.row) aj] (.tup []) [some (.box [dI ah,.own 1000003,dI aa,dR2 ae,dR1 ab,dI al,.map 1000002]),none,some (mOb .str kS (uA Tree.row) aj),some (.row 1 26 (List.map (rS 1 (rI .i64)) r))]:=by
 refine bY bE _ Tryz.func53 rfl (by kernel_rfl) (by simp[Tryz.ntmps53]) (by simp) (by first | rfl | simp) (by first | rfl | simp) fun cx hn hk=>?_
 replace hn:cx.n=27:=hn.trans Tryz.ntmps53
 replace hk:cx.k=3:=hk
 unfold gL at hm
 refine srs hn ?_
 simp -dsimp
 refine bb ?_
 obtain⟨l,g7,hm⟩:=bnd hm
 refine bG (nK cx hn hk ah aa ae ab al aj vars cv g7) (by
   try dsimp only
   refine emv 1000001 5001 ?_
   exact zz
 ) fun ee Z O xx=>?_
 unfold fZ at xx
 dsimp only at xx
 obtain⟨rfl,xx⟩:=xx
 refine bA ?_
 cases hm
 try refine⟨.inl rfl,?_⟩
 refine ee_bind (by rfl) (by rfl) xx fun Z O hf=>?_
 simp only[Fits,bv,bw,and_true,true_and] at hf
 refine emr 5001 1000003 hk ?_
 exact zz
theorem lT (ah:Int) (ag:List (List Int)) (aa:Int) (ae:List Point) (ab:List Node) (al:Int) (aj:List (List UInt8×Tree)) (r:Unit) (hm:eU ah ag aa ae ab al aj=some r):GFn Tryz.prog 54 [vX 1000000,.u (.one (.d .nil))] [.box [dI ah,.own 1000001,dI aa,dR2 ae,dR1 ab,dI al,.map 1000002],.row 1 26 (List.map (rS 1 (rI .i64)) ag),mOb .str kS (uA Tree.row) aj] (.tup []) [some (.box [dI ah,.own 1000003,dI aa,dR2 ae,dR1 ab,dI al,.map 1000002]),none,some (mOb .str kS (uA Tree.row) aj),some (.row 1 26 (List.map (rS 1 (rI .i64)) (ag++[[]])))]:=by
 refine bY bE _ Tryz.func54 rfl (by kernel_rfl) (by simp[Tryz.ntmps54]) (by simp) (by first | rfl | simp) (by first | rfl | simp) fun cx hn hk=>?_
 replace hn:cx.n=16:=hn.trans Tryz.ntmps54
 replace hk:cx.k=3:=hk
 unfold eU at hm
 refine sr1 hn ?_
 obtain⟨l,h1,hm⟩:=bnd hm
 obtain⟨h1a,h1e⟩:=bL h1
 replace h1e:=h1e.symm
 subst h1e
 try simp only[List.length_cons,List.length_nil,Nat.zero_add] at h1a
 simp -dsimp [h1a]
 cases hm
 try refine⟨.inl rfl,?_⟩
 refine emr 12 1000003 hk ?_
 exact zz
end Go.Proofs.YtbgliammfkgfoaaGreatDoor
