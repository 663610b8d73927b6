/- That the code does what the functions say (made by cc.py). -/
import Derived.Test.YtbgliammfkgfoaaGreatDoorWa7
namespace Go.Proofs.YtbgliammfkgfoaaGreatDoor
open Go.AM Go.Proofs
set_option maxRecDepth 100000
attribute [-simp] dD e6 gg Ob.wipe Ob.ren Ob.frz1
section
attribute [-simp] List.map_set List.set_set
def dh (cx:Cx) (_ax:List (Int×List Int)) (au:Int) (ak:List Bn) (ar:Bool) (x:Int) (_u:Unit) (tt:(Bool×(List Int)×(List (List Int))×(List (Int×List Int))×(List Int)) ⊕ (Nat×(List Int)×(List Int)×(List (List Int))×(List (Int×List Int))×(List Int))) (ee:Exit) (Z:Env) (O:Sto):Prop:=match tt with
 | .inl r=>ee=.ret/\EE cx (fun Z O=>∃ v,gF tb Z O Tryz.f122.results.toList=some v/\(v.frzL O).wk (vT r.1)/\mo inBase [some (.box [.own 1000001,.map 1000002,.own 1000003,.own 1000006,dI au,.own 1000005,.d (.bool ar)]),some (.nest (.row 26) 3 1 (du (rI .i64) r.2.2.1)),some (bX (.int .i64) kI (rI .i64) 3 1 ([]:List (Int×Nat)) r.2.2.2.1),some (.row 1 137 (List.map (rI .i8) r.2.2.2.2)),none,some (.row 3 142 (List.map Bn.row ak)),some (.row 1 3 (List.map (rI .i64) r.2.1))] O) Z O
 | .inr (n,l,l1,l2,mp,l3)=>ee=.exit 0/\EE cx (bH [(1,vI x),(2,vX 2),(6,.u (.one (.sub 16 1 0 n)))] [(2,.box [.box 1000000 0]),(16,.row 1 3 (List.map (rI .i64) l)),(5002,.row 1 3 (List.map (rI .i64) l1)),(1000000,.box [.own 1000001,.map 1000002,.own 1000003,.own 5002,dI au,.own 1000005,.d (.bool ar)]),(1000001,.nest (.row 26) 3 1 (du (rI .i64) l2)),(1000002,bX (.int .i64) kI (rI .i64) 3 1 [(x,16)] mp),(1000003,.row 1 137 (List.map (rI .i8) l3)),(1000005,.row 3 142 (List.map Bn.row ak))]) Z O
set_option maxHeartbeats 1000000 in
theorem nA (cx:Cx) (hn:cx.n=129) (hk:cx.k=6) (ax:List (Int×List Int)) (au:Int) (ak:List Bn) (ar:Bool) (x:Int) (u:Unit) {fu:Nat} {stt:Nat×Int×(List Int)×(List Int)×(List (List Int))×(List (Int×List Int))×(List Int)} {tt:(Bool×(List Int)×(List (List Int))×(List (Int×List Int))×(List Int)) ⊕ (Nat×(List Int)×(List Int)×(List (List Int))×(List (Int×List Int))×(List Int))} (hh:bm (fU ax au ak ar x u) fu stt=some tt) {Z:Env} {O:Sto}
  (hE:eh (fun stt:Nat×Int×(List Int)×(List Int)×(List (List Int))×(List (Int×List Int))×(List Int)=>match stt with | (n,a,_old,_l2,_l,_mp,_l1)=>[(1,vI x),(2,vX 2),(5,vO 16),(6,.u (.one (.sub 16 1 0 n))),(19,vO 16),(20,vI (bf (fe ax x []))),(21,vI a)]) (fun stt:Nat×Int×(List Int)×(List Int)×(List (List Int))×(List (Int×List Int))×(List Int)=>match stt with | (_n,_a,old,l2,l,mp,l1)=>[(2,.box [.box 1000000 0]),(16,.row 1 3 (List.map (rI .i64) old)),(5002,.row 1 3 (List.map (rI .i64) l2)),(1000000,.box [.own 1000001,.map 1000002,.own 1000003,.own 5002,dI au,.own 1000005,.d (.bool ar)]),(1000001,.nest (.row 26) 3 1 (du (rI .i64) l)),(1000002,bX (.int .i64) kI (rI .i64) 3 1 [(x,16)] mp),(1000003,.row 1 137 (List.map (rI .i8) l1)),(1000005,.row 3 142 (List.map Bn.row ak))]) stt Z O):Swp Tryz.prog cx (.loop (cD [1,1,1,0,1,0,0] (bC Tryz.f122))) Z O (dh cx ax au ak ar x u tt):=by
 refine bZ hE hh (dh cx ax au ak ar x u) ?_
 rintro⟨n,a,old,l2,l,mp,l1⟩ r hm Z O hf
 simp only[Fits,bv,bw,and_true] at hf
 unfold fU at hm
 dsimp only at hm
 refine srs hn ?_
 simp -dsimp [hf]
 refine ba ?_
 rcases bz hm with ⟨c3,hm⟩ | ⟨c3,hm⟩
 ·refine bg (by simp -dsimp) c3 ?_
  refine be (b9 (ba (bb ?_)))
  refine srs hn ?_
  obtain⟨x1,h4,hm⟩:=bnd hm
  simp -dsimp [hf,c3,h4,bV h4]
  obtain⟨x2,h5,hm⟩:=bnd hm
  refine Swp.pre (Wk.focN 1000001 32 (.row 26) 3 1 (rI .i64) l x2 (by simp -dsimp [hf]) h5 (by decide) (by decide)) ?_
  refine srs hn ?_
  simp -dsimp [hf,nels_idxs (f:=(rI .i64)) h5]
  obtain⟨cv,j32,hm⟩:=bnd hm
  refine scE [(1,vI x),(2,vX 2),(5,vO 16),(6,.u (.one (.sub 16 1 0 n))),(7,vI a),(8,vI x1),(9,vO 32),(19,vO 16),(20,vI (bf (fe ax x []))),(21,vI a)] [(2,.box [.box 1000000 0]),(16,.row 1 3 (List.map (rI .i64) old)),(32,.row 1 3 (List.map (rI .i64) cv)),(5002,.row 1 3 (List.map (rI .i64) l2)),(1000000,.box [.own 1000001,.map 1000002,.own 1000003,.own 5002,dI au,.own 1000005,.d (.bool ar)]),(1000001,.nest (.row 26) 3 1 ((du (rI .i64) l).set x1.toNat (.own 32))),(1000002,bX (.int .i64) kI (rI .i64) 3 1 [(x,16)] mp),(1000003,.row 1 137 (List.map (rI .i8) l1)),(1000005,.row 3 142 (List.map Bn.row ak))] ?_ fun Z O hf=>?_
  ·replace hm:=j32
   clear j32
   refine srs hn ?_
   obtain⟨x3,h6,hm⟩:=bnd hm
   simp -dsimp [hf,h6,lx 0 h6]
   rcases bz hm with ⟨c7,hm⟩ | ⟨c7,hm⟩
   ·refine bg (by simp -dsimp) c7 ?_
    refine oT bE mixed 9 10 10 0 [[1]] [[]] [] none (by rw[hn]; kernel_rfl) cN ?_
    dsimp only [List.take,List.drop,ef,eD,gp,pk,List.cons_append,List.nil_append,List.flatten_cons,List.flatten_nil,cO,cP,List.append_nil]
    obtain⟨x4,h8,hm⟩:=bnd hm
    obtain⟨x5,h9,hm⟩:=bnd hm
    simp -dsimp [h6,lx 0 h6,c7,h8,lx 1 h8,mJ .i64 x2 0 x4,h9,lx 1 h9,mJ .i64 (x2.set 0 x4) 1 x3]
    cases hm
    exact EE.here (by simp -dsimp [hf])
   ·exact zz
  ·clear j32
   simp only[Fits,bv,bw,and_true] at hf
   refine ba ?_
   refine ly bE mixed (by rw[hn]; kernel_rfl) ?_
   obtain⟨x3,h10,hm⟩:=bnd hm
   obtain⟨y,h11,hm⟩:=bnd hm
   simp -dsimp [hf,h10,lx 0 h10]
   refine qcallL_brw (us':=[.u (.one (.ref [.any,.any,(.sl 1 (List.map (rI .i8) l1)),(.sl 1 (List.map (rI .i64) l2)),(.int .i64 au),(.sl 3 (List.map Bn.row ak)),(.bool ar)] 0)),vI x3]) (CtP.pf h11) (by simp -dsimp [hf]) rfl ?_
   simp -dsimp
   rcases bz hm with ⟨c12,hm⟩ | ⟨c12,hm⟩
   ·refine bg (by simp -dsimp) c12 ?_
    refine srs hn ?_
    obtain⟨u2,h13,hm⟩:=bnd hm
    simp -dsimp [hf,c12,lenK_ok h13,(@id (preRow (List.map (rI .i64) old) n [[(.int .i64 x1)]]=List.map (rI .i64) (kj old n [x1])) (preRow_map (rI .i64) old n [x1]))]
    refine gR ?_
    refine cw ?_
    refine bA ?_
    refine b9 ?_
    refine sr1 hn ?_
    simp -dsimp [hf]
    cases hm
    refine bW ?_
    refine EE.step (Wk.unfN 1000001 32 x1.toNat (.row 26) 3 1 (rI .i64) l cv (by simp -dsimp [hf]) (idx_lt2 h5) (by simp -dsimp [hf]) (by decide)) ?_
    exact zz
   ·refine bi (by simp -dsimp) c12 ?_
    refine be (b9 ?_)
    refine srs hn ?_
    obtain⟨u2,h14,hm⟩:=bnd hm
    obtain⟨y1,h15,hm⟩:=bnd hm
    simp -dsimp [hf,c12,kQ h14]
    refine iF (us':=[.u (.one (dL (subL cv 2 cv.length))),.u (.one (.fn 146 [.ref [.ref [.any,.any,(.sl 1 (List.map (rI .i8) l1)),(.sl 1 (List.map (rI .i64) l2)),(.int .i64 au),(.sl 3 (List.map Bn.row ak)),(.bool ar)] 0] 0]))]) (CtP.pf h15) (by simp -dsimp [hf]) rfl (dkL hn) ?_
    simp -dsimp
    refine ba ?_
    refine srs hn ?_
    simp -dsimp
    rcases bz hm with ⟨c16,hm⟩ | ⟨c16,hm⟩
    ·refine bg (by simp -dsimp) c16 ?_
     refine gz bE mixed 13 14 14 0 [[1,2,3]] [[]] [] none (by rw[hn]; kernel_rfl) cN ?_
     dsimp only [List.take,List.drop,ef,eD,gp,pk,List.cons_append,List.nil_append,List.flatten_cons,List.flatten_nil,cO,cP,List.append_nil]
     obtain⟨x4,h17,hm⟩:=bnd hm
     obtain⟨x5,h18,hm⟩:=bnd hm
     obtain⟨x6,h19,hm⟩:=bnd hm
     simp -dsimp [hf,c16,h17,bV h17,h18,lx 1 h18,mJ .i64 cv 1 x4,h19,bV h19,mJ .i64 (cv.set 1 x4) (bu .i64 y1 2).toNat x5]
     obtain⟨x7,h20,hm⟩:=bnd hm
     obtain⟨u3,h21,hm⟩:=bnd hm
     obtain⟨u4,h22,hm⟩:=bnd hm
     obtain⟨l3,h23,hm⟩:=bnd hm
     obtain⟨h23a,h23e⟩:=bL h23
     replace h23e:=h23e.symm
     subst h23e
     try simp only[List.length_cons,List.length_nil,Nat.zero_add] at h23a
     refine Swp.pre (Wk.focM (kk:=(.int .i64)) (kf:=kI) (f:=(rI .i64)) (ie:=3) (sz:=1) (H:=[(x,16)]) (m:=mp) 1000002 92 x7 (by simp -dsimp [hf]) (by simp[kI,Key.fits,jq h21 (.head _)]) (by simp[hlk_ne,ckB_ne h22]) (by simp) (by decide) (by decide)) ?_
     refine gz bE mixed 17 18 18 0 [[0,1,2,3,4,5,6]] [[95]] [] none (by rw[hn]; kernel_rfl) cN ?_
     dsimp only [List.take,List.drop,ef,eD,gp,pk,List.cons_append,List.nil_append,List.flatten_cons,List.flatten_nil,cO,cP,List.append_nil]
     simp -dsimp [hf,h20,lx 1 h20,jq h21 (.head _),(@id (lknD tb (.map 3 26) (.int .i64 x7) (some (bX (.int .i64) kI (rI .i64) 3 1 [(x7,92),(x,16)] (iQ mp x7)))=some (vO 92)) (lknD_mN (kf:=kI) 3 26 x7 92 (jF x7) (hlk_hd _ _) rfl (jq h21 (.head _)) rfl rfl)),h23a,(@id (∀ (Z:Env) (O:Sto) (u:U),msO tb Z O 1000002 3 (.int .i64 x7) u (some (bX (.int .i64) kI (rI .i64) 3 1 [(x7,92),(x,16)] (iQ mp x7)))=msN (tb.key 3=some (.int .i64)/\Key.fits (.int .i64) (.int .i64 x7)=true/\cH (iQ mp x7) x7=true) (neC u) (.int .i64) kI (rI .i64) 3 1 [(x7,92),(x,16)] (iQ mp x7) x7 Z O 1000002) (fun Z O u=>mN_ms (tb:=tb) (Z:=Z) (O:=O) (kf:=kI) 1000002 3 x7 u))]
     refine Swp.pre (Wk.setM (kk:=(.int .i64)) (kf:=kI) (f:=(rI .i64)) (ie:=3) (sz:=1) (H:=[(x,16)]) (m:=(iQ mp x7)) 1000002 92 95 x7 (by simp -dsimp) (by simp)) ?_
     refine Swp.pre (Wk.unfM (kk:=(.int .i64)) (kf:=kI) (f:=(rI .i64)) (ie:=3) (sz:=1) (H:=[(x,16)]) (m:=(iQ mp x7)) 1000002 95 x7 ((fe mp x7 [])++[x1]) (by simp) (by simp) (by simp[hlk_ne,ckB_ne h22]) (by simp) (by simp -dsimp) (by decide)) ?_
     refine gR ?_
     refine cw ?_
     refine bA ?_
     refine b9 ?_
     refine sr1 hn ?_
     simp -dsimp [hf]
     cases hm
     refine bW ?_
     refine EE.step (Wk.unfN 1000001 32 x1.toNat (.row 26) 3 1 (rI .i64) l ((cv.set 1 x4).set (bu .i64 y1 2).toNat x5) (by simp -dsimp [hf]) (idx_lt2 h5) (by simp -dsimp) (by decide)) ?_
     exact zz
    ·refine bi (by simp -dsimp) c16 ?_
     refine be (b9 ?_)
     refine srs hn ?_
     obtain⟨u3,h24,hm⟩:=bnd hm
     simp -dsimp [hf,c16,lenK_ok h24,(@id (preRow (List.map (rI .i64) old) n [[(.int .i64 x1)]]=List.map (rI .i64) (kj old n [x1])) (preRow_map (rI .i64) old n [x1]))]
     refine ba ?_
     refine ly bE mixed (by rw[hn]; kernel_rfl) ?_
     simp -dsimp [hf,h10,lx 0 h10]
     refine qcallL_brw (us':=[.u (.one (.ref [.any,.any,(.sl 1 (List.map (rI .i8) l1)),(.sl 1 (List.map (rI .i64) l2)),(.int .i64 au),(.sl 3 (List.map Bn.row ak)),(.bool ar)] 0)),vI x3]) (CtP.pf h11) (by simp -dsimp [hf]) rfl ?_
     simp -dsimp
     rcases bz hm with ⟨c25,hm⟩ | ⟨c25,hm⟩
     ·refine bg (b:=(eqB y (-1))) (by simp -dsimp) c25 ?_
      refine gz bE mixed 10 11 11 0 [[0,1,2,3,4]] [[]] [] none (by rw[hn]; kernel_rfl) cN ?_
      dsimp only [List.take,List.drop,ef,eD,gp,pk,List.cons_append,List.nil_append,List.flatten_cons,List.flatten_nil,cO,cP,List.append_nil]
      obtain⟨u4,h26,hm⟩:=bnd hm
      obtain⟨u5,h27,hm⟩:=bnd hm
      obtain⟨u6,h28,hm⟩:=bnd hm
      obtain⟨u7,h29,hm⟩:=bnd hm
      obtain⟨u8,h30,hm⟩:=bnd hm
      simp -dsimp [hf,c25,kQ h26,lenK_ok h27,jq h28 (.head _),ckB_ok h29,(@id (∀ (Z:Env) (O:Sto) (u:U),msO tb Z O 1000002 3 (.int .i64 x) u (some (bX (.int .i64) kI (rI .i64) 3 1 [(x,16)] mp))=msN (tb.key 3=some (.int .i64)/\Key.fits (.int .i64) (.int .i64 x)=true/\cH mp x=true) (neC u) (.int .i64) kI (rI .i64) 3 1 [(x,16)] mp x Z O 1000002) (fun Z O u=>mN_ms (tb:=tb) (Z:=Z) (O:=O) (kf:=kI) 1000002 3 x u))]
      refine Swp.pre (Wk.unfMs (kk:=(.int .i64)) (kf:=kI) (f:=(rI .i64)) (ie:=3) (sz:=1) (H:=([]:List (Int×Nat))) (m:=mp) 1000002 16 16 5000 1 ((n+1)+(subL (kj old n [x1]) ((bu .i64 a 1).toNat) ((kj old n [x1]).length)).length) x (kj (kj old n [x1]) (n+1) (subL (kj old n [x1]) ((bu .i64 a 1).toNat) ((kj old n [x1]).length))) (by simp -dsimp) (by simp[ckB_ok h29]) (by simp) (by simp) (by simp -dsimp) (by simp[lenK_ok h30]) (by decide) (by decide) (by decide)) ?_
      refine srs hn ?_
      simp -dsimp
      refine bq (cw (ma (cw ?_)))
      cases hm
      refine jG nofun ?_
      unfold dh
      dsimp only
      refine⟨rfl,?_⟩
      refine EE.step (Wk.unfN 1000001 32 x1.toNat (.row 26) 3 1 (rI .i64) l cv (by simp -dsimp [hf]) (idx_lt2 h5) (by simp -dsimp [hf]) (by decide)) ?_
      refine emr 5002 1000006 hk ?_
      exact zz
     ·refine bi (b:=(eqB y (-1))) (by simp -dsimp) c25 ?_
      refine be (b9 ?_)
      refine sw_drN bE mixed 4 (by rw[hn]; kernel_rfl) ?_
      dsimp only [List.take,List.drop]
      obtain⟨y2,h31,hm⟩:=bnd hm
      simp -dsimp [hf,h10,lx 0 h10,c25]
      refine kP (us:=[vX 1000000,vI x3]) (v:=.tup []) (ts:=[.h (.own 1000001),.h (.map 1000002),.c (.own 1000001),.c (.own 1000002),.c (dI au),.h (.own 1000005),.c (.d (.bool ar))]) (ots:=[.h (.own 1000001),.h (.map 1000002),.c (.own 1000001),.c (.own 1000003),.c (dI au),.h (.own 1000005),.c (.d (.bool ar))]) (ins:=[.row 1 137 (List.map (rI .i8) l1),.row 1 3 (List.map (rI .i64) l2)]) (outs:=[some (.row 1 137 (List.map (rI .i8) y2)),none,some (.row 1 3 (List.map (rI .i64) (l2++[x3])))]) (fun xs hx=>by obtain⟨xo0,xo1,xo2,rfl⟩:=len3 hx; exact (iA xo0 xo1 xo2 l1 l2 au ar x3 y2 h31)) 1000000 [1000003,5002] [5001] rfl rfl rfl (by simp -dsimp) rfl (by simp -dsimp [hf,hrl]) (by simp -dsimp [hf]) rfl rfl rfl rfl rfl (dkL hn) ?_
      simp -dsimp
      refine ca ?_
      refine b9 ?_
      refine sr1 hn ?_
      simp -dsimp [hf]
      cases hm
      refine bW ?_
      refine EE.step (Wk.unfN 1000001 32 x1.toNat (.row 26) 3 1 (rI .i64) l cv (by simp -dsimp [hf]) (idx_lt2 h5) (by simp -dsimp [hf]) (by decide)) ?_
      refine emv 5001 5002 ?_
      exact zz
 ·exact zz
set_option maxHeartbeats 1000000 in
theorem om (aI:List (List Int)) (ax:List (Int×List Int)) (am av:List Int) (au:Int) (ak:List Bn) (ar:Bool) (x:Int) (r:Bool×(List Int)×(List (List Int))×(List (Int×List Int))×(List Int)) (hm:gK aI ax am av au ak ar x=some r):GFn Tryz.prog 122 [vX 1000000,vI x] [.box [.own 1000001,.map 1000002,.own 1000003,.own 1000004,dI au,.own 1000005,.d (.bool ar)],.nest (.row 26) 3 1 (du (rI .i64) aI),bX (.int .i64) kI (rI .i64) 3 1 ([]:List (Int×Nat)) ax,.row 1 137 (List.map (rI .i8) am),.row 1 3 (List.map (rI .i64) av),.row 3 142 (List.map Bn.row ak)] (vT r.1) [some (.box [.own 1000001,.map 1000002,.own 1000003,.own 1000006,dI au,.own 1000005,.d (.bool ar)]),some (.nest (.row 26) 3 1 (du (rI .i64) r.2.2.1)),some (bX (.int .i64) kI (rI .i64) 3 1 ([]:List (Int×Nat)) r.2.2.2.1),some (.row 1 137 (List.map (rI .i8) r.2.2.2.2)),none,some (.row 3 142 (List.map Bn.row ak)),some (.row 1 3 (List.map (rI .i64) r.2.1))]:=by
 refine bY bE _ Tryz.func122 rfl (by kernel_rfl) (by simp[Tryz.ntmps122]) (by simp) (by first | rfl | simp) (by first | rfl | simp) fun cx hn hk=>?_
 replace hn:cx.n=129:=hn.trans Tryz.ntmps122
 replace hk:cx.k=6:=hk
 unfold gK at hm
 refine srs hn ?_
 simp -dsimp
 obtain⟨u,h1,hm⟩:=bnd hm
 refine Swp.pre (Wk.focM (kk:=(.int .i64)) (kf:=kI) (f:=(rI .i64)) (ie:=3) (sz:=1) (H:=([]:List (Int×Nat))) (m:=ax) 1000002 16 x (by simp -dsimp) (by simp[kI,Key.fits,jq h1 (.head _)]) (by simp) (by simp) (by decide) (by decide)) ?_
 refine srs hn ?_
 simp -dsimp [(@id (lknD tb (.map 3 26) (.int .i64 x) (some (bX (.int .i64) kI (rI .i64) 3 1 [(x,16)] (iQ ax x)))=some (vO 16)) (lknD_mN (kf:=kI) 3 26 x 16 (jF x) (hlk_hd _ _) rfl (jq h1 (.head _)) rfl rfl))]
 refine srs hn ?_
 obtain⟨u1,h2,hm⟩:=bnd hm
 simp -dsimp [kQ h2]
 refine ba ?_
 refine srs hn ?_
 simp -dsimp
 refine bb ?_
 obtain⟨o_,g33,hm⟩:=bnd hm
 refine bG (nA cx hn hk ax au ak ar x u g33) (by
   try dsimp only
   refine emv 1000004 5002 ?_
   exact zz
 ) fun ee Z O xx=>?_
 rcases o_ with r | ⟨n,l,l1,l2,mp,l3⟩
 ·unfold dh at xx
  dsimp only at xx
  obtain⟨rfl,xx⟩:=xx
  refine ma (cw ?_)
  cases hm
  refine⟨.inr rfl,?_⟩
  first | exact xx | exact xx.mono fun Z O h=>by simpa -dsimp [jq h1 (.head _),(@id (lknD tb (.map 3 26) (.int .i64 x) (some (bX (.int .i64) kI (rI .i64) 3 1 [(x,16)] (iQ ax x)))=some (vO 16)) (lknD_mN (kf:=kI) 3 26 x 16 (jF x) (hlk_hd _ _) rfl (jq h1 (.head _)) rfl rfl)),kQ h2] using h
 ·unfold dh at xx
  dsimp only at xx
  obtain⟨rfl,xx⟩:=xx
  refine bA ?_
  refine b9 ?_
  refine see xx fun Z O hf=>?_
  simp only[Fits,bv,bw,and_true] at hf
  refine srs hn ?_
  obtain⟨u2,h34,hm⟩:=bnd hm
  obtain⟨u3,h35,hm⟩:=bnd hm
  simp -dsimp [hf,jq h1 (.head _),ckB_ok h34,(@id (∀ (Z:Env) (O:Sto) (u:U),msO tb Z O 1000002 3 (.int .i64 x) u (some (bX (.int .i64) kI (rI .i64) 3 1 [(x,16)] mp))=msN (tb.key 3=some (.int .i64)/\Key.fits (.int .i64) (.int .i64 x)=true/\cH mp x=true) (neC u) (.int .i64) kI (rI .i64) 3 1 [(x,16)] mp x Z O 1000002) (fun Z O u=>mN_ms (tb:=tb) (Z:=Z) (O:=O) (kf:=kI) 1000002 3 x u))]
  refine Swp.pre (Wk.unfMs (kk:=(.int .i64)) (kf:=kI) (f:=(rI .i64)) (ie:=3) (sz:=1) (H:=([]:List (Int×Nat))) (m:=mp) 1000002 16 16 5000 1 n x l (by simp -dsimp) (by simp[ckB_ok h34]) (by simp) (by simp) (by simp -dsimp [hf]) (by simp[lenK_ok h35]) (by decide) (by decide) (by decide)) ?_
  refine srs hn ?_
  simp -dsimp
  refine bq ?_
  cases hm
  refine⟨.inr rfl,?_⟩
  refine emr 5002 1000006 hk ?_
  exact zz
end
def cK (cx:Cx) (ak:List Bn) (ar:Bool) (tt:(Bool×Int×(List (List Int))×(List (Int×List Int))×(List Int)×(List Int)) ⊕ ((List Int)×Int×(List (List Int))×(List (Int×List Int))×(List Int))) (ee:Exit) (Z:Env) (O:Sto):Prop:=match tt with
 | .inl r=>ee=.ret/\EE cx (fun Z O=>∃ v,gF tb Z O Tryz.f95.results.toList=some v/\(v.frzL O).wk (vT r.1)/\mo inBase [some (.box [.own 1000001,.map 1000002,.own 1000003,.own 1000006,dI r.2.1,.own 1000005,.d (.bool ar)]),some (.nest (.row 26) 3 1 (du (rI .i64) r.2.2.1)),some (bX (.int .i64) kI (rI .i64) 3 1 ([]:List (Int×Nat)) r.2.2.2.1),some (.row 1 137 (List.map (rI .i8) r.2.2.2.2.1)),none,some (.row 3 142 (List.map Bn.row ak)),some (.row 1 3 (List.map (rI .i64) r.2.2.2.2.2))] O) Z O
 | .inr (l,bdone,l1,mp,l2)=>ee=.exit 0/\EE cx (bH [] [(5001,.row 1 3 (List.map (rI .i64) l)),(1000000,.box [.own 1000001,.map 1000002,.own 1000003,.own 5001,dI bdone,.own 1000005,.d (.bool ar)]),(1000001,.nest (.row 26) 3 1 (du (rI .i64) l1)),(1000002,bX (.int .i64) kI (rI .i64) 3 1 ([]:List (Int×Nat)) mp),(1000003,.row 1 137 (List.map (rI .i8) l2)),(1000005,.row 3 142 (List.map Bn.row ak))]) Z O
theorem lF (cx:Cx) (hn:cx.n=34) (hk:cx.k=6) (ak:List Bn) (ar:Bool) {fu:Nat} {stt:(List Int)×Int×(List (List Int))×(List (Int×List Int))×(List Int)} {tt:(Bool×Int×(List (List Int))×(List (Int×List Int))×(List Int)×(List Int)) ⊕ ((List Int)×Int×(List (List Int))×(List (Int×List Int))×(List Int))} (hh:bm (ej ak ar) fu stt=some tt) {Z:Env} {O:Sto}
  (hE:eh (fun stt:(List Int)×Int×(List (List Int))×(List (Int×List Int))×(List Int)=>match stt with | (_l2,_aG,_l,_mp,_l1)=>[(0,vX 1000000)]) (fun stt:(List Int)×Int×(List (List Int))×(List (Int×List Int))×(List Int)=>match stt with | (l2,aG,l,mp,l1)=>[(5001,.row 1 3 (List.map (rI .i64) l2)),(1000000,.box [.own 1000001,.map 1000002,.own 1000003,.own 5001,dI aG,.own 1000005,.d (.bool ar)]),(1000001,.nest (.row 26) 3 1 (du (rI .i64) l)),(1000002,bX (.int .i64) kI (rI .i64) 3 1 ([]:List (Int×Nat)) mp),(1000003,.row 1 137 (List.map (rI .i8) l1)),(1000005,.row 3 142 (List.map Bn.row ak))]) stt Z O):Swp Tryz.prog cx (.loop (cD [1,0,0,0] (bC Tryz.f95))) Z O (cK cx ak ar tt):=by
 refine bZ hE hh (cK cx ak ar) ?_
 rintro⟨l2,aG,l,mp,l1⟩ r hm Z O hf
 simp only[Fits,bv,bw,and_true] at hf
 unfold ej at hm
 dsimp only at hm
 refine ba ?_
 refine ly bE mixed (by rw[hn]; kernel_rfl) ?_
 simp -dsimp [hf]
 rcases bz hm with ⟨c1,hm⟩ | ⟨c1,hm⟩
 ·refine bg (by simp -dsimp) c1 ?_
  refine be (b9 (ba (bb ?_)))
  refine oK bE mixed 12 (by rw[hn]; kernel_rfl) ?_
  dsimp only [List.take,List.drop]
  obtain⟨x,h2,hm⟩:=bnd hm
  obtain⟨y,h3,hm⟩:=bnd hm
  simp -dsimp [hf,c1,h2,bV h2]
  refine clg (om l mp l1 l2 aG ak ar (cA .i64 x) y h3) [1000000,1000001,1000002,1000003,5001,1000005] [5000] (by simp -dsimp [hf]) (dkL hn) ?_
  simp -dsimp
  rcases bz hm with ⟨c4,hm⟩ | ⟨c4,hm⟩
  ·refine bg (by simp -dsimp) c4 ?_
   refine srs hn ?_
   simp -dsimp [c4]
   refine bq (ma (cw ?_))
   cases hm
   refine jG nofun ?_
   unfold cK
   dsimp only
   refine⟨rfl,?_⟩
   refine emr 5000 1000006 hk ?_
   exact zz
  ·refine bi (by simp -dsimp) c4 ?_
   refine be ?_
   refine ca ?_
   refine b9 ?_
   refine sr1 hn ?_
   simp -dsimp [hf,c4]
   cases hm
   refine bW ?_
   refine emv 5000 5001 ?_
   exact zz
 ·exact zz
theorem mg (aI:List (List Int)) (ax:List (Int×List Int)) (am av:List Int) (au:Int) (ak:List Bn) (ar:Bool) (r:Bool×Int×(List (List Int))×(List (Int×List Int))×(List Int)×(List Int)) (hm:f9 aI ax am av au ak ar=some r):GFn Tryz.prog 95 [vX 1000000] [.box [.own 1000001,.map 1000002,.own 1000003,.own 1000004,dI au,.own 1000005,.d (.bool ar)],.nest (.row 26) 3 1 (du (rI .i64) aI),bX (.int .i64) kI (rI .i64) 3 1 ([]:List (Int×Nat)) ax,.row 1 137 (List.map (rI .i8) am),.row 1 3 (List.map (rI .i64) av),.row 3 142 (List.map Bn.row ak)] (vT r.1) [some (.box [.own 1000001,.map 1000002,.own 1000003,.own 1000006,dI r.2.1,.own 1000005,.d (.bool ar)]),some (.nest (.row 26) 3 1 (du (rI .i64) r.2.2.1)),some (bX (.int .i64) kI (rI .i64) 3 1 ([]:List (Int×Nat)) r.2.2.2.1),some (.row 1 137 (List.map (rI .i8) r.2.2.2.2.1)),none,some (.row 3 142 (List.map Bn.row ak)),some (.row 1 3 (List.map (rI .i64) r.2.2.2.2.2))]:=by
 refine bY bE _ Tryz.func95 rfl (by kernel_rfl) (by simp[Tryz.ntmps95]) (by simp) (by first | rfl | simp) (by first | rfl | simp) fun cx hn hk=>?_
 replace hn:cx.n=34:=hn.trans Tryz.ntmps95
 replace hk:cx.k=6:=hk
 unfold f9 at hm
 refine srs hn ?_
 simp -dsimp
 refine ba (bb ?_)
 obtain⟨o_,g5,hm⟩:=bnd hm
 refine bG (lF cx hn hk ak ar g5) (by
   try dsimp only
   refine emv 1000004 5001 ?_
   exact zz
 ) fun ee Z O xx=>?_
 rcases o_ with r | ⟨l,bdone,l1,mp,l2⟩
 ·unfold cK at xx
  dsimp only at xx
  obtain⟨rfl,xx⟩:=xx
  refine ma (cw ?_)
  cases hm
  refine⟨.inr rfl,?_⟩
  first | exact xx | exact xx.mono fun Z O h=>by simpa -dsimp using h
 ·unfold cK at xx
  dsimp only at xx
  obtain⟨rfl,xx⟩:=xx
  refine bA ?_
  refine b9 ?_
  refine see xx fun Z O hf=>?_
  simp only[Fits,bv,bw,and_true,true_and] at hf
  refine srs hn ?_
  simp -dsimp
  refine bq ?_
  cases hm
  refine⟨.inr rfl,?_⟩
  refine emr 5001 1000006 hk ?_
  exact zz
end Go.Proofs.YtbgliammfkgfoaaGreatDoor
namespace Go.Proofs.YtbgliammfkgfoaaGreatDoor
open Go.AM Go.Proofs
set_option maxRecDepth 100000
attribute [-simp] dD e6 gg Ob.wipe Ob.ren Ob.frz1
section
attribute [-simp] List.map_set List.set_set
def eg (cx:Cx) (u u1:Value) (av:List Int) (au:Int) (ak:List Bn) (ar:Bool) (x:Bn) (tt:(List Int)) (ee:Exit) (Z:Env) (O:Sto):Prop:=match tt with
 | l=>ee=.exit 0/\EE cx (bH [(0,vX 1000000),(2,vX 2),(4,vX 4)] [(2,.box [dI 0,dI 0,.d (.bool false)]),(4,.box [dI x.variable_,dI x.trail,.d (.bool x.turned)]),(5000,.row 3 142 (List.map Bn.row (ak.take ((bK .i64 (bf ak) 1).toNat)))),(1000000,.box [.opq u,.opq u1,.own 1000001,.own 1000002,dI au,.own 5000,.d (.bool ar)]),(1000001,.row 1 137 (List.map (rI .i8) l)),(1000002,.row 1 3 (List.map (rI .i64) av))]) Z O
theorem nN (cx:Cx) (hn:cx.n=67) (_hk:cx.k=4) (u u1:Value) (av:List Int) (au:Int) (ak:List Bn) (ar:Bool) (x:Bn) {fu:Nat} {stt:Int×(List Int)} {tt:(List Int)} (hh:bm (gA av au ak ar x) fu stt=some tt) {Z:Env} {O:Sto}
  (hE:eh (fun stt:Int×(List Int)=>match stt with | (a,_l)=>[(0,vX 1000000),(2,vX 2),(4,vX 4),(35,.u (.one (.sub 1000002 1 x.trail.toNat av.length))),(36,vI (lenP x.trail.toNat av.length)),(37,vI a)]) (fun stt:Int×(List Int)=>match stt with | (_a,l)=>[(2,.box [dI 0,dI 0,.d (.bool false)]),(4,.box [dI x.variable_,dI x.trail,.d (.bool x.turned)]),(5000,.row 3 142 (List.map Bn.row (ak.take ((bK .i64 (bf ak) 1).toNat)))),(1000000,.box [.opq u,.opq u1,.own 1000001,.own 1000002,dI au,.own 5000,.d (.bool ar)]),(1000001,.row 1 137 (List.map (rI .i8) l)),(1000002,.row 1 3 (List.map (rI .i64) av))]) stt Z O):Swp Tryz.prog cx (.loop (cD [1,1,1,1,0,1,0,0] (bC Tryz.f97))) Z O (eg cx u u1 av au ak ar x tt):=by
 refine bZ hE hh (eg cx u u1 av au ak ar x) ?_
 rintro⟨a,l⟩ r hm Z O hf
 simp only[Fits,bv,bw,and_true] at hf
 unfold gA at hm
 dsimp only at hm
 refine srs hn ?_
 simp -dsimp [hf]
 refine ba ?_
 rcases bz hm with ⟨c4,hm⟩ | ⟨c4,hm⟩
 ·refine bg (by simp -dsimp) c4 ?_
  refine be (b9 (ba (bb ?_)))
  refine srs hn ?_
  obtain⟨x1,h5,hm⟩:=bnd hm
  simp -dsimp [hf,c4,(idxP_ok h5).1,(idxP_ok h5).2]
  refine sr1 hn ?_
  obtain⟨x2,h6,hm⟩:=bnd hm
  simp -dsimp [hf,h6,bV h6,mJ .i8 l (gD x1 (cA .i64 x1)).toNat 0]
  refine ca ?_
  refine b9 ?_
  refine sr1 hn ?_
  simp -dsimp [hf]
  cases hm
  refine bW ?_
  exact EE.here (by simp -dsimp [hf])
 ·refine bi (by simp -dsimp) c4 ?_
  refine gR ?_
  refine cw ?_
  cases hm
  refine jG nofun ?_
  exact⟨rfl,EE.here (by simp -dsimp [hf,c4])⟩
theorem g_solve_engine_back_o (u u1:Value) (am av:List Int) (au:Int) (ak:List Bn) (ar:Bool) (r:Int×Int×Bool×(List Int)×(List Int)) (hm:i2 am av au ak ar=some r):GFn Tryz.prog 97 [vX 1000000] [.box [.opq u,.opq u1,.own 1000001,.own 1000002,dI au,.own 1000003,.d (.bool ar)],.row 1 137 (List.map (rI .i8) am),.row 1 3 (List.map (rI .i64) av),.row 3 142 (List.map Bn.row ak)] (.u (.agg [dI r.1,dI r.2.1,.d (.bool r.2.2.1)])) [some (.box [.opq u,.opq u1,.own 1000001,.own 1000005,dI r.2.1,.own 1000004,.d (.bool ar)]),some (.row 1 137 (List.map (rI .i8) r.2.2.2.2)),none,none,some (.row 3 142 (List.map Bn.row (ak.take ((bK .i64 (bf ak) 1).toNat)))),some (.row 1 3 (List.map (rI .i64) r.2.2.2.1))]:=by
 refine bY bE _ Tryz.func97 rfl (by kernel_rfl) (by simp[Tryz.ntmps97]) (by simp) (by first | rfl | simp) (by first | rfl | simp) fun cx hn hk=>?_
 replace hn:cx.n=67:=hn.trans Tryz.ntmps97
 replace hk:cx.k=4:=hk
 unfold i2 at hm
 refine srs hn ?_
 simp -dsimp
 refine srs hn ?_
 simp -dsimp
 refine srs hn ?_
 obtain⟨x,h1,hm⟩:=bnd hm
 simp -dsimp [h1,bV h1]
 refine srs hn ?_
 obtain⟨u2,h2,hm⟩:=bnd hm
 simp -dsimp [kQ h2]
 refine Swp.pre (Wk.cutB 1000000 5 1000003 5000 ((bK .i64 (bf ak) 1).toNat) 3 3 142 (List.map Bn.row ak) [.opq u,.opq u1,.own 1000001,.own 1000002,dI au,.sub 1000003 3 0 ((bK .i64 (bf ak) 1).toNat),.d (.bool ar)] (by simp -dsimp) (by rfl) (by simp -dsimp) (by simp -dsimp [kQ h2]) (by decide) (by decide) (by decide)) ?_
 refine ba ?_
 refine ly bE mixed (by rw[hn]; kernel_rfl) ?_
 obtain⟨u3,h3,hm⟩:=bnd hm
 simp -dsimp [kQ h3]
 refine bb ?_
 obtain⟨l,g7,hm⟩:=bnd hm
 refine bG (nN cx hn hk u u1 av au ak ar x g7) (by
   try dsimp only
   exact EE.here (by simp -dsimp)
 ) fun ee Z O xx=>?_
 unfold eg at xx
 dsimp only at xx
 obtain⟨rfl,xx⟩:=xx
 refine bA ?_
 refine b9 ?_
 refine see xx fun Z O hf=>?_
 simp only[Fits,bv,bw,and_true] at hf
 refine oK bE mixed 8 (by rw[hn]; kernel_rfl) ?_
 dsimp only [List.take,List.drop]
 obtain⟨u4,h8,hm⟩:=bnd hm
 simp -dsimp [hf,kQ h3]
 refine Swp.pre (Wk.cutB 1000000 3 1000002 5001 x.trail.toNat 1 1 3 (List.map (rI .i64) av) [.opq u,.opq u1,.own 1000001,.sub 1000002 1 0 x.trail.toNat,dI au,.own 5000,.d (.bool ar)] (by simp -dsimp) (by rfl) (by simp -dsimp [hf]) (by simp -dsimp [kQ h3]) (by decide) (by decide) (by decide)) ?_
 refine srs hn ?_
 simp -dsimp [hf]
 refine srs hn ?_
 simp -dsimp [hf]
 refine bq ?_
 cases hm
 refine⟨.inr rfl,?_⟩
 refine emr 5000 1000004 hk ?_
 refine emr 5001 1000005 hk ?_
 exact EE.here (by simp -dsimp [hf])
end
theorem jJ (u u1:Value) (am av:List Int) (au:Int) (ak:List Bn) (ar:Bool) (x:Int) (turned:Bool) (r:List Int) (hm:ei am av au ak ar x turned=some r):GFn Tryz.prog 96 [vX 1000000,vI x,vT turned] [.box [.opq u,.opq u1,.own 1000001,.own 1000002,dI au,.own 1000003,.d (.bool ar)],.row 1 137 (List.map (rI .i8) am),.row 1 3 (List.map (rI .i64) av),.row 3 142 (List.map Bn.row ak)] (.tup []) [some (.box [.opq u,.opq u1,.own 1000001,.own 1000005,dI au,.own 1000004,.d (.bool ar)]),some (.row 1 137 (List.map (rI .i8) r)),none,none,some (.row 3 142 (List.map Bn.row (ak++[(⟨(gD x (cA .i64 x)),(bf av),turned⟩:Bn)]))),some (.row 1 3 (List.map (rI .i64) (av++[x])))]:=by
 refine bY bE _ Tryz.func96 rfl (by kernel_rfl) (by simp[Tryz.ntmps96]) (by simp) (by first | rfl | simp) (by first | rfl | simp) fun cx hn hk=>?_
 replace hn:cx.n=29:=hn.trans Tryz.ntmps96
 replace hk:cx.k=4:=hk
 unfold ei at hm
 refine gz bE mixed 17 18 18 0 [[0]] [[23]] [] none (by rw[hn]; kernel_rfl) cN ?_
 dsimp only [List.take,List.drop,ef,eD,gp,pk,List.cons_append,List.nil_append,List.flatten_cons,List.flatten_nil,cO,cP,List.append_nil]
 obtain⟨l,h1,hm⟩:=bnd hm
 obtain⟨h1a,h1e⟩:=bL h1
 replace h1e:=h1e.symm
 subst h1e
 try simp only[List.length_cons,List.length_nil,Nat.zero_add] at h1a
 simp -dsimp [h1a]
 refine sr1 hn ?_
 obtain⟨y,h2,hm⟩:=bnd hm
 simp -dsimp
 refine kP (us:=[vX 1000000,vI x]) (v:=.tup []) (ts:=[.h (.opq u),.h (.opq u1),.c (.own 1000001),.c (.own 1000002),.c (dI au),.h (.own 23),.c (.d (.bool ar))]) (ots:=[.h (.opq u),.h (.opq u1),.c (.own 1000001),.c (.own 1000003),.c (dI au),.h (.own 23),.c (.d (.bool ar))]) (ins:=[.row 1 137 (List.map (rI .i8) am),.row 1 3 (List.map (rI .i64) av)]) (outs:=[some (.row 1 137 (List.map (rI .i8) y)),none,some (.row 1 3 (List.map (rI .i64) (av++[x])))]) (fun xs hx=>by obtain⟨xo0,xo1,xo2,rfl⟩:=len3 hx; exact (iA xo0 xo1 xo2 am av au ar x y h2)) 1000000 [1000001,1000002] [5000] rfl rfl rfl (by simp -dsimp) rfl (by simp -dsimp [hrl]) (by simp -dsimp) rfl rfl rfl rfl rfl (dkL hn) ?_
 simp -dsimp
 cases hm
 try refine⟨.inl rfl,?_⟩
 refine emr 23 1000004 hk ?_
 refine emr 5000 1000005 hk ?_
 exact EE.here (by simp -dsimp)
def cS (cx:Cx) (u u1:Value) (ar:Bool) (_n:Int) (tt:(Bool×Int×(List Int)×(List Int)×(List Bn)) ⊕ ((List Int)×(List Bn)×Int×(List Int))) (ee:Exit) (Z:Env) (O:Sto):Prop:=match tt with
 | .inl r=>ee=.ret/\EE cx (fun Z O=>∃ v,gF tb Z O Tryz.f59.results.toList=some v/\(v.frzL O).wk (vT r.1)/\mo inBase [some (.box [.opq u,.opq u1,.own 1000001,.own 1000004,dI r.2.1,.own 1000005,.d (.bool ar)]),some (.row 1 137 (List.map (rI .i8) r.2.2.1)),none,none,some (.row 1 3 (List.map (rI .i64) r.2.2.2.1)),some (.row 3 142 (List.map Bn.row r.2.2.2.2))] O) Z O
 | .inr (l,l1,bdone,l2)=>ee=.exit 0/\EE cx (bH [] [(5004,.row 1 3 (List.map (rI .i64) l)),(5005,.row 3 142 (List.map Bn.row l1)),(1000000,.box [.opq u,.opq u1,.own 1000001,.own 5004,dI bdone,.own 5005,.d (.bool ar)]),(1000001,.row 1 137 (List.map (rI .i8) l2))]) Z O
theorem nO (cx:Cx) (hn:cx.n=27) (hk:cx.k=4) (u u1:Value) (ar:Bool) (n:Int) {fu:Nat} {stt:(List Int)×(List Bn)×Int×(List Int)} {tt:(Bool×Int×(List Int)×(List Int)×(List Bn)) ⊕ ((List Int)×(List Bn)×Int×(List Int))} (hh:bm (gk ar n) fu stt=some tt) {Z:Env} {O:Sto}
  (hE:eh (fun stt:(List Int)×(List Bn)×Int×(List Int)=>match stt with | (_l1,_l2,_aG,_l)=>[(0,vX 1000000),(1,vI n)]) (fun stt:(List Int)×(List Bn)×Int×(List Int)=>match stt with | (l1,l2,aG,l)=>[(5004,.row 1 3 (List.map (rI .i64) l1)),(5005,.row 3 142 (List.map Bn.row l2)),(1000000,.box [.opq u,.opq u1,.own 1000001,.own 5004,dI aG,.own 5005,.d (.bool ar)]),(1000001,.row 1 137 (List.map (rI .i8) l))]) stt Z O):Swp Tryz.prog cx (.loop (cD [1,0,0,0] (bC Tryz.f59))) Z O (cS cx u u1 ar n tt):=by
 refine bZ hE hh (cS cx u u1 ar n) ?_
 rintro⟨l1,l2,aG,l⟩ r hm Z O hf
 simp only[Fits,bv,bw,and_true] at hf
 unfold gk at hm
 dsimp only at hm
 refine ba ?_
 refine srs hn ?_
 simp -dsimp [hf]
 rcases bz hm with ⟨c1,hm⟩ | ⟨c1,hm⟩
 ·refine bg (by simp -dsimp) c1 ?_
  refine be (b9 (bb ?_))
  refine srs hn ?_
  obtain⟨y,h2,hm⟩:=bnd hm
  simp -dsimp [hf,c1]
  refine kP (us:=[vX 1000000]) (v:=.u (.agg [dI y.1,dI y.2.1,.d (.bool y.2.2.1)])) (ts:=[.h (.opq u),.h (.opq u1),.c (.own 1000001),.c (.own 1000002),.c (dI aG),.c (.own 1000003),.c (.d (.bool ar))]) (ots:=[.h (.opq u),.h (.opq u1),.c (.own 1000001),.c (.own 1000005),.c (dI y.2.1),.c (.own 1000004),.c (.d (.bool ar))]) (ins:=[.row 1 137 (List.map (rI .i8) l),.row 1 3 (List.map (rI .i64) l1),.row 3 142 (List.map Bn.row l2)]) (outs:=[some (.row 1 137 (List.map (rI .i8) y.2.2.2.2)),none,none,some (.row 3 142 (List.map Bn.row (l2.take ((bK .i64 (bf l2) 1).toNat)))),some (.row 1 3 (List.map (rI .i64) y.2.2.2.1))]) (fun xs hx=>by obtain⟨xo0,xo1,rfl⟩:=len2 hx; exact (g_solve_engine_back_o xo0 xo1 l l1 aG l2 ar y h2)) 1000000 [1000001,5004,5005] [5000,5001] rfl rfl rfl (by simp -dsimp) rfl (by simp -dsimp [hf,hrl]) (by simp -dsimp [hf]) rfl rfl rfl rfl rfl (dkL hn) ?_
  simp -dsimp
  obtain⟨a,j6,hm⟩:=bnd hm
  refine scE [(0,vX 1000000),(1,vI n),(5,vX 5),(22,vT a)] [(5,.box [dI y.1,dI y.2.1,.d (.bool y.2.2.1)]),(5000,.row 3 142 (List.map Bn.row (l2.take ((bK .i64 (bf l2) 1).toNat)))),(5001,.row 1 3 (List.map (rI .i64) y.2.2.2.1)),(1000000,.box [.opq u,.opq u1,.own 1000001,.own 5001,dI y.2.1,.own 5000,.d (.bool ar)]),(1000001,.row 1 137 (List.map (rI .i8) y.2.2.2.2))] ?_ fun Z O hf=>?_
  ·replace hm:=j6
   clear j6
   refine sr1 hn ?_
   rcases bz hm with ⟨c3,hm⟩ | ⟨c3,hm⟩
   ·simp -dsimp [hf,c3]
    cases hm
    exact EE.here (by simp -dsimp [hf])
   ·simp -dsimp [c3]
    cases hm
    exact EE.here (by simp -dsimp [hf])
  ·clear j6
   simp only[Fits,bv,bw,and_true] at hf
   rcases bz hm with ⟨c4,hm⟩ | ⟨c4,hm⟩
   ·refine bg (by simp -dsimp [hf]) c4 ?_
    refine srs hn ?_
    obtain⟨y1,h5,hm⟩:=bnd hm
    simp -dsimp [hf]
    refine kP (us:=[vX 1000000,vI y.1,vT true]) (v:=.tup []) (ts:=[.h (.opq u),.h (.opq u1),.c (.own 1000001),.c (.own 1000002),.c (dI y.2.1),.c (.own 1000003),.c (.d (.bool ar))]) (ots:=[.h (.opq u),.h (.opq u1),.c (.own 1000001),.c (.own 1000005),.c (dI y.2.1),.c (.own 1000004),.c (.d (.bool ar))]) (ins:=[.row 1 137 (List.map (rI .i8) y.2.2.2.2),.row 1 3 (List.map (rI .i64) y.2.2.2.1),.row 3 142 (List.map Bn.row (l2.take ((bK .i64 (bf l2) 1).toNat)))]) (outs:=[some (.row 1 137 (List.map (rI .i8) y1)),none,none,some (.row 3 142 (List.map Bn.row ((l2.take ((bK .i64 (bf l2) 1).toNat))++[(⟨(gD y.1 (cA .i64 y.1)),(bf y.2.2.2.1),true⟩:Bn)]))),some (.row 1 3 (List.map (rI .i64) (y.2.2.2.1++[y.1])))]) (fun xs hx=>by obtain⟨xo0,xo1,rfl⟩:=len2 hx; exact (jJ xo0 xo1 y.2.2.2.2 y.2.2.2.1 y.2.1 (l2.take ((bK .i64 (bf l2) 1).toNat)) ar y.1 true y1 h5)) 1000000 [1000001,5001,5000] [5002,5003] rfl rfl rfl (by simp -dsimp) rfl (by simp -dsimp [hf,hrl]) (by simp -dsimp [hf]) rfl rfl rfl rfl rfl (dkL hn) ?_
    simp -dsimp
    refine srs hn ?_
    simp -dsimp
    refine bq (ma ?_)
    cases hm
    refine jG nofun ?_
    unfold cS
    dsimp only
    refine⟨rfl,?_⟩
    refine emr 5003 1000004 hk ?_
    refine emr 5002 1000005 hk ?_
    exact EE.here (by simp -dsimp [Tryz.results59])
   ·refine bi (by simp -dsimp [hf]) c4 ?_
    refine be ?_
    refine ca ?_
    cases hm
    refine bW ?_
    refine emv 5001 5004 ?_
    refine emv 5000 5005 ?_
    exact EE.here (by simp -dsimp [hf])
 ·refine bi (by simp -dsimp) c1 ?_
  refine gR ?_
  refine cw ?_
  cases hm
  refine jG nofun ?_
  exact⟨rfl,EE.here (by simp -dsimp [hf,c1])⟩
theorem kl (u u1:Value) (am av:List Int) (au:Int) (ak:List Bn) (ar:Bool) (n:Int) (r:Bool×Int×(List Int)×(List Int)×(List Bn)) (hm:fp am av au ak ar n=some r):GFn Tryz.prog 59 [vX 1000000,vI n] [.box [.opq u,.opq u1,.own 1000001,.own 1000002,dI au,.own 1000003,.d (.bool ar)],.row 1 137 (List.map (rI .i8) am),.row 1 3 (List.map (rI .i64) av),.row 3 142 (List.map Bn.row ak)] (vT r.1) [some (.box [.opq u,.opq u1,.own 1000001,.own 1000004,dI r.2.1,.own 1000005,.d (.bool ar)]),some (.row 1 137 (List.map (rI .i8) r.2.2.1)),none,none,some (.row 1 3 (List.map (rI .i64) r.2.2.2.1)),some (.row 3 142 (List.map Bn.row r.2.2.2.2))]:=by
 refine bY bE _ Tryz.func59 rfl (by kernel_rfl) (by simp[Tryz.ntmps59]) (by simp) (by first | rfl | simp) (by first | rfl | simp) fun cx hn hk=>?_
 replace hn:cx.n=27:=hn.trans Tryz.ntmps59
 replace hk:cx.k=4:=hk
 unfold fp at hm
 refine srs hn ?_
 simp -dsimp
 refine ba (bb ?_)
 obtain⟨o_,g7,hm⟩:=bnd hm
 refine bG (nO cx hn hk u u1 ar n g7) (by
   try dsimp only
   refine emv 1000002 5004 ?_
   refine emv 1000003 5005 ?_
   exact eeh
 ) fun ee Z O xx=>?_
 rcases o_ with r | ⟨l,l1,bdone,l2⟩
 ·unfold cS at xx
  dsimp only at xx
  obtain⟨rfl,xx⟩:=xx
  refine ma (cw ?_)
  cases hm
  refine⟨.inr rfl,?_⟩
  first | exact xx | exact xx.mono fun Z O h=>by simpa -dsimp using h
 ·unfold cS at xx
  dsimp only at xx
  obtain⟨rfl,xx⟩:=xx
  refine bA ?_
  refine b9 ?_
  refine see xx fun Z O hf=>?_
  simp only[Fits,bv,bw,and_true,true_and] at hf
  refine srs hn ?_
  simp -dsimp
  refine bq ?_
  cases hm
  refine⟨.inr rfl,?_⟩
  refine emr 5004 1000004 hk ?_
  refine emr 5005 1000005 hk ?_
  exact EE.here (by simp -dsimp [hf])
def cC (cx:Cx) (am:List Int) (ar:Bool) (l3:List Bn) (y:Bool×Int×(List (List Int))×(List (Int×List Int))×(List Int)×(List Int)) (tt:((List Bn)×(List Int)×(List Int)) ⊕ Unit) (ee:Exit) (Z:Env) (O:Sto):Prop:=match tt with
 | .inl (l4,l5,l6)=>ee=.goto 0/\EE cx (bH [(0,vX 1000000),(3,vI (bK .i64 (bf am) 1))] [(5003,.row 3 142 (List.map Bn.row l4)),(5004,.row 1 3 (List.map (rI .i64) l5)),(1000000,.box [.own 1000001,.map 1000002,.own 1000003,.own 5004,dI y.2.1,.own 5003,.d (.bool ar)]),(1000001,.nest (.row 26) 3 1 (du (rI .i64) y.2.2.1)),(1000002,bX (.int .i64) kI (rI .i64) 3 1 ([]:List (Int×Nat)) y.2.2.2.1),(1000003,.row 1 137 (List.map (rI .i8) l6))]) Z O
 | .inr _u=>ee=.exit 0/\EE cx (bH [] [(5000,.row 1 3 (List.map (rI .i64) y.2.2.2.2.2)),(5006,.row 3 142 (List.map Bn.row l3)),(1000000,.box [.own 1000001,.map 1000002,.own 1000003,.own 5000,dI y.2.1,.own 5006,.d (.bool ar)]),(1000001,.nest (.row 26) 3 1 (du (rI .i64) y.2.2.1)),(1000002,bX (.int .i64) kI (rI .i64) 3 1 ([]:List (Int×Nat)) y.2.2.2.1),(1000003,.row 1 137 (List.map (rI .i8) y.2.2.2.2.1))]) Z O
theorem mT (cx:Cx) (hn:cx.n=39) (_hk:cx.k=6) (am:List Int) (ar:Bool) (l3:List Bn) (y:Bool×Int×(List (List Int))×(List (Int×List Int))×(List Int)×(List Int)) {fu:Nat} {stt:Int} {tt:((List Bn)×(List Int)×(List Int)) ⊕ Unit} (hh:bm (fD am ar l3 y) fu stt=some tt) {Z:Env} {O:Sto}
  (hE:eh (fun v:Int=>[(0,vX 1000000),(3,vI (bK .i64 (bf am) 1)),(4,vI v)]) (fun _v:Int=>[(5000,.row 1 3 (List.map (rI .i64) y.2.2.2.2.2)),(5006,.row 3 142 (List.map Bn.row l3)),(1000000,.box [.own 1000001,.map 1000002,.own 1000003,.own 5000,dI y.2.1,.own 5006,.d (.bool ar)]),(1000001,.nest (.row 26) 3 1 (du (rI .i64) y.2.2.1)),(1000002,bX (.int .i64) kI (rI .i64) 3 1 ([]:List (Int×Nat)) y.2.2.2.1),(1000003,.row 1 137 (List.map (rI .i8) y.2.2.2.2.1))]) stt Z O):Swp Tryz.prog cx (.loop (cD [1,0,1,1,1,1,0,1,0,0] (bC Tryz.f58))) Z O (cC cx am ar l3 y tt):=by
 refine bZ hE hh (cC cx am ar l3 y) ?_
 rintro v r hm Z O hf
 simp only[Fits,bv,bw,and_true] at hf
 unfold fD at hm
 dsimp only at hm
 refine ba ?_
 refine srs hn ?_
 simp -dsimp [hf]
 rcases bz hm with ⟨c6,hm⟩ | ⟨c6,hm⟩
 ·refine bg (by simp -dsimp) c6 ?_
  refine be (b9 (ba (bb ?_)))
  refine srs hn ?_
  obtain⟨x,h7,hm⟩:=bnd hm
  simp -dsimp [hf,c6,h7,bV h7]
  rcases bz hm with ⟨c8,hm⟩ | ⟨c8,hm⟩
  ·refine bg (by simp -dsimp) c8 ?_
   refine srs hn ?_
   obtain⟨y1,h9,hm⟩:=bnd hm
   simp -dsimp [hf,c8]
   refine kP (us:=[vX 1000000,vI (cA .i64 v),vT false]) (v:=.tup []) (ts:=[.h (.own 1000001),.h (.map 1000002),.c (.own 1000001),.c (.own 1000002),.c (dI y.2.1),.c (.own 1000003),.c (.d (.bool ar))]) (ots:=[.h (.own 1000001),.h (.map 1000002),.c (.own 1000001),.c (.own 1000005),.c (dI y.2.1),.c (.own 1000004),.c (.d (.bool ar))]) (ins:=[.row 1 137 (List.map (rI .i8) y.2.2.2.2.1),.row 1 3 (List.map (rI .i64) y.2.2.2.2.2),.row 3 142 (List.map Bn.row l3)]) (outs:=[some (.row 1 137 (List.map (rI .i8) y1)),none,none,some (.row 3 142 (List.map Bn.row (l3++[(⟨(gD (cA .i64 v) (cA .i64 (cA .i64 v))),(bf y.2.2.2.2.2),false⟩:Bn)]))),some (.row 1 3 (List.map (rI .i64) (y.2.2.2.2.2++[(cA .i64 v)])))]) (fun xs hx=>by obtain⟨xo0,xo1,rfl⟩:=len2 hx; exact (jJ xo0 xo1 y.2.2.2.2.1 y.2.2.2.2.2 y.2.1 l3 ar (cA .i64 v) false y1 h9)) 1000000 [1000003,5000,5006] [5003,5004] rfl rfl rfl (by simp -dsimp) rfl (by simp -dsimp [hf,hrl]) (by simp -dsimp [hf]) rfl rfl rfl rfl rfl (dkL hn) ?_
   simp -dsimp
   refine swp_goto ?_
   refine blk_g ?_
   refine cw ?_
   cases hm
   refine jG nofun ?_
   exact⟨rfl,EE.here (by simp -dsimp [hf])⟩
  ·refine bi (by simp -dsimp) c8 ?_
   refine be ?_
   refine ca ?_
   refine b9 ?_
   refine sr1 hn ?_
   simp -dsimp [hf,c8]
   cases hm
   refine bW ?_
   exact EE.here (by simp -dsimp [hf])
 ·refine bi (by simp -dsimp) c6 ?_
  refine gR ?_
  refine cw ?_
  cases hm
  refine jG nofun ?_
  exact⟨rfl,EE.here (by simp -dsimp [hf,c6])⟩
def da (cx:Cx) (_am:List Int) (ar:Bool) (tt:(Bool×Int×(List (List Int))×(List (Int×List Int))×(List Int)×(List Int)×(List Bn))) (ee:Exit) (Z:Env) (O:Sto):Prop:=match tt with
 | r=>ee=.ret/\EE cx (fun Z O=>∃ v,gF tb Z O Tryz.f58.results.toList=some v/\(v.frzL O).wk (vT r.1)/\mo inBase [some (.box [.own 1000001,.map 1000002,.own 1000003,.own 1000006,dI r.2.1,.own 1000007,.d (.bool ar)]),some (.nest (.row 26) 3 1 (du (rI .i64) r.2.2.1)),some (bX (.int .i64) kI (rI .i64) 3 1 ([]:List (Int×Nat)) r.2.2.2.1),some (.row 1 137 (List.map (rI .i8) r.2.2.2.2.1)),none,none,some (.row 1 3 (List.map (rI .i64) r.2.2.2.2.2.1)),some (.row 3 142 (List.map Bn.row r.2.2.2.2.2.2))] O) Z O
theorem mQ (cx:Cx) (hn:cx.n=39) (hk:cx.k=6) (am:List Int) (ar:Bool) {fu:Nat} {stt:(List Int)×(List Bn)×Int×(List (List Int))×(List (Int×List Int))×(List Int)} {tt:(Bool×Int×(List (List Int))×(List (Int×List Int))×(List Int)×(List Int)×(List Bn))} (hh:bm (fw am ar) fu stt=some tt) {Z:Env} {O:Sto}
  (hE:eh (fun stt:(List Int)×(List Bn)×Int×(List (List Int))×(List (Int×List Int))×(List Int)=>match stt with | (_l2,_l3,_aG,_l,_mp,_l1)=>[(0,vX 1000000),(3,vI (bK .i64 (bf am) 1))]) (fun stt:(List Int)×(List Bn)×Int×(List (List Int))×(List (Int×List Int))×(List Int)=>match stt with | (l2,l3,aG,l,mp,l1)=>[(5005,.row 1 3 (List.map (rI .i64) l2)),(5006,.row 3 142 (List.map Bn.row l3)),(1000000,.box [.own 1000001,.map 1000002,.own 1000003,.own 5005,dI aG,.own 5006,.d (.bool ar)]),(1000001,.nest (.row 26) 3 1 (du (rI .i64) l)),(1000002,bX (.int .i64) kI (rI .i64) 3 1 ([]:List (Int×Nat)) mp),(1000003,.row 1 137 (List.map (rI .i8) l1))]) stt Z O):Swp Tryz.prog cx (.seq (.label 0) (cD [1,0,1,1,1] (bC Tryz.f58))) Z O (jmpS Tryz.prog cx 0 (cD [1,0,1,1,1] (bC Tryz.f58)) (da cx am ar tt)):=by
 refine scopeL hE hh (da cx am ar) (fun _=>by rfl) (fun _=>by rfl) ?_
 rintro⟨l2,l3,aG,l,mp,l1⟩ r hm Z O hf
 simp only[Fits,bv,bw,and_true] at hf
 unfold fw at hm
 dsimp only at hm
 refine ba ?_
 refine srs hn ?_
 obtain⟨y,h2,hm⟩:=bnd hm
 simp -dsimp [hf]
 refine clg (mg l mp l1 l2 aG l3 ar y h2) [1000000,1000001,1000002,1000003,5005,5006] [5000] (by simp -dsimp [hf]) (dkL hn) ?_
 simp -dsimp
 rcases bz hm with ⟨c3,hm⟩ | ⟨c3,hm⟩
 ·refine bg (by simp -dsimp) c3 ?_
  refine ba ?_
  refine srs hn ?_
  obtain⟨y1,h4,hm⟩:=bnd hm
  simp -dsimp [hf,c3]
  refine kP (us:=[vX 1000000,vI (bK .i64 (bf am) 1)]) (v:=vT y1.1) (ts:=[.h (.own 1000001),.h (.map 1000002),.c (.own 1000001),.c (.own 1000002),.c (dI y.2.1),.c (.own 1000003),.c (.d (.bool ar))]) (ots:=[.h (.own 1000001),.h (.map 1000002),.c (.own 1000001),.c (.own 1000004),.c (dI y1.2.1),.c (.own 1000005),.c (.d (.bool ar))]) (ins:=[.row 1 137 (List.map (rI .i8) y.2.2.2.2.1),.row 1 3 (List.map (rI .i64) y.2.2.2.2.2),.row 3 142 (List.map Bn.row l3)]) (outs:=[some (.row 1 137 (List.map (rI .i8) y1.2.2.1)),none,none,some (.row 1 3 (List.map (rI .i64) y1.2.2.2.1)),some (.row 3 142 (List.map Bn.row y1.2.2.2.2))]) (fun xs hx=>by obtain⟨xo0,xo1,rfl⟩:=len2 hx; exact (kl xo0 xo1 y.2.2.2.2.1 y.2.2.2.2.2 y.2.1 l3 ar (bK .i64 (bf am) 1) y1 h4)) 1000000 [1000003,5000,5006] [5001,5002] rfl rfl rfl (by simp -dsimp) rfl (by simp -dsimp [hrl]) (by simp -dsimp) rfl rfl rfl rfl rfl (dkL hn) ?_
  simp -dsimp
  rcases bz hm with ⟨c5,hm⟩ | ⟨c5,hm⟩
  ·refine bg (by simp -dsimp) c5 ?_
   refine srs hn ?_
   simp -dsimp [c5]
   refine bq (cw (cw ?_))
   cases hm
   refine rg_out nofun ?_
   unfold da
   dsimp only
   refine⟨rfl,?_⟩
   refine emr 5001 1000006 hk ?_
   refine emr 5002 1000007 hk ?_
   exact EE.here (by simp -dsimp [Tryz.results58])
  ·refine bi (by simp -dsimp) c5 ?_
   refine be (b9 ?_)
   refine swp_goto ?_
   refine cw ?_
   cases hm
   refine rg_next ?_
   refine emv 5001 5005 ?_
   refine emv 5002 5006 ?_
   exact EE.here (by simp -dsimp [hf,c5])
 ·refine bi (by simp -dsimp) c3 ?_
  refine be (b9 (ba ?_))
  refine srs hn ?_
  simp -dsimp [c3]
  refine bb ?_
  obtain⟨o_,g10,hm⟩:=bnd hm
  refine bG (mT cx hn hk am ar l3 y g10) (by
    try dsimp only
    exact EE.here (by simp -dsimp [hf])
  ) fun ee Z O xx=>?_
  rcases o_ with ⟨l4,l5,l6⟩ | _u
  ·unfold cC at xx
   dsimp only at xx
   obtain⟨rfl,xx⟩:=xx
   refine blk_g ?_
   refine cw ?_
   cases hm
   refine rg_next ?_
   refine ee_bind (by rfl) (by rfl) xx fun Z O hf=>?_
   simp only[Fits,bv,bw,and_true] at hf
   refine emv 5004 5005 ?_
   refine emv 5003 5006 ?_
   exact EE.here (by simp -dsimp [hf])
  ·unfold cC at xx
   dsimp only at xx
   obtain⟨rfl,xx⟩:=xx
   refine bA ?_
   refine b9 ?_
   refine see xx fun Z O hf=>?_
   simp only[Fits,bv,bw,and_true,true_and] at hf
   refine srs hn ?_
   simp -dsimp
   refine bq ?_
   cases hm
   refine rg_out nofun ?_
   unfold da
   dsimp only
   refine⟨rfl,?_⟩
   refine emr 5000 1000006 hk ?_
   refine emr 5006 1000007 hk ?_
   exact EE.here (by simp -dsimp [hf,Tryz.results58])
theorem gq (aI:List (List Int)) (ax:List (Int×List Int)) (am av:List Int) (au:Int) (ak:List Bn) (ar:Bool) (r:Bool×Int×(List (List Int))×(List (Int×List Int))×(List Int)×(List Int)×(List Bn)) (hm:dy aI ax am av au ak ar=some r):GFn Tryz.prog 58 [vX 1000000] [.box [.own 1000001,.map 1000002,.own 1000003,.own 1000004,dI au,.own 1000005,.d (.bool ar)],.nest (.row 26) 3 1 (du (rI .i64) aI),bX (.int .i64) kI (rI .i64) 3 1 ([]:List (Int×Nat)) ax,.row 1 137 (List.map (rI .i8) am),.row 1 3 (List.map (rI .i64) av),.row 3 142 (List.map Bn.row ak)] (vT r.1) [some (.box [.own 1000001,.map 1000002,.own 1000003,.own 1000006,dI r.2.1,.own 1000007,.d (.bool ar)]),some (.nest (.row 26) 3 1 (du (rI .i64) r.2.2.1)),some (bX (.int .i64) kI (rI .i64) 3 1 ([]:List (Int×Nat)) r.2.2.2.1),some (.row 1 137 (List.map (rI .i8) r.2.2.2.2.1)),none,none,some (.row 1 3 (List.map (rI .i64) r.2.2.2.2.2.1)),some (.row 3 142 (List.map Bn.row r.2.2.2.2.2.2))]:=by
 refine bY bE _ Tryz.func58 rfl (by kernel_rfl) (by simp[Tryz.ntmps58]) (by simp) (by first | rfl | simp) (by first | rfl | simp) fun cx hn hk=>?_
 replace hn:cx.n=39:=hn.trans Tryz.ntmps58
 replace hk:cx.k=6:=hk
 unfold dy at hm
 refine srs hn ?_
 simp -dsimp
 refine sw_scope 0 (rest:=(cD [1,0,1,1,1] (bC Tryz.f58))) (by kernel_rfl) ?_
 refine ba ?_
 refine srs hn ?_
 simp -dsimp
 rcases bz hm with ⟨c1,hm⟩ | ⟨c1,hm⟩
 ·refine sct c1 ?_
  refine srs hn ?_
  simp -dsimp [c1]
  refine bq (cw ?_)
  refine js_r ?_
  cases hm
  refine⟨.inr rfl,?_⟩
  refine emr 1000004 1000006 hk ?_
  refine emr 1000005 1000007 hk ?_
  exact EE.here (by simp -dsimp)
 ·refine scf c1 ?_
  refine be (b9 ?_)
  refine srs hn ?_
  simp -dsimp [c1]
  obtain⟨r,g11,hm⟩:=bnd hm
  refine sw_ent [(0,vX 1000000),(3,vI (bK .i64 (bf am) 1))] [(5005,.row 1 3 (List.map (rI .i64) av)),(5006,.row 3 142 (List.map Bn.row ak)),(1000000,.box [.own 1000001,.map 1000002,.own 1000003,.own 5005,dI au,.own 5006,.d (.bool ar)]),(1000001,.nest (.row 26) 3 1 (du (rI .i64) aI)),(1000002,bX (.int .i64) kI (rI .i64) 3 1 ([]:List (Int×Nat)) ax),(1000003,.row 1 137 (List.map (rI .i8) am))] (by rfl) (by rfl) (by
    refine emv 1000004 5005 ?_
    refine emv 1000005 5006 ?_
    exact EE.here (by simp -dsimp [c1])
  ) fun Z O hf=>?_
  refine jmpS_mono (mQ cx hn hk am ar g11 hf) fun ee Z O xx=>?_
  unfold da at xx
  dsimp only at xx
  obtain⟨rfl,xx⟩:=xx
  cases hm
  refine⟨.inr rfl,?_⟩
  first | exact xx | exact xx.mono fun Z O h=>by simpa -dsimp [c1] using h
section
attribute [-simp] List.map_set List.set_set
def e8 (cx:Cx) (u u1:Value) (am:List Int) (u2:Value) (au:Int) (u3:Value) (ar:Bool) (_n:Int) (tt:(List Bool)) (ee:Exit) (Z:Env) (O:Sto):Prop:=match tt with
 | out=>ee=.exit 0/\EE cx (bH [(5,vO 8)] [(8,.row 1 4 (List.map rB out)),(1000000,.box [.opq u,.opq u1,.own 1000001,.opq u2,dI au,.opq u3,.d (.bool ar)]),(1000001,.row 1 137 (List.map (rI .i8) am))]) Z O
theorem nr (cx:Cx) (hn:cx.n=28) (_hk:cx.k=2) (u u1:Value) (am:List Int) (u2:Value) (au:Int) (u3:Value) (ar:Bool) (n:Int) {fu:Nat} {stt:Int×(List Bool)} {tt:(List Bool)} (hh:bm (fQ am au ar n) fu stt=some tt) {Z:Env} {O:Sto}
  (hE:eh (fun stt:Int×(List Bool)=>match stt with | (a,_out)=>[(0,vX 1000000),(5,vO 8),(10,vI (bf (List.replicate n.toNat ()))),(11,vI a)]) (fun stt:Int×(List Bool)=>match stt with | (_a,out)=>[(8,.row 1 4 (List.map rB out)),(1000000,.box [.opq u,.opq u1,.own 1000001,.opq u2,dI au,.opq u3,.d (.bool ar)]),(1000001,.row 1 137 (List.map (rI .i8) am))]) stt Z O):Swp Tryz.prog cx (.loop (cD [1,1,0,1,0,0] (bC Tryz.f60))) Z O (e8 cx u u1 am u2 au u3 ar n tt):=by
 refine bZ hE hh (e8 cx u u1 am u2 au u3 ar n) ?_
 rintro⟨a,out⟩ r hm Z O hf
 simp only[Fits,bv,bw,and_true] at hf
 unfold fQ at hm
 dsimp only at hm
 refine srs hn ?_
 simp -dsimp [hf]
 refine ba ?_
 rcases bz hm with ⟨c2,hm⟩ | ⟨c2,hm⟩
 ·refine bg (by simp -dsimp) c2 ?_
  refine be (b9 (ba (bb ?_)))
  refine srs hn ?_
  simp -dsimp [hf,c2]
  refine sr1 hn ?_
  obtain⟨x,h3,hm⟩:=bnd hm
  obtain⟨x1,h4,hm⟩:=bnd hm
  simp -dsimp [hf,h3,bV h3,h4,bV h4,rsetB out a.toNat (eqB x 1)]
  refine ca ?_
  refine b9 ?_
  refine sr1 hn ?_
  simp -dsimp [hf]
  cases hm
  refine bW ?_
  exact EE.here (by simp -dsimp [hf])
 ·refine bi (by simp -dsimp) c2 ?_
  refine gR ?_
  refine cw ?_
  cases hm
  refine jG nofun ?_
  exact⟨rfl,EE.here (by simp -dsimp [hf,c2])⟩
theorem jR (u u1 u2 u3:Value) (am:List Int) (au:Int) (ar:Bool) (n:Int) (r:List Bool) (hm:eK am au ar n=some r):GFn Tryz.prog 60 [vX 1000000,vI n] [.box [.opq u,.opq u1,.own 1000001,.opq u2,dI au,.opq u3,.d (.bool ar)],.row 1 137 (List.map (rI .i8) am)] (.u (.one (.d (.sl 1 (List.map rB r))))) [some (.box [.opq u,.opq u1,.own 1000001,.opq u2,dI au,.opq u3,.d (.bool ar)]),some (.row 1 137 (List.map (rI .i8) am))]:=by
 refine bY bE _ Tryz.func60 rfl (by kernel_rfl) (by simp[Tryz.ntmps60]) (by simp) (by first | rfl | simp) (by first | rfl | simp) fun cx hn hk=>?_
 replace hn:cx.n=28:=hn.trans Tryz.ntmps60
 replace hk:cx.k=2:=hk
 unfold eK at hm
 refine srs hn ?_
 simp -dsimp
 refine srs hn ?_
 obtain⟨l,h1,hm⟩:=bnd hm
 obtain⟨⟨h1a,h1b,h1c⟩,rfl⟩:=mC h1
 rw[Int.mul_one] at h1c
 simp -dsimp [h1a,h1c]
 refine ba ?_
 refine srs hn ?_
 simp -dsimp
 refine bb ?_
 obtain⟨out,g5,hm⟩:=bnd hm
 refine bG (nr cx hn hk u u1 am u2 au u3 ar n g5) (by
   try dsimp only
   exact EE.here (by simp -dsimp)
 ) fun ee Z O xx=>?_
 unfold e8 at xx
 dsimp only at xx
 obtain⟨rfl,xx⟩:=xx
 refine bA ?_
 refine b9 ?_
 refine see xx fun Z O hf=>?_
 simp only[Fits,bv,bw,and_true] at hf
 refine srs hn ?_
 simp -dsimp [hf]
 cases hm
 exact bq ⟨.inr rfl,EE.here (by simp -dsimp [hf])⟩
end
instance c_solve_First (f r):CtP (nI f=some r) (bj Tryz.prog 36 [.u (.agg [dI f.Vars,.d (.sl 1 (List.map (rS 1 (rI .i64)) f.Clauses))])] (.tup [.one (.d (.sl 1 (List.map rB r.1))),.one (.d (.bool r.2.1)),.one (dI r.2.2)])):=⟨fun hm=>by
 refine db Tryz.func36 Tryz.ntmps36 fun cx hn=>?_
 unfold nI at hm
 refine srs hn ?_
 simp -dsimp
 refine ba ?_
 refine srs hn ?_
 obtain⟨y,h1,hm⟩:=bnd hm
 simp -dsimp
 refine bp (CtP.pf h1) (dkL hn) ?_
 simp -dsimp
 rcases bz hm with ⟨c2,hm⟩ | ⟨c2,hm⟩
 ·refine bg (by simp -dsimp) c2 ?_
  refine srs hn ?_
  simp -dsimp [c2]
  refine bq (cw ?_)
  cases hm
  refine⟨.inr rfl,?_⟩
  exact EE.here (by simp -dsimp)
 ·refine bi (by simp -dsimp) c2 ?_
  refine be (b9 ?_)
  refine srs hn ?_
  obtain⟨y1,h3,hm⟩:=bnd hm
  simp -dsimp [c2]
  refine clg (nf f y1 h3) [] [5000,5001,5002,5003,5004,5005] (by simp -dsimp) (dkL hn) ?_
  simp -dsimp
  refine ba ?_
  refine srs hn ?_
  obtain⟨y2,h4,hm⟩:=bnd hm
  simp -dsimp
  refine clg (gq y1.2.2.2.1 y1.1 y1.2.1 y1.2.2.2.2 0 [] y1.2.2.1 y2 h4) [5002,5003,5000,5001,5004,5005] [5006,5007] (by simp -dsimp) (dkL hn) ?_
  simp -dsimp
  rcases bz hm with ⟨c5,hm⟩ | ⟨c5,hm⟩
  ·refine bg (by simp -dsimp) c5 ?_
   refine srs hn ?_
   simp -dsimp [c5]
   refine bq (cw ?_)
   cases hm
   refine⟨.inr rfl,?_⟩
   exact EE.here (by simp -dsimp)
  ·refine bi (by simp -dsimp) c5 ?_
   refine be (b9 ?_)
   refine srs hn ?_
   obtain⟨y3,h6,hm⟩:=bnd hm
   simp -dsimp [c5]
   refine kP (us:=[vX 1000000,vI f.Vars]) (v:=.u (.one (.d (.sl 1 (List.map rB y3))))) (ts:=[.h (.own 5003),.h (.map 5000),.c (.own 1000001),.h (.own 5006),.c (dI y2.2.1),.h (.own 5007),.c (.d (.bool y1.2.2.1))]) (ots:=[.h (.own 5003),.h (.map 5000),.c (.own 1000001),.h (.own 5006),.c (dI y2.2.1),.h (.own 5007),.c (.d (.bool y1.2.2.1))]) (ins:=[.row 1 137 (List.map (rI .i8) y2.2.2.2.2.1)]) (outs:=[some (.row 1 137 (List.map (rI .i8) y2.2.2.2.2.1))]) (fun xs hx=>by obtain⟨xo0,xo1,xo2,xo3,rfl⟩:=len4 hx; exact (jR xo0 xo1 xo2 xo3 y2.2.2.2.2.1 y2.2.1 y1.2.2.1 f.Vars y3 h6)) 5002 [5001] [] rfl rfl rfl (by simp -dsimp) rfl (by simp -dsimp [hrl]) (by simp -dsimp) rfl rfl rfl rfl rfl (dkL hn) ?_
   simp -dsimp
   refine bq ?_
   cases hm
   refine⟨.inr rfl,?_⟩
   exact EE.here (by simp -dsimp)⟩
theorem nS (t:Tree) (gv:Grid) (r:Int×Int×Int) (hm:iL t gv=some r):GFn Tryz.prog 29 [.u (.agg [dI t.States,dR2 t.Hood,dR1 t.Nodes]),.u (.agg [dI gv.W,dI gv.H,dI gv.Edge,dL gv.Cells])] [] (.u (.one (.fn 61 [.box 1000001 0,.box 1000002 0,.box 1000000 0]))) [some (.box [dI r.1]),some (.box [dI r.2.1]),some (.box [dI r.2.2])]:=by
 refine bY bE _ Tryz.func29 rfl (by kernel_rfl) (by simp[Tryz.ntmps29]) (by simp) (by first | rfl | simp) (by first | rfl | simp) fun cx hn hk=>?_
 replace hn:cx.n=26:=hn.trans Tryz.ntmps29
 replace hk:cx.k=0:=hk
 unfold iL at hm
 refine srs hn ?_
 simp -dsimp
 refine gz bE mixed 6 7 7 0 [[0,1,2,3,4,5]] [[6]] [] none (by rw[hn]; kernel_rfl) cN ?_
 dsimp only [List.take,List.drop,ef,eD,gp,pk,List.cons_append,List.nil_append,List.flatten_cons,List.flatten_nil,cO,cP,List.append_nil]
 obtain⟨y,h1,hm⟩:=bnd hm
 simp -dsimp
 refine br (CtP.pf h1) ?_
 obtain⟨y1,h2,hm⟩:=bnd hm
 simp -dsimp
 refine br (CtP.pf h2) ?_
 simp -dsimp
 refine br (CtP.pf h1) ?_
 simp -dsimp
 refine br (CtP.pf h2) ?_
 simp -dsimp
 obtain⟨_u,j3,hm⟩:=bnd hm
 refine scE [(6,vX 6),(7,vX 7),(8,vX 8)] [(6,.box [dI y1]),(7,.box [dI (bu .i64 gv.W (bU .i64 2 y))]),(8,.box [dI (bu .i64 gv.H (bU .i64 2 y))])] ?_ fun Z O hf=>?_
 ·replace hm:=j3
  clear j3
  refine swp_any mixed (any_or 10 11 (by kernel_rfl) rfl rfl ?_ ?_)
  ·refine any_midp bE [] [0,1,2,3,4,5,6,7,8,9,10,11,12,13] [0,1,2,3,4,5,6,7,8,9,10,11,12,13] 10 13 13 0 [[0,1,2,3,4,5,6,7,8,9],[0,1,2,3,4,5,6,7,8,9],[5,6,7,8,9]] [[7],[8],[]] [] none (by rw[hn]; kernel_rfl) (by dsimp only [dU,k3,adO,rnL,pmL,pk,rnO,rnG,iK,List.cons_append,List.nil_append]<;>exact rfl) cN ?_
   dsimp only [List.take,List.drop,ef,eD,gp,pk,List.cons_append,List.nil_append,List.flatten_cons,List.flatten_nil,cO,cP,List.append_nil]
   simp -dsimp
   cases hm
   exact EE.here (by simp -dsimp)
  ·refine any_midp bE [] [0,1,2,3,4,5,6,7,8,9,11,10,12,13] [0,1,2,3,4,5,6,7,8,9,11,10,12,13] 10 13 13 0 [[0,1,2,3,4,5,6,7,8,9],[0,1,2,3,4,5,6,7,8,9],[5,6,7,8,9]] [[8],[7],[]] [] none (by rw[hn]; kernel_rfl) (by dsimp only [dU,k3,adO,rnL,pmL,pk,rnO,rnG,iK,List.cons_append,List.nil_append]<;>exact rfl) cN ?_
   dsimp only [List.take,List.drop,ef,eD,gp,pk,List.cons_append,List.nil_append,List.flatten_cons,List.flatten_nil,cO,cP,List.append_nil]
   simp -dsimp
   cases hm
   exact EE.here (by simp -dsimp)
 ·clear j3
  simp only[Fits,bv,bw,and_true] at hf
  refine srs hn ?_
  simp -dsimp [hf]
  refine bq ?_
  cases hm
  refine⟨.inr rfl,?_⟩
  refine emr 6 1000000 hk ?_
  refine emr 7 1000001 hk ?_
  refine emr 8 1000002 hk ?_
  exact EE.here (by simp -dsimp [hf])
section
attribute [-simp] List.map_set List.set_set
def ic (cx:Cx) (_l:List Bool) (_vars:List Int) (tt:(List Bool)) (ee:Exit) (Z:Env) (O:Sto):Prop:=match tt with
 | out=>ee=.exit 0/\EE cx (bH [(5,vO 10)] [(10,.row 1 4 (List.map rB out))]) Z O
instance l_ancestor_back_1 (l vars) {fu stt tt}:LtP (bm (kg l vars) fu stt=some tt) (lp 27 stt (fun | (a,_out)=>[(0,.u (.one (.d (.sl 1 (List.map rB l))))),(5,vO 10),(11,.u (.one (dL vars))),(12,vI (bf vars)),(13,vI a)]) (fun | (_a,out)=>[(10,.row 1 4 (List.map rB out))]) (cD [1,1,0,1,0,0] (bC Tryz.f37)) fun cx=>ic cx l vars tt):=⟨fun hh cx hn Z O hE=>by
 refine bZ hE hh (ic cx l vars) ?_
 rintro⟨a,out⟩ r hm Z O hf
 simp only[Fits,bv,bw,and_true] at hf
 unfold kg at hm
 dsimp only at hm
 refine srs hn ?_
 simp -dsimp [hf]
 refine ba ?_
 rcases bz hm with ⟨c2,hm⟩ | ⟨c2,hm⟩
 ·refine bg (by simp -dsimp) c2 ?_
  refine be (b9 (ba (bb ?_)))
  refine srs hn ?_
  obtain⟨x,h3,hm⟩:=bnd hm
  simp -dsimp [hf,c2,h3]
  refine sr1 hn ?_
  obtain⟨x1,h4,hm⟩:=bnd hm
  obtain⟨x2,h5,hm⟩:=bnd hm
  simp -dsimp [hf,h4,h5,bV h5,rsetB out a.toNat x1]
  refine ca ?_
  refine b9 ?_
  refine sr1 hn ?_
  simp -dsimp [hf]
  cases hm
  refine bW ?_
  exact EE.here (by simp -dsimp [hf])
 ·refine bi (by simp -dsimp) c2 ?_
  refine gR ?_
  refine cw ?_
  cases hm
  refine jG nofun ?_
  unfold ic
  dsimp only
  refine⟨rfl,?_⟩
  exact EE.here (by simp -dsimp [hf,c2])⟩
instance c_ancestor_back (l vars r):CtP (lA l vars=some r) (bj Tryz.prog 37 [.u (.one (.d (.sl 1 (List.map rB l)))),.u (.one (dL vars))] (.u (.one (.d (.sl 1 (List.map rB r)))))):=⟨fun hm=>by
 refine db Tryz.func37 Tryz.ntmps37 fun cx hn=>?_
 unfold lA at hm
 refine srs hn ?_
 simp -dsimp
 refine srs hn ?_
 obtain⟨l1,h1,hm⟩:=bnd hm
 obtain⟨⟨h1a,h1b,h1c⟩,rfl⟩:=mC h1
 rw[Int.mul_one] at h1c
 simp -dsimp [h1a,h1c]
 refine ba ?_
 refine srs hn ?_
 simp -dsimp
 refine bb ?_
 obtain⟨out,g6,hm⟩:=bnd hm
 refine bG (LtP.pf g6 cx hn) (by
   try dsimp only
   exact EE.here (by simp -dsimp)
 ) fun ee Z O xx=>?_
 unfold ic at xx
 dsimp only at xx
 obtain⟨rfl,xx⟩:=xx
 refine bA ?_
 refine b9 ?_
 refine see xx fun Z O hf=>?_
 simp only[Fits,bv,bw,and_true] at hf
 refine srs hn ?_
 simp -dsimp [hf]
 refine bq ?_
 cases hm
 refine⟨.inr rfl,?_⟩
 exact EE.here (by simp -dsimp [hf])⟩
end
def jr (cx:Cx) (_l:List Bool) (tt:Int) (ee:Exit) (Z:Env) (O:Sto):Prop:=match tt with
 | n=>ee=.exit 0/\EE cx (bH [(3,vI n)] []) Z O
instance l_lower_State_1 (l) {fu stt tt}:LtP (bm (lD l) fu stt=some tt) (lp 23 stt (fun | (n,a)=>[(3,vI n),(9,.u (.one (.d (.sl 1 (List.map rB l))))),(10,vI (bf l)),(11,vI a)]) (fun | (_n,_a)=>[]) (cD [1,1,1,0,1,0,0] (bC Tryz.f62)) fun cx=>jr cx l tt):=⟨fun hh cx hn Z O hE=>by
 refine bZ hE hh (jr cx l) ?_
 rintro⟨n,a⟩ r hm Z O hf
 simp only[Fits,bv,bw,and_true] at hf
 unfold lD at hm
 dsimp only at hm
 refine srs hn ?_
 simp -dsimp [hf]
 refine ba ?_
 rcases bz hm with ⟨c2,hm⟩ | ⟨c2,hm⟩
 ·refine bg (by simp -dsimp) c2 ?_
  refine be (b9 ?_)
  obtain⟨n1,j6,hm⟩:=bnd hm
  refine scE [(3,vI n1),(9,.u (.one (.d (.sl 1 (List.map rB l))))),(10,vI (bf l)),(11,vI a)] [] ?_ fun Z O hf=>?_
  ·replace hm:=j6
   clear j6
   refine bb ?_
   refine srs hn ?_
   obtain⟨x,h3,hm⟩:=bnd hm
   simp -dsimp [hf,c2,h3]
   refine srs hn ?_
   simp -dsimp
   rcases bz hm with ⟨c4,hm⟩ | ⟨c4,hm⟩
   ·refine bg (by simp -dsimp) c4 ?_
    refine sr1 hn ?_
    obtain⟨n1,h5,hm⟩:=bnd hm
    simp -dsimp [hf,c4,h5]
    refine ca ?_
    cases hm
    exact EE.here (by simp -dsimp [hf])
   ·refine bi (by simp -dsimp) c4 ?_
    refine be ?_
    refine ca ?_
    cases hm
    exact EE.here (by simp -dsimp [hf,c4])
  ·clear j6
   simp only[Fits,bv,bw,and_true] at hf
   refine sr1 hn ?_
   simp -dsimp [hf]
   cases hm
   refine bW ?_
   exact EE.here (by simp -dsimp [hf])
 ·refine bi (by simp -dsimp) c2 ?_
  refine gR ?_
  refine cw ?_
  cases hm
  refine jG nofun ?_
  unfold jr
  dsimp only
  refine⟨rfl,?_⟩
  exact EE.here (by simp -dsimp [hf,c2])⟩
instance c_lower_State (l r):CtP (nv l=some r) (bj Tryz.prog 62 [.u (.one (.d (.sl 1 (List.map rB l))))] (vI r)):=⟨fun hm=>by
 refine db Tryz.func62 Tryz.ntmps62 fun cx hn=>?_
 unfold nv at hm
 refine srs hn ?_
 simp -dsimp
 refine ba ?_
 refine srs hn ?_
 simp -dsimp
 rcases bz hm with ⟨c1,hm⟩ | ⟨c1,hm⟩
 ·refine sct c1 ?_
  refine srs hn ?_
  simp -dsimp [c1]
  refine bq (cw ?_)
  cases hm
  refine⟨.inr rfl,?_⟩
  exact EE.here (by simp -dsimp)
 ·refine scf c1 ?_
  refine be (b9 ?_)
  refine srs hn ?_
  simp -dsimp [c1]
  refine ba ?_
  refine srs hn ?_
  simp -dsimp
  refine bb ?_
  obtain⟨n,g7,hm⟩:=bnd hm
  refine bG (LtP.pf g7 cx hn) (by
    try dsimp only
    exact EE.here (by simp -dsimp)
  ) fun ee Z O xx=>?_
  unfold jr at xx
  dsimp only at xx
  obtain⟨rfl,xx⟩:=xx
  refine bA ?_
  refine b9 ?_
  refine see xx fun Z O hf=>?_
  simp only[Fits,bv,bw,and_true] at hf
  refine srs hn ?_
  simp -dsimp [hf]
  refine bq ?_
  cases hm
  refine⟨.inr rfl,?_⟩
  exact EE.here (by simp -dsimp)⟩
end Go.Proofs.YtbgliammfkgfoaaGreatDoor
