/- That the code does what the functions say (made by cc.py). -/
import Derived.Test.YtjlckgeecihpbaaGreatDoorWa13
namespace Go.Proofs.YtjlckgeecihpbaaGreatDoor
open Go.AM Go.Proofs
set_option maxRecDepth 100000
attribute [-simp] ey eY i7 Ob.wipe Ob.ren Ob.frz1
def lG (cx:Cx) (f:Bh) (l:List Bool) (a:Int) (last:List (List Int)) (_x:List Int) (tt:Int) (ee:Exit) (Z:Env) (O:Sto):Prop:=match tt with
 | v=>ee=.exit 2/\EE cx (bH [(1,.u (.one (.d (.sl 1 (List.map rB l))))),(2,vX 2),(5,vO 18),(6,vI a),(7,vI v),(21,vI (b8 f.Clauses)),(22,vI a)] [(2,.box [dI f.Vars,.d (.sl 1 (List.map (rS 1 (rI .i64)) f.Clauses))]),(18,.nest 26 3 1 (iU (rI .i64) last))]) Z O
set_option maxHeartbeats 1000000 in
instance l_L45_completes_2 (f l a last x) {fu stt tt}:LtP (ba (eD f l a last x) fu stt=some tt) (lp 124 stt (fun | (v,a1)=>[(1,.u (.one (.d (.sl 1 (List.map rB l))))),(2,vX 2),(5,vO 18),(6,vI a),(7,vI v),(21,vI (b8 f.Clauses)),(22,vI a),(29,.u (.one (dL x))),(30,vI (b8 x)),(31,vI a1)]) (fun | (_v,_a1)=>[(2,.box [dI f.Vars,.d (.sl 1 (List.map (rS 1 (rI .i64)) f.Clauses))]),(18,.nest 26 3 1 (iU (rI .i64) last))]) (cC [1,1,0,1,0,0,1,1,0,0,1,1,0,1,0,0] (bD Tryz.f9)) fun cx=>lG cx f l a last x tt):=⟨fun hh cx hn Z O hE=>by
 refine bN hE hh (lG cx f l a last x) ?_
 rintro⟨v,a1⟩ r hm Z O hf
 simp only[Fits,bB,bA,and_true] at hf
 unfold eD at hm
 exact zz⟩
def l8 (cx:Cx) (f:Bh) (l:List Bool) (tt:Bool ⊕ (List (List Int))) (ee:Exit) (Z:Env) (O:Sto):Prop:=match tt with
 | .inl r=>ee=.ret/\EE cx (fun Z O=>∃ v,fC tb Z O Tryz.f9.results.toList=some v/\(v.frz O).free=true/\(v.frz O).wk (vT r)) Z O
 | .inr last=>ee=.exit 0/\EE cx (bH [(1,.u (.one (.d (.sl 1 (List.map rB l))))),(2,vX 2),(5,vO 18)] [(2,.box [dI f.Vars,.d (.sl 1 (List.map (rS 1 (rI .i64)) f.Clauses))]),(18,.nest 26 3 1 (iU (rI .i64) last))]) Z O
set_option maxHeartbeats 1000000 in
instance l_L45_completes_1 (f l) {fu stt tt}:LtP (ba (eC f l) fu stt=some tt) (lp 124 stt (fun | (a,_last)=>[(1,.u (.one (.d (.sl 1 (List.map rB l))))),(2,vX 2),(5,vO 18),(21,vI (b8 f.Clauses)),(22,vI a)]) (fun | (_a,last)=>[(2,.box [dI f.Vars,.d (.sl 1 (List.map (rS 1 (rI .i64)) f.Clauses))]),(18,.nest 26 3 1 (iU (rI .i64) last))]) (cC [1,1,0,1,0,0] (bD Tryz.f9)) fun cx=>l8 cx f l tt):=⟨fun hh cx hn Z O hE=>by
 refine bN hE hh (l8 cx f l) ?_
 rintro⟨a,last⟩ r hm Z O hf
 simp only[Fits,bB,bA,and_true] at hf
 unfold eC at hm
 dsimp only at hm
 refine srs hn ?_
 simp -dsimp [hf]
 refine aZ ?_
 rcases bz hm with ⟨c2,hm⟩ | ⟨c2,hm⟩
 ·refine b9 (by simp -dsimp) c2 ?_
  refine b0 (aY (aZ (b7 ?_)))
  refine srs hn ?_
  simp -dsimp [hf,c2]
  refine srs hn ?_
  simp -dsimp
  refine aZ ?_
  refine srs hn ?_
  obtain⟨x,h3,hm⟩:=bnd hm
  simp -dsimp [hf,h3]
  refine b7 ?_
  obtain⟨v,g6,hm⟩:=bnd hm
  refine bG (LtP.pf g6 cx hn) (by
    try dsimp only
    exact EE.here (by simp -dsimp [hf])
  ) fun ee Z O xx=>?_
  unfold lG at xx
  dsimp only at xx
  obtain⟨rfl,xx⟩:=xx
  refine bK ?_
  refine aY ?_
  refine see xx fun Z O hf=>?_
  simp only[Fits,bB,bA,and_true] at hf
  refine aZ ?_
  refine srs hn ?_
  simp -dsimp [hf]
  rcases bz hm with ⟨c7,hm⟩ | ⟨c7,hm⟩
  ·exact zz
  ·refine bf (by simp -dsimp) c7 ?_
   refine b0 (aY ?_)
   obtain⟨x1,h8,hm⟩:=bnd hm
   obtain⟨l2,h9,hm⟩:=bnd hm
   obtain⟨h9a,h9e⟩:=bQ h9
   replace h9e:=h9e.symm
   subst h9e
   try simp only[List.length_cons,List.length_nil,Nat.zero_add] at h9a
   refine Swp.pre (Wk.focN 18 50 26 3 1 (rI .i64) last x1 (by simp -dsimp [hf]) h8 (by decide) (by decide)) ?_
   refine sr1 hn ?_
   simp -dsimp [hf,c7,nels_idxs (f:=(rI .i64)) h8,h9a,nels_lt h8]
   refine cr ?_
   refine aY ?_
   refine Swp.pre (Wk.unfN 18 53 v.toNat 26 3 1 (rI .i64) last (x1++[a]) (by simp -dsimp) (idx_lt2 h8) (by simp -dsimp) (by decide)) ?_
   exact zz
 ·exact zz⟩
def om (cx:Cx) (f:Bh) (l:List Bool) (last:List (List Int)) (v:Int) (tt:((List Bool)×Bool)) (ee:Exit) (Z:Env) (O:Sto):Prop:=match tt with
 | (aH,good)=>ee=.exit 6/\EE cx (bH [(1,.u (.one (.d (.sl 1 (List.map rB l))))),(2,vX 2),(5,vO 18),(10,.u (.one (.d (.sl 1 (List.map rB aH))))),(11,vI v),(12,vT good)] [(2,.box [dI f.Vars,.d (.sl 1 (List.map (rS 1 (rI .i64)) f.Clauses))]),(18,.nest 26 3 1 (iU (rI .i64) last))]) Z O
set_option maxHeartbeats 1000000 in
instance l_L45_completes_4 (f l last v) {fu stt tt}:LtP (ba (dr f l last v) fu stt=some tt) (lp 124 stt (fun | (aH,good,k)=>[(1,.u (.one (.d (.sl 1 (List.map rB l))))),(2,vX 2),(5,vO 18),(10,.u (.one (.d (.sl 1 (List.map rB aH))))),(11,vI v),(12,vT good),(13,vI k)]) (fun | (_aH,_good,_k)=>[(2,.box [dI f.Vars,.d (.sl 1 (List.map (rS 1 (rI .i64)) f.Clauses))]),(18,.nest 26 3 1 (iU (rI .i64) last))]) (cC [1,1,1,1,1,0,1,0,0,1,0,0,1,0,1,0,0] (bD Tryz.f9)) fun cx=>om cx f l last v tt):=⟨fun hh cx hn Z O hE=>by
 refine bN hE hh (om cx f l last v) ?_
 rintro⟨aH,good,k⟩ r hm Z O hf
 simp only[Fits,bB,bA,and_true] at hf
 unfold dr at hm
 dsimp only at hm
 refine aZ ?_
 obtain⟨a1,j28,hm⟩:=bnd hm
 refine scE [(1,.u (.one (.d (.sl 1 (List.map rB l))))),(2,vX 2),(5,vO 18),(10,.u (.one (.d (.sl 1 (List.map rB aH))))),(11,vI v),(12,vT good),(13,vI k),(79,vT a1)] [(2,.box [dI f.Vars,.d (.sl 1 (List.map (rS 1 (rI .i64)) f.Clauses))]),(18,.nest 26 3 1 (iU (rI .i64) last))] ?_ fun Z O hf=>?_
 ·replace hm:=j28
  clear j28
  exact zz
 ·clear j28
  simp only[Fits,bB,bA,and_true] at hf
  rcases bz hm with ⟨c16,hm⟩ | ⟨c16,hm⟩
  ·refine b9 (by simp -dsimp [hf]) c16 ?_
   refine b0 (aY ?_)
   obtain⟨⟨values2,good1⟩,j27,hm⟩:=bnd hm
   refine scE [(1,.u (.one (.d (.sl 1 (List.map rB l))))),(2,vX 2),(5,vO 18),(10,.u (.one (.d (.sl 1 (List.map rB values2))))),(11,vI v),(12,vT good1),(13,vI k)] [(2,.box [dI f.Vars,.d (.sl 1 (List.map (rS 1 (rI .i64)) f.Clauses))]),(18,.nest 26 3 1 (iU (rI .i64) last))] ?_ fun Z O hf=>?_
   ·replace hm:=j27
    clear j27
    refine b7 ?_
    refine srs hn ?_
    simp -dsimp [hf]
    refine aZ ?_
    obtain⟨a2,j26,hm⟩:=bnd hm
    refine scE [(1,.u (.one (.d (.sl 1 (List.map rB l))))),(2,vX 2),(5,vO 18),(10,.u (.one (.d (.sl 1 (List.map rB aH))))),(11,vI v),(12,vT good),(13,vI k),(14,vT (eqB k 1)),(96,vT a2)] [(2,.box [dI f.Vars,.d (.sl 1 (List.map (rS 1 (rI .i64)) f.Clauses))]),(18,.nest 26 3 1 (iU (rI .i64) last))] ?_ fun Z O hf=>?_
    ·replace hm:=j26
     clear j26
     exact zz
    ·clear j26
     simp only[Fits,bB,bA,and_true] at hf
     rcases bz hm with ⟨c19,hm⟩ | ⟨c19,hm⟩
     ·exact zz
     ·refine bf (by simp -dsimp [hf]) c19 ?_
      refine b0 (aY ?_)
      obtain⟨x,h20,hm⟩:=bnd hm
      obtain⟨l2,h21,hm⟩:=bnd hm
      obtain⟨l3,h22,hm⟩:=bnd hm
      obtain⟨h22a,h22e⟩:=bQ h22
      replace h22e:=h22e.symm
      subst h22e
      try simp only[List.length_cons,List.length_nil,Nat.zero_add] at h22a
      try simp only[Nat.mul_one,Nat.reduceLeDiff] at h22a
      obtain⟨y,h23,hm⟩:=bnd hm
      refine Swp.pre (Wk.focN 18 101 26 3 1 (rI .i64) last x (by simp -dsimp [hf]) h20 (by decide) (by decide)) ?_
      refine ja bO mixed 13 14 14 0 [[0,1,2,3,4]] [[110]] [] none (by rw[hn]; kernel_rfl) ep ?_
      dsimp only [List.take,List.drop,gz,gP,jl,pk,List.cons_append,List.nil_append,List.flatten_cons,List.flatten_nil,dY,dW,List.append_nil]
      simp -dsimp [hf,nels_idxs (f:=(rI .i64)) h20,h21,h22a]
      refine nk (us':=[.u (.agg [dI f.Vars,.d (.sl 1 (List.map (rS 1 (rI .i64)) f.Clauses))]),.u (.one (dL x)),.u (.one (.d (.sl 1 (List.map rB (l2++[(eqB k 1)])))))]) (CtP.pf h23) (by simp -dsimp) rfl (dkL hn) ?_
      simp -dsimp
      refine Swp.pre (Wk.unfS 18 101 26 3 1 (rI .i64) last x (by simp -dsimp) h20 (by simp -dsimp) (by decide)) ?_
      refine srs hn ?_
      simp -dsimp
      rcases bz hm with ⟨c24,hm⟩ | ⟨c24,hm⟩
      ·refine b9 (by simp -dsimp) c24 ?_
       refine sr1 hn ?_
       obtain⟨l4,h25,hm⟩:=bnd hm
       obtain⟨h25a,h25e⟩:=bQ h25
       replace h25e:=h25e.symm
       subst h25e
       try simp only[List.length_cons,List.length_nil,Nat.zero_add] at h25a
       try simp only[Nat.mul_one,Nat.reduceLeDiff] at h25a
       simp -dsimp [hf,h21,h22a,c24]
       refine cr ?_
       refine aY ?_
       cases hm
       refine EE.step (Wk.frz 121 1 4 (List.map rB (l2++[(eqB k 1)])) (by simp -dsimp)) ?_
       exact zz
      ·exact zz
   ·clear j27
    exact zz
  ·exact zz⟩
def ot (cx:Cx) (_f:Bh) (_l:List Bool) (_last:List (List Int)) (tt:Bool ⊕ Unit) (ee:Exit) (Z:Env) (O:Sto):Prop:=match tt with
 | .inl r=>ee=.ret/\EE cx (fun Z O=>∃ v,fC tb Z O Tryz.f9.results.toList=some v/\(v.frz O).free=true/\(v.frz O).wk (vT r)) Z O
 | .inr _u=>ee=.exit 4/\EE cx (bH [] []) Z O
set_option maxHeartbeats 1000000 in
instance l_L45_completes_3 (f l last) {fu stt tt}:LtP (ba (dT f l last) fu stt=some tt) (lp 124 stt (fun | (values,v)=>[(1,.u (.one (.d (.sl 1 (List.map rB l))))),(2,vX 2),(5,vO 18),(10,.u (.one (.d (.sl 1 (List.map rB values))))),(11,vI v)]) (fun | (_values,_v)=>[(2,.box [dI f.Vars,.d (.sl 1 (List.map (rS 1 (rI .i64)) f.Clauses))]),(18,.nest 26 3 1 (iU (rI .i64) last))]) (cC [1,1,1,1,1,0,1,0,0] (bD Tryz.f9)) fun cx=>ot cx f l last tt):=⟨fun hh cx hn Z O hE=>by
 refine bN hE hh (ot cx f l last) ?_
 rintro⟨values,v⟩ r hm Z O hf
 simp only[Fits,bB,bA,and_true] at hf
 unfold dT at hm
 exact zz⟩
set_option maxHeartbeats 1000000 in
instance c_L45_completes (f l r):CtP (j0 f l=some r) (bc Tryz.prog 9 [.u (.agg [dI f.Vars,.d (.sl 1 (List.map (rS 1 (rI .i64)) f.Clauses))]),.u (.one (.d (.sl 1 (List.map rB l))))] (vT r)):=⟨fun hm=>by
 refine cu Tryz.func9 Tryz.ntmps9 fun cx hn=>?_
 unfold j0 at hm
 refine srs hn ?_
 simp -dsimp
 refine srs hn ?_
 obtain⟨l1,h1,hm⟩:=bnd hm
 obtain⟨⟨h1a,h1b,h1c⟩,rfl⟩:=nu h1
 simp -dsimp [h1a,h1c]
 refine Swp.pre (Wk.toN 18 26 3 1 (rI .i64) (bo .i64 f.Vars 1).toNat (by simp -dsimp) (by decide)) ?_
 refine aZ ?_
 refine srs hn ?_
 simp -dsimp
 refine b7 ?_
 obtain⟨o_,g10,hm⟩:=bnd hm
 refine bG (LtP.pf g10 cx hn) (by
   try dsimp only
   exact EE.here (by simp -dsimp)
 ) fun ee Z O xx=>?_
 rcases o_ with r | last
 ·exact zz
 ·unfold l8 at xx
  dsimp only at xx
  obtain⟨rfl,xx⟩:=xx
  refine bK ?_
  refine aY ?_
  refine see xx fun Z O hf=>?_
  simp only[Fits,bB,bA,and_true] at hf
  refine aZ ?_
  obtain⟨a,j32,hm⟩:=bnd hm
  refine scE [(1,.u (.one (.d (.sl 1 (List.map rB l))))),(2,vX 2),(5,vO 18),(67,vT a)] [(2,.box [dI f.Vars,.d (.sl 1 (List.map (rS 1 (rI .i64)) f.Clauses))]),(18,.nest 26 3 1 (iU (rI .i64) last))] ?_ fun Z O hf=>?_
  ·replace hm:=j32
   clear j32
   obtain⟨x,h11,hm⟩:=bnd hm
   refine Swp.pre (Wk.focN 18 58 26 3 1 (rI .i64) last x (by simp -dsimp [hf]) h11 (by decide) (by decide)) ?_
   refine sr1 hn ?_
   rcases bz hm with ⟨c12,hm⟩ | ⟨c12,hm⟩
   ·simp -dsimp [hf,nels_idxk (f:=(rI .i64)) (k:=0) rfl h11,c12]
    refine aY ?_
    refine EE.step (Wk.unfS 18 58 26 3 1 (rI .i64) last x (by simp -dsimp) h11 (by simp -dsimp) (by decide)) ?_
    exact zz
   ·simp -dsimp [hf,nels_idxk (f:=(rI .i64)) (k:=0) rfl h11,c12]
    refine aY ?_
    refine EE.step (Wk.unfS 18 58 26 3 1 (rI .i64) last x (by simp -dsimp) h11 (by simp -dsimp) (by decide)) ?_
    exact zz
  ·clear j32
   simp only[Fits,bB,bA,and_true] at hf
   rcases bz hm with ⟨c13,hm⟩ | ⟨c13,hm⟩
   ·exact zz
   ·refine bf (by simp -dsimp [hf]) c13 ?_
    refine b0 (aY ?_)
    refine srs hn ?_
    simp -dsimp
    refine aZ ?_
    refine srs hn ?_
    simp -dsimp
    refine b7 ?_
    obtain⟨o_1,g31,hm⟩:=bnd hm
    refine bG (LtP.pf g31 cx hn) (by
      try dsimp only
      refine EE.here ?_
      exact zz
    ) fun ee Z O xx=>?_
    rcases o_1 with r | _u
    ·exact zz
    ·exact zz⟩
instance c_L45_UnrollSolutions (t x p r):CtP (gt t x p=some r) (bc Tryz.prog 3 [.u (.agg [dI t.States,dR2 t.Hood,dR1 t.Nodes]),.u (.agg [dI x.W,dI x.H,dI x.Gens,dI x.DX,dI x.DY,dL x.Syms]),.u (.one (dR0 p))] (vT r)):=⟨fun hm=>by
 refine cu Tryz.func3 Tryz.ntmps3 fun cx hn=>?_
 unfold gt at hm
 refine srs hn ?_
 simp -dsimp
 refine aZ ?_
 obtain⟨a,j18,hm⟩:=bnd hm
 refine scE [(2,.u (.one (dR0 p))),(3,vX 3),(4,vX 4),(22,vT a)] [(3,.box [dI t.States,dR2 t.Hood,dR1 t.Nodes]),(4,.box [dI x.W,dI x.H,dI x.Gens,dI x.DX,dI x.DY,dL x.Syms])] ?_ fun Z O hf=>?_
 ·replace hm:=j18
  clear j18
  exact zz
 ·clear j18
  simp only[Fits,bB,bA,and_true] at hf
  rcases bz hm with ⟨c3,hm⟩ | ⟨c3,hm⟩
  ·exact zz
  ·refine bf (by simp -dsimp [hf]) c3 ?_
   refine b0 (aY ?_)
   refine srs hn ?_
   obtain⟨y,h5,hm⟩:=bnd hm
   simp -dsimp [hf]
   refine bi (CtP.pf h5) (dkL hn) ?_
   simp -dsimp
   refine srs hn ?_
   obtain⟨y1,h6,hm⟩:=bnd hm
   simp -dsimp [hf]
   refine bi (CtP.pf h6) (dkL hn) ?_
   simp -dsimp
   refine aZ ?_
   obtain⟨a1,j17,hm⟩:=bnd hm
   refine scE [(2,.u (.one (dR0 p))),(3,vX 3),(4,vX 4),(7,vX 7),(8,vI y.2.1),(10,.u (.one (.d (.sl 1 (List.map rB y1.1))))),(43,vT a1)] [(3,.box [dI t.States,dR2 t.Hood,dR1 t.Nodes]),(4,.box [dI x.W,dI x.H,dI x.Gens,dI x.DX,dI x.DY,dL x.Syms]),(7,.box [dI y.1.Vars,.d (.sl 1 (List.map (rS 1 (rI .i64)) y.1.Clauses))])] ?_ fun Z O hf=>?_
   ·replace hm:=j17
    clear j17
    exact zz
   ·clear j17
    simp only[Fits,bB,bA,and_true] at hf
    rcases bz hm with ⟨c8,hm⟩ | ⟨c8,hm⟩
    ·exact zz
    ·refine bf (by simp -dsimp [hf]) c8 ?_
     refine b0 (aY ?_)
     refine srs hn ?_
     obtain⟨y2,h10,hm⟩:=bnd hm
     simp -dsimp [hf]
     refine bi (CtP.pf h10) (dkL hn) ?_
     simp -dsimp
     obtain⟨a2,j16,hm⟩:=bnd hm
     refine scE [(6,vT a2)] [] ?_ fun Z O hf=>?_
     ·replace hm:=j16
      clear j16
      exact zz
     ·clear j16
      exact zz⟩
end Go.Proofs.YtjlckgeecihpbaaGreatDoor
