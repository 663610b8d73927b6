/- That the code does what the functions say (made by cc.py). -/
import Derived.Test.YtlifofijgddjkacGreatDoorTb
namespace Go.Proofs.YtlifofijgddjkacGreatDoor
open Go.AM Go.Proofs
set_option maxRecDepth 100000
attribute [-simp] eR fS jn Ob.wipe Ob.ren Ob.frz1
def iO (cx:Cx) (f:B9) (which:List Int) (values:List Bool) (a:Int) (_x1:List Int) (tt:Bool) (ee:Exit) (Z:Env) (O:Sto):Prop:=match tt with
 | ok=>ee=.exit 2/\EE cx (bY [(2,.u (.one (.d (.sl 1 (List.map rB values))))),(3,vX 3),(9,vT ok),(12,.u (.one (dL which))),(13,vI (b9 which)),(14,vI a)] [(3,.box [dI f.Vars,.d (.sl 1 (List.map (rS 1 (rI .i64)) f.Clauses))])]) Z O
theorem l_L45_satisfied_2 (cx:Cx) (hn:cx.n=46) (f:B9) (which:List Int) (values:List Bool) (a:Int) (x1:List Int) {fu:Nat} {stt:Bool×Int} {tt:Bool} (hh:bh (ev f which values a x1) fu stt=some tt) {Z:Env} {O:Sto}
  (hE:cw (fun stt:Bool×Int=>match stt with | (ok,a1)=>[(2,.u (.one (.d (.sl 1 (List.map rB values))))),(3,vX 3),(9,vT ok),(12,.u (.one (dL which))),(13,vI (b9 which)),(14,vI a),(22,.u (.one (dL x1))),(23,vI (b9 x1)),(24,vI a1)]) (fun stt:Bool×Int=>match stt with | (_ok,_a1)=>[(3,.box [dI f.Vars,.d (.sl 1 (List.map (rS 1 (rI .i64)) f.Clauses))])]) stt Z O):Swp Tryz.prog cx (.loop (dx [1,0,1,0,0,1,1,0,0,1,1,0,1,0,0] (bQ Tryz.f30))) Z O (iO cx f which values a x1 tt):=by
 refine cz hE hh (iO cx f which values a x1) ?_
 rintro⟨ok,a1⟩ r hm Z O hf
 simp only[Fits,bv,bu,and_true] at hf
 unfold ev at hm
 dsimp only at hm
 refine srs hn ?_
 simp -dsimp [hf]
 refine aZ ?_
 rcases bc hm with ⟨c4,hm⟩ | ⟨c4,hm⟩
 ·refine aW (by simp -dsimp) c4 ?_
  refine aY (aU (aZ (b7 ?_)))
  refine srs hn ?_
  obtain⟨x2,h5,hm⟩:=bnd hm
  simp -dsimp [hf,c4,h5]
  refine sr1 hn ?_
  rcases bc hm with ⟨c6,hm⟩ | ⟨c6,hm⟩
  ·simp -dsimp [hf,c6]
   refine bI ?_
   refine aU ?_
   refine sr1 hn ?_
   simp -dsimp [hf]
   cases hm
   refine bC ?_
   exact EE.here (by simp -dsimp [hf])
  ·obtain⟨x3,h7,hm⟩:=bnd hm
   simp -dsimp [hf,c6,h7]
   refine bI ?_
   refine aU ?_
   refine sr1 hn ?_
   simp -dsimp [hf]
   cases hm
   refine bC ?_
   exact EE.here (by simp -dsimp [hf])
 ·refine aV (by simp -dsimp) c4 ?_
  refine bp ?_
  refine b8 ?_
  cases hm
  refine bz nofun ?_
  exact⟨rfl,EE.here (by simp -dsimp [hf,c4])⟩
def eX (cx:Cx) (_f:B9) (_which:List Int) (_values:List Bool) (tt:Bool ⊕ Unit) (ee:Exit) (Z:Env) (O:Sto):Prop:=match tt with
 | .inl r=>ee=.ret/\EE cx (fun Z O=>∃ v,iR tb Z O Tryz.f30.results.toList=some v/\(v.frz O).free=true/\(v.frz O).wk (vT r)) Z O
 | .inr _u=>ee=.exit 0/\EE cx (bY [] []) Z O
theorem l_L45_satisfied_1 (cx:Cx) (hn:cx.n=46) (f:B9) (which:List Int) (values:List Bool) {fu:Nat} {stt:Int} {tt:Bool ⊕ Unit} (hh:bh (eg f which values) fu stt=some tt) {Z:Env} {O:Sto}
  (hE:cw (fun a:Int=>[(2,.u (.one (.d (.sl 1 (List.map rB values))))),(3,vX 3),(12,.u (.one (dL which))),(13,vI (b9 which)),(14,vI a)]) (fun _a:Int=>[(3,.box [dI f.Vars,.d (.sl 1 (List.map (rS 1 (rI .i64)) f.Clauses))])]) stt Z O):Swp Tryz.prog cx (.loop (dx [1,0,1,0,0] (bQ Tryz.f30))) Z O (eX cx f which values tt):=by
 refine cz hE hh (eX cx f which values) ?_
 rintro a r hm Z O hf
 simp only[Fits,bv,bu,and_true] at hf
 unfold eg at hm
 dsimp only at hm
 refine srs hn ?_
 simp -dsimp [hf]
 refine aZ ?_
 rcases bc hm with ⟨c1,hm⟩ | ⟨c1,hm⟩
 ·refine aW (by simp -dsimp) c1 ?_
  refine aY (aU (aZ (b7 ?_)))
  refine srs hn ?_
  obtain⟨x,h2,hm⟩:=bnd hm
  simp -dsimp [hf,c1,h2]
  refine srs hn ?_
  simp -dsimp
  refine aZ ?_
  refine srs hn ?_
  obtain⟨x1,h3,hm⟩:=bnd hm
  simp -dsimp [hf,h3]
  refine b7 ?_
  obtain⟨ok,g8,hm⟩:=bnd hm
  refine bP (l_L45_satisfied_2 cx hn f which values a x1 g8) (by
    try dsimp only
    exact EE.here (by simp -dsimp [hf])
  ) fun ee Z O xx=>?_
  unfold iO at xx
  dsimp only at xx
  obtain⟨rfl,xx⟩:=xx
  refine br ?_
  refine aU ?_
  refine see xx fun Z O hf=>?_
  simp only[Fits,bv,bu,and_true] at hf
  refine srs hn ?_
  simp -dsimp [hf]
  rcases bc hm with ⟨c9,hm⟩ | ⟨c9,hm⟩
  ·refine aW (by simp -dsimp) c9 ?_
   refine srs hn ?_
   simp -dsimp [c9]
   refine b0 (cy (b8 ?_))
   cases hm
   refine bz nofun ?_
   exact⟨rfl,EE.here (by simp -dsimp [Tryz.results30])⟩
  ·refine aV (by simp -dsimp) c9 ?_
   refine aY ?_
   refine bI ?_
   refine aU ?_
   refine sr1 hn ?_
   simp -dsimp [hf,c9]
   cases hm
   refine bC ?_
   exact EE.here (by simp -dsimp [hf])
 ·refine aV (by simp -dsimp) c1 ?_
  refine bp ?_
  refine b8 ?_
  cases hm
  refine bz nofun ?_
  exact⟨rfl,EE.here (by simp -dsimp [c1])⟩
theorem c_L45_satisfied (f:B9) (which:List Int) (values:List Bool) (r:Bool) (hm:ez f which values=some r):bg Tryz.prog 30 [.u (.agg [dI f.Vars,.d (.sl 1 (List.map (rS 1 (rI .i64)) f.Clauses))]),.u (.one (dL which)),.u (.one (.d (.sl 1 (List.map rB values))))] (vT r):=by
 refine dG Tryz.func30 Tryz.ntmps30 fun cx hn=>?_
 unfold ez at hm
 refine srs hn ?_
 simp -dsimp
 refine aZ ?_
 refine srs hn ?_
 simp -dsimp
 refine b7 ?_
 obtain⟨o_,g10,hm⟩:=bnd hm
 refine bP (l_L45_satisfied_1 cx hn f which values g10) (by
   try dsimp only
   exact eeh
 ) fun ee Z O xx=>?_
 rcases o_ with r | _u
 ·unfold eX at xx
  dsimp only at xx
  obtain⟨rfl,xx⟩:=xx
  refine cy (b8 ?_)
  cases hm
  exact⟨.inr rfl,xx⟩
 ·unfold eX at xx
  dsimp only at xx
  obtain⟨rfl,xx⟩:=xx
  refine br ?_
  refine aU ?_
  refine see xx fun Z O hf=>?_
  simp only[Fits,bv,bu,and_true] at hf
  refine srs hn ?_
  simp -dsimp
  cases hm
  exact b0 ⟨.inr rfl,EE.here (by simp -dsimp)⟩
def iK (cx:Cx) (f:B9) (l:List Bool) (a:Int) (last:List (List Int)) (_x:List Int) (tt:Int) (ee:Exit) (Z:Env) (O:Sto):Prop:=match tt with
 | v=>ee=.exit 2/\EE cx (bY [(1,.u (.one (.d (.sl 1 (List.map rB l))))),(2,vX 2),(5,vO 18),(6,vI a),(7,vI v),(21,vI (b9 f.Clauses)),(22,vI a)] [(2,.box [dI f.Vars,.d (.sl 1 (List.map (rS 1 (rI .i64)) f.Clauses))]),(18,.nest 26 3 1 (iy (rI .i64) last))]) Z O
set_option maxHeartbeats 1000000 in
theorem l_L45_completes_2 (cx:Cx) (hn:cx.n=124) (f:B9) (l:List Bool) (a:Int) (last:List (List Int)) (x:List Int) {fu:Nat} {stt:Int×Int} {tt:Int} (hh:bh (ep f l a last x) fu stt=some tt) {Z:Env} {O:Sto}
  (hE:cw (fun stt:Int×Int=>match stt with | (v,a1)=>[(1,.u (.one (.d (.sl 1 (List.map rB l))))),(2,vX 2),(5,vO 18),(6,vI a),(7,vI v),(21,vI (b9 f.Clauses)),(22,vI a),(29,.u (.one (dL x))),(30,vI (b9 x)),(31,vI a1)]) (fun stt:Int×Int=>match stt with | (_v,_a1)=>[(2,.box [dI f.Vars,.d (.sl 1 (List.map (rS 1 (rI .i64)) f.Clauses))]),(18,.nest 26 3 1 (iy (rI .i64) last))]) stt Z O):Swp Tryz.prog cx (.loop (dx [1,1,0,1,0,0,1,1,0,0,1,1,0,1,0,0] (bQ Tryz.f10))) Z O (iK cx f l a last x tt):=by
 refine cz hE hh (iK cx f l a last x) ?_
 rintro⟨v,a1⟩ r hm Z O hf
 simp only[Fits,bv,bu,and_true] at hf
 unfold ep at hm
 dsimp only at hm
 refine srs hn ?_
 simp -dsimp [hf]
 refine aZ ?_
 rcases bc hm with ⟨c4,hm⟩ | ⟨c4,hm⟩
 ·refine aW (by simp -dsimp) c4 ?_
  refine aY (aU (aZ (b7 ?_)))
  refine srs hn ?_
  obtain⟨x1,h5,hm⟩:=bnd hm
  simp -dsimp [hf,c4,h5]
  refine sr1 hn ?_
  simp -dsimp [hf]
  refine bI ?_
  refine aU ?_
  refine sr1 hn ?_
  simp -dsimp [hf]
  cases hm
  refine bC ?_
  exact EE.here (by simp -dsimp [hf])
 ·refine aV (by simp -dsimp) c4 ?_
  refine bp ?_
  refine b8 ?_
  cases hm
  refine bz nofun ?_
  exact⟨rfl,EE.here (by simp -dsimp [hf,c4])⟩
def eV (cx:Cx) (f:B9) (l:List Bool) (tt:Bool ⊕ (List (List Int))) (ee:Exit) (Z:Env) (O:Sto):Prop:=match tt with
 | .inl r=>ee=.ret/\EE cx (fun Z O=>∃ v,iR tb Z O Tryz.f10.results.toList=some v/\(v.frz O).free=true/\(v.frz O).wk (vT r)) Z O
 | .inr last=>ee=.exit 0/\EE cx (bY [(1,.u (.one (.d (.sl 1 (List.map rB l))))),(2,vX 2),(5,vO 18)] [(2,.box [dI f.Vars,.d (.sl 1 (List.map (rS 1 (rI .i64)) f.Clauses))]),(18,.nest 26 3 1 (iy (rI .i64) last))]) Z O
set_option maxHeartbeats 1000000 in
theorem l_L45_completes_1 (cx:Cx) (hn:cx.n=124) (f:B9) (l:List Bool) {fu:Nat} {stt:Int×(List (List Int))} {tt:Bool ⊕ (List (List Int))} (hh:bh (eh f l) fu stt=some tt) {Z:Env} {O:Sto}
  (hE:cw (fun stt:Int×(List (List Int))=>match stt with | (a,_last)=>[(1,.u (.one (.d (.sl 1 (List.map rB l))))),(2,vX 2),(5,vO 18),(21,vI (b9 f.Clauses)),(22,vI a)]) (fun stt:Int×(List (List Int))=>match stt with | (_a,last)=>[(2,.box [dI f.Vars,.d (.sl 1 (List.map (rS 1 (rI .i64)) f.Clauses))]),(18,.nest 26 3 1 (iy (rI .i64) last))]) stt Z O):Swp Tryz.prog cx (.loop (dx [1,1,0,1,0,0] (bQ Tryz.f10))) Z O (eV cx f l tt):=by
 refine cz hE hh (eV cx f l) ?_
 rintro⟨a,last⟩ r hm Z O hf
 simp only[Fits,bv,bu,and_true] at hf
 unfold eh at hm
 dsimp only at hm
 refine srs hn ?_
 simp -dsimp [hf]
 refine aZ ?_
 rcases bc hm with ⟨c2,hm⟩ | ⟨c2,hm⟩
 ·refine aW (by simp -dsimp) c2 ?_
  refine aY (aU (aZ (b7 ?_)))
  refine srs hn ?_
  simp -dsimp [hf,c2]
  refine srs hn ?_
  simp -dsimp
  refine aZ ?_
  refine srs hn ?_
  obtain⟨x,h3,hm⟩:=bnd hm
  simp -dsimp [hf,h3]
  refine b7 ?_
  obtain⟨v,g6,hm⟩:=bnd hm
  refine bP (l_L45_completes_2 cx hn f l a last x g6) (by
    try dsimp only
    exact EE.here (by simp -dsimp [hf])
  ) fun ee Z O xx=>?_
  unfold iK at xx
  dsimp only at xx
  obtain⟨rfl,xx⟩:=xx
  refine br ?_
  refine aU ?_
  refine see xx fun Z O hf=>?_
  simp only[Fits,bv,bu,and_true] at hf
  refine aZ ?_
  refine srs hn ?_
  simp -dsimp [hf]
  rcases bc hm with ⟨c7,hm⟩ | ⟨c7,hm⟩
  ·refine aW (by simp -dsimp) c7 ?_
   refine srs hn ?_
   simp -dsimp [c7]
   refine b0 (b8 (cy (b8 ?_)))
   cases hm
   refine bz nofun ?_
   exact⟨rfl,EE.here (by simp -dsimp [Tryz.results10])⟩
  ·refine aV (by simp -dsimp) c7 ?_
   refine aY (aU ?_)
   obtain⟨x1,h8,hm⟩:=bnd hm
   obtain⟨l2,h9,hm⟩:=bnd hm
   obtain⟨h9a,h9e⟩:=ct h9
   replace h9e:=h9e.symm
   subst h9e
   try simp only[List.length_cons,List.length_nil,Nat.zero_add] at h9a
   refine Swp.pre (Wk.focN 18 50 26 3 1 (rI .i64) last x1 (by simp -dsimp [hf]) h8 (by decide) (by decide)) ?_
   refine sr1 hn ?_
   simp -dsimp [hf,c7,nels_idxs (f:=(rI .i64)) h8,h9a,nels_lt (_f:=(rI .i64)) h8]
   refine bI ?_
   refine aU ?_
   refine Swp.pre (Wk.unfN 18 53 v.toNat 26 3 1 (rI .i64) last (x1++[a]) (by simp -dsimp) (idx_lt2 h8) (by simp -dsimp) (by decide)) ?_
   refine sr1 hn ?_
   simp -dsimp [hf]
   cases hm
   refine bC ?_
   exact EE.here (by simp -dsimp [hf])
 ·refine aV (by simp -dsimp) c2 ?_
  refine bp ?_
  refine b8 ?_
  cases hm
  refine bz nofun ?_
  exact⟨rfl,EE.here (by simp -dsimp [hf,c2])⟩
def iG (cx:Cx) (f:B9) (l:List Bool) (last:List (List Int)) (v:Int) (tt:((List Bool)×Bool)) (ee:Exit) (Z:Env) (O:Sto):Prop:=match tt with
 | (aJ,good)=>ee=.exit 6/\EE cx (bY [(1,.u (.one (.d (.sl 1 (List.map rB l))))),(2,vX 2),(5,vO 18),(10,.u (.one (.d (.sl 1 (List.map rB aJ))))),(11,vI v),(12,vT good)] [(2,.box [dI f.Vars,.d (.sl 1 (List.map (rS 1 (rI .i64)) f.Clauses))]),(18,.nest 26 3 1 (iy (rI .i64) last))]) Z O
set_option maxHeartbeats 1000000 in
theorem l_L45_completes_4 (cx:Cx) (hn:cx.n=124) (f:B9) (l:List Bool) (last:List (List Int)) (v:Int) {fu:Nat} {stt:(List Bool)×Bool×Int} {tt:((List Bool)×Bool)} (hh:bh (di f l last v) fu stt=some tt) {Z:Env} {O:Sto}
  (hE:cw (fun stt:(List Bool)×Bool×Int=>match stt with | (aJ,good,k)=>[(1,.u (.one (.d (.sl 1 (List.map rB l))))),(2,vX 2),(5,vO 18),(10,.u (.one (.d (.sl 1 (List.map rB aJ))))),(11,vI v),(12,vT good),(13,vI k)]) (fun stt:(List Bool)×Bool×Int=>match stt with | (_aJ,_good,_k)=>[(2,.box [dI f.Vars,.d (.sl 1 (List.map (rS 1 (rI .i64)) f.Clauses))]),(18,.nest 26 3 1 (iy (rI .i64) last))]) stt Z O):Swp Tryz.prog cx (.loop (dx [1,1,1,1,1,0,1,0,0,1,0,0,1,0,1,0,0] (bQ Tryz.f10))) Z O (iG cx f l last v tt):=by
 refine cz hE hh (iG cx f l last v) ?_
 rintro⟨aJ,good,k⟩ r hm Z O hf
 simp only[Fits,bv,bu,and_true] at hf
 unfold di at hm
 dsimp only at hm
 refine aZ ?_
 obtain⟨a1,j28,hm⟩:=bnd hm
 refine scE [(1,.u (.one (.d (.sl 1 (List.map rB l))))),(2,vX 2),(5,vO 18),(10,.u (.one (.d (.sl 1 (List.map rB aJ))))),(11,vI v),(12,vT good),(13,vI k),(79,vT a1)] [(2,.box [dI f.Vars,.d (.sl 1 (List.map (rS 1 (rI .i64)) f.Clauses))]),(18,.nest 26 3 1 (iy (rI .i64) last))] ?_ fun Z O hf=>?_
 ·replace hm:=j28
  clear j28
  refine sr1 hn ?_
  rcases bc hm with ⟨c15,hm⟩ | ⟨c15,hm⟩
  ·simp -dsimp [hf,c15]
   cases hm
   exact EE.here (by simp -dsimp [hf])
  ·simp -dsimp [hf,c15]
   cases hm
   exact EE.here (by simp -dsimp [hf])
 ·clear j28
  simp only[Fits,bv,bu,and_true] at hf
  rcases bc hm with ⟨c16,hm⟩ | ⟨c16,hm⟩
  ·refine aW (by simp -dsimp [hf]) c16 ?_
   refine aY (aU ?_)
   obtain⟨⟨values2,good1⟩,j27,hm⟩:=bnd hm
   refine scE [(1,.u (.one (.d (.sl 1 (List.map rB l))))),(2,vX 2),(5,vO 18),(10,.u (.one (.d (.sl 1 (List.map rB values2))))),(11,vI v),(12,vT good1),(13,vI k)] [(2,.box [dI f.Vars,.d (.sl 1 (List.map (rS 1 (rI .i64)) f.Clauses))]),(18,.nest 26 3 1 (iy (rI .i64) last))] ?_ fun Z O hf=>?_
   ·replace hm:=j27
    clear j27
    refine b7 ?_
    refine srs hn ?_
    simp -dsimp [hf]
    refine aZ ?_
    obtain⟨a2,j26,hm⟩:=bnd hm
    refine scE [(1,.u (.one (.d (.sl 1 (List.map rB l))))),(2,vX 2),(5,vO 18),(10,.u (.one (.d (.sl 1 (List.map rB aJ))))),(11,vI v),(12,vT good),(13,vI k),(14,vT (eqB k 1)),(96,vT a2)] [(2,.box [dI f.Vars,.d (.sl 1 (List.map (rS 1 (rI .i64)) f.Clauses))]),(18,.nest 26 3 1 (iy (rI .i64) last))] ?_ fun Z O hf=>?_
    ·replace hm:=j26
     clear j26
     refine sr1 hn ?_
     rcases bc hm with ⟨c17,hm⟩ | ⟨c17,hm⟩
     ·obtain⟨x,h18,hm⟩:=bnd hm
      simp -dsimp [hf,c17,h18]
      cases hm
      exact EE.here (by simp -dsimp [hf])
     ·simp -dsimp [hf,c17]
      cases hm
      exact EE.here (by simp -dsimp [hf])
    ·clear j26
     simp only[Fits,bv,bu,and_true] at hf
     rcases bc hm with ⟨c19,hm⟩ | ⟨c19,hm⟩
     ·refine aW (by simp -dsimp [hf]) c19 ?_
      refine bp ?_
      refine b8 ?_
      refine br ?_
      cases hm
      exact EE.here (by simp -dsimp [hf])
     ·refine aV (by simp -dsimp [hf]) c19 ?_
      refine aY (aU ?_)
      obtain⟨x,h20,hm⟩:=bnd hm
      obtain⟨l2,h21,hm⟩:=bnd hm
      obtain⟨l3,h22,hm⟩:=bnd hm
      obtain⟨h22a,h22e⟩:=ct h22
      replace h22e:=h22e.symm
      subst h22e
      try simp only[List.length_cons,List.length_nil,Nat.zero_add] at h22a
      try simp only[Nat.mul_one,Nat.reduceLeDiff] at h22a
      obtain⟨y,h23,hm⟩:=bnd hm
      refine Swp.pre (Wk.focN 18 101 26 3 1 (rI .i64) last x (by simp -dsimp [hf]) h20 (by decide) (by decide)) ?_
      refine k9 bL mixed 13 14 14 0 [[0,1,2,3,4]] [[110]] [] none (by rw[hn]; kernel_rfl) fb ?_
      dsimp only [List.take,List.drop,gL,gU,jx,pk,List.cons_append,List.nil_append,List.flatten_cons,List.flatten_nil,eJ,eK,List.append_nil]
      simp -dsimp [hf,nels_idxs (f:=(rI .i64)) h20,h21,h22a]
      refine m8 (us':=[.u (.agg [dI f.Vars,.d (.sl 1 (List.map (rS 1 (rI .i64)) f.Clauses))]),.u (.one (dL x)),.u (.one (.d (.sl 1 (List.map rB (l2++[(eqB k 1)])))))]) (c_L45_satisfied f x (l2++[(eqB k 1)]) y h23) (by simp -dsimp) rfl (dkL hn) ?_
      simp -dsimp
      refine Swp.pre (Wk.unfS 18 101 26 3 1 (rI .i64) last x (by simp -dsimp) h20 (by simp -dsimp) (by decide)) ?_
      refine srs hn ?_
      simp -dsimp
      rcases bc hm with ⟨c24,hm⟩ | ⟨c24,hm⟩
      ·refine aW (by simp -dsimp) c24 ?_
       refine sr1 hn ?_
       obtain⟨l4,h25,hm⟩:=bnd hm
       obtain⟨h25a,h25e⟩:=ct h25
       replace h25e:=h25e.symm
       subst h25e
       try simp only[List.length_cons,List.length_nil,Nat.zero_add] at h25a
       try simp only[Nat.mul_one,Nat.reduceLeDiff] at h25a
       simp -dsimp [hf,h21,h22a,c24]
       refine bI ?_
       refine aU ?_
       cases hm
       refine EE.step (Wk.frz 121 1 4 (List.map rB (l2++[(eqB k 1)])) (by simp -dsimp)) ?_
       exact EE.here (by simp -dsimp [hf,c24])
      ·refine aV (by simp -dsimp) c24 ?_
       refine aY ?_
       refine bI ?_
       cases hm
       exact EE.here (by simp -dsimp [hf,c24])
   ·clear j27
    simp only[Fits,bv,bu,and_true] at hf
    refine sr1 hn ?_
    simp -dsimp [hf]
    cases hm
    refine bC ?_
    exact EE.here (by simp -dsimp [hf])
  ·refine aV (by simp -dsimp [hf]) c16 ?_
   refine bp ?_
   refine b8 ?_
   cases hm
   refine bz nofun ?_
   exact⟨rfl,EE.here (by simp -dsimp [hf])⟩
def eZ (cx:Cx) (_f:B9) (_l:List Bool) (_last:List (List Int)) (tt:Bool ⊕ Unit) (ee:Exit) (Z:Env) (O:Sto):Prop:=match tt with
 | .inl r=>ee=.ret/\EE cx (fun Z O=>∃ v,iR tb Z O Tryz.f10.results.toList=some v/\(v.frz O).free=true/\(v.frz O).wk (vT r)) Z O
 | .inr _u=>ee=.exit 4/\EE cx (bY [] []) Z O
set_option maxHeartbeats 1000000 in
theorem l_L45_completes_3 (cx:Cx) (hn:cx.n=124) (f:B9) (l:List Bool) (last:List (List Int)) {fu:Nat} {stt:(List Bool)×Int} {tt:Bool ⊕ Unit} (hh:bh (dJ f l last) fu stt=some tt) {Z:Env} {O:Sto}
  (hE:cw (fun stt:(List Bool)×Int=>match stt with | (values,v)=>[(1,.u (.one (.d (.sl 1 (List.map rB l))))),(2,vX 2),(5,vO 18),(10,.u (.one (.d (.sl 1 (List.map rB values))))),(11,vI v)]) (fun stt:(List Bool)×Int=>match stt with | (_values,_v)=>[(2,.box [dI f.Vars,.d (.sl 1 (List.map (rS 1 (rI .i64)) f.Clauses))]),(18,.nest 26 3 1 (iy (rI .i64) last))]) stt Z O):Swp Tryz.prog cx (.loop (dx [1,1,1,1,1,0,1,0,0] (bQ Tryz.f10))) Z O (eZ cx f l last tt):=by
 refine cz hE hh (eZ cx f l last) ?_
 rintro⟨values,v⟩ r hm Z O hf
 simp only[Fits,bv,bu,and_true] at hf
 unfold dJ at hm
 dsimp only at hm
 refine aZ ?_
 refine srs hn ?_
 simp -dsimp [hf]
 rcases bc hm with ⟨c14,hm⟩ | ⟨c14,hm⟩
 ·refine aW (by simp -dsimp) c14 ?_
  refine aY (aU (aZ (b7 ?_)))
  refine srs hn ?_
  simp -dsimp [c14]
  refine aZ ?_
  refine srs hn ?_
  simp -dsimp
  refine b7 ?_
  obtain⟨⟨aJ,good⟩,g29,hm⟩:=bnd hm
  refine bP (l_L45_completes_4 cx hn f l last v g29) (by
    try dsimp only
    exact EE.here (by simp -dsimp [hf])
  ) fun ee Z O xx=>?_
  unfold iG at xx
  dsimp only at xx
  obtain⟨rfl,xx⟩:=xx
  refine br ?_
  refine aU ?_
  refine see xx fun Z O hf=>?_
  simp only[Fits,bv,bu,and_true] at hf
  refine srs hn ?_
  simp -dsimp [hf]
  rcases bc hm with ⟨c30,hm⟩ | ⟨c30,hm⟩
  ·refine aW (by simp -dsimp) c30 ?_
   refine srs hn ?_
   simp -dsimp [c30]
   refine b0 (cy (b8 ?_))
   cases hm
   refine bz nofun ?_
   exact⟨rfl,EE.here (by simp -dsimp [Tryz.results10])⟩
  ·refine aV (by simp -dsimp) c30 ?_
   refine aY ?_
   refine bI ?_
   refine aU ?_
   refine sr1 hn ?_
   simp -dsimp [hf,c30]
   cases hm
   refine bC ?_
   exact EE.here (by simp -dsimp [hf])
 ·refine aV (by simp -dsimp) c14 ?_
  refine bp ?_
  refine b8 ?_
  cases hm
  refine bz nofun ?_
  exact⟨rfl,EE.here (by simp -dsimp [c14])⟩
set_option maxHeartbeats 1000000 in
theorem c_L45_completes (f:B9) (l:List Bool) (r:Bool) (hm:il f l=some r):bg Tryz.prog 10 [.u (.agg [dI f.Vars,.d (.sl 1 (List.map (rS 1 (rI .i64)) f.Clauses))]),.u (.one (.d (.sl 1 (List.map rB l))))] (vT r):=by
 refine dG Tryz.func10 Tryz.ntmps10 fun cx hn=>?_
 unfold il at hm
 refine srs hn ?_
 simp -dsimp
 refine srs hn ?_
 obtain⟨l1,h1,hm⟩:=bnd hm
 obtain⟨⟨h1a,h1b,h1c⟩,rfl⟩:=mkL_some h1
 simp -dsimp [h1a,h1c]
 refine Swp.pre (Wk.toN 18 26 3 1 (rI .i64) (bm .i64 f.Vars 1).toNat (by simp -dsimp) (by decide)) ?_
 refine aZ ?_
 refine srs hn ?_
 simp -dsimp
 refine b7 ?_
 obtain⟨o_,g10,hm⟩:=bnd hm
 refine bP (l_L45_completes_1 cx hn f l g10) (by
   try dsimp only
   exact EE.here (by simp -dsimp)
 ) fun ee Z O xx=>?_
 rcases o_ with r | last
 ·unfold eV at xx
  dsimp only at xx
  obtain⟨rfl,xx⟩:=xx
  refine cy (b8 ?_)
  cases hm
  exact⟨.inr rfl,xx⟩
 ·unfold eV at xx
  dsimp only at xx
  obtain⟨rfl,xx⟩:=xx
  refine br ?_
  refine aU ?_
  refine see xx fun Z O hf=>?_
  simp only[Fits,bv,bu,and_true] at hf
  refine aZ ?_
  obtain⟨a,j32,hm⟩:=bnd hm
  refine scE [(1,.u (.one (.d (.sl 1 (List.map rB l))))),(2,vX 2),(5,vO 18),(67,vT a)] [(2,.box [dI f.Vars,.d (.sl 1 (List.map (rS 1 (rI .i64)) f.Clauses))]),(18,.nest 26 3 1 (iy (rI .i64) last))] ?_ fun Z O hf=>?_
  ·replace hm:=j32
   clear j32
   obtain⟨x,h11,hm⟩:=bnd hm
   refine Swp.pre (Wk.focN 18 58 26 3 1 (rI .i64) last x (by simp -dsimp [hf]) h11 (by decide) (by decide)) ?_
   refine sr1 hn ?_
   rcases bc hm with ⟨c12,hm⟩ | ⟨c12,hm⟩
   ·simp -dsimp [hf,nels_idxk (f:=(rI .i64)) (k:=0) rfl h11,c12]
    refine aU ?_
    refine EE.step (Wk.unfS 18 58 26 3 1 (rI .i64) last x (by simp -dsimp) h11 (by simp -dsimp) (by decide)) ?_
    cases hm
    exact EE.here (by simp -dsimp [hf])
   ·simp -dsimp [hf,nels_idxk (f:=(rI .i64)) (k:=0) rfl h11,c12]
    refine aU ?_
    refine EE.step (Wk.unfS 18 58 26 3 1 (rI .i64) last x (by simp -dsimp) h11 (by simp -dsimp) (by decide)) ?_
    cases hm
    exact EE.here (by simp -dsimp [hf])
  ·clear j32
   simp only[Fits,bv,bu,and_true] at hf
   rcases bc hm with ⟨c13,hm⟩ | ⟨c13,hm⟩
   ·refine aW (by simp -dsimp [hf]) c13 ?_
    refine srs hn ?_
    simp -dsimp
    refine b0 (b8 ?_)
    cases hm
    refine⟨.inr rfl,?_⟩
    exact EE.here (by simp -dsimp)
   ·refine aV (by simp -dsimp [hf]) c13 ?_
    refine aY (aU ?_)
    refine srs hn ?_
    simp -dsimp
    refine aZ ?_
    refine srs hn ?_
    simp -dsimp
    refine b7 ?_
    obtain⟨o_1,g31,hm⟩:=bnd hm
    refine bP (l_L45_completes_3 cx hn f l last g31) (by
      try dsimp only
      exact EE.here (by simp -dsimp [hf])
    ) fun ee Z O xx=>?_
    rcases o_1 with r | _u
    ·unfold eZ at xx
     dsimp only at xx
     obtain⟨rfl,xx⟩:=xx
     refine cy (b8 ?_)
     cases hm
     exact⟨.inr rfl,xx⟩
    ·unfold eZ at xx
     dsimp only at xx
     obtain⟨rfl,xx⟩:=xx
     refine br ?_
     refine aU ?_
     refine see xx fun Z O hf=>?_
     simp only[Fits,bv,bu,and_true] at hf
     refine srs hn ?_
     simp -dsimp
     cases hm
     exact b0 ⟨.inr rfl,EE.here (by simp -dsimp)⟩
end Go.Proofs.YtlifofijgddjkacGreatDoor
