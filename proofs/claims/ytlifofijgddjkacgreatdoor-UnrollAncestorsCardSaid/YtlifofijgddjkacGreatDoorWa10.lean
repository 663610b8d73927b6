/- That the code does what the functions say (made by cc.py). -/
import Derived.Test.YtlifofijgddjkacGreatDoorWa9
namespace Go.Proofs.YtlifofijgddjkacGreatDoor
open Go.AM Go.Proofs
set_option maxRecDepth 100000
attribute [-simp] eR fS jn Ob.wipe Ob.ren Ob.frz1
def eN (cx:Cx) (_t:Tree) (_x:B8) (_l:List Bool) (_y1:Int) (tt:((List Cell)×Int) ⊕ (List Cell)) (ee:Exit) (Z:Env) (O:Sto):Prop:=match tt with
 | .inl r=>ee=.ret/\EE cx (fun Z O=>∃ v,iR tb Z O Tryz.f14.results.toList=some v/\(v.frz O).free=true/\(v.frz O).wk (.tup [.one (dR0 r.1),.one (dI r.2)])) Z O
 | .inr out=>ee=.exit 0/\EE cx (bY [(10,vO 5000)] [(5000,.row 3 56 (List.map Cell.row out))]) Z O
theorem l_unroll_Pattern_1 (cx:Cx) (hn:cx.n=71) (t:Tree) (x:B8) (l:List Bool) (y1:Int) {fu:Nat} {stt:Int×(List Cell)} {tt:((List Cell)×Int) ⊕ (List Cell)} (hh:bh (jR t x l y1) fu stt=some tt) {Z:Env} {O:Sto}
  (hE:cw (fun stt:Int×(List Cell)=>match stt with | (a,_out)=>[(2,.u (.one (.d (.sl 1 (List.map rB l))))),(3,vX 3),(4,vX 4),(9,vI y1),(10,vO 5000),(36,vI (bO .i64 x.W x.H)),(37,vI a)]) (fun stt:Int×(List Cell)=>match stt with | (_a,out)=>[(3,.box [dI t.States,dR2 t.Hood,dR1 t.Nodes]),(4,.box [dI x.W,dI x.H,dI x.Gens,dI x.DX,dI x.DY,dL x.Syms]),(5000,.row 3 56 (List.map Cell.row out))]) stt Z O):Swp Tryz.prog cx (.loop (dx [1,1,1,1,1,0,1,0,0] (bQ Tryz.f14))) Z O (eN cx t x l y1 tt):=by
 refine cz hE hh (eN cx t x l y1) ?_
 rintro⟨a,out⟩ r hm Z O hf
 simp only[Fits,bv,bu,and_true] at hf
 unfold jR at hm
 dsimp only at hm
 refine srs hn ?_
 simp -dsimp [hf]
 refine aZ ?_
 rcases bc hm with ⟨c5,hm⟩ | ⟨c5,hm⟩
 ·refine aW (by simp -dsimp) c5 ?_
  refine aY (aU (aZ (b7 ?_)))
  refine srs hn ?_
  simp -dsimp [hf,c5]
  refine srs hn ?_
  obtain⟨l1,h6,hm⟩:=bnd hm
  obtain⟨y2,h7,hm⟩:=bnd hm
  simp -dsimp [hf,h6]
  refine bi (c_lower_State l1 y2 h7) (dkL hn) ?_
  simp -dsimp
  refine aZ ?_
  refine srs hn ?_
  simp -dsimp [hf]
  rcases bc hm with ⟨c8,hm⟩ | ⟨c8,hm⟩
  ·refine aW (by simp -dsimp) c8 ?_
   refine srs hn ?_
   simp -dsimp [c8]
   refine b0 (b8 (cy (b8 ?_)))
   cases hm
   refine bz nofun ?_
   exact⟨rfl,EE.here (by simp -dsimp [Tryz.results14])⟩
  ·refine aV (by simp -dsimp) c8 ?_
   refine aY (aU ?_)
   refine srs hn ?_
   simp -dsimp [c8]
   rcases bc hm with ⟨c9,hm⟩ | ⟨c9,hm⟩
   ·refine aW (by simp -dsimp) c9 ?_
    refine oT bL mixed 12 (by rw[hn]; kernel_rfl) ?_
    dsimp only [List.take,List.drop]
    obtain⟨n,h10,hm⟩:=bnd hm
    obtain⟨n1,h11,hm⟩:=bnd hm
    obtain⟨l2,h12,hm⟩:=bnd hm
    obtain⟨h12a,h12e⟩:=ct h12
    replace h12e:=h12e.symm
    subst h12e
    try simp only[List.length_cons,List.length_nil,Nat.zero_add] at h12a
    simp -dsimp [hf,c9,h10,h11,h12a]
    refine bI ?_
    refine aU ?_
    refine sr1 hn ?_
    simp -dsimp [hf]
    cases hm
    refine bC ?_
    refine emv 68 5000 ?_
    exact EE.here (by simp -dsimp [hf])
   ·refine aV (by simp -dsimp) c9 ?_
    refine aY ?_
    refine bI ?_
    refine aU ?_
    refine sr1 hn ?_
    simp -dsimp [hf,c9]
    cases hm
    refine bC ?_
    exact EE.here (by simp -dsimp [hf])
 ·refine aV (by simp -dsimp) c5 ?_
  refine bp ?_
  refine b8 ?_
  cases hm
  refine bz nofun ?_
  exact⟨rfl,EE.here (by simp -dsimp [hf,c5])⟩
theorem c_unroll_Pattern (t:Tree) (x:B8) (l:List Bool) (r:(List Cell)×Int) (hm:kK t x l=some r):bg Tryz.prog 14 [.u (.agg [dI t.States,dR2 t.Hood,dR1 t.Nodes]),.u (.agg [dI x.W,dI x.H,dI x.Gens,dI x.DX,dI x.DY,dL x.Syms]),.u (.one (.d (.sl 1 (List.map rB l))))] (.tup [.one (dR0 r.1),.one (dI r.2)]):=by
 refine dG Tryz.func14 Tryz.ntmps14 fun cx hn=>?_
 unfold kK at hm
 refine srs hn ?_
 simp -dsimp
 refine aZ ?_
 refine srs hn ?_
 obtain⟨y,h1,hm⟩:=bnd hm
 simp -dsimp
 refine bi (lj t x y h1) (dkL hn) ?_
 simp -dsimp
 refine srs hn ?_
 simp -dsimp
 rcases bc hm with ⟨c2,hm⟩ | ⟨c2,hm⟩
 ·refine aW (by simp -dsimp) c2 ?_
  refine srs hn ?_
  simp -dsimp [c2]
  refine b0 (b8 ?_)
  cases hm
  refine⟨.inr rfl,?_⟩
  exact EE.here (by simp -dsimp)
 ·refine aV (by simp -dsimp) c2 ?_
  refine aY (aU ?_)
  refine srs hn ?_
  obtain⟨y1,h3,hm⟩:=bnd hm
  simp -dsimp [c2]
  refine bi (lS t.States y1 h3) (dkL hn) ?_
  simp -dsimp
  refine aZ ?_
  refine srs hn ?_
  simp -dsimp
  rcases bc hm with ⟨c4,hm⟩ | ⟨c4,hm⟩
  ·refine aW (by simp -dsimp) c4 ?_
   refine srs hn ?_
   simp -dsimp [c4]
   refine b0 (b8 ?_)
   cases hm
   refine⟨.inr rfl,?_⟩
   exact EE.here (by simp -dsimp)
  ·refine aV (by simp -dsimp) c4 ?_
   refine aY (aU ?_)
   refine srs hn ?_
   simp -dsimp [c4]
   refine aZ ?_
   refine srs hn ?_
   simp -dsimp
   refine b7 ?_
   obtain⟨o_,g13,hm⟩:=bnd hm
   refine bP (l_unroll_Pattern_1 cx hn t x l y1 g13) (by
     try dsimp only
     refine EE.step (Wk.own0 10 5000 3 56 (by simp -dsimp) (by decide)) ?_
     exact EE.here (by simp -dsimp)
   ) fun ee Z O xx=>?_
   rcases o_ with r | out
   ·unfold eN at xx
    dsimp only at xx
    obtain⟨rfl,xx⟩:=xx
    refine cy (b8 ?_)
    cases hm
    exact⟨.inr rfl,xx⟩
   ·unfold eN at xx
    dsimp only at xx
    obtain⟨rfl,xx⟩:=xx
    refine br ?_
    refine aU ?_
    refine see xx fun Z O hf=>?_
    simp only[Fits,bv,bu,and_true] at hf
    refine srs hn ?_
    simp -dsimp [hf]
    cases hm
    exact b0 ⟨.inr rfl,EE.here (by simp -dsimp [hf])⟩
def iC (cx:Cx) (a b:B9) (i:Int) (_x _x1:List Int) (tt:Bool ⊕ Unit) (ee:Exit) (Z:Env) (O:Sto):Prop:=match tt with
 | .inl r=>ee=.ret/\EE cx (fun Z O=>∃ v,iR tb Z O Tryz.f15.results.toList=some v/\(v.frz O).free=true/\(v.frz O).wk (vT r)) Z O
 | .inr _u=>ee=.exit 2/\EE cx (bY [(2,vX 2),(3,vX 3),(5,vI i)] [(2,.box [dI a.Vars,.d (.sl 1 (List.map (rS 1 (rI .i64)) a.Clauses))]),(3,.box [dI b.Vars,.d (.sl 1 (List.map (rS 1 (rI .i64)) b.Clauses))])]) Z O
theorem l_R41_Equal_2 (cx:Cx) (hn:cx.n=60) (a b:B9) (i:Int) (x x1:List Int) {fu:Nat} {stt:Int} {tt:Bool ⊕ Unit} (hh:bh (nv a b i x x1) fu stt=some tt) {Z:Env} {O:Sto}
  (hE:cw (fun k:Int=>[(2,vX 2),(3,vX 3),(5,vI i),(6,.u (.one (dL x))),(7,.u (.one (dL x1))),(8,vI k)]) (fun _k:Int=>[(2,.box [dI a.Vars,.d (.sl 1 (List.map (rS 1 (rI .i64)) a.Clauses))]),(3,.box [dI b.Vars,.d (.sl 1 (List.map (rS 1 (rI .i64)) b.Clauses))])]) stt Z O):Swp Tryz.prog cx (.loop (dx [1,1,0,1,0,0,1,0,0,1,1,1,0,0] (bQ Tryz.f15))) Z O (iC cx a b i x x1 tt):=by
 refine cz hE hh (iC cx a b i x x1) ?_
 rintro k r hm Z O hf
 simp only[Fits,bv,bu,and_true] at hf
 unfold nv at hm
 dsimp only at hm
 refine aZ ?_
 refine srs hn ?_
 simp -dsimp [hf]
 rcases bc hm with ⟨c7,hm⟩ | ⟨c7,hm⟩
 ·refine aW (by simp -dsimp) c7 ?_
  refine aY (aU (aZ (b7 ?_)))
  refine fQ bL mixed (by rw[hn]; kernel_rfl) ?_
  obtain⟨x2,h8,hm⟩:=bnd hm
  obtain⟨x3,h9,hm⟩:=bnd hm
  simp -dsimp [hf,c7,h8,h9]
  rcases bc hm with ⟨c10,hm⟩ | ⟨c10,hm⟩
  ·refine aW (by simp -dsimp) c10 ?_
   refine srs hn ?_
   simp -dsimp [c10]
   refine b0 (cy (b8 ?_))
   cases hm
   refine bz nofun ?_
   exact⟨rfl,EE.here (by simp -dsimp [Tryz.results15])⟩
  ·refine aV (by simp -dsimp) c10 ?_
   refine aY ?_
   refine bI ?_
   refine aU ?_
   refine sr1 hn ?_
   simp -dsimp [hf,c10]
   cases hm
   refine bC ?_
   exact EE.here (by simp -dsimp [hf])
 ·refine aV (by simp -dsimp) c7 ?_
  refine bp ?_
  refine b8 ?_
  cases hm
  refine bz nofun ?_
  exact⟨rfl,EE.here (by simp -dsimp [hf,c7])⟩
def gl (cx:Cx) (_a _b:B9) (tt:Bool ⊕ Unit) (ee:Exit) (Z:Env) (O:Sto):Prop:=match tt with
 | .inl r=>ee=.ret/\EE cx (fun Z O=>∃ v,iR tb Z O Tryz.f15.results.toList=some v/\(v.frz O).free=true/\(v.frz O).wk (vT r)) Z O
 | .inr _u=>ee=.exit 0/\EE cx (bY [] []) Z O
theorem l_R41_Equal_1 (cx:Cx) (hn:cx.n=60) (a b:B9) {fu:Nat} {stt:Int} {tt:Bool ⊕ Unit} (hh:bh (nn a b) fu stt=some tt) {Z:Env} {O:Sto}
  (hE:cw (fun i:Int=>[(2,vX 2),(3,vX 3),(5,vI i)]) (fun _i:Int=>[(2,.box [dI a.Vars,.d (.sl 1 (List.map (rS 1 (rI .i64)) a.Clauses))]),(3,.box [dI b.Vars,.d (.sl 1 (List.map (rS 1 (rI .i64)) b.Clauses))])]) stt Z O):Swp Tryz.prog cx (.loop (dx [1,1,0,1,0,0] (bQ Tryz.f15))) Z O (gl cx a b tt):=by
 refine cz hE hh (gl cx a b) ?_
 rintro i r hm Z O hf
 simp only[Fits,bv,bu,and_true] at hf
 unfold nn at hm
 dsimp only at hm
 refine aZ ?_
 refine srs hn ?_
 simp -dsimp [hf]
 rcases bc hm with ⟨c3,hm⟩ | ⟨c3,hm⟩
 ·refine aW (by simp -dsimp) c3 ?_
  refine aY (aU (aZ (b7 ?_)))
  refine fQ bL mixed (by rw[hn]; kernel_rfl) ?_
  obtain⟨x,h4,hm⟩:=bnd hm
  obtain⟨x1,h5,hm⟩:=bnd hm
  simp -dsimp [hf,c3,h4,h5]
  refine aZ ?_
  refine srs hn ?_
  simp -dsimp
  rcases bc hm with ⟨c6,hm⟩ | ⟨c6,hm⟩
  ·refine aW (by simp -dsimp) c6 ?_
   refine srs hn ?_
   simp -dsimp [c6]
   refine b0 (b8 (cy (b8 ?_)))
   cases hm
   refine bz nofun ?_
   exact⟨rfl,EE.here (by simp -dsimp [Tryz.results15])⟩
  ·refine aV (by simp -dsimp) c6 ?_
   refine aY (aU ?_)
   refine srs hn ?_
   simp -dsimp [c6]
   refine b7 ?_
   obtain⟨o_,g11,hm⟩:=bnd hm
   refine bP (l_R41_Equal_2 cx hn a b i x x1 g11) (by
     try dsimp only
     exact EE.here (by simp -dsimp [hf])
   ) fun ee Z O xx=>?_
   rcases o_ with r | _u
   ·unfold iC at xx
    dsimp only at xx
    obtain⟨rfl,xx⟩:=xx
    refine cy (cy (b8 ?_))
    cases hm
    refine bz nofun ?_
    unfold gl
    dsimp only
    refine⟨rfl,?_⟩
    exact xx
   ·unfold iC at xx
    dsimp only at xx
    obtain⟨rfl,xx⟩:=xx
    refine br ?_
    refine bI ?_
    refine aU ?_
    refine see xx fun Z O hf=>?_
    simp only[Fits,bv,bu,and_true] at hf
    refine sr1 hn ?_
    simp -dsimp [hf]
    cases hm
    refine bC ?_
    exact EE.here (by simp -dsimp [hf])
 ·refine aV (by simp -dsimp) c3 ?_
  refine bp ?_
  refine b8 ?_
  cases hm
  refine bz nofun ?_
  exact⟨rfl,EE.here (by simp -dsimp [c3])⟩
theorem c_R41_Equal (a b:B9) (r:Bool) (hm:na a b=some r):bg Tryz.prog 15 [.u (.agg [dI a.Vars,.d (.sl 1 (List.map (rS 1 (rI .i64)) a.Clauses))]),.u (.agg [dI b.Vars,.d (.sl 1 (List.map (rS 1 (rI .i64)) b.Clauses))])] (vT r):=by
 refine dG Tryz.func15 Tryz.ntmps15 fun cx hn=>?_
 unfold na at hm
 refine srs hn ?_
 simp -dsimp
 refine aZ ?_
 obtain⟨a1,j13,hm⟩:=bnd hm
 refine scE [(2,vX 2),(3,vX 3),(22,vT a1)] [(2,.box [dI a.Vars,.d (.sl 1 (List.map (rS 1 (rI .i64)) a.Clauses))]),(3,.box [dI b.Vars,.d (.sl 1 (List.map (rS 1 (rI .i64)) b.Clauses))])] ?_ fun Z O hf=>?_
 ·replace hm:=j13
  clear j13
  refine sr1 hn ?_
  rcases bc hm with ⟨c1,hm⟩ | ⟨c1,hm⟩
  ·simp -dsimp [c1]
   cases hm
   exact EE.here (by simp -dsimp)
  ·simp -dsimp [c1]
   cases hm
   exact EE.here (by simp -dsimp)
 ·clear j13
  simp only[Fits,bv,bu,and_true] at hf
  rcases bc hm with ⟨c2,hm⟩ | ⟨c2,hm⟩
  ·refine aW (by simp -dsimp [hf]) c2 ?_
   refine srs hn ?_
   simp -dsimp
   refine b0 (b8 ?_)
   cases hm
   refine⟨.inr rfl,?_⟩
   exact EE.here (by simp -dsimp)
  ·refine aV (by simp -dsimp [hf]) c2 ?_
   refine aY (aU (aZ ?_))
   refine srs hn ?_
   simp -dsimp
   refine b7 ?_
   obtain⟨o_,g12,hm⟩:=bnd hm
   refine bP (l_R41_Equal_1 cx hn a b g12) (by
     try dsimp only
     exact EE.here (by simp -dsimp [hf])
   ) fun ee Z O xx=>?_
   rcases o_ with r | _u
   ·unfold gl at xx
    dsimp only at xx
    obtain⟨rfl,xx⟩:=xx
    refine cy (b8 ?_)
    cases hm
    exact⟨.inr rfl,xx⟩
   ·unfold gl at xx
    dsimp only at xx
    obtain⟨rfl,xx⟩:=xx
    refine br ?_
    refine aU ?_
    refine see xx fun Z O hf=>?_
    simp only[Fits,bv,bu,and_true] at hf
    refine srs hn ?_
    simp -dsimp
    cases hm
    exact b0 ⟨.inr rfl,EE.here (by simp -dsimp)⟩
theorem mZ (a b r:Int) (hm:jU a b=some r):bg Tryz.prog 62 [vI a,vI b] (vI r):=by
 refine dG Tryz.func62 Tryz.ntmps62 fun cx hn=>?_
 unfold jU at hm
 refine srs hn ?_
 simp -dsimp
 refine aZ ?_
 refine srs hn ?_
 simp -dsimp
 rcases bc hm with ⟨c1,hm⟩ | ⟨c1,hm⟩
 ·refine sct c1 ?_
  refine srs hn ?_
  simp -dsimp [c1]
  refine b0 (b8 ?_)
  cases hm
  refine⟨.inr rfl,?_⟩
  exact EE.here (by simp -dsimp)
 ·refine scf c1 ?_
  refine aY (aU (aZ ?_))
  refine srs hn ?_
  simp -dsimp [c1]
  rcases bc hm with ⟨c2,hm⟩ | ⟨c2,hm⟩
  ·refine aW (by simp -dsimp) c2 ?_
   refine srs hn ?_
   simp -dsimp [c2]
   refine b0 (b8 ?_)
   cases hm
   refine⟨.inr rfl,?_⟩
   exact EE.here (by simp -dsimp)
  ·refine aV (by simp -dsimp) c2 ?_
   refine aY (aU ?_)
   refine srs hn ?_
   simp -dsimp [c2]
   cases hm
   exact b0 ⟨.inr rfl,EE.here (by simp -dsimp)⟩
def ey (cx:Cx) (a b:List Cell) (tt:Int ⊕ Unit) (ee:Exit) (Z:Env) (O:Sto):Prop:=match tt with
 | .inl r=>ee=.ret/\EE cx (fun Z O=>∃ v,iR tb Z O Tryz.f42.results.toList=some v/\(v.frz O).free=true/\(v.frz O).wk (vI r)) Z O
 | .inr _u=>ee=.exit 0/\EE cx (bY [(0,.u (.one (dR0 a))),(1,.u (.one (dR0 b)))] []) Z O
theorem l_R05_Compare_1 (cx:Cx) (hn:cx.n=89) (a b:List Cell) {fu:Nat} {stt:Int} {tt:Int ⊕ Unit} (hh:bh (lh a b) fu stt=some tt) {Z:Env} {O:Sto}
  (hE:cw (fun i:Int=>[(0,.u (.one (dR0 a))),(1,.u (.one (dR0 b))),(5,vI i)]) (fun _i:Int=>[]) stt Z O):Swp Tryz.prog cx (.loop (dx [1,0,1,0,0] (bQ Tryz.f42))) Z O (ey cx a b tt):=by
 refine cz hE hh (ey cx a b) ?_
 rintro i r hm Z O hf
 simp only[Fits,bv,bu,and_true] at hf
 unfold lh at hm
 dsimp only at hm
 refine aZ ?_
 obtain⟨a1,j11,hm⟩:=bnd hm
 refine scE [(0,.u (.one (dR0 a))),(1,.u (.one (dR0 b))),(5,vI i),(15,vT a1)] [] ?_ fun Z O hf=>?_
 ·replace hm:=j11
  clear j11
  refine sr1 hn ?_
  rcases bc hm with ⟨c1,hm⟩ | ⟨c1,hm⟩
  ·simp -dsimp [hf,c1]
   cases hm
   exact EE.here (by simp -dsimp [hf])
  ·simp -dsimp [hf,c1]
   cases hm
   exact EE.here (by simp -dsimp [hf])
 ·clear j11
  simp only[Fits,bv,bu,and_true] at hf
  rcases bc hm with ⟨c2,hm⟩ | ⟨c2,hm⟩
  ·refine aW (by simp -dsimp [hf]) c2 ?_
   refine aY (aU (aZ (b7 (aZ ?_))))
   refine fQ bL mixed (by rw[hn]; kernel_rfl) ?_
   obtain⟨x,h3,hm⟩:=bnd hm
   obtain⟨x1,h4,hm⟩:=bnd hm
   simp -dsimp [hf,h3,h4]
   rcases bc hm with ⟨c5,hm⟩ | ⟨c5,hm⟩
   ·refine aW (by simp -dsimp) c5 ?_
    refine fQ bL mixed (by rw[hn]; kernel_rfl) ?_
    obtain⟨y,h6,hm⟩:=bnd hm
    simp -dsimp [hf,h3,h4,c5]
    refine bn (mZ x.Y x1.Y y h6) ?_
    simp -dsimp
    refine b0 (b8 (cy (b8 ?_)))
    cases hm
    refine bz nofun ?_
    exact⟨rfl,EE.here (by simp -dsimp [Tryz.results42])⟩
   ·refine aV (by simp -dsimp) c5 ?_
    refine aY (aU (aZ ?_))
    refine fQ bL mixed (by rw[hn]; kernel_rfl) ?_
    simp -dsimp [hf,h3,h4,c5]
    rcases bc hm with ⟨c7,hm⟩ | ⟨c7,hm⟩
    ·refine aW (by simp -dsimp) c7 ?_
     refine fQ bL mixed (by rw[hn]; kernel_rfl) ?_
     obtain⟨y,h8,hm⟩:=bnd hm
     simp -dsimp [hf,h3,h4,c7]
     refine bn (mZ x.X x1.X y h8) ?_
     simp -dsimp
     refine b0 (b8 (cy (b8 ?_)))
     cases hm
     refine bz nofun ?_
     exact⟨rfl,EE.here (by simp -dsimp [Tryz.results42])⟩
    ·refine aV (by simp -dsimp) c7 ?_
     refine aY (aU ?_)
     refine fQ bL mixed (by rw[hn]; kernel_rfl) ?_
     simp -dsimp [hf,h3,h4,c7]
     rcases bc hm with ⟨c9,hm⟩ | ⟨c9,hm⟩
     ·refine aW (by simp -dsimp) c9 ?_
      refine fQ bL mixed (by rw[hn]; kernel_rfl) ?_
      obtain⟨y,h10,hm⟩:=bnd hm
      simp -dsimp [hf,h3,h4,c9]
      refine bn (mZ x.S x1.S y h10) ?_
      simp -dsimp
      refine b0 (cy (b8 ?_))
      cases hm
      refine bz nofun ?_
      exact⟨rfl,EE.here (by simp -dsimp [Tryz.results42])⟩
     ·refine aV (by simp -dsimp) c9 ?_
      refine aY ?_
      refine bI ?_
      refine aU ?_
      refine sr1 hn ?_
      simp -dsimp [hf,c9]
      cases hm
      refine bC ?_
      exact EE.here (by simp -dsimp [hf])
  ·refine aV (by simp -dsimp [hf]) c2 ?_
   refine bp ?_
   refine b8 ?_
   cases hm
   refine bz nofun ?_
   exact⟨rfl,EE.here (by simp -dsimp [hf])⟩
theorem c_R05_Compare (a b:List Cell) (r:Int) (hm:nr a b=some r):bg Tryz.prog 42 [.u (.one (dR0 a)),.u (.one (dR0 b))] (vI r):=by
 refine dG Tryz.func42 Tryz.ntmps42 fun cx hn=>?_
 unfold nr at hm
 refine srs hn ?_
 simp -dsimp
 refine aZ ?_
 refine srs hn ?_
 simp -dsimp
 refine b7 ?_
 obtain⟨o_,g12,hm⟩:=bnd hm
 refine bP (l_R05_Compare_1 cx hn a b g12) (by
   try dsimp only
   exact eeh
 ) fun ee Z O xx=>?_
 rcases o_ with r | _u
 ·unfold ey at xx
  dsimp only at xx
  obtain⟨rfl,xx⟩:=xx
  refine cy (b8 ?_)
  cases hm
  exact⟨.inr rfl,xx⟩
 ·unfold ey at xx
  dsimp only at xx
  obtain⟨rfl,xx⟩:=xx
  refine br ?_
  refine aU ?_
  refine see xx fun Z O hf=>?_
  simp only[Fits,bv,bu,and_true] at hf
  refine srs hn ?_
  obtain⟨y,h13,hm⟩:=bnd hm
  simp -dsimp [hf]
  refine bi (mZ (b9 a) (b9 b) y h13) (dkL hn) ?_
  simp -dsimp
  cases hm
  exact b0 ⟨.inr rfl,EE.here (by simp -dsimp)⟩
theorem c_R05_Same (a b:List Cell) (r:Bool) (hm:m_R05_Same a b=some r):bg Tryz.prog 16 [.u (.one (dR0 a)),.u (.one (dR0 b))] (vT r):=by
 refine dG Tryz.func16 Tryz.ntmps16 fun cx hn=>?_
 unfold m_R05_Same at hm
 refine srs hn ?_
 simp -dsimp
 refine srs hn ?_
 obtain⟨y,h1,hm⟩:=bnd hm
 simp -dsimp
 refine bi (c_R05_Compare a b y h1) (dkL hn) ?_
 simp -dsimp
 cases hm
 exact b0 ⟨.inr rfl,EE.here (by simp -dsimp)⟩
theorem c_L45_alive (r:Bool) (hm:jW=some r):bg Tryz.prog 5 [] (vT r):=by
 refine dG Tryz.func5 Tryz.ntmps5 fun cx hn=>?_
 unfold jW at hm
 refine srs hn ?_
 simp -dsimp
 refine srs hn ?_
 simp -dsimp
 refine k9 bL mixed 7 9 10 0 [[0,1,2,3,4,5,6],[5,6]] [[2],[]] [true] none (by rw[hn]; kernel_rfl) fb ?_
 dsimp only [List.take,List.drop,gL,gU,jx,pk,List.cons_append,List.nil_append,List.flatten_cons,List.flatten_nil,eJ,eK,List.append_nil]
 obtain⟨y,h1,hm⟩:=bnd hm
 simp -dsimp
 refine bn (mj y h1) ?_
 obtain⟨y1,h2,hm⟩:=bnd hm
 simp -dsimp
 refine bn ((kE y (⟨1,1,1,0,0,[]⟩:B8) y1 h2).wk (by simp[V.wkl])) ?_
 simp -dsimp
 refine bn (mj y h1) ?_
 simp -dsimp
 refine bn ((kE y (⟨1,1,1,0,0,[]⟩:B8) y1 h2).wk (by simp[V.wkl])) ?_
 simp -dsimp
 refine srs hn ?_
 simp -dsimp
 refine bi (mj y h1) (dkL hn) ?_
 obtain⟨y2,h3,hm⟩:=bnd hm
 simp -dsimp
 refine bi (nY y (⟨1,1,0,[1]⟩:Grid) y2 h3) (dkL hn) ?_
 simp -dsimp
 refine fQ bL mixed (by rw[hn]; kernel_rfl) ?_
 simp -dsimp
 refine bn (mj y h1) ?_
 obtain⟨y3,h4,hm⟩:=bnd hm
 simp -dsimp
 refine bn ((c_unroll_Bits y (⟨1,1,1,0,0,[]⟩:B8) [(⟨0,0,1⟩:Cell)] y3 h4).wk (by simp[V.wkl])) ?_
 simp -dsimp
 refine fQ bL mixed (by rw[hn]; kernel_rfl) ?_
 simp -dsimp
 refine bn (mj y h1) ?_
 obtain⟨y4,h5,hm⟩:=bnd hm
 simp -dsimp
 refine bn ((c_unroll_Pattern y (⟨1,1,1,0,0,[]⟩:B8) [true] y4 h5).wk (by simp[V.wkl])) ?_
 simp -dsimp
 refine srs hn ?_
 obtain⟨y5,h6,hm⟩:=bnd hm
 simp -dsimp
 refine bi ((kE (⟨0,[],[]⟩:Tree) (⟨1,1,1,0,0,[]⟩:B8) y5 h6).wk (by simp[V.wkl])) (dkL hn) ?_
 simp -dsimp
 refine srs hn ?_
 simp -dsimp
 obtain⟨a,j22,hm⟩:=bnd hm
 refine scE [(0,vT a)] [] ?_ fun Z O hf=>?_
 ·replace hm:=j22
  clear j22
  refine sr1 hn ?_
  rcases bc hm with ⟨c7,hm⟩ | ⟨c7,hm⟩
  ·rcases bc hm with ⟨c8,hm⟩ | ⟨c8,hm⟩
   ·obtain⟨y6,h9,hm⟩:=bnd hm
    simp -dsimp [c7,c8]
    refine bi (c_R41_Equal y1.1 (⟨2,[[1,(-2)],[(-1),2],[(-2),1],[2,(-1)]]⟩:B9) y6 h9) (dkL hn) ?_
    rcases bc hm with ⟨c10,hm⟩ | ⟨c10,hm⟩
    ·rcases bc hm with ⟨c11,hm⟩ | ⟨c11,hm⟩
     ·rcases bc hm with ⟨c12,hm⟩ | ⟨c12,hm⟩
      ·obtain⟨y7,h13,hm⟩:=bnd hm
       simp -dsimp [c10,c11,c12]
       refine bi (c_R41_Equal y2.1 (⟨2,[[1,(-2)],[(-1),2],[2]]⟩:B9) y7 h13) (dkL hn) ?_
       rcases bc hm with ⟨c14,hm⟩ | ⟨c14,hm⟩
       ·rcases bc hm with ⟨c15,hm⟩ | ⟨c15,hm⟩
        ·rcases bc hm with ⟨c16,hm⟩ | ⟨c16,hm⟩
         ·obtain⟨x,h17,hm⟩:=bnd hm
          rcases bc hm with ⟨c18,hm⟩ | ⟨c18,hm⟩
          ·rcases bc hm with ⟨c19,hm⟩ | ⟨c19,hm⟩
           ·obtain⟨y8,h20,hm⟩:=bnd hm
            simp -dsimp [c14,c15,c16,h17,c18,c19]
            refine bi (c_R05_Same y4.1 [(⟨0,0,1⟩:Cell)] y8 h20) (dkL hn) ?_
            rcases bc hm with ⟨c21,hm⟩ | ⟨c21,hm⟩
            ·simp -dsimp [c21]
             cases hm
             exact EE.here (by simp -dsimp)
            ·simp -dsimp [c21]
             cases hm
             exact EE.here (by simp -dsimp)
           ·simp -dsimp [c14,c15,c16,h17,c18,c19]
            cases hm
            exact EE.here (by simp -dsimp)
          ·simp -dsimp [c14,c15,c16,h17,c18]
           cases hm
           exact EE.here (by simp -dsimp)
         ·simp -dsimp [c14,c15,c16]
          cases hm
          exact EE.here (by simp -dsimp)
        ·simp -dsimp [c14,c15]
         cases hm
         exact EE.here (by simp -dsimp)
       ·simp -dsimp [c14]
        cases hm
        exact EE.here (by simp -dsimp)
      ·simp -dsimp [c10,c11,c12]
       cases hm
       exact EE.here (by simp -dsimp)
     ·simp -dsimp [c10,c11]
      cases hm
      exact EE.here (by simp -dsimp)
    ·simp -dsimp [c10]
     cases hm
     exact EE.here (by simp -dsimp)
   ·simp -dsimp [c7,c8]
    cases hm
    exact EE.here (by simp -dsimp)
  ·simp -dsimp [c7]
   cases hm
   exact EE.here (by simp -dsimp)
 ·clear j22
  simp only[Fits,bv,bu,and_true] at hf
  cases hm
  exact b0 ⟨.inr rfl,EE.here (by simp -dsimp [hf])⟩
theorem c_R18_Bits (states r:Int) (hm:kM states=some r):bg Tryz.prog 7 [vI states] (vI r):=by
 refine dG Tryz.func7 Tryz.ntmps7 fun cx hn=>?_
 unfold kM at hm
 refine srs hn ?_
 simp -dsimp
 refine aZ ?_
 refine srs hn ?_
 simp -dsimp
 rcases bc hm with ⟨c1,hm⟩ | ⟨c1,hm⟩
 ·refine sct c1 ?_
  refine srs hn ?_
  simp -dsimp [c1]
  refine b0 (b8 ?_)
  cases hm
  refine⟨.inr rfl,?_⟩
  exact EE.here (by simp -dsimp)
 ·refine scf c1 ?_
  refine aY (aU (aZ ?_))
  obtain⟨a,j7,hm⟩:=bnd hm
  refine scE [(0,vI states),(10,vT a)] [] ?_ fun Z O hf=>?_
  ·replace hm:=j7
   clear j7
   refine sr1 hn ?_
   rcases bc hm with ⟨c2,hm⟩ | ⟨c2,hm⟩
   ·simp -dsimp [c1,c2]
    cases hm
    exact EE.here (by simp -dsimp)
   ·simp -dsimp [c1,c2]
    cases hm
    exact EE.here (by simp -dsimp)
  ·clear j7
   simp only[Fits,bv,bu,and_true] at hf
   rcases bc hm with ⟨c3,hm⟩ | ⟨c3,hm⟩
   ·refine aW (by simp -dsimp [hf]) c3 ?_
    refine srs hn ?_
    simp -dsimp
    refine b0 (b8 ?_)
    cases hm
    refine⟨.inr rfl,?_⟩
    exact EE.here (by simp -dsimp)
   ·refine aV (by simp -dsimp [hf]) c3 ?_
    refine aY (aU (aZ ?_))
    obtain⟨a1,j6,hm⟩:=bnd hm
    refine scE [(16,vT a1)] [] ?_ fun Z O hf=>?_
    ·replace hm:=j6
     clear j6
     refine sr1 hn ?_
     rcases bc hm with ⟨c4,hm⟩ | ⟨c4,hm⟩
     ·simp -dsimp [hf,c4]
      cases hm
      exact EE.here (by simp -dsimp)
     ·simp -dsimp [hf,c4]
      cases hm
      exact EE.here (by simp -dsimp)
    ·clear j6
     simp only[Fits,bv,bu,and_true] at hf
     rcases bc hm with ⟨c5,hm⟩ | ⟨c5,hm⟩
     ·refine aW (by simp -dsimp [hf]) c5 ?_
      refine srs hn ?_
      simp -dsimp
      refine b0 (b8 ?_)
      cases hm
      refine⟨.inr rfl,?_⟩
      exact EE.here (by simp -dsimp)
     ·refine aV (by simp -dsimp [hf]) c5 ?_
      refine aY (aU ?_)
      refine srs hn ?_
      simp -dsimp
      cases hm
      exact b0 ⟨.inr rfl,EE.here (by simp -dsimp)⟩
theorem c_R07_before (a b:Point) (r:Bool) (hm:k6 a b=some r):bg Tryz.prog 52 [.u (.agg [dI a.X,dI a.Y]),.u (.agg [dI b.X,dI b.Y])] (vT r):=by
 refine dG Tryz.func52 Tryz.ntmps52 fun cx hn=>?_
 unfold k6 at hm
 refine srs hn ?_
 simp -dsimp
 obtain⟨a1,j3,hm⟩:=bnd hm
 refine scE [(4,vT a1)] [] ?_ fun Z O hf=>?_
 ·replace hm:=j3
  clear j3
  refine sr1 hn ?_
  rcases bc hm with ⟨c1,hm⟩ | ⟨c1,hm⟩
  ·simp -dsimp [c1]
   cases hm
   exact EE.here (by simp -dsimp)
  ·rcases bc hm with ⟨c2,hm⟩ | ⟨c2,hm⟩
   ·simp -dsimp [c1,c2]
    cases hm
    exact EE.here (by simp -dsimp)
   ·simp -dsimp [c1,c2]
    cases hm
    exact EE.here (by simp -dsimp)
 ·clear j3
  simp only[Fits,bv,bu,and_true] at hf
  cases hm
  exact b0 ⟨.inr rfl,EE.here (by simp -dsimp [hf])⟩
def iA (cx:Cx) (_l:List Point) (tt:Bool ⊕ Unit) (ee:Exit) (Z:Env) (O:Sto):Prop:=match tt with
 | .inl r=>ee=.ret/\EE cx (fun Z O=>∃ v,iR tb Z O Tryz.f28.results.toList=some v/\(v.frz O).free=true/\(v.frz O).wk (vT r)) Z O
 | .inr _u=>ee=.exit 0/\EE cx (bY [] []) Z O
theorem l_R07_Right_1 (cx:Cx) (hn:cx.n=55) (l:List Point) {fu:Nat} {stt:Int} {tt:Bool ⊕ Unit} (hh:bh (jz l) fu stt=some tt) {Z:Env} {O:Sto}
  (hE:cw (fun i:Int=>[(0,.u (.one (dR2 l))),(3,vI i)]) (fun _i:Int=>[]) stt Z O):Swp Tryz.prog cx (.loop (dx [1,1,0,1,0,0] (bQ Tryz.f28))) Z O (iA cx l tt):=by
 refine cz hE hh (iA cx l) ?_
 rintro i r hm Z O hf
 simp only[Fits,bv,bu,and_true] at hf
 unfold jz at hm
 dsimp only at hm
 refine aZ ?_
 refine srs hn ?_
 simp -dsimp [hf]
 rcases bc hm with ⟨c3,hm⟩ | ⟨c3,hm⟩
 ·refine aW (by simp -dsimp) c3 ?_
  refine aY (aU (aZ (b7 ?_)))
  refine srs hn ?_
  obtain⟨x,h4,hm⟩:=bnd hm
  simp -dsimp [hf,c3,h4]
  obtain⟨a1,j13,hm⟩:=bnd hm
  refine scE [(0,.u (.one (dR2 l))),(3,vI i),(54,vT a1)] [] ?_ fun Z O hf=>?_
  ·replace hm:=j13
   clear j13
   refine sw_qt bL mixed (by rw[hn]; kernel_rfl) ?_
   rcases bc hm with ⟨c5,hm⟩ | ⟨c5,hm⟩
   ·simp -dsimp [c5]
    cases hm
    exact EE.here (by simp -dsimp [hf])
   ·rcases bc hm with ⟨c6,hm⟩ | ⟨c6,hm⟩
    ·simp -dsimp [c5,c6]
     cases hm
     exact EE.here (by simp -dsimp [hf])
    ·rcases bc hm with ⟨c7,hm⟩ | ⟨c7,hm⟩
     ·simp -dsimp [c5,c6,c7]
      cases hm
      exact EE.here (by simp -dsimp [hf])
     ·rcases bc hm with ⟨c8,hm⟩ | ⟨c8,hm⟩
      ·simp -dsimp [c5,c6,c7,c8]
       cases hm
       exact EE.here (by simp -dsimp [hf])
      ·rcases bc hm with ⟨c9,hm⟩ | ⟨c9,hm⟩
       ·obtain⟨x1,h10,hm⟩:=bnd hm
        obtain⟨y,h11,hm⟩:=bnd hm
        simp -dsimp [hf,c5,c6,c7,c8,c9,h10]
        refine bn (c_R07_before x1 x y h11) ?_
        simp -dsimp
        cases hm
        exact EE.here (by simp -dsimp [hf])
       ·simp -dsimp [hf,c5,c6,c7,c8,c9]
        cases hm
        exact EE.here (by simp -dsimp [hf])
  ·clear j13
   simp only[Fits,bv,bu,and_true] at hf
   rcases bc hm with ⟨c12,hm⟩ | ⟨c12,hm⟩
   ·refine aW (by simp -dsimp [hf]) c12 ?_
    refine srs hn ?_
    simp -dsimp
    refine b0 (cy (b8 ?_))
    cases hm
    refine bz nofun ?_
    exact⟨rfl,EE.here (by simp -dsimp [Tryz.results28])⟩
   ·refine aV (by simp -dsimp [hf]) c12 ?_
    refine aY ?_
    refine bI ?_
    refine aU ?_
    refine sr1 hn ?_
    simp -dsimp [hf]
    cases hm
    refine bC ?_
    exact EE.here (by simp -dsimp [hf])
 ·refine aV (by simp -dsimp) c3 ?_
  refine bp ?_
  refine b8 ?_
  cases hm
  refine bz nofun ?_
  exact⟨rfl,EE.here (by simp -dsimp [c3])⟩
theorem c_R07_Right (l:List Point) (r:Bool) (hm:l7 l=some r):bg Tryz.prog 28 [.u (.one (dR2 l))] (vT r):=by
 refine dG Tryz.func28 Tryz.ntmps28 fun cx hn=>?_
 unfold l7 at hm
 refine srs hn ?_
 simp -dsimp
 refine aZ ?_
 obtain⟨a,j15,hm⟩:=bnd hm
 refine scE [(0,.u (.one (dR2 l))),(12,vT a)] [] ?_ fun Z O hf=>?_
 ·replace hm:=j15
  clear j15
  refine sr1 hn ?_
  rcases bc hm with ⟨c1,hm⟩ | ⟨c1,hm⟩
  ·simp -dsimp [c1]
   cases hm
   exact EE.here (by simp -dsimp)
  ·simp -dsimp [c1]
   cases hm
   exact EE.here (by simp -dsimp)
 ·clear j15
  simp only[Fits,bv,bu,and_true] at hf
  rcases bc hm with ⟨c2,hm⟩ | ⟨c2,hm⟩
  ·refine aW (by simp -dsimp [hf]) c2 ?_
   refine srs hn ?_
   simp -dsimp
   refine b0 (b8 ?_)
   cases hm
   refine⟨.inr rfl,?_⟩
   exact EE.here (by simp -dsimp)
  ·refine aV (by simp -dsimp [hf]) c2 ?_
   refine aY (aU (aZ ?_))
   refine srs hn ?_
   simp -dsimp
   refine b7 ?_
   obtain⟨o_,g14,hm⟩:=bnd hm
   refine bP (l_R07_Right_1 cx hn l g14) (by
     try dsimp only
     exact EE.here (by simp -dsimp [hf])
   ) fun ee Z O xx=>?_
   rcases o_ with r | _u
   ·unfold iA at xx
    dsimp only at xx
    obtain⟨rfl,xx⟩:=xx
    refine cy (b8 ?_)
    cases hm
    exact⟨.inr rfl,xx⟩
   ·unfold iA at xx
    dsimp only at xx
    obtain⟨rfl,xx⟩:=xx
    refine br ?_
    refine aU ?_
    refine see xx fun Z O hf=>?_
    simp only[Fits,bv,bu,and_true] at hf
    refine srs hn ?_
    simp -dsimp
    cases hm
    exact b0 ⟨.inr rfl,EE.here (by simp -dsimp)⟩
theorem c_R07_Abs (n r:Int) (hm:nN n=some r):bg Tryz.prog 29 [vI n] (vI r):=by
 refine dG Tryz.func29 Tryz.ntmps29 fun cx hn=>?_
 unfold nN at hm
 refine srs hn ?_
 simp -dsimp
 refine srs hn ?_
 simp -dsimp
 cases hm
 exact b0 ⟨.inr rfl,EE.here (by simp -dsimp)⟩
def k8 (cx:Cx) (_l:List Point) (tt:Int) (ee:Exit) (Z:Env) (O:Sto):Prop:=match tt with
 | n=>ee=.exit 0/\EE cx (bY [(3,vI n)] []) Z O
theorem l_R07_Radius_1 (cx:Cx) (hn:cx.n=29) (l:List Point) {fu:Nat} {stt:Int×Int} {tt:Int} (hh:bh (jb l) fu stt=some tt) {Z:Env} {O:Sto}
  (hE:cw (fun stt:Int×Int=>match stt with | (n,i)=>[(0,.u (.one (dR2 l))),(3,vI n),(4,vI i)]) (fun stt:Int×Int=>match stt with | (_n,_i)=>[]) stt Z O):Swp Tryz.prog cx (.loop (dx [1,1,1,0,1,0,0] (bQ Tryz.f8))) Z O (k8 cx l tt):=by
 refine cz hE hh (k8 cx l) ?_
 rintro⟨n,i⟩ r hm Z O hf
 simp only[Fits,bv,bu,and_true] at hf
 unfold jb at hm
 dsimp only at hm
 refine aZ ?_
 refine srs hn ?_
 simp -dsimp [hf]
 rcases bc hm with ⟨c3,hm⟩ | ⟨c3,hm⟩
 ·refine aW (by simp -dsimp) c3 ?_
  refine aY (aU (aZ (b7 ?_)))
  refine sw_qt bL mixed (by rw[hn]; kernel_rfl) ?_
  obtain⟨x,h4,hm⟩:=bnd hm
  obtain⟨y1,h5,hm⟩:=bnd hm
  simp -dsimp [hf,c3,h4]
  refine bn (c_R07_Abs x.X y1 h5) ?_
  obtain⟨y2,h6,hm⟩:=bnd hm
  simp -dsimp [hf,h4]
  refine bn (c_R07_Abs x.Y y2 h6) ?_
  simp -dsimp
  refine bI ?_
  refine aU ?_
  refine sr1 hn ?_
  simp -dsimp [hf]
  cases hm
  refine bC ?_
  exact EE.here (by simp -dsimp [hf])
 ·refine aV (by simp -dsimp) c3 ?_
  refine bp ?_
  refine b8 ?_
  cases hm
  refine bz nofun ?_
  exact⟨rfl,EE.here (by simp -dsimp [hf,c3])⟩
theorem c_R07_Radius (l:List Point) (r:Int) (hm:i6 l=some r):bg Tryz.prog 8 [.u (.one (dR2 l))] (vI r):=by
 refine dG Tryz.func8 Tryz.ntmps8 fun cx hn=>?_
 unfold i6 at hm
 refine srs hn ?_
 simp -dsimp
 refine aZ ?_
 refine srs hn ?_
 obtain⟨y,h1,hm⟩:=bnd hm
 simp -dsimp
 refine bi (c_R07_Right l y h1) (dkL hn) ?_
 simp -dsimp
 rcases bc hm with ⟨c2,hm⟩ | ⟨c2,hm⟩
 ·refine aW (by simp -dsimp) c2 ?_
  refine srs hn ?_
  simp -dsimp [c2]
  refine b0 (b8 ?_)
  cases hm
  refine⟨.inr rfl,?_⟩
  exact EE.here (by simp -dsimp)
 ·refine aV (by simp -dsimp) c2 ?_
  refine aY (aU ?_)
  refine srs hn ?_
  simp -dsimp [c2]
  refine aZ ?_
  refine srs hn ?_
  simp -dsimp
  refine b7 ?_
  obtain⟨n,g7,hm⟩:=bnd hm
  refine bP (l_R07_Radius_1 cx hn l g7) (by
    try dsimp only
    exact EE.here (by simp -dsimp)
  ) fun ee Z O xx=>?_
  unfold k8 at xx
  dsimp only at xx
  obtain⟨rfl,xx⟩:=xx
  refine br ?_
  refine aU ?_
  refine see xx fun Z O hf=>?_
  simp only[Fits,bv,bu,and_true] at hf
  refine srs hn ?_
  simp -dsimp [hf]
  cases hm
  exact b0 ⟨.inr rfl,EE.here (by simp -dsimp)⟩
def kT (cx:Cx) (_t:Tree) (_in_:List Int) (tt:Int) (ee:Exit) (Z:Env) (O:Sto):Prop:=match tt with
 | k=>ee=.exit 0/\EE cx (bY [(5,vI k)] []) Z O
theorem l_R12_Value_1 (cx:Cx) (hn:cx.n=30) (t:Tree) (in_:List Int) {fu:Nat} {stt:Int×Int} {tt:Int} (hh:bh (iB t in_) fu stt=some tt) {Z:Env} {O:Sto}
  (hE:cw (fun stt:Int×Int=>match stt with | (k,i)=>[(1,.u (.one (dL in_))),(2,vX 2),(5,vI k),(6,vI i)]) (fun stt:Int×Int=>match stt with | (_k,_i)=>[(2,.box [dI t.States,dR2 t.Hood,dR1 t.Nodes])]) stt Z O):Swp Tryz.prog cx (.loop (dx [1,1,0,1,0,0] (bQ Tryz.f9))) Z O (kT cx t in_ tt):=by
 refine cz hE hh (kT cx t in_) ?_
 rintro⟨k,i⟩ r hm Z O hf
 simp only[Fits,bv,bu,and_true] at hf
 unfold iB at hm
 dsimp only at hm
 refine aZ ?_
 refine srs hn ?_
 simp -dsimp [hf]
 rcases bc hm with ⟨c1,hm⟩ | ⟨c1,hm⟩
 ·refine aW (by simp -dsimp) c1 ?_
  refine aY (aU (aZ (b7 ?_)))
  refine sw_qt bL mixed (by rw[hn]; kernel_rfl) ?_
  obtain⟨x,h2,hm⟩:=bnd hm
  obtain⟨x1,h3,hm⟩:=bnd hm
  obtain⟨x2,h4,hm⟩:=bnd hm
  simp -dsimp [hf,c1,h2,h3,h4]
  refine bI ?_
  refine aU ?_
  refine sr1 hn ?_
  simp -dsimp [hf]
  cases hm
  refine bC ?_
  exact EE.here (by simp -dsimp [hf])
 ·refine aV (by simp -dsimp) c1 ?_
  refine bp ?_
  refine b8 ?_
  cases hm
  refine bz nofun ?_
  exact⟨rfl,EE.here (by simp -dsimp [hf,c1])⟩
theorem c_R12_Value (t:Tree) (in_:List Int) (r:Int) (hm:kW t in_=some r):bg Tryz.prog 9 [.u (.agg [dI t.States,dR2 t.Hood,dR1 t.Nodes]),.u (.one (dL in_))] (vI r):=by
 refine dG Tryz.func9 Tryz.ntmps9 fun cx hn=>?_
 unfold kW at hm
 refine srs hn ?_
 simp -dsimp
 refine srs hn ?_
 simp -dsimp
 refine aZ ?_
 refine srs hn ?_
 simp -dsimp
 refine b7 ?_
 obtain⟨k,g5,hm⟩:=bnd hm
 refine bP (l_R12_Value_1 cx hn t in_ g5) (by
   try dsimp only
   exact eeh
 ) fun ee Z O xx=>?_
 unfold kT at xx
 dsimp only at xx
 obtain⟨rfl,xx⟩:=xx
 refine br ?_
 refine aU ?_
 refine see xx fun Z O hf=>?_
 simp only[Fits,bv,bu,and_true] at hf
 refine srs hn ?_
 simp -dsimp [hf]
 cases hm
 exact b0 ⟨.inr rfl,EE.here (by simp -dsimp)⟩
end Go.Proofs.YtlifofijgddjkacGreatDoor
