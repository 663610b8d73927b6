/- Lemmas for the law. -/
import Derived.Test.YtpeabgakdpojlaaGreatDoorWa11
import Derived.Test.YtpeabgakdpojlaaGreatDoorCfP
namespace Go.Proofs.YtpeabgakdpojlaaGreatDoor
open Go.AM Go.Proofs
set_option maxHeartbeats 1000000
attribute [-simp] eC fi cW Ob.wipe Ob.ren Ob.frz1
theorem ig (l r:AK) (hm:d8 l=some r):GFn Tryz.prog 25 [vO 1000000,.u (.one (.fn 26 []))] [kW l] (.tup []) [some (kW r)]:=by
 refine zG bU Tryz.func25 rfl (by simp[Tryz.ntmps25]) λcx hn hk=>?_;replace hn:cx.n=14:=hn.trans Tryz.ntmps25;unfold d8 at hm;have hcf:∀x y:Grid,fQ x=true->fQ y=true->PFn Tryz.prog 26 [qF x,qF y] (·=.int (gJ x y)):=λx y hx hy=>PFn.of (CtP.pf (tot_ancestor_order x y hx hy));have hp:∀lim:Nat,lim<4611686018427387904->GFn Tryz.prog 57 [.one (.own inBase),.int 0,.int (br l),.int lim,.one (.fn 26 [])] [kW l] (.tup []) [some (kW r)] :=
  λlim hlim=>pdq_gR pdq57 (k:=4) (f:=Grid.row) (λ_=>rfl) Tryz.isAgg28 Tryz.sizeOf28 swo_ancestor_order (okB:=fQ) ⟨0,0,0,[]⟩ [.int .i64 0,.int .i64 0,.int .i64 0,.slice none 0 0] ⟨rfl,λE w F=>by simp only[Grid.row,List.map_cons,List.map_nil,bB,bG];exact⟨_,_,rfl,by simp[rep],_,_,rfl,by simp[rep],_,_,rfl,by simp[rep],_,_,rfl,by rw[rep];exact⟨_,_,_,rfl,rfl,Nat.le_refl _,Nat.zero_le _,.inl rfl⟩,rfl⟩⟩ hcf hm lim hlim
 refine srs hn ?_;simp -dsimp;refine sr1 hn ?_;simp -dsimp;refine bF (bits_pure bitsLen ⟨_,Tryz.func58,by decide,rfl⟩ _ (iconv_u64 _).1 (iconv_u64 _).2) (dkL hn) ?_;simp -dsimp;refine callL_g (hp (Lib.bitLen (pK .u64 (br l)).toNat) (bitLen_small _ (by have:=(iconv_u64 (br l));omega))) [1000000] [] rfl rfl rfl (by simp -dsimp) rfl (by simp -dsimp) rfl rfl (dkL hn) ?_;exact zz
end Go.Proofs.YtpeabgakdpojlaaGreatDoor
namespace Go.Proofs.YtpeabgakdpojlaaGreatDoor
open Go.AM Go.Proofs
set_option maxHeartbeats 1000000
set_option maxRecDepth 100000
attribute [-simp] eC fi cW Ob.wipe Ob.ren Ob.frz1
def oN (cx:Cx) (_y1:AV×Int) (_y2:Int×Int×Int) (tt:AK) (ee:Exit) (Z:Env) (O:Sto):Prop:=match tt with|out=>ee=.exit 0/\EE cx (bY [(13,vO 5003)] [(5003,kW out)]) Z O
instance i8 (y1 y2) {fu stt tt}:LtP (bv (oG y1 y2) fu stt=some tt) (lp 61 stt (λ|(a1,_out)=>[(12,.u (.one (.fn 55 [.box 5001 0,.box 5002 0,.box 5000 0]))),(13,vO 5003),(45,.u (.one (.d (.sl 1 (List.map (rS 1 rB) y1.1))))),(46,vI (br y1.1)),(47,vI a1)]) (λ|(_a1,out)=>[(5000,kC y2.1),(5001,kC y2.2.1),(5002,kC y2.2.2),(5003,kW out)]) (cU [1,1,1,1,1,1,1,1,0,1,0,0] (bS Tryz.f8)) λcx=>oN cx y1 y2 tt):=⟨λhh cx hn Z O hE=>by
 refine cp hE hh (oN cx y1 y2) ?_;rintro⟨a1,out⟩ r hm Z O hf;simp only[Fits,bN,bO,and_true] at hf;unfold oG at hm;dsimp only at hm;refine srs hn ?_;simp -dsimp[hf];refine bo ?_;rcases bQ hm with⟨c8,hm⟩|⟨c8,hm⟩;{refine zW c8 ?_;refine bq (bn (bo (bp ?_)));refine srs hn ?_;obtain⟨x,h9,hm⟩:=bnd hm;simp -dsimp[hf,c8,h9];refine sr1 hn ?_;obtain⟨y3,h10,hm⟩:=bnd hm;simp -dsimp[hf];refine clg (mW x y2.2.1 y2.2.2 y2.1 y3 h10) [5001,5002,5000] [] (by simp -dsimp[hf]) (dkL hn) ?_;obtain⟨l,h11,hm⟩:=bnd hm;obtain⟨h11a,h11e⟩:=bJ h11;replace h11e:=h11e.symm;subst h11e;(try simp only[List.length_cons,List.length_nil,Nat.zero_add] at h11a);simp -dsimp[hf,h11a];refine cn ?_;refine bn ?_;refine sr1 hn ?_;simp -dsimp[hf];cases hm;refine cj ?_;refine emv 56 5003 ?_;exact zz}
 ·exact zz⟩
instance i10 (t gv most r):CtP (nV t gv most=some r) (bA Tryz.prog 8 [qZ t,qF gv,vI most] (.tup [.one (dR0 r.1),.one (dI r.2)])):=⟨λhm=>by
 refine dH Tryz.func8 Tryz.ntmps8 λcx hn=>?_;unfold nV at hm;refine srs hn ?_;simp -dsimp;refine srs hn ?_;obtain⟨y,h1,hm⟩:=bnd hm;simp -dsimp;refine bF (CtP.pf h1) (dkL hn) ?_;simp -dsimp;refine bo ?_;refine srs hn ?_;simp -dsimp;rcases bQ hm with⟨c2,hm⟩|⟨c2,hm⟩;{exact zz}
 ·refine zX c2 ?_;refine bq (bn (bo ?_));obtain⟨a,j14,hm⟩:=bnd hm;refine scE [(2,vI most),(3,vX 3),(4,vX 4),(8,vX 8),(9,vI y.2.1),(31,vT a)] [(3,qX t),(4,qH gv),(8,.box [dI y.1.Vars,qE y.1.Clauses])] ?_ λZ O hf=>?_;{replace hm:=j14;clear j14;exact zz}
  ·clear j14;simp only[Fits,bN,bO,and_true] at hf;rcases bQ hm with⟨c4,hm⟩|⟨c4,hm⟩;{exact zz}
   ·refine zK c4 ?_;refine bq (bn ?_);refine srs hn ?_;obtain⟨y1,h5,hm⟩:=bnd hm;simp -dsimp[hf];refine bF (CtP.pf h5) (dkL hn) ?_;simp -dsimp;refine bo ?_;refine srs hn ?_;simp -dsimp;rcases bQ hm with⟨c6,hm⟩|⟨c6,hm⟩;{exact zz}
    ·refine zX c6 ?_;refine bq (bn ?_);refine srs hn ?_;obtain⟨y2,h7,hm⟩:=bnd hm;simp -dsimp[hf,c6];refine clg (sS t gv y2 h7) [] [5000,5001,5002] (by simp -dsimp) (dkL hn) ?_;simp -dsimp;refine srs hn ?_;simp -dsimp;refine bo ?_;refine srs hn ?_;simp -dsimp;refine bp ?_;obtain⟨out,g12,hm⟩:=bnd hm;refine bT (LtP.pf g12 cx hn) (by
       (try dsimp only);refine EE.step (Wk.own0 13 5003 4 28 (by simp -dsimp) (by decide)) ?_
       exact zz) λee Z O xx=>?_
     unfold oN at xx;dsimp only at xx;obtain⟨rfl,xx⟩:=xx;refine bR ?_;refine bn ?_;refine see xx λZ O hf=>?_;simp only[Fits,bN,bO,and_true] at hf;refine srs hn ?_;obtain⟨y3,h13,hm⟩:=bnd hm;simp -dsimp[hf];refine clg (ig out y3 h13) [5003] [] (by simp -dsimp[hf]) (dkL hn) ?_;exact zz⟩
instance i11 (s a r):CtP (lR s a=some r) (bA Tryz.prog 69 [vI s,.u (.one (.ref (Tree.row a) 0))] (vT r)):=⟨λhm=>by refine dH Tryz.func69 Tryz.ntmps69 λcx hn=>?_;unfold lR at hm;refine srs hn ?_;simp -dsimp;refine srs hn ?_;simp -dsimp;refine bK ?_;cases hm;refine⟨.inr rfl,?_⟩;exact zY⟩
def fC (cx:Cx) (_s:A0) (_cv:Tree) (tt:Int ⊕ Unit) (ee:Exit) (Z:Env) (O:Sto):Prop:=match tt with|.inl r=>ee=.ret/\EE cx (λZ O=>∃v,iE tb Z O Tryz.f75.results.toList=some v/\(v.frz O).free=true/\(v.frz O).wk (vI r)) Z O|.inr _u=>ee=.exit 0/\EE cx (bY [] []) Z O
instance i12 (s cv) {fu stt tt}:LtP (bv (cm s cv) fu stt=some tt) (lp 19 stt (λa=>[(0,qG s),(1,jA cv),(7,vI (br s)),(8,vI a)]) (λ_a=>[]) (cU [1,0,1,0,0] (bS Tryz.f75)) λcx=>fC cx s cv tt):=⟨λhh cx hn Z O hE=>by refine cp hE hh (fC cx s cv) ?_;rintro a r hm Z O hf;simp only[Fits,bN,bO,and_true] at hf;unfold cm at hm;exact zz⟩
instance i13 (s cv r):CtP (d6 s cv=some r) (bA Tryz.prog 75 [qG s,jA cv] (vI r)):=⟨λhm=>by
 refine dH Tryz.func75 Tryz.ntmps75 λcx hn=>?_;unfold d6 at hm;refine srs hn ?_;simp -dsimp;refine bo ?_;refine srs hn ?_;simp -dsimp;refine bp ?_;obtain⟨o_,g5,hm⟩:=bnd hm;refine bT (LtP.pf g5 cx hn) (by
   (try dsimp only);exact eeh) λee Z O xx=>?_
 rcases o_ with r|_u;{exact zz}
 ·exact zz⟩
instance i14 (s cv r):CtP (cy s cv=some r) (bA Tryz.prog 42 [qG s,jA cv] (vT r)):=⟨λhm=>by refine dH Tryz.func42 Tryz.ntmps42 λcx hn=>?_;unfold cy at hm;refine srs hn ?_;simp -dsimp;refine srs hn ?_;obtain⟨y,h1,hm⟩:=bnd hm;simp -dsimp;refine bF (CtP.pf h1) (dkL hn) ?_;simp -dsimp;refine bK ?_;cases hm;refine⟨.inr rfl,?_⟩;exact zY⟩
instance i15 (t gv r):CtP (jk t gv=some r) (bA Tryz.prog 36 [qZ t,qF gv] (vI r)):=⟨λhm=>by
 refine dH Tryz.func36 Tryz.ntmps36 λcx hn=>?_;unfold jk at hm;refine srs hn ?_;simp -dsimp;refine bo (bp ?_);refine srs hn ?_;obtain⟨y,h1,hm⟩:=bnd hm;simp -dsimp;refine bF (CtP.pf h1) (dkL hn) ?_;simp -dsimp;rcases bQ hm with⟨c2,hm⟩|⟨c2,hm⟩;{refine zW c2 ?_;refine srs hn ?_;simp -dsimp[c2];refine bK (qw (d7 ?_));cases hm;refine⟨.inr rfl,?_⟩;exact zY}
 ·refine zX c2 ?_;refine srs hn ?_;obtain⟨y1,h3,hm⟩:=bnd hm;simp -dsimp[c2];refine bF (CtP.pf h3) (dkL hn) ?_;simp -dsimp;rcases bQ hm with⟨c4,hm⟩|⟨c4,hm⟩;{refine zW c4 ?_;refine srs hn ?_;simp -dsimp[c4];refine bK (qw (d7 ?_));cases hm;refine⟨.inr rfl,?_⟩;exact zY}
  ·refine zX c4 ?_;refine srs hn ?_;obtain⟨y2,h5,hm⟩:=bnd hm;simp -dsimp[c4];refine gq (us':=[qG gv.Cells,jA t]) (CtP.pf h5) (by simp -dsimp) rfl (dkL hn) ?_;simp -dsimp;rcases bQ hm with⟨c6,hm⟩|⟨c6,hm⟩;{refine zW c6 ?_;refine srs hn ?_;simp -dsimp[c6];refine bK (qw (d7 ?_));cases hm;refine⟨.inr rfl,?_⟩;exact zY}
   ·refine zX c6 ?_;refine bq ?_;refine cn ?_;refine bn ?_;refine srs hn ?_;simp -dsimp[c6];refine bK ?_;cases hm;refine⟨.inr rfl,?_⟩;exact zY⟩
instance i16 (s a r):CtP (sL s a=some r) (bA Tryz.prog 71 [vI s,.u (.one (.ref (Tree.row a) 0))] (vT r)):=⟨λhm=>by
 refine dH Tryz.func71 Tryz.ntmps71 λcx hn=>?_;unfold sL at hm;refine srs hn ?_;simp -dsimp;obtain⟨a1,j2,hm⟩:=bnd hm;refine scE [(3,vT a1)] [] ?_ λZ O hf=>?_;{replace hm:=j2;clear j2;exact zz}
 ·clear j2;exact zz⟩
def gh (cx:Cx) (_s:A0) (_cv:Tree) (tt:Int ⊕ Unit) (ee:Exit) (Z:Env) (O:Sto):Prop:=match tt with|.inl r=>ee=.ret/\EE cx (λZ O=>∃v,iE tb Z O Tryz.f75.results.toList=some v/\(v.frz O).free=true/\(v.frz O).wk (vI r)) Z O|.inr _u=>ee=.exit 0/\EE cx (bY [] []) Z O
instance i17 (s cv) {fu stt tt}:LtP (bv (ef s cv) fu stt=some tt) (lp 19 stt (λa=>[(0,qG s),(1,jB cv),(7,vI (br s)),(8,vI a)]) (λ_a=>[]) (cU [1,0,1,0,0] (bS Tryz.f75)) λcx=>gh cx s cv tt):=⟨λhh cx hn Z O hE=>by refine cp hE hh (gh cx s cv) ?_;rintro a r hm Z O hf;simp only[Fits,bN,bO,and_true] at hf;unfold ef at hm;exact zz⟩
instance i18 (s cv r):CtP (eF s cv=some r) (bA Tryz.prog 75 [qG s,jB cv] (vI r)):=⟨λhm=>by
 refine dH Tryz.func75 Tryz.ntmps75 λcx hn=>?_;unfold eF at hm;refine srs hn ?_;simp -dsimp;refine bo ?_;refine srs hn ?_;simp -dsimp;refine bp ?_;obtain⟨o_,g5,hm⟩:=bnd hm;refine bT (LtP.pf g5 cx hn) (by
   (try dsimp only);exact eeh) λee Z O xx=>?_
 rcases o_ with r|_u;{exact zz}
 ·exact zz⟩
instance i19 (s cv r):CtP (dZ s cv=some r) (bA Tryz.prog 42 [qG s,jB cv] (vT r)):=⟨λhm=>by refine dH Tryz.func42 Tryz.ntmps42 λcx hn=>?_;unfold dZ at hm;refine srs hn ?_;simp -dsimp;refine srs hn ?_;obtain⟨y,h1,hm⟩:=bnd hm;simp -dsimp;refine bF (CtP.pf h1) (dkL hn) ?_;simp -dsimp;refine bK ?_;cases hm;refine⟨.inr rfl,?_⟩;exact zY⟩
def rz (cx:Cx) (_t:Tree) (_in_:A0) (tt:Int) (ee:Exit) (Z:Env) (O:Sto):Prop:=match tt with|k=>ee=.exit 0/\EE cx (bY [(5,vI k)] []) Z O
instance i21 (t in_) {fu stt tt}:LtP (bv (ql t in_) fu stt=some tt) (lp 29 stt (λ|(k,a)=>[(2,vX 2),(5,vI k),(12,qG in_),(13,vI (br in_)),(14,vI a)]) (λ|(_k,_a)=>[(2,qX t)]) (cU [1,1,0,1,0,0] (bS Tryz.f72)) λcx=>rz cx t in_ tt):=⟨λhh cx hn Z O hE=>by refine cp hE hh (rz cx t in_) ?_;rintro⟨k,a⟩ r hm Z O hf;simp only[Fits,bN,bO,and_true] at hf;unfold ql at hm;exact zz⟩
instance i22 (t in_ r):CtP (tS t in_=some r) (bA Tryz.prog 72 [qZ t,qG in_] (vI r)):=⟨λhm=>by
 refine dH Tryz.func72 Tryz.ntmps72 λcx hn=>?_;unfold tS at hm;refine srs hn ?_;simp -dsimp;refine srs hn ?_;simp -dsimp;refine bo ?_;refine srs hn ?_;simp -dsimp;refine bp ?_;obtain⟨k,g5,hm⟩:=bnd hm;refine bT (LtP.pf g5 cx hn) (by
   (try dsimp only);exact eeh) λee Z O xx=>?_
 unfold rz at xx;dsimp only at xx;obtain⟨rfl,xx⟩:=xx;refine bR ?_;refine bn ?_;refine see xx λZ O hf=>?_;simp only[Fits,bN,bO,and_true] at hf;refine srs hn ?_;simp -dsimp[hf];refine bK ?_;cases hm;refine⟨.inr rfl,?_⟩;exact zY⟩
instance i23 (t in_ r):CtP (m_tree_Eval t in_=some r) (bA Tryz.prog 39 [qZ t,qG in_] (.tup [.one (dI r.1),.one (dI r.2)])):=⟨λhm=>by
 refine dH Tryz.func39 Tryz.ntmps39 λcx hn=>?_;unfold m_tree_Eval at hm;refine srs hn ?_;simp -dsimp;refine bo (bp ?_);refine srs hn ?_;obtain⟨y,h1,hm⟩:=bnd hm;simp -dsimp;refine bF (CtP.pf h1) (dkL hn) ?_;simp -dsimp;rcases bQ hm with⟨c2,hm⟩|⟨c2,hm⟩;{refine zW c2 ?_;refine srs hn ?_;simp -dsimp[c2];refine bK (qw (d7 ?_));cases hm;refine⟨.inr rfl,?_⟩;exact zY}
 ·refine zX c2 ?_;refine srs hn ?_;simp -dsimp[c2];rcases bQ hm with⟨c3,hm⟩|⟨c3,hm⟩;{refine zW c3 ?_;refine srs hn ?_;simp -dsimp[c3];refine bK (qw (d7 ?_));cases hm;refine⟨.inr rfl,?_⟩;exact zY}
  ·refine zX c3 ?_;refine srs hn ?_;obtain⟨y1,h4,hm⟩:=bnd hm;simp -dsimp[c3];refine gq (us':=[qG in_,jB t]) (CtP.pf h4) (by simp -dsimp) rfl (dkL hn) ?_;simp -dsimp;rcases bQ hm with⟨c5,hm⟩|⟨c5,hm⟩;{refine zW c5 ?_;refine srs hn ?_;simp -dsimp[c5];refine bK (qw (d7 ?_));cases hm;refine⟨.inr rfl,?_⟩;exact zY}
   ·refine zX c5 ?_;refine bq ?_;refine cn ?_;refine bn ?_;refine srs hn ?_;obtain⟨y2,h6,hm⟩:=bnd hm;simp -dsimp[c5];refine bF (CtP.pf h6) (dkL hn) ?_;simp -dsimp;refine bK ?_;cases hm;refine⟨.inr rfl,?_⟩;exact zY⟩
def nf (cx:Cx) (t:Tree) (gv:Grid) (y1 a1 a2:Int) (l1:A0) (tt:A0) (ee:Exit) (Z:Env) (O:Sto):Prop:=match tt with|in_=>ee=.exit 4/\EE cx (bY [(2,vX 2),(3,vX 3),(4,vX 4),(7,vI y1),(8,vX 8),(9,vI a1),(11,vO 5000),(47,vI (bZ .i64 gv.H (bH .i64 2 y1))),(48,vI a1),(52,vI (bZ .i64 gv.W (bH .i64 2 y1))),(53,vI a2)] [(2,qX t),(3,qH gv),(4,kG),(8,jG gv.W y1 gv.H),(5000,qQ in_),(5001,qQ l1)]) Z O
instance i24 (t gv y1 a1 a2 l1) {fu stt tt}:LtP (bv (ng t gv y1 a1 a2 l1) fu stt=some tt) (lp 102 stt (λ|(a3,_in_)=>[(2,vX 2),(3,vX 3),(4,vX 4),(7,vI y1),(8,vX 8),(9,vI a1),(10,vI a2),(11,vO 5000),(47,vI (bZ .i64 gv.H (bH .i64 2 y1))),(48,vI a1),(52,vI (bZ .i64 gv.W (bH .i64 2 y1))),(53,vI a2),(57,kL t.Hood),(58,vI (br t.Hood)),(59,vI a3)]) (λ|(_a3,in_)=>[(2,qX t),(3,qH gv),(4,kG),(8,jG gv.W y1 gv.H),(5000,qQ in_),(5001,qQ l1)]) (cU [1,1,1,1,1,0,1,0,0,1,1,0,0,1,1,0,0,1,1,0,0,1,1,0,1,0,0] (bS Tryz.f21)) λcx=>nf cx t gv y1 a1 a2 l1 tt):=⟨λhh cx hn Z O hE=>by
 refine cp hE hh (nf cx t gv y1 a1 a2 l1) ?_;rintro⟨a3,in_⟩ r hm Z O hf;simp only[Fits,bN,bO,and_true] at hf;unfold ng at hm;dsimp only at hm;refine srs hn ?_;simp -dsimp[hf];refine bo ?_;rcases bQ hm with⟨c8,hm⟩|⟨c8,hm⟩;{refine zW c8 ?_;refine bq (bn (bo (bp ?_)));refine srs hn ?_;obtain⟨x,h9,hm⟩:=bnd hm;simp -dsimp[hf,c8,h9];refine sr1 hn ?_;obtain⟨x1,h10,hm⟩:=bnd hm;obtain⟨l2,h11,hm⟩:=bnd hm;obtain⟨h11a,h11e⟩:=bJ h11;replace h11e:=h11e.symm;subst h11e;(try simp only[List.length_cons,List.length_nil,Nat.zero_add] at h11a);simp -dsimp[hf,h10,h11a];refine cn ?_;refine bn ?_;refine sr1 hn ?_;simp -dsimp[hf];cases hm;refine cj ?_;refine emv 85 5000 ?_;exact zz}
 ·exact zz⟩
def rr (cx:Cx) (t:Tree) (gv:Grid) (y1 a1:Int) (tt:A0) (ee:Exit) (Z:Env) (O:Sto):Prop:=match tt with|l1=>ee=.exit 2/\EE cx (bY [(2,vX 2),(3,vX 3),(4,vX 4),(7,vI y1),(8,vX 8),(47,vI (bZ .i64 gv.H (bH .i64 2 y1))),(48,vI a1)] [(2,qX t),(3,qH gv),(4,kG),(8,jG gv.W y1 gv.H),(5001,qQ l1)]) Z O
instance i25 (t gv y1 a1) {fu stt tt}:LtP (bv (nn t gv y1 a1) fu stt=some tt) (lp 102 stt (λ|(a2,_l1)=>[(2,vX 2),(3,vX 3),(4,vX 4),(7,vI y1),(8,vX 8),(9,vI a1),(47,vI (bZ .i64 gv.H (bH .i64 2 y1))),(48,vI a1),(52,vI (bZ .i64 gv.W (bH .i64 2 y1))),(53,vI a2)]) (λ|(_a2,l1)=>[(2,qX t),(3,qH gv),(4,kG),(8,jG gv.W y1 gv.H),(5001,qQ l1)]) (cU [1,1,1,1,1,0,1,0,0,1,1,0,0,1,1,0,0] (bS Tryz.f21)) λcx=>rr cx t gv y1 a1 tt):=⟨λhh cx hn Z O hE=>by
 refine cp hE hh (rr cx t gv y1 a1) ?_;rintro⟨a2,l1⟩ r hm Z O hf;simp only[Fits,bN,bO,and_true] at hf;unfold nn at hm;dsimp only at hm;refine srs hn ?_;simp -dsimp[hf];refine bo ?_;rcases bQ hm with⟨c7,hm⟩|⟨c7,hm⟩
 ·refine zW c7 ?_;refine bq (bn (bo (bp ?_)));refine srs hn ?_;simp -dsimp[hf,c7];refine srs hn ?_;simp -dsimp;refine bo ?_;refine srs hn ?_;simp -dsimp[hf];refine bp ?_;obtain⟨in_,g12,hm⟩:=bnd hm;refine bT (LtP.pf g12 cx hn) (by
    (try dsimp only);refine EE.step (Wk.own0 11 5000 1 3 (by simp -dsimp) (by decide)) ?_
    exact zz) λee Z O xx=>?_
  unfold nf at xx;dsimp only at xx;obtain⟨rfl,xx⟩:=xx;refine bR ?_;refine bn ?_;refine see xx λZ O hf=>?_;simp only[Fits,bN,bO,and_true] at hf;refine srs hn ?_;obtain⟨y2,h13,hm⟩:=bnd hm;simp -dsimp[hf];refine gq (us':=[qZ t,qG in_]) (CtP.pf h13) (by simp -dsimp[hf]) rfl (dkL hn) ?_;simp -dsimp;refine sr1 hn ?_;obtain⟨l2,h14,hm⟩:=bnd hm;obtain⟨h14a,h14e⟩:=bJ h14;replace h14e:=h14e.symm;subst h14e;(try simp only[List.length_cons,List.length_nil,Nat.zero_add] at h14a);simp -dsimp[hf,h14a];refine cn ?_;refine bn ?_;refine sr1 hn ?_;simp -dsimp[hf];cases hm;refine cj ?_;refine emv 97 5001 ?_;exact zz
 ·exact zz⟩
def np (cx:Cx) (_t:Tree) (gv:Grid) (y1:Int) (tt:A0) (ee:Exit) (Z:Env) (O:Sto):Prop:=match tt with|l=>ee=.exit 0/\EE cx (bY [(4,vX 4),(8,vX 8)] [(4,kG),(8,jG gv.W y1 gv.H),(5001,qQ l)]) Z O
instance i26 (t gv y1) {fu stt tt}:LtP (bv (nc t gv y1) fu stt=some tt) (lp 102 stt (λ|(a1,_l)=>[(2,vX 2),(3,vX 3),(4,vX 4),(7,vI y1),(8,vX 8),(47,vI (bZ .i64 gv.H (bH .i64 2 y1))),(48,vI a1)]) (λ|(_a1,l)=>[(2,qX t),(3,qH gv),(4,kG),(8,jG gv.W y1 gv.H),(5001,qQ l)]) (cU [1,1,1,1,1,0,1,0,0] (bS Tryz.f21)) λcx=>np cx t gv y1 tt):=⟨λhh cx hn Z O hE=>by refine cp hE hh (np cx t gv y1) ?_;rintro⟨a1,l⟩ r hm Z O hf;simp only[Fits,bN,bO,and_true] at hf;unfold nc at hm;exact zz⟩
instance i27 (t gv r):CtP (oE t gv=some r) (bA Tryz.prog 21 [qZ t,qF gv] (.tup [.agg [dI r.1.W,dI r.1.H,dI r.1.Edge,dL r.1.Cells],.one (dI r.2)])):=⟨λhm=>by
 refine dH Tryz.func21 Tryz.ntmps21 λcx hn=>?_;unfold oE at hm;refine srs hn ?_;simp -dsimp;refine bo ?_;refine srs hn ?_;obtain⟨y,h1,hm⟩:=bnd hm;simp -dsimp;refine bF (CtP.pf h1) (dkL hn) ?_;simp -dsimp;refine srs hn ?_;simp -dsimp;rcases bQ hm with⟨c2,hm⟩|⟨c2,hm⟩;{exact zz}
 ·refine zX c2 ?_;refine bq (bn ?_);refine srs hn ?_;obtain⟨y1,h3,hm⟩:=bnd hm;simp -dsimp[c2];refine bF (CtP.pf h3) (dkL hn) ?_;simp -dsimp;refine srs hn ?_;simp -dsimp;refine bo ?_;obtain⟨a,j17,hm⟩:=bnd hm;refine scE [(2,vX 2),(3,vX 3),(4,vX 4),(7,vI y1),(8,vX 8),(44,vT a)] [(2,qX t),(3,qH gv),(4,kG),(8,.box [dI (bZ .i64 gv.W (bH .i64 2 y1)),dI (bZ .i64 gv.H (bH .i64 2 y1)),dI 0,.d .nil])] ?_ λZ O hf=>?_;{replace hm:=j17;clear j17;exact zz}
  ·clear j17;simp only[Fits,bN,bO,and_true] at hf;rcases bQ hm with⟨c5,hm⟩|⟨c5,hm⟩;{exact zz}
   ·refine zK c5 ?_;refine bq (bn (bo ?_));refine srs hn ?_;simp -dsimp[hf];refine bp ?_;obtain⟨l,g16,hm⟩:=bnd hm;refine bT (LtP.pf g16 cx hn) (by
      (try dsimp only);refine EE.step (Wk.own0b 8 3 5001 1 3 [dI (bZ .i64 gv.W (bH .i64 2 y1)),dI (bZ .i64 gv.H (bH .i64 2 y1)),dI 0,.d .nil] (by simp -dsimp[hf]) (by rfl) (by decide) (by decide)) ?_
      exact zz) λee Z O xx=>?_
    unfold np at xx;dsimp only at xx;obtain⟨rfl,xx⟩:=xx;refine bR ?_;refine bn ?_;refine see xx λZ O hf=>?_;simp only[Fits,bN,bO,and_true] at hf;refine Swp.pre (Wk.frz 5001 1 3 (List.map (rI .i64) l) (by simp -dsimp[hf])) ?_;exact zz⟩
