/- That the code does what the functions say (made by cc.py). -/
import Derived.Test.YtopmhknobhmbgaaGreatDoorMdx1
import Derived.Test.YtopmhknobhmbgaaGreatDoorTb
import Derived.Test.YtopmhknobhmbgaaGreatDoorLays
namespace Go.Proofs.YtopmhknobhmbgaaGreatDoor
open Go.AM Go.Proofs
set_option maxRecDepth 100000
attribute [-simp] fG gu jS df Ob.wipe Ob.ren Ob.frz1 jO
def r9 (cx:Cx) (_t:Tree) (x:Bn) (tt:Bool ⊕ Unit) (ee:Exit) (Z:Env) (O:Sto):Prop:=match tt with|.inl r=>ee=.ret/\EE cx (λZ O=>∃v,jk tb Z O Tryz.f11.results.toList=some v/\(v.frz O).free=true/\(v.frz O).wk (vT r)) Z O|.inr _u=>ee=.exit 0/\EE cx (cb [(3,vX 3)] [(3,kV x)]) Z O
instance i83 (t x) {fu stt tt}:LtP (bn (m9 t x) fu stt=some tt) (lp 81 stt (λa1=>[(2,vX 2),(3,vX 3),(34,vI (bi t.Nodes)),(35,vI a1)]) (λ_a1=>[(2,qY t),(3,kV x)]) (dF [1,1,0,1,0,0] (bT Tryz.f11)) λcx=>r9 cx t x tt):=⟨λhh cx hn Z O hE=>by refine cO hE hh (r9 cx t x) ?_;rintro a1 r hm Z O hf;simp only[Fits,bL,bM,and_true] at hf;unfold m9 at hm;exact zz⟩
instance i84 (t x r):CtP (mG t x=some r) (br Tryz.prog 11 [.u (qJ t),.u (.agg [dI x.W,dI x.H,dI x.Gens,dI x.DX,dI x.DY,dL x.Syms])] (vT r)):=⟨λhm=>by
 refine eX Tryz.func11 Tryz.ntmps11 λcx hn=>?_;unfold mG at hm;refine srs hn ?_;simp -dsimp;refine bh ?_;obtain⟨a,j16,hm⟩:=bnd hm;refine scE [(2,vX 2),(3,vX 3),(31,vT a)] [(2,qY t),(3,kV x)] ?_ λZ O hf=>?_;{replace hm:=j16;clear j16;exact zz}
 ·clear j16;simp only[Fits,bL,bM,and_true] at hf;rcases bQ hm with⟨c5,hm⟩|⟨c5,hm⟩;{exact zz}
  ·refine bq (by simp -dsimp[hf]) c5 ?_;refine bl (bg (bh ?_));refine srs hn ?_;simp -dsimp[hf];refine bj ?_;obtain⟨o_,g9,hm⟩:=bnd hm;refine bZ (LtP.pf g9 cx hn) (by
     (try dsimp only);exact EE.here (by simp -dsimp[hf])) λee Z O xx=>?_
   rcases o_ with r|_u;{exact zz}
   ·unfold r9 at xx;dsimp only at xx;obtain⟨rfl,xx⟩:=xx;refine cd ?_;refine bg ?_;refine see xx λZ O hf=>?_;simp only[Fits,bL,bM,and_true] at hf;obtain⟨a1,j15,hm⟩:=bnd hm;refine scE [(4,vT a1)] [] ?_ λZ O hf=>?_;{replace hm:=j15;clear j15;exact zz}
    ·clear j15;exact zz⟩
instance i85 (a b r):CtP (nf a b=some r) (br Tryz.prog 57 [.u (.agg [dI a.X,dI a.Y]),.u (.agg [dI b.X,dI b.Y])] (vT r)):=⟨λhm=>by
 refine eX Tryz.func57 Tryz.ntmps57 λcx hn=>?_;unfold nf at hm;refine srs hn ?_;simp -dsimp;obtain⟨a1,j3,hm⟩:=bnd hm;refine scE [(4,vT a1)] [] ?_ λZ O hf=>?_;{replace hm:=j3;clear j3;exact zz}
 ·clear j3;exact zz⟩
def F_R07_Right_1 (cx:Cx) (_l:Ay) (tt:Bool ⊕ Unit) (ee:Exit) (Z:Env) (O:Sto):Prop:=match tt with|.inl r=>ee=.ret/\EE cx (λZ O=>∃v,jk tb Z O Tryz.f30.results.toList=some v/\(v.frz O).free=true/\(v.frz O).wk (vT r)) Z O|.inr _u=>ee=.exit 0/\EE cx (cb [] []) Z O
instance i86 (l) {fu stt tt}:LtP (bn (mc l) fu stt=some tt) (lp 55 stt (λi=>[(0,kA l),(3,vI i)]) (λ_i=>[]) (dF [1,1,0,1,0,0] (bT Tryz.f30)) λcx=>F_R07_Right_1 cx l tt):=⟨λhh cx hn Z O hE=>by
 refine cO hE hh (F_R07_Right_1 cx l) ?_;rintro i r hm Z O hf;simp only[Fits,bL,bM,and_true] at hf;unfold mc at hm;dsimp only at hm;refine bh ?_;refine srs hn ?_;simp -dsimp[hf];rcases bQ hm with⟨c3,hm⟩|⟨c3,hm⟩;{refine bo (by simp -dsimp) c3 ?_;refine bl (bg (bh (bj ?_)));refine srs hn ?_;obtain⟨x,h4,hm⟩:=bnd hm;simp -dsimp[hf,c3,h4];obtain⟨a1,j13,hm⟩:=bnd hm;refine scE [(0,kA l),(3,vI i),(54,vT a1)] [] ?_ λZ O hf=>?_;{replace hm:=j13;clear j13;exact zz};{clear j13;exact zz}}
 ·exact zz⟩
instance i87 (l r):CtP (mH l=some r) (br Tryz.prog 30 [kA l] (vT r)):=⟨λhm=>by
 refine eX Tryz.func30 Tryz.ntmps30 λcx hn=>?_;unfold mH at hm;refine srs hn ?_;simp -dsimp;refine bh ?_;obtain⟨a,j15,hm⟩:=bnd hm;refine scE [(0,kA l),(12,vT a)] [] ?_ λZ O hf=>?_;{replace hm:=j15;clear j15;exact zz}
 ·clear j15;simp only[Fits,bL,bM,and_true] at hf;rcases bQ hm with⟨c2,hm⟩|⟨c2,hm⟩;{exact zz}
  ·refine bq (by simp -dsimp[hf]) c2 ?_;refine bl (bg (bh ?_));refine srs hn ?_;simp -dsimp;refine bj ?_;obtain⟨o_,g14,hm⟩:=bnd hm;refine bZ (LtP.pf g14 cx hn) (by
     (try dsimp only);exact EE.here (by simp -dsimp[hf])) λee Z O xx=>?_
   rcases o_ with r|_u;{exact zz}
   ·exact zz⟩
def F_R12_Right_2 (cx:Cx) (t:Tree) (i:Int) (_x:Node) (tt:Bool ⊕ Unit) (ee:Exit) (Z:Env) (O:Sto):Prop:=match tt with|.inl r=>ee=.ret/\EE cx (λZ O=>∃v,jk tb Z O Tryz.f13.results.toList=some v/\(v.frz O).free=true/\(v.frz O).wk (vT r)) Z O|.inr _u=>ee=.exit 2/\EE cx (cb [(1,vX 1),(3,vI (bi t.Nodes)),(4,vI i)] [(1,qY t)]) Z O
instance i88 (t i x) {fu stt tt}:LtP (bn (lh t i x) fu stt=some tt) (lp 115 stt (λs=>[(1,vX 1),(3,vI (bi t.Nodes)),(4,vI i),(5,vX 5),(6,vI s)]) (λ_s=>[(1,qY t),(5,qV x)]) (dF [1,1,1,0,1,0,0,1,0,0,1,1,1,0,0] (bT Tryz.f13)) λcx=>F_R12_Right_2 cx t i x tt):=⟨λhh cx hn Z O hE=>by
 refine cO hE hh (F_R12_Right_2 cx t i x) ?_;rintro s r hm Z O hf;simp only[Fits,bL,bM,and_true] at hf;unfold lh at hm;dsimp only at hm;refine bh ?_;refine srs hn ?_;simp -dsimp[hf];rcases bQ hm with⟨c12,hm⟩|⟨c12,hm⟩;{refine bo (by simp -dsimp) c12 ?_;refine bl (bg (bh (bj ?_)));refine srs hn ?_;obtain⟨x1,h13,hm⟩:=bnd hm;simp -dsimp[hf,c12,h13];refine bh ?_;refine srs hn ?_;simp -dsimp;rcases bQ hm with⟨c14,hm⟩|⟨c14,hm⟩;{exact zz};{refine bq (by simp -dsimp) c14 ?_;refine bl (bg (bh ?_));obtain⟨a2,j22,hm⟩:=bnd hm;refine scE [(1,vX 1),(3,vI (bi t.Nodes)),(4,vI i),(5,vX 5),(6,vI s),(7,vI x1),(83,vT a2)] [(1,qY t),(5,qV x)] ?_ λZ O hf=>?_;{replace hm:=j22;clear j22;exact zz};{clear j22;simp only[Fits,bL,bM,and_true] at hf;rcases bQ hm with⟨c16,hm⟩|⟨c16,hm⟩;{exact zz};{refine bq (by simp -dsimp[hf]) c16 ?_;refine bl (bg ?_);obtain⟨a3,j21,hm⟩:=bnd hm;refine scE [(1,vX 1),(3,vI (bi t.Nodes)),(4,vI i),(5,vX 5),(6,vI s),(103,vT a3)] [(1,qY t),(5,qV x)] ?_ λZ O hf=>?_;{replace hm:=j21;clear j21;exact zz};{clear j21;exact zz}}}}}
 ·exact zz⟩
def F_R12_Right_1 (cx:Cx) (t:Tree) (tt:Bool ⊕ Unit) (ee:Exit) (Z:Env) (O:Sto):Prop:=match tt with|.inl r=>ee=.ret/\EE cx (λZ O=>∃v,jk tb Z O Tryz.f13.results.toList=some v/\(v.frz O).free=true/\(v.frz O).wk (vT r)) Z O|.inr _u=>ee=.exit 0/\EE cx (cb [(1,vX 1),(3,vI (bi t.Nodes))] [(1,qY t)]) Z O
instance i89 (t) {fu stt tt}:LtP (bn (lg t) fu stt=some tt) (lp 115 stt (λi=>[(1,vX 1),(3,vI (bi t.Nodes)),(4,vI i)]) (λ_i=>[(1,qY t)]) (dF [1,1,1,0,1,0,0] (bT Tryz.f13)) λcx=>F_R12_Right_1 cx t tt):=⟨λhh cx hn Z O hE=>by
 refine cO hE hh (F_R12_Right_1 cx t) ?_;rintro i r hm Z O hf;simp only[Fits,bL,bM,and_true] at hf;unfold lg at hm;dsimp only at hm;refine bh ?_;refine srs hn ?_;simp -dsimp[hf];rcases bQ hm with⟨c7,hm⟩|⟨c7,hm⟩
 ·refine bo (by simp -dsimp) c7 ?_;refine bl (bg (bh (bj ?_)));refine srs hn ?_;obtain⟨x,h8,hm⟩:=bnd hm;simp -dsimp[hf,c7,h8];refine bh ?_;obtain⟨a1,j24,hm⟩:=bnd hm;refine scE [(1,vX 1),(3,vI (bi t.Nodes)),(4,vI i),(5,vX 5),(61,vT a1)] [(1,qY t),(5,qV x)] ?_ λZ O hf=>?_;{replace hm:=j24;clear j24;exact zz}
  ·clear j24;simp only[Fits,bL,bM,and_true] at hf;rcases bQ hm with⟨c11,hm⟩|⟨c11,hm⟩;{exact zz}
   ·refine bq (by simp -dsimp[hf]) c11 ?_;refine bl (bg ?_);refine srs hn ?_;simp -dsimp;refine bj ?_;obtain⟨o_,g23,hm⟩:=bnd hm;refine bZ (LtP.pf g23 cx hn) (by
      (try dsimp only);exact EE.here (by simp -dsimp[hf])) λee Z O xx=>?_
    rcases o_ with r|_u;{exact zz};{exact zz}
 ·exact zz⟩
instance i90 (t r):CtP (nR t=some r) (br Tryz.prog 13 [.u (qJ t)] (vT r)):=⟨λhm=>by
 refine eX Tryz.func13 Tryz.ntmps13 λcx hn=>?_;unfold nR at hm;refine srs hn ?_;simp -dsimp;refine srs hn ?_;simp -dsimp;refine bh ?_;obtain⟨a,j27,hm⟩:=bnd hm;refine scE [(1,vX 1),(3,vI (bi t.Nodes)),(32,vT a)] [(1,qY t)] ?_ λZ O hf=>?_;{replace hm:=j27;clear j27;exact zz}
 ·clear j27;simp only[Fits,bL,bM,and_true] at hf;rcases bQ hm with⟨c6,hm⟩|⟨c6,hm⟩;{exact zz}
  ·refine bq (by simp -dsimp[hf]) c6 ?_;refine bl (bg (bh ?_));refine srs hn ?_;simp -dsimp;refine bj ?_;obtain⟨o_,g25,hm⟩:=bnd hm;refine bZ (LtP.pf g25 cx hn) (by
     (try dsimp only);exact EE.here (by simp -dsimp[hf])) λee Z O xx=>?_
   rcases o_ with r|_u;{exact zz}
   ·exact zz⟩
instance i91 (w hv b7 r):CtP (sx w hv b7=some r) (br Tryz.prog 31 [vI w,vI hv,vI b7] (vT r)):=⟨λhm=>by
 refine eX Tryz.func31 Tryz.ntmps31 λcx hn=>?_;unfold sx at hm;refine srs hn ?_;simp -dsimp;obtain⟨a,j7,hm⟩:=bnd hm;refine scE [(6,vT a)] [] ?_ λZ O hf=>?_;{replace hm:=j7;clear j7;exact zz}
 ·clear j7;exact zz⟩
def F_R21_Right_1 (cx:Cx) (_gv:Grid) (tt:Bool ⊕ Unit) (ee:Exit) (Z:Env) (O:Sto):Prop:=match tt with|.inl r=>ee=.ret/\EE cx (λZ O=>∃v,jk tb Z O Tryz.f14.results.toList=some v/\(v.frz O).free=true/\(v.frz O).wk (vT r)) Z O|.inr _u=>ee=.exit 0/\EE cx (cb [] []) Z O
instance i92 (gv) {fu stt tt}:LtP (bn (m7 gv) fu stt=some tt) (lp 44 stt (λi=>[(1,vX 1),(3,vI i)]) (λ_i=>[(1,qB gv)]) (dF [1,1,0,1,0,0] (bT Tryz.f14)) λcx=>F_R21_Right_1 cx gv tt):=⟨λhh cx hn Z O hE=>by
 refine cO hE hh (F_R21_Right_1 cx gv) ?_;rintro i r hm Z O hf;simp only[Fits,bL,bM,and_true] at hf;unfold m7 at hm;dsimp only at hm;refine bh ?_;refine srs hn ?_;simp -dsimp[hf];rcases bQ hm with⟨c4,hm⟩|⟨c4,hm⟩;{refine bo (by simp -dsimp) c4 ?_;refine bl (bg (bh (bj ?_)));obtain⟨a1,j8,hm⟩:=bnd hm;refine scE [(1,vX 1),(3,vI i),(43,vT a1)] [(1,qB gv)] ?_ λZ O hf=>?_;{replace hm:=j8;clear j8;exact zz};{clear j8;exact zz}}
 ·exact zz⟩
instance i93 (gv r):CtP (nO gv=some r) (br Tryz.prog 14 [qC gv] (vT r)):=⟨λhm=>by
 refine eX Tryz.func14 Tryz.ntmps14 λcx hn=>?_;unfold nO at hm;refine srs hn ?_;simp -dsimp;refine bh ?_;obtain⟨a,j10,hm⟩:=bnd hm;refine scE [(1,vX 1),(22,vT a)] [(1,qB gv)] ?_ λZ O hf=>?_;{replace hm:=j10;clear j10;exact zz}
 ·clear j10;simp only[Fits,bL,bM,and_true] at hf;rcases bQ hm with⟨c3,hm⟩|⟨c3,hm⟩;{exact zz}
  ·refine bq (by simp -dsimp[hf]) c3 ?_;refine bl (bg (bh ?_));refine srs hn ?_;simp -dsimp;refine bj ?_;obtain⟨o_,g9,hm⟩:=bnd hm;refine bZ (LtP.pf g9 cx hn) (by
     (try dsimp only);exact EE.here (by simp -dsimp[hf])) λee Z O xx=>?_
   rcases o_ with r|_u;{exact zz}
   ·exact zz⟩
instance i94 (n r):CtP (ri n=some r) (br Tryz.prog 32 [vI n] (vI r)):=⟨λhm=>by refine eX Tryz.func32 Tryz.ntmps32 λcx hn=>?_;unfold ri at hm;refine srs hn ?_;simp -dsimp;refine srs hn ?_;simp -dsimp;refine bE ?_;cases hm;refine⟨.inr rfl,?_⟩;exact EE.here (by simp -dsimp)⟩
def oU (cx:Cx) (_l:Ay) (tt:Int) (ee:Exit) (Z:Env) (O:Sto):Prop:=match tt with|n=>ee=.exit 0/\EE cx (cb [(3,vI n)] []) Z O
instance i95 (l) {fu stt tt}:LtP (bn (lF l) fu stt=some tt) (lp 29 stt (λ|(n,i)=>[(0,kA l),(3,vI n),(4,vI i)]) (λ|(_n,_i)=>[]) (dF [1,1,1,0,1,0,0] (bT Tryz.f15)) λcx=>oU cx l tt):=⟨λhh cx hn Z O hE=>by
 refine cO hE hh (oU cx l) ?_;rintro⟨n,i⟩ r hm Z O hf;simp only[Fits,bL,bM,and_true] at hf;unfold lF at hm;dsimp only at hm;refine bh ?_;refine srs hn ?_;simp -dsimp[hf];rcases bQ hm with⟨c3,hm⟩|⟨c3,hm⟩;{refine bo (by simp -dsimp) c3 ?_;refine bl (bg (bh (bj ?_)));refine sw_qt bW mixed (by rw[hn];kernel_rfl) ?_;obtain⟨x,h4,hm⟩:=bnd hm;obtain⟨y1,h5,hm⟩:=bnd hm;simp -dsimp[hf,c3,h4];refine bH (CtP.pf h5) ?_;obtain⟨y2,h6,hm⟩:=bnd hm;simp -dsimp[hf,h4];refine bH (CtP.pf h6) ?_;simp -dsimp;refine cT ?_;refine bg ?_;refine sr1 hn ?_;simp -dsimp[hf];cases hm;refine cQ ?_;exact EE.here (by simp -dsimp[hf])}
 ·refine bq (by simp -dsimp) c3 ?_;refine kv ?_;refine di ?_;cases hm;refine mr nofun ?_;unfold oU;dsimp only;refine⟨rfl,?_⟩;exact EE.here (by simp -dsimp[hf,c3])⟩
instance i96 (l r):CtP (ik l=some r) (br Tryz.prog 15 [kA l] (vI r)):=⟨λhm=>by refine eX Tryz.func15 Tryz.ntmps15 λcx hn=>?_;unfold ik at hm;exact zz⟩
def F_L48_Few_1 (cx:Cx) (_t:Tree) (_gv:Grid) (_y:Int) (tt:Bool ⊕ Unit) (ee:Exit) (Z:Env) (O:Sto):Prop:=match tt with|.inl r=>ee=.ret/\EE cx (λZ O=>∃v,jk tb Z O Tryz.f5.results.toList=some v/\(v.frz O).free=true/\(v.frz O).wk (vT r)) Z O|.inr _u=>ee=.exit 0/\EE cx (cb [] []) Z O
instance i97 (t gv y) {fu stt tt}:LtP (bn (mF t gv y) fu stt=some tt) (lp 56 stt (λ|(n,i)=>[(2,vX 2),(6,vI n),(7,vI (cg .i64 (bC .i64 gv.W (cg .i64 2 y)) (bC .i64 gv.H (cg .i64 2 y)))),(8,vI i)]) (λ|(_n,_i)=>[(2,qY t)]) (dF [1,1,1,1,1,0,1,0,0] (bT Tryz.f5)) λcx=>F_L48_Few_1 cx t gv y tt):=⟨λhh cx hn Z O hE=>by
 refine cO hE hh (F_L48_Few_1 cx t gv y) ?_;rintro⟨n,i⟩ r hm Z O hf;simp only[Fits,bL,bM,and_true] at hf;unfold mF at hm;dsimp only at hm;refine bh ?_;obtain⟨a2,j12,hm⟩:=bnd hm;refine scE [(2,vX 2),(6,vI n),(7,vI (cg .i64 (bC .i64 gv.W (cg .i64 2 y)) (bC .i64 gv.H (cg .i64 2 y)))),(8,vI i),(47,vT a2)] [(2,qY t)] ?_ λZ O hf=>?_;{replace hm:=j12;clear j12;exact zz}
 ·clear j12;exact zz⟩
instance i98 (t gv r):CtP (oM t gv=some r) (br Tryz.prog 5 [.u (qJ t),qC gv] (vT r)):=⟨λhm=>by
 refine eX Tryz.func5 Tryz.ntmps5 λcx hn=>?_;unfold oM at hm;refine srs hn ?_;simp -dsimp;refine bh ?_;obtain⟨a,j15,hm⟩:=bnd hm;refine scE [(2,vX 2),(3,vX 3),(18,vT a)] [(2,qY t),(3,qB gv)] ?_ λZ O hf=>?_;{replace hm:=j15;clear j15;refine sr1 hn ?_;obtain⟨y,h1,hm⟩:=bnd hm;simp -dsimp;refine bD ((CtP.pf h1).wk (by simp[V.wkl])) (dkL hn) ?_;rcases bQ hm with⟨c2,hm⟩|⟨c2,hm⟩;{simp -dsimp[c2];cases hm;exact EE.here (by simp -dsimp)};{simp -dsimp[c2];cases hm;exact EE.here (by simp -dsimp)}}
 ·clear j15;simp only[Fits,bL,bM,and_true] at hf;rcases bQ hm with⟨c3,hm⟩|⟨c3,hm⟩;{exact zz}
  ·refine bq (by simp -dsimp[hf]) c3 ?_;refine bl (bg (bh ?_));obtain⟨a1,j14,hm⟩:=bnd hm;refine scE [(2,vX 2),(3,vX 3),(26,vT a1)] [(2,qY t),(3,qB gv)] ?_ λZ O hf=>?_;{replace hm:=j14;clear j14;exact zz}
   ·clear j14;simp only[Fits,bL,bM,and_true] at hf;rcases bQ hm with⟨c7,hm⟩|⟨c7,hm⟩;{exact zz}
    ·refine bq (by simp -dsimp[hf]) c7 ?_;refine bl (bg ?_);refine srs hn ?_;obtain⟨y,h8,hm⟩:=bnd hm;simp -dsimp[hf];refine bD (CtP.pf h8) (dkL hn) ?_;simp -dsimp;refine nn bW mixed (by rw[hn];kernel_rfl) ?_;simp -dsimp[hf];refine bh ?_;refine srs hn ?_;simp -dsimp;refine bj ?_;obtain⟨o_,g13,hm⟩:=bnd hm;refine bZ (LtP.pf g13 cx hn) (by
       (try dsimp only);exact EE.here (by simp -dsimp[hf])) λee Z O xx=>?_
     rcases o_ with r|_u;{exact zz}
     ·exact zz⟩
instance i99 (r):CtP (m_L48_shift=some r) (br Tryz.prog 16 [] (.u (qJ r))):=⟨λhm=>by refine eX Tryz.func16 Tryz.ntmps16 λcx hn=>?_;unfold m_L48_shift at hm;exact zz⟩
instance i100 (x r):CtP (l8 x=some r) (br Tryz.prog 101 [vI x] (vT r)):=⟨λhm=>by refine eX Tryz.func101 Tryz.ntmps101 λcx hn=>?_;unfold l8 at hm;refine srs hn ?_;simp -dsimp;refine srs hn ?_;simp -dsimp;refine bE ?_;cases hm;refine⟨.inr rfl,?_⟩;exact EE.here (by simp -dsimp)⟩
end Go.Proofs.YtopmhknobhmbgaaGreatDoor
namespace Go.Proofs.YtopmhknobhmbgaaGreatDoor
open Go.AM Go.Proofs
set_option maxRecDepth 100000
attribute [-simp] fG gu jS df Ob.wipe Ob.ren Ob.frz1 jO
instance i101 (x y r):CtP (fP x y=some r) (br Tryz.prog 86 [vI x,vI y] (vI r)):=⟨λhm=>by refine eX Tryz.func86 Tryz.ntmps86 λcx hn=>?_;unfold fP at hm;exact zz⟩
def F_cmp_Or_int_1 (cx:Cx) (_vals:A0) (tt:Int ⊕ Unit) (ee:Exit) (Z:Env) (O:Sto):Prop:=match tt with|.inl r=>ee=.ret/\EE cx (λZ O=>∃v,jk tb Z O Tryz.f102.results.toList=some v/\(v.frz O).free=true/\(v.frz O).wk (vI r)) Z O|.inr _u=>ee=.exit 0/\EE cx (cb [(3,vI 0)] []) Z O
instance i102 (vals) {fu stt tt}:LtP (bn (jT vals) fu stt=some tt) (lp 18 stt (λa=>[(3,vI 0),(6,qF vals),(7,vI (bi vals)),(8,vI a)]) (λ_a=>[]) (dF [1,1,0,1,0,0] (bT Tryz.f102)) λcx=>F_cmp_Or_int_1 cx vals tt):=⟨λhh cx hn Z O hE=>by refine cO hE hh (F_cmp_Or_int_1 cx vals) ?_;rintro a r hm Z O hf;simp only[Fits,bL,bM,and_true] at hf;unfold jT at hm;exact zz⟩
instance i103 (vals r):CtP (mW vals=some r) (br Tryz.prog 102 [qF vals] (vI r)):=⟨λhm=>by
 refine eX Tryz.func102 Tryz.ntmps102 λcx hn=>?_;unfold mW at hm;refine srs hn ?_;simp -dsimp;refine srs hn ?_;simp -dsimp;refine bh ?_;refine srs hn ?_;simp -dsimp;refine bj ?_;obtain⟨o_,g4,hm⟩:=bnd hm;refine bZ (LtP.pf g4 cx hn) (by
   (try dsimp only);exact eeh) λee Z O xx=>?_
 rcases o_ with r|_u;{exact zz}
 ·exact zz⟩
instance i104 (a b r):CtP (l7 a b=some r) (br Tryz.prog 87 [.u (.agg [dI a.X,dI a.Y]),.u (.agg [dI b.X,dI b.Y])] (vI r)):=⟨λhm=>by refine eX Tryz.func87 Tryz.ntmps87 λcx hn=>?_;unfold l7 at hm;refine srs hn ?_;simp -dsimp;refine nn bW mixed (by rw[hn];kernel_rfl) ?_;obtain⟨y,h1,hm⟩:=bnd hm;simp -dsimp;refine bH (CtP.pf h1) ?_;obtain⟨y1,h2,hm⟩:=bnd hm;simp -dsimp;refine bH (CtP.pf h2) ?_;obtain⟨y2,h3,hm⟩:=bnd hm;simp -dsimp;refine bH (CtP.pf h3) ?_;simp -dsimp;refine bE ?_;cases hm;refine⟨.inr rfl,?_⟩;exact EE.here (by simp -dsimp)⟩
def F_hood_Right_1 (cx:Cx) (_l:Ay) (tt:Bool ⊕ Unit) (ee:Exit) (Z:Env) (O:Sto):Prop:=match tt with|.inl r=>ee=.ret/\EE cx (λZ O=>∃v,jk tb Z O Tryz.f54.results.toList=some v/\(v.frz O).free=true/\(v.frz O).wk (vT r)) Z O|.inr _u=>ee=.exit 0/\EE cx (cb [] []) Z O
instance i105 (l) {fu stt tt}:LtP (bn (lK l) fu stt=some tt) (lp 53 stt (λa1=>[(0,kA l),(13,kA l),(14,vI (bi l)),(15,vI a1)]) (λ_a1=>[]) (dF [1,1,0,1,0,0] (bT Tryz.f54)) λcx=>F_hood_Right_1 cx l tt):=⟨λhh cx hn Z O hE=>by
 refine cO hE hh (F_hood_Right_1 cx l) ?_;rintro a1 r hm Z O hf;simp only[Fits,bL,bM,and_true] at hf;unfold lK at hm;dsimp only at hm;refine srs hn ?_;simp -dsimp[hf];refine bh ?_;rcases bQ hm with⟨c3,hm⟩|⟨c3,hm⟩;{refine bo (by simp -dsimp) c3 ?_;refine bl (bg (bh (bj ?_)));refine srs hn ?_;obtain⟨x,h4,hm⟩:=bnd hm;simp -dsimp[hf,c3,h4];obtain⟨a2,j13,hm⟩:=bnd hm;refine scE [(0,kA l),(13,kA l),(14,vI (bi l)),(15,vI a1),(51,vT a2)] [] ?_ λZ O hf=>?_;{replace hm:=j13;clear j13;exact zz};{clear j13;exact zz}}
 ·exact zz⟩
instance i106 (l r):CtP (lS l=some r) (br Tryz.prog 54 [kA l] (vT r)):=⟨λhm=>by
 refine eX Tryz.func54 Tryz.ntmps54 λcx hn=>?_;unfold lS at hm;refine srs hn ?_;simp -dsimp;refine bh ?_;obtain⟨a,j15,hm⟩:=bnd hm;refine scE [(0,kA l),(12,vT a)] [] ?_ λZ O hf=>?_;{replace hm:=j15;clear j15;exact zz}
 ·clear j15;simp only[Fits,bL,bM,and_true] at hf;rcases bQ hm with⟨c2,hm⟩|⟨c2,hm⟩;{exact zz}
  ·refine bq (by simp -dsimp[hf]) c2 ?_;refine bl (bg (bh ?_));refine srs hn ?_;simp -dsimp[hf];refine bj ?_;obtain⟨o_,g14,hm⟩:=bnd hm;refine bZ (LtP.pf g14 cx hn) (by
     (try dsimp only);exact EE.here (by simp -dsimp[hf])) λee Z O xx=>?_
   rcases o_ with r|_u;{exact zz}
   ·exact zz⟩
def F_tree_Right_2 (cx:Cx) (t:Tree) (a1:Int) (_x:Node) (tt:Bool ⊕ Unit) (ee:Exit) (Z:Env) (O:Sto):Prop:=match tt with|.inl r=>ee=.ret/\EE cx (λZ O=>∃v,jk tb Z O Tryz.f33.results.toList=some v/\(v.frz O).free=true/\(v.frz O).wk (vT r)) Z O|.inr _u=>ee=.exit 2/\EE cx (cb [(1,vX 1),(47,kX t),(48,vI (bi t.Nodes)),(49,vI a1)] [(1,qY t)]) Z O
instance i107 (t a1 x) {fu stt tt}:LtP (bn (k6 t a1 x) fu stt=some tt) (lp 117 stt (λa3=>[(1,vX 1),(4,vI a1),(5,vX 5),(47,kX t),(48,vI (bi t.Nodes)),(49,vI a1),(74,qF x.Next),(75,vI (bi x.Next)),(76,vI a3)]) (λ_a3=>[(1,qY t),(5,qV x)]) (dF [1,1,1,0,1,0,0,1,1,0,0,1,1,1,0,0] (bT Tryz.f33)) λcx=>F_tree_Right_2 cx t a1 x tt):=⟨λhh cx hn Z O hE=>by
 refine cO hE hh (F_tree_Right_2 cx t a1 x) ?_;rintro a3 r hm Z O hf;simp only[Fits,bL,bM,and_true] at hf;unfold k6 at hm;dsimp only at hm;refine srs hn ?_;simp -dsimp[hf];refine bh ?_;rcases bQ hm with⟨c14,hm⟩|⟨c14,hm⟩;{refine bo (by simp -dsimp) c14 ?_;refine bl (bg (bh (bj ?_)));refine srs hn ?_;obtain⟨x1,h15,hm⟩:=bnd hm;simp -dsimp[hf,c14,h15];obtain⟨a4,j26,hm⟩:=bnd hm;refine scE [(1,vX 1),(4,vI a1),(5,vX 5),(47,kX t),(48,vI (bi t.Nodes)),(49,vI a1),(74,qF x.Next),(75,vI (bi x.Next)),(76,vI a3),(114,vT a4)] [(1,qY t),(5,qV x)] ?_ λZ O hf=>?_;{replace hm:=j26;clear j26;exact zz};{clear j26;exact zz}}
 ·exact zz⟩
def F_tree_Right_1 (cx:Cx) (_t:Tree) (tt:Bool ⊕ Unit) (ee:Exit) (Z:Env) (O:Sto):Prop:=match tt with|.inl r=>ee=.ret/\EE cx (λZ O=>∃v,jk tb Z O Tryz.f33.results.toList=some v/\(v.frz O).free=true/\(v.frz O).wk (vT r)) Z O|.inr _u=>ee=.exit 0/\EE cx (cb [] []) Z O
instance i108 (t) {fu stt tt}:LtP (bn (jU t) fu stt=some tt) (lp 117 stt (λa1=>[(1,vX 1),(47,kX t),(48,vI (bi t.Nodes)),(49,vI a1)]) (λ_a1=>[(1,qY t)]) (dF [1,1,1,0,1,0,0] (bT Tryz.f33)) λcx=>F_tree_Right_1 cx t tt):=⟨λhh cx hn Z O hE=>by
 refine cO hE hh (F_tree_Right_1 cx t) ?_;rintro a1 r hm Z O hf;simp only[Fits,bL,bM,and_true] at hf;unfold jU at hm;dsimp only at hm;refine srs hn ?_;simp -dsimp[hf];refine bh ?_;rcases bQ hm with⟨c9,hm⟩|⟨c9,hm⟩
 ·refine bo (by simp -dsimp) c9 ?_;refine bl (bg (bh (bj ?_)));refine srs hn ?_;obtain⟨x,h10,hm⟩:=bnd hm;simp -dsimp[hf,c9,h10];refine bh ?_;obtain⟨a2,j28,hm⟩:=bnd hm;refine scE [(1,vX 1),(4,vI a1),(5,vX 5),(47,kX t),(48,vI (bi t.Nodes)),(49,vI a1),(72,vT a2)] [(1,qY t),(5,qV x)] ?_ λZ O hf=>?_;{replace hm:=j28;clear j28;exact zz}
  ·clear j28;simp only[Fits,bL,bM,and_true] at hf;rcases bQ hm with⟨c13,hm⟩|⟨c13,hm⟩;{exact zz}
   ·refine bq (by simp -dsimp[hf]) c13 ?_;refine bl (bg ?_);refine srs hn ?_;simp -dsimp[hf];refine bj ?_;obtain⟨o_,g27,hm⟩:=bnd hm;refine bZ (LtP.pf g27 cx hn) (by
      (try dsimp only);refine EE.here ?_
      exact zz) λee Z O xx=>?_
    rcases o_ with r|_u;{exact zz};{exact zz}
 ·exact zz⟩
instance i109 (t r):CtP (gZ t=some r) (br Tryz.prog 33 [.u (qJ t)] (vT r)):=⟨λhm=>by
 refine eX Tryz.func33 Tryz.ntmps33 λcx hn=>?_;unfold gZ at hm;refine srs hn ?_;simp -dsimp;refine srs hn ?_;simp -dsimp;refine bh ?_;obtain⟨a,j30,hm⟩:=bnd hm;refine scE [(1,vX 1),(45,vT a)] [(1,qY t)] ?_ λZ O hf=>?_;{replace hm:=j30;clear j30;exact zz}
 ·clear j30;simp only[Fits,bL,bM,and_true] at hf;rcases bQ hm with⟨c8,hm⟩|⟨c8,hm⟩;{exact zz}
  ·refine bq (by simp -dsimp[hf]) c8 ?_;refine bl (bg (bh ?_));refine srs hn ?_;simp -dsimp[hf];refine bj ?_;obtain⟨o_,g29,hm⟩:=bnd hm;refine bZ (LtP.pf g29 cx hn) (by
     (try dsimp only);exact EE.here (by simp -dsimp[hf])) λee Z O xx=>?_
   rcases o_ with r|_u;{exact zz}
   ·exact zz⟩
instance i110 (w hv b7 r):CtP (ot w hv b7=some r) (br Tryz.prog 58 [vI w,vI hv,vI b7] (vT r)):=⟨λhm=>by
 refine eX Tryz.func58 Tryz.ntmps58 λcx hn=>?_;unfold ot at hm;refine srs hn ?_;simp -dsimp;obtain⟨a,j7,hm⟩:=bnd hm;refine scE [(6,vT a)] [] ?_ λZ O hf=>?_;{replace hm:=j7;clear j7;exact zz}
 ·clear j7;exact zz⟩
instance i111 (s r):CtP (mZ s=some r) (br Tryz.prog 59 [vI s] (vT r)):=⟨λhm=>by
 refine eX Tryz.func59 Tryz.ntmps59 λcx hn=>?_;unfold mZ at hm;refine srs hn ?_;simp -dsimp;obtain⟨a,j2,hm⟩:=bnd hm;refine scE [(2,vT a)] [] ?_ λZ O hf=>?_;{replace hm:=j2;clear j2;exact zz}
 ·clear j2;exact zz⟩
def fZ (cx:Cx) (_s:A0) (tt:Int ⊕ Unit) (ee:Exit) (Z:Env) (O:Sto):Prop:=match tt with|.inl r=>ee=.ret/\EE cx (λZ O=>∃v,jk tb Z O Tryz.f60.results.toList=some v/\(v.frz O).free=true/\(v.frz O).wk (vI r)) Z O|.inr _u=>ee=.exit 0/\EE cx (cb [] []) Z O
instance i112 (s) {fu stt tt}:LtP (bn (bY s) fu stt=some tt) (lp 19 stt (λa=>[(0,qF s),(1,.u (.one (.fn 59 []))),(7,vI (bi s)),(8,vI a)]) (λ_a=>[]) (dF [1,0,1,0,0] (bT Tryz.f60)) λcx=>fZ cx s tt):=⟨λhh cx hn Z O hE=>by refine cO hE hh (fZ cx s) ?_;rintro a r hm Z O hf;simp only[Fits,bL,bM,and_true] at hf;unfold bY at hm;exact zz⟩
instance i113 (s r):CtP (cX s=some r) (br Tryz.prog 60 [qF s,.u (.one (.fn 59 []))] (vI r)):=⟨λhm=>by
 refine eX Tryz.func60 Tryz.ntmps60 λcx hn=>?_;unfold cX at hm;refine srs hn ?_;simp -dsimp;refine bh ?_;refine srs hn ?_;simp -dsimp;refine bj ?_;obtain⟨o_,g5,hm⟩:=bnd hm;refine bZ (LtP.pf g5 cx hn) (by
   (try dsimp only);exact eeh) λee Z O xx=>?_
 rcases o_ with r|_u;{exact zz}
 ·exact zz⟩
instance i114 (s r):CtP (cA s=some r) (br Tryz.prog 35 [qF s,.u (.one (.fn 59 []))] (vT r)):=⟨λhm=>by refine eX Tryz.func35 Tryz.ntmps35 λcx hn=>?_;unfold cA at hm;refine srs hn ?_;simp -dsimp;refine srs hn ?_;obtain⟨y,h1,hm⟩:=bnd hm;simp -dsimp;refine bD (CtP.pf h1) (dkL hn) ?_;simp -dsimp;refine bE ?_;cases hm;refine⟨.inr rfl,?_⟩;exact EE.here (by simp -dsimp)⟩
instance i115 (gv r):CtP (lR gv=some r) (br Tryz.prog 34 [qC gv] (vT r)):=⟨λhm=>by
 refine eX Tryz.func34 Tryz.ntmps34 λcx hn=>?_;unfold lR at hm;refine srs hn ?_;simp -dsimp;obtain⟨a,j5,hm⟩:=bnd hm;refine scE [(2,vT a)] [] ?_ λZ O hf=>?_;{replace hm:=j5;clear j5;refine sr1 hn ?_;obtain⟨y,h1,hm⟩:=bnd hm;simp -dsimp;refine bD (CtP.pf h1) (dkL hn) ?_;rcases bQ hm with⟨c2,hm⟩|⟨c2,hm⟩;{rcases bQ hm with⟨c3,hm⟩|⟨c3,hm⟩;{obtain⟨y1,h4,hm⟩:=bnd hm;simp -dsimp[c2,c3];refine bD (CtP.pf h4) (dkL hn) ?_;simp -dsimp;cases hm;exact EE.here (by simp -dsimp)};{simp -dsimp[c2,c3];cases hm;exact EE.here (by simp -dsimp)}};{simp -dsimp[c2];cases hm;exact EE.here (by simp -dsimp)}}
 ·clear j5;exact zz⟩
instance i116 (s a r):CtP (iN s a=some r) (br Tryz.prog 36 [vI s,.u (.one (.ref (Tree.row a) 0))] (vT r)):=⟨λhm=>by refine eX Tryz.func36 Tryz.ntmps36 λcx hn=>?_;unfold iN at hm;refine srs hn ?_;simp -dsimp;refine srs hn ?_;simp -dsimp;refine bE ?_;cases hm;refine⟨.inr rfl,?_⟩;exact EE.here (by simp -dsimp)⟩
def fk (cx:Cx) (_s:A0) (_cv:Tree) (tt:Int ⊕ Unit) (ee:Exit) (Z:Env) (O:Sto):Prop:=match tt with|.inl r=>ee=.ret/\EE cx (λZ O=>∃v,jk tb Z O Tryz.f60.results.toList=some v/\(v.frz O).free=true/\(v.frz O).wk (vI r)) Z O|.inr _u=>ee=.exit 0/\EE cx (cb [] []) Z O
instance i117 (s cv) {fu stt tt}:LtP (bn (bA s cv) fu stt=some tt) (lp 19 stt (λa=>[(0,qF s),(1,jX cv),(7,vI (bi s)),(8,vI a)]) (λ_a=>[]) (dF [1,0,1,0,0] (bT Tryz.f60)) λcx=>fk cx s cv tt):=⟨λhh cx hn Z O hE=>by refine cO hE hh (fk cx s cv) ?_;rintro a r hm Z O hf;simp only[Fits,bL,bM,and_true] at hf;unfold bA at hm;exact zz⟩
instance i118 (s cv r):CtP (cw s cv=some r) (br Tryz.prog 60 [qF s,jX cv] (vI r)):=⟨λhm=>by
 refine eX Tryz.func60 Tryz.ntmps60 λcx hn=>?_;unfold cw at hm;refine srs hn ?_;simp -dsimp;refine bh ?_;refine srs hn ?_;simp -dsimp;refine bj ?_;obtain⟨o_,g5,hm⟩:=bnd hm;refine bZ (LtP.pf g5 cx hn) (by
   (try dsimp only);exact eeh) λee Z O xx=>?_
 rcases o_ with r|_u;{exact zz}
 ·exact zz⟩
instance i119 (s cv r):CtP (bG s cv=some r) (br Tryz.prog 35 [qF s,jX cv] (vT r)):=⟨λhm=>by refine eX Tryz.func35 Tryz.ntmps35 λcx hn=>?_;unfold bG at hm;refine srs hn ?_;simp -dsimp;refine srs hn ?_;obtain⟨y,h1,hm⟩:=bnd hm;simp -dsimp;refine bD (CtP.pf h1) (dkL hn) ?_;simp -dsimp;refine bE ?_;cases hm;refine⟨.inr rfl,?_⟩;exact EE.here (by simp -dsimp)⟩
def oc (cx:Cx) (_l:Ay) (tt:Int) (ee:Exit) (Z:Env) (O:Sto):Prop:=match tt with|r_=>ee=.exit 0/\EE cx (cb [(3,vI r_)] []) Z O
instance i120 (l) {fu stt tt}:LtP (bn (fj l) fu stt=some tt) (lp 28 stt (λ|(r_,a)=>[(3,vI r_),(8,kA l),(9,vI (bi l)),(10,vI a)]) (λ|(_r_,_a)=>[]) (dF [1,1,0,1,0,1,0,0] (bT Tryz.f24)) λcx=>oc cx l tt):=⟨λhh cx hn Z O hE=>by refine cO hE hh (oc cx l) ?_;rintro⟨r_,a⟩ r hm Z O hf;simp only[Fits,bL,bM,and_true] at hf;unfold fj at hm;exact zz⟩
instance i121 (l r):CtP (cR l=some r) (br Tryz.prog 24 [kA l] (vI r)):=⟨λhm=>by
 refine eX Tryz.func24 Tryz.ntmps24 λcx hn=>?_;unfold cR at hm;refine srs hn ?_;simp -dsimp;refine srs hn ?_;simp -dsimp;obtain⟨r_,j6,hm⟩:=bnd hm;refine scE [(3,vI r_)] [] ?_ λZ O hf=>?_
 ·replace hm:=j6;clear j6;refine srs hn ?_;obtain⟨y,h1,hm⟩:=bnd hm;simp -dsimp;refine bD (CtP.pf h1) (dkL hn) ?_;simp -dsimp;rcases bQ hm with⟨c2,hm⟩|⟨c2,hm⟩
  ·refine bo (by simp -dsimp) c2 ?_;refine srs hn ?_;simp -dsimp[c2];refine bj ?_;obtain⟨r_,g5,hm⟩:=bnd hm;refine bZ (LtP.pf g5 cx hn) (by
     (try dsimp only);exact EE.here (by simp -dsimp)) λee Z O xx=>?_
   unfold oc at xx;dsimp only at xx;obtain⟨rfl,xx⟩:=xx;refine cd ?_;refine bg ?_;cases hm;refine ee_bind (by rfl) (by rfl) xx λZ O hf=>?_;simp only[Fits,bL,bM,and_true] at hf;exact EE.here (by simp -dsimp[hf])
  ·refine bq (by simp -dsimp) c2 ?_;refine bl (bg ?_);cases hm;exact EE.here (by simp -dsimp[c2])
 ·clear j6;exact zz⟩
theorem eJ (l r:A0) (hm:bU l=some r):NewFn Tryz.prog 68 [qF l] (λo=>o=.row 1 3 (List.map (rI .i64) r)):=by
 refine new_S bW _ Tryz.func68 rfl (by kernel_rfl) (by simp[Tryz.ntmps68]) λcx hn=>?_;replace hn:cx.n=8:=hn.trans Tryz.ntmps68;have ha:=(cy hm).1;have hr:r=l:=(cy hm).2;clear hm;subst hr;simp only[List.length_nil,Nat.zero_add] at ha;refine srs hn ?_;simp -dsimp;refine bh ?_;refine srs hn ?_;cases r with
 |nil=>simp -dsimp;refine⟨?_,?_⟩;{refine bo (b:=true) (by simp -dsimp) rfl ?_;refine srs hn ?_;simp -dsimp;refine bE (di ?_);refine⟨.inr rfl,?_⟩;simp -dsimp};{refine bq (b:=false) (by simp -dsimp) rfl ?_;refine bl (bg ?_);refine srs hn ?_;simp -dsimp;refine bE ?_;refine⟨.inr rfl,?_⟩;simp -dsimp}|cons x xs=>simp -dsimp;refine bq (b:=false) (by simp -dsimp) rfl ?_;refine bl (bg ?_);refine srs hn ?_;simp only[List.length_cons] at ha;simp -dsimp[ha];refine bE ?_;refine⟨.inr rfl,?_⟩;simp -dsimp
instance i122 (x next r):CtP (lu x next=some r) (br Tryz.prog 89 [vI x,qF next] (qF r)):=⟨λhm=>by refine eX Tryz.func89 Tryz.ntmps89 λcx hn=>?_;unfold lu at hm;exact zz⟩
theorem jz (l:A0) (n base:Int) (r:A0) (hm:dd l n base=some r):GFn Tryz.prog 126 [vO 1000000,.u (.one (.d (.int .u64 n))),vI base] [qO l] (vO 1000001) [none,some (qO r)]:=appU_g iK rfl tf5 rfl rfl rfl rfl ⟨_,Tryz.func126,by decide,by kernel_rfl⟩ hm
