/- That the code does what the functions say (made by cc.py). -/
import Derived.Test.YtnkmjlncmlmnbaaGreatDoorWa8
namespace Go.Proofs.YtnkmjlncmlmnbaaGreatDoor
open Go.AM Go.Proofs
set_option maxRecDepth 100000
attribute [-simp] qlookup cb cL Ob.wipe Ob.ren Ob.frz1
def fA (cx:Cx) (_t:Tree) (_x:Bl) (_l:List Bool) (_y1:Int) (tt:((List Cell)×Int) ⊕ (List Cell)) (ee:Exit) (Z:Env) (O:Sto):Prop:=match tt with
 | .inl r=>ee=.ret/\EE cx (fun Z O=>∃ v,dd tb Z O Tryz.f12.results.toList=some v/\(v.frz O).free=true/\(v.frz O).wk (.tup [.one (dR0 r.1),.one (dI r.2)])) Z O
 | .inr out=>ee=.exit 0/\EE cx (bw [(10,vO 5000)] [(5000,.row 3 48 (List.map Cell.row out))]) Z O
theorem l_unroll_Pattern_1 (cx:Cx) (hn:cx.n=71) (t:Tree) (x:Bl) (l:List Bool) (y1:Int) {fu:Nat} {stt:Int×(List Cell)} {tt:((List Cell)×Int) ⊕ (List Cell)} (hh:bh (b_unroll_Pattern_1 t x l y1) fu stt=some tt) {Z:Env} {O:Sto}
  (hE:bA (fun stt:Int×(List Cell)=>match stt with | (a,_out)=>[(2,.u (.one (.d (.sl 1 (List.map rB l))))),(3,vX 3),(4,vX 4),(9,vI y1),(10,vO 5000),(36,vI (bB .i64 x.W x.H)),(37,vI a)]) (fun stt:Int×(List Cell)=>match stt with | (_a,out)=>[(3,.box [dI t.States,dR2 t.Hood,dR1 t.Nodes]),(4,.box [dI x.W,dI x.H,dI x.Gens,dI x.DX,dI x.DY,dL x.Syms]),(5000,.row 3 48 (List.map Cell.row out))]) stt Z O):Swp Tryz.prog cx (.loop (bJ [1,1,1,1,1,0,1,0,0] (bv Tryz.f12))) Z O (fA cx t x l y1 tt):=by
 refine bC hE hh (fA cx t x l y1) ?_
 rintro⟨a,out⟩ r hm Z O hf
 simp only[Fits,bo,bn,and_true] at hf
 unfold b_unroll_Pattern_1 at hm
 dsimp only at hm
 refine srs hn ?_
 simp -dsimp [hf]
 refine ba ?_
 rcases bl hm with ⟨c5,hm⟩ | ⟨c5,hm⟩
 ·refine be (by simp -dsimp) c5 ?_
  refine bd (b9 (ba (bc ?_)))
  refine srs hn ?_
  simp -dsimp [hf,c5]
  refine srs hn ?_
  obtain⟨l1,h6,hm⟩:=bnd hm
  obtain⟨y2,h7,hm⟩:=bnd hm
  simp -dsimp [hf,h6]
  refine bg (c_lower_State l1 y2 h7) (dkL hn) ?_
  simp -dsimp
  refine ba ?_
  refine srs hn ?_
  simp -dsimp [hf]
  rcases bl hm with ⟨c8,hm⟩ | ⟨c8,hm⟩
  ·exact zz
  ·refine bi (by simp -dsimp) c8 ?_
   refine bd (b9 ?_)
   refine srs hn ?_
   simp -dsimp [c8]
   rcases bl hm with ⟨c9,hm⟩ | ⟨c9,hm⟩
   ·refine be (by simp -dsimp) c9 ?_
    refine dl bq mixed 12 (by rw[hn]; kernel_rfl) ?_
    dsimp only [List.take,List.drop]
    obtain⟨n,h10,hm⟩:=bnd hm
    obtain⟨n1,h11,hm⟩:=bnd hm
    obtain⟨l2,h12,hm⟩:=bnd hm
    obtain⟨h12a,h12e⟩:=bp h12
    replace h12e:=h12e.symm
    subst h12e
    try simp only[List.length_cons,List.length_nil,Nat.zero_add] at h12a
    simp -dsimp [hf,c9,h10,h11,h12a]
    refine bD ?_
    refine b9 ?_
    refine sr1 hn ?_
    simp -dsimp [hf]
    cases hm
    refine bI ?_
    refine emv 68 5000 ?_
    exact zz
   ·exact zz
 ·exact zz
theorem c_unroll_Pattern (t:Tree) (x:Bl) (l:List Bool) (r:(List Cell)×Int) (hm:m_unroll_Pattern t x l=some r):PureCall Tryz.prog 12 [.u (.agg [dI t.States,dR2 t.Hood,dR1 t.Nodes]),.u (.agg [dI x.W,dI x.H,dI x.Gens,dI x.DX,dI x.DY,dL x.Syms]),.u (.one (.d (.sl 1 (List.map rB l))))] (.tup [.one (dR0 r.1),.one (dI r.2)]):=by
 refine bK Tryz.func12 Tryz.ntmps12 fun cx hn=>?_
 unfold m_unroll_Pattern at hm
 refine srs hn ?_
 simp -dsimp
 refine ba ?_
 refine srs hn ?_
 obtain⟨y,h1,hm⟩:=bnd hm
 simp -dsimp
 refine bg (eQ t x y h1) (dkL hn) ?_
 simp -dsimp
 refine srs hn ?_
 simp -dsimp
 rcases bl hm with ⟨c2,hm⟩ | ⟨c2,hm⟩
 ·exact zz
 ·refine bi (by simp -dsimp) c2 ?_
  refine bd (b9 ?_)
  refine srs hn ?_
  obtain⟨y1,h3,hm⟩:=bnd hm
  simp -dsimp [c2]
  refine bg (fh t.States y1 h3) (dkL hn) ?_
  simp -dsimp
  refine ba ?_
  refine srs hn ?_
  simp -dsimp
  rcases bl hm with ⟨c4,hm⟩ | ⟨c4,hm⟩
  ·exact zz
  ·refine bi (by simp -dsimp) c4 ?_
   refine bd (b9 ?_)
   refine srs hn ?_
   simp -dsimp [c4]
   refine ba ?_
   refine srs hn ?_
   simp -dsimp
   refine bc ?_
   obtain⟨o_,g13,hm⟩:=bnd hm
   refine bu (l_unroll_Pattern_1 cx hn t x l y1 g13) (by
     try dsimp only
     refine EE.step (Wk.own0 10 5000 3 48 (by simp -dsimp) (by decide)) ?_
     exact zz
   ) fun ee Z O xx=>?_
   rcases o_ with r | out
   ·exact zz
   ·exact zz
def F_R41_Equal_2 (cx:Cx) (a b:Bm) (i:Int) (_x _x1:List Int) (tt:Bool ⊕ Unit) (ee:Exit) (Z:Env) (O:Sto):Prop:=match tt with
 | .inl r=>ee=.ret/\EE cx (fun Z O=>∃ v,dd tb Z O Tryz.f8.results.toList=some v/\(v.frz O).free=true/\(v.frz O).wk (vT r)) Z O
 | .inr _u=>ee=.exit 2/\EE cx (bw [(2,vX 2),(3,vX 3),(5,vI i)] [(2,.box [dI a.Vars,.d (.sl 1 (List.map (rS 1 (rI .i64)) a.Clauses))]),(3,.box [dI b.Vars,.d (.sl 1 (List.map (rS 1 (rI .i64)) b.Clauses))])]) Z O
theorem l_R41_Equal_2 (cx:Cx) (hn:cx.n=60) (a b:Bm) (i:Int) (x x1:List Int) {fu:Nat} {stt:Int} {tt:Bool ⊕ Unit} (hh:bh (b_R41_Equal_2 a b i x x1) fu stt=some tt) {Z:Env} {O:Sto}
  (hE:bA (fun k:Int=>[(2,vX 2),(3,vX 3),(5,vI i),(6,.u (.one (dL x))),(7,.u (.one (dL x1))),(8,vI k)]) (fun _k:Int=>[(2,.box [dI a.Vars,.d (.sl 1 (List.map (rS 1 (rI .i64)) a.Clauses))]),(3,.box [dI b.Vars,.d (.sl 1 (List.map (rS 1 (rI .i64)) b.Clauses))])]) stt Z O):Swp Tryz.prog cx (.loop (bJ [1,1,0,1,0,0,1,0,0,1,1,1,0,0] (bv Tryz.f8))) Z O (F_R41_Equal_2 cx a b i x x1 tt):=by
 refine bC hE hh (F_R41_Equal_2 cx a b i x x1) ?_
 rintro k r hm Z O hf
 simp only[Fits,bo,bn,and_true] at hf
 unfold b_R41_Equal_2 at hm
 exact zz
def F_R41_Equal_1 (cx:Cx) (_a _b:Bm) (tt:Bool ⊕ Unit) (ee:Exit) (Z:Env) (O:Sto):Prop:=match tt with
 | .inl r=>ee=.ret/\EE cx (fun Z O=>∃ v,dd tb Z O Tryz.f8.results.toList=some v/\(v.frz O).free=true/\(v.frz O).wk (vT r)) Z O
 | .inr _u=>ee=.exit 0/\EE cx (bw [] []) Z O
theorem l_R41_Equal_1 (cx:Cx) (hn:cx.n=60) (a b:Bm) {fu:Nat} {stt:Int} {tt:Bool ⊕ Unit} (hh:bh (b_R41_Equal_1 a b) fu stt=some tt) {Z:Env} {O:Sto}
  (hE:bA (fun i:Int=>[(2,vX 2),(3,vX 3),(5,vI i)]) (fun _i:Int=>[(2,.box [dI a.Vars,.d (.sl 1 (List.map (rS 1 (rI .i64)) a.Clauses))]),(3,.box [dI b.Vars,.d (.sl 1 (List.map (rS 1 (rI .i64)) b.Clauses))])]) stt Z O):Swp Tryz.prog cx (.loop (bJ [1,1,0,1,0,0] (bv Tryz.f8))) Z O (F_R41_Equal_1 cx a b tt):=by
 refine bC hE hh (F_R41_Equal_1 cx a b) ?_
 rintro i r hm Z O hf
 simp only[Fits,bo,bn,and_true] at hf
 unfold b_R41_Equal_1 at hm
 dsimp only at hm
 refine ba ?_
 refine srs hn ?_
 simp -dsimp [hf]
 rcases bl hm with ⟨c3,hm⟩ | ⟨c3,hm⟩
 ·refine be (by simp -dsimp) c3 ?_
  refine bd (b9 (ba (bc ?_)))
  refine cO bq mixed (by rw[hn]; kernel_rfl) ?_
  obtain⟨x,h4,hm⟩:=bnd hm
  obtain⟨x1,h5,hm⟩:=bnd hm
  simp -dsimp [hf,c3,h4,h5]
  refine ba ?_
  refine srs hn ?_
  simp -dsimp
  rcases bl hm with ⟨c6,hm⟩ | ⟨c6,hm⟩
  ·exact zz
  ·refine bi (by simp -dsimp) c6 ?_
   refine bd (b9 ?_)
   refine srs hn ?_
   simp -dsimp [c6]
   refine bc ?_
   obtain⟨o_,g11,hm⟩:=bnd hm
   refine bu (l_R41_Equal_2 cx hn a b i x x1 g11) (by
     try dsimp only
     refine EE.here ?_
     exact zz
   ) fun ee Z O xx=>?_
   rcases o_ with r | _u
   ·exact zz
   ·exact zz
 ·exact zz
theorem c_R41_Equal (a b:Bm) (r:Bool) (hm:m_R41_Equal a b=some r):PureCall Tryz.prog 8 [.u (.agg [dI a.Vars,.d (.sl 1 (List.map (rS 1 (rI .i64)) a.Clauses))]),.u (.agg [dI b.Vars,.d (.sl 1 (List.map (rS 1 (rI .i64)) b.Clauses))])] (vT r):=by
 refine bK Tryz.func8 Tryz.ntmps8 fun cx hn=>?_
 unfold m_R41_Equal at hm
 refine srs hn ?_
 simp -dsimp
 refine ba ?_
 obtain⟨a1,j13,hm⟩:=bnd hm
 refine scE [(2,vX 2),(3,vX 3),(22,vT a1)] [(2,.box [dI a.Vars,.d (.sl 1 (List.map (rS 1 (rI .i64)) a.Clauses))]),(3,.box [dI b.Vars,.d (.sl 1 (List.map (rS 1 (rI .i64)) b.Clauses))])] ?_ fun Z O hf=>?_
 ·replace hm:=j13
  clear j13
  exact zz
 ·clear j13
  simp only[Fits,bo,bn,and_true] at hf
  rcases bl hm with ⟨c2,hm⟩ | ⟨c2,hm⟩
  ·exact zz
  ·refine bi (by simp -dsimp [hf]) c2 ?_
   refine bd (b9 (ba ?_))
   refine srs hn ?_
   simp -dsimp
   refine bc ?_
   obtain⟨o_,g12,hm⟩:=bnd hm
   refine bu (l_R41_Equal_1 cx hn a b g12) (by
     try dsimp only
     exact EE.here (by simp -dsimp [hf])
   ) fun ee Z O xx=>?_
   rcases o_ with r | _u
   ·exact zz
   ·exact zz
theorem gz (a b r:Int) (hm:m_R05_order a b=some r):PureCall Tryz.prog 77 [vI a,vI b] (vI r):=by
 refine bK Tryz.func77 Tryz.ntmps77 fun cx hn=>?_
 unfold m_R05_order at hm
 exact zz
def eW (cx:Cx) (a b:List Cell) (tt:Int ⊕ Unit) (ee:Exit) (Z:Env) (O:Sto):Prop:=match tt with
 | .inl r=>ee=.ret/\EE cx (fun Z O=>∃ v,dd tb Z O Tryz.f43.results.toList=some v/\(v.frz O).free=true/\(v.frz O).wk (vI r)) Z O
 | .inr _u=>ee=.exit 0/\EE cx (bw [(0,.u (.one (dR0 a))),(1,.u (.one (dR0 b)))] []) Z O
theorem l_R05_Compare_1 (cx:Cx) (hn:cx.n=89) (a b:List Cell) {fu:Nat} {stt:Int} {tt:Int ⊕ Unit} (hh:bh (b_R05_Compare_1 a b) fu stt=some tt) {Z:Env} {O:Sto}
  (hE:bA (fun i:Int=>[(0,.u (.one (dR0 a))),(1,.u (.one (dR0 b))),(5,vI i)]) (fun _i:Int=>[]) stt Z O):Swp Tryz.prog cx (.loop (bJ [1,0,1,0,0] (bv Tryz.f43))) Z O (eW cx a b tt):=by
 refine bC hE hh (eW cx a b) ?_
 rintro i r hm Z O hf
 simp only[Fits,bo,bn,and_true] at hf
 unfold b_R05_Compare_1 at hm
 dsimp only at hm
 refine ba ?_
 obtain⟨a1,j11,hm⟩:=bnd hm
 refine scE [(0,.u (.one (dR0 a))),(1,.u (.one (dR0 b))),(5,vI i),(15,vT a1)] [] ?_ fun Z O hf=>?_
 ·replace hm:=j11
  clear j11
  exact zz
 ·clear j11
  simp only[Fits,bo,bn,and_true] at hf
  rcases bl hm with ⟨c2,hm⟩ | ⟨c2,hm⟩
  ·refine be (by simp -dsimp [hf]) c2 ?_
   refine bd (b9 (ba (bc (ba ?_))))
   refine cO bq mixed (by rw[hn]; kernel_rfl) ?_
   obtain⟨x,h3,hm⟩:=bnd hm
   obtain⟨x1,h4,hm⟩:=bnd hm
   simp -dsimp [hf,h3,h4]
   rcases bl hm with ⟨c5,hm⟩ | ⟨c5,hm⟩
   ·refine be (by simp -dsimp) c5 ?_
    refine cO bq mixed (by rw[hn]; kernel_rfl) ?_
    obtain⟨y,h6,hm⟩:=bnd hm
    simp -dsimp [hf,h3,h4,c5]
    refine bj (gz x.Y x1.Y y h6) ?_
    exact zz
   ·refine bi (by simp -dsimp) c5 ?_
    refine bd (b9 (ba ?_))
    refine cO bq mixed (by rw[hn]; kernel_rfl) ?_
    simp -dsimp [hf,h3,h4,c5]
    rcases bl hm with ⟨c7,hm⟩ | ⟨c7,hm⟩
    ·refine be (by simp -dsimp) c7 ?_
     refine cO bq mixed (by rw[hn]; kernel_rfl) ?_
     obtain⟨y,h8,hm⟩:=bnd hm
     simp -dsimp [hf,h3,h4,c7]
     refine bj (gz x.X x1.X y h8) ?_
     exact zz
    ·refine bi (by simp -dsimp) c7 ?_
     refine bd (b9 ?_)
     refine cO bq mixed (by rw[hn]; kernel_rfl) ?_
     simp -dsimp [hf,h3,h4,c7]
     rcases bl hm with ⟨c9,hm⟩ | ⟨c9,hm⟩
     ·refine be (by simp -dsimp) c9 ?_
      refine cO bq mixed (by rw[hn]; kernel_rfl) ?_
      obtain⟨y,h10,hm⟩:=bnd hm
      simp -dsimp [hf,h3,h4,c9]
      refine bj (gz x.S x1.S y h10) ?_
      exact zz
     ·exact zz
  ·exact zz
theorem c_R05_Compare (a b:List Cell) (r:Int) (hm:m_R05_Compare a b=some r):PureCall Tryz.prog 43 [.u (.one (dR0 a)),.u (.one (dR0 b))] (vI r):=by
 refine bK Tryz.func43 Tryz.ntmps43 fun cx hn=>?_
 unfold m_R05_Compare at hm
 refine srs hn ?_
 simp -dsimp
 refine ba ?_
 refine srs hn ?_
 simp -dsimp
 refine bc ?_
 obtain⟨o_,g12,hm⟩:=bnd hm
 refine bu (l_R05_Compare_1 cx hn a b g12) (by
   try dsimp only
   exact eeh
 ) fun ee Z O xx=>?_
 rcases o_ with r | _u
 ·exact zz
 ·unfold eW at xx
  dsimp only at xx
  obtain⟨rfl,xx⟩:=xx
  refine bz ?_
  refine b9 ?_
  refine see xx fun Z O hf=>?_
  simp only[Fits,bo,bn,and_true] at hf
  refine srs hn ?_
  obtain⟨y,h13,hm⟩:=bnd hm
  simp -dsimp [hf]
  refine bg (gz (bf a) (bf b) y h13) (dkL hn) ?_
  exact zz
theorem c_R05_Same (a b:List Cell) (r:Bool) (hm:m_R05_Same a b=some r):PureCall Tryz.prog 13 [.u (.one (dR0 a)),.u (.one (dR0 b))] (vT r):=by
 refine bK Tryz.func13 Tryz.ntmps13 fun cx hn=>?_
 unfold m_R05_Same at hm
 refine srs hn ?_
 simp -dsimp
 refine srs hn ?_
 obtain⟨y,h1,hm⟩:=bnd hm
 simp -dsimp
 refine bg (c_R05_Compare a b y h1) (dkL hn) ?_
 simp -dsimp
 exact zz
theorem c_L45_alive (r:Bool) (hm:m_L45_alive=some r):PureCall Tryz.prog 5 [] (vT r):=by
 refine bK Tryz.func5 Tryz.ntmps5 fun cx hn=>?_
 unfold m_L45_alive at hm
 refine srs hn ?_
 simp -dsimp
 refine srs hn ?_
 simp -dsimp
 refine cm bq mixed 7 9 10 0 [[0,1,2,3,4,5,6],[5,6]] [[2],[]] [true] none (by rw[hn]; kernel_rfl) bO ?_
 dsimp only [List.take,List.drop,cn,cp,cV,pk,List.cons_append,List.nil_append,List.flatten_cons,List.flatten_nil,bN,bM,List.append_nil]
 obtain⟨y,h1,hm⟩:=bnd hm
 simp -dsimp
 refine bj (fG y h1) ?_
 obtain⟨y1,h2,hm⟩:=bnd hm
 simp -dsimp
 refine bj ((dE y (⟨1,1,1,0,0,[]⟩:Bl) y1 h2).wk (by simp[V.wkl])) ?_
 simp -dsimp
 refine bj (fG y h1) ?_
 simp -dsimp
 refine bj ((dE y (⟨1,1,1,0,0,[]⟩:Bl) y1 h2).wk (by simp[V.wkl])) ?_
 simp -dsimp
 refine srs hn ?_
 simp -dsimp
 refine bg (fG y h1) (dkL hn) ?_
 obtain⟨y2,h3,hm⟩:=bnd hm
 simp -dsimp
 refine bg (c_unroll_Parents y (⟨1,1,0,[1]⟩:Grid) y2 h3) (dkL hn) ?_
 simp -dsimp
 refine cO bq mixed (by rw[hn]; kernel_rfl) ?_
 simp -dsimp
 refine bj (fG y h1) ?_
 obtain⟨y3,h4,hm⟩:=bnd hm
 simp -dsimp
 refine bj ((c_unroll_Bits y (⟨1,1,1,0,0,[]⟩:Bl) [(⟨0,0,1⟩:Cell)] y3 h4).wk (by simp[V.wkl])) ?_
 simp -dsimp
 refine cO bq mixed (by rw[hn]; kernel_rfl) ?_
 simp -dsimp
 refine bj (fG y h1) ?_
 obtain⟨y4,h5,hm⟩:=bnd hm
 simp -dsimp
 refine bj ((c_unroll_Pattern y (⟨1,1,1,0,0,[]⟩:Bl) [true] y4 h5).wk (by simp[V.wkl])) ?_
 simp -dsimp
 refine srs hn ?_
 obtain⟨y5,h6,hm⟩:=bnd hm
 simp -dsimp
 refine bg ((dE (⟨0,[],[]⟩:Tree) (⟨1,1,1,0,0,[]⟩:Bl) y5 h6).wk (by simp[V.wkl])) (dkL hn) ?_
 simp -dsimp
 refine srs hn ?_
 simp -dsimp
 obtain⟨a,j22,hm⟩:=bnd hm
 refine scE [(0,vT a)] [] ?_ fun Z O hf=>?_
 ·replace hm:=j22
  clear j22
  refine sr1 hn ?_
  rcases bl hm with ⟨c7,hm⟩ | ⟨c7,hm⟩
  ·rcases bl hm with ⟨c8,hm⟩ | ⟨c8,hm⟩
   ·obtain⟨y6,h9,hm⟩:=bnd hm
    simp -dsimp [c7,c8]
    refine bg (c_R41_Equal y1.1 (⟨2,[[1,(-2)],[(-1),2],[(-2),1],[2,(-1)]]⟩:Bm) y6 h9) (dkL hn) ?_
    rcases bl hm with ⟨c10,hm⟩ | ⟨c10,hm⟩
    ·rcases bl hm with ⟨c11,hm⟩ | ⟨c11,hm⟩
     ·rcases bl hm with ⟨c12,hm⟩ | ⟨c12,hm⟩
      ·obtain⟨y7,h13,hm⟩:=bnd hm
       simp -dsimp [c10,c11,c12]
       refine bg (c_R41_Equal y2.1 (⟨2,[[1,(-2)],[(-1),2],[2]]⟩:Bm) y7 h13) (dkL hn) ?_
       rcases bl hm with ⟨c14,hm⟩ | ⟨c14,hm⟩
       ·rcases bl hm with ⟨c15,hm⟩ | ⟨c15,hm⟩
        ·rcases bl hm with ⟨c16,hm⟩ | ⟨c16,hm⟩
         ·obtain⟨x,h17,hm⟩:=bnd hm
          rcases bl hm with ⟨c18,hm⟩ | ⟨c18,hm⟩
          ·rcases bl hm with ⟨c19,hm⟩ | ⟨c19,hm⟩
           ·obtain⟨y8,h20,hm⟩:=bnd hm
            simp -dsimp [c14,c15,c16,h17,c18,c19]
            refine bg (c_R05_Same y4.1 [(⟨0,0,1⟩:Cell)] y8 h20) (dkL hn) ?_
            exact zz
           ·exact zz
          ·exact zz
         ·exact zz
        ·exact zz
       ·exact zz
      ·exact zz
     ·exact zz
    ·exact zz
   ·exact zz
  ·exact zz
 ·clear j22
  exact zz
theorem c_R07_before (a b:Point) (r:Bool) (hm:m_R07_before a b=some r):PureCall Tryz.prog 112 [.u (.agg [dI a.X,dI a.Y]),.u (.agg [dI b.X,dI b.Y])] (vT r):=by
 refine bK Tryz.func112 Tryz.ntmps112 fun cx hn=>?_
 unfold m_R07_before at hm
 refine srs hn ?_
 simp -dsimp
 obtain⟨a1,j3,hm⟩:=bnd hm
 refine scE [(4,vT a1)] [] ?_ fun Z O hf=>?_
 ·replace hm:=j3
  clear j3
  exact zz
 ·clear j3
  exact zz
def F_R07_Right_1 (cx:Cx) (_l:List Point) (tt:Bool ⊕ Unit) (ee:Exit) (Z:Env) (O:Sto):Prop:=match tt with
 | .inl r=>ee=.ret/\EE cx (fun Z O=>∃ v,dd tb Z O Tryz.f95.results.toList=some v/\(v.frz O).free=true/\(v.frz O).wk (vT r)) Z O
 | .inr _u=>ee=.exit 0/\EE cx (bw [] []) Z O
theorem l_R07_Right_1 (cx:Cx) (hn:cx.n=55) (l:List Point) {fu:Nat} {stt:Int} {tt:Bool ⊕ Unit} (hh:bh (b_R07_Right_1 l) fu stt=some tt) {Z:Env} {O:Sto}
  (hE:bA (fun i:Int=>[(0,.u (.one (dR2 l))),(3,vI i)]) (fun _i:Int=>[]) stt Z O):Swp Tryz.prog cx (.loop (bJ [1,1,0,1,0,0] (bv Tryz.f95))) Z O (F_R07_Right_1 cx l tt):=by
 refine bC hE hh (F_R07_Right_1 cx l) ?_
 rintro i r hm Z O hf
 simp only[Fits,bo,bn,and_true] at hf
 unfold b_R07_Right_1 at hm
 dsimp only at hm
 refine ba ?_
 refine srs hn ?_
 simp -dsimp [hf]
 rcases bl hm with ⟨c3,hm⟩ | ⟨c3,hm⟩
 ·refine be (by simp -dsimp) c3 ?_
  refine bd (b9 (ba (bc ?_)))
  refine srs hn ?_
  obtain⟨x,h4,hm⟩:=bnd hm
  simp -dsimp [hf,c3,h4]
  obtain⟨a1,j13,hm⟩:=bnd hm
  refine scE [(0,.u (.one (dR2 l))),(3,vI i),(54,vT a1)] [] ?_ fun Z O hf=>?_
  ·replace hm:=j13
   clear j13
   refine sw_qt bq mixed (by rw[hn]; kernel_rfl) ?_
   rcases bl hm with ⟨c5,hm⟩ | ⟨c5,hm⟩
   ·exact zz
   ·rcases bl hm with ⟨c6,hm⟩ | ⟨c6,hm⟩
    ·exact zz
    ·rcases bl hm with ⟨c7,hm⟩ | ⟨c7,hm⟩
     ·exact zz
     ·rcases bl hm with ⟨c8,hm⟩ | ⟨c8,hm⟩
      ·exact zz
      ·rcases bl hm with ⟨c9,hm⟩ | ⟨c9,hm⟩
       ·obtain⟨x1,h10,hm⟩:=bnd hm
        obtain⟨y,h11,hm⟩:=bnd hm
        simp -dsimp [hf,c5,c6,c7,c8,c9,h10]
        refine bj (c_R07_before x1 x y h11) ?_
        exact zz
       ·exact zz
  ·clear j13
   exact zz
 ·exact zz
theorem c_R07_Right (l:List Point) (r:Bool) (hm:m_R07_Right l=some r):PureCall Tryz.prog 95 [.u (.one (dR2 l))] (vT r):=by
 refine bK Tryz.func95 Tryz.ntmps95 fun cx hn=>?_
 unfold m_R07_Right at hm
 refine srs hn ?_
 simp -dsimp
 refine ba ?_
 obtain⟨a,j15,hm⟩:=bnd hm
 refine scE [(0,.u (.one (dR2 l))),(12,vT a)] [] ?_ fun Z O hf=>?_
 ·replace hm:=j15
  clear j15
  exact zz
 ·clear j15
  simp only[Fits,bo,bn,and_true] at hf
  rcases bl hm with ⟨c2,hm⟩ | ⟨c2,hm⟩
  ·exact zz
  ·refine bi (by simp -dsimp [hf]) c2 ?_
   refine bd (b9 (ba ?_))
   refine srs hn ?_
   simp -dsimp
   refine bc ?_
   obtain⟨o_,g14,hm⟩:=bnd hm
   refine bu (l_R07_Right_1 cx hn l g14) (by
     try dsimp only
     exact EE.here (by simp -dsimp [hf])
   ) fun ee Z O xx=>?_
   rcases o_ with r | _u
   ·exact zz
   ·exact zz
end Go.Proofs.YtnkmjlncmlmnbaaGreatDoor
namespace Go.Proofs.YtnkmjlncmlmnbaaGreatDoor
open Go.AM Go.Proofs
set_option maxRecDepth 100000
attribute [-simp] qlookup cb cL Ob.wipe Ob.ren Ob.frz1
def F_R12_Right_2 (cx:Cx) (t:Tree) (i:Int) (_x:Node) (tt:Bool ⊕ Unit) (ee:Exit) (Z:Env) (O:Sto):Prop:=match tt with
 | .inl r=>ee=.ret/\EE cx (fun Z O=>∃ v,dd tb Z O Tryz.f90.results.toList=some v/\(v.frz O).free=true/\(v.frz O).wk (vT r)) Z O
 | .inr _u=>ee=.exit 2/\EE cx (bw [(1,vX 1),(3,vI (bf t.Nodes)),(4,vI i)] [(1,.box [dI t.States,dR2 t.Hood,dR1 t.Nodes])]) Z O
theorem l_R12_Right_2 (cx:Cx) (hn:cx.n=115) (t:Tree) (i:Int) (x:Node) {fu:Nat} {stt:Int} {tt:Bool ⊕ Unit} (hh:bh (b_R12_Right_2 t i x) fu stt=some tt) {Z:Env} {O:Sto}
  (hE:bA (fun s:Int=>[(1,vX 1),(3,vI (bf t.Nodes)),(4,vI i),(5,vX 5),(6,vI s)]) (fun _s:Int=>[(1,.box [dI t.States,dR2 t.Hood,dR1 t.Nodes]),(5,.box [dI x.Level,dL x.Next])]) stt Z O):Swp Tryz.prog cx (.loop (bJ [1,1,1,0,1,0,0,1,0,0,1,1,1,0,0] (bv Tryz.f90))) Z O (F_R12_Right_2 cx t i x tt):=by
 refine bC hE hh (F_R12_Right_2 cx t i x) ?_
 rintro s r hm Z O hf
 simp only[Fits,bo,bn,and_true] at hf
 unfold b_R12_Right_2 at hm
 dsimp only at hm
 refine ba ?_
 refine srs hn ?_
 simp -dsimp [hf]
 rcases bl hm with ⟨c12,hm⟩ | ⟨c12,hm⟩
 ·refine be (by simp -dsimp) c12 ?_
  refine bd (b9 (ba (bc ?_)))
  refine srs hn ?_
  obtain⟨x1,h13,hm⟩:=bnd hm
  simp -dsimp [hf,c12,h13]
  refine ba ?_
  refine srs hn ?_
  simp -dsimp
  rcases bl hm with ⟨c14,hm⟩ | ⟨c14,hm⟩
  ·exact zz
  ·refine bi (by simp -dsimp) c14 ?_
   refine bd (b9 (ba ?_))
   obtain⟨a2,j22,hm⟩:=bnd hm
   refine scE [(1,vX 1),(3,vI (bf t.Nodes)),(4,vI i),(5,vX 5),(6,vI s),(7,vI x1),(83,vT a2)] [(1,.box [dI t.States,dR2 t.Hood,dR1 t.Nodes]),(5,.box [dI x.Level,dL x.Next])] ?_ fun Z O hf=>?_
   ·replace hm:=j22
    clear j22
    exact zz
   ·clear j22
    simp only[Fits,bo,bn,and_true] at hf
    rcases bl hm with ⟨c16,hm⟩ | ⟨c16,hm⟩
    ·exact zz
    ·refine bi (by simp -dsimp [hf]) c16 ?_
     refine bd (b9 ?_)
     obtain⟨a3,j21,hm⟩:=bnd hm
     refine scE [(1,vX 1),(3,vI (bf t.Nodes)),(4,vI i),(5,vX 5),(6,vI s),(103,vT a3)] [(1,.box [dI t.States,dR2 t.Hood,dR1 t.Nodes]),(5,.box [dI x.Level,dL x.Next])] ?_ fun Z O hf=>?_
     ·replace hm:=j21
      clear j21
      exact zz
     ·clear j21
      exact zz
 ·exact zz
def F_R12_Right_1 (cx:Cx) (t:Tree) (tt:Bool ⊕ Unit) (ee:Exit) (Z:Env) (O:Sto):Prop:=match tt with
 | .inl r=>ee=.ret/\EE cx (fun Z O=>∃ v,dd tb Z O Tryz.f90.results.toList=some v/\(v.frz O).free=true/\(v.frz O).wk (vT r)) Z O
 | .inr _u=>ee=.exit 0/\EE cx (bw [(1,vX 1),(3,vI (bf t.Nodes))] [(1,.box [dI t.States,dR2 t.Hood,dR1 t.Nodes])]) Z O
theorem l_R12_Right_1 (cx:Cx) (hn:cx.n=115) (t:Tree) {fu:Nat} {stt:Int} {tt:Bool ⊕ Unit} (hh:bh (b_R12_Right_1 t) fu stt=some tt) {Z:Env} {O:Sto}
  (hE:bA (fun i:Int=>[(1,vX 1),(3,vI (bf t.Nodes)),(4,vI i)]) (fun _i:Int=>[(1,.box [dI t.States,dR2 t.Hood,dR1 t.Nodes])]) stt Z O):Swp Tryz.prog cx (.loop (bJ [1,1,1,0,1,0,0] (bv Tryz.f90))) Z O (F_R12_Right_1 cx t tt):=by
 refine bC hE hh (F_R12_Right_1 cx t) ?_
 rintro i r hm Z O hf
 simp only[Fits,bo,bn,and_true] at hf
 unfold b_R12_Right_1 at hm
 dsimp only at hm
 refine ba ?_
 refine srs hn ?_
 simp -dsimp [hf]
 rcases bl hm with ⟨c7,hm⟩ | ⟨c7,hm⟩
 ·refine be (by simp -dsimp) c7 ?_
  refine bd (b9 (ba (bc ?_)))
  refine srs hn ?_
  obtain⟨x,h8,hm⟩:=bnd hm
  simp -dsimp [hf,c7,h8]
  refine ba ?_
  obtain⟨a1,j24,hm⟩:=bnd hm
  refine scE [(1,vX 1),(3,vI (bf t.Nodes)),(4,vI i),(5,vX 5),(61,vT a1)] [(1,.box [dI t.States,dR2 t.Hood,dR1 t.Nodes]),(5,.box [dI x.Level,dL x.Next])] ?_ fun Z O hf=>?_
  ·replace hm:=j24
   clear j24
   exact zz
  ·clear j24
   simp only[Fits,bo,bn,and_true] at hf
   rcases bl hm with ⟨c11,hm⟩ | ⟨c11,hm⟩
   ·exact zz
   ·refine bi (by simp -dsimp [hf]) c11 ?_
    refine bd (b9 ?_)
    refine srs hn ?_
    simp -dsimp
    refine bc ?_
    obtain⟨o_,g23,hm⟩:=bnd hm
    refine bu (l_R12_Right_2 cx hn t i x g23) (by
      try dsimp only
      exact EE.here (by simp -dsimp [hf])
    ) fun ee Z O xx=>?_
    rcases o_ with r | _u
    ·exact zz
    ·exact zz
 ·exact zz
theorem gu (t:Tree) (r:Bool) (hm:m_R12_Right t=some r):PureCall Tryz.prog 90 [.u (.agg [dI t.States,dR2 t.Hood,dR1 t.Nodes])] (vT r):=by
 refine bK Tryz.func90 Tryz.ntmps90 fun cx hn=>?_
 unfold m_R12_Right at hm
 refine srs hn ?_
 simp -dsimp
 refine srs hn ?_
 simp -dsimp
 refine ba ?_
 obtain⟨a,j27,hm⟩:=bnd hm
 refine scE [(1,vX 1),(3,vI (bf t.Nodes)),(32,vT a)] [(1,.box [dI t.States,dR2 t.Hood,dR1 t.Nodes])] ?_ fun Z O hf=>?_
 ·replace hm:=j27
  clear j27
  refine sr1 hn ?_
  rcases bl hm with ⟨c1,hm⟩ | ⟨c1,hm⟩
  ·exact zz
  ·rcases bl hm with ⟨c2,hm⟩ | ⟨c2,hm⟩
   ·exact zz
   ·obtain⟨y,h3,hm⟩:=bnd hm
    simp -dsimp [c1,c2]
    refine bg (c_R07_Right t.Hood y h3) (dkL hn) ?_
    exact zz
 ·clear j27
  simp only[Fits,bo,bn,and_true] at hf
  rcases bl hm with ⟨c6,hm⟩ | ⟨c6,hm⟩
  ·exact zz
  ·refine bi (by simp -dsimp [hf]) c6 ?_
   refine bd (b9 (ba ?_))
   refine srs hn ?_
   simp -dsimp
   refine bc ?_
   obtain⟨o_,g25,hm⟩:=bnd hm
   refine bu (l_R12_Right_1 cx hn t g25) (by
     try dsimp only
     exact EE.here (by simp -dsimp [hf])
   ) fun ee Z O xx=>?_
   rcases o_ with r | _u
   ·exact zz
   ·exact zz
def F_R12_Value_1 (cx:Cx) (_t:Tree) (_in_:List Int) (tt:Int) (ee:Exit) (Z:Env) (O:Sto):Prop:=match tt with
 | k=>ee=.exit 0/\EE cx (bw [(5,vI k)] []) Z O
theorem l_R12_Value_1 (cx:Cx) (hn:cx.n=30) (t:Tree) (in_:List Int) {fu:Nat} {stt:Int×Int} {tt:Int} (hh:bh (b_R12_Value_1 t in_) fu stt=some tt) {Z:Env} {O:Sto}
  (hE:bA (fun stt:Int×Int=>match stt with | (k,i)=>[(1,.u (.one (dL in_))),(2,vX 2),(5,vI k),(6,vI i)]) (fun stt:Int×Int=>match stt with | (_k,_i)=>[(2,.box [dI t.States,dR2 t.Hood,dR1 t.Nodes])]) stt Z O):Swp Tryz.prog cx (.loop (bJ [1,1,0,1,0,0] (bv Tryz.f111))) Z O (F_R12_Value_1 cx t in_ tt):=by
 refine bC hE hh (F_R12_Value_1 cx t in_) ?_
 rintro⟨k,i⟩ r hm Z O hf
 simp only[Fits,bo,bn,and_true] at hf
 unfold b_R12_Value_1 at hm
 exact zz
theorem c_R12_Value (t:Tree) (in_:List Int) (r:Int) (hm:m_R12_Value t in_=some r):PureCall Tryz.prog 111 [.u (.agg [dI t.States,dR2 t.Hood,dR1 t.Nodes]),.u (.one (dL in_))] (vI r):=by
 refine bK Tryz.func111 Tryz.ntmps111 fun cx hn=>?_
 unfold m_R12_Value at hm
 refine srs hn ?_
 simp -dsimp
 refine srs hn ?_
 simp -dsimp
 refine ba ?_
 refine srs hn ?_
 simp -dsimp
 refine bc ?_
 obtain⟨k,g5,hm⟩:=bnd hm
 refine bu (l_R12_Value_1 cx hn t in_ g5) (by
   try dsimp only
   exact eeh
 ) fun ee Z O xx=>?_
 exact zz
def i8 (cx:Cx) (t:Tree) (in_:List Int) (tt:(Int×Int) ⊕ Unit) (ee:Exit) (Z:Env) (O:Sto):Prop:=match tt with
 | .inl r=>ee=.ret/\EE cx (fun Z O=>∃ v,dd tb Z O Tryz.f91.results.toList=some v/\(v.frz O).free=true/\(v.frz O).wk (.tup [.one (dI r.1),.one (dI r.2)])) Z O
 | .inr _u=>ee=.exit 0/\EE cx (bw [(1,.u (.one (dL in_))),(2,vX 2)] [(2,.box [dI t.States,dR2 t.Hood,dR1 t.Nodes])]) Z O
theorem l_R12_Eval_1 (cx:Cx) (hn:cx.n=39) (t:Tree) (in_:List Int) {fu:Nat} {stt:Int} {tt:(Int×Int) ⊕ Unit} (hh:bh (b_R12_Eval_1 t in_) fu stt=some tt) {Z:Env} {O:Sto}
  (hE:bA (fun i:Int=>[(1,.u (.one (dL in_))),(2,vX 2),(6,vI i)]) (fun _i:Int=>[(2,.box [dI t.States,dR2 t.Hood,dR1 t.Nodes])]) stt Z O):Swp Tryz.prog cx (.loop (bJ [1,1,1,0,1,0,0] (bv Tryz.f91))) Z O (i8 cx t in_ tt):=by
 refine bC hE hh (i8 cx t in_) ?_
 rintro i r hm Z O hf
 simp only[Fits,bo,bn,and_true] at hf
 unfold b_R12_Eval_1 at hm
 dsimp only at hm
 refine ba ?_
 refine srs hn ?_
 simp -dsimp [hf]
 rcases bl hm with ⟨c4,hm⟩ | ⟨c4,hm⟩
 ·refine be (by simp -dsimp) c4 ?_
  refine bd (b9 (ba (bc ?_)))
  obtain⟨a,j8,hm⟩:=bnd hm
  refine scE [(1,.u (.one (dL in_))),(2,vX 2),(6,vI i),(35,vT a)] [(2,.box [dI t.States,dR2 t.Hood,dR1 t.Nodes])] ?_ fun Z O hf=>?_
  ·replace hm:=j8
   clear j8
   exact zz
  ·clear j8
   exact zz
 ·exact zz
theorem c_R12_Eval (t:Tree) (in_:List Int) (r:Int×Int) (hm:m_R12_Eval t in_=some r):PureCall Tryz.prog 91 [.u (.agg [dI t.States,dR2 t.Hood,dR1 t.Nodes]),.u (.one (dL in_))] (.tup [.one (dI r.1),.one (dI r.2)]):=by
 refine bK Tryz.func91 Tryz.ntmps91 fun cx hn=>?_
 unfold m_R12_Eval at hm
 refine srs hn ?_
 simp -dsimp
 refine ba ?_
 refine srs hn ?_
 obtain⟨y,h1,hm⟩:=bnd hm
 simp -dsimp
 refine bg (gu t y h1) (dkL hn) ?_
 simp -dsimp
 rcases bl hm with ⟨c2,hm⟩ | ⟨c2,hm⟩
 ·exact zz
 ·refine bi (by simp -dsimp) c2 ?_
  refine bd (b9 (ba ?_))
  refine srs hn ?_
  simp -dsimp [c2]
  rcases bl hm with ⟨c3,hm⟩ | ⟨c3,hm⟩
  ·exact zz
  ·refine bi (by simp -dsimp) c3 ?_
   refine bd (b9 (ba ?_))
   refine srs hn ?_
   simp -dsimp [c3]
   refine bc ?_
   obtain⟨o_,g9,hm⟩:=bnd hm
   refine bu (l_R12_Eval_1 cx hn t in_ g9) (by
     try dsimp only
     exact EE.here (by simp -dsimp)
   ) fun ee Z O xx=>?_
   rcases o_ with r | _u
   ·exact zz
   ·unfold i8 at xx
    dsimp only at xx
    obtain⟨rfl,xx⟩:=xx
    refine bz ?_
    refine b9 ?_
    refine see xx fun Z O hf=>?_
    simp only[Fits,bo,bn,and_true] at hf
    refine srs hn ?_
    obtain⟨y1,h10,hm⟩:=bnd hm
    simp -dsimp [hf]
    refine bg (c_R12_Value t in_ y1 h10) (dkL hn) ?_
    exact zz
theorem c_R12_Quiet (t:Tree) (r:Bool) (hm:m_R12_Quiet t=some r):PureCall Tryz.prog 55 [.u (.agg [dI t.States,dR2 t.Hood,dR1 t.Nodes])] (vT r):=by
 refine bK Tryz.func55 Tryz.ntmps55 fun cx hn=>?_
 unfold m_R12_Quiet at hm
 refine srs hn ?_
 simp -dsimp
 refine ba ?_
 refine srs hn ?_
 obtain⟨y,h1,hm⟩:=bnd hm
 simp -dsimp
 refine bg (gu t y h1) (dkL hn) ?_
 simp -dsimp
 rcases bl hm with ⟨c2,hm⟩ | ⟨c2,hm⟩
 ·exact zz
 ·refine bi (by simp -dsimp) c2 ?_
  refine bd (b9 ?_)
  refine cm bq mixed 4 5 10 0 [[0]] [[13]] [true,true,true,true,true] none (by rw[hn]; kernel_rfl) bO ?_
  dsimp only [List.take,List.drop,cn,cp,cV,pk,List.cons_append,List.nil_append,List.flatten_cons,List.flatten_nil,bN,bM,List.append_nil]
  obtain⟨l,h3,hm⟩:=bnd hm
  obtain⟨⟨h3a,h3b,h3c⟩,rfl⟩:=mkL_some h3
  obtain⟨y1,h4,hm⟩:=bnd hm
  simp -dsimp [c2,h3a,h3c]
  refine qcallL_brw (us':=[.u (.agg [dI t.States,dR2 t.Hood,dR1 t.Nodes]),.u (.one (dL (List.replicate (bf t.Hood).toNat 0)))]) (c_R12_Eval t (List.replicate (bf t.Hood).toNat 0) y1 h4) (by simp -dsimp) rfl ?_
  simp -dsimp
  refine srs hn ?_
  simp -dsimp
  exact zz
def F_R44_Box_2 (cx:Cx) (x:Bl) (i _x1:Int) (tt:Int ⊕ Unit) (ee:Exit) (Z:Env) (O:Sto):Prop:=match tt with
 | .inl r=>ee=.ret/\EE cx (fun Z O=>∃ v,dd tb Z O Tryz.f56.results.toList=some v/\(v.frz O).free=true/\(v.frz O).wk (vI r)) Z O
 | .inr _u=>ee=.exit 2/\EE cx (bw [(1,vX 1),(3,vI i)] [(1,.box [dI x.W,dI x.H,dI x.Gens,dI x.DX,dI x.DY,dL x.Syms])]) Z O
theorem l_R44_Box_2 (cx:Cx) (hn:cx.n=100) (x:Bl) (i x1:Int) {fu:Nat} {stt:Int} {tt:Int ⊕ Unit} (hh:bh (b_R44_Box_2 x i x1) fu stt=some tt) {Z:Env} {O:Sto}
  (hE:bA (fun k:Int=>[(1,vX 1),(3,vI i),(4,vI x1),(5,vI k)]) (fun _k:Int=>[(1,.box [dI x.W,dI x.H,dI x.Gens,dI x.DX,dI x.DY,dL x.Syms])]) stt Z O):Swp Tryz.prog cx (.loop (bJ [1,1,1,1,0,1,0,0,1,0,0,1,1,1,0,0] (bv Tryz.f56))) Z O (F_R44_Box_2 cx x i x1 tt):=by
 refine bC hE hh (F_R44_Box_2 cx x i x1) ?_
 rintro k r hm Z O hf
 simp only[Fits,bo,bn,and_true] at hf
 unfold b_R44_Box_2 at hm
 exact zz
def F_R44_Box_1 (cx:Cx) (_x:Bl) (tt:Int ⊕ Unit) (ee:Exit) (Z:Env) (O:Sto):Prop:=match tt with
 | .inl r=>ee=.ret/\EE cx (fun Z O=>∃ v,dd tb Z O Tryz.f56.results.toList=some v/\(v.frz O).free=true/\(v.frz O).wk (vI r)) Z O
 | .inr _u=>ee=.exit 0/\EE cx (bw [] []) Z O
theorem l_R44_Box_1 (cx:Cx) (hn:cx.n=100) (x:Bl) {fu:Nat} {stt:Int} {tt:Int ⊕ Unit} (hh:bh (b_R44_Box_1 x) fu stt=some tt) {Z:Env} {O:Sto}
  (hE:bA (fun i:Int=>[(1,vX 1),(3,vI i)]) (fun _i:Int=>[(1,.box [dI x.W,dI x.H,dI x.Gens,dI x.DX,dI x.DY,dL x.Syms])]) stt Z O):Swp Tryz.prog cx (.loop (bJ [1,1,1,1,0,1,0,0] (bv Tryz.f56))) Z O (F_R44_Box_1 cx x tt):=by
 refine bC hE hh (F_R44_Box_1 cx x) ?_
 rintro i r hm Z O hf
 simp only[Fits,bo,bn,and_true] at hf
 unfold b_R44_Box_1 at hm
 dsimp only at hm
 refine ba ?_
 refine srs hn ?_
 simp -dsimp [hf]
 rcases bl hm with ⟨c12,hm⟩ | ⟨c12,hm⟩
 ·refine be (by simp -dsimp) c12 ?_
  refine bd (b9 (ba (bc ?_)))
  refine srs hn ?_
  obtain⟨x1,h13,hm⟩:=bnd hm
  simp -dsimp [hf,c12,h13]
  refine ba ?_
  obtain⟨a3,j23,hm⟩:=bnd hm
  refine scE [(1,vX 1),(3,vI i),(4,vI x1),(87,vT a3)] [(1,.box [dI x.W,dI x.H,dI x.Gens,dI x.DX,dI x.DY,dL x.Syms])] ?_ fun Z O hf=>?_
  ·replace hm:=j23
   clear j23
   exact zz
  ·clear j23
   simp only[Fits,bo,bn,and_true] at hf
   rcases bl hm with ⟨c18,hm⟩ | ⟨c18,hm⟩
   ·exact zz
   ·refine bi (by simp -dsimp [hf]) c18 ?_
    refine bd (b9 ?_)
    refine srs hn ?_
    simp -dsimp
    refine bc ?_
    obtain⟨o_,g22,hm⟩:=bnd hm
    refine bu (l_R44_Box_2 cx hn x i x1 g22) (by
      try dsimp only
      refine EE.here ?_
      exact zz
    ) fun ee Z O xx=>?_
    rcases o_ with r | _u
    ·exact zz
    ·exact zz
 ·exact zz
theorem c_R44_Box (x:Bl) (r:Int) (hm:m_R44_Box x=some r):PureCall Tryz.prog 56 [.u (.agg [dI x.W,dI x.H,dI x.Gens,dI x.DX,dI x.DY,dL x.Syms])] (vI r):=by
 refine bK Tryz.func56 Tryz.ntmps56 fun cx hn=>?_
 unfold m_R44_Box at hm
 refine srs hn ?_
 simp -dsimp
 refine ba ?_
 obtain⟨a,j27,hm⟩:=bnd hm
 refine scE [(1,vX 1),(13,vT a)] [(1,.box [dI x.W,dI x.H,dI x.Gens,dI x.DX,dI x.DY,dL x.Syms])] ?_ fun Z O hf=>?_
 ·replace hm:=j27
  clear j27
  exact zz
 ·clear j27
  simp only[Fits,bo,bn,and_true] at hf
  rcases bl hm with ⟨c2,hm⟩ | ⟨c2,hm⟩
  ·exact zz
  ·refine bi (by simp -dsimp [hf]) c2 ?_
   refine bd (b9 (ba ?_))
   obtain⟨a1,j26,hm⟩:=bnd hm
   refine scE [(1,vX 1),(29,vT a1)] [(1,.box [dI x.W,dI x.H,dI x.Gens,dI x.DX,dI x.DY,dL x.Syms])] ?_ fun Z O hf=>?_
   ·replace hm:=j26
    clear j26
    exact zz
   ·clear j26
    simp only[Fits,bo,bn,and_true] at hf
    rcases bl hm with ⟨c5,hm⟩ | ⟨c5,hm⟩
    ·exact zz
    ·refine bi (by simp -dsimp [hf]) c5 ?_
     refine bd (b9 (ba ?_))
     obtain⟨a2,j25,hm⟩:=bnd hm
     refine scE [(1,vX 1),(57,vT a2)] [(1,.box [dI x.W,dI x.H,dI x.Gens,dI x.DX,dI x.DY,dL x.Syms])] ?_ fun Z O hf=>?_
     ·replace hm:=j25
      clear j25
      exact zz
     ·clear j25
      simp only[Fits,bo,bn,and_true] at hf
      rcases bl hm with ⟨c11,hm⟩ | ⟨c11,hm⟩
      ·exact zz
      ·refine bi (by simp -dsimp [hf]) c11 ?_
       refine bd (b9 (ba ?_))
       refine srs hn ?_
       simp -dsimp
       refine bc ?_
       obtain⟨o_,g24,hm⟩:=bnd hm
       refine bu (l_R44_Box_1 cx hn x g24) (by
         try dsimp only
         exact EE.here (by simp -dsimp [hf])
       ) fun ee Z O xx=>?_
       rcases o_ with r | _u
       ·exact zz
       ·exact zz
theorem c_R44_Check (t:Tree) (x:Bl) (r:Int) (hm:m_R44_Check t x=some r):PureCall Tryz.prog 25 [.u (.agg [dI t.States,dR2 t.Hood,dR1 t.Nodes]),.u (.agg [dI x.W,dI x.H,dI x.Gens,dI x.DX,dI x.DY,dL x.Syms])] (vI r):=by
 refine bK Tryz.func25 Tryz.ntmps25 fun cx hn=>?_
 unfold m_R44_Check at hm
 refine srs hn ?_
 simp -dsimp
 refine ba ?_
 refine srs hn ?_
 obtain⟨y,h1,hm⟩:=bnd hm
 simp -dsimp
 refine bg (c_R12_Quiet t y h1) (dkL hn) ?_
 simp -dsimp
 rcases bl hm with ⟨c2,hm⟩ | ⟨c2,hm⟩
 ·exact zz
 ·refine bi (by simp -dsimp) c2 ?_
  refine bd (b9 ?_)
  refine srs hn ?_
  obtain⟨y1,h3,hm⟩:=bnd hm
  simp -dsimp [c2]
  refine bg (c_R44_Box x y1 h3) (dkL hn) ?_
  exact zz
theorem c_R18_Bits (states r:Int) (hm:m_R18_Bits states=some r):PureCall Tryz.prog 57 [vI states] (vI r):=by
 refine bK Tryz.func57 Tryz.ntmps57 fun cx hn=>?_
 unfold m_R18_Bits at hm
 refine srs hn ?_
 simp -dsimp
 refine ba ?_
 refine srs hn ?_
 simp -dsimp
 rcases bl hm with ⟨c1,hm⟩ | ⟨c1,hm⟩
 ·exact zz
 ·refine scf c1 ?_
  refine bd (b9 (ba ?_))
  obtain⟨a,j7,hm⟩:=bnd hm
  refine scE [(0,vI states),(10,vT a)] [] ?_ fun Z O hf=>?_
  ·replace hm:=j7
   clear j7
   exact zz
  ·clear j7
   simp only[Fits,bo,bn,and_true] at hf
   rcases bl hm with ⟨c3,hm⟩ | ⟨c3,hm⟩
   ·exact zz
   ·refine bi (by simp -dsimp [hf]) c3 ?_
    refine bd (b9 (ba ?_))
    obtain⟨a1,j6,hm⟩:=bnd hm
    refine scE [(16,vT a1)] [] ?_ fun Z O hf=>?_
    ·replace hm:=j6
     clear j6
     exact zz
    ·clear j6
     exact zz
theorem c_R45_bit (n k r:Int) (hm:m_R45_bit n k=some r):PureCall Tryz.prog 92 [vI n,vI k] (vI r):=by
 refine bK Tryz.func92 Tryz.ntmps92 fun cx hn=>?_
 unfold m_R45_bit at hm
 exact zz
def F_R45_against_1 (cx:Cx) (_p:List Int) (_cv:Int) (tt:(List Int)) (ee:Exit) (Z:Env) (O:Sto):Prop:=match tt with
 | out=>ee=.exit 0/\EE cx (bw [(5,vO 5000)] [(5000,.row 1 3 (List.map (rI .i64) out))]) Z O
theorem l_R45_against_1 (cx:Cx) (hn:cx.n=33) (p:List Int) (cv:Int) {fu:Nat} {stt:Int×(List Int)} {tt:(List Int)} (hh:bh (b_R45_against_1 p cv) fu stt=some tt) {Z:Env} {O:Sto}
  (hE:bA (fun stt:Int×(List Int)=>match stt with | (jv,_out)=>[(0,.u (.one (dL p))),(1,vI cv),(5,vO 5000),(6,vI jv)]) (fun stt:Int×(List Int)=>match stt with | (_jv,out)=>[(5000,.row 1 3 (List.map (rI .i64) out))]) stt Z O):Swp Tryz.prog cx (.loop (bJ [1,1,0,1,0,0] (bv Tryz.f59))) Z O (F_R45_against_1 cx p cv tt):=by
 refine bC hE hh (F_R45_against_1 cx p cv) ?_
 rintro⟨jv,out⟩ r hm Z O hf
 simp only[Fits,bo,bn,and_true] at hf
 unfold b_R45_against_1 at hm
 dsimp only at hm
 refine ba ?_
 refine srs hn ?_
 simp -dsimp [hf]
 rcases bl hm with ⟨c1,hm⟩ | ⟨c1,hm⟩
 ·refine be (by simp -dsimp) c1 ?_
  refine bd (b9 ?_)
  obtain⟨aN,j8,hm⟩:=bnd hm
  refine scE [(0,.u (.one (dL p))),(1,vI cv),(5,vO 5000),(6,vI jv)] [(5000,.row 1 3 (List.map (rI .i64) aN))] ?_ fun Z O hf=>?_
  ·replace hm:=j8
   clear j8
   refine bc ?_
   refine srs hn ?_
   obtain⟨y,h2,hm⟩:=bnd hm
   simp -dsimp [hf,c1]
   refine bg (c_R45_bit cv jv y h2) (dkL hn) ?_
   simp -dsimp
   rcases bl hm with ⟨c3,hm⟩ | ⟨c3,hm⟩
   ·refine be (by simp -dsimp) c3 ?_
    refine sr1 hn ?_
    obtain⟨x,h4,hm⟩:=bnd hm
    obtain⟨l,h5,hm⟩:=bnd hm
    obtain⟨h5a,h5e⟩:=bp h5
    replace h5e:=h5e.symm
    subst h5e
    try simp only[List.length_cons,List.length_nil,Nat.zero_add] at h5a
    simp -dsimp [hf,c3,h4,h5a]
    refine bD ?_
    refine b9 ?_
    cases hm
    refine emv 24 5000 ?_
    exact zz
   ·refine bi (by simp -dsimp) c3 ?_
    refine sr1 hn ?_
    obtain⟨x,h6,hm⟩:=bnd hm
    obtain⟨l,h7,hm⟩:=bnd hm
    obtain⟨h7a,h7e⟩:=bp h7
    replace h7e:=h7e.symm
    subst h7e
    try simp only[List.length_cons,List.length_nil,Nat.zero_add] at h7a
    simp -dsimp [hf,c3,h6,h7a]
    refine bD ?_
    refine b9 ?_
    cases hm
    refine emv 31 5000 ?_
    exact zz
  ·clear j8
   exact zz
 ·exact zz
theorem c_R45_against (p:List Int) (cv:Int) (r:List Int) (hm:m_R45_against p cv=some r):PureCall Tryz.prog 59 [.u (.one (dL p)),vI cv] (.u (.one (dL r))):=by
 refine bK Tryz.func59 Tryz.ntmps59 fun cx hn=>?_
 unfold m_R45_against at hm
 refine srs hn ?_
 simp -dsimp
 refine srs hn ?_
 simp -dsimp
 refine ba ?_
 refine srs hn ?_
 simp -dsimp
 refine bc ?_
 obtain⟨out,g9,hm⟩:=bnd hm
 refine bu (l_R45_against_1 cx hn p cv g9) (by
   try dsimp only
   refine EE.step (Wk.own0 5 5000 1 3 (by simp -dsimp) (by decide)) ?_
   exact zz
 ) fun ee Z O xx=>?_
 exact zz
theorem da (al:Int) (az:List (List Int)) (l:List Int) (r:Unit) (hm:m_R45_clause_o_N al az l=some r):GFn Tryz.prog 58 [.u (.agg [dI al,.own 1000000]),.u (.one (dL l)),.u (.one (.d .nil))] [.row 1 26 (List.map (rS 1 (rI .i64)) az)] (.u (.agg [dI al,.own 1000001])) [none,some (.row 1 26 (List.map (rS 1 (rI .i64)) (az++[(([]++l)++[])])))]:=by
 refine bG bq _ Tryz.func58 rfl (by kernel_rfl) (by simp[Tryz.ntmps58]) (by simp) (by first | rfl | simp) (by first | rfl | simp) fun cx hn hk=>?_
 replace hn:cx.n=22:=hn.trans Tryz.ntmps58
 replace hk:cx.k=1:=hk
 unfold m_R45_clause_o_N at hm
 refine srs hn ?_
 simp -dsimp
 refine srs hn ?_
 simp -dsimp
 refine srs hn ?_
 obtain⟨l1,h1,hm⟩:=bnd hm
 obtain⟨h1a,h1e⟩:=bp h1
 replace h1e:=h1e.symm
 subst h1e
 try simp only[List.length_nil,Nat.zero_add] at h1a
 simp -dsimp [h1a]
 refine srs hn ?_
 obtain⟨l2,h2,hm⟩:=bnd hm
 obtain⟨h2a,h2e⟩:=bp h2
 replace h2e:=h2e.symm
 subst h2e
 try simp only[List.length_nil,List.nil_append] at h2a
 simp -dsimp [h1a]
 refine Swp.pre (Wk.frz 13 1 3 (List.map (rI .i64) (([]++l)++[])) (by simp -dsimp)) ?_
 refine cm bq mixed 6 7 7 0 [[0,1]] [[20]] [] none (by rw[hn]; kernel_rfl) bO ?_
 dsimp only [List.take,List.drop,cn,cp,cV,pk,List.cons_append,List.nil_append,List.flatten_cons,List.flatten_nil,bN,bM,List.append_nil]
 obtain⟨l3,h3,hm⟩:=bnd hm
 obtain⟨h3a,h3e⟩:=bp h3
 replace h3e:=h3e.symm
 subst h3e
 try simp only[List.length_cons,List.length_nil,Nat.zero_add,List.nil_append] at h3a
 simp -dsimp [h3a]
 refine bE ?_
 cases hm
 refine⟨.inr rfl,?_⟩
 refine emr 20 1000001 hk ?_
 exact zz
end Go.Proofs.YtnkmjlncmlmnbaaGreatDoor
