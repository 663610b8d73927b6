/- That the code does what the functions say (made by cc.py). -/
import Derived.Test.YtnkmjlncmlmnbaaGreatDoorWa12
namespace Go.Proofs.YtnkmjlncmlmnbaaGreatDoor
open Go.AM Go.Proofs
set_option maxRecDepth 100000
attribute [-simp] qlookup cb cL Ob.wipe Ob.ren Ob.frz1
def F_R13_Fix_2 (cx:Cx) (t:Tree) (k s i:Int) (l:List Node) (x:Node) (tt:(List Int)) (ee:Exit) (Z:Env) (O:Sto):Prop:=match tt with
 | l1=>ee=.exit 2/\EE cx (bw [(1,vI k),(2,vI s),(3,vX 3),(6,vX 6),(8,vO 5001),(9,vI i),(10,vX 10)] [(3,.box [dI t.States,dR2 t.Hood,dR1 t.Nodes]),(6,.box [dI 0,.d .nil,.d .nil]),(10,.box [dI x.Level,.own 5000]),(5000,.row 1 3 (List.map (rI .i64) l1)),(5001,.row 2 39 (List.map Node.row l))]) Z O
theorem l_R13_Fix_2 (cx:Cx) (hn:cx.n=102) (t:Tree) (k s i:Int) (l:List Node) (x:Node) {fu:Nat} {stt:Int×(List Int)} {tt:(List Int)} (hh:bh (b_R13_Fix_2 t k s i l x) fu stt=some tt) {Z:Env} {O:Sto}
  (hE:bA (fun stt:Int×(List Int)=>match stt with | (jv,_l1)=>[(1,vI k),(2,vI s),(3,vX 3),(6,vX 6),(8,vO 5001),(9,vI i),(10,vX 10),(11,vI jv)]) (fun stt:Int×(List Int)=>match stt with | (_jv,l1)=>[(3,.box [dI t.States,dR2 t.Hood,dR1 t.Nodes]),(6,.box [dI 0,.d .nil,.d .nil]),(10,.box [dI x.Level,.own 5000]),(5000,.row 1 3 (List.map (rI .i64) l1)),(5001,.row 2 39 (List.map Node.row l))]) stt Z O):Swp Tryz.prog cx (.loop (bJ [1,1,1,1,1,0,1,0,0,1,0,0,1,0,1,0,0] (bv Tryz.f67))) Z O (F_R13_Fix_2 cx t k s i l x tt):=by
 refine bC hE hh (F_R13_Fix_2 cx t k s i l x) ?_
 rintro⟨jv,l1⟩ r hm Z O hf
 simp only[Fits,bo,bn,and_true] at hf
 unfold b_R13_Fix_2 at hm
 dsimp only at hm
 refine ba ?_
 refine srs hn ?_
 simp -dsimp [hf]
 rcases bl hm with ⟨c9,hm⟩ | ⟨c9,hm⟩
 ·refine be (by simp -dsimp) c9 ?_
  refine bd (b9 ?_)
  obtain⟨l2,j17,hm⟩:=bnd hm
  refine scE [(1,vI k),(2,vI s),(3,vX 3),(6,vX 6),(8,vO 5001),(9,vI i),(10,vX 10),(11,vI jv)] [(3,.box [dI t.States,dR2 t.Hood,dR1 t.Nodes]),(6,.box [dI 0,.d .nil,.d .nil]),(10,.box [dI x.Level,.own 5000]),(5000,.row 1 3 (List.map (rI .i64) l2)),(5001,.row 2 39 (List.map Node.row l))] ?_ fun Z O hf=>?_
  ·replace hm:=j17
   clear j17
   refine bc ?_
   refine srs hn ?_
   simp -dsimp [hf,c9]
   rcases bl hm with ⟨c10,hm⟩ | ⟨c10,hm⟩
   ·refine be (by simp -dsimp) c10 ?_
    refine dl bq mixed 12 (by rw[hn]; kernel_rfl) ?_
    dsimp only [List.take,List.drop]
    obtain⟨x1,h11,hm⟩:=bnd hm
    obtain⟨x2,h12,hm⟩:=bnd hm
    obtain⟨l2,h13,hm⟩:=bnd hm
    obtain⟨h13a,h13e⟩:=bp h13
    replace h13e:=h13e.symm
    subst h13e
    try simp only[List.length_cons,List.length_nil,Nat.zero_add] at h13a
    simp -dsimp [hf,c10,h11,h12,h13a]
    refine bD ?_
    refine b9 ?_
    cases hm
    refine emv 75 5000 ?_
    exact zz
   ·refine bi (by simp -dsimp) c10 ?_
    refine dl bq mixed 12 (by rw[hn]; kernel_rfl) ?_
    dsimp only [List.take,List.drop]
    obtain⟨x1,h14,hm⟩:=bnd hm
    obtain⟨x2,h15,hm⟩:=bnd hm
    obtain⟨l2,h16,hm⟩:=bnd hm
    obtain⟨h16a,h16e⟩:=bp h16
    replace h16e:=h16e.symm
    subst h16e
    try simp only[List.length_cons,List.length_nil,Nat.zero_add] at h16a
    simp -dsimp [hf,c10,h14,h15,h16a]
    refine bD ?_
    refine b9 ?_
    cases hm
    refine emv 89 5000 ?_
    exact zz
  ·clear j17
   exact zz
 ·exact zz
def F_R13_Fix_1 (cx:Cx) (t:Tree) (_k _s:Int) (tt:(List Node)) (ee:Exit) (Z:Env) (O:Sto):Prop:=match tt with
 | l=>ee=.exit 0/\EE cx (bw [(3,vX 3),(6,vX 6),(8,vO 5001)] [(3,.box [dI t.States,dR2 t.Hood,dR1 t.Nodes]),(6,.box [dI 0,.d .nil,.d .nil]),(5001,.row 2 39 (List.map Node.row l))]) Z O
theorem l_R13_Fix_1 (cx:Cx) (hn:cx.n=102) (t:Tree) (k s:Int) {fu:Nat} {stt:Int×(List Node)} {tt:(List Node)} (hh:bh (b_R13_Fix_1 t k s) fu stt=some tt) {Z:Env} {O:Sto}
  (hE:bA (fun stt:Int×(List Node)=>match stt with | (i,_l)=>[(1,vI k),(2,vI s),(3,vX 3),(6,vX 6),(8,vO 5001),(9,vI i)]) (fun stt:Int×(List Node)=>match stt with | (_i,l)=>[(3,.box [dI t.States,dR2 t.Hood,dR1 t.Nodes]),(6,.box [dI 0,.d .nil,.d .nil]),(5001,.row 2 39 (List.map Node.row l))]) stt Z O):Swp Tryz.prog cx (.loop (bJ [1,1,1,1,1,0,1,0,0] (bv Tryz.f67))) Z O (F_R13_Fix_1 cx t k s tt):=by
 refine bC hE hh (F_R13_Fix_1 cx t k s) ?_
 rintro⟨i,l⟩ r hm Z O hf
 simp only[Fits,bo,bn,and_true] at hf
 unfold b_R13_Fix_1 at hm
 dsimp only at hm
 refine ba ?_
 refine srs hn ?_
 simp -dsimp [hf]
 rcases bl hm with ⟨c7,hm⟩ | ⟨c7,hm⟩
 ·refine be (by simp -dsimp) c7 ?_
  refine bd (b9 (ba (bc ?_)))
  refine srs hn ?_
  obtain⟨x,h8,hm⟩:=bnd hm
  simp -dsimp [hf,c7,h8]
  refine ba ?_
  refine srs hn ?_
  simp -dsimp
  refine bc ?_
  obtain⟨l1,g18,hm⟩:=bnd hm
  refine bu (l_R13_Fix_2 cx hn t k s i l x g18) (by
    try dsimp only
    refine EE.step (Wk.own0b 10 1 5000 1 3 [dI x.Level,.d .nil] (by simp -dsimp) (by rfl) (by decide) (by decide)) ?_
    exact zz
  ) fun ee Z O xx=>?_
  unfold F_R13_Fix_2 at xx
  dsimp only at xx
  obtain⟨rfl,xx⟩:=xx
  refine bz ?_
  refine b9 ?_
  refine see xx fun Z O hf=>?_
  simp only[Fits,bo,bn,and_true] at hf
  refine Swp.pre (Wk.frz 5000 1 3 (List.map (rI .i64) l1) (by simp -dsimp [hf])) ?_
  refine sr1 hn ?_
  obtain⟨l2,h19,hm⟩:=bnd hm
  obtain⟨h19a,h19e⟩:=bp h19
  replace h19e:=h19e.symm
  subst h19e
  try simp only[List.length_cons,List.length_nil,Nat.zero_add] at h19a
  simp -dsimp [hf,h19a]
  refine bD ?_
  refine b9 ?_
  refine sr1 hn ?_
  simp -dsimp [hf]
  cases hm
  refine bI ?_
  refine emv 94 5001 ?_
  exact zz
 ·exact zz
theorem c_R13_Fix (t:Tree) (k s:Int) (r:Tree×Int) (hm:m_R13_Fix t k s=some r):PureCall Tryz.prog 67 [.u (.agg [dI t.States,dR2 t.Hood,dR1 t.Nodes]),vI k,vI s] (.tup [.agg [dI r.1.States,dR2 r.1.Hood,dR1 r.1.Nodes],.one (dI r.2)]):=by
 refine bK Tryz.func67 Tryz.ntmps67 fun cx hn=>?_
 unfold m_R13_Fix at hm
 refine srs hn ?_
 simp -dsimp
 refine ba ?_
 refine srs hn ?_
 obtain⟨y,h1,hm⟩:=bnd hm
 simp -dsimp
 refine bg (gu t y h1) (dkL hn) ?_
 simp -dsimp
 rcases bl hm with ⟨c2,hm⟩ | ⟨c2,hm⟩
 ·exact zz
 ·refine bi (by simp -dsimp) c2 ?_
  refine bd (b9 (ba ?_))
  obtain⟨a,j23,hm⟩:=bnd hm
  refine scE [(1,vI k),(2,vI s),(3,vX 3),(6,vX 6),(24,vT a)] [(3,.box [dI t.States,dR2 t.Hood,dR1 t.Nodes]),(6,.box [dI 0,.d .nil,.d .nil])] ?_ fun Z O hf=>?_
  ·replace hm:=j23
   clear j23
   exact zz
  ·clear j23
   simp only[Fits,bo,bn,and_true] at hf
   rcases bl hm with ⟨c4,hm⟩ | ⟨c4,hm⟩
   ·exact zz
   ·refine bi (by simp -dsimp [hf]) c4 ?_
    refine bd (b9 (ba ?_))
    obtain⟨a1,j22,hm⟩:=bnd hm
    refine scE [(1,vI k),(2,vI s),(3,vX 3),(6,vX 6),(33,vT a1)] [(3,.box [dI t.States,dR2 t.Hood,dR1 t.Nodes]),(6,.box [dI 0,.d .nil,.d .nil])] ?_ fun Z O hf=>?_
    ·replace hm:=j22
     clear j22
     exact zz
    ·clear j22
     simp only[Fits,bo,bn,and_true] at hf
     rcases bl hm with ⟨c6,hm⟩ | ⟨c6,hm⟩
     ·exact zz
     ·refine bi (by simp -dsimp [hf]) c6 ?_
      refine bd (b9 ?_)
      refine srs hn ?_
      simp -dsimp
      refine ba ?_
      refine srs hn ?_
      simp -dsimp
      refine bc ?_
      obtain⟨l,g20,hm⟩:=bnd hm
      refine bu (l_R13_Fix_1 cx hn t k s g20) (by
        try dsimp only
        refine EE.step (Wk.own0 8 5001 2 39 (by simp -dsimp) (by decide)) ?_
        exact zz
      ) fun ee Z O xx=>?_
      unfold F_R13_Fix_1 at xx
      dsimp only at xx
      obtain⟨rfl,xx⟩:=xx
      refine bz ?_
      refine b9 ?_
      refine see xx fun Z O hf=>?_
      simp only[Fits,bo,bn,and_true] at hf
      refine Swp.pre (Wk.frz 5001 2 39 (List.map Node.row l) (by simp -dsimp [hf])) ?_
      refine srs hn ?_
      obtain⟨y1,h21,hm⟩:=bnd hm
      simp -dsimp [hf]
      refine bg (c_R13_Reduce (⟨t.States,t.Hood,l⟩:Tree) y1 h21) (dkL hn) ?_
      exact zz
def F_R45_equal_1 (cx:Cx) (_l:List Int) (tt:Bool ⊕ Unit) (ee:Exit) (Z:Env) (O:Sto):Prop:=match tt with
 | .inl r=>ee=.ret/\EE cx (fun Z O=>∃ v,dd tb Z O Tryz.f98.results.toList=some v/\(v.frz O).free=true/\(v.frz O).wk (vT r)) Z O
 | .inr _u=>ee=.exit 0/\EE cx (bw [] []) Z O
theorem l_R45_equal_1 (cx:Cx) (hn:cx.n=18) (l:List Int) {fu:Nat} {stt:Int} {tt:Bool ⊕ Unit} (hh:bh (b_R45_equal_1 l) fu stt=some tt) {Z:Env} {O:Sto}
  (hE:bA (fun i:Int=>[(0,.u (.one (dL l))),(3,vI i)]) (fun _i:Int=>[]) stt Z O):Swp Tryz.prog cx (.loop (bJ [1,0,1,0,0] (bv Tryz.f98))) Z O (F_R45_equal_1 cx l tt):=by
 refine bC hE hh (F_R45_equal_1 cx l) ?_
 rintro i r hm Z O hf
 simp only[Fits,bo,bn,and_true] at hf
 unfold b_R45_equal_1 at hm
 exact zz
theorem c_R45_equal (l:List Int) (r:Bool) (hm:m_R45_equal l=some r):PureCall Tryz.prog 98 [.u (.one (dL l))] (vT r):=by
 refine bK Tryz.func98 Tryz.ntmps98 fun cx hn=>?_
 unfold m_R45_equal at hm
 refine srs hn ?_
 simp -dsimp
 refine ba ?_
 refine srs hn ?_
 simp -dsimp
 refine bc ?_
 obtain⟨o_,g5,hm⟩:=bnd hm
 refine bu (l_R45_equal_1 cx hn l g5) (by
   try dsimp only
   exact eeh
 ) fun ee Z O xx=>?_
 rcases o_ with r | _u
 ·exact zz
 ·exact zz
theorem el (al:Int) (az:List (List Int)) (l more:List Int) (r:Unit) (hm:m_R45_clause_o al az l more=some r):GFn Tryz.prog 58 [.u (.agg [dI al,.own 1000000]),.u (.one (dL l)),.u (.one (dL more))] [.row 1 26 (List.map (rS 1 (rI .i64)) az)] (.u (.agg [dI al,.own 1000001])) [none,some (.row 1 26 (List.map (rS 1 (rI .i64)) (az++[(([]++l)++more)])))]:=by
 refine bG bq _ Tryz.func58 rfl (by kernel_rfl) (by simp[Tryz.ntmps58]) (by simp) (by first | rfl | simp) (by first | rfl | simp) fun cx hn hk=>?_
 replace hn:cx.n=22:=hn.trans Tryz.ntmps58
 replace hk:cx.k=1:=hk
 unfold m_R45_clause_o at hm
 refine srs hn ?_
 simp -dsimp
 refine srs hn ?_
 simp -dsimp
 refine srs hn ?_
 obtain⟨l1,h1,hm⟩:=bnd hm
 obtain⟨h1a,h1e⟩:=bp h1
 replace h1e:=h1e.symm
 subst h1e
 try simp only[List.length_nil,Nat.zero_add] at h1a
 simp -dsimp [h1a]
 refine srs hn ?_
 obtain⟨l2,h2,hm⟩:=bnd hm
 obtain⟨h2a,h2e⟩:=bp h2
 replace h2e:=h2e.symm
 subst h2e
 try simp only[List.nil_append] at h2a
 simp -dsimp [h2a]
 refine Swp.pre (Wk.frz 13 1 3 (List.map (rI .i64) (([]++l)++more)) (by simp -dsimp)) ?_
 refine cm bq mixed 6 7 7 0 [[0,1]] [[20]] [] none (by rw[hn]; kernel_rfl) bO ?_
 dsimp only [List.take,List.drop,cn,cp,cV,pk,List.cons_append,List.nil_append,List.flatten_cons,List.flatten_nil,bN,bM,List.append_nil]
 obtain⟨l3,h3,hm⟩:=bnd hm
 obtain⟨h3a,h3e⟩:=bp h3
 replace h3e:=h3e.symm
 subst h3e
 try simp only[List.length_cons,List.length_nil,Nat.zero_add,List.nil_append] at h3a
 simp -dsimp [h3a]
 refine bE ?_
 cases hm
 refine⟨.inr rfl,?_⟩
 refine emr 20 1000001 hk ?_
 exact zz
end Go.Proofs.YtnkmjlncmlmnbaaGreatDoor
namespace Go.Proofs.YtnkmjlncmlmnbaaGreatDoor
open Go.AM Go.Proofs
set_option maxRecDepth 100000
attribute [-simp] qlookup cb cL Ob.wipe Ob.ren Ob.frz1
def eI (cx:Cx) (t:Tree) (in_:List Bp) (y i ay:Int) (l:List (List Int)) (of_:List Bp) (x:Node) (tt:(List Bp)) (ee:Exit) (Z:Env) (O:Sto):Prop:=match tt with
 | kids=>ee=.exit 2/\EE cx (bw [(2,vO 1000001),(3,vX 3),(4,vX 4),(6,vX 6),(7,vX 7),(8,vI y),(9,vO 5007),(10,vI i),(11,vX 11),(12,vO 5000)] [(3,.box [dI ay,.own 5006]),(4,.box [dI t.States,dR2 t.Hood,dR1 t.Nodes]),(6,.box [dI 0,.d .nil]),(7,.box [dI 0,.d .nil]),(11,.box [dI x.Level,dL x.Next]),(5000,.row 2 83 (List.map Bp.row kids)),(5006,.row 1 26 (List.map (rS 1 (rI .i64)) l)),(5007,.row 2 83 (List.map Bp.row of_)),(1000001,.row 2 83 (List.map Bp.row in_))]) Z O
theorem l_R45_tree_o_o_2 (cx:Cx) (hn:cx.n=204) (_hk:cx.k=2) (t:Tree) (in_:List Bp) (y i ay:Int) (l:List (List Int)) (of_:List Bp) (x:Node) {fu:Nat} {stt:Int×(List Bp)} {tt:(List Bp)} (hh:bh (b_R45_tree_o_o_2 t in_ y i ay l of_ x) fu stt=some tt) {Z:Env} {O:Sto}
  (hE:bA (fun stt:Int×(List Bp)=>match stt with | (s,_kids)=>[(2,vO 1000001),(3,vX 3),(4,vX 4),(6,vX 6),(7,vX 7),(8,vI y),(9,vO 5007),(10,vI i),(11,vX 11),(12,vO 5000),(13,vI s)]) (fun stt:Int×(List Bp)=>match stt with | (_s,kids)=>[(3,.box [dI ay,.own 5006]),(4,.box [dI t.States,dR2 t.Hood,dR1 t.Nodes]),(6,.box [dI 0,.d .nil]),(7,.box [dI 0,.d .nil]),(11,.box [dI x.Level,dL x.Next]),(5000,.row 2 83 (List.map Bp.row kids)),(5006,.row 1 26 (List.map (rS 1 (rI .i64)) l)),(5007,.row 2 83 (List.map Bp.row of_)),(1000001,.row 2 83 (List.map Bp.row in_))]) stt Z O):Swp Tryz.prog cx (.loop (bJ [1,1,1,0,1,0,0,1,0,0,1,1,0,1,0,0] (bv Tryz.f68))) Z O (eI cx t in_ y i ay l of_ x tt):=by
 refine bC hE hh (eI cx t in_ y i ay l of_ x) ?_
 rintro⟨s,kids⟩ r hm Z O hf
 simp only[Fits,bo,bn,and_true] at hf
 unfold b_R45_tree_o_o_2 at hm
 dsimp only at hm
 refine ba ?_
 refine srs hn ?_
 simp -dsimp [hf]
 rcases bl hm with ⟨c6,hm⟩ | ⟨c6,hm⟩
 ·refine be (by simp -dsimp) c6 ?_
  refine bd (b9 ?_)
  obtain⟨kids1,j13,hm⟩:=bnd hm
  refine scE [(2,vO 1000001),(3,vX 3),(4,vX 4),(6,vX 6),(7,vX 7),(8,vI y),(9,vO 5007),(10,vI i),(11,vX 11),(12,vO 5000),(13,vI s)] [(3,.box [dI ay,.own 5006]),(4,.box [dI t.States,dR2 t.Hood,dR1 t.Nodes]),(6,.box [dI 0,.d .nil]),(7,.box [dI 0,.d .nil]),(11,.box [dI x.Level,dL x.Next]),(5000,.row 2 83 (List.map Bp.row kids1)),(5006,.row 1 26 (List.map (rS 1 (rI .i64)) l)),(5007,.row 2 83 (List.map Bp.row of_)),(1000001,.row 2 83 (List.map Bp.row in_))] ?_ fun Z O hf=>?_
  ·replace hm:=j13
   clear j13
   refine bc ?_
   refine srs hn ?_
   simp -dsimp [hf,c6]
   rcases bl hm with ⟨c7,hm⟩ | ⟨c7,hm⟩
   ·refine be (by simp -dsimp) c7 ?_
    refine sr1 hn ?_
    obtain⟨x1,h8,hm⟩:=bnd hm
    obtain⟨l1,h9,hm⟩:=bnd hm
    obtain⟨h9a,h9e⟩:=bp h9
    replace h9e:=h9e.symm
    subst h9e
    try simp only[List.length_cons,List.length_nil,Nat.zero_add] at h9a
    simp -dsimp [hf,c7,h8,h9a]
    refine bD ?_
    refine b9 ?_
    cases hm
    refine emv 55 5000 ?_
    exact zz
   ·refine bi (by simp -dsimp) c7 ?_
    refine sr1 hn ?_
    obtain⟨x1,h10,hm⟩:=bnd hm
    obtain⟨x2,h11,hm⟩:=bnd hm
    obtain⟨l1,h12,hm⟩:=bnd hm
    obtain⟨h12a,h12e⟩:=bp h12
    replace h12e:=h12e.symm
    subst h12e
    try simp only[List.length_cons,List.length_nil,Nat.zero_add] at h12a
    simp -dsimp [hf,c7,h10,h11,bF h11,h12a]
    refine bD ?_
    refine b9 ?_
    cases hm
    refine emv 66 5000 ?_
    exact zz
  ·clear j13
   exact zz
 ·exact zz
def eH (cx:Cx) (t:Tree) (in_:List Bp) (y i:Int) (l:List (List Int)) (of_:List Bp) (x:Node) (kids:List Bp) (tt:(Int×(List Int))) (ee:Exit) (Z:Env) (O:Sto):Prop:=match tt with
 | (aB,l1)=>ee=.exit 4/\EE cx (bw [(2,vO 1000001),(3,vX 3),(4,vX 4),(6,vX 6),(7,vX 7),(8,vI y),(9,vO 5007),(10,vI i),(11,vX 11),(12,vO 5000),(14,vX 14)] [(3,.box [dI aB,.own 5006]),(4,.box [dI t.States,dR2 t.Hood,dR1 t.Nodes]),(6,.box [dI 0,.d .nil]),(7,.box [dI 0,.d .nil]),(11,.box [dI x.Level,dL x.Next]),(14,.box [dI 0,.own 5001]),(5000,.row 2 83 (List.map Bp.row kids)),(5001,.row 1 3 (List.map (rI .i64) l1)),(5006,.row 1 26 (List.map (rS 1 (rI .i64)) l)),(5007,.row 2 83 (List.map Bp.row of_)),(1000001,.row 2 83 (List.map Bp.row in_))]) Z O
theorem l_R45_tree_o_o_3 (cx:Cx) (hn:cx.n=204) (_hk:cx.k=2) (t:Tree) (in_:List Bp) (y i:Int) (l:List (List Int)) (of_:List Bp) (x:Node) (kids:List Bp) {fu:Nat} {stt:Int×Int×(List Int)} {tt:(Int×(List Int))} (hh:bh (b_R45_tree_o_o_3 t in_ y i l of_ x kids) fu stt=some tt) {Z:Env} {O:Sto}
  (hE:bA (fun stt:Int×Int×(List Int)=>match stt with | (k,_aB,_l1)=>[(2,vO 1000001),(3,vX 3),(4,vX 4),(6,vX 6),(7,vX 7),(8,vI y),(9,vO 5007),(10,vI i),(11,vX 11),(12,vO 5000),(14,vX 14),(15,vI k)]) (fun stt:Int×Int×(List Int)=>match stt with | (_k,aB,l1)=>[(3,.box [dI aB,.own 5006]),(4,.box [dI t.States,dR2 t.Hood,dR1 t.Nodes]),(6,.box [dI 0,.d .nil]),(7,.box [dI 0,.d .nil]),(11,.box [dI x.Level,dL x.Next]),(14,.box [dI 0,.own 5001]),(5000,.row 2 83 (List.map Bp.row kids)),(5001,.row 1 3 (List.map (rI .i64) l1)),(5006,.row 1 26 (List.map (rS 1 (rI .i64)) l)),(5007,.row 2 83 (List.map Bp.row of_)),(1000001,.row 2 83 (List.map Bp.row in_))]) stt Z O):Swp Tryz.prog cx (.loop (bJ [1,1,1,0,1,0,0,1,0,0,1,1,1,1,1,0,1,0,0] (bv Tryz.f68))) Z O (eH cx t in_ y i l of_ x kids tt):=by
 refine bC hE hh (eH cx t in_ y i l of_ x kids) ?_
 rintro⟨k,aB,l1⟩ r hm Z O hf
 simp only[Fits,bo,bn,and_true] at hf
 unfold b_R45_tree_o_o_3 at hm
 dsimp only at hm
 refine ba ?_
 refine srs hn ?_
 simp -dsimp [hf]
 rcases bl hm with ⟨c19,hm⟩ | ⟨c19,hm⟩
 ·refine be (by simp -dsimp) c19 ?_
  refine bd (b9 (ba (bc ?_)))
  refine srs hn ?_
  simp -dsimp [hf,c19]
  refine sr1 hn ?_
  obtain⟨l2,h20,hm⟩:=bnd hm
  obtain⟨h20a,h20e⟩:=bp h20
  replace h20e:=h20e.symm
  subst h20e
  try simp only[List.length_cons,List.length_nil,Nat.zero_add] at h20a
  simp -dsimp [hf,h20a]
  refine bD ?_
  refine b9 ?_
  refine sr1 hn ?_
  simp -dsimp [hf]
  cases hm
  refine bI ?_
  refine emv 91 5001 ?_
  exact zz
 ·exact zz
def gZ (cx:Cx) (t:Tree) (in_:List Bp) (y i:Int) (of_:List Bp) (x:Node) (kids:List Bp) (aB:Int) (l1:List Int) (s:Int) (_y2:List Int) (tt:(List (List Int))) (ee:Exit) (Z:Env) (O:Sto):Prop:=match tt with
 | l4=>ee=.exit 8/\EE cx (bw [(2,vO 1000001),(3,vX 3),(4,vX 4),(6,vX 6),(7,vX 7),(8,vI y),(9,vO 96),(10,vI i),(11,vX 11),(12,vO 5000),(14,vX 14),(16,vI s)] [(3,.box [dI aB,.own 5006]),(4,.box [dI t.States,dR2 t.Hood,dR1 t.Nodes]),(6,.box [dI 0,.d .nil]),(7,.box [dI 0,.d .nil]),(11,.box [dI x.Level,dL x.Next]),(14,.box [dI 0,dL l1]),(96,.row 2 83 (List.map Bp.row (of_++[(⟨0,l1⟩:Bp)]))),(5000,.row 2 83 (List.map Bp.row kids)),(5006,.row 1 26 (List.map (rS 1 (rI .i64)) l4)),(1000001,.row 2 83 (List.map Bp.row in_))]) Z O
theorem l_R45_tree_o_o_5 (cx:Cx) (hn:cx.n=204) (_hk:cx.k=2) (t:Tree) (in_:List Bp) (y i:Int) (of_:List Bp) (x:Node) (kids:List Bp) (aB:Int) (l1:List Int) (s:Int) (y2:List Int) {fu:Nat} {stt:Int×(List (List Int))} {tt:(List (List Int))} (hh:bh (b_R45_tree_o_o_5 t in_ y i of_ x kids aB l1 s y2) fu stt=some tt) {Z:Env} {O:Sto}
  (hE:bA (fun stt:Int×(List (List Int))=>match stt with | (k,_l4)=>[(2,vO 1000001),(3,vX 3),(4,vX 4),(6,vX 6),(7,vX 7),(8,vI y),(9,vO 96),(10,vI i),(11,vX 11),(12,vO 5000),(14,vX 14),(16,vI s),(17,.u (.one (dL y2))),(18,vI k)]) (fun stt:Int×(List (List Int))=>match stt with | (_k,l4)=>[(3,.box [dI aB,.own 5006]),(4,.box [dI t.States,dR2 t.Hood,dR1 t.Nodes]),(6,.box [dI 0,.d .nil]),(7,.box [dI 0,.d .nil]),(11,.box [dI x.Level,dL x.Next]),(14,.box [dI 0,dL l1]),(96,.row 2 83 (List.map Bp.row (of_++[(⟨0,l1⟩:Bp)]))),(5000,.row 2 83 (List.map Bp.row kids)),(5006,.row 1 26 (List.map (rS 1 (rI .i64)) l4)),(1000001,.row 2 83 (List.map Bp.row in_))]) stt Z O):Swp Tryz.prog cx (.loop (bJ [1,1,1,0,1,0,0,1,0,0,1,1,1,1,1,1,1,1,0,0,1,0,0,1,1,0,0] (bv Tryz.f68))) Z O (gZ cx t in_ y i of_ x kids aB l1 s y2 tt):=by
 refine bC hE hh (gZ cx t in_ y i of_ x kids aB l1 s y2) ?_
 rintro⟨k,l4⟩ r hm Z O hf
 simp only[Fits,bo,bn,and_true] at hf
 unfold b_R45_tree_o_o_5 at hm
 dsimp only at hm
 refine ba ?_
 refine srs hn ?_
 simp -dsimp [hf]
 rcases bl hm with ⟨c26,hm⟩ | ⟨c26,hm⟩
 ·refine be (by simp -dsimp) c26 ?_
  refine bd (b9 ?_)
  obtain⟨l5,j39,hm⟩:=bnd hm
  refine scE [(2,vO 1000001),(3,vX 3),(4,vX 4),(6,vX 6),(7,vX 7),(8,vI y),(9,vO 96),(10,vI i),(11,vX 11),(12,vO 5000),(14,vX 14),(16,vI s),(17,.u (.one (dL y2))),(18,vI k)] [(3,.box [dI aB,.own 5006]),(4,.box [dI t.States,dR2 t.Hood,dR1 t.Nodes]),(6,.box [dI 0,.d .nil]),(7,.box [dI 0,.d .nil]),(11,.box [dI x.Level,dL x.Next]),(14,.box [dI 0,dL l1]),(96,.row 2 83 (List.map Bp.row (of_++[(⟨0,l1⟩:Bp)]))),(5000,.row 2 83 (List.map Bp.row kids)),(5006,.row 1 26 (List.map (rS 1 (rI .i64)) l5)),(1000001,.row 2 83 (List.map Bp.row in_))] ?_ fun Z O hf=>?_
  ·replace hm:=j39
   clear j39
   refine bc (bc ?_)
   refine srs hn ?_
   obtain⟨x2,h27,hm⟩:=bnd hm
   simp -dsimp [hf,c26,h27,bF h27]
   rcases bl hm with ⟨c28,hm⟩ | ⟨c28,hm⟩
   ·refine be (by simp -dsimp) c28 ?_
    refine fg bq mixed 17 (by rw[hn]; kernel_rfl) ?_
    dsimp only [List.take,List.drop]
    obtain⟨x3,h29,hm⟩:=bnd hm
    obtain⟨x4,h30,hm⟩:=bnd hm
    obtain⟨y3,h31,hm⟩:=bnd hm
    simp -dsimp [hf,h27,bF h27,c28,h29,h30]
    refine clg (el aB l4 y2 [(bH .i64 x3),x4] y3 h31) [5006] [5002] (by simp -dsimp [hf]) (dkL hn) ?_
    simp -dsimp [hf]
    refine dl bq mixed 17 (by rw[hn]; kernel_rfl) ?_
    dsimp only [List.take,List.drop]
    obtain⟨y4,h32,hm⟩:=bnd hm
    simp -dsimp [hf,h27,bF h27,h29,h30]
    refine clg (el aB (l4++[(([]++y2)++[(bH .i64 x3),x4])]) y2 [x3,(bH .i64 x4)] y4 h32) [5002] [5003] (by simp -dsimp) (dkL hn) ?_
    simp -dsimp [hf]
    refine bD ?_
    refine bD ?_
    refine b9 ?_
    cases hm
    refine emv 5003 5006 ?_
    exact zz
   ·refine bi (by simp -dsimp) c28 ?_
    refine srs hn ?_
    obtain⟨y3,h33,hm⟩:=bnd hm
    simp -dsimp [hf,h27,bF h27,c28]
    refine bg (c_R45_bit x2.State k y3 h33) (dkL hn) ?_
    simp -dsimp
    rcases bl hm with ⟨c34,hm⟩ | ⟨c34,hm⟩
    ·refine be (by simp -dsimp) c34 ?_
     refine dl bq mixed 8 (by rw[hn]; kernel_rfl) ?_
     dsimp only [List.take,List.drop]
     obtain⟨x3,h35,hm⟩:=bnd hm
     obtain⟨y4,h36,hm⟩:=bnd hm
     simp -dsimp [hf,c34,h35]
     refine clg (el aB l4 y2 [x3] y4 h36) [5006] [5004] (by simp -dsimp [hf]) (dkL hn) ?_
     simp -dsimp [hf]
     refine bD ?_
     refine bD ?_
     refine b9 ?_
     cases hm
     refine emv 5004 5006 ?_
     exact zz
    ·refine bi (by simp -dsimp) c34 ?_
     refine dl bq mixed 9 (by rw[hn]; kernel_rfl) ?_
     dsimp only [List.take,List.drop]
     obtain⟨x3,h37,hm⟩:=bnd hm
     obtain⟨y4,h38,hm⟩:=bnd hm
     simp -dsimp [hf,c34,h37]
     refine clg (el aB l4 y2 [(bH .i64 x3)] y4 h38) [5006] [5005] (by simp -dsimp [hf]) (dkL hn) ?_
     simp -dsimp [hf]
     refine bD ?_
     refine bD ?_
     refine b9 ?_
     cases hm
     refine emv 5005 5006 ?_
     exact zz
  ·clear j39
   exact zz
 ·exact zz
def ey (cx:Cx) (t:Tree) (in_:List Bp) (y i:Int) (of_:List Bp) (_x:Node) (_kids:List Bp) (aB:Int) (l1:List Int) (tt:(List (List Int))) (ee:Exit) (Z:Env) (O:Sto):Prop:=match tt with
 | l3=>ee=.exit 6/\EE cx (bw [(2,vO 1000001),(3,vX 3),(4,vX 4),(6,vX 6),(7,vX 7),(8,vI y),(9,vO 96),(10,vI i)] [(3,.box [dI aB,.own 5006]),(4,.box [dI t.States,dR2 t.Hood,dR1 t.Nodes]),(6,.box [dI 0,.d .nil]),(7,.box [dI 0,.d .nil]),(96,.row 2 83 (List.map Bp.row (of_++[(⟨0,l1⟩:Bp)]))),(5006,.row 1 26 (List.map (rS 1 (rI .i64)) l3)),(1000001,.row 2 83 (List.map Bp.row in_))]) Z O
theorem l_R45_tree_o_o_4 (cx:Cx) (hn:cx.n=204) (hk:cx.k=2) (t:Tree) (in_:List Bp) (y i:Int) (of_:List Bp) (x:Node) (kids:List Bp) (aB:Int) (l1:List Int) {fu:Nat} {stt:Int×(List (List Int))} {tt:(List (List Int))} (hh:bh (b_R45_tree_o_o_4 t in_ y i of_ x kids aB l1) fu stt=some tt) {Z:Env} {O:Sto}
  (hE:bA (fun stt:Int×(List (List Int))=>match stt with | (s,_l3)=>[(2,vO 1000001),(3,vX 3),(4,vX 4),(6,vX 6),(7,vX 7),(8,vI y),(9,vO 96),(10,vI i),(11,vX 11),(12,vO 5000),(14,vX 14),(16,vI s)]) (fun stt:Int×(List (List Int))=>match stt with | (_s,l3)=>[(3,.box [dI aB,.own 5006]),(4,.box [dI t.States,dR2 t.Hood,dR1 t.Nodes]),(6,.box [dI 0,.d .nil]),(7,.box [dI 0,.d .nil]),(11,.box [dI x.Level,dL x.Next]),(14,.box [dI 0,dL l1]),(96,.row 2 83 (List.map Bp.row (of_++[(⟨0,l1⟩:Bp)]))),(5000,.row 2 83 (List.map Bp.row kids)),(5006,.row 1 26 (List.map (rS 1 (rI .i64)) l3)),(1000001,.row 2 83 (List.map Bp.row in_))]) stt Z O):Swp Tryz.prog cx (.loop (bJ [1,1,1,0,1,0,0,1,0,0,1,1,1,1,1,1,1,1,0,0] (bv Tryz.f68))) Z O (ey cx t in_ y i of_ x kids aB l1 tt):=by
 refine bC hE hh (ey cx t in_ y i of_ x kids aB l1) ?_
 rintro⟨s,l3⟩ r hm Z O hf
 simp only[Fits,bo,bn,and_true] at hf
 unfold b_R45_tree_o_o_4 at hm
 dsimp only at hm
 refine ba ?_
 refine srs hn ?_
 simp -dsimp [hf]
 rcases bl hm with ⟨c23,hm⟩ | ⟨c23,hm⟩
 ·refine be (by simp -dsimp) c23 ?_
  refine bd (b9 (ba (bc ?_)))
  refine srs hn ?_
  obtain⟨x1,h24,hm⟩:=bnd hm
  obtain⟨y2,h25,hm⟩:=bnd hm
  simp -dsimp [hf,c23,h24,bF h24]
  refine bg (c_R45_against x1.Vars s y2 h25) (dkL hn) ?_
  simp -dsimp
  refine srs hn ?_
  simp -dsimp
  refine bc ?_
  obtain⟨l4,g40,hm⟩:=bnd hm
  refine bu (l_R45_tree_o_o_5 cx hn hk t in_ y i of_ x kids aB l1 s y2 g40) (by
    try dsimp only
    refine EE.here ?_
    exact zz
  ) fun ee Z O xx=>?_
  exact zz
 ·exact zz
def eD (cx:Cx) (_t:Tree) (in_:List Bp) (_y:Int) (tt:(Int×(List (List Int))×(List Bp))) (ee:Exit) (Z:Env) (O:Sto):Prop:=match tt with
 | (ay,l,of_)=>ee=.exit 0/\EE cx (bw [(3,vX 3),(6,vX 6),(7,vX 7),(9,vO 5007)] [(3,.box [dI ay,.own 5006]),(6,.box [dI 0,.d .nil]),(7,.box [dI 0,.d .nil]),(5006,.row 1 26 (List.map (rS 1 (rI .i64)) l)),(5007,.row 2 83 (List.map Bp.row of_)),(1000001,.row 2 83 (List.map Bp.row in_))]) Z O
theorem l_R45_tree_o_o_1 (cx:Cx) (hn:cx.n=204) (hk:cx.k=2) (t:Tree) (in_:List Bp) (y:Int) {fu:Nat} {stt:Int×Int×(List (List Int))×(List Bp)} {tt:(Int×(List (List Int))×(List Bp))} (hh:bh (b_R45_tree_o_o_1 t in_ y) fu stt=some tt) {Z:Env} {O:Sto}
  (hE:bA (fun stt:Int×Int×(List (List Int))×(List Bp)=>match stt with | (i,_ay,_l,_of_)=>[(2,vO 1000001),(3,vX 3),(4,vX 4),(6,vX 6),(7,vX 7),(8,vI y),(9,vO 5007),(10,vI i)]) (fun stt:Int×Int×(List (List Int))×(List Bp)=>match stt with | (_i,ay,l,of_)=>[(3,.box [dI ay,.own 5006]),(4,.box [dI t.States,dR2 t.Hood,dR1 t.Nodes]),(6,.box [dI 0,.d .nil]),(7,.box [dI 0,.d .nil]),(5006,.row 1 26 (List.map (rS 1 (rI .i64)) l)),(5007,.row 2 83 (List.map Bp.row of_)),(1000001,.row 2 83 (List.map Bp.row in_))]) stt Z O):Swp Tryz.prog cx (.loop (bJ [1,1,1,0,1,0,0] (bv Tryz.f68))) Z O (eD cx t in_ y tt):=by
 refine bC hE hh (eD cx t in_ y) ?_
 rintro⟨i,ay,l,of_⟩ r hm Z O hf
 simp only[Fits,bo,bn,and_true] at hf
 unfold b_R45_tree_o_o_1 at hm
 dsimp only at hm
 refine ba ?_
 obtain⟨a,j42,hm⟩:=bnd hm
 refine scE [(2,vO 1000001),(3,vX 3),(4,vX 4),(6,vX 6),(7,vX 7),(8,vI y),(9,vO 5007),(10,vI i),(30,vT a)] [(3,.box [dI ay,.own 5006]),(4,.box [dI t.States,dR2 t.Hood,dR1 t.Nodes]),(6,.box [dI 0,.d .nil]),(7,.box [dI 0,.d .nil]),(5006,.row 1 26 (List.map (rS 1 (rI .i64)) l)),(5007,.row 2 83 (List.map Bp.row of_)),(1000001,.row 2 83 (List.map Bp.row in_))] ?_ fun Z O hf=>?_
 ·replace hm:=j42
  clear j42
  refine sr1 hn ?_
  rcases bl hm with ⟨c2,hm⟩ | ⟨c2,hm⟩
  ·obtain⟨y1,h3,hm⟩:=bnd hm
   simp -dsimp [hf,c2]
   refine dj (us':=[.u (.agg [dI ((⟨ay,l⟩:Bm).Vars),.d (.sl 1 (List.map (rS 1 (rI .i64)) ((⟨ay,l⟩:Bm).Clauses)))])]) (eF (⟨ay,l⟩:Bm) y1 h3) (by simp -dsimp [hf]) rfl (dkL hn) ?_
   exact zz
  ·exact zz
 ·clear j42
  simp only[Fits,bo,bn,and_true] at hf
  rcases bl hm with ⟨c4,hm⟩ | ⟨c4,hm⟩
  ·refine be (by simp -dsimp [hf]) c4 ?_
   refine bd (b9 (ba (bc ?_)))
   refine srs hn ?_
   obtain⟨x,h5,hm⟩:=bnd hm
   simp -dsimp [hf,h5]
   refine srs hn ?_
   simp -dsimp
   refine ba ?_
   refine srs hn ?_
   simp -dsimp
   refine bc ?_
   obtain⟨kids,g14,hm⟩:=bnd hm
   refine bu (l_R45_tree_o_o_2 cx hn hk t in_ y i ay l of_ x g14) (by
     try dsimp only
     refine EE.step (Wk.own0 12 5000 2 83 (by simp -dsimp) (by decide)) ?_
     exact zz
   ) fun ee Z O xx=>?_
   unfold eI at xx
   dsimp only at xx
   obtain⟨rfl,xx⟩:=xx
   refine bz ?_
   refine b9 ?_
   refine see xx fun Z O hf=>?_
   simp only[Fits,bo,bn,and_true] at hf
   refine ba ?_
   refine srs hn ?_
   obtain⟨y1,h15,hm⟩:=bnd hm
   simp -dsimp [hf]
   refine bg (c_R45_equal x.Next y1 h15) (dkL hn) ?_
   simp -dsimp
   rcases bl hm with ⟨c16,hm⟩ | ⟨c16,hm⟩
   ·refine be (by simp -dsimp) c16 ?_
    refine srs hn ?_
    obtain⟨x1,h17,hm⟩:=bnd hm
    obtain⟨l1,h18,hm⟩:=bnd hm
    obtain⟨h18a,h18e⟩:=bp h18
    replace h18e:=h18e.symm
    subst h18e
    try simp only[List.length_cons,List.length_nil,Nat.zero_add] at h18a
    simp -dsimp [hf,c16,h17,idx_gn 0 h17,h18a]
    refine swp_exit ?_
    refine eZ ?_
    refine bz ?_
    refine b9 ?_
    refine sr1 hn ?_
    simp -dsimp [hf]
    cases hm
    refine bI ?_
    refine emv 75 5007 ?_
    exact zz
   ·refine bi (by simp -dsimp) c16 ?_
    refine bd (b9 ?_)
    refine srs hn ?_
    simp -dsimp [c16]
    refine ba ?_
    refine srs hn ?_
    simp -dsimp
    refine bc ?_
    obtain⟨⟨aB,l1⟩,g21,hm⟩:=bnd hm
    refine bu (l_R45_tree_o_o_3 cx hn hk t in_ y i l of_ x kids g21) (by
      try dsimp only
      refine EE.step (Wk.own0b 14 1 5001 1 3 [dI 0,.d .nil] (by simp -dsimp) (by rfl) (by decide) (by decide)) ?_
      exact zz
    ) fun ee Z O xx=>?_
    unfold eH at xx
    dsimp only at xx
    obtain⟨rfl,xx⟩:=xx
    refine bz ?_
    refine b9 ?_
    refine see xx fun Z O hf=>?_
    simp only[Fits,bo,bn,and_true] at hf
    refine Swp.pre (Wk.frz 5001 1 3 (List.map (rI .i64) l1) (by simp -dsimp [hf])) ?_
    refine srs hn ?_
    obtain⟨l2,h22,hm⟩:=bnd hm
    obtain⟨h22a,h22e⟩:=bp h22
    replace h22e:=h22e.symm
    subst h22e
    try simp only[List.length_cons,List.length_nil,Nat.zero_add] at h22a
    simp -dsimp [hf,h22a]
    refine srs hn ?_
    simp -dsimp
    refine bc ?_
    obtain⟨l3,g41,hm⟩:=bnd hm
    refine bu (l_R45_tree_o_o_4 cx hn hk t in_ y i of_ x kids aB l1 g41) (by
      try dsimp only
      refine EE.here ?_
      exact zz
    ) fun ee Z O xx=>?_
    unfold ey at xx
    dsimp only at xx
    obtain⟨rfl,xx⟩:=xx
    refine bz ?_
    refine bD ?_
    refine b9 ?_
    refine see xx fun Z O hf=>?_
    simp only[Fits,bo,bn,and_true] at hf
    refine sr1 hn ?_
    simp -dsimp [hf]
    cases hm
    refine bI ?_
    refine emv 96 5007 ?_
    exact zz
  ·exact zz
theorem g_R45_tree_o_o (al:Int) (az:List (List Int)) (t:Tree) (in_:List Bp) (r:Int×Int×(List Int)×(List (List Int))) (hm:m_R45_tree_o_o al az t in_=some r):GFn Tryz.prog 68 [.u (.agg [dI al,.own 1000000]),.u (.agg [dI t.States,dR2 t.Hood,dR1 t.Nodes]),vO 1000001] [.row 1 26 (List.map (rS 1 (rI .i64)) az),.row 2 83 (List.map Bp.row in_)] (.tup [.agg [dI r.1,.own 1000002],.agg [dI r.2.1,dL r.2.2.1]]) [none,some (.row 2 83 (List.map Bp.row in_)),some (.row 1 26 (List.map (rS 1 (rI .i64)) r.2.2.2))]:=by
 refine bG bq _ Tryz.func68 rfl (by kernel_rfl) (by simp[Tryz.ntmps68]) (by simp) (by first | rfl | simp) (by first | rfl | simp) fun cx hn hk=>?_
 replace hn:cx.n=204:=hn.trans Tryz.ntmps68
 replace hk:cx.k=2:=hk
 unfold m_R45_tree_o_o at hm
 refine srs hn ?_
 simp -dsimp
 refine srs hn ?_
 obtain⟨y,h1,hm⟩:=bnd hm
 simp -dsimp
 refine bg (c_R18_Bits t.States y h1) (dkL hn) ?_
 simp -dsimp
 refine srs hn ?_
 simp -dsimp
 refine ba ?_
 refine srs hn ?_
 simp -dsimp
 refine bc ?_
 obtain⟨⟨ay,l,of_⟩,g43,hm⟩:=bnd hm
 refine bu (l_R45_tree_o_o_1 cx hn hk t in_ y g43) (by
   try dsimp only
   refine emv 1000000 5006 ?_
   refine EE.step (Wk.own0 9 5007 2 83 (by simp -dsimp) (by decide)) ?_
   exact zz
 ) fun ee Z O xx=>?_
 unfold eD at xx
 dsimp only at xx
 obtain⟨rfl,xx⟩:=xx
 refine bz ?_
 refine b9 ?_
 refine see xx fun Z O hf=>?_
 simp only[Fits,bo,bn,and_true] at hf
 refine ba ?_
 refine srs hn ?_
 obtain⟨y1,h44,hm⟩:=bnd hm
 simp -dsimp [hf]
 refine dj (us':=[.u (.agg [dI ((⟨ay,l⟩:Bm).Vars),.d (.sl 1 (List.map (rS 1 (rI .i64)) ((⟨ay,l⟩:Bm).Clauses)))])]) (eF (⟨ay,l⟩:Bm) y1 h44) (by simp -dsimp [hf]) rfl (dkL hn) ?_
 simp -dsimp
 rcases bl hm with ⟨c45,hm⟩ | ⟨c45,hm⟩
 ·refine be (by simp -dsimp) c45 ?_
  refine srs hn ?_
  simp -dsimp [hf,c45]
  refine bE (eZ ?_)
  cases hm
  refine⟨.inr rfl,?_⟩
  refine emr 5006 1000002 hk ?_
  exact zz
 ·refine bi (by simp -dsimp) c45 ?_
  refine bd (b9 ?_)
  refine cm bq mixed 7 8 8 0 [[1,2,3,4,5,6]] [[]] [] none (by rw[hn]; kernel_rfl) bO ?_
  dsimp only [List.take,List.drop,cn,cp,cV,pk,List.cons_append,List.nil_append,List.flatten_cons,List.flatten_nil,bN,bM,List.append_nil]
  obtain⟨x,h46,hm⟩:=bnd hm
  simp -dsimp [hf,c45,h46,bF h46]
  refine bE ?_
  cases hm
  refine⟨.inr rfl,?_⟩
  refine emr 5006 1000002 hk ?_
  exact zz
end Go.Proofs.YtnkmjlncmlmnbaaGreatDoor
