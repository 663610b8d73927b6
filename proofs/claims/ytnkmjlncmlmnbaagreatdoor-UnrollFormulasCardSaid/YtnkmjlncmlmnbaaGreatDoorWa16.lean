/- That the code does what the functions say (made by cc.py). -/
import Derived.Test.YtnkmjlncmlmnbaaGreatDoorWa14
namespace Go.Proofs.YtnkmjlncmlmnbaaGreatDoor
open Go.AM Go.Proofs
set_option maxRecDepth 100000
attribute [-simp] qlookup cb cL Ob.wipe Ob.ren Ob.frz1
def fF (cx:Cx) (t:Tree) (gv:Bq) (y i ay:Int) (l:List (List Int)) (l1:List Bp) (_n _n1:Int) (tt:(Int×(List Point)×(List Node)×(List Bp))) (ee:Exit) (Z:Env) (O:Sto):Prop:=match tt with
 | (aO,aX,aT,in_)=>ee=.exit 2/\EE cx (bw [(3,vX 3),(4,vX 4),(5,vX 5),(6,vX 6),(7,vX 7),(9,vX 9),(10,vI i),(13,vX 13),(14,vO 5000)] [(3,.box [dI ay,.own 5002]),(4,.box [dI t.States,dR2 t.Hood,dR1 t.Nodes]),(5,.box [dI gv.box.X,dI gv.box.Y,dI gv.box.W,dI gv.box.H,dR3 gv.of_]),(6,.box [dI 0,.d .nil]),(7,.box [dI 0,dI 0,dI 0,dI 0,.d .nil]),(9,.box [dI (br .i64 gv.box.X y),dI (br .i64 gv.box.Y y),dI (bk .i64 gv.box.W (bB .i64 2 y)),dI (bk .i64 gv.box.H (bB .i64 2 y)),.own 5003]),(13,.box [dI aO,dR2 aX,dR1 aT]),(5000,.row 2 83 (List.map Bp.row in_)),(5002,.row 1 26 (List.map (rS 1 (rI .i64)) l)),(5003,.row 2 83 (List.map Bp.row l1))]) Z O
theorem l_R45_next_o_2 (cx:Cx) (hn:cx.n=142) (_hk:cx.k=1) (t:Tree) (gv:Bq) (y i ay:Int) (l:List (List Int)) (l1:List Bp) (n n1:Int) {fu:Nat} {stt:Int×Int×(List Point)×(List Node)×(List Bp)} {tt:(Int×(List Point)×(List Node)×(List Bp))} (hh:bh (b_R45_next_o_2 t gv y i ay l l1 n n1) fu stt=some tt) {Z:Env} {O:Sto}
  (hE:bA (fun stt:Int×Int×(List Point)×(List Node)×(List Bp)=>match stt with | (k,_aO,_aX,_aT,_in_)=>[(3,vX 3),(4,vX 4),(5,vX 5),(6,vX 6),(7,vX 7),(9,vX 9),(10,vI i),(11,vI (bk .i64 (br .i64 gv.box.X y) n)),(12,vI (bk .i64 (br .i64 gv.box.Y y) n1)),(13,vX 13),(14,vO 5000),(15,vI k)]) (fun stt:Int×Int×(List Point)×(List Node)×(List Bp)=>match stt with | (_k,aO,aX,aT,in_)=>[(3,.box [dI ay,.own 5002]),(4,.box [dI t.States,dR2 t.Hood,dR1 t.Nodes]),(5,.box [dI gv.box.X,dI gv.box.Y,dI gv.box.W,dI gv.box.H,dR3 gv.of_]),(6,.box [dI 0,.d .nil]),(7,.box [dI 0,dI 0,dI 0,dI 0,.d .nil]),(9,.box [dI (br .i64 gv.box.X y),dI (br .i64 gv.box.Y y),dI (bk .i64 gv.box.W (bB .i64 2 y)),dI (bk .i64 gv.box.H (bB .i64 2 y)),.own 5003]),(13,.box [dI aO,dR2 aX,dR1 aT]),(5000,.row 2 83 (List.map Bp.row in_)),(5002,.row 1 26 (List.map (rS 1 (rI .i64)) l)),(5003,.row 2 83 (List.map Bp.row l1))]) stt Z O):Swp Tryz.prog cx (.loop (bJ [1,1,1,0,1,0,0,1,0,0,1,1,1,0,1,0,0] (bv Tryz.f30))) Z O (fF cx t gv y i ay l l1 n n1 tt):=by
 refine bC hE hh (fF cx t gv y i ay l l1 n n1) ?_
 rintro⟨k,aO,aX,aT,in_⟩ r hm Z O hf
 simp only[Fits,bo,bn,and_true] at hf
 unfold b_R45_next_o_2 at hm
 dsimp only at hm
 refine ba ?_
 refine srs hn ?_
 simp -dsimp [hf]
 rcases bl hm with ⟨c8,hm⟩ | ⟨c8,hm⟩
 ·refine be (by simp -dsimp) c8 ?_
  refine bd (b9 ?_)
  obtain⟨⟨aZ,uHood1,uNodes1,in_1⟩,j14,hm⟩:=bnd hm
  refine scE [(3,vX 3),(4,vX 4),(5,vX 5),(6,vX 6),(7,vX 7),(9,vX 9),(10,vI i),(11,vI (bk .i64 (br .i64 gv.box.X y) n)),(12,vI (bk .i64 (br .i64 gv.box.Y y) n1)),(13,vX 13),(14,vO 113),(15,vI k)] [(3,.box [dI ay,.own 5002]),(4,.box [dI t.States,dR2 t.Hood,dR1 t.Nodes]),(5,.box [dI gv.box.X,dI gv.box.Y,dI gv.box.W,dI gv.box.H,dR3 gv.of_]),(6,.box [dI 0,.d .nil]),(7,.box [dI 0,dI 0,dI 0,dI 0,.d .nil]),(9,.box [dI (br .i64 gv.box.X y),dI (br .i64 gv.box.Y y),dI (bk .i64 gv.box.W (bB .i64 2 y)),dI (bk .i64 gv.box.H (bB .i64 2 y)),.own 5003]),(13,.box [dI aZ,dR2 uHood1,dR1 uNodes1]),(113,.row 2 83 (List.map Bp.row in_1)),(5002,.row 1 26 (List.map (rS 1 (rI .i64)) l)),(5003,.row 2 83 (List.map Bp.row l1))] ?_ fun Z O hf=>?_
  ·replace hm:=j14
   clear j14
   refine bc ?_
   refine cm bq mixed 21 23 23 0 [[0,1,2,3,4,5,6,7,8,9,10,11,12,13,14,15,16,17,18,19,20],[20]] [[16],[]] [] none (by rw[hn]; kernel_rfl) bO ?_
   dsimp only [List.take,List.drop,cn,cp,cV,pk,List.cons_append,List.nil_append,List.flatten_cons,List.flatten_nil,bN,bM,List.append_nil]
   obtain⟨x,h9,hm⟩:=bnd hm
   obtain⟨y2,h10,hm⟩:=bnd hm
   simp -dsimp [hf,c8,h9]
   refine bj (gY gv (bk .i64 (bk .i64 (br .i64 gv.box.X y) n) x.X) (bk .i64 (bk .i64 (br .i64 gv.box.Y y) n1) x.Y) y2 h10) ?_
   simp -dsimp [hf,h9]
   refine bj (gY gv (bk .i64 (bk .i64 (br .i64 gv.box.X y) n) x.X) (bk .i64 (bk .i64 (br .i64 gv.box.Y y) n1) x.Y) y2 h10) ?_
   simp -dsimp
   refine srs hn ?_
   obtain⟨l2,h11,hm⟩:=bnd hm
   obtain⟨h11a,h11e⟩:=bp h11
   replace h11e:=h11e.symm
   subst h11e
   try simp only[List.length_cons,List.length_nil,Nat.zero_add] at h11a
   simp -dsimp [hf,h11a]
   refine srs hn ?_
   simp -dsimp
   rcases bl hm with ⟨c12,hm⟩ | ⟨c12,hm⟩
   ·refine be (by simp -dsimp) c12 ?_
    refine sr1 hn ?_
    obtain⟨y3,h13,hm⟩:=bnd hm
    simp -dsimp [hf,c12]
    refine bg (c_R13_Fix (⟨aO,aX,aT⟩:Tree) k y2.1.State y3 h13) (dkL hn) ?_
    exact zz
   ·exact zz
  ·clear j14
   simp only[Fits,bo,bn,and_true] at hf
   refine sr1 hn ?_
   simp -dsimp [hf]
   cases hm
   refine bI ?_
   refine emv 113 5000 ?_
   exact zz
 ·exact zz
def fD (cx:Cx) (_t:Tree) (gv:Bq) (y:Int) (tt:(Int×(List (List Int))×(List Bp))) (ee:Exit) (Z:Env) (O:Sto):Prop:=match tt with
 | (ay,l,l1)=>ee=.exit 0/\EE cx (bw [(3,vX 3),(6,vX 6),(7,vX 7),(9,vX 9)] [(3,.box [dI ay,.own 5002]),(6,.box [dI 0,.d .nil]),(7,.box [dI 0,dI 0,dI 0,dI 0,.d .nil]),(9,.box [dI (br .i64 gv.box.X y),dI (br .i64 gv.box.Y y),dI (bk .i64 gv.box.W (bB .i64 2 y)),dI (bk .i64 gv.box.H (bB .i64 2 y)),.own 5003]),(5002,.row 1 26 (List.map (rS 1 (rI .i64)) l)),(5003,.row 2 83 (List.map Bp.row l1))]) Z O
theorem l_R45_next_o_1 (cx:Cx) (hn:cx.n=142) (hk:cx.k=1) (t:Tree) (gv:Bq) (y:Int) {fu:Nat} {stt:Int×Int×(List (List Int))×(List Bp)} {tt:(Int×(List (List Int))×(List Bp))} (hh:bh (b_R45_next_o_1 t gv y) fu stt=some tt) {Z:Env} {O:Sto}
  (hE:bA (fun stt:Int×Int×(List (List Int))×(List Bp)=>match stt with | (i,_ay,_l,_l1)=>[(3,vX 3),(4,vX 4),(5,vX 5),(6,vX 6),(7,vX 7),(9,vX 9),(10,vI i)]) (fun stt:Int×Int×(List (List Int))×(List Bp)=>match stt with | (_i,ay,l,l1)=>[(3,.box [dI ay,.own 5002]),(4,.box [dI t.States,dR2 t.Hood,dR1 t.Nodes]),(5,.box [dI gv.box.X,dI gv.box.Y,dI gv.box.W,dI gv.box.H,dR3 gv.of_]),(6,.box [dI 0,.d .nil]),(7,.box [dI 0,dI 0,dI 0,dI 0,.d .nil]),(9,.box [dI (br .i64 gv.box.X y),dI (br .i64 gv.box.Y y),dI (bk .i64 gv.box.W (bB .i64 2 y)),dI (bk .i64 gv.box.H (bB .i64 2 y)),.own 5003]),(5002,.row 1 26 (List.map (rS 1 (rI .i64)) l)),(5003,.row 2 83 (List.map Bp.row l1))]) stt Z O):Swp Tryz.prog cx (.loop (bJ [1,1,1,0,1,0,0] (bv Tryz.f30))) Z O (fD cx t gv y tt):=by
 refine bC hE hh (fD cx t gv y) ?_
 rintro⟨i,ay,l,l1⟩ r hm Z O hf
 simp only[Fits,bo,bn,and_true] at hf
 unfold b_R45_next_o_1 at hm
 dsimp only at hm
 refine ba ?_
 obtain⟨a,j18,hm⟩:=bnd hm
 refine scE [(3,vX 3),(4,vX 4),(5,vX 5),(6,vX 6),(7,vX 7),(9,vX 9),(10,vI i),(59,vT a)] [(3,.box [dI ay,.own 5002]),(4,.box [dI t.States,dR2 t.Hood,dR1 t.Nodes]),(5,.box [dI gv.box.X,dI gv.box.Y,dI gv.box.W,dI gv.box.H,dR3 gv.of_]),(6,.box [dI 0,.d .nil]),(7,.box [dI 0,dI 0,dI 0,dI 0,.d .nil]),(9,.box [dI (br .i64 gv.box.X y),dI (br .i64 gv.box.Y y),dI (bk .i64 gv.box.W (bB .i64 2 y)),dI (bk .i64 gv.box.H (bB .i64 2 y)),.own 5003]),(5002,.row 1 26 (List.map (rS 1 (rI .i64)) l)),(5003,.row 2 83 (List.map Bp.row l1))] ?_ fun Z O hf=>?_
 ·replace hm:=j18
  clear j18
  refine sr1 hn ?_
  rcases bl hm with ⟨c2,hm⟩ | ⟨c2,hm⟩
  ·obtain⟨y1,h3,hm⟩:=bnd hm
   simp -dsimp [hf,c2]
   refine dj (us':=[.u (.agg [dI ((⟨ay,l⟩:Bm).Vars),.d (.sl 1 (List.map (rS 1 (rI .i64)) ((⟨ay,l⟩:Bm).Clauses)))])]) (eF (⟨ay,l⟩:Bm) y1 h3) (by simp -dsimp [hf]) rfl (dkL hn) ?_
   exact zz
  ·exact zz
 ·clear j18
  simp only[Fits,bo,bn,and_true] at hf
  rcases bl hm with ⟨c4,hm⟩ | ⟨c4,hm⟩
  ·refine be (by simp -dsimp [hf]) c4 ?_
   refine bd (b9 (ba (bc ?_)))
   refine cO bq mixed (by rw[hn]; kernel_rfl) ?_
   obtain⟨n,h5,hm⟩:=bnd hm
   obtain⟨n1,h6,hm⟩:=bnd hm
   simp -dsimp [hf,h5,h6]
   refine srs hn ?_
   obtain⟨y1,h7,hm⟩:=bnd hm
   simp -dsimp [hf]
   refine bg (c_R13_Reduce t y1 h7) (dkL hn) ?_
   simp -dsimp
   refine srs hn ?_
   simp -dsimp
   refine ba ?_
   refine srs hn ?_
   simp -dsimp
   refine bc ?_
   obtain⟨⟨aO,aX,aT,in_⟩,g15,hm⟩:=bnd hm
   refine bu (l_R45_next_o_2 cx hn hk t gv y i ay l l1 n n1 g15) (by
     try dsimp only
     refine EE.step (Wk.own0 14 5000 2 83 (by simp -dsimp) (by decide)) ?_
     exact zz
   ) fun ee Z O xx=>?_
   unfold fF at xx
   dsimp only at xx
   obtain⟨rfl,xx⟩:=xx
   refine bz ?_
   refine b9 ?_
   refine see xx fun Z O hf=>?_
   simp only[Fits,bo,bn,and_true] at hf
   refine srs hn ?_
   obtain⟨y2,h16,hm⟩:=bnd hm
   simp -dsimp [hf]
   refine clg (g_R45_tree_o_o ay l (⟨aO,aX,aT⟩:Tree) in_ y2 h16) [5002,5000] [5001] (by simp -dsimp [hf]) (dkL hn) ?_
   simp -dsimp
   refine srs hn ?_
   simp -dsimp [hf]
   refine sr1 hn ?_
   obtain⟨l2,h17,hm⟩:=bnd hm
   obtain⟨h17a,h17e⟩:=bp h17
   replace h17e:=h17e.symm
   subst h17e
   try simp only[List.length_cons,List.length_nil,Nat.zero_add] at h17a
   simp -dsimp [hf,h17a]
   refine bD ?_
   refine b9 ?_
   refine sr1 hn ?_
   simp -dsimp [hf]
   cases hm
   refine bI ?_
   refine emv 5001 5002 ?_
   refine emv 138 5003 ?_
   exact zz
  ·exact zz
theorem g_R45_next_o (al:Int) (az:List (List Int)) (t:Tree) (gv:Bq) (r:Int×Int×Int×Int×Int×(List Bp)×(List (List Int))) (hm:m_R45_next_o al az t gv=some r):GFn Tryz.prog 30 [.u (.agg [dI al,.own 1000000]),.u (.agg [dI t.States,dR2 t.Hood,dR1 t.Nodes]),.u (.agg [dI gv.box.X,dI gv.box.Y,dI gv.box.W,dI gv.box.H,dR3 gv.of_])] [.row 1 26 (List.map (rS 1 (rI .i64)) az)] (.tup [.agg [dI r.1,.own 1000001],.agg [dI r.2.1,dI r.2.2.1,dI r.2.2.2.1,dI r.2.2.2.2.1,dR3 r.2.2.2.2.2.1]]) [none,some (.row 1 26 (List.map (rS 1 (rI .i64)) r.2.2.2.2.2.2))]:=by
 refine bG bq _ Tryz.func30 rfl (by kernel_rfl) (by simp[Tryz.ntmps30]) (by simp) (by first | rfl | simp) (by first | rfl | simp) fun cx hn hk=>?_
 replace hn:cx.n=142:=hn.trans Tryz.ntmps30
 replace hk:cx.k=1:=hk
 unfold m_R45_next_o at hm
 refine srs hn ?_
 simp -dsimp
 refine srs hn ?_
 obtain⟨y,h1,hm⟩:=bnd hm
 simp -dsimp
 refine bg (c_R07_Radius t.Hood y h1) (dkL hn) ?_
 simp -dsimp
 refine srs hn ?_
 simp -dsimp
 refine ba ?_
 refine srs hn ?_
 simp -dsimp
 refine bc ?_
 obtain⟨⟨ay,l,l1⟩,g19,hm⟩:=bnd hm
 refine bu (l_R45_next_o_1 cx hn hk t gv y g19) (by
   try dsimp only
   refine emv 1000000 5002 ?_
   refine EE.step (Wk.own0b 9 4 5003 2 83 [dI (br .i64 gv.box.X y),dI (br .i64 gv.box.Y y),dI (bk .i64 gv.box.W (bB .i64 2 y)),dI (bk .i64 gv.box.H (bB .i64 2 y)),.d .nil] (by simp -dsimp) (by rfl) (by decide) (by decide)) ?_
   exact zz
 ) fun ee Z O xx=>?_
 unfold fD at xx
 dsimp only at xx
 obtain⟨rfl,xx⟩:=xx
 refine bz ?_
 refine b9 ?_
 refine see xx fun Z O hf=>?_
 simp only[Fits,bo,bn,and_true] at hf
 refine Swp.pre (Wk.frz 5003 2 83 (List.map Bp.row l1) (by simp -dsimp [hf])) ?_
 refine cm bq mixed 2 3 3 0 [[1]] [[]] [] none (by rw[hn]; kernel_rfl) bO ?_
 dsimp only [List.take,List.drop,cn,cp,cV,pk,List.cons_append,List.nil_append,List.flatten_cons,List.flatten_nil,bN,bM,List.append_nil]
 simp -dsimp [hf]
 refine bE ?_
 cases hm
 refine⟨.inr rfl,?_⟩
 refine emr 5002 1000001 hk ?_
 exact zz
def gH (cx:Cx) (al:Int) (_l:List Int) (_n:Int) (tt:(List (List Int))) (ee:Exit) (Z:Env) (O:Sto):Prop:=match tt with
 | l1=>ee=.exit 0/\EE cx (bw [(3,vX 3),(6,vX 6)] [(3,.box [dI al,.own 5002]),(6,.box [dI 0,.d .nil]),(5002,.row 1 26 (List.map (rS 1 (rI .i64)) l1))]) Z O
theorem l_R45_fix_o_1 (cx:Cx) (hn:cx.n=34) (_hk:cx.k=1) (al:Int) (l:List Int) (n:Int) {fu:Nat} {stt:Int×(List (List Int))} {tt:(List (List Int))} (hh:bh (b_R45_fix_o_1 al l n) fu stt=some tt) {Z:Env} {O:Sto}
  (hE:bA (fun stt:Int×(List (List Int))=>match stt with | (k,_l1)=>[(1,.u (.one (dL l))),(2,vI n),(3,vX 3),(6,vX 6),(7,vI k)]) (fun stt:Int×(List (List Int))=>match stt with | (_k,l1)=>[(3,.box [dI al,.own 5002]),(6,.box [dI 0,.d .nil]),(5002,.row 1 26 (List.map (rS 1 (rI .i64)) l1))]) stt Z O):Swp Tryz.prog cx (.loop (bJ [1,0,1,0,0] (bv Tryz.f69))) Z O (gH cx al l n tt):=by
 refine bC hE hh (gH cx al l n) ?_
 rintro⟨k,l1⟩ r hm Z O hf
 simp only[Fits,bo,bn,and_true] at hf
 unfold b_R45_fix_o_1 at hm
 dsimp only at hm
 refine ba ?_
 refine srs hn ?_
 simp -dsimp [hf]
 rcases bl hm with ⟨c1,hm⟩ | ⟨c1,hm⟩
 ·refine be (by simp -dsimp) c1 ?_
  refine bd (b9 ?_)
  obtain⟨l2,j8,hm⟩:=bnd hm
  refine scE [(1,.u (.one (dL l))),(2,vI n),(3,vX 3),(6,vX 6),(7,vI k)] [(3,.box [dI al,.own 5002]),(6,.box [dI 0,.d .nil]),(5002,.row 1 26 (List.map (rS 1 (rI .i64)) l2))] ?_ fun Z O hf=>?_
  ·replace hm:=j8
   clear j8
   refine bc ?_
   refine srs hn ?_
   obtain⟨y,h2,hm⟩:=bnd hm
   simp -dsimp [hf,c1]
   refine bg (c_R45_bit n k y h2) (dkL hn) ?_
   simp -dsimp
   rcases bl hm with ⟨c3,hm⟩ | ⟨c3,hm⟩
   ·refine be (by simp -dsimp) c3 ?_
    refine dl bq mixed 6 (by rw[hn]; kernel_rfl) ?_
    dsimp only [List.take,List.drop]
    obtain⟨x,h4,hm⟩:=bnd hm
    obtain⟨y1,h5,hm⟩:=bnd hm
    simp -dsimp [hf,c3,h4]
    refine clg (da al l1 [x] y1 h5) [5002] [5000] (by simp -dsimp [hf]) (dkL hn) ?_
    simp -dsimp [hf]
    refine bD ?_
    refine b9 ?_
    cases hm
    refine emv 5000 5002 ?_
    exact zz
   ·refine bi (by simp -dsimp) c3 ?_
    refine dl bq mixed 7 (by rw[hn]; kernel_rfl) ?_
    dsimp only [List.take,List.drop]
    obtain⟨x,h6,hm⟩:=bnd hm
    obtain⟨y1,h7,hm⟩:=bnd hm
    simp -dsimp [hf,c3,h6]
    refine clg (da al l1 [(bH .i64 x)] y1 h7) [5002] [5001] (by simp -dsimp [hf]) (dkL hn) ?_
    simp -dsimp [hf]
    refine bD ?_
    refine b9 ?_
    cases hm
    refine emv 5001 5002 ?_
    exact zz
  ·clear j8
   exact zz
 ·exact zz
theorem g_R45_fix_o (al:Int) (az:List (List Int)) (l:List Int) (n:Int) (r:List (List Int)) (hm:m_R45_fix_o al az l n=some r):GFn Tryz.prog 69 [.u (.agg [dI al,.own 1000000]),.u (.one (dL l)),vI n] [.row 1 26 (List.map (rS 1 (rI .i64)) az)] (.u (.agg [dI al,.own 1000001])) [none,some (.row 1 26 (List.map (rS 1 (rI .i64)) r))]:=by
 refine bG bq _ Tryz.func69 rfl (by kernel_rfl) (by simp[Tryz.ntmps69]) (by simp) (by first | rfl | simp) (by first | rfl | simp) fun cx hn hk=>?_
 replace hn:cx.n=34:=hn.trans Tryz.ntmps69
 replace hk:cx.k=1:=hk
 unfold m_R45_fix_o at hm
 refine srs hn ?_
 simp -dsimp
 refine ba ?_
 refine srs hn ?_
 simp -dsimp
 refine bc ?_
 obtain⟨l1,g9,hm⟩:=bnd hm
 refine bu (l_R45_fix_o_1 cx hn hk al l n g9) (by
   try dsimp only
   refine emv 1000000 5002 ?_
   exact zz
 ) fun ee Z O xx=>?_
 unfold gH at xx
 dsimp only at xx
 obtain⟨rfl,xx⟩:=xx
 refine bz ?_
 refine b9 ?_
 refine see xx fun Z O hf=>?_
 simp only[Fits,bo,bn,and_true] at hf
 refine srs hn ?_
 simp -dsimp [hf]
 refine bE ?_
 cases hm
 refine⟨.inr rfl,?_⟩
 refine emr 5002 1000001 hk ?_
 exact zz
def g8 (cx:Cx) (al:Int) (x:Bl) (first last:Bq) (tt:(List (List Int))) (ee:Exit) (Z:Env) (O:Sto):Prop:=match tt with
 | l=>ee=.exit 0/\EE cx (bw [(4,vX 4),(5,vX 5),(6,vX 6),(7,vX 7),(8,vX 8)] [(4,.box [dI al,.own 5003]),(5,.box [dI x.W,dI x.H,dI x.Gens,dI x.DX,dI x.DY,dL x.Syms]),(6,.box [dI first.box.X,dI first.box.Y,dI first.box.W,dI first.box.H,dR3 first.of_]),(7,.box [dI last.box.X,dI last.box.Y,dI last.box.W,dI last.box.H,dR3 last.of_]),(8,.box [dI 0,.d .nil]),(5003,.row 1 26 (List.map (rS 1 (rI .i64)) l))]) Z O
theorem l_R45_ends_o_1 (cx:Cx) (hn:cx.n=123) (_hk:cx.k=1) (al:Int) (x:Bl) (first last:Bq) {fu:Nat} {stt:Int×(List (List Int))} {tt:(List (List Int))} (hh:bh (b_R45_ends_o_1 al x first last) fu stt=some tt) {Z:Env} {O:Sto}
  (hE:bA (fun stt:Int×(List (List Int))=>match stt with | (i,_l)=>[(4,vX 4),(5,vX 5),(6,vX 6),(7,vX 7),(8,vX 8),(9,vI i)]) (fun stt:Int×(List (List Int))=>match stt with | (_i,l)=>[(4,.box [dI al,.own 5003]),(5,.box [dI x.W,dI x.H,dI x.Gens,dI x.DX,dI x.DY,dL x.Syms]),(6,.box [dI first.box.X,dI first.box.Y,dI first.box.W,dI first.box.H,dR3 first.of_]),(7,.box [dI last.box.X,dI last.box.Y,dI last.box.W,dI last.box.H,dR3 last.of_]),(8,.box [dI 0,.d .nil]),(5003,.row 1 26 (List.map (rS 1 (rI .i64)) l))]) stt Z O):Swp Tryz.prog cx (.loop (bJ [1,0,1,0,0] (bv Tryz.f31))) Z O (g8 cx al x first last tt):=by
 refine bC hE hh (g8 cx al x first last) ?_
 rintro⟨i,l⟩ r hm Z O hf
 simp only[Fits,bo,bn,and_true] at hf
 unfold b_R45_ends_o_1 at hm
 dsimp only at hm
 refine ba ?_
 refine srs hn ?_
 simp -dsimp [hf]
 rcases bl hm with ⟨c1,hm⟩ | ⟨c1,hm⟩
 ·refine be (by simp -dsimp) c1 ?_
  refine bd (b9 ?_)
  obtain⟨l1,j14,hm⟩:=bnd hm
  refine scE [(4,vX 4),(5,vX 5),(6,vX 6),(7,vX 7),(8,vX 8),(9,vI i)] [(4,.box [dI al,.own 5003]),(5,.box [dI x.W,dI x.H,dI x.Gens,dI x.DX,dI x.DY,dL x.Syms]),(6,.box [dI first.box.X,dI first.box.Y,dI first.box.W,dI first.box.H,dR3 first.of_]),(7,.box [dI last.box.X,dI last.box.Y,dI last.box.W,dI last.box.H,dR3 last.of_]),(8,.box [dI 0,.d .nil]),(5003,.row 1 26 (List.map (rS 1 (rI .i64)) l1))] ?_ fun Z O hf=>?_
  ·replace hm:=j14
   clear j14
   refine bc ?_
   refine srs hn ?_
   obtain⟨x1,h2,hm⟩:=bnd hm
   simp -dsimp [hf,c1,h2]
   refine cm bq mixed 29 31 31 0 [[0,1,2,3,4,5,6,7,8,9,10,11,12,13,14,15,16,17,18,19,20,21,22,23,24,25,26,27,28],[28]] [[11],[]] [] none (by rw[hn]; kernel_rfl) bO ?_
   dsimp only [List.take,List.drop,cn,cp,cV,pk,List.cons_append,List.nil_append,List.flatten_cons,List.flatten_nil,bN,bM,List.append_nil]
   obtain⟨n,h3,hm⟩:=bnd hm
   obtain⟨n1,h4,hm⟩:=bnd hm
   obtain⟨y,h5,hm⟩:=bnd hm
   simp -dsimp [hf,h3,h4]
   refine bj (gY first (br .i64 (bk .i64 last.box.X n) x.DX) (br .i64 (bk .i64 last.box.Y n1) x.DY) y h5) ?_
   simp -dsimp [hf,h3,h4]
   refine bj (gY first (br .i64 (bk .i64 last.box.X n) x.DX) (br .i64 (bk .i64 last.box.Y n1) x.DY) y h5) ?_
   simp -dsimp
   refine bc ?_
   obtain⟨a,j13,hm⟩:=bnd hm
   refine scE [(4,vX 4),(5,vX 5),(6,vX 6),(7,vX 7),(8,vX 8),(9,vI i),(10,vX 10),(11,vX 11),(12,vT y.2),(57,vT a)] [(4,.box [dI al,.own 5003]),(5,.box [dI x.W,dI x.H,dI x.Gens,dI x.DX,dI x.DY,dL x.Syms]),(6,.box [dI first.box.X,dI first.box.Y,dI first.box.W,dI first.box.H,dR3 first.of_]),(7,.box [dI last.box.X,dI last.box.Y,dI last.box.W,dI last.box.H,dR3 last.of_]),(8,.box [dI 0,.d .nil]),(10,.box [dI x1.State,dL x1.Vars]),(11,.box [dI y.1.State,dL y.1.Vars]),(5003,.row 1 26 (List.map (rS 1 (rI .i64)) l))] ?_ fun Z O hf=>?_
   ·replace hm:=j13
    clear j13
    exact zz
   ·clear j13
    simp only[Fits,bo,bn,and_true] at hf
    rcases bl hm with ⟨c7,hm⟩ | ⟨c7,hm⟩
    ·refine be (by simp -dsimp [hf]) c7 ?_
     refine sr1 hn ?_
     obtain⟨y1,h8,hm⟩:=bnd hm
     simp -dsimp [hf]
     refine clg (g_R45_same_o al l x1.Vars y.1.Vars y1 h8) [5003] [5000] (by simp -dsimp [hf]) (dkL hn) ?_
     simp -dsimp [hf]
     refine bD ?_
     refine bD ?_
     refine b9 ?_
     cases hm
     refine emv 5000 5003 ?_
     exact zz
    ·refine bi (by simp -dsimp [hf]) c7 ?_
     refine srs hn ?_
     simp -dsimp [hf]
     rcases bl hm with ⟨c9,hm⟩ | ⟨c9,hm⟩
     ·refine be (by simp -dsimp) c9 ?_
      refine sr1 hn ?_
      obtain⟨y1,h10,hm⟩:=bnd hm
      simp -dsimp [hf,c9]
      refine clg (g_R45_fix_o al l x1.Vars 0 y1 h10) [5003] [5001] (by simp -dsimp [hf]) (dkL hn) ?_
      simp -dsimp [hf]
      refine bD ?_
      refine bD ?_
      refine b9 ?_
      cases hm
      refine emv 5001 5003 ?_
      exact zz
     ·refine bi (by simp -dsimp) c9 ?_
      refine srs hn ?_
      simp -dsimp [hf,c9]
      rcases bl hm with ⟨c11,hm⟩ | ⟨c11,hm⟩
      ·refine be (by simp -dsimp) c11 ?_
       refine sr1 hn ?_
       obtain⟨y1,h12,hm⟩:=bnd hm
       simp -dsimp [hf,c11]
       refine clg (g_R45_fix_o al l y.1.Vars 0 y1 h12) [5003] [5002] (by simp -dsimp [hf]) (dkL hn) ?_
       simp -dsimp [hf]
       refine bD ?_
       refine bD ?_
       refine b9 ?_
       cases hm
       refine emv 5002 5003 ?_
       exact zz
      ·exact zz
  ·clear j14
   exact zz
 ·exact zz
def fM (cx:Cx) (al:Int) (_x:Bl) (_first _last:Bq) (tt:(List (List Int))) (ee:Exit) (Z:Env) (O:Sto):Prop:=match tt with
 | l1=>ee=.exit 3/\EE cx (bw [(4,vX 4),(8,vX 8)] [(4,.box [dI al,.own 5003]),(8,.box [dI 0,.d .nil]),(5003,.row 1 26 (List.map (rS 1 (rI .i64)) l1))]) Z O
theorem l_R45_ends_o_2 (cx:Cx) (hn:cx.n=123) (_hk:cx.k=1) (al:Int) (x:Bl) (first last:Bq) {fu:Nat} {stt:Int×(List (List Int))} {tt:(List (List Int))} (hh:bh (b_R45_ends_o_2 al x first last) fu stt=some tt) {Z:Env} {O:Sto}
  (hE:bA (fun stt:Int×(List (List Int))=>match stt with | (i,_l1)=>[(4,vX 4),(5,vX 5),(6,vX 6),(7,vX 7),(8,vX 8),(13,vI i)]) (fun stt:Int×(List (List Int))=>match stt with | (_i,l1)=>[(4,.box [dI al,.own 5003]),(5,.box [dI x.W,dI x.H,dI x.Gens,dI x.DX,dI x.DY,dL x.Syms]),(6,.box [dI first.box.X,dI first.box.Y,dI first.box.W,dI first.box.H,dR3 first.of_]),(7,.box [dI last.box.X,dI last.box.Y,dI last.box.W,dI last.box.H,dR3 last.of_]),(8,.box [dI 0,.d .nil]),(5003,.row 1 26 (List.map (rS 1 (rI .i64)) l1))]) stt Z O):Swp Tryz.prog cx (.loop (bJ [1,1,0,1,0,0] (bv Tryz.f31))) Z O (fM cx al x first last tt):=by
 refine bC hE hh (fM cx al x first last) ?_
 rintro⟨i,l1⟩ r hm Z O hf
 simp only[Fits,bo,bn,and_true] at hf
 unfold b_R45_ends_o_2 at hm
 dsimp only at hm
 refine ba ?_
 refine srs hn ?_
 simp -dsimp [hf]
 rcases bl hm with ⟨c16,hm⟩ | ⟨c16,hm⟩
 ·refine be (by simp -dsimp) c16 ?_
  refine bd (b9 ?_)
  obtain⟨l2,j23,hm⟩:=bnd hm
  refine scE [(4,vX 4),(5,vX 5),(6,vX 6),(7,vX 7),(8,vX 8),(13,vI i)] [(4,.box [dI al,.own 5003]),(5,.box [dI x.W,dI x.H,dI x.Gens,dI x.DX,dI x.DY,dL x.Syms]),(6,.box [dI first.box.X,dI first.box.Y,dI first.box.W,dI first.box.H,dR3 first.of_]),(7,.box [dI last.box.X,dI last.box.Y,dI last.box.W,dI last.box.H,dR3 last.of_]),(8,.box [dI 0,.d .nil]),(5003,.row 1 26 (List.map (rS 1 (rI .i64)) l2))] ?_ fun Z O hf=>?_
  ·replace hm:=j23
   clear j23
   refine bc ?_
   refine cm bq mixed 19 21 21 0 [[0,1,2,3,4,5,6,7,8,9,10,11,12,13,14,15,16,17,18],[18]] [[14],[]] [] none (by rw[hn]; kernel_rfl) bO ?_
   dsimp only [List.take,List.drop,cn,cp,cV,pk,List.cons_append,List.nil_append,List.flatten_cons,List.flatten_nil,bN,bM,List.append_nil]
   obtain⟨n,h17,hm⟩:=bnd hm
   obtain⟨n1,h18,hm⟩:=bnd hm
   obtain⟨y,h19,hm⟩:=bnd hm
   simp -dsimp [hf,c16,h17,h18]
   refine bj (gY last (bk .i64 n x.DX) (bk .i64 n1 x.DY) y h19) ?_
   simp -dsimp [hf,h17,h18]
   refine bj (gY last (bk .i64 n x.DX) (bk .i64 n1 x.DY) y h19) ?_
   simp -dsimp
   refine srs hn ?_
   simp -dsimp
   rcases bl hm with ⟨c20,hm⟩ | ⟨c20,hm⟩
   ·refine be (by simp -dsimp) c20 ?_
    refine dl bq mixed 7 (by rw[hn]; kernel_rfl) ?_
    dsimp only [List.take,List.drop]
    obtain⟨x1,h21,hm⟩:=bnd hm
    obtain⟨y1,h22,hm⟩:=bnd hm
    simp -dsimp [hf,c20,h21]
    refine clg (g_R45_fix_o al l1 x1.Vars 0 y1 h22) [5003] [5004] (by simp -dsimp [hf]) (dkL hn) ?_
    simp -dsimp [hf]
    refine bD ?_
    refine b9 ?_
    cases hm
    refine emv 5004 5003 ?_
    exact zz
   ·exact zz
  ·clear j23
   exact zz
 ·exact zz
theorem g_R45_ends_o (al:Int) (az:List (List Int)) (x:Bl) (first last:Bq) (r:List (List Int)) (hm:m_R45_ends_o al az x first last=some r):GFn Tryz.prog 31 [.u (.agg [dI al,.own 1000000]),.u (.agg [dI x.W,dI x.H,dI x.Gens,dI x.DX,dI x.DY,dL x.Syms]),.u (.agg [dI first.box.X,dI first.box.Y,dI first.box.W,dI first.box.H,dR3 first.of_]),.u (.agg [dI last.box.X,dI last.box.Y,dI last.box.W,dI last.box.H,dR3 last.of_])] [.row 1 26 (List.map (rS 1 (rI .i64)) az)] (.u (.agg [dI al,.own 1000001])) [none,some (.row 1 26 (List.map (rS 1 (rI .i64)) r))]:=by
 refine bG bq _ Tryz.func31 rfl (by kernel_rfl) (by simp[Tryz.ntmps31]) (by simp) (by first | rfl | simp) (by first | rfl | simp) fun cx hn hk=>?_
 replace hn:cx.n=123:=hn.trans Tryz.ntmps31
 replace hk:cx.k=1:=hk
 unfold m_R45_ends_o at hm
 refine srs hn ?_
 simp -dsimp
 refine ba ?_
 refine srs hn ?_
 simp -dsimp
 refine bc ?_
 obtain⟨l,g15,hm⟩:=bnd hm
 refine bu (l_R45_ends_o_1 cx hn hk al x first last g15) (by
   try dsimp only
   refine emv 1000000 5003 ?_
   exact zz
 ) fun ee Z O xx=>?_
 unfold g8 at xx
 dsimp only at xx
 obtain⟨rfl,xx⟩:=xx
 refine bz ?_
 refine b9 ?_
 refine see xx fun Z O hf=>?_
 simp only[Fits,bo,bn,and_true] at hf
 refine ba ?_
 refine srs hn ?_
 simp -dsimp
 refine bc ?_
 obtain⟨l1,g24,hm⟩:=bnd hm
 refine bu (l_R45_ends_o_2 cx hn hk al x first last g24) (by
   try dsimp only
   exact EE.here (by simp -dsimp [hf])
 ) fun ee Z O xx=>?_
 unfold fM at xx
 dsimp only at xx
 obtain⟨rfl,xx⟩:=xx
 refine bz ?_
 refine b9 ?_
 refine see xx fun Z O hf=>?_
 simp only[Fits,bo,bn,and_true] at hf
 refine srs hn ?_
 simp -dsimp [hf]
 refine bE ?_
 cases hm
 refine⟨.inr rfl,?_⟩
 refine emr 5003 1000001 hk ?_
 exact zz
end Go.Proofs.YtnkmjlncmlmnbaaGreatDoor
namespace Go.Proofs.YtnkmjlncmlmnbaaGreatDoor
open Go.AM Go.Proofs
set_option maxRecDepth 100000
attribute [-simp] qlookup cb cL Ob.wipe Ob.ren Ob.frz1
def F_R45_Formula_2 (cx:Cx) (t:Tree) (x:Bl) (y1:Int×(List Bp)×(List (List Int))) (i:Int) (tt:(List (List Int))) (ee:Exit) (Z:Env) (O:Sto):Prop:=match tt with
 | l1=>ee=.exit 2/\EE cx (bw [(2,vX 2),(3,vX 3),(4,vX 4),(8,vX 8),(9,.u (.one (dR3 y1.2.1))),(10,vI y1.1),(11,vX 11),(12,vI i)] [(2,.box [dI t.States,dR2 t.Hood,dR1 t.Nodes]),(3,.box [dI x.W,dI x.H,dI x.Gens,dI x.DX,dI x.DY,dL x.Syms]),(4,.box [dI 0,.d .nil]),(8,.box [dI y1.1,.own 5002]),(11,.box [dI 0,dI 0,dI x.W,dI x.H]),(5002,.row 1 26 (List.map (rS 1 (rI .i64)) l1))]) Z O
theorem l_R45_Formula_2 (cx:Cx) (hn:cx.n=129) (t:Tree) (x:Bl) (y1:Int×(List Bp)×(List (List Int))) (i:Int) {fu:Nat} {stt:Int×(List (List Int))} {tt:(List (List Int))} (hh:bh (b_R45_Formula_2 t x y1 i) fu stt=some tt) {Z:Env} {O:Sto}
  (hE:bA (fun stt:Int×(List (List Int))=>match stt with | (k,_l1)=>[(2,vX 2),(3,vX 3),(4,vX 4),(8,vX 8),(9,.u (.one (dR3 y1.2.1))),(10,vI y1.1),(11,vX 11),(12,vI i),(13,vI k)]) (fun stt:Int×(List (List Int))=>match stt with | (_k,l1)=>[(2,.box [dI t.States,dR2 t.Hood,dR1 t.Nodes]),(3,.box [dI x.W,dI x.H,dI x.Gens,dI x.DX,dI x.DY,dL x.Syms]),(4,.box [dI 0,.d .nil]),(8,.box [dI y1.1,.own 5002]),(11,.box [dI 0,dI 0,dI x.W,dI x.H]),(5002,.row 1 26 (List.map (rS 1 (rI .i64)) l1))]) stt Z O):Swp Tryz.prog cx (.loop (bJ [1,1,1,1,1,0,1,0,0,1,0,0,1,0,0] (bv Tryz.f7))) Z O (F_R45_Formula_2 cx t x y1 i tt):=by
 refine bC hE hh (F_R45_Formula_2 cx t x y1 i) ?_
 rintro⟨k,l1⟩ r hm Z O hf
 simp only[Fits,bo,bn,and_true] at hf
 unfold b_R45_Formula_2 at hm
 dsimp only at hm
 refine ba ?_
 refine srs hn ?_
 simp -dsimp [hf]
 rcases bl hm with ⟨c5,hm⟩ | ⟨c5,hm⟩
 ·refine be (by simp -dsimp) c5 ?_
  refine bd (b9 (ba (bc ?_)))
  refine cm bq mixed 16 17 17 0 [[0,1,2,3,4,5,6,7,8,9,10,11,12,13,14,15]] [[14]] [] none (by rw[hn]; kernel_rfl) bO ?_
  dsimp only [List.take,List.drop,cn,cp,cV,pk,List.cons_append,List.nil_append,List.flatten_cons,List.flatten_nil,bN,bM,List.append_nil]
  obtain⟨x1,h6,hm⟩:=bnd hm
  obtain⟨n,h7,hm⟩:=bnd hm
  obtain⟨n1,h8,hm⟩:=bnd hm
  obtain⟨y2,h9,hm⟩:=bnd hm
  simp -dsimp [hf,c5,h6,h7,h8]
  refine bj (c_R04_Within x1 (⟨0,0,x.W,x.H⟩:Box) (⟨n,n1⟩:Point) y2 h9) ?_
  simp -dsimp [hf,h6,h7,h8]
  refine bj (c_R04_Within x1 (⟨0,0,x.W,x.H⟩:Box) (⟨n,n1⟩:Point) y2 h9) ?_
  simp -dsimp
  refine dl bq mixed 18 (by rw[hn]; kernel_rfl) ?_
  dsimp only [List.take,List.drop]
  obtain⟨x2,h10,hm⟩:=bnd hm
  obtain⟨x3,h11,hm⟩:=bnd hm
  obtain⟨y3,h12,hm⟩:=bnd hm
  simp -dsimp [hf,h10,h11]
  refine clg (g_R45_same_o y1.1 l1 x2.Vars x3.Vars y3 h12) [5002] [5001] (by simp -dsimp [hf]) (dkL hn) ?_
  simp -dsimp [hf]
  refine bD ?_
  refine b9 ?_
  refine sr1 hn ?_
  simp -dsimp [hf]
  cases hm
  refine bI ?_
  refine emv 5001 5002 ?_
  exact zz
 ·exact zz
def f0 (cx:Cx) (t:Tree) (x:Bl) (y1:Int×(List Bp)×(List (List Int))) (tt:(List (List Int))) (ee:Exit) (Z:Env) (O:Sto):Prop:=match tt with
 | l=>ee=.exit 0/\EE cx (bw [(2,vX 2),(3,vX 3),(4,vX 4),(8,vX 8),(9,.u (.one (dR3 y1.2.1))),(10,vI y1.1),(11,vX 11)] [(2,.box [dI t.States,dR2 t.Hood,dR1 t.Nodes]),(3,.box [dI x.W,dI x.H,dI x.Gens,dI x.DX,dI x.DY,dL x.Syms]),(4,.box [dI 0,.d .nil]),(8,.box [dI y1.1,.own 5002]),(11,.box [dI 0,dI 0,dI x.W,dI x.H]),(5002,.row 1 26 (List.map (rS 1 (rI .i64)) l))]) Z O
theorem l_R45_Formula_1 (cx:Cx) (hn:cx.n=129) (t:Tree) (x:Bl) (y1:Int×(List Bp)×(List (List Int))) {fu:Nat} {stt:Int×(List (List Int))} {tt:(List (List Int))} (hh:bh (b_R45_Formula_1 t x y1) fu stt=some tt) {Z:Env} {O:Sto}
  (hE:bA (fun stt:Int×(List (List Int))=>match stt with | (i,_l)=>[(2,vX 2),(3,vX 3),(4,vX 4),(8,vX 8),(9,.u (.one (dR3 y1.2.1))),(10,vI y1.1),(11,vX 11),(12,vI i)]) (fun stt:Int×(List (List Int))=>match stt with | (_i,l)=>[(2,.box [dI t.States,dR2 t.Hood,dR1 t.Nodes]),(3,.box [dI x.W,dI x.H,dI x.Gens,dI x.DX,dI x.DY,dL x.Syms]),(4,.box [dI 0,.d .nil]),(8,.box [dI y1.1,.own 5002]),(11,.box [dI 0,dI 0,dI x.W,dI x.H]),(5002,.row 1 26 (List.map (rS 1 (rI .i64)) l))]) stt Z O):Swp Tryz.prog cx (.loop (bJ [1,1,1,1,1,0,1,0,0] (bv Tryz.f7))) Z O (f0 cx t x y1 tt):=by
 refine bC hE hh (f0 cx t x y1) ?_
 rintro⟨i,l⟩ r hm Z O hf
 simp only[Fits,bo,bn,and_true] at hf
 unfold b_R45_Formula_1 at hm
 dsimp only at hm
 refine ba ?_
 refine srs hn ?_
 simp -dsimp [hf]
 rcases bl hm with ⟨c4,hm⟩ | ⟨c4,hm⟩
 ·refine be (by simp -dsimp) c4 ?_
  refine bd (b9 (ba (bc ?_)))
  refine srs hn ?_
  simp -dsimp [c4]
  refine bc ?_
  obtain⟨l1,g13,hm⟩:=bnd hm
  refine bu (l_R45_Formula_2 cx hn t x y1 i g13) (by
    try dsimp only
    exact EE.here (by simp -dsimp [hf])
  ) fun ee Z O xx=>?_
  exact zz
 ·exact zz
def eS (cx:Cx) (_t:Tree) (x:Bl) (y1:Int×(List Bp)×(List (List Int))) (tt:(Int×Int×Int×Int×Int×(List Bp)×(List (List Int)))) (ee:Exit) (Z:Env) (O:Sto):Prop:=match tt with
 | (al,au,ar,av,aw,aS,l1)=>ee=.exit 4/\EE cx (bw [(3,vX 3),(4,vX 4),(8,vX 8),(10,vI y1.1),(15,vX 15),(16,vX 16)] [(3,.box [dI x.W,dI x.H,dI x.Gens,dI x.DX,dI x.DY,dL x.Syms]),(4,.box [dI 0,.d .nil]),(8,.box [dI al,.own 5002]),(15,.box [dI 0,dI 0,dI x.W,dI x.H,dR3 y1.2.1]),(16,.box [dI au,dI ar,dI av,dI aw,dR3 aS]),(5002,.row 1 26 (List.map (rS 1 (rI .i64)) l1))]) Z O
theorem l_R45_Formula_3 (cx:Cx) (hn:cx.n=129) (t:Tree) (x:Bl) (y1:Int×(List Bp)×(List (List Int))) {fu:Nat} {stt:Int×Int×Int×Int×Int×Int×(List Bp)×(List (List Int))} {tt:(Int×Int×Int×Int×Int×(List Bp)×(List (List Int)))} (hh:bh (b_R45_Formula_3 t x y1) fu stt=some tt) {Z:Env} {O:Sto}
  (hE:bA (fun stt:Int×Int×Int×Int×Int×Int×(List Bp)×(List (List Int))=>match stt with | (gv,_al,_au,_ar,_av,_aw,_aS,_l1)=>[(2,vX 2),(3,vX 3),(4,vX 4),(8,vX 8),(10,vI y1.1),(15,vX 15),(16,vX 16),(17,vI gv)]) (fun stt:Int×Int×Int×Int×Int×Int×(List Bp)×(List (List Int))=>match stt with | (_gv,al,au,ar,av,aw,aS,l1)=>[(2,.box [dI t.States,dR2 t.Hood,dR1 t.Nodes]),(3,.box [dI x.W,dI x.H,dI x.Gens,dI x.DX,dI x.DY,dL x.Syms]),(4,.box [dI 0,.d .nil]),(8,.box [dI al,.own 5002]),(15,.box [dI 0,dI 0,dI x.W,dI x.H,dR3 y1.2.1]),(16,.box [dI au,dI ar,dI av,dI aw,dR3 aS]),(5002,.row 1 26 (List.map (rS 1 (rI .i64)) l1))]) stt Z O):Swp Tryz.prog cx (.loop (bJ [1,1,1,1,1,1,1,1,0,1,0,0] (bv Tryz.f7))) Z O (eS cx t x y1 tt):=by
 refine bC hE hh (eS cx t x y1) ?_
 rintro⟨gv,al,au,ar,av,aw,aS,l1⟩ r hm Z O hf
 simp only[Fits,bo,bn,and_true] at hf
 unfold b_R45_Formula_3 at hm
 dsimp only at hm
 refine ba ?_
 obtain⟨a,j19,hm⟩:=bnd hm
 refine scE [(2,vX 2),(3,vX 3),(4,vX 4),(8,vX 8),(10,vI y1.1),(15,vX 15),(16,vX 16),(17,vI gv),(104,vT a)] [(2,.box [dI t.States,dR2 t.Hood,dR1 t.Nodes]),(3,.box [dI x.W,dI x.H,dI x.Gens,dI x.DX,dI x.DY,dL x.Syms]),(4,.box [dI 0,.d .nil]),(8,.box [dI al,.own 5002]),(15,.box [dI 0,dI 0,dI x.W,dI x.H,dR3 y1.2.1]),(16,.box [dI au,dI ar,dI av,dI aw,dR3 aS]),(5002,.row 1 26 (List.map (rS 1 (rI .i64)) l1))] ?_ fun Z O hf=>?_
 ·replace hm:=j19
  clear j19
  refine sr1 hn ?_
  rcases bl hm with ⟨c15,hm⟩ | ⟨c15,hm⟩
  ·obtain⟨y2,h16,hm⟩:=bnd hm
   simp -dsimp [hf,c15]
   refine dj (us':=[.u (.agg [dI ((⟨al,l1⟩:Bm).Vars),.d (.sl 1 (List.map (rS 1 (rI .i64)) ((⟨al,l1⟩:Bm).Clauses)))])]) (eF (⟨al,l1⟩:Bm) y2 h16) (by simp -dsimp [hf]) rfl (dkL hn) ?_
   exact zz
  ·exact zz
 ·clear j19
  simp only[Fits,bo,bn,and_true] at hf
  rcases bl hm with ⟨c17,hm⟩ | ⟨c17,hm⟩
  ·refine be (by simp -dsimp [hf]) c17 ?_
   refine bd (b9 (ba (bc ?_)))
   refine srs hn ?_
   obtain⟨y2,h18,hm⟩:=bnd hm
   simp -dsimp [hf]
   refine clg (g_R45_next_o al l1 t (⟨⟨au,ar,av,aw⟩,aS⟩:Bq) y2 h18) [5002] [5003] (by simp -dsimp [hf]) (dkL hn) ?_
   simp -dsimp
   refine srs hn ?_
   simp -dsimp [hf]
   refine sr1 hn ?_
   simp -dsimp [hf]
   refine bD ?_
   refine b9 ?_
   refine sr1 hn ?_
   simp -dsimp [hf]
   cases hm
   refine bI ?_
   refine emv 5003 5002 ?_
   exact zz
  ·exact zz
theorem c_R45_Formula (t:Tree) (x:Bl) (r:Bm×Int×Int) (hm:m_R45_Formula t x=some r):PureCall Tryz.prog 7 [.u (.agg [dI t.States,dR2 t.Hood,dR1 t.Nodes]),.u (.agg [dI x.W,dI x.H,dI x.Gens,dI x.DX,dI x.DY,dL x.Syms])] (.tup [.agg [dI r.1.Vars,.d (.sl 1 (List.map (rS 1 (rI .i64)) r.1.Clauses))],.one (dI r.2.1),.one (dI r.2.2)]):=by
 refine bK Tryz.func7 Tryz.ntmps7 fun cx hn=>?_
 unfold m_R45_Formula at hm
 refine srs hn ?_
 simp -dsimp
 refine ba ?_
 refine srs hn ?_
 obtain⟨y,h1,hm⟩:=bnd hm
 simp -dsimp
 refine bg (c_R44_Check t x y h1) (dkL hn) ?_
 simp -dsimp
 refine srs hn ?_
 simp -dsimp
 rcases bl hm with ⟨c2,hm⟩ | ⟨c2,hm⟩
 ·exact zz
 ·refine bi (by simp -dsimp) c2 ?_
  refine bd (b9 ?_)
  refine srs hn ?_
  obtain⟨y1,h3,hm⟩:=bnd hm
  simp -dsimp [c2]
  refine clg (g_R45_cells (bB .i64 x.W x.H) t.States y1 h3) [] [5000] (by simp -dsimp) (dkL hn) ?_
  simp -dsimp
  refine srs hn ?_
  simp -dsimp
  refine srs hn ?_
  simp -dsimp
  refine ba ?_
  refine srs hn ?_
  simp -dsimp
  refine bc ?_
  obtain⟨l,g14,hm⟩:=bnd hm
  refine bu (l_R45_Formula_1 cx hn t x y1 g14) (by
    try dsimp only
    refine emv 5000 5002 ?_
    exact zz
  ) fun ee Z O xx=>?_
  unfold f0 at xx
  dsimp only at xx
  obtain⟨rfl,xx⟩:=xx
  refine bz ?_
  refine b9 ?_
  refine see xx fun Z O hf=>?_
  simp only[Fits,bo,bn,and_true] at hf
  refine srs hn ?_
  simp -dsimp [hf]
  refine srs hn ?_
  simp -dsimp
  refine ba ?_
  refine srs hn ?_
  simp -dsimp
  refine bc ?_
  obtain⟨⟨al,au,ar,av,aw,aS,l1⟩,g20,hm⟩:=bnd hm
  refine bu (l_R45_Formula_3 cx hn t x y1 g20) (by
    try dsimp only
    exact EE.here (by simp -dsimp [hf])
  ) fun ee Z O xx=>?_
  unfold eS at xx
  dsimp only at xx
  obtain⟨rfl,xx⟩:=xx
  refine bz ?_
  refine b9 ?_
  refine see xx fun Z O hf=>?_
  simp only[Fits,bo,bn,and_true] at hf
  obtain⟨l2,j26,hm⟩:=bnd hm
  refine scE [(4,vX 4),(8,vX 8),(10,vI y1.1)] [(4,.box [dI 0,.d .nil]),(8,.box [dI al,.own 5002]),(5002,.row 1 26 (List.map (rS 1 (rI .i64)) l2))] ?_ fun Z O hf=>?_
  ·replace hm:=j26
   clear j26
   refine srs hn ?_
   obtain⟨y2,h21,hm⟩:=bnd hm
   simp -dsimp [hf]
   refine dj (us':=[.u (.agg [dI ((⟨al,l1⟩:Bm).Vars),.d (.sl 1 (List.map (rS 1 (rI .i64)) ((⟨al,l1⟩:Bm).Clauses)))])]) (eF (⟨al,l1⟩:Bm) y2 h21) (by simp -dsimp [hf]) rfl (dkL hn) ?_
   simp -dsimp
   rcases bl hm with ⟨c22,hm⟩ | ⟨c22,hm⟩
   ·refine be (by simp -dsimp) c22 ?_
    refine sr1 hn ?_
    obtain⟨y3,h23,hm⟩:=bnd hm
    simp -dsimp [hf,c22]
    refine clg (g_R45_ends_o al l1 x (⟨⟨0,0,x.W,x.H⟩,y1.2.1⟩:Bq) (⟨⟨au,ar,av,aw⟩,aS⟩:Bq) y3 h23) [5002] [5004] (by simp -dsimp [hf]) (dkL hn) ?_
    simp -dsimp [hf]
    refine b9 ?_
    cases hm
    refine emv 5004 5002 ?_
    exact zz
   ·exact zz
  ·clear j26
   simp only[Fits,bo,bn,and_true] at hf
   refine ba ?_
   refine srs hn ?_
   obtain⟨y2,h24,hm⟩:=bnd hm
   simp -dsimp [hf]
   refine dj (us':=[.u (.agg [dI ((⟨al,l2⟩:Bm).Vars),.d (.sl 1 (List.map (rS 1 (rI .i64)) ((⟨al,l2⟩:Bm).Clauses)))])]) (eF (⟨al,l2⟩:Bm) y2 h24) (by simp -dsimp [hf]) rfl (dkL hn) ?_
   exact zz
theorem c_L45_UnrollFormulas (t:Tree) (x:Bl) (r:Bool) (hm:m_L45_UnrollFormulas t x=some r):PureCall Tryz.prog 3 [.u (.agg [dI t.States,dR2 t.Hood,dR1 t.Nodes]),.u (.agg [dI x.W,dI x.H,dI x.Gens,dI x.DX,dI x.DY,dL x.Syms])] (vT r):=by
 refine bK Tryz.func3 Tryz.ntmps3 fun cx hn=>?_
 unfold m_L45_UnrollFormulas at hm
 refine srs hn ?_
 simp -dsimp
 refine ba ?_
 refine srs hn ?_
 obtain⟨y,h1,hm⟩:=bnd hm
 simp -dsimp
 refine bg (c_L45_Small t x y h1) (dkL hn) ?_
 simp -dsimp
 rcases bl hm with ⟨c2,hm⟩ | ⟨c2,hm⟩
 ·refine be (by simp -dsimp) c2 ?_
  refine srs hn ?_
  obtain⟨y1,h3,hm⟩:=bnd hm
  simp -dsimp [c2]
  refine bg (c_L45_alive y1 h3) (dkL hn) ?_
  exact zz
 ·refine bi (by simp -dsimp) c2 ?_
  refine bd (b9 ?_)
  refine srs hn ?_
  obtain⟨y1,h4,hm⟩:=bnd hm
  simp -dsimp [c2]
  refine bg (dE t x y1 h4) (dkL hn) ?_
  simp -dsimp
  refine srs hn ?_
  obtain⟨y2,h5,hm⟩:=bnd hm
  simp -dsimp
  refine bg (c_R45_Formula t x y2 h5) (dkL hn) ?_
  simp -dsimp
  obtain⟨a,j11,hm⟩:=bnd hm
  refine scE [(4,vT a)] [] ?_ fun Z O hf=>?_
  ·replace hm:=j11
   clear j11
   refine sr1 hn ?_
   obtain⟨y3,h6,hm⟩:=bnd hm
   simp -dsimp
   refine bg (c_R41_Equal y1.1 y2.1 y3 h6) (dkL hn) ?_
   rcases bl hm with ⟨c7,hm⟩ | ⟨c7,hm⟩
   ·rcases bl hm with ⟨c8,hm⟩ | ⟨c8,hm⟩
    ·rcases bl hm with ⟨c9,hm⟩ | ⟨c9,hm⟩
     ·obtain⟨y4,h10,hm⟩:=bnd hm
      simp -dsimp [c7,c8,c9]
      refine bg (c_L45_alive y4 h10) (dkL hn) ?_
      exact zz
     ·exact zz
    ·exact zz
   ·exact zz
  ·clear j11
   exact zz
end Go.Proofs.YtnkmjlncmlmnbaaGreatDoor
