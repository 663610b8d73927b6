/- That the code does what the functions say (made by cc.py). -/
import Derived.Test.YtnkmjlncmlmnbaaGreatDoorWa10
namespace Go.Proofs.YtnkmjlncmlmnbaaGreatDoor
open Go.AM Go.Proofs
set_option maxRecDepth 100000
attribute [-simp] qlookup cb cL Ob.wipe Ob.ren Ob.frz1
def gG (cx:Cx) (n states y i:Int) (l:List (List Int)) (out:List Bp) (tt:(List Int)) (ee:Exit) (Z:Env) (O:Sto):Prop:=match tt with
 | l1=>ee=.exit 2/\EE cx (bw [(0,vI n),(1,vI states),(4,vX 4),(6,vI y),(7,vX 7),(8,vO 5004),(9,vI i),(10,vX 10)] [(4,.box [dI 0,.own 5001]),(7,.box [dI (bB .i64 n y),.own 5002]),(10,.box [dI 0,.own 5000]),(5000,.row 1 3 (List.map (rI .i64) l1)),(5001,.row 1 26 (List.map (rS 1 (rI .i64)) [])),(5002,.row 1 26 (List.map (rS 1 (rI .i64)) l)),(5004,.row 2 83 (List.map Bp.row out))]) Z O
theorem l_R45_cells_2 (cx:Cx) (hn:cx.n=60) (_hk:cx.k=0) (n states y i:Int) (l:List (List Int)) (out:List Bp) {fu:Nat} {stt:Int×(List Int)} {tt:(List Int)} (hh:bh (b_R45_cells_2 n states y i l out) fu stt=some tt) {Z:Env} {O:Sto}
  (hE:bA (fun stt:Int×(List Int)=>match stt with | (k,_l1)=>[(0,vI n),(1,vI states),(4,vX 4),(6,vI y),(7,vX 7),(8,vO 5004),(9,vI i),(10,vX 10),(11,vI k)]) (fun stt:Int×(List Int)=>match stt with | (_k,l1)=>[(4,.box [dI 0,.own 5001]),(7,.box [dI (bB .i64 n y),.own 5002]),(10,.box [dI 0,.own 5000]),(5000,.row 1 3 (List.map (rI .i64) l1)),(5001,.row 1 26 (List.map (rS 1 (rI .i64)) [])),(5002,.row 1 26 (List.map (rS 1 (rI .i64)) l)),(5004,.row 2 83 (List.map Bp.row out))]) stt Z O):Swp Tryz.prog cx (.loop (bJ [1,1,1,1,0,1,0,0,1,0,0,1,0,1,0,0] (bv Tryz.f26))) Z O (gG cx n states y i l out tt):=by
 refine bC hE hh (gG cx n states y i l out) ?_
 rintro⟨k,l1⟩ r hm Z O hf
 simp only[Fits,bo,bn,and_true] at hf
 unfold b_R45_cells_2 at hm
 dsimp only at hm
 refine ba ?_
 refine srs hn ?_
 simp -dsimp [hf]
 rcases bl hm with ⟨c3,hm⟩ | ⟨c3,hm⟩
 ·refine be (by simp -dsimp) c3 ?_
  refine bd (b9 (ba (bc ?_)))
  refine sr1 hn ?_
  obtain⟨l2,h4,hm⟩:=bnd hm
  obtain⟨h4a,h4e⟩:=bp h4
  replace h4e:=h4e.symm
  subst h4e
  try simp only[List.length_cons,List.length_nil,Nat.zero_add] at h4a
  simp -dsimp [hf,c3,h4a]
  refine bD ?_
  refine b9 ?_
  refine sr1 hn ?_
  simp -dsimp [hf]
  cases hm
  refine bI ?_
  refine emv 38 5000 ?_
  exact zz
 ·exact zz
def gK (cx:Cx) (n states y i:Int) (out:List Bp) (l1:List Int) (tt:(List (List Int))) (ee:Exit) (Z:Env) (O:Sto):Prop:=match tt with
 | l2=>ee=.exit 4/\EE cx (bw [(0,vI n),(1,vI states),(4,vX 4),(6,vI y),(7,vX 7),(8,vO 5004),(9,vI i),(10,vX 10)] [(4,.box [dI 0,.own 5001]),(7,.box [dI (bB .i64 n y),.own 5002]),(10,.box [dI 0,dL l1]),(5001,.row 1 26 (List.map (rS 1 (rI .i64)) [])),(5002,.row 1 26 (List.map (rS 1 (rI .i64)) l2)),(5004,.row 2 83 (List.map Bp.row out))]) Z O
theorem l_R45_cells_3 (cx:Cx) (hn:cx.n=60) (_hk:cx.k=0) (n states y i:Int) (out:List Bp) (l1:List Int) {fu:Nat} {stt:Int×(List (List Int))} {tt:(List (List Int))} (hh:bh (b_R45_cells_3 n states y i out l1) fu stt=some tt) {Z:Env} {O:Sto}
  (hE:bA (fun stt:Int×(List (List Int))=>match stt with | (cv,_l2)=>[(0,vI n),(1,vI states),(4,vX 4),(6,vI y),(7,vX 7),(8,vO 5004),(9,vI i),(10,vX 10),(12,vI cv)]) (fun stt:Int×(List (List Int))=>match stt with | (_cv,l2)=>[(4,.box [dI 0,.own 5001]),(7,.box [dI (bB .i64 n y),.own 5002]),(10,.box [dI 0,dL l1]),(5001,.row 1 26 (List.map (rS 1 (rI .i64)) [])),(5002,.row 1 26 (List.map (rS 1 (rI .i64)) l2)),(5004,.row 2 83 (List.map Bp.row out))]) stt Z O):Swp Tryz.prog cx (.loop (bJ [1,1,1,1,0,1,0,0,1,0,0,1,1,0,1,0,0] (bv Tryz.f26))) Z O (gK cx n states y i out l1 tt):=by
 refine bC hE hh (gK cx n states y i out l1) ?_
 rintro⟨cv,l2⟩ r hm Z O hf
 simp only[Fits,bo,bn,and_true] at hf
 unfold b_R45_cells_3 at hm
 dsimp only at hm
 refine ba ?_
 refine srs hn ?_
 obtain⟨n1,h6,hm⟩:=bnd hm
 simp -dsimp [hf,h6]
 rcases bl hm with ⟨c7,hm⟩ | ⟨c7,hm⟩
 ·refine be (by simp -dsimp) c7 ?_
  refine bd (b9 (ba (bc ?_)))
  refine dl bq mixed 5 (by rw[hn]; kernel_rfl) ?_
  dsimp only [List.take,List.drop]
  obtain⟨y1,h8,hm⟩:=bnd hm
  simp -dsimp [hf,c7]
  refine bj (c_R45_against l1 cv y1 h8) ?_
  obtain⟨y2,h9,hm⟩:=bnd hm
  simp -dsimp
  refine clg (da (bB .i64 n y) l2 y1 y2 h9) [5002] [5003] (by simp -dsimp [hf]) (dkL hn) ?_
  simp -dsimp [hf]
  refine bD ?_
  refine b9 ?_
  refine sr1 hn ?_
  simp -dsimp [hf]
  cases hm
  refine bI ?_
  refine emv 5003 5002 ?_
  exact zz
 ·exact zz
def gL (cx:Cx) (n _states y:Int) (tt:((List (List Int))×(List Bp))) (ee:Exit) (Z:Env) (O:Sto):Prop:=match tt with
 | (l,out)=>ee=.exit 0/\EE cx (bw [(4,vX 4),(7,vX 7),(8,vO 5004)] [(4,.box [dI 0,.own 5001]),(7,.box [dI (bB .i64 n y),.own 5002]),(5001,.row 1 26 (List.map (rS 1 (rI .i64)) [])),(5002,.row 1 26 (List.map (rS 1 (rI .i64)) l)),(5004,.row 2 83 (List.map Bp.row out))]) Z O
theorem l_R45_cells_1 (cx:Cx) (hn:cx.n=60) (hk:cx.k=0) (n states y:Int) {fu:Nat} {stt:Int×(List (List Int))×(List Bp)} {tt:((List (List Int))×(List Bp))} (hh:bh (b_R45_cells_1 n states y) fu stt=some tt) {Z:Env} {O:Sto}
  (hE:bA (fun stt:Int×(List (List Int))×(List Bp)=>match stt with | (i,_l,_out)=>[(0,vI n),(1,vI states),(4,vX 4),(6,vI y),(7,vX 7),(8,vO 5004),(9,vI i)]) (fun stt:Int×(List (List Int))×(List Bp)=>match stt with | (_i,l,out)=>[(4,.box [dI 0,.own 5001]),(7,.box [dI (bB .i64 n y),.own 5002]),(5001,.row 1 26 (List.map (rS 1 (rI .i64)) [])),(5002,.row 1 26 (List.map (rS 1 (rI .i64)) l)),(5004,.row 2 83 (List.map Bp.row out))]) stt Z O):Swp Tryz.prog cx (.loop (bJ [1,1,1,1,0,1,0,0] (bv Tryz.f26))) Z O (gL cx n states y tt):=by
 refine bC hE hh (gL cx n states y) ?_
 rintro⟨i,l,out⟩ r hm Z O hf
 simp only[Fits,bo,bn,and_true] at hf
 unfold b_R45_cells_1 at hm
 dsimp only at hm
 refine ba ?_
 refine srs hn ?_
 simp -dsimp [hf]
 rcases bl hm with ⟨c2,hm⟩ | ⟨c2,hm⟩
 ·refine be (by simp -dsimp) c2 ?_
  refine bd (b9 (ba (bc ?_)))
  refine srs hn ?_
  simp -dsimp [c2]
  refine ba ?_
  refine srs hn ?_
  simp -dsimp
  refine bc ?_
  obtain⟨l1,g5,hm⟩:=bnd hm
  refine bu (l_R45_cells_2 cx hn hk n states y i l out g5) (by
    try dsimp only
    refine EE.step (Wk.own0b 10 1 5000 1 3 [dI 0,.d .nil] (by simp -dsimp) (by rfl) (by decide) (by decide)) ?_
    exact zz
  ) fun ee Z O xx=>?_
  unfold gG at xx
  dsimp only at xx
  obtain⟨rfl,xx⟩:=xx
  refine bz ?_
  refine b9 ?_
  refine see xx fun Z O hf=>?_
  simp only[Fits,bo,bn,and_true] at hf
  refine ba ?_
  refine srs hn ?_
  simp -dsimp [hf]
  refine bc ?_
  obtain⟨l2,g10,hm⟩:=bnd hm
  refine bu (l_R45_cells_3 cx hn hk n states y i out l1 g10) (by
    try dsimp only
    refine EE.step (Wk.frz 5000 1 3 (List.map (rI .i64) l1) (by simp -dsimp [hf])) ?_
    exact zz
  ) fun ee Z O xx=>?_
  unfold gK at xx
  dsimp only at xx
  obtain⟨rfl,xx⟩:=xx
  refine bz ?_
  refine b9 ?_
  refine see xx fun Z O hf=>?_
  simp only[Fits,bo,bn,and_true] at hf
  refine sr1 hn ?_
  obtain⟨l3,h11,hm⟩:=bnd hm
  obtain⟨h11a,h11e⟩:=bp h11
  replace h11e:=h11e.symm
  subst h11e
  try simp only[List.length_cons,List.length_nil,Nat.zero_add] at h11a
  simp -dsimp [hf,h11a]
  refine bD ?_
  refine b9 ?_
  refine sr1 hn ?_
  simp -dsimp [hf]
  cases hm
  refine bI ?_
  refine emv 57 5004 ?_
  exact zz
 ·exact zz
theorem g_R45_cells (n states:Int) (r:Int×(List Bp)×(List (List Int))) (hm:m_R45_cells n states=some r):GFn Tryz.prog 26 [vI n,vI states] [] (.tup [.agg [dI r.1,.own 1000000],.one (dR3 r.2.1)]) [some (.row 1 26 (List.map (rS 1 (rI .i64)) r.2.2))]:=by
 refine bG bq _ Tryz.func26 rfl (by kernel_rfl) (by simp[Tryz.ntmps26]) (by simp) (by first | rfl | simp) (by first | rfl | simp) fun cx hn hk=>?_
 replace hn:cx.n=60:=hn.trans Tryz.ntmps26
 replace hk:cx.k=0:=hk
 unfold m_R45_cells at hm
 refine srs hn ?_
 simp -dsimp
 refine srs hn ?_
 obtain⟨y,h1,hm⟩:=bnd hm
 simp -dsimp
 refine bg (c_R18_Bits states y h1) (dkL hn) ?_
 simp -dsimp
 refine srs hn ?_
 simp -dsimp
 refine srs hn ?_
 simp -dsimp
 refine ba ?_
 refine srs hn ?_
 simp -dsimp
 refine bc ?_
 obtain⟨⟨l,out⟩,g12,hm⟩:=bnd hm
 refine bu (l_R45_cells_1 cx hn hk n states y g12) (by
   try dsimp only
   refine EE.step (Wk.own0 8 5004 2 83 (by simp -dsimp) (by decide)) ?_
   refine EE.step (Wk.own0b 4 1 5001 1 26 [dI 0,.d .nil] (by simp -dsimp) (by rfl) (by decide) (by decide)) ?_
   refine EE.step (Wk.own0b 7 1 5002 1 26 [dI (bB .i64 n y),.d .nil] (by simp -dsimp) (by rfl) (by decide) (by decide)) ?_
   exact zz
 ) fun ee Z O xx=>?_
 unfold gL at xx
 dsimp only at xx
 obtain⟨rfl,xx⟩:=xx
 refine bz ?_
 refine b9 ?_
 refine see xx fun Z O hf=>?_
 simp only[Fits,bo,bn,and_true] at hf
 refine srs hn ?_
 simp -dsimp [hf]
 refine bE ?_
 cases hm
 refine⟨.inr rfl,?_⟩
 refine emr 5002 1000000 hk ?_
 exact zz
theorem c_R03_Valid (p:Point) (r:Bool) (hm:m_R03_Valid p=some r):PureCall Tryz.prog 93 [.u (.agg [dI p.X,dI p.Y])] (vT r):=by
 refine bK Tryz.func93 Tryz.ntmps93 fun cx hn=>?_
 unfold m_R03_Valid at hm
 refine srs hn ?_
 simp -dsimp
 obtain⟨a,j4,hm⟩:=bnd hm
 refine scE [(2,vT a)] [] ?_ fun Z O hf=>?_
 ·replace hm:=j4
  clear j4
  exact zz
 ·clear j4
  exact zz
theorem c_R03_Right (b:Box) (r:Bool) (hm:m_R03_Right b=some r):PureCall Tryz.prog 60 [.u (.agg [dI b.X,dI b.Y,dI b.W,dI b.H])] (vT r):=by
 refine bK Tryz.func60 Tryz.ntmps60 fun cx hn=>?_
 unfold m_R03_Right at hm
 refine srs hn ?_
 simp -dsimp
 refine ba ?_
 obtain⟨a,j8,hm⟩:=bnd hm
 refine scE [(1,vX 1),(29,vT a)] [(1,.box [dI b.X,dI b.Y,dI b.W,dI b.H])] ?_ fun Z O hf=>?_
 ·replace hm:=j8
  clear j8
  refine sr1 hn ?_
  rcases bl hm with ⟨c1,hm⟩ | ⟨c1,hm⟩
  ·exact zz
  ·rcases bl hm with ⟨c2,hm⟩ | ⟨c2,hm⟩
   ·exact zz
   ·rcases bl hm with ⟨c3,hm⟩ | ⟨c3,hm⟩
    ·exact zz
    ·rcases bl hm with ⟨c4,hm⟩ | ⟨c4,hm⟩
     ·exact zz
     ·obtain⟨y,h5,hm⟩:=bnd hm
      simp -dsimp [c1,c2,c3,c4]
      refine bg (c_R03_Valid (⟨b.X,b.Y⟩:Point) y h5) (dkL hn) ?_
      exact zz
 ·clear j8
  simp only[Fits,bo,bn,and_true] at hf
  rcases bl hm with ⟨c6,hm⟩ | ⟨c6,hm⟩
  ·exact zz
  ·refine bi (by simp -dsimp [hf]) c6 ?_
   refine bd (b9 ?_)
   refine srs hn ?_
   obtain⟨y,h7,hm⟩:=bnd hm
   simp -dsimp [hf]
   refine bg (c_R03_Valid (⟨(br .i64 (bk .i64 b.X b.W) 1),(br .i64 (bk .i64 b.Y b.H) 1)⟩:Point) y h7) (dkL hn) ?_
   exact zz
theorem c_R04_Place (p:Point) (r:Bool) (hm:m_R04_Place p=some r):PureCall Tryz.prog 61 [.u (.agg [dI p.X,dI p.Y])] (vT r):=by
 refine bK Tryz.func61 Tryz.ntmps61 fun cx hn=>?_
 unfold m_R04_Place at hm
 refine srs hn ?_
 simp -dsimp
 obtain⟨a,j4,hm⟩:=bnd hm
 refine scE [(2,vT a)] [] ?_ fun Z O hf=>?_
 ·replace hm:=j4
  clear j4
  exact zz
 ·clear j4
  exact zz
theorem c_R04_Mod (k r:Int) (hm:m_R04_Mod k=some r):PureCall Tryz.prog 94 [vI k] (vI r):=by
 refine bK Tryz.func94 Tryz.ntmps94 fun cx hn=>?_
 unfold m_R04_Mod at hm
 refine srs hn ?_
 simp -dsimp
 refine srs hn ?_
 obtain⟨n,h1,hm⟩:=bnd hm
 obtain⟨n1,h2,hm⟩:=bnd hm
 simp -dsimp [h1,h2]
 cases hm
 exact bE ⟨.inr rfl,EE.here (by simp -dsimp)⟩
def F_R04_Apply_1 (cx:Cx) (_k1:Int) (tt:(Int×Int)) (ee:Exit) (Z:Env) (O:Sto):Prop:=match tt with
 | (pX1,pY)=>ee=.exit 0/\EE cx (bw [(3,vX 3),(4,vX 4)] [(3,.box [dI pX1,dI pY]),(4,.box [dI 0,dI 0])]) Z O
theorem l_R04_Apply_1 (cx:Cx) (hn:cx.n=30) (k1:Int) {fu:Nat} {stt:Int×Int×Int} {tt:(Int×Int)} (hh:bh (b_R04_Apply_1 k1) fu stt=some tt) {Z:Env} {O:Sto}
  (hE:bA (fun stt:Int×Int×Int=>match stt with | (i,_pX1,_pY)=>[(0,vI k1),(3,vX 3),(4,vX 4),(5,vI i)]) (fun stt:Int×Int×Int=>match stt with | (_i,pX1,pY)=>[(3,.box [dI pX1,dI pY]),(4,.box [dI 0,dI 0])]) stt Z O):Swp Tryz.prog cx (.loop (bJ [1,1,1,0,1,0,0] (bv Tryz.f63))) Z O (F_R04_Apply_1 cx k1 tt):=by
 refine bC hE hh (F_R04_Apply_1 cx k1) ?_
 rintro⟨i,pX1,pY⟩ r hm Z O hf
 simp only[Fits,bo,bn,and_true] at hf
 unfold b_R04_Apply_1 at hm
 exact zz
theorem c_R04_Apply (k:Int) (p r:Point) (hm:m_R04_Apply k p=some r):PureCall Tryz.prog 63 [vI k,.u (.agg [dI p.X,dI p.Y])] (.u (.agg [dI r.X,dI r.Y])):=by
 refine bK Tryz.func63 Tryz.ntmps63 fun cx hn=>?_
 unfold m_R04_Apply at hm
 refine srs hn ?_
 simp -dsimp
 refine srs hn ?_
 obtain⟨y,h1,hm⟩:=bnd hm
 simp -dsimp
 refine bg (c_R04_Mod k y h1) (dkL hn) ?_
 simp -dsimp
 obtain⟨⟨k1,pX⟩,j5,hm⟩:=bnd hm
 refine scE [(0,vI k1),(3,vX 3),(4,vX 4)] [(3,.box [dI pX,dI p.Y]),(4,.box [dI 0,dI 0])] ?_ fun Z O hf=>?_
 ·replace hm:=j5
  clear j5
  refine srs hn ?_
  simp -dsimp
  rcases bl hm with ⟨c2,hm⟩ | ⟨c2,hm⟩
  ·refine be (by simp -dsimp) c2 ?_
   refine srs hn ?_
   simp -dsimp [c2]
   refine sr1 hn ?_
   simp -dsimp
   cases hm
   exact EE.here (by simp -dsimp)
  ·refine bi (by simp -dsimp) c2 ?_
   refine bd (b9 ?_)
   cases hm
   exact EE.here (by simp -dsimp [c2])
 ·clear j5
  simp only[Fits,bo,bn,and_true] at hf
  refine ba ?_
  refine srs hn ?_
  simp -dsimp
  refine bc ?_
  obtain⟨⟨pX1,pY⟩,g4,hm⟩:=bnd hm
  refine bu (l_R04_Apply_1 cx hn k1 g4) (by
    try dsimp only
    exact EE.here (by simp -dsimp [hf])
  ) fun ee Z O xx=>?_
  exact zz
theorem c_R04_Turn (k:Int) (b r:Box) (hm:m_R04_Turn k b=some r):PureCall Tryz.prog 62 [vI k,.u (.agg [dI b.X,dI b.Y,dI b.W,dI b.H])] (.u (.agg [dI r.X,dI r.Y,dI r.W,dI r.H])):=by
 refine bK Tryz.func62 Tryz.ntmps62 fun cx hn=>?_
 unfold m_R04_Turn at hm
 refine srs hn ?_
 simp -dsimp
 refine ba ?_
 refine srs hn ?_
 obtain⟨y,h1,hm⟩:=bnd hm
 simp -dsimp
 refine bg (c_R03_Right b y h1) (dkL hn) ?_
 simp -dsimp
 rcases bl hm with ⟨c2,hm⟩ | ⟨c2,hm⟩
 ·exact zz
 ·refine bi (by simp -dsimp) c2 ?_
  refine bd (b9 ?_)
  refine srs hn ?_
  obtain⟨y1,h3,hm⟩:=bnd hm
  simp -dsimp [c2]
  refine bg (c_R04_Apply k (⟨b.X,b.Y⟩:Point) y1 h3) (dkL hn) ?_
  simp -dsimp
  refine srs hn ?_
  obtain⟨y2,h4,hm⟩:=bnd hm
  simp -dsimp
  refine bg (c_R04_Apply k (⟨(br .i64 (bk .i64 b.X b.W) 1),(br .i64 (bk .i64 b.Y b.H) 1)⟩:Point) y2 h4) (dkL hn) ?_
  simp -dsimp
  refine cO bq mixed (by rw[hn]; kernel_rfl) ?_
  simp -dsimp
  refine srs hn ?_
  simp -dsimp
  cases hm
  exact bE ⟨.inr rfl,EE.here (by simp -dsimp)⟩
theorem c_R04_Within (k:Int) (b:Box) (p r:Point) (hm:m_R04_Within k b p=some r):PureCall Tryz.prog 27 [vI k,.u (.agg [dI b.X,dI b.Y,dI b.W,dI b.H]),.u (.agg [dI p.X,dI p.Y])] (.u (.agg [dI r.X,dI r.Y])):=by
 refine bK Tryz.func27 Tryz.ntmps27 fun cx hn=>?_
 unfold m_R04_Within at hm
 refine srs hn ?_
 simp -dsimp
 refine ba ?_
 obtain⟨a,j7,hm⟩:=bnd hm
 refine scE [(0,vI k),(4,vX 4),(5,vX 5),(6,vX 6),(16,vT a)] [(4,.box [dI b.X,dI b.Y,dI b.W,dI b.H]),(5,.box [dI p.X,dI p.Y]),(6,.box [dI 0,dI 0])] ?_ fun Z O hf=>?_
 ·replace hm:=j7
  clear j7
  refine sr1 hn ?_
  obtain⟨y,h1,hm⟩:=bnd hm
  simp -dsimp
  refine bg (c_R03_Right b y h1) (dkL hn) ?_
  rcases bl hm with ⟨c2,hm⟩ | ⟨c2,hm⟩
  ·exact zz
  ·obtain⟨y1,h3,hm⟩:=bnd hm
   simp -dsimp [c2]
   refine bg (c_R04_Place p y1 h3) (dkL hn) ?_
   exact zz
 ·clear j7
  simp only[Fits,bo,bn,and_true] at hf
  rcases bl hm with ⟨c4,hm⟩ | ⟨c4,hm⟩
  ·exact zz
  ·refine bi (by simp -dsimp [hf]) c4 ?_
   refine bd (b9 ?_)
   refine srs hn ?_
   obtain⟨y,h5,hm⟩:=bnd hm
   simp -dsimp [hf]
   refine bg (c_R04_Turn k b y h5) (dkL hn) ?_
   simp -dsimp
   refine srs hn ?_
   obtain⟨y1,h6,hm⟩:=bnd hm
   simp -dsimp [hf]
   refine bg (c_R04_Apply k p y1 h6) (dkL hn) ?_
   exact zz
def fS (cx:Cx) (al:Int) (_a _b:List Int) (tt:(List (List Int))) (ee:Exit) (Z:Env) (O:Sto):Prop:=match tt with
 | l=>ee=.exit 0/\EE cx (bw [(3,vX 3),(6,vX 6)] [(3,.box [dI al,.own 5002]),(6,.box [dI 0,.d .nil]),(5002,.row 1 26 (List.map (rS 1 (rI .i64)) l))]) Z O
theorem l_R45_same_o_1 (cx:Cx) (hn:cx.n=39) (_hk:cx.k=1) (al:Int) (a b:List Int) {fu:Nat} {stt:Int×(List (List Int))} {tt:(List (List Int))} (hh:bh (b_R45_same_o_1 al a b) fu stt=some tt) {Z:Env} {O:Sto}
  (hE:bA (fun stt:Int×(List (List Int))=>match stt with | (k,_l)=>[(1,.u (.one (dL a))),(2,.u (.one (dL b))),(3,vX 3),(6,vX 6),(7,vI k)]) (fun stt:Int×(List (List Int))=>match stt with | (_k,l)=>[(3,.box [dI al,.own 5002]),(6,.box [dI 0,.d .nil]),(5002,.row 1 26 (List.map (rS 1 (rI .i64)) l))]) stt Z O):Swp Tryz.prog cx (.loop (bJ [1,0,1,0,0] (bv Tryz.f28))) Z O (fS cx al a b tt):=by
 refine bC hE hh (fS cx al a b) ?_
 rintro⟨k,l⟩ r hm Z O hf
 simp only[Fits,bo,bn,and_true] at hf
 unfold b_R45_same_o_1 at hm
 dsimp only at hm
 refine ba ?_
 refine srs hn ?_
 simp -dsimp [hf]
 rcases bl hm with ⟨c1,hm⟩ | ⟨c1,hm⟩
 ·refine be (by simp -dsimp) c1 ?_
  refine bd (b9 (ba (bc ?_)))
  refine fg bq mixed 11 (by rw[hn]; kernel_rfl) ?_
  dsimp only [List.take,List.drop]
  obtain⟨x,h2,hm⟩:=bnd hm
  obtain⟨x1,h3,hm⟩:=bnd hm
  obtain⟨y,h4,hm⟩:=bnd hm
  simp -dsimp [hf,c1,h2,h3]
  refine clg (da al l [(bH .i64 x),x1] y h4) [5002] [5000] (by simp -dsimp [hf]) (dkL hn) ?_
  simp -dsimp [hf]
  refine dl bq mixed 11 (by rw[hn]; kernel_rfl) ?_
  dsimp only [List.take,List.drop]
  obtain⟨y1,h5,hm⟩:=bnd hm
  simp -dsimp [hf,h2,h3]
  refine clg (da al (l++[(([]++[(bH .i64 x),x1])++[])]) [x,(bH .i64 x1)] y1 h5) [5000] [5001] (by simp -dsimp) (dkL hn) ?_
  simp -dsimp [hf]
  refine bD ?_
  refine b9 ?_
  refine sr1 hn ?_
  simp -dsimp [hf]
  cases hm
  refine bI ?_
  refine emv 5001 5002 ?_
  exact zz
 ·exact zz
theorem g_R45_same_o (al:Int) (az:List (List Int)) (a b:List Int) (r:List (List Int)) (hm:m_R45_same_o al az a b=some r):GFn Tryz.prog 28 [.u (.agg [dI al,.own 1000000]),.u (.one (dL a)),.u (.one (dL b))] [.row 1 26 (List.map (rS 1 (rI .i64)) az)] (.u (.agg [dI al,.own 1000001])) [none,some (.row 1 26 (List.map (rS 1 (rI .i64)) r))]:=by
 refine bG bq _ Tryz.func28 rfl (by kernel_rfl) (by simp[Tryz.ntmps28]) (by simp) (by first | rfl | simp) (by first | rfl | simp) fun cx hn hk=>?_
 replace hn:cx.n=39:=hn.trans Tryz.ntmps28
 replace hk:cx.k=1:=hk
 unfold m_R45_same_o at hm
 refine srs hn ?_
 simp -dsimp
 refine ba ?_
 refine srs hn ?_
 simp -dsimp
 refine bc ?_
 obtain⟨l,g6,hm⟩:=bnd hm
 refine bu (l_R45_same_o_1 cx hn hk al a b g6) (by
   try dsimp only
   refine emv 1000000 5002 ?_
   exact zz
 ) fun ee Z O xx=>?_
 unfold fS at xx
 dsimp only at xx
 obtain⟨rfl,xx⟩:=xx
 refine bz ?_
 refine b9 ?_
 refine see xx fun Z O hf=>?_
 simp only[Fits,bo,bn,and_true] at hf
 refine srs hn ?_
 simp -dsimp [hf]
 refine bE ?_
 cases hm
 refine⟨.inr rfl,?_⟩
 refine emr 5002 1000001 hk ?_
 exact zz
theorem eF (f:Bm) (r:Bool) (hm:m_R45_fits f=some r):PureCall Tryz.prog 29 [.u (.agg [dI f.Vars,.d (.sl 1 (List.map (rS 1 (rI .i64)) f.Clauses))])] (vT r):=by
 refine bK Tryz.func29 Tryz.ntmps29 fun cx hn=>?_
 unfold m_R45_fits at hm
 refine srs hn ?_
 simp -dsimp
 obtain⟨a,j2,hm⟩:=bnd hm
 refine scE [(2,vT a)] [] ?_ fun Z O hf=>?_
 ·replace hm:=j2
  clear j2
  exact zz
 ·clear j2
  exact zz
theorem c_R07_Abs (n r:Int) (hm:m_R07_Abs n=some r):PureCall Tryz.prog 96 [vI n] (vI r):=by
 refine bK Tryz.func96 Tryz.ntmps96 fun cx hn=>?_
 unfold m_R07_Abs at hm
 refine srs hn ?_
 simp -dsimp
 refine srs hn ?_
 simp -dsimp
 cases hm
 exact bE ⟨.inr rfl,EE.here (by simp -dsimp)⟩
def F_R07_Radius_1 (cx:Cx) (_l:List Point) (tt:Int) (ee:Exit) (Z:Env) (O:Sto):Prop:=match tt with
 | n=>ee=.exit 0/\EE cx (bw [(3,vI n)] []) Z O
theorem l_R07_Radius_1 (cx:Cx) (hn:cx.n=29) (l:List Point) {fu:Nat} {stt:Int×Int} {tt:Int} (hh:bh (b_R07_Radius_1 l) fu stt=some tt) {Z:Env} {O:Sto}
  (hE:bA (fun stt:Int×Int=>match stt with | (n,i)=>[(0,.u (.one (dR2 l))),(3,vI n),(4,vI i)]) (fun stt:Int×Int=>match stt with | (_n,_i)=>[]) stt Z O):Swp Tryz.prog cx (.loop (bJ [1,1,1,0,1,0,0] (bv Tryz.f64))) Z O (F_R07_Radius_1 cx l tt):=by
 refine bC hE hh (F_R07_Radius_1 cx l) ?_
 rintro⟨n,i⟩ r hm Z O hf
 simp only[Fits,bo,bn,and_true] at hf
 unfold b_R07_Radius_1 at hm
 dsimp only at hm
 refine ba ?_
 refine srs hn ?_
 simp -dsimp [hf]
 rcases bl hm with ⟨c3,hm⟩ | ⟨c3,hm⟩
 ·refine be (by simp -dsimp) c3 ?_
  refine bd (b9 (ba (bc ?_)))
  refine sw_qt bq mixed (by rw[hn]; kernel_rfl) ?_
  obtain⟨x,h4,hm⟩:=bnd hm
  obtain⟨y1,h5,hm⟩:=bnd hm
  simp -dsimp [hf,c3,h4]
  refine bj (c_R07_Abs x.X y1 h5) ?_
  obtain⟨y2,h6,hm⟩:=bnd hm
  simp -dsimp [hf,h4]
  refine bj (c_R07_Abs x.Y y2 h6) ?_
  simp -dsimp
  refine bD ?_
  refine b9 ?_
  refine sr1 hn ?_
  simp -dsimp [hf]
  cases hm
  refine bI ?_
  exact EE.here (by simp -dsimp [hf])
 ·exact zz
theorem c_R07_Radius (l:List Point) (r:Int) (hm:m_R07_Radius l=some r):PureCall Tryz.prog 64 [.u (.one (dR2 l))] (vI r):=by
 refine bK Tryz.func64 Tryz.ntmps64 fun cx hn=>?_
 unfold m_R07_Radius at hm
 refine srs hn ?_
 simp -dsimp
 refine ba ?_
 refine srs hn ?_
 obtain⟨y,h1,hm⟩:=bnd hm
 simp -dsimp
 refine bg (c_R07_Right l y h1) (dkL hn) ?_
 simp -dsimp
 rcases bl hm with ⟨c2,hm⟩ | ⟨c2,hm⟩
 ·exact zz
 ·refine bi (by simp -dsimp) c2 ?_
  refine bd (b9 ?_)
  refine srs hn ?_
  simp -dsimp [c2]
  refine ba ?_
  refine srs hn ?_
  simp -dsimp
  refine bc ?_
  obtain⟨n,g7,hm⟩:=bnd hm
  refine bu (l_R07_Radius_1 cx hn l g7) (by
    try dsimp only
    exact EE.here (by simp -dsimp)
  ) fun ee Z O xx=>?_
  exact zz
def F_R13_same_1 (cx:Cx) (_a _b:List Int) (tt:Bool ⊕ Unit) (ee:Exit) (Z:Env) (O:Sto):Prop:=match tt with
 | .inl r=>ee=.ret/\EE cx (fun Z O=>∃ v,dd tb Z O Tryz.f120.results.toList=some v/\(v.frz O).free=true/\(v.frz O).wk (vT r)) Z O
 | .inr _u=>ee=.exit 0/\EE cx (bw [] []) Z O
theorem l_R13_same_1 (cx:Cx) (hn:cx.n=26) (a b:List Int) {fu:Nat} {stt:Int} {tt:Bool ⊕ Unit} (hh:bh (b_R13_same_1 a b) fu stt=some tt) {Z:Env} {O:Sto}
  (hE:bA (fun i:Int=>[(0,.u (.one (dL a))),(1,.u (.one (dL b))),(5,vI i)]) (fun _i:Int=>[]) stt Z O):Swp Tryz.prog cx (.loop (bJ [1,1,0,1,0,0] (bv Tryz.f120))) Z O (F_R13_same_1 cx a b tt):=by
 refine bC hE hh (F_R13_same_1 cx a b) ?_
 rintro i r hm Z O hf
 simp only[Fits,bo,bn,and_true] at hf
 unfold b_R13_same_1 at hm
 exact zz
theorem c_R13_same (a b:List Int) (r:Bool) (hm:m_R13_same a b=some r):PureCall Tryz.prog 120 [.u (.one (dL a)),.u (.one (dL b))] (vT r):=by
 refine bK Tryz.func120 Tryz.ntmps120 fun cx hn=>?_
 unfold m_R13_same at hm
 refine srs hn ?_
 simp -dsimp
 refine ba ?_
 refine srs hn ?_
 simp -dsimp
 rcases bl hm with ⟨c1,hm⟩ | ⟨c1,hm⟩
 ·exact zz
 ·refine scf c1 ?_
  refine bd (b9 (ba ?_))
  refine srs hn ?_
  simp -dsimp [c1]
  refine bc ?_
  obtain⟨o_,g6,hm⟩:=bnd hm
  refine bu (l_R13_same_1 cx hn a b g6) (by
    try dsimp only
    exact EE.here (by simp -dsimp)
  ) fun ee Z O xx=>?_
  rcases o_ with r | _u
  ·exact zz
  ·exact zz
end Go.Proofs.YtnkmjlncmlmnbaaGreatDoor
namespace Go.Proofs.YtnkmjlncmlmnbaaGreatDoor
open Go.AM Go.Proofs
set_option maxRecDepth 100000
attribute [-simp] qlookup cb cL Ob.wipe Ob.ren Ob.frz1
def eU (cx:Cx) (l:List Node) (i:Int) (am:List Int) (nexts:List (List Int)) (tt:(List Int)) (ee:Exit) (Z:Env) (O:Sto):Prop:=match tt with
 | next=>ee=.exit 2/\EE cx (bw [(0,.u (.one (dR1 l))),(3,vO 5001),(4,vO 5002),(5,vI i),(6,vO 5000)] [(5000,.row 1 3 (List.map (rI .i64) next)),(5001,.row 1 3 (List.map (rI .i64) am)),(5002,.row 1 26 (List.map (rS 1 (rI .i64)) nexts))]) Z O
theorem l_R13_classes_2 (cx:Cx) (hn:cx.n=85) (l:List Node) (i:Int) (am:List Int) (nexts:List (List Int)) {fu:Nat} {stt:Int×(List Int)} {tt:(List Int)} (hh:bh (b_R13_classes_2 l i am nexts) fu stt=some tt) {Z:Env} {O:Sto}
  (hE:bA (fun stt:Int×(List Int)=>match stt with | (s,_next)=>[(0,.u (.one (dR1 l))),(3,vO 5001),(4,vO 5002),(5,vI i),(6,vO 5000),(7,vI s)]) (fun stt:Int×(List Int)=>match stt with | (_s,next)=>[(5000,.row 1 3 (List.map (rI .i64) next)),(5001,.row 1 3 (List.map (rI .i64) am)),(5002,.row 1 26 (List.map (rS 1 (rI .i64)) nexts))]) stt Z O):Swp Tryz.prog cx (.loop (bJ [1,1,1,0,1,0,0,1,0,0,1,0,1,0,0] (bv Tryz.f113))) Z O (eU cx l i am nexts tt):=by
 refine bC hE hh (eU cx l i am nexts) ?_
 rintro⟨s,next⟩ r hm Z O hf
 simp only[Fits,bo,bn,and_true] at hf
 unfold b_R13_classes_2 at hm
 dsimp only at hm
 refine ba ?_
 refine srs hn ?_
 obtain⟨x,h2,hm⟩:=bnd hm
 simp -dsimp [hf,h2]
 rcases bl hm with ⟨c3,hm⟩ | ⟨c3,hm⟩
 ·refine be (by simp -dsimp) c3 ?_
  refine bd (b9 (ba (bc ?_)))
  refine srs hn ?_
  obtain⟨x1,h4,hm⟩:=bnd hm
  simp -dsimp [hf,h2,c3,h4]
  obtain⟨k,j8,hm⟩:=bnd hm
  refine scE [(0,.u (.one (dR1 l))),(3,vO 5001),(4,vO 5002),(5,vI i),(6,vO 5000),(7,vI s),(8,vI k)] [(5000,.row 1 3 (List.map (rI .i64) next)),(5001,.row 1 3 (List.map (rI .i64) am)),(5002,.row 1 26 (List.map (rS 1 (rI .i64)) nexts))] ?_ fun Z O hf=>?_
  ·replace hm:=j8
   clear j8
   refine srs hn ?_
   simp -dsimp [hf,h2]
   rcases bl hm with ⟨c5,hm⟩ | ⟨c5,hm⟩
   ·refine be (by simp -dsimp) c5 ?_
    refine sr1 hn ?_
    obtain⟨x2,h6,hm⟩:=bnd hm
    simp -dsimp [hf,c5,h6,bF h6]
    exact zz
   ·exact zz
  ·clear j8
   simp only[Fits,bo,bn,and_true] at hf
   refine sr1 hn ?_
   obtain⟨l1,h7,hm⟩:=bnd hm
   obtain⟨h7a,h7e⟩:=bp h7
   replace h7e:=h7e.symm
   subst h7e
   try simp only[List.length_cons,List.length_nil,Nat.zero_add] at h7a
   simp -dsimp [hf,h7a]
   refine bD ?_
   refine b9 ?_
   refine sr1 hn ?_
   simp -dsimp [hf]
   cases hm
   refine bI ?_
   refine emv 48 5000 ?_
   exact zz
 ·exact zz
def eY (cx:Cx) (l:List Node) (i:Int) (am:List Int) (nexts:List (List Int)) (next:List Int) (tt:Int) (ee:Exit) (Z:Env) (O:Sto):Prop:=match tt with
 | first=>ee=.exit 4/\EE cx (bw [(0,.u (.one (dR1 l))),(3,vO 5001),(4,vO 5002),(5,vI i),(6,vO 5000),(9,vI first)] [(5000,.row 1 3 (List.map (rI .i64) next)),(5001,.row 1 3 (List.map (rI .i64) am)),(5002,.row 1 26 (List.map (rS 1 (rI .i64)) nexts))]) Z O
theorem l_R13_classes_3 (cx:Cx) (hn:cx.n=85) (l:List Node) (i:Int) (am:List Int) (nexts:List (List Int)) (next:List Int) {fu:Nat} {stt:Int×Int} {tt:Int} (hh:bh (b_R13_classes_3 l i am nexts next) fu stt=some tt) {Z:Env} {O:Sto}
  (hE:bA (fun stt:Int×Int=>match stt with | (first,jv)=>[(0,.u (.one (dR1 l))),(3,vO 5001),(4,vO 5002),(5,vI i),(6,vO 5000),(9,vI first),(10,vI jv)]) (fun stt:Int×Int=>match stt with | (_first,_jv)=>[(5000,.row 1 3 (List.map (rI .i64) next)),(5001,.row 1 3 (List.map (rI .i64) am)),(5002,.row 1 26 (List.map (rS 1 (rI .i64)) nexts))]) stt Z O):Swp Tryz.prog cx (.loop (bJ [1,1,1,0,1,0,0,1,0,0,1,1,1,0,1,0,0] (bv Tryz.f113))) Z O (eY cx l i am nexts next tt):=by
 refine bC hE hh (eY cx l i am nexts next) ?_
 rintro⟨first,jv⟩ r hm Z O hf
 simp only[Fits,bo,bn,and_true] at hf
 unfold b_R13_classes_3 at hm
 dsimp only at hm
 refine ba ?_
 refine srs hn ?_
 simp -dsimp [hf]
 rcases bl hm with ⟨c10,hm⟩ | ⟨c10,hm⟩
 ·refine be (by simp -dsimp) c10 ?_
  refine bd (b9 ?_)
  obtain⟨first1,j18,hm⟩:=bnd hm
  refine scE [(0,.u (.one (dR1 l))),(3,vO 5001),(4,vO 5002),(5,vI i),(6,vO 5000),(9,vI first1),(10,vI jv)] [(5000,.row 1 3 (List.map (rI .i64) next)),(5001,.row 1 3 (List.map (rI .i64) am)),(5002,.row 1 26 (List.map (rS 1 (rI .i64)) nexts))] ?_ fun Z O hf=>?_
  ·replace hm:=j18
   clear j18
   refine bc ?_
   obtain⟨a,j17,hm⟩:=bnd hm
   refine scE [(0,.u (.one (dR1 l))),(3,vO 5001),(4,vO 5002),(5,vI i),(6,vO 5000),(9,vI first),(10,vI jv),(74,vT a)] [(5000,.row 1 3 (List.map (rI .i64) next)),(5001,.row 1 3 (List.map (rI .i64) am)),(5002,.row 1 26 (List.map (rS 1 (rI .i64)) nexts))] ?_ fun Z O hf=>?_
   ·replace hm:=j17
    clear j17
    refine sw_qt bq mixed (by rw[hn]; kernel_rfl) ?_
    obtain⟨x,h11,hm⟩:=bnd hm
    obtain⟨x1,h12,hm⟩:=bnd hm
    rcases bl hm with ⟨c13,hm⟩ | ⟨c13,hm⟩
    ·obtain⟨x2,h14,hm⟩:=bnd hm
     obtain⟨y,h15,hm⟩:=bnd hm
     simp -dsimp [hf,c10,h11,h12,c13,h14,bF h14]
     refine qcallL_brw (us':=[.u (.one (dL x2)),.u (.one (dL next))]) (c_R13_same x2 next y h15) (by simp -dsimp [hf]) rfl ?_
     exact zz
    ·exact zz
   ·clear j17
    exact zz
  ·clear j18
   exact zz
 ·exact zz
def F_R13_classes_1 (cx:Cx) (_l:List Node) (tt:(List Int)) (ee:Exit) (Z:Env) (O:Sto):Prop:=match tt with
 | am=>ee=.exit 0/\EE cx (bw [(3,vO 5001)] [(5001,.row 1 3 (List.map (rI .i64) am))]) Z O
theorem l_R13_classes_1 (cx:Cx) (hn:cx.n=85) (l:List Node) {fu:Nat} {stt:Int×(List Int)×(List (List Int))} {tt:(List Int)} (hh:bh (b_R13_classes_1 l) fu stt=some tt) {Z:Env} {O:Sto}
  (hE:bA (fun stt:Int×(List Int)×(List (List Int))=>match stt with | (i,_am,_nexts)=>[(0,.u (.one (dR1 l))),(3,vO 5001),(4,vO 5002),(5,vI i)]) (fun stt:Int×(List Int)×(List (List Int))=>match stt with | (_i,am,nexts)=>[(5001,.row 1 3 (List.map (rI .i64) am)),(5002,.row 1 26 (List.map (rS 1 (rI .i64)) nexts))]) stt Z O):Swp Tryz.prog cx (.loop (bJ [1,1,1,0,1,0,0] (bv Tryz.f113))) Z O (F_R13_classes_1 cx l tt):=by
 refine bC hE hh (F_R13_classes_1 cx l) ?_
 rintro⟨i,am,nexts⟩ r hm Z O hf
 simp only[Fits,bo,bn,and_true] at hf
 unfold b_R13_classes_1 at hm
 dsimp only at hm
 refine ba ?_
 refine srs hn ?_
 simp -dsimp [hf]
 rcases bl hm with ⟨c1,hm⟩ | ⟨c1,hm⟩
 ·refine be (by simp -dsimp) c1 ?_
  refine bd (b9 (ba (bc ?_)))
  refine srs hn ?_
  simp -dsimp [c1]
  refine ba ?_
  refine srs hn ?_
  simp -dsimp
  refine bc ?_
  obtain⟨next,g9,hm⟩:=bnd hm
  refine bu (l_R13_classes_2 cx hn l i am nexts g9) (by
    try dsimp only
    refine EE.step (Wk.own0 6 5000 1 3 (by simp -dsimp) (by decide)) ?_
    exact zz
  ) fun ee Z O xx=>?_
  unfold eU at xx
  dsimp only at xx
  obtain⟨rfl,xx⟩:=xx
  refine bz ?_
  refine b9 ?_
  refine see xx fun Z O hf=>?_
  simp only[Fits,bo,bn,and_true] at hf
  refine srs hn ?_
  simp -dsimp [hf]
  refine ba ?_
  refine srs hn ?_
  simp -dsimp [hf]
  refine bc ?_
  obtain⟨first,g19,hm⟩:=bnd hm
  refine bu (l_R13_classes_3 cx hn l i am nexts next g19) (by
    try dsimp only
    exact EE.here (by simp -dsimp [hf])
  ) fun ee Z O xx=>?_
  unfold eY at xx
  dsimp only at xx
  obtain⟨rfl,xx⟩:=xx
  refine bz ?_
  refine b9 ?_
  refine see xx fun Z O hf=>?_
  simp only[Fits,bo,bn,and_true] at hf
  refine srs hn ?_
  obtain⟨l1,h20,hm⟩:=bnd hm
  obtain⟨h20a,h20e⟩:=bp h20
  replace h20e:=h20e.symm
  subst h20e
  try simp only[List.length_cons,List.length_nil,Nat.zero_add] at h20a
  simp -dsimp [hf,h20a]
  refine Swp.pre (Wk.frz 5000 1 3 (List.map (rI .i64) next) (by simp -dsimp [hf])) ?_
  refine sr1 hn ?_
  obtain⟨l2,h21,hm⟩:=bnd hm
  obtain⟨h21a,h21e⟩:=bp h21
  replace h21e:=h21e.symm
  subst h21e
  try simp only[List.length_cons,List.length_nil,Nat.zero_add] at h21a
  simp -dsimp [hf,h21a]
  refine bD ?_
  refine b9 ?_
  refine sr1 hn ?_
  simp -dsimp [hf]
  cases hm
  refine bI ?_
  refine emv 79 5001 ?_
  refine emv 83 5002 ?_
  exact zz
 ·exact zz
theorem c_R13_classes (l:List Node) (r:List Int) (hm:m_R13_classes l=some r):PureCall Tryz.prog 113 [.u (.one (dR1 l))] (.u (.one (dL r))):=by
 refine bK Tryz.func113 Tryz.ntmps113 fun cx hn=>?_
 unfold m_R13_classes at hm
 refine srs hn ?_
 simp -dsimp
 refine srs hn ?_
 simp -dsimp
 refine srs hn ?_
 simp -dsimp
 refine ba ?_
 refine srs hn ?_
 simp -dsimp
 refine bc ?_
 obtain⟨am,g22,hm⟩:=bnd hm
 refine bu (l_R13_classes_1 cx hn l g22) (by
   try dsimp only
   refine EE.step (Wk.own0 3 5001 1 3 (by simp -dsimp) (by decide)) ?_
   refine EE.step (Wk.own0 4 5002 1 26 (by simp -dsimp) (by decide)) ?_
   exact zz
 ) fun ee Z O xx=>?_
 exact zz
section
attribute [-simp] List.map_set List.set_set
def fx (rcv:((List Node)->(List Int)->Int->(List Int)->(List Node)->Option ((List Int)×(List Node)))):Prop:=∀ (l:List Node) (am:List Int) (i:Int) (done:List Int) (out:List Node) (r:(List Int)×(List Node)),rcv l am i done out=some r->GFn Tryz.prog 114 [.u (.one (dR1 l)),.u (.one (dL am)),vI i,vO 1000000,vO 1000001] [.row 1 3 (List.map (rI .i64) done),.row 2 39 (List.map Node.row out)] (vO 1000002) [some (.row 1 3 (List.map (rI .i64) r.1)),none,some (.row 2 39 (List.map Node.row r.2))]
def ez (cx:Cx) (_rcv:((List Node)->(List Int)->Int->(List Int)->(List Node)->Option ((List Int)×(List Node)))) (_l:List Node) (_am:List Int) (i:Int) (_out:List Node) (x1:Node) (tt:((List Int)×(List Node)×(List Int))) (ee:Exit) (Z:Env) (O:Sto):Prop:=match tt with
 | (l1,aN,aH)=>ee=.exit 0/\EE cx (bw [(2,vI i),(3,vO 1000000),(4,vO 5003),(11,vX 11)] [(11,.box [dI x1.Level,.own 5000]),(5000,.row 1 3 (List.map (rI .i64) l1)),(5003,.row 2 39 (List.map Node.row aN)),(1000000,.row 1 3 (List.map (rI .i64) aH))]) Z O
theorem l_R13_walk_o_o_1 (cx:Cx) (hn:cx.n=76) (_hk:cx.k=2) (rcv:((List Node)->(List Int)->Int->(List Int)->(List Node)->Option ((List Int)×(List Node)))) (l:List Node) (am:List Int) (i:Int) (out:List Node) (x1:Node) (hrcv:fx rcv) {fu:Nat} {stt:Int×(List Int)×(List Node)×(List Int)} {tt:((List Int)×(List Node)×(List Int))} (hh:bh (b_R13_walk_o_o_1 rcv l am i out x1) fu stt=some tt) {Z:Env} {O:Sto}
  (hE:bA (fun stt:Int×(List Int)×(List Node)×(List Int)=>match stt with | (s,_l1,_aN,_aH)=>[(0,.u (.one (dR1 l))),(1,.u (.one (dL am))),(2,vI i),(3,vO 1000000),(4,vO 5003),(11,vX 11),(12,vI s)]) (fun stt:Int×(List Int)×(List Node)×(List Int)=>match stt with | (_s,l1,aN,aH)=>[(11,.box [dI x1.Level,.own 5000]),(5000,.row 1 3 (List.map (rI .i64) l1)),(5003,.row 2 39 (List.map Node.row aN)),(1000000,.row 1 3 (List.map (rI .i64) aH))]) stt Z O):Swp Tryz.prog cx (.loop (bJ [1,1,1,0,1,0,0] (bv Tryz.f114))) Z O (ez cx rcv l am i out x1 tt):=by
 refine bC hE hh (ez cx rcv l am i out x1) ?_
 rintro⟨s,l1,aN,aH⟩ r hm Z O hf
 simp only[Fits,bo,bn,and_true] at hf
 unfold b_R13_walk_o_o_1 at hm
 dsimp only at hm
 refine ba ?_
 refine srs hn ?_
 obtain⟨x2,h4,hm⟩:=bnd hm
 simp -dsimp [hf,h4]
 rcases bl hm with ⟨c5,hm⟩ | ⟨c5,hm⟩
 ·refine be (by simp -dsimp) c5 ?_
  refine bd (b9 (ba (bc ?_)))
  refine srs hn ?_
  obtain⟨x3,h6,hm⟩:=bnd hm
  simp -dsimp [hf,h4,c5,h6]
  obtain⟨⟨k,out2,b0⟩,j12,hm⟩:=bnd hm
  refine scE [(0,.u (.one (dR1 l))),(1,.u (.one (dL am))),(2,vI i),(3,vO 1000000),(4,vO 5003),(11,vX 11),(12,vI s),(13,vI k)] [(11,.box [dI x1.Level,.own 5000]),(5000,.row 1 3 (List.map (rI .i64) l1)),(5003,.row 2 39 (List.map Node.row out2)),(1000000,.row 1 3 (List.map (rI .i64) b0))] ?_ fun Z O hf=>?_
  ·replace hm:=j12
   clear j12
   refine srs hn ?_
   simp -dsimp [hf]
   rcases bl hm with ⟨c7,hm⟩ | ⟨c7,hm⟩
   ·refine be (by simp -dsimp) c7 ?_
    refine srs hn ?_
    obtain⟨x4,h8,hm⟩:=bnd hm
    simp -dsimp [hf,c7,h8]
    refine srs hn ?_
    obtain⟨y,h9,hm⟩:=bnd hm
    simp -dsimp [hf]
    refine clg (hrcv l am x4 aH aN y h9) [1000000,5003] [5002] (by simp -dsimp [hf]) (dkL hn) ?_
    simp -dsimp
    refine sr1 hn ?_
    obtain⟨x5,h10,hm⟩:=bnd hm
    simp -dsimp [hf,h10,bF h10]
    refine b9 ?_
    cases hm
    refine emv 5002 5003 ?_
    exact zz
   ·exact zz
  ·clear j12
   simp only[Fits,bo,bn,and_true] at hf
   refine sr1 hn ?_
   obtain⟨l2,h11,hm⟩:=bnd hm
   obtain⟨h11a,h11e⟩:=bp h11
   replace h11e:=h11e.symm
   subst h11e
   try simp only[List.length_cons,List.length_nil,Nat.zero_add] at h11a
   simp -dsimp [hf,h11a]
   refine bD ?_
   refine b9 ?_
   refine sr1 hn ?_
   simp -dsimp [hf]
   cases hm
   refine bI ?_
   refine emv 65 5000 ?_
   exact zz
 ·exact zz
theorem fb_R13_walk_o_o (rcv:((List Node)->(List Int)->Int->(List Int)->(List Node)->Option ((List Int)×(List Node)))) (hrcv:fx rcv) (l:List Node) (am:List Int) (i:Int) (done:List Int) (out:List Node) (r:(List Int)×(List Node)) (hm:mb_R13_walk_o_o rcv l am i done out=some r):GFn Tryz.prog 114 [.u (.one (dR1 l)),.u (.one (dL am)),vI i,vO 1000000,vO 1000001] [.row 1 3 (List.map (rI .i64) done),.row 2 39 (List.map Node.row out)] (vO 1000002) [some (.row 1 3 (List.map (rI .i64) r.1)),none,some (.row 2 39 (List.map Node.row r.2))]:=by
 refine bG bq _ Tryz.func114 rfl (by kernel_rfl) (by simp[Tryz.ntmps114]) (by simp) (by first | rfl | simp) (by first | rfl | simp) fun cx hn hk=>?_
 replace hn:cx.n=76:=hn.trans Tryz.ntmps114
 replace hk:cx.k=2:=hk
 unfold mb_R13_walk_o_o at hm
 refine srs hn ?_
 simp -dsimp
 refine ba ?_
 refine srs hn ?_
 obtain⟨x,h1,hm⟩:=bnd hm
 simp -dsimp [h1,bF h1]
 rcases bl hm with ⟨c2,hm⟩ | ⟨c2,hm⟩
 ·refine be (by simp -dsimp) c2 ?_
  refine srs hn ?_
  simp -dsimp [c2]
  refine bE (eZ ?_)
  cases hm
  refine⟨.inr rfl,?_⟩
  refine emr 1000001 1000002 hk ?_
  exact zz
 ·refine bi (by simp -dsimp) c2 ?_
  refine bd (b9 ?_)
  refine srs hn ?_
  obtain⟨x1,h3,hm⟩:=bnd hm
  simp -dsimp [c2,h3]
  refine ba ?_
  refine srs hn ?_
  simp -dsimp
  refine bc ?_
  obtain⟨⟨l1,aN,aH⟩,g13,hm⟩:=bnd hm
  refine bu (l_R13_walk_o_o_1 cx hn hk rcv l am i out x1 hrcv g13) (by
    try dsimp only
    refine emv 1000001 5003 ?_
    refine EE.step (Wk.own0b 11 1 5000 1 3 [dI x1.Level,.d .nil] (by simp -dsimp) (by rfl) (by decide) (by decide)) ?_
    exact zz
  ) fun ee Z O xx=>?_
  unfold ez at xx
  dsimp only at xx
  obtain⟨rfl,xx⟩:=xx
  refine bz ?_
  refine b9 ?_
  refine see xx fun Z O hf=>?_
  simp only[Fits,bo,bn,and_true] at hf
  refine srs hn ?_
  obtain⟨x2,h14,hm⟩:=bnd hm
  simp -dsimp [hf,h14,bF h14,rsetI .i64 aH i.toNat (bf aN)]
  refine Swp.pre (Wk.frz 5000 1 3 (List.map (rI .i64) l1) (by simp -dsimp [hf])) ?_
  refine srs hn ?_
  obtain⟨l2,h15,hm⟩:=bnd hm
  obtain⟨h15a,h15e⟩:=bp h15
  replace h15e:=h15e.symm
  subst h15e
  try simp only[List.length_cons,List.length_nil,Nat.zero_add] at h15a
  simp -dsimp [hf,h15a]
  refine bE ?_
  cases hm
  refine⟨.inr rfl,?_⟩
  refine emr 75 1000002 hk ?_
  exact zz
theorem g_R13_walk_o_o (l:List Node) (am:List Int) (i:Int) (done:List Int) (out:List Node) (r:(List Int)×(List Node)) (hm:m_R13_walk_o_o l am i done out=some r):GFn Tryz.prog 114 [.u (.one (dR1 l)),.u (.one (dL am)),vI i,vO 1000000,vO 1000001] [.row 1 3 (List.map (rI .i64) done),.row 2 39 (List.map Node.row out)] (vO 1000002) [some (.row 1 3 (List.map (rI .i64) r.1)),none,some (.row 2 39 (List.map Node.row r.2))]:=recN_ind fx (by intro _; intro _; intro _; intro _; intro _; intro _; intro hm; cases hm) fb_R13_walk_o_o recF l am i done out r hm
end
section
attribute [-simp] List.map_set List.set_set
def H_R13_walk_o_N (rcv:((List Node)->(List Int)->Int->(List Int)->Option ((List Int)×(List Node)))):Prop:=∀ (l:List Node) (am:List Int) (i:Int) (done:List Int) (r:(List Int)×(List Node)),rcv l am i done=some r->GFn Tryz.prog 114 [.u (.one (dR1 l)),.u (.one (dL am)),vI i,vO 1000000,.u (.one (.d .nil))] [.row 1 3 (List.map (rI .i64) done)] (vO 1000001) [some (.row 1 3 (List.map (rI .i64) r.1)),some (.row 2 39 (List.map Node.row r.2))]
def eG (cx:Cx) (_l:List Node) (_am:List Int) (i:Int) (x1:Node) (tt:((List Int)×(List Node)×(List Int))) (ee:Exit) (Z:Env) (O:Sto):Prop:=match tt with
 | (l1,out,aH)=>ee=.exit 0/\EE cx (bw [(2,vI i),(3,vO 1000000),(4,vO 5003),(11,vX 11)] [(11,.box [dI x1.Level,.own 5000]),(5000,.row 1 3 (List.map (rI .i64) l1)),(5003,.row 2 39 (List.map Node.row out)),(1000000,.row 1 3 (List.map (rI .i64) aH))]) Z O
theorem l_R13_walk_o_N_1 (cx:Cx) (hn:cx.n=76) (_hk:cx.k=1) (l:List Node) (am:List Int) (i:Int) (x1:Node) {fu:Nat} {stt:Int×(List Int)×(List Node)×(List Int)} {tt:((List Int)×(List Node)×(List Int))} (hh:bh (b_R13_walk_o_N_1 l am i x1) fu stt=some tt) {Z:Env} {O:Sto}
  (hE:bA (fun stt:Int×(List Int)×(List Node)×(List Int)=>match stt with | (s,_l1,_out,_aH)=>[(0,.u (.one (dR1 l))),(1,.u (.one (dL am))),(2,vI i),(3,vO 1000000),(4,vO 5003),(11,vX 11),(12,vI s)]) (fun stt:Int×(List Int)×(List Node)×(List Int)=>match stt with | (_s,l1,out,aH)=>[(11,.box [dI x1.Level,.own 5000]),(5000,.row 1 3 (List.map (rI .i64) l1)),(5003,.row 2 39 (List.map Node.row out)),(1000000,.row 1 3 (List.map (rI .i64) aH))]) stt Z O):Swp Tryz.prog cx (.loop (bJ [1,1,1,0,1,0,0] (bv Tryz.f114))) Z O (eG cx l am i x1 tt):=by
 refine bC hE hh (eG cx l am i x1) ?_
 rintro⟨s,l1,out,aH⟩ r hm Z O hf
 simp only[Fits,bo,bn,and_true] at hf
 unfold b_R13_walk_o_N_1 at hm
 dsimp only at hm
 refine ba ?_
 refine srs hn ?_
 obtain⟨x2,h4,hm⟩:=bnd hm
 simp -dsimp [hf,h4]
 rcases bl hm with ⟨c5,hm⟩ | ⟨c5,hm⟩
 ·refine be (by simp -dsimp) c5 ?_
  refine bd (b9 (ba (bc ?_)))
  refine srs hn ?_
  obtain⟨x3,h6,hm⟩:=bnd hm
  simp -dsimp [hf,h4,c5,h6]
  obtain⟨⟨k,aN,b0⟩,j12,hm⟩:=bnd hm
  refine scE [(0,.u (.one (dR1 l))),(1,.u (.one (dL am))),(2,vI i),(3,vO 1000000),(4,vO 5003),(11,vX 11),(12,vI s),(13,vI k)] [(11,.box [dI x1.Level,.own 5000]),(5000,.row 1 3 (List.map (rI .i64) l1)),(5003,.row 2 39 (List.map Node.row aN)),(1000000,.row 1 3 (List.map (rI .i64) b0))] ?_ fun Z O hf=>?_
  ·replace hm:=j12
   clear j12
   refine srs hn ?_
   simp -dsimp [hf]
   rcases bl hm with ⟨c7,hm⟩ | ⟨c7,hm⟩
   ·refine be (by simp -dsimp) c7 ?_
    refine srs hn ?_
    obtain⟨x4,h8,hm⟩:=bnd hm
    simp -dsimp [hf,c7,h8]
    refine srs hn ?_
    obtain⟨y,h9,hm⟩:=bnd hm
    simp -dsimp [hf]
    refine clg (g_R13_walk_o_o l am x4 aH out y h9) [1000000,5003] [5002] (by simp -dsimp [hf]) (dkL hn) ?_
    simp -dsimp
    refine sr1 hn ?_
    obtain⟨x5,h10,hm⟩:=bnd hm
    simp -dsimp [hf,h10,bF h10]
    refine b9 ?_
    cases hm
    refine emv 5002 5003 ?_
    exact zz
   ·exact zz
  ·clear j12
   simp only[Fits,bo,bn,and_true] at hf
   refine sr1 hn ?_
   obtain⟨l2,h11,hm⟩:=bnd hm
   obtain⟨h11a,h11e⟩:=bp h11
   replace h11e:=h11e.symm
   subst h11e
   try simp only[List.length_cons,List.length_nil,Nat.zero_add] at h11a
   simp -dsimp [hf,h11a]
   refine bD ?_
   refine b9 ?_
   refine sr1 hn ?_
   simp -dsimp [hf]
   cases hm
   refine bI ?_
   refine emv 65 5000 ?_
   exact zz
 ·exact zz
theorem fb_R13_walk_o_N (rcv:((List Node)->(List Int)->Int->(List Int)->Option ((List Int)×(List Node)))) (_hrcv:H_R13_walk_o_N rcv) (l:List Node) (am:List Int) (i:Int) (done:List Int) (r:(List Int)×(List Node)) (hm:mb_R13_walk_o_N rcv l am i done=some r):GFn Tryz.prog 114 [.u (.one (dR1 l)),.u (.one (dL am)),vI i,vO 1000000,.u (.one (.d .nil))] [.row 1 3 (List.map (rI .i64) done)] (vO 1000001) [some (.row 1 3 (List.map (rI .i64) r.1)),some (.row 2 39 (List.map Node.row r.2))]:=by
 refine bG bq _ Tryz.func114 rfl (by kernel_rfl) (by simp[Tryz.ntmps114]) (by simp) (by first | rfl | simp) (by first | rfl | simp) fun cx hn hk=>?_
 replace hn:cx.n=76:=hn.trans Tryz.ntmps114
 replace hk:cx.k=1:=hk
 unfold mb_R13_walk_o_N at hm
 refine srs hn ?_
 simp -dsimp
 refine ba ?_
 refine srs hn ?_
 obtain⟨x,h1,hm⟩:=bnd hm
 simp -dsimp [h1,bF h1]
 rcases bl hm with ⟨c2,hm⟩ | ⟨c2,hm⟩
 ·refine be (by simp -dsimp) c2 ?_
  refine srs hn ?_
  simp -dsimp [c2]
  refine bE (eZ ?_)
  cases hm
  refine⟨.inr rfl,?_⟩
  refine emr 5001 1000001 hk ?_
  refine EE.step (Wk.own0 10 5001 2 39 (by simp -dsimp) (by decide)) ?_
  refine emr 5001 1000001 hk ?_
  exact zz
 ·refine bi (by simp -dsimp) c2 ?_
  refine bd (b9 ?_)
  refine srs hn ?_
  obtain⟨x1,h3,hm⟩:=bnd hm
  simp -dsimp [c2,h3]
  refine ba ?_
  refine srs hn ?_
  simp -dsimp
  refine bc ?_
  obtain⟨⟨l1,out,aH⟩,g13,hm⟩:=bnd hm
  refine bu (l_R13_walk_o_N_1 cx hn hk l am i x1 g13) (by
    try dsimp only
    refine EE.step (Wk.own0 4 5003 2 39 (by simp -dsimp) (by decide)) ?_
    refine EE.step (Wk.own0b 11 1 5000 1 3 [dI x1.Level,.d .nil] (by simp -dsimp) (by rfl) (by decide) (by decide)) ?_
    exact zz
  ) fun ee Z O xx=>?_
  unfold eG at xx
  dsimp only at xx
  obtain⟨rfl,xx⟩:=xx
  refine bz ?_
  refine b9 ?_
  refine see xx fun Z O hf=>?_
  simp only[Fits,bo,bn,and_true] at hf
  refine srs hn ?_
  obtain⟨x2,h14,hm⟩:=bnd hm
  simp -dsimp [hf,h14,bF h14,rsetI .i64 aH i.toNat (bf out)]
  refine Swp.pre (Wk.frz 5000 1 3 (List.map (rI .i64) l1) (by simp -dsimp [hf])) ?_
  refine srs hn ?_
  obtain⟨l2,h15,hm⟩:=bnd hm
  obtain⟨h15a,h15e⟩:=bp h15
  replace h15e:=h15e.symm
  subst h15e
  try simp only[List.length_cons,List.length_nil,Nat.zero_add] at h15a
  simp -dsimp [hf,h15a]
  refine bE ?_
  cases hm
  refine⟨.inr rfl,?_⟩
  refine emr 75 1000001 hk ?_
  exact zz
theorem g_R13_walk_o_N (l:List Node) (am:List Int) (i:Int) (done:List Int) (r:(List Int)×(List Node)) (hm:m_R13_walk_o_N l am i done=some r):GFn Tryz.prog 114 [.u (.one (dR1 l)),.u (.one (dL am)),vI i,vO 1000000,.u (.one (.d .nil))] [.row 1 3 (List.map (rI .i64) done)] (vO 1000001) [some (.row 1 3 (List.map (rI .i64) r.1)),some (.row 2 39 (List.map Node.row r.2))]:=recN_ind H_R13_walk_o_N (by intro _; intro _; intro _; intro _; intro _; intro hm; cases hm) fb_R13_walk_o_N recF l am i done r hm
end
def eT (cx:Cx) (l:List Node) (y:List Int) (tt:(List Int)) (ee:Exit) (Z:Env) (O:Sto):Prop:=match tt with
 | done=>ee=.exit 0/\EE cx (bw [(0,.u (.one (dR1 l))),(3,.u (.one (dL y))),(4,vO 5000)] [(5000,.row 1 3 (List.map (rI .i64) done))]) Z O
theorem l_R13_reduced_1 (cx:Cx) (hn:cx.n=27) (l:List Node) (y:List Int) {fu:Nat} {stt:Int×(List Int)} {tt:(List Int)} (hh:bh (b_R13_reduced_1 l y) fu stt=some tt) {Z:Env} {O:Sto}
  (hE:bA (fun stt:Int×(List Int)=>match stt with | (i,_done)=>[(0,.u (.one (dR1 l))),(3,.u (.one (dL y))),(4,vO 5000),(5,vI i)]) (fun stt:Int×(List Int)=>match stt with | (_i,done)=>[(5000,.row 1 3 (List.map (rI .i64) done))]) stt Z O):Swp Tryz.prog cx (.loop (bJ [1,1,1,0,1,0,0] (bv Tryz.f97))) Z O (eT cx l y tt):=by
 refine bC hE hh (eT cx l y) ?_
 rintro⟨i,done⟩ r hm Z O hf
 simp only[Fits,bo,bn,and_true] at hf
 unfold b_R13_reduced_1 at hm
 dsimp only at hm
 refine ba ?_
 refine srs hn ?_
 simp -dsimp [hf]
 rcases bl hm with ⟨c2,hm⟩ | ⟨c2,hm⟩
 ·refine be (by simp -dsimp) c2 ?_
  refine bd (b9 (ba (bc ?_)))
  refine sr1 hn ?_
  obtain⟨l1,h3,hm⟩:=bnd hm
  obtain⟨h3a,h3e⟩:=bp h3
  replace h3e:=h3e.symm
  subst h3e
  try simp only[List.length_cons,List.length_nil,Nat.zero_add] at h3a
  simp -dsimp [hf,c2,h3a]
  refine bD ?_
  refine b9 ?_
  refine sr1 hn ?_
  simp -dsimp [hf]
  cases hm
  refine bI ?_
  refine emv 16 5000 ?_
  exact zz
 ·exact zz
theorem c_R13_reduced (l r:List Node) (hm:m_R13_reduced l=some r):PureCall Tryz.prog 97 [.u (.one (dR1 l))] (.u (.one (dR1 r))):=by
 refine bK Tryz.func97 Tryz.ntmps97 fun cx hn=>?_
 unfold m_R13_reduced at hm
 refine srs hn ?_
 simp -dsimp
 refine srs hn ?_
 obtain⟨y,h1,hm⟩:=bnd hm
 simp -dsimp
 refine bg (c_R13_classes l y h1) (dkL hn) ?_
 simp -dsimp
 refine srs hn ?_
 simp -dsimp
 refine ba ?_
 refine srs hn ?_
 simp -dsimp
 refine bc ?_
 obtain⟨done,g4,hm⟩:=bnd hm
 refine bu (l_R13_reduced_1 cx hn l y g4) (by
   try dsimp only
   refine EE.step (Wk.own0 4 5000 1 3 (by simp -dsimp) (by decide)) ?_
   exact zz
 ) fun ee Z O xx=>?_
 unfold eT at xx
 dsimp only at xx
 obtain⟨rfl,xx⟩:=xx
 refine bz ?_
 refine b9 ?_
 refine see xx fun Z O hf=>?_
 simp only[Fits,bo,bn,and_true] at hf
 refine srs hn ?_
 obtain⟨x,h5,hm⟩:=bnd hm
 obtain⟨y1,h6,hm⟩:=bnd hm
 simp -dsimp [hf,h5]
 refine clg (g_R13_walk_o_N l y x done y1 h6) [5000] [5001] (by simp -dsimp [hf]) (dkL hn) ?_
 exact zz
theorem c_R13_Reduce (t r:Tree) (hm:m_R13_Reduce t=some r):PureCall Tryz.prog 65 [.u (.agg [dI t.States,dR2 t.Hood,dR1 t.Nodes])] (.u (.agg [dI r.States,dR2 r.Hood,dR1 r.Nodes])):=by
 refine bK Tryz.func65 Tryz.ntmps65 fun cx hn=>?_
 unfold m_R13_Reduce at hm
 refine srs hn ?_
 simp -dsimp
 refine ba ?_
 refine srs hn ?_
 obtain⟨y,h1,hm⟩:=bnd hm
 simp -dsimp
 refine bg (gu t y h1) (dkL hn) ?_
 simp -dsimp
 rcases bl hm with ⟨c2,hm⟩ | ⟨c2,hm⟩
 ·exact zz
 ·refine bi (by simp -dsimp) c2 ?_
  refine bd (b9 ?_)
  refine fg bq mixed 7 (by rw[hn]; kernel_rfl) ?_
  dsimp only [List.take,List.drop]
  obtain⟨y1,h3,hm⟩:=bnd hm
  simp -dsimp [c2]
  refine bj (c_R13_reduced t.Nodes y1 h3) ?_
  exact zz
theorem gY (gv:Bq) (x y:Int) (r:Bp×Bool) (hm:m_R45_at gv x y=some r):PureCall Tryz.prog 66 [.u (.agg [dI gv.box.X,dI gv.box.Y,dI gv.box.W,dI gv.box.H,dR3 gv.of_]),vI x,vI y] (.tup [.agg [dI r.1.State,dL r.1.Vars],.one (.d (.bool r.2))]):=by
 refine bK Tryz.func66 Tryz.ntmps66 fun cx hn=>?_
 unfold m_R45_at at hm
 refine srs hn ?_
 simp -dsimp
 refine srs hn ?_
 simp -dsimp
 refine srs hn ?_
 simp -dsimp
 refine ba ?_
 obtain⟨a,j6,hm⟩:=bnd hm
 refine scE [(1,vI (br .i64 x gv.box.X)),(2,vI (br .i64 y gv.box.Y)),(3,vX 3),(6,vX 6),(37,vT a)] [(3,.box [dI gv.box.X,dI gv.box.Y,dI gv.box.W,dI gv.box.H,dR3 gv.of_]),(6,.box [dI 0,.d .nil])] ?_ fun Z O hf=>?_
 ·replace hm:=j6
  clear j6
  exact zz
 ·clear j6
  exact zz
end Go.Proofs.YtnkmjlncmlmnbaaGreatDoor
