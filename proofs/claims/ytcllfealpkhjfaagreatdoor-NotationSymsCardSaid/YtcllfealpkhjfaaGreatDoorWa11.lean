/- That the code does what the functions say (made by cc.py). -/
import Derived.Test.YtcllfealpkhjfaaGreatDoorWa9
namespace Go.Proofs.YtcllfealpkhjfaaGreatDoor
open Go.AM Go.Proofs
set_option maxRecDepth 100000
attribute [-simp] qlookup cd cW Ob.wipe Ob.ren Ob.frz1
def F_R12_Right_2 (cx:Cx) (t:Tree) (i:Int) (_x:Node) (tt:Bool ⊕ Unit) (ee:Exit) (Z:Env) (O:Sto):Prop:=match tt with
 | .inl r=>ee=.ret/\EE cx (fun Z O=>∃ v,di tb Z O Tryz.f15.results.toList=some v/\(v.frz O).free=true/\(v.frz O).wk (vT r)) Z O
 | .inr _u=>ee=.exit 2/\EE cx (bg [(1,vX 1),(3,vI (aT t.Nodes)),(4,vI i)] [(1,.box [dI t.States,dR1 t.Hood,dR0 t.Nodes])]) Z O
theorem l_R12_Right_2 (cx:Cx) (hn:cx.n=115) (t:Tree) (i:Int) (x:Node) {fu:Nat} {stt:Int} {tt:Bool ⊕ Unit} (hh:aY (b_R12_Right_2 t i x) fu stt=some tt) {Z:Env} {O:Sto}
  (hE:bl (fun s:Int=>[(1,vX 1),(3,vI (aT t.Nodes)),(4,vI i),(5,vX 5),(6,vI s)]) (fun _s:Int=>[(1,.box [dI t.States,dR1 t.Hood,dR0 t.Nodes]),(5,.box [dI x.Level,dL x.Next])]) stt Z O):Swp Tryz.prog cx (.loop (bA [1,1,1,0,1,0,0,1,0,0,1,1,1,0,0] (be Tryz.f15))) Z O (F_R12_Right_2 cx t i x tt):=by
 refine bm hE hh (F_R12_Right_2 cx t i x) ?_
 rintro s r hm Z O hf
 simp only[Fits,b8,b9,and_true] at hf
 unfold b_R12_Right_2 at hm
 dsimp only at hm
 refine aS ?_
 refine srs hn ?_
 simp -dsimp [hf]
 rcases aZ hm with ⟨c12,hm⟩ | ⟨c12,hm⟩
 ·refine aV (by simp -dsimp) c12 ?_
  refine aU (aQ (aS (aW ?_)))
  refine srs hn ?_
  obtain⟨x1,h13,hm⟩:=bnd hm
  simp -dsimp [hf,c12,h13]
  refine aS ?_
  refine srs hn ?_
  simp -dsimp
  rcases aZ hm with ⟨c14,hm⟩ | ⟨c14,hm⟩
  ·exact zz
  ·refine aX (by simp -dsimp) c14 ?_
   refine aU (aQ (aS ?_))
   obtain⟨a2,j22,hm⟩:=bnd hm
   refine scE [(1,vX 1),(3,vI (aT t.Nodes)),(4,vI i),(5,vX 5),(6,vI s),(7,vI x1),(83,vT a2)] [(1,.box [dI t.States,dR1 t.Hood,dR0 t.Nodes]),(5,.box [dI x.Level,dL x.Next])] ?_ fun Z O hf=>?_
   ·replace hm:=j22
    clear j22
    exact zz
   ·clear j22
    simp only[Fits,b8,b9,and_true] at hf
    rcases aZ hm with ⟨c16,hm⟩ | ⟨c16,hm⟩
    ·exact zz
    ·refine aX (by simp -dsimp [hf]) c16 ?_
     refine aU (aQ ?_)
     obtain⟨a3,j21,hm⟩:=bnd hm
     refine scE [(1,vX 1),(3,vI (aT t.Nodes)),(4,vI i),(5,vX 5),(6,vI s),(103,vT a3)] [(1,.box [dI t.States,dR1 t.Hood,dR0 t.Nodes]),(5,.box [dI x.Level,dL x.Next])] ?_ fun Z O hf=>?_
     ·replace hm:=j21
      clear j21
      exact zz
     ·clear j21
      exact zz
 ·exact zz
def F_R12_Right_1 (cx:Cx) (t:Tree) (tt:Bool ⊕ Unit) (ee:Exit) (Z:Env) (O:Sto):Prop:=match tt with
 | .inl r=>ee=.ret/\EE cx (fun Z O=>∃ v,di tb Z O Tryz.f15.results.toList=some v/\(v.frz O).free=true/\(v.frz O).wk (vT r)) Z O
 | .inr _u=>ee=.exit 0/\EE cx (bg [(1,vX 1),(3,vI (aT t.Nodes))] [(1,.box [dI t.States,dR1 t.Hood,dR0 t.Nodes])]) Z O
theorem l_R12_Right_1 (cx:Cx) (hn:cx.n=115) (t:Tree) {fu:Nat} {stt:Int} {tt:Bool ⊕ Unit} (hh:aY (b_R12_Right_1 t) fu stt=some tt) {Z:Env} {O:Sto}
  (hE:bl (fun i:Int=>[(1,vX 1),(3,vI (aT t.Nodes)),(4,vI i)]) (fun _i:Int=>[(1,.box [dI t.States,dR1 t.Hood,dR0 t.Nodes])]) stt Z O):Swp Tryz.prog cx (.loop (bA [1,1,1,0,1,0,0] (be Tryz.f15))) Z O (F_R12_Right_1 cx t tt):=by
 refine bm hE hh (F_R12_Right_1 cx t) ?_
 rintro i r hm Z O hf
 simp only[Fits,b8,b9,and_true] at hf
 unfold b_R12_Right_1 at hm
 dsimp only at hm
 refine aS ?_
 refine srs hn ?_
 simp -dsimp [hf]
 rcases aZ hm with ⟨c7,hm⟩ | ⟨c7,hm⟩
 ·refine aV (by simp -dsimp) c7 ?_
  refine aU (aQ (aS (aW ?_)))
  refine srs hn ?_
  obtain⟨x,h8,hm⟩:=bnd hm
  simp -dsimp [hf,c7,h8]
  refine aS ?_
  obtain⟨a1,j24,hm⟩:=bnd hm
  refine scE [(1,vX 1),(3,vI (aT t.Nodes)),(4,vI i),(5,vX 5),(61,vT a1)] [(1,.box [dI t.States,dR1 t.Hood,dR0 t.Nodes]),(5,.box [dI x.Level,dL x.Next])] ?_ fun Z O hf=>?_
  ·replace hm:=j24
   clear j24
   exact zz
  ·clear j24
   simp only[Fits,b8,b9,and_true] at hf
   rcases aZ hm with ⟨c11,hm⟩ | ⟨c11,hm⟩
   ·exact zz
   ·refine aX (by simp -dsimp [hf]) c11 ?_
    refine aU (aQ ?_)
    refine srs hn ?_
    simp -dsimp
    refine aW ?_
    obtain⟨o_,g23,hm⟩:=bnd hm
    refine bd (l_R12_Right_2 cx hn t i x g23) (by
      try dsimp only
      exact EE.here (by simp -dsimp [hf])
    ) fun ee Z O xx=>?_
    rcases o_ with r | _u
    ·exact zz
    ·exact zz
 ·exact zz
theorem eh (t:Tree) (r:Bool) (hm:m_R12_Right t=some r):PureCall Tryz.prog 15 [.u (.agg [dI t.States,dR1 t.Hood,dR0 t.Nodes])] (vT r):=by
 refine bo Tryz.func15 Tryz.ntmps15 fun cx hn=>?_
 unfold m_R12_Right at hm
 refine srs hn ?_
 simp -dsimp
 refine srs hn ?_
 simp -dsimp
 refine aS ?_
 obtain⟨a,j27,hm⟩:=bnd hm
 refine scE [(1,vX 1),(3,vI (aT t.Nodes)),(32,vT a)] [(1,.box [dI t.States,dR1 t.Hood,dR0 t.Nodes])] ?_ fun Z O hf=>?_
 ·replace hm:=j27
  clear j27
  refine sr1 hn ?_
  rcases aZ hm with ⟨c1,hm⟩ | ⟨c1,hm⟩
  ·exact zz
  ·rcases aZ hm with ⟨c2,hm⟩ | ⟨c2,hm⟩
   ·exact zz
   ·obtain⟨y,h3,hm⟩:=bnd hm
    simp -dsimp [c1,c2]
    refine aR (c_R07_Right t.Hood y h3) (dkL hn) ?_
    exact zz
 ·clear j27
  simp only[Fits,b8,b9,and_true] at hf
  rcases aZ hm with ⟨c6,hm⟩ | ⟨c6,hm⟩
  ·exact zz
  ·refine aX (by simp -dsimp [hf]) c6 ?_
   refine aU (aQ (aS ?_))
   refine srs hn ?_
   simp -dsimp
   refine aW ?_
   obtain⟨o_,g25,hm⟩:=bnd hm
   refine bd (l_R12_Right_1 cx hn t g25) (by
     try dsimp only
     exact EE.here (by simp -dsimp [hf])
   ) fun ee Z O xx=>?_
   rcases o_ with r | _u
   ·exact zz
   ·exact zz
theorem c_R04_Mod (k r:Int) (hm:m_R04_Mod k=some r):PureCall Tryz.prog 106 [vI k] (vI r):=by
 refine bo Tryz.func106 Tryz.ntmps106 fun cx hn=>?_
 unfold m_R04_Mod at hm
 refine srs hn ?_
 simp -dsimp
 refine srs hn ?_
 obtain⟨n,h1,hm⟩:=bnd hm
 obtain⟨n1,h2,hm⟩:=bnd hm
 simp -dsimp [h1,h2]
 cases hm
 exact bb ⟨.inr rfl,EE.here (by simp -dsimp)⟩
def F_R04_Apply_1 (cx:Cx) (_k1:Int) (tt:(Int×Int)) (ee:Exit) (Z:Env) (O:Sto):Prop:=match tt with
 | (pX1,pY)=>ee=.exit 0/\EE cx (bg [(3,vX 3),(4,vX 4)] [(3,.box [dI pX1,dI pY]),(4,.box [dI 0,dI 0])]) Z O
theorem l_R04_Apply_1 (cx:Cx) (hn:cx.n=30) (k1:Int) {fu:Nat} {stt:Int×Int×Int} {tt:(Int×Int)} (hh:aY (b_R04_Apply_1 k1) fu stt=some tt) {Z:Env} {O:Sto}
  (hE:bl (fun stt:Int×Int×Int=>match stt with | (i,_pX1,_pY)=>[(0,vI k1),(3,vX 3),(4,vX 4),(5,vI i)]) (fun stt:Int×Int×Int=>match stt with | (_i,pX1,pY)=>[(3,.box [dI pX1,dI pY]),(4,.box [dI 0,dI 0])]) stt Z O):Swp Tryz.prog cx (.loop (bA [1,1,1,0,1,0,0] (be Tryz.f43))) Z O (F_R04_Apply_1 cx k1 tt):=by
 refine bm hE hh (F_R04_Apply_1 cx k1) ?_
 rintro⟨i,pX1,pY⟩ r hm Z O hf
 simp only[Fits,b8,b9,and_true] at hf
 unfold b_R04_Apply_1 at hm
 exact zz
theorem c_R04_Apply (k:Int) (p r:Point) (hm:m_R04_Apply k p=some r):PureCall Tryz.prog 43 [vI k,.u (.agg [dI p.X,dI p.Y])] (.u (.agg [dI r.X,dI r.Y])):=by
 refine bo Tryz.func43 Tryz.ntmps43 fun cx hn=>?_
 unfold m_R04_Apply at hm
 refine srs hn ?_
 simp -dsimp
 refine srs hn ?_
 obtain⟨y,h1,hm⟩:=bnd hm
 simp -dsimp
 refine aR (c_R04_Mod k y h1) (dkL hn) ?_
 simp -dsimp
 obtain⟨⟨k1,pX⟩,j5,hm⟩:=bnd hm
 refine scE [(0,vI k1),(3,vX 3),(4,vX 4)] [(3,.box [dI pX,dI p.Y]),(4,.box [dI 0,dI 0])] ?_ fun Z O hf=>?_
 ·replace hm:=j5
  clear j5
  refine srs hn ?_
  simp -dsimp
  rcases aZ hm with ⟨c2,hm⟩ | ⟨c2,hm⟩
  ·refine aV (by simp -dsimp) c2 ?_
   refine srs hn ?_
   simp -dsimp [c2]
   refine sr1 hn ?_
   simp -dsimp
   cases hm
   exact EE.here (by simp -dsimp)
  ·refine aX (by simp -dsimp) c2 ?_
   refine aU (aQ ?_)
   cases hm
   exact EE.here (by simp -dsimp [c2])
 ·clear j5
  simp only[Fits,b8,b9,and_true] at hf
  refine aS ?_
  refine srs hn ?_
  simp -dsimp
  refine aW ?_
  obtain⟨⟨pX1,pY⟩,g4,hm⟩:=bnd hm
  refine bd (l_R04_Apply_1 cx hn k1 g4) (by
    try dsimp only
    exact EE.here (by simp -dsimp [hf])
  ) fun ee Z O xx=>?_
  exact zz
theorem c_R03_Compare (a b:Point) (r:Int) (hm:m_R03_Compare a b=some r):PureCall Tryz.prog 107 [.u (.agg [dI a.X,dI a.Y]),.u (.agg [dI b.X,dI b.Y])] (vI r):=by
 refine bo Tryz.func107 Tryz.ntmps107 fun cx hn=>?_
 unfold m_R03_Compare at hm
 refine srs hn ?_
 simp -dsimp
 refine aS ?_
 obtain⟨a1,j5,hm⟩:=bnd hm
 refine scE [(2,vX 2),(3,vX 3),(23,vT a1)] [(2,.box [dI a.X,dI a.Y]),(3,.box [dI b.X,dI b.Y])] ?_ fun Z O hf=>?_
 ·replace hm:=j5
  clear j5
  exact zz
 ·clear j5
  exact zz
def gY (cx:Cx) (l:List Point) (i:Int) (out:List Point) (tt:(Int×(List Point))) (ee:Exit) (Z:Env) (O:Sto):Prop:=match tt with
 | (k,next)=>ee=.exit 2/\EE cx (bg [(0,.u (.one (dR1 l))),(3,vO 5000),(4,vI i),(5,vO 5001),(6,vI k)] [(5000,.row 2 67 (List.map Point.row out)),(5001,.row 2 67 (List.map Point.row next))]) Z O
theorem l_R03_Sort_2 (cx:Cx) (hn:cx.n=76) (l:List Point) (i:Int) (out:List Point) {fu:Nat} {stt:Int×(List Point)} {tt:(Int×(List Point))} (hh:aY (b_R03_Sort_2 l i out) fu stt=some tt) {Z:Env} {O:Sto}
  (hE:bl (fun stt:Int×(List Point)=>match stt with | (k,_next)=>[(0,.u (.one (dR1 l))),(3,vO 5000),(4,vI i),(5,vO 5001),(6,vI k)]) (fun stt:Int×(List Point)=>match stt with | (_k,next)=>[(5000,.row 2 67 (List.map Point.row out)),(5001,.row 2 67 (List.map Point.row next))]) stt Z O):Swp Tryz.prog cx (.loop (bA [1,1,0,1,0,0,1,0,0,1,1,0,0,0] (be Tryz.f44))) Z O (gY cx l i out tt):=by
 refine bm hE hh (gY cx l i out) ?_
 rintro⟨k,next⟩ r hm Z O hf
 simp only[Fits,b8,b9,and_true] at hf
 unfold b_R03_Sort_2 at hm
 dsimp only at hm
 refine aS ?_
 obtain⟨a,j9,hm⟩:=bnd hm
 refine scE [(0,.u (.one (dR1 l))),(3,vO 5000),(4,vI i),(5,vO 5001),(6,vI k),(28,vT a)] [(5000,.row 2 67 (List.map Point.row out)),(5001,.row 2 67 (List.map Point.row next))] ?_ fun Z O hf=>?_
 ·replace hm:=j9
  clear j9
  refine sw_qt bj mixed (by rw[hn]; kernel_rfl) ?_
  rcases aZ hm with ⟨c2,hm⟩ | ⟨c2,hm⟩
  ·obtain⟨x,h3,hm⟩:=bnd hm
   obtain⟨x1,h4,hm⟩:=bnd hm
   obtain⟨y,h5,hm⟩:=bnd hm
   simp -dsimp [hf,c2,h3,bf h3,h4]
   refine b7 (c_R03_Compare x x1 y h5) ?_
   exact zz
  ·exact zz
 ·clear j9
  simp only[Fits,b8,b9,and_true] at hf
  rcases aZ hm with ⟨c6,hm⟩ | ⟨c6,hm⟩
  ·refine aV (by simp -dsimp [hf]) c6 ?_
   refine aU (aQ (aW ?_))
   refine srs hn ?_
   obtain⟨x,h7,hm⟩:=bnd hm
   obtain⟨l1,h8,hm⟩:=bnd hm
   obtain⟨h8a,h8e⟩:=b6 h8
   replace h8e:=h8e.symm
   subst h8e
   try simp only[List.length_cons,List.length_nil,Nat.zero_add] at h8a
   simp -dsimp [hf,h7,bf h7,h8a]
   refine sr1 hn ?_
   simp -dsimp [hf]
   refine bv ?_
   cases hm
   refine bE ?_
   refine emv 35 5001 ?_
   exact zz
  ·exact zz
def hH (cx:Cx) (l:List Point) (i:Int) (_out _next:List Point) (tt:(List Point)) (ee:Exit) (Z:Env) (O:Sto):Prop:=match tt with
 | aM=>ee=.exit 4/\EE cx (bg [(0,.u (.one (dR1 l))),(4,vI i),(5,vO 5001)] [(5001,.row 2 67 (List.map Point.row aM))]) Z O
theorem l_R03_Sort_3 (cx:Cx) (hn:cx.n=76) (l:List Point) (i:Int) (out next:List Point) {fu:Nat} {stt:Int×(List Point)} {tt:(List Point)} (hh:aY (b_R03_Sort_3 l i out next) fu stt=some tt) {Z:Env} {O:Sto}
  (hE:bl (fun stt:Int×(List Point)=>match stt with | (k1,_aM)=>[(0,.u (.one (dR1 l))),(3,vO 5000),(4,vI i),(5,vO 5001),(6,vI k1)]) (fun stt:Int×(List Point)=>match stt with | (_k1,aM)=>[(5000,.row 2 67 (List.map Point.row out)),(5001,.row 2 67 (List.map Point.row aM))]) stt Z O):Swp Tryz.prog cx (.loop (bA [1,1,0,1,0,0,1,0,0,1,1,1,1,0,0,0] (be Tryz.f44))) Z O (hH cx l i out next tt):=by
 refine bm hE hh (hH cx l i out next) ?_
 rintro⟨k1,aM⟩ r hm Z O hf
 simp only[Fits,b8,b9,and_true] at hf
 unfold b_R03_Sort_3 at hm
 dsimp only at hm
 refine aS ?_
 refine srs hn ?_
 simp -dsimp [hf]
 rcases aZ hm with ⟨c19,hm⟩ | ⟨c19,hm⟩
 ·refine aV (by simp -dsimp) c19 ?_
  refine aU (aQ (aW ?_))
  refine srs hn ?_
  obtain⟨x,h20,hm⟩:=bnd hm
  obtain⟨l1,h21,hm⟩:=bnd hm
  obtain⟨h21a,h21e⟩:=b6 h21
  replace h21e:=h21e.symm
  subst h21e
  try simp only[List.length_cons,List.length_nil,Nat.zero_add] at h21a
  simp -dsimp [hf,c19,h20,bf h20,h21a]
  refine sr1 hn ?_
  simp -dsimp [hf]
  refine bv ?_
  cases hm
  refine bE ?_
  refine emv 71 5001 ?_
  exact zz
 ·exact zz
def F_R03_Sort_1 (cx:Cx) (_l:List Point) (tt:(List Point)) (ee:Exit) (Z:Env) (O:Sto):Prop:=match tt with
 | out=>ee=.exit 0/\EE cx (bg [(3,vO 5000)] [(5000,.row 2 67 (List.map Point.row out))]) Z O
theorem l_R03_Sort_1 (cx:Cx) (hn:cx.n=76) (l:List Point) {fu:Nat} {stt:Int×(List Point)} {tt:(List Point)} (hh:aY (b_R03_Sort_1 l) fu stt=some tt) {Z:Env} {O:Sto}
  (hE:bl (fun stt:Int×(List Point)=>match stt with | (i,_out)=>[(0,.u (.one (dR1 l))),(3,vO 5000),(4,vI i)]) (fun stt:Int×(List Point)=>match stt with | (_i,out)=>[(5000,.row 2 67 (List.map Point.row out))]) stt Z O):Swp Tryz.prog cx (.loop (bA [1,1,0,1,0,0] (be Tryz.f44))) Z O (F_R03_Sort_1 cx l tt):=by
 refine bm hE hh (F_R03_Sort_1 cx l) ?_
 rintro⟨i,out⟩ r hm Z O hf
 simp only[Fits,b8,b9,and_true] at hf
 unfold b_R03_Sort_1 at hm
 dsimp only at hm
 refine aS ?_
 refine srs hn ?_
 simp -dsimp [hf]
 rcases aZ hm with ⟨c1,hm⟩ | ⟨c1,hm⟩
 ·refine aV (by simp -dsimp) c1 ?_
  refine aU (aQ (aS (aW ?_)))
  refine srs hn ?_
  simp -dsimp [c1]
  refine srs hn ?_
  simp -dsimp
  refine aS (aW ?_)
  obtain⟨⟨k,next⟩,g10,hm⟩:=bnd hm
  refine bd (l_R03_Sort_2 cx hn l i out g10) (by
    try dsimp only
    refine EE.step (Wk.own0 5 5001 2 67 (by simp -dsimp) (by decide)) ?_
    exact zz
  ) fun ee Z O xx=>?_
  unfold gY at xx
  dsimp only at xx
  obtain⟨rfl,xx⟩:=xx
  refine bh ?_
  refine aQ ?_
  refine see xx fun Z O hf=>?_
  simp only[Fits,b8,b9,and_true] at hf
  obtain⟨next1,j23,hm⟩:=bnd hm
  refine scE [(0,.u (.one (dR1 l))),(3,vO 5000),(4,vI i),(5,vO 5001),(6,vI k)] [(5000,.row 2 67 (List.map Point.row out)),(5001,.row 2 67 (List.map Point.row next1))] ?_ fun Z O hf=>?_
  ·replace hm:=j23
   clear j23
   obtain⟨a,j18,hm⟩:=bnd hm
   refine scE [(0,.u (.one (dR1 l))),(3,vO 5000),(4,vI i),(5,vO 5001),(6,vI k),(53,vT a)] [(5000,.row 2 67 (List.map Point.row out)),(5001,.row 2 67 (List.map Point.row next))] ?_ fun Z O hf=>?_
   ·replace hm:=j18
    clear j18
    refine sw_qt bj mixed (by rw[hn]; kernel_rfl) ?_
    rcases aZ hm with ⟨c11,hm⟩ | ⟨c11,hm⟩
    ·exact zz
    ·obtain⟨x,h12,hm⟩:=bnd hm
     obtain⟨x1,h13,hm⟩:=bnd hm
     obtain⟨y,h14,hm⟩:=bnd hm
     simp -dsimp [hf,c11,h12,bf h12,h13]
     refine b7 (c_R03_Compare x x1 y h14) ?_
     exact zz
   ·clear j18
    simp only[Fits,b8,b9,and_true] at hf
    rcases aZ hm with ⟨c15,hm⟩ | ⟨c15,hm⟩
    ·refine aV (by simp -dsimp [hf]) c15 ?_
     refine sr1 hn ?_
     obtain⟨x,h16,hm⟩:=bnd hm
     obtain⟨l1,h17,hm⟩:=bnd hm
     obtain⟨h17a,h17e⟩:=b6 h17
     replace h17e:=h17e.symm
     subst h17e
     try simp only[List.length_cons,List.length_nil,Nat.zero_add] at h17a
     simp -dsimp [hf,h16,h17a]
     refine aQ ?_
     cases hm
     refine emv 60 5001 ?_
     exact zz
    ·exact zz
  ·clear j23
   simp only[Fits,b8,b9,and_true] at hf
   refine aS (aW ?_)
   obtain⟨aM,g22,hm⟩:=bnd hm
   refine bd (l_R03_Sort_3 cx hn l i out next g22) (by
     try dsimp only
     exact EE.here (by simp -dsimp [hf])
   ) fun ee Z O xx=>?_
   unfold hH at xx
   dsimp only at xx
   obtain⟨rfl,xx⟩:=xx
   refine bh ?_
   refine aQ ?_
   refine see xx fun Z O hf=>?_
   simp only[Fits,b8,b9,and_true] at hf
   refine sr1 hn ?_
   simp -dsimp [hf]
   refine bv ?_
   refine aQ ?_
   refine sr1 hn ?_
   simp -dsimp [hf]
   cases hm
   refine bE ?_
   refine emv 5001 5000 ?_
   exact zz
 ·exact zz
theorem c_R03_Sort (l r:List Point) (hm:m_R03_Sort l=some r):PureCall Tryz.prog 44 [.u (.one (dR1 l))] (.u (.one (dR1 r))):=by
 refine bo Tryz.func44 Tryz.ntmps44 fun cx hn=>?_
 unfold m_R03_Sort at hm
 refine srs hn ?_
 simp -dsimp
 refine srs hn ?_
 simp -dsimp
 refine aS ?_
 refine srs hn ?_
 simp -dsimp
 refine aW ?_
 obtain⟨out,g24,hm⟩:=bnd hm
 refine bd (l_R03_Sort_1 cx hn l g24) (by
   try dsimp only
   refine EE.step (Wk.own0 3 5000 2 67 (by simp -dsimp) (by decide)) ?_
   exact zz
 ) fun ee Z O xx=>?_
 exact zz
def F_R13_same_1 (cx:Cx) (_a _b:List Int) (tt:Bool ⊕ Unit) (ee:Exit) (Z:Env) (O:Sto):Prop:=match tt with
 | .inl r=>ee=.ret/\EE cx (fun Z O=>∃ v,di tb Z O Tryz.f150.results.toList=some v/\(v.frz O).free=true/\(v.frz O).wk (vT r)) Z O
 | .inr _u=>ee=.exit 0/\EE cx (bg [] []) Z O
theorem l_R13_same_1 (cx:Cx) (hn:cx.n=26) (a b:List Int) {fu:Nat} {stt:Int} {tt:Bool ⊕ Unit} (hh:aY (b_R13_same_1 a b) fu stt=some tt) {Z:Env} {O:Sto}
  (hE:bl (fun i:Int=>[(0,.u (.one (dL a))),(1,.u (.one (dL b))),(5,vI i)]) (fun _i:Int=>[]) stt Z O):Swp Tryz.prog cx (.loop (bA [1,1,0,1,0,0] (be Tryz.f150))) Z O (F_R13_same_1 cx a b tt):=by
 refine bm hE hh (F_R13_same_1 cx a b) ?_
 rintro i r hm Z O hf
 simp only[Fits,b8,b9,and_true] at hf
 unfold b_R13_same_1 at hm
 exact zz
theorem c_R13_same (a b:List Int) (r:Bool) (hm:m_R13_same a b=some r):PureCall Tryz.prog 150 [.u (.one (dL a)),.u (.one (dL b))] (vT r):=by
 refine bo Tryz.func150 Tryz.ntmps150 fun cx hn=>?_
 unfold m_R13_same at hm
 refine srs hn ?_
 simp -dsimp
 refine aS ?_
 refine srs hn ?_
 simp -dsimp
 rcases aZ hm with ⟨c1,hm⟩ | ⟨c1,hm⟩
 ·exact zz
 ·refine scf c1 ?_
  refine aU (aQ (aS ?_))
  refine srs hn ?_
  simp -dsimp [c1]
  refine aW ?_
  obtain⟨o_,g6,hm⟩:=bnd hm
  refine bd (l_R13_same_1 cx hn a b g6) (by
    try dsimp only
    exact EE.here (by simp -dsimp)
  ) fun ee Z O xx=>?_
  rcases o_ with r | _u
  ·exact zz
  ·exact zz
def fk (cx:Cx) (l:List Node) (i:Int) (ab:List Int) (nexts:List (List Int)) (tt:(List Int)) (ee:Exit) (Z:Env) (O:Sto):Prop:=match tt with
 | next=>ee=.exit 2/\EE cx (bg [(0,.u (.one (dR0 l))),(3,vO 5001),(4,vO 5002),(5,vI i),(6,vO 5000)] [(5000,.row 1 3 (List.map (rI .i64) next)),(5001,.row 1 3 (List.map (rI .i64) ab)),(5002,.row 1 29 (List.map (rS 1 (rI .i64)) nexts))]) Z O
theorem l_R13_classes_2 (cx:Cx) (hn:cx.n=85) (l:List Node) (i:Int) (ab:List Int) (nexts:List (List Int)) {fu:Nat} {stt:Int×(List Int)} {tt:(List Int)} (hh:aY (b_R13_classes_2 l i ab nexts) fu stt=some tt) {Z:Env} {O:Sto}
  (hE:bl (fun stt:Int×(List Int)=>match stt with | (s,_next)=>[(0,.u (.one (dR0 l))),(3,vO 5001),(4,vO 5002),(5,vI i),(6,vO 5000),(7,vI s)]) (fun stt:Int×(List Int)=>match stt with | (_s,next)=>[(5000,.row 1 3 (List.map (rI .i64) next)),(5001,.row 1 3 (List.map (rI .i64) ab)),(5002,.row 1 29 (List.map (rS 1 (rI .i64)) nexts))]) stt Z O):Swp Tryz.prog cx (.loop (bA [1,1,1,0,1,0,0,1,0,0,1,0,1,0,0] (be Tryz.f110))) Z O (fk cx l i ab nexts tt):=by
 refine bm hE hh (fk cx l i ab nexts) ?_
 rintro⟨s,next⟩ r hm Z O hf
 simp only[Fits,b8,b9,and_true] at hf
 unfold b_R13_classes_2 at hm
 dsimp only at hm
 refine aS ?_
 refine srs hn ?_
 obtain⟨x,h2,hm⟩:=bnd hm
 simp -dsimp [hf,h2]
 rcases aZ hm with ⟨c3,hm⟩ | ⟨c3,hm⟩
 ·refine aV (by simp -dsimp) c3 ?_
  refine aU (aQ (aS (aW ?_)))
  refine srs hn ?_
  obtain⟨x1,h4,hm⟩:=bnd hm
  simp -dsimp [hf,h2,c3,h4]
  obtain⟨k,j8,hm⟩:=bnd hm
  refine scE [(0,.u (.one (dR0 l))),(3,vO 5001),(4,vO 5002),(5,vI i),(6,vO 5000),(7,vI s),(8,vI k)] [(5000,.row 1 3 (List.map (rI .i64) next)),(5001,.row 1 3 (List.map (rI .i64) ab)),(5002,.row 1 29 (List.map (rS 1 (rI .i64)) nexts))] ?_ fun Z O hf=>?_
  ·replace hm:=j8
   clear j8
   refine srs hn ?_
   simp -dsimp [hf,h2]
   rcases aZ hm with ⟨c5,hm⟩ | ⟨c5,hm⟩
   ·refine aV (by simp -dsimp) c5 ?_
    refine sr1 hn ?_
    obtain⟨x2,h6,hm⟩:=bnd hm
    simp -dsimp [hf,c5,h6,bf h6]
    cases hm
    exact EE.here (by simp -dsimp [hf])
   ·refine aX (by simp -dsimp) c5 ?_
    refine aU (aQ ?_)
    cases hm
    exact EE.here (by simp -dsimp [hf,c5])
  ·clear j8
   simp only[Fits,b8,b9,and_true] at hf
   refine sr1 hn ?_
   obtain⟨l1,h7,hm⟩:=bnd hm
   obtain⟨h7a,h7e⟩:=b6 h7
   replace h7e:=h7e.symm
   subst h7e
   try simp only[List.length_cons,List.length_nil,Nat.zero_add] at h7a
   simp -dsimp [hf,h7a]
   refine bv ?_
   refine aQ ?_
   refine sr1 hn ?_
   simp -dsimp [hf]
   cases hm
   refine bE ?_
   refine emv 48 5000 ?_
   exact zz
 ·exact zz
def fo (cx:Cx) (l:List Node) (i:Int) (ab:List Int) (nexts:List (List Int)) (next:List Int) (tt:Int) (ee:Exit) (Z:Env) (O:Sto):Prop:=match tt with
 | first=>ee=.exit 4/\EE cx (bg [(0,.u (.one (dR0 l))),(3,vO 5001),(4,vO 5002),(5,vI i),(6,vO 5000),(9,vI first)] [(5000,.row 1 3 (List.map (rI .i64) next)),(5001,.row 1 3 (List.map (rI .i64) ab)),(5002,.row 1 29 (List.map (rS 1 (rI .i64)) nexts))]) Z O
theorem l_R13_classes_3 (cx:Cx) (hn:cx.n=85) (l:List Node) (i:Int) (ab:List Int) (nexts:List (List Int)) (next:List Int) {fu:Nat} {stt:Int×Int} {tt:Int} (hh:aY (b_R13_classes_3 l i ab nexts next) fu stt=some tt) {Z:Env} {O:Sto}
  (hE:bl (fun stt:Int×Int=>match stt with | (first,jv)=>[(0,.u (.one (dR0 l))),(3,vO 5001),(4,vO 5002),(5,vI i),(6,vO 5000),(9,vI first),(10,vI jv)]) (fun stt:Int×Int=>match stt with | (_first,_jv)=>[(5000,.row 1 3 (List.map (rI .i64) next)),(5001,.row 1 3 (List.map (rI .i64) ab)),(5002,.row 1 29 (List.map (rS 1 (rI .i64)) nexts))]) stt Z O):Swp Tryz.prog cx (.loop (bA [1,1,1,0,1,0,0,1,0,0,1,1,1,0,1,0,0] (be Tryz.f110))) Z O (fo cx l i ab nexts next tt):=by
 refine bm hE hh (fo cx l i ab nexts next) ?_
 rintro⟨first,jv⟩ r hm Z O hf
 simp only[Fits,b8,b9,and_true] at hf
 unfold b_R13_classes_3 at hm
 dsimp only at hm
 refine aS ?_
 refine srs hn ?_
 simp -dsimp [hf]
 rcases aZ hm with ⟨c10,hm⟩ | ⟨c10,hm⟩
 ·refine aV (by simp -dsimp) c10 ?_
  refine aU (aQ ?_)
  obtain⟨first1,j18,hm⟩:=bnd hm
  refine scE [(0,.u (.one (dR0 l))),(3,vO 5001),(4,vO 5002),(5,vI i),(6,vO 5000),(9,vI first1),(10,vI jv)] [(5000,.row 1 3 (List.map (rI .i64) next)),(5001,.row 1 3 (List.map (rI .i64) ab)),(5002,.row 1 29 (List.map (rS 1 (rI .i64)) nexts))] ?_ fun Z O hf=>?_
  ·replace hm:=j18
   clear j18
   refine aW ?_
   obtain⟨a,j17,hm⟩:=bnd hm
   refine scE [(0,.u (.one (dR0 l))),(3,vO 5001),(4,vO 5002),(5,vI i),(6,vO 5000),(9,vI first),(10,vI jv),(74,vT a)] [(5000,.row 1 3 (List.map (rI .i64) next)),(5001,.row 1 3 (List.map (rI .i64) ab)),(5002,.row 1 29 (List.map (rS 1 (rI .i64)) nexts))] ?_ fun Z O hf=>?_
   ·replace hm:=j17
    clear j17
    refine sw_qt bj mixed (by rw[hn]; kernel_rfl) ?_
    obtain⟨x,h11,hm⟩:=bnd hm
    obtain⟨x1,h12,hm⟩:=bnd hm
    rcases aZ hm with ⟨c13,hm⟩ | ⟨c13,hm⟩
    ·obtain⟨x2,h14,hm⟩:=bnd hm
     obtain⟨y,h15,hm⟩:=bnd hm
     simp -dsimp [hf,c10,h11,h12,c13,h14,bf h14]
     refine qcallL_brw (us':=[.u (.one (dL x2)),.u (.one (dL next))]) (c_R13_same x2 next y h15) (by simp -dsimp [hf]) rfl ?_
     exact zz
    ·exact zz
   ·clear j17
    exact zz
  ·clear j18
   exact zz
 ·exact zz
def F_R13_classes_1 (cx:Cx) (_l:List Node) (tt:(List Int)) (ee:Exit) (Z:Env) (O:Sto):Prop:=match tt with
 | ab=>ee=.exit 0/\EE cx (bg [(3,vO 5001)] [(5001,.row 1 3 (List.map (rI .i64) ab))]) Z O
theorem l_R13_classes_1 (cx:Cx) (hn:cx.n=85) (l:List Node) {fu:Nat} {stt:Int×(List Int)×(List (List Int))} {tt:(List Int)} (hh:aY (b_R13_classes_1 l) fu stt=some tt) {Z:Env} {O:Sto}
  (hE:bl (fun stt:Int×(List Int)×(List (List Int))=>match stt with | (i,_ab,_nexts)=>[(0,.u (.one (dR0 l))),(3,vO 5001),(4,vO 5002),(5,vI i)]) (fun stt:Int×(List Int)×(List (List Int))=>match stt with | (_i,ab,nexts)=>[(5001,.row 1 3 (List.map (rI .i64) ab)),(5002,.row 1 29 (List.map (rS 1 (rI .i64)) nexts))]) stt Z O):Swp Tryz.prog cx (.loop (bA [1,1,1,0,1,0,0] (be Tryz.f110))) Z O (F_R13_classes_1 cx l tt):=by
 refine bm hE hh (F_R13_classes_1 cx l) ?_
 rintro⟨i,ab,nexts⟩ r hm Z O hf
 simp only[Fits,b8,b9,and_true] at hf
 unfold b_R13_classes_1 at hm
 dsimp only at hm
 refine aS ?_
 refine srs hn ?_
 simp -dsimp [hf]
 rcases aZ hm with ⟨c1,hm⟩ | ⟨c1,hm⟩
 ·refine aV (by simp -dsimp) c1 ?_
  refine aU (aQ (aS (aW ?_)))
  refine srs hn ?_
  simp -dsimp [c1]
  refine aS ?_
  refine srs hn ?_
  simp -dsimp
  refine aW ?_
  obtain⟨next,g9,hm⟩:=bnd hm
  refine bd (l_R13_classes_2 cx hn l i ab nexts g9) (by
    try dsimp only
    refine EE.step (Wk.own0 6 5000 1 3 (by simp -dsimp) (by decide)) ?_
    exact zz
  ) fun ee Z O xx=>?_
  unfold fk at xx
  dsimp only at xx
  obtain⟨rfl,xx⟩:=xx
  refine bh ?_
  refine aQ ?_
  refine see xx fun Z O hf=>?_
  simp only[Fits,b8,b9,and_true] at hf
  refine srs hn ?_
  simp -dsimp [hf]
  refine aS ?_
  refine srs hn ?_
  simp -dsimp [hf]
  refine aW ?_
  obtain⟨first,g19,hm⟩:=bnd hm
  refine bd (l_R13_classes_3 cx hn l i ab nexts next g19) (by
    try dsimp only
    exact EE.here (by simp -dsimp [hf])
  ) fun ee Z O xx=>?_
  unfold fo at xx
  dsimp only at xx
  obtain⟨rfl,xx⟩:=xx
  refine bh ?_
  refine aQ ?_
  refine see xx fun Z O hf=>?_
  simp only[Fits,b8,b9,and_true] at hf
  refine srs hn ?_
  obtain⟨l1,h20,hm⟩:=bnd hm
  obtain⟨h20a,h20e⟩:=b6 h20
  replace h20e:=h20e.symm
  subst h20e
  try simp only[List.length_cons,List.length_nil,Nat.zero_add] at h20a
  simp -dsimp [hf,h20a]
  refine Swp.pre (Wk.frz 5000 1 3 (List.map (rI .i64) next) (by simp -dsimp [hf])) ?_
  refine sr1 hn ?_
  obtain⟨l2,h21,hm⟩:=bnd hm
  obtain⟨h21a,h21e⟩:=b6 h21
  replace h21e:=h21e.symm
  subst h21e
  try simp only[List.length_cons,List.length_nil,Nat.zero_add] at h21a
  simp -dsimp [hf,h21a]
  refine bv ?_
  refine aQ ?_
  refine sr1 hn ?_
  simp -dsimp [hf]
  cases hm
  refine bE ?_
  refine emv 79 5001 ?_
  refine emv 83 5002 ?_
  exact zz
 ·exact zz
theorem c_R13_classes (l:List Node) (r:List Int) (hm:m_R13_classes l=some r):PureCall Tryz.prog 110 [.u (.one (dR0 l))] (.u (.one (dL r))):=by
 refine bo Tryz.func110 Tryz.ntmps110 fun cx hn=>?_
 unfold m_R13_classes at hm
 refine srs hn ?_
 simp -dsimp
 refine srs hn ?_
 simp -dsimp
 refine srs hn ?_
 simp -dsimp
 refine aS ?_
 refine srs hn ?_
 simp -dsimp
 refine aW ?_
 obtain⟨ab,g22,hm⟩:=bnd hm
 refine bd (l_R13_classes_1 cx hn l g22) (by
   try dsimp only
   refine EE.step (Wk.own0 3 5001 1 3 (by simp -dsimp) (by decide)) ?_
   refine EE.step (Wk.own0 4 5002 1 29 (by simp -dsimp) (by decide)) ?_
   exact zz
 ) fun ee Z O xx=>?_
 exact zz
end Go.Proofs.YtcllfealpkhjfaaGreatDoor
namespace Go.Proofs.YtcllfealpkhjfaaGreatDoor
open Go.AM Go.Proofs
set_option maxRecDepth 100000
attribute [-simp] qlookup cd cW Ob.wipe Ob.ren Ob.frz1
section
attribute [-simp] List.map_set List.set_set
def fR (rcv:((List Node)->(List Int)->Int->(List Int)->(List Node)->Option ((List Int)×(List Node)))):Prop:=∀ (l:List Node) (ab:List Int) (i:Int) (done:List Int) (out:List Node) (r:(List Int)×(List Node)),rcv l ab i done out=some r->GFn Tryz.prog 111 [.u (.one (dR0 l)),.u (.one (dL ab)),vI i,vO 1000000,vO 1000001] [.row 1 3 (List.map (rI .i64) done),.row 2 32 (List.map Node.row out)] (vO 1000002) [some (.row 1 3 (List.map (rI .i64) r.1)),none,some (.row 2 32 (List.map Node.row r.2))]
def eM (cx:Cx) (_rcv:((List Node)->(List Int)->Int->(List Int)->(List Node)->Option ((List Int)×(List Node)))) (_l:List Node) (_ab:List Int) (i:Int) (_out:List Node) (x1:Node) (tt:((List Int)×(List Node)×(List Int))) (ee:Exit) (Z:Env) (O:Sto):Prop:=match tt with
 | (l1,out1,aA)=>ee=.exit 0/\EE cx (bg [(2,vI i),(3,vO 1000000),(4,vO 5003),(11,vX 11)] [(11,.box [dI x1.Level,.own 5000]),(5000,.row 1 3 (List.map (rI .i64) l1)),(5003,.row 2 32 (List.map Node.row out1)),(1000000,.row 1 3 (List.map (rI .i64) aA))]) Z O
theorem l_R13_walk_o_o_1 (cx:Cx) (hn:cx.n=76) (_hk:cx.k=2) (rcv:((List Node)->(List Int)->Int->(List Int)->(List Node)->Option ((List Int)×(List Node)))) (l:List Node) (ab:List Int) (i:Int) (out:List Node) (x1:Node) (aI:fR rcv) {fu:Nat} {stt:Int×(List Int)×(List Node)×(List Int)} {tt:((List Int)×(List Node)×(List Int))} (hh:aY (b_R13_walk_o_o_1 rcv l ab i out x1) fu stt=some tt) {Z:Env} {O:Sto}
  (hE:bl (fun stt:Int×(List Int)×(List Node)×(List Int)=>match stt with | (s,_l1,_out1,_aA)=>[(0,.u (.one (dR0 l))),(1,.u (.one (dL ab))),(2,vI i),(3,vO 1000000),(4,vO 5003),(11,vX 11),(12,vI s)]) (fun stt:Int×(List Int)×(List Node)×(List Int)=>match stt with | (_s,l1,out1,aA)=>[(11,.box [dI x1.Level,.own 5000]),(5000,.row 1 3 (List.map (rI .i64) l1)),(5003,.row 2 32 (List.map Node.row out1)),(1000000,.row 1 3 (List.map (rI .i64) aA))]) stt Z O):Swp Tryz.prog cx (.loop (bA [1,1,1,0,1,0,0] (be Tryz.f111))) Z O (eM cx rcv l ab i out x1 tt):=by
 refine bm hE hh (eM cx rcv l ab i out x1) ?_
 rintro⟨s,l1,out1,aA⟩ r hm Z O hf
 simp only[Fits,b8,b9,and_true] at hf
 unfold b_R13_walk_o_o_1 at hm
 dsimp only at hm
 refine aS ?_
 refine srs hn ?_
 obtain⟨x2,h4,hm⟩:=bnd hm
 simp -dsimp [hf,h4]
 rcases aZ hm with ⟨c5,hm⟩ | ⟨c5,hm⟩
 ·refine aV (by simp -dsimp) c5 ?_
  refine aU (aQ (aS (aW ?_)))
  refine srs hn ?_
  obtain⟨x3,h6,hm⟩:=bnd hm
  simp -dsimp [hf,h4,c5,h6]
  obtain⟨⟨k,out2,aP⟩,j12,hm⟩:=bnd hm
  refine scE [(0,.u (.one (dR0 l))),(1,.u (.one (dL ab))),(2,vI i),(3,vO 1000000),(4,vO 5003),(11,vX 11),(12,vI s),(13,vI k)] [(11,.box [dI x1.Level,.own 5000]),(5000,.row 1 3 (List.map (rI .i64) l1)),(5003,.row 2 32 (List.map Node.row out2)),(1000000,.row 1 3 (List.map (rI .i64) aP))] ?_ fun Z O hf=>?_
  ·replace hm:=j12
   clear j12
   refine srs hn ?_
   simp -dsimp [hf]
   rcases aZ hm with ⟨c7,hm⟩ | ⟨c7,hm⟩
   ·refine aV (by simp -dsimp) c7 ?_
    refine srs hn ?_
    obtain⟨x4,h8,hm⟩:=bnd hm
    simp -dsimp [hf,c7,h8]
    refine srs hn ?_
    obtain⟨y,h9,hm⟩:=bnd hm
    simp -dsimp [hf]
    refine clg (aI l ab x4 aA out1 y h9) [1000000,5003] [5002] (by simp -dsimp [hf]) (dkL hn) ?_
    simp -dsimp
    refine sr1 hn ?_
    obtain⟨x5,h10,hm⟩:=bnd hm
    simp -dsimp [hf,h10,bf h10]
    refine aQ ?_
    cases hm
    refine emv 5002 5003 ?_
    exact zz
   ·exact zz
  ·clear j12
   simp only[Fits,b8,b9,and_true] at hf
   refine sr1 hn ?_
   obtain⟨l2,h11,hm⟩:=bnd hm
   obtain⟨h11a,h11e⟩:=b6 h11
   replace h11e:=h11e.symm
   subst h11e
   try simp only[List.length_cons,List.length_nil,Nat.zero_add] at h11a
   simp -dsimp [hf,h11a]
   refine bv ?_
   refine aQ ?_
   refine sr1 hn ?_
   simp -dsimp [hf]
   cases hm
   refine bE ?_
   refine emv 65 5000 ?_
   exact zz
 ·exact zz
theorem fb_R13_walk_o_o (rcv:((List Node)->(List Int)->Int->(List Int)->(List Node)->Option ((List Int)×(List Node)))) (aI:fR rcv) (l:List Node) (ab:List Int) (i:Int) (done:List Int) (out:List Node) (r:(List Int)×(List Node)) (hm:mb_R13_walk_o_o rcv l ab i done out=some r):GFn Tryz.prog 111 [.u (.one (dR0 l)),.u (.one (dL ab)),vI i,vO 1000000,vO 1000001] [.row 1 3 (List.map (rI .i64) done),.row 2 32 (List.map Node.row out)] (vO 1000002) [some (.row 1 3 (List.map (rI .i64) r.1)),none,some (.row 2 32 (List.map Node.row r.2))]:=by
 refine bI bj _ Tryz.func111 rfl (by kernel_rfl) (by simp[Tryz.ntmps111]) (by simp) (by first | rfl | simp) (by first | rfl | simp) fun cx hn hk=>?_
 replace hn:cx.n=76:=hn.trans Tryz.ntmps111
 replace hk:cx.k=2:=hk
 unfold mb_R13_walk_o_o at hm
 refine srs hn ?_
 simp -dsimp
 refine aS ?_
 refine srs hn ?_
 obtain⟨x,h1,hm⟩:=bnd hm
 simp -dsimp [h1,bf h1]
 rcases aZ hm with ⟨c2,hm⟩ | ⟨c2,hm⟩
 ·refine aV (by simp -dsimp) c2 ?_
  refine srs hn ?_
  simp -dsimp [c2]
  refine bb (bS ?_)
  cases hm
  refine⟨.inr rfl,?_⟩
  refine emr 1000001 1000002 hk ?_
  exact zz
 ·refine aX (by simp -dsimp) c2 ?_
  refine aU (aQ ?_)
  refine srs hn ?_
  obtain⟨x1,h3,hm⟩:=bnd hm
  simp -dsimp [c2,h3]
  refine aS ?_
  refine srs hn ?_
  simp -dsimp
  refine aW ?_
  obtain⟨⟨l1,out1,aA⟩,g13,hm⟩:=bnd hm
  refine bd (l_R13_walk_o_o_1 cx hn hk rcv l ab i out x1 aI g13) (by
    try dsimp only
    refine emv 1000001 5003 ?_
    refine EE.step (Wk.own0b 11 1 5000 1 3 [dI x1.Level,.d .nil] (by simp -dsimp) (by rfl) (by decide) (by decide)) ?_
    exact zz
  ) fun ee Z O xx=>?_
  unfold eM at xx
  dsimp only at xx
  obtain⟨rfl,xx⟩:=xx
  refine bh ?_
  refine aQ ?_
  refine see xx fun Z O hf=>?_
  simp only[Fits,b8,b9,and_true] at hf
  refine srs hn ?_
  obtain⟨x2,h14,hm⟩:=bnd hm
  simp -dsimp [hf,h14,bf h14,rsetI .i64 aA i.toNat (aT out1)]
  refine Swp.pre (Wk.frz 5000 1 3 (List.map (rI .i64) l1) (by simp -dsimp [hf])) ?_
  refine srs hn ?_
  obtain⟨l2,h15,hm⟩:=bnd hm
  obtain⟨h15a,h15e⟩:=b6 h15
  replace h15e:=h15e.symm
  subst h15e
  try simp only[List.length_cons,List.length_nil,Nat.zero_add] at h15a
  simp -dsimp [hf,h15a]
  refine bb ?_
  cases hm
  refine⟨.inr rfl,?_⟩
  refine emr 75 1000002 hk ?_
  exact zz
theorem g_R13_walk_o_o (l:List Node) (ab:List Int) (i:Int) (done:List Int) (out:List Node) (r:(List Int)×(List Node)) (hm:m_R13_walk_o_o l ab i done out=some r):GFn Tryz.prog 111 [.u (.one (dR0 l)),.u (.one (dL ab)),vI i,vO 1000000,vO 1000001] [.row 1 3 (List.map (rI .i64) done),.row 2 32 (List.map Node.row out)] (vO 1000002) [some (.row 1 3 (List.map (rI .i64) r.1)),none,some (.row 2 32 (List.map Node.row r.2))]:=eC fR (by intro _; intro _; intro _; intro _; intro _; intro _; intro hm; cases hm) fb_R13_walk_o_o fg l ab i done out r hm
end
section
attribute [-simp] List.map_set List.set_set
def H_R13_walk_o_N (rcv:((List Node)->(List Int)->Int->(List Int)->Option ((List Int)×(List Node)))):Prop:=∀ (l:List Node) (ab:List Int) (i:Int) (done:List Int) (r:(List Int)×(List Node)),rcv l ab i done=some r->GFn Tryz.prog 111 [.u (.one (dR0 l)),.u (.one (dL ab)),vI i,vO 1000000,.u (.one (.d .nil))] [.row 1 3 (List.map (rI .i64) done)] (vO 1000001) [some (.row 1 3 (List.map (rI .i64) r.1)),some (.row 2 32 (List.map Node.row r.2))]
def eQ (cx:Cx) (_l:List Node) (_ab:List Int) (i:Int) (x1:Node) (tt:((List Int)×(List Node)×(List Int))) (ee:Exit) (Z:Env) (O:Sto):Prop:=match tt with
 | (l1,out,aA)=>ee=.exit 0/\EE cx (bg [(2,vI i),(3,vO 1000000),(4,vO 5003),(11,vX 11)] [(11,.box [dI x1.Level,.own 5000]),(5000,.row 1 3 (List.map (rI .i64) l1)),(5003,.row 2 32 (List.map Node.row out)),(1000000,.row 1 3 (List.map (rI .i64) aA))]) Z O
theorem l_R13_walk_o_N_1 (cx:Cx) (hn:cx.n=76) (_hk:cx.k=1) (l:List Node) (ab:List Int) (i:Int) (x1:Node) {fu:Nat} {stt:Int×(List Int)×(List Node)×(List Int)} {tt:((List Int)×(List Node)×(List Int))} (hh:aY (b_R13_walk_o_N_1 l ab i x1) fu stt=some tt) {Z:Env} {O:Sto}
  (hE:bl (fun stt:Int×(List Int)×(List Node)×(List Int)=>match stt with | (s,_l1,_out,_aA)=>[(0,.u (.one (dR0 l))),(1,.u (.one (dL ab))),(2,vI i),(3,vO 1000000),(4,vO 5003),(11,vX 11),(12,vI s)]) (fun stt:Int×(List Int)×(List Node)×(List Int)=>match stt with | (_s,l1,out,aA)=>[(11,.box [dI x1.Level,.own 5000]),(5000,.row 1 3 (List.map (rI .i64) l1)),(5003,.row 2 32 (List.map Node.row out)),(1000000,.row 1 3 (List.map (rI .i64) aA))]) stt Z O):Swp Tryz.prog cx (.loop (bA [1,1,1,0,1,0,0] (be Tryz.f111))) Z O (eQ cx l ab i x1 tt):=by
 refine bm hE hh (eQ cx l ab i x1) ?_
 rintro⟨s,l1,out,aA⟩ r hm Z O hf
 simp only[Fits,b8,b9,and_true] at hf
 unfold b_R13_walk_o_N_1 at hm
 dsimp only at hm
 refine aS ?_
 refine srs hn ?_
 obtain⟨x2,h4,hm⟩:=bnd hm
 simp -dsimp [hf,h4]
 rcases aZ hm with ⟨c5,hm⟩ | ⟨c5,hm⟩
 ·refine aV (by simp -dsimp) c5 ?_
  refine aU (aQ (aS (aW ?_)))
  refine srs hn ?_
  obtain⟨x3,h6,hm⟩:=bnd hm
  simp -dsimp [hf,h4,c5,h6]
  obtain⟨⟨k,out1,aP⟩,j12,hm⟩:=bnd hm
  refine scE [(0,.u (.one (dR0 l))),(1,.u (.one (dL ab))),(2,vI i),(3,vO 1000000),(4,vO 5003),(11,vX 11),(12,vI s),(13,vI k)] [(11,.box [dI x1.Level,.own 5000]),(5000,.row 1 3 (List.map (rI .i64) l1)),(5003,.row 2 32 (List.map Node.row out1)),(1000000,.row 1 3 (List.map (rI .i64) aP))] ?_ fun Z O hf=>?_
  ·replace hm:=j12
   clear j12
   refine srs hn ?_
   simp -dsimp [hf]
   rcases aZ hm with ⟨c7,hm⟩ | ⟨c7,hm⟩
   ·refine aV (by simp -dsimp) c7 ?_
    refine srs hn ?_
    obtain⟨x4,h8,hm⟩:=bnd hm
    simp -dsimp [hf,c7,h8]
    refine srs hn ?_
    obtain⟨y,h9,hm⟩:=bnd hm
    simp -dsimp [hf]
    refine clg (g_R13_walk_o_o l ab x4 aA out y h9) [1000000,5003] [5002] (by simp -dsimp [hf]) (dkL hn) ?_
    simp -dsimp
    refine sr1 hn ?_
    obtain⟨x5,h10,hm⟩:=bnd hm
    simp -dsimp [hf,h10,bf h10]
    refine aQ ?_
    cases hm
    refine emv 5002 5003 ?_
    exact zz
   ·exact zz
  ·clear j12
   simp only[Fits,b8,b9,and_true] at hf
   refine sr1 hn ?_
   obtain⟨l2,h11,hm⟩:=bnd hm
   obtain⟨h11a,h11e⟩:=b6 h11
   replace h11e:=h11e.symm
   subst h11e
   try simp only[List.length_cons,List.length_nil,Nat.zero_add] at h11a
   simp -dsimp [hf,h11a]
   refine bv ?_
   refine aQ ?_
   refine sr1 hn ?_
   simp -dsimp [hf]
   cases hm
   refine bE ?_
   refine emv 65 5000 ?_
   exact zz
 ·exact zz
theorem fb_R13_walk_o_N (rcv:((List Node)->(List Int)->Int->(List Int)->Option ((List Int)×(List Node)))) (_aI:H_R13_walk_o_N rcv) (l:List Node) (ab:List Int) (i:Int) (done:List Int) (r:(List Int)×(List Node)) (hm:mb_R13_walk_o_N rcv l ab i done=some r):GFn Tryz.prog 111 [.u (.one (dR0 l)),.u (.one (dL ab)),vI i,vO 1000000,.u (.one (.d .nil))] [.row 1 3 (List.map (rI .i64) done)] (vO 1000001) [some (.row 1 3 (List.map (rI .i64) r.1)),some (.row 2 32 (List.map Node.row r.2))]:=by
 refine bI bj _ Tryz.func111 rfl (by kernel_rfl) (by simp[Tryz.ntmps111]) (by simp) (by first | rfl | simp) (by first | rfl | simp) fun cx hn hk=>?_
 replace hn:cx.n=76:=hn.trans Tryz.ntmps111
 replace hk:cx.k=1:=hk
 unfold mb_R13_walk_o_N at hm
 refine srs hn ?_
 simp -dsimp
 refine aS ?_
 refine srs hn ?_
 obtain⟨x,h1,hm⟩:=bnd hm
 simp -dsimp [h1,bf h1]
 rcases aZ hm with ⟨c2,hm⟩ | ⟨c2,hm⟩
 ·refine aV (by simp -dsimp) c2 ?_
  refine srs hn ?_
  simp -dsimp [c2]
  refine bb (bS ?_)
  cases hm
  refine⟨.inr rfl,?_⟩
  refine emr 5001 1000001 hk ?_
  refine EE.step (Wk.own0 10 5001 2 32 (by simp -dsimp) (by decide)) ?_
  refine emr 5001 1000001 hk ?_
  exact zz
 ·refine aX (by simp -dsimp) c2 ?_
  refine aU (aQ ?_)
  refine srs hn ?_
  obtain⟨x1,h3,hm⟩:=bnd hm
  simp -dsimp [c2,h3]
  refine aS ?_
  refine srs hn ?_
  simp -dsimp
  refine aW ?_
  obtain⟨⟨l1,out,aA⟩,g13,hm⟩:=bnd hm
  refine bd (l_R13_walk_o_N_1 cx hn hk l ab i x1 g13) (by
    try dsimp only
    refine EE.step (Wk.own0 4 5003 2 32 (by simp -dsimp) (by decide)) ?_
    refine EE.step (Wk.own0b 11 1 5000 1 3 [dI x1.Level,.d .nil] (by simp -dsimp) (by rfl) (by decide) (by decide)) ?_
    exact zz
  ) fun ee Z O xx=>?_
  unfold eQ at xx
  dsimp only at xx
  obtain⟨rfl,xx⟩:=xx
  refine bh ?_
  refine aQ ?_
  refine see xx fun Z O hf=>?_
  simp only[Fits,b8,b9,and_true] at hf
  refine srs hn ?_
  obtain⟨x2,h14,hm⟩:=bnd hm
  simp -dsimp [hf,h14,bf h14,rsetI .i64 aA i.toNat (aT out)]
  refine Swp.pre (Wk.frz 5000 1 3 (List.map (rI .i64) l1) (by simp -dsimp [hf])) ?_
  refine srs hn ?_
  obtain⟨l2,h15,hm⟩:=bnd hm
  obtain⟨h15a,h15e⟩:=b6 h15
  replace h15e:=h15e.symm
  subst h15e
  try simp only[List.length_cons,List.length_nil,Nat.zero_add] at h15a
  simp -dsimp [hf,h15a]
  refine bb ?_
  cases hm
  refine⟨.inr rfl,?_⟩
  refine emr 75 1000001 hk ?_
  exact zz
theorem g_R13_walk_o_N (l:List Node) (ab:List Int) (i:Int) (done:List Int) (r:(List Int)×(List Node)) (hm:m_R13_walk_o_N l ab i done=some r):GFn Tryz.prog 111 [.u (.one (dR0 l)),.u (.one (dL ab)),vI i,vO 1000000,.u (.one (.d .nil))] [.row 1 3 (List.map (rI .i64) done)] (vO 1000001) [some (.row 1 3 (List.map (rI .i64) r.1)),some (.row 2 32 (List.map Node.row r.2))]:=eC H_R13_walk_o_N (by intro _; intro _; intro _; intro _; intro _; intro hm; cases hm) fb_R13_walk_o_N fg l ab i done r hm
end
def fj (cx:Cx) (l:List Node) (y:List Int) (tt:(List Int)) (ee:Exit) (Z:Env) (O:Sto):Prop:=match tt with
 | done=>ee=.exit 0/\EE cx (bg [(0,.u (.one (dR0 l))),(3,.u (.one (dL y))),(4,vO 5000)] [(5000,.row 1 3 (List.map (rI .i64) done))]) Z O
theorem l_R13_reduced_1 (cx:Cx) (hn:cx.n=27) (l:List Node) (y:List Int) {fu:Nat} {stt:Int×(List Int)} {tt:(List Int)} (hh:aY (b_R13_reduced_1 l y) fu stt=some tt) {Z:Env} {O:Sto}
  (hE:bl (fun stt:Int×(List Int)=>match stt with | (i,_done)=>[(0,.u (.one (dR0 l))),(3,.u (.one (dL y))),(4,vO 5000),(5,vI i)]) (fun stt:Int×(List Int)=>match stt with | (_i,done)=>[(5000,.row 1 3 (List.map (rI .i64) done))]) stt Z O):Swp Tryz.prog cx (.loop (bA [1,1,1,0,1,0,0] (be Tryz.f47))) Z O (fj cx l y tt):=by
 refine bm hE hh (fj cx l y) ?_
 rintro⟨i,done⟩ r hm Z O hf
 simp only[Fits,b8,b9,and_true] at hf
 unfold b_R13_reduced_1 at hm
 dsimp only at hm
 refine aS ?_
 refine srs hn ?_
 simp -dsimp [hf]
 rcases aZ hm with ⟨c2,hm⟩ | ⟨c2,hm⟩
 ·refine aV (by simp -dsimp) c2 ?_
  refine aU (aQ (aS (aW ?_)))
  refine sr1 hn ?_
  obtain⟨l1,h3,hm⟩:=bnd hm
  obtain⟨h3a,h3e⟩:=b6 h3
  replace h3e:=h3e.symm
  subst h3e
  try simp only[List.length_cons,List.length_nil,Nat.zero_add] at h3a
  simp -dsimp [hf,c2,h3a]
  refine bv ?_
  refine aQ ?_
  refine sr1 hn ?_
  simp -dsimp [hf]
  cases hm
  refine bE ?_
  refine emv 16 5000 ?_
  exact zz
 ·exact zz
theorem c_R13_reduced (l r:List Node) (hm:m_R13_reduced l=some r):PureCall Tryz.prog 47 [.u (.one (dR0 l))] (.u (.one (dR0 r))):=by
 refine bo Tryz.func47 Tryz.ntmps47 fun cx hn=>?_
 unfold m_R13_reduced at hm
 refine srs hn ?_
 simp -dsimp
 refine srs hn ?_
 obtain⟨y,h1,hm⟩:=bnd hm
 simp -dsimp
 refine aR (c_R13_classes l y h1) (dkL hn) ?_
 simp -dsimp
 refine srs hn ?_
 simp -dsimp
 refine aS ?_
 refine srs hn ?_
 simp -dsimp
 refine aW ?_
 obtain⟨done,g4,hm⟩:=bnd hm
 refine bd (l_R13_reduced_1 cx hn l y g4) (by
   try dsimp only
   refine EE.step (Wk.own0 4 5000 1 3 (by simp -dsimp) (by decide)) ?_
   exact zz
 ) fun ee Z O xx=>?_
 unfold fj at xx
 dsimp only at xx
 obtain⟨rfl,xx⟩:=xx
 refine bh ?_
 refine aQ ?_
 refine see xx fun Z O hf=>?_
 simp only[Fits,b8,b9,and_true] at hf
 refine srs hn ?_
 obtain⟨x,h5,hm⟩:=bnd hm
 obtain⟨y1,h6,hm⟩:=bnd hm
 simp -dsimp [hf,h5]
 refine clg (g_R13_walk_o_N l y x done y1 h6) [5000] [5001] (by simp -dsimp [hf]) (dkL hn) ?_
 exact zz
theorem fy (t r:Tree) (hm:m_R13_Reduce t=some r):PureCall Tryz.prog 46 [.u (.agg [dI t.States,dR1 t.Hood,dR0 t.Nodes])] (.u (.agg [dI r.States,dR1 r.Hood,dR0 r.Nodes])):=by
 refine bo Tryz.func46 Tryz.ntmps46 fun cx hn=>?_
 unfold m_R13_Reduce at hm
 refine srs hn ?_
 simp -dsimp
 refine aS ?_
 refine srs hn ?_
 obtain⟨y,h1,hm⟩:=bnd hm
 simp -dsimp
 refine aR (eh t y h1) (dkL hn) ?_
 simp -dsimp
 rcases aZ hm with ⟨c2,hm⟩ | ⟨c2,hm⟩
 ·exact zz
 ·refine aX (by simp -dsimp) c2 ?_
  refine aU (aQ ?_)
  refine gt bj mixed 7 (by rw[hn]; kernel_rfl) ?_
  dsimp only [List.take,List.drop]
  obtain⟨y1,h3,hm⟩:=bnd hm
  simp -dsimp [c2]
  refine b7 (c_R13_reduced t.Nodes y1 h3) ?_
  exact zz
def F_R12_Value_1 (cx:Cx) (_t:Tree) (_in_:List Int) (tt:Int) (ee:Exit) (Z:Env) (O:Sto):Prop:=match tt with
 | k=>ee=.exit 0/\EE cx (bg [(5,vI k)] []) Z O
theorem l_R12_Value_1 (cx:Cx) (hn:cx.n=30) (t:Tree) (in_:List Int) {fu:Nat} {stt:Int×Int} {tt:Int} (hh:aY (b_R12_Value_1 t in_) fu stt=some tt) {Z:Env} {O:Sto}
  (hE:bl (fun stt:Int×Int=>match stt with | (k,i)=>[(1,.u (.one (dL in_))),(2,vX 2),(5,vI k),(6,vI i)]) (fun stt:Int×Int=>match stt with | (_k,_i)=>[(2,.box [dI t.States,dR1 t.Hood,dR0 t.Nodes])]) stt Z O):Swp Tryz.prog cx (.loop (bA [1,1,0,1,0,0] (be Tryz.f108))) Z O (F_R12_Value_1 cx t in_ tt):=by
 refine bm hE hh (F_R12_Value_1 cx t in_) ?_
 rintro⟨k,i⟩ r hm Z O hf
 simp only[Fits,b8,b9,and_true] at hf
 unfold b_R12_Value_1 at hm
 exact zz
theorem c_R12_Value (t:Tree) (in_:List Int) (r:Int) (hm:m_R12_Value t in_=some r):PureCall Tryz.prog 108 [.u (.agg [dI t.States,dR1 t.Hood,dR0 t.Nodes]),.u (.one (dL in_))] (vI r):=by
 refine bo Tryz.func108 Tryz.ntmps108 fun cx hn=>?_
 unfold m_R12_Value at hm
 refine srs hn ?_
 simp -dsimp
 refine srs hn ?_
 simp -dsimp
 refine aS ?_
 refine srs hn ?_
 simp -dsimp
 refine aW ?_
 obtain⟨k,g5,hm⟩:=bnd hm
 refine bd (l_R12_Value_1 cx hn t in_ g5) (by
   try dsimp only
   exact eeh
 ) fun ee Z O xx=>?_
 exact zz
def F_R13_Fix_2 (cx:Cx) (t:Tree) (k s i:Int) (l:List Node) (x:Node) (tt:(List Int)) (ee:Exit) (Z:Env) (O:Sto):Prop:=match tt with
 | l1=>ee=.exit 2/\EE cx (bg [(1,vI k),(2,vI s),(3,vX 3),(6,vX 6),(8,vO 5001),(9,vI i),(10,vX 10)] [(3,.box [dI t.States,dR1 t.Hood,dR0 t.Nodes]),(6,.box [dI 0,.d .nil,.d .nil]),(10,.box [dI x.Level,.own 5000]),(5000,.row 1 3 (List.map (rI .i64) l1)),(5001,.row 2 32 (List.map Node.row l))]) Z O
theorem l_R13_Fix_2 (cx:Cx) (hn:cx.n=102) (t:Tree) (k s i:Int) (l:List Node) (x:Node) {fu:Nat} {stt:Int×(List Int)} {tt:(List Int)} (hh:aY (b_R13_Fix_2 t k s i l x) fu stt=some tt) {Z:Env} {O:Sto}
  (hE:bl (fun stt:Int×(List Int)=>match stt with | (jv,_l1)=>[(1,vI k),(2,vI s),(3,vX 3),(6,vX 6),(8,vO 5001),(9,vI i),(10,vX 10),(11,vI jv)]) (fun stt:Int×(List Int)=>match stt with | (_jv,l1)=>[(3,.box [dI t.States,dR1 t.Hood,dR0 t.Nodes]),(6,.box [dI 0,.d .nil,.d .nil]),(10,.box [dI x.Level,.own 5000]),(5000,.row 1 3 (List.map (rI .i64) l1)),(5001,.row 2 32 (List.map Node.row l))]) stt Z O):Swp Tryz.prog cx (.loop (bA [1,1,1,1,1,0,1,0,0,1,0,0,1,0,1,0,0] (be Tryz.f109))) Z O (F_R13_Fix_2 cx t k s i l x tt):=by
 refine bm hE hh (F_R13_Fix_2 cx t k s i l x) ?_
 rintro⟨jv,l1⟩ r hm Z O hf
 simp only[Fits,b8,b9,and_true] at hf
 unfold b_R13_Fix_2 at hm
 dsimp only at hm
 refine aS ?_
 refine srs hn ?_
 simp -dsimp [hf]
 rcases aZ hm with ⟨c9,hm⟩ | ⟨c9,hm⟩
 ·refine aV (by simp -dsimp) c9 ?_
  refine aU (aQ ?_)
  obtain⟨l2,j17,hm⟩:=bnd hm
  refine scE [(1,vI k),(2,vI s),(3,vX 3),(6,vX 6),(8,vO 5001),(9,vI i),(10,vX 10),(11,vI jv)] [(3,.box [dI t.States,dR1 t.Hood,dR0 t.Nodes]),(6,.box [dI 0,.d .nil,.d .nil]),(10,.box [dI x.Level,.own 5000]),(5000,.row 1 3 (List.map (rI .i64) l2)),(5001,.row 2 32 (List.map Node.row l))] ?_ fun Z O hf=>?_
  ·replace hm:=j17
   clear j17
   refine aW ?_
   refine srs hn ?_
   simp -dsimp [hf,c9]
   rcases aZ hm with ⟨c10,hm⟩ | ⟨c10,hm⟩
   ·refine aV (by simp -dsimp) c10 ?_
    refine sw_drN bj mixed 12 (by rw[hn]; kernel_rfl) ?_
    dsimp only [List.take,List.drop]
    obtain⟨x1,h11,hm⟩:=bnd hm
    obtain⟨x2,h12,hm⟩:=bnd hm
    obtain⟨l2,h13,hm⟩:=bnd hm
    obtain⟨h13a,h13e⟩:=b6 h13
    replace h13e:=h13e.symm
    subst h13e
    try simp only[List.length_cons,List.length_nil,Nat.zero_add] at h13a
    simp -dsimp [hf,c10,h11,h12,h13a]
    refine bv ?_
    refine aQ ?_
    cases hm
    refine emv 75 5000 ?_
    exact zz
   ·refine aX (by simp -dsimp) c10 ?_
    refine sw_drN bj mixed 12 (by rw[hn]; kernel_rfl) ?_
    dsimp only [List.take,List.drop]
    obtain⟨x1,h14,hm⟩:=bnd hm
    obtain⟨x2,h15,hm⟩:=bnd hm
    obtain⟨l2,h16,hm⟩:=bnd hm
    obtain⟨h16a,h16e⟩:=b6 h16
    replace h16e:=h16e.symm
    subst h16e
    try simp only[List.length_cons,List.length_nil,Nat.zero_add] at h16a
    simp -dsimp [hf,c10,h14,h15,h16a]
    refine bv ?_
    refine aQ ?_
    cases hm
    refine emv 89 5000 ?_
    exact zz
  ·clear j17
   exact zz
 ·exact zz
def F_R13_Fix_1 (cx:Cx) (t:Tree) (_k _s:Int) (tt:(List Node)) (ee:Exit) (Z:Env) (O:Sto):Prop:=match tt with
 | l=>ee=.exit 0/\EE cx (bg [(3,vX 3),(6,vX 6),(8,vO 5001)] [(3,.box [dI t.States,dR1 t.Hood,dR0 t.Nodes]),(6,.box [dI 0,.d .nil,.d .nil]),(5001,.row 2 32 (List.map Node.row l))]) Z O
theorem l_R13_Fix_1 (cx:Cx) (hn:cx.n=102) (t:Tree) (k s:Int) {fu:Nat} {stt:Int×(List Node)} {tt:(List Node)} (hh:aY (b_R13_Fix_1 t k s) fu stt=some tt) {Z:Env} {O:Sto}
  (hE:bl (fun stt:Int×(List Node)=>match stt with | (i,_l)=>[(1,vI k),(2,vI s),(3,vX 3),(6,vX 6),(8,vO 5001),(9,vI i)]) (fun stt:Int×(List Node)=>match stt with | (_i,l)=>[(3,.box [dI t.States,dR1 t.Hood,dR0 t.Nodes]),(6,.box [dI 0,.d .nil,.d .nil]),(5001,.row 2 32 (List.map Node.row l))]) stt Z O):Swp Tryz.prog cx (.loop (bA [1,1,1,1,1,0,1,0,0] (be Tryz.f109))) Z O (F_R13_Fix_1 cx t k s tt):=by
 refine bm hE hh (F_R13_Fix_1 cx t k s) ?_
 rintro⟨i,l⟩ r hm Z O hf
 simp only[Fits,b8,b9,and_true] at hf
 unfold b_R13_Fix_1 at hm
 dsimp only at hm
 refine aS ?_
 refine srs hn ?_
 simp -dsimp [hf]
 rcases aZ hm with ⟨c7,hm⟩ | ⟨c7,hm⟩
 ·refine aV (by simp -dsimp) c7 ?_
  refine aU (aQ (aS (aW ?_)))
  refine srs hn ?_
  obtain⟨x,h8,hm⟩:=bnd hm
  simp -dsimp [hf,c7,h8]
  refine aS ?_
  refine srs hn ?_
  simp -dsimp
  refine aW ?_
  obtain⟨l1,g18,hm⟩:=bnd hm
  refine bd (l_R13_Fix_2 cx hn t k s i l x g18) (by
    try dsimp only
    refine EE.step (Wk.own0b 10 1 5000 1 3 [dI x.Level,.d .nil] (by simp -dsimp) (by rfl) (by decide) (by decide)) ?_
    exact zz
  ) fun ee Z O xx=>?_
  unfold F_R13_Fix_2 at xx
  dsimp only at xx
  obtain⟨rfl,xx⟩:=xx
  refine bh ?_
  refine aQ ?_
  refine see xx fun Z O hf=>?_
  simp only[Fits,b8,b9,and_true] at hf
  refine Swp.pre (Wk.frz 5000 1 3 (List.map (rI .i64) l1) (by simp -dsimp [hf])) ?_
  refine sr1 hn ?_
  obtain⟨l2,h19,hm⟩:=bnd hm
  obtain⟨h19a,h19e⟩:=b6 h19
  replace h19e:=h19e.symm
  subst h19e
  try simp only[List.length_cons,List.length_nil,Nat.zero_add] at h19a
  simp -dsimp [hf,h19a]
  refine bv ?_
  refine aQ ?_
  refine sr1 hn ?_
  simp -dsimp [hf]
  cases hm
  refine bE ?_
  refine emv 94 5001 ?_
  exact zz
 ·exact zz
theorem c_R13_Fix (t:Tree) (k s:Int) (r:Tree×Int) (hm:m_R13_Fix t k s=some r):PureCall Tryz.prog 109 [.u (.agg [dI t.States,dR1 t.Hood,dR0 t.Nodes]),vI k,vI s] (.tup [.agg [dI r.1.States,dR1 r.1.Hood,dR0 r.1.Nodes],.one (dI r.2)]):=by
 refine bo Tryz.func109 Tryz.ntmps109 fun cx hn=>?_
 unfold m_R13_Fix at hm
 refine srs hn ?_
 simp -dsimp
 refine aS ?_
 refine srs hn ?_
 obtain⟨y,h1,hm⟩:=bnd hm
 simp -dsimp
 refine aR (eh t y h1) (dkL hn) ?_
 simp -dsimp
 rcases aZ hm with ⟨c2,hm⟩ | ⟨c2,hm⟩
 ·exact zz
 ·refine aX (by simp -dsimp) c2 ?_
  refine aU (aQ (aS ?_))
  obtain⟨a,j23,hm⟩:=bnd hm
  refine scE [(1,vI k),(2,vI s),(3,vX 3),(6,vX 6),(24,vT a)] [(3,.box [dI t.States,dR1 t.Hood,dR0 t.Nodes]),(6,.box [dI 0,.d .nil,.d .nil])] ?_ fun Z O hf=>?_
  ·replace hm:=j23
   clear j23
   exact zz
  ·clear j23
   simp only[Fits,b8,b9,and_true] at hf
   rcases aZ hm with ⟨c4,hm⟩ | ⟨c4,hm⟩
   ·exact zz
   ·refine aX (by simp -dsimp [hf]) c4 ?_
    refine aU (aQ (aS ?_))
    obtain⟨a1,j22,hm⟩:=bnd hm
    refine scE [(1,vI k),(2,vI s),(3,vX 3),(6,vX 6),(33,vT a1)] [(3,.box [dI t.States,dR1 t.Hood,dR0 t.Nodes]),(6,.box [dI 0,.d .nil,.d .nil])] ?_ fun Z O hf=>?_
    ·replace hm:=j22
     clear j22
     exact zz
    ·clear j22
     simp only[Fits,b8,b9,and_true] at hf
     rcases aZ hm with ⟨c6,hm⟩ | ⟨c6,hm⟩
     ·exact zz
     ·refine aX (by simp -dsimp [hf]) c6 ?_
      refine aU (aQ ?_)
      refine srs hn ?_
      simp -dsimp
      refine aS ?_
      refine srs hn ?_
      simp -dsimp
      refine aW ?_
      obtain⟨l,g20,hm⟩:=bnd hm
      refine bd (l_R13_Fix_1 cx hn t k s g20) (by
        try dsimp only
        refine EE.step (Wk.own0 8 5001 2 32 (by simp -dsimp) (by decide)) ?_
        exact zz
      ) fun ee Z O xx=>?_
      unfold F_R13_Fix_1 at xx
      dsimp only at xx
      obtain⟨rfl,xx⟩:=xx
      refine bh ?_
      refine aQ ?_
      refine see xx fun Z O hf=>?_
      simp only[Fits,b8,b9,and_true] at hf
      refine Swp.pre (Wk.frz 5001 2 32 (List.map Node.row l) (by simp -dsimp [hf])) ?_
      refine srs hn ?_
      obtain⟨y1,h21,hm⟩:=bnd hm
      simp -dsimp [hf]
      refine aR (fy (⟨t.States,t.Hood,l⟩:Tree) y1 h21) (dkL hn) ?_
      exact zz
end Go.Proofs.YtcllfealpkhjfaaGreatDoor
