/- That the code does what the functions say (made by cc.py). -/
import Derived.Test.YtcllfealpkhjfaaGreatDoorTb
import Derived.Test.YtcllfealpkhjfaaGreatDoorLax1
namespace Go.Proofs.YtcllfealpkhjfaaGreatDoor
open Go.AM Go.Proofs
set_option maxRecDepth 100000
attribute [-simp] qlookup cd cW Ob.wipe Ob.ren Ob.frz1
def F_L12_Few_1 (cx:Cx) (_t:Tree) (tt:Bool ⊕ Unit) (ee:Exit) (Z:Env) (O:Sto):Prop:=match tt with
 | .inl r=>ee=.ret/\EE cx (fun Z O=>∃ v,di tb Z O Tryz.f4.results.toList=some v/\(v.frz O).free=true/\(v.frz O).wk (vT r)) Z O
 | .inr _u=>ee=.exit 0/\EE cx (bg [] []) Z O
theorem l_L12_Few_1 (cx:Cx) (hn:cx.n=29) (t:Tree) {fu:Nat} {stt:Int} {tt:Bool ⊕ Unit} (hh:aY (b_L12_Few_1 t) fu stt=some tt) {Z:Env} {O:Sto}
  (hE:bl (fun a1:Int=>[(1,vX 1),(16,vI (aT t.Nodes)),(17,vI a1)]) (fun _a1:Int=>[(1,.box [dI t.States,dR1 t.Hood,dR0 t.Nodes])]) stt Z O):Swp Tryz.prog cx (.loop (bA [1,1,0,1,0,0] (be Tryz.f4))) Z O (F_L12_Few_1 cx t tt):=by
 refine bm hE hh (F_L12_Few_1 cx t) ?_
 rintro a1 r hm Z O hf
 simp only[Fits,b8,b9,and_true] at hf
 unfold b_L12_Few_1 at hm
 exact zz
theorem c_L12_Few (t:Tree) (r:Bool) (hm:m_L12_Few t=some r):PureCall Tryz.prog 4 [.u (.agg [dI t.States,dR1 t.Hood,dR0 t.Nodes])] (vT r):=by
 refine bo Tryz.func4 Tryz.ntmps4 fun cx hn=>?_
 unfold m_L12_Few at hm
 refine srs hn ?_
 simp -dsimp
 refine aS ?_
 obtain⟨a,j7,hm⟩:=bnd hm
 refine scE [(1,vX 1),(13,vT a)] [(1,.box [dI t.States,dR1 t.Hood,dR0 t.Nodes])] ?_ fun Z O hf=>?_
 ·replace hm:=j7
  clear j7
  exact zz
 ·clear j7
  simp only[Fits,b8,b9,and_true] at hf
  rcases aZ hm with ⟨c2,hm⟩ | ⟨c2,hm⟩
  ·exact zz
  ·refine aX (by simp -dsimp [hf]) c2 ?_
   refine aU (aQ (aS ?_))
   refine srs hn ?_
   simp -dsimp [hf]
   refine aW ?_
   obtain⟨o_,g6,hm⟩:=bnd hm
   refine bd (l_L12_Few_1 cx hn t g6) (by
     try dsimp only
     exact EE.here (by simp -dsimp [hf])
   ) fun ee Z O xx=>?_
   rcases o_ with r | _u
   ·exact zz
   ·exact zz
theorem cB (s ay:List UInt8) (r:Bool) (hm:m_internal_stringslite_HasPrefix s ay=some r):PureCall Tryz.prog 93 [.u (.one (.d (.str (bs s)))),.u (.one (.d (.str (bs ay))))] (vT r):=by
 refine bo Tryz.func93 Tryz.ntmps93 fun cx hn=>?_
 unfold m_internal_stringslite_HasPrefix at hm
 refine srs hn ?_
 simp -dsimp
 obtain⟨a,j3,hm⟩:=bnd hm
 refine scE [(4,vT a)] [] ?_ fun Z O hf=>?_
 ·replace hm:=j3
  clear j3
  exact zz
 ·clear j3
  exact zz
theorem ew (s ay:List UInt8) (r:(List UInt8)×Bool) (hm:m_internal_stringslite_CutPrefix s ay=some r):PureCall Tryz.prog 112 [.u (.one (.d (.str (bs s)))),.u (.one (.d (.str (bs ay))))] (.tup [.one (.d (.str (bs r.1))),.one (.d (.bool r.2))]):=by
 refine bo Tryz.func112 Tryz.ntmps112 fun cx hn=>?_
 unfold m_internal_stringslite_CutPrefix at hm
 refine srs hn ?_
 simp -dsimp
 refine aS ?_
 refine srs hn ?_
 obtain⟨y,h1,hm⟩:=bnd hm
 simp -dsimp
 refine aR (cB s ay y h1) (dkL hn) ?_
 exact zz
theorem bU (s ay:List UInt8) (r:(List UInt8)×Bool) (hm:m_strings_CutPrefix s ay=some r):PureCall Tryz.prog 49 [.u (.one (.d (.str (bs s)))),.u (.one (.d (.str (bs ay))))] (.tup [.one (.d (.str (bs r.1))),.one (.d (.bool r.2))]):=by
 refine bo Tryz.func49 Tryz.ntmps49 fun cx hn=>?_
 unfold m_strings_CutPrefix at hm
 refine srs hn ?_
 simp -dsimp
 refine srs hn ?_
 obtain⟨y,h1,hm⟩:=bnd hm
 simp -dsimp
 refine aR (ew s ay y h1) (dkL hn) ?_
 exact zz
theorem c_strings_Cut (s sep:List UInt8) (r:(List UInt8)×(List UInt8)×Bool) (hm:m_strings_Cut s sep=some r):PureCall Tryz.prog 50 [.u (.one (.d (.str (bs s)))),.u (.one (.d (.str (bs sep))))] (.tup [.one (.d (.str (bs r.1))),.one (.d (.str (bs r.2.1))),.one (.d (.bool r.2.2))]):=cut_pure cutL (by kernel_rfl) rfl ⟨_,Tryz.func50,by decide,rfl⟩ hm
theorem c_hood_Moore_1 (x y:Int) (r:Bool) (hm:m_hood_Moore_1 x y=some r):PureCall Tryz.prog 115 [vI x,vI y] (vT r):=by
 refine bo Tryz.func115 Tryz.ntmps115 fun cx hn=>?_
 unfold m_hood_Moore_1 at hm
 exact zz
def cQ (cx:Cx) (r_ y:Int) (tt:(List Point)) (ee:Exit) (Z:Env) (O:Sto):Prop:=match tt with
 | l1=>ee=.exit 2/\EE cx (bg [(0,vI r_),(1,.u (.one (.fn 115 []))),(5,vO 5000),(6,vI y)] [(5000,.row 2 67 (List.map Point.row l1))]) Z O
theorem eW (cx:Cx) (hn:cx.n=33) (r_ y:Int) {fu:Nat} {stt:Int×(List Point)} {tt:(List Point)} (hh:aY (b_hood_collect_hood_Moore_1_2 r_ y) fu stt=some tt) {Z:Env} {O:Sto}
  (hE:bl (fun stt:Int×(List Point)=>match stt with | (x,_l1)=>[(0,vI r_),(1,.u (.one (.fn 115 []))),(5,vO 5000),(6,vI y),(7,vI x)]) (fun stt:Int×(List Point)=>match stt with | (_x,l1)=>[(5000,.row 2 67 (List.map Point.row l1))]) stt Z O):Swp Tryz.prog cx (.loop (bA [1,1,0,1,0,0,1,0,0,1,0,0] (be Tryz.f114))) Z O (cQ cx r_ y tt):=by
 refine bm hE hh (cQ cx r_ y) ?_
 rintro⟨x,l1⟩ r hm Z O hf
 simp only[Fits,b8,b9,and_true] at hf
 unfold b_hood_collect_hood_Moore_1_2 at hm
 dsimp only at hm
 refine aS ?_
 refine srs hn ?_
 simp -dsimp [hf]
 rcases aZ hm with ⟨c2,hm⟩ | ⟨c2,hm⟩
 ·refine aV (by simp -dsimp) c2 ?_
  refine aU (aQ ?_)
  obtain⟨l2,j6,hm⟩:=bnd hm
  refine scE [(0,vI r_),(1,.u (.one (.fn 115 []))),(5,vO 5000),(6,vI y),(7,vI x)] [(5000,.row 2 67 (List.map Point.row l2))] ?_ fun Z O hf=>?_
  ·replace hm:=j6
   clear j6
   refine aW ?_
   refine srs hn ?_
   obtain⟨y1,h3,hm⟩:=bnd hm
   simp -dsimp [hf,c2]
   refine aR (c_hood_Moore_1 x y y1 h3) (dkL hn) ?_
   simp -dsimp
   rcases aZ hm with ⟨c4,hm⟩ | ⟨c4,hm⟩
   ·refine aV (by simp -dsimp) c4 ?_
    refine sr1 hn ?_
    obtain⟨l2,h5,hm⟩:=bnd hm
    obtain⟨h5a,h5e⟩:=b6 h5
    replace h5e:=h5e.symm
    subst h5e
    try simp only[List.length_cons,List.length_nil,Nat.zero_add] at h5a
    simp -dsimp [hf,c4,h5a]
    refine bv ?_
    refine aQ ?_
    cases hm
    refine emv 31 5000 ?_
    exact zz
   ·exact zz
  ·clear j6
   exact zz
 ·exact zz
def cO (cx:Cx) (_r_:Int) (tt:(List Point)) (ee:Exit) (Z:Env) (O:Sto):Prop:=match tt with
 | l=>ee=.exit 0/\EE cx (bg [(5,vO 5000)] [(5000,.row 2 67 (List.map Point.row l))]) Z O
theorem fc (cx:Cx) (hn:cx.n=33) (r_:Int) {fu:Nat} {stt:Int×(List Point)} {tt:(List Point)} (hh:aY (b_hood_collect_hood_Moore_1_1 r_) fu stt=some tt) {Z:Env} {O:Sto}
  (hE:bl (fun stt:Int×(List Point)=>match stt with | (y,_l)=>[(0,vI r_),(1,.u (.one (.fn 115 []))),(5,vO 5000),(6,vI y)]) (fun stt:Int×(List Point)=>match stt with | (_y,l)=>[(5000,.row 2 67 (List.map Point.row l))]) stt Z O):Swp Tryz.prog cx (.loop (bA [1,1,0,1,0,0] (be Tryz.f114))) Z O (cO cx r_ tt):=by
 refine bm hE hh (cO cx r_) ?_
 rintro⟨y,l⟩ r hm Z O hf
 simp only[Fits,b8,b9,and_true] at hf
 unfold b_hood_collect_hood_Moore_1_1 at hm
 dsimp only at hm
 refine aS ?_
 refine srs hn ?_
 simp -dsimp [hf]
 rcases aZ hm with ⟨c1,hm⟩ | ⟨c1,hm⟩
 ·refine aV (by simp -dsimp) c1 ?_
  refine aU (aQ (aS (aW ?_)))
  refine srs hn ?_
  simp -dsimp [hf,c1]
  refine aW ?_
  obtain⟨l1,g7,hm⟩:=bnd hm
  refine bd (eW cx hn r_ y g7) (by
    try dsimp only
    exact EE.here (by simp -dsimp [hf])
  ) fun ee Z O xx=>?_
  exact zz
 ·exact zz
theorem fL (r_:Int) (r:List Point) (hm:m_hood_collect_hood_Moore_1 r_=some r):PureCall Tryz.prog 114 [vI r_,.u (.one (.fn 115 []))] (.u (.one (dR1 r))):=by
 refine bo Tryz.func114 Tryz.ntmps114 fun cx hn=>?_
 unfold m_hood_collect_hood_Moore_1 at hm
 refine srs hn ?_
 simp -dsimp
 refine srs hn ?_
 simp -dsimp
 refine aS ?_
 refine srs hn ?_
 simp -dsimp
 refine aW ?_
 obtain⟨l,g8,hm⟩:=bnd hm
 refine bd (fc cx hn r_ g8) (by
   try dsimp only
   refine EE.step (Wk.own0 5 5000 2 67 (by simp -dsimp) (by decide)) ?_
   exact zz
 ) fun ee Z O xx=>?_
 exact zz
theorem ic (r_:Int) (r:List Point) (hm:m_hood_Moore r_=some r):PureCall Tryz.prog 51 [vI r_] (.u (.one (dR1 r))):=by
 refine bo Tryz.func51 Tryz.ntmps51 fun cx hn=>?_
 unfold m_hood_Moore at hm
 refine srs hn ?_
 simp -dsimp
 refine aS ?_
 obtain⟨a,j4,hm⟩:=bnd hm
 refine scE [(0,vI r_),(8,vT a)] [] ?_ fun Z O hf=>?_
 ·replace hm:=j4
  clear j4
  exact zz
 ·clear j4
  simp only[Fits,b8,b9,and_true] at hf
  rcases aZ hm with ⟨c2,hm⟩ | ⟨c2,hm⟩
  ·exact zz
  ·refine aX (by simp -dsimp [hf]) c2 ?_
   refine aU (aQ ?_)
   refine srs hn ?_
   obtain⟨y,h3,hm⟩:=bnd hm
   simp -dsimp [hf]
   refine aR (fL r_ y h3) (dkL hn) ?_
   exact zz
theorem eD (s aC:List UInt8) (r:Bool) (hm:m_internal_stringslite_HasSuffix s aC=some r):PureCall Tryz.prog 151 [.u (.one (.d (.str (bs s)))),.u (.one (.d (.str (bs aC))))] (vT r):=by
 refine bo Tryz.func151 Tryz.ntmps151 fun cx hn=>?_
 unfold m_internal_stringslite_HasSuffix at hm
 refine srs hn ?_
 simp -dsimp
 obtain⟨a,j3,hm⟩:=bnd hm
 refine scE [(4,vT a)] [] ?_ fun Z O hf=>?_
 ·replace hm:=j3
  clear j3
  exact zz
 ·clear j3
  exact zz
theorem eE (s aC:List UInt8) (r:(List UInt8)×Bool) (hm:m_internal_stringslite_CutSuffix s aC=some r):PureCall Tryz.prog 116 [.u (.one (.d (.str (bs s)))),.u (.one (.d (.str (bs aC))))] (.tup [.one (.d (.str (bs r.1))),.one (.d (.bool r.2))]):=by
 refine bo Tryz.func116 Tryz.ntmps116 fun cx hn=>?_
 unfold m_internal_stringslite_CutSuffix at hm
 refine srs hn ?_
 simp -dsimp
 refine aS ?_
 refine srs hn ?_
 obtain⟨y,h1,hm⟩:=bnd hm
 simp -dsimp
 refine aR (eD s aC y h1) (dkL hn) ?_
 exact zz
theorem cK (s aC:List UInt8) (r:(List UInt8)×Bool) (hm:m_strings_CutSuffix s aC=some r):PureCall Tryz.prog 52 [.u (.one (.d (.str (bs s)))),.u (.one (.d (.str (bs aC))))] (.tup [.one (.d (.str (bs r.1))),.one (.d (.bool r.2))]):=by
 refine bo Tryz.func52 Tryz.ntmps52 fun cx hn=>?_
 unfold m_strings_CutSuffix at hm
 refine srs hn ?_
 simp -dsimp
 refine srs hn ?_
 obtain⟨y,h1,hm⟩:=bnd hm
 simp -dsimp
 refine aR (eE s aC y h1) (dkL hn) ?_
 exact zz
theorem c_hood_Neumann_1 (x y a:Int) (r:Bool) (hm:m_hood_Neumann_1 x y a=some r):PureCall Tryz.prog 117 [vI x,vI y,.u (.one (.ref ((rI .i64) a) 0))] (vT r):=by
 refine bo Tryz.func117 Tryz.ntmps117 fun cx hn=>?_
 unfold m_hood_Neumann_1 at hm
 refine srs hn ?_
 simp -dsimp
 refine srs hn ?_
 simp -dsimp
 cases hm
 exact bb ⟨.inr rfl,EE.here (by simp -dsimp)⟩
def cy (cx:Cx) (r_ cv y:Int) (tt:(List Point)) (ee:Exit) (Z:Env) (O:Sto):Prop:=match tt with
 | l1=>ee=.exit 2/\EE cx (bg [(0,vI r_),(1,.u (.one (.fn 117 [.box 1000000 0]))),(5,vO 5000),(6,vI y)] [(5000,.row 2 67 (List.map Point.row l1)),(1000000,.box [dI cv])]) Z O
theorem er (cx:Cx) (hn:cx.n=33) (_hk:cx.k=1) (r_ cv y:Int) {fu:Nat} {stt:Int×(List Point)} {tt:(List Point)} (hh:aY (b_hood_collect_hood_Neumann_1_o_2 r_ cv y) fu stt=some tt) {Z:Env} {O:Sto}
  (hE:bl (fun stt:Int×(List Point)=>match stt with | (x,_l1)=>[(0,vI r_),(1,.u (.one (.fn 117 [.box 1000000 0]))),(5,vO 5000),(6,vI y),(7,vI x)]) (fun stt:Int×(List Point)=>match stt with | (_x,l1)=>[(5000,.row 2 67 (List.map Point.row l1)),(1000000,.box [dI cv])]) stt Z O):Swp Tryz.prog cx (.loop (bA [1,1,0,1,0,0,1,0,0,1,0,0] (be Tryz.f114))) Z O (cy cx r_ cv y tt):=by
 refine bm hE hh (cy cx r_ cv y) ?_
 rintro⟨x,l1⟩ r hm Z O hf
 simp only[Fits,b8,b9,and_true] at hf
 unfold b_hood_collect_hood_Neumann_1_o_2 at hm
 dsimp only at hm
 refine aS ?_
 refine srs hn ?_
 simp -dsimp [hf]
 rcases aZ hm with ⟨c2,hm⟩ | ⟨c2,hm⟩
 ·refine aV (by simp -dsimp) c2 ?_
  refine aU (aQ ?_)
  obtain⟨l2,j6,hm⟩:=bnd hm
  refine scE [(0,vI r_),(1,.u (.one (.fn 117 [.box 1000000 0]))),(5,vO 5000),(6,vI y),(7,vI x)] [(5000,.row 2 67 (List.map Point.row l2)),(1000000,.box [dI cv])] ?_ fun Z O hf=>?_
  ·replace hm:=j6
   clear j6
   refine aW ?_
   refine srs hn ?_
   obtain⟨y1,h3,hm⟩:=bnd hm
   simp -dsimp [hf,c2]
   refine fN (us':=[vI x,vI y,.u (.one (.ref ((rI .i64) cv) 0))]) (c_hood_Neumann_1 x y cv y1 h3) (by simp -dsimp [hf]) rfl (dkL hn) ?_
   simp -dsimp
   rcases aZ hm with ⟨c4,hm⟩ | ⟨c4,hm⟩
   ·refine aV (by simp -dsimp) c4 ?_
    refine sr1 hn ?_
    obtain⟨l2,h5,hm⟩:=bnd hm
    obtain⟨h5a,h5e⟩:=b6 h5
    replace h5e:=h5e.symm
    subst h5e
    try simp only[List.length_cons,List.length_nil,Nat.zero_add] at h5a
    simp -dsimp [hf,c4,h5a]
    refine bv ?_
    refine aQ ?_
    cases hm
    refine emv 31 5000 ?_
    exact zz
   ·exact zz
  ·clear j6
   exact zz
 ·exact zz
def bQ (cx:Cx) (_r_ cv:Int) (tt:(List Point)) (ee:Exit) (Z:Env) (O:Sto):Prop:=match tt with
 | l=>ee=.exit 0/\EE cx (bg [(5,vO 5000)] [(5000,.row 2 67 (List.map Point.row l)),(1000000,.box [dI cv])]) Z O
theorem ev (cx:Cx) (hn:cx.n=33) (hk:cx.k=1) (r_ cv:Int) {fu:Nat} {stt:Int×(List Point)} {tt:(List Point)} (hh:aY (b_hood_collect_hood_Neumann_1_o_1 r_ cv) fu stt=some tt) {Z:Env} {O:Sto}
  (hE:bl (fun stt:Int×(List Point)=>match stt with | (y,_l)=>[(0,vI r_),(1,.u (.one (.fn 117 [.box 1000000 0]))),(5,vO 5000),(6,vI y)]) (fun stt:Int×(List Point)=>match stt with | (_y,l)=>[(5000,.row 2 67 (List.map Point.row l)),(1000000,.box [dI cv])]) stt Z O):Swp Tryz.prog cx (.loop (bA [1,1,0,1,0,0] (be Tryz.f114))) Z O (bQ cx r_ cv tt):=by
 refine bm hE hh (bQ cx r_ cv) ?_
 rintro⟨y,l⟩ r hm Z O hf
 simp only[Fits,b8,b9,and_true] at hf
 unfold b_hood_collect_hood_Neumann_1_o_1 at hm
 dsimp only at hm
 refine aS ?_
 refine srs hn ?_
 simp -dsimp [hf]
 rcases aZ hm with ⟨c1,hm⟩ | ⟨c1,hm⟩
 ·refine aV (by simp -dsimp) c1 ?_
  refine aU (aQ (aS (aW ?_)))
  refine srs hn ?_
  simp -dsimp [hf,c1]
  refine aW ?_
  obtain⟨l1,g7,hm⟩:=bnd hm
  refine bd (er cx hn hk r_ cv y g7) (by
    try dsimp only
    exact EE.here (by simp -dsimp [hf])
  ) fun ee Z O xx=>?_
  exact zz
 ·exact zz
theorem eH (r_ cv:Int) (r:List Point) (hm:m_hood_collect_hood_Neumann_1_o r_ cv=some r):GFn Tryz.prog 114 [vI r_,.u (.one (.fn 117 [.box 1000000 0]))] [.box [dI cv]] (vO 1000001) [some (.box [dI cv]),some (.row 2 67 (List.map Point.row r))]:=by
 refine bI bj _ Tryz.func114 rfl (by kernel_rfl) (by simp[Tryz.ntmps114]) (by simp) (by first | rfl | simp) (by first | rfl | simp) fun cx hn hk=>?_
 replace hn:cx.n=33:=hn.trans Tryz.ntmps114
 replace hk:cx.k=1:=hk
 unfold m_hood_collect_hood_Neumann_1_o at hm
 refine srs hn ?_
 simp -dsimp
 refine srs hn ?_
 simp -dsimp
 refine aS ?_
 refine srs hn ?_
 simp -dsimp
 refine aW ?_
 obtain⟨l,g8,hm⟩:=bnd hm
 refine bd (ev cx hn hk r_ cv g8) (by
   try dsimp only
   refine EE.step (Wk.own0 5 5000 2 67 (by simp -dsimp) (by decide)) ?_
   exact zz
 ) fun ee Z O xx=>?_
 unfold bQ at xx
 dsimp only at xx
 obtain⟨rfl,xx⟩:=xx
 refine bh ?_
 refine aQ ?_
 refine see xx fun Z O hf=>?_
 simp only[Fits,b8,b9,and_true] at hf
 refine srs hn ?_
 simp -dsimp [hf]
 refine bb ?_
 cases hm
 refine⟨.inr rfl,?_⟩
 refine emr 5000 1000001 hk ?_
 exact zz
theorem fZ (r_:Int) (r:List Point) (hm:m_hood_Neumann r_=some r):PureCall Tryz.prog 53 [vI r_] (.u (.one (dR1 r))):=by
 refine bo Tryz.func53 Tryz.ntmps53 fun cx hn=>?_
 unfold m_hood_Neumann at hm
 refine srs hn ?_
 simp -dsimp
 refine aS ?_
 obtain⟨a,j4,hm⟩:=bnd hm
 refine scE [(1,vX 1),(8,vT a)] [(1,.box [dI r_])] ?_ fun Z O hf=>?_
 ·replace hm:=j4
  clear j4
  exact zz
 ·clear j4
  simp only[Fits,b8,b9,and_true] at hf
  rcases aZ hm with ⟨c2,hm⟩ | ⟨c2,hm⟩
  ·exact zz
  ·refine aX (by simp -dsimp [hf]) c2 ?_
   refine aU (aQ ?_)
   refine srs hn ?_
   obtain⟨y,h3,hm⟩:=bnd hm
   simp -dsimp [hf]
   refine clg (eH r_ r_ y h3) [1] [5000] (by simp -dsimp [hf]) (dkL hn) ?_
   exact zz
theorem c_hood_Hex_1 (x y:Int) (r:Bool) (hm:m_hood_Hex_1 x y=some r):PureCall Tryz.prog 118 [vI x,vI y] (vT r):=by
 refine bo Tryz.func118 Tryz.ntmps118 fun cx hn=>?_
 unfold m_hood_Hex_1 at hm
 refine srs hn ?_
 simp -dsimp
 refine srs hn ?_
 simp -dsimp
 cases hm
 exact bb ⟨.inr rfl,EE.here (by simp -dsimp)⟩
def dd (cx:Cx) (r_ y:Int) (tt:(List Point)) (ee:Exit) (Z:Env) (O:Sto):Prop:=match tt with
 | l1=>ee=.exit 2/\EE cx (bg [(0,vI r_),(1,.u (.one (.fn 118 []))),(5,vO 5000),(6,vI y)] [(5000,.row 2 67 (List.map Point.row l1))]) Z O
theorem fF (cx:Cx) (hn:cx.n=33) (r_ y:Int) {fu:Nat} {stt:Int×(List Point)} {tt:(List Point)} (hh:aY (b_hood_collect_hood_Hex_1_2 r_ y) fu stt=some tt) {Z:Env} {O:Sto}
  (hE:bl (fun stt:Int×(List Point)=>match stt with | (x,_l1)=>[(0,vI r_),(1,.u (.one (.fn 118 []))),(5,vO 5000),(6,vI y),(7,vI x)]) (fun stt:Int×(List Point)=>match stt with | (_x,l1)=>[(5000,.row 2 67 (List.map Point.row l1))]) stt Z O):Swp Tryz.prog cx (.loop (bA [1,1,0,1,0,0,1,0,0,1,0,0] (be Tryz.f114))) Z O (dd cx r_ y tt):=by
 refine bm hE hh (dd cx r_ y) ?_
 rintro⟨x,l1⟩ r hm Z O hf
 simp only[Fits,b8,b9,and_true] at hf
 unfold b_hood_collect_hood_Hex_1_2 at hm
 dsimp only at hm
 refine aS ?_
 refine srs hn ?_
 simp -dsimp [hf]
 rcases aZ hm with ⟨c2,hm⟩ | ⟨c2,hm⟩
 ·refine aV (by simp -dsimp) c2 ?_
  refine aU (aQ ?_)
  obtain⟨l2,j6,hm⟩:=bnd hm
  refine scE [(0,vI r_),(1,.u (.one (.fn 118 []))),(5,vO 5000),(6,vI y),(7,vI x)] [(5000,.row 2 67 (List.map Point.row l2))] ?_ fun Z O hf=>?_
  ·replace hm:=j6
   clear j6
   refine aW ?_
   refine srs hn ?_
   obtain⟨y1,h3,hm⟩:=bnd hm
   simp -dsimp [hf,c2]
   refine aR (c_hood_Hex_1 x y y1 h3) (dkL hn) ?_
   simp -dsimp
   rcases aZ hm with ⟨c4,hm⟩ | ⟨c4,hm⟩
   ·refine aV (by simp -dsimp) c4 ?_
    refine sr1 hn ?_
    obtain⟨l2,h5,hm⟩:=bnd hm
    obtain⟨h5a,h5e⟩:=b6 h5
    replace h5e:=h5e.symm
    subst h5e
    try simp only[List.length_cons,List.length_nil,Nat.zero_add] at h5a
    simp -dsimp [hf,c4,h5a]
    refine bv ?_
    refine aQ ?_
    cases hm
    refine emv 31 5000 ?_
    exact zz
   ·exact zz
  ·clear j6
   exact zz
 ·exact zz
def dc (cx:Cx) (_r_:Int) (tt:(List Point)) (ee:Exit) (Z:Env) (O:Sto):Prop:=match tt with
 | l=>ee=.exit 0/\EE cx (bg [(5,vO 5000)] [(5000,.row 2 67 (List.map Point.row l))]) Z O
theorem fA (cx:Cx) (hn:cx.n=33) (r_:Int) {fu:Nat} {stt:Int×(List Point)} {tt:(List Point)} (hh:aY (b_hood_collect_hood_Hex_1_1 r_) fu stt=some tt) {Z:Env} {O:Sto}
  (hE:bl (fun stt:Int×(List Point)=>match stt with | (y,_l)=>[(0,vI r_),(1,.u (.one (.fn 118 []))),(5,vO 5000),(6,vI y)]) (fun stt:Int×(List Point)=>match stt with | (_y,l)=>[(5000,.row 2 67 (List.map Point.row l))]) stt Z O):Swp Tryz.prog cx (.loop (bA [1,1,0,1,0,0] (be Tryz.f114))) Z O (dc cx r_ tt):=by
 refine bm hE hh (dc cx r_) ?_
 rintro⟨y,l⟩ r hm Z O hf
 simp only[Fits,b8,b9,and_true] at hf
 unfold b_hood_collect_hood_Hex_1_1 at hm
 dsimp only at hm
 refine aS ?_
 refine srs hn ?_
 simp -dsimp [hf]
 rcases aZ hm with ⟨c1,hm⟩ | ⟨c1,hm⟩
 ·refine aV (by simp -dsimp) c1 ?_
  refine aU (aQ (aS (aW ?_)))
  refine srs hn ?_
  simp -dsimp [hf,c1]
  refine aW ?_
  obtain⟨l1,g7,hm⟩:=bnd hm
  refine bd (fF cx hn r_ y g7) (by
    try dsimp only
    exact EE.here (by simp -dsimp [hf])
  ) fun ee Z O xx=>?_
  exact zz
 ·exact zz
theorem gk (r_:Int) (r:List Point) (hm:m_hood_collect_hood_Hex_1 r_=some r):PureCall Tryz.prog 114 [vI r_,.u (.one (.fn 118 []))] (.u (.one (dR1 r))):=by
 refine bo Tryz.func114 Tryz.ntmps114 fun cx hn=>?_
 unfold m_hood_collect_hood_Hex_1 at hm
 refine srs hn ?_
 simp -dsimp
 refine srs hn ?_
 simp -dsimp
 refine aS ?_
 refine srs hn ?_
 simp -dsimp
 refine aW ?_
 obtain⟨l,g8,hm⟩:=bnd hm
 refine bd (fA cx hn r_ g8) (by
   try dsimp only
   refine EE.step (Wk.own0 5 5000 2 67 (by simp -dsimp) (by decide)) ?_
   exact zz
 ) fun ee Z O xx=>?_
 exact zz
theorem c_hood_Hex (r:List Point) (hm:m_hood_Hex=some r):PureCall Tryz.prog 54 [] (.u (.one (dR1 r))):=by
 refine bo Tryz.func54 Tryz.ntmps54 fun cx hn=>?_
 unfold m_hood_Hex at hm
 refine srs hn ?_
 simp -dsimp
 refine srs hn ?_
 obtain⟨y,h1,hm⟩:=bnd hm
 simp -dsimp
 refine aR (gk 1 y h1) (dkL hn) ?_
 exact zz
def f5 (cx:Cx) (_l:List Int) (_n:Int) (tt:Bool ⊕ Unit) (ee:Exit) (Z:Env) (O:Sto):Prop:=match tt with
 | .inl r=>ee=.ret/\EE cx (fun Z O=>∃ v,di tb Z O Tryz.f119.results.toList=some v/\(v.frz O).free=true/\(v.frz O).wk (vT r)) Z O
 | .inr _u=>ee=.exit 0/\EE cx (bg [] []) Z O
theorem l_lifelike_ascends_1 (cx:Cx) (hn:cx.n=24) (l:List Int) (n:Int) {fu:Nat} {stt:Int×Int} {tt:Bool ⊕ Unit} (hh:aY (b_lifelike_ascends_1 l n) fu stt=some tt) {Z:Env} {O:Sto}
  (hE:bl (fun stt:Int×Int=>match stt with | (last,a)=>[(1,vI n),(5,vI last),(8,.u (.one (dL l))),(9,vI (aT l)),(10,vI a)]) (fun stt:Int×Int=>match stt with | (_last,_a)=>[]) stt Z O):Swp Tryz.prog cx (.loop (bA [1,1,0,1,0,0] (be Tryz.f119))) Z O (f5 cx l n tt):=by
 refine bm hE hh (f5 cx l n) ?_
 rintro⟨last,a⟩ r hm Z O hf
 simp only[Fits,b8,b9,and_true] at hf
 unfold b_lifelike_ascends_1 at hm
 dsimp only at hm
 refine srs hn ?_
 simp -dsimp [hf]
 refine aS ?_
 rcases aZ hm with ⟨c1,hm⟩ | ⟨c1,hm⟩
 ·refine aV (by simp -dsimp) c1 ?_
  refine aU (aQ (aS (aW ?_)))
  refine srs hn ?_
  obtain⟨x,h2,hm⟩:=bnd hm
  simp -dsimp [hf,c1,h2]
  refine aS ?_
  obtain⟨a1,j5,hm⟩:=bnd hm
  refine scE [(1,vI n),(7,vI x),(8,.u (.one (dL l))),(9,vI (aT l)),(10,vI a),(21,vT a1)] [] ?_ fun Z O hf=>?_
  ·replace hm:=j5
   clear j5
   exact zz
  ·clear j5
   exact zz
 ·exact zz
theorem eb (l:List Int) (n:Int) (r:Bool) (hm:m_lifelike_ascends l n=some r):PureCall Tryz.prog 119 [.u (.one (dL l)),vI n] (vT r):=by
 refine bo Tryz.func119 Tryz.ntmps119 fun cx hn=>?_
 unfold m_lifelike_ascends at hm
 refine srs hn ?_
 simp -dsimp
 refine srs hn ?_
 simp -dsimp
 refine aS ?_
 refine srs hn ?_
 simp -dsimp
 refine aW ?_
 obtain⟨o_,g6,hm⟩:=bnd hm
 refine bd (l_lifelike_ascends_1 cx hn l n g6) (by
   try dsimp only
   exact eeh
 ) fun ee Z O xx=>?_
 rcases o_ with r | _u
 ·exact zz
 ·exact zz
def dE (cx:Cx) (_l:List Int) (tt:((List Int)×Bool) ⊕ (List Int)) (ee:Exit) (Z:Env) (O:Sto):Prop:=match tt with
 | .inl r=>ee=.ret/\EE cx (fun Z O=>∃ v,di tb Z O Tryz.f55.results.toList=some v/\(v.frz O).free=true/\(v.frz O).wk (.tup [.one (dL r.1),.one (.d (.bool r.2))])) Z O
 | .inr out=>ee=.exit 0/\EE cx (bg [(4,vO 5000)] [(5000,.row 1 3 (List.map (rI .i64) out))]) Z O
theorem l_lifelike_digits_1 (cx:Cx) (hn:cx.n=30) (l:List Int) {fu:Nat} {stt:Int×(List Int)} {tt:((List Int)×Bool) ⊕ (List Int)} (hh:aY (b_lifelike_digits_1 l) fu stt=some tt) {Z:Env} {O:Sto}
  (hE:bl (fun stt:Int×(List Int)=>match stt with | (a,_out)=>[(4,vO 5000),(8,.u (.one (.d (.sl 1 (List.map (rI .u8) l))))),(9,vI (aT l)),(10,vI a)]) (fun stt:Int×(List Int)=>match stt with | (_a,out)=>[(5000,.row 1 3 (List.map (rI .i64) out))]) stt Z O):Swp Tryz.prog cx (.loop (bA [1,1,0,1,0,0] (be Tryz.f55))) Z O (dE cx l tt):=by
 refine bm hE hh (dE cx l) ?_
 rintro⟨a,out⟩ r hm Z O hf
 simp only[Fits,b8,b9,and_true] at hf
 unfold b_lifelike_digits_1 at hm
 dsimp only at hm
 refine srs hn ?_
 simp -dsimp [hf]
 refine aS ?_
 rcases aZ hm with ⟨c2,hm⟩ | ⟨c2,hm⟩
 ·refine aV (by simp -dsimp) c2 ?_
  refine aU (aQ (aS (aW ?_)))
  refine srs hn ?_
  obtain⟨x,h3,hm⟩:=bnd hm
  simp -dsimp [hf,c2,h3]
  refine aS ?_
  obtain⟨a1,j7,hm⟩:=bnd hm
  refine scE [(4,vO 5000),(6,.u (.one (.d (.int .u8 x)))),(8,.u (.one (.d (.sl 1 (List.map (rI .u8) l))))),(9,vI (aT l)),(10,vI a),(19,vT a1)] [(5000,.row 1 3 (List.map (rI .i64) out))] ?_ fun Z O hf=>?_
  ·replace hm:=j7
   clear j7
   exact zz
  ·clear j7
   simp only[Fits,b8,b9,and_true] at hf
   rcases aZ hm with ⟨c5,hm⟩ | ⟨c5,hm⟩
   ·exact zz
   ·refine aX (by simp -dsimp [hf]) c5 ?_
    refine aU (aQ ?_)
    refine sr1 hn ?_
    obtain⟨l1,h6,hm⟩:=bnd hm
    obtain⟨h6a,h6e⟩:=b6 h6
    replace h6e:=h6e.symm
    subst h6e
    try simp only[List.length_cons,List.length_nil,Nat.zero_add] at h6a
    simp -dsimp [hf,h6a]
    refine bv ?_
    refine aQ ?_
    refine sr1 hn ?_
    simp -dsimp [hf]
    cases hm
    refine bE ?_
    refine emv 25 5000 ?_
    exact zz
 ·exact zz
theorem gz (s:List UInt8) (r:(List Int)×Bool) (hm:m_lifelike_digits s=some r):PureCall Tryz.prog 55 [.u (.one (.d (.str (bs s))))] (.tup [.one (dL r.1),.one (.d (.bool r.2))]):=by
 refine bo Tryz.func55 Tryz.ntmps55 fun cx hn=>?_
 unfold m_lifelike_digits at hm
 refine srs hn ?_
 simp -dsimp
 refine srs hn ?_
 simp -dsimp
 refine aS ?_
 refine srs hn ?_
 obtain⟨l,h1,hm⟩:=bnd hm
 simp -dsimp [h1]
 refine aW ?_
 obtain⟨o_,g8,hm⟩:=bnd hm
 refine bd (l_lifelike_digits_1 cx hn l g8) (by
   try dsimp only
   refine EE.step (Wk.own0 4 5000 1 3 (by simp -dsimp) (by decide)) ?_
   exact zz
 ) fun ee Z O xx=>?_
 rcases o_ with r | out
 ·exact zz
 ·unfold dE at xx
  dsimp only at xx
  obtain⟨rfl,xx⟩:=xx
  refine bh ?_
  refine aQ ?_
  refine see xx fun Z O hf=>?_
  simp only[Fits,b8,b9,and_true] at hf
  refine srs hn ?_
  obtain⟨y,h9,hm⟩:=bnd hm
  simp -dsimp [hf]
  refine fN (us':=[.u (.one (dL out)),vI 9]) (eb out 9 y h9) (by simp -dsimp [hf]) rfl (dkL hn) ?_
  exact zz
end Go.Proofs.YtcllfealpkhjfaaGreatDoor
namespace Go.Proofs.YtcllfealpkhjfaaGreatDoor
open Go.AM Go.Proofs
set_option maxRecDepth 100000
attribute [-simp] qlookup cd cW Ob.wipe Ob.ren Ob.frz1
def cj (cx:Cx) (_sv1 _sv2:List Point) (tt:Bool ⊕ Unit) (ee:Exit) (Z:Env) (O:Sto):Prop:=match tt with
 | .inl r=>ee=.ret/\EE cx (fun Z O=>∃ v,di tb Z O Tryz.f101.results.toList=some v/\(v.frz O).free=true/\(v.frz O).wk (vT r)) Z O
 | .inr _u=>ee=.exit 0/\EE cx (bg [] []) Z O
theorem dG (cx:Cx) (hn:cx.n=26) (sv1 sv2:List Point) {fu:Nat} {stt:Int} {tt:Bool ⊕ Unit} (hh:aY (b_slices_Equal_api_Point_api_Point_1 sv1 sv2) fu stt=some tt) {Z:Env} {O:Sto}
  (hE:bl (fun a:Int=>[(0,.u (.one (dR1 sv1))),(1,.u (.one (dR1 sv2))),(12,vI (aT sv1)),(13,vI a)]) (fun _a:Int=>[]) stt Z O):Swp Tryz.prog cx (.loop (bA [1,1,0,1,0,0] (be Tryz.f101))) Z O (cj cx sv1 sv2 tt):=by
 refine bm hE hh (cj cx sv1 sv2) ?_
 rintro a r hm Z O hf
 simp only[Fits,b8,b9,and_true] at hf
 unfold b_slices_Equal_api_Point_api_Point_1 at hm
 exact zz
theorem dV (sv1 sv2:List Point) (r:Bool) (hm:m_slices_Equal_api_Point_api_Point sv1 sv2=some r):PureCall Tryz.prog 101 [.u (.one (dR1 sv1)),.u (.one (dR1 sv2))] (vT r):=by
 refine bo Tryz.func101 Tryz.ntmps101 fun cx hn=>?_
 unfold m_slices_Equal_api_Point_api_Point at hm
 refine srs hn ?_
 simp -dsimp
 refine aS ?_
 refine srs hn ?_
 simp -dsimp
 rcases aZ hm with ⟨c1,hm⟩ | ⟨c1,hm⟩
 ·exact zz
 ·refine scf c1 ?_
  refine aU (aQ (aS ?_))
  refine srs hn ?_
  simp -dsimp [c1]
  refine aW ?_
  obtain⟨o_,g6,hm⟩:=bnd hm
  refine bd (dG cx hn sv1 sv2 g6) (by
    try dsimp only
    exact EE.here (by simp -dsimp)
  ) fun ee Z O xx=>?_
  rcases o_ with r | _u
  ·exact zz
  ·exact zz
theorem eZ (a b:List Point) (r:Bool) (hm:m_hood_Same a b=some r):PureCall Tryz.prog 40 [.u (.one (dR1 a)),.u (.one (dR1 b))] (vT r):=by
 refine bo Tryz.func40 Tryz.ntmps40 fun cx hn=>?_
 unfold m_hood_Same at hm
 refine srs hn ?_
 simp -dsimp
 refine srs hn ?_
 obtain⟨y,h1,hm⟩:=bnd hm
 simp -dsimp
 refine aR (dV a b y h1) (dkL hn) ?_
 exact zz
theorem gl (l:List Point) (r:(List UInt8)×Bool) (hm:m_lifelike_letter l=some r):PureCall Tryz.prog 85 [.u (.one (dR1 l))] (.tup [.one (.d (.str (bs r.1))),.one (.d (.bool r.2))]):=by
 refine bo Tryz.func85 Tryz.ntmps85 fun cx hn=>?_
 unfold m_lifelike_letter at hm
 refine srs hn ?_
 simp -dsimp
 refine aS (aW ?_)
 refine srs hn ?_
 obtain⟨y,h1,hm⟩:=bnd hm
 simp -dsimp
 refine aR (ic 1 y h1) (dkL hn) ?_
 obtain⟨y1,h2,hm⟩:=bnd hm
 simp -dsimp
 refine aR (eZ l y y1 h2) (dkL hn) ?_
 simp -dsimp
 rcases aZ hm with ⟨c3,hm⟩ | ⟨c3,hm⟩
 ·exact zz
 ·refine aX (by simp -dsimp) c3 ?_
  refine srs hn ?_
  obtain⟨y2,h4,hm⟩:=bnd hm
  simp -dsimp [c3]
  refine aR (fZ 1 y2 h4) (dkL hn) ?_
  obtain⟨y3,h5,hm⟩:=bnd hm
  simp -dsimp
  refine aR (eZ l y2 y3 h5) (dkL hn) ?_
  simp -dsimp
  rcases aZ hm with ⟨c6,hm⟩ | ⟨c6,hm⟩
  ·exact zz
  ·refine aX (by simp -dsimp) c6 ?_
   refine srs hn ?_
   obtain⟨y4,h7,hm⟩:=bnd hm
   simp -dsimp [c6]
   refine aR (c_hood_Hex y4 h7) (dkL hn) ?_
   obtain⟨y5,h8,hm⟩:=bnd hm
   simp -dsimp
   refine aR (eZ l y4 y5 h8) (dkL hn) ?_
   exact zz
theorem bY (t:Aw) (r:Bool) (hm:m_lifelike_Right t=some r):PureCall Tryz.prog 56 [.u (.agg [dR1 t.Hood,dI t.States,dL t.Birth,dL t.Survive])] (vT r):=by
 refine bo Tryz.func56 Tryz.ntmps56 fun cx hn=>?_
 unfold m_lifelike_Right at hm
 refine srs hn ?_
 simp -dsimp
 refine srs hn ?_
 obtain⟨y,h1,hm⟩:=bnd hm
 simp -dsimp
 refine aR (gl t.Hood y h1) (dkL hn) ?_
 simp -dsimp
 refine srs hn ?_
 simp -dsimp
 obtain⟨a,j8,hm⟩:=bnd hm
 refine scE [(2,vT a)] [] ?_ fun Z O hf=>?_
 ·replace hm:=j8
  clear j8
  refine sr1 hn ?_
  rcases aZ hm with ⟨c2,hm⟩ | ⟨c2,hm⟩
  ·rcases aZ hm with ⟨c3,hm⟩ | ⟨c3,hm⟩
   ·rcases aZ hm with ⟨c4,hm⟩ | ⟨c4,hm⟩
    ·obtain⟨y1,h5,hm⟩:=bnd hm
     simp -dsimp [c2,c3,c4]
     refine aR (eb t.Birth (bc .i64 (aT t.Hood) 1) y1 h5) (dkL hn) ?_
     rcases aZ hm with ⟨c6,hm⟩ | ⟨c6,hm⟩
     ·obtain⟨y2,h7,hm⟩:=bnd hm
      simp -dsimp [c6]
      refine aR (eb t.Survive (bc .i64 (aT t.Hood) 1) y2 h7) (dkL hn) ?_
      exact zz
     ·exact zz
    ·exact zz
   ·exact zz
  ·exact zz
 ·clear j8
  exact zz
theorem eK (s:List UInt8) (r:Aw×Int) (hm:m_lifelike_Parse s=some r):PureCall Tryz.prog 18 [.u (.one (.d (.str (bs s))))] (.tup [.agg [dR1 r.1.Hood,dI r.1.States,dL r.1.Birth,dL r.1.Survive],.one (dI r.2)]):=by
 refine bo Tryz.func18 Tryz.ntmps18 fun cx hn=>?_
 unfold m_lifelike_Parse at hm
 refine srs hn ?_
 simp -dsimp
 refine srs hn ?_
 obtain⟨y,h1,hm⟩:=bnd hm
 simp -dsimp
 refine aR (bU s ([66]:List UInt8) y h1) (dkL hn) ?_
 simp -dsimp
 refine srs hn ?_
 obtain⟨y1,h2,hm⟩:=bnd hm
 simp -dsimp
 refine aR (c_strings_Cut y.1 ([47,83]:List UInt8) y1 h2) (dkL hn) ?_
 simp -dsimp
 refine aS ?_
 obtain⟨a,j20,hm⟩:=bnd hm
 refine scE [(2,vX 2),(6,.u (.one (.d (.str (bs y1.1))))),(7,.u (.one (.d (.str (bs y1.2.1))))),(30,vT a)] [(2,.box [.d .nil,dI 0,.d .nil,.d .nil])] ?_ fun Z O hf=>?_
 ·replace hm:=j20
  clear j20
  exact zz
 ·clear j20
  simp only[Fits,b8,b9,and_true] at hf
  rcases aZ hm with ⟨c4,hm⟩ | ⟨c4,hm⟩
  ·exact zz
  ·refine aX (by simp -dsimp [hf]) c4 ?_
   refine aU (aQ ?_)
   refine srs hn ?_
   obtain⟨y2,h5,hm⟩:=bnd hm
   simp -dsimp
   refine aR (ic 1 y2 h5) (dkL hn) ?_
   simp -dsimp
   obtain⟨⟨aN,am⟩,j19,hm⟩:=bnd hm
   refine scE [(2,vX 2),(6,.u (.one (.d (.str (bs y1.1))))),(7,.u (.one (.d (.str (bs aN))))),(9,vX 9)] [(2,.box [.d .nil,dI 0,.d .nil,.d .nil]),(9,.box [dR1 am,dI 2,.d .nil,.d .nil])] ?_ fun Z O hf=>?_
   ·replace hm:=j19
    clear j19
    refine srs hn ?_
    obtain⟨y3,h6,hm⟩:=bnd hm
    simp -dsimp [hf]
    refine aR (cK y1.2.1 ([86]:List UInt8) y3 h6) (dkL hn) ?_
    simp -dsimp
    refine srs hn ?_
    simp -dsimp
    rcases aZ hm with ⟨c7,hm⟩ | ⟨c7,hm⟩
    ·refine aV (by simp -dsimp) c7 ?_
     refine sr1 hn ?_
     obtain⟨y4,h8,hm⟩:=bnd hm
     simp -dsimp [c7]
     refine aR (fZ 1 y4 h8) (dkL hn) ?_
     simp -dsimp
     exact zz
    ·refine aX (by simp -dsimp) c7 ?_
     refine srs hn ?_
     obtain⟨y4,h9,hm⟩:=bnd hm
     simp -dsimp [hf,c7]
     refine aR (cK y1.2.1 ([72]:List UInt8) y4 h9) (dkL hn) ?_
     simp -dsimp
     refine srs hn ?_
     simp -dsimp
     rcases aZ hm with ⟨c10,hm⟩ | ⟨c10,hm⟩
     ·refine aV (by simp -dsimp) c10 ?_
      refine sr1 hn ?_
      obtain⟨y5,h11,hm⟩:=bnd hm
      simp -dsimp [c10]
      refine aR (c_hood_Hex y5 h11) (dkL hn) ?_
      simp -dsimp
      exact zz
     ·exact zz
   ·clear j19
    simp only[Fits,b8,b9,and_true] at hf
    refine srs hn ?_
    obtain⟨y3,h12,hm⟩:=bnd hm
    simp -dsimp [hf]
    refine aR (gz y1.1 y3 h12) (dkL hn) ?_
    simp -dsimp [hf]
    refine srs hn ?_
    obtain⟨y4,h13,hm⟩:=bnd hm
    simp -dsimp [hf]
    refine aR (gz aN y4 h13) (dkL hn) ?_
    simp -dsimp [hf]
    refine aS ?_
    obtain⟨a1,j18,hm⟩:=bnd hm
    refine scE [(2,vX 2),(9,vX 9),(69,vT a1)] [(2,.box [.d .nil,dI 0,.d .nil,.d .nil]),(9,.box [dR1 am,dI 2,dL y3.1,dL y4.1])] ?_ fun Z O hf=>?_
    ·replace hm:=j18
     clear j18
     exact zz
    ·clear j18
     simp only[Fits,b8,b9,and_true] at hf
     rcases aZ hm with ⟨c15,hm⟩ | ⟨c15,hm⟩
     ·exact zz
     ·refine aX (by simp -dsimp [hf]) c15 ?_
      refine aU (aQ (aS ?_))
      refine srs hn ?_
      obtain⟨y5,h16,hm⟩:=bnd hm
      simp -dsimp [hf]
      refine aR (bY (⟨am,2,y3.1,y4.1⟩:Aw) y5 h16) (dkL hn) ?_
      exact zz
theorem c_strings_Split (s sep:List UInt8) (r:List (List UInt8)) (hm:m_strings_Split s sep=some r):PureCall Tryz.prog 57 [.u (.one (.d (.str (bs s)))),.u (.one (.d (.str (bs sep))))] (.u (.one (.d (.sl 1 (List.map rT r))))):=split_pure splitL (by kernel_rfl) (by kernel_rfl) rfl ⟨_,Tryz.func57,by decide,rfl⟩ hm
def ey (cx:Cx) (_l:List Int) (tt:((List Int)×Bool) ⊕ (List Int)) (ee:Exit) (Z:Env) (O:Sto):Prop:=match tt with
 | .inl r=>ee=.ret/\EE cx (fun Z O=>∃ v,di tb Z O Tryz.f58.results.toList=some v/\(v.frz O).free=true/\(v.frz O).wk (.tup [.one (dL r.1),.one (.d (.bool r.2))])) Z O
 | .inr out=>ee=.exit 0/\EE cx (bg [(4,vO 5000)] [(5000,.row 1 3 (List.map (rI .i64) out))]) Z O
theorem hO (cx:Cx) (hn:cx.n=45) (l:List Int) {fu:Nat} {stt:Int×(List Int)} {tt:((List Int)×Bool) ⊕ (List Int)} (hh:aY (b_generations_digits_1 l) fu stt=some tt) {Z:Env} {O:Sto}
  (hE:bl (fun stt:Int×(List Int)=>match stt with | (a,_out)=>[(4,vO 5000),(9,.u (.one (.d (.sl 1 (List.map (rI .u8) l))))),(10,vI (aT l)),(11,vI a)]) (fun stt:Int×(List Int)=>match stt with | (_a,out)=>[(5000,.row 1 3 (List.map (rI .i64) out))]) stt Z O):Swp Tryz.prog cx (.loop (bA [1,1,0,1,0,0] (be Tryz.f58))) Z O (ey cx l tt):=by
 refine bm hE hh (ey cx l) ?_
 rintro⟨a,out⟩ r hm Z O hf
 simp only[Fits,b8,b9,and_true] at hf
 unfold b_generations_digits_1 at hm
 dsimp only at hm
 refine srs hn ?_
 simp -dsimp [hf]
 refine aS ?_
 rcases aZ hm with ⟨c2,hm⟩ | ⟨c2,hm⟩
 ·refine aV (by simp -dsimp) c2 ?_
  refine aU (aQ (aS (aW ?_)))
  refine srs hn ?_
  obtain⟨x,h3,hm⟩:=bnd hm
  simp -dsimp [hf,c2,h3]
  refine srs hn ?_
  simp -dsimp
  refine aS ?_
  obtain⟨a1,j10,hm⟩:=bnd hm
  refine scE [(4,vO 5000),(7,vI (bc .i64 (eg .i64 x) 48)),(9,.u (.one (.d (.sl 1 (List.map (rI .u8) l))))),(10,vI (aT l)),(11,vI a),(38,vT a1)] [(5000,.row 1 3 (List.map (rI .i64) out))] ?_ fun Z O hf=>?_
  ·replace hm:=j10
   clear j10
   refine sr1 hn ?_
   rcases aZ hm with ⟨c4,hm⟩ | ⟨c4,hm⟩
   ·simp -dsimp [c4]
    cases hm
    exact EE.here (by simp -dsimp [hf])
   ·rcases aZ hm with ⟨c5,hm⟩ | ⟨c5,hm⟩
    ·simp -dsimp [c4,c5]
     cases hm
     exact EE.here (by simp -dsimp [hf])
    ·rcases aZ hm with ⟨c6,hm⟩ | ⟨c6,hm⟩
     ·obtain⟨x1,h7,hm⟩:=bnd hm
      simp -dsimp [hf,c4,c5,c6,h7,bf h7]
      cases hm
      exact EE.here (by simp -dsimp [hf])
     ·simp -dsimp [hf,c4,c5,c6]
      cases hm
      exact EE.here (by simp -dsimp [hf])
  ·clear j10
   simp only[Fits,b8,b9,and_true] at hf
   rcases aZ hm with ⟨c8,hm⟩ | ⟨c8,hm⟩
   ·exact zz
   ·refine aX (by simp -dsimp [hf]) c8 ?_
    refine aU (aQ ?_)
    refine sr1 hn ?_
    obtain⟨l1,h9,hm⟩:=bnd hm
    obtain⟨h9a,h9e⟩:=b6 h9
    replace h9e:=h9e.symm
    subst h9e
    try simp only[List.length_cons,List.length_nil,Nat.zero_add] at h9a
    simp -dsimp [hf,h9a]
    refine bv ?_
    refine aQ ?_
    refine sr1 hn ?_
    simp -dsimp [hf]
    cases hm
    refine bE ?_
    refine emv 42 5000 ?_
    exact zz
 ·exact zz
theorem cF (s:List UInt8) (r:(List Int)×Bool) (hm:m_generations_digits s=some r):PureCall Tryz.prog 58 [.u (.one (.d (.str (bs s))))] (.tup [.one (dL r.1),.one (.d (.bool r.2))]):=by
 refine bo Tryz.func58 Tryz.ntmps58 fun cx hn=>?_
 unfold m_generations_digits at hm
 refine srs hn ?_
 simp -dsimp
 refine srs hn ?_
 simp -dsimp
 refine aS ?_
 refine srs hn ?_
 obtain⟨l,h1,hm⟩:=bnd hm
 simp -dsimp [h1]
 refine aW ?_
 obtain⟨o_,g11,hm⟩:=bnd hm
 refine bd (hO cx hn l g11) (by
   try dsimp only
   refine EE.step (Wk.own0 4 5000 1 3 (by simp -dsimp) (by decide)) ?_
   exact zz
 ) fun ee Z O xx=>?_
 rcases o_ with r | out
 ·exact zz
 ·exact zz
def cR (cx:Cx) (s:List UInt8) (_l:List Int) (tt:Bool ⊕ Unit) (ee:Exit) (Z:Env) (O:Sto):Prop:=match tt with
 | .inl r=>ee=.ret/\EE cx (fun Z O=>∃ v,di tb Z O Tryz.f59.results.toList=some v/\(v.frz O).free=true/\(v.frz O).wk (vT r)) Z O
 | .inr _u=>ee=.exit 0/\EE cx (bg [(0,.u (.one (.d (.str (bs s)))))] []) Z O
theorem hY (cx:Cx) (hn:cx.n=32) (s:List UInt8) (l:List Int) {fu:Nat} {stt:Int} {tt:Bool ⊕ Unit} (hh:aY (b_generations_number_1 s l) fu stt=some tt) {Z:Env} {O:Sto}
  (hE:bl (fun a:Int=>[(0,.u (.one (.d (.str (bs s))))),(6,.u (.one (.d (.sl 1 (List.map (rI .u8) l))))),(7,vI (aT l)),(8,vI a)]) (fun _a:Int=>[]) stt Z O):Swp Tryz.prog cx (.loop (bA [1,0,1,0,0] (be Tryz.f59))) Z O (cR cx s l tt):=by
 refine bm hE hh (cR cx s l) ?_
 rintro a r hm Z O hf
 simp only[Fits,b8,b9,and_true] at hf
 unfold b_generations_number_1 at hm
 dsimp only at hm
 refine srs hn ?_
 simp -dsimp [hf]
 refine aS ?_
 rcases aZ hm with ⟨c2,hm⟩ | ⟨c2,hm⟩
 ·refine aV (by simp -dsimp) c2 ?_
  refine aU (aQ (aS (aW ?_)))
  refine srs hn ?_
  obtain⟨x,h3,hm⟩:=bnd hm
  simp -dsimp [hf,c2,h3]
  obtain⟨a1,j6,hm⟩:=bnd hm
  refine scE [(0,.u (.one (.d (.str (bs s))))),(6,.u (.one (.d (.sl 1 (List.map (rI .u8) l))))),(7,vI (aT l)),(8,vI a),(17,vT a1)] [] ?_ fun Z O hf=>?_
  ·replace hm:=j6
   clear j6
   exact zz
  ·clear j6
   exact zz
 ·exact zz
theorem eX (s:List UInt8) (r:Bool) (hm:m_generations_number s=some r):PureCall Tryz.prog 59 [.u (.one (.d (.str (bs s))))] (vT r):=by
 refine bo Tryz.func59 Tryz.ntmps59 fun cx hn=>?_
 unfold m_generations_number at hm
 refine srs hn ?_
 simp -dsimp
 refine aS ?_
 refine srs hn ?_
 obtain⟨l,h1,hm⟩:=bnd hm
 simp -dsimp [h1]
 refine aW ?_
 obtain⟨o_,g7,hm⟩:=bnd hm
 refine bd (hY cx hn s l g7) (by
   try dsimp only
   exact EE.here (by simp -dsimp)
 ) fun ee Z O xx=>?_
 rcases o_ with r | _u
 ·exact zz
 ·unfold cR at xx
  dsimp only at xx
  obtain⟨rfl,xx⟩:=xx
  refine bh ?_
  refine aQ ?_
  refine see xx fun Z O hf=>?_
  simp only[Fits,b8,b9,and_true] at hf
  obtain⟨a,j11,hm⟩:=bnd hm
  refine scE [(2,vT a)] [] ?_ fun Z O hf=>?_
  ·replace hm:=j11
   clear j11
   exact zz
  ·clear j11
   exact zz
theorem fW (s:List UInt8) (r:Int) (hm:m_strconv_Atoi s=some r):PureCall Tryz.prog 60 [.u (.one (.d (.str (bs s))))] (.tup [.one (dI r),.one (.d .ni)]):=atoi_pure atoiL rfl ⟨_,Tryz.func60,by decide,rfl⟩ hm
theorem dJ (s:List UInt8) (r:Aw×Int) (hm:m_generations_Parse s=some r):PureCall Tryz.prog 19 [.u (.one (.d (.str (bs s))))] (.tup [.agg [dR1 r.1.Hood,dI r.1.States,dL r.1.Birth,dL r.1.Survive],.one (dI r.2)]):=by
 refine bo Tryz.func19 Tryz.ntmps19 fun cx hn=>?_
 unfold m_generations_Parse at hm
 refine srs hn ?_
 simp -dsimp
 refine srs hn ?_
 obtain⟨y,h1,hm⟩:=bnd hm
 simp -dsimp
 refine aR (ic 1 y h1) (dkL hn) ?_
 simp -dsimp
 obtain⟨⟨s1,am⟩,j50,hm⟩:=bnd hm
 refine scE [(0,.u (.one (.d (.str (bs s1))))),(2,vX 2),(4,vX 4)] [(2,.box [.d .nil,dI 0,.d .nil,.d .nil]),(4,.box [dR1 am,dI 0,.d .nil,.d .nil])] ?_ fun Z O hf=>?_
 ·replace hm:=j50
  clear j50
  refine srs hn ?_
  obtain⟨y1,h2,hm⟩:=bnd hm
  simp -dsimp
  refine aR (cK s ([86]:List UInt8) y1 h2) (dkL hn) ?_
  simp -dsimp
  refine srs hn ?_
  simp -dsimp
  rcases aZ hm with ⟨c3,hm⟩ | ⟨c3,hm⟩
  ·refine aV (by simp -dsimp) c3 ?_
   refine sr1 hn ?_
   obtain⟨y2,h4,hm⟩:=bnd hm
   simp -dsimp [c3]
   refine aR (fZ 1 y2 h4) (dkL hn) ?_
   simp -dsimp
   cases hm
   exact EE.here (by simp -dsimp)
  ·refine aX (by simp -dsimp) c3 ?_
   refine srs hn ?_
   obtain⟨y2,h5,hm⟩:=bnd hm
   simp -dsimp [c3]
   refine aR (cK s ([72]:List UInt8) y2 h5) (dkL hn) ?_
   simp -dsimp
   refine srs hn ?_
   simp -dsimp
   rcases aZ hm with ⟨c6,hm⟩ | ⟨c6,hm⟩
   ·refine aV (by simp -dsimp) c6 ?_
    refine sr1 hn ?_
    obtain⟨y3,h7,hm⟩:=bnd hm
    simp -dsimp [c6]
    refine aR (c_hood_Hex y3 h7) (dkL hn) ?_
    simp -dsimp
    cases hm
    exact EE.here (by simp -dsimp)
   ·refine aX (by simp -dsimp) c6 ?_
    refine aU (aQ ?_)
    cases hm
    exact EE.here (by simp -dsimp [c6])
 ·clear j50
  simp only[Fits,b8,b9,and_true] at hf
  refine srs hn ?_
  obtain⟨y1,h8,hm⟩:=bnd hm
  simp -dsimp [hf]
  refine aR (c_strings_Split s1 ([47]:List UInt8) y1 h8) (dkL hn) ?_
  simp -dsimp
  refine aS ?_
  refine srs hn ?_
  simp -dsimp
  rcases aZ hm with ⟨c9,hm⟩ | ⟨c9,hm⟩
  ·refine aV (by simp -dsimp) c9 ?_
   refine srs hn ?_
   simp -dsimp [hf,c9]
   refine bb (bS ?_)
   cases hm
   refine⟨.inr rfl,?_⟩
   exact EE.here (by simp -dsimp [hf])
  ·refine aX (by simp -dsimp) c9 ?_
   refine aU (aQ ?_)
   refine sw_qts bj mixed (by rw[hn]; kernel_rfl) ?_
   obtain⟨x,h10,hm⟩:=bnd hm
   obtain⟨x1,h11,hm⟩:=bnd hm
   obtain⟨x2,h12,hm⟩:=bnd hm
   simp -dsimp [c9,h10,h11,h12]
   refine aS ?_
   refine srs hn ?_
   obtain⟨y2,h13,hm⟩:=bnd hm
   simp -dsimp [hf]
   refine aR (bU s1 ([66]:List UInt8) y2 h13) (dkL hn) ?_
   simp -dsimp
   refine srs hn ?_
   simp -dsimp
   rcases aZ hm with ⟨c14,hm⟩ | ⟨c14,hm⟩
   ·refine aV (by simp -dsimp) c14 ?_
    refine srs hn ?_
    obtain⟨y3,h15,hm⟩:=bnd hm
    simp -dsimp [c14]
    refine aR (c_strings_Split y2.1 ([47]:List UInt8) y3 h15) (dkL hn) ?_
    simp -dsimp
    refine srs hn ?_
    obtain⟨x3,h16,hm⟩:=bnd hm
    obtain⟨y4,h17,hm⟩:=bnd hm
    simp -dsimp [h16]
    refine aR (bU x3 ([83]:List UInt8) y4 h17) (dkL hn) ?_
    simp -dsimp
    refine srs hn ?_
    obtain⟨x4,h18,hm⟩:=bnd hm
    obtain⟨y5,h19,hm⟩:=bnd hm
    simp -dsimp [h18]
    refine aR (bU x4 ([67]:List UInt8) y5 h19) (dkL hn) ?_
    simp -dsimp
    refine aS ?_
    obtain⟨a,j36,hm⟩:=bnd hm
    refine scE [(2,vX 2),(4,vX 4),(9,.u (.one (.d (.sl 1 (List.map rT y3))))),(15,.u (.one (.d (.str (bs y4.1))))),(17,.u (.one (.d (.str (bs y5.1))))),(85,vT a)] [(2,.box [.d .nil,dI 0,.d .nil,.d .nil]),(4,.box [dR1 am,dI 0,.d .nil,.d .nil])] ?_ fun Z O hf=>?_
    ·replace hm:=j36
     clear j36
     refine sr1 hn ?_
     rcases aZ hm with ⟨c20,hm⟩ | ⟨c20,hm⟩
     ·simp -dsimp [c20]
      cases hm
      exact EE.here (by simp -dsimp [hf])
     ·simp -dsimp [c20]
      cases hm
      exact EE.here (by simp -dsimp [hf])
    ·clear j36
     simp only[Fits,b8,b9,and_true] at hf
     rcases aZ hm with ⟨c21,hm⟩ | ⟨c21,hm⟩
     ·refine aV (by simp -dsimp [hf]) c21 ?_
      refine srs hn ?_
      simp -dsimp [hf]
      refine bb (bS (bS ?_))
      cases hm
      refine⟨.inr rfl,?_⟩
      exact EE.here (by simp -dsimp [hf])
     ·refine aX (by simp -dsimp [hf]) c21 ?_
      refine aU (aQ ?_)
      refine sr1 hn ?_
      obtain⟨x5,h22,hm⟩:=bnd hm
      simp -dsimp [hf,h22]
      refine aQ ?_
      refine srs hn ?_
      obtain⟨y6,h23,hm⟩:=bnd hm
      simp -dsimp
      refine aR (cF x5 y6 h23) (dkL hn) ?_
      simp -dsimp
      refine srs hn ?_
      obtain⟨y7,h24,hm⟩:=bnd hm
      simp -dsimp
      refine aR (cF y4.1 y7 h24) (dkL hn) ?_
      simp -dsimp
      refine aS ?_
      obtain⟨a1,j35,hm⟩:=bnd hm
      refine scE [(2,vX 2),(4,vX 4),(12,.u (.one (.d (.str (bs y5.1))))),(19,.u (.one (dL y6.1))),(21,.u (.one (dL y7.1))),(112,vT a1)] [(2,.box [.d .nil,dI 0,.d .nil,.d .nil]),(4,.box [dR1 am,dI 0,.d .nil,.d .nil])] ?_ fun Z O hf=>?_
      ·replace hm:=j35
       clear j35
       refine sr1 hn ?_
       rcases aZ hm with ⟨c25,hm⟩ | ⟨c25,hm⟩
       ·simp -dsimp [c25]
        cases hm
        exact EE.here (by simp -dsimp [hf])
       ·rcases aZ hm with ⟨c26,hm⟩ | ⟨c26,hm⟩
        ·simp -dsimp [c25,c26]
         cases hm
         exact EE.here (by simp -dsimp [hf])
        ·obtain⟨y8,h27,hm⟩:=bnd hm
         simp -dsimp [c25,c26]
         refine aR (eX y5.1 y8 h27) (dkL hn) ?_
         simp -dsimp
         cases hm
         exact EE.here (by simp -dsimp [hf])
      ·clear j35
       simp only[Fits,b8,b9,and_true] at hf
       rcases aZ hm with ⟨c28,hm⟩ | ⟨c28,hm⟩
       ·refine aV (by simp -dsimp [hf]) c28 ?_
        refine srs hn ?_
        simp -dsimp [hf]
        refine bb (bS ?_)
        cases hm
        refine⟨.inr rfl,?_⟩
        exact EE.here (by simp -dsimp [hf])
       ·refine aX (by simp -dsimp [hf]) c28 ?_
        refine aU (aQ ?_)
        refine srs hn ?_
        obtain⟨y8,h29,hm⟩:=bnd hm
        simp -dsimp [hf]
        refine aR (fW y5.1 y8 h29) (dkL hn) ?_
        simp -dsimp [hf]
        refine srs hn ?_
        simp -dsimp [hf]
        refine aS ?_
        obtain⟨a2,j34,hm⟩:=bnd hm
        refine scE [(2,vX 2),(4,vX 4),(136,vT a2)] [(2,.box [.d .nil,dI 0,.d .nil,.d .nil]),(4,.box [dR1 am,dI y8,dL y6.1,dL y7.1])] ?_ fun Z O hf=>?_
        ·replace hm:=j34
         clear j34
         refine sr1 hn ?_
         rcases aZ hm with ⟨c30,hm⟩ | ⟨c30,hm⟩
         ·simp -dsimp [hf,c30]
          cases hm
          exact EE.here (by simp -dsimp [hf])
         ·rcases aZ hm with ⟨c31,hm⟩ | ⟨c31,hm⟩
          ·simp -dsimp [hf,c30,c31]
           cases hm
           exact EE.here (by simp -dsimp [hf])
          ·obtain⟨y9,h32,hm⟩:=bnd hm
           simp -dsimp [hf,c30,c31]
           refine aR (bY (⟨am,y8,y6.1,y7.1⟩:Aw) y9 h32) (dkL hn) ?_
           simp -dsimp
           cases hm
           exact EE.here (by simp -dsimp [hf])
        ·clear j34
         simp only[Fits,b8,b9,and_true] at hf
         rcases aZ hm with ⟨c33,hm⟩ | ⟨c33,hm⟩
         ·refine aV (by simp -dsimp [hf]) c33 ?_
          refine srs hn ?_
          simp -dsimp [hf]
          refine bb (bS ?_)
          cases hm
          refine⟨.inr rfl,?_⟩
          exact EE.here (by simp -dsimp [hf])
         ·refine aX (by simp -dsimp [hf]) c33 ?_
          refine aU (aQ ?_)
          refine srs hn ?_
          simp -dsimp [hf]
          cases hm
          exact bb ⟨.inr rfl,EE.here (by simp -dsimp [hf])⟩
   ·refine aX (by simp -dsimp) c14 ?_
    refine aU (aQ ?_)
    refine srs hn ?_
    obtain⟨y3,h37,hm⟩:=bnd hm
    simp -dsimp [c14]
    refine aR (cF x y3 h37) (dkL hn) ?_
    simp -dsimp
    refine srs hn ?_
    obtain⟨y4,h38,hm⟩:=bnd hm
    simp -dsimp
    refine aR (cF x1 y4 h38) (dkL hn) ?_
    simp -dsimp
    refine aS ?_
    obtain⟨a,j49,hm⟩:=bnd hm
    refine scE [(2,vX 2),(4,vX 4),(12,.u (.one (.d (.str (bs x2))))),(19,.u (.one (dL y3.1))),(21,.u (.one (dL y4.1))),(112,vT a)] [(2,.box [.d .nil,dI 0,.d .nil,.d .nil]),(4,.box [dR1 am,dI 0,.d .nil,.d .nil])] ?_ fun Z O hf=>?_
    ·replace hm:=j49
     clear j49
     refine sr1 hn ?_
     rcases aZ hm with ⟨c39,hm⟩ | ⟨c39,hm⟩
     ·simp -dsimp [c39]
      cases hm
      exact EE.here (by simp -dsimp [hf])
     ·rcases aZ hm with ⟨c40,hm⟩ | ⟨c40,hm⟩
      ·simp -dsimp [c39,c40]
       cases hm
       exact EE.here (by simp -dsimp [hf])
      ·obtain⟨y5,h41,hm⟩:=bnd hm
       simp -dsimp [c39,c40]
       refine aR (eX x2 y5 h41) (dkL hn) ?_
       simp -dsimp
       cases hm
       exact EE.here (by simp -dsimp [hf])
    ·clear j49
     simp only[Fits,b8,b9,and_true] at hf
     rcases aZ hm with ⟨c42,hm⟩ | ⟨c42,hm⟩
     ·refine aV (by simp -dsimp [hf]) c42 ?_
      refine srs hn ?_
      simp -dsimp [hf]
      refine bb (bS ?_)
      cases hm
      refine⟨.inr rfl,?_⟩
      exact EE.here (by simp -dsimp [hf])
     ·refine aX (by simp -dsimp [hf]) c42 ?_
      refine aU (aQ ?_)
      refine srs hn ?_
      obtain⟨y5,h43,hm⟩:=bnd hm
      simp -dsimp [hf]
      refine aR (fW x2 y5 h43) (dkL hn) ?_
      simp -dsimp [hf]
      refine srs hn ?_
      simp -dsimp [hf]
      refine aS ?_
      obtain⟨a1,j48,hm⟩:=bnd hm
      refine scE [(2,vX 2),(4,vX 4),(136,vT a1)] [(2,.box [.d .nil,dI 0,.d .nil,.d .nil]),(4,.box [dR1 am,dI y5,dL y3.1,dL y4.1])] ?_ fun Z O hf=>?_
      ·replace hm:=j48
       clear j48
       refine sr1 hn ?_
       rcases aZ hm with ⟨c44,hm⟩ | ⟨c44,hm⟩
       ·simp -dsimp [hf,c44]
        cases hm
        exact EE.here (by simp -dsimp [hf])
       ·rcases aZ hm with ⟨c45,hm⟩ | ⟨c45,hm⟩
        ·simp -dsimp [hf,c44,c45]
         cases hm
         exact EE.here (by simp -dsimp [hf])
        ·obtain⟨y6,h46,hm⟩:=bnd hm
         simp -dsimp [hf,c44,c45]
         refine aR (bY (⟨am,y5,y3.1,y4.1⟩:Aw) y6 h46) (dkL hn) ?_
         simp -dsimp
         cases hm
         exact EE.here (by simp -dsimp [hf])
      ·clear j48
       simp only[Fits,b8,b9,and_true] at hf
       rcases aZ hm with ⟨c47,hm⟩ | ⟨c47,hm⟩
       ·refine aV (by simp -dsimp [hf]) c47 ?_
        refine srs hn ?_
        simp -dsimp [hf]
        refine bb (bS ?_)
        cases hm
        refine⟨.inr rfl,?_⟩
        exact EE.here (by simp -dsimp [hf])
       ·refine aX (by simp -dsimp [hf]) c47 ?_
        refine aU (aQ ?_)
        refine srs hn ?_
        simp -dsimp [hf]
        cases hm
        exact bb ⟨.inr rfl,EE.here (by simp -dsimp [hf])⟩
theorem c_strings_Trim (s cs r:List UInt8) (hm:m_strings_Trim s cs=some r):PureCall Tryz.prog 127 [.u (.one (.d (.str (bs s)))),.u (.one (.d (.str (bs cs))))] (.u (.one (.d (.str (bs r))))):=trim_pure trimL (by intro w; exact (Tryz.zeroValue197 w).trans (by rfl)) (by kernel_rfl) rfl ⟨_,Tryz.func127,by decide,rfl⟩ hm
end Go.Proofs.YtcllfealpkhjfaaGreatDoor
