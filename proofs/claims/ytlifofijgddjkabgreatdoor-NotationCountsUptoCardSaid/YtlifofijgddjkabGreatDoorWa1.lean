/- That the code does what the functions say (made by cc.py). -/
import Derived.Test.YtlifofijgddjkabGreatDoorTb
import Derived.Test.YtlifofijgddjkabGreatDoorLax1
namespace Go.Proofs.YtlifofijgddjkabGreatDoor
open Go.AM Go.Proofs
set_option maxRecDepth 100000
attribute [-simp] qlookup cz dQ Ob.wipe Ob.ren Ob.frz1
theorem cF (s ax:List UInt8) (r:Bool) (hm:m_internal_stringslite_HasPrefix s ax=some r):PureCall Tryz.prog 49 [.u (.one (.d (.str (bs s)))),.u (.one (.d (.str (bs ax))))] (vT r):=by
 refine bf Tryz.func49 Tryz.ntmps49 fun cx hn=>?_
 unfold m_internal_stringslite_HasPrefix at hm
 refine srs hn ?_
 simp -dsimp
 obtain⟨a,j3,hm⟩:=bnd hm
 refine scE [(4,vT a)] [] ?_ fun Z O hf=>?_
 ·replace hm:=j3
  clear j3
  exact zz
 ·clear j3
  exact zz
theorem ep (s ax:List UInt8) (r:(List UInt8)×Bool) (hm:m_internal_stringslite_CutPrefix s ax=some r):PureCall Tryz.prog 54 [.u (.one (.d (.str (bs s)))),.u (.one (.d (.str (bs ax))))] (.tup [.one (.d (.str (bs r.1))),.one (.d (.bool r.2))]):=by
 refine bf Tryz.func54 Tryz.ntmps54 fun cx hn=>?_
 unfold m_internal_stringslite_CutPrefix at hm
 refine srs hn ?_
 simp -dsimp
 refine aN ?_
 refine srs hn ?_
 obtain⟨y,h1,hm⟩:=bnd hm
 simp -dsimp
 refine aL (cF s ax y h1) (dkL hn) ?_
 exact zz
theorem bP (s ax:List UInt8) (r:(List UInt8)×Bool) (hm:m_strings_CutPrefix s ax=some r):PureCall Tryz.prog 18 [.u (.one (.d (.str (bs s)))),.u (.one (.d (.str (bs ax))))] (.tup [.one (.d (.str (bs r.1))),.one (.d (.bool r.2))]):=by
 refine bf Tryz.func18 Tryz.ntmps18 fun cx hn=>?_
 unfold m_strings_CutPrefix at hm
 refine srs hn ?_
 simp -dsimp
 refine srs hn ?_
 obtain⟨y,h1,hm⟩:=bnd hm
 simp -dsimp
 refine aL (ep s ax y h1) (dkL hn) ?_
 exact zz
theorem c_strings_Cut (s sep:List UInt8) (r:(List UInt8)×(List UInt8)×Bool) (hm:m_strings_Cut s sep=some r):PureCall Tryz.prog 19 [.u (.one (.d (.str (bs s)))),.u (.one (.d (.str (bs sep))))] (.tup [.one (.d (.str (bs r.1))),.one (.d (.str (bs r.2.1))),.one (.d (.bool r.2.2))]):=cut_pure cutL (by kernel_rfl) rfl ⟨_,Tryz.func19,by decide,rfl⟩ hm
theorem c_hood_Moore_1 (x y:Int) (r:Bool) (hm:m_hood_Moore_1 x y=some r):PureCall Tryz.prog 57 [vI x,vI y] (vT r):=by
 refine bf Tryz.func57 Tryz.ntmps57 fun cx hn=>?_
 unfold m_hood_Moore_1 at hm
 exact zz
def cQ (cx:Cx) (r_ y:Int) (tt:(List Point)) (ee:Exit) (Z:Env) (O:Sto):Prop:=match tt with
 | l1=>ee=.exit 2/\EE cx (be [(0,vI r_),(1,.u (.one (.fn 57 []))),(5,vO 5000),(6,vI y)] [(5000,.row 2 42 (List.map Point.row l1))]) Z O
theorem eV (cx:Cx) (hn:cx.n=33) (r_ y:Int) {fu:Nat} {stt:Int×(List Point)} {tt:(List Point)} (hh:aT (b_hood_collect_hood_Moore_1_2 r_ y) fu stt=some tt) {Z:Env} {O:Sto}
  (hE:bz (fun stt:Int×(List Point)=>match stt with | (x,_l1)=>[(0,vI r_),(1,.u (.one (.fn 57 []))),(5,vO 5000),(6,vI y),(7,vI x)]) (fun stt:Int×(List Point)=>match stt with | (_x,l1)=>[(5000,.row 2 42 (List.map Point.row l1))]) stt Z O):Swp Tryz.prog cx (.loop (bW [1,1,0,1,0,0,1,0,0,1,0,0] (bd Tryz.f56))) Z O (cQ cx r_ y tt):=by
 refine bC hE hh (cQ cx r_ y) ?_
 rintro⟨x,l1⟩ r hm Z O hf
 simp only[Fits,aZ,b6,and_true] at hf
 unfold b_hood_collect_hood_Moore_1_2 at hm
 dsimp only at hm
 refine aN ?_
 refine srs hn ?_
 simp -dsimp [hf]
 rcases aU hm with ⟨c2,hm⟩ | ⟨c2,hm⟩
 ·refine aQ (by simp -dsimp) c2 ?_
  refine aP (aM ?_)
  obtain⟨l2,j6,hm⟩:=bnd hm
  refine scE [(0,vI r_),(1,.u (.one (.fn 57 []))),(5,vO 5000),(6,vI y),(7,vI x)] [(5000,.row 2 42 (List.map Point.row l2))] ?_ fun Z O hf=>?_
  ·replace hm:=j6
   clear j6
   refine aS ?_
   refine srs hn ?_
   obtain⟨y1,h3,hm⟩:=bnd hm
   simp -dsimp [hf,c2]
   refine aL (c_hood_Moore_1 x y y1 h3) (dkL hn) ?_
   simp -dsimp
   rcases aU hm with ⟨c4,hm⟩ | ⟨c4,hm⟩
   ·refine aQ (by simp -dsimp) c4 ?_
    refine sr1 hn ?_
    obtain⟨l2,h5,hm⟩:=bnd hm
    obtain⟨h5a,h5e⟩:=aW h5
    replace h5e:=h5e.symm
    subst h5e
    try simp only[List.length_cons,List.length_nil,Nat.zero_add] at h5a
    simp -dsimp [hf,c4,h5a]
    refine bN ?_
    refine aM ?_
    cases hm
    refine emv 31 5000 ?_
    exact zz
   ·exact zz
  ·clear j6
   exact zz
 ·exact zz
def cP (cx:Cx) (_r_:Int) (tt:(List Point)) (ee:Exit) (Z:Env) (O:Sto):Prop:=match tt with
 | l=>ee=.exit 0/\EE cx (be [(5,vO 5000)] [(5000,.row 2 42 (List.map Point.row l))]) Z O
theorem eZ (cx:Cx) (hn:cx.n=33) (r_:Int) {fu:Nat} {stt:Int×(List Point)} {tt:(List Point)} (hh:aT (b_hood_collect_hood_Moore_1_1 r_) fu stt=some tt) {Z:Env} {O:Sto}
  (hE:bz (fun stt:Int×(List Point)=>match stt with | (y,_l)=>[(0,vI r_),(1,.u (.one (.fn 57 []))),(5,vO 5000),(6,vI y)]) (fun stt:Int×(List Point)=>match stt with | (_y,l)=>[(5000,.row 2 42 (List.map Point.row l))]) stt Z O):Swp Tryz.prog cx (.loop (bW [1,1,0,1,0,0] (bd Tryz.f56))) Z O (cP cx r_ tt):=by
 refine bC hE hh (cP cx r_) ?_
 rintro⟨y,l⟩ r hm Z O hf
 simp only[Fits,aZ,b6,and_true] at hf
 unfold b_hood_collect_hood_Moore_1_1 at hm
 dsimp only at hm
 refine aN ?_
 refine srs hn ?_
 simp -dsimp [hf]
 rcases aU hm with ⟨c1,hm⟩ | ⟨c1,hm⟩
 ·refine aQ (by simp -dsimp) c1 ?_
  refine aP (aM (aN (aS ?_)))
  refine srs hn ?_
  simp -dsimp [hf,c1]
  refine aS ?_
  obtain⟨l1,g7,hm⟩:=bnd hm
  refine bc (eV cx hn r_ y g7) (by
    try dsimp only
    exact EE.here (by simp -dsimp [hf])
  ) fun ee Z O xx=>?_
  exact zz
 ·exact zz
theorem fq (r_:Int) (r:List Point) (hm:m_hood_collect_hood_Moore_1 r_=some r):PureCall Tryz.prog 56 [vI r_,.u (.one (.fn 57 []))] (.u (.one (dR1 r))):=by
 refine bf Tryz.func56 Tryz.ntmps56 fun cx hn=>?_
 unfold m_hood_collect_hood_Moore_1 at hm
 refine srs hn ?_
 simp -dsimp
 refine srs hn ?_
 simp -dsimp
 refine aN ?_
 refine srs hn ?_
 simp -dsimp
 refine aS ?_
 obtain⟨l,g8,hm⟩:=bnd hm
 refine bc (eZ cx hn r_ g8) (by
   try dsimp only
   refine EE.step (Wk.own0 5 5000 2 42 (by simp -dsimp) (by decide)) ?_
   exact zz
 ) fun ee Z O xx=>?_
 exact zz
theorem gM (r_:Int) (r:List Point) (hm:m_hood_Moore r_=some r):PureCall Tryz.prog 20 [vI r_] (.u (.one (dR1 r))):=by
 refine bf Tryz.func20 Tryz.ntmps20 fun cx hn=>?_
 unfold m_hood_Moore at hm
 refine srs hn ?_
 simp -dsimp
 refine aN ?_
 obtain⟨a,j4,hm⟩:=bnd hm
 refine scE [(0,vI r_),(8,vT a)] [] ?_ fun Z O hf=>?_
 ·replace hm:=j4
  clear j4
  exact zz
 ·clear j4
  simp only[Fits,aZ,b6,and_true] at hf
  rcases aU hm with ⟨c2,hm⟩ | ⟨c2,hm⟩
  ·exact zz
  ·refine aR (by simp -dsimp [hf]) c2 ?_
   refine aP (aM ?_)
   refine srs hn ?_
   obtain⟨y,h3,hm⟩:=bnd hm
   simp -dsimp [hf]
   refine aL (fq r_ y h3) (dkL hn) ?_
   exact zz
theorem eB (s aC:List UInt8) (r:Bool) (hm:m_internal_stringslite_HasSuffix s aC=some r):PureCall Tryz.prog 105 [.u (.one (.d (.str (bs s)))),.u (.one (.d (.str (bs aC))))] (vT r):=by
 refine bf Tryz.func105 Tryz.ntmps105 fun cx hn=>?_
 unfold m_internal_stringslite_HasSuffix at hm
 refine srs hn ?_
 simp -dsimp
 obtain⟨a,j3,hm⟩:=bnd hm
 refine scE [(4,vT a)] [] ?_ fun Z O hf=>?_
 ·replace hm:=j3
  clear j3
  exact zz
 ·clear j3
  exact zz
theorem ey (s aC:List UInt8) (r:(List UInt8)×Bool) (hm:m_internal_stringslite_CutSuffix s aC=some r):PureCall Tryz.prog 58 [.u (.one (.d (.str (bs s)))),.u (.one (.d (.str (bs aC))))] (.tup [.one (.d (.str (bs r.1))),.one (.d (.bool r.2))]):=by
 refine bf Tryz.func58 Tryz.ntmps58 fun cx hn=>?_
 unfold m_internal_stringslite_CutSuffix at hm
 refine srs hn ?_
 simp -dsimp
 refine aN ?_
 refine srs hn ?_
 obtain⟨y,h1,hm⟩:=bnd hm
 simp -dsimp
 refine aL (eB s aC y h1) (dkL hn) ?_
 exact zz
theorem cL (s aC:List UInt8) (r:(List UInt8)×Bool) (hm:m_strings_CutSuffix s aC=some r):PureCall Tryz.prog 21 [.u (.one (.d (.str (bs s)))),.u (.one (.d (.str (bs aC))))] (.tup [.one (.d (.str (bs r.1))),.one (.d (.bool r.2))]):=by
 refine bf Tryz.func21 Tryz.ntmps21 fun cx hn=>?_
 unfold m_strings_CutSuffix at hm
 refine srs hn ?_
 simp -dsimp
 refine srs hn ?_
 obtain⟨y,h1,hm⟩:=bnd hm
 simp -dsimp
 refine aL (ey s aC y h1) (dkL hn) ?_
 exact zz
theorem c_hood_Neumann_1 (x y a:Int) (r:Bool) (hm:m_hood_Neumann_1 x y a=some r):PureCall Tryz.prog 59 [vI x,vI y,.u (.one (.ref ((rI .i64) a) 0))] (vT r):=by
 refine bf Tryz.func59 Tryz.ntmps59 fun cx hn=>?_
 unfold m_hood_Neumann_1 at hm
 refine srs hn ?_
 simp -dsimp
 refine srs hn ?_
 simp -dsimp
 cases hm
 exact aY ⟨.inr rfl,EE.here (by simp -dsimp)⟩
def cw (cx:Cx) (r_ cv y:Int) (tt:(List Point)) (ee:Exit) (Z:Env) (O:Sto):Prop:=match tt with
 | l1=>ee=.exit 2/\EE cx (be [(0,vI r_),(1,.u (.one (.fn 59 [.box 1000000 0]))),(5,vO 5000),(6,vI y)] [(5000,.row 2 42 (List.map Point.row l1)),(1000000,.box [dI cv])]) Z O
theorem ej (cx:Cx) (hn:cx.n=33) (_hk:cx.k=1) (r_ cv y:Int) {fu:Nat} {stt:Int×(List Point)} {tt:(List Point)} (hh:aT (b_hood_collect_hood_Neumann_1_o_2 r_ cv y) fu stt=some tt) {Z:Env} {O:Sto}
  (hE:bz (fun stt:Int×(List Point)=>match stt with | (x,_l1)=>[(0,vI r_),(1,.u (.one (.fn 59 [.box 1000000 0]))),(5,vO 5000),(6,vI y),(7,vI x)]) (fun stt:Int×(List Point)=>match stt with | (_x,l1)=>[(5000,.row 2 42 (List.map Point.row l1)),(1000000,.box [dI cv])]) stt Z O):Swp Tryz.prog cx (.loop (bW [1,1,0,1,0,0,1,0,0,1,0,0] (bd Tryz.f56))) Z O (cw cx r_ cv y tt):=by
 refine bC hE hh (cw cx r_ cv y) ?_
 rintro⟨x,l1⟩ r hm Z O hf
 simp only[Fits,aZ,b6,and_true] at hf
 unfold b_hood_collect_hood_Neumann_1_o_2 at hm
 dsimp only at hm
 refine aN ?_
 refine srs hn ?_
 simp -dsimp [hf]
 rcases aU hm with ⟨c2,hm⟩ | ⟨c2,hm⟩
 ·refine aQ (by simp -dsimp) c2 ?_
  refine aP (aM ?_)
  obtain⟨l2,j6,hm⟩:=bnd hm
  refine scE [(0,vI r_),(1,.u (.one (.fn 59 [.box 1000000 0]))),(5,vO 5000),(6,vI y),(7,vI x)] [(5000,.row 2 42 (List.map Point.row l2)),(1000000,.box [dI cv])] ?_ fun Z O hf=>?_
  ·replace hm:=j6
   clear j6
   refine aS ?_
   refine srs hn ?_
   obtain⟨y1,h3,hm⟩:=bnd hm
   simp -dsimp [hf,c2]
   refine eI (us':=[vI x,vI y,.u (.one (.ref ((rI .i64) cv) 0))]) (c_hood_Neumann_1 x y cv y1 h3) (by simp -dsimp [hf]) rfl (dkL hn) ?_
   simp -dsimp
   rcases aU hm with ⟨c4,hm⟩ | ⟨c4,hm⟩
   ·refine aQ (by simp -dsimp) c4 ?_
    refine sr1 hn ?_
    obtain⟨l2,h5,hm⟩:=bnd hm
    obtain⟨h5a,h5e⟩:=aW h5
    replace h5e:=h5e.symm
    subst h5e
    try simp only[List.length_cons,List.length_nil,Nat.zero_add] at h5a
    simp -dsimp [hf,c4,h5a]
    refine bN ?_
    refine aM ?_
    cases hm
    refine emv 31 5000 ?_
    exact zz
   ·exact zz
  ·clear j6
   exact zz
 ·exact zz
def bM (cx:Cx) (_r_ cv:Int) (tt:(List Point)) (ee:Exit) (Z:Env) (O:Sto):Prop:=match tt with
 | l=>ee=.exit 0/\EE cx (be [(5,vO 5000)] [(5000,.row 2 42 (List.map Point.row l)),(1000000,.box [dI cv])]) Z O
theorem eh (cx:Cx) (hn:cx.n=33) (hk:cx.k=1) (r_ cv:Int) {fu:Nat} {stt:Int×(List Point)} {tt:(List Point)} (hh:aT (b_hood_collect_hood_Neumann_1_o_1 r_ cv) fu stt=some tt) {Z:Env} {O:Sto}
  (hE:bz (fun stt:Int×(List Point)=>match stt with | (y,_l)=>[(0,vI r_),(1,.u (.one (.fn 59 [.box 1000000 0]))),(5,vO 5000),(6,vI y)]) (fun stt:Int×(List Point)=>match stt with | (_y,l)=>[(5000,.row 2 42 (List.map Point.row l)),(1000000,.box [dI cv])]) stt Z O):Swp Tryz.prog cx (.loop (bW [1,1,0,1,0,0] (bd Tryz.f56))) Z O (bM cx r_ cv tt):=by
 refine bC hE hh (bM cx r_ cv) ?_
 rintro⟨y,l⟩ r hm Z O hf
 simp only[Fits,aZ,b6,and_true] at hf
 unfold b_hood_collect_hood_Neumann_1_o_1 at hm
 dsimp only at hm
 refine aN ?_
 refine srs hn ?_
 simp -dsimp [hf]
 rcases aU hm with ⟨c1,hm⟩ | ⟨c1,hm⟩
 ·refine aQ (by simp -dsimp) c1 ?_
  refine aP (aM (aN (aS ?_)))
  refine srs hn ?_
  simp -dsimp [hf,c1]
  refine aS ?_
  obtain⟨l1,g7,hm⟩:=bnd hm
  refine bc (ej cx hn hk r_ cv y g7) (by
    try dsimp only
    exact EE.here (by simp -dsimp [hf])
  ) fun ee Z O xx=>?_
  exact zz
 ·exact zz
theorem eE (r_ cv:Int) (r:List Point) (hm:m_hood_collect_hood_Neumann_1_o r_ cv=some r):GFn Tryz.prog 56 [vI r_,.u (.one (.fn 59 [.box 1000000 0]))] [.box [dI cv]] (vO 1000001) [some (.box [dI cv]),some (.row 2 42 (List.map Point.row r))]:=by
 refine bT bh _ Tryz.func56 rfl (by kernel_rfl) (by simp[Tryz.ntmps56]) (by simp) (by first | rfl | simp) (by first | rfl | simp) fun cx hn hk=>?_
 replace hn:cx.n=33:=hn.trans Tryz.ntmps56
 replace hk:cx.k=1:=hk
 unfold m_hood_collect_hood_Neumann_1_o at hm
 refine srs hn ?_
 simp -dsimp
 refine srs hn ?_
 simp -dsimp
 refine aN ?_
 refine srs hn ?_
 simp -dsimp
 refine aS ?_
 obtain⟨l,g8,hm⟩:=bnd hm
 refine bc (eh cx hn hk r_ cv g8) (by
   try dsimp only
   refine EE.step (Wk.own0 5 5000 2 42 (by simp -dsimp) (by decide)) ?_
   exact zz
 ) fun ee Z O xx=>?_
 unfold bM at xx
 dsimp only at xx
 obtain⟨rfl,xx⟩:=xx
 refine bG ?_
 refine aM ?_
 refine see xx fun Z O hf=>?_
 simp only[Fits,aZ,b6,and_true] at hf
 refine srs hn ?_
 simp -dsimp [hf]
 refine aY ?_
 cases hm
 refine⟨.inr rfl,?_⟩
 refine emr 5000 1000001 hk ?_
 exact zz
theorem fI (r_:Int) (r:List Point) (hm:m_hood_Neumann r_=some r):PureCall Tryz.prog 22 [vI r_] (.u (.one (dR1 r))):=by
 refine bf Tryz.func22 Tryz.ntmps22 fun cx hn=>?_
 unfold m_hood_Neumann at hm
 refine srs hn ?_
 simp -dsimp
 refine aN ?_
 obtain⟨a,j4,hm⟩:=bnd hm
 refine scE [(1,vX 1),(8,vT a)] [(1,.box [dI r_])] ?_ fun Z O hf=>?_
 ·replace hm:=j4
  clear j4
  exact zz
 ·clear j4
  simp only[Fits,aZ,b6,and_true] at hf
  rcases aU hm with ⟨c2,hm⟩ | ⟨c2,hm⟩
  ·exact zz
  ·refine aR (by simp -dsimp [hf]) c2 ?_
   refine aP (aM ?_)
   refine srs hn ?_
   obtain⟨y,h3,hm⟩:=bnd hm
   simp -dsimp [hf]
   refine clg (eE r_ r_ y h3) [1] [5000] (by simp -dsimp [hf]) (dkL hn) ?_
   exact zz
theorem c_hood_Hex_1 (x y:Int) (r:Bool) (hm:m_hood_Hex_1 x y=some r):PureCall Tryz.prog 60 [vI x,vI y] (vT r):=by
 refine bf Tryz.func60 Tryz.ntmps60 fun cx hn=>?_
 unfold m_hood_Hex_1 at hm
 refine srs hn ?_
 simp -dsimp
 refine srs hn ?_
 simp -dsimp
 cases hm
 exact aY ⟨.inr rfl,EE.here (by simp -dsimp)⟩
def dj (cx:Cx) (r_ y:Int) (tt:(List Point)) (ee:Exit) (Z:Env) (O:Sto):Prop:=match tt with
 | l1=>ee=.exit 2/\EE cx (be [(0,vI r_),(1,.u (.one (.fn 60 []))),(5,vO 5000),(6,vI y)] [(5000,.row 2 42 (List.map Point.row l1))]) Z O
theorem fw (cx:Cx) (hn:cx.n=33) (r_ y:Int) {fu:Nat} {stt:Int×(List Point)} {tt:(List Point)} (hh:aT (b_hood_collect_hood_Hex_1_2 r_ y) fu stt=some tt) {Z:Env} {O:Sto}
  (hE:bz (fun stt:Int×(List Point)=>match stt with | (x,_l1)=>[(0,vI r_),(1,.u (.one (.fn 60 []))),(5,vO 5000),(6,vI y),(7,vI x)]) (fun stt:Int×(List Point)=>match stt with | (_x,l1)=>[(5000,.row 2 42 (List.map Point.row l1))]) stt Z O):Swp Tryz.prog cx (.loop (bW [1,1,0,1,0,0,1,0,0,1,0,0] (bd Tryz.f56))) Z O (dj cx r_ y tt):=by
 refine bC hE hh (dj cx r_ y) ?_
 rintro⟨x,l1⟩ r hm Z O hf
 simp only[Fits,aZ,b6,and_true] at hf
 unfold b_hood_collect_hood_Hex_1_2 at hm
 dsimp only at hm
 refine aN ?_
 refine srs hn ?_
 simp -dsimp [hf]
 rcases aU hm with ⟨c2,hm⟩ | ⟨c2,hm⟩
 ·refine aQ (by simp -dsimp) c2 ?_
  refine aP (aM ?_)
  obtain⟨l2,j6,hm⟩:=bnd hm
  refine scE [(0,vI r_),(1,.u (.one (.fn 60 []))),(5,vO 5000),(6,vI y),(7,vI x)] [(5000,.row 2 42 (List.map Point.row l2))] ?_ fun Z O hf=>?_
  ·replace hm:=j6
   clear j6
   refine aS ?_
   refine srs hn ?_
   obtain⟨y1,h3,hm⟩:=bnd hm
   simp -dsimp [hf,c2]
   refine aL (c_hood_Hex_1 x y y1 h3) (dkL hn) ?_
   simp -dsimp
   rcases aU hm with ⟨c4,hm⟩ | ⟨c4,hm⟩
   ·refine aQ (by simp -dsimp) c4 ?_
    refine sr1 hn ?_
    obtain⟨l2,h5,hm⟩:=bnd hm
    obtain⟨h5a,h5e⟩:=aW h5
    replace h5e:=h5e.symm
    subst h5e
    try simp only[List.length_cons,List.length_nil,Nat.zero_add] at h5a
    simp -dsimp [hf,c4,h5a]
    refine bN ?_
    refine aM ?_
    cases hm
    refine emv 31 5000 ?_
    exact zz
   ·exact zz
  ·clear j6
   exact zz
 ·exact zz
def di (cx:Cx) (_r_:Int) (tt:(List Point)) (ee:Exit) (Z:Env) (O:Sto):Prop:=match tt with
 | l=>ee=.exit 0/\EE cx (be [(5,vO 5000)] [(5000,.row 2 42 (List.map Point.row l))]) Z O
theorem fx (cx:Cx) (hn:cx.n=33) (r_:Int) {fu:Nat} {stt:Int×(List Point)} {tt:(List Point)} (hh:aT (b_hood_collect_hood_Hex_1_1 r_) fu stt=some tt) {Z:Env} {O:Sto}
  (hE:bz (fun stt:Int×(List Point)=>match stt with | (y,_l)=>[(0,vI r_),(1,.u (.one (.fn 60 []))),(5,vO 5000),(6,vI y)]) (fun stt:Int×(List Point)=>match stt with | (_y,l)=>[(5000,.row 2 42 (List.map Point.row l))]) stt Z O):Swp Tryz.prog cx (.loop (bW [1,1,0,1,0,0] (bd Tryz.f56))) Z O (di cx r_ tt):=by
 refine bC hE hh (di cx r_) ?_
 rintro⟨y,l⟩ r hm Z O hf
 simp only[Fits,aZ,b6,and_true] at hf
 unfold b_hood_collect_hood_Hex_1_1 at hm
 dsimp only at hm
 refine aN ?_
 refine srs hn ?_
 simp -dsimp [hf]
 rcases aU hm with ⟨c1,hm⟩ | ⟨c1,hm⟩
 ·refine aQ (by simp -dsimp) c1 ?_
  refine aP (aM (aN (aS ?_)))
  refine srs hn ?_
  simp -dsimp [hf,c1]
  refine aS ?_
  obtain⟨l1,g7,hm⟩:=bnd hm
  refine bc (fw cx hn r_ y g7) (by
    try dsimp only
    exact EE.here (by simp -dsimp [hf])
  ) fun ee Z O xx=>?_
  exact zz
 ·exact zz
theorem fP (r_:Int) (r:List Point) (hm:m_hood_collect_hood_Hex_1 r_=some r):PureCall Tryz.prog 56 [vI r_,.u (.one (.fn 60 []))] (.u (.one (dR1 r))):=by
 refine bf Tryz.func56 Tryz.ntmps56 fun cx hn=>?_
 unfold m_hood_collect_hood_Hex_1 at hm
 refine srs hn ?_
 simp -dsimp
 refine srs hn ?_
 simp -dsimp
 refine aN ?_
 refine srs hn ?_
 simp -dsimp
 refine aS ?_
 obtain⟨l,g8,hm⟩:=bnd hm
 refine bc (fx cx hn r_ g8) (by
   try dsimp only
   refine EE.step (Wk.own0 5 5000 2 42 (by simp -dsimp) (by decide)) ?_
   exact zz
 ) fun ee Z O xx=>?_
 exact zz
theorem c_hood_Hex (r:List Point) (hm:m_hood_Hex=some r):PureCall Tryz.prog 23 [] (.u (.one (dR1 r))):=by
 refine bf Tryz.func23 Tryz.ntmps23 fun cx hn=>?_
 unfold m_hood_Hex at hm
 refine srs hn ?_
 simp -dsimp
 refine srs hn ?_
 obtain⟨y,h1,hm⟩:=bnd hm
 simp -dsimp
 refine aL (fP 1 y h1) (dkL hn) ?_
 exact zz
def eQ (cx:Cx) (_l:List Int) (_n:Int) (tt:Bool ⊕ Unit) (ee:Exit) (Z:Env) (O:Sto):Prop:=match tt with
 | .inl r=>ee=.ret/\EE cx (fun Z O=>∃ v,ez tb Z O Tryz.f61.results.toList=some v/\(v.frz O).free=true/\(v.frz O).wk (vT r)) Z O
 | .inr _u=>ee=.exit 0/\EE cx (be [] []) Z O
theorem l_lifelike_ascends_1 (cx:Cx) (hn:cx.n=24) (l:List Int) (n:Int) {fu:Nat} {stt:Int×Int} {tt:Bool ⊕ Unit} (hh:aT (b_lifelike_ascends_1 l n) fu stt=some tt) {Z:Env} {O:Sto}
  (hE:bz (fun stt:Int×Int=>match stt with | (last,a)=>[(1,vI n),(5,vI last),(8,.u (.one (dL l))),(9,vI (aO l)),(10,vI a)]) (fun stt:Int×Int=>match stt with | (_last,_a)=>[]) stt Z O):Swp Tryz.prog cx (.loop (bW [1,1,0,1,0,0] (bd Tryz.f61))) Z O (eQ cx l n tt):=by
 refine bC hE hh (eQ cx l n) ?_
 rintro⟨last,a⟩ r hm Z O hf
 simp only[Fits,aZ,b6,and_true] at hf
 unfold b_lifelike_ascends_1 at hm
 dsimp only at hm
 refine srs hn ?_
 simp -dsimp [hf]
 refine aN ?_
 rcases aU hm with ⟨c1,hm⟩ | ⟨c1,hm⟩
 ·refine aQ (by simp -dsimp) c1 ?_
  refine aP (aM (aN (aS ?_)))
  refine srs hn ?_
  obtain⟨x,h2,hm⟩:=bnd hm
  simp -dsimp [hf,c1,h2]
  refine aN ?_
  obtain⟨a1,j5,hm⟩:=bnd hm
  refine scE [(1,vI n),(7,vI x),(8,.u (.one (dL l))),(9,vI (aO l)),(10,vI a),(21,vT a1)] [] ?_ fun Z O hf=>?_
  ·replace hm:=j5
   clear j5
   exact zz
  ·clear j5
   exact zz
 ·exact zz
theorem dS (l:List Int) (n:Int) (r:Bool) (hm:m_lifelike_ascends l n=some r):PureCall Tryz.prog 61 [.u (.one (dL l)),vI n] (vT r):=by
 refine bf Tryz.func61 Tryz.ntmps61 fun cx hn=>?_
 unfold m_lifelike_ascends at hm
 refine srs hn ?_
 simp -dsimp
 refine srs hn ?_
 simp -dsimp
 refine aN ?_
 refine srs hn ?_
 simp -dsimp
 refine aS ?_
 obtain⟨o_,g6,hm⟩:=bnd hm
 refine bc (l_lifelike_ascends_1 cx hn l n g6) (by
   try dsimp only
   exact eeh
 ) fun ee Z O xx=>?_
 rcases o_ with r | _u
 ·exact zz
 ·exact zz
def dG (cx:Cx) (_l:List Int) (tt:((List Int)×Bool) ⊕ (List Int)) (ee:Exit) (Z:Env) (O:Sto):Prop:=match tt with
 | .inl r=>ee=.ret/\EE cx (fun Z O=>∃ v,ez tb Z O Tryz.f24.results.toList=some v/\(v.frz O).free=true/\(v.frz O).wk (.tup [.one (dL r.1),.one (.d (.bool r.2))])) Z O
 | .inr out=>ee=.exit 0/\EE cx (be [(4,vO 5000)] [(5000,.row 1 3 (List.map (rI .i64) out))]) Z O
theorem l_lifelike_digits_1 (cx:Cx) (hn:cx.n=30) (l:List Int) {fu:Nat} {stt:Int×(List Int)} {tt:((List Int)×Bool) ⊕ (List Int)} (hh:aT (b_lifelike_digits_1 l) fu stt=some tt) {Z:Env} {O:Sto}
  (hE:bz (fun stt:Int×(List Int)=>match stt with | (a,_out)=>[(4,vO 5000),(8,.u (.one (.d (.sl 1 (List.map (rI .u8) l))))),(9,vI (aO l)),(10,vI a)]) (fun stt:Int×(List Int)=>match stt with | (_a,out)=>[(5000,.row 1 3 (List.map (rI .i64) out))]) stt Z O):Swp Tryz.prog cx (.loop (bW [1,1,0,1,0,0] (bd Tryz.f24))) Z O (dG cx l tt):=by
 refine bC hE hh (dG cx l) ?_
 rintro⟨a,out⟩ r hm Z O hf
 simp only[Fits,aZ,b6,and_true] at hf
 unfold b_lifelike_digits_1 at hm
 dsimp only at hm
 refine srs hn ?_
 simp -dsimp [hf]
 refine aN ?_
 rcases aU hm with ⟨c2,hm⟩ | ⟨c2,hm⟩
 ·refine aQ (by simp -dsimp) c2 ?_
  refine aP (aM (aN (aS ?_)))
  refine srs hn ?_
  obtain⟨x,h3,hm⟩:=bnd hm
  simp -dsimp [hf,c2,h3]
  refine aN ?_
  obtain⟨a1,j7,hm⟩:=bnd hm
  refine scE [(4,vO 5000),(6,.u (.one (.d (.int .u8 x)))),(8,.u (.one (.d (.sl 1 (List.map (rI .u8) l))))),(9,vI (aO l)),(10,vI a),(19,vT a1)] [(5000,.row 1 3 (List.map (rI .i64) out))] ?_ fun Z O hf=>?_
  ·replace hm:=j7
   clear j7
   exact zz
  ·clear j7
   simp only[Fits,aZ,b6,and_true] at hf
   rcases aU hm with ⟨c5,hm⟩ | ⟨c5,hm⟩
   ·exact zz
   ·refine aR (by simp -dsimp [hf]) c5 ?_
    refine aP (aM ?_)
    refine sr1 hn ?_
    obtain⟨l1,h6,hm⟩:=bnd hm
    obtain⟨h6a,h6e⟩:=aW h6
    replace h6e:=h6e.symm
    subst h6e
    try simp only[List.length_cons,List.length_nil,Nat.zero_add] at h6a
    simp -dsimp [hf,h6a]
    refine bN ?_
    refine aM ?_
    refine sr1 hn ?_
    simp -dsimp [hf]
    cases hm
    refine cE ?_
    refine emv 25 5000 ?_
    exact zz
 ·exact zz
theorem fR (s:List UInt8) (r:(List Int)×Bool) (hm:m_lifelike_digits s=some r):PureCall Tryz.prog 24 [.u (.one (.d (.str (bs s))))] (.tup [.one (dL r.1),.one (.d (.bool r.2))]):=by
 refine bf Tryz.func24 Tryz.ntmps24 fun cx hn=>?_
 unfold m_lifelike_digits at hm
 refine srs hn ?_
 simp -dsimp
 refine srs hn ?_
 simp -dsimp
 refine aN ?_
 refine srs hn ?_
 obtain⟨l,h1,hm⟩:=bnd hm
 simp -dsimp [h1]
 refine aS ?_
 obtain⟨o_,g8,hm⟩:=bnd hm
 refine bc (l_lifelike_digits_1 cx hn l g8) (by
   try dsimp only
   refine EE.step (Wk.own0 4 5000 1 3 (by simp -dsimp) (by decide)) ?_
   exact zz
 ) fun ee Z O xx=>?_
 rcases o_ with r | out
 ·exact zz
 ·unfold dG at xx
  dsimp only at xx
  obtain⟨rfl,xx⟩:=xx
  refine bG ?_
  refine aM ?_
  refine see xx fun Z O hf=>?_
  simp only[Fits,aZ,b6,and_true] at hf
  refine srs hn ?_
  obtain⟨y,h9,hm⟩:=bnd hm
  simp -dsimp [hf]
  refine eI (us':=[.u (.one (dL out)),vI 9]) (dS out 9 y h9) (by simp -dsimp [hf]) rfl (dkL hn) ?_
  exact zz
def bX (cx:Cx) (_sv1 _sv2:List Point) (tt:Bool ⊕ Unit) (ee:Exit) (Z:Env) (O:Sto):Prop:=match tt with
 | .inl r=>ee=.ret/\EE cx (fun Z O=>∃ v,ez tb Z O Tryz.f135.results.toList=some v/\(v.frz O).free=true/\(v.frz O).wk (vT r)) Z O
 | .inr _u=>ee=.exit 0/\EE cx (be [] []) Z O
theorem dD (cx:Cx) (hn:cx.n=26) (sv1 sv2:List Point) {fu:Nat} {stt:Int} {tt:Bool ⊕ Unit} (hh:aT (b_slices_Equal_api_Point_api_Point_1 sv1 sv2) fu stt=some tt) {Z:Env} {O:Sto}
  (hE:bz (fun a:Int=>[(0,.u (.one (dR1 sv1))),(1,.u (.one (dR1 sv2))),(12,vI (aO sv1)),(13,vI a)]) (fun _a:Int=>[]) stt Z O):Swp Tryz.prog cx (.loop (bW [1,1,0,1,0,0] (bd Tryz.f135))) Z O (bX cx sv1 sv2 tt):=by
 refine bC hE hh (bX cx sv1 sv2) ?_
 rintro a r hm Z O hf
 simp only[Fits,aZ,b6,and_true] at hf
 unfold b_slices_Equal_api_Point_api_Point_1 at hm
 exact zz
theorem dU (sv1 sv2:List Point) (r:Bool) (hm:m_slices_Equal_api_Point_api_Point sv1 sv2=some r):PureCall Tryz.prog 135 [.u (.one (dR1 sv1)),.u (.one (dR1 sv2))] (vT r):=by
 refine bf Tryz.func135 Tryz.ntmps135 fun cx hn=>?_
 unfold m_slices_Equal_api_Point_api_Point at hm
 refine srs hn ?_
 simp -dsimp
 refine aN ?_
 refine srs hn ?_
 simp -dsimp
 rcases aU hm with ⟨c1,hm⟩ | ⟨c1,hm⟩
 ·exact zz
 ·refine scf c1 ?_
  refine aP (aM (aN ?_))
  refine srs hn ?_
  simp -dsimp [c1]
  refine aS ?_
  obtain⟨o_,g6,hm⟩:=bnd hm
  refine bc (dD cx hn sv1 sv2 g6) (by
    try dsimp only
    exact EE.here (by simp -dsimp)
  ) fun ee Z O xx=>?_
  rcases o_ with r | _u
  ·exact zz
  ·exact zz
theorem eX (a b:List Point) (r:Bool) (hm:m_hood_Same a b=some r):PureCall Tryz.prog 88 [.u (.one (dR1 a)),.u (.one (dR1 b))] (vT r):=by
 refine bf Tryz.func88 Tryz.ntmps88 fun cx hn=>?_
 unfold m_hood_Same at hm
 refine srs hn ?_
 simp -dsimp
 refine srs hn ?_
 obtain⟨y,h1,hm⟩:=bnd hm
 simp -dsimp
 refine aL (dU a b y h1) (dkL hn) ?_
 exact zz
end Go.Proofs.YtlifofijgddjkabGreatDoor
