/- That the code does what the functions say (made by cc.py). -/
import Derived.Test.YtffohfmfehjbmaaGreatDoorTb
import Derived.Test.YtffohfmfehjbmaaGreatDoorLax1
namespace Go.Proofs.YtffohfmfehjbmaaGreatDoor
open Go.AM Go.Proofs
set_option maxRecDepth 100000
attribute [-simp] qlookup bF cq Ob.wipe Ob.ren Ob.frz1
def F_L12_Few_1 (cx:Cx) (_t:Tree) (tt:Bool ⊕ Unit) (ee:Exit) (Z:Env) (O:Sto):Prop:=match tt with
 | .inl r=>ee=.ret/\EE cx (fun Z O=>∃ v,cp tb Z O Tryz.f15.results.toList=some v/\(v.frz O).free=true/\(v.frz O).wk (vT r)) Z O
 | .inr _u=>ee=.exit 0/\EE cx (aY [] []) Z O
theorem l_L12_Few_1 (cx:Cx) (hn:cx.n=29) (t:Tree) {fu:Nat} {stt:Int} {tt:Bool ⊕ Unit} (hh:aK (b_L12_Few_1 t) fu stt=some tt) {Z:Env} {O:Sto}
  (hE:b9 (fun a1:Int=>[(1,vX 1),(16,vI (aB t.Nodes)),(17,vI a1)]) (fun _a1:Int=>[(1,.box [dI t.States,dR2 t.Hood,dR1 t.Nodes])]) stt Z O):Swp Tryz.prog cx (.loop (bq [1,1,0,1,0,0] (aU Tryz.f15))) Z O (F_L12_Few_1 cx t tt):=by
 refine bc hE hh (F_L12_Few_1 cx t) ?_
 rintro a1 r hm Z O hf
 simp only[Fits,aR,aQ,and_true] at hf
 unfold b_L12_Few_1 at hm
 exact zz
theorem c_L12_Few (t:Tree) (r:Bool) (hm:m_L12_Few t=some r):PureCall Tryz.prog 15 [.u (.agg [dI t.States,dR2 t.Hood,dR1 t.Nodes])] (vT r):=by
 refine b8 Tryz.func15 Tryz.ntmps15 fun cx hn=>?_
 unfold m_L12_Few at hm
 refine srs hn ?_
 simp -dsimp
 refine aD ?_
 obtain⟨a,j7,hm⟩:=bnd hm
 refine scE [(1,vX 1),(13,vT a)] [(1,.box [dI t.States,dR2 t.Hood,dR1 t.Nodes])] ?_ fun Z O hf=>?_
 ·replace hm:=j7
  clear j7
  exact zz
 ·clear j7
  simp only[Fits,aR,aQ,and_true] at hf
  rcases aM hm with ⟨c2,hm⟩ | ⟨c2,hm⟩
  ·exact zz
  ·refine aG (by simp -dsimp [hf]) c2 ?_
   refine aF (aC (aD ?_))
   refine srs hn ?_
   simp -dsimp [hf]
   refine aH ?_
   obtain⟨o_,g6,hm⟩:=bnd hm
   refine aW (l_L12_Few_1 cx hn t g6) (by
     try dsimp only
     exact EE.here (by simp -dsimp [hf])
   ) fun ee Z O xx=>?_
   rcases o_ with r | _u
   ·exact zz
   ·exact zz
def F_L50_small_1 (cx:Cx) (_l:List Ship) (tt:Bool ⊕ Unit) (ee:Exit) (Z:Env) (O:Sto):Prop:=match tt with
 | .inl r=>ee=.ret/\EE cx (fun Z O=>∃ v,cp tb Z O Tryz.f6.results.toList=some v/\(v.frz O).free=true/\(v.frz O).wk (vT r)) Z O
 | .inr _u=>ee=.exit 0/\EE cx (aY [] []) Z O
theorem l_L50_small_1 (cx:Cx) (hn:cx.n=51) (l:List Ship) {fu:Nat} {stt:Int} {tt:Bool ⊕ Unit} (hh:aK (b_L50_small_1 l) fu stt=some tt) {Z:Env} {O:Sto}
  (hE:b9 (fun a1:Int=>[(1,.u (.one (dR3 l))),(21,vI (aB l)),(22,vI a1)]) (fun _a1:Int=>[]) stt Z O):Swp Tryz.prog cx (.loop (bq [1,1,0,1,0,0] (aU Tryz.f6))) Z O (F_L50_small_1 cx l tt):=by
 refine bc hE hh (F_L50_small_1 cx l) ?_
 rintro a1 r hm Z O hf
 simp only[Fits,aR,aQ,and_true] at hf
 unfold b_L50_small_1 at hm
 dsimp only at hm
 refine srs hn ?_
 simp -dsimp [hf]
 refine aD ?_
 rcases aM hm with ⟨c5,hm⟩ | ⟨c5,hm⟩
 ·refine aI (by simp -dsimp) c5 ?_
  refine aF (aC (aD (aH ?_)))
  refine srs hn ?_
  simp -dsimp [hf,c5]
  obtain⟨a2,j10,hm⟩:=bnd hm
  refine scE [(1,.u (.one (dR3 l))),(21,vI (aB l)),(22,vI a1),(49,vT a2)] [] ?_ fun Z O hf=>?_
  ·replace hm:=j10
   clear j10
   exact zz
  ·clear j10
   exact zz
 ·exact zz
theorem c_L50_small (t:Tree) (l:List Ship) (r:Bool) (hm:m_L50_small t l=some r):PureCall Tryz.prog 6 [.u (.agg [dI t.States,dR2 t.Hood,dR1 t.Nodes]),.u (.one (dR3 l))] (vT r):=by
 refine b8 Tryz.func6 Tryz.ntmps6 fun cx hn=>?_
 unfold m_L50_small at hm
 refine srs hn ?_
 simp -dsimp
 refine aD ?_
 obtain⟨a,j12,hm⟩:=bnd hm
 refine scE [(1,.u (.one (dR3 l))),(19,vT a)] [] ?_ fun Z O hf=>?_
 ·replace hm:=j12
  clear j12
  refine sr1 hn ?_
  obtain⟨y,h1,hm⟩:=bnd hm
  simp -dsimp
  refine aA (c_L12_Few t y h1) (dkL hn) ?_
  exact zz
 ·clear j12
  simp only[Fits,aR,aQ,and_true] at hf
  rcases aM hm with ⟨c4,hm⟩ | ⟨c4,hm⟩
  ·exact zz
  ·refine aG (by simp -dsimp [hf]) c4 ?_
   refine aF (aC (aD ?_))
   refine srs hn ?_
   simp -dsimp [hf]
   refine aH ?_
   obtain⟨o_,g11,hm⟩:=bnd hm
   refine aW (l_L50_small_1 cx hn l g11) (by
     try dsimp only
     exact EE.here (by simp -dsimp [hf])
   ) fun ee Z O xx=>?_
   rcases o_ with r | _u
   ·exact zz
   ·exact zz
theorem dv (s aq:List UInt8) (r:Bool) (hm:m_internal_stringslite_HasPrefix s aq=some r):PureCall Tryz.prog 146 [.u (.one (.d (.str (bs s)))),.u (.one (.d (.str (bs aq))))] (vT r):=by
 refine b8 Tryz.func146 Tryz.ntmps146 fun cx hn=>?_
 unfold m_internal_stringslite_HasPrefix at hm
 refine srs hn ?_
 simp -dsimp
 obtain⟨a,j3,hm⟩:=bnd hm
 refine scE [(4,vT a)] [] ?_ fun Z O hf=>?_
 ·replace hm:=j3
  clear j3
  exact zz
 ·clear j3
  exact zz
theorem dt (s aq:List UInt8) (r:(List UInt8)×Bool) (hm:m_internal_stringslite_CutPrefix s aq=some r):PureCall Tryz.prog 148 [.u (.one (.d (.str (bs s)))),.u (.one (.d (.str (bs aq))))] (.tup [.one (.d (.str (bs r.1))),.one (.d (.bool r.2))]):=by
 refine b8 Tryz.func148 Tryz.ntmps148 fun cx hn=>?_
 unfold m_internal_stringslite_CutPrefix at hm
 refine srs hn ?_
 simp -dsimp
 refine aD ?_
 refine srs hn ?_
 obtain⟨y,h1,hm⟩:=bnd hm
 simp -dsimp
 refine aA (dv s aq y h1) (dkL hn) ?_
 exact zz
theorem c_strings_CutPrefix (s aq:List UInt8) (r:(List UInt8)×Bool) (hm:m_strings_CutPrefix s aq=some r):PureCall Tryz.prog 83 [.u (.one (.d (.str (bs s)))),.u (.one (.d (.str (bs aq))))] (.tup [.one (.d (.str (bs r.1))),.one (.d (.bool r.2))]):=by
 refine b8 Tryz.func83 Tryz.ntmps83 fun cx hn=>?_
 unfold m_strings_CutPrefix at hm
 refine srs hn ?_
 simp -dsimp
 refine srs hn ?_
 obtain⟨y,h1,hm⟩:=bnd hm
 simp -dsimp
 refine aA (dt s aq y h1) (dkL hn) ?_
 exact zz
theorem c_strings_Cut (s sep:List UInt8) (r:(List UInt8)×(List UInt8)×Bool) (hm:m_strings_Cut s sep=some r):PureCall Tryz.prog 84 [.u (.one (.d (.str (bs s)))),.u (.one (.d (.str (bs sep))))] (.tup [.one (.d (.str (bs r.1))),.one (.d (.str (bs r.2.1))),.one (.d (.bool r.2.2))]):=cut_pure cutL (by kernel_rfl) rfl ⟨_,Tryz.func84,by decide,rfl⟩ hm
theorem c_hood_Moore_1 (x y:Int) (r:Bool) (hm:m_hood_Moore_1 x y=some r):PureCall Tryz.prog 151 [vI x,vI y] (vT r):=by
 refine b8 Tryz.func151 Tryz.ntmps151 fun cx hn=>?_
 unfold m_hood_Moore_1 at hm
 exact zz
def bZ (cx:Cx) (r_ y:Int) (tt:(List Point)) (ee:Exit) (Z:Env) (O:Sto):Prop:=match tt with
 | l1=>ee=.exit 2/\EE cx (aY [(0,vI r_),(1,.u (.one (.fn 151 []))),(5,vO 5000),(6,vI y)] [(5000,.row 2 65 (List.map Point.row l1))]) Z O
theorem e9 (cx:Cx) (hn:cx.n=33) (r_ y:Int) {fu:Nat} {stt:Int×(List Point)} {tt:(List Point)} (hh:aK (b_hood_collect_hood_Moore_1_2 r_ y) fu stt=some tt) {Z:Env} {O:Sto}
  (hE:b9 (fun stt:Int×(List Point)=>match stt with | (x,_l1)=>[(0,vI r_),(1,.u (.one (.fn 151 []))),(5,vO 5000),(6,vI y),(7,vI x)]) (fun stt:Int×(List Point)=>match stt with | (_x,l1)=>[(5000,.row 2 65 (List.map Point.row l1))]) stt Z O):Swp Tryz.prog cx (.loop (bq [1,1,0,1,0,0,1,0,0,1,0,0] (aU Tryz.f150))) Z O (bZ cx r_ y tt):=by
 refine bc hE hh (bZ cx r_ y) ?_
 rintro⟨x,l1⟩ r hm Z O hf
 simp only[Fits,aR,aQ,and_true] at hf
 unfold b_hood_collect_hood_Moore_1_2 at hm
 dsimp only at hm
 refine aD ?_
 refine srs hn ?_
 simp -dsimp [hf]
 rcases aM hm with ⟨c2,hm⟩ | ⟨c2,hm⟩
 ·refine aI (by simp -dsimp) c2 ?_
  refine aF (aC ?_)
  obtain⟨l2,j6,hm⟩:=bnd hm
  refine scE [(0,vI r_),(1,.u (.one (.fn 151 []))),(5,vO 5000),(6,vI y),(7,vI x)] [(5000,.row 2 65 (List.map Point.row l2))] ?_ fun Z O hf=>?_
  ·replace hm:=j6
   clear j6
   refine aH ?_
   refine srs hn ?_
   obtain⟨y1,h3,hm⟩:=bnd hm
   simp -dsimp [hf,c2]
   refine aA (c_hood_Moore_1 x y y1 h3) (dkL hn) ?_
   simp -dsimp
   rcases aM hm with ⟨c4,hm⟩ | ⟨c4,hm⟩
   ·refine aI (by simp -dsimp) c4 ?_
    refine sr1 hn ?_
    obtain⟨l2,h5,hm⟩:=bnd hm
    obtain⟨h5a,h5e⟩:=aS h5
    replace h5e:=h5e.symm
    subst h5e
    try simp only[List.length_cons,List.length_nil,Nat.zero_add] at h5a
    simp -dsimp [hf,c4,h5a]
    refine bp ?_
    refine aC ?_
    cases hm
    refine emv 31 5000 ?_
    exact zz
   ·exact zz
  ·clear j6
   exact zz
 ·exact zz
def bY (cx:Cx) (_r_:Int) (tt:(List Point)) (ee:Exit) (Z:Env) (O:Sto):Prop:=match tt with
 | l=>ee=.exit 0/\EE cx (aY [(5,vO 5000)] [(5000,.row 2 65 (List.map Point.row l))]) Z O
theorem dY (cx:Cx) (hn:cx.n=33) (r_:Int) {fu:Nat} {stt:Int×(List Point)} {tt:(List Point)} (hh:aK (b_hood_collect_hood_Moore_1_1 r_) fu stt=some tt) {Z:Env} {O:Sto}
  (hE:b9 (fun stt:Int×(List Point)=>match stt with | (y,_l)=>[(0,vI r_),(1,.u (.one (.fn 151 []))),(5,vO 5000),(6,vI y)]) (fun stt:Int×(List Point)=>match stt with | (_y,l)=>[(5000,.row 2 65 (List.map Point.row l))]) stt Z O):Swp Tryz.prog cx (.loop (bq [1,1,0,1,0,0] (aU Tryz.f150))) Z O (bY cx r_ tt):=by
 refine bc hE hh (bY cx r_) ?_
 rintro⟨y,l⟩ r hm Z O hf
 simp only[Fits,aR,aQ,and_true] at hf
 unfold b_hood_collect_hood_Moore_1_1 at hm
 dsimp only at hm
 refine aD ?_
 refine srs hn ?_
 simp -dsimp [hf]
 rcases aM hm with ⟨c1,hm⟩ | ⟨c1,hm⟩
 ·refine aI (by simp -dsimp) c1 ?_
  refine aF (aC (aD (aH ?_)))
  refine srs hn ?_
  simp -dsimp [hf,c1]
  refine aH ?_
  obtain⟨l1,g7,hm⟩:=bnd hm
  refine aW (e9 cx hn r_ y g7) (by
    try dsimp only
    exact EE.here (by simp -dsimp [hf])
  ) fun ee Z O xx=>?_
  exact zz
 ·exact zz
theorem eB (r_:Int) (r:List Point) (hm:m_hood_collect_hood_Moore_1 r_=some r):PureCall Tryz.prog 150 [vI r_,.u (.one (.fn 151 []))] (.u (.one (dR2 r))):=by
 refine b8 Tryz.func150 Tryz.ntmps150 fun cx hn=>?_
 unfold m_hood_collect_hood_Moore_1 at hm
 refine srs hn ?_
 simp -dsimp
 refine srs hn ?_
 simp -dsimp
 refine aD ?_
 refine srs hn ?_
 simp -dsimp
 refine aH ?_
 obtain⟨l,g8,hm⟩:=bnd hm
 refine aW (dY cx hn r_ g8) (by
   try dsimp only
   refine EE.step (Wk.own0 5 5000 2 65 (by simp -dsimp) (by decide)) ?_
   exact zz
 ) fun ee Z O xx=>?_
 exact zz
theorem c_hood_Moore (r_:Int) (r:List Point) (hm:m_hood_Moore r_=some r):PureCall Tryz.prog 85 [vI r_] (.u (.one (dR2 r))):=by
 refine b8 Tryz.func85 Tryz.ntmps85 fun cx hn=>?_
 unfold m_hood_Moore at hm
 refine srs hn ?_
 simp -dsimp
 refine aD ?_
 obtain⟨a,j4,hm⟩:=bnd hm
 refine scE [(0,vI r_),(8,vT a)] [] ?_ fun Z O hf=>?_
 ·replace hm:=j4
  clear j4
  exact zz
 ·clear j4
  simp only[Fits,aR,aQ,and_true] at hf
  rcases aM hm with ⟨c2,hm⟩ | ⟨c2,hm⟩
  ·exact zz
  ·refine aG (by simp -dsimp [hf]) c2 ?_
   refine aF (aC ?_)
   refine srs hn ?_
   obtain⟨y,h3,hm⟩:=bnd hm
   simp -dsimp [hf]
   refine aA (eB r_ y h3) (dkL hn) ?_
   exact zz
theorem dj (s ar:List UInt8) (r:Bool) (hm:m_internal_stringslite_HasSuffix s ar=some r):PureCall Tryz.prog 205 [.u (.one (.d (.str (bs s)))),.u (.one (.d (.str (bs ar))))] (vT r):=by
 refine b8 Tryz.func205 Tryz.ntmps205 fun cx hn=>?_
 unfold m_internal_stringslite_HasSuffix at hm
 refine srs hn ?_
 simp -dsimp
 obtain⟨a,j3,hm⟩:=bnd hm
 refine scE [(4,vT a)] [] ?_ fun Z O hf=>?_
 ·replace hm:=j3
  clear j3
  exact zz
 ·clear j3
  exact zz
theorem dl (s ar:List UInt8) (r:(List UInt8)×Bool) (hm:m_internal_stringslite_CutSuffix s ar=some r):PureCall Tryz.prog 152 [.u (.one (.d (.str (bs s)))),.u (.one (.d (.str (bs ar))))] (.tup [.one (.d (.str (bs r.1))),.one (.d (.bool r.2))]):=by
 refine b8 Tryz.func152 Tryz.ntmps152 fun cx hn=>?_
 unfold m_internal_stringslite_CutSuffix at hm
 refine srs hn ?_
 simp -dsimp
 refine aD ?_
 refine srs hn ?_
 obtain⟨y,h1,hm⟩:=bnd hm
 simp -dsimp
 refine aA (dj s ar y h1) (dkL hn) ?_
 exact zz
theorem ej (s ar:List UInt8) (r:(List UInt8)×Bool) (hm:m_strings_CutSuffix s ar=some r):PureCall Tryz.prog 86 [.u (.one (.d (.str (bs s)))),.u (.one (.d (.str (bs ar))))] (.tup [.one (.d (.str (bs r.1))),.one (.d (.bool r.2))]):=by
 refine b8 Tryz.func86 Tryz.ntmps86 fun cx hn=>?_
 unfold m_strings_CutSuffix at hm
 refine srs hn ?_
 simp -dsimp
 refine srs hn ?_
 obtain⟨y,h1,hm⟩:=bnd hm
 simp -dsimp
 refine aA (dl s ar y h1) (dkL hn) ?_
 exact zz
def dX (cx:Cx) (_l:List Int) (_n:Int) (tt:Bool ⊕ Unit) (ee:Exit) (Z:Env) (O:Sto):Prop:=match tt with
 | .inl r=>ee=.ret/\EE cx (fun Z O=>∃ v,cp tb Z O Tryz.f155.results.toList=some v/\(v.frz O).free=true/\(v.frz O).wk (vT r)) Z O
 | .inr _u=>ee=.exit 0/\EE cx (aY [] []) Z O
theorem l_lifelike_ascends_1 (cx:Cx) (hn:cx.n=24) (l:List Int) (n:Int) {fu:Nat} {stt:Int×Int} {tt:Bool ⊕ Unit} (hh:aK (b_lifelike_ascends_1 l n) fu stt=some tt) {Z:Env} {O:Sto}
  (hE:b9 (fun stt:Int×Int=>match stt with | (last,a)=>[(1,vI n),(5,vI last),(8,.u (.one (dL l))),(9,vI (aB l)),(10,vI a)]) (fun stt:Int×Int=>match stt with | (_last,_a)=>[]) stt Z O):Swp Tryz.prog cx (.loop (bq [1,1,0,1,0,0] (aU Tryz.f155))) Z O (dX cx l n tt):=by
 refine bc hE hh (dX cx l n) ?_
 rintro⟨last,a⟩ r hm Z O hf
 simp only[Fits,aR,aQ,and_true] at hf
 unfold b_lifelike_ascends_1 at hm
 dsimp only at hm
 refine srs hn ?_
 simp -dsimp [hf]
 refine aD ?_
 rcases aM hm with ⟨c1,hm⟩ | ⟨c1,hm⟩
 ·refine aI (by simp -dsimp) c1 ?_
  refine aF (aC (aD (aH ?_)))
  refine srs hn ?_
  obtain⟨x,h2,hm⟩:=bnd hm
  simp -dsimp [hf,c1,h2]
  refine aD ?_
  obtain⟨a1,j5,hm⟩:=bnd hm
  refine scE [(1,vI n),(7,vI x),(8,.u (.one (dL l))),(9,vI (aB l)),(10,vI a),(21,vT a1)] [] ?_ fun Z O hf=>?_
  ·replace hm:=j5
   clear j5
   exact zz
  ·clear j5
   exact zz
 ·exact zz
theorem d8 (l:List Int) (n:Int) (r:Bool) (hm:m_lifelike_ascends l n=some r):PureCall Tryz.prog 155 [.u (.one (dL l)),vI n] (vT r):=by
 refine b8 Tryz.func155 Tryz.ntmps155 fun cx hn=>?_
 unfold m_lifelike_ascends at hm
 refine srs hn ?_
 simp -dsimp
 refine srs hn ?_
 simp -dsimp
 refine aD ?_
 refine srs hn ?_
 simp -dsimp
 refine aH ?_
 obtain⟨o_,g6,hm⟩:=bnd hm
 refine aW (l_lifelike_ascends_1 cx hn l n g6) (by
   try dsimp only
   exact eeh
 ) fun ee Z O xx=>?_
 rcases o_ with r | _u
 ·exact zz
 ·exact zz
def cN (cx:Cx) (_l:List Int) (tt:((List Int)×Bool) ⊕ (List Int)) (ee:Exit) (Z:Env) (O:Sto):Prop:=match tt with
 | .inl r=>ee=.ret/\EE cx (fun Z O=>∃ v,cp tb Z O Tryz.f89.results.toList=some v/\(v.frz O).free=true/\(v.frz O).wk (.tup [.one (dL r.1),.one (.d (.bool r.2))])) Z O
 | .inr out=>ee=.exit 0/\EE cx (aY [(4,vO 5000)] [(5000,.row 1 3 (List.map (rI .i64) out))]) Z O
theorem l_lifelike_digits_1 (cx:Cx) (hn:cx.n=30) (l:List Int) {fu:Nat} {stt:Int×(List Int)} {tt:((List Int)×Bool) ⊕ (List Int)} (hh:aK (b_lifelike_digits_1 l) fu stt=some tt) {Z:Env} {O:Sto}
  (hE:b9 (fun stt:Int×(List Int)=>match stt with | (a,_out)=>[(4,vO 5000),(8,.u (.one (.d (.sl 1 (List.map (rI .u8) l))))),(9,vI (aB l)),(10,vI a)]) (fun stt:Int×(List Int)=>match stt with | (_a,out)=>[(5000,.row 1 3 (List.map (rI .i64) out))]) stt Z O):Swp Tryz.prog cx (.loop (bq [1,1,0,1,0,0] (aU Tryz.f89))) Z O (cN cx l tt):=by
 refine bc hE hh (cN cx l) ?_
 rintro⟨a,out⟩ r hm Z O hf
 simp only[Fits,aR,aQ,and_true] at hf
 unfold b_lifelike_digits_1 at hm
 dsimp only at hm
 refine srs hn ?_
 simp -dsimp [hf]
 refine aD ?_
 rcases aM hm with ⟨c2,hm⟩ | ⟨c2,hm⟩
 ·refine aI (by simp -dsimp) c2 ?_
  refine aF (aC (aD (aH ?_)))
  refine srs hn ?_
  obtain⟨x,h3,hm⟩:=bnd hm
  simp -dsimp [hf,c2,h3]
  refine aD ?_
  obtain⟨a1,j7,hm⟩:=bnd hm
  refine scE [(4,vO 5000),(6,.u (.one (.d (.int .u8 x)))),(8,.u (.one (.d (.sl 1 (List.map (rI .u8) l))))),(9,vI (aB l)),(10,vI a),(19,vT a1)] [(5000,.row 1 3 (List.map (rI .i64) out))] ?_ fun Z O hf=>?_
  ·replace hm:=j7
   clear j7
   exact zz
  ·clear j7
   simp only[Fits,aR,aQ,and_true] at hf
   rcases aM hm with ⟨c5,hm⟩ | ⟨c5,hm⟩
   ·exact zz
   ·refine aG (by simp -dsimp [hf]) c5 ?_
    refine aF (aC ?_)
    refine sr1 hn ?_
    obtain⟨l1,h6,hm⟩:=bnd hm
    obtain⟨h6a,h6e⟩:=aS h6
    replace h6e:=h6e.symm
    subst h6e
    try simp only[List.length_cons,List.length_nil,Nat.zero_add] at h6a
    simp -dsimp [hf,h6a]
    refine bp ?_
    refine aC ?_
    refine sr1 hn ?_
    simp -dsimp [hf]
    cases hm
    refine bO ?_
    refine emv 25 5000 ?_
    exact zz
 ·exact zz
theorem eP (s:List UInt8) (r:(List Int)×Bool) (hm:m_lifelike_digits s=some r):PureCall Tryz.prog 89 [.u (.one (.d (.str (bs s))))] (.tup [.one (dL r.1),.one (.d (.bool r.2))]):=by
 refine b8 Tryz.func89 Tryz.ntmps89 fun cx hn=>?_
 unfold m_lifelike_digits at hm
 refine srs hn ?_
 simp -dsimp
 refine srs hn ?_
 simp -dsimp
 refine aD ?_
 refine srs hn ?_
 obtain⟨l,h1,hm⟩:=bnd hm
 simp -dsimp [h1]
 refine aH ?_
 obtain⟨o_,g8,hm⟩:=bnd hm
 refine aW (l_lifelike_digits_1 cx hn l g8) (by
   try dsimp only
   refine EE.step (Wk.own0 4 5000 1 3 (by simp -dsimp) (by decide)) ?_
   exact zz
 ) fun ee Z O xx=>?_
 rcases o_ with r | out
 ·exact zz
 ·unfold cN at xx
  dsimp only at xx
  obtain⟨rfl,xx⟩:=xx
  refine bj ?_
  refine aC ?_
  refine see xx fun Z O hf=>?_
  simp only[Fits,aR,aQ,and_true] at hf
  refine srs hn ?_
  obtain⟨y,h9,hm⟩:=bnd hm
  simp -dsimp [hf]
  refine callL_brw (us':=[.u (.one (dL out)),vI 9]) (d8 out 9 y h9) (by simp -dsimp [hf]) rfl (dkL hn) ?_
  exact zz
def bB (cx:Cx) (_sv1 _sv2:List Point) (tt:Bool ⊕ Unit) (ee:Exit) (Z:Env) (O:Sto):Prop:=match tt with
 | .inl r=>ee=.ret/\EE cx (fun Z O=>∃ v,cp tb Z O Tryz.f124.results.toList=some v/\(v.frz O).free=true/\(v.frz O).wk (vT r)) Z O
 | .inr _u=>ee=.exit 0/\EE cx (aY [] []) Z O
theorem cI (cx:Cx) (hn:cx.n=26) (sv1 sv2:List Point) {fu:Nat} {stt:Int} {tt:Bool ⊕ Unit} (hh:aK (b_slices_Equal_api_Point_api_Point_1 sv1 sv2) fu stt=some tt) {Z:Env} {O:Sto}
  (hE:b9 (fun a:Int=>[(0,.u (.one (dR2 sv1))),(1,.u (.one (dR2 sv2))),(12,vI (aB sv1)),(13,vI a)]) (fun _a:Int=>[]) stt Z O):Swp Tryz.prog cx (.loop (bq [1,1,0,1,0,0] (aU Tryz.f124))) Z O (bB cx sv1 sv2 tt):=by
 refine bc hE hh (bB cx sv1 sv2) ?_
 rintro a r hm Z O hf
 simp only[Fits,aR,aQ,and_true] at hf
 unfold b_slices_Equal_api_Point_api_Point_1 at hm
 exact zz
theorem d5 (sv1 sv2:List Point) (r:Bool) (hm:m_slices_Equal_api_Point_api_Point sv1 sv2=some r):PureCall Tryz.prog 124 [.u (.one (dR2 sv1)),.u (.one (dR2 sv2))] (vT r):=by
 refine b8 Tryz.func124 Tryz.ntmps124 fun cx hn=>?_
 unfold m_slices_Equal_api_Point_api_Point at hm
 refine srs hn ?_
 simp -dsimp
 refine aD ?_
 refine srs hn ?_
 simp -dsimp
 rcases aM hm with ⟨c1,hm⟩ | ⟨c1,hm⟩
 ·exact zz
 ·refine scf c1 ?_
  refine aF (aC (aD ?_))
  refine srs hn ?_
  simp -dsimp [c1]
  refine aH ?_
  obtain⟨o_,g6,hm⟩:=bnd hm
  refine aW (cI cx hn sv1 sv2 g6) (by
    try dsimp only
    exact EE.here (by simp -dsimp)
  ) fun ee Z O xx=>?_
  rcases o_ with r | _u
  ·exact zz
  ·exact zz
theorem c_hood_Same (a b:List Point) (r:Bool) (hm:m_hood_Same a b=some r):PureCall Tryz.prog 52 [.u (.one (dR2 a)),.u (.one (dR2 b))] (vT r):=by
 refine b8 Tryz.func52 Tryz.ntmps52 fun cx hn=>?_
 unfold m_hood_Same at hm
 refine srs hn ?_
 simp -dsimp
 refine srs hn ?_
 obtain⟨y,h1,hm⟩:=bnd hm
 simp -dsimp
 refine aA (d5 a b y h1) (dkL hn) ?_
 exact zz
theorem c_lifelike_letter (l:List Point) (r:(List UInt8)×Bool) (hm:m_lifelike_letter l=some r):PureCall Tryz.prog 156 [.u (.one (dR2 l))] (.tup [.one (.d (.str (bs r.1))),.one (.d (.bool r.2))]):=by
 refine b8 Tryz.func156 Tryz.ntmps156 fun cx hn=>?_
 unfold m_lifelike_letter at hm
 refine srs hn ?_
 simp -dsimp
 refine aD (aH ?_)
 refine srs hn ?_
 obtain⟨y,h1,hm⟩:=bnd hm
 simp -dsimp
 refine aA (c_hood_Moore 1 y h1) (dkL hn) ?_
 obtain⟨y1,h2,hm⟩:=bnd hm
 simp -dsimp
 refine aA (c_hood_Same l y y1 h2) (dkL hn) ?_
 exact zz
theorem fj (t:Ai) (r:Bool) (hm:m_lifelike_Right t=some r):PureCall Tryz.prog 90 [.u (.agg [dR2 t.Hood,dI t.States,dL t.Birth,dL t.Survive])] (vT r):=by
 refine b8 Tryz.func90 Tryz.ntmps90 fun cx hn=>?_
 unfold m_lifelike_Right at hm
 refine srs hn ?_
 simp -dsimp
 refine srs hn ?_
 obtain⟨y,h1,hm⟩:=bnd hm
 simp -dsimp
 refine aA (c_lifelike_letter t.Hood y h1) (dkL hn) ?_
 simp -dsimp
 refine srs hn ?_
 simp -dsimp
 obtain⟨a,j8,hm⟩:=bnd hm
 refine scE [(2,vT a)] [] ?_ fun Z O hf=>?_
 ·replace hm:=j8
  clear j8
  refine sr1 hn ?_
  rcases aM hm with ⟨c2,hm⟩ | ⟨c2,hm⟩
  ·rcases aM hm with ⟨c3,hm⟩ | ⟨c3,hm⟩
   ·rcases aM hm with ⟨c4,hm⟩ | ⟨c4,hm⟩
    ·obtain⟨y1,h5,hm⟩:=bnd hm
     simp -dsimp [c2,c3,c4]
     refine aA (d8 t.Birth (aL .i64 (aB t.Hood) 1) y1 h5) (dkL hn) ?_
     rcases aM hm with ⟨c6,hm⟩ | ⟨c6,hm⟩
     ·obtain⟨y2,h7,hm⟩:=bnd hm
      simp -dsimp [c6]
      refine aA (d8 t.Survive (aL .i64 (aB t.Hood) 1) y2 h7) (dkL hn) ?_
      exact zz
     ·exact zz
    ·exact zz
   ·exact zz
  ·exact zz
 ·clear j8
  exact zz
end Go.Proofs.YtffohfmfehjbmaaGreatDoor
