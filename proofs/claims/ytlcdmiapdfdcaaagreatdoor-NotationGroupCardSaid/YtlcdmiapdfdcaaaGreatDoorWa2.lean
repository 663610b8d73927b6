/- That the code does what the functions say (made by cc.py). -/
import Derived.Test.YtlcdmiapdfdcaaaGreatDoorWa1
namespace Go.Proofs.YtlcdmiapdfdcaaaGreatDoor
open Go.AM Go.Proofs
set_option maxRecDepth 100000
attribute [-simp] qlookup cR dQ Ob.wipe Ob.ren Ob.frz1
theorem gf (r_:Int) (r:List Point) (hm:m_hood_Neumann r_ = some r):PureCall Tryz.prog 69 [vI r_] (.u (.one (dR1 r))):=by
 refine bD Tryz.func69 Tryz.ntmps69 fun cx hn=>?_
 unfold m_hood_Neumann at hm
 refine srs hn ?_
 simp -dsimp
 refine aU ?_
 obtain ⟨a,j4,hm⟩:=bnd hm
 refine scE [(1,vX 1),(8,vT a)] [(1,.box [dI r_])] ?_ fun O G hf=>?_
 ·replace hm:=j4
  clear j4
  refine sr1 hn ?_
  rcases aZ hm with ⟨c1,hm⟩ | ⟨c1,hm⟩
  ·simp -dsimp [c1]
   cases hm
   exact EE.here (by simp -dsimp)
  ·simp -dsimp [c1]
   cases hm
   exact EE.here (by simp -dsimp)
 ·clear j4
  simp only [Fits,ba,bb,and_true] at hf
  rcases aZ hm with ⟨c2,hm⟩ | ⟨c2,hm⟩
  ·refine aQ (by simp -dsimp [hf]) c2 ?_
   refine srs hn ?_
   simp -dsimp
   refine aT (aW ?_)
   cases hm
   refine ⟨.inr rfl,?_⟩
   exact EE.here (by simp -dsimp)
  ·refine aP (by simp -dsimp [hf]) c2 ?_
   refine aS (aO ?_)
   refine srs hn ?_
   obtain ⟨y,h3,hm⟩:=bnd hm
   simp -dsimp [hf]
   refine clg (eV r_ r_ y h3) [1] [5000] (by simp -dsimp [hf]) (dkL hn) ?_
   simp -dsimp
   cases hm
   exact aT ⟨.inr rfl,EE.here (by simp -dsimp)⟩
theorem c_hood_Hex_1 (x y:Int) (r:Bool) (hm:m_hood_Hex_1 x y = some r):PureCall Tryz.prog 126 [vI x,vI y] (vT r):=by
 refine bD Tryz.func126 Tryz.ntmps126 fun cx hn=>?_
 unfold m_hood_Hex_1 at hm
 refine srs hn ?_
 simp -dsimp
 refine srs hn ?_
 simp -dsimp
 cases hm
 exact aT ⟨.inr rfl,EE.here (by simp -dsimp)⟩
def cm (cx:Cx) (r_ y:Int) (tt:(List Point)) (ee:Exit) (O:Env) (G:Sto):Prop:=match tt with
 | l1=>ee = .exit 2 /\ EE cx (bw [(0,vI r_),(1,.u (.one (.fn 126 []))),(5,vO 5000),(6,vI y)] [(5000,.row 2 49 (List.map Point.row l1))]) O G
theorem fN (cx:Cx) (hn:cx.n = 33) (r_ y:Int) {fu:Nat} {stt:Int×(List Point)} {tt:(List Point)} (hh:aV (b_hood_collect_hood_Hex_1_2 r_ y) fu stt = some tt) {O:Env} {G:Sto}
  (hE:bH (fun stt:Int×(List Point)=>match stt with | (x,_l1)=>[(0,vI r_),(1,.u (.one (.fn 126 []))),(5,vO 5000),(6,vI y),(7,vI x)]) (fun stt:Int×(List Point)=>match stt with | (_x,l1)=>[(5000,.row 2 49 (List.map Point.row l1))]) stt O G):Swp Tryz.prog cx (.loop (cr [1,1,0,1,0,0,1,0,0,1,0,0] (bq Tryz.f122))) O G (cm cx r_ y tt):=by
 refine bL hE hh (cm cx r_ y) ?_
 rintro ⟨x,l1⟩ r hm O G hf
 simp only [Fits,ba,bb,and_true] at hf
 unfold b_hood_collect_hood_Hex_1_2 at hm
 dsimp only at hm
 refine aU ?_
 refine srs hn ?_
 simp -dsimp [hf]
 rcases aZ hm with ⟨c2,hm⟩ | ⟨c2,hm⟩
 ·refine aQ (by simp -dsimp) c2 ?_
  refine aS (aO ?_)
  obtain ⟨l2,j6,hm⟩:=bnd hm
  refine scE [(0,vI r_),(1,.u (.one (.fn 126 []))),(5,vO 5000),(6,vI y),(7,vI x)] [(5000,.row 2 49 (List.map Point.row l2))] ?_ fun O G hf=>?_
  ·replace hm:=j6
   clear j6
   refine aY ?_
   refine srs hn ?_
   obtain ⟨y1,h3,hm⟩:=bnd hm
   simp -dsimp [hf,c2]
   refine aR (c_hood_Hex_1 x y y1 h3) (dkL hn) ?_
   simp -dsimp
   rcases aZ hm with ⟨c4,hm⟩ | ⟨c4,hm⟩
   ·refine aQ (by simp -dsimp) c4 ?_
    refine sr1 hn ?_
    obtain ⟨l2,h5,hm⟩:=bnd hm
    obtain ⟨h5a,h5e⟩:=bm h5
    replace h5e:=h5e.symm
    subst h5e
    try simp only [List.length_cons,List.length_nil,Nat.zero_add] at h5a
    simp -dsimp [hf,c4,h5a]
    refine bh ?_
    refine aO ?_
    cases hm
    refine emv 31 5000 ?_
    exact EE.here (by simp -dsimp [hf])
   ·refine aP (by simp -dsimp) c4 ?_
    refine aS ?_
    refine bh ?_
    cases hm
    exact EE.here (by simp -dsimp [hf,c4])
  ·clear j6
   simp only [Fits,ba,bb,and_true] at hf
   refine sr1 hn ?_
   simp -dsimp [hf]
   cases hm
   refine bf ?_
   exact EE.here (by simp -dsimp [hf])
 ·refine aP (by simp -dsimp) c2 ?_
  refine bd ?_
  refine aW ?_
  cases hm
  refine be nofun ?_
  exact ⟨rfl,EE.here (by simp -dsimp [hf,c2])⟩
def ck (cx:Cx) (_r_:Int) (tt:(List Point)) (ee:Exit) (O:Env) (G:Sto):Prop:=match tt with
 | l=>ee = .exit 0 /\ EE cx (bw [(5,vO 5000)] [(5000,.row 2 49 (List.map Point.row l))]) O G
theorem fI (cx:Cx) (hn:cx.n = 33) (r_:Int) {fu:Nat} {stt:Int×(List Point)} {tt:(List Point)} (hh:aV (b_hood_collect_hood_Hex_1_1 r_) fu stt = some tt) {O:Env} {G:Sto}
  (hE:bH (fun stt:Int×(List Point)=>match stt with | (y,_l)=>[(0,vI r_),(1,.u (.one (.fn 126 []))),(5,vO 5000),(6,vI y)]) (fun stt:Int×(List Point)=>match stt with | (_y,l)=>[(5000,.row 2 49 (List.map Point.row l))]) stt O G):Swp Tryz.prog cx (.loop (cr [1,1,0,1,0,0] (bq Tryz.f122))) O G (ck cx r_ tt):=by
 refine bL hE hh (ck cx r_) ?_
 rintro ⟨y,l⟩ r hm O G hf
 simp only [Fits,ba,bb,and_true] at hf
 unfold b_hood_collect_hood_Hex_1_1 at hm
 dsimp only at hm
 refine aU ?_
 refine srs hn ?_
 simp -dsimp [hf]
 rcases aZ hm with ⟨c1,hm⟩ | ⟨c1,hm⟩
 ·refine aQ (by simp -dsimp) c1 ?_
  refine aS (aO (aU (aY ?_)))
  refine srs hn ?_
  simp -dsimp [hf,c1]
  refine aY ?_
  obtain ⟨l1,g7,hm⟩:=bnd hm
  refine br (fN cx hn r_ y g7) (by
    try dsimp only
    exact EE.here (by simp -dsimp [hf])
  ) fun ee O G x8=>?_
  unfold cm at x8
  dsimp only at x8
  obtain ⟨rfl,x8⟩:=x8
  refine bc ?_
  refine bh ?_
  refine aO ?_
  refine see x8 fun O G hf=>?_
  simp only [Fits,ba,bb,and_true] at hf
  refine sr1 hn ?_
  simp -dsimp [hf]
  cases hm
  refine bf ?_
  exact EE.here (by simp -dsimp [hf])
 ·refine aP (by simp -dsimp) c1 ?_
  refine bd ?_
  refine aW ?_
  cases hm
  refine be nofun ?_
  exact ⟨rfl,EE.here (by simp -dsimp [hf,c1])⟩
theorem gh (r_:Int) (r:List Point) (hm:m_hood_collect_hood_Hex_1 r_ = some r):PureCall Tryz.prog 122 [vI r_,.u (.one (.fn 126 []))] (.u (.one (dR1 r))):=by
 refine bD Tryz.func122 Tryz.ntmps122 fun cx hn=>?_
 unfold m_hood_collect_hood_Hex_1 at hm
 refine srs hn ?_
 simp -dsimp
 refine srs hn ?_
 simp -dsimp
 refine aU ?_
 refine srs hn ?_
 simp -dsimp
 refine aY ?_
 obtain ⟨l,g9,hm⟩:=bnd hm
 refine br (fI cx hn r_ g9) (by
   try dsimp only
   refine EE.step (Wk.own0 5 5000 2 49 (by simp -dsimp) (by decide)) ?_
   exact eeh
 ) fun ee O G x10=>?_
 unfold ck at x10
 dsimp only at x10
 obtain ⟨rfl,x10⟩:=x10
 refine bc ?_
 refine aO ?_
 refine see x10 fun O G hf=>?_
 simp only [Fits,ba,bb,and_true] at hf
 refine srs hn ?_
 simp -dsimp [hf]
 cases hm
 exact aT ⟨.inr rfl,EE.here (by simp -dsimp [hf])⟩
theorem c_hood_Hex (r:List Point) (hm:m_hood_Hex = some r):PureCall Tryz.prog 70 [] (.u (.one (dR1 r))):=by
 refine bD Tryz.func70 Tryz.ntmps70 fun cx hn=>?_
 unfold m_hood_Hex at hm
 refine srs hn ?_
 simp -dsimp
 refine srs hn ?_
 obtain ⟨y,h1,hm⟩:=bnd hm
 simp -dsimp
 refine aR (gh 1 y h1) (dkL hn) ?_
 simp -dsimp
 cases hm
 exact aT ⟨.inr rfl,EE.here (by simp -dsimp)⟩
def cj (cx:Cx) (_l:List Int) (_n:Int) (tt:Bool ⊕ Unit) (ee:Exit) (O:Env) (G:Sto):Prop:=match tt with
 | .inl r=>ee = .ret /\ EE cx (fun O G=>∃ v,e9 tb O G Tryz.f127.results.toList = some v /\ (v.frz G).free = true /\ (v.frz G).wk (vT r)) O G
 | .inr _u=>ee = .exit 0 /\ EE cx (bw [] []) O G
theorem l_lifelike_ascends_1 (cx:Cx) (hn:cx.n = 24) (l:List Int) (n:Int) {fu:Nat} {stt:Int×Int} {tt:Bool ⊕ Unit} (hh:aV (b_lifelike_ascends_1 l n) fu stt = some tt) {O:Env} {G:Sto}
  (hE:bH (fun stt:Int×Int=>match stt with | (last,a)=>[(1,vI n),(5,vI last),(8,.u (.one (dL l))),(9,vI (aX l)),(10,vI a)]) (fun stt:Int×Int=>match stt with | (_last,_a)=>[]) stt O G):Swp Tryz.prog cx (.loop (cr [1,1,0,1,0,0] (bq Tryz.f127))) O G (cj cx l n tt):=by
 refine bL hE hh (cj cx l n) ?_
 rintro ⟨last,a⟩ r hm O G hf
 simp only [Fits,ba,bb,and_true] at hf
 unfold b_lifelike_ascends_1 at hm
 dsimp only at hm
 refine srs hn ?_
 simp -dsimp [hf]
 refine aU ?_
 rcases aZ hm with ⟨c1,hm⟩ | ⟨c1,hm⟩
 ·refine aQ (by simp -dsimp) c1 ?_
  refine aS (aO (aU (aY ?_)))
  refine srs hn ?_
  obtain ⟨x,h2,hm⟩:=bnd hm
  simp -dsimp [hf,c1,h2]
  refine aU ?_
  obtain ⟨a1,j5,hm⟩:=bnd hm
  refine scE [(1,vI n),(7,vI x),(8,.u (.one (dL l))),(9,vI (aX l)),(10,vI a),(21,vT a1)] [] ?_ fun O G hf=>?_
  ·replace hm:=j5
   clear j5
   refine sr1 hn ?_
   rcases aZ hm with ⟨c3,hm⟩ | ⟨c3,hm⟩
   ·simp -dsimp [hf,c3]
    cases hm
    exact EE.here (by simp -dsimp [hf])
   ·simp -dsimp [hf,c3]
    cases hm
    exact EE.here (by simp -dsimp [hf])
  ·clear j5
   simp only [Fits,ba,bb,and_true] at hf
   rcases aZ hm with ⟨c4,hm⟩ | ⟨c4,hm⟩
   ·refine aQ (by simp -dsimp [hf]) c4 ?_
    refine srs hn ?_
    simp -dsimp
    refine aT (aW (bu (aW ?_)))
    cases hm
    refine be nofun ?_
    exact ⟨rfl,EE.here (by simp -dsimp [Tryz.results127])⟩
   ·refine aP (by simp -dsimp [hf]) c4 ?_
    refine aS (aO ?_)
    refine sr1 hn ?_
    simp -dsimp [hf]
    refine bh ?_
    refine aO ?_
    refine sr1 hn ?_
    simp -dsimp [hf]
    cases hm
    refine bf ?_
    exact EE.here (by simp -dsimp [hf])
 ·refine aP (by simp -dsimp) c1 ?_
  refine bd ?_
  refine aW ?_
  cases hm
  refine be nofun ?_
  exact ⟨rfl,EE.here (by simp -dsimp [c1])⟩
theorem ep (l:List Int) (n:Int) (r:Bool) (hm:m_lifelike_ascends l n = some r):PureCall Tryz.prog 127 [.u (.one (dL l)),vI n] (vT r):=by
 refine bD Tryz.func127 Tryz.ntmps127 fun cx hn=>?_
 unfold m_lifelike_ascends at hm
 refine srs hn ?_
 simp -dsimp
 refine srs hn ?_
 simp -dsimp
 refine aU ?_
 refine srs hn ?_
 simp -dsimp
 refine aY ?_
 obtain ⟨o_,g6,hm⟩:=bnd hm
 refine br (l_lifelike_ascends_1 cx hn l n g6) (by
   try dsimp only
   exact eeh
 ) fun ee O G x7=>?_
 rcases o_ with r | _u
 ·unfold cj at x7
  dsimp only at x7
  obtain ⟨rfl,x7⟩:=x7
  refine bu (aW ?_)
  cases hm
  exact ⟨.inr rfl,x7⟩
 ·unfold cj at x7
  dsimp only at x7
  obtain ⟨rfl,x7⟩:=x7
  refine bc ?_
  refine aO ?_
  refine see x7 fun O G hf=>?_
  simp only [Fits,ba,bb,and_true] at hf
  refine srs hn ?_
  simp -dsimp
  cases hm
  exact aT ⟨.inr rfl,EE.here (by simp -dsimp)⟩
def cp (cx:Cx) (_l:List Int) (tt:((List Int)×Bool) ⊕ (List Int)) (ee:Exit) (O:Env) (G:Sto):Prop:=match tt with
 | .inl r=>ee = .ret /\ EE cx (fun O G=>∃ v,e9 tb O G Tryz.f71.results.toList = some v /\ (v.frz G).free = true /\ (v.frz G).wk (.tup [.one (dL r.1),.one (.d (.bool r.2))])) O G
 | .inr out=>ee = .exit 0 /\ EE cx (bw [(4,vO 5000)] [(5000,.row 1 3 (List.map (rI .i64) out))]) O G
theorem l_lifelike_digits_1 (cx:Cx) (hn:cx.n = 30) (l:List Int) {fu:Nat} {stt:Int×(List Int)} {tt:((List Int)×Bool) ⊕ (List Int)} (hh:aV (b_lifelike_digits_1 l) fu stt = some tt) {O:Env} {G:Sto}
  (hE:bH (fun stt:Int×(List Int)=>match stt with | (a,_out)=>[(4,vO 5000),(8,.u (.one (.d (.sl 1 (List.map (rI .u8) l))))),(9,vI (aX l)),(10,vI a)]) (fun stt:Int×(List Int)=>match stt with | (_a,out)=>[(5000,.row 1 3 (List.map (rI .i64) out))]) stt O G):Swp Tryz.prog cx (.loop (cr [1,1,0,1,0,0] (bq Tryz.f71))) O G (cp cx l tt):=by
 refine bL hE hh (cp cx l) ?_
 rintro ⟨a,out⟩ r hm O G hf
 simp only [Fits,ba,bb,and_true] at hf
 unfold b_lifelike_digits_1 at hm
 dsimp only at hm
 refine srs hn ?_
 simp -dsimp [hf]
 refine aU ?_
 rcases aZ hm with ⟨c2,hm⟩ | ⟨c2,hm⟩
 ·refine aQ (by simp -dsimp) c2 ?_
  refine aS (aO (aU (aY ?_)))
  refine srs hn ?_
  obtain ⟨x,h3,hm⟩:=bnd hm
  simp -dsimp [hf,c2,h3]
  refine aU ?_
  obtain ⟨a1,j7,hm⟩:=bnd hm
  refine scE [(4,vO 5000),(6,.u (.one (.d (.int .u8 x)))),(8,.u (.one (.d (.sl 1 (List.map (rI .u8) l))))),(9,vI (aX l)),(10,vI a),(19,vT a1)] [(5000,.row 1 3 (List.map (rI .i64) out))] ?_ fun O G hf=>?_
  ·replace hm:=j7
   clear j7
   refine sr1 hn ?_
   rcases aZ hm with ⟨c4,hm⟩ | ⟨c4,hm⟩
   ·simp -dsimp [c4]
    cases hm
    exact EE.here (by simp -dsimp [hf])
   ·simp -dsimp [c4]
    cases hm
    exact EE.here (by simp -dsimp [hf])
  ·clear j7
   simp only [Fits,ba,bb,and_true] at hf
   rcases aZ hm with ⟨c5,hm⟩ | ⟨c5,hm⟩
   ·refine aQ (by simp -dsimp [hf]) c5 ?_
    refine srs hn ?_
    simp -dsimp
    refine aT (aW (bu (aW ?_)))
    cases hm
    refine be nofun ?_
    exact ⟨rfl,EE.here (by simp -dsimp [Tryz.results71])⟩
   ·refine aP (by simp -dsimp [hf]) c5 ?_
    refine aS (aO ?_)
    refine sr1 hn ?_
    obtain ⟨l1,h6,hm⟩:=bnd hm
    obtain ⟨h6a,h6e⟩:=bm h6
    replace h6e:=h6e.symm
    subst h6e
    try simp only [List.length_cons,List.length_nil,Nat.zero_add] at h6a
    simp -dsimp [hf,h6a]
    refine bh ?_
    refine aO ?_
    refine sr1 hn ?_
    simp -dsimp [hf]
    cases hm
    refine bf ?_
    refine emv 25 5000 ?_
    exact EE.here (by simp -dsimp [hf])
 ·refine aP (by simp -dsimp) c2 ?_
  refine bd ?_
  refine aW ?_
  cases hm
  refine be nofun ?_
  exact ⟨rfl,EE.here (by simp -dsimp [hf,c2])⟩
theorem gp (s:List UInt8) (r:(List Int)×Bool) (hm:m_lifelike_digits s = some r):PureCall Tryz.prog 71 [.u (.one (.d (.str (bs s))))] (.tup [.one (dL r.1),.one (.d (.bool r.2))]):=by
 refine bD Tryz.func71 Tryz.ntmps71 fun cx hn=>?_
 unfold m_lifelike_digits at hm
 refine srs hn ?_
 simp -dsimp
 refine srs hn ?_
 simp -dsimp
 refine aU ?_
 refine srs hn ?_
 obtain ⟨l,h1,hm⟩:=bnd hm
 simp -dsimp [h1]
 refine aY ?_
 obtain ⟨o_,g8,hm⟩:=bnd hm
 refine br (l_lifelike_digits_1 cx hn l g8) (by
   try dsimp only
   refine EE.step (Wk.own0 4 5000 1 3 (by simp -dsimp) (by decide)) ?_
   exact EE.here (by simp -dsimp)
 ) fun ee O G x9=>?_
 rcases o_ with r | out
 ·unfold cp at x9
  dsimp only at x9
  obtain ⟨rfl,x9⟩:=x9
  refine bu (aW ?_)
  cases hm
  exact ⟨.inr rfl,x9⟩
 ·unfold cp at x9
  dsimp only at x9
  obtain ⟨rfl,x9⟩:=x9
  refine bc ?_
  refine aO ?_
  refine see x9 fun O G hf=>?_
  simp only [Fits,ba,bb,and_true] at hf
  refine srs hn ?_
  obtain ⟨y,h10,hm⟩:=bnd hm
  simp -dsimp [hf]
  refine fQ (us':=[.u (.one (dL out)),vI 9]) (ep out 9 y h10) (by simp -dsimp [hf]) rfl (dkL hn) ?_
  simp -dsimp
  cases hm
  exact aT ⟨.inr rfl,EE.here (by simp -dsimp [hf])⟩
def bn (cx:Cx) (_sv1 _sv2:List Point) (tt:Bool ⊕ Unit) (ee:Exit) (O:Env) (G:Sto):Prop:=match tt with
 | .inl r=>ee = .ret /\ EE cx (fun O G=>∃ v,e9 tb O G Tryz.f61.results.toList = some v /\ (v.frz G).free = true /\ (v.frz G).wk (vT r)) O G
 | .inr _u=>ee = .exit 0 /\ EE cx (bw [] []) O G
theorem dW (cx:Cx) (hn:cx.n = 26) (sv1 sv2:List Point) {fu:Nat} {stt:Int} {tt:Bool ⊕ Unit} (hh:aV (b_slices_Equal_api_Point_api_Point_1 sv1 sv2) fu stt = some tt) {O:Env} {G:Sto}
  (hE:bH (fun a:Int=>[(0,.u (.one (dR1 sv1))),(1,.u (.one (dR1 sv2))),(12,vI (aX sv1)),(13,vI a)]) (fun _a:Int=>[]) stt O G):Swp Tryz.prog cx (.loop (cr [1,1,0,1,0,0] (bq Tryz.f61))) O G (bn cx sv1 sv2 tt):=by
 refine bL hE hh (bn cx sv1 sv2) ?_
 rintro a r hm O G hf
 simp only [Fits,ba,bb,and_true] at hf
 unfold b_slices_Equal_api_Point_api_Point_1 at hm
 dsimp only at hm
 refine srs hn ?_
 simp -dsimp [hf]
 refine aU ?_
 rcases aZ hm with ⟨c2,hm⟩ | ⟨c2,hm⟩
 ·refine aQ (by simp -dsimp) c2 ?_
  refine aS (aO (aU (aY ?_)))
  refine srs hn ?_
  simp -dsimp [hf,c2]
  refine fh bA mixed (by rw [hn]; kernel_rfl) ?_
  obtain ⟨x,h3,hm⟩:=bnd hm
  obtain ⟨x1,h4,hm⟩:=bnd hm
  simp -dsimp [hf,h3,h4]
  rcases aZ hm with ⟨c5,hm⟩ | ⟨c5,hm⟩
  ·refine aQ (by simp -dsimp) c5 ?_
   refine srs hn ?_
   simp -dsimp [c5]
   refine aT (bu (aW ?_))
   cases hm
   refine be nofun ?_
   exact ⟨rfl,EE.here (by simp -dsimp [Tryz.results61])⟩
  ·refine aP (by simp -dsimp) c5 ?_
   refine aS ?_
   refine bh ?_
   refine aO ?_
   refine sr1 hn ?_
   simp -dsimp [hf,c5]
   cases hm
   refine bf ?_
   exact EE.here (by simp -dsimp [hf])
 ·refine aP (by simp -dsimp) c2 ?_
  refine bd ?_
  refine aW ?_
  cases hm
  refine be nofun ?_
  exact ⟨rfl,EE.here (by simp -dsimp [c2])⟩
theorem ek (sv1 sv2:List Point) (r:Bool) (hm:m_slices_Equal_api_Point_api_Point sv1 sv2 = some r):PureCall Tryz.prog 61 [.u (.one (dR1 sv1)),.u (.one (dR1 sv2))] (vT r):=by
 refine bD Tryz.func61 Tryz.ntmps61 fun cx hn=>?_
 unfold m_slices_Equal_api_Point_api_Point at hm
 refine srs hn ?_
 simp -dsimp
 refine aU ?_
 refine srs hn ?_
 simp -dsimp
 rcases aZ hm with ⟨c1,hm⟩ | ⟨c1,hm⟩
 ·refine sct c1 ?_
  refine srs hn ?_
  simp -dsimp [c1]
  refine aT (aW ?_)
  cases hm
  refine ⟨.inr rfl,?_⟩
  exact EE.here (by simp -dsimp)
 ·refine scf c1 ?_
  refine aS (aO (aU ?_))
  refine srs hn ?_
  simp -dsimp [c1]
  refine aY ?_
  obtain ⟨o_,g6,hm⟩:=bnd hm
  refine br (dW cx hn sv1 sv2 g6) (by
    try dsimp only
    exact EE.here (by simp -dsimp)
  ) fun ee O G x7=>?_
  rcases o_ with r | _u
  ·unfold bn at x7
   dsimp only at x7
   obtain ⟨rfl,x7⟩:=x7
   refine bu (aW ?_)
   cases hm
   exact ⟨.inr rfl,x7⟩
  ·unfold bn at x7
   dsimp only at x7
   obtain ⟨rfl,x7⟩:=x7
   refine bc ?_
   refine aO ?_
   refine see x7 fun O G hf=>?_
   simp only [Fits,ba,bb,and_true] at hf
   refine srs hn ?_
   simp -dsimp
   cases hm
   exact aT ⟨.inr rfl,EE.here (by simp -dsimp)⟩
theorem fo (a b:List Point) (r:Bool) (hm:m_hood_Same a b = some r):PureCall Tryz.prog 28 [.u (.one (dR1 a)),.u (.one (dR1 b))] (vT r):=by
 refine bD Tryz.func28 Tryz.ntmps28 fun cx hn=>?_
 unfold m_hood_Same at hm
 refine srs hn ?_
 simp -dsimp
 refine srs hn ?_
 obtain ⟨y,h1,hm⟩:=bnd hm
 simp -dsimp
 refine aR (ek a b y h1) (dkL hn) ?_
 simp -dsimp
 cases hm
 exact aT ⟨.inr rfl,EE.here (by simp -dsimp)⟩
theorem gn (l:List Point) (r:(List UInt8)×Bool) (hm:m_lifelike_letter l = some r):PureCall Tryz.prog 101 [.u (.one (dR1 l))] (.tup [.one (.d (.str (bs r.1))),.one (.d (.bool r.2))]):=by
 refine bD Tryz.func101 Tryz.ntmps101 fun cx hn=>?_
 unfold m_lifelike_letter at hm
 refine srs hn ?_
 simp -dsimp
 refine aU (aY ?_)
 refine srs hn ?_
 obtain ⟨y,h1,hm⟩:=bnd hm
 simp -dsimp
 refine aR (gU 1 y h1) (dkL hn) ?_
 obtain ⟨y1,h2,hm⟩:=bnd hm
 simp -dsimp
 refine aR (fo l y y1 h2) (dkL hn) ?_
 simp -dsimp
 rcases aZ hm with ⟨c3,hm⟩ | ⟨c3,hm⟩
 ·refine aQ (by simp -dsimp) c3 ?_
  refine srs hn ?_
  simp -dsimp [c3]
  refine aT (bu (aW ?_))
  cases hm
  refine ⟨.inr rfl,?_⟩
  exact EE.here (by simp -dsimp)
 ·refine aP (by simp -dsimp) c3 ?_
  refine srs hn ?_
  obtain ⟨y2,h4,hm⟩:=bnd hm
  simp -dsimp [c3]
  refine aR (gf 1 y2 h4) (dkL hn) ?_
  obtain ⟨y3,h5,hm⟩:=bnd hm
  simp -dsimp
  refine aR (fo l y2 y3 h5) (dkL hn) ?_
  simp -dsimp
  rcases aZ hm with ⟨c6,hm⟩ | ⟨c6,hm⟩
  ·refine aQ (by simp -dsimp) c6 ?_
   refine srs hn ?_
   simp -dsimp [c6]
   refine aT (bu (aW ?_))
   cases hm
   refine ⟨.inr rfl,?_⟩
   exact EE.here (by simp -dsimp)
  ·refine aP (by simp -dsimp) c6 ?_
   refine srs hn ?_
   obtain ⟨y4,h7,hm⟩:=bnd hm
   simp -dsimp [c6]
   refine aR (c_hood_Hex y4 h7) (dkL hn) ?_
   obtain ⟨y5,h8,hm⟩:=bnd hm
   simp -dsimp
   refine aR (fo l y4 y5 h8) (dkL hn) ?_
   simp -dsimp
   rcases aZ hm with ⟨c9,hm⟩ | ⟨c9,hm⟩
   ·refine aQ (by simp -dsimp) c9 ?_
    refine srs hn ?_
    simp -dsimp [c9]
    refine aT (bu (aW ?_))
    cases hm
    refine ⟨.inr rfl,?_⟩
    exact EE.here (by simp -dsimp)
   ·refine aP (by simp -dsimp) c9 ?_
    refine aS ?_
    refine bh ?_
    refine aO ?_
    refine srs hn ?_
    simp -dsimp [c9]
    cases hm
    exact aT ⟨.inr rfl,EE.here (by simp -dsimp)⟩
theorem cA (t:Av) (r:Bool) (hm:m_lifelike_Right t = some r):PureCall Tryz.prog 72 [.u (.agg [dR1 t.Hood,dI t.States,dL t.Birth,dL t.Survive])] (vT r):=by
 refine bD Tryz.func72 Tryz.ntmps72 fun cx hn=>?_
 unfold m_lifelike_Right at hm
 refine srs hn ?_
 simp -dsimp
 refine srs hn ?_
 obtain ⟨y,h1,hm⟩:=bnd hm
 simp -dsimp
 refine aR (gn t.Hood y h1) (dkL hn) ?_
 simp -dsimp
 refine srs hn ?_
 simp -dsimp
 obtain ⟨a,j8,hm⟩:=bnd hm
 refine scE [(2,vT a)] [] ?_ fun O G hf=>?_
 ·replace hm:=j8
  clear j8
  refine sr1 hn ?_
  rcases aZ hm with ⟨c2,hm⟩ | ⟨c2,hm⟩
  ·rcases aZ hm with ⟨c3,hm⟩ | ⟨c3,hm⟩
   ·rcases aZ hm with ⟨c4,hm⟩ | ⟨c4,hm⟩
    ·obtain ⟨y1,h5,hm⟩:=bnd hm
     simp -dsimp [c2,c3,c4]
     refine aR (ep t.Birth (bp .i64 (aX t.Hood) 1) y1 h5) (dkL hn) ?_
     rcases aZ hm with ⟨c6,hm⟩ | ⟨c6,hm⟩
     ·obtain ⟨y2,h7,hm⟩:=bnd hm
      simp -dsimp [c6]
      refine aR (ep t.Survive (bp .i64 (aX t.Hood) 1) y2 h7) (dkL hn) ?_
      simp -dsimp
      cases hm
      exact EE.here (by simp -dsimp)
     ·simp -dsimp [c6]
      cases hm
      exact EE.here (by simp -dsimp)
    ·simp -dsimp [c2,c3,c4]
     cases hm
     exact EE.here (by simp -dsimp)
   ·simp -dsimp [c2,c3]
    cases hm
    exact EE.here (by simp -dsimp)
  ·simp -dsimp [c2]
   cases hm
   exact EE.here (by simp -dsimp)
 ·clear j8
  simp only [Fits,ba,bb,and_true] at hf
  cases hm
  exact aT ⟨.inr rfl,EE.here (by simp -dsimp [hf])⟩
theorem f9 (s:List UInt8) (r:Av×Int) (hm:m_lifelike_Parse s = some r):PureCall Tryz.prog 30 [.u (.one (.d (.str (bs s))))] (.tup [.agg [dR1 r.1.Hood,dI r.1.States,dL r.1.Birth,dL r.1.Survive],.one (dI r.2)]):=by
 refine bD Tryz.func30 Tryz.ntmps30 fun cx hn=>?_
 unfold m_lifelike_Parse at hm
 refine srs hn ?_
 simp -dsimp
 refine srs hn ?_
 obtain ⟨y,h1,hm⟩:=bnd hm
 simp -dsimp
 refine aR (cq s ([66]:List UInt8) y h1) (dkL hn) ?_
 simp -dsimp
 refine srs hn ?_
 obtain ⟨y1,h2,hm⟩:=bnd hm
 simp -dsimp
 refine aR (c_strings_Cut y.1 ([47,83]:List UInt8) y1 h2) (dkL hn) ?_
 simp -dsimp
 refine aU ?_
 obtain ⟨a,j20,hm⟩:=bnd hm
 refine scE [(2,vX 2),(6,.u (.one (.d (.str (bs y1.1))))),(7,.u (.one (.d (.str (bs y1.2.1))))),(30,vT a)] [(2,.box [.d .nil,dI 0,.d .nil,.d .nil])] ?_ fun O G hf=>?_
 ·replace hm:=j20
  clear j20
  refine sr1 hn ?_
  rcases aZ hm with ⟨c3,hm⟩ | ⟨c3,hm⟩
  ·simp -dsimp [c3]
   cases hm
   exact EE.here (by simp -dsimp)
  ·simp -dsimp [c3]
   cases hm
   exact EE.here (by simp -dsimp)
 ·clear j20
  simp only [Fits,ba,bb,and_true] at hf
  rcases aZ hm with ⟨c4,hm⟩ | ⟨c4,hm⟩
  ·refine aQ (by simp -dsimp [hf]) c4 ?_
   refine srs hn ?_
   simp -dsimp [hf]
   refine aT (aW ?_)
   cases hm
   refine ⟨.inr rfl,?_⟩
   exact EE.here (by simp -dsimp [hf])
  ·refine aP (by simp -dsimp [hf]) c4 ?_
   refine aS (aO ?_)
   refine srs hn ?_
   obtain ⟨y2,h5,hm⟩:=bnd hm
   simp -dsimp
   refine aR (gU 1 y2 h5) (dkL hn) ?_
   simp -dsimp
   obtain ⟨⟨aJ,am⟩,j19,hm⟩:=bnd hm
   refine scE [(2,vX 2),(6,.u (.one (.d (.str (bs y1.1))))),(7,.u (.one (.d (.str (bs aJ))))),(9,vX 9)] [(2,.box [.d .nil,dI 0,.d .nil,.d .nil]),(9,.box [dR1 am,dI 2,.d .nil,.d .nil])] ?_ fun O G hf=>?_
   ·replace hm:=j19
    clear j19
    refine srs hn ?_
    obtain ⟨y3,h6,hm⟩:=bnd hm
    simp -dsimp [hf]
    refine aR (d5 y1.2.1 ([86]:List UInt8) y3 h6) (dkL hn) ?_
    simp -dsimp
    refine srs hn ?_
    simp -dsimp
    rcases aZ hm with ⟨c7,hm⟩ | ⟨c7,hm⟩
    ·refine aQ (by simp -dsimp) c7 ?_
     refine sr1 hn ?_
     obtain ⟨y4,h8,hm⟩:=bnd hm
     simp -dsimp [c7]
     refine aR (gf 1 y4 h8) (dkL hn) ?_
     simp -dsimp
     cases hm
     exact EE.here (by simp -dsimp [hf])
    ·refine aP (by simp -dsimp) c7 ?_
     refine srs hn ?_
     obtain ⟨y4,h9,hm⟩:=bnd hm
     simp -dsimp [hf,c7]
     refine aR (d5 y1.2.1 ([72]:List UInt8) y4 h9) (dkL hn) ?_
     simp -dsimp
     refine srs hn ?_
     simp -dsimp
     rcases aZ hm with ⟨c10,hm⟩ | ⟨c10,hm⟩
     ·refine aQ (by simp -dsimp) c10 ?_
      refine sr1 hn ?_
      obtain ⟨y5,h11,hm⟩:=bnd hm
      simp -dsimp [c10]
      refine aR (c_hood_Hex y5 h11) (dkL hn) ?_
      simp -dsimp
      cases hm
      exact EE.here (by simp -dsimp [hf])
     ·refine aP (by simp -dsimp) c10 ?_
      refine aS (aO ?_)
      cases hm
      exact EE.here (by simp -dsimp [hf,c10])
   ·clear j19
    simp only [Fits,ba,bb,and_true] at hf
    refine srs hn ?_
    obtain ⟨y3,h12,hm⟩:=bnd hm
    simp -dsimp [hf]
    refine aR (gp y1.1 y3 h12) (dkL hn) ?_
    simp -dsimp [hf]
    refine srs hn ?_
    obtain ⟨y4,h13,hm⟩:=bnd hm
    simp -dsimp [hf]
    refine aR (gp aJ y4 h13) (dkL hn) ?_
    simp -dsimp [hf]
    refine aU ?_
    obtain ⟨a1,j18,hm⟩:=bnd hm
    refine scE [(2,vX 2),(9,vX 9),(69,vT a1)] [(2,.box [.d .nil,dI 0,.d .nil,.d .nil]),(9,.box [dR1 am,dI 2,dL y3.1,dL y4.1])] ?_ fun O G hf=>?_
    ·replace hm:=j18
     clear j18
     refine sr1 hn ?_
     rcases aZ hm with ⟨c14,hm⟩ | ⟨c14,hm⟩
     ·simp -dsimp [c14]
      cases hm
      exact EE.here (by simp -dsimp [hf])
     ·simp -dsimp [c14]
      cases hm
      exact EE.here (by simp -dsimp [hf])
    ·clear j18
     simp only [Fits,ba,bb,and_true] at hf
     rcases aZ hm with ⟨c15,hm⟩ | ⟨c15,hm⟩
     ·refine aQ (by simp -dsimp [hf]) c15 ?_
      refine srs hn ?_
      simp -dsimp [hf]
      refine aT (aW ?_)
      cases hm
      refine ⟨.inr rfl,?_⟩
      exact EE.here (by simp -dsimp [hf])
     ·refine aP (by simp -dsimp [hf]) c15 ?_
      refine aS (aO (aU ?_))
      refine srs hn ?_
      obtain ⟨y5,h16,hm⟩:=bnd hm
      simp -dsimp [hf]
      refine aR (cA (⟨am,2,y3.1,y4.1⟩:Av) y5 h16) (dkL hn) ?_
      simp -dsimp
      rcases aZ hm with ⟨c17,hm⟩ | ⟨c17,hm⟩
      ·refine aQ (by simp -dsimp) c17 ?_
       refine srs hn ?_
       simp -dsimp [hf,c17]
       refine aT (aW ?_)
       cases hm
       refine ⟨.inr rfl,?_⟩
       exact EE.here (by simp -dsimp [hf])
      ·refine aP (by simp -dsimp) c17 ?_
       refine aS (aO ?_)
       refine srs hn ?_
       simp -dsimp [hf,c17]
       cases hm
       exact aT ⟨.inr rfl,EE.here (by simp -dsimp [hf])⟩
theorem c_strings_Split (s sep:List UInt8) (r:List (List UInt8)) (hm:m_strings_Split s sep = some r):PureCall Tryz.prog 73 [.u (.one (.d (.str (bs s)))),.u (.one (.d (.str (bs sep))))] (.u (.one (.d (.sl 1 (List.map rT r))))):=split_pure splitL (by kernel_rfl) (by kernel_rfl) rfl ⟨_,Tryz.func73,by decide,rfl⟩ hm
def bY (cx:Cx) (_l:List Int) (tt:((List Int)×Bool) ⊕ (List Int)) (ee:Exit) (O:Env) (G:Sto):Prop:=match tt with
 | .inl r=>ee = .ret /\ EE cx (fun O G=>∃ v,e9 tb O G Tryz.f74.results.toList = some v /\ (v.frz G).free = true /\ (v.frz G).wk (.tup [.one (dL r.1),.one (.d (.bool r.2))])) O G
 | .inr out=>ee = .exit 0 /\ EE cx (bw [(4,vO 5000)] [(5000,.row 1 3 (List.map (rI .i64) out))]) O G
theorem gL (cx:Cx) (hn:cx.n = 45) (l:List Int) {fu:Nat} {stt:Int×(List Int)} {tt:((List Int)×Bool) ⊕ (List Int)} (hh:aV (b_generations_digits_1 l) fu stt = some tt) {O:Env} {G:Sto}
  (hE:bH (fun stt:Int×(List Int)=>match stt with | (a,_out)=>[(4,vO 5000),(9,.u (.one (.d (.sl 1 (List.map (rI .u8) l))))),(10,vI (aX l)),(11,vI a)]) (fun stt:Int×(List Int)=>match stt with | (_a,out)=>[(5000,.row 1 3 (List.map (rI .i64) out))]) stt O G):Swp Tryz.prog cx (.loop (cr [1,1,0,1,0,0] (bq Tryz.f74))) O G (bY cx l tt):=by
 refine bL hE hh (bY cx l) ?_
 rintro ⟨a,out⟩ r hm O G hf
 simp only [Fits,ba,bb,and_true] at hf
 unfold b_generations_digits_1 at hm
 dsimp only at hm
 refine srs hn ?_
 simp -dsimp [hf]
 refine aU ?_
 rcases aZ hm with ⟨c2,hm⟩ | ⟨c2,hm⟩
 ·refine aQ (by simp -dsimp) c2 ?_
  refine aS (aO (aU (aY ?_)))
  refine srs hn ?_
  obtain ⟨x,h3,hm⟩:=bnd hm
  simp -dsimp [hf,c2,h3]
  refine srs hn ?_
  simp -dsimp
  refine aU ?_
  obtain ⟨a1,j10,hm⟩:=bnd hm
  refine scE [(4,vO 5000),(7,vI (bp .i64 (eE .i64 x) 48)),(9,.u (.one (.d (.sl 1 (List.map (rI .u8) l))))),(10,vI (aX l)),(11,vI a),(38,vT a1)] [(5000,.row 1 3 (List.map (rI .i64) out))] ?_ fun O G hf=>?_
  ·replace hm:=j10
   clear j10
   refine sr1 hn ?_
   rcases aZ hm with ⟨c4,hm⟩ | ⟨c4,hm⟩
   ·simp -dsimp [c4]
    cases hm
    exact EE.here (by simp -dsimp [hf])
   ·rcases aZ hm with ⟨c5,hm⟩ | ⟨c5,hm⟩
    ·simp -dsimp [c4,c5]
     cases hm
     exact EE.here (by simp -dsimp [hf])
    ·rcases aZ hm with ⟨c6,hm⟩ | ⟨c6,hm⟩
     ·obtain ⟨x1,h7,hm⟩:=bnd hm
      simp -dsimp [hf,c4,c5,c6,h7,bI h7]
      cases hm
      exact EE.here (by simp -dsimp [hf])
     ·simp -dsimp [hf,c4,c5,c6]
      cases hm
      exact EE.here (by simp -dsimp [hf])
  ·clear j10
   simp only [Fits,ba,bb,and_true] at hf
   rcases aZ hm with ⟨c8,hm⟩ | ⟨c8,hm⟩
   ·refine aQ (by simp -dsimp [hf]) c8 ?_
    refine srs hn ?_
    simp -dsimp
    refine aT (aW (bu (aW ?_)))
    cases hm
    refine be nofun ?_
    exact ⟨rfl,EE.here (by simp -dsimp [Tryz.results74])⟩
   ·refine aP (by simp -dsimp [hf]) c8 ?_
    refine aS (aO ?_)
    refine sr1 hn ?_
    obtain ⟨l1,h9,hm⟩:=bnd hm
    obtain ⟨h9a,h9e⟩:=bm h9
    replace h9e:=h9e.symm
    subst h9e
    try simp only [List.length_cons,List.length_nil,Nat.zero_add] at h9a
    simp -dsimp [hf,h9a]
    refine bh ?_
    refine aO ?_
    refine sr1 hn ?_
    simp -dsimp [hf]
    cases hm
    refine bf ?_
    refine emv 42 5000 ?_
    exact EE.here (by simp -dsimp [hf])
 ·refine aP (by simp -dsimp) c2 ?_
  refine bd ?_
  refine aW ?_
  cases hm
  refine be nofun ?_
  exact ⟨rfl,EE.here (by simp -dsimp [hf,c2])⟩
theorem cT (s:List UInt8) (r:(List Int)×Bool) (hm:m_generations_digits s = some r):PureCall Tryz.prog 74 [.u (.one (.d (.str (bs s))))] (.tup [.one (dL r.1),.one (.d (.bool r.2))]):=by
 refine bD Tryz.func74 Tryz.ntmps74 fun cx hn=>?_
 unfold m_generations_digits at hm
 refine srs hn ?_
 simp -dsimp
 refine srs hn ?_
 simp -dsimp
 refine aU ?_
 refine srs hn ?_
 obtain ⟨l,h1,hm⟩:=bnd hm
 simp -dsimp [h1]
 refine aY ?_
 obtain ⟨o_,g11,hm⟩:=bnd hm
 refine br (gL cx hn l g11) (by
   try dsimp only
   refine EE.step (Wk.own0 4 5000 1 3 (by simp -dsimp) (by decide)) ?_
   exact EE.here (by simp -dsimp)
 ) fun ee O G x12=>?_
 rcases o_ with r | out
 ·unfold bY at x12
  dsimp only at x12
  obtain ⟨rfl,x12⟩:=x12
  refine bu (aW ?_)
  cases hm
  exact ⟨.inr rfl,x12⟩
 ·unfold bY at x12
  dsimp only at x12
  obtain ⟨rfl,x12⟩:=x12
  refine bc ?_
  refine aO ?_
  refine see x12 fun O G hf=>?_
  simp only [Fits,ba,bb,and_true] at hf
  refine srs hn ?_
  simp -dsimp [hf]
  cases hm
  exact aT ⟨.inr rfl,EE.here (by simp -dsimp [hf])⟩
def bX (cx:Cx) (s:List UInt8) (_l:List Int) (tt:Bool ⊕ Unit) (ee:Exit) (O:Env) (G:Sto):Prop:=match tt with
 | .inl r=>ee = .ret /\ EE cx (fun O G=>∃ v,e9 tb O G Tryz.f75.results.toList = some v /\ (v.frz G).free = true /\ (v.frz G).wk (vT r)) O G
 | .inr _u=>ee = .exit 0 /\ EE cx (bw [(0,.u (.one (.d (.str (bs s)))))] []) O G
theorem i6 (cx:Cx) (hn:cx.n = 32) (s:List UInt8) (l:List Int) {fu:Nat} {stt:Int} {tt:Bool ⊕ Unit} (hh:aV (b_generations_number_1 s l) fu stt = some tt) {O:Env} {G:Sto}
  (hE:bH (fun a:Int=>[(0,.u (.one (.d (.str (bs s))))),(6,.u (.one (.d (.sl 1 (List.map (rI .u8) l))))),(7,vI (aX l)),(8,vI a)]) (fun _a:Int=>[]) stt O G):Swp Tryz.prog cx (.loop (cr [1,0,1,0,0] (bq Tryz.f75))) O G (bX cx s l tt):=by
 refine bL hE hh (bX cx s l) ?_
 rintro a r hm O G hf
 simp only [Fits,ba,bb,and_true] at hf
 unfold b_generations_number_1 at hm
 dsimp only at hm
 refine srs hn ?_
 simp -dsimp [hf]
 refine aU ?_
 rcases aZ hm with ⟨c2,hm⟩ | ⟨c2,hm⟩
 ·refine aQ (by simp -dsimp) c2 ?_
  refine aS (aO (aU (aY ?_)))
  refine srs hn ?_
  obtain ⟨x,h3,hm⟩:=bnd hm
  simp -dsimp [hf,c2,h3]
  obtain ⟨a1,j6,hm⟩:=bnd hm
  refine scE [(0,.u (.one (.d (.str (bs s))))),(6,.u (.one (.d (.sl 1 (List.map (rI .u8) l))))),(7,vI (aX l)),(8,vI a),(17,vT a1)] [] ?_ fun O G hf=>?_
  ·replace hm:=j6
   clear j6
   refine sr1 hn ?_
   rcases aZ hm with ⟨c4,hm⟩ | ⟨c4,hm⟩
   ·simp -dsimp [c4]
    cases hm
    exact EE.here (by simp -dsimp [hf])
   ·simp -dsimp [c4]
    cases hm
    exact EE.here (by simp -dsimp [hf])
  ·clear j6
   simp only [Fits,ba,bb,and_true] at hf
   rcases aZ hm with ⟨c5,hm⟩ | ⟨c5,hm⟩
   ·refine aQ (by simp -dsimp [hf]) c5 ?_
    refine srs hn ?_
    simp -dsimp
    refine aT (bu (aW ?_))
    cases hm
    refine be nofun ?_
    exact ⟨rfl,EE.here (by simp -dsimp [Tryz.results75])⟩
   ·refine aP (by simp -dsimp [hf]) c5 ?_
    refine aS ?_
    refine bh ?_
    refine aO ?_
    refine sr1 hn ?_
    simp -dsimp [hf]
    cases hm
    refine bf ?_
    exact EE.here (by simp -dsimp [hf])
 ·refine aP (by simp -dsimp) c2 ?_
  refine bd ?_
  refine aW ?_
  cases hm
  refine be nofun ?_
  exact ⟨rfl,EE.here (by simp -dsimp [hf,c2])⟩
theorem fp (s:List UInt8) (r:Bool) (hm:m_generations_number s = some r):PureCall Tryz.prog 75 [.u (.one (.d (.str (bs s))))] (vT r):=by
 refine bD Tryz.func75 Tryz.ntmps75 fun cx hn=>?_
 unfold m_generations_number at hm
 refine srs hn ?_
 simp -dsimp
 refine aU ?_
 refine srs hn ?_
 obtain ⟨l,h1,hm⟩:=bnd hm
 simp -dsimp [h1]
 refine aY ?_
 obtain ⟨o_,g7,hm⟩:=bnd hm
 refine br (i6 cx hn s l g7) (by
   try dsimp only
   exact EE.here (by simp -dsimp)
 ) fun ee O G x8=>?_
 rcases o_ with r | _u
 ·unfold bX at x8
  dsimp only at x8
  obtain ⟨rfl,x8⟩:=x8
  refine bu (aW ?_)
  cases hm
  exact ⟨.inr rfl,x8⟩
 ·unfold bX at x8
  dsimp only at x8
  obtain ⟨rfl,x8⟩:=x8
  refine bc ?_
  refine aO ?_
  refine see x8 fun O G hf=>?_
  simp only [Fits,ba,bb,and_true] at hf
  obtain ⟨a,j12,hm⟩:=bnd hm
  refine scE [(2,vT a)] [] ?_ fun O G hf=>?_
  ·replace hm:=j12
   clear j12
   refine sr1 hn ?_
   rcases aZ hm with ⟨c9,hm⟩ | ⟨c9,hm⟩
   ·rcases aZ hm with ⟨c10,hm⟩ | ⟨c10,hm⟩
    ·obtain ⟨b,h11,hm⟩:=bnd hm
     simp -dsimp [hf,c9,c10,h11]
     cases hm
     exact EE.here (by simp -dsimp)
    ·simp -dsimp [hf,c9,c10]
     cases hm
     exact EE.here (by simp -dsimp)
   ·simp -dsimp [hf,c9]
    cases hm
    exact EE.here (by simp -dsimp)
  ·clear j12
   simp only [Fits,ba,bb,and_true] at hf
   cases hm
   exact aT ⟨.inr rfl,EE.here (by simp -dsimp [hf])⟩
theorem ga (s:List UInt8) (r:Int) (hm:m_strconv_Atoi s = some r):PureCall Tryz.prog 76 [.u (.one (.d (.str (bs s))))] (.tup [.one (dI r),.one (.d .ni)]):=atoi_pure atoiL rfl ⟨_,Tryz.func76,by decide,rfl⟩ hm
end Go.Proofs.YtlcdmiapdfdcaaaGreatDoor
