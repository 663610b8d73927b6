/- That the code does what the functions say (made by cc.py). -/
import Derived.Test.YtlcdmiapdfdcaaaGreatDoorWa11
namespace Go.Proofs.YtlcdmiapdfdcaaaGreatDoor
open Go.AM Go.Proofs
set_option maxRecDepth 100000
attribute [-simp] qlookup cR dQ Ob.wipe Ob.ren Ob.frz1
def dl (cx:Cx) (_l:List Int) (tt:(List Bool)) (ee:Exit) (O:Env) (G:Sto):Prop:=match tt with
 | in_=>ee = .exit 0 /\ EE cx (bw [(3,vX 3)] [(3,.box (List.map cB in_))]) O G
theorem l_symmetry_Group_1 (cx:Cx) (hn:cx.n = 64) (l:List Int) {fu:Nat} {stt:Int×(List Bool)} {tt:(List Bool)} (hh:aV (b_symmetry_Group_1 l) fu stt = some tt) {O:Env} {G:Sto}
  (hE:bH (fun stt:Int×(List Bool)=>match stt with | (a,_in_)=>[(3,vX 3),(14,.u (.one (dL l))),(15,vI (aX l)),(16,vI a)]) (fun stt:Int×(List Bool)=>match stt with | (_a,in_)=>[(3,.box (List.map cB in_))]) stt O G):Swp Tryz.prog cx (.loop (cr [1,1,1,0,1,0,0] (bq Tryz.f11))) O G (dl cx l tt):=by
 refine bL hE hh (dl cx l) ?_
 rintro ⟨a,in_⟩ r hm O G hf
 simp only [Fits,ba,bb,and_true] at hf
 unfold b_symmetry_Group_1 at hm
 dsimp only at hm
 refine srs hn ?_
 simp -dsimp [hf]
 refine aU ?_
 rcases aZ hm with ⟨c2,hm⟩ | ⟨c2,hm⟩
 ·refine aQ (by simp -dsimp) c2 ?_
  refine aS (aO (aU (aY ?_)))
  refine srs hn ?_
  obtain ⟨x1,h3,hm⟩:=bnd hm
  simp -dsimp [hf,c2,h3]
  refine sr1 hn ?_
  obtain ⟨x2,h4,hm⟩:=bnd hm
  simp -dsimp [hf,dC h4,aidx_lt2 h4,asetB h4 true]
  refine bh ?_
  refine aO ?_
  refine sr1 hn ?_
  simp -dsimp [hf]
  cases hm
  refine bf ?_
  exact EE.here (by simp -dsimp [hf])
 ·refine aP (by simp -dsimp) c2 ?_
  refine bd ?_
  refine aW ?_
  cases hm
  refine be nofun ?_
  exact ⟨rfl,EE.here (by simp -dsimp [hf,c2])⟩
def dm (cx:Cx) (a:Int) (tt:(Bool×(List Bool))) (ee:Exit) (O:Env) (G:Sto):Prop:=match tt with
 | (aB,aG)=>ee = .exit 6 /\ EE cx (bw [(3,vX 3),(6,vT aB),(25,vI a)] [(3,.box (List.map cB aG))]) O G
theorem l_symmetry_Group_4 (cx:Cx) (hn:cx.n = 64) (a:Int) {fu:Nat} {stt:Bool×Int×(List Bool)} {tt:(Bool×(List Bool))} (hh:aV (b_symmetry_Group_4 a) fu stt = some tt) {O:Env} {G:Sto}
  (hE:bH (fun stt:Bool×Int×(List Bool)=>match stt with | (aB,a1,_aG)=>[(3,vX 3),(6,vT aB),(7,vI a),(25,vI a),(28,vI a1)]) (fun stt:Bool×Int×(List Bool)=>match stt with | (_aB,_a1,aG)=>[(3,.box (List.map cB aG))]) stt O G):Swp Tryz.prog cx (.loop (cr [1,1,1,1,0,1,0,0,1,0,1,1,0,0,1,1,0,0,1,1,0,0] (bq Tryz.f11))) O G (dm cx a tt):=by
 refine bL hE hh (dm cx a) ?_
 rintro ⟨aB,a1,aG⟩ r hm O G hf
 simp only [Fits,ba,bb,and_true] at hf
 unfold b_symmetry_Group_4 at hm
 dsimp only at hm
 refine srs hn ?_
 simp -dsimp [hf]
 refine aU ?_
 rcases aZ hm with ⟨c9,hm⟩ | ⟨c9,hm⟩
 ·refine aQ (by simp -dsimp) c9 ?_
  refine aS (aO ?_)
  obtain ⟨⟨aL,in_4⟩,j19,hm⟩:=bnd hm
  refine scE [(3,vX 3),(6,vT aL),(7,vI a),(25,vI a),(28,vI a1)] [(3,.box (List.map cB in_4))] ?_ fun O G hf=>?_
  ·replace hm:=j19
   clear j19
   refine aY ?_
   refine srs hn ?_
   simp -dsimp [hf,c9]
   refine srs hn ?_
   obtain ⟨y,h10,hm⟩:=bnd hm
   simp -dsimp [hf]
   refine aR (c_symmetry_Compose a a1 y h10) (dkL hn) ?_
   simp -dsimp
   obtain ⟨a2,j18,hm⟩:=bnd hm
   refine scE [(3,vX 3),(6,vT aB),(7,vI a),(9,vI y),(25,vI a),(28,vI a1),(47,vT a2)] [(3,.box (List.map cB aG))] ?_ fun O G hf=>?_
   ·replace hm:=j18
    clear j18
    refine sr1 hn ?_
    obtain ⟨x1,h11,hm⟩:=bnd hm
    rcases aZ hm with ⟨c12,hm⟩ | ⟨c12,hm⟩
    ·obtain ⟨x2,h13,hm⟩:=bnd hm
     rcases aZ hm with ⟨c14,hm⟩ | ⟨c14,hm⟩
     ·obtain ⟨x3,h15,hm⟩:=bnd hm
      simp -dsimp [hf,dC h11,eN h11,c12,dC h13,eN h13,c14,dC h15,eN h15]
      cases hm
      exact EE.here (by simp -dsimp [hf])
     ·simp -dsimp [hf,dC h11,eN h11,c12,dC h13,eN h13,c14]
      cases hm
      exact EE.here (by simp -dsimp [hf])
    ·simp -dsimp [hf,dC h11,eN h11,c12]
     cases hm
     exact EE.here (by simp -dsimp [hf])
   ·clear j18
    simp only [Fits,ba,bb,and_true] at hf
    rcases aZ hm with ⟨c16,hm⟩ | ⟨c16,hm⟩
    ·refine aQ (by simp -dsimp [hf]) c16 ?_
     refine sr1 hn ?_
     obtain ⟨x1,h17,hm⟩:=bnd hm
     simp -dsimp [hf,dC h17,aidx_lt2 h17,asetB h17 true]
     refine bh ?_
     cases hm
     exact EE.here (by simp -dsimp [hf])
    ·refine aP (by simp -dsimp [hf]) c16 ?_
     refine aS ?_
     refine bh ?_
     cases hm
     exact EE.here (by simp -dsimp [hf])
  ·clear j19
   simp only [Fits,ba,bb,and_true] at hf
   refine sr1 hn ?_
   simp -dsimp [hf]
   cases hm
   refine bf ?_
   exact EE.here (by simp -dsimp [hf])
 ·refine aP (by simp -dsimp) c9 ?_
  refine bd ?_
  refine aW ?_
  cases hm
  refine be nofun ?_
  exact ⟨rfl,EE.here (by simp -dsimp [hf,c9])⟩
def dp (cx:Cx) (tt:(Bool×(List Bool))) (ee:Exit) (O:Env) (G:Sto):Prop:=match tt with
 | (aC,aM)=>ee = .exit 4 /\ EE cx (bw [(3,vX 3),(6,vT aC)] [(3,.box (List.map cB aM))]) O G
theorem l_symmetry_Group_3 (cx:Cx) (hn:cx.n = 64) {fu:Nat} {stt:Bool×Int×(List Bool)} {tt:(Bool×(List Bool))} (hh:aV (b_symmetry_Group_3) fu stt = some tt) {O:Env} {G:Sto}
  (hE:bH (fun stt:Bool×Int×(List Bool)=>match stt with | (aC,a,_aM)=>[(3,vX 3),(6,vT aC),(25,vI a)]) (fun stt:Bool×Int×(List Bool)=>match stt with | (_aC,_a,aM)=>[(3,.box (List.map cB aM))]) stt O G):Swp Tryz.prog cx (.loop (cr [1,1,1,1,0,1,0,0,1,0,1,1,0,0] (bq Tryz.f11))) O G (dp cx tt):=by
 refine bL hE hh (dp cx) ?_
 rintro ⟨aC,a,aM⟩ r hm O G hf
 simp only [Fits,ba,bb,and_true] at hf
 unfold b_symmetry_Group_3 at hm
 dsimp only at hm
 refine srs hn ?_
 simp -dsimp [hf]
 refine aU ?_
 rcases aZ hm with ⟨c8,hm⟩ | ⟨c8,hm⟩
 ·refine aQ (by simp -dsimp) c8 ?_
  refine aS (aO (aU (aY ?_)))
  refine srs hn ?_
  simp -dsimp [hf,c8]
  refine srs hn ?_
  simp -dsimp
  refine aY ?_
  obtain ⟨⟨aB,aG⟩,g20,hm⟩:=bnd hm
  refine br (l_symmetry_Group_4 cx hn a g20) (by
    try dsimp only
    exact EE.here (by simp -dsimp [hf])
  ) fun ee O G x21=>?_
  unfold dm at x21
  dsimp only at x21
  obtain ⟨rfl,x21⟩:=x21
  refine bc ?_
  refine bh ?_
  refine aO ?_
  refine see x21 fun O G hf=>?_
  simp only [Fits,ba,bb,and_true] at hf
  refine sr1 hn ?_
  simp -dsimp [hf]
  cases hm
  refine bf ?_
  exact EE.here (by simp -dsimp [hf])
 ·refine aP (by simp -dsimp) c8 ?_
  refine bd ?_
  refine aW ?_
  cases hm
  refine be nofun ?_
  exact ⟨rfl,EE.here (by simp -dsimp [hf,c8])⟩
def dd (cx:Cx) (tt:(List Bool)) (ee:Exit) (O:Env) (G:Sto):Prop:=match tt with
 | aN=>ee = .exit 2 /\ EE cx (bw [(3,vX 3)] [(3,.box (List.map cB aN))]) O G
theorem l_symmetry_Group_2 (cx:Cx) (hn:cx.n = 64) {fu:Nat} {stt:Bool×(List Bool)} {tt:(List Bool)} (hh:aV (b_symmetry_Group_2) fu stt = some tt) {O:Env} {G:Sto}
  (hE:bH (fun stt:Bool×(List Bool)=>match stt with | (changed,_aN)=>[(3,vX 3),(6,vT changed)]) (fun stt:Bool×(List Bool)=>match stt with | (_changed,aN)=>[(3,.box (List.map cB aN))]) stt O G):Swp Tryz.prog cx (.loop (cr [1,1,1,1,0,1,0,0] (bq Tryz.f11))) O G (dd cx tt):=by
 refine bL hE hh (dd cx) ?_
 rintro ⟨changed,aN⟩ r hm O G hf
 simp only [Fits,ba,bb,and_true] at hf
 unfold b_symmetry_Group_2 at hm
 dsimp only at hm
 refine aU ?_
 refine srs hn ?_
 simp -dsimp [hf]
 rcases aZ hm with ⟨c7,hm⟩ | ⟨c7,hm⟩
 ·refine aQ (by simp -dsimp) c7 ?_
  refine aS (aO (aY ?_))
  refine srs hn ?_
  simp -dsimp [c7]
  refine srs hn ?_
  simp -dsimp
  refine aY ?_
  obtain ⟨⟨aC,aM⟩,g22,hm⟩:=bnd hm
  refine br (l_symmetry_Group_3 cx hn g22) (by
    try dsimp only
    exact EE.here (by simp -dsimp [hf])
  ) fun ee O G x23=>?_
  unfold dp at x23
  dsimp only at x23
  obtain ⟨rfl,x23⟩:=x23
  refine bc ?_
  refine bh ?_
  cases hm
  refine bf ?_
  refine ee_bind (by rfl) (by rfl) x23 fun O G hf=>?_
  simp only [Fits,ba,bb,and_true] at hf
  exact EE.here (by simp -dsimp [hf])
 ·refine aP (by simp -dsimp) c7 ?_
  refine bd ?_
  refine aW ?_
  cases hm
  refine be nofun ?_
  exact ⟨rfl,EE.here (by simp -dsimp [hf,c7])⟩
def df (cx:Cx) (_arr:Bool×Bool×Bool×Bool×Bool×Bool×Bool×Bool) (tt:(List Int)) (ee:Exit) (O:Env) (G:Sto):Prop:=match tt with
 | out=>ee = .exit 8 /\ EE cx (bw [(10,vO 5000)] [(5000,.row 1 3 (List.map (rI .i64) out))]) O G
theorem l_symmetry_Group_5 (cx:Cx) (hn:cx.n = 64) (arr:Bool×Bool×Bool×Bool×Bool×Bool×Bool×Bool) {fu:Nat} {stt:Int×(List Int)} {tt:(List Int)} (hh:aV (b_symmetry_Group_5 arr) fu stt = some tt) {O:Env} {G:Sto}
  (hE:bH (fun stt:Int×(List Int)=>match stt with | (a,_out)=>[(10,vO 5000),(52,.u (.agg [.d (.bool arr.1),.d (.bool arr.2.1),.d (.bool arr.2.2.1),.d (.bool arr.2.2.2.1),.d (.bool arr.2.2.2.2.1),.d (.bool arr.2.2.2.2.2.1),.d (.bool arr.2.2.2.2.2.2.1),.d (.bool arr.2.2.2.2.2.2.2)])),(53,vI a)]) (fun stt:Int×(List Int)=>match stt with | (_a,out)=>[(5000,.row 1 3 (List.map (rI .i64) out))]) stt O G):Swp Tryz.prog cx (.loop (cr [1,1,1,1,1,1,0,1,0,0] (bq Tryz.f11))) O G (df cx arr tt):=by
 refine bL hE hh (df cx arr) ?_
 rintro ⟨a,out⟩ r hm O G hf
 simp only [Fits,ba,bb,and_true] at hf
 unfold b_symmetry_Group_5 at hm
 dsimp only at hm
 refine srs hn ?_
 simp -dsimp [hf]
 refine aU ?_
 rcases aZ hm with ⟨c27,hm⟩ | ⟨c27,hm⟩
 ·refine aQ (by simp -dsimp) c27 ?_
  refine aS (aO ?_)
  obtain ⟨out1,j31,hm⟩:=bnd hm
  refine scE [(10,vO 5000),(52,.u (.agg [.d (.bool arr.1),.d (.bool arr.2.1),.d (.bool arr.2.2.1),.d (.bool arr.2.2.2.1),.d (.bool arr.2.2.2.2.1),.d (.bool arr.2.2.2.2.2.1),.d (.bool arr.2.2.2.2.2.2.1),.d (.bool arr.2.2.2.2.2.2.2)])),(53,vI a)] [(5000,.row 1 3 (List.map (rI .i64) out1))] ?_ fun O G hf=>?_
  ·replace hm:=j31
   clear j31
   refine aY ?_
   refine srs hn ?_
   obtain ⟨x1,h28,hm⟩:=bnd hm
   simp -dsimp [hf,c27,(@id (qidxS tb 45 (.u (.agg [.d (.bool arr.1),.d (.bool arr.2.1),.d (.bool arr.2.2.1),.d (.bool arr.2.2.2.1),.d (.bool arr.2.2.2.2.1),.d (.bool arr.2.2.2.2.2.1),.d (.bool arr.2.2.2.2.2.2.1),.d (.bool arr.2.2.2.2.2.2.2)])) (vI a) = some (.u (.one (cB x1)))) (qidxS_agg (ti:=ti45) (te:=ti4) rfl rfl rfl rfl rfl (aidx_in h28) (aidx_map cB h28)))]
   refine srs hn ?_
   simp -dsimp
   rcases aZ hm with ⟨c29,hm⟩ | ⟨c29,hm⟩
   ·refine aQ (b:=x1) (by simp -dsimp) c29 ?_
    refine sr1 hn ?_
    obtain ⟨l1,h30,hm⟩:=bnd hm
    obtain ⟨h30a,h30e⟩:=bm h30
    replace h30e:=h30e.symm
    subst h30e
    try simp only [List.length_cons,List.length_nil,Nat.zero_add] at h30a
    simp -dsimp [hf,c29,h30a]
    refine bh ?_
    refine aO ?_
    cases hm
    refine emv 61 5000 ?_
    exact EE.here (by simp -dsimp [hf])
   ·refine aP (b:=x1) (by simp -dsimp) c29 ?_
    refine aS ?_
    refine bh ?_
    cases hm
    exact EE.here (by simp -dsimp [hf,c29])
  ·clear j31
   simp only [Fits,ba,bb,and_true] at hf
   refine sr1 hn ?_
   simp -dsimp [hf]
   cases hm
   refine bf ?_
   exact EE.here (by simp -dsimp [hf])
 ·refine aP (by simp -dsimp) c27 ?_
  refine bd ?_
  refine aW ?_
  cases hm
  refine be nofun ?_
  exact ⟨rfl,EE.here (by simp -dsimp [hf,c27])⟩
theorem c_symmetry_Group (l r:List Int) (hm:m_symmetry_Group l = some r):PureCall Tryz.prog 11 [.u (.one (dL l))] (.u (.one (dL r))):=by
 refine bD Tryz.func11 Tryz.ntmps11 fun cx hn=>?_
 unfold m_symmetry_Group at hm
 refine srs hn ?_
 simp -dsimp
 refine srs hn ?_
 simp -dsimp
 refine srs hn ?_
 obtain ⟨x,h1,hm⟩:=bnd hm
 simp -dsimp [dC h1]
 refine aU ?_
 refine srs hn ?_
 simp -dsimp
 refine aY ?_
 obtain ⟨in_,g5,hm⟩:=bnd hm
 refine br (l_symmetry_Group_1 cx hn l g5) (by
   try dsimp only
   exact EE.here (by simp -dsimp)
 ) fun ee O G x6=>?_
 unfold dl at x6
 dsimp only at x6
 obtain ⟨rfl,x6⟩:=x6
 refine bc ?_
 refine aO ?_
 refine see x6 fun O G hf=>?_
 simp only [Fits,ba,bb,and_true] at hf
 refine aU ?_
 refine srs hn ?_
 simp -dsimp
 refine aY ?_
 obtain ⟨aN,g24,hm⟩:=bnd hm
 refine br (l_symmetry_Group_2 cx hn g24) (by
   try dsimp only
   exact EE.here (by simp -dsimp [hf])
 ) fun ee O G x25=>?_
 unfold dd at x25
 dsimp only at x25
 obtain ⟨rfl,x25⟩:=x25
 refine bc ?_
 refine aO ?_
 refine see x25 fun O G hf=>?_
 simp only [Fits,ba,bb,and_true] at hf
 refine srs hn ?_
 simp -dsimp
 refine aU ?_
 refine srs hn ?_
 obtain ⟨arr,h26,hm⟩:=bnd hm
 simp -dsimp [hf,arr8_map cB h26]
 refine aY ?_
 obtain ⟨out,g32,hm⟩:=bnd hm
 refine br (l_symmetry_Group_5 cx hn arr g32) (by
   try dsimp only
   refine EE.step (Wk.own0 10 5000 1 3 (by simp -dsimp) (by decide)) ?_
   exact EE.here (by simp -dsimp)
 ) fun ee O G x33=>?_
 unfold df at x33
 dsimp only at x33
 obtain ⟨rfl,x33⟩:=x33
 refine bc ?_
 refine aO ?_
 refine see x33 fun O G hf=>?_
 simp only [Fits,ba,bb,and_true] at hf
 refine srs hn ?_
 simp -dsimp [hf]
 cases hm
 exact aT ⟨.inr rfl,EE.here (by simp -dsimp [hf])⟩
def cd (cx:Cx) (_t:Tree) (_y:List Int) (tt:Bool ⊕ Unit) (ee:Exit) (O:Env) (G:Sto):Prop:=match tt with
 | .inl r=>ee = .ret /\ EE cx (fun O G=>∃ v,e9 tb O G Tryz.f4.results.toList = some v /\ (v.frz G).free = true /\ (v.frz G).wk (vT r)) O G
 | .inr _u=>ee = .exit 0 /\ EE cx (bw [] []) O G
theorem l_L16_NotationGroup_1 (cx:Cx) (hn:cx.n = 64) (t:Tree) (y:List Int) {fu:Nat} {stt:Int} {tt:Bool ⊕ Unit} (hh:aV (b_L16_NotationGroup_1 t y) fu stt = some tt) {O:Env} {G:Sto}
  (hE:bH (fun a2:Int=>[(1,vX 1),(3,.u (.one (dL y))),(41,vI (aX y)),(42,vI a2)]) (fun _a2:Int=>[(1,.box [dI t.States,dR1 t.Hood,dR0 t.Nodes])]) stt O G):Swp Tryz.prog cx (.loop (cr [1,1,1,1,0,1,0,0] (bq Tryz.f4))) O G (cd cx t y tt):=by
 refine bL hE hh (cd cx t y) ?_
 rintro a2 r hm O G hf
 simp only [Fits,ba,bb,and_true] at hf
 unfold b_L16_NotationGroup_1 at hm
 dsimp only at hm
 refine srs hn ?_
 simp -dsimp [hf]
 refine aU ?_
 rcases aZ hm with ⟨c13,hm⟩ | ⟨c13,hm⟩
 ·refine aQ (by simp -dsimp) c13 ?_
  refine aS (aO (aU (aY ?_)))
  refine srs hn ?_
  simp -dsimp [hf,c13]
  refine sw_midcs bA mixed 9 11 11 0 [[0,1,2,3,4,5,6,7,8],[8]] [[5],[]] [] none (by rw [hn]; kernel_rfl) fP ?_
  dsimp only [List.take,List.drop,fC,fT,uopsD,pk,List.cons_append,List.nil_append,List.flatten_cons,List.flatten_nil,eR,eT,List.append_nil]
  obtain ⟨x,h14,hm⟩:=bnd hm
  obtain ⟨y1,h15,hm⟩:=bnd hm
  simp -dsimp [hf,h14]
  refine bl (gx x t y1 h15) ?_
  simp -dsimp [hf,h14]
  refine bl (gx x t y1 h15) ?_
  simp -dsimp
  obtain ⟨a3,j19,hm⟩:=bnd hm
  refine scE [(1,vX 1),(3,.u (.one (dL y))),(41,vI (aX y)),(42,vI a2),(61,vT a3)] [(1,.box [dI t.States,dR1 t.Hood,dR0 t.Nodes])] ?_ fun O G hf=>?_
  ·replace hm:=j19
   clear j19
   refine sr1 hn ?_
   rcases aZ hm with ⟨c16,hm⟩ | ⟨c16,hm⟩
   ·simp -dsimp [c16]
    cases hm
    exact EE.here (by simp -dsimp [hf])
   ·obtain ⟨y2,h17,hm⟩:=bnd hm
    simp -dsimp [hf,c16]
    refine aR (c_reduce_Equal y1.1 t y2 h17) (dkL hn) ?_
    simp -dsimp
    cases hm
    exact EE.here (by simp -dsimp [hf])
  ·clear j19
   simp only [Fits,ba,bb,and_true] at hf
   rcases aZ hm with ⟨c18,hm⟩ | ⟨c18,hm⟩
   ·refine aQ (by simp -dsimp [hf]) c18 ?_
    refine srs hn ?_
    simp -dsimp
    refine aT (bu (aW ?_))
    cases hm
    refine be nofun ?_
    exact ⟨rfl,EE.here (by simp -dsimp [Tryz.results4])⟩
   ·refine aP (by simp -dsimp [hf]) c18 ?_
    refine aS ?_
    refine bh ?_
    refine aO ?_
    refine sr1 hn ?_
    simp -dsimp [hf]
    cases hm
    refine bf ?_
    exact EE.here (by simp -dsimp [hf])
 ·refine aP (by simp -dsimp) c13 ?_
  refine bd ?_
  refine aW ?_
  cases hm
  refine be nofun ?_
  exact ⟨rfl,EE.here (by simp -dsimp [c13])⟩
theorem c_L16_NotationGroup (t:Tree) (r:Bool) (hm:m_L16_NotationGroup t = some r):PureCall Tryz.prog 4 [.u (.agg [dI t.States,dR1 t.Hood,dR0 t.Nodes])] (vT r):=by
 refine bD Tryz.func4 Tryz.ntmps4 fun cx hn=>?_
 unfold m_L16_NotationGroup at hm
 refine srs hn ?_
 simp -dsimp
 refine aU ?_
 obtain ⟨a,j24,hm⟩:=bnd hm
 refine scE [(1,vX 1),(26,vT a)] [(1,.box [dI t.States,dR1 t.Hood,dR0 t.Nodes])] ?_ fun O G hf=>?_
 ·replace hm:=j24
  clear j24
  refine sr1 hn ?_
  obtain ⟨y,h1,hm⟩:=bnd hm
  simp -dsimp
  refine aR (c_L12_Few t y h1) (dkL hn) ?_
  rcases aZ hm with ⟨c2,hm⟩ | ⟨c2,hm⟩
  ·simp -dsimp [c2]
   cases hm
   exact EE.here (by simp -dsimp)
  ·rcases aZ hm with ⟨c3,hm⟩ | ⟨c3,hm⟩
   ·simp -dsimp [c2,c3]
    cases hm
    exact EE.here (by simp -dsimp)
   ·rcases aZ hm with ⟨c4,hm⟩ | ⟨c4,hm⟩
    ·simp -dsimp [c2,c3,c4]
     cases hm
     exact EE.here (by simp -dsimp)
    ·obtain ⟨y1,h5,hm⟩:=bnd hm
     simp -dsimp [c2,c3,c4]
     refine aR (c_R12_Right t y1 h5) (dkL hn) ?_
     simp -dsimp
     cases hm
     exact EE.here (by simp -dsimp)
 ·clear j24
  simp only [Fits,ba,bb,and_true] at hf
  rcases aZ hm with ⟨c6,hm⟩ | ⟨c6,hm⟩
  ·refine aQ (by simp -dsimp [hf]) c6 ?_
   refine srs hn ?_
   obtain ⟨y,h7,hm⟩:=bnd hm
   simp -dsimp
   refine aR (c_L16_awake y h7) (dkL hn) ?_
   simp -dsimp
   refine aT (aW ?_)
   cases hm
   refine ⟨.inr rfl,?_⟩
   exact EE.here (by simp -dsimp)
  ·refine aP (by simp -dsimp [hf]) c6 ?_
   refine aS (aO ?_)
   refine srs hn ?_
   obtain ⟨y,h8,hm⟩:=bnd hm
   simp -dsimp [hf]
   refine aR (eg t y h8) (dkL hn) ?_
   simp -dsimp
   refine aU ?_
   obtain ⟨a1,j23,hm⟩:=bnd hm
   refine scE [(1,vX 1),(3,.u (.one (dL y))),(39,vT a1)] [(1,.box [dI t.States,dR1 t.Hood,dR0 t.Nodes])] ?_ fun O G hf=>?_
   ·replace hm:=j23
    clear j23
    refine sr1 hn ?_
    obtain ⟨y1,h9,hm⟩:=bnd hm
    simp -dsimp
    refine aR (c_symmetry_Group y y1 h9) (dkL hn) ?_
    obtain ⟨y2,h10,hm⟩:=bnd hm
    simp -dsimp
    refine aR (c_L12_Ints y y1 y2 h10) (dkL hn) ?_
    rcases aZ hm with ⟨c11,hm⟩ | ⟨c11,hm⟩
    ·simp -dsimp [c11]
     cases hm
     exact EE.here (by simp -dsimp [hf])
    ·simp -dsimp [c11]
     cases hm
     exact EE.here (by simp -dsimp [hf])
   ·clear j23
    simp only [Fits,ba,bb,and_true] at hf
    rcases aZ hm with ⟨c12,hm⟩ | ⟨c12,hm⟩
    ·refine aQ (by simp -dsimp [hf]) c12 ?_
     refine srs hn ?_
     simp -dsimp
     refine aT (aW ?_)
     cases hm
     refine ⟨.inr rfl,?_⟩
     exact EE.here (by simp -dsimp)
    ·refine aP (by simp -dsimp [hf]) c12 ?_
     refine aS (aO (aU ?_))
     refine srs hn ?_
     simp -dsimp [hf]
     refine aY ?_
     obtain ⟨o_,g20,hm⟩:=bnd hm
     refine br (l_L16_NotationGroup_1 cx hn t y g20) (by
       try dsimp only
       exact EE.here (by simp -dsimp [hf])
     ) fun ee O G x21=>?_
     rcases o_ with r | _u
     ·unfold cd at x21
      dsimp only at x21
      obtain ⟨rfl,x21⟩:=x21
      refine bu (aW ?_)
      cases hm
      exact ⟨.inr rfl,x21⟩
     ·unfold cd at x21
      dsimp only at x21
      obtain ⟨rfl,x21⟩:=x21
      refine bc ?_
      refine aO ?_
      refine see x21 fun O G hf=>?_
      simp only [Fits,ba,bb,and_true] at hf
      refine srs hn ?_
      obtain ⟨y1,h22,hm⟩:=bnd hm
      simp -dsimp
      refine aR (c_L16_awake y1 h22) (dkL hn) ?_
      simp -dsimp
      cases hm
      exact aT ⟨.inr rfl,EE.here (by simp -dsimp)⟩
end Go.Proofs.YtlcdmiapdfdcaaaGreatDoor
