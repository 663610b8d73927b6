/- That the code does what the functions say (made by cc.py). -/
import Derived.Test.YtlifofijgddjkabGreatDoorWa1
namespace Go.Proofs.YtlifofijgddjkabGreatDoor
open Go.AM Go.Proofs
set_option maxRecDepth 100000
attribute [-simp] qlookup cz dQ Ob.wipe Ob.ren Ob.frz1
theorem fX (l:List Point) (r:(List UInt8)×Bool) (hm:m_lifelike_letter l=some r):PureCall Tryz.prog 62 [.u (.one (dR1 l))] (.tup [.one (.d (.str (bs r.1))),.one (.d (.bool r.2))]):=by
 refine bf Tryz.func62 Tryz.ntmps62 fun cx hn=>?_
 unfold m_lifelike_letter at hm
 refine srs hn ?_
 simp -dsimp
 refine aN (aS ?_)
 refine srs hn ?_
 obtain⟨y,h1,hm⟩:=bnd hm
 simp -dsimp
 refine aL (gM 1 y h1) (dkL hn) ?_
 obtain⟨y1,h2,hm⟩:=bnd hm
 simp -dsimp
 refine aL (eX l y y1 h2) (dkL hn) ?_
 simp -dsimp
 rcases aU hm with ⟨c3,hm⟩ | ⟨c3,hm⟩
 ·exact zz
 ·refine aR (by simp -dsimp) c3 ?_
  refine srs hn ?_
  obtain⟨y2,h4,hm⟩:=bnd hm
  simp -dsimp [c3]
  refine aL (fI 1 y2 h4) (dkL hn) ?_
  obtain⟨y3,h5,hm⟩:=bnd hm
  simp -dsimp
  refine aL (eX l y2 y3 h5) (dkL hn) ?_
  simp -dsimp
  rcases aU hm with ⟨c6,hm⟩ | ⟨c6,hm⟩
  ·exact zz
  ·refine aR (by simp -dsimp) c6 ?_
   refine srs hn ?_
   obtain⟨y4,h7,hm⟩:=bnd hm
   simp -dsimp [c6]
   refine aL (c_hood_Hex y4 h7) (dkL hn) ?_
   obtain⟨y5,h8,hm⟩:=bnd hm
   simp -dsimp
   refine aL (eX l y4 y5 h8) (dkL hn) ?_
   exact zz
theorem bL (t:Ar) (r:Bool) (hm:m_lifelike_Right t=some r):PureCall Tryz.prog 25 [.u (.agg [dR1 t.Hood,dI t.States,dL t.Birth,dL t.Survive])] (vT r):=by
 refine bf Tryz.func25 Tryz.ntmps25 fun cx hn=>?_
 unfold m_lifelike_Right at hm
 refine srs hn ?_
 simp -dsimp
 refine srs hn ?_
 obtain⟨y,h1,hm⟩:=bnd hm
 simp -dsimp
 refine aL (fX t.Hood y h1) (dkL hn) ?_
 simp -dsimp
 refine srs hn ?_
 simp -dsimp
 obtain⟨a,j8,hm⟩:=bnd hm
 refine scE [(2,vT a)] [] ?_ fun Z O hf=>?_
 ·replace hm:=j8
  clear j8
  refine sr1 hn ?_
  rcases aU hm with ⟨c2,hm⟩ | ⟨c2,hm⟩
  ·rcases aU hm with ⟨c3,hm⟩ | ⟨c3,hm⟩
   ·rcases aU hm with ⟨c4,hm⟩ | ⟨c4,hm⟩
    ·obtain⟨y1,h5,hm⟩:=bnd hm
     simp -dsimp [c2,c3,c4]
     refine aL (dS t.Birth (aX .i64 (aO t.Hood) 1) y1 h5) (dkL hn) ?_
     rcases aU hm with ⟨c6,hm⟩ | ⟨c6,hm⟩
     ·obtain⟨y2,h7,hm⟩:=bnd hm
      simp -dsimp [c6]
      refine aL (dS t.Survive (aX .i64 (aO t.Hood) 1) y2 h7) (dkL hn) ?_
      exact zz
     ·exact zz
    ·exact zz
   ·exact zz
  ·exact zz
 ·clear j8
  exact zz
theorem du (s:List UInt8) (r:Ar×Int) (hm:m_lifelike_Parse s=some r):PureCall Tryz.prog 6 [.u (.one (.d (.str (bs s))))] (.tup [.agg [dR1 r.1.Hood,dI r.1.States,dL r.1.Birth,dL r.1.Survive],.one (dI r.2)]):=by
 refine bf Tryz.func6 Tryz.ntmps6 fun cx hn=>?_
 unfold m_lifelike_Parse at hm
 refine srs hn ?_
 simp -dsimp
 refine srs hn ?_
 obtain⟨y,h1,hm⟩:=bnd hm
 simp -dsimp
 refine aL (bP s ([66]:List UInt8) y h1) (dkL hn) ?_
 simp -dsimp
 refine srs hn ?_
 obtain⟨y1,h2,hm⟩:=bnd hm
 simp -dsimp
 refine aL (c_strings_Cut y.1 ([47,83]:List UInt8) y1 h2) (dkL hn) ?_
 simp -dsimp
 refine aN ?_
 obtain⟨a,j20,hm⟩:=bnd hm
 refine scE [(2,vX 2),(6,.u (.one (.d (.str (bs y1.1))))),(7,.u (.one (.d (.str (bs y1.2.1))))),(30,vT a)] [(2,.box [.d .nil,dI 0,.d .nil,.d .nil])] ?_ fun Z O hf=>?_
 ·replace hm:=j20
  clear j20
  exact zz
 ·clear j20
  simp only[Fits,aZ,b6,and_true] at hf
  rcases aU hm with ⟨c4,hm⟩ | ⟨c4,hm⟩
  ·exact zz
  ·refine aR (by simp -dsimp [hf]) c4 ?_
   refine aP (aM ?_)
   refine srs hn ?_
   obtain⟨y2,h5,hm⟩:=bnd hm
   simp -dsimp
   refine aL (gM 1 y2 h5) (dkL hn) ?_
   simp -dsimp
   obtain⟨⟨aJ,al⟩,j19,hm⟩:=bnd hm
   refine scE [(2,vX 2),(6,.u (.one (.d (.str (bs y1.1))))),(7,.u (.one (.d (.str (bs aJ))))),(9,vX 9)] [(2,.box [.d .nil,dI 0,.d .nil,.d .nil]),(9,.box [dR1 al,dI 2,.d .nil,.d .nil])] ?_ fun Z O hf=>?_
   ·replace hm:=j19
    clear j19
    refine srs hn ?_
    obtain⟨y3,h6,hm⟩:=bnd hm
    simp -dsimp [hf]
    refine aL (cL y1.2.1 ([86]:List UInt8) y3 h6) (dkL hn) ?_
    simp -dsimp
    refine srs hn ?_
    simp -dsimp
    rcases aU hm with ⟨c7,hm⟩ | ⟨c7,hm⟩
    ·refine aQ (by simp -dsimp) c7 ?_
     refine sr1 hn ?_
     obtain⟨y4,h8,hm⟩:=bnd hm
     simp -dsimp [c7]
     refine aL (fI 1 y4 h8) (dkL hn) ?_
     simp -dsimp
     exact zz
    ·refine aR (by simp -dsimp) c7 ?_
     refine srs hn ?_
     obtain⟨y4,h9,hm⟩:=bnd hm
     simp -dsimp [hf,c7]
     refine aL (cL y1.2.1 ([72]:List UInt8) y4 h9) (dkL hn) ?_
     simp -dsimp
     refine srs hn ?_
     simp -dsimp
     rcases aU hm with ⟨c10,hm⟩ | ⟨c10,hm⟩
     ·refine aQ (by simp -dsimp) c10 ?_
      refine sr1 hn ?_
      obtain⟨y5,h11,hm⟩:=bnd hm
      simp -dsimp [c10]
      refine aL (c_hood_Hex y5 h11) (dkL hn) ?_
      simp -dsimp
      exact zz
     ·exact zz
   ·clear j19
    simp only[Fits,aZ,b6,and_true] at hf
    refine srs hn ?_
    obtain⟨y3,h12,hm⟩:=bnd hm
    simp -dsimp [hf]
    refine aL (fR y1.1 y3 h12) (dkL hn) ?_
    simp -dsimp [hf]
    refine srs hn ?_
    obtain⟨y4,h13,hm⟩:=bnd hm
    simp -dsimp [hf]
    refine aL (fR aJ y4 h13) (dkL hn) ?_
    simp -dsimp [hf]
    refine aN ?_
    obtain⟨a1,j18,hm⟩:=bnd hm
    refine scE [(2,vX 2),(9,vX 9),(69,vT a1)] [(2,.box [.d .nil,dI 0,.d .nil,.d .nil]),(9,.box [dR1 al,dI 2,dL y3.1,dL y4.1])] ?_ fun Z O hf=>?_
    ·replace hm:=j18
     clear j18
     exact zz
    ·clear j18
     simp only[Fits,aZ,b6,and_true] at hf
     rcases aU hm with ⟨c15,hm⟩ | ⟨c15,hm⟩
     ·exact zz
     ·refine aR (by simp -dsimp [hf]) c15 ?_
      refine aP (aM (aN ?_))
      refine srs hn ?_
      obtain⟨y5,h16,hm⟩:=bnd hm
      simp -dsimp [hf]
      refine aL (bL (⟨al,2,y3.1,y4.1⟩:Ar) y5 h16) (dkL hn) ?_
      exact zz
theorem c_strings_Split (s sep:List UInt8) (r:List (List UInt8)) (hm:m_strings_Split s sep=some r):PureCall Tryz.prog 26 [.u (.one (.d (.str (bs s)))),.u (.one (.d (.str (bs sep))))] (.u (.one (.d (.sl 1 (List.map rT r))))):=split_pure splitL (by kernel_rfl) (by kernel_rfl) rfl ⟨_,Tryz.func26,by decide,rfl⟩ hm
def eA (cx:Cx) (_l:List Int) (tt:((List Int)×Bool) ⊕ (List Int)) (ee:Exit) (Z:Env) (O:Sto):Prop:=match tt with
 | .inl r=>ee=.ret/\EE cx (fun Z O=>∃ v,ez tb Z O Tryz.f27.results.toList=some v/\(v.frz O).free=true/\(v.frz O).wk (.tup [.one (dL r.1),.one (.d (.bool r.2))])) Z O
 | .inr out=>ee=.exit 0/\EE cx (be [(4,vO 5000)] [(5000,.row 1 3 (List.map (rI .i64) out))]) Z O
theorem gu (cx:Cx) (hn:cx.n=45) (l:List Int) {fu:Nat} {stt:Int×(List Int)} {tt:((List Int)×Bool) ⊕ (List Int)} (hh:aT (b_generations_digits_1 l) fu stt=some tt) {Z:Env} {O:Sto}
  (hE:bz (fun stt:Int×(List Int)=>match stt with | (a,_out)=>[(4,vO 5000),(9,.u (.one (.d (.sl 1 (List.map (rI .u8) l))))),(10,vI (aO l)),(11,vI a)]) (fun stt:Int×(List Int)=>match stt with | (_a,out)=>[(5000,.row 1 3 (List.map (rI .i64) out))]) stt Z O):Swp Tryz.prog cx (.loop (bW [1,1,0,1,0,0] (bd Tryz.f27))) Z O (eA cx l tt):=by
 refine bC hE hh (eA cx l) ?_
 rintro⟨a,out⟩ r hm Z O hf
 simp only[Fits,aZ,b6,and_true] at hf
 unfold b_generations_digits_1 at hm
 dsimp only at hm
 refine srs hn ?_
 simp -dsimp [hf]
 refine aN ?_
 rcases aU hm with ⟨c2,hm⟩ | ⟨c2,hm⟩
 ·refine aQ (by simp -dsimp) c2 ?_
  refine aP (aM (aN (aS ?_)))
  refine srs hn ?_
  obtain⟨x,h3,hm⟩:=bnd hm
  simp -dsimp [hf,c2,h3]
  refine srs hn ?_
  simp -dsimp
  refine aN ?_
  obtain⟨a1,j10,hm⟩:=bnd hm
  refine scE [(4,vO 5000),(7,vI (aX .i64 (dz .i64 x) 48)),(9,.u (.one (.d (.sl 1 (List.map (rI .u8) l))))),(10,vI (aO l)),(11,vI a),(38,vT a1)] [(5000,.row 1 3 (List.map (rI .i64) out))] ?_ fun Z O hf=>?_
  ·replace hm:=j10
   clear j10
   refine sr1 hn ?_
   rcases aU hm with ⟨c4,hm⟩ | ⟨c4,hm⟩
   ·simp -dsimp [c4]
    cases hm
    exact EE.here (by simp -dsimp [hf])
   ·rcases aU hm with ⟨c5,hm⟩ | ⟨c5,hm⟩
    ·simp -dsimp [c4,c5]
     cases hm
     exact EE.here (by simp -dsimp [hf])
    ·rcases aU hm with ⟨c6,hm⟩ | ⟨c6,hm⟩
     ·obtain⟨x1,h7,hm⟩:=bnd hm
      simp -dsimp [hf,c4,c5,c6,h7,bg h7]
      cases hm
      exact EE.here (by simp -dsimp [hf])
     ·simp -dsimp [hf,c4,c5,c6]
      cases hm
      exact EE.here (by simp -dsimp [hf])
  ·clear j10
   simp only[Fits,aZ,b6,and_true] at hf
   rcases aU hm with ⟨c8,hm⟩ | ⟨c8,hm⟩
   ·exact zz
   ·refine aR (by simp -dsimp [hf]) c8 ?_
    refine aP (aM ?_)
    refine sr1 hn ?_
    obtain⟨l1,h9,hm⟩:=bnd hm
    obtain⟨h9a,h9e⟩:=aW h9
    replace h9e:=h9e.symm
    subst h9e
    try simp only[List.length_cons,List.length_nil,Nat.zero_add] at h9a
    simp -dsimp [hf,h9a]
    refine bN ?_
    refine aM ?_
    refine sr1 hn ?_
    simp -dsimp [hf]
    cases hm
    refine cE ?_
    refine emv 42 5000 ?_
    exact zz
 ·exact zz
theorem cA (s:List UInt8) (r:(List Int)×Bool) (hm:m_generations_digits s=some r):PureCall Tryz.prog 27 [.u (.one (.d (.str (bs s))))] (.tup [.one (dL r.1),.one (.d (.bool r.2))]):=by
 refine bf Tryz.func27 Tryz.ntmps27 fun cx hn=>?_
 unfold m_generations_digits at hm
 refine srs hn ?_
 simp -dsimp
 refine srs hn ?_
 simp -dsimp
 refine aN ?_
 refine srs hn ?_
 obtain⟨l,h1,hm⟩:=bnd hm
 simp -dsimp [h1]
 refine aS ?_
 obtain⟨o_,g11,hm⟩:=bnd hm
 refine bc (gu cx hn l g11) (by
   try dsimp only
   refine EE.step (Wk.own0 4 5000 1 3 (by simp -dsimp) (by decide)) ?_
   exact zz
 ) fun ee Z O xx=>?_
 rcases o_ with r | out
 ·exact zz
 ·exact zz
def cX (cx:Cx) (s:List UInt8) (_l:List Int) (tt:Bool ⊕ Unit) (ee:Exit) (Z:Env) (O:Sto):Prop:=match tt with
 | .inl r=>ee=.ret/\EE cx (fun Z O=>∃ v,ez tb Z O Tryz.f28.results.toList=some v/\(v.frz O).free=true/\(v.frz O).wk (vT r)) Z O
 | .inr _u=>ee=.exit 0/\EE cx (be [(0,.u (.one (.d (.str (bs s)))))] []) Z O
theorem gy (cx:Cx) (hn:cx.n=32) (s:List UInt8) (l:List Int) {fu:Nat} {stt:Int} {tt:Bool ⊕ Unit} (hh:aT (b_generations_number_1 s l) fu stt=some tt) {Z:Env} {O:Sto}
  (hE:bz (fun a:Int=>[(0,.u (.one (.d (.str (bs s))))),(6,.u (.one (.d (.sl 1 (List.map (rI .u8) l))))),(7,vI (aO l)),(8,vI a)]) (fun _a:Int=>[]) stt Z O):Swp Tryz.prog cx (.loop (bW [1,0,1,0,0] (bd Tryz.f28))) Z O (cX cx s l tt):=by
 refine bC hE hh (cX cx s l) ?_
 rintro a r hm Z O hf
 simp only[Fits,aZ,b6,and_true] at hf
 unfold b_generations_number_1 at hm
 dsimp only at hm
 refine srs hn ?_
 simp -dsimp [hf]
 refine aN ?_
 rcases aU hm with ⟨c2,hm⟩ | ⟨c2,hm⟩
 ·refine aQ (by simp -dsimp) c2 ?_
  refine aP (aM (aN (aS ?_)))
  refine srs hn ?_
  obtain⟨x,h3,hm⟩:=bnd hm
  simp -dsimp [hf,c2,h3]
  obtain⟨a1,j6,hm⟩:=bnd hm
  refine scE [(0,.u (.one (.d (.str (bs s))))),(6,.u (.one (.d (.sl 1 (List.map (rI .u8) l))))),(7,vI (aO l)),(8,vI a),(17,vT a1)] [] ?_ fun Z O hf=>?_
  ·replace hm:=j6
   clear j6
   exact zz
  ·clear j6
   exact zz
 ·exact zz
theorem eW (s:List UInt8) (r:Bool) (hm:m_generations_number s=some r):PureCall Tryz.prog 28 [.u (.one (.d (.str (bs s))))] (vT r):=by
 refine bf Tryz.func28 Tryz.ntmps28 fun cx hn=>?_
 unfold m_generations_number at hm
 refine srs hn ?_
 simp -dsimp
 refine aN ?_
 refine srs hn ?_
 obtain⟨l,h1,hm⟩:=bnd hm
 simp -dsimp [h1]
 refine aS ?_
 obtain⟨o_,g7,hm⟩:=bnd hm
 refine bc (gy cx hn s l g7) (by
   try dsimp only
   exact EE.here (by simp -dsimp)
 ) fun ee Z O xx=>?_
 rcases o_ with r | _u
 ·exact zz
 ·unfold cX at xx
  dsimp only at xx
  obtain⟨rfl,xx⟩:=xx
  refine bG ?_
  refine aM ?_
  refine see xx fun Z O hf=>?_
  simp only[Fits,aZ,b6,and_true] at hf
  obtain⟨a,j11,hm⟩:=bnd hm
  refine scE [(2,vT a)] [] ?_ fun Z O hf=>?_
  ·replace hm:=j11
   clear j11
   exact zz
  ·clear j11
   exact zz
theorem fG (s:List UInt8) (r:Int×Bool) (hm:m_strconv_Atoi s=some r):PureCall Tryz.prog 29 [.u (.one (.d (.str (bs s))))] (.tup [.one (dI r.1),.one (.d (.er r.2))]):=atoiA_pure atoiL (by kernel_rfl) (by kernel_rfl) rfl ⟨_,Tryz.func29,by decide,rfl⟩ hm
set_option maxHeartbeats 1000000 in
theorem cM (s:List UInt8) (r:Ar×Int) (hm:m_generations_Parse s=some r):PureCall Tryz.prog 7 [.u (.one (.d (.str (bs s))))] (.tup [.agg [dR1 r.1.Hood,dI r.1.States,dL r.1.Birth,dL r.1.Survive],.one (dI r.2)]):=by
 refine bf Tryz.func7 Tryz.ntmps7 fun cx hn=>?_
 unfold m_generations_Parse at hm
 refine srs hn ?_
 simp -dsimp
 refine srs hn ?_
 obtain⟨y,h1,hm⟩:=bnd hm
 simp -dsimp
 refine aL (gM 1 y h1) (dkL hn) ?_
 simp -dsimp
 obtain⟨⟨s1,al⟩,j50,hm⟩:=bnd hm
 refine scE [(0,.u (.one (.d (.str (bs s1))))),(2,vX 2),(4,vX 4)] [(2,.box [.d .nil,dI 0,.d .nil,.d .nil]),(4,.box [dR1 al,dI 0,.d .nil,.d .nil])] ?_ fun Z O hf=>?_
 ·replace hm:=j50
  clear j50
  refine srs hn ?_
  obtain⟨y1,h2,hm⟩:=bnd hm
  simp -dsimp
  refine aL (cL s ([86]:List UInt8) y1 h2) (dkL hn) ?_
  simp -dsimp
  refine srs hn ?_
  simp -dsimp
  rcases aU hm with ⟨c3,hm⟩ | ⟨c3,hm⟩
  ·refine aQ (by simp -dsimp) c3 ?_
   refine sr1 hn ?_
   obtain⟨y2,h4,hm⟩:=bnd hm
   simp -dsimp [c3]
   refine aL (fI 1 y2 h4) (dkL hn) ?_
   simp -dsimp
   cases hm
   exact EE.here (by simp -dsimp)
  ·refine aR (by simp -dsimp) c3 ?_
   refine srs hn ?_
   obtain⟨y2,h5,hm⟩:=bnd hm
   simp -dsimp [c3]
   refine aL (cL s ([72]:List UInt8) y2 h5) (dkL hn) ?_
   simp -dsimp
   refine srs hn ?_
   simp -dsimp
   rcases aU hm with ⟨c6,hm⟩ | ⟨c6,hm⟩
   ·refine aQ (by simp -dsimp) c6 ?_
    refine sr1 hn ?_
    obtain⟨y3,h7,hm⟩:=bnd hm
    simp -dsimp [c6]
    refine aL (c_hood_Hex y3 h7) (dkL hn) ?_
    simp -dsimp
    cases hm
    exact EE.here (by simp -dsimp)
   ·exact zz
 ·clear j50
  simp only[Fits,aZ,b6,and_true] at hf
  refine srs hn ?_
  obtain⟨y1,h8,hm⟩:=bnd hm
  simp -dsimp [hf]
  refine aL (c_strings_Split s1 ([47]:List UInt8) y1 h8) (dkL hn) ?_
  simp -dsimp
  refine aN ?_
  refine srs hn ?_
  simp -dsimp
  rcases aU hm with ⟨c9,hm⟩ | ⟨c9,hm⟩
  ·exact zz
  ·refine aR (by simp -dsimp) c9 ?_
   refine aP (aM ?_)
   refine sw_qts bh mixed (by rw[hn]; kernel_rfl) ?_
   obtain⟨x,h10,hm⟩:=bnd hm
   obtain⟨x1,h11,hm⟩:=bnd hm
   obtain⟨x2,h12,hm⟩:=bnd hm
   simp -dsimp [c9,h10,h11,h12]
   refine aN ?_
   refine srs hn ?_
   obtain⟨y2,h13,hm⟩:=bnd hm
   simp -dsimp [hf]
   refine aL (bP s1 ([66]:List UInt8) y2 h13) (dkL hn) ?_
   simp -dsimp
   refine srs hn ?_
   simp -dsimp
   rcases aU hm with ⟨c14,hm⟩ | ⟨c14,hm⟩
   ·refine aQ (by simp -dsimp) c14 ?_
    refine srs hn ?_
    obtain⟨y3,h15,hm⟩:=bnd hm
    simp -dsimp [c14]
    refine aL (c_strings_Split y2.1 ([47]:List UInt8) y3 h15) (dkL hn) ?_
    simp -dsimp
    refine srs hn ?_
    obtain⟨x3,h16,hm⟩:=bnd hm
    obtain⟨y4,h17,hm⟩:=bnd hm
    simp -dsimp [h16]
    refine aL (bP x3 ([83]:List UInt8) y4 h17) (dkL hn) ?_
    simp -dsimp
    refine srs hn ?_
    obtain⟨x4,h18,hm⟩:=bnd hm
    obtain⟨y5,h19,hm⟩:=bnd hm
    simp -dsimp [h18]
    refine aL (bP x4 ([67]:List UInt8) y5 h19) (dkL hn) ?_
    simp -dsimp
    refine aN ?_
    obtain⟨a,j36,hm⟩:=bnd hm
    refine scE [(2,vX 2),(4,vX 4),(9,.u (.one (.d (.sl 1 (List.map rT y3))))),(15,.u (.one (.d (.str (bs y4.1))))),(17,.u (.one (.d (.str (bs y5.1))))),(85,vT a)] [(2,.box [.d .nil,dI 0,.d .nil,.d .nil]),(4,.box [dR1 al,dI 0,.d .nil,.d .nil])] ?_ fun Z O hf=>?_
    ·replace hm:=j36
     clear j36
     exact zz
    ·clear j36
     simp only[Fits,aZ,b6,and_true] at hf
     rcases aU hm with ⟨c21,hm⟩ | ⟨c21,hm⟩
     ·exact zz
     ·refine aR (by simp -dsimp [hf]) c21 ?_
      refine aP (aM ?_)
      refine sr1 hn ?_
      obtain⟨x5,h22,hm⟩:=bnd hm
      simp -dsimp [hf,h22]
      refine aM ?_
      refine srs hn ?_
      obtain⟨y6,h23,hm⟩:=bnd hm
      simp -dsimp
      refine aL (cA x5 y6 h23) (dkL hn) ?_
      simp -dsimp
      refine srs hn ?_
      obtain⟨y7,h24,hm⟩:=bnd hm
      simp -dsimp
      refine aL (cA y4.1 y7 h24) (dkL hn) ?_
      simp -dsimp
      refine aN ?_
      obtain⟨a1,j35,hm⟩:=bnd hm
      refine scE [(2,vX 2),(4,vX 4),(12,.u (.one (.d (.str (bs y5.1))))),(19,.u (.one (dL y6.1))),(21,.u (.one (dL y7.1))),(112,vT a1)] [(2,.box [.d .nil,dI 0,.d .nil,.d .nil]),(4,.box [dR1 al,dI 0,.d .nil,.d .nil])] ?_ fun Z O hf=>?_
      ·replace hm:=j35
       clear j35
       refine sr1 hn ?_
       rcases aU hm with ⟨c25,hm⟩ | ⟨c25,hm⟩
       ·exact zz
       ·rcases aU hm with ⟨c26,hm⟩ | ⟨c26,hm⟩
        ·exact zz
        ·obtain⟨y8,h27,hm⟩:=bnd hm
         simp -dsimp [c25,c26]
         refine aL (eW y5.1 y8 h27) (dkL hn) ?_
         exact zz
      ·clear j35
       simp only[Fits,aZ,b6,and_true] at hf
       rcases aU hm with ⟨c28,hm⟩ | ⟨c28,hm⟩
       ·exact zz
       ·refine aR (by simp -dsimp [hf]) c28 ?_
        refine aP (aM ?_)
        refine srs hn ?_
        obtain⟨y8,h29,hm⟩:=bnd hm
        simp -dsimp [hf]
        refine aL (fG y5.1 y8 h29) (dkL hn) ?_
        simp -dsimp [hf]
        refine srs hn ?_
        simp -dsimp [hf]
        refine aN ?_
        obtain⟨a2,j34,hm⟩:=bnd hm
        refine scE [(2,vX 2),(4,vX 4),(136,vT a2)] [(2,.box [.d .nil,dI 0,.d .nil,.d .nil]),(4,.box [dR1 al,dI y8.1,dL y6.1,dL y7.1])] ?_ fun Z O hf=>?_
        ·replace hm:=j34
         clear j34
         refine sr1 hn ?_
         rcases aU hm with ⟨c30,hm⟩ | ⟨c30,hm⟩
         ·exact zz
         ·rcases aU hm with ⟨c31,hm⟩ | ⟨c31,hm⟩
          ·exact zz
          ·obtain⟨y9,h32,hm⟩:=bnd hm
           simp -dsimp [hf,c30,c31]
           refine aL (bL (⟨al,y8.1,y6.1,y7.1⟩:Ar) y9 h32) (dkL hn) ?_
           exact zz
        ·clear j34
         exact zz
   ·refine aR (by simp -dsimp) c14 ?_
    refine aP (aM ?_)
    refine srs hn ?_
    obtain⟨y3,h37,hm⟩:=bnd hm
    simp -dsimp [c14]
    refine aL (cA x y3 h37) (dkL hn) ?_
    simp -dsimp
    refine srs hn ?_
    obtain⟨y4,h38,hm⟩:=bnd hm
    simp -dsimp
    refine aL (cA x1 y4 h38) (dkL hn) ?_
    simp -dsimp
    refine aN ?_
    obtain⟨a,j49,hm⟩:=bnd hm
    refine scE [(2,vX 2),(4,vX 4),(12,.u (.one (.d (.str (bs x2))))),(19,.u (.one (dL y3.1))),(21,.u (.one (dL y4.1))),(112,vT a)] [(2,.box [.d .nil,dI 0,.d .nil,.d .nil]),(4,.box [dR1 al,dI 0,.d .nil,.d .nil])] ?_ fun Z O hf=>?_
    ·replace hm:=j49
     clear j49
     refine sr1 hn ?_
     rcases aU hm with ⟨c39,hm⟩ | ⟨c39,hm⟩
     ·exact zz
     ·rcases aU hm with ⟨c40,hm⟩ | ⟨c40,hm⟩
      ·exact zz
      ·obtain⟨y5,h41,hm⟩:=bnd hm
       simp -dsimp [c39,c40]
       refine aL (eW x2 y5 h41) (dkL hn) ?_
       exact zz
    ·clear j49
     simp only[Fits,aZ,b6,and_true] at hf
     rcases aU hm with ⟨c42,hm⟩ | ⟨c42,hm⟩
     ·exact zz
     ·refine aR (by simp -dsimp [hf]) c42 ?_
      refine aP (aM ?_)
      refine srs hn ?_
      obtain⟨y5,h43,hm⟩:=bnd hm
      simp -dsimp [hf]
      refine aL (fG x2 y5 h43) (dkL hn) ?_
      simp -dsimp [hf]
      refine srs hn ?_
      simp -dsimp [hf]
      refine aN ?_
      obtain⟨a1,j48,hm⟩:=bnd hm
      refine scE [(2,vX 2),(4,vX 4),(136,vT a1)] [(2,.box [.d .nil,dI 0,.d .nil,.d .nil]),(4,.box [dR1 al,dI y5.1,dL y3.1,dL y4.1])] ?_ fun Z O hf=>?_
      ·replace hm:=j48
       clear j48
       refine sr1 hn ?_
       rcases aU hm with ⟨c44,hm⟩ | ⟨c44,hm⟩
       ·exact zz
       ·rcases aU hm with ⟨c45,hm⟩ | ⟨c45,hm⟩
        ·exact zz
        ·obtain⟨y6,h46,hm⟩:=bnd hm
         simp -dsimp [hf,c44,c45]
         refine aL (bL (⟨al,y5.1,y3.1,y4.1⟩:Ar) y6 h46) (dkL hn) ?_
         exact zz
      ·clear j48
       exact zz
theorem c_strings_Trim (s cs r:List UInt8) (hm:m_strings_Trim s cs=some r):PureCall Tryz.prog 94 [.u (.one (.d (.str (bs s)))),.u (.one (.d (.str (bs cs))))] (.u (.one (.d (.str (bs r))))):=trim_pure trimL (by intro w; exact (Tryz.zeroValue193 w).trans (by rfl)) (by kernel_rfl) rfl ⟨_,Tryz.func94,by decide,rfl⟩ hm
theorem eO (s:List UInt8) (r:Int×Bool×Bool) (hm:m_wolfram_number s=some r):PureCall Tryz.prog 47 [.u (.one (.d (.str (bs s))))] (.tup [.one (dI r.1),.one (.d (.bool r.2.1)),.one (.d (.bool r.2.2))]):=by
 refine bf Tryz.func47 Tryz.ntmps47 fun cx hn=>?_
 unfold m_wolfram_number at hm
 refine srs hn ?_
 simp -dsimp
 refine aN ?_
 obtain⟨a,j9,hm⟩:=bnd hm
 refine scE [(0,.u (.one (.d (.str (bs s))))),(22,vT a)] [] ?_ fun Z O hf=>?_
 ·replace hm:=j9
  clear j9
  refine sr1 hn ?_
  rcases aU hm with ⟨c1,hm⟩ | ⟨c1,hm⟩
  ·exact zz
  ·rcases aU hm with ⟨c2,hm⟩ | ⟨c2,hm⟩
   ·obtain⟨b,h3,hm⟩:=bnd hm
    rcases aU hm with ⟨c4,hm⟩ | ⟨c4,hm⟩
    ·exact zz
    ·obtain⟨y,h5,hm⟩:=bnd hm
     simp -dsimp [c1,c2,h3,c4]
     refine aL (c_strings_Trim s ([48,49,50,51,52,53,54,55,56,57]:List UInt8) y h5) (dkL hn) ?_
     exact zz
   ·obtain⟨y,h6,hm⟩:=bnd hm
    simp -dsimp [c1,c2]
    refine aL (c_strings_Trim s ([48,49,50,51,52,53,54,55,56,57]:List UInt8) y h6) (dkL hn) ?_
    exact zz
 ·clear j9
  simp only[Fits,aZ,b6,and_true] at hf
  rcases aU hm with ⟨c7,hm⟩ | ⟨c7,hm⟩
  ·exact zz
  ·refine aR (by simp -dsimp [hf]) c7 ?_
   refine aP (aM ?_)
   refine srs hn ?_
   obtain⟨y,h8,hm⟩:=bnd hm
   simp -dsimp [hf]
   refine aL (fG s y h8) (dkL hn) ?_
   exact zz
theorem c_wolfram_sums (states r:Int) (hm:m_wolfram_sums states=some r):PureCall Tryz.prog 95 [vI states] (vI r):=by
 refine bf Tryz.func95 Tryz.ntmps95 fun cx hn=>?_
 unfold m_wolfram_sums at hm
 refine srs hn ?_
 simp -dsimp
 refine srs hn ?_
 simp -dsimp
 cases hm
 exact aY ⟨.inr rfl,EE.here (by simp -dsimp)⟩
end Go.Proofs.YtlifofijgddjkabGreatDoor
