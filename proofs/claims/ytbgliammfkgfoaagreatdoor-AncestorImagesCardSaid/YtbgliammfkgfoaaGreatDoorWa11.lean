/- That the code does what the functions say (made by cc.py). -/
import Derived.Test.YtbgliammfkgfoaaGreatDoorWa9
import Derived.Test.YtbgliammfkgfoaaGreatDoorCfP
namespace Go.Proofs.YtbgliammfkgfoaaGreatDoor
open Go.AM Go.Proofs
set_option maxRecDepth 100000
attribute [-simp] dD e6 gg Ob.wipe Ob.ren Ob.frz1
def fm (cx:Cx) (_l:List Bool) (a a1 a2:Int) (tt:(List Int)) (ee:Exit) (Z:Env) (O:Sto):Prop:=match tt with
 | l1=>ee=.exit 0/\EE cx (bH [(5,vX 5),(6,vX 6)] [(5,.box [dI 0,dI 0,dI 0,.d .nil]),(6,.box [dI a,dI a1,dI 0,.own 5000]),(5000,.row 1 3 (List.map (rI .i64) l1)),(1000000,.box [dI a]),(1000001,.box [dI a1]),(1000002,.box [dI a2])]) Z O
theorem mw (cx:Cx) (hn:cx.n=34) (_hk:cx.k=3) (l:List Bool) (a a1 a2:Int) {fu:Nat} {stt:Int×(List Int)} {tt:(List Int)} (hh:bm (fc l a a1 a2) fu stt=some tt) {Z:Env} {O:Sto}
  (hE:eh (fun stt:Int×(List Int)=>match stt with | (a3,_l1)=>[(0,.u (.one (.d (.sl 1 (List.map rB l))))),(3,vX 1000002),(5,vX 5),(6,vX 6),(13,vI (bU .i64 a a1)),(14,vI a3)]) (fun stt:Int×(List Int)=>match stt with | (_a3,l1)=>[(5,.box [dI 0,dI 0,dI 0,.d .nil]),(6,.box [dI a,dI a1,dI 0,.own 5000]),(5000,.row 1 3 (List.map (rI .i64) l1)),(1000000,.box [dI a]),(1000001,.box [dI a1]),(1000002,.box [dI a2])]) stt Z O):Swp Tryz.prog cx (.loop (cD [1,1,0,1,0,0] (bC Tryz.f61))) Z O (fm cx l a a1 a2 tt):=by
 refine bZ hE hh (fm cx l a a1 a2) ?_
 rintro⟨a3,l1⟩ r hm Z O hf
 simp only[Fits,bv,bw,and_true] at hf
 unfold fc at hm
 dsimp only at hm
 refine srs hn ?_
 simp -dsimp [hf]
 refine ba ?_
 rcases bz hm with ⟨c1,hm⟩ | ⟨c1,hm⟩
 ·refine bg (by simp -dsimp) c1 ?_
  refine be (b9 (ba (bb ?_)))
  refine srs hn ?_
  simp -dsimp [hf,c1]
  refine sw_drN bE mixed 13 (by rw[hn]; kernel_rfl) ?_
  dsimp only [List.take,List.drop]
  obtain⟨l2,h2,hm⟩:=bnd hm
  obtain⟨y,h3,hm⟩:=bnd hm
  simp -dsimp [hf,h2]
  refine br (CtP.pf h3) ?_
  obtain⟨l3,h4,hm⟩:=bnd hm
  obtain⟨h4a,h4e⟩:=bL h4
  replace h4e:=h4e.symm
  subst h4e
  try simp only[List.length_cons,List.length_nil,Nat.zero_add] at h4a
  simp -dsimp [hf,h4a]
  refine ca ?_
  refine b9 ?_
  refine sr1 hn ?_
  simp -dsimp [hf]
  cases hm
  refine bW ?_
  refine emv 30 5000 ?_
  exact zz
 ·exact zz
theorem jf (l:List Bool) (a a1 a2:Int) (r:List Int) (hm:e9 l a a1 a2=some r):GFn Tryz.prog 61 [.u (.one (.d (.sl 1 (List.map rB l)))),vX 1000000,vX 1000001,vX 1000002] [.box [dI a],.box [dI a1],.box [dI a2]] (.u (.agg [dI a,dI a1,dI 0,dL r])) [some (.box [dI a]),some (.box [dI a1]),some (.box [dI a2])]:=by
 refine bY bE _ Tryz.func61 rfl (by kernel_rfl) (by simp[Tryz.ntmps61]) (by simp) (by first | rfl | simp) (by first | rfl | simp) fun cx hn hk=>?_
 replace hn:cx.n=34:=hn.trans Tryz.ntmps61
 replace hk:cx.k=3:=hk
 unfold e9 at hm
 refine srs hn ?_
 simp -dsimp
 refine srs hn ?_
 simp -dsimp
 refine ba ?_
 refine srs hn ?_
 simp -dsimp
 refine bb ?_
 obtain⟨l1,g5,hm⟩:=bnd hm
 refine bG (mw cx hn hk l a a1 a2 g5) (by
   try dsimp only
   refine EE.step (Wk.own0b 6 3 5000 1 3 [dI a,dI a1,dI 0,.d .nil] (by simp -dsimp) (by rfl) (by decide) (by decide)) ?_
   exact zz
 ) fun ee Z O xx=>?_
 unfold fm at xx
 dsimp only at xx
 obtain⟨rfl,xx⟩:=xx
 refine bA ?_
 refine b9 ?_
 refine see xx fun Z O hf=>?_
 simp only[Fits,bv,bw,and_true] at hf
 refine Swp.pre (Wk.frz 5000 1 3 (List.map (rI .i64) l1) (by simp -dsimp [hf])) ?_
 exact zz
instance c_ancestor_First (t gv r):CtP (eY t gv=some r) (bj Tryz.prog 14 [.u (.agg [dI t.States,dR2 t.Hood,dR1 t.Nodes]),.u (.agg [dI gv.W,dI gv.H,dI gv.Edge,dL gv.Cells])] (.tup [.agg [dI r.1.W,dI r.1.H,dI r.1.Edge,dL r.1.Cells],.one (.d (.bool r.2.1)),.one (dI r.2.2)])):=⟨fun hm=>by
 refine db Tryz.func14 Tryz.ntmps14 fun cx hn=>?_
 unfold eY at hm
 refine srs hn ?_
 simp -dsimp
 refine srs hn ?_
 obtain⟨y,h1,hm⟩:=bnd hm
 simp -dsimp
 refine bp (CtP.pf h1) (dkL hn) ?_
 simp -dsimp
 refine ba ?_
 refine srs hn ?_
 simp -dsimp
 rcases bz hm with ⟨c2,hm⟩ | ⟨c2,hm⟩
 ·exact zz
 ·refine bi (by simp -dsimp) c2 ?_
  refine be (b9 ?_)
  refine gz bE mixed 9 10 10 0 [[8]] [[]] [] none (by rw[hn]; kernel_rfl) cN ?_
  dsimp only [List.take,List.drop,ef,eD,gp,pk,List.cons_append,List.nil_append,List.flatten_cons,List.flatten_nil,cO,cP,List.append_nil]
  obtain⟨y1,h3,hm⟩:=bnd hm
  simp -dsimp [c2]
  refine br (CtP.pf h3) ?_
  obtain⟨y2,h4,hm⟩:=bnd hm
  simp -dsimp
  refine br (CtP.pf h4) ?_
  simp -dsimp
  refine srs hn ?_
  obtain⟨y3,h5,hm⟩:=bnd hm
  simp -dsimp
  refine bp (CtP.pf h5) (dkL hn) ?_
  simp -dsimp
  refine ba ?_
  obtain⟨a,j11,hm⟩:=bnd hm
  refine scE [(2,vX 2),(3,vX 3),(4,vX 4),(9,vI y3.2.2),(10,.u (.one (dL y2.2))),(11,.u (.one (.d (.sl 1 (List.map rB y3.1))))),(44,vT a)] [(2,.box [dI t.States,dR2 t.Hood,dR1 t.Nodes]),(3,.box [dI gv.W,dI gv.H,dI gv.Edge,dL gv.Cells]),(4,.box [dI 0,dI 0,dI 0,.d .nil])] ?_ fun Z O hf=>?_
  ·replace hm:=j11
   clear j11
   exact zz
  ·clear j11
   simp only[Fits,bv,bw,and_true] at hf
   rcases bz hm with ⟨c7,hm⟩ | ⟨c7,hm⟩
   ·exact zz
   ·refine bi (by simp -dsimp [hf]) c7 ?_
    refine be (b9 ?_)
    refine srs hn ?_
    obtain⟨y4,h8,hm⟩:=bnd hm
    simp -dsimp [hf]
    refine clg (nS t gv y4 h8) [] [5000,5001,5002] (by simp -dsimp) (dkL hn) ?_
    obtain⟨y5,h9,hm⟩:=bnd hm
    simp -dsimp [hf]
    refine bp (CtP.pf h9) (dkL hn) ?_
    obtain⟨y6,h10,hm⟩:=bnd hm
    simp -dsimp
    refine clg (jf y5 y4.2.1 y4.2.2 y4.1 y6 h10) [5001,5002,5000] [] (by simp -dsimp) (dkL hn) ?_
    exact zz⟩
def F_solve_All_1 (cx:Cx) (_n _most:Int) (_y:(List (Int×List Int))×(List Int)×Bool×(List (List Int))×(List Int)) (tt:((List (List Bool))×Int) ⊕ (List (List Bool))) (ee:Exit) (Z:Env) (O:Sto):Prop:=match tt with
 | .inl r=>ee=.ret/\EE cx (fun Z O=>∃ v,gF tb Z O Tryz.f28.results.toList=some v/\(v.frz O).free=true/\(v.frz O).wk (.tup [.one (.d (.sl 1 (List.map (rS 1 rB) r.1))),.one (dI r.2)])) Z O
 | .inr out=>ee=.exit 0/\EE cx (bH [(8,vO 5012)] [(5012,.row 1 65 (List.map (rS 1 rB) out))]) Z O
instance l_solve_All_1 (n most y) {fu stt tt}:LtP (bm (nt n most y) fu stt=some tt) (lp 55 stt (fun | (ok,_mp,_l,_au,_l1,_out,_l2,_l3)=>[(1,vI n),(2,vI most),(8,vO 5012),(9,vX 5002),(10,vT ok)]) (fun | (_ok,mp,l,au,l1,out,l2,l3)=>[(5000,bX (.int .i64) kI (rI .i64) 3 1 ([]:List (Int×Nat)) mp),(5001,.row 1 137 (List.map (rI .i8) l)),(5002,.box [.own 5003,.map 5000,.own 5001,.own 5013,dI au,.own 5014,.d (.bool y.2.2.1)]),(5003,.nest (.row 26) 3 1 (du (rI .i64) l1)),(5012,.row 1 65 (List.map (rS 1 rB) out)),(5013,.row 1 3 (List.map (rI .i64) l2)),(5014,.row 3 142 (List.map Bn.row l3))]) (cD [1,1,1,1,0,1,0,0] (bC Tryz.f28)) fun cx=>F_solve_All_1 cx n most y tt):=⟨fun hh cx hn Z O hE=>by
 refine bZ hE hh (F_solve_All_1 cx n most y) ?_
 rintro⟨ok,mp,l,au,l1,out,l2,l3⟩ r hm Z O hf
 simp only[Fits,bv,bw,and_true] at hf
 unfold nt at hm
 dsimp only at hm
 refine ba ?_
 refine srs hn ?_
 simp -dsimp [hf]
 rcases bz hm with ⟨c9,hm⟩ | ⟨c9,hm⟩
 ·refine bg (by simp -dsimp) c9 ?_
  refine be (b9 (ba (bb (ba ?_))))
  refine srs hn ?_
  simp -dsimp [hf,c9]
  rcases bz hm with ⟨c10,hm⟩ | ⟨c10,hm⟩
  ·exact zz
  ·refine bi (by simp -dsimp) c10 ?_
   refine be (b9 ?_)
   refine sr1 hn ?_
   obtain⟨y2,h11,hm⟩:=bnd hm
   simp -dsimp [hf,c10]
   refine kP (us:=[vX 1000000,vI n]) (v:=.u (.one (.d (.sl 1 (List.map rB y2))))) (ts:=[.h (.own 5003),.h (.map 5000),.c (.own 1000001),.h (.own 5013),.c (dI au),.h (.own 5014),.c (.d (.bool y.2.2.1))]) (ots:=[.h (.own 5003),.h (.map 5000),.c (.own 1000001),.h (.own 5013),.c (dI au),.h (.own 5014),.c (.d (.bool y.2.2.1))]) (ins:=[.row 1 137 (List.map (rI .i8) l)]) (outs:=[some (.row 1 137 (List.map (rI .i8) l))]) (fun xs hx=>by obtain⟨xo0,xo1,xo2,xo3,rfl⟩:=len4 hx; exact (jR xo0 xo1 xo2 xo3 l au y.2.2.1 n y2 h11)) 5002 [5001] [] rfl rfl rfl (by simp -dsimp) rfl (by simp -dsimp [hf,hrl]) (by simp -dsimp [hf]) rfl rfl rfl rfl rfl (dkL hn) ?_
   obtain⟨l4,h12,hm⟩:=bnd hm
   obtain⟨h12a,h12e⟩:=bL h12
   replace h12e:=h12e.symm
   subst h12e
   try simp only[List.length_cons,List.length_nil,Nat.zero_add] at h12a
   simp -dsimp [hf,h12a]
   refine ca ?_
   refine b9 ?_
   refine sr1 hn ?_
   obtain⟨y3,h13,hm⟩:=bnd hm
   simp -dsimp [hf]
   refine kP (us:=[vX 1000000,vI n]) (v:=vT y3.1) (ts:=[.h (.own 5003),.h (.map 5000),.c (.own 1000001),.c (.own 1000002),.c (dI au),.c (.own 1000003),.c (.d (.bool y.2.2.1))]) (ots:=[.h (.own 5003),.h (.map 5000),.c (.own 1000001),.c (.own 1000004),.c (dI y3.2.1),.c (.own 1000005),.c (.d (.bool y.2.2.1))]) (ins:=[.row 1 137 (List.map (rI .i8) l),.row 1 3 (List.map (rI .i64) l2),.row 3 142 (List.map Bn.row l3)]) (outs:=[some (.row 1 137 (List.map (rI .i8) y3.2.2.1)),none,none,some (.row 1 3 (List.map (rI .i64) y3.2.2.2.1)),some (.row 3 142 (List.map Bn.row y3.2.2.2.2))]) (fun xs hx=>by obtain⟨xo0,xo1,rfl⟩:=len2 hx; exact (kl xo0 xo1 l l2 au l3 y.2.2.1 n y3 h13)) 5002 [5001,5013,5014] [5008,5009] rfl rfl rfl (by simp -dsimp) rfl (by simp -dsimp [hrl]) (by simp -dsimp [hf]) rfl rfl rfl rfl rfl (dkL hn) ?_
   rcases bz hm with ⟨c14,hm⟩ | ⟨c14,hm⟩
   ·obtain⟨y4,h15,hm⟩:=bnd hm
    simp -dsimp [hf,c14]
    refine clg (gq l1 mp y3.2.2.1 y3.2.2.2.1 y3.2.1 y3.2.2.2.2 y.2.2.1 y4 h15) [5002,5003,5000,5001,5008,5009] [5010,5011] (by simp -dsimp [hf]) (dkL hn) ?_
    simp -dsimp
    cases hm
    refine bW ?_
    refine emv 53 5012 ?_
    refine emv 5010 5013 ?_
    refine emv 5011 5014 ?_
    exact zz
   ·simp -dsimp [c14]
    cases hm
    refine bW ?_
    refine emv 53 5012 ?_
    refine emv 5008 5013 ?_
    refine emv 5009 5014 ?_
    exact zz
 ·exact zz⟩
instance c_solve_All (f n most r):CtP (m_solve_All f n most=some r) (bj Tryz.prog 28 [.u (.agg [dI f.Vars,.d (.sl 1 (List.map (rS 1 (rI .i64)) f.Clauses))]),vI n,vI most] (.tup [.one (.d (.sl 1 (List.map (rS 1 rB) r.1))),.one (dI r.2)])):=⟨fun hm=>by
 refine db Tryz.func28 Tryz.ntmps28 fun cx hn=>?_
 unfold m_solve_All at hm
 refine srs hn ?_
 simp -dsimp
 refine ba ?_
 obtain⟨a,j17,hm⟩:=bnd hm
 refine scE [(1,vI n),(2,vI most),(3,vX 3),(31,vT a)] [(3,.box [dI f.Vars,.d (.sl 1 (List.map (rS 1 (rI .i64)) f.Clauses))])] ?_ fun Z O hf=>?_
 ·replace hm:=j17
  clear j17
  exact zz
 ·clear j17
  simp only[Fits,bv,bw,and_true] at hf
  rcases bz hm with ⟨c6,hm⟩ | ⟨c6,hm⟩
  ·exact zz
  ·refine bi (by simp -dsimp [hf]) c6 ?_
   refine be (b9 ?_)
   refine srs hn ?_
   simp -dsimp
   refine srs hn ?_
   obtain⟨y,h7,hm⟩:=bnd hm
   simp -dsimp [hf]
   refine clg (nf f y h7) [] [5000,5001,5002,5003,5004,5005] (by simp -dsimp) (dkL hn) ?_
   simp -dsimp
   refine ba ?_
   refine srs hn ?_
   obtain⟨y1,h8,hm⟩:=bnd hm
   simp -dsimp
   refine clg (gq y.2.2.2.1 y.1 y.2.1 y.2.2.2.2 0 [] y.2.2.1 y1 h8) [5002,5003,5000,5001,5004,5005] [5006,5007] (by simp -dsimp) (dkL hn) ?_
   simp -dsimp
   refine bb ?_
   obtain⟨o_,g16,hm⟩:=bnd hm
   refine bG (LtP.pf g16 cx hn) (by
     try dsimp only
     refine emv 5006 5013 ?_
     refine emv 5007 5014 ?_
     refine EE.step (Wk.own0 8 5012 1 65 (by simp -dsimp) (by decide)) ?_
     exact zz
   ) fun ee Z O xx=>?_
   rcases o_ with r | out
   ·exact zz
   ·exact zz⟩
def io (cx:Cx) (sv1 sv2:List Int) (tt:Int ⊕ Unit) (ee:Exit) (Z:Env) (O:Sto):Prop:=match tt with
 | .inl r=>ee=.ret/\EE cx (fun Z O=>∃ v,gF tb Z O Tryz.f65.results.toList=some v/\(v.frz O).free=true/\(v.frz O).wk (vI r)) Z O
 | .inr _u=>ee=.exit 0/\EE cx (bH [(0,.u (.one (dL sv1))),(1,.u (.one (dL sv2)))] []) Z O
instance l_slices_Compare_int_int_1 (sv1 sv2) {fu stt tt}:LtP (bm (cu sv1 sv2) fu stt=some tt) (lp 36 stt (fun a=>[(0,.u (.one (dL sv1))),(1,.u (.one (dL sv2))),(9,.u (.one (dL sv1))),(10,vI (bf sv1)),(11,vI a)]) (fun _a=>[]) (cD [1,0,1,0,0] (bC Tryz.f65)) fun cx=>io cx sv1 sv2 tt):=⟨fun hh cx hn Z O hE=>by
 refine bZ hE hh (io cx sv1 sv2) ?_
 rintro a r hm Z O hf
 simp only[Fits,bv,bw,and_true] at hf
 unfold cu at hm
 exact zz⟩
instance c_slices_Compare_int_int (sv1 sv2 r):CtP (e7 sv1 sv2=some r) (bj Tryz.prog 65 [.u (.one (dL sv1)),.u (.one (dL sv2))] (vI r)):=⟨fun hm=>by
 refine db Tryz.func65 Tryz.ntmps65 fun cx hn=>?_
 unfold e7 at hm
 refine srs hn ?_
 simp -dsimp
 refine ba ?_
 refine srs hn ?_
 simp -dsimp
 refine bb ?_
 obtain⟨o_,g7,hm⟩:=bnd hm
 refine bG (LtP.pf g7 cx hn) (by
   try dsimp only
   exact eeh
 ) fun ee Z O xx=>?_
 rcases o_ with r | _u
 ·exact zz
 ·exact zz⟩
instance c_ancestor_order (a b r):CtP (iE a b=some r) (bj Tryz.prog 31 [.u (.agg [dI a.W,dI a.H,dI a.Edge,dL a.Cells]),.u (.agg [dI b.W,dI b.H,dI b.Edge,dL b.Cells])] (vI r)):=⟨fun hm=>by
 refine db Tryz.func31 Tryz.ntmps31 fun cx hn=>?_
 unfold iE at hm
 exact zz⟩
end Go.Proofs.YtbgliammfkgfoaaGreatDoor
namespace Go.Proofs.YtbgliammfkgfoaaGreatDoor
open Go.AM Go.Proofs
attribute [-simp] dD e6 gg Ob.wipe Ob.ren Ob.frz1
theorem eI (l r:List Grid) (hm:cg l=some r):GFn Tryz.prog 30 [vO 1000000,.u (.one (.fn 31 []))] [.row 4 28 (List.map Grid.row l)] (.tup []) [some (.row 4 28 (List.map Grid.row r))]:=by
 refine bY bE _ Tryz.func30 rfl (by kernel_rfl) (by simp[Tryz.ntmps30]) (by simp) (by first | rfl | simp) (by first | rfl | simp) fun cx hn hk=>?_
 replace hn:cx.n=14:=hn.trans Tryz.ntmps30
 unfold cg at hm
 have hcf:∀ x y:Grid,dH x=true->dH y=true->PFn Tryz.prog 31 [.u (.agg [dI x.W,dI x.H,dI x.Edge,dL x.Cells]),.u (.agg [dI y.W,dI y.H,dI y.Edge,dL y.Cells])] (·=.int (ed x y)):=fun x y hx hy=>PFn.of (CtP.pf (tot_ancestor_order x y hx hy))
 have hp:∀ lim:Nat,lim < 4611686018427387904->GFn Tryz.prog 63 [.one (.own inBase),.int 0,.int (bf l),.int lim,.one (.fn 31 [])] [.row 4 28 (List.map Grid.row l)] (.tup []) [some (.row 4 28 (List.map Grid.row r))] :=
  fun lim hlim=>pdq_gR pdq63 (k:=4) (f:=Grid.row) (fun _=>rfl) Tryz.isAgg28 Tryz.sizeOf28 swo_ancestor_order (okB:=dH) ⟨0,0,0,[]⟩ [.int .i64 0,.int .i64 0,.int .i64 0,.slice none 0 0] ⟨rfl,fun φ w F=>by simp only[Grid.row,List.map_cons,List.map_nil,bh,bl]; exact⟨_,_,rfl,by simp[rep],_,_,rfl,by simp[rep],_,_,rfl,by simp[rep],_,_,rfl,by rw[rep]; exact⟨_,_,_,rfl,rfl,Nat.le_refl _,Nat.zero_le _,.inl rfl⟩,rfl⟩⟩ hcf hm lim hlim
 refine srs hn ?_
 simp -dsimp
 refine sr1 hn ?_
 simp -dsimp
 refine bp (bits_pure bitsLen ⟨_,Tryz.func64,by decide,rfl⟩ _ (iconv_u64 _).1 (iconv_u64 _).2) (dkL hn) ?_
 simp -dsimp
 refine callL_g (hp (Lib.bitLen (iconv .u64 (bf l)).toNat) (bitLen_small _ (by have:=(iconv_u64 (bf l)); omega))) [1000000] [] rfl rfl rfl (by simp -dsimp) rfl (by simp -dsimp) rfl rfl (dkL hn) ?_
 exact zz
end Go.Proofs.YtbgliammfkgfoaaGreatDoor
