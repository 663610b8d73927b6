/- That the code does what the functions say (made by cc.py). -/
import Derived.Test.YtcllfealpkhjfaaGreatDoorWa11
namespace Go.Proofs.YtcllfealpkhjfaaGreatDoor
open Go.AM Go.Proofs
set_option maxRecDepth 100000
attribute [-simp] qlookup cd cW Ob.wipe Ob.ren Ob.frz1
def ia (cx:Cx) (a b:Tree) (tt:Bool ⊕ Unit) (ee:Exit) (Z:Env) (O:Sto):Prop:=match tt with
 | .inl r=>ee=.ret/\EE cx (fun Z O=>∃ v,di tb Z O Tryz.f48.results.toList=some v/\(v.frz O).free=true/\(v.frz O).wk (vT r)) Z O
 | .inr _u=>ee=.exit 0/\EE cx (bg [(2,vX 2),(3,vX 3)] [(2,.box [dI a.States,dR1 a.Hood,dR0 a.Nodes]),(3,.box [dI b.States,dR1 b.Hood,dR0 b.Nodes])]) Z O
theorem l_R12_Same_1 (cx:Cx) (hn:cx.n=100) (a b:Tree) {fu:Nat} {stt:Int} {tt:Bool ⊕ Unit} (hh:aY (b_R12_Same_1 a b) fu stt=some tt) {Z:Env} {O:Sto}
  (hE:bl (fun i:Int=>[(2,vX 2),(3,vX 3),(5,vI i)]) (fun _i:Int=>[(2,.box [dI a.States,dR1 a.Hood,dR0 a.Nodes]),(3,.box [dI b.States,dR1 b.Hood,dR0 b.Nodes])]) stt Z O):Swp Tryz.prog cx (.loop (bA [1,1,0,1,0,0] (be Tryz.f48))) Z O (ia cx a b tt):=by
 refine bm hE hh (ia cx a b) ?_
 rintro i r hm Z O hf
 simp only[Fits,b8,b9,and_true] at hf
 unfold b_R12_Same_1 at hm
 exact zz
def F_R12_Same_3 (cx:Cx) (a b:Tree) (i _aG:Int) (_aK:List Int) (_aH:Int) (_aL:List Int) (tt:Bool ⊕ Unit) (ee:Exit) (Z:Env) (O:Sto):Prop:=match tt with
 | .inl r=>ee=.ret/\EE cx (fun Z O=>∃ v,di tb Z O Tryz.f48.results.toList=some v/\(v.frz O).free=true/\(v.frz O).wk (vT r)) Z O
 | .inr _u=>ee=.exit 4/\EE cx (bg [(2,vX 2),(3,vX 3),(6,vI i)] [(2,.box [dI a.States,dR1 a.Hood,dR0 a.Nodes]),(3,.box [dI b.States,dR1 b.Hood,dR0 b.Nodes])]) Z O
theorem l_R12_Same_3 (cx:Cx) (hn:cx.n=100) (a b:Tree) (i aG:Int) (aK:List Int) (aH:Int) (aL:List Int) {fu:Nat} {stt:Int} {tt:Bool ⊕ Unit} (hh:aY (b_R12_Same_3 a b i aG aK aH aL) fu stt=some tt) {Z:Env} {O:Sto}
  (hE:bl (fun s:Int=>[(2,vX 2),(3,vX 3),(6,vI i),(7,vX 7),(8,vX 8),(9,vI s)]) (fun _s:Int=>[(2,.box [dI a.States,dR1 a.Hood,dR0 a.Nodes]),(3,.box [dI b.States,dR1 b.Hood,dR0 b.Nodes]),(7,.box [dI aG,dL aK]),(8,.box [dI aH,dL aL])]) stt Z O):Swp Tryz.prog cx (.loop (bA [1,1,1,0,1,0,0,1,0,0,1,1,1,0,0] (be Tryz.f48))) Z O (F_R12_Same_3 cx a b i aG aK aH aL tt):=by
 refine bm hE hh (F_R12_Same_3 cx a b i aG aK aH aL) ?_
 rintro s r hm Z O hf
 simp only[Fits,b8,b9,and_true] at hf
 unfold b_R12_Same_3 at hm
 exact zz
def F_R12_Same_2 (cx:Cx) (_a _b:Tree) (tt:Bool ⊕ Unit) (ee:Exit) (Z:Env) (O:Sto):Prop:=match tt with
 | .inl r=>ee=.ret/\EE cx (fun Z O=>∃ v,di tb Z O Tryz.f48.results.toList=some v/\(v.frz O).free=true/\(v.frz O).wk (vT r)) Z O
 | .inr _u=>ee=.exit 2/\EE cx (bg [] []) Z O
theorem l_R12_Same_2 (cx:Cx) (hn:cx.n=100) (a b:Tree) {fu:Nat} {stt:Int} {tt:Bool ⊕ Unit} (hh:aY (b_R12_Same_2 a b) fu stt=some tt) {Z:Env} {O:Sto}
  (hE:bl (fun i:Int=>[(2,vX 2),(3,vX 3),(6,vI i)]) (fun _i:Int=>[(2,.box [dI a.States,dR1 a.Hood,dR0 a.Nodes]),(3,.box [dI b.States,dR1 b.Hood,dR0 b.Nodes])]) stt Z O):Swp Tryz.prog cx (.loop (bA [1,1,1,0,1,0,0] (be Tryz.f48))) Z O (F_R12_Same_2 cx a b tt):=by
 refine bm hE hh (F_R12_Same_2 cx a b) ?_
 rintro i r hm Z O hf
 simp only[Fits,b8,b9,and_true] at hf
 unfold b_R12_Same_2 at hm
 dsimp only at hm
 refine aS ?_
 refine srs hn ?_
 simp -dsimp [hf]
 rcases aZ hm with ⟨c9,hm⟩ | ⟨c9,hm⟩
 ·refine aV (by simp -dsimp) c9 ?_
  refine aU (aQ (aS (aW ?_)))
  obtain⟨⟨aG,aK,aH,aL⟩,j20,hm⟩:=bnd hm
  refine scE [(2,vX 2),(3,vX 3),(6,vI i),(7,vX 7),(8,vX 8)] [(2,.box [dI a.States,dR1 a.Hood,dR0 a.Nodes]),(3,.box [dI b.States,dR1 b.Hood,dR0 b.Nodes]),(7,.box [dI aG,dL aK]),(8,.box [dI aH,dL aL])] ?_ fun Z O hf=>?_
  ·replace hm:=j20
   clear j20
   refine swp_any mixed (any_or 10 11 (by kernel_rfl) rfl rfl ?_ ?_)
   ·refine any_midp bj [] [0,1,2,3,4,5,6,7,8,9,10,11,12,13] [0,1,2,3,4,5,6,7,8,9,10,11,12,13] 10 13 13 0 [[0,1,2,3,4,5,6,7,8,9],[0,1,2,3,4,5,6,7,8,9],[5,6,7,8,9]] [[7],[8],[]] [] none (by rw[hn]; kernel_rfl) (by dsimp only [fx,eN,adO,rnL,pmL,pk,rnO,rnG,dM,List.cons_append,List.nil_append]<;>exact rfl) cM ?_
    dsimp only [List.take,List.drop,dy,dO,eY,pk,List.cons_append,List.nil_append,List.flatten_cons,List.flatten_nil,cC,cE,List.append_nil]
    obtain⟨x,h10,hm⟩:=bnd hm
    obtain⟨x1,h11,hm⟩:=bnd hm
    simp -dsimp [hf,c9,h10,h11]
    cases hm
    exact EE.here (by simp -dsimp [hf])
   ·refine any_midp bj [] [0,1,2,3,4,5,6,7,8,9,11,10,12,13] [0,1,2,3,4,5,6,7,8,9,11,10,12,13] 10 13 13 0 [[0,1,2,3,4,5,6,7,8,9],[0,1,2,3,4,5,6,7,8,9],[5,6,7,8,9]] [[8],[7],[]] [] none (by rw[hn]; kernel_rfl) (by dsimp only [fx,eN,adO,rnL,pmL,pk,rnO,rnG,dM,List.cons_append,List.nil_append]<;>exact rfl) cM ?_
    dsimp only [List.take,List.drop,dy,dO,eY,pk,List.cons_append,List.nil_append,List.flatten_cons,List.flatten_nil,cC,cE,List.append_nil]
    obtain⟨x,h10,hm⟩:=bnd hm
    obtain⟨x1,h11,hm⟩:=bnd hm
    simp -dsimp [hf,c9,h10,h11]
    cases hm
    exact EE.here (by simp -dsimp [hf])
  ·clear j20
   simp only[Fits,b8,b9,and_true] at hf
   refine aS ?_
   obtain⟨a2,j19,hm⟩:=bnd hm
   refine scE [(2,vX 2),(3,vX 3),(6,vI i),(7,vX 7),(8,vX 8),(81,vT a2)] [(2,.box [dI a.States,dR1 a.Hood,dR0 a.Nodes]),(3,.box [dI b.States,dR1 b.Hood,dR0 b.Nodes]),(7,.box [dI aG,dL aK]),(8,.box [dI aH,dL aL])] ?_ fun Z O hf=>?_
   ·replace hm:=j19
    clear j19
    exact zz
   ·clear j19
    simp only[Fits,b8,b9,and_true] at hf
    rcases aZ hm with ⟨c13,hm⟩ | ⟨c13,hm⟩
    ·exact zz
    ·refine aX (by simp -dsimp [hf]) c13 ?_
     refine aU (aQ ?_)
     refine srs hn ?_
     simp -dsimp
     refine aW ?_
     obtain⟨o_1,g18,hm⟩:=bnd hm
     refine bd (l_R12_Same_3 cx hn a b i aG aK aH aL g18) (by
       try dsimp only
       exact EE.here (by simp -dsimp [hf])
     ) fun ee Z O xx=>?_
     rcases o_1 with r | _u
     ·exact zz
     ·exact zz
 ·exact zz
theorem c_R12_Same (a b:Tree) (r:Bool) (hm:m_R12_Same a b=some r):PureCall Tryz.prog 48 [.u (.agg [dI a.States,dR1 a.Hood,dR0 a.Nodes]),.u (.agg [dI b.States,dR1 b.Hood,dR0 b.Nodes])] (vT r):=by
 refine bo Tryz.func48 Tryz.ntmps48 fun cx hn=>?_
 unfold m_R12_Same at hm
 refine srs hn ?_
 simp -dsimp
 refine aS ?_
 obtain⟨a1,j22,hm⟩:=bnd hm
 refine scE [(2,vX 2),(3,vX 3),(32,vT a1)] [(2,.box [dI a.States,dR1 a.Hood,dR0 a.Nodes]),(3,.box [dI b.States,dR1 b.Hood,dR0 b.Nodes])] ?_ fun Z O hf=>?_
 ·replace hm:=j22
  clear j22
  exact zz
 ·clear j22
  simp only[Fits,b8,b9,and_true] at hf
  rcases aZ hm with ⟨c3,hm⟩ | ⟨c3,hm⟩
  ·exact zz
  ·refine aX (by simp -dsimp [hf]) c3 ?_
   refine aU (aQ (aS ?_))
   refine srs hn ?_
   simp -dsimp
   refine aW ?_
   obtain⟨o_,g8,hm⟩:=bnd hm
   refine bd (l_R12_Same_1 cx hn a b g8) (by
     try dsimp only
     exact EE.here (by simp -dsimp [hf])
   ) fun ee Z O xx=>?_
   rcases o_ with r | _u
   ·exact zz
   ·unfold ia at xx
    dsimp only at xx
    obtain⟨rfl,xx⟩:=xx
    refine bh ?_
    refine aQ ?_
    refine see xx fun Z O hf=>?_
    simp only[Fits,b8,b9,and_true] at hf
    refine aS ?_
    refine srs hn ?_
    simp -dsimp
    refine aW ?_
    obtain⟨o_1,g21,hm⟩:=bnd hm
    refine bd (l_R12_Same_2 cx hn a b g21) (by
      try dsimp only
      exact EE.here (by simp -dsimp [hf])
    ) fun ee Z O xx=>?_
    rcases o_1 with r | _u
    ·exact zz
    ·exact zz
def e9 (rcv:(Tree->(List Int)->Int->(List Tree)->(List Node)->Option (Int×(List Tree)×(List Node)))):Prop:=∀ (f:Tree) (order:List Int) (i:Int) (keys:List Tree) (out:List Node) (r:Int×(List Tree)×(List Node)),rcv f order i keys out=some r->GFn Tryz.prog 45 [.u (.agg [dI f.States,dR1 f.Hood,dR0 f.Nodes]),vO 1000000,vI i,vO 1000001,vO 1000002] [.row 1 3 (List.map (rI .i64) order),.row 3 25 (List.map Tree.row keys),.row 2 32 (List.map Node.row out)] (.tup [.one (dI r.1),.one (.own 1000003),.one (.own 1000004)]) [some (.row 1 3 (List.map (rI .i64) order)),none,none,some (.row 3 25 (List.map Tree.row r.2.1)),some (.row 2 32 (List.map Node.row r.2.2))]
def ca (cx:Cx) (f:Tree) (order:List Int) (i:Int) (keys:List Tree) (out:List Node) (tt:(Int×(List Tree)×(List Node)) ⊕ Unit) (ee:Exit) (Z:Env) (O:Sto):Prop:=match tt with
 | .inl r=>ee=.ret/\EE cx (fun Z O=>∃ v,di tb Z O Tryz.f45.results.toList=some v/\(v.frzL O).wk (.tup [.one (dI r.1),.one (.own 1000003),.one (.own 1000004)])/\goutL inBase [some (.row 1 3 (List.map (rI .i64) order)),none,none,some (.row 3 25 (List.map Tree.row r.2.1)),some (.row 2 32 (List.map Node.row r.2.2))] O) Z O
 | .inr _u=>ee=.exit 0/\EE cx (bg [(1,vO 1000000),(2,vI i),(3,vO 1000001),(4,vO 1000002),(5,vX 5),(13,vI (bc .i64 (aT order) i))] [(5,.box [dI f.States,dR1 f.Hood,dR0 f.Nodes]),(1000000,.row 1 3 (List.map (rI .i64) order)),(1000001,.row 3 25 (List.map Tree.row keys)),(1000002,.row 2 32 (List.map Node.row out))]) Z O
theorem l_R13_expand_o_o_o_1 (cx:Cx) (hn:cx.n=107) (hk:cx.k=3) (f:Tree) (order:List Int) (i:Int) (keys:List Tree) (out:List Node) {fu:Nat} {stt:Int} {tt:(Int×(List Tree)×(List Node)) ⊕ Unit} (hh:aY (b_R13_expand_o_o_o_1 f order i keys out) fu stt=some tt) {Z:Env} {O:Sto}
  (hE:bl (fun k:Int=>[(1,vO 1000000),(2,vI i),(3,vO 1000001),(4,vO 1000002),(5,vX 5),(13,vI (bc .i64 (aT order) i)),(14,vI k)]) (fun _k:Int=>[(5,.box [dI f.States,dR1 f.Hood,dR0 f.Nodes]),(1000000,.row 1 3 (List.map (rI .i64) order)),(1000001,.row 3 25 (List.map Tree.row keys)),(1000002,.row 2 32 (List.map Node.row out))]) stt Z O):Swp Tryz.prog cx (.loop (bA [1,1,1,0,1,0,0] (be Tryz.f45))) Z O (ca cx f order i keys out tt):=by
 refine bm hE hh (ca cx f order i keys out) ?_
 rintro k r hm Z O hf
 simp only[Fits,b8,b9,and_true] at hf
 unfold b_R13_expand_o_o_o_1 at hm
 dsimp only at hm
 refine aS ?_
 refine srs hn ?_
 simp -dsimp [hf]
 rcases aZ hm with ⟨c4,hm⟩ | ⟨c4,hm⟩
 ·refine aV (by simp -dsimp) c4 ?_
  refine aU (aQ (aS (aW ?_)))
  obtain⟨a,j10,hm⟩:=bnd hm
  refine scE [(1,vO 1000000),(2,vI i),(3,vO 1000001),(4,vO 1000002),(5,vX 5),(13,vI (bc .i64 (aT order) i)),(14,vI k),(55,vT a)] [(5,.box [dI f.States,dR1 f.Hood,dR0 f.Nodes]),(1000000,.row 1 3 (List.map (rI .i64) order)),(1000001,.row 3 25 (List.map Tree.row keys)),(1000002,.row 2 32 (List.map Node.row out))] ?_ fun Z O hf=>?_
  ·replace hm:=j10
   clear j10
   refine sw_qt bj mixed (by rw[hn]; kernel_rfl) ?_
   obtain⟨x,h5,hm⟩:=bnd hm
   rcases aZ hm with ⟨c6,hm⟩ | ⟨c6,hm⟩
   ·obtain⟨x1,h7,hm⟩:=bnd hm
    obtain⟨y,h8,hm⟩:=bnd hm
    simp -dsimp [hf,c4,h5,bf h5,c6,h7,bf h7]
    refine b7 (c_R12_Same x1 f y h8) ?_
    exact zz
   ·simp -dsimp [hf,c4,h5,bf h5,c6]
    cases hm
    exact EE.here (by simp -dsimp [hf])
  ·clear j10
   simp only[Fits,b8,b9,and_true] at hf
   rcases aZ hm with ⟨c9,hm⟩ | ⟨c9,hm⟩
   ·refine aV (by simp -dsimp [hf]) c9 ?_
    refine srs hn ?_
    simp -dsimp [hf]
    refine bb (blk_r (bS ?_))
    cases hm
    refine rd_out nofun ?_
    unfold ca
    dsimp only
    refine⟨rfl,?_⟩
    refine emr 1000001 1000003 hk ?_
    refine emr 1000002 1000004 hk ?_
    exact zz
   ·exact zz
 ·exact zz
def dq (cx:Cx) (_rcv:(Tree->(List Int)->Int->(List Tree)->(List Node)->Option (Int×(List Tree)×(List Node)))) (f:Tree) (order:List Int) (i:Int) (_out:List Node) (tt:((List Tree)×(List Node)×(List Int))) (ee:Exit) (Z:Env) (O:Sto):Prop:=match tt with
 | (keys1,out1,l)=>ee=.exit 2/\EE cx (bg [(3,vO 5004),(4,vO 5005),(5,vX 5),(15,vX 15)] [(5,.box [dI f.States,dR1 f.Hood,dR0 f.Nodes]),(15,.box [dI (bc .i64 (aT order) i),.own 5006]),(5004,.row 3 25 (List.map Tree.row keys1)),(5005,.row 2 32 (List.map Node.row out1)),(5006,.row 1 3 (List.map (rI .i64) l)),(1000000,.row 1 3 (List.map (rI .i64) order))]) Z O
theorem l_R13_expand_o_o_o_2 (cx:Cx) (hn:cx.n=107) (_hk:cx.k=3) (rcv:(Tree->(List Int)->Int->(List Tree)->(List Node)->Option (Int×(List Tree)×(List Node)))) (f:Tree) (order:List Int) (i:Int) (out:List Node) (aI:e9 rcv) {fu:Nat} {stt:Int×(List Tree)×(List Node)×(List Int)} {tt:((List Tree)×(List Node)×(List Int))} (hh:aY (b_R13_expand_o_o_o_2 rcv f order i out) fu stt=some tt) {Z:Env} {O:Sto}
  (hE:bl (fun stt:Int×(List Tree)×(List Node)×(List Int)=>match stt with | (s,_keys1,_out1,_l)=>[(1,vO 1000000),(2,vI i),(3,vO 5004),(4,vO 5005),(5,vX 5),(15,vX 15),(16,vI s)]) (fun stt:Int×(List Tree)×(List Node)×(List Int)=>match stt with | (_s,keys1,out1,l)=>[(5,.box [dI f.States,dR1 f.Hood,dR0 f.Nodes]),(15,.box [dI (bc .i64 (aT order) i),.own 5006]),(5004,.row 3 25 (List.map Tree.row keys1)),(5005,.row 2 32 (List.map Node.row out1)),(5006,.row 1 3 (List.map (rI .i64) l)),(1000000,.row 1 3 (List.map (rI .i64) order))]) stt Z O):Swp Tryz.prog cx (.loop (bA [1,1,1,1,1,0,1,0,0] (be Tryz.f45))) Z O (dq cx rcv f order i out tt):=by
 refine bm hE hh (dq cx rcv f order i out) ?_
 rintro⟨s,keys1,out1,l⟩ r hm Z O hf
 simp only[Fits,b8,b9,and_true] at hf
 unfold b_R13_expand_o_o_o_2 at hm
 dsimp only at hm
 refine aS ?_
 refine srs hn ?_
 simp -dsimp [hf]
 rcases aZ hm with ⟨c12,hm⟩ | ⟨c12,hm⟩
 ·refine aV (by simp -dsimp) c12 ?_
  refine aU (aQ (aS (aW ?_)))
  refine f9 bj mixed 10 12 12 0 [[0,1,2,3,4,5,6,7,8,9],[9]] [[17],[]] [] none (by rw[hn]; kernel_rfl) cM ?_
  dsimp only [List.take,List.drop,dy,dO,eY,pk,List.cons_append,List.nil_append,List.flatten_cons,List.flatten_nil,cC,cE,List.append_nil]
  obtain⟨x,h13,hm⟩:=bnd hm
  obtain⟨y,h14,hm⟩:=bnd hm
  simp -dsimp [hf,c12,h13,bf h13]
  refine b7 (c_R13_Fix f x s y h14) ?_
  simp -dsimp [hf,h13,bf h13]
  refine b7 (c_R13_Fix f x s y h14) ?_
  simp -dsimp
  refine srs hn ?_
  simp -dsimp
  refine srs hn ?_
  obtain⟨y1,h15,hm⟩:=bnd hm
  simp -dsimp [hf]
  refine clg (aI y.1 order (bq .i64 i 1) keys1 out1 y1 h15) [1000000,5004,5005] [5002,5003] (by simp -dsimp [hf]) (dkL hn) ?_
  simp -dsimp
  refine sr1 hn ?_
  obtain⟨l1,h16,hm⟩:=bnd hm
  obtain⟨h16a,h16e⟩:=b6 h16
  replace h16e:=h16e.symm
  subst h16e
  try simp only[List.length_cons,List.length_nil,Nat.zero_add] at h16a
  simp -dsimp [hf,h16a]
  refine bv ?_
  refine aQ ?_
  refine sr1 hn ?_
  simp -dsimp [hf]
  cases hm
  refine bE ?_
  refine emv 5002 5004 ?_
  refine emv 5003 5005 ?_
  refine emv 92 5006 ?_
  exact zz
 ·exact zz
theorem fb_R13_expand_o_o_o (rcv:(Tree->(List Int)->Int->(List Tree)->(List Node)->Option (Int×(List Tree)×(List Node)))) (aI:e9 rcv) (f:Tree) (order:List Int) (i:Int) (keys:List Tree) (out:List Node) (r:Int×(List Tree)×(List Node)) (hm:mb_R13_expand_o_o_o rcv f order i keys out=some r):GFn Tryz.prog 45 [.u (.agg [dI f.States,dR1 f.Hood,dR0 f.Nodes]),vO 1000000,vI i,vO 1000001,vO 1000002] [.row 1 3 (List.map (rI .i64) order),.row 3 25 (List.map Tree.row keys),.row 2 32 (List.map Node.row out)] (.tup [.one (dI r.1),.one (.own 1000003),.one (.own 1000004)]) [some (.row 1 3 (List.map (rI .i64) order)),none,none,some (.row 3 25 (List.map Tree.row r.2.1)),some (.row 2 32 (List.map Node.row r.2.2))]:=by
 refine bI bj _ Tryz.func45 rfl (by kernel_rfl) (by simp[Tryz.ntmps45]) (by simp) (by first | rfl | simp) (by first | rfl | simp) fun cx hn hk=>?_
 replace hn:cx.n=107:=hn.trans Tryz.ntmps45
 replace hk:cx.k=3:=hk
 unfold mb_R13_expand_o_o_o at hm
 refine srs hn ?_
 simp -dsimp
 refine aS ?_
 refine srs hn ?_
 simp -dsimp
 rcases aZ hm with ⟨c1,hm⟩ | ⟨c1,hm⟩
 ·refine sct c1 ?_
  refine f9 bj mixed 3 4 9 0 [[0]] [[27]] [true,false,false,true,true] none (by rw[hn]; kernel_rfl) cM ?_
  dsimp only [List.take,List.drop,dy,dO,eY,pk,List.cons_append,List.nil_append,List.flatten_cons,List.flatten_nil,cC,cE,List.append_nil]
  obtain⟨l,h2,hm⟩:=bnd hm
  obtain⟨⟨h2a,h2b,h2c⟩,rfl⟩:=gO h2
  obtain⟨y,h3,hm⟩:=bnd hm
  simp -dsimp [c1,h2a,h2c]
  refine qcallL_brw (us':=[.u (.agg [dI f.States,dR1 f.Hood,dR0 f.Nodes]),.u (.one (dL (List.replicate (aT order).toNat 0)))]) (c_R12_Value f (List.replicate (aT order).toNat 0) y h3) (by simp -dsimp) rfl ?_
  simp -dsimp
  refine bb (bS ?_)
  cases hm
  refine⟨.inr rfl,?_⟩
  refine emr 1000001 1000003 hk ?_
  refine emr 1000002 1000004 hk ?_
  exact zz
 ·refine scf c1 ?_
  refine aU (aQ ?_)
  refine srs hn ?_
  simp -dsimp [c1]
  refine aS ?_
  refine srs hn ?_
  simp -dsimp
  refine aW ?_
  obtain⟨o_,g11,hm⟩:=bnd hm
  refine bd (l_R13_expand_o_o_o_1 cx hn hk f order i keys out g11) (by
    try dsimp only
    exact EE.here (by simp -dsimp)
  ) fun ee Z O xx=>?_
  rcases o_ with r | _u
  ·unfold ca at xx
   dsimp only at xx
   obtain⟨rfl,xx⟩:=xx
   refine blk_r (bS ?_)
   cases hm
   refine⟨.inr rfl,?_⟩
   first | exact xx | exact xx.mono fun Z O h=>by simpa -dsimp using h
  ·unfold ca at xx
   dsimp only at xx
   obtain⟨rfl,xx⟩:=xx
   refine bh ?_
   refine aQ ?_
   refine see xx fun Z O hf=>?_
   simp only[Fits,b8,b9,and_true] at hf
   refine srs hn ?_
   simp -dsimp [hf]
   refine aS ?_
   refine srs hn ?_
   simp -dsimp
   refine aW ?_
   obtain⟨⟨keys1,out1,l⟩,g17,hm⟩:=bnd hm
   refine bd (l_R13_expand_o_o_o_2 cx hn hk rcv f order i out aI g17) (by
     try dsimp only
     refine emv 1000001 5004 ?_
     refine emv 1000002 5005 ?_
     refine EE.step (Wk.own0b 15 1 5006 1 3 [dI (bc .i64 (aT order) i),.d .nil] (by simp -dsimp) (by rfl) (by decide) (by decide)) ?_
     exact zz
   ) fun ee Z O xx=>?_
   unfold dq at xx
   dsimp only at xx
   obtain⟨rfl,xx⟩:=xx
   refine bh ?_
   refine aQ ?_
   refine see xx fun Z O hf=>?_
   simp only[Fits,b8,b9,and_true] at hf
   refine srs hn ?_
   obtain⟨l1,h18,hm⟩:=bnd hm
   obtain⟨h18a,h18e⟩:=b6 h18
   replace h18e:=h18e.symm
   subst h18e
   try simp only[List.length_cons,List.length_nil,Nat.zero_add] at h18a
   simp -dsimp [hf,h18a]
   refine Swp.pre (Wk.frz 5006 1 3 (List.map (rI .i64) l) (by simp -dsimp [hf])) ?_
   refine srs hn ?_
   obtain⟨l2,h19,hm⟩:=bnd hm
   obtain⟨h19a,h19e⟩:=b6 h19
   replace h19e:=h19e.symm
   subst h19e
   try simp only[List.length_cons,List.length_nil,Nat.zero_add] at h19a
   simp -dsimp [hf,h19a]
   refine srs hn ?_
   simp -dsimp
   refine bb ?_
   cases hm
   refine⟨.inr rfl,?_⟩
   refine emr 97 1000003 hk ?_
   refine emr 101 1000004 hk ?_
   exact zz
theorem g_R13_expand_o_o_o (f:Tree) (order:List Int) (i:Int) (keys:List Tree) (out:List Node) (r:Int×(List Tree)×(List Node)) (hm:m_R13_expand_o_o_o f order i keys out=some r):GFn Tryz.prog 45 [.u (.agg [dI f.States,dR1 f.Hood,dR0 f.Nodes]),vO 1000000,vI i,vO 1000001,vO 1000002] [.row 1 3 (List.map (rI .i64) order),.row 3 25 (List.map Tree.row keys),.row 2 32 (List.map Node.row out)] (.tup [.one (dI r.1),.one (.own 1000003),.one (.own 1000004)]) [some (.row 1 3 (List.map (rI .i64) order)),none,none,some (.row 3 25 (List.map Tree.row r.2.1)),some (.row 2 32 (List.map Node.row r.2.2))]:=eC e9 (by intro _; intro _; intro _; intro _; intro _; intro _; intro hm; cases hm) fb_R13_expand_o_o_o fg f order i keys out r hm
def gg (rcv:(Tree->(List Int)->Int->Option (Int×(List Tree)×(List Node)))):Prop:=∀ (f:Tree) (order:List Int) (i:Int) (r:Int×(List Tree)×(List Node)),rcv f order i=some r->GFn Tryz.prog 45 [.u (.agg [dI f.States,dR1 f.Hood,dR0 f.Nodes]),vO 1000000,vI i,.u (.one (.d .nil)),.u (.one (.d .nil))] [.row 1 3 (List.map (rI .i64) order)] (.tup [.one (dI r.1),.one (.own 1000001),.one (.own 1000002)]) [some (.row 1 3 (List.map (rI .i64) order)),some (.row 3 25 (List.map Tree.row r.2.1)),some (.row 2 32 (List.map Node.row r.2.2))]
def cD (cx:Cx) (f:Tree) (order:List Int) (i:Int) (tt:Unit) (ee:Exit) (Z:Env) (O:Sto):Prop:=match tt with
 | _u=>ee=.exit 0/\EE cx (bg [(1,vO 1000000),(2,vI i),(3,.u (.one (.d .nil))),(4,.u (.one (.d .nil))),(5,vX 5),(13,vI (bc .i64 (aT order) i))] [(5,.box [dI f.States,dR1 f.Hood,dR0 f.Nodes]),(1000000,.row 1 3 (List.map (rI .i64) order))]) Z O
theorem l_R13_expand_o_N_N_1 (cx:Cx) (hn:cx.n=107) (_hk:cx.k=1) (f:Tree) (order:List Int) (i:Int) {fu:Nat} {stt:Unit} {tt:Unit} (hh:aY (b_R13_expand_o_N_N_1 f order i) fu stt=some tt) {Z:Env} {O:Sto}
  (hE:bl (fun _u:Unit=>[(1,vO 1000000),(2,vI i),(3,.u (.one (.d .nil))),(4,.u (.one (.d .nil))),(5,vX 5),(13,vI (bc .i64 (aT order) i)),(14,vI 0)]) (fun _u:Unit=>[(5,.box [dI f.States,dR1 f.Hood,dR0 f.Nodes]),(1000000,.row 1 3 (List.map (rI .i64) order))]) stt Z O):Swp Tryz.prog cx (.loop (bA [1,1,1,0,1,0,0] (be Tryz.f45))) Z O (cD cx f order i tt):=by
 refine bm hE hh (cD cx f order i) ?_
 rintro _u r hm Z O hf
 simp only[Fits,b8,b9,and_true] at hf
 unfold b_R13_expand_o_N_N_1 at hm
 dsimp only at hm
 refine aS ?_
 refine srs hn ?_
 simp -dsimp [hf]
 rcases aZ hm with ⟨c4,hm⟩ | ⟨c4,hm⟩
 ·refine aV (by simp -dsimp) c4 ?_
  cases hm
 ·refine aX (by simp -dsimp) c4 ?_
  refine swp_exit ?_
  refine bS ?_
  cases hm
  refine rd_out nofun ?_
  exact⟨rfl,EE.here (by simp -dsimp [hf,c4])⟩
def du (cx:Cx) (f:Tree) (order:List Int) (i:Int) (tt:((List Tree)×(List Node)×(List Int))) (ee:Exit) (Z:Env) (O:Sto):Prop:=match tt with
 | (keys,out,l)=>ee=.exit 2/\EE cx (bg [(3,vO 5004),(4,vO 5005),(5,vX 5),(15,vX 15)] [(5,.box [dI f.States,dR1 f.Hood,dR0 f.Nodes]),(15,.box [dI (bc .i64 (aT order) i),.own 5006]),(5004,.row 3 25 (List.map Tree.row keys)),(5005,.row 2 32 (List.map Node.row out)),(5006,.row 1 3 (List.map (rI .i64) l)),(1000000,.row 1 3 (List.map (rI .i64) order))]) Z O
theorem l_R13_expand_o_N_N_2 (cx:Cx) (hn:cx.n=107) (_hk:cx.k=1) (f:Tree) (order:List Int) (i:Int) {fu:Nat} {stt:Int×(List Tree)×(List Node)×(List Int)} {tt:((List Tree)×(List Node)×(List Int))} (hh:aY (b_R13_expand_o_N_N_2 f order i) fu stt=some tt) {Z:Env} {O:Sto}
  (hE:bl (fun stt:Int×(List Tree)×(List Node)×(List Int)=>match stt with | (s,_keys,_out,_l)=>[(1,vO 1000000),(2,vI i),(3,vO 5004),(4,vO 5005),(5,vX 5),(15,vX 15),(16,vI s)]) (fun stt:Int×(List Tree)×(List Node)×(List Int)=>match stt with | (_s,keys,out,l)=>[(5,.box [dI f.States,dR1 f.Hood,dR0 f.Nodes]),(15,.box [dI (bc .i64 (aT order) i),.own 5006]),(5004,.row 3 25 (List.map Tree.row keys)),(5005,.row 2 32 (List.map Node.row out)),(5006,.row 1 3 (List.map (rI .i64) l)),(1000000,.row 1 3 (List.map (rI .i64) order))]) stt Z O):Swp Tryz.prog cx (.loop (bA [1,1,1,1,1,0,1,0,0] (be Tryz.f45))) Z O (du cx f order i tt):=by
 refine bm hE hh (du cx f order i) ?_
 rintro⟨s,keys,out,l⟩ r hm Z O hf
 simp only[Fits,b8,b9,and_true] at hf
 unfold b_R13_expand_o_N_N_2 at hm
 dsimp only at hm
 refine aS ?_
 refine srs hn ?_
 simp -dsimp [hf]
 rcases aZ hm with ⟨c6,hm⟩ | ⟨c6,hm⟩
 ·refine aV (by simp -dsimp) c6 ?_
  refine aU (aQ (aS (aW ?_)))
  refine f9 bj mixed 10 12 12 0 [[0,1,2,3,4,5,6,7,8,9],[9]] [[17],[]] [] none (by rw[hn]; kernel_rfl) cM ?_
  dsimp only [List.take,List.drop,dy,dO,eY,pk,List.cons_append,List.nil_append,List.flatten_cons,List.flatten_nil,cC,cE,List.append_nil]
  obtain⟨x,h7,hm⟩:=bnd hm
  obtain⟨y,h8,hm⟩:=bnd hm
  simp -dsimp [hf,c6,h7,bf h7]
  refine b7 (c_R13_Fix f x s y h8) ?_
  simp -dsimp [hf,h7,bf h7]
  refine b7 (c_R13_Fix f x s y h8) ?_
  simp -dsimp
  refine srs hn ?_
  simp -dsimp
  refine srs hn ?_
  obtain⟨y1,h9,hm⟩:=bnd hm
  simp -dsimp [hf]
  refine clg (g_R13_expand_o_o_o y.1 order (bq .i64 i 1) keys out y1 h9) [1000000,5004,5005] [5002,5003] (by simp -dsimp [hf]) (dkL hn) ?_
  simp -dsimp
  refine sr1 hn ?_
  obtain⟨l1,h10,hm⟩:=bnd hm
  obtain⟨h10a,h10e⟩:=b6 h10
  replace h10e:=h10e.symm
  subst h10e
  try simp only[List.length_cons,List.length_nil,Nat.zero_add] at h10a
  simp -dsimp [hf,h10a]
  refine bv ?_
  refine aQ ?_
  refine sr1 hn ?_
  simp -dsimp [hf]
  cases hm
  refine bE ?_
  refine emv 5002 5004 ?_
  refine emv 5003 5005 ?_
  refine emv 92 5006 ?_
  exact zz
 ·exact zz
theorem fb_R13_expand_o_N_N (rcv:(Tree->(List Int)->Int->Option (Int×(List Tree)×(List Node)))) (_aI:gg rcv) (f:Tree) (order:List Int) (i:Int) (r:Int×(List Tree)×(List Node)) (hm:mb_R13_expand_o_N_N rcv f order i=some r):GFn Tryz.prog 45 [.u (.agg [dI f.States,dR1 f.Hood,dR0 f.Nodes]),vO 1000000,vI i,.u (.one (.d .nil)),.u (.one (.d .nil))] [.row 1 3 (List.map (rI .i64) order)] (.tup [.one (dI r.1),.one (.own 1000001),.one (.own 1000002)]) [some (.row 1 3 (List.map (rI .i64) order)),some (.row 3 25 (List.map Tree.row r.2.1)),some (.row 2 32 (List.map Node.row r.2.2))]:=by
 refine bI bj _ Tryz.func45 rfl (by kernel_rfl) (by simp[Tryz.ntmps45]) (by simp) (by first | rfl | simp) (by first | rfl | simp) fun cx hn hk=>?_
 replace hn:cx.n=107:=hn.trans Tryz.ntmps45
 replace hk:cx.k=1:=hk
 unfold mb_R13_expand_o_N_N at hm
 refine srs hn ?_
 simp -dsimp
 refine aS ?_
 refine srs hn ?_
 simp -dsimp
 rcases aZ hm with ⟨c1,hm⟩ | ⟨c1,hm⟩
 ·refine sct c1 ?_
  refine f9 bj mixed 3 4 9 0 [[0]] [[27]] [true,false,false,true,true] none (by rw[hn]; kernel_rfl) cM ?_
  dsimp only [List.take,List.drop,dy,dO,eY,pk,List.cons_append,List.nil_append,List.flatten_cons,List.flatten_nil,cC,cE,List.append_nil]
  obtain⟨l,h2,hm⟩:=bnd hm
  obtain⟨⟨h2a,h2b,h2c⟩,rfl⟩:=gO h2
  obtain⟨y,h3,hm⟩:=bnd hm
  simp -dsimp [c1,h2a,h2c]
  refine qcallL_brw (us':=[.u (.agg [dI f.States,dR1 f.Hood,dR0 f.Nodes]),.u (.one (dL (List.replicate (aT order).toNat 0)))]) (c_R12_Value f (List.replicate (aT order).toNat 0) y h3) (by simp -dsimp) rfl ?_
  simp -dsimp
  refine bb (bS ?_)
  cases hm
  refine⟨.inr rfl,?_⟩
  refine emr 5000 1000001 hk ?_
  refine emr 5001 1000002 hk ?_
  refine EE.step (Wk.own0 11 5000 3 25 (by simp -dsimp) (by decide)) ?_
  refine emr 5000 1000001 hk ?_
  refine EE.step (Wk.own0 12 5001 2 32 (by simp -dsimp) (by decide)) ?_
  refine emr 5001 1000002 hk ?_
  exact zz
 ·refine scf c1 ?_
  refine aU (aQ ?_)
  refine srs hn ?_
  simp -dsimp [c1]
  refine aS ?_
  refine srs hn ?_
  simp -dsimp
  refine aW ?_
  obtain⟨_u,g5,hm⟩:=bnd hm
  refine bd (l_R13_expand_o_N_N_1 cx hn hk f order i g5) (by
    try dsimp only
    exact EE.here (by simp -dsimp)
  ) fun ee Z O xx=>?_
  unfold cD at xx
  dsimp only at xx
  obtain⟨rfl,xx⟩:=xx
  refine bh ?_
  refine aQ ?_
  refine see xx fun Z O hf=>?_
  simp only[Fits,b8,b9,and_true] at hf
  refine srs hn ?_
  simp -dsimp [hf]
  refine aS ?_
  refine srs hn ?_
  simp -dsimp
  refine aW ?_
  obtain⟨⟨keys,out,l⟩,g11,hm⟩:=bnd hm
  refine bd (l_R13_expand_o_N_N_2 cx hn hk f order i g11) (by
    try dsimp only
    refine EE.step (Wk.own0 3 5004 3 25 (by simp -dsimp [hf]) (by decide)) ?_
    refine EE.step (Wk.own0 4 5005 2 32 (by simp -dsimp [hf]) (by decide)) ?_
    refine EE.step (Wk.own0b 15 1 5006 1 3 [dI (bc .i64 (aT order) i),.d .nil] (by simp -dsimp) (by rfl) (by decide) (by decide)) ?_
    exact zz
  ) fun ee Z O xx=>?_
  unfold du at xx
  dsimp only at xx
  obtain⟨rfl,xx⟩:=xx
  refine bh ?_
  refine aQ ?_
  refine see xx fun Z O hf=>?_
  simp only[Fits,b8,b9,and_true] at hf
  refine srs hn ?_
  obtain⟨l1,h12,hm⟩:=bnd hm
  obtain⟨h12a,h12e⟩:=b6 h12
  replace h12e:=h12e.symm
  subst h12e
  try simp only[List.length_cons,List.length_nil,Nat.zero_add] at h12a
  simp -dsimp [hf,h12a]
  refine Swp.pre (Wk.frz 5006 1 3 (List.map (rI .i64) l) (by simp -dsimp [hf])) ?_
  refine srs hn ?_
  obtain⟨l2,h13,hm⟩:=bnd hm
  obtain⟨h13a,h13e⟩:=b6 h13
  replace h13e:=h13e.symm
  subst h13e
  try simp only[List.length_cons,List.length_nil,Nat.zero_add] at h13a
  simp -dsimp [hf,h13a]
  refine srs hn ?_
  simp -dsimp
  refine bb ?_
  cases hm
  refine⟨.inr rfl,?_⟩
  refine emr 97 1000001 hk ?_
  refine emr 101 1000002 hk ?_
  exact zz
theorem g_R13_expand_o_N_N (f:Tree) (order:List Int) (i:Int) (r:Int×(List Tree)×(List Node)) (hm:m_R13_expand_o_N_N f order i=some r):GFn Tryz.prog 45 [.u (.agg [dI f.States,dR1 f.Hood,dR0 f.Nodes]),vO 1000000,vI i,.u (.one (.d .nil)),.u (.one (.d .nil))] [.row 1 3 (List.map (rI .i64) order)] (.tup [.one (dI r.1),.one (.own 1000001),.one (.own 1000002)]) [some (.row 1 3 (List.map (rI .i64) order)),some (.row 3 25 (List.map Tree.row r.2.1)),some (.row 2 32 (List.map Node.row r.2.2))]:=eC gg (by intro _; intro _; intro _; intro _; intro hm; cases hm) fb_R13_expand_o_N_N fg f order i r hm
end Go.Proofs.YtcllfealpkhjfaaGreatDoor
namespace Go.Proofs.YtcllfealpkhjfaaGreatDoor
open Go.AM Go.Proofs
set_option maxRecDepth 100000
attribute [-simp] qlookup cd cW Ob.wipe Ob.ren Ob.frz1
def hP (cx:Cx) (_k:Int) (t:Tree) (tt:(List Point)) (ee:Exit) (Z:Env) (O:Sto):Prop:=match tt with
 | images=>ee=.exit 0/\EE cx (bg [(3,vX 3),(4,vX 4),(6,vO 5000)] [(3,.box [dI t.States,dR1 t.Hood,dR0 t.Nodes]),(4,.box [dI 0,.d .nil,.d .nil]),(5000,.row 2 67 (List.map Point.row images))]) Z O
theorem l_R13_Turn_1 (cx:Cx) (hn:cx.n=82) (k:Int) (t:Tree) {fu:Nat} {stt:Int×(List Point)} {tt:(List Point)} (hh:aY (b_R13_Turn_1 k t) fu stt=some tt) {Z:Env} {O:Sto}
  (hE:bl (fun stt:Int×(List Point)=>match stt with | (i,_images)=>[(0,vI k),(3,vX 3),(4,vX 4),(6,vO 5000),(7,vI i)]) (fun stt:Int×(List Point)=>match stt with | (_i,images)=>[(3,.box [dI t.States,dR1 t.Hood,dR0 t.Nodes]),(4,.box [dI 0,.d .nil,.d .nil]),(5000,.row 2 67 (List.map Point.row images))]) stt Z O):Swp Tryz.prog cx (.loop (bA [1,1,1,0,1,0,0] (be Tryz.f16))) Z O (hP cx k t tt):=by
 refine bm hE hh (hP cx k t) ?_
 rintro⟨i,images⟩ r hm Z O hf
 simp only[Fits,b8,b9,and_true] at hf
 unfold b_R13_Turn_1 at hm
 dsimp only at hm
 refine aS ?_
 refine srs hn ?_
 simp -dsimp [hf]
 rcases aZ hm with ⟨c3,hm⟩ | ⟨c3,hm⟩
 ·refine aV (by simp -dsimp) c3 ?_
  refine aU (aQ (aS (aW ?_)))
  refine sr1 hn ?_
  obtain⟨x,h4,hm⟩:=bnd hm
  obtain⟨y1,h5,hm⟩:=bnd hm
  simp -dsimp [hf,c3,h4]
  refine aR (c_R04_Apply k x y1 h5) (dkL hn) ?_
  obtain⟨l,h6,hm⟩:=bnd hm
  obtain⟨h6a,h6e⟩:=b6 h6
  replace h6e:=h6e.symm
  subst h6e
  try simp only[List.length_cons,List.length_nil,Nat.zero_add] at h6a
  simp -dsimp [hf,h6a]
  refine bv ?_
  refine aQ ?_
  refine sr1 hn ?_
  simp -dsimp [hf]
  cases hm
  refine bE ?_
  refine emv 35 5000 ?_
  exact zz
 ·exact zz
def F_R13_Turn_3 (cx:Cx) (t:Tree) (images y1:List Point) (i:Int) (tt:(List Int)) (ee:Exit) (Z:Env) (O:Sto):Prop:=match tt with
 | aF=>ee=.exit 4/\EE cx (bg [(3,vX 3),(4,vX 4),(6,.u (.one (dR1 images))),(8,.u (.one (dR1 y1))),(9,vO 5001),(10,vI i)] [(3,.box [dI t.States,dR1 t.Hood,dR0 t.Nodes]),(4,.box [dI 0,.d .nil,.d .nil]),(5001,.row 1 3 (List.map (rI .i64) aF))]) Z O
theorem l_R13_Turn_3 (cx:Cx) (hn:cx.n=82) (t:Tree) (images y1:List Point) (i:Int) {fu:Nat} {stt:Int×(List Int)} {tt:(List Int)} (hh:aY (b_R13_Turn_3 t images y1 i) fu stt=some tt) {Z:Env} {O:Sto}
  (hE:bl (fun stt:Int×(List Int)=>match stt with | (jv,_aF)=>[(3,vX 3),(4,vX 4),(6,.u (.one (dR1 images))),(8,.u (.one (dR1 y1))),(9,vO 5001),(10,vI i),(11,vI jv)]) (fun stt:Int×(List Int)=>match stt with | (_jv,aF)=>[(3,.box [dI t.States,dR1 t.Hood,dR0 t.Nodes]),(4,.box [dI 0,.d .nil,.d .nil]),(5001,.row 1 3 (List.map (rI .i64) aF))]) stt Z O):Swp Tryz.prog cx (.loop (bA [1,1,1,1,1,1,0,1,0,0,1,0,0,1,0,0] (be Tryz.f16))) Z O (F_R13_Turn_3 cx t images y1 i tt):=by
 refine bm hE hh (F_R13_Turn_3 cx t images y1 i) ?_
 rintro⟨jv,aF⟩ r hm Z O hf
 simp only[Fits,b8,b9,and_true] at hf
 unfold b_R13_Turn_3 at hm
 dsimp only at hm
 refine aS ?_
 refine srs hn ?_
 simp -dsimp [hf]
 rcases aZ hm with ⟨c10,hm⟩ | ⟨c10,hm⟩
 ·refine aV (by simp -dsimp) c10 ?_
  refine aU (aQ ?_)
  obtain⟨order2,j15,hm⟩:=bnd hm
  refine scE [(3,vX 3),(4,vX 4),(6,.u (.one (dR1 images))),(8,.u (.one (dR1 y1))),(9,vO 5001),(10,vI i),(11,vI jv)] [(3,.box [dI t.States,dR1 t.Hood,dR0 t.Nodes]),(4,.box [dI 0,.d .nil,.d .nil]),(5001,.row 1 3 (List.map (rI .i64) order2))] ?_ fun Z O hf=>?_
  ·replace hm:=j15
   clear j15
   refine aW ?_
   refine sw_qts bj mixed (by rw[hn]; kernel_rfl) ?_
   obtain⟨x,h11,hm⟩:=bnd hm
   obtain⟨x1,h12,hm⟩:=bnd hm
   simp -dsimp [hf,c10,h11,h12]
   rcases aZ hm with ⟨c13,hm⟩ | ⟨c13,hm⟩
   ·refine aV (by simp -dsimp) c13 ?_
    refine sr1 hn ?_
    obtain⟨l,h14,hm⟩:=bnd hm
    obtain⟨h14a,h14e⟩:=b6 h14
    replace h14e:=h14e.symm
    subst h14e
    try simp only[List.length_cons,List.length_nil,Nat.zero_add] at h14a
    simp -dsimp [hf,c13,h14a]
    refine bv ?_
    refine aQ ?_
    cases hm
    refine emv 62 5001 ?_
    exact zz
   ·exact zz
  ·clear j15
   exact zz
 ·exact zz
def gZ (cx:Cx) (t:Tree) (_images y1:List Point) (tt:(List Int)) (ee:Exit) (Z:Env) (O:Sto):Prop:=match tt with
 | order=>ee=.exit 2/\EE cx (bg [(3,vX 3),(4,vX 4),(8,.u (.one (dR1 y1))),(9,vO 5001)] [(3,.box [dI t.States,dR1 t.Hood,dR0 t.Nodes]),(4,.box [dI 0,.d .nil,.d .nil]),(5001,.row 1 3 (List.map (rI .i64) order))]) Z O
theorem l_R13_Turn_2 (cx:Cx) (hn:cx.n=82) (t:Tree) (images y1:List Point) {fu:Nat} {stt:Int×(List Int)} {tt:(List Int)} (hh:aY (b_R13_Turn_2 t images y1) fu stt=some tt) {Z:Env} {O:Sto}
  (hE:bl (fun stt:Int×(List Int)=>match stt with | (i,_order)=>[(3,vX 3),(4,vX 4),(6,.u (.one (dR1 images))),(8,.u (.one (dR1 y1))),(9,vO 5001),(10,vI i)]) (fun stt:Int×(List Int)=>match stt with | (_i,order)=>[(3,.box [dI t.States,dR1 t.Hood,dR0 t.Nodes]),(4,.box [dI 0,.d .nil,.d .nil]),(5001,.row 1 3 (List.map (rI .i64) order))]) stt Z O):Swp Tryz.prog cx (.loop (bA [1,1,1,1,1,1,0,1,0,0] (be Tryz.f16))) Z O (gZ cx t images y1 tt):=by
 refine bm hE hh (gZ cx t images y1) ?_
 rintro⟨i,order⟩ r hm Z O hf
 simp only[Fits,b8,b9,and_true] at hf
 unfold b_R13_Turn_2 at hm
 dsimp only at hm
 refine aS ?_
 refine srs hn ?_
 simp -dsimp [hf]
 rcases aZ hm with ⟨c9,hm⟩ | ⟨c9,hm⟩
 ·refine aV (by simp -dsimp) c9 ?_
  refine aU (aQ (aS (aW ?_)))
  refine srs hn ?_
  simp -dsimp [c9]
  refine aW ?_
  obtain⟨aF,g16,hm⟩:=bnd hm
  refine bd (l_R13_Turn_3 cx hn t images y1 i g16) (by
    try dsimp only
    exact EE.here (by simp -dsimp [hf])
  ) fun ee Z O xx=>?_
  exact zz
 ·exact zz
theorem c_R13_Turn (k:Int) (t:Tree) (r:Tree×Int) (hm:m_R13_Turn k t=some r):PureCall Tryz.prog 16 [vI k,.u (.agg [dI t.States,dR1 t.Hood,dR0 t.Nodes])] (.tup [.agg [dI r.1.States,dR1 r.1.Hood,dR0 r.1.Nodes],.one (dI r.2)]):=by
 refine bo Tryz.func16 Tryz.ntmps16 fun cx hn=>?_
 unfold m_R13_Turn at hm
 refine srs hn ?_
 simp -dsimp
 refine aS ?_
 refine srs hn ?_
 obtain⟨y,h1,hm⟩:=bnd hm
 simp -dsimp
 refine aR (eh t y h1) (dkL hn) ?_
 simp -dsimp
 rcases aZ hm with ⟨c2,hm⟩ | ⟨c2,hm⟩
 ·exact zz
 ·refine aX (by simp -dsimp) c2 ?_
  refine aU (aQ ?_)
  refine srs hn ?_
  simp -dsimp [c2]
  refine aS ?_
  refine srs hn ?_
  simp -dsimp
  refine aW ?_
  obtain⟨images,g7,hm⟩:=bnd hm
  refine bd (l_R13_Turn_1 cx hn k t g7) (by
    try dsimp only
    refine EE.step (Wk.own0 6 5000 2 67 (by simp -dsimp) (by decide)) ?_
    exact zz
  ) fun ee Z O xx=>?_
  unfold hP at xx
  dsimp only at xx
  obtain⟨rfl,xx⟩:=xx
  refine bh ?_
  refine aQ ?_
  refine see xx fun Z O hf=>?_
  simp only[Fits,b8,b9,and_true] at hf
  refine Swp.pre (Wk.frz 5000 2 67 (List.map Point.row images) (by simp -dsimp [hf])) ?_
  refine srs hn ?_
  obtain⟨y1,h8,hm⟩:=bnd hm
  simp -dsimp [hf]
  refine aR (c_R03_Sort images y1 h8) (dkL hn) ?_
  simp -dsimp
  refine srs hn ?_
  simp -dsimp
  refine aS ?_
  refine srs hn ?_
  simp -dsimp
  refine aW ?_
  obtain⟨order,g17,hm⟩:=bnd hm
  refine bd (l_R13_Turn_2 cx hn t images y1 g17) (by
    try dsimp only
    refine EE.step (Wk.own0 9 5001 1 3 (by simp -dsimp) (by decide)) ?_
    exact zz
  ) fun ee Z O xx=>?_
  unfold gZ at xx
  dsimp only at xx
  obtain⟨rfl,xx⟩:=xx
  refine bh ?_
  refine aQ ?_
  refine see xx fun Z O hf=>?_
  simp only[Fits,b8,b9,and_true] at hf
  refine srs hn ?_
  obtain⟨y2,h18,hm⟩:=bnd hm
  simp -dsimp [hf]
  refine aR (fy t y2 h18) (dkL hn) ?_
  obtain⟨y3,h19,hm⟩:=bnd hm
  simp -dsimp [hf]
  refine clg (g_R13_expand_o_N_N y2 order 0 y3 h19) [5001] [5002,5003] (by simp -dsimp [hf]) (dkL hn) ?_
  simp -dsimp
  refine Swp.pre (Wk.frz 5003 2 32 (List.map Node.row y3.2.2) (by simp -dsimp)) ?_
  refine srs hn ?_
  obtain⟨y4,h20,hm⟩:=bnd hm
  simp -dsimp
  refine aR (c_R13_reduced y3.2.2 y4 h20) (dkL hn) ?_
  exact zz
theorem c_R13_Equal (a b:Tree) (r:Bool) (hm:m_R13_Equal a b=some r):PureCall Tryz.prog 17 [.u (.agg [dI a.States,dR1 a.Hood,dR0 a.Nodes]),.u (.agg [dI b.States,dR1 b.Hood,dR0 b.Nodes])] (vT r):=by
 refine bo Tryz.func17 Tryz.ntmps17 fun cx hn=>?_
 unfold m_R13_Equal at hm
 refine srs hn ?_
 simp -dsimp
 obtain⟨a1,j8,hm⟩:=bnd hm
 refine scE [(4,vT a1)] [] ?_ fun Z O hf=>?_
 ·replace hm:=j8
  clear j8
  refine sw_qt bj mixed (by rw[hn]; kernel_rfl) ?_
  obtain⟨y,h1,hm⟩:=bnd hm
  simp -dsimp
  refine b7 (eh a y h1) ?_
  rcases aZ hm with ⟨c2,hm⟩ | ⟨c2,hm⟩
  ·obtain⟨y1,h3,hm⟩:=bnd hm
   simp -dsimp [c2]
   refine b7 (eh b y1 h3) ?_
   rcases aZ hm with ⟨c4,hm⟩ | ⟨c4,hm⟩
   ·obtain⟨y2,h5,hm⟩:=bnd hm
    simp -dsimp [c4]
    refine b7 (fy a y2 h5) ?_
    obtain⟨y3,h6,hm⟩:=bnd hm
    simp -dsimp
    refine b7 (fy b y3 h6) ?_
    obtain⟨y4,h7,hm⟩:=bnd hm
    simp -dsimp
    refine b7 (c_R12_Same y2 y3 y4 h7) ?_
    exact zz
   ·exact zz
  ·exact zz
 ·clear j8
  exact zz
def F_R16_Syms_1 (cx:Cx) (_t:Tree) (tt:(List Int)) (ee:Exit) (Z:Env) (O:Sto):Prop:=match tt with
 | out=>ee=.exit 0/\EE cx (bg [(3,vO 5000)] [(5000,.row 1 3 (List.map (rI .i64) out))]) Z O
theorem l_R16_Syms_1 (cx:Cx) (hn:cx.n=33) (t:Tree) {fu:Nat} {stt:Int×(List Int)} {tt:(List Int)} (hh:aY (b_R16_Syms_1 t) fu stt=some tt) {Z:Env} {O:Sto}
  (hE:bl (fun stt:Int×(List Int)=>match stt with | (k,_out)=>[(1,vX 1),(3,vO 5000),(4,vI k)]) (fun stt:Int×(List Int)=>match stt with | (_k,out)=>[(1,.box [dI t.States,dR1 t.Hood,dR0 t.Nodes]),(5000,.row 1 3 (List.map (rI .i64) out))]) stt Z O):Swp Tryz.prog cx (.loop (bA [1,1,0,1,0,0] (be Tryz.f8))) Z O (F_R16_Syms_1 cx t tt):=by
 refine bm hE hh (F_R16_Syms_1 cx t) ?_
 rintro⟨k,out⟩ r hm Z O hf
 simp only[Fits,b8,b9,and_true] at hf
 unfold b_R16_Syms_1 at hm
 dsimp only at hm
 refine aS ?_
 obtain⟨a,j11,hm⟩:=bnd hm
 refine scE [(1,vX 1),(3,vO 5000),(4,vI k),(12,vT a)] [(1,.box [dI t.States,dR1 t.Hood,dR0 t.Nodes]),(5000,.row 1 3 (List.map (rI .i64) out))] ?_ fun Z O hf=>?_
 ·replace hm:=j11
  clear j11
  refine sr1 hn ?_
  rcases aZ hm with ⟨c1,hm⟩ | ⟨c1,hm⟩
  ·obtain⟨y,h2,hm⟩:=bnd hm
   simp -dsimp [hf,c1]
   refine aR (eh t y h2) (dkL hn) ?_
   exact zz
  ·exact zz
 ·clear j11
  simp only[Fits,b8,b9,and_true] at hf
  rcases aZ hm with ⟨c3,hm⟩ | ⟨c3,hm⟩
  ·refine aV (by simp -dsimp [hf]) c3 ?_
   refine aU (aQ ?_)
   obtain⟨out1,j10,hm⟩:=bnd hm
   refine scE [(1,vX 1),(3,vO 5000),(4,vI k)] [(1,.box [dI t.States,dR1 t.Hood,dR0 t.Nodes]),(5000,.row 1 3 (List.map (rI .i64) out1))] ?_ fun Z O hf=>?_
   ·replace hm:=j10
    clear j10
    refine aW ?_
    refine srs hn ?_
    obtain⟨y,h4,hm⟩:=bnd hm
    simp -dsimp [hf]
    refine aR (c_R13_Turn k t y h4) (dkL hn) ?_
    simp -dsimp
    obtain⟨a1,j9,hm⟩:=bnd hm
    refine scE [(1,vX 1),(3,vO 5000),(4,vI k),(27,vT a1)] [(1,.box [dI t.States,dR1 t.Hood,dR0 t.Nodes]),(5000,.row 1 3 (List.map (rI .i64) out))] ?_ fun Z O hf=>?_
    ·replace hm:=j9
     clear j9
     refine sr1 hn ?_
     rcases aZ hm with ⟨c5,hm⟩ | ⟨c5,hm⟩
     ·obtain⟨y1,h6,hm⟩:=bnd hm
      simp -dsimp [hf,c5]
      refine aR (c_R13_Equal y.1 t y1 h6) (dkL hn) ?_
      exact zz
     ·exact zz
    ·clear j9
     simp only[Fits,b8,b9,and_true] at hf
     rcases aZ hm with ⟨c7,hm⟩ | ⟨c7,hm⟩
     ·refine aV (by simp -dsimp [hf]) c7 ?_
      refine sr1 hn ?_
      obtain⟨l,h8,hm⟩:=bnd hm
      obtain⟨h8a,h8e⟩:=b6 h8
      replace h8e:=h8e.symm
      subst h8e
      try simp only[List.length_cons,List.length_nil,Nat.zero_add] at h8a
      simp -dsimp [hf,h8a]
      refine bv ?_
      refine aQ ?_
      cases hm
      refine emv 31 5000 ?_
      exact zz
     ·exact zz
   ·clear j10
    exact zz
  ·exact zz
theorem c_R16_Syms (t:Tree) (r:List Int) (hm:m_R16_Syms t=some r):PureCall Tryz.prog 8 [.u (.agg [dI t.States,dR1 t.Hood,dR0 t.Nodes])] (.u (.one (dL r))):=by
 refine bo Tryz.func8 Tryz.ntmps8 fun cx hn=>?_
 unfold m_R16_Syms at hm
 refine srs hn ?_
 simp -dsimp
 refine srs hn ?_
 simp -dsimp
 refine aS ?_
 refine srs hn ?_
 simp -dsimp
 refine aW ?_
 obtain⟨out,g12,hm⟩:=bnd hm
 refine bd (l_R16_Syms_1 cx hn t g12) (by
   try dsimp only
   refine EE.step (Wk.own0 3 5000 1 3 (by simp -dsimp) (by decide)) ?_
   exact zz
 ) fun ee Z O xx=>?_
 exact zz
theorem c_L16_NotationSyms (t:Tree) (r:Bool) (hm:m_L16_NotationSyms t=some r):PureCall Tryz.prog 3 [.u (.agg [dI t.States,dR1 t.Hood,dR0 t.Nodes])] (vT r):=by
 refine bo Tryz.func3 Tryz.ntmps3 fun cx hn=>?_
 unfold m_L16_NotationSyms at hm
 refine srs hn ?_
 simp -dsimp
 refine aS ?_
 obtain⟨a,j12,hm⟩:=bnd hm
 refine scE [(1,vX 1),(17,vT a)] [(1,.box [dI t.States,dR1 t.Hood,dR0 t.Nodes])] ?_ fun Z O hf=>?_
 ·replace hm:=j12
  clear j12
  refine sr1 hn ?_
  obtain⟨y,h1,hm⟩:=bnd hm
  simp -dsimp
  refine aR (c_L12_Few t y h1) (dkL hn) ?_
  exact zz
 ·clear j12
  simp only[Fits,b8,b9,and_true] at hf
  rcases aZ hm with ⟨c4,hm⟩ | ⟨c4,hm⟩
  ·refine aV (by simp -dsimp [hf]) c4 ?_
   refine srs hn ?_
   obtain⟨y,h5,hm⟩:=bnd hm
   simp -dsimp
   refine aR (c_L16_awake y h5) (dkL hn) ?_
   exact zz
  ·refine aX (by simp -dsimp [hf]) c4 ?_
   refine aU (aQ ?_)
   obtain⟨a1,j11,hm⟩:=bnd hm
   refine scE [(2,vT a1)] [] ?_ fun Z O hf=>?_
   ·replace hm:=j11
    clear j11
    refine sw_qt bj mixed (by rw[hn]; kernel_rfl) ?_
    obtain⟨y,h6,hm⟩:=bnd hm
    simp -dsimp [hf]
    refine b7 (dU t y h6) ?_
    obtain⟨y1,h7,hm⟩:=bnd hm
    simp -dsimp [hf]
    refine b7 (c_R16_Syms t y1 h7) ?_
    obtain⟨y2,h8,hm⟩:=bnd hm
    simp -dsimp
    refine b7 (c_L12_Ints y y1 y2 h8) ?_
    rcases aZ hm with ⟨c9,hm⟩ | ⟨c9,hm⟩
    ·obtain⟨y3,h10,hm⟩:=bnd hm
     simp -dsimp [c9]
     refine b7 (c_L16_awake y3 h10) ?_
     exact zz
    ·exact zz
   ·clear j11
    exact zz
end Go.Proofs.YtcllfealpkhjfaaGreatDoor
