/- Plain laws: what the formula of a grid's predecessors says. -/
import Derived.Test.YtlifofijgddjkacGreatDoorUcx1
namespace Go.Proofs.YtlifofijgddjkacGreatDoor
open Go.AM Go.Proofs
theorem rep_walk {n:Nat} {t t':Tree}:∀ {m:Nat} {k k':Int} {u:DD m} {L:List Int},Rep t.Nodes m k u->Rep t'.Nodes m k' u->Reg n m u->L.length=m->(∀ s∈L,0<=s/\s < (n:Int))->gT t L k=gT t' L k'
 | 0,k,k',u,L,h,h',_,hl,_=>by
  obtain rfl:L=[]:=List.eq_nil_of_length_eq_zero hl
  exact congrArg some ((show k=u from h).trans (show k'=u from h').symm)
 | m+1,k,k',u,[],_,_,_,hl,_=>by simp at hl
 | m+1,k,k',u,s::L,⟨x,h1,_,h3,h4⟩,⟨x',h1',_,h3',h4'⟩,hr,hl,hs=>by
  obtain⟨s0,s1⟩:=hs s (by simp)
  have hn:=hr.1
  have hx:x.Next[s.toNat]?=some (x.Next[s.toNat]'(by omega)):=List.getElem?_eq_getElem _
  have hx':x'.Next[s.toNat]?=some (x'.Next[s.toNat]'(by omega)):=List.getElem?_eq_getElem _
  have hu:u.kids[s.toNat]?=some (u.kids[s.toNat]'(by omega)):=List.getElem?_eq_getElem _
  rw[gT,gT,h1,h1']
  simp only[aX]
  rw[iJ _ s0,iJ _ s0,hx,hx']
  exact rep_walk (h4 _ _ _ hx hu) (h4' _ _ _ hx' hu) (hr.2 _ (List.getElem_mem _)) (by simpa using hl) fun y hy=>hs y (by simp[hy])
structure RW (n b:Nat) (t:Tree) (ns:List Node):Prop extends RT n b t ns where
 walk:∀ L:List Int,L.length=t.Hood.length->(∀ s∈L,0<=s/\s < (n:Int))->gT ⟨t.States,t.Hood,ns⟩ L ((ns.length - 1:Nat):Int)=gT t L (cu .i64 (b9 t.Nodes) 1)
theorem rw_of {t:Tree} (hok:iS t=true):∃ n b ns,RW n b t ns:=by
 obtain⟨n,h⟩:=ok_tree hok
 obtain⟨b,B⟩:=sb_of h.n2 h.n8
 obtain⟨L,i,u,hi,hL,hr,hg⟩:=h.rep
 have h1:=reduce_P hok h hi hL hr
 obtain⟨hT,j,hj,hj'⟩:=h.red hL hr
 refine⟨n,b,_,⟨B,h.st,hok,h,hT,h1⟩,fun l hl hs=>?_⟩
 have hn:=h.nodes
 rw[show b9 t.Nodes=((i+1:Nat):Int) by unfold b9; omega,dn_nat (by omega),show (ser (post (L+1) u [])).length - 1=j by omega]
 exact rep_walk (t:=⟨t.States,t.Hood,ser (post (L+1) u [])⟩) hj' hr hg (by omega) hs
section
variable {n b:Nat} {t:Tree} {ns:List Node} {g:Grid} {w h r:Nat}
def nM (t:Tree) (w r:Nat) (cs:Nat->Nat) (i:Nat):List Int:=t.Hood.map fun d=>((cs ((((i / w:Nat):Int)+d.Y+r).toNat*(w+2*r)+(((i % w:Nat):Int)+d.X+r).toNat):Nat):Int)
theorem cells_get {m k:Nat} (hk:k < m):(d9 b m)[k]?=some ((0:Int),cU ((k:Int)*b) b):=by
 unfold d9
 rw[List.getElem?_map,List.getElem?_range hk]
 rfl
theorem par_ins (A:GL_ n b t ns g w h r) {B:Val} {V:Nat} {cs:Nat->Nat} (hcs:∀ k,k < (w+2*r)*(h+2*r)->cs k < n/\mM B (cU ((k:Int)*b) b) (cs k)) (hV:(w+2*r)*(h+2*r)*b<=V) {i:Nat} (hi:i < w*h) :
  Ins n b V B (inS (-(r:Int)) (-(r:Int)) (w+2*r) (h+2*r) (d9 b ((w+2*r)*(h+2*r))) t.Hood (i % w:Nat) (i / w:Nat)) (nM t w r cs i):=by
 intro k v hv
 rw[A.ins hi,List.getElem?_map] at hv
 cases hd:t.Hood[k]? with
 | none=>rw[hd] at hv; cases hv
 | some d =>
  rw[hd] at hv
  simp only[Option.map_some,Option.some.injEq] at hv
  obtain⟨h1,_,_⟩:=A.idx hi (List.mem_of_getElem? hd)
  generalize hq:(((i / w:Nat):Int)+d.Y+r).toNat*(w+2*r)+(((i % w:Nat):Int)+d.X+r).toNat=q at hv h1
  obtain⟨h2,h3⟩:=hcs q h1
  rw[List.getD_eq_getElem?_getD,cells_get h1] at hv
  simp only[Option.getD_some] at hv
  subst hv
  refine⟨cs q,h2,?_,.inr ⟨e6 _ _,h3⟩,?_⟩
  ·unfold nM
   rw[List.getElem?_map,hd,Option.map_some,hq]
  ·rw[show ((q:Int)*b)=((q*b:Nat):Int) by rw[Int.natCast_mul]]
   refine m0.mono ?_
   have:=Nat.mul_le_mul_right b (show q+1<=_ from h1)
   rw[Nat.add_mul,Nat.one_mul] at this
   omega
theorem cells_sat (A:GL_ n b t ns g w h r) {B:Val} {cs:Nat->Nat} (hcs:∀ k,k < (w+2*r)*(h+2*r)->cs k < n/\mM B (cU ((k:Int)*b) b) (cs k)) :
  Sat B (gI n b ((w+2*r)*(h+2*r)))/\∀ d∈gI n b ((w+2*r)*(h+2*r)),lQ ((w+2*r)*(h+2*r)*b) d:=by
 have hb3:=A.R.sb.b3
 have hsz:=A.sz
 have hV:(w+2*r)*(h+2*r)*b<=16*3:=Nat.mul_le_mul hsz hb3
 have key:∀ d∈gI n b ((w+2*r)*(h+2*r)),∃ k,k < (w+2*r)*(h+2*r)/\d∈exC n b (cU ((k:Int)*b) b):=fun d hd=>by
  unfold gI at hd
  obtain⟨k,v,hv,hd⟩:=kX.1 hd
  have hk:k < (w+2*r)*(h+2*r):=by have:=cp hv; rwa [ij] at this
  rw[cells_get hk] at hv
  cases hv
  exact⟨k,hk,hd⟩
 have hvr:∀ k,k < (w+2*r)*(h+2*r)->Vrs ((w+2*r)*(h+2*r)*b) (cU ((k:Int)*b) b):=fun k hk=>by
  rw[show ((k:Int)*b)=((k*b:Nat):Int) by rw[Int.natCast_mul]]
  refine m0.mono ?_
  have:=Nat.mul_le_mul_right b (show k+1<=_ from hk)
  rw[Nat.add_mul,Nat.one_mul] at this
  omega
 constructor
 ·intro d hd
  obtain⟨k,hk,hd⟩:=key d hd
  obtain⟨h1,h2⟩:=hcs k hk
  exact ex_sat (by omega) hb3 (hvr k hk) (e6 _ _) h1 A.R.sb.pw h2 d hd
 ·intro d hd
  obtain⟨k,hk,hd⟩:=key d hd
  exact ex_lits (by omega) (hvr k hk) d hd
structure PSem (n b:Nat) (t:Tree) (ns:List Node) (g:Grid) (w h r:Nat) (B:Val) (cs:Nat->Nat) (i:Nat) (st:Int×List (List Int)) (V':Nat) (A':Val):Prop where
 v:st.1=(V':Int)
 le:(w+2*r)*(h+2*r)*b<=V'
 agr:∀ u,u<=(w+2*r)*(h+2*r)*b->A' u=B u
 lits:∀ d∈st.2,lQ V' d
 det:∀ u,(w+2*r)*(h+2*r)*b < u->u<=V'->Det A' st.2 u
 sat:Sat A' st.2↔∀ j,j < i->gT ⟨t.States,t.Hood,ns⟩ (nM t w r cs j) ((ns.length - 1:Nat):Int)=some (g.Cells.getD j 0)
theorem par_sem (A:GL_ n b t ns g w h r) {B:Val} {cs:Nat->Nat} (hcs:∀ k,k < (w+2*r)*(h+2*r)->cs k < n/\mM B (cU ((k:Int)*b) b) (cs k)) (hg:∀ s∈g.Cells,s < (n:Int)):∀ i,i<=w*h->∃ V' A',
  PSem n b t ns g w h r B cs i (iP b t.Hood.length (inS (-(r:Int)) (-(r:Int)) (w+2*r) (h+2*r) (d9 b ((w+2*r)*(h+2*r))) t.Hood) ns w g.Cells ((((w+2*r)*(h+2*r):Nat):Int)*b,gI n b ((w+2*r)*(h+2*r))) i) V' A'
 | 0,_=>by
  obtain⟨h1,h2⟩:=cells_sat A hcs
  exact⟨(w+2*r)*(h+2*r)*b,B,(Int.natCast_mul _ _).symm,Nat.le_refl _,fun _ _=>rfl,h2,fun u h1 h2=>by omega,⟨fun _ j hj=>by omega,fun _=>h1⟩⟩
 | i+1,hi=>by
  obtain⟨V',A',P⟩:=par_sem A hcs hg i (by omega)
  have hbd:=par_bound A i (by omega)
  have W:=A.wt (i:=i) (by omega)
  have hsz:=A.sz
  have b3:=A.R.sb.b3
  have b1:=A.R.sb.b1
  have hV:(w+2*r)*(h+2*r)*b<=16*3:=Nat.mul_le_mul hsz b3
  have hin:=par_ins A (B:=A') (V:=V') (cs:=cs) (fun k hk=>⟨(hcs k hk).1,by
   refine (hcs k hk).2.agree (V:=(w+2*r)*(h+2*r)*b) ?_ P.agr
   rw[show ((k:Int)*b)=((k*b:Nat):Int) by rw[Int.natCast_mul]]
   refine m0.mono ?_
   have:=Nat.mul_le_mul_right b (show k+1<=_ from hk)
   rw[Nat.add_mul,Nat.one_mul] at this
   omega⟩) P.le (i:=i) (by omega)
  dsimp only at hbd
  rw[iP]
  have hcell:g.Cells[i]?=some (g.Cells.getD i 0):=by rw[List.getD_eq_getElem?_getD,List.getElem?_eq_getElem (by have:=A.G.len; omega)]; rfl
  have hc8:=A.G.cell _ (List.mem_of_getElem? hcell)
  have hcn:=hg _ (List.mem_of_getElem? hcell)
  generalize iP b t.Hood.length (inS (-(r:Int)) (-(r:Int)) (w+2*r) (h+2*r) (d9 b ((w+2*r)*(h+2*r))) t.Hood) ns w g.Cells ((((w+2*r)*(h+2*r):Nat):Int)*b,gI n b ((w+2*r)*(h+2*r))) i=st at hbd P
  obtain⟨v,cs0⟩:=st
  obtain⟨p1,p2,p3,p4,p5,p6⟩:=P
  dsimp only at p1 p4 p5 p6 hbd
  subst p1
  obtain⟨j0,x,e1,e2,e3⟩:=A.R.red.root
  have hiw:w*h<=16:=A.w16.2.2
  obtain⟨V'',A'',ds,c,q1,q2,q3,q4,q5,q6,q7,q8,q9,q10,q11⟩:=tree_sem (R:=⟨t.States,t.Hood,ns⟩) W A.R.sb.pw hin (by unfold nM; rw[List.length_map]) (by omega) ⟨x,by dsimp only at e1 e2 ⊢; rwa [show ns.length - 1=j0 from by omega],e3⟩ cs0
  have I:=TI.at_ W (TI.init (n:=n) (b:=b) (n0:=(V':Int)) (cs:=cs0)) _ (Nat.le_refl _)
  rw[List.take_length] at I
  have I2:=I.hi
  have wl:=W.len
  have hVV:V''<=1000000:=by rw[q1] at I2; omega
  have hlo:=last_ok W (v:=(V':Int)) (cs:=cs0)
  unfold parC
  dsimp only at q1 q4 q9 q10 q11 hlo ⊢
  rw[q4]
  generalize (dO b t.Hood.length (inS (-(r:Int)) (-(r:Int)) (w+2*r) (h+2*r) (d9 b ((w+2*r)*(h+2*r))) t.Hood (i % w:Nat) (i / w:Nat)) ns ((V':Int),cs0,[])).2.2.getLastD (0,[])=u at q10 q11 hlo
  obtain⟨s,hs⟩:∃ s:Nat,g.Cells.getD i 0=(s:Int):=⟨(g.Cells.getD i 0).toNat,by omega⟩
  rw[hs] at hcn
  have hend:(Sat A'' (endC u (g.Cells.getD i 0))↔c=s)/\∀ d∈endC u (g.Cells.getD i 0),lQ V'' d:=by
   rw[hs]
   unfold endC
   rcases q10 with ⟨e,e'⟩ | ⟨e,e'⟩
   ·rw[e,e']
    dsimp only [isE,cond_true]
    by_cases hcs':c=s
    ·subst hcs'
     rw[show neB (c:Int) (c:Int)=false from by simp[neB]]
     exact⟨⟨(fun _=>rfl),(fun _ d hd=>by cases hd)⟩,(fun d hd=>by cases hd)⟩
    ·rw[show neB (c:Int) (s:Int)=true from by simp[neB]; omega]
     exact⟨⟨(fun hh=>by have:=hh [] (by simp); cases this),(fun hh=>absurd hh hcs')⟩,(fun d hd y hy=>by rw[cond_true] at hd; rw[List.mem_singleton.1 hd] at hy; cases hy)⟩
   ·have he:isE u.2=false:=by cases hv2:u.2 with | nil=>rw[hv2] at e; simp at e; omega | cons _ _=>rfl
    rw[he,cond_false]
    have hpw:=A.R.sb.pw
    refine⟨(fix_sat hVV q11 s).trans ⟨fun hh=>mM.inj e b3 (by omega) (by omega) e' hh,fun hh=>hh ▸ e'⟩,fix_lits hVV q11 _⟩
  refine⟨V'',A'',q1,by omega,fun k hk=>by rw[q3 k (by omega),p3 k hk],fun d hd=>?_,fun k k1 k2=>?_,?_⟩
  ·rcases List.mem_append.1 hd with hd | hd
   ·rcases List.mem_append.1 hd with hd | hd
    ·exact (p4 d hd).mono q2
    ·exact q6 d hd
   ·exact hend.2 d hd
  ·by_cases hk:k<=V'
   ·exact (((p5 k k1 hk).agree fun j hj=>q3 j (by omega)).app).app
   ·exact (Det.app' (q7 k (by omega) k2)).app
  ·dsimp only
   rw[Sat.app,Sat.app,Sat.agree p4 q3,p6,hend.1]
   constructor
   ·rintro⟨⟨h1,_⟩,h2⟩ j hj
    rcases Nat.lt_succ_iff_lt_or_eq.1 hj with hj | rfl
    ·exact h1 j hj
    ·rw[q9,hs,h2]
   ·intro hh
    refine⟨⟨fun j hj=>hh j (by omega),q5⟩,?_⟩
    have:=hh i (by omega)
    rw[q9,hs] at this
    have h9:=Option.some.inj this
    omega
end
end Go.Proofs.YtlifofijgddjkacGreatDoor
namespace Go.Proofs.YtlifofijgddjkacGreatDoor
open Go.AM Go.Proofs
def mxv:List Int->Nat
 | []=>0
 | x::c=>max x.natAbs (mxv c)
theorem mxv_app:∀ a b:List Int,mxv (a++b)=max (mxv a) (mxv b)
 | [],b=>by simp[mxv]
 | x::a,b=>by
  rw[List.cons_append,mxv,mxv,mxv_app a b]
  omega
theorem mxv_le {V:Nat}:∀ {c:List Int},lQ V c->mxv c<=V
 | [],_=>Nat.zero_le _
 | x::c,h=>by
  have h1:=(h x (by simp)).2
  have h2:=mxv_le (c:=c) fun y hy=>h y (by simp[hy])
  rw[mxv]
  omega
theorem mxv_mem:∀ {c:List Int} {x:Int},x∈c->x.natAbs<=mxv c
 | y::c,x,h=>by
  rw[mxv]
  rcases List.mem_cons.1 h with rfl | h
  ·omega
  ·have:=mxv_mem h
   omega
theorem mxv_nil {V:Nat} {c:List Int} (h:lQ V c) (h0:mxv c=0):c=[]:=by
 cases c with
 | nil=>rfl
 | cons x c =>
  have h1:=(h x (by simp)).1
  rw[mxv] at h0
  omega
theorem imax_abs {v:Nat} {x:Int} (hx:x.natAbs<=1000000):gy (gy (v:Int) x) (cQ .i64 x)=((max v x.natAbs:Nat):Int):=by
 rw[ineg_in (by omega)]
 simp only[gy]
 split<;>split<;>omega
theorem imax_abs1 {x:Int} (hx:x.natAbs<=1000000):gy x (cQ .i64 x)=(x.natAbs:Int):=by
 rw[ineg_in (by omega)]
 simp only[gy]
 split<;>omega
section
variable {f:B9} {l:List Bool} {a:Int} {last:List (List Int)}
theorem comp2 {c:List Int} (hl:c.length<=1000000) (hc:∀ x∈c,x.natAbs<=1000000):bh (ep f l a last c) bK (0,0)=some ((mxv c:Nat):Int):=by
 obtain⟨t,ht,rfl⟩:=dK (b:=ep f l a last c) (n:=c.length) (s:=(0,0)) (fun i st=>st=(((mxv (c.take i):Nat):Int),(i:Int))) (fun t=>t=((mxv c:Nat):Int)) (by omega) rfl
  (fun i st hi e=>by
   subst e
   have hx:c[i]?=some c[i]:=List.getElem?_eq_getElem hi
   refine .inl ⟨(((mxv (c.take (i+1)):Nat):Int),((i+1:Nat):Int)),?_,rfl⟩
   unfold ep
   dsimp only
   rw[bG,decide_eq_true hi,cond_true,bJ,hx,aX,d6 (by omega),imax_abs (hc _ (List.getElem_mem hi)),List.take_add_one,hx,Option.toList,mxv_app]
   simp[mxv])
  (fun st e=>by
   subst e
   refine⟨_,?_,rfl⟩
   unfold ep
   dsimp only
   rw[bG,decide_eq_false (Nat.lt_irrefl _),cond_false,List.take_length])
 exact ht
end
def gR (cs:List (List Int)) (i v:Nat):List Int:=((List.range i).filter fun a=>mxv (cs.getD a []) == v).map fun(a:Nat)=>(a:Int)
theorem lastS_succ (cs:List (List Int)) (i v:Nat):gR cs (i+1) v=gR cs i v++(if mxv (cs.getD i [])=v then [(i:Int)] else []):=by
 unfold gR
 rw[List.range_succ,List.filter_append,List.map_append]
 congr 1
 by_cases h:mxv (cs.getD i [])=v
 ·rw[if_pos h,List.filter_cons_of_pos (by simpa using h)]
  rfl
 ·rw[if_neg h,List.filter_cons_of_neg (by simpa using h)]
  rfl
theorem lastS_len (cs:List (List Int)) (i v:Nat):(gR cs i v).length<=i:=by
 unfold gR
 rw[List.length_map]
 exact Nat.le_trans (List.length_filter_le _ _) (by rw[List.length_range]; exact Nat.le_refl _)
theorem lastS_mem {cs:List (List Int)} {i v:Nat} {a:Int}:a∈gR cs i v↔∃ k:Nat,a=(k:Int)/\k < i/\mxv (cs.getD k [])=v:=by
 unfold gR
 rw[List.mem_map]
 constructor
 ·rintro⟨k,hk,rfl⟩
  rw[List.mem_filter,List.mem_range] at hk
  exact⟨k,rfl,hk.1,by simpa using hk.2⟩
 ·rintro⟨k,rfl,h1,h2⟩
  exact⟨k,List.mem_filter.2 ⟨List.mem_range.2 h1,by simpa using h2⟩,rfl⟩
structure Frm (V:Nat) (cs:List (List Int)):Prop where
 V1:V<=1000000
 len:cs.length<=100000000
 lits:∀ c∈cs,lQ V c
 cl:∀ c∈cs,c.length<=1000000
section
variable {V:Nat} {cs:List (List Int)} {l:List Bool}
theorem Frm.get (_H:Frm V cs) {i:Nat} (hi:i < cs.length):cs[i]?=some (cs.getD i [])/\cs.getD i []∈cs:=by
 have h:cs[i]?=some (cs.getD i []):=by rw[List.getD_eq_getElem?_getD,List.getElem?_eq_getElem hi]; rfl
 exact⟨h,List.mem_of_getElem? h⟩
theorem comp1 (H:Frm V cs):∃ last,bh (eh ⟨V,cs⟩ l) bK (0,List.replicate (V+1) [])=some (.inr last)/\∀ v,v<=V->last[v]?=some (gR cs cs.length v):=by
 have hV:=H.V1
 have hlen:=H.len
 obtain⟨t,ht,last,rfl,hl⟩:=dK (b:=eh ⟨V,cs⟩ l) (n:=cs.length) (s:=(0,List.replicate (V+1) []))
  (fun i st=>∃ last,st=((i:Int),last)/\∀ v,v<=V->last[v]?=some (gR cs i v)) (fun t=>∃ last,t=.inr last/\∀ v,v<=V->last[v]?=some (gR cs cs.length v)) (by omega)
  ⟨_,rfl,fun v hv=>by rw[List.getElem?_replicate,if_pos (by omega)]; rfl⟩
  (fun i st hi ⟨last,e,hl⟩=>by
   subst e
   obtain⟨hx,hm⟩:=H.get hi
   have hle:=mxv_le (H.lits _ hm)
   generalize cs.getD i []=c at hx hm hle
   refine .inl ⟨(((i+1:Nat):Int),last.set (mxv c) (gR cs i (mxv c)++[(i:Int)])),?_,_,rfl,fun v hv=>?_⟩
   ·unfold eh
    dsimp only
    rw[bG,decide_eq_true hi,cond_true,bJ,hx,aX,comp2 (H.cl c hm) (fun x h=>by have:=(H.lits c hm x h).2; omega),aX,show gtB ((mxv c:Nat):Int) (V:Int)=false from decide_eq_false (by omega),cond_false,
     bJ,hl _ hle,aX,jm (by omega) (by omega) (by have:=lastS_len cs i (mxv c); simp only[List.length_singleton]; omega),aX,d6 (by omega),Int.toNat_natCast]
   ·rw[lastS_succ,show cs.getD i []=c by rw[List.getD_eq_getElem?_getD,hx]; rfl]
    by_cases hv':mxv c=v
    ·subst hv'
     rw[if_pos rfl,List.getElem?_set_self (by have:=(List.getElem?_eq_some_iff.1 (hl _ hle)).1; exact this)]
    ·rw[if_neg hv',List.append_nil,List.getElem?_set_ne hv',hl v hv])
  (fun st ⟨last,e,hl⟩=>by
   subst e
   refine⟨_,?_,last,rfl,hl⟩
   unfold eh
   dsimp only
   rw[bG,decide_eq_false (Nat.lt_irrefl _),cond_false])
 exact⟨last,ht,hl⟩
theorem satd_in {which:List Int} {vals:List Bool} {B:Val} {a:Int} {c:List Int} (hl:c.length<=1000000) (hv:vals.length<=1000000) (hc:∀ x∈c,1<=x.natAbs/\x.natAbs<=vals.length) (hB:∀ (u:Nat) b,vals[u]?=some b->b=B (u+1)) :
  bh (ev ⟨V,cs⟩ which vals a c) bK (false,0)=some (ic B c):=by
 obtain⟨t,ht,rfl⟩:=dK (b:=ev ⟨V,cs⟩ which vals a c) (n:=c.length) (s:=(false,0)) (fun i st=>st=(ic B (c.take i),(i:Int))) (fun t=>t=ic B c) (by omega) rfl
  (fun i st hi e=>by
   subst e
   have hx:c[i]?=some c[i]:=List.getElem?_eq_getElem hi
   have hxm:=hc _ (List.getElem_mem hi)
   generalize c[i]=x at hx hxm
   have hs:ic B (c.take (i+1))=(ic B (c.take i) || nE B x):=by
    rw[List.take_add_one,hx,Option.toList,kR]
    simp[ic]
   refine .inl ⟨(ic B (c.take (i+1)),((i+1:Nat):Int)),?_,rfl⟩
   unfold ev
   dsimp only
   rw[bG,decide_eq_true hi,cond_true,bJ,hx,aX,hs,d6 (by omega)]
   cases ic B (c.take i) with
   | true=>rfl
   | false =>
    obtain⟨m,hm⟩:∃ m,x.natAbs=m+1:=⟨x.natAbs - 1,by omega⟩
    have hg:vals[m]?=some vals[m]:=List.getElem?_eq_getElem (by omega)
    rw[cond_false,imax_abs1 (by omega),hm,dn_nat (by omega),bJ,hg,aX,hB m _ hg,Bool.false_or]
    unfold nE
    rw[hm]
    rfl)
  (fun st e=>by
   subst e
   refine⟨_,?_,rfl⟩
   unfold ev
   dsimp only
   rw[bG,decide_eq_false (Nat.lt_irrefl _),cond_false,List.take_length])
 exact ht
theorem satd_is (H:Frm V cs) {v:Nat} {vals:List Bool} {B:Val} (hv:vals.length=v) (hvV:v<=V) (hB:∀ (u:Nat) b,vals[u]?=some b->b=B (u+1)) :
  ∃ r,ez ⟨V,cs⟩ (gR cs cs.length v) vals=some r/\(r=true↔∀ c∈cs,mxv c=v->ic B c=true):=by
 have hV:=H.V1
 have hlen:=H.len
 have hll:=lastS_len cs cs.length v
 have hw:∀ (i:Nat) a,(gR cs cs.length v)[i]?=some a->∃ k:Nat,a=(k:Int)/\k < cs.length/\mxv (cs.getD k [])=v:=fun i a h=>lastS_mem.1 (List.mem_of_getElem? h)
 have hall:(∀ (i:Nat) a,(gR cs cs.length v)[i]?=some a->ic B (cs.getD a.toNat [])=true)->∀ c∈cs,mxv c=v->ic B c=true:=fun h c hc hm=>by
  obtain⟨k,hk⟩:=List.mem_iff_getElem?.1 hc
  have hg:cs.getD k []=c:=by rw[List.getD_eq_getElem?_getD,hk]; rfl
  obtain⟨i,hi⟩:=List.mem_iff_getElem?.1 ((lastS_mem (v:=v)).2 ⟨k,rfl,(List.getElem?_eq_some_iff.1 hk).1,by rw[hg]; exact hm⟩)
  have:=h i _ hi
  rwa [Int.toNat_natCast,hg] at this
 obtain⟨o,ho,hq⟩:=dK (b:=eg ⟨V,cs⟩ (gR cs cs.length v) vals) (n:=(gR cs cs.length v).length) (s:=0)
  (fun i st=>st=(i:Int)/\∀ (j:Nat) a,j < i->(gR cs cs.length v)[j]?=some a->ic B (cs.getD a.toNat [])=true)
  (fun o=>(o=.inl false/\∃ c∈cs,mxv c=v/\ic B c=false) \/ (o=.inr ()/\∀ c∈cs,mxv c=v->ic B c=true)) (by omega) ⟨rfl,fun j x hj=>by omega⟩
  (fun i st hi ⟨e,h⟩=>by
   subst e
   have hx:(gR cs cs.length v)[i]?=some (gR cs cs.length v)[i]:=List.getElem?_eq_getElem hi
   obtain⟨k,hk,hkl,hkm⟩:=hw i _ hx
   rw[hk] at hx
   obtain⟨hg,hm⟩:=H.get hkl
   generalize hcc:cs.getD k []=c at hkm hg hm
   have hb:eg ⟨V,cs⟩ (gR cs cs.length v) vals (i:Int)=some (bif ic B c then .next ((i+1:Nat):Int) else .out (.inl false)):=by
    unfold eg
    dsimp only
    rw[bG,decide_eq_true hi,cond_true,bJ,hx,aX,bJ,hg,aX,satd_in (B:=B) (H.cl c hm) (by omega) (fun x hx=>⟨(H.lits c hm x hx).1,by have:=mxv_mem hx; omega⟩) hB,aX,d6 (by omega)]
    cases ic B c<;>rfl
   cases hs:ic B c with
   | true =>
    refine .inl ⟨_,by rw[hb,hs]; rfl,rfl,fun j a hj ha=>?_⟩
    rcases Nat.lt_succ_iff_lt_or_eq.1 hj with hj | rfl
    ·exact h j a hj ha
    ·rw[hx] at ha
     cases ha
     rw[Int.toNat_natCast,hcc,hs]
   | false=>exact .inr ⟨_,by rw[hb,hs]; rfl,.inl ⟨rfl,c,hm,hkm,hs⟩⟩)
  (fun st ⟨e,h⟩=>by
   subst e
   refine⟨_,?_,.inr ⟨rfl,hall fun i a ha=>h i a (List.getElem?_eq_some_iff.1 ha).1 ha⟩⟩
   unfold eg
   dsimp only
   rw[bG,decide_eq_false (Nat.lt_irrefl _),cond_false])
 unfold ez
 rw[ho,aX]
 rcases hq with ⟨rfl,c,h1,h2,h3⟩ | ⟨rfl,h⟩
 ·exact⟨false,rfl,by simp,fun hh=>by rw[hh c h1 h2] at h3; cases h3⟩
 ·exact⟨true,rfl,fun _=>h,fun _=>rfl⟩
end
end Go.Proofs.YtlifofijgddjkacGreatDoor
namespace Go.Proofs.YtlifofijgddjkacGreatDoor
open Go.AM Go.Proofs
section
variable {V:Nat} {cs:List (List Int)} {l:List Bool} {last:List (List Int)}
theorem comp4 {v:Nat} {vals:List Bool} {x:List Int} {P:Bool->Bool} (hv:v<=1000000) (_hl:l.length<=1000000) (hvl:vals.length=v) (hx:last[v+1]?=some x) (hP:∀ b,ez ⟨V,cs⟩ x (vals++[b])=some (P b)) {C:Bool->Bool}
  (hC:∀ b,C b=(match l[v]? with | some y=>eqb b y | none=>true)) :
  bh (di ⟨V,cs⟩ l last ((v+1:Nat):Int)) bK (vals,false,0)=some (bif C false && P false then (vals++[false],true) else bif C true && P true then (vals++[true],true) else (vals,false)):=by
 have hs:slc3 vals ((v:Nat):Int) ((v:Nat):Int)=some vals:=by
  unfold slc3
  rw[if_pos (by omega),Int.toNat_natCast,List.take_of_length_le (by omega)]
 have ha:∀ b:Bool,ik 1 vals [b]=some (vals++[b]):=fun b=>jm (by omega) (by omega) (by simp only[List.length_singleton]; omega)
 have hst:∀ (k:Int) (b:Bool),eqB k 1=b->ltB k 2=true->di ⟨V,cs⟩ l last ((v+1:Nat):Int) (vals,false,k)=some (.next (bif C b && P b then (vals++[b],true,bm .i64 k 1) else (vals,false,bm .i64 k 1))):=fun k b hk h2=>by
  unfold di
  dsimp only
  rw[h2,cond_true,aX,show fi false=true from rfl,cond_true,dn_nat (by omega),hk]
  have hg:(bif leB ((v+1:Nat):Int) (b9 l) then (idx l (v:Int)).bind fun x=>some (fi (eqb b x)) else some false)=some (fi (C b)):=by
   rw[hC]
   by_cases h:v < l.length
   ·rw[show leB ((v+1:Nat):Int) (b9 l)=true from decide_eq_true (by unfold b9; omega),cond_true,bJ,List.getElem?_eq_getElem h]
    rfl
   ·rw[show leB ((v+1:Nat):Int) (b9 l)=false from decide_eq_false (by unfold b9; omega),cond_false,List.getElem?_eq_none (by omega)]
    rfl
  rw[hg,aX]
  cases C b with
  | false=>rfl
  | true =>
   rw[show fi true=false from rfl,cond_false,bJ,hx,aX,hs,aX,ha,aX,hP,aX]
   cases P b<;>rfl
 have hout:∀ (vals:List Bool) (k:Int),di ⟨V,cs⟩ l last ((v+1:Nat):Int) (vals,true,k)=some (.out (vals,true)):=fun vals k=>by
  unfold di
  dsimp only
  cases ltB k 2<;>rfl
 have h0:=hst 0 false rfl rfl
 have h1:=hst 1 true rfl rfl
 have h2:di ⟨V,cs⟩ l last ((v+1:Nat):Int) (vals,false,2)=some (.out (vals,false)):=rfl
 obtain⟨m,hm⟩:∃ m,bK=m+3:=⟨1099511627773,rfl⟩
 rw[hm,bh,h0]
 cases hc0:C false && P false with
 | true =>
  simp only[cond_true]
  rw[bh,hout]
 | false =>
  simp only[cond_false]
  rw[show bm .i64 0 1=1 from rfl,bh,h1]
  cases hc1:C true && P true with
  | true =>
   simp only[cond_true]
   rw[bh,hout]
  | false =>
   simp only[cond_false]
   rw[show bm .i64 1 1=2 from rfl,bh,h2]
def vA (A:Val) (i:Nat):List Bool:=(List.range i).map fun u=>A (u+1)
theorem vA_len (A:Val) (i:Nat):(vA A i).length=i:=by simp[vA]
theorem vA_succ (A:Val) (i:Nat):vA A (i+1)=vA A i++[A (i+1)]:=by simp[vA,List.range_succ]
theorem vA_get {A:Val} {i u:Nat} {b:Bool} (h:(vA A i)[u]?=some b):u < i/\b=A (u+1):=by
 have hu:u < i:=by
  have:=(List.getElem?_eq_some_iff.1 h).1
  rwa [vA_len] at this
 unfold vA at h
 rw[List.getElem?_map,List.getElem?_range hu] at h
 exact⟨hu,(Option.some.inj h).symm⟩
theorem comp3 {A:Val} (H:Frm V cs) (hl:l.length<=V) (hA:∀ (u:Nat) b,l[u]?=some b->b=A (u+1)) (hdet:∀ u,l.length < u->u<=V->Det A cs u) (hlast:∀ v,v<=V->last[v]?=some (gR cs cs.length v))
  (h0:∀ c∈cs,mxv c≠0):∃ o,bh (dJ ⟨V,cs⟩ l last) bK ([],1)=some o/\((o=.inl false/\¬ Sat A cs) \/ (o=.inr ()/\Sat A cs)):=by
 have hV:=H.V1
 refine dK (b:=dJ ⟨V,cs⟩ l last) (n:=V) (s:=([],1)) (fun i st=>st=(vA A i,((i+1:Nat):Int))/\∀ c∈cs,mxv c<=i->ic A c=true)
  (fun o=>(o=.inl false/\¬ Sat A cs) \/ (o=.inr ()/\Sat A cs)) (by omega) ⟨rfl,fun c hc hm=>absurd (Nat.le_zero.1 hm) (h0 c hc)⟩ (fun i st hi ⟨e,h⟩=>?_) (fun st ⟨e,h⟩=>?_)
 ·subst e
  have hB:∀ b:Bool,∃ r,ez ⟨V,cs⟩ (gR cs cs.length (i+1)) (vA A i++[b])=some r/\(r=true↔∀ c∈cs,mxv c=i+1->ic (fun u=>if u=i+1 then b else A u) c=true):=fun b =>
   satd_is H (by simp[vA_len]) (by omega) fun u y hy=>by
    rw[List.getElem?_append,vA_len] at hy
    split at hy
    ·rename_i hu
     rw[if_neg (by omega)]
     exact (vA_get hy).2
    ·rename_i hu
     have hu0:u - i=0:=by
      have:=(List.getElem?_eq_some_iff.1 hy).1
      simp only[List.length_singleton] at this
      omega
     rw[hu0] at hy
     rw[if_pos (by omega)]
     exact (Option.some.inj hy).symm
  obtain⟨P,hP⟩:∃ P:Bool->Bool,∀ b,ez ⟨V,cs⟩ (gR cs cs.length (i+1)) (vA A i++[b])=some (P b)/\(P b=true↔∀ c∈cs,mxv c=i+1->ic (fun u=>if u=i+1 then b else A u) c=true) :=
   ⟨fun b=>(hB b).choose,fun b=>(hB b).choose_spec⟩
  obtain⟨C,hC⟩:∃ C:Bool->Bool,∀ b,C b=(match l[i]? with | some y=>eqb b y | none=>true):=⟨_,fun _=>rfl⟩
  have hAA:(fun u=>if u=i+1 then A (i+1) else A u)=A:=by
   funext u
   split
   ·rename_i e; rw[e]
   ·rfl
  have hPA:P (A (i+1))=true↔∀ c∈cs,mxv c=i+1->ic A c=true:=by
   have:=(hP (A (i+1))).2
   rwa [hAA] at this
  have hCA:C (A (i+1))=true:=by
   rw[hC]
   cases hg:l[i]? with
   | none=>rfl
   | some y =>
    rw[hA i y hg]
    exact beq_self_eq_true _
  have hNA:(C (!A (i+1)) && P (!A (i+1)))=false:=by
   by_cases hil:i < l.length
   ·rw[hC,List.getElem?_eq_getElem hil]
    have:=hA i _ (List.getElem?_eq_getElem hil)
    show (eqb (!A (i+1)) l[i] && _)=false
    rw[this]
    cases A (i+1)<;>rfl
   ·obtain⟨c,hc,h1,⟨x,hx,hxu⟩,h2⟩:=hdet (i+1) (by omega) (by omega)
    have hmx:mxv c=i+1:=Nat.le_antisymm (mxv_le h1) (by rw[<- hxu]; exact mxv_mem hx)
    have hf:P (!A (i+1))=false:=by
     rw[<- Bool.not_eq_true]
     intro hp
     have h3:=(hP (!A (i+1))).2.1 hp c hc hmx
     rw[h2 (fun u=>if u=i+1 then !A (i+1) else A u) (fun k hk=>if_neg (by omega)) (if_pos rfl)] at h3
     cases h3
    rw[hf,Bool.and_false]
  have hr:(bif C false && P false then (vA A i++[false],true) else bif C true && P true then (vA A i++[true],true) else (vA A i,false))=(bif P (A (i+1)) then (vA A (i+1),true) else (vA A i,false)):=by
   rw[vA_succ]
   cases hb:A (i+1) with
   | false =>
    rw[hb] at hCA hNA
    rw[hCA,Bool.true_and]
    cases P false with
    | true=>rfl
    | false =>
     rw[cond_false,show (C true && P true)=false from hNA]
     rfl
   | true =>
    rw[hb] at hCA hNA
    rw[hCA,Bool.true_and,show (C false && P false)=false from hNA]
    cases P true<;>rfl
  have hb:dJ ⟨V,cs⟩ l last (vA A i,((i+1:Nat):Int))=some (bif P (A (i+1)) then .next (vA A (i+1),((i+2:Nat):Int)) else .out (.inl false)):=by
   unfold dJ
   dsimp only
   rw[show leB ((i+1:Nat):Int) (V:Int)=true from decide_eq_true (by omega),cond_true,comp4 (P:=P) (C:=C) (by omega) (by omega) (vA_len A i) (hlast (i+1) (by omega)) (fun b=>(hP b).1) hC,aX,hr,d6 (by omega)]
   cases P (A (i+1))<;>rfl
  cases hp:P (A (i+1)) with
  | true =>
   refine .inl ⟨_,by rw[hb,hp]; rfl,rfl,fun c hc hm=>?_⟩
   rcases Nat.lt_or_ge i (mxv c) with h1 | h1
   ·exact hPA.1 hp c hc (by omega)
   ·exact h c hc h1
  | false =>
   refine .inr ⟨_,by rw[hb,hp]; rfl,.inl ⟨rfl,fun hs=>?_⟩⟩
   rw[hPA.2 fun c hc _=>hs c hc] at hp
   cases hp
 ·subst e
  refine⟨_,?_,.inr ⟨rfl,fun c hc=>h c hc (mxv_le (H.lits c hc))⟩⟩
  unfold dJ
  dsimp only
  rw[show leB ((V+1:Nat):Int) (V:Int)=false from decide_eq_false (by omega),cond_false]
theorem completes_is {A:Val} (H:Frm V cs) (hl:l.length<=V) (hA:∀ (u:Nat) b,l[u]?=some b->b=A (u+1)) (hdet:∀ u,l.length < u->u<=V->Det A cs u):∃ r,il ⟨V,cs⟩ l=some r/\(r=true↔Sat A cs):=by
 have hV:=H.V1
 obtain⟨last,h1,h2⟩:=comp1 (l:=l) H
 unfold il
 dsimp only
 have hup:bm .i64 (V:Int) 1=((V+1:Nat):Int):=d6 (by omega)
 rw[hup,show mkL 24 ((V+1:Nat):Int) ((V+1:Nat):Int) ([]:List Int)=some (List.replicate (V+1) []) from by unfold mkL; rw[if_pos (by omega)]; rfl,aX,Int.toNat_natCast,h1,aX]
 dsimp only
 rw[show idx last 0=some (gR cs cs.length 0) from (bJ last 0).trans (h2 0 (Nat.zero_le _)),aX]
 by_cases he:∃ c∈cs,mxv c=0
 ·obtain⟨c,hc,hm⟩:=he
  obtain⟨k,hk⟩:=List.mem_iff_getElem?.1 hc
  have hg:cs.getD k []=c:=by rw[List.getD_eq_getElem?_getD,hk]; rfl
  have hmem:=(lastS_mem (v:=0)).2 ⟨k,rfl,(List.getElem?_eq_some_iff.1 hk).1,by rw[hg]; exact hm⟩
  rw[show gtB (b9 (gR cs cs.length 0)) 0=true from decide_eq_true (by unfold b9; have:=List.length_pos_of_mem hmem; omega),cond_true,aX,cond_true]
  refine⟨false,rfl,by simp,fun hs=>?_⟩
  have h3:=hs c hc
  rw[mxv_nil (H.lits c hc) hm] at h3
  cases h3
 ·have hn:gR cs cs.length 0=[]:=by
   apply List.eq_nil_iff_forall_not_mem.2
   intro a ha
   obtain⟨k,_,h3,h4⟩:=lastS_mem.1 ha
   exact he ⟨_,(H.get h3).2,h4⟩
  rw[hn,show gtB (b9 ([]:List Int)) 0=false from rfl,cond_false,aX,show gtB (b9 l) (V:Int)=false from decide_eq_false (by unfold b9; omega),cond_false]
  obtain⟨o,h3,h4⟩:=comp3 (A:=A) H hl hA hdet h2 fun c hc hm=>he ⟨c,hc,hm⟩
  rw[h3,aX]
  rcases h4 with ⟨rfl,h4⟩ | ⟨rfl,h4⟩
  ·exact⟨false,rfl,by simp,fun hs=>absurd hs h4⟩
  ·exact⟨true,rfl,fun _=>h4,fun _=>rfl⟩
end
end Go.Proofs.YtlifofijgddjkacGreatDoor
namespace Go.Proofs.YtlifofijgddjkacGreatDoor
open Go.AM Go.Proofs
theorem cell_mod {cl:List Int} (h16:cl.length=16) (hb:∀ x∈cl,0<=x/\x<=255) {n k:Nat} (hk:k < 16) (hn:2<=n):∃ x,o6 16 cl (k:Int)=some x/\irem (mb .i64 x) (n:Int)=some (((cl.getD k 0).toNat % n:Nat):Int):=by
 have hx:cl[k]?=some (cl.getD k 0):=by rw[List.getD_eq_getElem?_getD,List.getElem?_eq_getElem (by omega)]; rfl
 have hr:=hb _ (List.mem_of_getElem? hx)
 refine⟨cl.getD k 0,?_,?_⟩
 ·unfold o6 aok
  rw[decide_eq_true (by omega),cond_true,Int.toNat_natCast,hx]
 ·generalize cl.getD k 0=x at hr
  obtain⟨u,rfl⟩:∃ u:Nat,x=u:=⟨x.toNat,by omega⟩
  rw[show mb .i64 (u:Int)=(u:Int) from i64_in (by omega)]
  unfold irem
  rw[if_neg (by omega),Int.toNat_natCast]
  rfl
section
variable {n b:Nat} {t:Tree} {ns:List Node} {g:Grid} {w h r:Nat}
def csA (cl:List Int) (n k:Nat):Nat:=(cl.getD k 0).toNat % n
def bvA (cl:List Int) (n b:Nat):Val:=fun u=>gQ ((csA cl n ((u - 1) / b):Nat):Int) ((u - 1) % b)
theorem bvA_bits (cl:List Int) (n:Nat) {b:Nat} (hb:1<=b) (k:Nat):mM (bvA cl n b) (cU ((k:Int)*b) b) (csA cl n k):=fun j x hx=>by
 have hj:j < b:=by
  have:=(List.getElem?_eq_some_iff.1 hx).1
  rwa [e6] at this
 rw[fresh_get _ _ hj] at hx
 have hx':=Option.some.inj hx
 have e:((k:Int)*b)=((k*b:Nat):Int):=by rw[Int.natCast_mul]
 have hn:x.natAbs - 1=k*b+j:=by rw[e] at hx'; omega
 unfold bvA
 rw[hn,Nat.mul_comm k b,Nat.mul_add_div (by omega),Nat.div_eq_of_lt hj,Nat.add_zero,Nat.mul_add_mod,Nat.mod_eq_of_lt hj]
theorem bvA_at (cl:List Int) (n:Nat) {b k j:Nat} (hj:j < b):bvA cl n b (k*b+j+1)=gQ ((csA cl n k:Nat):Int) j:=by
 unfold bvA
 rw[Nat.add_sub_cancel,Nat.mul_comm k b,Nat.mul_add_div (by omega),Nat.div_eq_of_lt hj,Nat.add_zero,Nat.mul_add_mod,Nat.mod_eq_of_lt hj]
end
abbrev C16:=Int×Int×Int×Int×Int×Int×Int×Int×Int×Int×Int×Int×Int×Int×Int×Int
def clA (c:C16):List Int:=[c.1,c.2.1,c.2.2.1,c.2.2.2.1,c.2.2.2.2.1,c.2.2.2.2.2.1,c.2.2.2.2.2.2.1,c.2.2.2.2.2.2.2.1,c.2.2.2.2.2.2.2.2.1,c.2.2.2.2.2.2.2.2.2.1,c.2.2.2.2.2.2.2.2.2.2.1,c.2.2.2.2.2.2.2.2.2.2.2.1,c.2.2.2.2.2.2.2.2.2.2.2.2.1,c.2.2.2.2.2.2.2.2.2.2.2.2.2.1,c.2.2.2.2.2.2.2.2.2.2.2.2.2.2.1,c.2.2.2.2.2.2.2.2.2.2.2.2.2.2.2]
section
variable {n b:Nat} {t:Tree} {ns:List Node} {g:Grid} {w h r:Nat} {cells:C16} {y:B9×Int×Int}
theorem bitsL (A:GL_ n b t ns g w h r) (hb:∀ x∈clA cells,0<=x/\x<=255) :
  bh (cT t g cells y (b:Int) (r:Int)) bK (0,[])=some (vA (bvA (clA cells) n b) ((w+2*r)*(h+2*r)*b)):=by
 have hsz:=A.sz
 have b3:=A.R.sb.b3
 have hr2:=A.r2
 obtain⟨k1,k2,k3⟩:=A.w16
 have hmul:bO .i64 (bm .i64 g.W (bO .i64 2 (r:Int))) (bm .i64 g.H (bO .i64 2 (r:Int)))=(((w+2*r)*(h+2*r):Nat):Int):=by
  have e:=Int.natCast_mul (w+2*r) (h+2*r)
  rw[A.G.W,A.G.H,i7 (a:=2) (by omega),dW (by omega),dW (by omega),show (w:Int)+2*(r:Int)=((w+2*r:Nat):Int) by omega,show (h:Int)+2*(r:Int)=((h+2*r:Nat):Int) by omega,i7 (by omega),e]
 generalize hm:(w+2*r)*(h+2*r)=m at hsz hmul
 obtain⟨o,ho,rfl⟩:=dK (b:=cT t g cells y (b:Int) (r:Int)) (n:=m) (s:=(0,[])) (fun i st=>st=((i:Int),vA (bvA (clA cells) n b) (i*b))) (fun o=>o=vA (bvA (clA cells) n b) (m*b)) (by omega) (by rw[Nat.zero_mul]; rfl)
  (fun i st hi e=>by
   subst e
   obtain⟨x,hx,hmod⟩:=cell_mod (cl:=clA cells) rfl hb (n:=n) (k:=i) (by omega) A.R.sb.n2
   have hin:bh (cR t g cells y (b:Int) (r:Int) (i:Int)) bK (0,vA (bvA (clA cells) n b) (i*b))=some (vA (bvA (clA cells) n b) ((i+1)*b)):=by
    obtain⟨o,ho,rfl⟩:=dK (b:=cR t g cells y (b:Int) (r:Int) (i:Int)) (n:=b) (s:=(0,vA (bvA (clA cells) n b) (i*b))) (fun j st=>st=((j:Int),vA (bvA (clA cells) n b) (i*b+j))) (fun o=>o=vA (bvA (clA cells) n b) ((i+1)*b)) (by omega) rfl
     (fun j st hj e=>by
      subst e
      have hib:i*b<=16*3:=Nat.mul_le_mul (by omega) b3
      refine .inl ⟨(((j+1:Nat):Int),vA (bvA (clA cells) n b) (i*b+(j+1))),?_,rfl⟩
      unfold cR
      dsimp only
      rw[show ltB (j:Int) (b:Int)=true from decide_eq_true (by omega),cond_true]
      change (o6 16 (clA cells) (i:Int)).bind _=_
      rw[hx,aX,A.R.st,hmod,aX,u64_nat (by omega),ishr_nat,aX,
       jm (by omega) (by omega) (by rw[vA_len]; simp only[List.length_singleton]; omega),aX,d6 (by omega),<- Nat.add_assoc,vA_succ,bvA_at (clA cells) n hj]
      rfl)
     (fun st e=>by
      subst e
      refine⟨_,?_,rfl⟩
      unfold cR
      dsimp only
      rw[show ltB (b:Int) (b:Int)=false from decide_eq_false (by omega),cond_false,Nat.add_mul,Nat.one_mul])
    exact ho
   refine .inl ⟨(((i+1:Nat):Int),vA (bvA (clA cells) n b) ((i+1)*b)),?_,rfl⟩
   unfold cT
   dsimp only
   rw[hmul,show ltB (i:Int) (m:Int)=true from decide_eq_true (by omega),cond_true,hin,aX,d6 (by omega)])
  (fun st e=>by
   subst e
   refine⟨_,?_,rfl⟩
   unfold cT
   dsimp only
   rw[hmul,show ltB (m:Int) (m:Int)=false from decide_eq_false (by omega),cond_false])
 exact ho
theorem seenP (A:GL_ n b t ns g w h r) (hb:∀ x∈clA cells,0<=x/\x<=255) {i:Nat} (hi:i < w*h) {l:List Bool} {leads:Bool} {a2:Int} :
  bh (cP t g cells y (r:Int) l leads a2 ((i % w:Nat):Int) ((i / w:Nat):Int)) bK (0,[])=some (nM t w r (csA (clA cells) n) i):=by
 obtain⟨k1,k2,k3⟩:=A.w16
 have hr2:=A.r2
 have h25:=A.R.tok.h25
 have hw1:=A.G.w1
 have hgW:=A.G.W
 have hml:i % w < w:=Nat.mod_lt _ (by omega)
 have hdl:i / w<=i:=Nat.div_le_self i w
 have z1:=Int.natCast_nonneg (i / w)
 have z2:=Int.natCast_nonneg (i % w)
 have e1:bm .i64 g.W (bO .i64 2 (r:Int))=((w+2*r:Nat):Int):=by rw[hgW,i7 (by omega),dW (by omega)]; omega
 have hidx:=fun d hd=>A.idx hi (d:=d) hd
 have hgoal:nM t w r (csA (clA cells) n) i=gat (fun _ d=>[((csA (clA cells) n ((((i / w:Nat):Int)+d.Y+r).toNat*(w+2*r)+(((i % w:Nat):Int)+d.X+r).toNat):Nat):Int)]) t.Hood 0:=by
  rw[gat_map]
  rfl
 rw[hgoal]
 generalize hq:i % w=a at hml z2 hidx ⊢
 generalize hq':i / w=c at hdl z1 hidx ⊢
 have hg:=nG (b:=cP t g cells y (r:Int) l leads a2 (a:Int) (c:Int)) t.Hood (fun _ d=>[((csA (clA cells) n ((((c:Nat):Int)+d.Y+r).toNat*(w+2*r)+(((a:Nat):Int)+d.X+r).toNat):Nat):Int)]) 1 1000 [] (fun _ _=>Nat.le_refl _) (by omega) (by simp; omega)
  (fun k d ac hdk hac=>by
   have hk:=cp hdk
   have hd:=List.mem_of_getElem? hdk
   obtain⟨d1,d2,d3,d4⟩:=A.pts d hd
   obtain⟨i1,i2,i3⟩:=hidx d hd
   have hsz:=A.sz
   have hy:((((c:Int)+d.Y+r).toNat*(w+2*r):Nat):Int)=((c:Int)+d.Y+r)*((w+2*r:Nat):Int):=by rw[Int.natCast_mul,Int.toNat_of_nonneg i2]
   have hix:bm .i64 (bm .i64 (bO .i64 (bm .i64 (bm .i64 (c:Int) (r:Int)) d.Y) (bm .i64 g.W (bO .i64 2 (r:Int)))) (bm .i64 (a:Int) (r:Int))) d.X=((((c:Int)+d.Y+r).toNat*(w+2*r)+((a:Int)+d.X+r).toNat:Nat):Int):=by
    have hq1:bm .i64 (c:Int) (r:Int)=(c:Int)+r:=dW (by omega)
    have hq2:bm .i64 ((c:Int)+r) d.Y=(c:Int)+r+d.Y:=dW (by omega)
    have hq3:bm .i64 (a:Int) (r:Int)=(a:Int)+r:=dW (by omega)
    have hq4:bO .i64 ((c:Int)+r+d.Y) ((w+2*r:Nat):Int)=((((c:Int)+d.Y+r).toNat*(w+2*r):Nat):Int):=by
     rw[show (c:Int)+r+d.Y=(c:Int)+d.Y+r by omega,i7 (by omega),hy]
    rw[hq1,hq2,hq3,e1,hq4,dW (b:=(a:Int)+r) (by omega),dW (b:=d.X) (by omega)]
    omega
   obtain⟨x,hx,hmod⟩:=cell_mod (cl:=clA cells) rfl hb (n:=n) (k:=((c:Int)+d.Y+r).toNat*(w+2*r)+((a:Int)+d.X+r).toNat) (by omega) A.R.sb.n2
   unfold cP
   dsimp only
   rw[bG,decide_eq_true hk,cond_true,bJ,hdk,d6 (by omega)]
   simp only[aX]
   rw[hix]
   change (o6 16 (clA cells) _).bind _=_
   rw[hx,aX,A.R.st,hmod,aX,jm (by decide) (by decide) (by simp; omega)]
   rfl)
  (fun ac=>by
   unfold cP
   dsimp only
   rw[bG,decide_eq_false (Nat.lt_irrefl _)]
   rfl)
 rw[hg,List.nil_append]
theorem seen_in (A:GL_ n b t ns g w h r) (cl:List Int) (i:Nat):(nM t w r (csA cl n) i).length=t.Hood.length/\∀ s∈nM t w r (csA cl n) i,0<=s/\s < (n:Int):=by
 have hn:=A.R.sb.n2
 refine⟨by unfold nM; rw[List.length_map],fun s hs=>?_⟩
 unfold nM at hs
 obtain⟨d,_,rfl⟩:=List.mem_map.1 hs
 have:csA cl n ((((i / w:Nat):Int)+d.Y+r).toNat*(w+2*r)+(((i % w:Nat):Int)+d.X+r).toNat) < n:=Nat.mod_lt _ (by omega)
 omega
theorem leadsP (A:GL_ n b t ns g w h r) (hok:iS t=true) (hs:Sz t) (hb:∀ x∈clA cells,0<=x/\x<=255) {l:List Bool} :
  ∃ o,bh (cA t g cells y (r:Int) l) bK (true,0)=some o/\(o=true↔∀ j,j < w*h->gT t (nM t w r (csA (clA cells) n) j) (cu .i64 (b9 t.Nodes) 1)=some (g.Cells.getD j 0)):=by
 obtain⟨k1,k2,k3⟩:=A.w16
 have hlen:=A.G.len
 refine dK (b:=cA t g cells y (r:Int) l) (n:=w*h) (s:=(true,0)) (fun i st=>∃ o,st=(o,(i:Int))/\(o=true↔∀ j,j < i->gT t (nM t w r (csA (clA cells) n) j) (cu .i64 (b9 t.Nodes) 1)=some (g.Cells.getD j 0)))
  (fun o=>o=true↔∀ j,j < w*h->gT t (nM t w r (csA (clA cells) n) j) (cu .i64 (b9 t.Nodes) 1)=some (g.Cells.getD j 0)) (by omega) ⟨true,rfl,fun _ j hj=>by omega,fun _=>rfl⟩ (fun i st hi ⟨o,e,ho⟩=>?_) (fun st ⟨o,e,ho⟩=>?_)
 ·subst e
  obtain⟨q1,q2⟩:=idiv_nat (i:=i) A.G.w1 (by omega)
  have hci:g.Cells[i]?=some (g.Cells.getD i 0):=by rw[List.getD_eq_getElem?_getD,List.getElem?_eq_getElem (by omega)]; rfl
  obtain⟨l1,l2⟩:=seen_in A (clA cells) i
  obtain⟨v,hv,_⟩:=value_total (ok_of hok) hs l1 (by rw[A.R.st]; exact l2)
  have hb3:cA t g cells y (r:Int) l (o,(i:Int))=some (.next (o && eqB v (g.Cells.getD i 0),((i+1:Nat):Int))):=by
   unfold cA
   dsimp only
   rw[show ltB (i:Int) (b9 g.Cells)=true from decide_eq_true (by unfold b9; omega),cond_true,A.G.W,q1,aX,q2,aX,seenP A hb hi,aX,d6 (by omega)]
   cases o with
   | false=>rfl
   | true =>
    rw[cond_true,valueR_eq (by have:=A.R.tok.h25; omega),hv,aX,bJ,hci,aX,Bool.true_and]
  refine .inl ⟨_,hb3,_,rfl,?_⟩
  rw[Bool.and_eq_true,ho]
  constructor
  ·rintro⟨h1,h2⟩ j hj
   rcases Nat.lt_succ_iff_lt_or_eq.1 hj with hj | rfl
   ·exact h1 j hj
   ·rw[hv,show v=g.Cells.getD j 0 from of_decide_eq_true h2]
  ·intro h1
   refine⟨fun j hj=>h1 j (by omega),?_⟩
   have:=h1 i (by omega)
   rw[hv] at this
   rw[Option.some.inj this]
   exact eqB_self _
 ·subst e
  refine⟨o,?_,ho⟩
  unfold cA
  dsimp only
  rw[show ltB ((w*h:Nat):Int) (b9 g.Cells)=false from decide_eq_false (by unfold b9; omega),cond_false]
end
theorem ancestors_true (t:Tree) (g:Grid) (cells:C16) (hx:(0<=cells.1/\cells.1<=255)/\(0<=cells.2.1/\cells.2.1<=255)/\(0<=cells.2.2.1/\cells.2.2.1<=255)/\(0<=cells.2.2.2.1/\cells.2.2.2.1<=255)/\(0<=cells.2.2.2.2.1/\cells.2.2.2.2.1<=255)/\(0<=cells.2.2.2.2.2.1/\cells.2.2.2.2.2.1<=255)/\(0<=cells.2.2.2.2.2.2.1/\cells.2.2.2.2.2.2.1<=255)/\(0<=cells.2.2.2.2.2.2.2.1/\cells.2.2.2.2.2.2.2.1<=255)/\(0<=cells.2.2.2.2.2.2.2.2.1/\cells.2.2.2.2.2.2.2.2.1<=255)/\(0<=cells.2.2.2.2.2.2.2.2.2.1/\cells.2.2.2.2.2.2.2.2.2.1<=255)/\(0<=cells.2.2.2.2.2.2.2.2.2.2.1/\cells.2.2.2.2.2.2.2.2.2.2.1<=255)/\(0<=cells.2.2.2.2.2.2.2.2.2.2.2.1/\cells.2.2.2.2.2.2.2.2.2.2.2.1<=255)/\(0<=cells.2.2.2.2.2.2.2.2.2.2.2.2.1/\cells.2.2.2.2.2.2.2.2.2.2.2.2.1<=255)/\(0<=cells.2.2.2.2.2.2.2.2.2.2.2.2.2.1/\cells.2.2.2.2.2.2.2.2.2.2.2.2.2.1<=255)/\(0<=cells.2.2.2.2.2.2.2.2.2.2.2.2.2.2.1/\cells.2.2.2.2.2.2.2.2.2.2.2.2.2.2.1<=255)/\(0<=cells.2.2.2.2.2.2.2.2.2.2.2.2.2.2.2/\cells.2.2.2.2.2.2.2.2.2.2.2.2.2.2.2<=255)):fU t g cells=some true:=by
 have hb:∀ x∈clA cells,0<=x/\x<=255:=fun x h=>by
  unfold clA at h
  simp only[List.mem_cons,List.not_mem_nil,or_false] at h
  obtain⟨a1,a2,a3,a4,a5,a6,a7,a8,a9,a10,a11,a12,a13,a14,a15,a16⟩:=hx
  rcases h with e | e | e | e | e | e | e | e | e | e | e | e | e | e | e | e<;>rw[e]<;>assumption
 clear hx
 obtain⟨y,hy,hs⟩:=small_eq t ⟨0,0,0,0,0,[]⟩
 unfold fU
 rw[hy,alive45]
 cases y with
 | false=>rfl
 | true =>
  obtain⟨hsz,_⟩:=hs rfl
  simp only[aX,fi,Bool.not_true,cond_false]
  cases hc:gtB (b9 g.Cells) 5000 with
  | true=>rfl
  | false =>
   have hl:=of_decide_eq_false hc
   unfold b9 at hl
   simp only[cond_false]
   by_cases h0:chkG t g=0
   ·obtain⟨n,b,ns,w,h,r,A,h1,h2,h3,h4⟩:=gl_of h0
    have hok:iS t=true:=A.R.ok
    rw[parP A h1 h3 h4]
    simp only[aX]
    cases hf:jo (parF b t ns g n w h r).1 (parF b t ns g n w h r).2 with
    | false=>rfl
    | true =>
     have hsz16:=A.sz
     have b3:=A.R.sb.b3
     have hr2:=A.r2
     obtain⟨k1,k2,k3⟩:=A.w16
     have hmul:bO .i64 (bm .i64 g.W (bO .i64 2 (r:Int))) (bm .i64 g.H (bO .i64 2 (r:Int)))=(((w+2*r)*(h+2*r):Nat):Int):=by
      have e:=Int.natCast_mul (w+2*r) (h+2*r)
      rw[A.G.W,A.G.H,i7 (a:=2) (by omega),dW (by omega),dW (by omega),show (w:Int)+2*(r:Int)=((w+2*r:Nat):Int) by omega,show (h:Int)+2*(r:Int)=((h+2*r:Nat):Int) by omega,i7 (by omega),e]
     have hmb:(w+2*r)*(h+2*r)*b<=16*3:=Nat.mul_le_mul hsz16 b3
     have e3:=Int.natCast_mul ((w+2*r)*(h+2*r)) b
     have hmul2:bO .i64 (((w+2*r)*(h+2*r):Nat):Int) (b:Int)=(((w+2*r)*(h+2*r):Nat):Int)*b:=i7 (by omega)
     have hcs:∀ k,k < (w+2*r)*(h+2*r)->csA (clA cells) n k < n/\mM (bvA (clA cells) n b) (cU ((k:Int)*b) b) (csA (clA cells) n k):=fun k _=>⟨Nat.mod_lt _ (by have:=A.R.sb.n2; omega),bvA_bits _ _ A.R.sb.b1 k⟩
     have hgs:∀ s∈g.Cells,s < (n:Int):=fun s hs'=>by
      obtain⟨j,hj⟩:=List.mem_iff_getElem?.1 hs'
      have h5:=of_decide_eq_false (gj h4 j s hj)
      rw[A.R.st] at h5
      omega
     obtain⟨V',A',P⟩:=par_sem A hcs hgs (w*h) (Nat.le_refl _)
     have hpf:parF b t ns g n w h r=iP b t.Hood.length (inS (-(r:Int)) (-(r:Int)) (w+2*r) (h+2*r) (d9 b ((w+2*r)*(h+2*r))) t.Hood) ns w g.Cells ((((w+2*r)*(h+2*r):Nat):Int)*b,gI n b ((w+2*r)*(h+2*r))) (w*h):=rfl
     have hcl:=par_cl A (w*h) (Nat.le_refl _)
     rw[<- hpf] at P hcl
     generalize parF b t ns g n w h r=F at P hcl hf
     obtain⟨v,fc⟩:=F
     obtain⟨p1,p2,p3,p4,p5,p6⟩:=P
     dsimp only at p1 p4 p5 p6 hcl hf ⊢
     subst p1
     have hfv:V'<=65536/\fc.length<=262144:=by
      unfold jo at hf
      rw[Bool.and_eq_true] at hf
      have q1:=of_decide_eq_true hf.1
      have q2:=of_decide_eq_true hf.2
      unfold b9 at q2
      omega
     have H:Frm V' fc:=⟨by omega,by omega,p4,fun c hc'=>by have:=hcl c hc'; omega⟩
     obtain⟨rr,c1,c2⟩:=completes_is (A:=A') (l:=vA (bvA (clA cells) n b) ((w+2*r)*(h+2*r)*b)) H (by rw[vA_len]; exact p2) (fun u x hu=>by
      obtain⟨hu1,hu2⟩:=vA_get hu
      rw[hu2,p3 (u+1) hu1]) (fun u hu1 hu2=>p5 u (by rwa [vA_len] at hu1) hu2)
     obtain⟨o,l1,l2⟩:=leadsP (y:=(⟨(V':Int),fc⟩,(((w+2*r)*(h+2*r):Nat):Int)*b,0)) A hok hsz hb (l:=vA (bvA (clA cells) n b) ((w+2*r)*(h+2*r)*b))
     obtain⟨n',b',ns',RW'⟩:=rw_of hok
     have en:n'=n:=by
      have e1:=RW'.st
      have e2:=A.R.st
      omega
     have ens:ns'=ns:=by
      have e1:=RW'.P
      rw[A.R.P] at e1
      exact ((Tree.mk.inj (Option.some.inj e1)).2.2).symm
     subst en ens
     have hro:rr=o:=by
      rw[Bool.eq_iff_iff,c2,p6,l2]
      refine forall_congr' fun j=>forall_congr' fun _=>?_
      obtain⟨s1,s2⟩:=seen_in A (clA cells) j
      rw[RW'.walk _ s1 s2]
     subst hro
     simp only[cond_true]
     rw[show neB (0:Int) 0=false from rfl,cond_false,show kM t.States=some (b:Int) from by rw[PC.bitsR_eq,A.R.st]; exact congrArg some A.R.sb.bits,aX,h2,aX,hmul,hmul2,
      show neB ((((w+2*r)*(h+2*r):Nat):Int)*b) ((((w+2*r)*(h+2*r):Nat):Int)*b)=false from by simp[neB],cond_false,aX,show gtB (((w+2*r)*(h+2*r):Nat):Int) 16=false from decide_eq_false (by omega),cond_false,
      bitsL A hb,aX,l1,aX,c1,aX,show eqb rr rr=true from by cases rr<;>rfl]
     rfl
   ·rw[parErr hsz (by omega) h0]
    simp only[aX]
    rw[show neB (chkG t g) 0=true from by simp[neB,h0],cond_true]
end Go.Proofs.YtlifofijgddjkacGreatDoor
