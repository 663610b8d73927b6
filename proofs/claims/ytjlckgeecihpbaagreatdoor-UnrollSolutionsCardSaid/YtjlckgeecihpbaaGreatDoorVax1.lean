/- Plain laws: what the formula of a grid's predecessors says. -/
import Derived.Test.YtjlckgeecihpbaaGreatDoorUcx1
namespace Go.Proofs.YtjlckgeecihpbaaGreatDoor
open Go.AM Go.Proofs
theorem rep_walk {n:Nat} {t t':Tree}:∀ {m:Nat} {k k':Int} {u:DD m} {L:List Int},Rep t.Nodes m k u->Rep t'.Nodes m k' u->Reg n m u->L.length=m->(∀ s∈L,0<=s/\s < (n:Int))->fE t L k=fE t' L k'
 | 0,k,k',u,L,h,h',_,hl,_=>by
  obtain rfl:L=[]:=List.eq_nil_of_length_eq_zero hl
  exact congrArg some ((show k=u from h).trans (show k'=u from h').symm)
 | m+1,k,k',u,[],_,_,_,hl,_=>by simp at hl
 | m+1,k,k',u,s::L,⟨x,h1,_,h3,h4⟩,⟨x',h1',_,h3',h4'⟩,hr,hl,hs=>by
  obtain⟨s0,s1⟩:=hs s (by simp)
  have hn:=hr.1
  have hx:x.Next[s.toNat]?=some (x.Next[s.toNat]'(by omega)):=List.getElem?_eq_getElem _
  have hx':x'.Next[s.toNat]?=some (x'.Next[s.toNat]'(by omega)):=List.getElem?_eq_getElem _
  have hu:u.kids[s.toNat]?=some (u.kids[s.toNat]'(by omega)):=List.getElem?_eq_getElem _
  rw[fE,fE,h1,h1']
  simp only[aX]
  rw[gx _ s0,gx _ s0,hx,hx']
  exact rep_walk (h4 _ _ _ hx hu) (h4' _ _ _ hx' hu) (hr.2 _ (List.getElem_mem _)) (by simpa using hl) fun y hy=>hs y (by simp[hy])
structure RW (n b:Nat) (t:Tree) (ns:List Node):Prop extends RT n b t ns where
 walk:∀ L:List Int,L.length=t.Hood.length->(∀ s∈L,0<=s/\s < (n:Int))->fE ⟨t.States,t.Hood,ns⟩ L ((ns.length - 1:Nat):Int)=fE t L (bL .i64 (b8 t.Nodes) 1)
theorem rw_of {t:Tree} (hok:gF t=true):∃ n b ns,RW n b t ns:=by
 obtain⟨n,h⟩:=ok_tree hok
 obtain⟨b,B⟩:=sb_of h.n2 h.n8
 obtain⟨L,i,u,hi,hL,hr,hg⟩:=h.rep
 have h1:=reduce_P hok h hi hL hr
 obtain⟨hT,j,hj,hj'⟩:=h.red hL hr
 refine⟨n,b,_,⟨B,h.st,hok,h,hT,h1⟩,fun l hl hs=>?_⟩
 have hn:=h.nodes
 rw[show b8 t.Nodes=((i+1:Nat):Int) by unfold b8; omega,oN (by omega),show (ser (post (L+1) u [])).length - 1=j by omega]
 exact rep_walk (t:=⟨t.States,t.Hood,ser (post (L+1) u [])⟩) hj' hr hg (by omega) hs
section
variable {n b:Nat} {t:Tree} {ns:List Node} {g:Grid} {w h r:Nat}
def seenL (t:Tree) (w r:Nat) (cs:Nat->Nat) (i:Nat):List Int:=t.Hood.map fun d=>((cs ((((i / w:Nat):Int)+d.Y+r).toNat*(w+2*r)+(((i % w:Nat):Int)+d.X+r).toNat):Nat):Int)
theorem cells_get {m k:Nat} (hk:k < m):(bw b m)[k]?=some ((0:Int),d7 ((k:Int)*b) b):=by
 unfold bw
 rw[List.getElem?_map,List.getElem?_range hk]
 rfl
structure PSem (n b:Nat) (t:Tree) (ns:List Node) (g:Grid) (w h r:Nat) (B:Val) (cs:Nat->Nat) (i:Nat) (st:Int×List (List Int)) (V':Nat) (A':Val):Prop where
 v:st.1=(V':Int)
 le:(w+2*r)*(h+2*r)*b<=V'
 agr:∀ u,u<=(w+2*r)*(h+2*r)*b->A' u=B u
 lits:∀ d∈st.2,kA V' d
 det:∀ u,(w+2*r)*(h+2*r)*b < u->u<=V'->Det A' st.2 u
 sat:Sat A' st.2↔∀ j,j < i->fE ⟨t.States,t.Hood,ns⟩ (seenL t w r cs j) ((ns.length - 1:Nat):Int)=some (g.Cells.getD j 0)
end
end Go.Proofs.YtjlckgeecihpbaaGreatDoor
namespace Go.Proofs.YtjlckgeecihpbaaGreatDoor
open Go.AM Go.Proofs
def mxv:List Int->Nat
 | []=>0
 | x::c=>max x.natAbs (mxv c)
theorem mxv_app:∀ a b:List Int,mxv (a++b)=max (mxv a) (mxv b)
 | [],b=>by simp[mxv]
 | x::a,b=>by
  rw[List.cons_append,mxv,mxv,mxv_app a b]
  omega
theorem mxv_le {V:Nat}:∀ {c:List Int},kA V c->mxv c<=V
 | [],_=>Nat.zero_le _
 | x::c,h=>by
  have h1:=(h x (by simp)).2
  have h2:=mxv_le (c:=c) fun y hy=>h y (by simp[hy])
  rw[mxv]
  omega
theorem mxv_mem:∀ {c:List Int} {x:Int},x∈c->x.natAbs<=mxv c
 | y::c,x,h=>by
  rw[mxv]
  rcases List.mem_cons.1 h with rfl | h
  ·omega
  ·have:=mxv_mem h
   omega
theorem mxv_nil {V:Nat} {c:List Int} (h:kA V c) (h0:mxv c=0):c=[]:=by
 cases c with
 | nil=>rfl
 | cons x c =>
  have h1:=(h x (by simp)).1
  rw[mxv] at h0
  omega
theorem imax_abs {v:Nat} {x:Int} (hx:x.natAbs<=1000000):fB (fB (v:Int) x) (cz .i64 x)=((max v x.natAbs:Nat):Int):=by
 rw[ineg_in (by omega)]
 simp only[fB]
 split<;>split<;>omega
theorem imax_abs1 {x:Int} (hx:x.natAbs<=1000000):fB x (cz .i64 x)=(x.natAbs:Int):=by
 rw[ineg_in (by omega)]
 simp only[fB]
 split<;>omega
section
variable {f:Bh} {l:List Bool} {a:Int} {last:List (List Int)}
theorem comp2 {c:List Int} (hl:c.length<=1000000) (hc:∀ x∈c,x.natAbs<=1000000):ba (eD f l a last c) bp (0,0)=some ((mxv c:Nat):Int):=by
 obtain⟨t,ht,rfl⟩:=bX (b:=eD f l a last c) (n:=c.length) (s:=(0,0)) (fun i st=>st=(((mxv (c.take i):Nat):Int),(i:Int))) (fun t=>t=((mxv c:Nat):Int)) (by omega) rfl
  (fun i st hi e=>by
   subst e
   have hx:c[i]?=some c[i]:=List.getElem?_eq_getElem hi
   refine .inl ⟨(((mxv (c.take (i+1)):Nat):Int),((i+1:Nat):Int)),?_,rfl⟩
   unfold eD
   dsimp only
   rw[bh,decide_eq_true hi,cond_true,bl,hx,aX,bJ (by omega),imax_abs (hc _ (List.getElem_mem hi)),List.take_add_one,hx,Option.toList,mxv_app]
   simp[mxv])
  (fun st e=>by
   subst e
   refine⟨_,?_,rfl⟩
   unfold eD
   dsimp only
   rw[bh,decide_eq_false (Nat.lt_irrefl _),cond_false,List.take_length])
 exact ht
end
def iC (cs:List (List Int)) (i v:Nat):List Int:=((List.range i).filter fun a=>mxv (cs.getD a []) == v).map fun(a:Nat)=>(a:Int)
theorem lastS_succ (cs:List (List Int)) (i v:Nat):iC cs (i+1) v=iC cs i v++(if mxv (cs.getD i [])=v then [(i:Int)] else []):=by
 unfold iC
 rw[List.range_succ,List.filter_append,List.map_append]
 congr 1
 by_cases h:mxv (cs.getD i [])=v
 ·rw[if_pos h,List.filter_cons_of_pos (by simpa using h)]
  rfl
 ·rw[if_neg h,List.filter_cons_of_neg (by simpa using h)]
  rfl
theorem lastS_len (cs:List (List Int)) (i v:Nat):(iC cs i v).length<=i:=by
 unfold iC
 rw[List.length_map]
 exact Nat.le_trans (List.length_filter_le _ _) (by rw[List.length_range]; exact Nat.le_refl _)
theorem lastS_mem {cs:List (List Int)} {i v:Nat} {a:Int}:a∈iC cs i v↔∃ k:Nat,a=(k:Int)/\k < i/\mxv (cs.getD k [])=v:=by
 unfold iC
 rw[List.mem_map]
 constructor
 ·rintro⟨k,hk,rfl⟩
  rw[List.mem_filter,List.mem_range] at hk
  exact⟨k,rfl,hk.1,by simpa using hk.2⟩
 ·rintro⟨k,rfl,h1,h2⟩
  exact⟨k,List.mem_filter.2 ⟨List.mem_range.2 h1,by simpa using h2⟩,rfl⟩
structure Frm (V:Nat) (cs:List (List Int)):Prop where
 V1:V<=1000000
 len:cs.length<=100000000
 lits:∀ c∈cs,kA V c
 cl:∀ c∈cs,c.length<=1000000
section
variable {V:Nat} {cs:List (List Int)} {l:List Bool}
theorem Frm.get (_H:Frm V cs) {i:Nat} (hi:i < cs.length):cs[i]?=some (cs.getD i [])/\cs.getD i []∈cs:=by
 have h:cs[i]?=some (cs.getD i []):=by rw[List.getD_eq_getElem?_getD,List.getElem?_eq_getElem hi]; rfl
 exact⟨h,List.mem_of_getElem? h⟩
theorem comp1 (H:Frm V cs):∃ last,ba (eC ⟨V,cs⟩ l) bp (0,List.replicate (V+1) [])=some (.inr last)/\∀ v,v<=V->last[v]?=some (iC cs cs.length v):=by
 have hV:=H.V1
 have hlen:=H.len
 obtain⟨t,ht,last,rfl,hl⟩:=bX (b:=eC ⟨V,cs⟩ l) (n:=cs.length) (s:=(0,List.replicate (V+1) []))
  (fun i st=>∃ last,st=((i:Int),last)/\∀ v,v<=V->last[v]?=some (iC cs i v)) (fun t=>∃ last,t=.inr last/\∀ v,v<=V->last[v]?=some (iC cs cs.length v)) (by omega)
  ⟨_,rfl,fun v hv=>by rw[List.getElem?_replicate,if_pos (by omega)]; rfl⟩
  (fun i st hi ⟨last,e,hl⟩=>by
   subst e
   obtain⟨hx,hm⟩:=H.get hi
   have hle:=mxv_le (H.lits _ hm)
   generalize cs.getD i []=c at hx hm hle
   refine .inl ⟨(((i+1:Nat):Int),last.set (mxv c) (iC cs i (mxv c)++[(i:Int)])),?_,_,rfl,fun v hv=>?_⟩
   ·unfold eC
    dsimp only
    rw[bh,decide_eq_true hi,cond_true,bl,hx,aX,comp2 (H.cl c hm) (fun x h=>by have:=(H.lits c hm x h).2; omega),aX,show gtB ((mxv c:Nat):Int) (V:Int)=false from decide_eq_false (by omega),cond_false,
     bl,hl _ hle,aX,jL (by omega) (by omega) (by have:=lastS_len cs i (mxv c); simp only[List.length_singleton]; omega),aX,bJ (by omega),Int.toNat_natCast]
   ·rw[lastS_succ,show cs.getD i []=c by rw[List.getD_eq_getElem?_getD,hx]; rfl]
    by_cases hv':mxv c=v
    ·subst hv'
     rw[if_pos rfl,List.getElem?_set_self (by have:=(List.getElem?_eq_some_iff.1 (hl _ hle)).1; exact this)]
    ·rw[if_neg hv',List.append_nil,List.getElem?_set_ne hv',hl v hv])
  (fun st ⟨last,e,hl⟩=>by
   subst e
   refine⟨_,?_,last,rfl,hl⟩
   unfold eC
   dsimp only
   rw[bh,decide_eq_false (Nat.lt_irrefl _),cond_false])
 exact⟨last,ht,hl⟩
theorem satd_in {which:List Int} {vals:List Bool} {B:Val} {a:Int} {c:List Int} (hl:c.length<=1000000) (hv:vals.length<=1000000) (hc:∀ x∈c,1<=x.natAbs/\x.natAbs<=vals.length) (hB:∀ (u:Nat) b,vals[u]?=some b->b=B (u+1)) :
  ba (ez ⟨V,cs⟩ which vals a c) bp (false,0)=some (iz B c):=by
 obtain⟨t,ht,rfl⟩:=bX (b:=ez ⟨V,cs⟩ which vals a c) (n:=c.length) (s:=(false,0)) (fun i st=>st=(iz B (c.take i),(i:Int))) (fun t=>t=iz B c) (by omega) rfl
  (fun i st hi e=>by
   subst e
   have hx:c[i]?=some c[i]:=List.getElem?_eq_getElem hi
   have hxm:=hc _ (List.getElem_mem hi)
   generalize c[i]=x at hx hxm
   have hs:iz B (c.take (i+1))=(iz B (c.take i) || mR B x):=by
    rw[List.take_add_one,hx,Option.toList,ma]
    simp[iz]
   refine .inl ⟨(iz B (c.take (i+1)),((i+1:Nat):Int)),?_,rfl⟩
   unfold ez
   dsimp only
   rw[bh,decide_eq_true hi,cond_true,bl,hx,aX,hs,bJ (by omega)]
   cases iz B (c.take i) with
   | true=>rfl
   | false =>
    obtain⟨m,hm⟩:∃ m,x.natAbs=m+1:=⟨x.natAbs - 1,by omega⟩
    have hg:vals[m]?=some vals[m]:=List.getElem?_eq_getElem (by omega)
    rw[cond_false,imax_abs1 (by omega),hm,oN (by omega),bl,hg,aX,hB m _ hg,Bool.false_or]
    unfold mR
    rw[hm]
    rfl)
  (fun st e=>by
   subst e
   refine⟨_,?_,rfl⟩
   unfold ez
   dsimp only
   rw[bh,decide_eq_false (Nat.lt_irrefl _),cond_false,List.take_length])
 exact ht
theorem satd_is (H:Frm V cs) {v:Nat} {vals:List Bool} {B:Val} (hv:vals.length=v) (hvV:v<=V) (hB:∀ (u:Nat) b,vals[u]?=some b->b=B (u+1)) :
  ∃ r,eJ ⟨V,cs⟩ (iC cs cs.length v) vals=some r/\(r=true↔∀ c∈cs,mxv c=v->iz B c=true):=by
 have hV:=H.V1
 have hlen:=H.len
 have hll:=lastS_len cs cs.length v
 have hw:∀ (i:Nat) a,(iC cs cs.length v)[i]?=some a->∃ k:Nat,a=(k:Int)/\k < cs.length/\mxv (cs.getD k [])=v:=fun i a h=>lastS_mem.1 (List.mem_of_getElem? h)
 have hall:(∀ (i:Nat) a,(iC cs cs.length v)[i]?=some a->iz B (cs.getD a.toNat [])=true)->∀ c∈cs,mxv c=v->iz B c=true:=fun h c hc hm=>by
  obtain⟨k,hk⟩:=List.mem_iff_getElem?.1 hc
  have hg:cs.getD k []=c:=by rw[List.getD_eq_getElem?_getD,hk]; rfl
  obtain⟨i,hi⟩:=List.mem_iff_getElem?.1 ((lastS_mem (v:=v)).2 ⟨k,rfl,(List.getElem?_eq_some_iff.1 hk).1,by rw[hg]; exact hm⟩)
  have:=h i _ hi
  rwa [Int.toNat_natCast,hg] at this
 obtain⟨o,ho,hq⟩:=bX (b:=eE ⟨V,cs⟩ (iC cs cs.length v) vals) (n:=(iC cs cs.length v).length) (s:=0)
  (fun i st=>st=(i:Int)/\∀ (j:Nat) a,j < i->(iC cs cs.length v)[j]?=some a->iz B (cs.getD a.toNat [])=true)
  (fun o=>(o=.inl false/\∃ c∈cs,mxv c=v/\iz B c=false) \/ (o=.inr ()/\∀ c∈cs,mxv c=v->iz B c=true)) (by omega) ⟨rfl,fun j x hj=>by omega⟩
  (fun i st hi ⟨e,h⟩=>by
   subst e
   have hx:(iC cs cs.length v)[i]?=some (iC cs cs.length v)[i]:=List.getElem?_eq_getElem hi
   obtain⟨k,hk,hkl,hkm⟩:=hw i _ hx
   rw[hk] at hx
   obtain⟨hg,hm⟩:=H.get hkl
   generalize hcc:cs.getD k []=c at hkm hg hm
   have hb:eE ⟨V,cs⟩ (iC cs cs.length v) vals (i:Int)=some (bif iz B c then .next ((i+1:Nat):Int) else .out (.inl false)):=by
    unfold eE
    dsimp only
    rw[bh,decide_eq_true hi,cond_true,bl,hx,aX,bl,hg,aX,satd_in (B:=B) (H.cl c hm) (by omega) (fun x hx=>⟨(H.lits c hm x hx).1,by have:=mxv_mem hx; omega⟩) hB,aX,bJ (by omega)]
    cases iz B c<;>rfl
   cases hs:iz B c with
   | true =>
    refine .inl ⟨_,by rw[hb,hs]; rfl,rfl,fun j a hj ha=>?_⟩
    rcases Nat.lt_succ_iff_lt_or_eq.1 hj with hj | rfl
    ·exact h j a hj ha
    ·rw[hx] at ha
     cases ha
     rw[Int.toNat_natCast,hcc,hs]
   | false=>exact .inr ⟨_,by rw[hb,hs]; rfl,.inl ⟨rfl,c,hm,hkm,hs⟩⟩)
  (fun st ⟨e,h⟩=>by
   subst e
   refine⟨_,?_,.inr ⟨rfl,hall fun i a ha=>h i a (List.getElem?_eq_some_iff.1 ha).1 ha⟩⟩
   unfold eE
   dsimp only
   rw[bh,decide_eq_false (Nat.lt_irrefl _),cond_false])
 unfold eJ
 rw[ho,aX]
 rcases hq with ⟨rfl,c,h1,h2,h3⟩ | ⟨rfl,h⟩
 ·exact⟨false,rfl,by simp,fun hh=>by rw[hh c h1 h2] at h3; cases h3⟩
 ·exact⟨true,rfl,fun _=>h,fun _=>rfl⟩
end
end Go.Proofs.YtjlckgeecihpbaaGreatDoor
namespace Go.Proofs.YtjlckgeecihpbaaGreatDoor
open Go.AM Go.Proofs
section
variable {V:Nat} {cs:List (List Int)} {l:List Bool} {last:List (List Int)}
theorem comp4 {v:Nat} {vals:List Bool} {x:List Int} {P:Bool->Bool} (hv:v<=1000000) (_hl:l.length<=1000000) (hvl:vals.length=v) (hx:last[v+1]?=some x) (hP:∀ b,eJ ⟨V,cs⟩ x (vals++[b])=some (P b)) {C:Bool->Bool}
  (hC:∀ b,C b=(match l[v]? with | some y=>eqb b y | none=>true)) :
  ba (dr ⟨V,cs⟩ l last ((v+1:Nat):Int)) bp (vals,false,0)=some (bif C false && P false then (vals++[false],true) else bif C true && P true then (vals++[true],true) else (vals,false)):=by
 have hs:slc3 vals ((v:Nat):Int) ((v:Nat):Int)=some vals:=by
  unfold slc3
  rw[if_pos (by omega),Int.toNat_natCast,List.take_of_length_le (by omega)]
 have ha:∀ b:Bool,eT 1 vals [b]=some (vals++[b]):=fun b=>jL (by omega) (by omega) (by simp only[List.length_singleton]; omega)
 have hst:∀ (k:Int) (b:Bool),eqB k 1=b->ltB k 2=true->dr ⟨V,cs⟩ l last ((v+1:Nat):Int) (vals,false,k)=some (.next (bif C b && P b then (vals++[b],true,bo .i64 k 1) else (vals,false,bo .i64 k 1))):=fun k b hk h2=>by
  unfold dr
  dsimp only
  rw[h2,cond_true,aX,show cy false=true from rfl,cond_true,oN (by omega),hk]
  have hg:(bif leB ((v+1:Nat):Int) (b8 l) then (idx l (v:Int)).bind fun x=>some (cy (eqb b x)) else some false)=some (cy (C b)):=by
   rw[hC]
   by_cases h:v < l.length
   ·rw[show leB ((v+1:Nat):Int) (b8 l)=true from decide_eq_true (by unfold b8; omega),cond_true,bl,List.getElem?_eq_getElem h]
    rfl
   ·rw[show leB ((v+1:Nat):Int) (b8 l)=false from decide_eq_false (by unfold b8; omega),cond_false,List.getElem?_eq_none (by omega)]
    rfl
  rw[hg,aX]
  cases C b with
  | false=>rfl
  | true =>
   rw[show cy true=false from rfl,cond_false,bl,hx,aX,hs,aX,ha,aX,hP,aX]
   cases P b<;>rfl
 have hout:∀ (vals:List Bool) (k:Int),dr ⟨V,cs⟩ l last ((v+1:Nat):Int) (vals,true,k)=some (.out (vals,true)):=fun vals k=>by
  unfold dr
  dsimp only
  cases ltB k 2<;>rfl
 have h0:=hst 0 false rfl rfl
 have h1:=hst 1 true rfl rfl
 have h2:dr ⟨V,cs⟩ l last ((v+1:Nat):Int) (vals,false,2)=some (.out (vals,false)):=rfl
 obtain⟨m,hm⟩:∃ m,bp=m+3:=⟨1099511627773,rfl⟩
 rw[hm,ba,h0]
 cases hc0:C false && P false with
 | true =>
  simp only[cond_true]
  rw[ba,hout]
 | false =>
  simp only[cond_false]
  rw[show bo .i64 0 1=1 from rfl,ba,h1]
  cases hc1:C true && P true with
  | true =>
   simp only[cond_true]
   rw[ba,hout]
  | false =>
   simp only[cond_false]
   rw[show bo .i64 1 1=2 from rfl,ba,h2]
def vA (A:Val) (i:Nat):List Bool:=(List.range i).map fun u=>A (u+1)
theorem vA_len (A:Val) (i:Nat):(vA A i).length=i:=by simp[vA]
theorem vA_succ (A:Val) (i:Nat):vA A (i+1)=vA A i++[A (i+1)]:=by simp[vA,List.range_succ]
theorem vA_get {A:Val} {i u:Nat} {b:Bool} (h:(vA A i)[u]?=some b):u < i/\b=A (u+1):=by
 have hu:u < i:=by
  have:=(List.getElem?_eq_some_iff.1 h).1
  rwa [vA_len] at this
 unfold vA at h
 rw[List.getElem?_map,List.getElem?_range hu] at h
 exact⟨hu,(Option.some.inj h).symm⟩
theorem comp3 {A:Val} (H:Frm V cs) (hl:l.length<=V) (hA:∀ (u:Nat) b,l[u]?=some b->b=A (u+1)) (hdet:∀ u,l.length < u->u<=V->Det A cs u) (hlast:∀ v,v<=V->last[v]?=some (iC cs cs.length v))
  (h0:∀ c∈cs,mxv c≠0):∃ o,ba (dT ⟨V,cs⟩ l last) bp ([],1)=some o/\((o=.inl false/\¬ Sat A cs) \/ (o=.inr ()/\Sat A cs)):=by
 have hV:=H.V1
 refine bX (b:=dT ⟨V,cs⟩ l last) (n:=V) (s:=([],1)) (fun i st=>st=(vA A i,((i+1:Nat):Int))/\∀ c∈cs,mxv c<=i->iz A c=true)
  (fun o=>(o=.inl false/\¬ Sat A cs) \/ (o=.inr ()/\Sat A cs)) (by omega) ⟨rfl,fun c hc hm=>absurd (Nat.le_zero.1 hm) (h0 c hc)⟩ (fun i st hi ⟨e,h⟩=>?_) (fun st ⟨e,h⟩=>?_)
 ·subst e
  have hB:∀ b:Bool,∃ r,eJ ⟨V,cs⟩ (iC cs cs.length (i+1)) (vA A i++[b])=some r/\(r=true↔∀ c∈cs,mxv c=i+1->iz (fun u=>if u=i+1 then b else A u) c=true):=fun b =>
   satd_is H (by simp[vA_len]) (by omega) fun u y hy=>by
    rw[List.getElem?_append,vA_len] at hy
    split at hy
    ·rename_i hu
     rw[if_neg (by omega)]
     exact (vA_get hy).2
    ·rename_i hu
     have hu0:u - i=0:=by
      have:=(List.getElem?_eq_some_iff.1 hy).1
      simp only[List.length_singleton] at this
      omega
     rw[hu0] at hy
     rw[if_pos (by omega)]
     exact (Option.some.inj hy).symm
  obtain⟨P,hP⟩:∃ P:Bool->Bool,∀ b,eJ ⟨V,cs⟩ (iC cs cs.length (i+1)) (vA A i++[b])=some (P b)/\(P b=true↔∀ c∈cs,mxv c=i+1->iz (fun u=>if u=i+1 then b else A u) c=true) :=
   ⟨fun b=>(hB b).choose,fun b=>(hB b).choose_spec⟩
  obtain⟨C,hC⟩:∃ C:Bool->Bool,∀ b,C b=(match l[i]? with | some y=>eqb b y | none=>true):=⟨_,fun _=>rfl⟩
  have hAA:(fun u=>if u=i+1 then A (i+1) else A u)=A:=by
   funext u
   split
   ·rename_i e; rw[e]
   ·rfl
  have hPA:P (A (i+1))=true↔∀ c∈cs,mxv c=i+1->iz A c=true:=by
   have:=(hP (A (i+1))).2
   rwa [hAA] at this
  have hCA:C (A (i+1))=true:=by
   rw[hC]
   cases hg:l[i]? with
   | none=>rfl
   | some y =>
    rw[hA i y hg]
    exact beq_self_eq_true _
  have hNA:(C (!A (i+1)) && P (!A (i+1)))=false:=by
   by_cases hil:i < l.length
   ·rw[hC,List.getElem?_eq_getElem hil]
    have:=hA i _ (List.getElem?_eq_getElem hil)
    show (eqb (!A (i+1)) l[i] && _)=false
    rw[this]
    cases A (i+1)<;>rfl
   ·obtain⟨c,hc,h1,⟨x,hx,hxu⟩,h2⟩:=hdet (i+1) (by omega) (by omega)
    have hmx:mxv c=i+1:=Nat.le_antisymm (mxv_le h1) (by rw[<- hxu]; exact mxv_mem hx)
    have hf:P (!A (i+1))=false:=by
     rw[<- Bool.not_eq_true]
     intro hp
     have h3:=(hP (!A (i+1))).2.1 hp c hc hmx
     rw[h2 (fun u=>if u=i+1 then !A (i+1) else A u) (fun k hk=>if_neg (by omega)) (if_pos rfl)] at h3
     cases h3
    rw[hf,Bool.and_false]
  have hr:(bif C false && P false then (vA A i++[false],true) else bif C true && P true then (vA A i++[true],true) else (vA A i,false))=(bif P (A (i+1)) then (vA A (i+1),true) else (vA A i,false)):=by
   rw[vA_succ]
   cases hb:A (i+1) with
   | false =>
    rw[hb] at hCA hNA
    rw[hCA,Bool.true_and]
    cases P false with
    | true=>rfl
    | false =>
     rw[cond_false,show (C true && P true)=false from hNA]
     rfl
   | true =>
    rw[hb] at hCA hNA
    rw[hCA,Bool.true_and,show (C false && P false)=false from hNA]
    cases P true<;>rfl
  have hb:dT ⟨V,cs⟩ l last (vA A i,((i+1:Nat):Int))=some (bif P (A (i+1)) then .next (vA A (i+1),((i+2:Nat):Int)) else .out (.inl false)):=by
   unfold dT
   dsimp only
   rw[show leB ((i+1:Nat):Int) (V:Int)=true from decide_eq_true (by omega),cond_true,comp4 (P:=P) (C:=C) (by omega) (by omega) (vA_len A i) (hlast (i+1) (by omega)) (fun b=>(hP b).1) hC,aX,hr,bJ (by omega)]
   cases P (A (i+1))<;>rfl
  cases hp:P (A (i+1)) with
  | true =>
   refine .inl ⟨_,by rw[hb,hp]; rfl,rfl,fun c hc hm=>?_⟩
   rcases Nat.lt_or_ge i (mxv c) with h1 | h1
   ·exact hPA.1 hp c hc (by omega)
   ·exact h c hc h1
  | false =>
   refine .inr ⟨_,by rw[hb,hp]; rfl,.inl ⟨rfl,fun hs=>?_⟩⟩
   rw[hPA.2 fun c hc _=>hs c hc] at hp
   cases hp
 ·subst e
  refine⟨_,?_,.inr ⟨rfl,fun c hc=>h c hc (mxv_le (H.lits c hc))⟩⟩
  unfold dT
  dsimp only
  rw[show leB ((V+1:Nat):Int) (V:Int)=false from decide_eq_false (by omega),cond_false]
theorem completes_is {A:Val} (H:Frm V cs) (hl:l.length<=V) (hA:∀ (u:Nat) b,l[u]?=some b->b=A (u+1)) (hdet:∀ u,l.length < u->u<=V->Det A cs u):∃ r,j0 ⟨V,cs⟩ l=some r/\(r=true↔Sat A cs):=by
 have hV:=H.V1
 obtain⟨last,h1,h2⟩:=comp1 (l:=l) H
 unfold j0
 dsimp only
 have hup:bo .i64 (V:Int) 1=((V+1:Nat):Int):=bJ (by omega)
 rw[hup,show mkL 24 ((V+1:Nat):Int) ((V+1:Nat):Int) ([]:List Int)=some (List.replicate (V+1) []) from by unfold mkL; rw[if_pos (by omega)]; rfl,aX,Int.toNat_natCast,h1,aX]
 dsimp only
 rw[show idx last 0=some (iC cs cs.length 0) from (bl last 0).trans (h2 0 (Nat.zero_le _)),aX]
 by_cases he:∃ c∈cs,mxv c=0
 ·obtain⟨c,hc,hm⟩:=he
  obtain⟨k,hk⟩:=List.mem_iff_getElem?.1 hc
  have hg:cs.getD k []=c:=by rw[List.getD_eq_getElem?_getD,hk]; rfl
  have hmem:=(lastS_mem (v:=0)).2 ⟨k,rfl,(List.getElem?_eq_some_iff.1 hk).1,by rw[hg]; exact hm⟩
  rw[show gtB (b8 (iC cs cs.length 0)) 0=true from decide_eq_true (by unfold b8; have:=List.length_pos_of_mem hmem; omega),cond_true,aX,cond_true]
  refine⟨false,rfl,by simp,fun hs=>?_⟩
  have h3:=hs c hc
  rw[mxv_nil (H.lits c hc) hm] at h3
  cases h3
 ·have hn:iC cs cs.length 0=[]:=by
   apply List.eq_nil_iff_forall_not_mem.2
   intro a ha
   obtain⟨k,_,h3,h4⟩:=lastS_mem.1 ha
   exact he ⟨_,(H.get h3).2,h4⟩
  rw[hn,show gtB (b8 ([]:List Int)) 0=false from rfl,cond_false,aX,show gtB (b8 l) (V:Int)=false from decide_eq_false (by unfold b8; omega),cond_false]
  obtain⟨o,h3,h4⟩:=comp3 (A:=A) H hl hA hdet h2 fun c hc hm=>he ⟨c,hc,hm⟩
  rw[h3,aX]
  rcases h4 with ⟨rfl,h4⟩ | ⟨rfl,h4⟩
  ·exact⟨false,rfl,by simp,fun hs=>absurd hs h4⟩
  ·exact⟨true,rfl,fun _=>h4,fun _=>rfl⟩
end
end Go.Proofs.YtjlckgeecihpbaaGreatDoor
namespace Go.Proofs.YtjlckgeecihpbaaGreatDoor
open Go.AM Go.Proofs
section
variable {n b:Nat} {t:Tree} {ns:List Node} {g:Grid} {w h r:Nat}
def csA (cl:List Int) (n k:Nat):Nat:=(cl.getD k 0).toNat % n
def bvA (cl:List Int) (n b:Nat):Val:=fun u=>fZ ((csA cl n ((u - 1) / b):Nat):Int) ((u - 1) % b)
theorem bvA_bits (cl:List Int) (n:Nat) {b:Nat} (hb:1<=b) (k:Nat):mP (bvA cl n b) (d7 ((k:Int)*b) b) (csA cl n k):=fun j x hx=>by
 have hj:j < b:=by
  have:=(List.getElem?_eq_some_iff.1 hx).1
  rwa [ev] at this
 rw[fresh_get _ _ hj] at hx
 have hx':=Option.some.inj hx
 have e:((k:Int)*b)=((k*b:Nat):Int):=by rw[Int.natCast_mul]
 have hn:x.natAbs - 1=k*b+j:=by rw[e] at hx'; omega
 unfold bvA
 rw[hn,Nat.mul_comm k b,Nat.mul_add_div (by omega),Nat.div_eq_of_lt hj,Nat.add_zero,Nat.mul_add_mod,Nat.mod_eq_of_lt hj]
end
abbrev C16:=Int×Int×Int×Int×Int×Int×Int×Int×Int×Int×Int×Int×Int×Int×Int×Int
section
variable {n b:Nat} {t:Tree} {ns:List Node} {g:Grid} {w h r:Nat} {cells:C16} {y:Bh×Int×Int}
end
end Go.Proofs.YtjlckgeecihpbaaGreatDoor
