/- Plain laws: the program's tree with a position's state fixed. -/
import Derived.Test.YtcllfealpkhjfaaGreatDoorRrx1
namespace Go.Proofs.YtcllfealpkhjfaaGreatDoor
open Go.AM Go.Proofs
theorem Szd.chg {n:Nat} {nodes:List Node} (hS:Szd n nodes) {M s:Nat} (hs:s < n):Szd n (nodes.map (chgN M s)) :=
 ⟨hS.good.chg hs,fun y hy=>by
  obtain⟨x,hx,rfl⟩:=List.mem_map.1 hy
  rw[chgN_lev]
  exact hS.lev x hx,by rw[List.length_map]; exact hS.len,hS.n6⟩
end Go.Proofs.YtcllfealpkhjfaaGreatDoor
namespace Go.Proofs.YtcllfealpkhjfaaGreatDoor
open Go.AM Go.Proofs
structure TOk (n:Nat) (t:Tree):Prop where
 st:t.States=(n:Int)
 n2:2<=n
 n8:n<=8
 h1:1<=t.Hood.length
 h25:t.Hood.length<=25
 nodes:t.Nodes.length<=4096
 good:Good n t.Nodes
 lev:∀ x∈t.Nodes,x.Level<=t.Hood.length
 root:∃ i x,i+1=t.Nodes.length/\t.Nodes[i]?=some x/\x.Level=(t.Hood.length:Int)
theorem ok_tree {t:Tree} (h:treeOk t=true):∃ n,TOk n t:=by
 simp only[treeOk,Bool.and_eq_true,Bool.not_eq_true',Bool.or_eq_false_iff] at h
 obtain⟨⟨a1,a2,a3,a4,a5⟩,a6,a7⟩:=h
 have b1:=of_decide_eq_false a1
 have b2:=of_decide_eq_false a2
 have b4:=of_decide_eq_false a4
 have b5:=of_decide_eq_false a5
 unfold aT at b4 b5
 have a3':hoodOk t.Hood=true:=by simpa using a3
 simp only[hoodOk,Bool.and_eq_true,Bool.not_eq_true',Bool.or_eq_false_iff] at a3'
 have c1:=of_decide_eq_false a3'.1.1
 have c2:=of_decide_eq_false a3'.1.2
 unfold aT at c1 c2
 have hst:t.States=((t.States.toNat:Nat):Int):=by omega
 have node:∀ (i:Nat) x,t.Nodes[i]?=some x->1<=x.Level/\x.Level<=t.Hood.length/\x.Next.length=t.States.toNat/\∀ k∈x.Next,badE t (i:Nat) x k=false:=fun i x hx=>by
  have hb:=anyB_false a6 i x hx
  simp only[badN,Bool.or_eq_false_iff] at hb
  obtain⟨d1,d2,d3,d4⟩:=hb
  have e1:=of_decide_eq_false d1
  have e2:=of_decide_eq_false d2
  have e3:aT x.Next=t.States:=by simpa [neB] using d3
  unfold aT at e2 e3
  refine⟨by omega,by omega,by omega,fun k hk=>?_⟩
  obtain⟨j,hj⟩:=List.mem_iff_getElem?.1 hk
  have:=anyB_false d4 j k hj
  rwa [Nat.zero_add] at this
 refine⟨t.States.toNat,hst,by omega,by omega,by omega,by omega,by omega,⟨fun i x hx=>(node i x hx).1,fun i x hx=>(node i x hx).2.2.1,fun i x hx h1 k hk=>?_,fun i x hx h1 k hk=>?_⟩,fun x hx=>?_,?_⟩
 ·have hb:=(node i x hx).2.2.2 k hk
  have hlx:=(node i x hx).2.1
  simp only[badE,Bool.or_eq_false_iff] at hb
  obtain⟨d1,_,d3⟩:=hb
  rw[show gtB x.Level 1=true from decide_eq_true h1,Bool.true_and,Bool.or_eq_false_iff] at d3
  have e1:=of_decide_eq_false d1
  have e2:=of_decide_eq_false d3.1
  have hi:=(List.getElem?_eq_some_iff.1 hx).1
  have hkl:k.toNat < t.Nodes.length:=by omega
  refine⟨by omega,by omega,t.Nodes[k.toNat],List.getElem?_eq_getElem hkl,?_⟩
  have hlo:=d3.2
  unfold lowOk at hlo
  rw[List.getElem?_eq_getElem hkl] at hlo
  have e3:(t.Nodes[k.toNat]).Level=bc .i64 x.Level 1:=by simpa [neB] using hlo
  rw[e3]
  unfold bc
  rw[i64_in (by omega)]
 ·have hb:=(node i x hx).2.2.2 k hk
  simp only[badE,Bool.or_eq_false_iff] at hb
  obtain⟨d1,d2,_⟩:=hb
  rw[show eqB x.Level 1=true from by simp[eqB,h1],Bool.true_and] at d2
  have e1:=of_decide_eq_false d1
  have e2:=of_decide_eq_false d2
  omega
 ·obtain⟨i,hi⟩:=List.mem_iff_getElem?.1 hx
  exact (node i x hi).2.1
 ·unfold rootOk at a7
  cases hr:t.Nodes[t.Nodes.length - 1]? with
  | none=>rw[hr] at a7; cases a7
  | some x =>
   rw[hr] at a7
   exact⟨t.Nodes.length - 1,x,by omega,hr,by simpa [eqB,aT] using a7⟩
theorem TOk.szd {n:Nat} {t:Tree} (h:TOk n t):Szd n t.Nodes:=⟨h.good,fun x hx=>by have:=h.lev x hx; have:=h.h25; omega,by have:=h.nodes; omega,by have:=h.n8; omega⟩
theorem TOk.rep {n:Nat} {t:Tree} (h:TOk n t):∃ (L i:Nat) (u:DD (L+1)),i+1=t.Nodes.length/\L+1=t.Hood.length/\Rep t.Nodes (L+1) i u/\Reg n (L+1) u:=by
 obtain⟨i,x,hi,hx,hl⟩:=h.root
 have h1:=h.h1
 obtain⟨L,hL⟩:∃ L,t.Hood.length=L+1:=⟨t.Hood.length - 1,by omega⟩
 obtain⟨u,hu,hr⟩:=h.good.rep L i x hx (by omega)
 exact⟨L,i,u,hi,hL.symm,hu,hr⟩
theorem sz_of {n:Nat} {t:Tree} (h:TOk n t):Sz t:=⟨by have:=h.h25; omega,by have:=h.nodes; omega,fun x hx=>by
 obtain⟨i,hi⟩:=List.mem_iff_getElem?.1 hx
 have:=h.good.len i x hi
 have:=h.n8
 omega⟩
theorem reduce_is {n:Nat} {t:Tree} (hok:treeOk t=true) (h:TOk n t) {L i:Nat} {u:DD (L+1)} (hi:i+1=t.Nodes.length) (hL:L+1=t.Hood.length) (hr:Rep t.Nodes (L+1) i u) :
  m_reduce_Reduce t=some ⟨t.States,t.Hood,ser (post (L+1) u [])⟩/\m_R13_Reduce t=some ⟨t.States,t.Hood,ser (post (L+1) u [])⟩:=by
 have h25:=h.h25
 have hn:=h.n8
 have hnd:=h.nodes
 constructor
 ·unfold m_reduce_Reduce
  rw[tree_eq (sz_of h),hok]
  simp only[some_bind,bB,Bool.not_true,cond_false]
  rw[rebuilt_is numI h.szd (by omega) hi hr]
  rfl
 ·unfold m_R13_Reduce
  rw[treeR_eq (sz_of h),hok]
  simp only[some_bind,bB,Bool.not_true,cond_false]
  rw[reduced13_is h.good (by omega) (by omega) hi hr (by omega)]
  rfl
end Go.Proofs.YtcllfealpkhjfaaGreatDoor
namespace Go.Proofs.YtcllfealpkhjfaaGreatDoor
open Go.AM Go.Proofs
theorem tok_ok {n:Nat} {t:Tree} (h:TOk n t) (hh:hoodOk t.Hood=true):treeOk t=true:=by
 have n2:=h.n2
 have n8:=h.n8
 have hst:=h.st
 have h1:=h.h1
 have h25:=h.h25
 have hnd:=h.nodes
 obtain⟨i0,x0,r1,r2,r3⟩:=h.root
 simp only[treeOk,Bool.and_eq_true,Bool.not_eq_true',Bool.or_eq_false_iff]
 refine⟨⟨decide_eq_false (by omega),decide_eq_false (by omega),by rw[hh]; rfl,decide_eq_false (by unfold aT; omega),decide_eq_false (by unfold aT; omega)⟩,anyB_of_false fun i x hx=>?_,?_⟩
 ·have hxl:=h.good.len i x hx
  have hlv:=h.good.lev i x hx
  have hle:=h.lev x (List.mem_of_getElem? hx)
  simp only[badN,Bool.or_eq_false_iff]
  refine⟨decide_eq_false (by omega),decide_eq_false (by unfold aT; omega),by simp[neB,aT,hxl,hst],anyB_of_false fun j k hj=>?_⟩
  have hmem:=List.mem_of_getElem? hj
  simp only[badE,Bool.or_eq_false_iff,Nat.zero_add]
  by_cases hL:x.Level=1
  ·obtain⟨a,b⟩:=h.good.st i x hx hL k hmem
   refine⟨decide_eq_false (by omega),?_,?_⟩
   ·rw[show geB k t.States=false from decide_eq_false (by omega),Bool.and_false]
   ·rw[show gtB x.Level 1=false from decide_eq_false (by omega),Bool.false_and]
  ·obtain⟨a,b,y,hy,hyl⟩:=h.good.kid i x hx (by omega) k hmem
   refine⟨decide_eq_false (by omega),?_,?_⟩
   ·rw[show eqB x.Level 1=false from by simp[eqB,hL],Bool.false_and]
   ·have hlo:lowOk t x k=false:=by
     unfold lowOk
     rw[hy]
     have:bc .i64 x.Level 1=x.Level - 1:=by unfold bc; rw[i64_in (by omega)]
     simp[neB,this,hyl]
    rw[show geB k (i:Int)=false from decide_eq_false (by omega),hlo]
    simp
 ·unfold rootOk
  rw[show t.Nodes.length - 1=i0 by omega,r2]
  simp[eqB,aT,r3]
theorem tok_hood {t:Tree} (h:treeOk t=true):hoodOk t.Hood=true:=by
 simp only[treeOk,Bool.and_eq_true,Bool.not_eq_true',Bool.or_eq_false_iff] at h
 simpa using h.1.2.2.1
theorem TOk.chg {n:Nat} {t:Tree} (h:TOk n t) {M s:Nat} (hs:s < n):TOk n ⟨t.States,t.Hood,t.Nodes.map (chgN M s)⟩:=by
 obtain⟨i,x,h1,h2,h3⟩:=h.root
 exact⟨h.st,h.n2,h.n8,h.h1,h.h25,by simpa using h.nodes,h.good.chg hs,fun y hy=>by
  obtain⟨z,hz,rfl⟩:=List.mem_map.1 hy
  rw[chgN_lev]
  exact h.lev z hz,i,chgN M s x,by simpa using h1,by rw[List.getElem?_map,h2]; rfl,by rw[chgN_lev]; exact h3⟩
end Go.Proofs.YtcllfealpkhjfaaGreatDoor
namespace Go.Proofs.YtcllfealpkhjfaaGreatDoor
open Go.AM Go.Proofs
theorem TOk.walk {n:Nat} {t:Tree} (h:TOk n t) {L i:Nat} {u:DD (L+1)} (hL:L+1=t.Hood.length) (hr:Rep t.Nodes (L+1) i u):∃ R dn,WR t.Nodes R dn (post (L+1) u []):=by
 have h25:=h.h25
 have hn:=h.n8
 have hnd:=h.nodes
 obtain⟨cls,_,hC⟩:=classes_is h.good (by omega) (by omega)
 obtain⟨c,c1,c2,c3⟩:=hC.get L i u hr
 obtain⟨dn,_,hw⟩:=walkR_is h.good hC (by omega) (by omega) (fun _ _ _ _ _=>none) L (fg+1) c u [] (List.replicate t.Nodes.length (-1)) (by unfold fg; omega) c3 c2 (WR.init h.good (by omega) (by omega) _)
 exact⟨_,dn,hw⟩
theorem post_last {L:Nat} (u:DD (L+1)):∃ vs,post (L+1) u []=vs++[⟨L,u⟩]:=by
 unfold post
 rw[if_neg (by simp)]
 exact⟨_,rfl⟩
theorem idxOf_get {us:List ND} (hd:us.Nodup) {i:Nat} {x:ND} (h:us[i]?=some x):us.idxOf x=i:=by
 have hi:=(List.getElem?_eq_some_iff.1 h).1
 have hx:=(List.getElem?_eq_some_iff.1 h).2
 have hm:x∈us:=List.mem_of_getElem? h
 have hl:=List.idxOf_lt_length_iff.2 hm
 have e:us[us.idxOf x]=us[i]:=by rw[List.getElem_idxOf hl,hx]
 exact (List.getElem_inj hd).1 e
theorem TOk.red {n:Nat} {t:Tree} (h:TOk n t) {L i:Nat} {u:DD (L+1)} (hL:L+1=t.Hood.length) (hr:Rep t.Nodes (L+1) i u) :
  TOk n ⟨t.States,t.Hood,ser (post (L+1) u [])⟩/\∃ j,j+1=(ser (post (L+1) u [])).length/\Rep (ser (post (L+1) u [])) (L+1) j u:=by
 obtain⟨R,dn,hw⟩:=h.walk hL hr
 obtain⟨vs,hv⟩:=post_last u
 generalize post (L+1) u []=us at hw hv ⊢
 have hle:=hw.le
 have hnd:=h.nodes
 have hsl:(ser us).length=us.length:=by unfold ser; rw[List.length_map]
 have hget:∀ (j:Nat) y,(ser us)[j]?=some y->∃ x:ND,us[j]?=some x/\y=serNode us x:=fun j y hy=>by
  unfold ser at hy
  rw[List.getElem?_map] at hy
  obtain⟨x,hx,rfl⟩:=Option.map_eq_some_iff.1 hy
  exact⟨x,hx,rfl⟩
 have hlev:∀ x:ND,(serNode us x).Level=(x.1:Int)+1:=fun x=>by
  obtain⟨K,w⟩:=x
  cases K with
  | zero=>rfl
  | succ K=>show (K:Int)+2=((K+1:Nat):Int)+1; omega
 have hreg:∀ x∈us,Reg n (x.1+1) x.2/\(x.1:Int)+1<=t.Hood.length:=fun x hx=>by
  obtain⟨k,hk⟩:=hw.rep x hx
  obtain⟨y,e1,e2,_⟩:=id hk
  obtain⟨_,_,e3⟩:=idx_lt e1
  have:=h.lev y (List.mem_of_getElem? e3)
  exact⟨hk.reg h.good,by omega⟩
 have hlen:∀ x:ND,(serNode us x).Next.length=x.2.kids.length:=fun x=>by
  obtain⟨K,w⟩:=x
  cases K with
  | zero=>rfl
  | succ K=>simp[serNode]
 have hgood:Good n (ser us):=by
  refine⟨fun j y hy=>?_,fun j y hy=>?_,fun j y hy h1 k hk=>?_,fun j y hy h1 k hk=>?_⟩
  ·obtain⟨x,hx,rfl⟩:=hget j y hy
   rw[hlev]
   omega
  ·obtain⟨x,hx,rfl⟩:=hget j y hy
   rw[hlen]
   exact (hreg x (List.mem_of_getElem? hx)).1.1
  ·obtain⟨⟨K,w⟩,hx,rfl⟩:=hget j y hy
   rw[hlev] at h1 ⊢
   cases K with
   | zero=>exact absurd h1 (by simp)
   | succ K =>
    simp only[serNode,List.mem_map] at hk
    obtain⟨d,hd,rfl⟩:=hk
    obtain⟨m1,m2⟩:=hw.clo K w (List.mem_of_getElem? hx) d hd
    rw[idxOf_get hw.nd hx] at m2
    have hl:=List.idxOf_lt_length_iff.2 m1
    refine⟨by omega,by omega,serNode us ⟨K,d⟩,?_,by rw[hlev]; simp only; omega⟩
    unfold ser
    rw[List.getElem?_map,Int.toNat_natCast,List.getElem?_eq_getElem hl,List.getElem_idxOf hl]
    rfl
  ·obtain⟨⟨K,w⟩,hx,rfl⟩:=hget j y hy
   rw[hlev] at h1
   cases K with
   | zero =>
    have:=(hreg _ (List.mem_of_getElem? hx)).1.2 k hk
    exact this
   | succ K=>exact absurd h1 (by simp only; omega)
 have hroot:us[vs.length]?=some ⟨L,u⟩:=by rw[hv,List.getElem?_append_right (Nat.le_refl _),Nat.sub_self]; rfl
 have hul:vs.length+1=us.length:=by rw[hv]; simp
 refine⟨⟨h.st,h.n2,h.n8,h.h1,h.h25,by show (ser us).length<=4096; omega,hgood,fun y hy=>?_,vs.length,serNode us ⟨L,u⟩,by show vs.length+1=(ser us).length; omega,?_,by rw[hlev]; show (L:Int)+1=((t.Hood.length:Nat):Int); omega⟩,vs.length,by omega,?_⟩
 ·obtain⟨j,hj⟩:=List.mem_iff_getElem?.1 hy
  obtain⟨x,hx,rfl⟩:=hget j y hj
  rw[hlev]
  exact (hreg x (List.mem_of_getElem? hx)).2
 ·show (ser us)[vs.length]?=_
  unfold ser
  rw[List.getElem?_map,hroot]
  rfl
 ·have:=ser_rep hw.clo L u (List.mem_of_getElem? hroot)
  rwa [idxOf_get hw.nd hroot] at this
end Go.Proofs.YtcllfealpkhjfaaGreatDoor
