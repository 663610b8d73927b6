/- Plain laws: the reference's reduced tree is the list of all that the root leads to, in the order of the walk. -/
import Derived.Test.YtffohfmfehjbmaaGreatDoorRdx1
namespace Go.Proofs.YtffohfmfehjbmaaGreatDoor
open Go.AM Go.Proofs
structure WR (nodes:List Node) (R:Int->Prop) (done:List Int) (us:List ND):Prop where
 len:done.length=nodes.length
 val:∀ L k (u:DD (L+1)),R k->Rep nodes (L+1) k u->idx done k=some (if (⟨L,u⟩:ND)∈us then ((us.idxOf (⟨L,u⟩:ND):Nat):Int) else -1)
 clo:Clo us
 nd:us.Nodup
 rep:∀ x∈us,∃ k,Rep nodes (x.1+1) k x.2
theorem WR.le {nodes:List Node} {R:Int->Prop} {done:List Int} {us:List ND} (h:WR nodes R done us):us.length<=nodes.length :=
 len_le (R:=fun k (x:ND)=>Rep nodes (x.1+1) (k:Nat) x.2) h.nd (fun x hx=>by
  obtain⟨k,hk⟩:=h.rep x hx
  obtain⟨y,h1,_⟩:=id hk
  obtain⟨a,b,_⟩:=idx_lt h1
  exact⟨k.toNat,by omega,by rwa [show ((k.toNat:Nat):Int)=k by omega]⟩) fun k x y hx hy=>hx.lev hy
theorem WR.snoc {nodes:List Node} {R:Int->Prop} {done:List Int} {us:List ND} (h:WR nodes R done us) (hD:∀ (L:Nat) (k k':Int) (u:DD (L+1)),R k->R k'->Rep nodes (L+1) k u->Rep nodes (L+1) k' u->k=k') {L:Nat} {k:Int} {u:DD (L+1)} (hk:R k) (hr:Rep nodes (L+1) k u) (hn:(⟨L,u⟩:ND) ∉ us)
  (hkid:∀ K w,(⟨L,u⟩:ND)=⟨K+1,w⟩->∀ d∈w.kids,(⟨K,d⟩:ND)∈us):WR nodes R (done.set k.toNat (us.length:Int)) (us++[⟨L,u⟩]):=by
 obtain⟨x,h1,_⟩:=id hr
 obtain⟨k0,k1,_⟩:=idx_lt h1
 refine⟨by rw[List.length_set]; exact h.len,fun L' k' u' hk' hr'=>?_,h.clo.snoc hn hkid,?_,fun y hy=>?_⟩
 ·obtain⟨x',h1',_⟩:=id hr'
  obtain⟨k0',k1',_⟩:=idx_lt h1'
  rw[idx_set k0 (by rw[h.len]; exact k1) k0']
  by_cases he:k=k'
  ·subst he
   have e:=hr.lev hr'
   rw[if_pos rfl,<- e,if_pos (by simp),List.idxOf_append,if_neg hn]
   simp
  ·rw[if_neg he,h.val L' k' u' hk' hr']
   have hne:(⟨L',u'⟩:ND)≠⟨L,u⟩:=fun e=>he (by
    cases e
    exact hD L k k' u hk hk' hr hr')
   by_cases hm:(⟨L',u'⟩:ND)∈us
   ·rw[if_pos hm,if_pos (List.mem_append_left _ hm),idxOf_app hm]
   ·rw[if_neg hm,if_neg fun hh=>(List.mem_append.1 hh).elim hm fun hh=>hne (List.mem_singleton.1 hh)]
 ·rw[List.nodup_append]
  exact⟨h.nd,by simp,fun a ha b hb e=>hn (by rw[List.mem_singleton] at hb; rw[<- hb,<- e]; exact ha)⟩
 ·rcases List.mem_append.1 hy with hy | hy
  ·exact h.rep y hy
  ·rw[List.mem_singleton] at hy
   subst hy
   exact⟨k,hr⟩
structure Cls (nodes:List Node) (cls:List Int):Prop where
 get:∀ (L:Nat) (k:Int) (u:DD (L+1)),Rep nodes (L+1) k u->∃ c,idx cls k=some c/\Rep nodes (L+1) c u/\idx cls c=some c
 one:∀ (L:Nat) (k k':Int) (u:DD (L+1)),Rep nodes (L+1) k u->Rep nodes (L+1) k' u->idx cls k=idx cls k'
section
variable {n:Nat} {nodes:List Node} (hG:Good n nodes) {cls:List Int} (hC:Cls nodes cls) (hlen:nodes.length<=1099511627776) (hn:n<=1000000) (z:List Node->List Int->Int->List Int->List Node->Option (List Int×List Node))
include hG hC hlen hn
end
end Go.Proofs.YtffohfmfehjbmaaGreatDoor
namespace Go.Proofs.YtffohfmfehjbmaaGreatDoor
open Go.AM Go.Proofs
def Least (nodes:List Node) (L:Nat) (u:DD (L+1)) (c:Nat):Prop:=Rep nodes (L+1) c u/\∀ j:Nat,j < c->¬ Rep nodes (L+1) j u
theorem Least.det {nodes:List Node} {L:Nat} {u:DD (L+1)} {c c':Nat} (h:Least nodes L u c) (h':Least nodes L u c'):c=c':=by
 rcases Nat.lt_trichotomy c c' with hc | hc | hc
 ·exact absurd h.1 (h'.2 c hc)
 ·exact hc
 ·exact absurd h'.1 (h.2 c' hc)
def NX (nodes:List Node):(L:Nat)->DD (L+1)->List Int->Prop
 | 0,u,nx=>nx=(show List Int from u.kids)
 | L+1,u,nx=>nx.length=u.kids.length/\∀ (s:Nat) d,u.kids[s]?=some d->∃ c:Nat,nx[s]?=some (c:Int)/\Least nodes L d c
structure CI (nodes:List Node) (i:Nat) (cls:List Int) (nexts:List (List Int)):Prop where
 lc:cls.length=i
 ln:nexts.length=i
 val:∀ (k L:Nat) (u:DD (L+1)),k < i->Rep nodes (L+1) k u->(∃ c:Nat,cls[k]?=some (c:Int)/\Least nodes L u c)/\∃ nx,nexts[k]?=some nx/\NX nodes L u nx
section
variable {n:Nat} {nodes:List Node} (hG:Good n nodes) (hlen:nodes.length<=1099511627) (hn:n<=1000000)
include hG hlen hn
theorem WR.init (R:Int->Prop):WR nodes R (List.replicate nodes.length (-1)) []:=by
 have _av:=hG
 have _bv:=hlen
 have _cv:=hn
 refine⟨List.length_replicate,fun L k u _ hr=>?_,fun L u h=>by simp at h,List.nodup_nil,fun x hx=>by simp at hx⟩
 obtain⟨x,e1,_⟩:=id hr
 obtain⟨k0,k1,_⟩:=idx_lt e1
 rw[idx_int _ k0,List.getElem?_replicate,if_pos (by omega),if_neg (by simp)]
end
end Go.Proofs.YtffohfmfehjbmaaGreatDoor
namespace Go.Proofs.YtffohfmfehjbmaaGreatDoor
open Go.AM Go.Proofs Go.Lib
def valD (l:List UInt8):Nat:=l.foldl (fun a b=>a*10+(b.toNat - 48)) 0
theorem valD_dec:∀ u:Nat,valD (decDigits u)=u:=by
 intro u
 induction u using Nat.strongRecOn with
 | ind u ih =>
  rw[decDigits]
  split
  ·rename_i h
   simp only[valD,List.foldl_cons,List.foldl_nil,UInt8.toNat_ofNat']
   omega
  ·rename_i h
   have h1:=ih (u / 10) (by omega)
   unfold valD at h1 ⊢
   rw[List.foldl_append,h1]
   simp only[List.foldl_cons,List.foldl_nil,UInt8.toNat_ofNat']
   omega
theorem dig_dec:∀ u:Nat,∀ b∈decDigits u,48<=b.toNat/\b.toNat<=57:=by
 intro u
 induction u using Nat.strongRecOn with
 | ind u ih =>
  rw[decDigits]
  split
  ·rename_i h
   intro b hb
   rw[List.mem_singleton] at hb
   subst hb
   rw[UInt8.toNat_ofNat']
   omega
  ·rename_i h
   intro b hb
   rcases List.mem_append.1 hb with hb | hb
   ·exact ih (u / 10) (by omega) b hb
   ·rw[List.mem_singleton] at hb
    subst hb
    rw[UInt8.toNat_ofNat']
    omega
theorem len_dec:∀ (k u:Nat),u < 10 ^ k->1<=k->(decDigits u).length<=k
 | 0,_,_,h=>absurd h (by omega)
 | k+1,u,hu,_=>by
  rw[decDigits]
  split
  ·simp
  ·rename_i h
   have hk:1<=k:=by
    rcases k with _ | k
    ·simp at hu; omega
    ·omega
   have:=len_dec k (u / 10) (by rw[Nat.pow_succ] at hu; omega) hk
   simp only[List.length_append,List.length_singleton]
   omega
theorem iconv_nn {x:Int} (h0:0<=x) (h1:x < 1152921504606846976):bI .u64 x=x:=by
 show x % 18446744073709551616=x
 omega
theorem numI:Num digI where
 inj x y h0 _ h0' _ e:=by
  have e':(decDigits x.toNat).map (fun b=>(b.toNat:Int))=(decDigits y.toNat).map (fun b=>(b.toNat:Int)):=e
  have e2:decDigits x.toNat=decDigits y.toNat:=List.map_inj_right (fun a b hab=>UInt8.toNat_inj.1 (by omega)) |>.1 e'
  have:=congrArg valD e2
  rw[valD_dec,valD_dec] at this
  omega
 dig x _ _ b hb:=by
  unfold digI at hb
  obtain⟨c,hc,rfl⟩:=List.mem_map.1 hb
  have:=dig_dec _ c hc
  omega
 len x h0 h1:=by
  unfold digI
  rw[List.length_map]
  exact len_dec 20 x.toNat (by omega) (by omega)
 ap dst x h0 h1 hl:=by
  unfold m_strconv_AppendInt_o m_internal_strconv_AppendInt_o m_internal_strconv_AppendUint_o
  rw[show ltB x 0=false from decide_eq_false (by omega),cond_false]
  simp only[some_bind]
  rw[iconv_nn h0 h1]
  unfold appUM
  rw[show Nat.ble dst.length 4000000000=true from Nat.ble_eq_true_of_le hl,decide_eq_true h0,decide_eq_true (show x < 18446744073709551616 by omega)]
  rfl
 ap0 x h0 h1:=by
  unfold m_strconv_AppendInt_N m_internal_strconv_AppendInt_N m_internal_strconv_AppendUint_o
  rw[show ltB x 0=false from decide_eq_false (by omega),cond_false]
  simp only[some_bind]
  rw[iconv_nn h0 h1]
  unfold appUM
  rw[decide_eq_true h0,decide_eq_true (show x < 18446744073709551616 by omega)]
  rfl
end Go.Proofs.YtffohfmfehjbmaaGreatDoor
namespace Go.Proofs.YtffohfmfehjbmaaGreatDoor
open Go.AM Go.Proofs
end Go.Proofs.YtffohfmfehjbmaaGreatDoor
namespace Go.Proofs.YtffohfmfehjbmaaGreatDoor
open Go.AM Go.Proofs
theorem set_same {α:Type} {l:List α} {i:Nat} {v:α} (h:l[i]?=some v):l.set i v=l:=by
 apply List.ext_getElem?
 intro j
 rw[List.getElem?_set]
 by_cases he:i=j
 ·subst he
  rw[if_pos rfl,if_pos (List.getElem?_eq_some_iff.1 h).1,h]
 ·rw[if_neg he]
theorem node2_eq (l:List Node) (mp:List (List UInt8×Int)) (v:Int) (next:List Int):m_reduce_builder_node_o_o l mp v next=m_reduce_builder_node_o l mp v next:=by
 have:b_reduce_builder_node_o_o_1 l mp v next=b_reduce_builder_node_o_1 l mp v next:=by
  funext st
  obtain⟨a1,keyv⟩:=st
  rfl
 unfold m_reduce_builder_node_o_o m_reduce_builder_node_o
 rw[this]
end Go.Proofs.YtffohfmfehjbmaaGreatDoor
namespace Go.Proofs.YtffohfmfehjbmaaGreatDoor
open Go.AM Go.Proofs
end Go.Proofs.YtffohfmfehjbmaaGreatDoor
namespace Go.Proofs.YtffohfmfehjbmaaGreatDoor
open Go.AM Go.Proofs
structure TOk (n:Nat) (t:Tree):Prop where
 st:t.States=(n:Int)
 n2:2<=n
 n8:n<=8
 h1:1<=t.Hood.length
 h25:t.Hood.length<=25
 nodes:t.Nodes.length<=4096
 good:Good n t.Nodes
 lev:∀ x∈t.Nodes,x.Level<=t.Hood.length
 root:∃ i x,i+1=t.Nodes.length/\t.Nodes[i]?=some x/\x.Level=(t.Hood.length:Int)
theorem ok_tree {t:Tree} (h:treeOk t=true):∃ n,TOk n t:=by
 simp only[treeOk,Bool.and_eq_true,Bool.not_eq_true',Bool.or_eq_false_iff] at h
 obtain⟨⟨a1,a2,a3,a4,a5⟩,a6,a7⟩:=h
 have b1:=of_decide_eq_false a1
 have b2:=of_decide_eq_false a2
 have b4:=of_decide_eq_false a4
 have b5:=of_decide_eq_false a5
 unfold aB at b4 b5
 have a3':hoodOk t.Hood=true:=by simpa using a3
 simp only[hoodOk,Bool.and_eq_true,Bool.not_eq_true',Bool.or_eq_false_iff] at a3'
 have c1:=of_decide_eq_false a3'.1.1
 have c2:=of_decide_eq_false a3'.1.2
 unfold aB at c1 c2
 have hst:t.States=((t.States.toNat:Nat):Int):=by omega
 have node:∀ (i:Nat) x,t.Nodes[i]?=some x->1<=x.Level/\x.Level<=t.Hood.length/\x.Next.length=t.States.toNat/\∀ k∈x.Next,badE t (i:Nat) x k=false:=fun i x hx=>by
  have hb:=anyB_false a6 i x hx
  simp only[badN,Bool.or_eq_false_iff] at hb
  obtain⟨d1,d2,d3,d4⟩:=hb
  have e1:=of_decide_eq_false d1
  have e2:=of_decide_eq_false d2
  have e3:aB x.Next=t.States:=by simpa [neB] using d3
  unfold aB at e2 e3
  refine⟨by omega,by omega,by omega,fun k hk=>?_⟩
  obtain⟨j,hj⟩:=List.mem_iff_getElem?.1 hk
  have:=anyB_false d4 j k hj
  rwa [Nat.zero_add] at this
 refine⟨t.States.toNat,hst,by omega,by omega,by omega,by omega,by omega,⟨fun i x hx=>(node i x hx).1,fun i x hx=>(node i x hx).2.2.1,fun i x hx h1 k hk=>?_,fun i x hx h1 k hk=>?_⟩,fun x hx=>?_,?_⟩
 ·have hb:=(node i x hx).2.2.2 k hk
  have hlx:=(node i x hx).2.1
  simp only[badE,Bool.or_eq_false_iff] at hb
  obtain⟨d1,_,d3⟩:=hb
  rw[show gtB x.Level 1=true from decide_eq_true h1,Bool.true_and,Bool.or_eq_false_iff] at d3
  have e1:=of_decide_eq_false d1
  have e2:=of_decide_eq_false d3.1
  have hi:=(List.getElem?_eq_some_iff.1 hx).1
  have hkl:k.toNat < t.Nodes.length:=by omega
  refine⟨by omega,by omega,t.Nodes[k.toNat],List.getElem?_eq_getElem hkl,?_⟩
  have hlo:=d3.2
  unfold lowOk at hlo
  rw[List.getElem?_eq_getElem hkl] at hlo
  have e3:(t.Nodes[k.toNat]).Level=aL .i64 x.Level 1:=by simpa [neB] using hlo
  rw[e3]
  unfold aL
  rw[i64_in (by omega)]
 ·have hb:=(node i x hx).2.2.2 k hk
  simp only[badE,Bool.or_eq_false_iff] at hb
  obtain⟨d1,d2,_⟩:=hb
  rw[show eqB x.Level 1=true from by simp[eqB,h1],Bool.true_and] at d2
  have e1:=of_decide_eq_false d1
  have e2:=of_decide_eq_false d2
  omega
 ·obtain⟨i,hi⟩:=List.mem_iff_getElem?.1 hx
  exact (node i x hi).2.1
 ·unfold rootOk at a7
  cases hr:t.Nodes[t.Nodes.length - 1]? with
  | none=>rw[hr] at a7; cases a7
  | some x =>
   rw[hr] at a7
   exact⟨t.Nodes.length - 1,x,by omega,hr,by simpa [eqB,aB] using a7⟩
theorem TOk.szd {n:Nat} {t:Tree} (h:TOk n t):Szd n t.Nodes:=⟨h.good,fun x hx=>by have:=h.lev x hx; have:=h.h25; omega,by have:=h.nodes; omega,by have:=h.n8; omega⟩
theorem TOk.rep {n:Nat} {t:Tree} (h:TOk n t):∃ (L i:Nat) (u:DD (L+1)),i+1=t.Nodes.length/\L+1=t.Hood.length/\Rep t.Nodes (L+1) i u/\Reg n (L+1) u:=by
 obtain⟨i,x,hi,hx,hl⟩:=h.root
 have h1:=h.h1
 obtain⟨L,hL⟩:∃ L,t.Hood.length=L+1:=⟨t.Hood.length - 1,by omega⟩
 obtain⟨u,hu,hr⟩:=h.good.rep L i x hx (by omega)
 exact⟨L,i,u,hi,hL.symm,hu,hr⟩
theorem sz_of {n:Nat} {t:Tree} (h:TOk n t):Sz t:=⟨by have:=h.h25; omega,by have:=h.nodes; omega,fun x hx=>by
 obtain⟨i,hi⟩:=List.mem_iff_getElem?.1 hx
 have:=h.good.len i x hi
 have:=h.n8
 omega⟩
end Go.Proofs.YtffohfmfehjbmaaGreatDoor
namespace Go.Proofs.YtffohfmfehjbmaaGreatDoor
open Go.AM Go.Proofs
theorem tok_ok {n:Nat} {t:Tree} (h:TOk n t) (hh:hoodOk t.Hood=true):treeOk t=true:=by
 have n2:=h.n2
 have n8:=h.n8
 have hst:=h.st
 have h1:=h.h1
 have h25:=h.h25
 have hnd:=h.nodes
 obtain⟨i0,x0,r1,r2,r3⟩:=h.root
 simp only[treeOk,Bool.and_eq_true,Bool.not_eq_true',Bool.or_eq_false_iff]
 refine⟨⟨decide_eq_false (by omega),decide_eq_false (by omega),by rw[hh]; rfl,decide_eq_false (by unfold aB; omega),decide_eq_false (by unfold aB; omega)⟩,anyB_of_false fun i x hx=>?_,?_⟩
 ·have hxl:=h.good.len i x hx
  have hlv:=h.good.lev i x hx
  have hle:=h.lev x (List.mem_of_getElem? hx)
  simp only[badN,Bool.or_eq_false_iff]
  refine⟨decide_eq_false (by omega),decide_eq_false (by unfold aB; omega),by simp[neB,aB,hxl,hst],anyB_of_false fun j k hj=>?_⟩
  have hmem:=List.mem_of_getElem? hj
  simp only[badE,Bool.or_eq_false_iff,Nat.zero_add]
  by_cases hL:x.Level=1
  ·obtain⟨a,b⟩:=h.good.st i x hx hL k hmem
   refine⟨decide_eq_false (by omega),?_,?_⟩
   ·rw[show geB k t.States=false from decide_eq_false (by omega),Bool.and_false]
   ·rw[show gtB x.Level 1=false from decide_eq_false (by omega),Bool.false_and]
  ·obtain⟨a,b,y,hy,hyl⟩:=h.good.kid i x hx (by omega) k hmem
   refine⟨decide_eq_false (by omega),?_,?_⟩
   ·rw[show eqB x.Level 1=false from by simp[eqB,hL],Bool.false_and]
   ·have hlo:lowOk t x k=false:=by
     unfold lowOk
     rw[hy]
     have:aL .i64 x.Level 1=x.Level - 1:=by unfold aL; rw[i64_in (by omega)]
     simp[neB,this,hyl]
    rw[show geB k (i:Int)=false from decide_eq_false (by omega),hlo]
    simp
 ·unfold rootOk
  rw[show t.Nodes.length - 1=i0 by omega,r2]
  simp[eqB,aB,r3]
theorem tok_hood {t:Tree} (h:treeOk t=true):hoodOk t.Hood=true:=by
 simp only[treeOk,Bool.and_eq_true,Bool.not_eq_true',Bool.or_eq_false_iff] at h
 simpa using h.1.2.2.1
end Go.Proofs.YtffohfmfehjbmaaGreatDoor
namespace Go.Proofs.YtffohfmfehjbmaaGreatDoor
open Go.AM Go.Proofs
theorem post_last {L:Nat} (u:DD (L+1)):∃ vs,post (L+1) u []=vs++[⟨L,u⟩]:=by
 unfold post
 rw[if_neg (by simp)]
 exact⟨_,rfl⟩
theorem idxOf_get {us:List ND} (hd:us.Nodup) {i:Nat} {x:ND} (h:us[i]?=some x):us.idxOf x=i:=by
 have hi:=(List.getElem?_eq_some_iff.1 h).1
 have hx:=(List.getElem?_eq_some_iff.1 h).2
 have hm:x∈us:=List.mem_of_getElem? h
 have hl:=List.idxOf_lt_length_iff.2 hm
 have e:us[us.idxOf x]=us[i]:=by rw[List.getElem_idxOf hl,hx]
 exact (List.getElem_inj hd).1 e
end Go.Proofs.YtffohfmfehjbmaaGreatDoor
