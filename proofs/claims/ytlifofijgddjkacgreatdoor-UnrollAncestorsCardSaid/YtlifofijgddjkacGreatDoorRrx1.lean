/- Plain laws: the reference's reduced tree is the list of all that the root leads to, in the order of the walk. -/
import Derived.Test.YtlifofijgddjkacGreatDoorRdx1
namespace Go.Proofs.YtlifofijgddjkacGreatDoor
open Go.AM Go.Proofs
structure WR (nodes:List Node) (R:Int->Prop) (done:List Int) (us:List ND):Prop where
 len:done.length=nodes.length
 val:∀ L k (u:DD (L+1)),R k->Rep nodes (L+1) k u->idx done k=some (if (⟨L,u⟩:ND)∈us then ((us.idxOf (⟨L,u⟩:ND):Nat):Int) else -1)
 clo:Clo us
 nd:us.Nodup
 rep:∀ x∈us,∃ k,Rep nodes (x.1+1) k x.2
theorem WR.le {nodes:List Node} {R:Int->Prop} {done:List Int} {us:List ND} (h:WR nodes R done us):us.length<=nodes.length :=
 len_le (R:=fun k (x:ND)=>Rep nodes (x.1+1) (k:Nat) x.2) h.nd (fun x hx=>by
  obtain⟨k,hk⟩:=h.rep x hx
  obtain⟨y,h1,_⟩:=id hk
  obtain⟨a,b,_⟩:=fw h1
  grind) fun k x y hx hy=>hx.lev hy
theorem WR.snoc {nodes:List Node} {R:Int->Prop} {done:List Int} {us:List ND} (h:WR nodes R done us) (hD:∀ (L:Nat) (k k':Int) (u:DD (L+1)),R k->R k'->Rep nodes (L+1) k u->Rep nodes (L+1) k' u->k=k') {L:Nat} {k:Int} {u:DD (L+1)} (hk:R k) (hr:Rep nodes (L+1) k u) (hn:(⟨L,u⟩:ND) ∉ us)
  (hkid:∀ K w,(⟨L,u⟩:ND)=⟨K+1,w⟩->∀ d∈w.kids,(⟨K,d⟩:ND)∈us):WR nodes R (done.set k.toNat (us.length:Int)) (us++[⟨L,u⟩]):=by
 obtain⟨x,h1,_⟩:=id hr
 obtain⟨k0,k1,_⟩:=fw h1
 refine⟨by rw[List.length_set]; exact h.len,fun L' k' u' hk' hr'=>?_,h.clo.snoc hn hkid,?_,fun y hy=>?_⟩
 ·obtain⟨x',h1',_⟩:=id hr'
  obtain⟨k0',k1',_⟩:=fw h1'
  rw[idx_set k0 (by rw[h.len]; exact k1) k0']
  by_cases he:k=k'
  ·subst he
   have e:=hr.lev hr'
   grind
  ·rw[if_neg he,h.val L' k' u' hk' hr']
   grind
 ·rw[List.nodup_append]
  exact⟨h.nd,by simp,fun a ha b hb e=>hn (by simp_all)⟩
 ·rcases List.mem_append.1 hy with hy | hy
  ·exact h.rep y hy
  grind
structure Cls (nodes:List Node) (cls:List Int):Prop where
 get:∀ (L:Nat) (k:Int) (u:DD (L+1)),Rep nodes (L+1) k u->∃ c,idx cls k=some c/\Rep nodes (L+1) c u/\idx cls c=some c
 one:∀ (L:Nat) (k k':Int) (u:DD (L+1)),Rep nodes (L+1) k u->Rep nodes (L+1) k' u->idx cls k=idx cls k'
section
variable {n:Nat} {nodes:List Node} (hG:Good n nodes) {cls:List Int} (hC:Cls nodes cls) (hlen:nodes.length<=1099511627776) (hn:n<=1000000) (z:List Node->List Int->Int->List Int->List Node->Option (List Int×List Node))
include hG hC hlen hn
end
end Go.Proofs.YtlifofijgddjkacGreatDoor
namespace Go.Proofs.YtlifofijgddjkacGreatDoor
open Go.AM Go.Proofs
def Least (nodes:List Node) (L:Nat) (u:DD (L+1)) (c:Nat):Prop:=Rep nodes (L+1) c u/\∀ j:Nat,j < c->¬ Rep nodes (L+1) j u
theorem Least.det {nodes:List Node} {L:Nat} {u:DD (L+1)} {c c':Nat} (h:Least nodes L u c) (h':Least nodes L u c'):c=c':=by
 rcases Nat.lt_trichotomy c c' with hc | hc | hc
 ·exact absurd h.1 (h'.2 c hc)
 ·exact hc
 ·exact absurd h'.1 (h.2 c' hc)
def NX (nodes:List Node):(L:Nat)->DD (L+1)->List Int->Prop
 | 0,u,nx=>nx=(show List Int from u.kids)
 | L+1,u,nx=>nx.length=u.kids.length/\∀ (s:Nat) d,u.kids[s]?=some d->∃ c:Nat,nx[s]?=some (c:Int)/\Least nodes L d c
structure CI (nodes:List Node) (i:Nat) (cls:List Int) (nexts:List (List Int)):Prop where
 lc:cls.length=i
 ln:nexts.length=i
 val:∀ (k L:Nat) (u:DD (L+1)),k < i->Rep nodes (L+1) k u->(∃ c:Nat,cls[k]?=some (c:Int)/\Least nodes L u c)/\∃ nx,nexts[k]?=some nx/\NX nodes L u nx
section
variable {n:Nat} {nodes:List Node} (hG:Good n nodes) (hlen:nodes.length<=1099511627) (hn:n<=1000000)
include hG hlen hn
theorem WR.init (R:Int->Prop):WR nodes R (List.replicate nodes.length (-1)) []:=by
 have _av:=hG
 have _bv:=hlen
 have _cv:=hn
 refine⟨List.length_replicate,fun L k u _ hr=>?_,fun L u h=>by simp at h,List.nodup_nil,fun x hx=>by simp at hx⟩
 obtain⟨x,e1,_⟩:=id hr
 obtain⟨k0,k1,_⟩:=fw e1
 simp_all [iJ]
end
end Go.Proofs.YtlifofijgddjkacGreatDoor
namespace Go.Proofs.YtlifofijgddjkacGreatDoor
open Go.AM Go.Proofs Go.Lib
def valD (l:List UInt8):Nat:=l.foldl (fun a b=>a*10+(b.toNat - 48)) 0
theorem valD_dec:∀ u:Nat,valD (decDigits u)=u:=by
 intro u
 induction u using Nat.strongRecOn with
 | ind u ih =>
  grind [decDigits,valD,UInt8.toNat_ofNat']
theorem dig_dec:∀ u:Nat,∀ b∈decDigits u,48<=b.toNat/\b.toNat<=57:=by
 intro u
 induction u using Nat.strongRecOn with
 | ind u ih =>
  grind [decDigits,UInt8.toNat_ofNat']
theorem len_dec:∀ (k u:Nat),u < 10 ^ k->1<=k->(decDigits u).length<=k
 | 0,_,_,h=>absurd h (by omega)
 | k+1,u,hu,_=>by
  rw[decDigits]
  split
  ·simp
  ·rename_i h
   have hk:1<=k:=by
    grind
   have:=len_dec k (u / 10) (by omega) hk
   simp_all
theorem iconv_nn {x:Int} (h0:0<=x) (h1:x < 1152921504606846976):mb .u64 x=x:=by
 show x % 18446744073709551616=x
 omega
theorem numI:Num digI where
 inj x y h0 _ h0' _ e:=by
  have e':(decDigits x.toNat).map (fun b=>(b.toNat:Int))=(decDigits y.toNat).map (fun b=>(b.toNat:Int)):=e
  have e2:decDigits x.toNat=decDigits y.toNat:=List.map_inj_right (fun a b hab=>UInt8.toNat_inj.1 (by omega)) |>.1 e'
  have:=congrArg valD e2
  grind [valD_dec]
 dig x _ _ b hb:=by
  unfold digI at hb
  obtain⟨c,hc,rfl⟩:=List.mem_map.1 hb
  have:=dig_dec _ c hc
  omega
 len x h0 h1:=by
  unfold digI
  rw[List.length_map]
  exact len_dec 20 x.toNat (by omega) (by omega)
 ap dst x h0 h1 hl:=by
  unfold dd dz cO
  rw[show ltB x 0=false from decide_eq_false (by omega),cond_false]
  grind [iconv_nn,appUM,Nat.ble_eq_true_of_le]
 ap0 x h0 h1:=by
  unfold dN dy cO
  rw[show ltB x 0=false from decide_eq_false (by omega),cond_false]
  simp only[aX]
  rw[iconv_nn h0 h1]
  unfold appUM
  rw[decide_eq_true h0,decide_eq_true (show x < 18446744073709551616 by omega)]
  rfl
end Go.Proofs.YtlifofijgddjkacGreatDoor
namespace Go.Proofs.YtlifofijgddjkacGreatDoor
open Go.AM Go.Proofs
end Go.Proofs.YtlifofijgddjkacGreatDoor
namespace Go.Proofs.YtlifofijgddjkacGreatDoor
open Go.AM Go.Proofs
theorem iW {α:Type} {l:List α} {i:Nat} {v:α} (h:l[i]?=some v):l.set i v=l:=by
 apply List.ext_getElem?
 intro j
 rw[List.getElem?_set]
 by_cases he:i=j
 ·subst he
  rw[if_pos rfl,if_pos (List.getElem?_eq_some_iff.1 h).1,h]
 ·rw[if_neg he]
end Go.Proofs.YtlifofijgddjkacGreatDoor
namespace Go.Proofs.YtlifofijgddjkacGreatDoor
open Go.AM Go.Proofs
end Go.Proofs.YtlifofijgddjkacGreatDoor
namespace Go.Proofs.YtlifofijgddjkacGreatDoor
open Go.AM Go.Proofs
structure TOk (n:Nat) (t:Tree):Prop where
 st:t.States=(n:Int)
 n2:2<=n
 n8:n<=8
 h1:1<=t.Hood.length
 h25:t.Hood.length<=25
 nodes:t.Nodes.length<=4096
 good:Good n t.Nodes
 lev:∀ x∈t.Nodes,x.Level<=t.Hood.length
 root:∃ i x,i+1=t.Nodes.length/\t.Nodes[i]?=some x/\x.Level=(t.Hood.length:Int)
theorem ok_tree {t:Tree} (h:iS t=true):∃ n,TOk n t:=by
 simp only[iS,Bool.and_eq_true,Bool.not_eq_true',Bool.or_eq_false_iff] at h
 obtain⟨⟨a1,a2,a3,a4,a5⟩,a6,a7⟩:=h
 have b1:=of_decide_eq_false a1
 have b2:=of_decide_eq_false a2
 have b4:=of_decide_eq_false a4
 have b5:=of_decide_eq_false a5
 unfold b9 at b4 b5
 have a3':ju t.Hood=true:=by simpa using a3
 simp only[ju,Bool.and_eq_true,Bool.not_eq_true',Bool.or_eq_false_iff] at a3'
 have c1:=of_decide_eq_false a3'.1.1
 have c2:=of_decide_eq_false a3'.1.2
 unfold b9 at c1 c2
 have hst:t.States=((t.States.toNat:Nat):Int):=by omega
 have node:∀ (i:Nat) x,t.Nodes[i]?=some x->1<=x.Level/\x.Level<=t.Hood.length/\x.Next.length=t.States.toNat/\∀ k∈x.Next,badE t (i:Nat) x k=false:=fun i x hx=>by
  have hb:=gj a6 i x hx
  simp only[badN,Bool.or_eq_false_iff] at hb
  obtain⟨d1,d2,d3,d4⟩:=hb
  have e1:=of_decide_eq_false d1
  have e2:=of_decide_eq_false d2
  have e3:b9 x.Next=t.States:=by simpa [neB] using d3
  unfold b9 at e2 e3
  refine⟨by omega,by omega,by omega,fun k hk=>?_⟩
  obtain⟨j,hj⟩:=List.mem_iff_getElem?.1 hk
  have:=gj d4 j k hj
  grind
 refine⟨t.States.toNat,hst,by omega,by omega,by omega,by omega,by omega,⟨fun i x hx=>(node i x hx).1,fun i x hx=>(node i x hx).2.2.1,fun i x hx h1 k hk=>?_,fun i x hx h1 k hk=>?_⟩,fun x hx=>?_,?_⟩
 ·have hb:=(node i x hx).2.2.2 k hk
  have hlx:=(node i x hx).2.1
  simp only[badE,Bool.or_eq_false_iff] at hb
  obtain⟨d1,_,d3⟩:=hb
  rw[show gtB x.Level 1=true from decide_eq_true h1,Bool.true_and,Bool.or_eq_false_iff] at d3
  have e1:=of_decide_eq_false d1
  have e2:=of_decide_eq_false d3.1
  grind [lowOk,cu,neB,i64_in]
 ·have hb:=(node i x hx).2.2.2 k hk
  simp only[badE,Bool.or_eq_false_iff] at hb
  obtain⟨d1,d2,_⟩:=hb
  rw[show eqB x.Level 1=true from by simp[eqB,h1],Bool.true_and] at d2
  have e1:=of_decide_eq_false d1
  have e2:=of_decide_eq_false d2
  omega
 ·grind [List.mem_iff_getElem?]
 grind [rootOk,eqB,b9]
theorem TOk.szd {n:Nat} {t:Tree} (h:TOk n t):Szd n t.Nodes:=⟨h.good,fun x hx=>by have:=h.lev x hx; have:=h.h25; omega,by have:=h.nodes; omega,by have:=h.n8; omega⟩
theorem TOk.rep {n:Nat} {t:Tree} (h:TOk n t):∃ (L i:Nat) (u:DD (L+1)),i+1=t.Nodes.length/\L+1=t.Hood.length/\Rep t.Nodes (L+1) i u/\Reg n (L+1) u:=by
 obtain⟨i,x,hi,hx,hl⟩:=h.root
 have h1:=h.h1
 obtain⟨L,hL⟩:∃ L,t.Hood.length=L+1:=⟨t.Hood.length - 1,by omega⟩
 obtain⟨u,hu,hr⟩:=h.good.rep L i x hx (by omega)
 grind
theorem sz_of {n:Nat} {t:Tree} (h:TOk n t):Sz t:=⟨by have:=h.h25; omega,by have:=h.nodes; omega,fun x hx=>by
 obtain⟨i,hi⟩:=List.mem_iff_getElem?.1 hx
 have:=h.good.len i x hi
 have:=h.n8
 omega⟩
theorem reduce_P {n:Nat} {t:Tree} (hok:iS t=true) (h:TOk n t) {L i:Nat} {u:DD (L+1)} (hi:i+1=t.Nodes.length) (hL:L+1=t.Hood.length) (hr:Rep t.Nodes (L+1) i u) :
  ge t=some ⟨t.States,t.Hood,ser (post (L+1) u [])⟩:=by
 have h25:=h.h25
 have hn:=h.n8
 have hnd:=h.nodes
 unfold ge
 rw[tree_eq (sz_of h),hok]
 simp only[aX,fi,Bool.not_true,cond_false]
 rw[rebuilt_is numI h.szd (by omega) hi hr]
 rfl
end Go.Proofs.YtlifofijgddjkacGreatDoor
namespace Go.Proofs.YtlifofijgddjkacGreatDoor
open Go.AM Go.Proofs
theorem tok_hood {t:Tree} (h:iS t=true):ju t.Hood=true:=by
 simp only[iS,Bool.and_eq_true,Bool.not_eq_true',Bool.or_eq_false_iff] at h
 simpa using h.1.2.2.1
end Go.Proofs.YtlifofijgddjkacGreatDoor
namespace Go.Proofs.YtlifofijgddjkacGreatDoor
open Go.AM Go.Proofs
theorem rep_post {l:List Node}:∀ (L:Nat) (u:DD L) (us:List ND),(∃ k,Rep l L k u)->(∀ x∈us,∃ k,Rep l (x.1+1) k x.2)->∀ x∈post L u us,∃ k,Rep l (x.1+1) k x.2
 | 0,_,_,_,h=>h
 | L+1,u,us,⟨k,hk⟩,h=>by
  unfold post
  by_cases hm:(⟨L,u⟩:ND)∈us
  ·rw[if_pos hm]
   exact h
  ·rw[if_neg hm]
   have hf:∀ (ds:List (DD L)) (us:List ND),(∀ d∈ds,∃ k,Rep l L k d)->(∀ x∈us,∃ k,Rep l (x.1+1) k x.2)->∀ x∈ds.foldl (fun s d=>post L d s) us,∃ k,Rep l (x.1+1) k x.2:=fun ds=>by
    induction ds with
    | nil=>exact fun _ _ h=>h
    | cons d ds ih=>exact fun us hd h=>ih _ (fun e he=>hd e (List.mem_cons_of_mem _ he)) (rep_post L d us (hd d (by simp)) h)
   obtain⟨x,h1,h2,h3,h4⟩:=id hk
   intro y hy
   rcases List.mem_append.1 hy with hy | hy
   ·refine hf _ us (fun d hd=>?_) h y hy
    obtain⟨s,hs⟩:=List.mem_iff_getElem?.1 hd
    have hl:=(List.getElem?_eq_some_iff.1 hs).1
    exact⟨_,h4 s (x.Next[s]'(by omega)) d (List.getElem?_eq_getElem _) hs⟩
   ·rw[List.mem_singleton] at hy
    subst hy
    exact⟨k,hk⟩
theorem TOk.walk {n:Nat} {t:Tree} (_h:TOk n t) {L i:Nat} {u:DD (L+1)} (_hL:L+1=t.Hood.length) (hr:Rep t.Nodes (L+1) i u):∃ R dn,WR t.Nodes R dn (post (L+1) u []):=by
 obtain⟨w,_⟩:=post_wk (L+1) u []
 exact⟨fun _=>False,List.replicate t.Nodes.length 0,⟨by simp,(fun _ _ _ h=>h.elim),w.ext.clo (fun _ _ h=>by cases h),w.ext.nd List.nodup_nil,rep_post (L+1) u [] ⟨_,hr⟩ (fun _ h=>by cases h)⟩⟩
theorem post_last {L:Nat} (u:DD (L+1)):∃ vs,post (L+1) u []=vs++[⟨L,u⟩]:=by
 unfold post
 simp
theorem idxOf_get {us:List ND} (hd:us.Nodup) {i:Nat} {x:ND} (h:us[i]?=some x):us.idxOf x=i:=by
 grind
theorem TOk.red {n:Nat} {t:Tree} (h:TOk n t) {L i:Nat} {u:DD (L+1)} (hL:L+1=t.Hood.length) (hr:Rep t.Nodes (L+1) i u) :
  TOk n ⟨t.States,t.Hood,ser (post (L+1) u [])⟩/\∃ j,j+1=(ser (post (L+1) u [])).length/\Rep (ser (post (L+1) u [])) (L+1) j u:=by
 obtain⟨R,dn,hw⟩:=h.walk hL hr
 obtain⟨vs,hv⟩:=post_last u
 generalize post (L+1) u []=us at hw hv ⊢
 have hle:=hw.le
 have hnd:=h.nodes
 have hsl:(ser us).length=us.length:=by unfold ser; simp
 have hget:∀ (j:Nat) y,(ser us)[j]?=some y->∃ x:ND,us[j]?=some x/\y=gg us x:=fun j y hy=>by
  unfold ser at hy
  grind
 have hlev:∀ x:ND,(gg us x).Level=(x.1:Int)+1:=fun x=>by
  obtain⟨K,w⟩:=x
  cases K with
  | zero=>rfl
  | succ K=>rfl
 have hreg:∀ x∈us,Reg n (x.1+1) x.2/\(x.1:Int)+1<=t.Hood.length:=fun x hx=>by
  obtain⟨k,hk⟩:=hw.rep x hx
  obtain⟨y,e1,e2,_⟩:=id hk
  obtain⟨_,_,e3⟩:=fw e1
  have:=h.lev y (List.mem_of_getElem? e3)
  exact⟨hk.reg h.good,by omega⟩
 have hlen:∀ x:ND,(gg us x).Next.length=x.2.kids.length:=fun x=>by
  obtain⟨K,w⟩:=x
  cases K with
  | zero=>rfl
  | succ K=>simp[gg]
 have hgood:Good n (ser us):=by
  refine⟨fun j y hy=>?_,fun j y hy=>?_,fun j y hy h1 k hk=>?_,fun j y hy h1 k hk=>?_⟩
  ·grind
  ·obtain⟨x,hx,rfl⟩:=hget j y hy
   rw[hlen]
   exact (hreg x (List.mem_of_getElem? hx)).1.1
  ·obtain⟨⟨K,w⟩,hx,rfl⟩:=hget j y hy
   rw[hlev] at h1 ⊢
   cases K with
   | zero=>simp_all
   | succ K =>
    simp only[gg,List.mem_map] at hk
    obtain⟨d,hd,rfl⟩:=hk
    obtain⟨m1,m2⟩:=hw.clo K w (List.mem_of_getElem? hx) d hd
    rw[idxOf_get hw.nd hx] at m2
    grind [Int.toNat_natCast]
  ·obtain⟨⟨K,w⟩,hx,rfl⟩:=hget j y hy
   rw[hlev] at h1
   cases K with
   | zero =>
    have:=(hreg _ (List.mem_of_getElem? hx)).1.2 k hk
    exact this
   | succ K=>grind
 have hroot:us[vs.length]?=some ⟨L,u⟩:=by simp_all
 have hul:vs.length+1=us.length:=by rw[hv]; simp
 refine⟨⟨h.st,h.n2,h.n8,h.h1,h.h25,by grind,hgood,fun y hy=>?_,vs.length,gg us ⟨L,u⟩,by grind,?_,by grind⟩,vs.length,by omega,?_⟩
 ·obtain⟨j,hj⟩:=List.mem_iff_getElem?.1 hy
  grind
 ·grind
 ·have:=ser_rep hw.clo L u (List.mem_of_getElem? hroot)
  rwa [idxOf_get hw.nd hroot] at this
end Go.Proofs.YtlifofijgddjkacGreatDoor
