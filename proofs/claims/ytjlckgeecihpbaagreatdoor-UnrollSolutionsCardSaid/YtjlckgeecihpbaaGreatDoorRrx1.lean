/- Plain laws: the reference's reduced tree is the list of all that the root leads to, in the order of the walk. -/
import Derived.Test.YtjlckgeecihpbaaGreatDoorRdx1
namespace Go.Proofs.YtjlckgeecihpbaaGreatDoor
open Go.AM Go.Proofs
structure WR (nodes:List Node) (R:Int->Prop) (done:List Int) (us:List ND):Prop where
 len:done.length=nodes.length
 val:∀ L k (u:DD (L+1)),R k->Rep nodes (L+1) k u->idx done k=some (if (⟨L,u⟩:ND)∈us then ((us.idxOf (⟨L,u⟩:ND):Nat):Int) else -1)
 clo:Clo us
 nd:us.Nodup
 rep:∀ x∈us,∃ k,Rep nodes (x.1+1) k x.2
theorem WR.le {nodes:List Node} {R:Int->Prop} {done:List Int} {us:List ND} (h:WR nodes R done us):us.length<=nodes.length :=
 len_le (R:=fun k (x:ND)=>Rep nodes (x.1+1) (k:Nat) x.2) h.nd (fun x hx=>by
  obtain⟨k,hk⟩:=h.rep x hx
  obtain⟨y,h1,_⟩:=id hk
  obtain⟨a,b,_⟩:=ft h1
  grind) fun k x y hx hy=>hx.lev hy
theorem WR.snoc {nodes:List Node} {R:Int->Prop} {done:List Int} {us:List ND} (h:WR nodes R done us) (hD:∀ (L:Nat) (k k':Int) (u:DD (L+1)),R k->R k'->Rep nodes (L+1) k u->Rep nodes (L+1) k' u->k=k') {L:Nat} {k:Int} {u:DD (L+1)} (hk:R k) (hr:Rep nodes (L+1) k u) (hn:(⟨L,u⟩:ND) ∉ us)
  (hkid:∀ K w,(⟨L,u⟩:ND)=⟨K+1,w⟩->∀ d∈w.kids,(⟨K,d⟩:ND)∈us):WR nodes R (done.set k.toNat (us.length:Int)) (us++[⟨L,u⟩]):=by
 obtain⟨x,h1,_⟩:=id hr
 obtain⟨k0,k1,_⟩:=ft h1
 refine⟨by rw[List.length_set]; exact h.len,fun L' k' u' hk' hr'=>?_,h.clo.snoc hn hkid,?_,fun y hy=>?_⟩
 ·obtain⟨x',h1',_⟩:=id hr'
  obtain⟨k0',k1',_⟩:=ft h1'
  rw[idx_set k0 (by rw[h.len]; exact k1) k0']
  by_cases he:k=k'
  ·subst he
   have e:=hr.lev hr'
   grind
  ·rw[if_neg he,h.val L' k' u' hk' hr']
   grind
 ·rw[List.nodup_append]
  exact⟨h.nd,by simp,fun a ha b hb e=>hn (by simp_all)⟩
 ·rcases List.mem_append.1 hy with hy | hy
  ·exact h.rep y hy
  grind
structure Cls (nodes:List Node) (cls:List Int):Prop where
 get:∀ (L:Nat) (k:Int) (u:DD (L+1)),Rep nodes (L+1) k u->∃ c,idx cls k=some c/\Rep nodes (L+1) c u/\idx cls c=some c
 one:∀ (L:Nat) (k k':Int) (u:DD (L+1)),Rep nodes (L+1) k u->Rep nodes (L+1) k' u->idx cls k=idx cls k'
section
variable {n:Nat} {nodes:List Node} (hG:Good n nodes) {cls:List Int} (hC:Cls nodes cls) (hlen:nodes.length<=1099511627776) (hn:n<=1000000) (z:List Node->List Int->Int->List Int->List Node->Option (List Int×List Node))
include hG hC hlen hn
end
end Go.Proofs.YtjlckgeecihpbaaGreatDoor
namespace Go.Proofs.YtjlckgeecihpbaaGreatDoor
open Go.AM Go.Proofs
def Least (nodes:List Node) (L:Nat) (u:DD (L+1)) (c:Nat):Prop:=Rep nodes (L+1) c u/\∀ j:Nat,j < c->¬ Rep nodes (L+1) j u
theorem Least.det {nodes:List Node} {L:Nat} {u:DD (L+1)} {c c':Nat} (h:Least nodes L u c) (h':Least nodes L u c'):c=c':=by
 rcases Nat.lt_trichotomy c c' with hc | hc | hc
 ·exact absurd h.1 (h'.2 c hc)
 ·exact hc
 ·exact absurd h'.1 (h.2 c' hc)
def NX (nodes:List Node):(L:Nat)->DD (L+1)->List Int->Prop
 | 0,u,nx=>nx=(show List Int from u.kids)
 | L+1,u,nx=>nx.length=u.kids.length/\∀ (s:Nat) d,u.kids[s]?=some d->∃ c:Nat,nx[s]?=some (c:Int)/\Least nodes L d c
structure CI (nodes:List Node) (i:Nat) (cls:List Int) (nexts:List (List Int)):Prop where
 lc:cls.length=i
 ln:nexts.length=i
 val:∀ (k L:Nat) (u:DD (L+1)),k < i->Rep nodes (L+1) k u->(∃ c:Nat,cls[k]?=some (c:Int)/\Least nodes L u c)/\∃ nx,nexts[k]?=some nx/\NX nodes L u nx
section
variable {n:Nat} {nodes:List Node} (hG:Good n nodes) (hlen:nodes.length<=1099511627) (hn:n<=1000000)
include hG hlen hn
theorem WR.init (R:Int->Prop):WR nodes R (List.replicate nodes.length (-1)) []:=by
 have _av:=hG
 have _bv:=hlen
 have _cv:=hn
 refine⟨List.length_replicate,fun L k u _ hr=>?_,fun L u h=>by simp at h,List.nodup_nil,fun x hx=>by simp at hx⟩
 obtain⟨x,e1,_⟩:=id hr
 obtain⟨k0,k1,_⟩:=ft e1
 simp_all [gx]
end
end Go.Proofs.YtjlckgeecihpbaaGreatDoor
namespace Go.Proofs.YtjlckgeecihpbaaGreatDoor
open Go.AM Go.Proofs Go.Lib
def valD (l:List UInt8):Nat:=l.foldl (fun a b=>a*10+(b.toNat - 48)) 0
theorem valD_dec:∀ u:Nat,valD (decDigits u)=u:=by
 intro u
 induction u using Nat.strongRecOn with
 | ind u ih =>
  grind [decDigits,valD,UInt8.toNat_ofNat']
theorem dig_dec:∀ u:Nat,∀ b∈decDigits u,48<=b.toNat/\b.toNat<=57:=by
 intro u
 induction u using Nat.strongRecOn with
 | ind u ih =>
  grind [decDigits,UInt8.toNat_ofNat']
theorem len_dec:∀ (k u:Nat),u < 10 ^ k->1<=k->(decDigits u).length<=k
 | 0,_,_,h=>absurd h (by omega)
 | k+1,u,hu,_=>by
  rw[decDigits]
  split
  ·simp
  ·rename_i h
   have hk:1<=k:=by
    grind
   have:=len_dec k (u / 10) (by omega) hk
   simp_all
theorem iconv_nn {x:Int} (h0:0<=x) (h1:x < 1152921504606846976):iconv .u64 x=x:=by
 show x % 18446744073709551616=x
 omega
theorem numI:Num digI where
 inj x y h0 _ h0' _ e:=by
  have e':(decDigits x.toNat).map (fun b=>(b.toNat:Int))=(decDigits y.toNat).map (fun b=>(b.toNat:Int)):=e
  have e2:decDigits x.toNat=decDigits y.toNat:=List.map_inj_right (fun a b hab=>UInt8.toNat_inj.1 (by omega)) |>.1 e'
  have:=congrArg valD e2
  grind [valD_dec]
 dig x _ _ b hb:=by
  unfold digI at hb
  obtain⟨c,hc,rfl⟩:=List.mem_map.1 hb
  have:=dig_dec _ c hc
  omega
 len x h0 h1:=by
  unfold digI
  rw[List.length_map]
  exact len_dec 20 x.toNat (by omega) (by omega)
 ap dst x h0 h1 hl:=by
  unfold dj dJ cP
  rw[show ltB x 0=false from decide_eq_false (by omega),cond_false]
  grind [iconv_nn,appUM,Nat.ble_eq_true_of_le]
 ap0 x h0 h1:=by
  unfold dU dM cP
  rw[show ltB x 0=false from decide_eq_false (by omega),cond_false]
  simp only[aX]
  rw[iconv_nn h0 h1]
  unfold appUM
  rw[decide_eq_true h0,decide_eq_true (show x < 18446744073709551616 by omega)]
  rfl
end Go.Proofs.YtjlckgeecihpbaaGreatDoor
namespace Go.Proofs.YtjlckgeecihpbaaGreatDoor
open Go.AM Go.Proofs
def k8 (M s:Nat):(L:Nat)->DD L->DD L
 | 0,u=>u
 | L+1,u=>if L+1=M then DD.of (List.replicate u.kids.length ((u.kids.map (k8 M s L)).getD s (DD.dflt L))) else DD.of (u.kids.map (k8 M s L))
def ko (M s:Nat) (x:Node):Node:=if x.Level=(M:Int) then ⟨x.Level,List.replicate x.Next.length (x.Next.getD s 0)⟩ else x
theorem lF (M s:Nat) (x:Node):(ko M s x).Level=x.Level:=by grind [ko]
theorem chgN_len (M s:Nat) (x:Node):(ko M s x).Next.length=x.Next.length:=by
 grind [ko]
theorem chgN_mem {M s:Nat} {x:Node} {k:Int} (hs:s < x.Next.length) (h:k∈(ko M s x).Next):k∈x.Next:=by
 grind [ko]
theorem rep_fix {nodes:List Node} {M s:Nat}:∀ {L:Nat} {k:Int} {u:DD L},(∀ (i:Nat) x,nodes[i]?=some x->s < x.Next.length)->Rep nodes L k u->Rep (nodes.map (ko M s)) L k (k8 M s L u)
 | 0,_,_,_,h=>h
 | L+1,k,u,hs,⟨x,h1,h2,h3,h4⟩=>by
  obtain⟨k0,k1,k2⟩:=ft h1
  have hsx:=hs _ x k2
  have ex:∀ (j:Nat) (hj:j < x.Next.length),Rep (nodes.map (ko M s)) L (x.Next[j]) (k8 M s L (u.kids[j]'(by omega))):=fun j hj=>rep_fix hs (h4 j _ _ (List.getElem?_eq_getElem hj) (List.getElem?_eq_getElem (by omega)))
  refine⟨ko M s x,by simp_all,by rw[lF,h2],?_,fun j k' d e1 e2=>?_⟩
  ·grind [chgN_len,k8,DD.kids_of]
  ·have hjl:=(List.getElem?_eq_some_iff.1 e1).1
   rw[chgN_len] at hjl
   by_cases hM:L+1=M
   ·have hc:ko M s x=⟨x.Level,List.replicate x.Next.length (x.Next.getD s 0)⟩:=if_pos (by omega)
    have hf:(k8 M s (L+1) u).kids=List.replicate u.kids.length ((u.kids.map (k8 M s L)).getD s (DD.dflt L)):=by
     unfold k8
     rw[if_pos hM]
     rfl
    grind
   ·have hc:ko M s x=x:=if_neg (by omega)
    have hf:(k8 M s (L+1) u).kids=u.kids.map (k8 M s L):=by
     unfold k8
     rw[if_neg hM]
     rfl
    grind
theorem Good.chg {n:Nat} {nodes:List Node} (h:Good n nodes) {M s:Nat} (hs:s < n):Good n (nodes.map (ko M s)):=by
 have get:∀ (i:Nat) y,(nodes.map (ko M s))[i]?=some y->∃ x,nodes[i]?=some x/\y=ko M s x:=fun i y hy=>by
  grind
 refine⟨fun i y hy=>?_,fun i y hy=>?_,fun i y hy h1 k hk=>?_,fun i y hy h1 k hk=>?_⟩
 ·obtain⟨x,hx,rfl⟩:=get i y hy
  rw[lF]
  exact h.lev i x hx
 ·obtain⟨x,hx,rfl⟩:=get i y hy
  rw[chgN_len]
  exact h.len i x hx
 ·obtain⟨x,hx,rfl⟩:=get i y hy
  rw[lF] at h1 ⊢
  obtain⟨a,b,z,hz,hl⟩:=h.kid i x hx h1 k (chgN_mem (by rw[h.len i x hx]; exact hs) hk)
  grind [lF]
 ·obtain⟨x,hx,rfl⟩:=get i y hy
  rw[lF] at h1
  exact h.st i x hx h1 k (chgN_mem (by rw[h.len i x hx]; exact hs) hk)
end Go.Proofs.YtjlckgeecihpbaaGreatDoor
namespace Go.Proofs.YtjlckgeecihpbaaGreatDoor
open Go.AM Go.Proofs
theorem iV {α:Type} {l:List α} {i:Nat} {v:α} (h:l[i]?=some v):l.set i v=l:=by
 apply List.ext_getElem?
 intro j
 rw[List.getElem?_set]
 by_cases he:i=j
 ·subst he
  rw[if_pos rfl,if_pos (List.getElem?_eq_some_iff.1 h).1,h]
 ·rw[if_neg he]
theorem half_at {α:Type} {y:List α} {c:α} {s:Nat} (hs:y[s]?=some c) (i:Nat) (hi:i<=y.length):(half (fun _=>c) y i)[s]?=some c:=by
 have hlt:=(List.getElem?_eq_some_iff.1 hs).1
 unfold half
 by_cases h:s < i
 ·rw[List.getElem?_append_left (by simp; omega),List.getElem?_map,List.getElem?_take,if_pos h,hs]
  rfl
 ·rw[List.getElem?_append_right (by simp; omega),List.length_map,List.length_take,List.getElem?_drop,Nat.min_eq_left hi,show i+(s - i)=s by omega,hs]
theorem chg_loop (S:Int) (H:List Point) (N:List Node) (a:Int) {next:List Int} {s:Nat} (hs:s < next.length) (hl:next.length<=1000000) :
  ba (cL next S H N a (s:Int)) bp (0,next)=some (List.replicate next.length (next.getD s 0)):=by
 have hc:next[s]?=some (next.getD s 0):=by rw[List.getD_eq_getElem?_getD,List.getElem?_eq_getElem hs]; rfl
 obtain⟨c,ec⟩:∃ c,c=next.getD s 0:=⟨_,rfl⟩
 rw[<- ec] at hc ⊢
 obtain⟨r,hr,rfl⟩:=bX (b:=cL next S H N a (s:Int)) (n:=next.length) (s:=(0,next)) (fun i st=>st=((i:Int),half (fun _=>c) next i)) (fun r=>r=List.replicate next.length c) (by omega) (by rw[half_zero]; rfl)
  (fun i st hi e=>by
   subst e
   refine .inl ⟨_,?_,rfl⟩
   have hsi:=half_at hc i (by omega)
   have hst:=half_set (fun _=>c) hi
   unfold cL
   dsimp only
   rw[bh,decide_eq_true hi,cond_true]
   by_cases he:i=s
   ·subst he
    rw[show neB (i:Int) (i:Int)=false from by simp[neB],cond_false]
    simp only[aX]
    rw[iV hsi] at hst
    rw[bJ (by omega),<- hst]
   ·rw[show neB (i:Int) (s:Int)=true from by simp[neB]; omega,cond_true,bl,hsi,bl,half_get _ hi,List.getElem?_eq_getElem hi]
    simp only[aX]
    rw[bJ (by omega),<- hst]
    rfl)
  (fun st e=>by
   subst e
   refine⟨_,?_,rfl⟩
   unfold cL
   dsimp only
   rw[bh,decide_eq_false (Nat.lt_irrefl _),cond_false,half_len,List.map_const'])
 exact hr
theorem chg_is (S:Int) (H:List Point) (N:List Node) {k s:Nat} (hk:k < H.length) (hh:H.length<=1000000) {x:Node} (hs:s < x.Next.length) (hl:x.Next.length<=1000000) :
  dE x.Level x.Next S H N (k:Int) (s:Int)=some (ko (H.length - k) s x).Next:=by
 have hM:bL .i64 (b8 H) (k:Int)=((H.length - k:Nat):Int):=by
  unfold bL b8
  rw[i64_in (by omega)]
  omega
 unfold dE
 rw[hM]
 by_cases hL:x.Level=((H.length - k:Nat):Int)
 ·rw[show eqB x.Level ((H.length - k:Nat):Int)=true from by simp[eqB,hL],cond_true,chg_loop S H N (k:Int) hs hl]
  simp only[aX]
  have:ko (H.length - k) s x=⟨x.Level,List.replicate x.Next.length (x.Next.getD s 0)⟩:=if_pos hL
  rw[this]
 ·rw[show eqB x.Level ((H.length - k:Nat):Int)=false from by simp[eqB,hL],cond_false]
  simp only[aX]
  have:ko (H.length - k) s x=x:=if_neg hL
  rw[this]
theorem fix2_eq (t:Tree) (S:Int) (H:List Point) (N:List Node) (c d a:Int) (mp:List (List UInt8×Int)) (l:List Node) (to_:List Int) (x:Node) (y:List Int):cM t S H N c d a mp l to_ x y=bu t a mp l to_ x y:=by
 funext st
 obtain⟨a1,next⟩:=st
 rfl
theorem node2_eq (l:List Node) (mp:List (List UInt8×Int)) (v:Int) (next:List Int):dR l mp v next=cA l mp v next:=by
 have:ew l mp v next=dQ l mp v next:=by
  funext st
  obtain⟨a1,keyv⟩:=st
  rfl
 unfold dR cA
 rw[this]
end Go.Proofs.YtjlckgeecihpbaaGreatDoor
namespace Go.Proofs.YtjlckgeecihpbaaGreatDoor
open Go.AM Go.Proofs
theorem Szd.chg {n:Nat} {nodes:List Node} (hS:Szd n nodes) {M s:Nat} (hs:s < n):Szd n (nodes.map (ko M s)) :=
 ⟨hS.good.chg hs,fun y hy=>by
  obtain⟨x,hx,rfl⟩:=List.mem_map.1 hy
  rw[lF]
  exact hS.lev x hx,by rw[List.length_map]; exact hS.len,hS.n6⟩
theorem chg_ren {M s:Nat} {x:Node} (f:Int->Int) (hs:s < x.Next.length):(ko M s ⟨x.Level,x.Next.map f⟩).Next=(ko M s x).Next.map f:=by
 by_cases hL:x.Level=(M:Int)
 ·have h1:ko M s x=⟨x.Level,List.replicate x.Next.length (x.Next.getD s 0)⟩:=if_pos hL
  have h2:ko M s ⟨x.Level,x.Next.map f⟩=⟨x.Level,List.replicate (x.Next.map f).length ((x.Next.map f).getD s 0)⟩:=if_pos hL
  rw[h1,h2,List.map_replicate,List.length_map,List.getD_eq_getElem?_getD,List.getElem?_map,List.getD_eq_getElem?_getD,List.getElem?_eq_getElem hs]
  rfl
 ·have h1:ko M s x=x:=if_neg hL
  have h2:ko M s ⟨x.Level,x.Next.map f⟩=⟨x.Level,x.Next.map f⟩:=if_neg hL
  rw[h1,h2]
theorem fix_loop {n:Nat} {t:Tree} (hS:Szd n t.Nodes) (hh:t.Hood.length<=1000000) {k s:Nat} (hk:k < t.Hood.length) (hs:s < n) :
  ∃ mp l to_,ba (bM t t.States t.Hood t.Nodes (k:Int) (s:Int)) bp (0,[],[],[])=some (mp,l,to_)/\RI digI n (t.Nodes.map (ko (t.Hood.length - k) s)) t.Nodes.length mp l to_:=by
 have hsl:=hS.len
 have hn6:=hS.n6
 have hS':Szd n (t.Nodes.map (ko (t.Hood.length - k) s)):=hS.chg hs
 obtain⟨r,hr,mp,l,to_,rfl,h⟩:=bX (b:=bM t t.States t.Hood t.Nodes (k:Int) (s:Int)) (n:=t.Nodes.length) (s:=(0,[],[],[]))
  (fun i st=>∃ mp l to_,st=((i:Int),mp,l,to_)/\RI digI n (t.Nodes.map (ko (t.Hood.length - k) s)) i mp l to_) (fun r=>∃ mp l to_,r=(mp,l,to_)/\RI digI n (t.Nodes.map (ko (t.Hood.length - k) s)) t.Nodes.length mp l to_) (by omega)
  ⟨[],[],[],rfl,rfl,Kn.nil digI,⟨fun i x h=>by simp at h,fun i x h=>by simp at h,fun i x h=>by simp at h,fun i x h=>by simp at h⟩,Nat.le_refl _,fun L j u hj=>by omega⟩
  (fun i st hi ⟨mp,l,to_,e,h⟩=>by
   subst e
   have hx:t.Nodes[i]?=some t.Nodes[i]:=List.getElem?_eq_getElem hi
   generalize t.Nodes[i]=x at hx
   have hx':(t.Nodes.map (ko (t.Hood.length - k) s))[i]?=some (ko (t.Hood.length - k) s x):=by rw[List.getElem?_map,hx]; rfl
   obtain⟨next',e1,e2,mp',e3,e4⟩:=h.step numI hS' hx'
   have hxl:=hS.good.len i _ hx
   rw[lF] at e1 e3 e4
   have hall:1 < x.Level->∀ k∈x.Next,∃ v,idx to_ k=some v:=fun h1 k' hk'=>by
    obtain⟨a,b,_⟩:=hS.good.kid i x hx h1 k' hk'
    have htl:=h.tl
    exact⟨_,by rw[gx _ a]; exact List.getElem?_eq_getElem (by omega)⟩
   refine .inl ⟨_,?_,mp',_,_,rfl,e4⟩
   unfold bM
   dsimp only
   rw[bh,decide_eq_true hi,cond_true,bl,hx,bJ (by omega)]
   simp only[aX]
   rw[clone_is (by omega)]
   simp only[aX]
   rw[fix2_eq,inner_is t i mp l to_ x (by omega) hall]
   simp only[aX]
   have hy:dE x.Level (if 1 < x.Level then x.Next.map (fun k=>(idx to_ k).getD 0) else x.Next) t.States t.Hood t.Nodes (k:Int) (s:Int)=some next':=by
    rw[e1]
    by_cases h1:1 < x.Level
    ·rw[if_pos h1,if_pos h1,<- chg_ren (fun k=>(idx to_ k).getD 0) (by omega)]
     exact chg_is t.States t.Hood t.Nodes hk hh (x:=⟨x.Level,x.Next.map fun k=>(idx to_ k).getD 0⟩) (by simp only[List.length_map]; omega) (by simp only[List.length_map]; omega)
    ·rw[if_neg h1,if_neg h1]
     exact chg_is t.States t.Hood t.Nodes hk hh (by omega) (by omega)
   rw[hy]
   simp only[aX]
   rw[node2_eq,e3]
   simp only[aX]
   rw[show eT 8 to_ [_]=some _ from if_pos ⟨by decide,by have:=h.tl; simp only[List.length_singleton]; omega⟩]
   rfl)
  (fun st ⟨mp,l,to_,e,h⟩=>by
   subst e
   refine⟨_,?_,mp,l,to_,rfl,h⟩
   unfold bM
   dsimp only
   rw[bh,decide_eq_false (Nat.lt_irrefl _)]
   rfl)
 exact⟨mp,l,to_,hr,h⟩
theorem fixed_is {n:Nat} {t:Tree} (hS:Szd n t.Nodes) (hh:t.Hood.length<=1000000) {k s:Nat} (hk:k < t.Hood.length) (hs:s < n) {L i:Nat} {u:DD (L+1)} (hi:i+1=t.Nodes.length) (hr:Rep t.Nodes (L+1) i u) :
  ct t t.States t.Hood t.Nodes (k:Int) (s:Int)=some (t.Hood,ser (post (L+1) (k8 (t.Hood.length - k) s (L+1) u) [])):=by
 obtain⟨mp,l,to_,hl,h⟩:=fix_loop hS hh hk hs
 have hr1:=rep_fix (M:=t.Hood.length - k) (s:=s) (fun i x hx=>by rw[hS.good.len i x hx]; exact hs) hr
 obtain⟨k',hk',hr'⟩:=h.mp L i (k8 (t.Hood.length - k) s (L+1) u) (by omega) hr1
 have hsl:=hS.len
 have hll:=h.ll
 obtain⟨x,hx1,hx2,_⟩:=id hr
 rw[bl] at hx1
 have hlv:=hS.lev x (List.mem_of_getElem? hx1)
 have ho:=ordered_is h.gd h.kn.nd (by omega) hS.n6 (L:=L) (by omega) hr'
 have hi':idx to_ (bL .i64 (b8 to_) 1)=some k':=by
  have:bL .i64 (b8 to_) 1=(i:Int):=by
   unfold bL b8
   rw[h.tl,i64_in (by omega)]
   omega
  rw[this,bl,hk']
 unfold ct
 rw[hl]
 simp only[aX]
 rw[hoodc_is hh,hi']
 simp only[aX]
 rw[ho]
 rfl
end Go.Proofs.YtjlckgeecihpbaaGreatDoor
namespace Go.Proofs.YtjlckgeecihpbaaGreatDoor
open Go.AM Go.Proofs
structure TOk (n:Nat) (t:Tree):Prop where
 st:t.States=(n:Int)
 n2:2<=n
 n8:n<=8
 h1:1<=t.Hood.length
 h25:t.Hood.length<=25
 nodes:t.Nodes.length<=4096
 good:Good n t.Nodes
 lev:∀ x∈t.Nodes,x.Level<=t.Hood.length
 root:∃ i x,i+1=t.Nodes.length/\t.Nodes[i]?=some x/\x.Level=(t.Hood.length:Int)
theorem ok_tree {t:Tree} (h:gF t=true):∃ n,TOk n t:=by
 simp only[gF,Bool.and_eq_true,Bool.not_eq_true',Bool.or_eq_false_iff] at h
 obtain⟨⟨a1,a2,a3,a4,a5⟩,a6,a7⟩:=h
 have b1:=of_decide_eq_false a1
 have b2:=of_decide_eq_false a2
 have b4:=of_decide_eq_false a4
 have b5:=of_decide_eq_false a5
 unfold b8 at b4 b5
 have a3':iB t.Hood=true:=by simpa using a3
 simp only[iB,Bool.and_eq_true,Bool.not_eq_true',Bool.or_eq_false_iff] at a3'
 have c1:=of_decide_eq_false a3'.1.1
 have c2:=of_decide_eq_false a3'.1.2
 unfold b8 at c1 c2
 have hst:t.States=((t.States.toNat:Nat):Int):=by omega
 have node:∀ (i:Nat) x,t.Nodes[i]?=some x->1<=x.Level/\x.Level<=t.Hood.length/\x.Next.length=t.States.toNat/\∀ k∈x.Next,badE t (i:Nat) x k=false:=fun i x hx=>by
  have hb:=fm a6 i x hx
  simp only[badN,Bool.or_eq_false_iff] at hb
  obtain⟨d1,d2,d3,d4⟩:=hb
  have e1:=of_decide_eq_false d1
  have e2:=of_decide_eq_false d2
  have e3:b8 x.Next=t.States:=by simpa [neB] using d3
  unfold b8 at e2 e3
  refine⟨by omega,by omega,by omega,fun k hk=>?_⟩
  obtain⟨j,hj⟩:=List.mem_iff_getElem?.1 hk
  have:=fm d4 j k hj
  grind
 refine⟨t.States.toNat,hst,by omega,by omega,by omega,by omega,by omega,⟨fun i x hx=>(node i x hx).1,fun i x hx=>(node i x hx).2.2.1,fun i x hx h1 k hk=>?_,fun i x hx h1 k hk=>?_⟩,fun x hx=>?_,?_⟩
 ·have hb:=(node i x hx).2.2.2 k hk
  have hlx:=(node i x hx).2.1
  simp only[badE,Bool.or_eq_false_iff] at hb
  obtain⟨d1,_,d3⟩:=hb
  rw[show gtB x.Level 1=true from decide_eq_true h1,Bool.true_and,Bool.or_eq_false_iff] at d3
  have e1:=of_decide_eq_false d1
  have e2:=of_decide_eq_false d3.1
  grind [lowOk,bL,neB,i64_in]
 ·have hb:=(node i x hx).2.2.2 k hk
  simp only[badE,Bool.or_eq_false_iff] at hb
  obtain⟨d1,d2,_⟩:=hb
  rw[show eqB x.Level 1=true from by simp[eqB,h1],Bool.true_and] at d2
  have e1:=of_decide_eq_false d1
  have e2:=of_decide_eq_false d2
  omega
 ·grind [List.mem_iff_getElem?]
 grind [rootOk,eqB,b8]
theorem TOk.szd {n:Nat} {t:Tree} (h:TOk n t):Szd n t.Nodes:=⟨h.good,fun x hx=>by have:=h.lev x hx; have:=h.h25; omega,by have:=h.nodes; omega,by have:=h.n8; omega⟩
theorem TOk.rep {n:Nat} {t:Tree} (h:TOk n t):∃ (L i:Nat) (u:DD (L+1)),i+1=t.Nodes.length/\L+1=t.Hood.length/\Rep t.Nodes (L+1) i u/\Reg n (L+1) u:=by
 obtain⟨i,x,hi,hx,hl⟩:=h.root
 have h1:=h.h1
 obtain⟨L,hL⟩:∃ L,t.Hood.length=L+1:=⟨t.Hood.length - 1,by omega⟩
 obtain⟨u,hu,hr⟩:=h.good.rep L i x hx (by omega)
 grind
theorem sz_of {n:Nat} {t:Tree} (h:TOk n t):Sz t:=⟨by have:=h.h25; omega,by have:=h.nodes; omega,fun x hx=>by
 obtain⟨i,hi⟩:=List.mem_iff_getElem?.1 hx
 have:=h.good.len i x hi
 have:=h.n8
 omega⟩
theorem reduce_P {n:Nat} {t:Tree} (hok:gF t=true) (h:TOk n t) {L i:Nat} {u:DD (L+1)} (hi:i+1=t.Nodes.length) (hL:L+1=t.Hood.length) (hr:Rep t.Nodes (L+1) i u) :
  gJ t=some ⟨t.States,t.Hood,ser (post (L+1) u [])⟩:=by
 have h25:=h.h25
 have hn:=h.n8
 have hnd:=h.nodes
 unfold gJ
 rw[tree_eq (sz_of h),hok]
 simp only[aX,cy,Bool.not_true,cond_false]
 rw[rebuilt_is numI h.szd (by omega) hi hr]
 rfl
end Go.Proofs.YtjlckgeecihpbaaGreatDoor
namespace Go.Proofs.YtjlckgeecihpbaaGreatDoor
open Go.AM Go.Proofs
theorem tok_ok {n:Nat} {t:Tree} (h:TOk n t) (hh:iB t.Hood=true):gF t=true:=by
 have n2:=h.n2
 have n8:=h.n8
 have hst:=h.st
 have h1:=h.h1
 have h25:=h.h25
 have hnd:=h.nodes
 obtain⟨i0,x0,r1,r2,r3⟩:=h.root
 simp only[gF,Bool.and_eq_true,Bool.not_eq_true',Bool.or_eq_false_iff]
 refine⟨⟨decide_eq_false (by omega),decide_eq_false (by omega),by rw[hh]; rfl,decide_eq_false (by unfold b8; omega),decide_eq_false (by unfold b8; omega)⟩,k7 fun i x hx=>?_,?_⟩
 ·have hxl:=h.good.len i x hx
  have hlv:=h.good.lev i x hx
  have hle:=h.lev x (List.mem_of_getElem? hx)
  simp only[badN,Bool.or_eq_false_iff]
  refine⟨decide_eq_false (by omega),decide_eq_false (by unfold b8; omega),by simp[neB,b8,hxl,hst],k7 fun j k hj=>?_⟩
  have hmem:=List.mem_of_getElem? hj
  simp only[badE,Bool.or_eq_false_iff,Nat.zero_add]
  by_cases hL:x.Level=1
  ·obtain⟨a,b⟩:=h.good.st i x hx hL k hmem
   refine⟨decide_eq_false (by omega),?_,?_⟩
   ·rw[show geB k t.States=false from decide_eq_false (by omega),Bool.and_false]
   ·rw[show gtB x.Level 1=false from decide_eq_false (by omega),Bool.false_and]
  ·obtain⟨a,b,y,hy,hyl⟩:=h.good.kid i x hx (by omega) k hmem
   refine⟨decide_eq_false (by omega),?_,?_⟩
   ·rw[show eqB x.Level 1=false from by simp[eqB,hL],Bool.false_and]
   ·have hlo:lowOk t x k=false:=by
     unfold lowOk
     rw[hy]
     have:bL .i64 x.Level 1=x.Level - 1:=by unfold bL; rw[i64_in (by omega)]
     simp[neB,this,hyl]
    rw[show geB k (i:Int)=false from decide_eq_false (by omega),hlo]
    simp
 ·unfold rootOk
  rw[show t.Nodes.length - 1=i0 by omega,r2]
  simp[eqB,b8,r3]
theorem tok_hood {t:Tree} (h:gF t=true):iB t.Hood=true:=by
 simp only[gF,Bool.and_eq_true,Bool.not_eq_true',Bool.or_eq_false_iff] at h
 simpa using h.1.2.2.1
theorem TOk.chg {n:Nat} {t:Tree} (h:TOk n t) {M s:Nat} (hs:s < n):TOk n ⟨t.States,t.Hood,t.Nodes.map (ko M s)⟩:=by
 obtain⟨i,x,h1,h2,h3⟩:=h.root
 exact⟨h.st,h.n2,h.n8,h.h1,h.h25,by simpa using h.nodes,h.good.chg hs,fun y hy=>by
  obtain⟨z,hz,rfl⟩:=List.mem_map.1 hy
  rw[lF]
  exact h.lev z hz,i,ko M s x,by simpa using h1,by rw[List.getElem?_map,h2]; rfl,by rw[lF]; exact h3⟩
theorem fix_P {n:Nat} {t:Tree} (hok:gF t=true) (h:TOk n t) {L i:Nat} {u:DD (L+1)} (hi:i+1=t.Nodes.length) (hL:L+1=t.Hood.length) (hr:Rep t.Nodes (L+1) i u) {k s:Nat} (hk:k < t.Hood.length) (hs:s < n) :
  iK t (k:Int) (s:Int)=some (⟨t.States,t.Hood,ser (post (L+1) (k8 (t.Hood.length - k) s (L+1) u) [])⟩,0):=by
 have h25:=h.h25
 have hn:=h.n8
 have hnd:=h.nodes
 have hst:=h.st
 have c1:ltB (k:Int) 0=false:=decide_eq_false (by omega)
 have c2:geB (k:Int) (b8 t.Hood)=false:=decide_eq_false (by unfold b8; omega)
 have c3:ltB (s:Int) 0=false:=decide_eq_false (by omega)
 have c4:geB (s:Int) t.States=false:=decide_eq_false (by omega)
 unfold iK
 rw[tree_eq (sz_of h),hok]
 simp only[aX,cy,Bool.not_true,cond_false,c1,c2,c3,c4]
 rw[fixed_is h.szd (by omega) hk hs hi hr]
 rfl
end Go.Proofs.YtjlckgeecihpbaaGreatDoor
namespace Go.Proofs.YtjlckgeecihpbaaGreatDoor
open Go.AM Go.Proofs
theorem rep_post {l:List Node}:∀ (L:Nat) (u:DD L) (us:List ND),(∃ k,Rep l L k u)->(∀ x∈us,∃ k,Rep l (x.1+1) k x.2)->∀ x∈post L u us,∃ k,Rep l (x.1+1) k x.2
 | 0,_,_,_,h=>h
 | L+1,u,us,⟨k,hk⟩,h=>by
  unfold post
  by_cases hm:(⟨L,u⟩:ND)∈us
  ·rw[if_pos hm]
   exact h
  ·rw[if_neg hm]
   have hf:∀ (ds:List (DD L)) (us:List ND),(∀ d∈ds,∃ k,Rep l L k d)->(∀ x∈us,∃ k,Rep l (x.1+1) k x.2)->∀ x∈ds.foldl (fun s d=>post L d s) us,∃ k,Rep l (x.1+1) k x.2:=fun ds=>by
    induction ds with
    | nil=>exact fun _ _ h=>h
    | cons d ds ih=>exact fun us hd h=>ih _ (fun e he=>hd e (List.mem_cons_of_mem _ he)) (rep_post L d us (hd d (by simp)) h)
   obtain⟨x,h1,h2,h3,h4⟩:=id hk
   intro y hy
   rcases List.mem_append.1 hy with hy | hy
   ·refine hf _ us (fun d hd=>?_) h y hy
    obtain⟨s,hs⟩:=List.mem_iff_getElem?.1 hd
    have hl:=(List.getElem?_eq_some_iff.1 hs).1
    exact⟨_,h4 s (x.Next[s]'(by omega)) d (List.getElem?_eq_getElem _) hs⟩
   ·rw[List.mem_singleton] at hy
    subst hy
    exact⟨k,hk⟩
theorem TOk.walk {n:Nat} {t:Tree} (_h:TOk n t) {L i:Nat} {u:DD (L+1)} (_hL:L+1=t.Hood.length) (hr:Rep t.Nodes (L+1) i u):∃ R dn,WR t.Nodes R dn (post (L+1) u []):=by
 obtain⟨w,_⟩:=post_wk (L+1) u []
 exact⟨fun _=>False,List.replicate t.Nodes.length 0,⟨by simp,(fun _ _ _ h=>h.elim),w.ext.clo (fun _ _ h=>by cases h),w.ext.nd List.nodup_nil,rep_post (L+1) u [] ⟨_,hr⟩ (fun _ h=>by cases h)⟩⟩
theorem post_last {L:Nat} (u:DD (L+1)):∃ vs,post (L+1) u []=vs++[⟨L,u⟩]:=by
 unfold post
 simp
theorem idxOf_get {us:List ND} (hd:us.Nodup) {i:Nat} {x:ND} (h:us[i]?=some x):us.idxOf x=i:=by
 grind
theorem TOk.red {n:Nat} {t:Tree} (h:TOk n t) {L i:Nat} {u:DD (L+1)} (hL:L+1=t.Hood.length) (hr:Rep t.Nodes (L+1) i u) :
  TOk n ⟨t.States,t.Hood,ser (post (L+1) u [])⟩/\∃ j,j+1=(ser (post (L+1) u [])).length/\Rep (ser (post (L+1) u [])) (L+1) j u:=by
 obtain⟨R,dn,hw⟩:=h.walk hL hr
 obtain⟨vs,hv⟩:=post_last u
 generalize post (L+1) u []=us at hw hv ⊢
 have hle:=hw.le
 have hnd:=h.nodes
 have hsl:(ser us).length=us.length:=by unfold ser; simp
 have hget:∀ (j:Nat) y,(ser us)[j]?=some y->∃ x:ND,us[j]?=some x/\y=fK us x:=fun j y hy=>by
  unfold ser at hy
  grind
 have hlev:∀ x:ND,(fK us x).Level=(x.1:Int)+1:=fun x=>by
  obtain⟨K,w⟩:=x
  cases K with
  | zero=>rfl
  | succ K=>rfl
 have hreg:∀ x∈us,Reg n (x.1+1) x.2/\(x.1:Int)+1<=t.Hood.length:=fun x hx=>by
  obtain⟨k,hk⟩:=hw.rep x hx
  obtain⟨y,e1,e2,_⟩:=id hk
  obtain⟨_,_,e3⟩:=ft e1
  have:=h.lev y (List.mem_of_getElem? e3)
  exact⟨hk.reg h.good,by omega⟩
 have hlen:∀ x:ND,(fK us x).Next.length=x.2.kids.length:=fun x=>by
  obtain⟨K,w⟩:=x
  cases K with
  | zero=>rfl
  | succ K=>simp[fK]
 have hgood:Good n (ser us):=by
  refine⟨fun j y hy=>?_,fun j y hy=>?_,fun j y hy h1 k hk=>?_,fun j y hy h1 k hk=>?_⟩
  ·grind
  ·obtain⟨x,hx,rfl⟩:=hget j y hy
   rw[hlen]
   exact (hreg x (List.mem_of_getElem? hx)).1.1
  ·obtain⟨⟨K,w⟩,hx,rfl⟩:=hget j y hy
   rw[hlev] at h1 ⊢
   cases K with
   | zero=>simp_all
   | succ K =>
    simp only[fK,List.mem_map] at hk
    obtain⟨d,hd,rfl⟩:=hk
    obtain⟨m1,m2⟩:=hw.clo K w (List.mem_of_getElem? hx) d hd
    rw[idxOf_get hw.nd hx] at m2
    grind [Int.toNat_natCast]
  ·obtain⟨⟨K,w⟩,hx,rfl⟩:=hget j y hy
   rw[hlev] at h1
   cases K with
   | zero =>
    have:=(hreg _ (List.mem_of_getElem? hx)).1.2 k hk
    exact this
   | succ K=>grind
 have hroot:us[vs.length]?=some ⟨L,u⟩:=by simp_all
 have hul:vs.length+1=us.length:=by rw[hv]; simp
 refine⟨⟨h.st,h.n2,h.n8,h.h1,h.h25,by grind,hgood,fun y hy=>?_,vs.length,fK us ⟨L,u⟩,by grind,?_,by grind⟩,vs.length,by omega,?_⟩
 ·obtain⟨j,hj⟩:=List.mem_iff_getElem?.1 hy
  grind
 ·grind
 ·have:=ser_rep hw.clo L u (List.mem_of_getElem? hroot)
  rwa [idxOf_get hw.nd hroot] at this
end Go.Proofs.YtjlckgeecihpbaaGreatDoor
