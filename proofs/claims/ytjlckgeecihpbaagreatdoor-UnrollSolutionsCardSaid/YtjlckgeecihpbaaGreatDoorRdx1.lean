/- Plain laws: what a node of a rule tree leads to, and the list of all that a root leads to, in the order of a walk. -/
import Derived.Test.YtjlckgeecihpbaaGreatDoorPsx1
namespace Go.Proofs.YtjlckgeecihpbaaGreatDoor
open Go.AM Go.Proofs
def DD:Nat->Type
 | 0=>Int
 | L+1=>List (DD L)
def DD.dec:∀ L,DecidableEq (DD L)
 | 0=>inferInstanceAs (DecidableEq Int)
 | L+1=>@instDecidableEqList _ (DD.dec L)
instance (L:Nat):DecidableEq (DD L):=DD.dec L
def DD.dflt:∀ L,DD L
 | 0=>(0:Int)
 | L+1=>([]:List (DD L))
instance (L:Nat):Inhabited (DD L):=⟨DD.dflt L⟩
def DD.kids {L:Nat} (u:DD (L+1)):List (DD L):=u
def DD.of {L:Nat} (l:List (DD L)):DD (L+1):=l
theorem DD.kids_of {L:Nat} (l:List (DD L)):(DD.of l).kids=l:=rfl
theorem DD.ext {L:Nat} {u v:DD (L+1)} (h:u.kids=v.kids):u=v:=h
def Rep (l:List Node):(L:Nat)->Int->DD L->Prop
 | 0,k,u=>k=u
 | L+1,k,u=>∃ x,idx l k=some x/\x.Level=(L:Int)+1/\x.Next.length=u.kids.length/\∀ (s:Nat) k' d,x.Next[s]?=some k'->u.kids[s]?=some d->Rep l L k' d
theorem Rep.det {l:List Node}:∀ {L:Nat} {k:Int} {u v:DD L},Rep l L k u->Rep l L k v->u=v
 | 0,_,_,_,h,h'=>(show _=_ from h).symm.trans h'
 | L+1,k,u,v,⟨x,h1,_,h3,h4⟩,⟨x',h1',_,h3',h4'⟩=>by
  obtain rfl:=Option.some.inj (h1.symm.trans h1')
  apply DD.ext
  apply List.ext_getElem?
  intro s
  cases hs:x.Next[s]? with
  | none =>
   simp_all
  | some k' =>
   have hlt:=(List.getElem?_eq_some_iff.1 hs).1
   have e1:u.kids[s]?=some (u.kids[s]'(by omega)):=List.getElem?_eq_getElem (by omega)
   have e2:v.kids[s]?=some (v.kids[s]'(by omega)):=List.getElem?_eq_getElem (by omega)
   rw[e1,e2,(h4 s k' _ hs e1).det (h4' s k' _ hs e2)]
theorem ft {α:Type} {l:List α} {k:Int} {x:α} (h:idx l k=some x):0<=k/\k < l.length/\l[k.toNat]?=some x:=by
 grind [idx]
theorem idx_app {α:Type} {l m:List α} {k:Int} {x:α} (h:idx l k=some x):idx (l++m) k=some x:=by
 obtain⟨h1,h2,h3⟩:=ft h
 simp_all [gx,List.getElem?_append_left]
theorem Rep.app {l m:List Node}:∀ {L:Nat} {k:Int} {u:DD L},Rep l L k u->Rep (l++m) L k u
 | 0,_,_,h=>h
 | _L+1,_k,_u,⟨x,h1,h2,h3,h4⟩=>⟨x,idx_app h1,h2,h3,fun s k' d h h'=>(h4 s k' d h h').app⟩
structure Good (n:Nat) (l:List Node):Prop where
 lev:∀ (i:Nat) x,l[i]?=some x->1<=x.Level
 len:∀ (i:Nat) x,l[i]?=some x->x.Next.length=n
 kid:∀ (i:Nat) x,l[i]?=some x->1 < x.Level->∀ k∈x.Next,0<=k/\k < i/\∃ y,l[k.toNat]?=some y/\y.Level=x.Level - 1
 st:∀ (i:Nat) x,l[i]?=some x->x.Level=1->∀ k∈x.Next,0<=k/\k < n
def Reg (n:Nat):(L:Nat)->DD L->Prop
 | 0,u=>0<=(show Int from u)/\(show Int from u) < n
 | L+1,u=>u.kids.length=n/\∀ d∈u.kids,Reg n L d
theorem choose_list {α β:Type} {R:α->β->Prop}:∀ {l:List α},(∀ x∈l,∃ y,R x y)->∃ m:List β,l.length=m.length/\∀ (s:Nat) x y,l[s]?=some x->m[s]?=some y->R x y
 | [],_=>⟨[],rfl,fun s x y h=>by simp at h⟩
 | x::l,h=>by
  obtain⟨y,hy⟩:=h x (by simp)
  obtain⟨m,h1,h2⟩:=choose_list (l:=l) fun z hz=>h z (by simp[hz])
  refine⟨y::m,by simp[h1],fun s a b ha hb=>?_⟩
  grind
theorem Good.rep {n:Nat} {l:List Node} (h:Good n l):∀ (L i:Nat) x,l[i]?=some x->x.Level=(L:Int)+1->∃ u:DD (L+1),Rep l (L+1) i u/\Reg n (L+1) u
 | 0,i,x,hx,hL=>⟨DD.of (show List (DD 0) from x.Next),⟨x,by rw[bl]; exact hx,hL,rfl,fun s k' d h1 h2=>by
   have h2':x.Next[s]?=some d:=h2
   rw[h1] at h2'
   exact Option.some.inj h2'⟩,h.len i x hx,fun d hd=>h.st i x hx (by omega) d hd⟩
 | L+1,i,x,hx,hL=>by
  obtain⟨m,h1,h2⟩:=choose_list (l:=x.Next) (R:=fun k (d:DD (L+1))=>Rep l (L+1) k d/\Reg n (L+1) d) fun k hk=>by
   obtain⟨k0,_,y,hy,hl⟩:=h.kid i x hx (by omega) k hk
   obtain⟨u,hu,hr⟩:=h.rep L k.toNat y hy (by omega)
   grind
  refine⟨DD.of m,⟨x,by rw[bl]; exact hx,hL,h1,fun s k' d e1 e2=>(h2 s k' d e1 e2).1⟩,?_,fun d hd=>?_⟩
  ·show m.length=n
   rw[<- h1,h.len i x hx]
  ·obtain⟨s,hs⟩:=List.mem_iff_getElem?.1 (show d∈m from hd)
   have hlt:=(List.getElem?_eq_some_iff.1 hs).1
   exact (h2 s (x.Next[s]'(by omega)) d (List.getElem?_eq_getElem _) hs).2
theorem Rep.reg {n:Nat} {l:List Node} (h:Good n l) {L:Nat} {k:Int} {u:DD (L+1)} (hr:Rep l (L+1) k u):Reg n (L+1) u:=by
 obtain⟨x,h1,h2,_⟩:=id hr
 obtain⟨k0,k1,k2⟩:=ft h1
 obtain⟨v,hv,hg⟩:=h.rep L k.toNat x k2 h2
 rw[show ((k.toNat:Nat):Int)=k by omega] at hv
 rw[hr.det hv]
 exact hg
abbrev ND:=Σ L:Nat,DD (L+1)
def post:(L:Nat)->DD L->List ND->List ND
 | 0,_,s=>s
 | L+1,u,s=>if (⟨L,u⟩:ND)∈s then s else u.kids.foldl (fun s d=>post L d s) s++[⟨L,u⟩]
def fK (us:List ND):ND->Node
 | ⟨0,u⟩=>⟨1,u.kids⟩
 | ⟨L+1,u⟩=>⟨(L:Int)+2,u.kids.map fun d=>((us.idxOf (⟨L,d⟩:ND):Nat):Int)⟩
def ser (us:List ND):List Node:=us.map (fK us)
def Clo (us:List ND):Prop:=∀ L u,(⟨L+1,u⟩:ND)∈us->∀ d∈u.kids,(⟨L,d⟩:ND)∈us/\us.idxOf (⟨L,d⟩:ND) < us.idxOf (⟨L+1,u⟩:ND)
theorem idxOf_app {α:Type} [DecidableEq α] {l m:List α} {x:α} (h:x∈l):(l++m).idxOf x=l.idxOf x:=by
 grind
theorem serNode_app {us vs:List ND} {v:ND} (h:∀ L u,v=⟨L+1,u⟩->∀ d∈u.kids,(⟨L,d⟩:ND)∈us):fK (us++vs) v=fK us v:=by
 obtain⟨L,u⟩:=v
 cases L with
 | zero=>rfl
 | succ L =>
  simp only[fK]
  congr 1
  apply List.map_congr_left
  grind
theorem ser_snoc {us:List ND} {v:ND} (hc:Clo us) (h:∀ L u,v=⟨L+1,u⟩->∀ d∈u.kids,(⟨L,d⟩:ND)∈us):ser (us++[v])=ser us++[fK us v]:=by
 unfold ser
 rw[List.map_append]
 congr 1
 ·apply List.map_congr_left
  intro w hw
  exact serNode_app fun L u e d hd=>(hc L u (by grind) d hd).1
 ·rw[List.map_singleton,serNode_app h]
theorem Clo.snoc {us:List ND} {v:ND} (hc:Clo us) (_hv:v ∉ us) (h:∀ L u,v=⟨L+1,u⟩->∀ d∈u.kids,(⟨L,d⟩:ND)∈us):Clo (us++[v]):=by
 intro L u hu d hd
 by_cases hm:(⟨L+1,u⟩:ND)∈us
 ·obtain⟨h1,h2⟩:=hc L u hm d hd
  grind
 grind
structure Ext (us vs:List ND):Prop where
 pre:∃ ws,vs=us++ws
 nd:us.Nodup->vs.Nodup
 clo:Clo us->Clo vs
theorem Ext.refl (us:List ND):Ext us us:=⟨⟨[],by simp⟩,id,id⟩
theorem Ext.trans {us vs ws:List ND} (h:Ext us vs) (h':Ext vs ws):Ext us ws:=by
 obtain⟨a,rfl⟩:=h.pre
 obtain⟨b,rfl⟩:=h'.pre
 exact⟨⟨a++b,by simp⟩,fun x=>h'.nd (h.nd x),fun x=>h'.clo (h.clo x)⟩
theorem Ext.mem {us vs:List ND} (h:Ext us vs) {x:ND} (hx:x∈us):x∈vs:=by
 obtain⟨a,rfl⟩:=h.pre
 simp_all
theorem Ext.idx {us vs:List ND} (h:Ext us vs) {x:ND} (hx:x∈us):vs.idxOf x=us.idxOf x:=by
 obtain⟨a,rfl⟩:=h.pre
 exact idxOf_app hx
def InP (us:List ND):(L:Nat)->DD L->Prop
 | 0,_=>True
 | L+1,u=>(⟨L,u⟩:ND)∈us
theorem InP.ext {us vs:List ND} (h:Ext us vs):∀ {L:Nat} {u:DD L},InP us L u->InP vs L u
 | 0,_,_=>trivial
 | _+1,_,hu=>h.mem hu
structure Wlk (L:Nat) (us vs:List ND):Prop where
 ext:Ext us vs
 low:∀ x∈vs,x∈us \/ x.1 < L
theorem Wlk.refl (L:Nat) (us:List ND):Wlk L us us:=⟨Ext.refl us,fun _ h=>.inl h⟩
theorem Wlk.trans {L:Nat} {us vs ws:List ND} (h:Wlk L us vs) (h':Wlk L vs ws):Wlk L us ws:=⟨h.ext.trans h'.ext,fun x hx=>(h'.low x hx).elim (h.low x) .inr⟩
theorem foldl_wk {L:Nat}:∀ (l:List (DD L)) (us:List ND),(∀ d∈l,∀ s,Wlk L s (post L d s)/\InP (post L d s) L d)->Wlk L us (l.foldl (fun s d=>post L d s) us)/\∀ d∈l,InP (l.foldl (fun s d=>post L d s) us) L d
 | [],us,_=>⟨Wlk.refl L us,fun d hd=>by simp at hd⟩
 | a::l,us,h=>by
  obtain⟨h1,h2⟩:=h a (by simp) us
  obtain⟨h3,h4⟩:=foldl_wk l (post L a us) fun d hd=>h d (by simp[hd])
  refine⟨h1.trans h3,fun d hd=>?_⟩
  rcases List.mem_cons.1 hd with rfl | hd
  ·exact h2.ext h3.ext
  ·exact h4 d hd
theorem post_wk:∀ (L:Nat) (u:DD L) (us:List ND),Wlk L us (post L u us)/\InP (post L u us) L u
 | 0,_,us=>⟨Wlk.refl 0 us,trivial⟩
 | L+1,u,us=>by
  unfold post
  by_cases hm:(⟨L,u⟩:ND)∈us
  ·rw[if_pos hm]
   exact⟨Wlk.refl _ us,hm⟩
  ·rw[if_neg hm]
   obtain⟨h1,h2⟩:=foldl_wk u.kids us fun d _ s=>post_wk L d s
   have hn:(⟨L,u⟩:ND) ∉ u.kids.foldl (fun s d=>post L d s) us:=fun h=>(h1.low _ h).elim hm fun h=>absurd h (Nat.lt_irrefl _)
   have hkid:∀ K w,(⟨L,u⟩:ND)=⟨K+1,w⟩->∀ d∈w.kids,(⟨K,d⟩:ND)∈u.kids.foldl (fun s d=>post L d s) us:=by
    intro K w e d hd
    cases e
    exact h2 d hd
   refine⟨⟨?_,fun x hx=>?_⟩,List.mem_append_right _ (List.mem_singleton.2 rfl)⟩
   ·refine h1.ext.trans ⟨⟨_,rfl⟩,fun h=>?_,fun h=>h.snoc hn hkid⟩
    grind
   ·rcases List.mem_append.1 hx with hx | hx
    ·exact (h1.low x hx).imp id fun h=>by omega
    simp_all
theorem ser_rep {us:List ND} (hc:Clo us):∀ (L:Nat) (u:DD (L+1)),(⟨L,u⟩:ND)∈us->Rep (ser us) (L+1) (us.idxOf (⟨L,u⟩:ND):Nat) u
 | L,u,hu=>by
  have hlt:=List.idxOf_lt_length_iff.2 hu
  have hx:(ser us)[us.idxOf (⟨L,u⟩:ND)]?=some (fK us ⟨L,u⟩):=by
   grind [ser]
  refine⟨_,by rw[bl]; exact hx,?_,?_,fun s k' d h1 h2=>?_⟩
  ·cases L<;>simp[fK]; omega
  ·cases L with
   | zero=>rfl
   | succ L=>simp[fK]
  ·cases L with
   | zero =>
    have h1':u.kids[s]?=some k':=h1
    rw[h1'] at h2
    exact Option.some.inj h2
   | succ L =>
    simp only[fK,List.getElem?_map,h2,Option.map_some] at h1
    cases h1
    exact ser_rep hc L d (hc L u hu d (List.mem_of_getElem? h2)).1
def Dst (l:List Node):Prop:=∀ (L:Nat) (k k':Int) (u:DD (L+1)),Rep l (L+1) k u->Rep l (L+1) k' u->k=k'
theorem dst_of {l:List Node} (hd:l.Nodup):Dst l:=by
 intro L
 induction L with
 | zero =>
  intro k k' u ⟨x,h1,h2,h3,h4⟩ ⟨x',h1',h2',h3',h4'⟩
  have hn:x.Next=x'.Next:=by
   have e:∀ y:Node,y.Next.length=u.kids.length->(∀ (s:Nat) k' d,y.Next[s]?=some k'->u.kids[s]?=some d->Rep l 0 k' d)->y.Next=(show List Int from u.kids):=fun y hl hy=>by
    apply List.ext_getElem?
    intro s
    cases hs:y.Next[s]? with
    | none=>exact (List.getElem?_eq_none (by have:=List.getElem?_eq_none_iff.1 hs; exact hl ▸ this)).symm
    | some a =>
     have hlt:=(List.getElem?_eq_some_iff.1 hs).1
     have e2:u.kids[s]?=some (u.kids[s]'(by omega)):=List.getElem?_eq_getElem (by omega)
     have e3:a=u.kids[s]'(by omega):=hy s a _ hs e2
     rw[e3]
     exact e2.symm
   grind
  have hx:x=x':=by cases x; cases x'; simp_all
  subst hx
  obtain⟨a1,a2,a3⟩:=ft h1
  obtain⟨b1,b2,b3⟩:=ft h1'
  grind [List.getElem?_inj]
 | succ L ih =>
  intro k k' u ⟨x,h1,h2,h3,h4⟩ ⟨x',h1',h2',h3',h4'⟩
  have hn:x.Next=x'.Next:=by
   apply List.ext_getElem?
   intro s
   cases hs:x.Next[s]? with
   | none=>simp_all
   | some a =>
    have hlt:=(List.getElem?_eq_some_iff.1 hs).1
    have e1:x'.Next[s]?=some (x'.Next[s]'(by omega)):=List.getElem?_eq_getElem (by omega)
    have e2:u.kids[s]?=some (u.kids[s]'(by omega)):=List.getElem?_eq_getElem (by omega)
    grind
  have hx:x=x':=by cases x; cases x'; simp_all
  subst hx
  obtain⟨a1,a2,a3⟩:=ft h1
  obtain⟨b1,b2,b3⟩:=ft h1'
  grind [List.getElem?_inj]
end Go.Proofs.YtjlckgeecihpbaaGreatDoor
namespace Go.Proofs.YtjlckgeecihpbaaGreatDoor
open Go.AM Go.Proofs
structure Num (num:Int->List Int):Prop where
 inj:∀ x y,0<=x->x < 1152921504606846976->0<=y->y < 1152921504606846976->num x=num y->x=y
 dig:∀ x,0<=x->x < 1152921504606846976->∀ b∈num x,33<=b/\b < 256
 len:∀ x,0<=x->x < 1152921504606846976->(num x).length<=20
 ap:∀ dst x,0<=x->x < 1152921504606846976->dst.length<=4000000000->dj dst x 10=some (dst++num x)
 ap0:∀ x,0<=x->x < 1152921504606846976->dU x 10=some (num x)
def Nm (x:Int):Prop:=0<=x/\x < 1152921504606846976
def keyB (num:Int->List Int) (level:Int) (next:List Int):List Int:=num level++next.flatMap fun x=>32::num x
theorem split32:∀ {a a' b b':List Int},(∀ x∈a,x≠32)->(∀ x∈a',x≠32)->(b=[] \/ ∃ c,b=32::c)->(b'=[] \/ ∃ c,b'=32::c)->a++b=a'++b'->a=a'/\b=b'
 | [],[],b,b',_,_,_,_,h=>⟨rfl,h⟩
 | [],y::a',b,b',_,h2,h3,_,h=>by
  simp_all
 | x::a,[],b,b',h1,_,_,h4,h=>by
  grind
 | x::a,y::a',b,b',h1,h2,h3,h4,h=>by
  simp only[List.cons_append,List.cons.injEq] at h
  obtain⟨e1,e2⟩:=split32 (fun z hz=>h1 z (by simp[hz])) (fun z hz=>h2 z (by simp[hz])) h3 h4 h.2
  simp_all
section
variable {num:Int->List Int} (hN:Num num)
include hN
theorem Num.ne {x:Int} (hx:Nm x):∀ b∈num x,b≠32:=fun b hb=>by have:=hN.dig x hx.1 hx.2 b hb; omega
omit hN in
theorem flat_head (l:List Int):(l.flatMap fun x=>32::num x)=[] \/ ∃ c,(l.flatMap fun x=>32::num x)=32::c:=by
 cases l with
 | nil=>exact .inl rfl
 | cons x l=>exact .inr ⟨_,by rw[List.flatMap_cons]; rfl⟩
theorem flat_inj:∀ {l m:List Int},(∀ x∈l,Nm x)->(∀ x∈m,Nm x)->(l.flatMap fun x=>32::num x)=(m.flatMap fun x=>32::num x)->l=m
 | [],[],_,_,_=>rfl
 | [],y::m,_,_,h=>by simp at h
 | x::l,[],_,_,h=>by simp at h
 | x::l,y::m,h1,h2,h=>by
  simp only[List.flatMap_cons,List.cons_append,List.cons.injEq,true_and] at h
  obtain⟨e1,e2⟩:=split32 (Num.ne hN (h1 x (by simp))) (Num.ne hN (h2 y (by simp))) (flat_head l) (flat_head m) h
  rw[hN.inj x y (h1 x (by simp)).1 (h1 x (by simp)).2 (h2 y (by simp)).1 (h2 y (by simp)).2 e1,flat_inj (fun z hz=>h1 z (by simp[hz])) (fun z hz=>h2 z (by simp[hz])) e2]
theorem key_inj {a b:Int} {l m:List Int} (ha:Nm a) (hb:Nm b) (hl:∀ x∈l,Nm x) (hm:∀ x∈m,Nm x) (h:keyB num a l=keyB num b m):a=b/\l=m:=by
 obtain⟨e1,e2⟩:=split32 (Num.ne hN ha) (Num.ne hN hb) (flat_head l) (flat_head m) h
 exact⟨hN.inj a b ha.1 ha.2 hb.1 hb.2 e1,flat_inj hN hl hm e2⟩
theorem key_dig {a:Int} {l:List Int} (ha:Nm a) (hl:∀ x∈l,Nm x):∀ b∈keyB num a l,0<=b/\b < 256:=by
 intro b hb
 rcases List.mem_append.1 hb with hb | hb
 ·have:=hN.dig a ha.1 ha.2 b hb; omega
 ·obtain⟨x,hx,hb⟩:=List.mem_flatMap.1 hb
  rcases List.mem_cons.1 hb with rfl | hb
  ·omega
  ·have:=hN.dig x (hl x hx).1 (hl x hx).2 b hb; omega
theorem key_len {a:Int} {l:List Int} (ha:Nm a) (hl:∀ x∈l,Nm x):(keyB num a l).length<=20+21*l.length:=by
 have h1:=hN.len a ha.1 ha.2
 have h2:∀ {l:List Int},(∀ x∈l,Nm x)->(l.flatMap fun x=>32::num x).length<=21*l.length:=fun{l}=>by
  induction l with
  | nil=>intro _; simp
  | cons x l ih =>
   intro h
   have:=ih fun z hz=>h z (by simp[hz])
   have:=hN.len x (h x (by simp)).1 (h x (by simp)).2
   grind
 grind [keyB]
omit hN in
theorem ofBytes_inj:∀ {l m:List Int},(∀ b∈l,0<=b/\b < 256)->(∀ b∈m,0<=b/\b < 256)->ofBytes l=ofBytes m->l=m
 | [],[],_,_,_=>rfl
 | [],y::m,_,_,h=>by simp[ofBytes] at h
 | x::l,[],_,_,h=>by simp[ofBytes] at h
 | x::l,y::m,h1,h2,h=>by
  unfold ofBytes at h
  simp only[List.map_cons,List.cons.injEq] at h
  have hx:=h1 x (by simp)
  have hy:=h2 y (by simp)
  have e:x=y:=by
   have:=congrArg UInt8.toNat h.1
   simp only[UInt8.toNat_ofNat'] at this
   omega
  rw[e,ofBytes_inj (fun z hz=>h1 z (by simp[hz])) (fun z hz=>h2 z (by simp[hz])) h.2]
theorem key_loop (b:List Int->Int×List Int->Option (Lp (Int×List Int) (List Int)))
  (hb:∀ next stt,b next stt=(match stt with
   | (a,keyv) =>
    (bif (ltB a (b8 next)) then
     (idx next a).bind fun x =>
     (eT 1 keyv [32]).bind fun _ =>
     (dj (keyv++[32]) x 10).bind fun y1 =>
     some (.next ((bo .i64 a 1),y1))
    else
     some (.out keyv))))
  {next:List Int} (hn:∀ x∈next,Nm x) (hl:next.length<=1000000) {k0:List Int} (hk:k0.length<=20):ba (b next) bp (0,k0)=some (k0++next.flatMap fun x=>32::num x):=by
 have hlen:∀ i,(k0++(next.take i).flatMap fun x=>32::num x).length<=20+21*i:=fun i=>by
  have h2:∀ {l:List Int},(∀ x∈l,Nm x)->(l.flatMap fun x=>32::num x).length<=21*l.length:=fun{l}=>by
   induction l with
   | nil=>intro _; simp
   | cons x l ih =>
    intro h
    have:=ih fun z hz=>h z (by simp[hz])
    have:=hN.len x (h x (by simp)).1 (h x (by simp)).2
    grind
  grind [List.length_take_le]
 obtain⟨t,ht,rfl⟩:=bX (b:=b next) (n:=next.length) (s:=(0,k0)) (fun i s=>s=((i:Int),k0++(next.take i).flatMap fun x=>32::num x)) (fun t=>t=k0++next.flatMap fun x=>32::num x) (by omega)
  (by simp)
  (fun i s hi h1=>by
   subst h1
   have hx:next[i]?=some next[i]:=List.getElem?_eq_getElem hi
   have hx':=hn next[i] (List.getElem_mem hi)
   have hli:=hlen i
   refine .inl ⟨_,?_,rfl⟩
   rw[hb]
   dsimp only
   rw[bh,decide_eq_true hi,cond_true,bl,hx,bJ (by omega)]
   simp only[aX]
   rw[show eT 1 (k0++(next.take i).flatMap fun x=>32::num x) [32]=some _ from if_pos ⟨by decide,by grind⟩]
   simp only[aX]
   rw[hN.ap _ _ hx'.1 hx'.2 (by grind)]
   grind [List.take_add_one])
  (fun s h1=>by
   subst h1
   refine⟨_,?_,rfl⟩
   simp_all [bh])
 exact ht
end
structure Kn (num:Int->List Int) (mp:List (List UInt8×Int)) (nodes:List Node):Prop where
 get:∀ level next,Nm level->(∀ x∈next,Nm x)->kX mp (ofBytes (keyB num level next))=if (⟨level,next⟩:Node)∈nodes then some ((nodes.idxOf (⟨level,next⟩:Node):Nat):Int) else none
 nd:nodes.Nodup
theorem Kn.nil (num:Int->List Int):Kn num [] []:=⟨fun _ _ _ _=>by simp[kX],List.nodup_nil⟩
def addN (nodes:List Node) (x:Node):List Node:=if x∈nodes then nodes else nodes++[x]
theorem addN_mem (nodes:List Node) (x:Node):x∈addN nodes x:=by
 grind [addN]
theorem addN_pre (nodes:List Node) (x:Node):∃ ws,addN nodes x=nodes++ws:=by
 unfold addN
 split
 ·simp
 simp
theorem addN_len (nodes:List Node) (x:Node):(addN nodes x).length<=nodes.length+1:=by
 grind [addN]
theorem mgetD_some {κ ν:Type} [DecidableEq κ] {m:List (κ×ν)} {k:κ} {v z:ν} (h:kX m k=some v):mgetD m k z=v:=by unfold mgetD; rw[h]; rfl
theorem node_is {num:Int->List Int} (hN:Num num) {mp:List (List UInt8×Int)} {nodes:List Node} (hK:Kn num mp nodes) {level:Int} {next:List Int} (hl:Nm level) (hn:∀ x∈next,Nm x) (hlen:next.length<=1000000) (hnl:nodes.length<=1099511627776) :
  ∃ mp',cA nodes mp level next=some ((((addN nodes ⟨level,next⟩).idxOf (⟨level,next⟩:Node):Nat):Int),mp',addN nodes ⟨level,next⟩)/\Kn num mp' (addN nodes ⟨level,next⟩):=by
 unfold cA
 rw[hN.ap0 _ hl.1 hl.2]
 simp only[aX]
 rw[key_loop hN (dQ nodes mp level) (fun next stt=>by rfl) hn (by omega) (hN.len _ hl.1 hl.2)]
 simp only[aX]
 have hke:num level++(next.flatMap fun x=>32::num x)=keyB num level next:=rfl
 rw[hke]
 have hkl:=key_len hN hl hn
 rw[show kckS (ofBytes (keyB num level next))=some () from if_pos (by unfold ofBytes; rw[List.length_map]; unfold maxLen; omega)]
 simp only[aX]
 have hg:=hK.get level next hl hn
 unfold addN
 by_cases hm:(⟨level,next⟩:Node)∈nodes
 ·rw[if_pos hm] at hg
  rw[if_pos hm]
  have:lP mp (ofBytes (keyB num level next))=true:=by unfold lP; rw[hg]; rfl
  rw[this,cond_true,mgetD_some hg]
  simp_all
 ·rw[if_neg hm] at hg
  rw[if_neg hm]
  have:lP mp (ofBytes (keyB num level next))=false:=by unfold lP; rw[hg]; rfl
  rw[this,cond_false,show eT 32 nodes [(⟨level,next⟩:Node)]=some _ from if_pos ⟨by decide,by grind⟩]
  simp only[aX]
  have hi:bL .i64 ((b8 nodes)+1) 1=(nodes.length:Int):=by
   grind [bL,b8,i64_in]
  have hx:(nodes++[(⟨level,next⟩:Node)]).idxOf (⟨level,next⟩:Node)=nodes.length:=by
   grind
  rw[hi,hx]
  refine⟨_,rfl,fun level' next' hl' hn'=>?_,?_⟩
  ·rw[mget_mset]
   by_cases he:(⟨level,next⟩:Node)=⟨level',next'⟩
   ·simp_all
   ·have hk:ofBytes (keyB num level next)≠ofBytes (keyB num level' next'):=fun e=>he (by
     obtain⟨e1,e2⟩:=key_inj hN hl hl' hn hn' (ofBytes_inj (key_dig hN hl hn) (key_dig hN hl' hn') e)
     rw[e1,e2])
    rw[if_neg hk,hK.get level' next' hl' hn']
    grind
  ·rw[List.nodup_append]
   exact⟨hK.nd,by simp,fun a ha b hb e=>hm (by simp_all)⟩
theorem rep_new {l:List Node} {L:Nat} {x:Node} {u:DD (L+1)} {k:Int} (hk:idx l k=some x) (hx:x.Level=(L:Int)+1) (hl:x.Next.length=u.kids.length) (h:∀ (s:Nat) k' d,x.Next[s]?=some k'->u.kids[s]?=some d->Rep l L k' d):Rep l (L+1) k u:=⟨x,hk,hx,hl,h⟩
theorem idx_idxOf {l:List Node} {x:Node} (h:x∈l):idx l ((l.idxOf x:Nat):Int)=some x:=by
 simp_all [List.idxOf_lt_length_iff,bl]
theorem Good.add {n:Nat} {l:List Node} (h:Good n l) {x:Node} (h1:1<=x.Level) (h2:x.Next.length=n) (h3:1 < x.Level->∀ k∈x.Next,0<=k/\∃ y,idx l k=some y/\y.Level=x.Level - 1) (h4:x.Level=1->∀ k∈x.Next,0<=k/\k < n):Good n (addN l x):=by
 unfold addN
 split
 ·exact h
 ·have key:∀ (i:Nat) y,(l++[x])[i]?=some y->l[i]?=some y \/ (i=l.length/\y=x):=fun i y hy=>by
   grind
  have up:∀ (k:Nat) y,l[k]?=some y->(l++[x])[k]?=some y:=fun k y hy=>by
   grind
  refine⟨fun i y hy=>?_,fun i y hy=>?_,fun i y hy hl k hk=>?_,fun i y hy hl k hk=>?_⟩
  ·rcases key i y hy with hy | ⟨_,rfl⟩
   ·exact h.lev i y hy
   ·exact h1
  ·rcases key i y hy with hy | ⟨_,rfl⟩
   ·exact h.len i y hy
   ·exact h2
  ·rcases key i y hy with hy | ⟨rfl,rfl⟩
   ·obtain⟨a,b,z,hz,e⟩:=h.kid i y hy hl k hk
    simp_all
   ·obtain⟨a,z,hz,e⟩:=h3 hl k hk
    simp_all [ft]
  ·rcases key i y hy with hy | ⟨_,rfl⟩
   ·exact h.st i y hy hl k hk
   grind
end Go.Proofs.YtjlckgeecihpbaaGreatDoor
namespace Go.Proofs.YtjlckgeecihpbaaGreatDoor
open Go.AM Go.Proofs
theorem nodup_lt:∀ (N:Nat) (l:List Nat),l.Nodup->(∀ x∈l,x < N)->l.length<=N
 | 0,[],_,_=>Nat.le_refl _
 | 0,x::l,_,h=>absurd (h x (by simp)) (by omega)
 | N+1,l,hd,h=>by
  by_cases hm:N∈l
  ·have h1:=nodup_lt N (l.erase N) (hd.erase N) fun x hx=>by
    grind
   simp_all
  ·have:=nodup_lt N l hd fun x hx=>by
    grind
   omega
theorem len_le {α:Type} {R:Nat->α->Prop} {N:Nat} {us:List α} (hd:us.Nodup) (h:∀ x∈us,∃ k,k < N/\R k x) (hf:∀ k x y,R k x->R k y->x=y):us.length<=N:=by
 obtain⟨ks,h1,h2⟩:=choose_list (l:=us) (R:=fun x k=>k < N/\R k x) h
 rw[h1]
 refine nodup_lt N ks ?_ fun k hk=>?_
 ·rw[List.nodup_iff_pairwise_ne,List.pairwise_iff_getElem]
  intro i j hi hj hij e
  have a:=h2 i us[i] ks[i] (List.getElem?_eq_getElem (by omega)) (List.getElem?_eq_getElem hi)
  have b:=h2 j us[j] ks[j] (List.getElem?_eq_getElem (by omega)) (List.getElem?_eq_getElem hj)
  rw[e] at a
  have:=hf _ _ _ a.2 b.2
  have:=(List.getElem?_inj (by omega) hd).1 ((List.getElem?_eq_getElem (l:=us) (i:=i) (by omega)).trans ((congrArg some this).trans (List.getElem?_eq_getElem (l:=us) (i:=j) (by omega)).symm))
  omega
 ·obtain⟨i,hi⟩:=List.mem_iff_getElem?.1 hk
  have hlt:=(List.getElem?_eq_some_iff.1 hi).1
  exact (h2 i (us[i]'(by omega)) k (List.getElem?_eq_getElem _) hi).1
def half {α:Type} (g:α->α) (y:List α) (i:Nat):List α:=(y.take i).map g++y.drop i
theorem half_get {α:Type} (g:α->α) {y:List α} {i:Nat} (hi:i < y.length):(half g y i)[i]?=y[i]?:=by
 unfold half
 grind
theorem half_set {α:Type} (g:α->α) {y:List α} {i:Nat} (hi:i < y.length):(half g y i).set i (g y[i])=half g y (i+1):=by
 unfold half
 have e:y.drop i=y[i]::y.drop (i+1):=List.drop_eq_getElem_cons hi
 have e2:y.take (i+1)=y.take i++[y[i]]:=by simp
 rw[e,e2,List.set_append_right _ _ (by simp; omega)]
 simp only[List.length_map,List.length_take,Nat.min_eq_left (Nat.le_of_lt hi),Nat.sub_self,List.set_cons_zero,List.map_append,List.map_cons,List.map_nil,List.append_assoc,List.cons_append,List.nil_append]
theorem half_zero {α:Type} (g:α->α) (y:List α):half g y 0=y:=by simp[half]
theorem half_len {α:Type} (g:α->α) (y:List α):half g y y.length=y.map g:=by simp[half]
theorem clone_is {l:List Int} (h:l.length<=1000000):ch l=some l:=by
 unfold ch
 exact if_pos ⟨by decide,by grind⟩
structure WI (nodes:List Node) (done:List Int) (us:List ND):Prop where
 len:done.length=nodes.length
 val:∀ L k (u:DD (L+1)),Rep nodes (L+1) k u->idx done k=some (if (⟨L,u⟩:ND)∈us then ((us.idxOf (⟨L,u⟩:ND):Nat):Int)+1 else 0)
 clo:Clo us
 nd:us.Nodup
 rep:∀ x∈us,∃ k,Rep nodes (x.1+1) k x.2
theorem Rep.lev {l:List Node} {L L':Nat} {k:Int} {u:DD (L+1)} {u':DD (L'+1)} (h:Rep l (L+1) k u) (h':Rep l (L'+1) k u'):(⟨L,u⟩:ND)=⟨L',u'⟩:=by
 obtain⟨x,h1,h2,_⟩:=id h
 obtain⟨x',h1',h2',_⟩:=id h'
 obtain rfl:=Option.some.inj (h1.symm.trans h1')
 have:L=L':=by omega
 subst this
 rw[h.det h']
theorem WI.le {nodes:List Node} {done:List Int} {us:List ND} (h:WI nodes done us):us.length<=nodes.length :=
 len_le (R:=fun k (x:ND)=>Rep nodes (x.1+1) (k:Nat) x.2) h.nd (fun x hx=>by
  obtain⟨k,hk⟩:=h.rep x hx
  obtain⟨y,h1,_⟩:=id hk
  obtain⟨a,b,_⟩:=ft h1
  grind) fun k x y hx hy=>hx.lev hy
theorem idx_set {l:List Int} {k k' v:Int} (hk:0<=k) (hl:k < l.length) (hk':0<=k'):idx (l.set k.toNat v) k'=if k=k' then some v else idx l k':=by
 rw[gx _ hk',gx _ hk',List.getElem?_set]
 grind
theorem WI.snoc {nodes:List Node} {done:List Int} {us:List ND} (h:WI nodes done us) (hD:Dst nodes) {L:Nat} {k:Int} {u:DD (L+1)} (hr:Rep nodes (L+1) k u) (hn:(⟨L,u⟩:ND) ∉ us)
  (hkid:∀ K w,(⟨L,u⟩:ND)=⟨K+1,w⟩->∀ d∈w.kids,(⟨K,d⟩:ND)∈us):WI nodes (done.set k.toNat ((us.length:Int)+1)) (us++[⟨L,u⟩]):=by
 obtain⟨x,h1,_⟩:=id hr
 obtain⟨k0,k1,_⟩:=ft h1
 refine⟨by rw[List.length_set]; exact h.len,fun L' k' u' hr'=>?_,h.clo.snoc hn hkid,?_,fun y hy=>?_⟩
 ·obtain⟨x',h1',_⟩:=id hr'
  obtain⟨k0',k1',_⟩:=ft h1'
  rw[idx_set k0 (by rw[h.len]; exact k1) k0']
  by_cases he:k=k'
  ·subst he
   have e:=hr.lev hr'
   grind
  ·rw[if_neg he,h.val L' k' u' hr']
   have hne:(⟨L',u'⟩:ND)≠⟨L,u⟩:=fun e=>he (by
    cases e
    exact hD L k k' u hr hr')
   grind
 ·rw[List.nodup_append]
  exact⟨h.nd,by simp,fun a ha b hb e=>hn (by simp_all)⟩
 ·rcases List.mem_append.1 hy with hy | hy
  ·exact h.rep y hy
  grind
section
variable {n:Nat} {nodes:List Node} (hG:Good n nodes) (hD:Dst nodes) (hlen:nodes.length<=1099511627776) (hn:n<=1000000) (z:Int->List Int->List Node->List Node->Option (Int×List Int×List Node))
include hG hD hlen hn
theorem walk_is:∀ (L:Nat) (m:Nat) (k:Int) (u:DD (L+1)) (us:List ND) (done:List Int),L < m->Rep nodes (L+1) k u->WI nodes done us ->
  ∃ done',recN bV z m k done nodes (ser us)=some ((((post (L+1) u us).idxOf (⟨L,u⟩:ND):Nat):Int),done',ser (post (L+1) u us))/\WI nodes done' (post (L+1) u us):=by
 intro L
 induction L with
 | zero =>
  intro m k u us done hm hr hW
  obtain⟨m,rfl⟩:∃ j,m=j+1:=⟨m - 1,by omega⟩
  obtain⟨x,h1,h2,h3,h4⟩:=id hr
  obtain⟨k0,k1,k2⟩:=ft h1
  rw[recN]
  obtain⟨F,hF⟩:∃ F,F=recN bV z m:=⟨_,rfl⟩
  rw[<- hF]
  unfold bV
  rw[hW.val 0 k u hr]
  simp only[aX]
  unfold post
  by_cases hmem:(⟨0,u⟩:ND)∈us
  ·rw[if_pos hmem,if_pos hmem,show gtB (((us.idxOf (⟨0,u⟩:ND):Nat):Int)+1) 0=true from decide_eq_true (by omega),cond_true]
   refine⟨done,?_,hW⟩
   have hle:=hW.le
   grind [bL,i64_in]
  ·rw[if_neg hmem,if_neg hmem,show gtB 0 0=false from rfl,cond_false,h1]
   have hxl:=hG.len k.toNat x k2
   simp only[aX]
   rw[clone_is (by omega)]
   simp only[aX]
   have hxn:x.Next=(show List Int from u.kids):=by
    apply List.ext_getElem?
    intro s
    cases hs:x.Next[s]? with
    | none=>exact (List.getElem?_eq_none (by have:=List.getElem?_eq_none_iff.1 hs; exact h3 ▸ this)).symm
    | some a =>
     have hlt:=(List.getElem?_eq_some_iff.1 hs).1
     have e2:u.kids[s]?=some (u.kids[s]'(by omega)):=List.getElem?_eq_getElem (by omega)
     have e3:a=u.kids[s]'(by omega):=h4 s a _ hs e2
     rw[e3]
     exact e2.symm
   have hfold:u.kids.foldl (fun s d=>post 0 d s) us=us:=by
    have:∀ (l:List (DD 0)) (us:List ND),l.foldl (fun s d=>post 0 d s) us=us:=fun l=>by
     induction l with
     | nil=>intro us; rfl
     | cons d l ih=>intro us; rw[List.foldl_cons]; exact ih us
    exact this _ us
   obtain⟨t,ht,rfl⟩:=bX (b:=bP F k nodes x x.Next) (n:=x.Next.length) (s:=(0,x.Next,ser us,done)) (fun i s=>s=((i:Int),x.Next,ser us,done)) (fun t=>t=(x.Next,ser us,done)) (by omega) rfl
    (fun i s hi h=>by
     subst h
     refine .inl ⟨_,?_,rfl⟩
     unfold bP
     dsimp only
     rw[bh,decide_eq_true hi,cond_true,bl,List.getElem?_eq_getElem hi,bJ (by omega)]
     simp_all [gtB])
    (fun s h=>by
     subst h
     refine⟨_,?_,rfl⟩
     simp[bP,bh])
   rw[ht,hfold]
   have hle:=hW.le
   have hsl:(ser us).length=us.length:=by unfold ser; simp
   have hkid:∀ K w,(⟨0,u⟩:ND)=⟨K+1,w⟩->∀ d∈w.kids,(⟨K,d⟩:ND)∈us:=fun K w e=>by cases e
   simp only[aX]
   rw[show eT 32 (ser us) [(⟨x.Level,x.Next⟩:Node)]=some _ from if_pos ⟨by decide,by grind⟩]
   simp only[aX]
   rw[hW.val 0 k u hr]
   simp only[aX]
   refine⟨done.set k.toNat ((us.length:Int)+1),?_,hW.snoc hD hr hmem hkid⟩
   rw[ser_snoc hW.clo hkid,List.idxOf_append,if_neg hmem]
   have e1:bL .i64 (b8 (ser us)+1) 1=(us.length:Int):=by
    grind [bL,b8,i64_in]
   simp_all [fK,b8]
 | succ L ih =>
  intro m k u us done hm hr hW
  obtain⟨m,rfl⟩:∃ j,m=j+1:=⟨m - 1,by omega⟩
  obtain⟨x,h1,h2,h3,h4⟩:=id hr
  obtain⟨k0,k1,k2⟩:=ft h1
  rw[recN]
  obtain⟨F,hF⟩:∃ F,F=recN bV z m:=⟨_,rfl⟩
  rw[<- hF]
  unfold bV
  rw[hW.val (L+1) k u hr]
  simp only[aX]
  unfold post
  by_cases hmem:(⟨L+1,u⟩:ND)∈us
  ·rw[if_pos hmem,if_pos hmem,show gtB (((us.idxOf (⟨L+1,u⟩:ND):Nat):Int)+1) 0=true from decide_eq_true (by omega),cond_true]
   refine⟨done,?_,hW⟩
   have hle:=hW.le
   grind [bL,i64_in]
  ·rw[if_neg hmem,if_neg hmem,show gtB 0 0=false from rfl,cond_false,h1]
   have hxl:=hG.len k.toNat x k2
   simp only[aX]
   rw[clone_is (by omega)]
   simp only[aX]
   let U:Nat->List ND:=fun i=>(u.kids.take i).foldl (fun s d=>post (L+1) d s) us
   have hU:∀ i,i < u.kids.length->∀ d,u.kids[i]?=some d->U (i+1)=post (L+1) d (U i):=fun i _ d hd=>by
    grind [List.take_add_one]
   obtain⟨t,ht,lst,dn,rfl,hl,hWn⟩:=bX (b:=bP F k nodes x x.Next) (n:=x.Next.length) (s:=(0,x.Next,ser us,done))
    (fun i s=>∃ lst dn,s=((i:Int),lst,ser (U i),dn)/\lst=(u.kids.take i).map (fun d=>(((U i).idxOf (⟨L,d⟩:ND):Nat):Int))++x.Next.drop i/\WI nodes dn (U i))
    (fun t=>∃ lst dn,t=(lst,ser (U u.kids.length),dn)/\lst=u.kids.map (fun d=>(((U u.kids.length).idxOf (⟨L,d⟩:ND):Nat):Int))/\WI nodes dn (U u.kids.length)) (by omega) ⟨x.Next,done,rfl,by simp,hW⟩
    (fun i s hi ⟨lst,dn,h,hls,hWi⟩=>by
     subst h
     have hik:i < u.kids.length:=by omega
     have ed:u.kids[i]?=some u.kids[i]:=List.getElem?_eq_getElem hik
     have ex:x.Next[i]?=some x.Next[i]:=List.getElem?_eq_getElem hi
     have hrk:=h4 i _ _ ex ed
     obtain⟨dn',hc,hW'⟩:=ih m x.Next[i] u.kids[i] (U i) dn (by omega) hrk hWi
     rw[<- hF] at hc
     rw[<- hU i hik _ ed] at hc hW'
     obtain⟨hE,hI⟩:=post_wk (L+1) u.kids[i] (U i)
     rw[<- hU i hik _ ed] at hE hI
     have hmem':∀ d∈u.kids.take i,(⟨L,d⟩:ND)∈U i:=(foldl_wk (L:=L+1) (u.kids.take i) us fun d _ s=>post_wk (L+1) d s).2
     have hll:((u.kids.take i).map (fun d=>(((U i).idxOf (⟨L,d⟩:ND):Nat):Int))).length=i:=by grind
     have hget:lst[i]?=some x.Next[i]:=by
      simp_all [List.getElem?_append_right]
     refine .inl ⟨_,?_,lst.set i (((U (i+1)).idxOf (⟨L,u.kids[i]⟩:ND):Nat):Int),dn',rfl,?_,hW'⟩
     ·unfold bP
      dsimp only
      rw[bh,decide_eq_true hi,cond_true,bl,hget,bJ (by omega)]
      simp only[aX]
      rw[show gtB x.Level 1=true from decide_eq_true (by omega),cond_true,hc]
      rfl
     ·rw[hls,List.set_append_right _ _ (by omega),hll,Nat.sub_self,List.drop_eq_getElem_cons hi,List.set_cons_zero,List.take_add_one,ed]
      simp only[Option.toList_some,List.map_append,List.map_cons,List.map_nil,List.append_assoc,List.cons_append,List.nil_append]
      congr 1
      apply List.map_congr_left
      intro d hd
      rw[hE.ext.idx (hmem' d hd)])
    (fun s ⟨lst,dn,h,hls,hWi⟩=>by
     subst h
     rw[h3] at hls hWi
     refine⟨_,?_,lst,dn,rfl,?_,hWi⟩
     ·simp_all [bP,bh]
     simp_all)
   rw[ht]
   have hUn:U u.kids.length=u.kids.foldl (fun s d=>post (L+1) d s) us:=by grind
   rw[hUn] at hWn hl ⊢
   obtain⟨hE,hI⟩:=foldl_wk (L:=L+1) u.kids us fun d _ s=>post_wk (L+1) d s
   have hmem2:(⟨L+1,u⟩:ND) ∉ u.kids.foldl (fun s d=>post (L+1) d s) us:=fun h=>(hE.low _ h).elim hmem fun h=>absurd h (Nat.lt_irrefl _)
   have hkid:∀ K w,(⟨L+1,u⟩:ND)=⟨K+1,w⟩->∀ d∈w.kids,(⟨K,d⟩:ND)∈u.kids.foldl (fun s d=>post (L+1) d s) us:=fun K w e d hd=>by
    cases e
    exact hI d hd
   generalize u.kids.foldl (fun s d=>post (L+1) d s) us=V at hWn hl hmem2 hkid hE hI ⊢
   have hle:=hWn.le
   have hsl:(ser V).length=V.length:=by unfold ser; simp
   simp only[aX]
   rw[show eT 32 (ser V) [(⟨x.Level,lst⟩:Node)]=some _ from if_pos ⟨by decide,by grind⟩]
   simp only[aX]
   rw[hWn.val (L+1) k u hr]
   simp only[aX]
   refine⟨dn.set k.toNat ((V.length:Int)+1),?_,hWn.snoc hD hr hmem2 hkid⟩
   rw[ser_snoc hWn.clo hkid,List.idxOf_append,if_neg hmem2]
   grind [bL,b8,i64_in,fK]
end
end Go.Proofs.YtjlckgeecihpbaaGreatDoor
namespace Go.Proofs.YtjlckgeecihpbaaGreatDoor
open Go.AM Go.Proofs
theorem WI.init (nodes:List Node):WI nodes (List.replicate nodes.length 0) []:=by
 refine⟨by simp,fun L k u hr=>?_,fun L u h=>(by cases h),List.nodup_nil,fun x h=>by cases h⟩
 obtain⟨x,h1,_⟩:=id hr
 obtain⟨k0,k1,_⟩:=ft h1
 simp_all [gx]
theorem ordered_is {n:Nat} {nodes:List Node} (hG:Good n nodes) (hd:nodes.Nodup) (hlen:nodes.length<=1099511627776) (hn:n<=1000000) {L:Nat} {k:Int} {u:DD (L+1)} (hL:L < 1000000) (hr:Rep nodes (L+1) k u) :
  fV nodes k=some (ser (post (L+1) u [])):=by
 unfold fV mkL
 rw[if_pos (by unfold b8; omega)]
 simp only[aX]
 have hrep:List.replicate (b8 nodes).toNat (0:Int)=List.replicate nodes.length 0:=by rfl
 obtain⟨done',h,_⟩:=walk_is hG (dst_of hd) hlen hn (fun _ _ _ _=>none) L recF k u [] (List.replicate nodes.length 0) (by unfold recF; omega) hr (WI.init nodes)
 rw[hrep]
 unfold ge
 have h':recN bV (fun _ _ _ _=>none) recF k (List.replicate nodes.length 0) nodes []=_:=h
 rw[h']
 rfl
structure RI (num:Int->List Int) (n:Nat) (src:List Node) (i:Nat) (mp:List (List UInt8×Int)) (l:List Node) (to_:List Int):Prop where
 tl:to_.length=i
 kn:Kn num mp l
 gd:Good n l
 ll:l.length<=i
 mp:∀ L (j:Nat) (u:DD (L+1)),j < i->Rep src (L+1) j u->∃ k,to_[j]?=some k/\Rep l (L+1) k u
theorem Rep.rng {l:List Node} {L:Nat} {k:Int} {u:DD (L+1)} (h:Rep l (L+1) k u):0<=k/\k < l.length/\∃ x,idx l k=some x/\x.Level=(L:Int)+1:=by
 obtain⟨x,h1,h2,_⟩:=h
 obtain⟨a,b,_⟩:=ft h1
 simp_all
structure Szd (n:Nat) (l:List Node):Prop where
 good:Good n l
 lev:∀ x∈l,x.Level < 1000000
 len:l.length<=4294967296
 n6:n<=1000000
theorem inner_is (t:Tree) (a:Int) (mp:List (List UInt8×Int)) (l:List Node) (to_:List Int) (x:Node) (hl:x.Next.length<=1000000) (h:1 < x.Level->∀ k∈x.Next,∃ v,idx to_ k=some v) :
  ba (bu t a mp l to_ x x.Next) bp (0,x.Next)=some (if 1 < x.Level then x.Next.map fun k=>(idx to_ k).getD 0 else x.Next):=by
 by_cases hL:1 < x.Level
 ·rw[if_pos hL]
  obtain⟨r,hr,rfl⟩:=bX (b:=bu t a mp l to_ x x.Next) (n:=x.Next.length) (s:=(0,x.Next)) (fun i s=>s=((i:Int),half (fun k=>(idx to_ k).getD 0) x.Next i)) (fun r=>r=x.Next.map fun k=>(idx to_ k).getD 0) (by omega) (by rfl)
   (fun i s hi e=>by
    subst e
    obtain⟨v,hv⟩:=h hL x.Next[i] (List.getElem_mem hi)
    refine .inl ⟨_,?_,rfl⟩
    unfold bu
    dsimp only
    rw[bh,decide_eq_true hi,cond_true,bl,half_get _ hi,List.getElem?_eq_getElem hi,bJ (by omega)]
    simp only[aX]
    rw[show gtB x.Level 1=true from decide_eq_true (by omega),cond_true,hv]
    simp only[aX]
    grind [half_set])
   (fun s e=>by
    subst e
    refine⟨_,?_,rfl⟩
    simp[bu,bh,half_len])
  exact hr
 ·rw[if_neg hL]
  obtain⟨r,hr,rfl⟩:=bX (b:=bu t a mp l to_ x x.Next) (n:=x.Next.length) (s:=(0,x.Next)) (fun i s=>s=((i:Int),x.Next)) (fun r=>r=x.Next) (by omega) rfl
   (fun i s hi e=>by
    subst e
    refine .inl ⟨_,?_,rfl⟩
    unfold bu
    dsimp only
    rw[bh,decide_eq_true hi,cond_true,bl,List.getElem?_eq_getElem hi,bJ (by omega)]
    simp_all [gtB,decide_eq_false])
   (fun s e=>by
    subst e
    refine⟨_,?_,rfl⟩
    simp[bu,bh])
  exact hr
theorem addN_rep {l:List Node} {x:Node} {L:Nat} {u:DD (L+1)} (hx:x.Level=(L:Int)+1) (hl:x.Next.length=u.kids.length) (h:∀ (s:Nat) k' d,x.Next[s]?=some k'->u.kids[s]?=some d->Rep l L k' d) :
  Rep (addN l x) (L+1) ((addN l x).idxOf x:Nat) u:=by
 obtain⟨ws,hw⟩:=addN_pre l x
 refine rep_new (idx_idxOf (addN_mem l x)) hx hl fun s k' d h1 h2=>?_
 rw[hw]
 exact (h s k' d h1 h2).app
theorem RI.step {num:Int->List Int} (hN:Num num) {n:Nat} {src:List Node} (hS:Szd n src) {i:Nat} {mp:List (List UInt8×Int)} {l:List Node} {to_:List Int} (h:RI num n src i mp l to_) {x:Node} (hx:src[i]?=some x) :
  ∃ next',(next'=if 1 < x.Level then x.Next.map fun k=>(idx to_ k).getD 0 else x.Next)/\(1 < x.Level->∀ k∈x.Next,∃ v,idx to_ k=some v) /\
   ∃ mp',cA l mp x.Level next'=some ((((addN l ⟨x.Level,next'⟩).idxOf (⟨x.Level,next'⟩:Node):Nat):Int),mp',addN l ⟨x.Level,next'⟩) /\
    RI num n src (i+1) mp' (addN l ⟨x.Level,next'⟩) (to_++[(((addN l ⟨x.Level,next'⟩).idxOf (⟨x.Level,next'⟩:Node):Nat):Int)]):=by
 have hG:=hS.good
 have hlev:=hG.lev i x hx
 have hxlen:=hG.len i x hx
 have hn6:=hS.n6
 have hll:=h.ll
 have hsl:=hS.len
 have hi:=(List.getElem?_eq_some_iff.1 hx).1
 have hlx:=hS.lev x (List.mem_of_getElem? hx)
 obtain⟨L,hL⟩:∃ L:Nat,x.Level=(L:Int)+1:=⟨(x.Level - 1).toNat,by omega⟩
 obtain⟨u,hu,hreg⟩:=hG.rep L i x hx hL
 obtain⟨x0,e0,_,hl0,hk0⟩:=id hu
 rw[bl,hx] at e0
 obtain rfl:=Option.some.inj e0
 have hto:1 < x.Level->∀ (s:Nat) k d,x.Next[s]?=some k->u.kids[s]?=some d->∃ v,idx to_ k=some v/\Rep l L v d:=fun h1 s k d e1 e2=>by
  obtain⟨a,b,_⟩:=hG.kid i x hx h1 k (List.mem_of_getElem? e1)
  cases L with
  | zero=>omega
  | succ L =>
   have hr:=hk0 s k d e1 e2
   rw[show k=((k.toNat:Nat):Int) by omega] at hr
   obtain⟨v,hv,hr'⟩:=h.mp L k.toNat d (by omega) hr
   simp_all [gx]
 have hall:1 < x.Level->∀ k∈x.Next,∃ v,idx to_ k=some v:=fun h1 k hk=>by
  obtain⟨s,hs⟩:=List.mem_iff_getElem?.1 hk
  have hlt:=(List.getElem?_eq_some_iff.1 hs).1
  obtain⟨v,hv,_⟩:=hto h1 s k (u.kids[s]'(by omega)) hs (List.getElem?_eq_getElem _)
  exact⟨v,hv⟩
 obtain⟨next',hnx⟩:∃ next',next'=if 1 < x.Level then x.Next.map fun k=>(idx to_ k).getD 0 else x.Next:=⟨_,rfl⟩
 have hnl:next'.length=x.Next.length:=by grind
 have hkids:∀ (s:Nat) k' d,next'[s]?=some k'->u.kids[s]?=some d->Rep l L k' d:=fun s k' d e1 e2=>by
  rw[hnx] at e1
  by_cases h1:1 < x.Level
  ·grind
  ·rw[if_neg h1] at e1
   have:L=0:=by omega
   subst this
   exact hk0 s k' d e1 e2
 have hnm:∀ k∈next',Nm k/\(x.Level=1->0<=k/\k < n)/\(1 < x.Level->0<=k/\∃ y,idx l k=some y/\y.Level=x.Level - 1):=fun k' hk'=>by
  obtain⟨s,hs⟩:=List.mem_iff_getElem?.1 hk'
  have hlt:=(List.getElem?_eq_some_iff.1 hs).1
  have hr:=hkids s k' (u.kids[s]'(by omega)) hs (List.getElem?_eq_getElem _)
  cases L with
  | zero =>
   rw[hnx,if_neg (by omega)] at hk'
   have:=hG.st i x hx (by omega) k' hk'
   exact⟨⟨this.1,by omega⟩,fun _=>this,fun h1=>by omega⟩
  | succ L =>
   obtain⟨a,b,y,hy,hyl⟩:=hr.rng
   exact⟨⟨a,by omega⟩,fun h1=>by omega,fun _=>⟨a,y,hy,by omega⟩⟩
 obtain⟨mp',hm,hK⟩:=node_is hN h.kn (level:=x.Level) (next:=next') ⟨by omega,by omega⟩ (fun k hk=>(hnm k hk).1) (by omega) (by omega)
 have hgd:=h.gd.add (x:=⟨x.Level,next'⟩) hlev (by simp_all) (fun h1 k hk=>(hnm k hk).2.2 h1) (fun h1 k hk=>(hnm k hk).2.1 h1)
 refine⟨next',hnx,hall,mp',hm,⟨by simp[h.tl],hK,hgd,by grind [addN_len],fun L' j u' hj hr'=>?_⟩⟩
 obtain⟨ws,hw⟩:=addN_pre l ⟨x.Level,next'⟩
 by_cases hji:j < i
 ·obtain⟨k,e1,e2⟩:=h.mp L' j u' hji hr'
  refine⟨k,?_,by rw[hw]; exact e2.app⟩
  grind
 ·have:j=i:=by omega
  subst this
  have e:=hu.lev hr'
  cases e
  refine⟨_,?_,addN_rep hL (by grind) hkids⟩
  rw[List.getElem?_append_right (by rw[h.tl]; simp),h.tl,Nat.sub_self]
  rfl
theorem rebuilt_loop {num:Int->List Int} (hN:Num num) {n:Nat} {t:Tree} (hS:Szd n t.Nodes):∃ mp l to_,ba (bS t) bp (0,[],[],[])=some (mp,l,to_)/\RI num n t.Nodes t.Nodes.length mp l to_:=by
 have hsl:=hS.len
 have hn6:=hS.n6
 obtain⟨r,hr,mp,l,to_,rfl,h⟩:=bX (b:=bS t) (n:=t.Nodes.length) (s:=(0,[],[],[])) (fun i s=>∃ mp l to_,s=((i:Int),mp,l,to_)/\RI num n t.Nodes i mp l to_) (fun r=>∃ mp l to_,r=(mp,l,to_)/\RI num n t.Nodes t.Nodes.length mp l to_) (by omega)
  ⟨[],[],[],rfl,rfl,Kn.nil num,⟨fun i x h=>by simp at h,fun i x h=>by simp at h,fun i x h=>by simp at h,fun i x h=>by simp at h⟩,Nat.le_refl _,fun L j u hj=>by omega⟩
  (fun i s hi ⟨mp,l,to_,e,h⟩=>by
   subst e
   have hx:t.Nodes[i]?=some t.Nodes[i]:=List.getElem?_eq_getElem hi
   obtain⟨next',e1,e2,mp',e3,e4⟩:=h.step hN hS hx
   have hxl:=hS.good.len i _ hx
   refine .inl ⟨_,?_,mp',_,_,rfl,e4⟩
   unfold bS
   dsimp only
   rw[bh,decide_eq_true hi,cond_true,bl,hx,bJ (by omega)]
   simp only[aX]
   rw[clone_is (by omega)]
   simp only[aX]
   rw[inner_is t i mp l to_ t.Nodes[i] (by omega) e2,<- e1]
   simp only[aX,jq]
   rw[e3]
   simp only[aX]
   rw[show eT 8 to_ [_]=some _ from if_pos ⟨by decide,by have:=h.tl; grind⟩]
   rfl)
  (fun s ⟨mp,l,to_,e,h⟩=>by
   subst e
   refine⟨_,?_,mp,l,to_,rfl,h⟩
   simp[bS,bh])
 grind
theorem hoodc_is {l:List Point} (h:l.length<=1000000):cg l=some l:=by
 unfold cg
 exact if_pos ⟨by decide,by grind⟩
theorem rebuilt_is {num:Int->List Int} (hN:Num num) {n:Nat} {t:Tree} (hS:Szd n t.Nodes) (hh:t.Hood.length<=1000000) {L i:Nat} {u:DD (L+1)} (hi:i+1=t.Nodes.length) (hr:Rep t.Nodes (L+1) i u) :
  cG t=some ⟨t.States,t.Hood,ser (post (L+1) u [])⟩:=by
 obtain⟨mp,l,to_,hl,h⟩:=rebuilt_loop hN hS
 obtain⟨k,hk,hr'⟩:=h.mp L i u (by omega) hr
 have hsl:=hS.len
 have hll:=h.ll
 obtain⟨x,hx1,hx2,_⟩:=id hr
 rw[bl] at hx1
 have hlv:=hS.lev x (List.mem_of_getElem? hx1)
 have ho:=ordered_is h.gd h.kn.nd (by omega) hS.n6 (L:=L) (by omega) hr'
 have hi':idx to_ (bL .i64 (b8 to_) 1)=some k:=by
  have:bL .i64 (b8 to_) 1=(i:Int):=by
   unfold bL b8
   rw[h.tl,i64_in (by omega)]
   omega
  rw[this,bl,hk]
 simp_all [cG,hoodc_is]
end Go.Proofs.YtjlckgeecihpbaaGreatDoor
