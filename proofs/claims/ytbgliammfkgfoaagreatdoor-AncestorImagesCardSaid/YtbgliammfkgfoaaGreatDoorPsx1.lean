/- Plain laws: patterns, the checks ahead of a step; loops by an invariant. -/
import Derived.Test.YtbgliammfkgfoaaGreatDoorPlx1
import Derived.KernelRfl
namespace Go.Proofs.YtbgliammfkgfoaaGreatDoor
open Go.AM Go.Proofs
theorem imax_is (a b:Int):(gD a b=a \/ gD a b=b)/\a<=gD a b/\b<=gD a b:=by
 unfold gD
 omega
theorem loop_iv_aux {St T:Type} {b:St->Option (Lp St T)} {n:Nat} (I:Nat->St->Prop) (Q:T->Prop)
  (step:∀ i s,i < n->I i s->(∃ s',b s=some (.next s')/\I (i+1) s') \/ (∃ t,b s=some (.out t)/\Q t)) (fin:∀ s,I n s->∃ t,b s=some (.out t)/\Q t) :
  ∀ (k i:Nat) (s:St),i+k=n->I i s->∀ m,k < m->∃ t,bm b m s=some t/\Q t
 | 0,i,s,hi,h,m,hm=>by
  obtain⟨m,rfl⟩:∃ j,m=j+1:=⟨m - 1,by omega⟩
  obtain rfl:i=n:=by omega
  grind [bm]
 | k+1,i,s,hi,h,m,hm=>by
  obtain⟨m,rfl⟩:∃ j,m=j+1:=⟨m - 1,by omega⟩
  rcases step i s (by omega) h with ⟨s',hs,h'⟩ | ⟨t,ht,hq⟩
  ·obtain⟨t,ht,hq⟩:=loop_iv_aux I Q step fin k (i+1) s' (by omega) h' m (by omega)
   simp_all [bm]
  simp_all [bm]
theorem ov {St T:Type} {b:St->Option (Lp St T)} {n:Nat} (I:Nat->St->Prop) (Q:T->Prop) (hn:n < 1099511627776) {s:St} (h0:I 0 s)
  (step:∀ i s,i < n->I i s->(∃ s',b s=some (.next s')/\I (i+1) s') \/ (∃ t,b s=some (.out t)/\Q t)) (fin:∀ s,I n s->∃ t,b s=some (.out t)/\Q t) :
  ∃ t,bm b bI s=some t/\Q t:=loop_iv_aux I Q step fin n 0 s (by omega) h0 bI hn
end Go.Proofs.YtbgliammfkgfoaaGreatDoor
namespace Go.Proofs.YtbgliammfkgfoaaGreatDoor
open Go.AM Go.Proofs
theorem mget_mset {κ ν:Type} [DecidableEq κ] (k:κ) (v:ν):∀ (m:List (κ×ν)) (q:κ),gx (ig m k v) q=if k=q then some v else gx m q
 | [],q=>by simp[ig,gx]
 | x::m,q=>by
  unfold ig
  by_cases hx:x.1=k
  ·rw[if_pos hx]
   by_cases hq:k=q
   ·simp[gx,hq]
   ·simp[gx,hq,hx]
  ·rw[if_neg hx]
   simp only[gx]
   rw[mget_mset k v m q]
   by_cases hq:k=q
   ·subst hq; simp[hx]
   ·simp[hq]
end Go.Proofs.YtbgliammfkgfoaaGreatDoor
namespace Go.Proofs.YtbgliammfkgfoaaGreatDoor
open Go.AM Go.Proofs
def DD:Nat->Type
 | 0=>Int
 | L+1=>List (DD L)
def DD.dec:∀ L,DecidableEq (DD L)
 | 0=>inferInstanceAs (DecidableEq Int)
 | L+1=>@instDecidableEqList _ (DD.dec L)
instance (L:Nat):DecidableEq (DD L):=DD.dec L
def DD.dflt:∀ L,DD L
 | 0=>(0:Int)
 | L+1=>([]:List (DD L))
instance (L:Nat):Inhabited (DD L):=⟨DD.dflt L⟩
def DD.kids {L:Nat} (u:DD (L+1)):List (DD L):=u
def DD.of {L:Nat} (l:List (DD L)):DD (L+1):=l
theorem DD.ext {L:Nat} {u v:DD (L+1)} (h:u.kids=v.kids):u=v:=h
def Rep (l:List Node):(L:Nat)->Int->DD L->Prop
 | 0,k,u=>k=u
 | L+1,k,u=>∃ x,idx l k=some x/\x.Level=(L:Int)+1/\x.Next.length=u.kids.length/\∀ (s:Nat) k' d,x.Next[s]?=some k'->u.kids[s]?=some d->Rep l L k' d
theorem Rep.det {l:List Node}:∀ {L:Nat} {k:Int} {u v:DD L},Rep l L k u->Rep l L k v->u=v
 | 0,_,_,_,h,h'=>(show _=_ from h).symm.trans h'
 | L+1,k,u,v,⟨x,h1,_,h3,h4⟩,⟨x',h1',_,h3',h4'⟩=>by
  obtain rfl:=Option.some.inj (h1.symm.trans h1')
  apply DD.ext
  apply List.ext_getElem?
  intro s
  cases hs:x.Next[s]? with
  | none =>
   simp_all
  | some k' =>
   have hlt:=(List.getElem?_eq_some_iff.1 hs).1
   have e1:u.kids[s]?=some (u.kids[s]'(by omega)):=List.getElem?_eq_getElem (by omega)
   have e2:v.kids[s]?=some (v.kids[s]'(by omega)):=List.getElem?_eq_getElem (by omega)
   rw[e1,e2,(h4 s k' _ hs e1).det (h4' s k' _ hs e2)]
theorem oO {α:Type} {l:List α} {k:Int} {x:α} (h:idx l k=some x):0<=k/\k < l.length/\l[k.toNat]?=some x:=by
 grind [idx]
theorem idx_app {α:Type} {l m:List α} {k:Int} {x:α} (h:idx l k=some x):idx (l++m) k=some x:=by
 obtain⟨h1,h2,h3⟩:=oO h
 simp_all [idx_int,List.getElem?_append_left]
theorem Rep.app {l m:List Node}:∀ {L:Nat} {k:Int} {u:DD L},Rep l L k u->Rep (l++m) L k u
 | 0,_,_,h=>h
 | _L+1,_k,_u,⟨x,h1,h2,h3,h4⟩=>⟨x,idx_app h1,h2,h3,fun s k' d h h'=>(h4 s k' d h h').app⟩
structure Good (n:Nat) (l:List Node):Prop where
 lev:∀ (i:Nat) x,l[i]?=some x->1<=x.Level
 len:∀ (i:Nat) x,l[i]?=some x->x.Next.length=n
 kid:∀ (i:Nat) x,l[i]?=some x->1 < x.Level->∀ k∈x.Next,0<=k/\k < i/\∃ y,l[k.toNat]?=some y/\y.Level=x.Level - 1
 st:∀ (i:Nat) x,l[i]?=some x->x.Level=1->∀ k∈x.Next,0<=k/\k < n
def Reg (n:Nat):(L:Nat)->DD L->Prop
 | 0,u=>0<=(show Int from u)/\(show Int from u) < n
 | L+1,u=>u.kids.length=n/\∀ d∈u.kids,Reg n L d
theorem choose_list {α β:Type} {R:α->β->Prop}:∀ {l:List α},(∀ x∈l,∃ y,R x y)->∃ m:List β,l.length=m.length/\∀ (s:Nat) x y,l[s]?=some x->m[s]?=some y->R x y
 | [],_=>⟨[],rfl,fun s x y h=>by simp at h⟩
 | x::l,h=>by
  obtain⟨y,hy⟩:=h x (by simp)
  obtain⟨m,h1,h2⟩:=choose_list (l:=l) fun z hz=>h z (by simp[hz])
  refine⟨y::m,by simp[h1],fun s a b ha hb=>?_⟩
  grind
theorem Good.rep {n:Nat} {l:List Node} (h:Good n l):∀ (L i:Nat) x,l[i]?=some x->x.Level=(L:Int)+1->∃ u:DD (L+1),Rep l (L+1) i u/\Reg n (L+1) u
 | 0,i,x,hx,hL=>⟨DD.of (show List (DD 0) from x.Next),⟨x,by rw[cM]; exact hx,hL,rfl,fun s k' d h1 h2=>by
   have h2':x.Next[s]?=some d:=h2
   rw[h1] at h2'
   exact Option.some.inj h2'⟩,h.len i x hx,fun d hd=>h.st i x hx (by omega) d hd⟩
 | L+1,i,x,hx,hL=>by
  obtain⟨m,h1,h2⟩:=choose_list (l:=x.Next) (R:=fun k (d:DD (L+1))=>Rep l (L+1) k d/\Reg n (L+1) d) fun k hk=>by
   obtain⟨k0,_,y,hy,hl⟩:=h.kid i x hx (by omega) k hk
   obtain⟨u,hu,hr⟩:=h.rep L k.toNat y hy (by omega)
   grind
  refine⟨DD.of m,⟨x,by rw[cM]; exact hx,hL,h1,fun s k' d e1 e2=>(h2 s k' d e1 e2).1⟩,?_,fun d hd=>?_⟩
  ·show m.length=n
   rw[<- h1,h.len i x hx]
  ·obtain⟨s,hs⟩:=List.mem_iff_getElem?.1 (show d∈m from hd)
   have hlt:=(List.getElem?_eq_some_iff.1 hs).1
   exact (h2 s (x.Next[s]'(by omega)) d (List.getElem?_eq_getElem _) hs).2
abbrev ND:=Σ L:Nat,DD (L+1)
def post:(L:Nat)->DD L->List ND->List ND
 | 0,_,s=>s
 | L+1,u,s=>if (⟨L,u⟩:ND)∈s then s else u.kids.foldl (fun s d=>post L d s) s++[⟨L,u⟩]
def Clo (us:List ND):Prop:=∀ L u,(⟨L+1,u⟩:ND)∈us->∀ d∈u.kids,(⟨L,d⟩:ND)∈us/\us.idxOf (⟨L,d⟩:ND) < us.idxOf (⟨L+1,u⟩:ND)
theorem idxOf_app {α:Type} [DecidableEq α] {l m:List α} {x:α} (h:x∈l):(l++m).idxOf x=l.idxOf x:=by
 grind
structure Ext (us vs:List ND):Prop where
 pre:∃ ws,vs=us++ws
 nd:us.Nodup->vs.Nodup
 clo:Clo us->Clo vs
theorem Ext.refl (us:List ND):Ext us us:=⟨⟨[],by simp⟩,id,id⟩
theorem Ext.trans {us vs ws:List ND} (h:Ext us vs) (h':Ext vs ws):Ext us ws:=by
 obtain⟨a,rfl⟩:=h.pre
 obtain⟨b,rfl⟩:=h'.pre
 exact⟨⟨a++b,by simp⟩,fun x=>h'.nd (h.nd x),fun x=>h'.clo (h.clo x)⟩
theorem Ext.mem {us vs:List ND} (h:Ext us vs) {x:ND} (hx:x∈us):x∈vs:=by
 obtain⟨a,rfl⟩:=h.pre
 simp_all
theorem Ext.idx {us vs:List ND} (h:Ext us vs) {x:ND} (hx:x∈us):vs.idxOf x=us.idxOf x:=by
 obtain⟨a,rfl⟩:=h.pre
 exact idxOf_app hx
def InP (us:List ND):(L:Nat)->DD L->Prop
 | 0,_=>True
 | L+1,u=>(⟨L,u⟩:ND)∈us
theorem InP.ext {us vs:List ND} (h:Ext us vs):∀ {L:Nat} {u:DD L},InP us L u->InP vs L u
 | 0,_,_=>trivial
 | _+1,_,hu=>h.mem hu
structure Wlk (L:Nat) (us vs:List ND):Prop where
 ext:Ext us vs
 low:∀ x∈vs,x∈us \/ x.1 < L
theorem Wlk.refl (L:Nat) (us:List ND):Wlk L us us:=⟨Ext.refl us,fun _ h=>.inl h⟩
theorem Wlk.trans {L:Nat} {us vs ws:List ND} (h:Wlk L us vs) (h':Wlk L vs ws):Wlk L us ws:=⟨h.ext.trans h'.ext,fun x hx=>(h'.low x hx).elim (h.low x) .inr⟩
def Dst (l:List Node):Prop:=∀ (L:Nat) (k k':Int) (u:DD (L+1)),Rep l (L+1) k u->Rep l (L+1) k' u->k=k'
end Go.Proofs.YtbgliammfkgfoaaGreatDoor
namespace Go.Proofs.YtbgliammfkgfoaaGreatDoor
open Go.AM Go.Proofs
structure Num (num:Int->List Int):Prop where
 inj:∀ x y,0<=x->x < 1152921504606846976->0<=y->y < 1152921504606846976->num x=num y->x=y
 dig:∀ x,0<=x->x < 1152921504606846976->∀ b∈num x,33<=b/\b < 256
 len:∀ x,0<=x->x < 1152921504606846976->(num x).length<=20
 ap:∀ dst x,0<=x->x < 1152921504606846976->dst.length<=4000000000->dc dst x 10=some (dst++num x)
 ap0:∀ x,0<=x->x < 1152921504606846976->dT x 10=some (num x)
def Nm (x:Int):Prop:=0<=x/\x < 1152921504606846976
def keyB (num:Int->List Int) (level:Int) (next:List Int):List Int:=num level++next.flatMap fun x=>32::num x
theorem split32:∀ {a a' b b':List Int},(∀ x∈a,x≠32)->(∀ x∈a',x≠32)->(b=[] \/ ∃ c,b=32::c)->(b'=[] \/ ∃ c,b'=32::c)->a++b=a'++b'->a=a'/\b=b'
 | [],[],b,b',_,_,_,_,h=>⟨rfl,h⟩
 | [],y::a',b,b',_,h2,h3,_,h=>by
  simp_all
 | x::a,[],b,b',h1,_,_,h4,h=>by
  grind
 | x::a,y::a',b,b',h1,h2,h3,h4,h=>by
  simp only[List.cons_append,List.cons.injEq] at h
  obtain⟨e1,e2⟩:=split32 (fun z hz=>h1 z (by simp[hz])) (fun z hz=>h2 z (by simp[hz])) h3 h4 h.2
  simp_all
section
variable {num:Int->List Int} (hN:Num num)
include hN
theorem Num.ne {x:Int} (hx:Nm x):∀ b∈num x,b≠32:=fun b hb=>by have:=hN.dig x hx.1 hx.2 b hb; omega
omit hN in
theorem flat_head (l:List Int):(l.flatMap fun x=>32::num x)=[] \/ ∃ c,(l.flatMap fun x=>32::num x)=32::c:=by
 cases l with
 | nil=>exact .inl rfl
 | cons x l=>exact .inr ⟨_,by rw[List.flatMap_cons]; rfl⟩
theorem flat_inj:∀ {l m:List Int},(∀ x∈l,Nm x)->(∀ x∈m,Nm x)->(l.flatMap fun x=>32::num x)=(m.flatMap fun x=>32::num x)->l=m
 | [],[],_,_,_=>rfl
 | [],y::m,_,_,h=>by simp at h
 | x::l,[],_,_,h=>by simp at h
 | x::l,y::m,h1,h2,h=>by
  simp only[List.flatMap_cons,List.cons_append,List.cons.injEq,true_and] at h
  obtain⟨e1,e2⟩:=split32 (Num.ne hN (h1 x (by simp))) (Num.ne hN (h2 y (by simp))) (flat_head l) (flat_head m) h
  rw[hN.inj x y (h1 x (by simp)).1 (h1 x (by simp)).2 (h2 y (by simp)).1 (h2 y (by simp)).2 e1,flat_inj (fun z hz=>h1 z (by simp[hz])) (fun z hz=>h2 z (by simp[hz])) e2]
theorem key_inj {a b:Int} {l m:List Int} (ha:Nm a) (hb:Nm b) (hl:∀ x∈l,Nm x) (hm:∀ x∈m,Nm x) (h:keyB num a l=keyB num b m):a=b/\l=m:=by
 obtain⟨e1,e2⟩:=split32 (Num.ne hN ha) (Num.ne hN hb) (flat_head l) (flat_head m) h
 exact⟨hN.inj a b ha.1 ha.2 hb.1 hb.2 e1,flat_inj hN hl hm e2⟩
theorem key_dig {a:Int} {l:List Int} (ha:Nm a) (hl:∀ x∈l,Nm x):∀ b∈keyB num a l,0<=b/\b < 256:=by
 intro b hb
 rcases List.mem_append.1 hb with hb | hb
 ·have:=hN.dig a ha.1 ha.2 b hb; omega
 ·obtain⟨x,hx,hb⟩:=List.mem_flatMap.1 hb
  rcases List.mem_cons.1 hb with rfl | hb
  ·omega
  ·have:=hN.dig x (hl x hx).1 (hl x hx).2 b hb; omega
theorem key_len {a:Int} {l:List Int} (ha:Nm a) (hl:∀ x∈l,Nm x):(keyB num a l).length<=20+21*l.length:=by
 have h1:=hN.len a ha.1 ha.2
 have h2:∀ {l:List Int},(∀ x∈l,Nm x)->(l.flatMap fun x=>32::num x).length<=21*l.length:=fun{l}=>by
  induction l with
  | nil=>intro _; simp
  | cons x l ih =>
   intro h
   have:=ih fun z hz=>h z (by simp[hz])
   have:=hN.len x (h x (by simp)).1 (h x (by simp)).2
   grind
 grind [keyB]
omit hN in
theorem ofBytes_inj:∀ {l m:List Int},(∀ b∈l,0<=b/\b < 256)->(∀ b∈m,0<=b/\b < 256)->ofBytes l=ofBytes m->l=m
 | [],[],_,_,_=>rfl
 | [],y::m,_,_,h=>by simp[ofBytes] at h
 | x::l,[],_,_,h=>by simp[ofBytes] at h
 | x::l,y::m,h1,h2,h=>by
  unfold ofBytes at h
  simp only[List.map_cons,List.cons.injEq] at h
  have hx:=h1 x (by simp)
  have hy:=h2 y (by simp)
  have e:x=y:=by
   have:=congrArg UInt8.toNat h.1
   simp only[UInt8.toNat_ofNat'] at this
   omega
  rw[e,ofBytes_inj (fun z hz=>h1 z (by simp[hz])) (fun z hz=>h2 z (by simp[hz])) h.2]
theorem key_loop (b:List Int->Int×List Int->Option (Lp (Int×List Int) (List Int)))
  (hb:∀ next stt,b next stt=(match stt with
   | (a,keyv) =>
    (bif (ltB a (bf next)) then
     (idx next a).bind fun x =>
     (gf 1 keyv [32]).bind fun _ =>
     (dc (keyv++[32]) x 10).bind fun y1 =>
     some (.next ((bu .i64 a 1),y1))
    else
     some (.out keyv))))
  {next:List Int} (hn:∀ x∈next,Nm x) (hl:next.length<=1000000) {k0:List Int} (hk:k0.length<=20):bm (b next) bI (0,k0)=some (k0++next.flatMap fun x=>32::num x):=by
 have hlen:∀ i,(k0++(next.take i).flatMap fun x=>32::num x).length<=20+21*i:=fun i=>by
  have h2:∀ {l:List Int},(∀ x∈l,Nm x)->(l.flatMap fun x=>32::num x).length<=21*l.length:=fun{l}=>by
   induction l with
   | nil=>intro _; simp
   | cons x l ih =>
    intro h
    have:=ih fun z hz=>h z (by simp[hz])
    have:=hN.len x (h x (by simp)).1 (h x (by simp)).2
    grind
  grind [List.length_take_le]
 obtain⟨t,ht,rfl⟩:=ov (b:=b next) (n:=next.length) (s:=(0,k0)) (fun i s=>s=((i:Int),k0++(next.take i).flatMap fun x=>32::num x)) (fun t=>t=k0++next.flatMap fun x=>32::num x) (by omega)
  (by simp)
  (fun i s hi h1=>by
   subst h1
   have hx:next[i]?=some next[i]:=List.getElem?_eq_getElem hi
   have hx':=hn next[i] (List.getElem_mem hi)
   have hli:=hlen i
   refine .inl ⟨_,?_,rfl⟩
   rw[hb]
   dsimp only
   rw[cb,decide_eq_true hi,cond_true,cM,hx,fk (by omega)]
   simp only[bo]
   rw[show gf 1 (k0++(next.take i).flatMap fun x=>32::num x) [32]=some _ from if_pos ⟨by decide,by grind⟩]
   simp only[bo]
   rw[hN.ap _ _ hx'.1 hx'.2 (by grind)]
   grind [List.take_add_one])
  (fun s h1=>by
   subst h1
   refine⟨_,?_,rfl⟩
   simp_all [cb])
 exact ht
end
structure Kn (num:Int->List Int) (mp:List (List UInt8×Int)) (nodes:List Node):Prop where
 get:∀ level next,Nm level->(∀ x∈next,Nm x)->gx mp (ofBytes (keyB num level next))=if (⟨level,next⟩:Node)∈nodes then some ((nodes.idxOf (⟨level,next⟩:Node):Nat):Int) else none
 nd:nodes.Nodup
theorem Kn.nil (num:Int->List Int):Kn num [] []:=⟨fun _ _ _ _=>by simp[gx],List.nodup_nil⟩
def addN (nodes:List Node) (x:Node):List Node:=if x∈nodes then nodes else nodes++[x]
theorem addN_mem (nodes:List Node) (x:Node):x∈addN nodes x:=by
 grind [addN]
theorem addN_pre (nodes:List Node) (x:Node):∃ ws,addN nodes x=nodes++ws:=by
 unfold addN
 split
 ·simp
 simp
theorem addN_len (nodes:List Node) (x:Node):(addN nodes x).length<=nodes.length+1:=by
 grind [addN]
theorem mgetD_some {κ ν:Type} [DecidableEq κ] {m:List (κ×ν)} {k:κ} {v z:ν} (h:gx m k=some v):fe m k z=v:=by unfold fe; rw[h]; rfl
theorem node_is {num:Int->List Int} (hN:Num num) {mp:List (List UInt8×Int)} {nodes:List Node} (hK:Kn num mp nodes) {level:Int} {next:List Int} (hl:Nm level) (hn:∀ x∈next,Nm x) (hlen:next.length<=1000000) (hnl:nodes.length<=1099511627776) :
  ∃ mp',cU nodes mp level next=some ((((addN nodes ⟨level,next⟩).idxOf (⟨level,next⟩:Node):Nat):Int),mp',addN nodes ⟨level,next⟩)/\Kn num mp' (addN nodes ⟨level,next⟩):=by
 unfold cU
 rw[hN.ap0 _ hl.1 hl.2]
 simp only[bo]
 rw[key_loop hN (dN nodes mp level) (fun next stt=>by rfl) hn (by omega) (hN.len _ hl.1 hl.2)]
 simp only[bo]
 have hke:num level++(next.flatMap fun x=>32::num x)=keyB num level next:=rfl
 rw[hke]
 have hkl:=key_len hN hl hn
 rw[show kckS (ofBytes (keyB num level next))=some () from if_pos (by unfold ofBytes; rw[List.length_map]; unfold maxLen; omega)]
 simp only[bo]
 have hg:=hK.get level next hl hn
 unfold addN
 by_cases hm:(⟨level,next⟩:Node)∈nodes
 ·rw[if_pos hm] at hg
  rw[if_pos hm]
  have:cH mp (ofBytes (keyB num level next))=true:=by unfold cH; rw[hg]; rfl
  rw[this,cond_true,mgetD_some hg]
  simp_all
 ·rw[if_neg hm] at hg
  rw[if_neg hm]
  have:cH mp (ofBytes (keyB num level next))=false:=by unfold cH; rw[hg]; rfl
  rw[this,cond_false,show gf 32 nodes [(⟨level,next⟩:Node)]=some _ from if_pos ⟨by decide,by grind⟩]
  simp only[bo]
  have hi:bK .i64 ((bf nodes)+1) 1=(nodes.length:Int):=by
   grind [bK,bf,i64_in]
  have hx:(nodes++[(⟨level,next⟩:Node)]).idxOf (⟨level,next⟩:Node)=nodes.length:=by
   grind
  rw[hi,hx]
  refine⟨_,rfl,fun level' next' hl' hn'=>?_,?_⟩
  ·rw[mget_mset]
   by_cases he:(⟨level,next⟩:Node)=⟨level',next'⟩
   ·simp_all
   ·have hk:ofBytes (keyB num level next)≠ofBytes (keyB num level' next'):=fun e=>he (by
     obtain⟨e1,e2⟩:=key_inj hN hl hl' hn hn' (ofBytes_inj (key_dig hN hl hn) (key_dig hN hl' hn') e)
     rw[e1,e2])
    rw[if_neg hk,hK.get level' next' hl' hn']
    grind
  ·rw[List.nodup_append]
   exact⟨hK.nd,by simp,fun a ha b hb e=>hm (by simp_all)⟩
theorem rep_new {l:List Node} {L:Nat} {x:Node} {u:DD (L+1)} {k:Int} (hk:idx l k=some x) (hx:x.Level=(L:Int)+1) (hl:x.Next.length=u.kids.length) (h:∀ (s:Nat) k' d,x.Next[s]?=some k'->u.kids[s]?=some d->Rep l L k' d):Rep l (L+1) k u:=⟨x,hk,hx,hl,h⟩
theorem idx_idxOf {l:List Node} {x:Node} (h:x∈l):idx l ((l.idxOf x:Nat):Int)=some x:=by
 simp_all [List.idxOf_lt_length_iff,cM]
theorem Good.add {n:Nat} {l:List Node} (h:Good n l) {x:Node} (h1:1<=x.Level) (h2:x.Next.length=n) (h3:1 < x.Level->∀ k∈x.Next,0<=k/\∃ y,idx l k=some y/\y.Level=x.Level - 1) (h4:x.Level=1->∀ k∈x.Next,0<=k/\k < n):Good n (addN l x):=by
 unfold addN
 split
 ·exact h
 ·have key:∀ (i:Nat) y,(l++[x])[i]?=some y->l[i]?=some y \/ (i=l.length/\y=x):=fun i y hy=>by
   grind
  have up:∀ (k:Nat) y,l[k]?=some y->(l++[x])[k]?=some y:=fun k y hy=>by
   grind
  refine⟨fun i y hy=>?_,fun i y hy=>?_,fun i y hy hl k hk=>?_,fun i y hy hl k hk=>?_⟩
  ·rcases key i y hy with hy | ⟨_,rfl⟩
   ·exact h.lev i y hy
   ·exact h1
  ·rcases key i y hy with hy | ⟨_,rfl⟩
   ·exact h.len i y hy
   ·exact h2
  ·rcases key i y hy with hy | ⟨rfl,rfl⟩
   ·obtain⟨a,b,z,hz,e⟩:=h.kid i y hy hl k hk
    simp_all
   ·obtain⟨a,z,hz,e⟩:=h3 hl k hk
    simp_all [oO]
  ·rcases key i y hy with hy | ⟨_,rfl⟩
   ·exact h.st i y hy hl k hk
   grind
end Go.Proofs.YtbgliammfkgfoaaGreatDoor
namespace Go.Proofs.YtbgliammfkgfoaaGreatDoor
open Go.AM Go.Proofs
theorem nodup_lt:∀ (N:Nat) (l:List Nat),l.Nodup->(∀ x∈l,x < N)->l.length<=N
 | 0,[],_,_=>Nat.le_refl _
 | 0,x::l,_,h=>absurd (h x (by simp)) (by omega)
 | N+1,l,hd,h=>by
  by_cases hm:N∈l
  ·have h1:=nodup_lt N (l.erase N) (hd.erase N) fun x hx=>by
    grind
   simp_all
  ·have:=nodup_lt N l hd fun x hx=>by
    grind
   omega
theorem len_le {α:Type} {R:Nat->α->Prop} {N:Nat} {us:List α} (hd:us.Nodup) (h:∀ x∈us,∃ k,k < N/\R k x) (hf:∀ k x y,R k x->R k y->x=y):us.length<=N:=by
 obtain⟨ks,h1,h2⟩:=choose_list (l:=us) (R:=fun x k=>k < N/\R k x) h
 rw[h1]
 refine nodup_lt N ks ?_ fun k hk=>?_
 ·rw[List.nodup_iff_pairwise_ne,List.pairwise_iff_getElem]
  intro i j hi hj hij e
  have a:=h2 i us[i] ks[i] (List.getElem?_eq_getElem (by omega)) (List.getElem?_eq_getElem hi)
  have b:=h2 j us[j] ks[j] (List.getElem?_eq_getElem (by omega)) (List.getElem?_eq_getElem hj)
  rw[e] at a
  have:=hf _ _ _ a.2 b.2
  have:=(List.getElem?_inj (by omega) hd).1 ((List.getElem?_eq_getElem (l:=us) (i:=i) (by omega)).trans ((congrArg some this).trans (List.getElem?_eq_getElem (l:=us) (i:=j) (by omega)).symm))
  omega
 ·obtain⟨i,hi⟩:=List.mem_iff_getElem?.1 hk
  have hlt:=(List.getElem?_eq_some_iff.1 hi).1
  exact (h2 i (us[i]'(by omega)) k (List.getElem?_eq_getElem _) hi).1
structure WI (nodes:List Node) (done:List Int) (us:List ND):Prop where
 len:done.length=nodes.length
 val:∀ L k (u:DD (L+1)),Rep nodes (L+1) k u->idx done k=some (if (⟨L,u⟩:ND)∈us then ((us.idxOf (⟨L,u⟩:ND):Nat):Int)+1 else 0)
 clo:Clo us
 nd:us.Nodup
 rep:∀ x∈us,∃ k,Rep nodes (x.1+1) k x.2
theorem Rep.lev {l:List Node} {L L':Nat} {k:Int} {u:DD (L+1)} {u':DD (L'+1)} (h:Rep l (L+1) k u) (h':Rep l (L'+1) k u'):(⟨L,u⟩:ND)=⟨L',u'⟩:=by
 obtain⟨x,h1,h2,_⟩:=id h
 obtain⟨x',h1',h2',_⟩:=id h'
 obtain rfl:=Option.some.inj (h1.symm.trans h1')
 have:L=L':=by omega
 subst this
 rw[h.det h']
theorem WI.le {nodes:List Node} {done:List Int} {us:List ND} (h:WI nodes done us):us.length<=nodes.length :=
 len_le (R:=fun k (x:ND)=>Rep nodes (x.1+1) (k:Nat) x.2) h.nd (fun x hx=>by
  obtain⟨k,hk⟩:=h.rep x hx
  obtain⟨y,h1,_⟩:=id hk
  obtain⟨a,b,_⟩:=oO h1
  grind) fun k x y hx hy=>hx.lev hy
section
variable {n:Nat} {nodes:List Node} (hG:Good n nodes) (hD:Dst nodes) (hlen:nodes.length<=1099511627776) (hn:n<=1000000) (z:Int->List Int->List Node->List Node->Option (Int×List Int×List Node))
include hG hD hlen hn
end
end Go.Proofs.YtbgliammfkgfoaaGreatDoor
namespace Go.Proofs.YtbgliammfkgfoaaGreatDoor
open Go.AM Go.Proofs
structure RI (num:Int->List Int) (n:Nat) (src:List Node) (i:Nat) (mp:List (List UInt8×Int)) (l:List Node) (to_:List Int):Prop where
 tl:to_.length=i
 kn:Kn num mp l
 gd:Good n l
 ll:l.length<=i
 mp:∀ L (j:Nat) (u:DD (L+1)),j < i->Rep src (L+1) j u->∃ k,to_[j]?=some k/\Rep l (L+1) k u
theorem Rep.rng {l:List Node} {L:Nat} {k:Int} {u:DD (L+1)} (h:Rep l (L+1) k u):0<=k/\k < l.length/\∃ x,idx l k=some x/\x.Level=(L:Int)+1:=by
 obtain⟨x,h1,h2,_⟩:=h
 obtain⟨a,b,_⟩:=oO h1
 simp_all
structure Szd (n:Nat) (l:List Node):Prop where
 good:Good n l
 lev:∀ x∈l,x.Level < 1000000
 len:l.length<=4294967296
 n6:n<=1000000
theorem addN_rep {l:List Node} {x:Node} {L:Nat} {u:DD (L+1)} (hx:x.Level=(L:Int)+1) (hl:x.Next.length=u.kids.length) (h:∀ (s:Nat) k' d,x.Next[s]?=some k'->u.kids[s]?=some d->Rep l L k' d) :
  Rep (addN l x) (L+1) ((addN l x).idxOf x:Nat) u:=by
 obtain⟨ws,hw⟩:=addN_pre l x
 refine rep_new (idx_idxOf (addN_mem l x)) hx hl fun s k' d h1 h2=>?_
 rw[hw]
 exact (h s k' d h1 h2).app
theorem RI.step {num:Int->List Int} (hN:Num num) {n:Nat} {src:List Node} (hS:Szd n src) {i:Nat} {mp:List (List UInt8×Int)} {l:List Node} {to_:List Int} (h:RI num n src i mp l to_) {x:Node} (hx:src[i]?=some x) :
  ∃ next',(next'=if 1 < x.Level then x.Next.map fun k=>(idx to_ k).getD 0 else x.Next)/\(1 < x.Level->∀ k∈x.Next,∃ v,idx to_ k=some v) /\
   ∃ mp',cU l mp x.Level next'=some ((((addN l ⟨x.Level,next'⟩).idxOf (⟨x.Level,next'⟩:Node):Nat):Int),mp',addN l ⟨x.Level,next'⟩) /\
    RI num n src (i+1) mp' (addN l ⟨x.Level,next'⟩) (to_++[(((addN l ⟨x.Level,next'⟩).idxOf (⟨x.Level,next'⟩:Node):Nat):Int)]):=by
 have hG:=hS.good
 have hlev:=hG.lev i x hx
 have hxlen:=hG.len i x hx
 have hn6:=hS.n6
 have hll:=h.ll
 have hsl:=hS.len
 have hi:=(List.getElem?_eq_some_iff.1 hx).1
 have hlx:=hS.lev x (List.mem_of_getElem? hx)
 obtain⟨L,hL⟩:∃ L:Nat,x.Level=(L:Int)+1:=⟨(x.Level - 1).toNat,by omega⟩
 obtain⟨u,hu,hreg⟩:=hG.rep L i x hx hL
 obtain⟨x0,e0,_,hl0,hk0⟩:=id hu
 rw[cM,hx] at e0
 obtain rfl:=Option.some.inj e0
 have hto:1 < x.Level->∀ (s:Nat) k d,x.Next[s]?=some k->u.kids[s]?=some d->∃ v,idx to_ k=some v/\Rep l L v d:=fun h1 s k d e1 e2=>by
  obtain⟨a,b,_⟩:=hG.kid i x hx h1 k (List.mem_of_getElem? e1)
  cases L with
  | zero=>omega
  | succ L =>
   have hr:=hk0 s k d e1 e2
   rw[show k=((k.toNat:Nat):Int) by omega] at hr
   obtain⟨v,hv,hr'⟩:=h.mp L k.toNat d (by omega) hr
   simp_all [idx_int]
 have hall:1 < x.Level->∀ k∈x.Next,∃ v,idx to_ k=some v:=fun h1 k hk=>by
  obtain⟨s,hs⟩:=List.mem_iff_getElem?.1 hk
  have hlt:=(List.getElem?_eq_some_iff.1 hs).1
  obtain⟨v,hv,_⟩:=hto h1 s k (u.kids[s]'(by omega)) hs (List.getElem?_eq_getElem _)
  exact⟨v,hv⟩
 obtain⟨next',hnx⟩:∃ next',next'=if 1 < x.Level then x.Next.map fun k=>(idx to_ k).getD 0 else x.Next:=⟨_,rfl⟩
 have hnl:next'.length=x.Next.length:=by grind
 have hkids:∀ (s:Nat) k' d,next'[s]?=some k'->u.kids[s]?=some d->Rep l L k' d:=fun s k' d e1 e2=>by
  rw[hnx] at e1
  by_cases h1:1 < x.Level
  ·grind
  ·rw[if_neg h1] at e1
   have:L=0:=by omega
   subst this
   exact hk0 s k' d e1 e2
 have hnm:∀ k∈next',Nm k/\(x.Level=1->0<=k/\k < n)/\(1 < x.Level->0<=k/\∃ y,idx l k=some y/\y.Level=x.Level - 1):=fun k' hk'=>by
  obtain⟨s,hs⟩:=List.mem_iff_getElem?.1 hk'
  have hlt:=(List.getElem?_eq_some_iff.1 hs).1
  have hr:=hkids s k' (u.kids[s]'(by omega)) hs (List.getElem?_eq_getElem _)
  cases L with
  | zero =>
   rw[hnx,if_neg (by omega)] at hk'
   have:=hG.st i x hx (by omega) k' hk'
   exact⟨⟨this.1,by omega⟩,fun _=>this,fun h1=>by omega⟩
  | succ L =>
   obtain⟨a,b,y,hy,hyl⟩:=hr.rng
   exact⟨⟨a,by omega⟩,fun h1=>by omega,fun _=>⟨a,y,hy,by omega⟩⟩
 obtain⟨mp',hm,hK⟩:=node_is hN h.kn (level:=x.Level) (next:=next') ⟨by omega,by omega⟩ (fun k hk=>(hnm k hk).1) (by omega) (by omega)
 have hgd:=h.gd.add (x:=⟨x.Level,next'⟩) hlev (by simp_all) (fun h1 k hk=>(hnm k hk).2.2 h1) (fun h1 k hk=>(hnm k hk).2.1 h1)
 refine⟨next',hnx,hall,mp',hm,⟨by simp[h.tl],hK,hgd,by grind [addN_len],fun L' j u' hj hr'=>?_⟩⟩
 obtain⟨ws,hw⟩:=addN_pre l ⟨x.Level,next'⟩
 by_cases hji:j < i
 ·obtain⟨k,e1,e2⟩:=h.mp L' j u' hji hr'
  refine⟨k,?_,by rw[hw]; exact e2.app⟩
  grind
 ·have:j=i:=by omega
  subst this
  have e:=hu.lev hr'
  cases e
  refine⟨_,?_,addN_rep hL (by grind) hkids⟩
  rw[List.getElem?_append_right (by rw[h.tl]; simp),h.tl,Nat.sub_self]
  rfl
end Go.Proofs.YtbgliammfkgfoaaGreatDoor
namespace Go.Proofs.YtbgliammfkgfoaaGreatDoor
open Go.AM Go.Proofs
structure WR (nodes:List Node) (R:Int->Prop) (done:List Int) (us:List ND):Prop where
 len:done.length=nodes.length
 val:∀ L k (u:DD (L+1)),R k->Rep nodes (L+1) k u->idx done k=some (if (⟨L,u⟩:ND)∈us then ((us.idxOf (⟨L,u⟩:ND):Nat):Int) else -1)
 clo:Clo us
 nd:us.Nodup
 rep:∀ x∈us,∃ k,Rep nodes (x.1+1) k x.2
theorem WR.le {nodes:List Node} {R:Int->Prop} {done:List Int} {us:List ND} (h:WR nodes R done us):us.length<=nodes.length :=
 len_le (R:=fun k (x:ND)=>Rep nodes (x.1+1) (k:Nat) x.2) h.nd (fun x hx=>by
  obtain⟨k,hk⟩:=h.rep x hx
  obtain⟨y,h1,_⟩:=id hk
  obtain⟨a,b,_⟩:=oO h1
  grind) fun k x y hx hy=>hx.lev hy
structure Cls (nodes:List Node) (cls:List Int):Prop where
 get:∀ (L:Nat) (k:Int) (u:DD (L+1)),Rep nodes (L+1) k u->∃ c,idx cls k=some c/\Rep nodes (L+1) c u/\idx cls c=some c
 one:∀ (L:Nat) (k k':Int) (u:DD (L+1)),Rep nodes (L+1) k u->Rep nodes (L+1) k' u->idx cls k=idx cls k'
section
variable {n:Nat} {nodes:List Node} (hG:Good n nodes) {cls:List Int} (hC:Cls nodes cls) (hlen:nodes.length<=1099511627776) (hn:n<=1000000) (z:List Node->List Int->Int->List Int->List Node->Option (List Int×List Node))
include hG hC hlen hn
end
end Go.Proofs.YtbgliammfkgfoaaGreatDoor
namespace Go.Proofs.YtbgliammfkgfoaaGreatDoor
open Go.AM Go.Proofs
def Least (nodes:List Node) (L:Nat) (u:DD (L+1)) (c:Nat):Prop:=Rep nodes (L+1) c u/\∀ j:Nat,j < c->¬ Rep nodes (L+1) j u
theorem Least.det {nodes:List Node} {L:Nat} {u:DD (L+1)} {c c':Nat} (h:Least nodes L u c) (h':Least nodes L u c'):c=c':=by
 rcases Nat.lt_trichotomy c c' with hc | hc | hc
 ·exact absurd h.1 (h'.2 c hc)
 ·exact hc
 ·exact absurd h'.1 (h.2 c' hc)
def NX (nodes:List Node):(L:Nat)->DD (L+1)->List Int->Prop
 | 0,u,nx=>nx=(show List Int from u.kids)
 | L+1,u,nx=>nx.length=u.kids.length/\∀ (s:Nat) d,u.kids[s]?=some d->∃ c:Nat,nx[s]?=some (c:Int)/\Least nodes L d c
structure CI (nodes:List Node) (i:Nat) (cls:List Int) (nexts:List (List Int)):Prop where
 lc:cls.length=i
 ln:nexts.length=i
 val:∀ (k L:Nat) (u:DD (L+1)),k < i->Rep nodes (L+1) k u->(∃ c:Nat,cls[k]?=some (c:Int)/\Least nodes L u c)/\∃ nx,nexts[k]?=some nx/\NX nodes L u nx
section
variable {n:Nat} {nodes:List Node} (hG:Good n nodes) (hlen:nodes.length<=1099511627) (hn:n<=1000000)
include hG hlen hn
end
end Go.Proofs.YtbgliammfkgfoaaGreatDoor
namespace Go.Proofs.YtbgliammfkgfoaaGreatDoor
open Go.AM Go.Proofs Go.Lib
end Go.Proofs.YtbgliammfkgfoaaGreatDoor
namespace Go.Proofs.YtbgliammfkgfoaaGreatDoor
open Go.AM Go.Proofs
end Go.Proofs.YtbgliammfkgfoaaGreatDoor
namespace Go.Proofs.YtbgliammfkgfoaaGreatDoor
open Go.AM Go.Proofs
theorem eG {α:Type} {l:List α} {i:Nat} {v:α} (h:l[i]?=some v):l.set i v=l:=by
 apply List.ext_getElem?
 intro j
 rw[List.getElem?_set]
 by_cases he:i=j
 ·subst he
  rw[if_pos rfl,if_pos (List.getElem?_eq_some_iff.1 h).1,h]
 ·rw[if_neg he]
end Go.Proofs.YtbgliammfkgfoaaGreatDoor
namespace Go.Proofs.YtbgliammfkgfoaaGreatDoor
open Go.AM Go.Proofs
end Go.Proofs.YtbgliammfkgfoaaGreatDoor
namespace Go.Proofs.YtbgliammfkgfoaaGreatDoor
open Go.AM Go.Proofs
structure TOk (n:Nat) (t:Tree):Prop where
 st:t.States=(n:Int)
 n2:2<=n
 n8:n<=8
 h1:1<=t.Hood.length
 h25:t.Hood.length<=25
 nodes:t.Nodes.length<=4096
 good:Good n t.Nodes
 lev:∀ x∈t.Nodes,x.Level<=t.Hood.length
 root:∃ i x,i+1=t.Nodes.length/\t.Nodes[i]?=some x/\x.Level=(t.Hood.length:Int)
theorem TOk.rep {n:Nat} {t:Tree} (h:TOk n t):∃ (L i:Nat) (u:DD (L+1)),i+1=t.Nodes.length/\L+1=t.Hood.length/\Rep t.Nodes (L+1) i u/\Reg n (L+1) u:=by
 obtain⟨i,x,hi,hx,hl⟩:=h.root
 have h1:=h.h1
 obtain⟨L,hL⟩:∃ L,t.Hood.length=L+1:=⟨t.Hood.length - 1,by omega⟩
 obtain⟨u,hu,hr⟩:=h.good.rep L i x hx (by omega)
 grind
end Go.Proofs.YtbgliammfkgfoaaGreatDoor
namespace Go.Proofs.YtbgliammfkgfoaaGreatDoor
open Go.AM Go.Proofs
end Go.Proofs.YtbgliammfkgfoaaGreatDoor
namespace Go.Proofs.YtbgliammfkgfoaaGreatDoor
open Go.AM Go.Proofs
end Go.Proofs.YtbgliammfkgfoaaGreatDoor
namespace Go.Proofs.YtbgliammfkgfoaaGreatDoor
open Go.AM Go.Proofs
set_option maxRecDepth 100000
end Go.Proofs.YtbgliammfkgfoaaGreatDoor
namespace Go.Proofs.YtbgliammfkgfoaaGreatDoor
open Go.AM Go.Proofs
end Go.Proofs.YtbgliammfkgfoaaGreatDoor
namespace Go.Proofs.YtbgliammfkgfoaaGreatDoor
open Go.AM Go.Proofs
theorem imax_assoc (a b c:Int):gD (gD a b) c=gD a (gD b c):=by
 unfold gD
 repeat' split
 all_goals omega
theorem rad_step (l:List Point):ik l=dj l:=by
 funext st
 obtain⟨n,i⟩:=st
 unfold ik dj nU
 dsimp only
 simp only[bo,<- imax_assoc]
theorem rad_eq {l:List Point} (hl:l.length < 1099511627776):gP l=di l:=by
 unfold gP di
 rw[hoodR_eq hl,hood_eq hl,rad_step]
 simp only[bo]
 cases jv l with
 | false=>rfl
 | true =>
  simp only[fO,Bool.not_true,cond_false,cond_true]
  cases bm (dj l) bI (0,0)<;>rfl
end Go.Proofs.YtbgliammfkgfoaaGreatDoor
namespace Go.Proofs.YtbgliammfkgfoaaGreatDoor.PC
open Go.AM Go.Proofs Go.Proofs.YtbgliammfkgfoaaGreatDoor
def bitsOf (s:Int):Int:=bif eqB s 2 then 1 else bif eqB s 3 || eqB s 4 then 2 else bif gtB s 4 && leB s 8 then 3 else 0
end Go.Proofs.YtbgliammfkgfoaaGreatDoor.PC
namespace Go.Proofs.YtbgliammfkgfoaaGreatDoor
open Go.AM Go.Proofs
def bitB (c:Int) (j:Nat):Bool:=eqB (iand .i64 ((ishr .i64 c (j:Int)).getD 0) 1) 1
def gat {α β:Type} (f:Nat->α->List β):List α->Nat->List β
 | [],_=>[]
 | x::l,i=>f i x++gat f l (i+1)
theorem gat_app {α β:Type} (f:Nat->α->List β):∀ (l m:List α) (i:Nat),gat f (l++m) i=gat f l i++gat f m (i+l.length)
 | [],m,i=>by simp[gat]
 | x::l,m,i=>by rw[List.cons_append,gat,gat,gat_app f l m (i+1),List.append_assoc,List.length_cons,Nat.add_assoc,Nat.add_comm 1]
theorem gat_take {α β:Type} (f:Nat->α->List β) {l:List α} {i:Nat} {x:α} (h:l[i]?=some x):gat f (l.take (i+1)) 0=gat f (l.take i) 0++f i x:=by
 have hi:=(List.getElem?_eq_some_iff.1 h).1
 rw[List.take_add_one,h,gat_app]
 simp only[Option.toList,gat,List.append_nil,Nat.zero_add,List.length_take,Nat.min_eq_left (Nat.le_of_lt hi)]
theorem gat_len {α β:Type} {f:Nat->α->List β} {m:Nat} (hf:∀ i x,(f i x).length<=m):∀ (l:List α) (i:Nat),(gat f l i).length<=m*l.length
 | [],_=>by simp[gat]
 | x::l,i=>by
  rw[gat,List.length_append,List.length_cons,Nat.mul_add,Nat.mul_one]
  have:=gat_len hf l (i+1)
  have:=hf i x
  omega
theorem loop_gat {α β:Type} {b:Int×List β->Option (Lp (Int×List β) (List β))} (l:List α) (f:Nat->α->List β) (m C:Nat) (acc:List β) (hf:∀ i x,(f i x).length<=m) (hl:l.length < 1099511627776) (hC:acc.length+m*l.length<=C)
  (hs:∀ (i:Nat) (x:α) (ac:List β),l[i]?=some x->ac.length+m<=C->b ((i:Int),ac)=some (.next (((i+1:Nat):Int),ac++f i x)))
  (he:∀ ac,b ((l.length:Int),ac)=some (.out ac)):bm b bI (0,acc)=some (acc++gat f l 0):=by
 obtain⟨r,hr,rfl⟩:=ov (b:=b) (n:=l.length) (s:=(0,acc)) (fun i st=>st=((i:Int),acc++gat f (l.take i) 0)) (fun r=>r=acc++gat f l 0) hl (by simp[gat])
  (fun i st hi e=>by
   subst e
   have hx:l[i]?=some l[i]:=List.getElem?_eq_getElem hi
   refine .inl ⟨_,hs i _ _ hx ?_,?_⟩
   ·have h1:=gat_len hf (l.take i) 0
    rw[List.length_take,Nat.min_eq_left (Nat.le_of_lt hi)] at h1
    rw[List.length_append]
    have h2:m*i+m<=m*l.length:=by
     have:=Nat.mul_le_mul_left m (show i+1<=l.length from hi)
     rw[Nat.mul_add,Nat.mul_one] at this
     exact this
    omega
   ·rw[gat_take f hx,List.append_assoc])
  (fun st e=>by
   subst e
   exact⟨_,he _,by rw[List.take_length]⟩)
 exact hr
theorem appL_ok {α:Type} {n:Nat} {l m:List α} (h1:0 < n) (h2:n<=64) (h:l.length+m.length<=2000000000000):gf n l m=some (l++m):=by
 refine if_pos ⟨h1,?_⟩
 have:=Nat.mul_le_mul h h2
 omega
def agS (l:List Int) (c:Int):List Int:=gat (fun j v=>[bif bitB c j then cA .i64 v else v]) l 0
def freshS (v:Int) (b:Nat):List Int:=(List.range b).map fun(k:Nat)=>v+1+k
abbrev SV:=Int×List Int
def sel1 (un:List Int) (v:SV) (k:Nat) (x:Int):List (List Int) :=
 bif isE v.2 then [un++[bif bitB v.1 k then x else cA .i64 x]] else [un++[cA .i64 x,v.2.getD k 0],un++[x,cA .i64 (v.2.getD k 0)]]
def selS (un own:List Int) (v:SV):List (List Int):=gat (sel1 un v) own 0
def rv (v:SV):Bm:=⟨v.1,v.2⟩
theorem fresh_len (v:Int) (b:Nat):(freshS v b).length=b:=by simp[freshS]
theorem sel1_len (un:List Int) (v:SV) (k:Nat) (x:Int):(sel1 un v k x).length<=2:=by
 unfold sel1
 cases isE v.2<;>simp
theorem selS_len (un own:List Int) (v:SV):(selS un own v).length<=2*own.length:=gat_len (fun k x=>sel1_len un v k x) own 0
end Go.Proofs.YtbgliammfkgfoaaGreatDoor
namespace Go.Proofs.YtbgliammfkgfoaaGreatDoor
open Go.AM Go.Proofs
abbrev FS:=Int×List (List Int)×List SV
def kidS (of_:List SV) (x:Node) (s:Nat):SV:=if x.Level=1 then (x.Next.getD s 0,[]) else of_.getD (x.Next.getD s 0).toNat (0,[])
def uniB (x:Node):Bool:=x.Next.all (fun k=>eqB k (x.Next.getD 0 0))
def rdS (H:Nat) (in_:List SV) (x:Node):List Int:=(in_.getD (H - x.Level.toNat) (0,[])).2
def nodeS (b H:Nat) (in_:List SV) (st:FS) (x:Node):FS :=
 bif uniB x then (st.1,st.2.1,st.2.2++[kidS st.2.2 x 0])
 else (st.1+b,st.2.1++gat (fun s _=>selS (agS (rdS H in_ x) (s:Int)) (freshS st.1 b) (kidS st.2.2 x s)) x.Next 0,st.2.2++[(0,freshS st.1 b)])
def treeS (b H:Nat) (in_:List SV) (ns:List Node) (st:FS):FS:=ns.foldl (nodeS b H in_) st
theorem tree_take (b H:Nat) (in_:List SV) {ns:List Node} (st:FS) {i:Nat} {x:Node} (h:ns[i]?=some x):treeS b H in_ (ns.take (i+1)) st=nodeS b H in_ (treeS b H in_ (ns.take i) st) x:=by
 unfold treeS
 rw[List.take_add_one,h,List.foldl_append]
 rfl
def VOk (n b:Nat) (v:SV):Prop:=(v.2=[]/\0<=v.1/\v.1 < (n:Int)) \/ (v.1=0/\v.2.length=b)
structure WT (n b H:Nat) (in_:List SV) (ns:List Node):Prop where
 n2:2<=n
 n8:n<=8
 b1:1<=b
 b3:b<=3
 H25:H<=25
 len:ns.length<=4096
 ne:1<=ns.length
 good:Good n ns
 lev:∀ x∈ns,x.Level<=(H:Int)
 inl:in_.length=H
 inv:∀ v∈in_,VOk n b v
 rds:∀ x∈ns,uniB x=false->rdS H in_ x≠[]
structure TI (n b i:Nat) (n0:Int) (c0:Nat) (st:FS):Prop where
 lo:n0<=st.1
 hi:st.1<=n0+3*i
 cs:st.2.1.length<=c0+48*i
 of_:st.2.2.length=i
 ok:∀ v∈st.2.2,VOk n b v
section
variable {n b H:Nat} {in_:List SV} {ns:List Node} {n0:Int} {c0:Nat} {st:FS} {i:Nat} {x:Node}
theorem WT.inb (W:WT n b H in_ ns) (hx:ns[i]?=some x):(x.Level.toNat:Int)=x.Level/\1<=x.Level/\x.Level<=(H:Int):=by
 have h1:=W.good.lev i x hx
 have h2:=W.lev x (List.mem_of_getElem? hx)
 omega
theorem kid_ok (W:WT n b H in_ ns) (T:TI n b i n0 c0 st) (hx:ns[i]?=some x) {s:Nat} (hs:s < n):VOk n b (kidS st.2.2 x s):=by
 have hl:=W.good.len i x hx
 have hk:x.Next[s]?=some (x.Next.getD s 0):=by rw[List.getD_eq_getElem?_getD,List.getElem?_eq_getElem (by omega)]; rfl
 have hm:=List.mem_of_getElem? hk
 unfold kidS
 by_cases h1:x.Level=1
 ·rw[if_pos h1]
  obtain⟨a,b⟩:=W.good.st i x hx h1 _ hm
  exact .inl ⟨rfl,a,b⟩
 ·rw[if_neg h1]
  have:=(W.inb hx).2.1
  obtain⟨a,b,_⟩:=W.good.kid i x hx (by omega) _ hm
  have hlt:(x.Next.getD s 0).toNat < st.2.2.length:=by rw[T.of_]; omega
  rw[List.getD_eq_getElem?_getD,List.getElem?_eq_getElem hlt]
  exact T.ok _ (List.getElem_mem hlt)
theorem TI.step (W:WT n b H in_ ns) (T:TI n b i n0 c0 st) (hx:ns[i]?=some x):TI n b (i+1) n0 c0 (nodeS b H in_ st x):=by
 have h3:=W.b3
 have n8:=W.n8
 have n2:=W.n2
 obtain⟨t1,t2,t3,t4,t5⟩:=T
 unfold nodeS
 cases uniB x with
 | true =>
  simp only[cond_true]
  refine⟨t1,by show st.1<=_; omega,by show st.2.1.length<=_; omega,by simp[t4],fun v hv=>?_⟩
  rcases List.mem_append.1 hv with hv | hv
  ·exact t5 v hv
  ·rw[List.mem_singleton.1 hv]
   exact kid_ok W ⟨t1,t2,t3,t4,t5⟩ hx (by omega)
 | false =>
  simp only[cond_false]
  refine⟨by show n0<=st.1+b; omega,by show st.1+b<=_; omega,?_,by simp[t4],fun v hv=>?_⟩
  ·show (_++_:List (List Int)).length<=_
   rw[List.length_append]
   have hg:=gat_len (f:=fun s _=>selS (agS (rdS H in_ x) ((s:Nat):Int)) (freshS st.1 b) (kidS st.2.2 x s)) (m:=6) (fun s y=>by
    have:=selS_len (agS (rdS H in_ x) ((s:Nat):Int)) (freshS st.1 b) (kidS st.2.2 x s)
    rw[fresh_len] at this
    omega) x.Next 0
   have:=W.good.len i x hx
   omega
  ·rcases List.mem_append.1 hv with hv | hv
   ·exact t5 v hv
   ·rw[List.mem_singleton.1 hv]
    exact .inr ⟨rfl,fresh_len _ _⟩
theorem TI.at_ (W:WT n b H in_ ns) (T:TI n b 0 n0 c0 st):∀ i,i<=ns.length->TI n b i n0 c0 (treeS b H in_ (ns.take i) st)
 | 0,_=>T
 | i+1,h=>by
  have hx:ns[i]?=some ns[i]:=List.getElem?_eq_getElem (by omega)
  rw[tree_take b H in_ st hx]
  exact (TI.at_ W T i (by omega)).step W hx
end
end Go.Proofs.YtbgliammfkgfoaaGreatDoor
namespace Go.Proofs.YtbgliammfkgfoaaGreatDoor
open Go.AM Go.Proofs
section
variable {n b:Nat} {S S':Int} {Hd Hd':List Point} {N:List Node} {mp:List (List UInt8×Tree)} {in_:List SV} {ns:List Node} {n0:Int} {c0:Nat}
end
end Go.Proofs.YtbgliammfkgfoaaGreatDoor
namespace Go.Proofs.YtbgliammfkgfoaaGreatDoor
open Go.AM Go.Proofs
section
variable {n b:Nat} {in_:List SV} {ns:List Node} {n0:Int} {c0:Nat}
end
end Go.Proofs.YtbgliammfkgfoaaGreatDoor
namespace Go.Proofs.YtbgliammfkgfoaaGreatDoor
open Go.AM Go.Proofs
structure SB (n b:Nat):Prop where
 n2:2<=n
 n8:n<=8
 b1:1<=b
 b3:b<=3
 pw:n<=2 ^ b
 bits:PC.bitsOf (n:Int)=(b:Int)
section
variable {n b:Nat} {S:Int} {Hd:List Point} {N:List Node} {mp:List (List UInt8×Tree)}
end
end Go.Proofs.YtbgliammfkgfoaaGreatDoor
namespace Go.Proofs.YtbgliammfkgfoaaGreatDoor
open Go.AM Go.Proofs
theorem gat_map {α β:Type} (f:α->β):∀ (l:List α) (i:Nat),gat (fun _ d=>[f d]) l i=l.map f
 | [],_=>rfl
 | d::l,i=>by rw[gat,gat_map f l (i+1)]; rfl
section
variable {n b:Nat} {S:Int} {Hd:List Point} {N:List Node}
end
end Go.Proofs.YtbgliammfkgfoaaGreatDoor
namespace Go.Proofs.YtbgliammfkgfoaaGreatDoor
open Go.AM Go.Proofs
theorem small_eq (t:Tree) (x:Bh):∃ y,kV t x=some y/\(y=true->Sz t/\x.Syms.length<=20):=by
 unfold kV
 simp only[eF,bo,el,oM]
 cases h1:gtB (bf t.Nodes) 150 with
 | true=>exact⟨false,rfl,fun h=>by cases h⟩
 | false =>
  cases h2:gtB (bf t.Hood) 9 with
  | true=>exact⟨false,rfl,fun h=>by cases h⟩
  | false =>
   cases h3:gtB (bf x.Syms) 20 with
   | true=>exact⟨false,rfl,fun h=>by cases h⟩
   | false =>
    have e1:=of_decide_eq_false h1
    have e2:=of_decide_eq_false h2
    have e3:=of_decide_eq_false h3
    unfold bf at e1 e2 e3
    rw[jl t.Nodes (fun _ n=>gtB (bf n.Next) 20) false (by omega) (fun i n hn=>by
     unfold jd
     dsimp only
     rw[cb,decide_eq_true (cd hn),cond_true,cM,hn,fk (by have:=cd hn; omega)]
     simp only[bo,eF]) (by
     unfold jd
     dsimp only
     rw[cb,decide_eq_false (Nat.lt_irrefl _)]
     rfl)]
    cases hG:gtB x.Gens 3 && leB x.Gens 6 with
    | true=>exact⟨false,rfl,fun h=>by cases h⟩
    | false =>
     cases ha:gV (fun _ n=>gtB (bf n.Next) 20) t.Nodes 0 with
     | true=>exact⟨false,rfl,fun h=>by cases h⟩
     | false =>
      refine⟨_,rfl,fun _=>⟨⟨by omega,by omega,fun n hn=>?_⟩,by omega⟩⟩
      obtain⟨j,hj⟩:=List.getElem?_of_mem hn
      have:=im ha j n hj
      have:=of_decide_eq_false this
      unfold bf at this
      omega
theorem hood_pts {l:List Point} (h:jv l=true):1<=l.length/\l.length<=25/\∀ d∈l,-2<=d.X/\d.X<=2/\-2<=d.Y/\d.Y<=2:=by
 simp only[jv,Bool.and_eq_true,Bool.not_eq_true',Bool.or_eq_false_iff] at h
 have c1:=of_decide_eq_false h.1.1
 have c2:=of_decide_eq_false h.1.2
 unfold bf at c1 c2
 refine⟨by omega,by omega,fun d hd=>?_⟩
 obtain⟨i,hi⟩:=List.mem_iff_getElem?.1 hd
 have hb:=im h.2 i d hi
 rw[Nat.zero_add] at hb
 unfold badP at hb
 simp only[Bool.or_eq_false_iff] at hb
 obtain⟨e1,e2,e3,e4,_⟩:=hb
 have f1:=of_decide_eq_false e1
 have f2:=of_decide_eq_false e2
 have f3:=of_decide_eq_false e3
 have f4:=of_decide_eq_false e4
 omega
theorem ineg_in {a:Int} (h:-1000000<=a/\a<=1000000):cA .i64 a=-a:=by unfold cA; rw[i64_in (by omega)]; omega
theorem rad_of {l:List Point} (h:jv l=true):∃ r:Nat,di l=some (r:Int)/\gP l=some (r:Int)/\r<=2/\∀ d∈l,-(r:Int)<=d.X/\d.X<=r/\-(r:Int)<=d.Y/\d.Y<=r:=by
 obtain⟨h1,h25,hp⟩:=hood_pts h
 obtain⟨r,hr,hq⟩:=ov (b:=dj l) (n:=l.length) (s:=(0,0)) (fun i st=>st.2=(i:Int)/\0<=st.1/\st.1<=2/\∀ (j:Nat) d,j < i->l[j]?=some d->-st.1<=d.X/\d.X<=st.1/\-st.1<=d.Y/\d.Y<=st.1)
  (fun r=>0<=r/\r<=2/\∀ d∈l,-r<=d.X/\d.X<=r/\-r<=d.Y/\d.Y<=r) (by omega) ⟨rfl,Int.le_refl _,by show (0:Int)<=2; omega,fun j d hj=>by omega⟩
  (fun i st hi ⟨e,e1,e2,e3⟩=>by
   obtain⟨q,a⟩:=st
   dsimp only at e e1 e2 e3
   subst e
   have hx:l[i]?=some l[i]:=List.getElem?_eq_getElem hi
   generalize l[i]=d at hx
   obtain⟨d1,d2,d3,d4⟩:=hp d (List.mem_of_getElem? hx)
   refine .inl ⟨(gD (gD (gD (gD q d.X) (cA .i64 d.X)) d.Y) (cA .i64 d.Y),((i+1:Nat):Int)),?_,?_⟩
   ·unfold dj
    dsimp only
    rw[cb,decide_eq_true hi,cond_true,cM,hx,fk (by omega)]
    rfl
   ·rw[ineg_in (by omega),ineg_in (by omega)]
    have m1:=imax_is q d.X
    have m2:=imax_is (gD q d.X) (-d.X)
    have m3:=imax_is (gD (gD q d.X) (-d.X)) d.Y
    have m4:=imax_is (gD (gD (gD q d.X) (-d.X)) d.Y) (-d.Y)
    dsimp only
    refine⟨rfl,by omega,by omega,fun j d' hj hd'=>?_⟩
    rcases Nat.lt_succ_iff_lt_or_eq.1 hj with hj | rfl
    ·have:=e3 j d' hj hd'
     omega
    ·rw[hx] at hd'
     cases hd'
     omega)
  (fun st ⟨e,e1,e2,e3⟩=>by
   obtain⟨q,a⟩:=st
   dsimp only at e e1 e2 e3
   subst e
   refine⟨q,?_,e1,e2,fun d hd=>?_⟩
   ·unfold dj
    dsimp only
    rw[cb,decide_eq_false (Nat.lt_irrefl _)]
    rfl
   ·obtain⟨j,hj⟩:=List.mem_iff_getElem?.1 hd
    exact e3 j d (cd hj) hj)
 have hR:di l=some r:=by
  unfold di
  rw[hood_eq (by omega),h]
  simp only[bo,cond_true]
  rw[hr]
  rfl
 refine⟨r.toNat,by rw[hR]; congr 1; omega,by rw[rad_eq (by omega),hR]; congr 1; omega,by omega,fun d hd=>?_⟩
 have:=hq.2.2 d hd
 omega
def sizeB (g:Grid):Bool:=geB g.W 1 && (leB g.W 256 && (geB g.H 1 && (leB g.H 256 && (leB (bU .i64 g.W g.H) 4096 && (geB g.Edge 0 && leB g.Edge 2)))))
def badG (_:Nat) (s:Int):Bool:=ltB s 0 || geB s 8
def mE (g:Grid):Bool:=sizeB g && (eqB (bf g.Cells) (bU .i64 g.W g.H) && !gV badG g.Cells 0)
theorem loop_find {α:Type} {b:Int->Option (Lp Int (Int ⊕ Unit))} (l:List α) (bad:Nat->α->Bool) (hl:l.length < 1099511627776)
  (hs:∀ (i:Nat) (x:α),l[i]?=some x->b i=some (bif bad i x then .out (.inl (i:Int)) else .next ((i+1:Nat):Int)))
  (he:b (l.length:Nat)=some (.out (.inr ()))):∃ o,bm b bI 0=some o/\((gV bad l 0=true/\∃ k:Nat,o=.inl (k:Int)) \/ (gV bad l 0=false/\o=.inr ())):=by
 obtain⟨o,ho,hq⟩:=ov (b:=b) (n:=l.length) (s:=0) (fun i st=>st=(i:Int)/\∀ (j:Nat) x,j < i->l[j]?=some x->bad j x=false)
  (fun o=>(gV bad l 0=true/\∃ k:Nat,o=.inl (k:Int)) \/ (gV bad l 0=false/\o=.inr ())) hl ⟨rfl,fun j x hj=>by omega⟩
  (fun i st hi ⟨e,h⟩=>by
   subst e
   have hx:l[i]?=some l[i]:=List.getElem?_eq_getElem hi
   generalize l[i]=x at hx
   rw[hs i x hx]
   cases hb:bad i x with
   | false =>
    refine .inl ⟨_,rfl,rfl,fun j y hj hy=>?_⟩
    rcases Nat.lt_succ_iff_lt_or_eq.1 hj with hj | rfl
    ·exact h j y hj hy
    ·rw[hx] at hy; cases hy; exact hb
   | true =>
    refine .inr ⟨_,rfl,.inl ⟨?_,i,rfl⟩⟩
    rw[<- Bool.not_eq_false]
    intro ha
    have:=im ha i x hx
    rw[Nat.zero_add,hb] at this
    cases this)
  (fun st ⟨e,h⟩=>by
   subst e
   exact⟨_,he,.inr ⟨kM fun j x hx=>by rw[Nat.zero_add]; exact h j x (cd hx) hx,rfl⟩⟩)
 exact⟨o,ho,hq⟩
theorem grid_eq {g:Grid} (hl:g.Cells.length < 1099511627776):iD g=some (mE g):=by
 have hc:bP g.Cells=some (gV badG g.Cells 0):=by
  unfold bP cn
  obtain⟨o,ho,hq⟩:=loop_find (b:=bF g.Cells) g.Cells badG hl (fun i x hx=>by
   unfold bF jN badG
   dsimp only
   rw[cb,decide_eq_true (cd hx),cond_true,cM,hx,fk (by have:=cd hx; omega)]
   simp only[bo,eF,el]) (by
   unfold bF
   dsimp only
   rw[cb,decide_eq_false (Nat.lt_irrefl _)]
   rfl)
  rw[ho]
  rcases hq with ⟨h1,k,rfl⟩ | ⟨h1,rfl⟩
  ·rw[h1]
   simp only[bo]
   rw[show geB (k:Int) 0=true from decide_eq_true (by omega)]
  ·rw[h1]
   rfl
 unfold iD lM mE sizeB
 rw[hc]
 simp only[eF,bo,oM,fO]
theorem gridR_eq {g:Grid} (hl:g.Cells.length < 1099511627776):l7 g=some (mE g):=by
 unfold l7 oE mE sizeB
 rw[jl g.Cells badG false hl (fun i x hx=>by
  unfold jo badG
  dsimp only
  rw[cb,decide_eq_true (cd hx),cond_true,cM,hx,fk (by have:=cd hx; omega)]
  simp only[bo,eF,el]) (by
  unfold jo
  dsimp only
  rw[cb,decide_eq_false (Nat.lt_irrefl _)]
  rfl)]
 simp only[eF,bo,oM,el,fO,neB_eqB]
 generalize (geB g.W 1 && (leB g.W 256 && (geB g.H 1 && (leB g.H 256 && (leB (bU .i64 g.W g.H) 4096 && (geB g.Edge 0 && leB g.Edge 2))))))=z
 cases z<;>cases eqB (bf g.Cells) (bU .i64 g.W g.H)<;>cases gV badG g.Cells 0<;>rfl
structure GOk (g:Grid) (w h:Nat):Prop where
 W:g.W=(w:Int)
 H:g.H=(h:Int)
 w1:1<=w
 w2:w<=256
 h1:1<=h
 h2:h<=256
 len:g.Cells.length=w*h
 cell:∀ s∈g.Cells,0<=s/\s < 8
theorem grid_ok {g:Grid} (h:mE g=true):∃ w h,GOk g w h:=by
 unfold mE sizeB at h
 simp only[Bool.and_eq_true,Bool.not_eq_true'] at h
 obtain⟨⟨h1,h2,h3,h4,_⟩,h5,h6⟩:=h
 have e1:=of_decide_eq_true h1
 have e2:=of_decide_eq_true h2
 have e3:=of_decide_eq_true h3
 have e4:=of_decide_eq_true h4
 have hm0:0<=g.W*g.H:=Int.mul_nonneg (by omega) (by omega)
 have hm1:g.W*g.H<=256*256:=Int.mul_le_mul (by omega) (by omega) (by omega) (by omega)
 have e5:bf g.Cells=bU .i64 g.W g.H:=by simpa [eqB] using h5
 rw[kN (by omega)] at e5
 unfold bf at e5
 refine⟨g.W.toNat,g.H.toNat,by omega,by omega,by omega,by omega,by omega,by omega,?_,fun s hs=>?_⟩
 ·have:((g.W.toNat*g.H.toNat:Nat):Int)=g.W*g.H:=by rw[Int.natCast_mul,Int.toNat_of_nonneg (by omega),Int.toNat_of_nonneg (by omega)]
  omega
 ·obtain⟨j,hj⟩:=List.mem_iff_getElem?.1 hs
  have:=im h6 j s hj
  simp only[badG,Bool.or_eq_false_iff] at this
  have f1:=of_decide_eq_false this.1
  have f2:=of_decide_eq_false this.2
  omega
end Go.Proofs.YtbgliammfkgfoaaGreatDoor
namespace Go.Proofs.YtbgliammfkgfoaaGreatDoor
open Go.AM Go.Proofs
set_option maxRecDepth 100000 in
theorem alive48:lq=some true:=by kernel_rfl
end Go.Proofs.YtbgliammfkgfoaaGreatDoor
namespace Go.Proofs.YtbgliammfkgfoaaGreatDoor
open Go.AM Go.Proofs
theorem idivN {i w:Nat} (hw:1<=w) (hi:i<=1000000) (hw2:w<=1000000):irem (i:Int) (w:Int)=some ((i % w:Nat):Int)/\iquo .i64 (i:Int) (w:Int)=some ((i / w:Nat):Int):=by
 unfold irem iquo
 rw[if_neg (by omega),if_neg (by omega)]
 have h1:i / w<=i:=Nat.div_le_self i w
 have h2:Int.tdiv (i:Int) (w:Int)=((i / w:Nat):Int):=rfl
 have h3:Int.tmod (i:Int) (w:Int)=((i % w:Nat):Int):=rfl
 refine⟨by rw[h3],?_⟩
 rw[h2]
 have h4:(0:Int)<=((i / w:Nat):Int):=Int.natCast_nonneg _
 clear h2 h3
 generalize i / w=q at h1 h4
 show some (IntKind.i64.wrap (q:Int))=_
 rw[i64_in (by omega)]
def chkI (t:Tree) (g:Grid):Int:=bif i1 t then (bif mE g then (bif gV (fun _ s=>geB s t.States) g.Cells 0 then 10 else 0) else 2) else 11
theorem fits_is {t:Tree} {g:Grid} (hs:Sz t) (hl:g.Cells.length < 1099511627776):fL t g=some (chkI t g):=by
 have hc:bM g.Cells t=some (gV (fun _ s=>geB s t.States) g.Cells 0):=by
  unfold bM ce
  obtain⟨o,ho,hq⟩:=loop_find (b:=bB g.Cells t) g.Cells (fun _ s=>geB s t.States) hl (fun i x hx=>by
   unfold bB ib
   dsimp only
   rw[cb,decide_eq_true (cd hx),cond_true,cM,hx,fk (by have:=cd hx; omega)]
   simp only[bo,eF]) (by
   unfold bB
   dsimp only
   rw[cb,decide_eq_false (Nat.lt_irrefl _)]
   rfl)
  rw[ho]
  rcases hq with ⟨h1,k,rfl⟩ | ⟨h1,rfl⟩
  ·rw[h1]
   simp only[bo]
   rw[show geB (k:Int) 0=true from decide_eq_true (by omega)]
  ·rw[h1]
   rfl
 unfold fL chkI
 rw[tree_eq hs,grid_eq hl,hc]
 cases i1 t<;>cases mE g<;>cases gV (fun _ s=>geB s t.States) g.Cells 0<;>rfl
theorem check_is {t:Tree} {g:Grid} (hs:Sz t) (hl:g.Cells.length < 1099511627776):l9 t g=some (chkI t g):=by
 unfold l9 chkI
 rw[treeR_eq hs,gridR_eq hl,jl g.Cells (fun _ s=>geB s t.States) 10 hl (fun i x hx=>by
  unfold ji
  dsimp only
  rw[cb,decide_eq_true (cd hx),cond_true,cM,hx,fk (by have:=cd hx; omega)]
  simp only[bo,eF]) (by
  unfold ji
  dsimp only
  rw[cb,decide_eq_false (Nat.lt_irrefl _)]
  rfl)]
 cases i1 t<;>cases mE g<;>cases gV (fun _ s=>geB s t.States) g.Cells 0<;>rfl
def seeI (t:Tree) (cells:List Int) (w r x y:Nat):List Int:=t.Hood.map fun d=>cells.getD (((y:Int)+r+d.Y).toNat*w+((x:Int)+r+d.X).toNat) 0
section
variable {t:Tree} {cells:List Int} {w h r:Nat}
structure SeeOk (t:Tree) (cells:List Int) (w h r:Nat):Prop where
 w2:w<=300
 h2:h<=300
 r2:r<=2
 h25:t.Hood.length<=25
 pts:∀ d∈t.Hood,-(r:Int)<=d.X/\d.X<=r/\-(r:Int)<=d.Y/\d.Y<=r
theorem SeeOk.idx (S:SeeOk t cells w h r) {x y:Nat} (hx:x+2*r < w) (hy:y+2*r < h) {d:Point} (hd:d∈t.Hood) :
  bu .i64 (bu .i64 (bu .i64 (bU .i64 (bu .i64 (bu .i64 (y:Int) (r:Int)) d.Y) (w:Int)) (x:Int)) (r:Int)) d.X=((((y:Int)+r+d.Y).toNat*w+((x:Int)+r+d.X).toNat:Nat):Int)/\((y:Int)+r+d.Y).toNat*w+((x:Int)+r+d.X).toNat < w*h:=by
 obtain⟨d1,d2,d3,d4⟩:=S.pts d hd
 have hw:=S.w2
 have hh:=S.h2
 have hr:=S.r2
 obtain⟨p,hp⟩:∃ p:Nat,(y:Int)+r+d.Y=(p:Int):=⟨((y:Int)+r+d.Y).toNat,by omega⟩
 obtain⟨q,hq⟩:∃ q:Nat,(x:Int)+r+d.X=(q:Int):=⟨((x:Int)+r+d.X).toNat,by omega⟩
 have hpl:p < h:=by omega
 have hql:q < w:=by omega
 have hm:p*w<=300*300:=Nat.mul_le_mul (by omega) hw
 have hm':=Int.natCast_mul p w
 rw[hp,hq,Int.toNat_natCast,Int.toNat_natCast]
 refine⟨?_,?_⟩
 ·rw[iadd_in (a:=(y:Int)) (by omega),iadd_in (a:=(y:Int)+r) (by omega),hp,kN (by omega),<- hm',iadd_in (b:=(x:Int)) (by omega),iadd_in (b:=(r:Int)) (by omega),iadd_in (b:=d.X) (by omega)]
  omega
 ·have:(p+1)*w<=h*w:=Nat.mul_le_mul_right _ hpl
  rw[Nat.add_mul] at this
  rw[Nat.mul_comm w h]
  omega
theorem state_is (S:SeeOk t cells w h r) (hl:w*h<=cells.length) {x y:Nat} (hx:x+2*r < w) (hy:y+2*r < h):bm (eX t cells (w:Int) (r:Int) (x:Int) (y:Int)) bI (0,[])=some (seeI t cells w r x y):=by
 have h25:=S.h25
 have hg:=loop_gat (b:=eX t cells (w:Int) (r:Int) (x:Int) (y:Int)) t.Hood (fun _ d=>[cells.getD (((y:Int)+r+d.Y).toNat*w+((x:Int)+r+d.X).toNat) 0]) 1 1000 [] (fun _ _=>Nat.le_refl _) (by omega) (by simp; omega)
  (fun k d ac hdk hac=>by
   obtain⟨e1,e2⟩:=S.idx hx hy (List.mem_of_getElem? hdk)
   unfold eX
   dsimp only
   rw[cb,decide_eq_true (cd hdk),cond_true,cM,hdk,bo,e1,cM,List.getElem?_eq_getElem (by omega),bo,appL_ok (by decide) (by decide) (by simp; omega),fk (by have:=cd hdk; omega),List.getD_eq_getElem?_getD,List.getElem?_eq_getElem (by omega)]
   rfl)
  (fun ac=>by
   unfold eX
   dsimp only
   rw[cb,decide_eq_false (Nat.lt_irrefl _)]
   rfl)
 rw[hg,List.nil_append,gat_map]
 rfl
def valI (t:Tree) (cells:List Int) (w r x y:Nat):Int:=(walkV t (seeI t cells w r x y) (bK .i64 (bf t.Nodes) 1)).getD 0
theorem see_in (S:SeeOk t cells w h r) (hl:w*h<=cells.length) (hc:∀ s∈cells,0<=s/\s < t.States) {x y:Nat} (hx:x+2*r < w) (hy:y+2*r < h):(seeI t cells w r x y).length=t.Hood.length/\∀ s∈seeI t cells w r x y,0<=s/\s < t.States:=by
 refine⟨by unfold seeI; rw[List.length_map],fun s hs=>?_⟩
 unfold seeI at hs
 obtain⟨d,hd,rfl⟩:=List.mem_map.1 hs
 obtain⟨_,e2⟩:=S.idx hx hy hd
 rw[List.getD_eq_getElem?_getD,List.getElem?_eq_getElem (by omega)]
 exact hc _ (List.getElem_mem _)
theorem val_is (S:SeeOk t cells w h r) (hok:i1 t=true) (hs:Sz t) (hl:w*h<=cells.length) (hc:∀ s∈cells,0<=s/\s < t.States) {x y:Nat} (hx:x+2*r < w) (hy:y+2*r < h) :
  walkV t (seeI t cells w r x y) (bK .i64 (bf t.Nodes) 1)=some (valI t cells w r x y)/\0<=valI t cells w r x y/\valI t cells w r x y < t.States:=by
 obtain⟨l1,l2⟩:=see_in S hl hc hx hy
 obtain⟨v,hv,hv2⟩:=value_total (ok_of hok) hs l1 l2
 have:valI t cells w r x y=v:=by unfold valI; rw[hv]; rfl
 rw[this]
 exact⟨hv,hv2⟩
theorem stateR_is (S:SeeOk t cells w h r) (hok:i1 t=true) (hs:Sz t) (hl:w*h<=cells.length) (hc:∀ s∈cells,0<=s/\s < t.States) {x y:Nat} (hx:x+2*r < w) (hy:y+2*r < h) :
  lg t cells (w:Int) (r:Int) (x:Int) (y:Int)=some (valI t cells w r x y):=by
 obtain⟨l1,l2⟩:=see_in S hl hc hx hy
 have h25:=S.h25
 unfold lg
 rw[state_is S hl hx hy,bo,valueR_eq (by omega),(val_is S hok hs hl hc hx hy).1]
 rfl
theorem eval_is (S:SeeOk t cells w h r) (hok:i1 t=true) (hs:Sz t) (hl:w*h<=cells.length) (hc:∀ s∈cells,0<=s/\s < t.States) {x y:Nat} (hx:x+2*r < w) (hy:y+2*r < h) :
  kU t (seeI t cells w r x y)=some (valI t cells w r x y,0):=by
 obtain⟨l1,l2⟩:=see_in S hl hc hx hy
 have h25:=S.h25
 have hcf:bS (seeI t cells w r x y) t=some false:=by
  unfold bS cp
  obtain⟨o,ho,hq⟩:=loop_find (b:=bJ (seeI t cells w r x y) t) (seeI t cells w r x y) (fun _ s=>ltB s 0 || geB s t.States) (by omega) (fun i z hz=>by
   unfold bJ kO
   dsimp only
   rw[cb,decide_eq_true (cd hz),cond_true,cM,hz,fk (by have:=cd hz; omega)]
   simp only[bo,eF,el]) (by
   unfold bJ
   dsimp only
   rw[cb,decide_eq_false (Nat.lt_irrefl _)]
   rfl)
  have hf:gV (fun _ s=>ltB s 0 || geB s t.States) (seeI t cells w r x y) 0=false:=kM fun j z hz=>by
   obtain⟨z1,z2⟩:=l2 z (List.mem_of_getElem? hz)
   rw[show ltB z 0=false from decide_eq_false (by omega),show geB z t.States=false from decide_eq_false (by omega)]
   rfl
  rw[ho]
  rcases hq with ⟨h1,k,rfl⟩ | ⟨h1,rfl⟩
  ·rw[hf] at h1; cases h1
  ·rfl
 unfold kU
 rw[tree_eq hs,hok,bo,show fO true=false from rfl,cond_false,show neB (bf (seeI t cells w r x y)) (bf t.Hood)=false from by simp[neB,bf,l1],cond_false,hcf,bo,cond_false,value_eq (by omega),(val_is S hok hs hl hc hx hy).1]
 rfl
end
theorem same_grid {g:Grid} (hl:g.Cells.length < 1099511627776):jB g g=some true:=by
 unfold jB
 rw[jl g.Cells (fun _ _=>false) false hl (fun i x hx=>by
  unfold jO
  dsimp only
  rw[cb,decide_eq_true (cd hx),cond_true,cM,hx,fk (by have:=cd hx; omega)]
  simp only[bo,neB,bne_self_eq_false]
  rfl) (by
  unfold jO
  dsimp only
  rw[cb,decide_eq_false (Nat.lt_irrefl _)]
  rfl)]
 rw[show gV (fun _ (_:Int)=>false) g.Cells 0=false from kM fun _ _ _=>rfl]
 simp only[neB,bne_self_eq_false,cond_false]
 rfl
def imgI (t:Tree) (g:Grid) (w h r:Nat):Grid:=⟨((w - 2*r:Nat):Int),((h - 2*r:Nat):Int),0,(List.range ((w - 2*r)*(h - 2*r))).map fun i=>valI t g.Cells w r (i % (w - 2*r)) (i / (w - 2*r))⟩
section
variable {t:Tree} {g:Grid} {w h r:Nat}
theorem imgR_loop (S:SeeOk t g.Cells w h r) (hok:i1 t=true) (hs:Sz t) (hl:g.Cells.length=w*h) (hc:∀ s∈g.Cells,0<=s/\s < t.States) (hW:g.W=(w:Int)) (hH:g.H=(h:Int)) (hw:2*r < w) (hh:2*r < h) :
  bm (fV t g (r:Int)) bI (0,[])=some (imgI t g w h r).Cells:=by
 have hw2:=S.w2
 have hh2:=S.h2
 have hr2:=S.r2
 have e1:bK .i64 g.W (bU .i64 2 (r:Int))=((w - 2*r:Nat):Int):=by rw[hW,kN (by omega),oq (by omega)]; omega
 have e2:bK .i64 g.H (bU .i64 2 (r:Int))=((h - 2*r:Nat):Int):=by rw[hH,kN (by omega),oq (by omega)]; omega
 have hm:(w - 2*r)*(h - 2*r)<=300*300:=Nat.mul_le_mul (by omega) (by omega)
 have e3:bU .i64 ((w - 2*r:Nat):Int) ((h - 2*r:Nat):Int)=(((w - 2*r)*(h - 2*r):Nat):Int):=by
  have:=Int.natCast_mul (w - 2*r) (h - 2*r)
  rw[kN (by omega),this]
 obtain⟨o,ho,rfl⟩:=ov (b:=fV t g (r:Int)) (n:=(w - 2*r)*(h - 2*r)) (s:=(0,[])) (fun i st=>st=((i:Int),(List.range i).map fun i=>valI t g.Cells w r (i % (w - 2*r)) (i / (w - 2*r)))) (fun o=>o=(imgI t g w h r).Cells) (by omega) rfl
  (fun i st hi e=>by
   subst e
   refine .inl ⟨_,?_,rfl⟩
   obtain⟨q1,q2⟩:=idivN (i:=i) (w:=w - 2*r) (by omega) (by omega) (by omega)
   have hx:i % (w - 2*r)+2*r < w:=by have:=Nat.mod_lt i (show w - 2*r > 0 by omega); omega
   have hy:i / (w - 2*r)+2*r < h:=by
    have:=Nat.div_lt_of_lt_mul hi
    omega
   unfold fV
   dsimp only
   rw[e1,e2,e3,show ltB (i:Int) (((w - 2*r)*(h - 2*r):Nat):Int)=true from decide_eq_true (by omega),cond_true,q1,bo,q2,bo,hW,stateR_is S hok hs (by omega) hc hx hy,bo,appL_ok (by decide) (by decide) (by simp; omega),bo,fk (by omega),List.range_succ,List.map_append]
   rfl)
  (fun st e=>by
   subst e
   refine⟨_,?_,rfl⟩
   unfold fV
   dsimp only
   rw[e1,e2,e3,show ltB (((w - 2*r)*(h - 2*r):Nat):Int) (((w - 2*r)*(h - 2*r):Nat):Int)=false from decide_eq_false (by omega)]
   rfl)
 exact ho
theorem img_loop (S:SeeOk t g.Cells w h r) (hok:i1 t=true) (hs:Sz t) (hl:g.Cells.length=w*h) (hc:∀ s∈g.Cells,0<=s/\s < t.States) (hW:g.W=(w:Int)) (hH:g.H=(h:Int)) (hw:2*r < w) (hh:2*r < h) :
  bm (dv t g (r:Int)) bI (0,[])=some (imgI t g w h r).Cells:=by
 have hw2:=S.w2
 have hh2:=S.h2
 have hr2:=S.r2
 have e1:bK .i64 g.W (bU .i64 2 (r:Int))=((w - 2*r:Nat):Int):=by rw[hW,kN (by omega),oq (by omega)]; omega
 have e2:bK .i64 g.H (bU .i64 2 (r:Int))=((h - 2*r:Nat):Int):=by rw[hH,kN (by omega),oq (by omega)]; omega
 obtain⟨W,hW'⟩:∃ W,W=w - 2*r:=⟨_,rfl⟩
 obtain⟨H,hH'⟩:∃ H,H=h - 2*r:=⟨_,rfl⟩
 have hm:W*H<=300*300:=Nat.mul_le_mul (by omega) (by omega)
 rw[<- hW'] at e1
 rw[<- hH'] at e2
 let L:Nat->List Int:=fun i=>(List.range i).map fun i=>valI t g.Cells w r (i % W) (i / W)
 have hinner:∀ y,y < H->bm (dt t g (r:Int) (y:Int)) bI (0,L (y*W))=some (L ((y+1)*W)):=fun y hy=>by
  have hyw:(y+1)*W<=H*W:=Nat.mul_le_mul_right _ hy
  rw[Nat.mul_comm H W] at hyw
  have hyw2:(y+1)*W=y*W+W:=by rw[Nat.add_mul,Nat.one_mul]
  obtain⟨o,ho,rfl⟩:=ov (b:=dt t g (r:Int) (y:Int)) (n:=W) (s:=(0,L (y*W))) (fun x st=>st=((x:Int),L (y*W+x))) (fun o=>o=L ((y+1)*W)) (by omega) rfl
   (fun x st hx e=>by
    subst e
    refine .inl ⟨_,?_,rfl⟩
    have hst:gQ t g (r:Int) (y:Int) (x:Int) (L (y*W+x))=eX t g.Cells (w:Int) (r:Int) (x:Int) (y:Int):=by rw[<- hW]; rfl
    have hd1:(y*W+x) % W=x:=by rw[Nat.mul_comm,Nat.mul_add_mod,Nat.mod_eq_of_lt hx]
    have hd2:(y*W+x) / W=y:=by rw[Nat.mul_comm,Nat.mul_add_div (by omega),Nat.div_eq_of_lt hx,Nat.add_zero]
    have hll:(L (y*W+x)).length=y*W+x:=by simp[L]
    unfold dt
    dsimp only
    rw[e1,show ltB (x:Int) (W:Int)=true from decide_eq_true (by omega),cond_true,hst,state_is S (by omega) (by omega) (by omega),bo,eval_is S hok hs (by omega) hc (by omega) (by omega),bo,appL_ok (by decide) (by decide) (by rw[hll]; simp; omega),bo,fk (by omega)]
    show _=some (Lp.next (_,(List.range (y*W+x+1)).map _))
    rw[List.range_succ,List.map_append,List.map_singleton,hd1,hd2])
   (fun st e=>by
    subst e
    refine⟨_,?_,rfl⟩
    unfold dt
    dsimp only
    rw[e1,show ltB (W:Int) (W:Int)=false from decide_eq_false (by omega),cond_false,hyw2])
  exact ho
 obtain⟨o,ho,rfl⟩:=ov (b:=dv t g (r:Int)) (n:=H) (s:=(0,[])) (fun y st=>st=((y:Int),L (y*W))) (fun o=>o=(imgI t g w h r).Cells) (by omega) (by simp[L])
  (fun y st hy e=>by
   subst e
   refine .inl ⟨_,?_,rfl⟩
   unfold dv
   dsimp only
   rw[e2,show ltB (y:Int) (H:Int)=true from decide_eq_true (by omega),cond_true,hinner y hy,bo,fk (by omega)])
  (fun st e=>by
   subst e
   refine⟨_,?_,rfl⟩
   unfold dv
   dsimp only
   rw[e2,show ltB (H:Int) (H:Int)=false from decide_eq_false (by omega),cond_false,Nat.mul_comm H W]
   subst hW' hH'
   rfl)
 exact ho
end
theorem image_is {t:Tree} {g:Grid} (hs:Sz t) (hl:g.Cells.length<=1000000):∃ e,f0 t g=some e/\l8 t g=some e/\e.1.Cells.length<=1000000 /\
  (e.2=0->∃ w h r:Nat,GOk g w h/\i1 t=true/\SeeOk t g.Cells w h r/\(∀ s∈g.Cells,0<=s/\s < t.States)/\2*r < w/\2*r < h/\di t.Hood=some (r:Int)/\gP t.Hood=some (r:Int)/\e.1=imgI t g w h r):=by
 unfold f0 l8
 rw[fits_is hs (by omega),check_is hs (by omega),bo,bo]
 by_cases h0:chkI t g=0
 ·have hok:i1 t=true:=by
   unfold chkI at h0
   cases ht:i1 t with
   | true=>rfl
   | false=>rw[ht] at h0; cases h0
  have hgo:mE g=true:=by
   unfold chkI at h0
   rw[hok] at h0
   cases ht:mE g with
   | true=>rfl
   | false=>rw[ht] at h0; cases h0
  have hst:gV (fun _ s=>geB s t.States) g.Cells 0=false:=by
   unfold chkI at h0
   rw[hok,hgo] at h0
   cases ht:gV (fun _ s=>geB s t.States) g.Cells 0 with
   | false=>rfl
   | true=>rw[ht] at h0; cases h0
  obtain⟨w,h,G⟩:=grid_ok hgo
  obtain⟨r,hr1,hr2,hr3,hr4⟩:=rad_of (by
   have:=hok
   simp only[i1,Bool.and_eq_true,Bool.not_eq_true',Bool.or_eq_false_iff] at this
   simpa using this.1.2.2.1)
  have h25:=(ok_of hok).h25
  have S:SeeOk t g.Cells w h r:=⟨by have:=G.w2; omega,by have:=G.h2; omega,hr3,h25,hr4⟩
  have hc:∀ s∈g.Cells,0<=s/\s < t.States:=fun s hs'=>by
   obtain⟨j,hj⟩:=List.mem_iff_getElem?.1 hs'
   have:=of_decide_eq_false (im hst j s hj)
   have:=(G.cell s hs').1
   omega
  have hw2:=G.w2
  have hh2:=G.h2
  have e1:bK .i64 g.W (bU .i64 2 (r:Int))=(w:Int) - 2*r:=by rw[G.W,kN (by omega),oq (by omega)]
  have e2:bK .i64 g.H (bU .i64 2 (r:Int))=(h:Int) - 2*r:=by rw[G.H,kN (by omega),oq (by omega)]
  have e3:bU .i64 2 (r:Int)=2*(r:Int):=kN (by omega)
  rw[h0,show neB (0:Int) 0=false from rfl,cond_false,cond_false,hr1,hr2,bo,bo]
  by_cases hw:2*r < w
  ·by_cases hh:2*r < h
   ·refine⟨(imgI t g w h r,0),?_,?_,?_,fun _=>⟨w,h,r,G,hok,S,hc,hw,hh,rfl,rfl,rfl⟩⟩
    ·rw[img_loop S hok hs G.len hc G.W G.H hw hh,e1,e2,show ltB ((w:Int) - 2*r) 1=false from decide_eq_false (by omega),show ltB ((h:Int) - 2*r) 1=false from decide_eq_false (by omega)]
     simp only[cond_false,bo]
     unfold imgI
     rw[show ((w - 2*r:Nat):Int)=(w:Int) - 2*r from by omega,show ((h - 2*r:Nat):Int)=(h:Int) - 2*r from by omega]
    ·rw[imgR_loop S hok hs G.len hc G.W G.H hw hh,e1,e2,e3,G.W,G.H,show leB (w:Int) (2*(r:Int))=false from decide_eq_false (by omega),show leB (h:Int) (2*(r:Int))=false from decide_eq_false (by omega)]
     simp only[cond_false,bo]
     unfold imgI
     rw[show ((w - 2*r:Nat):Int)=(w:Int) - 2*r from by omega,show ((h - 2*r:Nat):Int)=(h:Int) - 2*r from by omega]
    ·show ((List.range ((w - 2*r)*(h - 2*r))).map _).length<=1000000
     have:(w - 2*r)*(h - 2*r)<=256*256:=Nat.mul_le_mul (by omega) (by omega)
     simp
     omega
   ·refine⟨(⟨0,0,0,[]⟩,6),?_,?_,by simp,fun h=>by cases h⟩
    ·rw[e1,e2,show ltB ((h:Int) - 2*r) 1=true from decide_eq_true (by omega)]
     cases ltB ((w:Int) - 2*r) 1<;>rfl
    ·rw[e3,G.W,G.H,show leB (h:Int) (2*(r:Int))=true from decide_eq_true (by omega)]
     cases leB (w:Int) (2*(r:Int))<;>rfl
  ·refine⟨(⟨0,0,0,[]⟩,6),?_,?_,by simp,fun h=>by cases h⟩
   ·rw[e1,e2,show ltB ((w:Int) - 2*r) 1=true from decide_eq_true (by omega)]
    rfl
   ·rw[e3,G.W,G.H,show leB (w:Int) (2*(r:Int))=true from decide_eq_true (by omega)]
    rfl
 ·have hne:neB (chkI t g) 0=true:=by simpa [neB] using h0
  rw[hne,cond_true,cond_true]
  exact⟨_,rfl,rfl,by simp,fun h=>(h0 h).elim⟩
theorem images_true (t:Tree) (g:Grid):fM t g=some true:=by
 obtain⟨y,hy,hs⟩:=small_eq t ⟨0,0,0,0,0,[]⟩
 unfold fM
 rw[hy,alive48]
 cases y with
 | false=>rfl
 | true =>
  obtain⟨hsz,_⟩:=hs rfl
  simp only[bo,fO,Bool.not_true,cond_false]
  cases hc:gtB (bf g.Cells) 600 with
  | true=>rfl
  | false =>
   have hl:=of_decide_eq_false hc
   unfold bf at hl
   obtain⟨e,h1,h2,h3,_⟩:=image_is hsz (g:=g) (by omega)
   rw[h1,h2]
   simp only[cond_false,bo]
   rw[same_grid (by omega)]
   simp only[bo,cond_true]
   rw[show eqB e.2 e.2=true from by simp[eqB]]
   rfl
end Go.Proofs.YtbgliammfkgfoaaGreatDoor
