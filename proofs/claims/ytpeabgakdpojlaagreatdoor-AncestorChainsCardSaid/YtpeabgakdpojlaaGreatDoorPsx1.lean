/- Lemmas for the law. -/
import Derived.Test.YtpeabgakdpojlaaGreatDoorPlx1
namespace Go.Proofs.YtpeabgakdpojlaaGreatDoor
open Go.AM Go.Proofs
theorem imax_is (a b:Int):(ja a b=a\/ja a b=b)/\a<=ja a b/\b<=ja a b:=by unfold ja;omega
theorem gtB_not (a b:Int):gtB a b=!leB a b:=by grind[gtB,leB]
theorem loop_iv_aux {St T:Type} {b:St->Option (Lp St T)} {n:Nat} (Ia:Nat->St->Prop) (Q:T->Prop) (step:∀i s,i<n->Ia i s->(∃s',b s=some (.next s')/\Ia (i+1) s')\/(∃t,b s=some (.out t)/\Q t)) (fin:∀s,Ia n s->∃t,b s=some (.out t)/\Q t) :∀(k i:Nat) (s:St),i+k=n->Ia i s->∀m,k<m->∃t,bv b m s=some t/\Q t
 |0,i,s,hi,h,m,hm=>by
  obtain⟨m,rfl⟩:∃j,m=j+1:=⟨m-1,by omega⟩
  obtain rfl:i=n:=by omega
  grind[bv]
 |k+1,i,s,hi,h,m,hm=>by
  obtain⟨m,rfl⟩:∃j,m=j+1:=⟨m-1,by omega⟩
  rcases step i s (by omega) h with⟨s',hs,h'⟩|⟨t,ht,hq⟩;{obtain⟨t,ht,hq⟩:=loop_iv_aux Ia Q step fin k (i+1) s' (by omega) h' m (by omega);simp_all[bv]};simp_all[bv]
theorem d5 {St T:Type} {b:St->Option (Lp St T)} {n:Nat} (Ia:Nat->St->Prop) (Q:T->Prop) (hn:n<1099511627776) {s:St} (h0:Ia 0 s) (step:∀i s,i<n->Ia i s->(∃s',b s=some (.next s')/\Ia (i+1) s')\/(∃t,b s=some (.out t)/\Q t)) (fin:∀s,Ia n s->∃t,b s=some (.out t)/\Q t) :∃t,bv b bL s=some t/\Q t:=loop_iv_aux Ia Q step fin n 0 s (by omega) h0 bL hn
theorem mget_mset {κ ν:Type} [DecidableEq κ] (k:κ) (v:ν):∀(m:List (κ×ν)) (q:κ),gx (ga m k v) q=if k=q then some v else gx m q|[],q=>by simp[ga,gx]|x::m,q=>by unfold ga;by_cases hx:x.1=k;{rw[if_pos hx];by_cases hq:k=q;{simp[gx,hq]};{simp[gx,hq,hx]}};{rw[if_neg hx];simp only[gx];rw[mget_mset k v m q];by_cases hq:k=q;{subst hq;simp[hx]};{simp[hq]}}
def DD:Nat->Type|0=>Int|L+1=>List (DD L)
def DD.dec:∀L,DecidableEq (DD L)|0=>inferInstanceAs (DecidableEq Int)|L+1=>@instDecidableEqList _ (DD.dec L)
instance (L:Nat):DecidableEq (DD L):=DD.dec L
def DD.dflt:∀L,DD L|0=>(0:Int)|L+1=>([]:List (DD L))
instance (L:Nat):Inhabited (DD L):=⟨DD.dflt L⟩
def DD.kids {L:Nat} (u:DD (L+1)):List (DD L):=u
def DD.of {L:Nat} (l:List (DD L)):DD (L+1):=l
theorem DD.ext {L:Nat} {u v:DD (L+1)} (h:u.kids=v.kids):u=v:=h
def Rep (l:AE):(L:Nat)->Int->DD L->Prop|0,k,u=>k=u|L+1,k,u=>∃x,idx l k=some x/\x.Level=(L:Int)+1/\x.Next.length=u.kids.length/\∀(s:Nat) k' d,x.Next[s]?=some k'->u.kids[s]?=some d->Rep l L k' d
theorem Rep.det {l:AE}:∀{L:Nat} {k:Int} {u v:DD L},Rep l L k u->Rep l L k v->u=v
 |0,_,_,_,h,h'=>(show _=_ from h).symm.trans h'|L+1,k,u,v,⟨x,h1,_,h3,h4⟩,⟨x',h1',_,h3',h4'⟩=>by
  obtain rfl:=Option.some.inj (h1.symm.trans h1');apply DD.ext;apply List.ext_getElem?;intro s;cases hs:x.Next[s]? with
  |none=>simp_all|some k'=>have hlt:=(List.getElem?_eq_some_iff.1 hs).1;have e1:u.kids[s]?=some (u.kids[s]'(by omega)):=zB;have e2:v.kids[s]?=some (v.kids[s]'(by omega)):=zB;rw[e1,e2,(h4 s k' _ hs e1).det (h4' s k' _ hs e2)]
theorem fO {I:Type} {l:List I} {k:Int} {x:I} (h:idx l k=some x):0<=k/\k<l.length/\l[k.toNat]?=some x:=by grind[idx]
theorem idx_app {I:Type} {l m:List I} {k:Int} {x:I} (h:idx l k=some x):idx (l++m) k=some x:=by obtain⟨h1,h2,h3⟩:=fO h;simp_all[fE,List.getElem?_append_left]
theorem Rep.app {l m:AE}:∀{L:Nat} {k:Int} {u:DD L},Rep l L k u->Rep (l++m) L k u|0,_,_,h=>h|_L+1,_k,_u,⟨x,h1,h2,h3,h4⟩=>⟨x,idx_app h1,h2,h3,λs k' d h h'=>(h4 s k' d h h').app⟩
structure Good (n:Nat) (l:AE):Prop where
 lev:∀(i:Nat) x,l[i]?=some x->1<=x.Level
 len:∀(i:Nat) x,l[i]?=some x->x.Next.length=n
 kid:∀(i:Nat) x,l[i]?=some x->1<x.Level->∀k∈x.Next,0<=k/\k<i/\∃y,l[k.toNat]?=some y/\y.Level=x.Level-1
 st:∀(i:Nat) x,l[i]?=some x->x.Level=1->∀k∈x.Next,0<=k/\k<n
def Reg (n:Nat):(L:Nat)->DD L->Prop|0,u=>0<=(show Int from u)/\(show Int from u)<n|L+1,u=>u.kids.length=n/\∀d∈u.kids,Reg n L d
theorem choose_list {I β:Type} {R:I->β->Prop}:∀{l:List I},(∀x∈l,∃y,R x y)->∃m:List β,l.length=m.length/\∀(s:Nat) x y,l[s]?=some x->m[s]?=some y->R x y|[],_=>⟨[],rfl,λs x y h=>by simp at h⟩|x::l,h=>by obtain⟨y,hy⟩:=h x (by simp);obtain⟨m,h1,h2⟩:=choose_list (l:=l) λz hz=>h z (by simp[hz]);refine⟨y::m,by simp[h1],λs a b ha hb=>?_⟩;grind
theorem Good.rep {n:Nat} {l:AE} (h:Good n l):∀(L i:Nat) x,l[i]?=some x->x.Level=(L:Int)+1->∃u:DD (L+1),Rep l (L+1) i u/\Reg n (L+1) u
 |0,i,x,hx,hL=>⟨DD.of (show List (DD 0)from x.Next),⟨x,by rw[bE];exact hx,hL,rfl,λs k' d h1 h2=>by have h2':x.Next[s]?=some d:=h2;rw[h1] at h2';exact Option.some.inj h2'⟩,h.len i x hx,λd hd=>h.st i x hx (by omega) d hd⟩|L+1,i,x,hx,hL=>by
  obtain⟨m,h1,h2⟩:=choose_list (l:=x.Next) (R:=λk (d:DD (L+1))=>Rep l (L+1) k d/\Reg n (L+1) d) λk hk=>by obtain⟨k0,_,y,hy,hl⟩:=h.kid i x hx (by omega) k hk;obtain⟨u,hu,hr⟩:=h.rep L k.toNat y hy (by omega);grind
  refine⟨DD.of m,⟨x,by rw[bE];exact hx,hL,h1,λs k' d e1 e2=>(h2 s k' d e1 e2).1⟩,?_,λd hd=>?_⟩;{show m.length=n;rw[<- h1,h.len i x hx]};{obtain⟨s,hs⟩:=List.mem_iff_getElem?.1 (show d∈m from hd);have hlt:=(List.getElem?_eq_some_iff.1 hs).1;exact(h2 s (x.Next[s]'(by omega)) d (List.getElem?_eq_getElem _) hs).2}
theorem Rep.reg {n:Nat} {l:AE} (h:Good n l) {L:Nat} {k:Int} {u:DD (L+1)} (hr:Rep l (L+1) k u):Reg n (L+1) u:=by obtain⟨x,h1,h2,_⟩:=id hr;obtain⟨k0,k1,k2⟩:=fO h1;obtain⟨v,hv,hg⟩:=h.rep L k.toNat x k2 h2;rw[show ((k.toNat:Nat):Int)=k by omega] at hv;rw[hr.det hv];exact hg
abbrev ND:=Σ L:Nat,DD (L+1)
def post:(L:Nat)->DD L->List ND->List ND|0,_,s=>s|L+1,u,s=>if(⟨L,u⟩:ND)∈s then s else u.kids.foldl (λs d=>post L d s) s++[⟨L,u⟩]
def ic (us:List ND):ND->Node|⟨0,u⟩=>⟨1,u.kids⟩|⟨L+1,u⟩=>⟨(L:Int)+2,u.kids.map λd=>((us.idxOf (⟨L,d⟩:ND):Nat):Int)⟩
def ser (us:List ND):AE:=us.map (ic us)
def Clo (us:List ND):Prop:=∀L u,(⟨L+1,u⟩:ND)∈us->∀d∈u.kids,(⟨L,d⟩:ND)∈us/\us.idxOf (⟨L,d⟩:ND)<us.idxOf (⟨L+1,u⟩:ND)
theorem idxOf_app {I:Type} [DecidableEq I] {l m:List I} {x:I} (h:x∈l):(l++m).idxOf x=l.idxOf x:=by grind
theorem serNode_app {us vs:List ND} {v:ND} (h:∀L u,v=⟨L+1,u⟩->∀d∈u.kids,(⟨L,d⟩:ND)∈us):ic (us++vs) v=ic us v:=by
 obtain⟨L,u⟩:=v;cases L with
 |zero=>rfl|succ L=>
  simp only[ic]
  congr 1
  apply List.map_congr_left;grind
theorem ser_snoc {us:List ND} {v:ND} (hc:Clo us) (h:∀L u,v=⟨L+1,u⟩->∀d∈u.kids,(⟨L,d⟩:ND)∈us):ser (us++[v])=ser us++[ic us v]:=by
 unfold ser;rw[List.map_append]
 congr 1
 ·apply List.map_congr_left;intro w hw;exact serNode_app λL u e d hd=>(hc L u (by grind) d hd).1
 ·rw[List.map_singleton,serNode_app h]
theorem Clo.snoc {us:List ND} {v:ND} (hc:Clo us) (_hv:v ∉ us) (h:∀L u,v=⟨L+1,u⟩->∀d∈u.kids,(⟨L,d⟩:ND)∈us):Clo (us++[v]):=by intro L u hu d hd;by_cases hm:(⟨L+1,u⟩:ND)∈us;{obtain⟨h1,h2⟩:=hc L u hm d hd;grind};grind
structure Ext (us vs:List ND):Prop where
 pre:∃ws,vs=us++ws
 nd:us.Nodup->vs.Nodup
 clo:Clo us->Clo vs
theorem Ext.refl (us:List ND):Ext us us:=⟨⟨[],by simp⟩,id,id⟩
theorem Ext.trans {us vs ws:List ND} (h:Ext us vs) (h':Ext vs ws):Ext us ws:=by obtain⟨a,rfl⟩:=h.pre;obtain⟨b,rfl⟩:=h'.pre;exact⟨⟨a++b,by simp⟩,λx=>h'.nd (h.nd x),λx=>h'.clo (h.clo x)⟩
theorem Ext.mem {us vs:List ND} (h:Ext us vs) {x:ND} (hx:x∈us):x∈vs:=by obtain⟨a,rfl⟩:=h.pre;simp_all
theorem Ext.idx {us vs:List ND} (h:Ext us vs) {x:ND} (hx:x∈us):vs.idxOf x=us.idxOf x:=by obtain⟨a,rfl⟩:=h.pre;exact idxOf_app hx
def InP (us:List ND):(L:Nat)->DD L->Prop|0,_=>True|L+1,u=>(⟨L,u⟩:ND)∈us
theorem InP.ext {us vs:List ND} (h:Ext us vs):∀{L:Nat} {u:DD L},InP us L u->InP vs L u|0,_,_=>trivial|_+1,_,hu=>h.mem hu
structure Wlk (L:Nat) (us vs:List ND):Prop where
 ext:Ext us vs
 low:∀x∈vs,x∈us\/x.1<L
theorem Wlk.refl (L:Nat) (us:List ND):Wlk L us us:=⟨Ext.refl us,λ_ h=>.inl h⟩
theorem Wlk.trans {L:Nat} {us vs ws:List ND} (h:Wlk L us vs) (h':Wlk L vs ws):Wlk L us ws:=⟨h.ext.trans h'.ext,λx hx=>(h'.low x hx).elim (h.low x) .inr⟩
theorem t6 {L:Nat}:∀(l:List (DD L)) (us:List ND),(∀d∈l,∀s,Wlk L s (post L d s)/\InP (post L d s) L d)->Wlk L us (l.foldl (λs d=>post L d s) us)/\∀d∈l,InP (l.foldl (λs d=>post L d s) us) L d|[],us,_=>⟨Wlk.refl L us,λd hd=>by simp at hd⟩|a::l,us,h=>by obtain⟨h1,h2⟩:=h a (by simp) us;obtain⟨h3,h4⟩:=t6 l (post L a us) λd hd=>h d (by simp[hd]);refine⟨h1.trans h3,λd hd=>?_⟩;rcases List.mem_cons.1 hd with rfl|hd;{exact h2.ext h3.ext};{exact h4 d hd}
theorem rZ:∀(L:Nat) (u:DD L) (us:List ND),Wlk L us (post L u us)/\InP (post L u us) L u
 |0,_,us=>⟨Wlk.refl 0 us,trivial⟩|L+1,u,us=>by
  unfold post;by_cases hm:(⟨L,u⟩:ND)∈us;{rw[if_pos hm];exact⟨Wlk.refl _ us,hm⟩}
  ·rw[if_neg hm];obtain⟨h1,h2⟩:=t6 u.kids us λd _ s=>rZ L d s;have hn:(⟨L,u⟩:ND) ∉ u.kids.foldl (λs d=>post L d s) us:=λh=>(h1.low _ h).elim hm λh=>absurd h (Nat.lt_irrefl _);have hkid:∀K w,(⟨L,u⟩:ND)=⟨K+1,w⟩->∀d∈w.kids,(⟨K,d⟩:ND)∈u.kids.foldl (λs d=>post L d s) us:=by intro K w e d hd;cases e;exact h2 d hd
   refine⟨⟨?_,λx hx=>?_⟩,List.mem_append_right _ (List.mem_singleton.2 rfl)⟩;{refine h1.ext.trans ⟨⟨_,rfl⟩,λh=>?_,λh=>h.snoc hn hkid⟩;grind};{rcases List.mem_append.1 hx with hx|hx;{exact(h1.low x hx).imp id λh=>by omega};simp_all}
theorem ser_rep {us:List ND} (hc:Clo us):∀(L:Nat) (u:DD (L+1)),(⟨L,u⟩:ND)∈us->Rep (ser us) (L+1) (us.idxOf (⟨L,u⟩:ND):Nat) u
 |L,u,hu=>by
  have hlt:=List.idxOf_lt_length_iff.2 hu;have hx:(ser us)[us.idxOf (⟨L,u⟩:ND)]?=some (ic us ⟨L,u⟩):=by grind[ser]
  refine⟨_,by rw[bE];exact hx,?_,?_,λs k' d h1 h2=>?_⟩;{cases L<;>simp[ic];omega};{cases L with|zero=>rfl|succ L=>simp[ic]};{cases L with|zero=>have h1':u.kids[s]?=some k':=h1;rw[h1'] at h2;exact Option.some.inj h2|succ L=>simp only[ic,List.getElem?_map,h2,Option.map_some] at h1;cases h1;exact ser_rep hc L d (hc L u hu d (List.mem_of_getElem? h2)).1}
def Dst (l:AE):Prop:=∀(L:Nat) (k k':Int) (u:DD (L+1)),Rep l (L+1) k u->Rep l (L+1) k' u->k=k'
theorem dst_of {l:AE} (hd:l.Nodup):Dst l:=by
 intro L;induction L with
 |zero=>
  intro k k' u ⟨x,h1,h2,h3,h4⟩ ⟨x',h1',h2',h3',h4'⟩;have hn:x.Next=x'.Next:=by
   have e:∀y:Node,y.Next.length=u.kids.length->(∀(s:Nat) k' d,y.Next[s]?=some k'->u.kids[s]?=some d->Rep l 0 k' d)->y.Next=(show A0 from u.kids):=λy hl hy=>by
    apply List.ext_getElem?;intro s;cases hs:y.Next[s]? with
    |none=>exact(List.getElem?_eq_none (by have:=List.getElem?_eq_none_iff.1 hs;exact hl ▸ this)).symm|some a=>have hlt:=(List.getElem?_eq_some_iff.1 hs).1;have e2:u.kids[s]?=some (u.kids[s]'(by omega)):=zB;have e3:a=u.kids[s]'(by omega):=hy s a _ hs e2;rw[e3];exact e2.symm
   grind
  have hx:x=x':=by cases x;cases x';simp_all
  subst hx;obtain⟨a1,a2,a3⟩:=fO h1;obtain⟨b1,b2,b3⟩:=fO h1';grind[List.getElem?_inj]
 |succ L ih=>
  intro k k' u ⟨x,h1,h2,h3,h4⟩ ⟨x',h1',h2',h3',h4'⟩;have hn:x.Next=x'.Next:=by
   apply List.ext_getElem?;intro s;cases hs:x.Next[s]? with
   |none=>simp_all|some a=>have hlt:=(List.getElem?_eq_some_iff.1 hs).1;have e1:x'.Next[s]?=some (x'.Next[s]'(by omega)):=zB;have e2:u.kids[s]?=some (u.kids[s]'(by omega)):=zB;grind
  have hx:x=x':=by cases x;cases x';simp_all
  subst hx;obtain⟨a1,a2,a3⟩:=fO h1;obtain⟨b1,b2,b3⟩:=fO h1';grind[List.getElem?_inj]
structure Num (num:Int->A0):Prop where
 inj:∀x y,0<=x->x<1152921504606846976->0<=y->y<1152921504606846976->num x=num y->x=y
 dig:∀x,0<=x->x<1152921504606846976->∀b∈num x,33<=b/\b<256
 len:∀x,0<=x->x<1152921504606846976->(num x).length<=20
 ap:∀dst x,0<=x->x<1152921504606846976->dst.length<=4000000000->eh dst x 10=some (dst++num x)
 ap0:∀x,0<=x->x<1152921504606846976->fe x 10=some (num x)
def Nm (x:Int):Prop:=0<=x/\x<1152921504606846976
def keyB (num:Int->A0) (level:Int) (next:A0):A0:=num level++next.flatMap λx=>32::num x
theorem split32:∀{a a' b b':A0},(∀x∈a,x≠32)->(∀x∈a',x≠32)->(b=[]\/∃c,b=32::c)->(b'=[]\/∃c,b'=32::c)->a++b=a'++b'->a=a'/\b=b'|[],[],b,b',_,_,_,_,h=>⟨rfl,h⟩|[],y::a',b,b',_,h2,h3,_,h=>by simp_all|x::a,[],b,b',h1,_,_,h4,h=>by grind|x::a,y::a',b,b',h1,h2,h3,h4,h=>by simp only[List.cons_append,List.cons.injEq] at h;obtain⟨e1,e2⟩:=split32 (λz hz=>h1 z (by simp[hz])) (λz hz=>h2 z (by simp[hz])) h3 h4 h.2;simp_all
section
variable {num:Int->A0} (hN:Num num)
include hN
theorem Num.ne {x:Int} (hx:Nm x):∀b∈num x,b≠32:=λb hb=>by have:=hN.dig x hx.1 hx.2 b hb;omega
omit hN in
theorem flat_head (l:A0):(l.flatMap λx=>32::num x)=[]\/∃c,(l.flatMap λx=>32::num x)=32::c:=by
 cases l with
 |nil=>exact .inl rfl|cons x l=>exact .inr ⟨_,by rw[List.flatMap_cons];rfl⟩
theorem flat_inj:∀{l m:A0},(∀x∈l,Nm x)->(∀x∈m,Nm x)->(l.flatMap λx=>32::num x)=(m.flatMap λx=>32::num x)->l=m|[],[],_,_,_=>rfl|[],y::m,_,_,h=>by simp at h|x::l,[],_,_,h=>by simp at h|x::l,y::m,h1,h2,h=>by simp only[List.flatMap_cons,List.cons_append,List.cons.injEq,true_and] at h;obtain⟨e1,e2⟩:=split32 (Num.ne hN (h1 x (by simp))) (Num.ne hN (h2 y (by simp))) (flat_head l) (flat_head m) h;rw[hN.inj x y (h1 x (by simp)).1 (h1 x (by simp)).2 (h2 y (by simp)).1 (h2 y (by simp)).2 e1,flat_inj (λz hz=>h1 z (by simp[hz])) (λz hz=>h2 z (by simp[hz])) e2]
theorem key_inj {a b:Int} {l m:A0} (ha:Nm a) (hb:Nm b) (hl:∀x∈l,Nm x) (hm:∀x∈m,Nm x) (h:keyB num a l=keyB num b m):a=b/\l=m:=by obtain⟨e1,e2⟩:=split32 (Num.ne hN ha) (Num.ne hN hb) (flat_head l) (flat_head m) h;exact⟨hN.inj a b ha.1 ha.2 hb.1 hb.2 e1,flat_inj hN hl hm e2⟩
theorem key_dig {a:Int} {l:A0} (ha:Nm a) (hl:∀x∈l,Nm x):∀b∈keyB num a l,0<=b/\b<256:=by intro b hb;rcases List.mem_append.1 hb with hb|hb;{have:=hN.dig a ha.1 ha.2 b hb;omega};{obtain⟨x,hx,hb⟩:=List.mem_flatMap.1 hb;rcases List.mem_cons.1 hb with rfl|hb;{omega};{have:=hN.dig x (hl x hx).1 (hl x hx).2 b hb;omega}}
theorem key_len {a:Int} {l:A0} (ha:Nm a) (hl:∀x∈l,Nm x):(keyB num a l).length<=20+21*l.length:=by
 have h1:=hN.len a ha.1 ha.2;have h2:∀{l:A0},(∀x∈l,Nm x)->(l.flatMap λx=>32::num x).length<=21*l.length:=λ{l}=>by
  induction l with
  |nil=>intro _;simp|cons x l ih=>intro h;have:=ih λz hz=>h z (by simp[hz]);have:=hN.len x (h x (by simp)).1 (h x (by simp)).2;grind
 grind[keyB]
omit hN in
theorem ofBytes_inj:∀{l m:A0},(∀b∈l,0<=b/\b<256)->(∀b∈m,0<=b/\b<256)->ofBytes l=ofBytes m->l=m
 |[],[],_,_,_=>rfl|[],y::m,_,_,h=>by simp[ofBytes] at h|x::l,[],_,_,h=>by simp[ofBytes] at h|x::l,y::m,h1,h2,h=>by
  unfold ofBytes at h;simp only[List.map_cons,List.cons.injEq] at h;have hx:=h1 x (by simp);have hy:=h2 y (by simp);have e:x=y:=by have:=congrArg UInt8.toNat h.1;simp only[UInt8.toNat_ofNat'] at this;omega
  rw[e,ofBytes_inj (λz hz=>h1 z (by simp[hz])) (λz hz=>h2 z (by simp[hz])) h.2]
theorem key_loop (b:A0->Int×A0->Option (Lp Av A0)) (hb:∀next stt,b next stt=(match stt with
   |(a,keyv)=>(bif (ltB a (br next))then (idx next a).bind λx=>(dp 1 keyv [32]).bind λ_=>(eh (keyv++[32]) x 10).bind λy1=>
     some (.next ((bC .i64 a 1),y1))
    else
     some (.out keyv))))
  {next:A0} (hn:∀x∈next,Nm x) (hl:next.length<=1000000) {k0:A0} (hk:k0.length<=20):bv (b next) bL (0,k0)=some (k0++next.flatMap λx=>32::num x):=by
 have hlen:∀i,(k0++(next.take i).flatMap λx=>32::num x).length<=20+21*i:=λi=>by
  have h2:∀{l:A0},(∀x∈l,Nm x)->(l.flatMap λx=>32::num x).length<=21*l.length:=λ{l}=>by
   induction l with
   |nil=>intro _;simp|cons x l ih=>intro h;have:=ih λz hz=>h z (by simp[hz]);have:=hN.len x (h x (by simp)).1 (h x (by simp)).2;grind
  grind[List.length_take_le]
 obtain⟨t,ht,rfl⟩:=d5 (b:=b next) (n:=next.length) (s:=(0,k0)) (λi s=>s=((i:Int),k0++(next.take i).flatMap λx=>32::num x)) (λt=>t=k0++next.flatMap λx=>32::num x) (by omega) (by simp) (λi s hi h1=>by
   subst h1;have hx:next[i]?=some next[i]:=List.getElem?_eq_getElem hi
   have hx':=hn next[i] (List.getElem_mem hi)
   have hli:=hlen i;refine .inl ⟨_,?_,rfl⟩;rw[hb];dsimp only;rw[bD,decide_eq_true hi,cond_true,bE,hx,zF];simp only[be];rw[show dp 1 (k0++(next.take i).flatMap λx=>32::num x) [32]=some _ from if_pos ⟨by decide,by grind⟩];simp only[be];rw[hN.ap _ _ hx'.1 hx'.2 (by grind)];grind[List.take_add_one])
  (λs h1=>by subst h1;refine⟨_,?_,rfl⟩;simp_all[bD])
 exact ht
end
structure Kn (num:Int->A0) (mp:Af) (nodes:AE):Prop where
 get:∀level next,Nm level->(∀x∈next,Nm x)->gx mp (ofBytes (keyB num level next))=if(⟨level,next⟩:Node)∈nodes then some ((nodes.idxOf (⟨level,next⟩:Node):Nat):Int)else none
 nd:nodes.Nodup
theorem Kn.nil (num:Int->A0):Kn num [] []:=⟨λ_ _ _ _=>by simp[gx],List.nodup_nil⟩
def addN (nodes:AE) (x:Node):AE:=if x∈nodes then nodes else nodes++[x]
theorem addN_mem (nodes:AE) (x:Node):x∈addN nodes x:=by grind[addN]
theorem addN_pre (nodes:AE) (x:Node):∃ws,addN nodes x=nodes++ws:=by unfold addN;split;{simp};simp
theorem addN_len (nodes:AE) (x:Node):(addN nodes x).length<=nodes.length+1:=by grind[addN]
theorem mgetD_some {κ ν:Type} [DecidableEq κ] {m:List (κ×ν)} {k:κ} {v z:ν} (h:gx m k=some v):eG m k z=v:=by unfold eG;rw[h];rfl
theorem node_is {num:Int->A0} (hN:Num num) {mp:Af} {nodes:AE} (hK:Kn num mp nodes) {level:Int} {next:A0} (hl:Nm level) (hn:∀x∈next,Nm x) (hlen:next.length<=1000000) (hnl:nodes.length<=1099511627776) :∃mp',ez nodes mp level next=some ((((addN nodes ⟨level,next⟩).idxOf (⟨level,next⟩:Node):Nat):Int),mp',addN nodes ⟨level,next⟩)/\Kn num mp' (addN nodes ⟨level,next⟩):=by
 unfold ez;rw[hN.ap0 _ hl.1 hl.2];simp only[be];rw[key_loop hN (gf nodes mp level) (λnext stt=>by rfl) hn (by omega) (hN.len _ hl.1 hl.2)];simp only[be];have hke:num level++(next.flatMap λx=>32::num x)=keyB num level next:=rfl
 rw[hke];have hkl:=key_len hN hl hn;rw[show kckS (ofBytes (keyB num level next))=some ()from if_pos (by unfold ofBytes;rw[List.length_map];unfold maxLen;omega)];simp only[be];have hg:=hK.get level next hl hn
 unfold addN;by_cases hm:(⟨level,next⟩:Node)∈nodes
 ·rw[if_pos hm] at hg;rw[if_pos hm];have:dh mp (ofBytes (keyB num level next))=true:=by unfold dh;rw[hg];rfl
  rw[this,cond_true,mgetD_some hg];simp_all
 ·rw[if_neg hm] at hg;rw[if_neg hm];have:dh mp (ofBytes (keyB num level next))=false:=by unfold dh;rw[hg];rfl
  rw[this,cond_false,show dp 32 nodes [(⟨level,next⟩:Node)]=some _ from if_pos ⟨by decide,by grind⟩];simp only[be];have hi:bZ .i64 ((br nodes)+1) 1=(nodes.length:Int):=by grind[bZ,br,i64_in]
  have hx:(nodes++[(⟨level,next⟩:Node)]).idxOf (⟨level,next⟩:Node)=nodes.length:=by grind
  rw[hi,hx];refine⟨_,rfl,λlevel' next' hl' hn'=>?_,?_⟩
  ·rw[mget_mset];by_cases he:(⟨level,next⟩:Node)=⟨level',next'⟩
   ·simp_all
   ·have hk:ofBytes (keyB num level next)≠ofBytes (keyB num level' next'):=λe=>he (by obtain⟨e1,e2⟩:=key_inj hN hl hl' hn hn' (ofBytes_inj (key_dig hN hl hn) (key_dig hN hl' hn') e);rw[e1,e2]);rw[if_neg hk,hK.get level' next' hl' hn'];grind
  ·rw[List.nodup_append];exact⟨hK.nd,by simp,λa ha b hb e=>hm (by simp_all)⟩
theorem rep_new {l:AE} {L:Nat} {x:Node} {u:DD (L+1)} {k:Int} (hk:idx l k=some x) (hx:x.Level=(L:Int)+1) (hl:x.Next.length=u.kids.length) (h:∀(s:Nat) k' d,x.Next[s]?=some k'->u.kids[s]?=some d->Rep l L k' d):Rep l (L+1) k u:=⟨x,hk,hx,hl,h⟩
theorem idx_idxOf {l:AE} {x:Node} (h:x∈l):idx l ((l.idxOf x:Nat):Int)=some x:=by simp_all[List.idxOf_lt_length_iff,bE]
theorem Good.add {n:Nat} {l:AE} (h:Good n l) {x:Node} (h1:1<=x.Level) (h2:x.Next.length=n) (h3:1<x.Level->∀k∈x.Next,0<=k/\∃y,idx l k=some y/\y.Level=x.Level-1) (h4:x.Level=1->∀k∈x.Next,0<=k/\k<n):Good n (addN l x):=by
 unfold addN;split;{exact h}
 ·have key:∀(i:Nat) y,(l++[x])[i]?=some y->l[i]?=some y\/(i=l.length/\y=x):=λi y hy=>by grind
  have up:∀(k:Nat) y,l[k]?=some y->(l++[x])[k]?=some y:=λk y hy=>by grind
  refine⟨λi y hy=>?_,λi y hy=>?_,λi y hy hl k hk=>?_,λi y hy hl k hk=>?_⟩;{rcases key i y hy with hy|⟨_,rfl⟩;{exact h.lev i y hy};{exact h1}};{rcases key i y hy with hy|⟨_,rfl⟩;{exact h.len i y hy};{exact h2}};{rcases key i y hy with hy|⟨rfl,rfl⟩;{obtain⟨a,b,z,hz,e⟩:=h.kid i y hy hl k hk;simp_all};{obtain⟨a,z,hz,e⟩:=h3 hl k hk;simp_all[fO]}};{rcases key i y hy with hy|⟨_,rfl⟩;{exact h.st i y hy hl k hk};grind}
theorem nodup_lt:∀(N:Nat) (l:A5),l.Nodup->(∀x∈l,x<N)->l.length<=N
 |0,[],_,_=>Nat.le_refl _|0,x::l,_,h=>absurd (h x (by simp)) (by omega)|N+1,l,hd,h=>by
  by_cases hm:N∈l
  ·have h1:=nodup_lt N (l.erase N) (hd.erase N) λx hx=>by grind
   simp_all
  ·have:=nodup_lt N l hd λx hx=>by grind
   omega
theorem len_le {I:Type} {R:Nat->I->Prop} {N:Nat} {us:List I} (hd:us.Nodup) (h:∀x∈us,∃k,k<N/\R k x) (hf:∀k x y,R k x->R k y->x=y):us.length<=N:=by obtain⟨ks,h1,h2⟩:=choose_list (l:=us) (R:=λx k=>k<N/\R k x) h;rw[h1];refine nodup_lt N ks ?_ λk hk=>?_;{rw[List.nodup_iff_pairwise_ne,List.pairwise_iff_getElem];intro i j hi hj hij e;have a:=h2 i us[i] ks[i] (zB) (List.getElem?_eq_getElem hi);have b:=h2 j us[j] ks[j] (zB) (List.getElem?_eq_getElem hj);rw[e] at a;have:=hf _ _ _ a.2 b.2;have:=(List.getElem?_inj (by omega) hd).1 ((List.getElem?_eq_getElem (l:=us) (i:=i) (by omega)).trans ((congrArg some this).trans (List.getElem?_eq_getElem (l:=us) (i:=j) (by omega)).symm));omega};{obtain⟨i,hi⟩:=List.mem_iff_getElem?.1 hk;have hlt:=(List.getElem?_eq_some_iff.1 hi).1;exact(h2 i (us[i]'(by omega)) k (List.getElem?_eq_getElem _) hi).1}
def half {I:Type} (g:I->I) (y:List I) (i:Nat):List I:=(y.take i).map g++y.drop i
theorem half_get {I:Type} (g:I->I) {y:List I} {i:Nat} (hi:i<y.length):(half g y i)[i]?=y[i]?:=by unfold half;grind
theorem half_set {I:Type} (g:I->I) {y:List I} {i:Nat} (hi:i<y.length):(half g y i).set i (g y[i])=half g y (i+1):=by
 unfold half;have e:y.drop i=y[i]::y.drop (i+1):=List.drop_eq_getElem_cons hi;have e2:y.take (i+1)=y.take i++[y[i]]:=by simp
 rw[e,e2,List.set_append_right _ _ (by simp;omega)];simp only[List.length_map,List.length_take,Nat.min_eq_left (Nat.le_of_lt hi),Nat.sub_self,List.set_cons_zero,List.map_append,List.map_cons,List.map_nil,List.append_assoc,List.cons_append,List.nil_append]
theorem half_len {I:Type} (g:I->I) (y:List I):half g y y.length=y.map g:=by simp[half]
theorem clone_is {l:A0} (h:l.length<=1000000):cq l=some l:=by unfold cq;exact if_pos ⟨by decide,by grind⟩
structure WI (nodes:AE) (done:A0) (us:List ND):Prop where
 len:done.length=nodes.length
 val:∀L k (u:DD (L+1)),Rep nodes (L+1) k u->idx done k=some (if(⟨L,u⟩:ND)∈us then((us.idxOf (⟨L,u⟩:ND):Nat):Int)+1 else 0)
 clo:Clo us
 nd:us.Nodup
 rep:∀x∈us,∃k,Rep nodes (x.1+1) k x.2
theorem Rep.lev {l:AE} {L L':Nat} {k:Int} {u:DD (L+1)} {u':DD (L'+1)} (h:Rep l (L+1) k u) (h':Rep l (L'+1) k u'):(⟨L,u⟩:ND)=⟨L',u'⟩:=by
 obtain⟨x,h1,h2,_⟩:=id h;obtain⟨x',h1',h2',_⟩:=id h';obtain rfl:=Option.some.inj (h1.symm.trans h1');have:L=L':=by omega
 subst this;rw[h.det h']
theorem WI.le {nodes:AE} {done:A0} {us:List ND} (h:WI nodes done us):us.length<=nodes.length :=
 len_le (R:=λk (x:ND)=>Rep nodes (x.1+1) (k:Nat) x.2) h.nd (λx hx=>by obtain⟨k,hk⟩:=h.rep x hx;obtain⟨y,h1,_⟩:=id hk;obtain⟨a,b,_⟩:=fO h1;grind) λk x y hx hy=>hx.lev hy
theorem idx_set {l:A0} {k k' v:Int} (hk:0<=k) (hl:k<l.length) (hk':0<=k'):idx (l.set k.toNat v) k'=if k=k' then some v else idx l k':=by rw[fE _ hk',fE _ hk',List.getElem?_set];grind
theorem WI.snoc {nodes:AE} {done:A0} {us:List ND} (h:WI nodes done us) (hD:Dst nodes) {L:Nat} {k:Int} {u:DD (L+1)} (hr:Rep nodes (L+1) k u) (hn:(⟨L,u⟩:ND) ∉ us) (hkid:∀K w,(⟨L,u⟩:ND)=⟨K+1,w⟩->∀d∈w.kids,(⟨K,d⟩:ND)∈us):WI nodes (done.set k.toNat ((us.length:Int)+1)) (us++[⟨L,u⟩]):=by obtain⟨x,h1,_⟩:=id hr;obtain⟨k0,k1,_⟩:=fO h1;refine⟨by rw[List.length_set];exact h.len,λL' k' u' hr'=>?_,h.clo.snoc hn hkid,?_,λy hy=>?_⟩;{obtain⟨x',h1',_⟩:=id hr';obtain⟨k0',k1',_⟩:=fO h1';rw[idx_set k0 (by rw[h.len];exact k1) k0'];by_cases he:k=k';{subst he;have e:=hr.lev hr';grind};{rw[if_neg he,h.val L' k' u' hr'];have hne:(⟨L',u'⟩:ND)≠⟨L,u⟩:=λe=>he (by cases e;exact hD L k k' u hr hr');grind}};{rw[List.nodup_append];exact⟨h.nd,by simp,λa ha b hb e=>hn (by simp_all)⟩};{rcases List.mem_append.1 hy with hy|hy;{exact h.rep y hy};grind}
section
variable {n:Nat} {nodes:AE} (hG:Good n nodes) (hD:Dst nodes) (hlen:nodes.length<=1099511627776) (hn:n<=1000000) (z:Int->A0->AE->AE->Option (Int×A0×AE))
include hG hD hlen hn
theorem walk_is:∀(L:Nat) (m:Nat) (k:Int) (u:DD (L+1)) (us:List ND) (done:A0),L<m->Rep nodes (L+1) k u->WI nodes done us -> ∃done',rP cD z m k done nodes (ser us)=some ((((post (L+1) u us).idxOf (⟨L,u⟩:ND):Nat):Int),done',ser (post (L+1) u us))/\WI nodes done' (post (L+1) u us):=by
 intro L;induction L with
 |zero=>
  intro m k u us done hm hr hW;obtain⟨m,rfl⟩:∃j,m=j+1:=⟨m-1,by omega⟩
  obtain⟨x,h1,h2,h3,h4⟩:=id hr;obtain⟨k0,k1,k2⟩:=fO h1;rw[rP];obtain⟨F,hF⟩:∃F,F=rP cD z m:=⟨_,rfl⟩
  rw[<- hF];unfold cD;rw[hW.val 0 k u hr];simp only[be];unfold post;by_cases hmem:(⟨0,u⟩:ND)∈us;{rw[if_pos hmem,if_pos hmem,show gtB (((us.idxOf (⟨0,u⟩:ND):Nat):Int)+1) 0=true from zD,cond_true];refine⟨done,?_,hW⟩;have hle:=hW.le;grind[bZ,i64_in]}
  ·rw[if_neg hmem,if_neg hmem,show gtB 0 0=false from rfl,cond_false,h1];have hxl:=hG.len k.toNat x k2;simp only[be];rw[clone_is (by omega)];simp only[be];have hxn:x.Next=(show A0 from u.kids):=by
    apply List.ext_getElem?;intro s;cases hs:x.Next[s]? with
    |none=>exact(List.getElem?_eq_none (by have:=List.getElem?_eq_none_iff.1 hs;exact h3 ▸ this)).symm|some a=>have hlt:=(List.getElem?_eq_some_iff.1 hs).1;have e2:u.kids[s]?=some (u.kids[s]'(by omega)):=zB;have e3:a=u.kids[s]'(by omega):=h4 s a _ hs e2;rw[e3];exact e2.symm
   have hfold:u.kids.foldl (λs d=>post 0 d s) us=us:=by
    have:∀(l:List (DD 0)) (us:List ND),l.foldl (λs d=>post 0 d s) us=us:=λl=>by
     induction l with
     |nil=>intro us;rfl|cons d l ih=>intro us;rw[List.foldl_cons];exact ih us
    exact this _ us
   obtain⟨t,ht,rfl⟩:=d5 (b:=cw F k nodes x x.Next) (n:=x.Next.length) (s:=(0,x.Next,ser us,done)) (λi s=>s=((i:Int),x.Next,ser us,done)) (λt=>t=(x.Next,ser us,done)) (by omega) rfl (λi s hi h=>by subst h;refine .inl ⟨_,?_,rfl⟩;unfold cw;dsimp only;rw[bD,decide_eq_true hi,cond_true,bE,List.getElem?_eq_getElem hi,zF];simp_all[gtB]) (λs h=>by subst h;refine⟨_,?_,rfl⟩;simp[cw,bD]);rw[ht,hfold];have hle:=hW.le;have hsl:(ser us).length=us.length:=by unfold ser;simp
   have hkid:∀K w,(⟨0,u⟩:ND)=⟨K+1,w⟩->∀d∈w.kids,(⟨K,d⟩:ND)∈us:=λK w e=>by cases e
   simp only[be];rw[show dp 32 (ser us) [(⟨x.Level,x.Next⟩:Node)]=some _ from if_pos ⟨by decide,by grind⟩];simp only[be];rw[hW.val 0 k u hr];simp only[be];refine⟨done.set k.toNat ((us.length:Int)+1),?_,hW.snoc hD hr hmem hkid⟩;rw[ser_snoc hW.clo hkid,List.idxOf_append,if_neg hmem];have e1:bZ .i64 (br (ser us)+1) 1=(us.length:Int):=by grind[bZ,br,i64_in]
   simp_all[ic,br]
 |succ L ih=>
  intro m k u us done hm hr hW;obtain⟨m,rfl⟩:∃j,m=j+1:=⟨m-1,by omega⟩
  obtain⟨x,h1,h2,h3,h4⟩:=id hr;obtain⟨k0,k1,k2⟩:=fO h1;rw[rP];obtain⟨F,hF⟩:∃F,F=rP cD z m:=⟨_,rfl⟩
  rw[<- hF];unfold cD;rw[hW.val (L+1) k u hr];simp only[be];unfold post;by_cases hmem:(⟨L+1,u⟩:ND)∈us;{rw[if_pos hmem,if_pos hmem,show gtB (((us.idxOf (⟨L+1,u⟩:ND):Nat):Int)+1) 0=true from zD,cond_true];refine⟨done,?_,hW⟩;have hle:=hW.le;grind[bZ,i64_in]}
  ·rw[if_neg hmem,if_neg hmem,show gtB 0 0=false from rfl,cond_false,h1];have hxl:=hG.len k.toNat x k2;simp only[be];rw[clone_is (by omega)];simp only[be];let U:Nat->List ND:=λi=>(u.kids.take i).foldl (λs d=>post (L+1) d s) us;have hU:∀i,i<u.kids.length->∀d,u.kids[i]?=some d->U (i+1)=post (L+1) d (U i):=λi _ d hd=>by grind[List.take_add_one]
   obtain⟨t,ht,lst,dn,rfl,hl,hWn⟩:=d5 (b:=cw F k nodes x x.Next) (n:=x.Next.length) (s:=(0,x.Next,ser us,done)) (λi s=>∃lst dn,s=((i:Int),lst,ser (U i),dn)/\lst=(u.kids.take i).map (λd=>(((U i).idxOf (⟨L,d⟩:ND):Nat):Int))++x.Next.drop i/\WI nodes dn (U i)) (λt=>∃lst dn,t=(lst,ser (U u.kids.length),dn)/\lst=u.kids.map (λd=>(((U u.kids.length).idxOf (⟨L,d⟩:ND):Nat):Int))/\WI nodes dn (U u.kids.length)) (by omega) ⟨x.Next,done,rfl,by simp,hW⟩ (λi s hi ⟨lst,dn,h,hls,hWi⟩=>by
     subst h;have hik:i<u.kids.length:=by omega
     have ed:u.kids[i]?=some u.kids[i]:=List.getElem?_eq_getElem hik;have ex:x.Next[i]?=some x.Next[i]:=List.getElem?_eq_getElem hi;have hrk:=h4 i _ _ ex ed;obtain⟨dn',hc,hW'⟩:=ih m x.Next[i] u.kids[i] (U i) dn (by omega) hrk hWi;rw[<- hF] at hc;rw[<- hU i hik _ ed] at hc hW';obtain⟨hE,hI⟩:=rZ (L+1) u.kids[i] (U i);rw[<- hU i hik _ ed] at hE hI;have hmem':∀d∈u.kids.take i,(⟨L,d⟩:ND)∈U i:=(t6 (L:=L+1) (u.kids.take i) us λd _ s=>rZ (L+1) d s).2;have hll:((u.kids.take i).map (λd=>(((U i).idxOf (⟨L,d⟩:ND):Nat):Int))).length=i:=by grind
     have hget:lst[i]?=some x.Next[i]:=by simp_all[List.getElem?_append_right]
     refine .inl ⟨_,?_,lst.set i (((U (i+1)).idxOf (⟨L,u.kids[i]⟩:ND):Nat):Int),dn',rfl,?_,hW'⟩;{unfold cw;dsimp only;rw[bD,decide_eq_true hi,cond_true,bE,hget,zF];simp only[be];rw[show gtB x.Level 1=true from zD,cond_true,hc];rfl}
     ·rw[hls,List.set_append_right _ _ (by omega),hll,Nat.sub_self,List.drop_eq_getElem_cons hi,List.set_cons_zero,List.take_add_one,ed];simp only[Option.toList_some,List.map_append,List.map_cons,List.map_nil,List.append_assoc,List.cons_append,List.nil_append]
      congr 1
      apply List.map_congr_left;intro d hd;rw[hE.ext.idx (hmem' d hd)])
    (λs ⟨lst,dn,h,hls,hWi⟩=>by subst h;rw[h3] at hls hWi;refine⟨_,?_,lst,dn,rfl,?_,hWi⟩;{simp_all[cw,bD]};simp_all)
   rw[ht];have hUn:U u.kids.length=u.kids.foldl (λs d=>post (L+1) d s) us:=by grind
   rw[hUn] at hWn hl⊢;obtain⟨hE,hI⟩:=t6 (L:=L+1) u.kids us λd _ s=>rZ (L+1) d s;have hmem2:(⟨L+1,u⟩:ND) ∉ u.kids.foldl (λs d=>post (L+1) d s) us:=λh=>(hE.low _ h).elim hmem λh=>absurd h (Nat.lt_irrefl _);have hkid:∀K w,(⟨L+1,u⟩:ND)=⟨K+1,w⟩->∀d∈w.kids,(⟨K,d⟩:ND)∈u.kids.foldl (λs d=>post (L+1) d s) us:=λK w e d hd=>by cases e;exact hI d hd
   generalize u.kids.foldl (λs d=>post (L+1) d s) us=V at hWn hl hmem2 hkid hE hI⊢;have hle:=hWn.le;have hsl:(ser V).length=V.length:=by unfold ser;simp
   simp only[be];rw[show dp 32 (ser V) [(⟨x.Level,lst⟩:Node)]=some _ from if_pos ⟨by decide,by grind⟩];simp only[be];rw[hWn.val (L+1) k u hr];simp only[be];refine⟨dn.set k.toNat ((V.length:Int)+1),?_,hWn.snoc hD hr hmem2 hkid⟩;rw[ser_snoc hWn.clo hkid,List.idxOf_append,if_neg hmem2];grind[bZ,br,i64_in,ic]
end
theorem WI.init (nodes:AE):WI nodes (List.replicate nodes.length 0) []:=by refine⟨by simp,λL k u hr=>?_,λL u h=>(by cases h),List.nodup_nil,λx h=>by cases h⟩;obtain⟨x,h1,_⟩:=id hr;obtain⟨k0,k1,_⟩:=fO h1;simp_all[fE]
theorem ordered_is {n:Nat} {nodes:AE} (hG:Good n nodes) (hd:nodes.Nodup) (hlen:nodes.length<=1099511627776) (hn:n<=1000000) {L:Nat} {k:Int} {u:DD (L+1)} (hL:L<1000000) (hr:Rep nodes (L+1) k u) :
  iI nodes k=some (ser (post (L+1) u [])):=by
 unfold iI mkL;rw[if_pos (by unfold br;omega)];simp only[be];have hrep:List.replicate (br nodes).toNat (0:Int)=List.replicate nodes.length 0:=by rfl
 obtain⟨done',h,_⟩:=walk_is hG (dst_of hd) hlen hn (λ_ _ _ _=>none) L recF k u [] (List.replicate nodes.length 0) (by unfold recF;omega) hr (WI.init nodes);rw[hrep];unfold iS;have h':rP cD (λ_ _ _ _=>none) recF k (List.replicate nodes.length 0) nodes []=_:=h;rw[h'];rfl
structure RI (num:Int->A0) (n:Nat) (src:AE) (i:Nat) (mp:Af) (l:AE) (to_:A0):Prop where
 tl:to_.length=i
 kn:Kn num mp l
 gd:Good n l
 ll:l.length<=i
 mp:∀L (j:Nat) (u:DD (L+1)),j<i->Rep src (L+1) j u->∃k,to_[j]?=some k/\Rep l (L+1) k u
theorem Rep.rng {l:AE} {L:Nat} {k:Int} {u:DD (L+1)} (h:Rep l (L+1) k u):0<=k/\k<l.length/\∃x,idx l k=some x/\x.Level=(L:Int)+1:=by obtain⟨x,h1,h2,_⟩:=h;obtain⟨a,b,_⟩:=fO h1;simp_all
structure Szd (n:Nat) (l:AE):Prop where
 good:Good n l
 lev:∀x∈l,x.Level<1000000
 len:l.length<=4294967296
 n6:n<=1000000
theorem inner_is (t:Tree) (a:Int) (mp:Af) (l:AE) (to_:A0) (x:Node) (hl:x.Next.length<=1000000) (h:1<x.Level->∀k∈x.Next,∃v,idx to_ k=some v) :
  bv (bW t a mp l to_ x x.Next) bL (0,x.Next)=some (if 1<x.Level then x.Next.map λk=>(idx to_ k).getD 0 else x.Next):=by by_cases hL:1<x.Level;{rw[if_pos hL];obtain⟨r,hr,rfl⟩:=d5 (b:=bW t a mp l to_ x x.Next) (n:=x.Next.length) (s:=(0,x.Next)) (λi s=>s=((i:Int),half (λk=>(idx to_ k).getD 0) x.Next i)) (λr=>r=x.Next.map λk=>(idx to_ k).getD 0) (by omega) (by rfl) (λi s hi e=>by subst e;obtain⟨v,hv⟩:=h hL x.Next[i] (List.getElem_mem hi);refine .inl ⟨_,?_,rfl⟩;unfold bW;dsimp only;rw[bD,decide_eq_true hi,cond_true,bE,half_get _ hi,List.getElem?_eq_getElem hi,zF];simp only[be];rw[show gtB x.Level 1=true from zD,cond_true,hv];simp only[be];grind[half_set]) (λs e=>by subst e;refine⟨_,?_,rfl⟩;simp[bW,bD,half_len]);exact hr};{rw[if_neg hL];obtain⟨r,hr,rfl⟩:=d5 (b:=bW t a mp l to_ x x.Next) (n:=x.Next.length) (s:=(0,x.Next)) (λi s=>s=((i:Int),x.Next)) (λr=>r=x.Next) (by omega) rfl (λi s hi e=>by subst e;refine .inl ⟨_,?_,rfl⟩;unfold bW;dsimp only;rw[bD,decide_eq_true hi,cond_true,bE,List.getElem?_eq_getElem hi,zF];simp_all[gtB,decide_eq_false]) (λs e=>by subst e;refine⟨_,?_,rfl⟩;simp[bW,bD]);exact hr}
theorem addN_rep {l:AE} {x:Node} {L:Nat} {u:DD (L+1)} (hx:x.Level=(L:Int)+1) (hl:x.Next.length=u.kids.length) (h:∀(s:Nat) k' d,x.Next[s]?=some k'->u.kids[s]?=some d->Rep l L k' d) :
  Rep (addN l x) (L+1) ((addN l x).idxOf x:Nat) u:=by obtain⟨ws,hw⟩:=addN_pre l x;refine rep_new (idx_idxOf (addN_mem l x)) hx hl λs k' d h1 h2=>?_;rw[hw];exact(h s k' d h1 h2).app
theorem RI.step {num:Int->A0} (hN:Num num) {n:Nat} {src:AE} (hS:Szd n src) {i:Nat} {mp:Af} {l:AE} {to_:A0} (h:RI num n src i mp l to_) {x:Node} (hx:src[i]?=some x) :∃next',(next'=if 1<x.Level then x.Next.map λk=>(idx to_ k).getD 0 else x.Next)/\(1<x.Level->∀k∈x.Next,∃v,idx to_ k=some v) /\ ∃mp',ez l mp x.Level next'=some ((((addN l ⟨x.Level,next'⟩).idxOf (⟨x.Level,next'⟩:Node):Nat):Int),mp',addN l ⟨x.Level,next'⟩) /\
    RI num n src (i+1) mp' (addN l ⟨x.Level,next'⟩) (to_++[(((addN l ⟨x.Level,next'⟩).idxOf (⟨x.Level,next'⟩:Node):Nat):Int)]):=by
 have hG:=hS.good;have hlev:=hG.lev i x hx;have hxlen:=hG.len i x hx;have hn6:=hS.n6;have hll:=h.ll;have hsl:=hS.len;have hi:=(List.getElem?_eq_some_iff.1 hx).1;have hlx:=hS.lev x (List.mem_of_getElem? hx);obtain⟨L,hL⟩:∃L:Nat,x.Level=(L:Int)+1:=⟨(x.Level-1).toNat,by omega⟩
 obtain⟨u,hu,hreg⟩:=hG.rep L i x hx hL;obtain⟨x0,e0,_,hl0,hk0⟩:=id hu;rw[bE,hx] at e0;obtain rfl:=Option.some.inj e0;have hto:1<x.Level->∀(s:Nat) k d,x.Next[s]?=some k->u.kids[s]?=some d->∃v,idx to_ k=some v/\Rep l L v d:=λh1 s k d e1 e2=>by
  obtain⟨a,b,_⟩:=hG.kid i x hx h1 k (List.mem_of_getElem? e1);cases L with
  |zero=>omega|succ L=>have hr:=hk0 s k d e1 e2;rw[show k=((k.toNat:Nat):Int) by omega] at hr;obtain⟨v,hv,hr'⟩:=h.mp L k.toNat d (by omega) hr;simp_all[fE]
 have hall:1<x.Level->∀k∈x.Next,∃v,idx to_ k=some v:=λh1 k hk=>by obtain⟨s,hs⟩:=List.mem_iff_getElem?.1 hk;have hlt:=(List.getElem?_eq_some_iff.1 hs).1;obtain⟨v,hv,_⟩:=hto h1 s k (u.kids[s]'(by omega)) hs (List.getElem?_eq_getElem _);exact⟨v,hv⟩
 obtain⟨next',hnx⟩:∃next',next'=if 1<x.Level then x.Next.map λk=>(idx to_ k).getD 0 else x.Next:=⟨_,rfl⟩
 have hnl:next'.length=x.Next.length:=by grind
 have hkids:∀(s:Nat) k' d,next'[s]?=some k'->u.kids[s]?=some d->Rep l L k' d:=λs k' d e1 e2=>by
  rw[hnx] at e1;by_cases h1:1<x.Level;{grind}
  ·rw[if_neg h1] at e1;have:L=0:=by omega
   subst this;exact hk0 s k' d e1 e2
 have hnm:∀k∈next',Nm k/\(x.Level=1->0<=k/\k<n)/\(1<x.Level->0<=k/\∃y,idx l k=some y/\y.Level=x.Level-1):=λk' hk'=>by
  obtain⟨s,hs⟩:=List.mem_iff_getElem?.1 hk';have hlt:=(List.getElem?_eq_some_iff.1 hs).1;have hr:=hkids s k' (u.kids[s]'(by omega)) hs (List.getElem?_eq_getElem _);cases L with
  |zero=>rw[hnx,if_neg (by omega)] at hk';have:=hG.st i x hx (by omega) k' hk';exact⟨⟨this.1,by omega⟩,λ_=>this,λh1=>by omega⟩|succ L=>obtain⟨a,b,y,hy,hyl⟩:=hr.rng;exact⟨⟨a,by omega⟩,λh1=>by omega,λ_=>⟨a,y,hy,by omega⟩⟩
 obtain⟨mp',hm,hK⟩:=node_is hN h.kn (level:=x.Level) (next:=next') ⟨by omega,by omega⟩ (λk hk=>(hnm k hk).1) (by omega) (by omega);have hgd:=h.gd.add (x:=⟨x.Level,next'⟩) hlev (by simp_all) (λh1 k hk=>(hnm k hk).2.2 h1) (λh1 k hk=>(hnm k hk).2.1 h1);refine⟨next',hnx,hall,mp',hm,⟨by simp[h.tl],hK,hgd,by grind[addN_len],λL' j u' hj hr'=>?_⟩⟩;obtain⟨ws,hw⟩:=addN_pre l ⟨x.Level,next'⟩;by_cases hji:j<i;{obtain⟨k,e1,e2⟩:=h.mp L' j u' hji hr';refine⟨k,?_,by rw[hw];exact e2.app⟩;grind}
 ·have:j=i:=by omega
  subst this;have e:=hu.lev hr';cases e;refine⟨_,?_,addN_rep hL (by grind) hkids⟩;rw[List.getElem?_append_right (by rw[h.tl];simp),h.tl,Nat.sub_self];rfl
theorem rebuilt_loop {num:Int->A0} (hN:Num num) {n:Nat} {t:Tree} (hS:Szd n t.Nodes):∃mp l to_,bv (cz t) bL (0,[],[],[])=some (mp,l,to_)/\RI num n t.Nodes t.Nodes.length mp l to_:=by have hsl:=hS.len;have hn6:=hS.n6;obtain⟨r,hr,mp,l,to_,rfl,h⟩:=d5 (b:=cz t) (n:=t.Nodes.length) (s:=(0,[],[],[])) (λi s=>∃mp l to_,s=((i:Int),mp,l,to_)/\RI num n t.Nodes i mp l to_) (λr=>∃mp l to_,r=(mp,l,to_)/\RI num n t.Nodes t.Nodes.length mp l to_) (by omega) ⟨[],[],[],rfl,rfl,Kn.nil num,⟨λi x h=>by simp at h,λi x h=>by simp at h,λi x h=>by simp at h,λi x h=>by simp at h⟩,Nat.le_refl _,λL j u hj=>by omega⟩ (λi s hi ⟨mp,l,to_,e,h⟩=>by subst e;have hx:t.Nodes[i]?=some t.Nodes[i]:=List.getElem?_eq_getElem hi;obtain⟨next',e1,e2,mp',e3,e4⟩:=h.step hN hS hx;have hxl:=hS.good.len i _ hx;refine .inl ⟨_,?_,mp',_,_,rfl,e4⟩;unfold cz;dsimp only;rw[bD,decide_eq_true hi,cond_true,bE,hx,zF];simp only[be];rw[clone_is (by omega)];simp only[be];rw[inner_is t i mp l to_ t.Nodes[i] (by omega) e2,<- e1];simp only[be,lT];rw[e3];simp only[be];rw[show dp 8 to_ [_]=some _ from if_pos ⟨by decide,by have:=h.tl;grind⟩];rfl) (λs ⟨mp,l,to_,e,h⟩=>by subst e;refine⟨_,?_,mp,l,to_,rfl,h⟩;simp[cz,bD]);grind
theorem hoodc_is {l:AG} (h:l.length<=1000000):cQ l=some l:=by unfold cQ;exact if_pos ⟨by decide,by grind⟩
theorem rebuilt_is {num:Int->A0} (hN:Num num) {n:Nat} {t:Tree} (hS:Szd n t.Nodes) (hh:t.Hood.length<=1000000) {L i:Nat} {u:DD (L+1)} (hi:i+1=t.Nodes.length) (hr:Rep t.Nodes (L+1) i u) :
  di t=some ⟨t.States,t.Hood,ser (post (L+1) u [])⟩:=by
 obtain⟨mp,l,to_,hl,h⟩:=rebuilt_loop hN hS;obtain⟨k,hk,hr'⟩:=h.mp L i u (by omega) hr;have hsl:=hS.len;have hll:=h.ll;obtain⟨x,hx1,hx2,_⟩:=id hr;rw[bE] at hx1;have hlv:=hS.lev x (List.mem_of_getElem? hx1);have ho:=ordered_is h.gd h.kn.nd (by omega) hS.n6 (L:=L) (by omega) hr';have hi':idx to_ (bZ .i64 (br to_) 1)=some k:=by
  have:bZ .i64 (br to_) 1=(i:Int):=by unfold bZ br;rw[h.tl,i64_in (by omega)];omega
  rw[this,bE,hk]
 simp_all[di,hoodc_is]
structure WR (nodes:AE) (R:Int->Prop) (done:A0) (us:List ND):Prop where
 len:done.length=nodes.length
 val:∀L k (u:DD (L+1)),R k->Rep nodes (L+1) k u->idx done k=some (if(⟨L,u⟩:ND)∈us then((us.idxOf (⟨L,u⟩:ND):Nat):Int)else -1)
 clo:Clo us
 nd:us.Nodup
 rep:∀x∈us,∃k,Rep nodes (x.1+1) k x.2
theorem WR.le {nodes:AE} {R:Int->Prop} {done:A0} {us:List ND} (h:WR nodes R done us):us.length<=nodes.length :=
 len_le (R:=λk (x:ND)=>Rep nodes (x.1+1) (k:Nat) x.2) h.nd (λx hx=>by obtain⟨k,hk⟩:=h.rep x hx;obtain⟨y,h1,_⟩:=id hk;obtain⟨a,b,_⟩:=fO h1;grind) λk x y hx hy=>hx.lev hy
theorem WR.snoc {nodes:AE} {R:Int->Prop} {done:A0} {us:List ND} (h:WR nodes R done us) (hD:∀(L:Nat) (k k':Int) (u:DD (L+1)),R k->R k'->Rep nodes (L+1) k u->Rep nodes (L+1) k' u->k=k') {L:Nat} {k:Int} {u:DD (L+1)} (hk:R k) (hr:Rep nodes (L+1) k u) (hn:(⟨L,u⟩:ND) ∉ us) (hkid:∀K w,(⟨L,u⟩:ND)=⟨K+1,w⟩->∀d∈w.kids,(⟨K,d⟩:ND)∈us):WR nodes R (done.set k.toNat (us.length:Int)) (us++[⟨L,u⟩]):=by obtain⟨x,h1,_⟩:=id hr;obtain⟨k0,k1,_⟩:=fO h1;refine⟨by rw[List.length_set];exact h.len,λL' k' u' hk' hr'=>?_,h.clo.snoc hn hkid,?_,λy hy=>?_⟩;{obtain⟨x',h1',_⟩:=id hr';obtain⟨k0',k1',_⟩:=fO h1';rw[idx_set k0 (by rw[h.len];exact k1) k0'];by_cases he:k=k';{subst he;have e:=hr.lev hr';grind};{rw[if_neg he,h.val L' k' u' hk' hr'];grind}};{rw[List.nodup_append];exact⟨h.nd,by simp,λa ha b hb e=>hn (by simp_all)⟩};{rcases List.mem_append.1 hy with hy|hy;{exact h.rep y hy};grind}
structure Cls (nodes:AE) (cls:A0):Prop where
 get:∀(L:Nat) (k:Int) (u:DD (L+1)),Rep nodes (L+1) k u->∃c,idx cls k=some c/\Rep nodes (L+1) c u/\idx cls c=some c
 one:∀(L:Nat) (k k':Int) (u:DD (L+1)),Rep nodes (L+1) k u->Rep nodes (L+1) k' u->idx cls k=idx cls k'
section
variable {n:Nat} {nodes:AE} (hG:Good n nodes) {cls:A0} (hC:Cls nodes cls) (hlen:nodes.length<=1099511627776) (hn:n<=1000000) (z:AE->A0->Int->A0->AE->AP)
include hG hC hlen hn
theorem walkR_is:∀(L:Nat) (m:Nat) (k:Int) (u:DD (L+1)) (us:List ND) (done:A0),L<m->idx cls k=some k->Rep nodes (L+1) k u->WR nodes (λk=>idx cls k=some k) done us -> ∃done',rP fZ z m nodes cls k done (ser us)=some (done',ser (post (L+1) u us))/\WR nodes (λk=>idx cls k=some k) done' (post (L+1) u us):=by
 have hD:∀(L:Nat) (k k':Int) (u:DD (L+1)),idx cls k=some k->idx cls k'=some k'->Rep nodes (L+1) k u->Rep nodes (L+1) k' u->k=k':=λL k k' u h h' hr hr'=>by have:=hC.one L k k' u hr hr';simp_all
 intro L;induction L with
 |zero=>
  intro m k u us done hm hk hr hW;obtain⟨m,rfl⟩:∃j,m=j+1:=⟨m-1,by omega⟩
  obtain⟨x,h1,h2,h3,h4⟩:=id hr;obtain⟨k0,k1,k2⟩:=fO h1;rw[rP];obtain⟨F,hF⟩:∃F,F=rP fZ z m:=⟨_,rfl⟩
  rw[<- hF];unfold fZ;rw[hW.val 0 k u hk hr];simp only[be];unfold post;by_cases hmem:(⟨0,u⟩:ND)∈us;{rw[if_pos hmem,if_pos hmem,show geB (((us.idxOf (⟨0,u⟩:ND):Nat):Int)) 0=true from zD,cond_true];simp_all}
  ·rw[if_neg hmem,if_neg hmem,show geB (-1) 0=false from rfl,cond_false,h1];have hxl:=hG.len k.toNat x k2;simp only[be];have hxn:x.Next=(show A0 from u.kids):=by
    apply List.ext_getElem?;intro s;cases hs:x.Next[s]? with
    |none=>exact(List.getElem?_eq_none (by have:=List.getElem?_eq_none_iff.1 hs;exact h3 ▸ this)).symm|some a=>have hlt:=(List.getElem?_eq_some_iff.1 hs).1;have e2:u.kids[s]?=some (u.kids[s]'(by omega)):=zB;have e3:a=u.kids[s]'(by omega):=h4 s a _ hs e2;rw[e3];exact e2.symm
   have hfold:u.kids.foldl (λs d=>post 0 d s) us=us:=by
    have:∀(l:List (DD 0)) (us:List ND),l.foldl (λs d=>post 0 d s) us=us:=λl=>by
     induction l with
     |nil=>intro us;rfl|cons d l ih=>intro us;rw[List.foldl_cons];exact ih us
    exact this _ us
   obtain⟨t,ht,rfl⟩:=d5 (b:=eR F nodes cls k (ser us) x) (n:=x.Next.length) (s:=(0,[],ser us,done)) (λi s=>s=((i:Int),x.Next.take i,ser us,done)) (λt=>t=(x.Next,ser us,done)) (by omega) rfl (λi s hi h=>by subst h;refine .inl ⟨_,?_,rfl⟩;unfold eR;dsimp only;rw[h1];simp only[be];rw[bD,decide_eq_true hi,cond_true,bE,List.getElem?_eq_getElem hi,zF];simp only[be];rw[show gtB x.Level 1=false from decide_eq_false (by simp_all),cond_false];simp only[be];rw[show dp 8 (x.Next.take i) [x.Next[i]]=some _ from if_pos ⟨by decide,by grind⟩];simp) (λs h=>by subst h;refine⟨_,?_,rfl⟩;unfold eR;dsimp only;rw[h1];simp only[be];rw[bD,decide_eq_false (Nat.lt_irrefl _),cond_false,List.take_length]);rw[ht,hfold];have hle:=hW.le;have hsl:(ser us).length=us.length:=by unfold ser;simp
   have hkid:∀K w,(⟨0,u⟩:ND)=⟨K+1,w⟩->∀d∈w.kids,(⟨K,d⟩:ND)∈us:=λK w e=>by cases e
   simp only[be];rw[hW.val 0 k u hk hr];simp only[be];rw[show dp 32 (ser us) [(⟨x.Level,x.Next⟩:Node)]=some _ from if_pos ⟨by decide,by grind⟩];simp only[be];refine⟨done.set k.toNat (us.length:Int),?_,hW.snoc hD hk hr hmem hkid⟩;rw[ser_snoc hW.clo hkid];simp_all[ic,br]
 |succ L ih=>
  intro m k u us done hm hk hr hW;obtain⟨m,rfl⟩:∃j,m=j+1:=⟨m-1,by omega⟩
  obtain⟨x,h1,h2,h3,h4⟩:=id hr;obtain⟨k0,k1,k2⟩:=fO h1;rw[rP];obtain⟨F,hF⟩:∃F,F=rP fZ z m:=⟨_,rfl⟩
  rw[<- hF];unfold fZ;rw[hW.val (L+1) k u hk hr];simp only[be];unfold post;by_cases hmem:(⟨L+1,u⟩:ND)∈us;{rw[if_pos hmem,if_pos hmem,show geB (((us.idxOf (⟨L+1,u⟩:ND):Nat):Int)) 0=true from zD,cond_true];simp_all}
  ·rw[if_neg hmem,if_neg hmem,show geB (-1) 0=false from rfl,cond_false,h1];have hxl:=hG.len k.toNat x k2;simp only[be];let U:Nat->List ND:=λi=>(u.kids.take i).foldl (λs d=>post (L+1) d s) us;have hU:∀i,i<u.kids.length->∀d,u.kids[i]?=some d->U (i+1)=post (L+1) d (U i):=λi _ d hd=>by grind[List.take_add_one]
   obtain⟨t,ht,lst,dn,rfl,hl,hWn⟩:=d5 (b:=eR F nodes cls k (ser us) x) (n:=x.Next.length) (s:=(0,[],ser us,done)) (λi s=>∃lst dn,s=((i:Int),lst,ser (U i),dn)/\lst=(u.kids.take i).map (λd=>(((U i).idxOf (⟨L,d⟩:ND):Nat):Int))/\WR nodes (λk=>idx cls k=some k) dn (U i)) (λt=>∃lst dn,t=(lst,ser (U u.kids.length),dn)/\lst=u.kids.map (λd=>(((U u.kids.length).idxOf (⟨L,d⟩:ND):Nat):Int))/\WR nodes (λk=>idx cls k=some k) dn (U u.kids.length)) (by omega) ⟨[],done,rfl,by simp,hW⟩ (λi s hi ⟨lst,dn,h,hls,hWi⟩=>by
     subst h;have hik:i<u.kids.length:=by omega
     have ed:u.kids[i]?=some u.kids[i]:=List.getElem?_eq_getElem hik;have ex:x.Next[i]?=some x.Next[i]:=List.getElem?_eq_getElem hi;have hrk:=h4 i _ _ ex ed;obtain⟨c,hc1,hc2,hc3⟩:=hC.get L _ _ hrk;obtain⟨dn',hc,hW'⟩:=ih m c u.kids[i] (U i) dn (by omega) hc3 hc2 hWi;rw[<- hF] at hc;rw[<- hU i hik _ ed] at hc hW';obtain⟨hE,hI⟩:=rZ (L+1) u.kids[i] (U i);rw[<- hU i hik _ ed] at hE hI;have hmem':∀d∈u.kids.take i,(⟨L,d⟩:ND)∈U i:=(t6 (L:=L+1) (u.kids.take i) us λd _ s=>rZ (L+1) d s).2;have hll:((u.kids.take i).map (λd=>(((U i).idxOf (⟨L,d⟩:ND):Nat):Int))).length=i:=by grind
     have hv:=hW'.val L c u.kids[i] hc3 hc2;rw[if_pos (show (⟨L,u.kids[i]⟩:ND)∈U (i+1)from hI)] at hv;refine .inl ⟨_,?_,lst++[(((U (i+1)).idxOf (⟨L,u.kids[i]⟩:ND):Nat):Int)],dn',rfl,?_,hW'⟩;{unfold eR;dsimp only;rw[h1];simp only[be];rw[bD,decide_eq_true hi,cond_true,bE,ex,zF];simp only[be];rw[show gtB x.Level 1=true from zD,cond_true,hc1];simp only[be];rw[hc];simp only[be];rw[hv];simp only[be];rw[show dp 8 lst [(((U (i+1)).idxOf (⟨L,u.kids[i]⟩:ND):Nat):Int)]=some _ from if_pos ⟨by decide,by grind⟩];rfl}
     ·rw[hls,List.take_add_one,ed];simp only[Option.toList_some,List.map_append,List.map_cons,List.map_nil]
      congr 1
      apply List.map_congr_left;intro d hd;rw[hE.ext.idx (hmem' d hd)])
    (λs ⟨lst,dn,h,hls,hWi⟩=>by subst h;rw[h3] at hls hWi;refine⟨_,?_,lst,dn,rfl,?_,hWi⟩;{simp_all[eR,bD]};simp_all)
   rw[ht];have hUn:U u.kids.length=u.kids.foldl (λs d=>post (L+1) d s) us:=by grind
   rw[hUn] at hWn hl⊢;obtain⟨hE,hI⟩:=t6 (L:=L+1) u.kids us λd _ s=>rZ (L+1) d s;have hmem2:(⟨L+1,u⟩:ND) ∉ u.kids.foldl (λs d=>post (L+1) d s) us:=λh=>(hE.low _ h).elim hmem λh=>absurd h (Nat.lt_irrefl _);have hkid:∀K w,(⟨L+1,u⟩:ND)=⟨K+1,w⟩->∀d∈w.kids,(⟨K,d⟩:ND)∈u.kids.foldl (λs d=>post (L+1) d s) us:=λK w e d hd=>by cases e;exact hI d hd
   generalize u.kids.foldl (λs d=>post (L+1) d s) us=V at hWn hl hmem2 hkid hE hI⊢;have hle:=hWn.le;have hsl:(ser V).length=V.length:=by unfold ser;simp
   simp only[be];rw[hWn.val (L+1) k u hk hr];simp only[be];rw[show dp 32 (ser V) [(⟨x.Level,lst⟩:Node)]=some _ from if_pos ⟨by decide,by grind⟩];simp only[be];refine⟨dn.set k.toNat (V.length:Int),?_,hWn.snoc hD hk hr hmem2 hkid⟩;rw[ser_snoc hWn.clo hkid];grind[ic,br]
end
theorem same13_loop (a b:A0) (hl:a.length=b.length) (ha:a.length<1099511627776):bv (mj a b) bL 0=some (bif iD (λi x=>!decide (b[i]?=some x)) a 0 then .inl false else .inr ()):=by refine hZ a (λi x=>!decide (b[i]?=some x)) false ha (λi x hx=>?_) ?_;{have hi:=(List.getElem?_eq_some_iff.1 hx).1;have hb:b[i]?=some (b[i]'(by omega)):=zB;unfold mj;dsimp only;rw[bD,decide_eq_true hi,cond_true,bE,hx,bE,hb,zF];simp only[be];by_cases he:x=b[i]'(by omega);{subst he;simp[neB]};{have he':¬ b[i]'(by omega)=x:=λh=>he h.symm;rw[show neB x (b[i]'(by omega))=true from by simpa [neB] using he,cond_true];simp[he']}};simp[mj,bD]
theorem same13 (a b:A0) (ha:a.length<1099511627776):rF a b=some (decide (a=b)):=by
 unfold rF;by_cases hl:a.length=b.length
 ·have:neB (br a) (br b)=false:=by simp[neB,br,hl]
  rw[this,cond_false,same13_loop a b hl ha];simp only[be];cases hb:iD (λi x=>!decide (b[i]?=some x)) a 0 with
  |true=>
   have:a≠b:=λe=>by simp_all[iA]
   simp[this]
  |false=>
   have:a=b:=by
    apply List.ext_getElem?;intro j;cases hj:a[j]? with
    |none=>simp_all|some x=>have:=gp hb j x hj;simp_all
   simp[this]
 ·have:neB (br a) (br b)=true:=by simp[neB,br];omega
  rw[this,cond_true];have:a≠b:=λe=>hl (by rw[e]);simp[this]
def Least (nodes:AE) (L:Nat) (u:DD (L+1)) (c:Nat):Prop:=Rep nodes (L+1) c u/\∀j:Nat,j<c->¬ Rep nodes (L+1) j u
theorem Least.det {nodes:AE} {L:Nat} {u:DD (L+1)} {c c':Nat} (h:Least nodes L u c) (h':Least nodes L u c'):c=c':=by rcases Nat.lt_trichotomy c c' with hc|hc|hc;{exact absurd h.1 (h'.2 c hc)};{exact hc};{exact absurd h'.1 (h.2 c' hc)}
def NX (nodes:AE):(L:Nat)->DD (L+1)->A0->Prop|0,u,nx=>nx=(show A0 from u.kids)|L+1,u,nx=>nx.length=u.kids.length/\∀(s:Nat) d,u.kids[s]?=some d->∃c:Nat,nx[s]?=some (c:Int)/\Least nodes L d c
theorem nx_iff {nodes:AE}:∀{L:Nat} {u v:DD (L+1)} {a b:A0},NX nodes L u a->NX nodes L v b->(a=b↔u=v)
 |0,u,v,a,b,ha,hb=>by have ha':a=(show A0 from u.kids):=ha;have hb':b=(show A0 from v.kids):=hb;grind[DD.ext]|L+1,u,v,a,b,⟨h1,h2⟩,⟨h1',h2'⟩=>by
  constructor
  ·intro e;subst e;apply DD.ext;apply List.ext_getElem?;intro s;cases hs:u.kids[s]? with
   |none=>simp_all|some d=>
    have hlt:=(List.getElem?_eq_some_iff.1 hs).1;have hv:v.kids[s]?=some (v.kids[s]'(by omega)):=zB;obtain⟨c,e1,l1⟩:=h2 s d hs;obtain⟨c',e2,l2⟩:=h2' s _ hv;rw[e1] at e2;have:c=c':=by grind
    subst this;rw[hv,l1.1.det l2.1]
  ·intro e;subst e;apply List.ext_getElem?;intro s;cases hs:a[s]? with|none=>simp_all|some y=>have hlt:=(List.getElem?_eq_some_iff.1 hs).1;have hv:u.kids[s]?=some (u.kids[s]'(by omega)):=zB;obtain⟨c,e1,l1⟩:=h2 s _ hv;obtain⟨c',e2,l2⟩:=h2' s _ hv;rw[e2,<- hs,e1,l1.det l2]
structure CI (nodes:AE) (i:Nat) (cls:A0) (nexts:A1):Prop where
 lc:cls.length=i
 ln:nexts.length=i
 val:∀(k L:Nat) (u:DD (L+1)),k<i->Rep nodes (L+1) k u->(∃c:Nat,cls[k]?=some (c:Int)/\Least nodes L u c)/\∃nx,nexts[k]?=some nx/\NX nodes L u nx
def fm (p:An) (i:Nat):Aj|0=>i|s+1=>if p (i-1-s)then i-1-s else fm p i s
theorem fm_spec (p:An) (i:Nat):∀s,s<=i->(fm p i s=i/\∀j,i-s<=j->j<i->p j=false)\/(fm p i s<i/\i-s<=fm p i s/\p (fm p i s)=true/\∀j,i-s<=j->j<fm p i s->p j=false)
 |0,_=>.inl ⟨rfl,λj h1 h2=>by omega⟩|s+1,hs=>by
  unfold fm;by_cases hp:p (i-1-s)=true;{grind}
  ·rw[if_neg hp];have hp':p (i-1-s)=false:=by simpa using hp
   rcases fm_spec p i s (by omega)with⟨h1,h2⟩|⟨h1,h2,h3,h4⟩;{grind};grind
section
variable {n:Nat} {nodes:AE} (hG:Good n nodes) (hlen:nodes.length<=1099511627) (hn:n<=1000000)
include hG hlen hn
theorem cls_next {i:Nat} {cls:A0} {nexts:A1} (h:CI nodes i cls nexts) {x:Node} (hx:nodes[i]?=some x) {L:Nat} {u:DD (L+1)} (hr:Rep nodes (L+1) i u) :∃nx,bv (eI nodes i cls nexts) bL (0,[])=some nx/\NX nodes L u nx:=by
 have _av:=hlen;obtain⟨x',h1,h2,h3,h4⟩:=id hr;rw[bE] at h1;obtain rfl:=Option.some.inj (hx.symm.trans h1);have hxl:=hG.len i x hx;cases L with
 |zero=>
  have hxn:x.Next=(show A0 from u.kids):=by
   apply List.ext_getElem?;intro s;cases hs:x.Next[s]? with
   |none=>exact(List.getElem?_eq_none (by have:=List.getElem?_eq_none_iff.1 hs;exact h3 ▸ this)).symm|some a=>have hlt:=(List.getElem?_eq_some_iff.1 hs).1;have e2:u.kids[s]?=some (u.kids[s]'(by omega)):=zB;have e3:a=u.kids[s]'(by omega):=h4 s a _ hs e2;rw[e3];exact e2.symm
  obtain⟨t,ht,rfl⟩:=d5 (b:=eI nodes i cls nexts) (n:=x.Next.length) (s:=(0,[])) (λs st=>st=((s:Int),x.Next.take s)) (λt=>t=x.Next) (by omega) rfl (λs st hs e=>by subst e;refine .inl ⟨_,?_,rfl⟩;unfold eI;dsimp only;rw[bE,hx];simp only[be];rw[bD,decide_eq_true hs,cond_true,bE,List.getElem?_eq_getElem hs,zF];simp only[be];rw[show gtB x.Level 1=false from zA,cond_false];simp only[be];rw[show dp 8 (x.Next.take s) [x.Next[s]]=some _ from if_pos ⟨by decide,by grind⟩];simp) (λst e=>by subst e;refine⟨_,?_,rfl⟩;unfold eI;dsimp only;rw[bE,hx];simp only[be];rw[bD,decide_eq_false (Nat.lt_irrefl _),cond_false,List.take_length]);exact⟨_,ht,hxn⟩
 |succ L=>
  have hkid:∀s (hs:s<x.Next.length),∃c:Nat,idx cls x.Next[s]=some (c:Int)/\Least nodes L (u.kids[s]'(by omega)) c:=λs hs=>by
   have ed:u.kids[s]?=some (u.kids[s]'(by omega)):=zB;have ex:x.Next[s]?=some x.Next[s]:=List.getElem?_eq_getElem hs;have hrk:=h4 s _ _ ex ed;obtain⟨k0,k1,_⟩:=hG.kid i x hx (by omega) x.Next[s] (List.getElem_mem hs);have hrk':Rep nodes (L+1) ((x.Next[s].toNat:Nat):Int) (u.kids[s]'(by omega)):=by grind
   obtain⟨⟨c,hc,hl⟩,_⟩:=h.val x.Next[s].toNat L _ (by omega) hrk';grind[fE]
  obtain⟨t,ht,lst,rfl,hl1,hl2⟩:=d5 (b:=eI nodes i cls nexts) (n:=x.Next.length) (s:=(0,[])) (λs st=>∃lst:A0,st=((s:Int),lst)/\lst.length=s/\∀(j:Nat) d,j<s->u.kids[j]?=some d->∃c:Nat,lst[j]?=some (c:Int)/\Least nodes L d c) (λt=>∃lst:A0,t=lst/\lst.length=x.Next.length/\∀(j:Nat) d,j<x.Next.length->u.kids[j]?=some d->∃c:Nat,lst[j]?=some (c:Int)/\Least nodes L d c) (by omega) ⟨[],rfl,rfl,λj d hj=>absurd hj (Nat.not_lt_zero _)⟩ (λs st hs ⟨lst,e,hl,hv⟩=>by subst e;obtain⟨c,hc,hcl⟩:=hkid s hs;refine .inl ⟨_,?_,lst++[(c:Int)],rfl,by simp[hl],λj d hj hd=>?_⟩;{unfold eI;dsimp only;rw[bE,hx];simp only[be];rw[bD,decide_eq_true hs,cond_true,bE,List.getElem?_eq_getElem hs,zF];simp only[be];rw[show gtB x.Level 1=true from zD,cond_true,hc];simp only[be];rw[show dp 8 lst [(c:Int)]=some _ from if_pos ⟨by decide,by grind⟩];rfl};grind) (λst ⟨lst,e,hl,hv⟩=>by subst e;refine⟨_,?_,lst,rfl,hl,hv⟩;simp_all[eI,bE,bD]);exact⟨_,ht,by omega,λs d hs=>hl2 s d (by grind) hs⟩
theorem CI.step {i:Nat} {cls:A0} {nexts:A1} (h:CI nodes i cls nexts) (hi:i<nodes.length):∃cls' nexts',gT nodes ((i:Int),cls,nexts)=some (.next (((i+1:Nat):Int),cls',nexts'))/\CI nodes (i+1) cls' nexts':=by
 obtain⟨x,hx⟩:∃x,nodes[i]?=some x:=⟨_,List.getElem?_eq_getElem hi⟩
 have hlv:=hG.lev i x hx;obtain⟨L,hL⟩:∃L:Nat,x.Level=(L:Int)+1:=⟨(x.Level-1).toNat,by omega⟩
 obtain⟨u,hr,_⟩:=hG.rep L i x hx hL;obtain⟨nx,h1,h2⟩:=cls_next hG hlen hn h hx hr;have hnx:nx.length=n:=by
  have hxl:=hG.len i x hx;obtain⟨x',e1,_,e3,_⟩:=id hr;rw[bE] at e1;obtain rfl:=Option.some.inj (hx.symm.trans e1);cases L with
  |zero=>rw[show nx=(show A0 from u.kids)from h2];exact e3.symm.trans hxl|succ L=>rw[h2.1];omega
 classical
 let p:An:=λj=>decide (∃y nz,nodes[j]?=some y/\y.Level=x.Level/\nexts[j]?=some nz/\nz=nx);have hp:∀j,j<i->(p j=true↔Rep nodes (L+1) j u):=λj hj=>by
  obtain⟨y,hy⟩:∃y,nodes[j]?=some y:=⟨_,zB⟩
  have hyl:=hG.lev j y hy;obtain⟨K,hK⟩:∃K:Nat,y.Level=(K:Int)+1:=⟨(y.Level-1).toNat,by omega⟩
  obtain⟨v,hv,_⟩:=hG.rep K j y hy hK;obtain⟨_,nz,e1,e2⟩:=h.val j K v hj hv;constructor
  ·intro hpt;obtain⟨y',nz',a1,a2,a3,a4⟩:=of_decide_eq_true hpt;obtain rfl:=Option.some.inj (hy.symm.trans a1);obtain rfl:=Option.some.inj (e1.symm.trans a3);obtain rfl:K=L:=by omega
   grind[nx_iff]
  ·intro hru;have e:=hv.lev hru;cases e;exact decide_eq_true ⟨y,nz,hy,by omega,e1,(nx_iff e2 h2).2 rfl⟩
 obtain⟨first,hf,rfl⟩:=d5 (b:=ji nodes i cls nexts nx) (n:=i) (s:=((i:Int),bZ .i64 i 1)) (λs st=>st=(((fm p i s:Nat):Int),(i:Int)-1-s)) (λt=>t=((fm p i i:Nat):Int)) (by omega) (by unfold bZ;grind[i64_in,fm]) (λs st hs e=>by
   subst e;obtain⟨y,hy⟩:∃y,nodes[i-1-s]?=some y:=⟨_,zB⟩
   obtain⟨nz,hz⟩:∃nz,nexts[i-1-s]?=some nz:=⟨_,List.getElem?_eq_getElem (by rw[h.ln];omega)⟩
   have ej:(i:Int)-1-s=((i-1-s:Nat):Int):=by omega
   refine .inl ⟨_,?_,rfl⟩;unfold ji;dsimp only;rw[ej,show geB ((i-1-s:Nat):Int) 0=true from zD,cond_true,bE,hy,bE,hx];simp only[be];have hfin:bZ .i64 ((i-1-s:Nat):Int) 1=(i:Int)-1-((s+1:Nat):Int):=by grind[bZ,i64_in]
   by_cases hl:y.Level=x.Level
   ·rw[show eqB y.Level x.Level=true from by simp[eqB,hl],cond_true,bE,hz];simp only[be];have hzl:nz.length<1099511627776:=by
     obtain⟨K,hK⟩:∃K:Nat,y.Level=(K:Int)+1:=⟨(y.Level-1).toNat,by omega⟩
     obtain⟨v,hv,_⟩:=hG.rep K _ y hy hK;obtain⟨_,nz',e1,e2⟩:=h.val (i-1-s) K v (by omega) hv;obtain rfl:=Option.some.inj (hz.symm.trans e1);obtain⟨y',e3,_,e5,_⟩:=id hv;rw[bE] at e3;obtain rfl:=Option.some.inj (hy.symm.trans e3);have:=hG.len _ y hy;cases K with
     |zero=>rw[show nz=(show A0 from v.kids)from e2];show v.kids.length<_;omega|succ K=>rw[e2.1];omega
    rw[same13 nz nx hzl];simp only[be];by_cases he:nz=nx;{have hpt:p (i-1-s)=true:=decide_eq_true ⟨y,nz,hy,hl,hz,he⟩;simp_all[fm]}
    ·have hpf:¬ p (i-1-s)=true:=λhpt=>by grind
     simp_all[fm]
   ·have hpf:¬ p (i-1-s)=true:=λhpt=>by grind
    rw[show eqB y.Level x.Level=false from by simp[eqB,hl],cond_false];simp_all[fm])
  (λst e=>by subst e;refine⟨_,?_,rfl⟩;unfold ji;dsimp only;rw[show geB ((i:Int)-1-(i:Int)) 0=false from zA,cond_false])
 have hleast:Least nodes L u (fm p i i):=by rcases fm_spec p i i (Nat.le_refl _)with⟨e1,e2⟩|⟨e1,_,e3,e4⟩;{rw[e1];exact⟨hr,λj hj hrj=>by simp_all⟩};{exact⟨(hp _ e1).1 e3,λj hj hrj=>by grind⟩}
 refine⟨cls++[((fm p i i:Nat):Int)],nexts++[nx],?_,by simp[h.lc],by simp[h.ln],λk K w hk hw=>?_⟩;{unfold gT;dsimp only;rw[bD,decide_eq_true hi,cond_true,h1];simp only[be];rw[hf];simp only[be];rw[show dp 8 cls [((fm p i i:Nat):Int)]=some _ from if_pos ⟨by decide,by simp only[List.length_singleton,h.lc];omega⟩];simp only[be];rw[show dp 24 nexts [nx]=some _ from if_pos ⟨by decide,by simp only[List.length_singleton,h.ln];omega⟩];grind[cd]};{by_cases he:k=i;{subst he;have e:=hr.lev hw;cases e;exact⟨⟨_,by rw[List.getElem?_append_right (by rw[h.lc];simp),h.lc,Nat.sub_self];rfl,hleast⟩,nx,by rw[List.getElem?_append_right (by rw[h.ln];simp),h.ln,Nat.sub_self];rfl,h2⟩};{obtain⟨⟨c,e1,e2⟩,nz,e3,e4⟩:=h.val k K w (by omega) hw;grind}}
theorem classes_is:∃cls,mX nodes=some cls/\Cls nodes cls:=by
 obtain⟨t,ht,nexts,hC⟩:=d5 (b:=gT nodes) (n:=nodes.length) (s:=(0,[],[])) (λi st=>∃cls nexts,st=((i:Int),cls,nexts)/\CI nodes i cls nexts) (λt=>∃nexts,CI nodes nodes.length t nexts) (by omega) ⟨[],[],rfl,rfl,rfl,λk L u hk=>absurd hk (Nat.not_lt_zero _)⟩ (λi st hi ⟨cls,nexts,e,h⟩=>by subst e;obtain⟨cls',nexts',e1,e2⟩:=h.step hG hlen hn hi;grind) (λst ⟨cls,nexts,e,h⟩=>by subst e;refine⟨cls,?_,nexts,h⟩;simp[gT,bD]);refine⟨t,by unfold mX;rw[ht];rfl,λL k u hr=>?_,λL k k' u hr hr'=>?_⟩
 ·obtain⟨x,e1,_⟩:=id hr;obtain⟨k0,k1,_⟩:=fO e1;have hr1:Rep nodes (L+1) ((k.toNat:Nat):Int) u:=by grind
  obtain⟨⟨c,c1,c2⟩,_⟩:=hC.val k.toNat L u (by omega) hr1;obtain⟨y,e2,_⟩:=id c2.1;obtain⟨c0,c3,_⟩:=fO e2;obtain⟨⟨c',c4,c5⟩,_⟩:=hC.val c L u (by omega) c2.1;exact⟨c,by rw[fE _ k0,c1],c2.1,by rw[bE,c4,c5.det c2]⟩
 ·obtain⟨x,e1,_⟩:=id hr;obtain⟨k0,k1,_⟩:=fO e1;obtain⟨x',e1',_⟩:=id hr';obtain⟨k0',k1',_⟩:=fO e1';obtain⟨⟨c,c1,c2⟩,_⟩:=hC.val k.toNat L u (by omega) (by grind);obtain⟨⟨c',c1',c2'⟩,_⟩:=hC.val k'.toNat L u (by omega) (by grind);rw[fE _ k0,fE _ k0',c1,c1',c2.det c2']
theorem WR.init (R:Int->Prop):WR nodes R (List.replicate nodes.length (-1)) []:=by have _av:=hG;have _bv:=hlen;have _cv:=hn;refine⟨List.length_replicate,λL k u _ hr=>?_,λL u h=>by simp at h,List.nodup_nil,λx hx=>by simp at hx⟩;obtain⟨x,e1,_⟩:=id hr;obtain⟨k0,k1,_⟩:=fO e1;simp_all[fE]
theorem reduced13_is {L i:Nat} {u:DD (L+1)} (hi:i+1=nodes.length) (hr:Rep nodes (L+1) i u) (hL:L<1000000):mN nodes=some (ser (post (L+1) u [])):=by
 obtain⟨cls,hc,hC⟩:=classes_is hG hlen hn;obtain⟨c,c1,c2,c3⟩:=hC.get L i u hr;obtain⟨t,ht,rfl⟩:=d5 (b:=jj nodes cls) (n:=nodes.length) (s:=(0,[])) (λi st=>st=((i:Int),List.replicate i (-1))) (λt=>t=List.replicate nodes.length (-1)) (by omega) rfl (λi st hi e=>by subst e;refine .inl ⟨_,?_,rfl⟩;unfold jj;dsimp only;rw[bD,decide_eq_true hi,cond_true,show dp 8 (List.replicate i (-1:Int)) [(-1)]=some _ from if_pos ⟨by decide,by grind⟩];grind[cd,List.replicate_succ']) (λst e=>by subst e;refine⟨_,?_,rfl⟩;simp[jj,bD]);obtain⟨dn,hw,_⟩:=walkR_is hG hC (by omega) hn (λ_ _ _ _ _=>none) L (recF+1) c u [] (List.replicate nodes.length (-1)) (by unfold recF;omega) c3 c2 (WR.init hG hlen hn _);unfold mN;rw[hc];simp only[be];rw[ht];simp only[be];have e1:bZ .i64 (br nodes) 1=(i:Int):=by grind[bZ,br,i64_in]
 rw[e1,c1];simp only[be];have e2:rj nodes cls c (List.replicate nodes.length (-1))=some (dn,ser (post (L+1) u [])):=hw;rw[e2];rfl
end
end Go.Proofs.YtpeabgakdpojlaaGreatDoor
namespace Go.Proofs.YtpeabgakdpojlaaGreatDoor
open Go.AM Go.Proofs Go.Lib
def valD (l:A4):Nat:=l.foldl (λa b=>a*10+(b.toNat-48)) 0
theorem valD_dec:∀u:Nat,valD (decDigits u)=u:=by
 intro u;induction u using Nat.strongRecOn with
 |ind u ih=>grind[decDigits,valD,UInt8.toNat_ofNat']
theorem dig_dec:∀u:Nat,∀b∈decDigits u,48<=b.toNat/\b.toNat<=57:=by
 intro u;induction u using Nat.strongRecOn with
 |ind u ih=>grind[decDigits,UInt8.toNat_ofNat']
theorem len_dec:∀(k u:Nat),u<10 ^ k->1<=k->(decDigits u).length<=k
 |0,_,_,h=>absurd h (by omega)|k+1,u,hu,_=>by
  rw[decDigits];split;{simp}
  ·rename_i h;have hk:1<=k:=by grind
   have:=len_dec k (u/10) (by omega) hk;simp_all
theorem iconv_nn {x:Int} (h0:0<=x) (h1:x<1152921504606846976):pK .u64 x=x:=by show x%18446744073709551616=x;omega
theorem numI:Num digI where
 inj x y h0 _ h0' _ e:=by have e':(decDigits x.toNat).map (λb=>(b.toNat:Int))=(decDigits y.toNat).map (λb=>(b.toNat:Int)):=e;have e2:decDigits x.toNat=decDigits y.toNat:=List.map_inj_right (λa b hab=>UInt8.toNat_inj.1 (by omega)) |>.1 e';have:=congrArg valD e2;grind[valD_dec]
 dig x _ _ b hb:=by unfold digI at hb;obtain⟨c,hc,rfl⟩:=List.mem_map.1 hb;have:=dig_dec _ c hc;omega
 len x h0 h1:=by unfold digI;rw[List.length_map];exact len_dec 20 x.toNat (by omega) (by omega)
 ap dst x h0 h1 hl:=by unfold eh eL dy;rw[show ltB x 0=false from zA,cond_false];grind[iconv_nn,appUM,Nat.ble_eq_true_of_le]
 ap0 x h0 h1:=by unfold fe eW dy;rw[show ltB x 0=false from zA,cond_false];simp only[be];rw[iconv_nn h0 h1];unfold appUM;rw[decide_eq_true h0,decide_eq_true (show x<18446744073709551616 by omega)];rfl
end Go.Proofs.YtpeabgakdpojlaaGreatDoor
namespace Go.Proofs.YtpeabgakdpojlaaGreatDoor
open Go.AM Go.Proofs
theorem i6 {I:Type} {l:List I} {i:Nat} {v:I} (h:l[i]?=some v):l.set i v=l:=by apply List.ext_getElem?;intro j;rw[List.getElem?_set];by_cases he:i=j;{subst he;rw[if_pos rfl,if_pos (List.getElem?_eq_some_iff.1 h).1,h]};{rw[if_neg he]}
structure TOk (n:Nat) (t:Tree):Prop where
 st:t.States=(n:Int)
 n2:2<=n
 n8:n<=8
 h1:1<=t.Hood.length
 h25:t.Hood.length<=25
 nodes:t.Nodes.length<=4096
 good:Good n t.Nodes
 lev:∀x∈t.Nodes,x.Level<=t.Hood.length
 root:∃i x,i+1=t.Nodes.length/\t.Nodes[i]?=some x/\x.Level=(t.Hood.length:Int)
theorem ok_tree {t:Tree} (h:iw t=true):∃n,TOk n t:=by
 simp only[iw,Bool.and_eq_true,Bool.not_eq_true',Bool.or_eq_false_iff] at h;obtain⟨⟨a1,a2,a3,a4,a5⟩,a6,a7⟩:=h;have b1:=of_decide_eq_false a1;have b2:=of_decide_eq_false a2;have b4:=of_decide_eq_false a4;have b5:=of_decide_eq_false a5;unfold br at b4 b5;have a3':jc t.Hood=true:=by simpa using a3
 simp only[jc,Bool.and_eq_true,Bool.not_eq_true',Bool.or_eq_false_iff] at a3';have c1:=of_decide_eq_false a3'.1.1;have c2:=of_decide_eq_false a3'.1.2;unfold br at c1 c2;have hst:t.States=((t.States.toNat:Nat):Int):=by omega
 have node:∀(i:Nat) x,t.Nodes[i]?=some x->1<=x.Level/\x.Level<=t.Hood.length/\x.Next.length=t.States.toNat/\∀k∈x.Next,badE t (i:Nat) x k=false:=λi x hx=>by
  have hb:=gp a6 i x hx;simp only[badN,Bool.or_eq_false_iff] at hb;obtain⟨d1,d2,d3,d4⟩:=hb;have e1:=of_decide_eq_false d1;have e2:=of_decide_eq_false d2;have e3:br x.Next=t.States:=by simpa [neB] using d3
  unfold br at e2 e3;refine⟨by omega,by omega,by omega,λk hk=>?_⟩;obtain⟨j,hj⟩:=List.mem_iff_getElem?.1 hk;have:=gp d4 j k hj;grind
 refine⟨t.States.toNat,hst,by omega,by omega,by omega,by omega,by omega,⟨λi x hx=>(node i x hx).1,λi x hx=>(node i x hx).2.2.1,λi x hx h1 k hk=>?_,λi x hx h1 k hk=>?_⟩,λx hx=>?_,?_⟩;{have hb:=(node i x hx).2.2.2 k hk;have hlx:=(node i x hx).2.1;simp only[badE,Bool.or_eq_false_iff] at hb;obtain⟨d1,_,d3⟩:=hb;rw[show gtB x.Level 1=true from decide_eq_true h1,Bool.true_and,Bool.or_eq_false_iff] at d3;have e1:=of_decide_eq_false d1;have e2:=of_decide_eq_false d3.1;grind[lowOk,bZ,neB,i64_in]};{have hb:=(node i x hx).2.2.2 k hk;simp only[badE,Bool.or_eq_false_iff] at hb;obtain⟨d1,d2,_⟩:=hb;rw[show eqB x.Level 1=true from by simp[eqB,h1],Bool.true_and] at d2;have e1:=of_decide_eq_false d1;have e2:=of_decide_eq_false d2;omega};{grind[List.mem_iff_getElem?]};grind[rootOk,eqB,br]
theorem TOk.szd {n:Nat} {t:Tree} (h:TOk n t):Szd n t.Nodes:=⟨h.good,λx hx=>by have:=h.lev x hx;have:=h.h25;omega,by have:=h.nodes;omega,by have:=h.n8;omega⟩
theorem TOk.rep {n:Nat} {t:Tree} (h:TOk n t):∃(L i:Nat) (u:DD (L+1)),i+1=t.Nodes.length/\L+1=t.Hood.length/\Rep t.Nodes (L+1) i u/\Reg n (L+1) u:=by
 obtain⟨i,x,hi,hx,hl⟩:=h.root;have h1:=h.h1;obtain⟨L,hL⟩:∃L,t.Hood.length=L+1:=⟨t.Hood.length-1,by omega⟩
 obtain⟨u,hu,hr⟩:=h.good.rep L i x hx (by omega);grind
theorem sz_of {n:Nat} {t:Tree} (h:TOk n t):Sz t:=⟨by have:=h.h25;omega,by have:=h.nodes;omega,λx hx=>by obtain⟨i,hi⟩:=List.mem_iff_getElem?.1 hx;have:=h.good.len i x hi;have:=h.n8;omega⟩
theorem reduce_is {n:Nat} {t:Tree} (hok:iw t=true) (h:TOk n t) {L i:Nat} {u:DD (L+1)} (hi:i+1=t.Nodes.length) (hL:L+1=t.Hood.length) (hr:Rep t.Nodes (L+1) i u) :
  jl t=some ⟨t.States,t.Hood,ser (post (L+1) u [])⟩/\mz t=some ⟨t.States,t.Hood,ser (post (L+1) u [])⟩:=by have h25:=h.h25;have hn:=h.n8;have hnd:=h.nodes;constructor;{unfold jl;rw[tree_eq (sz_of h),hok];simp only[be,e9,Bool.not_true,cond_false];rw[rebuilt_is numI h.szd (by omega) hi hr];rfl};{unfold mz;rw[treeR_eq (sz_of h),hok];simp only[be,e9,Bool.not_true,cond_false];rw[reduced13_is h.good (by omega) (by omega) hi hr (by omega)];rfl}
theorem p8 {t:Tree} (h:iw t=true):jc t.Hood=true:=by simp only[iw,Bool.and_eq_true,Bool.not_eq_true',Bool.or_eq_false_iff] at h;simpa using h.1.2.2.1
theorem rep_post {l:AE}:∀(L:Nat) (u:DD L) (us:List ND),(∃k,Rep l L k u)->(∀x∈us,∃k,Rep l (x.1+1) k x.2)->∀x∈post L u us,∃k,Rep l (x.1+1) k x.2
 |0,_,_,_,h=>h|L+1,u,us,⟨k,hk⟩,h=>by
  unfold post;by_cases hm:(⟨L,u⟩:ND)∈us;{rw[if_pos hm];exact h}
  ·rw[if_neg hm];have hf:∀(ds:List (DD L)) (us:List ND),(∀d∈ds,∃k,Rep l L k d)->(∀x∈us,∃k,Rep l (x.1+1) k x.2)->∀x∈ds.foldl (λs d=>post L d s) us,∃k,Rep l (x.1+1) k x.2:=λds=>by
    induction ds with
    |nil=>exact λ_ _ h=>h|cons d ds ih=>exact λus hd h=>ih _ (λe he=>hd e (List.mem_cons_of_mem _ he)) (rep_post L d us (hd d (by simp)) h)
   obtain⟨x,h1,h2,h3,h4⟩:=id hk;intro y hy;rcases List.mem_append.1 hy with hy|hy;{refine hf _ us (λd hd=>?_) h y hy;obtain⟨s,hs⟩:=List.mem_iff_getElem?.1 hd;have hl:=(List.getElem?_eq_some_iff.1 hs).1;exact⟨_,h4 s (x.Next[s]'(by omega)) d (List.getElem?_eq_getElem _) hs⟩};{rw[List.mem_singleton] at hy;subst hy;exact⟨k,hk⟩}
theorem TOk.walk {n:Nat} {t:Tree} (_h:TOk n t) {L i:Nat} {u:DD (L+1)} (_hL:L+1=t.Hood.length) (hr:Rep t.Nodes (L+1) i u):∃R dn,WR t.Nodes R dn (post (L+1) u []):=by obtain⟨w,_⟩:=rZ (L+1) u [];exact⟨λ_=>False,List.replicate t.Nodes.length 0,⟨by simp,(λ_ _ _ h=>h.elim),w.ext.clo (λ_ _ h=>by cases h),w.ext.nd List.nodup_nil,rep_post (L+1) u [] ⟨_,hr⟩ (λ_ h=>by cases h)⟩⟩
theorem post_last {L:Nat} (u:DD (L+1)):∃vs,post (L+1) u []=vs++[⟨L,u⟩]:=by unfold post;simp
theorem idxOf_get {us:List ND} (hd:us.Nodup) {i:Nat} {x:ND} (h:us[i]?=some x):us.idxOf x=i:=by grind
theorem TOk.red {n:Nat} {t:Tree} (h:TOk n t) {L i:Nat} {u:DD (L+1)} (hL:L+1=t.Hood.length) (hr:Rep t.Nodes (L+1) i u) :
  TOk n ⟨t.States,t.Hood,ser (post (L+1) u [])⟩/\∃j,j+1=(ser (post (L+1) u [])).length/\Rep (ser (post (L+1) u [])) (L+1) j u:=by
 obtain⟨R,dn,hw⟩:=h.walk hL hr;obtain⟨vs,hv⟩:=post_last u;generalize post (L+1) u []=us at hw hv⊢;have hle:=hw.le;have hnd:=h.nodes;have hsl:(ser us).length=us.length:=by unfold ser;simp
 have hget:∀(j:Nat) y,(ser us)[j]?=some y->∃x:ND,us[j]?=some x/\y=ic us x:=λj y hy=>by unfold ser at hy;grind
 have hlev:∀x:ND,(ic us x).Level=(x.1:Int)+1:=λx=>by
  obtain⟨K,w⟩:=x;cases K with
  |zero=>rfl|succ K=>rfl
 have hreg:∀x∈us,Reg n (x.1+1) x.2/\(x.1:Int)+1<=t.Hood.length:=λx hx=>by obtain⟨k,hk⟩:=hw.rep x hx;obtain⟨y,e1,e2,_⟩:=id hk;obtain⟨_,_,e3⟩:=fO e1;have:=h.lev y (List.mem_of_getElem? e3);exact⟨hk.reg h.good,by omega⟩
 have hlen:∀x:ND,(ic us x).Next.length=x.2.kids.length:=λx=>by
  obtain⟨K,w⟩:=x;cases K with
  |zero=>rfl|succ K=>simp[ic]
 have hgood:Good n (ser us):=by refine⟨λj y hy=>?_,λj y hy=>?_,λj y hy h1 k hk=>?_,λj y hy h1 k hk=>?_⟩;{grind};{obtain⟨x,hx,rfl⟩:=hget j y hy;rw[hlen];exact(hreg x (List.mem_of_getElem? hx)).1.1};{obtain⟨⟨K,w⟩,hx,rfl⟩:=hget j y hy;rw[hlev] at h1⊢;cases K with|zero=>simp_all|succ K=>simp only[ic,List.mem_map] at hk;obtain⟨d,hd,rfl⟩:=hk;obtain⟨m1,m2⟩:=hw.clo K w (List.mem_of_getElem? hx) d hd;rw[idxOf_get hw.nd hx] at m2;grind[Int.toNat_natCast]};{obtain⟨⟨K,w⟩,hx,rfl⟩:=hget j y hy;rw[hlev] at h1;cases K with|zero=>have:=(hreg _ (List.mem_of_getElem? hx)).1.2 k hk;exact this|succ K=>grind}
 have hroot:us[vs.length]?=some ⟨L,u⟩:=by simp_all
 have hul:vs.length+1=us.length:=by rw[hv];simp
 refine⟨⟨h.st,h.n2,h.n8,h.h1,h.h25,by grind,hgood,λy hy=>?_,vs.length,ic us ⟨L,u⟩,by grind,?_,by grind⟩,vs.length,by omega,?_⟩;{obtain⟨j,hj⟩:=List.mem_iff_getElem?.1 hy;grind};{grind};{have:=ser_rep hw.clo L u (List.mem_of_getElem? hroot);rwa [idxOf_get hw.nd hroot] at this}
set_option maxRecDepth 100000
end Go.Proofs.YtpeabgakdpojlaaGreatDoor
namespace Go.Proofs.YtpeabgakdpojlaaGreatDoor
open Go.AM Go.Proofs
theorem imax_assoc (a b c:Int):ja (ja a b) c=ja a (ja b c):=by
 unfold ja
 repeat' split
 all_goals omega
theorem rad_step (l:AG):ma l=fj l:=by funext st;obtain⟨n,i⟩:=st;unfold ma fj sY;dsimp only;simp only[be,<- imax_assoc]
theorem rad_eq {l:AG} (hl:l.length<1099511627776):dA l=dt l:=by
 unfold dA dt;rw[hoodR_eq hl,hood_eq hl,rad_step];simp only[be];cases jc l with
 |false=>rfl|true=>simp only[e9,Bool.not_true,cond_false,cond_true];cases bv (fj l) bL (0,0)<;>rfl
end Go.Proofs.YtpeabgakdpojlaaGreatDoor
namespace Go.Proofs.YtpeabgakdpojlaaGreatDoor.PC
open Go.AM Go.Proofs Go.Proofs.YtpeabgakdpojlaaGreatDoor
def bitsOf (s:Int):Int:=bif eqB s 2 then 1 else bif eqB s 3||eqB s 4 then 2 else bif gtB s 4&&leB s 8 then 3 else 0
theorem bits_eq (s:Int):lj s=some (bitsOf s):=by unfold lj bitsOf;cases eqB s 2<;>cases eqB s 3<;>cases eqB s 4<;>cases gtB s 4<;>cases leB s 8<;>rfl
theorem bitsR_eq (s:Int):oL s=some (bitsOf s):=by unfold oL bitsOf;rw[show geB s 5=gtB s 4 from decide_eq_decide.2 ⟨λh=>by omega,λh=>by omega⟩];cases eqB s 2<;>cases eqB s 3<;>cases eqB s 4<;>cases gtB s 4<;>cases leB s 8<;>rfl
theorem bits_in {s:Int} (h2:2<=s) (h8:s<=8):(bitsOf s=1/\s<=2)\/(bitsOf s=2/\s<=4)\/(bitsOf s=3/\s<=8):=by
 unfold bitsOf eqB gtB leB;by_cases e2:s=2;{subst e2;exact .inl ⟨rfl,by omega⟩}
 ·by_cases e3:s=3;{subst e3;exact .inr (.inl ⟨rfl,by omega⟩)}
  ·by_cases e4:s=4;{subst e4;exact .inr (.inl ⟨rfl,by omega⟩)}
   ·refine .inr (.inr ⟨?_,h8⟩);have:s>4:=by omega
    rw[beq_false_of_ne e2,beq_false_of_ne e3,beq_false_of_ne e4,decide_eq_true this,decide_eq_true h8];rfl
end Go.Proofs.YtpeabgakdpojlaaGreatDoor.PC
namespace Go.Proofs.YtpeabgakdpojlaaGreatDoor
open Go.AM Go.Proofs
def fU (c:Int) (j:Nat):Bool:=eqB (iand .i64 ((ishr .i64 c (j:Int)).getD 0) 1) 1
theorem ishr_nat (c:Int) (j:Nat):ishr .i64 c (j:Int)=some ((ishr .i64 c (j:Int)).getD 0):=by rfl
theorem and1 (n:Int):iand .i64 n 1=0\/iand .i64 n 1=1:=by
 unfold iand;have h:(BitVec.ofInt IntKind.i64.bits n &&& BitVec.ofInt IntKind.i64.bits 1).toNat=(BitVec.ofInt IntKind.i64.bits n).toNat%2:=by grind
 rw[h];rcases Nat.mod_two_eq_zero_or_one (BitVec.ofInt IntKind.i64.bits n).toNat with e|e;{rw[e];exact .inl (by decide)};{rw[e];exact .inr (by decide)}
theorem and1_zero (n:Int):eqB (iand .i64 n 1) 0=!eqB (iand .i64 n 1) 1:=by rcases and1 n with e|e<;>rw[e]<;>rfl
theorem u64_nat {j:Nat} (h:j<1099511627776):pK .u64 (j:Int)=(j:Int):=by unfold pK;exact IntWalk.u64_in _ ⟨by omega,by omega⟩
theorem bitR_eq (c:Int) {j:Nat} (h:j<1099511627776):∃n,og c (j:Int)=some n/\eqB n 1=fU c j:=by refine⟨_,?_,rfl⟩;unfold og;rw[u64_nat h,ishr_nat];rfl
def gat {I β:Type} (f:Nat->I->List β):List I->Nat->List β|[],_=>[]|x::l,i=>f i x++gat f l (i+1)
theorem gat_app {I β:Type} (f:Nat->I->List β):∀(l m:List I) (i:Nat),gat f (l++m) i=gat f l i++gat f m (i+l.length)|[],m,i=>by simp[gat]|x::l,m,i=>by rw[List.cons_append,gat,gat,gat_app f l m (i+1),List.append_assoc,List.length_cons,Nat.add_assoc,Nat.add_comm 1]
theorem gat_take {I β:Type} (f:Nat->I->List β) {l:List I} {i:Nat} {x:I} (h:l[i]?=some x):gat f (l.take (i+1)) 0=gat f (l.take i) 0++f i x:=by have hi:=(List.getElem?_eq_some_iff.1 h).1;rw[List.take_add_one,h,gat_app];simp only[Option.toList,gat,List.append_nil,Nat.zero_add,List.length_take,Nat.min_eq_left (Nat.le_of_lt hi)]
theorem gat_len {I β:Type} {f:Nat->I->List β} {m:Nat} (hf:∀i x,(f i x).length<=m):∀(l:List I) (i:Nat),(gat f l i).length<=m*l.length|[],_=>by simp[gat]|x::l,i=>by rw[gat,List.length_append,List.length_cons,Nat.mul_add,Nat.mul_one];have:=gat_len hf l (i+1);grind
theorem lu {I β:Type} {b:Int×List β->Option (Lp (Int×List β) (List β))} (l:List I) (f:Nat->I->List β) (m C:Nat) (acc:List β) (hf:∀i x,(f i x).length<=m) (hl:l.length<1099511627776) (hC:acc.length+m*l.length<=C) (hs:∀(i:Nat) (x:I) (ac:List β),l[i]?=some x->ac.length+m<=C->b ((i:Int),ac)=some (.next (((i+1:Nat):Int),ac++f i x))) (he:∀ac,b ((l.length:Int),ac)=some (.out ac)):bv b bL (0,acc)=some (acc++gat f l 0):=by
 obtain⟨r,hr,rfl⟩:=d5 (b:=b) (n:=l.length) (s:=(0,acc)) (λi st=>st=((i:Int),acc++gat f (l.take i) 0)) (λr=>r=acc++gat f l 0) hl (by simp[gat]) (λi st hi e=>by
   subst e;have hx:l[i]?=some l[i]:=List.getElem?_eq_getElem hi;refine .inl ⟨_,hs i _ _ hx ?_,?_⟩
   ·have h1:=gat_len hf (l.take i) 0;rw[List.length_take,Nat.min_eq_left (Nat.le_of_lt hi)] at h1;rw[List.length_append];have h2:m*i+m<=m*l.length:=by have:=Nat.mul_le_mul_left m (show i+1<=l.length from hi);omega
    omega
   ·rw[gat_take f hx,List.append_assoc])
  (λst e=>by simp_all)
 exact hr
theorem gat_get {I β:Type} (f:Nat->I->β):∀(l:List I) (i j:Nat),(gat (λk x=>[f k x]) l i)[j]?=(l[j]?).map (f (i+j))|[],_,_=>by simp[gat]|x::l,i,0=>by simp[gat]|x::l,i,j+1=>by rw[gat,List.singleton_append,List.getElem?_cons_succ,List.getElem?_cons_succ,gat_get f l (i+1) j,show i+1+j=i+(j+1) by omega]
theorem gat_one_len {I β:Type} (f:Nat->I->β):∀(l:List I) (i:Nat),(gat (λk x=>[f k x]) l i).length=l.length|[],_=>rfl|x::l,i=>by rw[gat,List.singleton_append,List.length_cons,gat_one_len f l (i+1),List.length_cons]
theorem dw {I:Type} {n:Nat} {l m:List I} (h1:0<n) (h2:n<=64) (h:l.length+m.length<=2000000000000):dp n l m=some (l++m):=by refine if_pos ⟨h1,?_⟩;have:=Nat.mul_le_mul h h2;omega
def agS (l:A0) (c:Int):A0:=gat (λj v=>[bif fU c j then cA .i64 v else v]) l 0
def cP (v:Int) (b:Nat):A0:=(List.range b).map λ(k:Nat)=>v+1+k
def fixS (l:A0) (c:Int):A1:=gat (λj v=>[[bif fU c j then v else cA .i64 v]]) l 0
abbrev SV:=Int×A0
def sel1 (un:A0) (v:SV) (k:Nat) (x:Int):A1 :=bif isE v.2 then [un++[bif fU v.1 k then x else cA .i64 x]] else [un++[cA .i64 x,v.2.getD k 0],un++[x,cA .i64 (v.2.getD k 0)]]
def selS (un own:A0) (v:SV):A1:=gat (sel1 un v) own 0
def pv (v:SV):Bw:=⟨v.1,v.2⟩
def rv (v:SV):Ba:=⟨v.1,v.2⟩
theorem agS_len (l:A0) (c:Int):(agS l c).length=l.length:=gat_one_len _ l 0
theorem dE (v:Int) (b:Nat):(cP v b).length=b:=by simp[cP]
theorem sel1_len (un:A0) (v:SV) (k:Nat) (x:Int):(sel1 un v k x).length<=2:=by grind[sel1]
theorem selS_len (un own:A0) (v:SV):(selS un own v).length<=2*own.length:=gat_len (λk x=>sel1_len un v k x) own 0
theorem fixS_len (l:A0) (c:Int):(fixS l c).length=l.length:=gat_one_len _ l 0
theorem clone_i {l:A0} (h:l.length<=1000000000000):cq l=some l:=by grind[cq,dw]
theorem against_eq {l:A0} (hl:l.length<1000000) (c:Int):iF l c=some (agS l c):=by
 unfold iF;rw[clone_i (by omega)];simp only[be];obtain⟨r,hr,rfl⟩:=d5 (b:=gm c l) (n:=l.length) (s:=(0,l)) (λi st=>∃ys:A0,st=((i:Int),ys)/\ys.length=l.length/\(∀j,j<i->ys[j]?=(agS l c)[j]?)/\∀j,i<=j->ys[j]?=l[j]?) (λr=>r=agS l c) (by omega) ⟨l,rfl,rfl,λj h=>by omega,λ_ _=>rfl⟩ (λi st hi ⟨ys,e,h1,h2,h3⟩=>by
   subst e;have hx:l[i]?=some l[i]:=List.getElem?_eq_getElem hi;have hy:ys[i]?=some l[i]:=(h3 i (Nat.le_refl _)).trans hx;have hg:(agS l c)[i]?=some (bif fU c i then cA .i64 l[i] else l[i]):=by unfold agS;rw[gat_get,hx,Nat.zero_add];rfl
   refine .inl ⟨(((i+1:Nat):Int),ys.set i (bif fU c i then cA .i64 l[i] else l[i])),?_,_,rfl,by simp_all,λj hj=>?_,λj hj=>?_⟩;{unfold gm;dsimp only;rw[bD,decide_eq_true hi,cond_true,ishr_nat,zF];simp only[be];rw[show eqB (iand .i64 ((ishr .i64 c (i:Int)).getD 0) 1) 1=fU c i from rfl];cases fU c i with|true=>simp only[cond_true];rw[bE,hy];rfl|false=>simp only[cond_false,be];rw[i6 hy]};{grind};grind)
  (λst ⟨ys,e,h1,h2,_⟩=>by
   subst e;refine⟨ys,?_,?_⟩;{simp[gm,bD]}
   ·apply List.ext_getElem?;grind[agS_len])
 rw[hr];rfl
theorem againstR_eq {l:A0} (hl:l.length<1000000) (c:Int):lK l c=some (agS l c):=by unfold lK;rw[lu l (λj v=>[bif fU c j then cA .i64 v else v]) 1 1000000 [] (λ_ _=>Nat.le_refl _) (by omega) (by simp;omega) (λi x ac hx hac=>by unfold lA;dsimp only;obtain⟨n,h1,h2⟩:=bitR_eq c (show i<1099511627776 by grind);rw[bD,decide_eq_true (cG hx),cond_true,h1,cd (by grind)];grind[bE,dw]) (λac=>by simp[lA,bD])];rfl
theorem clauseP {a:Int} {S:Int} {H:AG} {N:AE} {b:Int} {mp:AF} {cs:A1} {l:A0} (h:cs.length<=1000000000000):dP a cs S H N b mp l=some ():=by grind[dP,dw]
theorem clauseP2 {a:Int} {S:Int} {H:AG} {N:AE} {b:Int} {mp:AF} {cs:A1} {l:A0} (h:cs.length<=1000000000000):ew a cs S H N b mp l=some ():=by grind[ew,dw]
theorem clauseR {a:Int} {cs:A1} {l m:A0} (h:cs.length<=1000000000000) (h1:l.length<=1000000) (h2:m.length<=1000000):gG a cs l m=some ():=by grind[gG,dw]
theorem clauseR0 {a:Int} {cs:A1} {l:A0} (h:cs.length<=1000000000000) (h1:l.length<=1000000):gu a cs l=some ():=by grind[gu,dw]
theorem fixP {a:Int} {S:Int} {H:AG} {N:AE} {b:Int} {mp:AF} {cs:A1} {l:A0} (c:Int) (h:cs.length<=100000000000) (h1:l.length<=1000000):fG a cs S H N b mp l c=some (cs++fixS l c):=by unfold fG;rw[lu l (λj v=>[[bif fU c j then v else cA .i64 v]]) 1 200000000000 cs (λ_ _=>Nat.le_refl _) (by omega) (by omega) (λi x ac hx hac=>by unfold ff;dsimp only;rw[bD,decide_eq_true (cG hx),cond_true,bE,hx,ishr_nat,cd (by grind)];simp only[be];rw[and1_zero,show eqB (iand .i64 ((ishr .i64 c (i:Int)).getD 0) 1) 1=fU c i from rfl];cases fU c i<;>simp only[Bool.not_true,Bool.not_false,cond_true,cond_false,be]<;>rw[clauseP (by omega)]<;>rfl) (λac=>by simp[ff,bD])];rfl
theorem fixR {a:Int} {cs:A1} {l:A0} (c:Int) (h:cs.length<=100000000000) (h1:l.length<=1000000):pb a cs l c=some (cs++fixS l c):=by unfold pb;rw[lu l (λj v=>[[bif fU c j then v else cA .i64 v]]) 1 200000000000 cs (λ_ _=>Nat.le_refl _) (by omega) (by omega) (λi x ac hx hac=>by unfold mR;dsimp only;obtain⟨n,e1,e2⟩:=bitR_eq c (show i<1099511627776 by grind);rw[bD,decide_eq_true (cG hx),cond_true,e1,bE,hx,cd (by grind)];grind[clauseR0]) (λac=>by simp[mR,bD])];rfl
end Go.Proofs.YtpeabgakdpojlaaGreatDoor
namespace Go.Proofs.YtpeabgakdpojlaaGreatDoor
open Go.AM Go.Proofs
abbrev FS:=Int×A1×List SV
def lU (of_:List SV) (x:Node) (s:Nat):SV:=if x.Level=1 then(x.Next.getD s 0,[])else of_.getD (x.Next.getD s 0).toNat (0,[])
def tA (x:Node):Bool:=x.Next.all (λk=>eqB k (x.Next.getD 0 0))
def rdS (H:Nat) (in_:List SV) (x:Node):A0:=(in_.getD (H-x.Level.toNat) (0,[])).2
def pI (b H:Nat) (in_:List SV) (st:FS) (x:Node):FS :=bif tA x then(st.1,st.2.1,st.2.2++[lU st.2.2 x 0]) else(st.1+b,st.2.1++gat (λs _=>selS (agS (rdS H in_ x) (s:Int)) (cP st.1 b) (lU st.2.2 x s)) x.Next 0,st.2.2++[(0,cP st.1 b)])
def cL (b H:Nat) (in_:List SV) (ns:AE) (st:FS):FS:=ns.foldl (pI b H in_) st
theorem tj (b H:Nat) (in_:List SV) {ns:AE} (st:FS) {i:Nat} {x:Node} (h:ns[i]?=some x):cL b H in_ (ns.take (i+1)) st=pI b H in_ (cL b H in_ (ns.take i) st) x:=by unfold cL;rw[List.take_add_one,h,List.foldl_append];rfl
def VOk (n b:Nat) (v:SV):Prop:=(v.2=[]/\0<=v.1/\v.1<(n:Int))\/(v.1=0/\v.2.length=b)
structure WT (n b H:Nat) (in_:List SV) (ns:AE):Prop where
 n2:2<=n
 n8:n<=8
 b1:1<=b
 b3:b<=3
 H25:H<=25
 len:ns.length<=4096
 ne:1<=ns.length
 good:Good n ns
 lev:∀x∈ns,x.Level<=(H:Int)
 inl:in_.length=H
 inv:∀v∈in_,VOk n b v
 rds:∀x∈ns,tA x=false->rdS H in_ x≠[]
structure TI (n b i:Nat) (n0:Int) (c0:Nat) (st:FS):Prop where
 lo:n0<=st.1
 hi:st.1<=n0+3*i
 cs:st.2.1.length<=c0+48*i
 of_:st.2.2.length=i
 ok:∀v∈st.2.2,VOk n b v
section
variable {n b H:Nat} {in_:List SV} {ns:AE} {n0:Int} {c0:Nat} {st:FS} {i:Nat} {x:Node}
theorem WT.inb (W:WT n b H in_ ns) (hx:ns[i]?=some x):(x.Level.toNat:Int)=x.Level/\1<=x.Level/\x.Level<=(H:Int):=by have h1:=W.good.lev i x hx;have h2:=W.lev x (List.mem_of_getElem? hx);omega
theorem kid_ok (W:WT n b H in_ ns) (T:TI n b i n0 c0 st) (hx:ns[i]?=some x) {s:Nat} (hs:s<n):VOk n b (lU st.2.2 x s):=by
 have hl:=W.good.len i x hx;have hk:x.Next[s]?=some (x.Next.getD s 0):=by simp_all
 have hm:=List.mem_of_getElem? hk;unfold lU;by_cases h1:x.Level=1;{rw[if_pos h1];obtain⟨a,b⟩:=W.good.st i x hx h1 _ hm;exact .inl ⟨rfl,a,b⟩}
 ·rw[if_neg h1];have:=(W.inb hx).2.1;obtain⟨a,b,_⟩:=W.good.kid i x hx (by omega) _ hm;have hlt:(x.Next.getD s 0).toNat<st.2.2.length:=by rw[T.of_];omega
  rw[List.getD_eq_getElem?_getD,List.getElem?_eq_getElem hlt];exact T.ok _ (List.getElem_mem hlt)
theorem rds_get (W:WT n b H in_ ns) (hx:ns[i]?=some x):∃v:SV,idx in_ (bZ .i64 (H:Int) x.Level)=some v/\v.2=rdS H in_ x/\VOk n b v:=by
 obtain⟨h1,h2,h3⟩:=W.inb hx;have hH:=W.H25;have hlt:H-x.Level.toNat<in_.length:=by rw[W.inl];omega
 refine⟨in_.getD (H-x.Level.toNat) (0,[]),?_,rfl,?_⟩;{grind[jq,fE]};{rw[List.getD_eq_getElem?_getD,List.getElem?_eq_getElem hlt];exact W.inv _ (List.getElem_mem hlt)}
theorem rds_len (W:WT n b H in_ ns) (hx:ns[i]?=some x):(rdS H in_ x).length<=3:=by obtain⟨v,_,h2,h3⟩:=rds_get W hx;have:=W.b3;rw[<- h2];rcases h3 with⟨e,_⟩|⟨_,e⟩;{rw[e];simp};{omega}
theorem TI.step (W:WT n b H in_ ns) (T:TI n b i n0 c0 st) (hx:ns[i]?=some x):TI n b (i+1) n0 c0 (pI b H in_ st x):=by
 have h3:=W.b3;have n8:=W.n8;have n2:=W.n2;obtain⟨t1,t2,t3,t4,t5⟩:=T;unfold pI;cases tA x with
 |true=>
  simp only[cond_true];refine⟨t1,by omega,by grind,by simp[t4],λv hv=>?_⟩;rcases List.mem_append.1 hv with hv|hv;{exact t5 v hv};{rw[List.mem_singleton.1 hv];exact kid_ok W ⟨t1,t2,t3,t4,t5⟩ hx (by omega)}
 |false=>simp only[cond_false];refine⟨by omega,by omega,?_,by simp[t4],λv hv=>?_⟩;{show (_++_:A1).length<=_;rw[List.length_append];have hg:=gat_len (f:=λs _=>selS (agS (rdS H in_ x) ((s:Nat):Int)) (cP st.1 b) (lU st.2.2 x s)) (m:=6) (λs y=>by grind[selS_len,dE]) x.Next 0;have:=W.good.len i x hx;omega};{rcases List.mem_append.1 hv with hv|hv;{exact t5 v hv};{rw[List.mem_singleton.1 hv];exact .inr ⟨rfl,dE _ _⟩}}
theorem TI.init {cs:A1}:TI n b 0 n0 cs.length (n0,cs,[]):=⟨Int.le_refl _,by simp,by simp,rfl,λv hv=>by cases hv⟩
theorem TI.at_ (W:WT n b H in_ ns) (T:TI n b 0 n0 c0 st):∀i,i<=ns.length->TI n b i n0 c0 (cL b H in_ (ns.take i) st)|0,_=>T|i+1,h=>by have hx:ns[i]?=some ns[i]:=zB;rw[tj b H in_ st hx];exact(TI.at_ W T i (by omega)).step W hx
end
theorem freshP {v:Int} {cs:A1} {S:Int} {Hd:AG} {N:AE} {b:Nat} {mp:AF} (hb:b<=3) (h0:0<=v) (h1:v<=1000000000000):e7 v cs S Hd N (b:Int) mp=some (cP v b,v+b):=by unfold e7;obtain⟨r,hr,rfl⟩:=d5 (b:=dJ cs S Hd N (b:Int) mp) (n:=b) (s:=(0,[],v)) (λi st=>st=((i:Int),cP v i,v+i)) (λr=>r=(cP v b,v+b)) (by omega) (by simp[cP]) (λi st hi e=>by subst e;refine .inl ⟨_,?_,rfl⟩;unfold dJ;dsimp only;rw[show ltB (i:Int) (b:Int)=true from zD,cond_true,cY (a:=v+i) (b:=1) (by omega),dw (by decide) (by decide) (by rw[dE];simp;omega),zF];grind[cP,List.range_succ]) (λst e=>by subst e;refine⟨_,?_,rfl⟩;simp[dJ,ltB]);rw[hr];rfl
theorem freshR (t:Tree) (in_:AJ) {b:Nat} (i:Int) (l:A1) (of_:AJ) (x:Node) (kids:AJ) {v:Int} (hb:b<=3) (h0:0<=v) (h1:v<=1000000000000):bv (gr t in_ (b:Int) i l of_ x kids) bL (0,v,[])=some (v+b,cP v b):=by obtain⟨r,hr,rfl⟩:=d5 (b:=gr t in_ (b:Int) i l of_ x kids) (n:=b) (s:=(0,v,[])) (λi st=>st=((i:Int),v+i,cP v i)) (λr=>r=(v+b,cP v b)) (by omega) (by simp[cP]) (λi st hi e=>by subst e;refine .inl ⟨_,?_,rfl⟩;unfold gr;dsimp only;rw[show ltB (i:Int) (b:Int)=true from zD,cond_true,cY (a:=v+i) (b:=1) (by omega),dw (by decide) (by decide) (by rw[dE];simp;omega),zF];grind[cP,List.range_succ]) (λst e=>by subst e;refine⟨_,?_,rfl⟩;simp[gr,ltB]);exact hr
theorem uniP {x:Node} (hl:x.Next.length<1000000):ck x.Next x=some (!tA x):=by
 unfold ck cN;obtain⟨r,hr,hq⟩:=d5 (b:=cb x.Next x) (n:=x.Next.length) (s:=0) (λi st=>st=(i:Int)/\∀(j:Nat) k,j<i->x.Next[j]?=some k->eqB k (x.Next.getD 0 0)=true) (λr=>(tA x=true/\r=.inr ())\/(tA x=false/\∃k:Nat,r=.inl (k:Int))) (by omega) ⟨rfl,λj k h=>by omega⟩ (λi st hi ⟨e,h⟩=>by
   subst e;have hx:x.Next[i]?=some x.Next[i]:=List.getElem?_eq_getElem hi;generalize x.Next[i]=k at hx;have h0:idx x.Next 0=some (x.Next.getD 0 0):=by rw[show (0:Int)=((0:Nat):Int)from rfl,bE,List.getD_eq_getElem?_getD,zB];rfl
   unfold cb gI;dsimp only;rw[bD,decide_eq_true hi,cond_true,bE,hx,h0,zF];simp only[be,neB_eqB];cases hk:eqB k (x.Next.getD 0 0)with
   |true=>grind|false=>
    refine .inr ⟨_,rfl,.inr ⟨?_,i,rfl⟩⟩;unfold tA;grind)
  (λst ⟨e,h⟩=>by subst e;refine⟨_,?_,.inl ⟨?_,rfl⟩⟩;{simp[cb,bD]};grind[tA,List.mem_iff_getElem?])
 rw[hr];rcases hq with⟨h1,rfl⟩|⟨h1,k,rfl⟩;{rw[h1];rfl};simp_all[geB]
theorem uniR {x:Node} (h1:1<=x.Next.length) (hl:x.Next.length<1000000):pc x.Next=some (tA x):=by
 unfold pc;have h0:idx x.Next 0=some (x.Next.getD 0 0):=by rw[show (0:Int)=((0:Nat):Int)from rfl,bE,List.getD_eq_getElem?_getD,zB];rfl
 obtain⟨r,hr,hq⟩:=d5 (b:=lL x.Next) (n:=x.Next.length-1) (s:=1) (λi st=>st=((i+1:Nat):Int)/\∀(j:Nat) k,j<=i->x.Next[j]?=some k->eqB k (x.Next.getD 0 0)=true) (λr=>(tA x=true/\r=.inr ())\/(tA x=false/\r=.inl false)) (by omega) ⟨rfl,λj k h hk=>by
   obtain rfl:j=0:=by omega
   rw[List.getD_eq_getElem?_getD,hk];simp[eqB]⟩
  (λi st hi ⟨e,h⟩=>by
   subst e;have hi':i+1<x.Next.length:=by omega
   have hx:x.Next[i+1]?=some x.Next[i+1]:=List.getElem?_eq_getElem hi';generalize x.Next[i+1]=k at hx;unfold lL;dsimp only;rw[bD,decide_eq_true hi',cond_true,bE,hx,h0,zF];simp only[be,neB_eqB];cases hk:eqB k (x.Next.getD 0 0)with
   |true=>grind|false=>
    refine .inr ⟨_,rfl,.inr ⟨?_,rfl⟩⟩;unfold tA;grind)
  (λst ⟨e,h⟩=>by subst e;refine⟨_,?_,.inl ⟨?_,rfl⟩⟩;{simp_all[lL,bD]};grind[tA,List.mem_iff_getElem?])
 grind
theorem sX {I:Type} {l:List I} (h:l≠[]):neE l=some ():=by cases l with|nil=>exact absurd rfl h|cons _ _=>rfl
theorem isE_true {I:Type} {l:List I} (h:isE l=true):l=[]:=by cases l with|nil=>rfl|cons _ _=>cases h
theorem vok_len {n b:Nat} {v:SV} (h:VOk n b v) (he:isE v.2=false):v.2.length=b:=by rcases h with⟨e,_⟩|⟨_,e⟩;{rw[e] at he;cases he};{exact e}
theorem addP {l:A0} {v:Int} {cs:A1} {S:Int} {Hd:AG} {N:AE} {b:Int} {mp:AF} {un:A0} (h:cs.length<=1000000000000) (h1:un.length<=1000000) (h2:l.length<=1000000):cC l v cs S Hd N b mp un=some (cs++[un++l]):=by grind[cC,clone_i,dw,clauseP2]
theorem selP {n b:Nat} {f:Int} {cs:A1} {S:Int} {Hd:AG} {N:AE} {bb:Int} {mp:AF} {un own:A0} {v:SV} (hv:VOk n b v) (ho:own.length=b) (hb:b<=3) (h:cs.length<=100000000000) (h1:un.length<=1000000) :
  eD f cs S Hd N bb mp un own (pv v)=some (cs++selS un own v):=by
 unfold eD;rw[lu own (sel1 un v) 2 200000000000 cs (λi x=>sel1_len un v i x) (by omega) (by omega) (λi x ac hx hac=>by
  have hi:=cG hx;unfold dX sel1;dsimp only[pv];rw[bD,decide_eq_true hi,cond_true,bE,hx,zF];simp only[be];cases he:isE v.2 with
  |false=>
   have hne:v.2≠[]:=λe=>by rw[e] at he;cases he
   have hy:v.2[i]?=some (v.2.getD i 0):=by grind[vok_len]
   simp only[e9,Bool.not_false,cond_true,cond_false];rw[sX hne,bE,hy];grind[addP]
  |true=>
   simp only[e9,Bool.not_true,cond_false,cond_true];rw[ishr_nat];simp only[be];rw[show eqB (iand .i64 ((ishr .i64 v.1 (i:Int)).getD 0) 1) 1=fU v.1 i from rfl,addP (by omega) h1 (by simp),addP (by omega) h1 (by simp)];grind) (λac=>by simp[dX,bD])]
 rfl
def gF (v:Int) (cs:A1):Bool:=leB v 65536&&leB (br cs) 262144
theorem mJ (f:Bv):me f=some (gF f.Vars f.Clauses):=by grind[me,gF]
theorem largeP_eq {v:Int} {cs:A1} {S:Int} {Hd:AG} {N:AE} {b:Int} {mp:AF}:e8 v cs S Hd N b mp=some (!gF v cs):=by grind[e8,gF,gtB_not]
theorem sV {v w:Int} {cs ds:A1} (h1:v<=w) (h2:cs.length<=ds.length) (h:gF w ds=true):gF v cs=true:=by unfold gF leB br at *;grind
theorem fit_len {v:Int} {cs:A1} (h:gF v cs=true):v<=65536/\cs.length<=262144:=by unfold gF leB br at *;grind
theorem node_mono (b H:Nat) (in_:List SV) (st:FS) (x:Node):st.1<=(pI b H in_ st x).1/\st.2.1.length<=(pI b H in_ st x).2.1.length:=by unfold pI;grind
theorem tree_mono (b H:Nat) (in_:List SV):∀(ns:AE) (st:FS),st.1<=(cL b H in_ ns st).1/\st.2.1.length<=(cL b H in_ ns st).2.1.length|[],st=>⟨Int.le_refl _,Nat.le_refl _⟩|x::ns,st=>by have h1:=node_mono b H in_ st x;have h2:=tree_mono b H in_ ns (pI b H in_ st x);grind[cL]
theorem tree_cut (b H:Nat) (in_:List SV) (ns:AE) (st:FS) (i:Nat):cL b H in_ ns st=cL b H in_ (ns.drop i) (cL b H in_ (ns.take i) st):=by unfold cL;rw[<- List.foldl_append,List.take_append_drop]
theorem fit_take {b H:Nat} {in_:List SV} {ns:AE} {st:FS} (i:Nat) (h:gF (cL b H in_ ns st).1 (cL b H in_ ns st).2.1=true):gF (cL b H in_ (ns.take i) st).1 (cL b H in_ (ns.take i) st).2.1=true:=by rw[tree_cut b H in_ ns st i] at h;have:=tree_mono b H in_ (ns.drop i) (cL b H in_ (ns.take i) st);exact sV this.1 this.2 h
section
variable {n b:Nat} {S S':Int} {Hd Hd':AG} {N:AE} {mp:AF} {in_:List SV} {ns:AE} {n0:Int} {c0:Nat}
theorem elemP {of_:List SV} {k:Nat} {x:Node} {s:Nat} {i:Nat} {e:SV} (W:WT n b Hd.length in_ ns) (hof:of_.length=i) (hx:ns[i]?=some x) (hs:s<n) :
  cO (s:Int) x.Level x.Next ((of_++List.replicate k e).map pv)=some (lU of_ x s):=by
 have hl:=W.good.len i x hx;have hk:x.Next[s]?=some (x.Next.getD s 0):=by simp_all
 unfold cO lU;rw[bE,hk];simp only[be];by_cases h1:x.Level=1;{simp_all[eqB]}
 ·rw[if_neg h1,show eqB x.Level 1=false from by simp[eqB,h1],cond_false];have:=(W.inb hx).2.1;obtain⟨a,c,_⟩:=W.good.kid i x hx (by omega) _ (List.mem_of_getElem? hk);have hlt:(x.Next.getD s 0).toNat<of_.length:=by omega
  rw[fE _ a,List.getElem?_map,List.getElem?_append_left hlt,List.getD_eq_getElem?_getD (l:=of_),List.getElem?_eq_getElem hlt];rfl
theorem set_app {I:Type} (l:List I) (k:Nat) (e v:I):(l++List.replicate (k+1) e).set l.length v=(l++[v])++List.replicate k e:=by grind
theorem selsP {of_:List SV} {k:Nat} {x:Node} {i:Nat} {v:Int} {l1:AH} {cs:A1} {x1:SV} {u:Unit} {y1:A0×Int} {x2:Bw} {t:Tree} {ia:AH} (W:WT n b Hd.length in_ ns) (T:TI n b i n0 c0 (v,cs,of_)) (hx:ns[i]?=some x) (hr:x1.2=rdS Hd.length in_ x) (hu:tA x=false) (hl1:l1=(of_++List.replicate (k+1) (0,[])).map pv) (hx2:x2=⟨0,[]⟩) (hy1:y1=(cP v b,v+b)) (hc:cs.length<=10000000000) :
  bv (dx S' Hd' N (b:Int) mp t ia (i:Int) l1 x (pv x1) y1 x2 u) bL (0,cs)=some (cs++gat (λs _=>selS (agS (rdS Hd.length in_ x) ((s:Nat):Int)) (cP v b) (lU of_ x s)) x.Next 0):=by
 subst hl1 hx2 hy1;have n8:=W.n8;have b3:=W.b3;have hl:=W.good.len i x hx;have hrl:=rds_len W hx;have hne:=W.rds x (List.mem_of_getElem? hx) hu;have hof:of_.length=i:=T.of_;have hset:((of_++List.replicate (k+1) ((0:Int),([]:A0))).map pv).set i (⟨0,cP v b⟩:Bw)=((of_++[(0,cP v b)])++List.replicate k ((0:Int),([]:A0))).map pv:=by rw[show (⟨0,cP v b⟩:Bw)=pv (0,cP v b)from rfl,<- List.map_set,<- hof,set_app]
 refine lu x.Next _ 6 20000000000 cs (λs y=>?_) (by omega) (by omega) (λs y ac hs hac=>?_) (λac=>?_);{grind[selS_len,dE]}
 ·have hlt:=cG hs;unfold dx;dsimp only[pv];rw[bD,decide_eq_true hlt,cond_true,hr,sX hne,against_eq (by omega),zF];simp only[be];rw[Int.toNat_natCast];have he:cO (s:Int) x.Level x.Next (((of_++List.replicate (k+1) ((0:Int),([]:A0))).map pv).set i (⟨0,cP v b⟩:Bw))=some (lU of_ x s):=by
   rw[hset];unfold cO lU;have hk:x.Next[s]?=some (x.Next.getD s 0):=by simp_all
   rw[bE,hk];simp only[be];by_cases h1:x.Level=1;{rw[if_pos h1,show eqB x.Level 1=true from by simp[eqB,h1],cond_true]}
   ·rw[if_neg h1,show eqB x.Level 1=false from by simp[eqB,h1],cond_false];have:=(W.inb hx).2.1;obtain⟨a,c,_⟩:=W.good.kid i x hx (by omega) _ (List.mem_of_getElem? hk);have hlt:(x.Next.getD s 0).toNat<of_.length:=by omega
    rw[fE _ a,List.getElem?_map,List.append_assoc,List.getElem?_append_left hlt,List.getD_eq_getElem?_getD (l:=of_),List.getElem?_eq_getElem hlt];rfl
  rw[he];simp only[be];have hv:=kid_ok W T hx (s:=s) (by omega);have hsel:=selP (f:=v+b) (cs:=ac) (S:=S') (Hd:=Hd') (N:=N) (bb:=(b:Int)) (mp:=mp) (un:=agS (rdS Hd.length in_ x) (s:Int)) (own:=cP v b) hv (dE _ _) b3 (by omega) (by rw[agS_len];omega);simp_all[pv]
 simp[dx,bD]
theorem treeP {t:Tree} {v:Int} {cs:A1} (W:WT n b t.Hood.length in_ t.Nodes) (h0:0<=v) (h1:v<=10000000) (hc:cs.length<=1000000000) :
  eX v cs S Hd N (b:Int) mp t (in_.map pv)=some (((cL b t.Hood.length in_ t.Nodes (v,cs,[])).2.2.getLastD (0,[])).1,((cL b t.Hood.length in_ t.Nodes (v,cs,[])).2.2.getLastD (0,[])).2,(cL b t.Hood.length in_ t.Nodes (v,cs,[])).2.1,(cL b t.Hood.length in_ t.Nodes (v,cs,[])).1):=by
 have hlen:=W.len;have b3:=W.b3;have n8:=W.n8;have n2:=W.n2;have hH:=W.H25;have TA:=TI.at_ W (TI.init (n:=n) (b:=b) (n0:=v) (cs:=cs));unfold eX;rw[show mkL 32 (br t.Nodes) (br t.Nodes) (⟨0,[]⟩:Bw)=some (List.replicate t.Nodes.length ⟨0,[]⟩)from by unfold mkL br;grind,lenL_toNat];simp only[be];obtain⟨r,hr,rfl⟩:=d5 (b:=du S Hd N (b:Int) mp t (in_.map pv)) (n:=t.Nodes.length) (s:=(0,List.replicate t.Nodes.length (⟨0,[]⟩:Bw),cs,v)) (λi st=>st=((i:Int),((cL b t.Hood.length in_ (t.Nodes.take i) (v,cs,[])).2.2++List.replicate (t.Nodes.length-i) (0,[])).map pv,(cL b t.Hood.length in_ (t.Nodes.take i) (v,cs,[])).2.1,(cL b t.Hood.length in_ (t.Nodes.take i) (v,cs,[])).1)) (λr=>r=((cL b t.Hood.length in_ t.Nodes (v,cs,[])).2.2.map pv,(cL b t.Hood.length in_ t.Nodes (v,cs,[])).2.1,(cL b t.Hood.length in_ t.Nodes (v,cs,[])).1)) (by omega) (by simp[cL,pv]) (λi st hi e=>by
   subst e;have T:=TA i (by omega);have hx:t.Nodes[i]?=some t.Nodes[i]:=List.getElem?_eq_getElem hi;rw[tj b t.Hood.length in_ (v,cs,[]) hx];generalize t.Nodes[i]=x at hx;generalize cL b t.Hood.length in_ (t.Nodes.take i) (v,cs,[])=st at T;obtain⟨w,ds,of_⟩:=st;obtain⟨k,hk⟩:∃k,t.Nodes.length-i=k+1:=⟨t.Nodes.length-i-1,by omega⟩
   rw[hk,show t.Nodes.length-(i+1)=k by omega];have hl:=W.good.len i x hx;obtain⟨t1,t2,t3,t4,t5⟩:=id T;dsimp only at t1 t2 t3 t4;have hget:idx ((of_++List.replicate (k+1) ((0:Int),([]:A0))).map pv) (i:Int)=some (⟨0,[]⟩:Bw):=by rw[bE,List.getElem?_map,List.getElem?_append_right (by omega),t4,Nat.sub_self];rfl
   refine .inl ⟨_,?_,rfl⟩;unfold du;dsimp only;rw[bD,decide_eq_true hi,cond_true,bE,hx,zF];simp only[be];rw[uniP (by omega)];simp only[be,e9,Bool.not_not];unfold pI;cases hu:tA x with
   |true=>simp only[cond_true];have he:=elemP (k:=k+1) (e:=(0,[])) (s:=0) (of_:=of_) W t4 hx (by omega);rw[show ((0:Nat):Int)=0 from rfl] at he;rw[he,hget];simp only[be];rw[Int.toNat_natCast,show (⟨(lU of_ x 0).1,(lU of_ x 0).2⟩:Bw)=pv (lU of_ x 0)from rfl,<- List.map_set];grind[List]|false=>
    simp only[cond_false];obtain⟨x1,e1,e2,_⟩:=rds_get W hx;have e1':idx (in_.map pv) (bZ .i64 (br t.Hood) x.Level)=some (pv x1):=by simp_all[br]
    have hfr:=freshP (v:=w) (cs:=ds) (S:=S) (Hd:=Hd) (N:=N) (mp:=mp) b3 (by omega) (by omega);rw[e1',hfr,hget];simp only[be];rw[sX (l:=cP w b) (λe=>by have h9:=dE w b;rw[e] at h9;have h8:=W.b1;simp at h9;omega)];simp only[be];rw[selsP (Hd:=t.Hood) (k:=k) (x1:=x1) W T hx e2 hu rfl rfl rfl (by omega)];simp only[be];rw[Int.toNat_natCast,show (⟨0,cP w b⟩:Bw)=pv (0,cP w b)from rfl,<- List.map_set];grind[List])
  (λst e=>by subst e;refine⟨_,?_,rfl⟩;simp[du,bD])
 rw[hr];have T:=TA t.Nodes.length (Nat.le_refl _);rw[List.take_length] at T;generalize cL b t.Hood.length in_ t.Nodes (v,cs,[])=st at T;obtain⟨w,ds,of_⟩:=st;have h4:=T.of_;have hne:=W.ne;grind[pv,br,jq,fE]
end
section
variable {n b:Nat} {in_:List SV} {ns:AE} {n0:Int} {c0:Nat}
theorem kidsR {t:Tree} {ia:AJ} {y i' f:Int} {l:A1} {of_:List SV} {x:Node} {i:Nat} {H:Nat} (W:WT n b H in_ ns) (hof:of_.length=i) (hx:ns[i]?=some x) (hS:t.States=(n:Int)) :
  bv (gn t ia y i' f l (of_.map rv) x) bL (0,[])=some (((List.range n).map λs=>lU of_ x s).map rv):=by
 have n8:=W.n8;have hl:=W.good.len i x hx;obtain⟨r,hr,rfl⟩:=d5 (b:=gn t ia y i' f l (of_.map rv) x) (n:=n) (s:=(0,[])) (λs st=>st=((s:Int),((List.range s).map λs=>lU of_ x s).map rv)) (λr=>r=((List.range n).map λs=>lU of_ x s).map rv) (by omega) (by simp) (λs st hs e=>by
   subst e;have hk:x.Next[s]?=some (x.Next.getD s 0):=by simp_all
   refine .inl ⟨(((s+1:Nat):Int),((List.range (s+1)).map λs=>lU of_ x s).map rv),?_,rfl⟩;unfold gn;dsimp only;rw[hS,show ltB (s:Int) (n:Int)=true from zD,cond_true,bE,hk,zF];simp only[be];have hv:∀v:SV,lU of_ x s=v->(((List.range s).map λs=>lU of_ x s).map rv)++[rv v]=((List.range (s+1)).map λs=>lU of_ x s).map rv:=λv hv=>by simp_all[List.range_succ]
   by_cases h1:x.Level=1;{rw[show eqB x.Level 1=true from by simp[eqB,h1],cond_true,dw (by decide) (by decide) (by simp;omega)];simp only[be];have hk':lU of_ x s=(x.Next.getD s 0,[]):=if_pos h1;rw[<- hv _ hk'];rfl}
   ·rw[show eqB x.Level 1=false from by simp[eqB,h1],cond_false];have hi:=(W.inb hx).2.1;obtain⟨a,c,_⟩:=W.good.kid i x hx (by omega) _ (List.mem_of_getElem? hk);have hlt:(x.Next.getD s 0).toNat<of_.length:=by omega
    have hk':lU of_ x s=of_.getD (x.Next.getD s 0).toNat (0,[]):=if_neg h1;grind[fE,dw])
  (λst e=>by subst e;refine⟨_,?_,rfl⟩;simp_all[gn,ltB])
 exact hr
theorem selR {t:Tree} {ia:AJ} {i':Int} {of_:AJ} {x:Node} {kids:AJ} {f:Int} {own un:A0} {s:Nat} {v:SV} {cs:A1} (hv:VOk n b v) (hk:kids[s]?=some (rv v)) (ho:own.length=b) (hb:b<=3) (h:cs.length<=100000000000) (h1:un.length<=1000000) :
  bv (iB t ia (b:Int) i' of_ x kids f own (s:Int) un) bL (0,cs)=some (cs++selS un own v):=by
 refine lu own (sel1 un v) 2 200000000000 cs (λi x=>sel1_len un v i x) (by omega) (by omega) (λi x ac hx hac=>?_) (λac=>?_)
 ·have hi:=cG hx;unfold iB sel1;dsimp only[rv];rw[show ltB (i:Int) (b:Int)=true from zD,cond_true,bE,hk,bE,hx,zF];simp only[be,rv];cases he:isE v.2 with
  |false=>
   have hne:v.2≠[]:=λe=>by rw[e] at he;cases he
   have hl:=vok_len hv he;have hy:v.2[i]?=some (v.2.getD i 0):=by simp_all
   rw[show gtB (br v.2) 0=true from decide_eq_true (by unfold br;omega),cond_true,bE,hy,cond_false];grind[clauseR]
  |true=>have:=isE_true he;obtain⟨m,e1,e2⟩:=bitR_eq v.1 (show i<1099511627776 by omega);rw[show gtB (br v.2) 0=false from by rw[this];rfl,cond_false,e1,cond_true];grind[clauseR]
 simp_all[iB,ltB]
theorem selsR {t:Tree} {i':Int} {of_:List SV} {x:Node} {i:Nat} {v:Int} {cs:A1} {oa:AJ} {f:Int} (W:WT n b t.Hood.length in_ ns) (T:TI n b i n0 c0 (v,cs,of_)) (hx:ns[i]?=some x) (hS:t.States=(n:Int)) (hc:cs.length<=10000000000) :
  bv (iC t (in_.map rv) (b:Int) i' oa x (((List.range n).map λs=>lU of_ x s).map rv) f (cP v b)) bL (0,cs)=some (cs++gat (λs _=>selS (agS (rdS t.Hood.length in_ x) ((s:Nat):Int)) (cP v b) (lU of_ x s)) x.Next 0):=by
 have n8:=W.n8;have b3:=W.b3;have hl:=W.good.len i x hx;have hrl:=rds_len W hx;obtain⟨x1,e1,e2,_⟩:=rds_get W hx;have e1':idx (in_.map rv) (bZ .i64 (br t.Hood) x.Level)=some (rv x1):=by simp_all[br]
 refine lu x.Next _ 6 20000000000 cs (λs y=>?_) (by omega) (by omega) (λs y ac hs hac=>?_) (λac=>?_);{grind[selS_len,dE]};{have hlt:=cG hs;unfold iC;dsimp only;rw[hS,show ltB (s:Int) (n:Int)=true from zD,cond_true,e1',zF];simp only[be];rw[show (rv x1).Vars=rdS t.Hood.length in_ x from e2,againstR_eq (by omega)];simp only[be];rw[selR (kid_ok W T hx (s:=s) (by omega)) (by simp_all) (dE _ _) b3 (by omega) (by rw[agS_len];omega)];rfl};simp_all[iC,ltB]
theorem treeR {t:Tree} {v:Int} {cs:A1} (W:WT n b t.Hood.length in_ t.Nodes) (hS:t.States=(n:Int)) (hb:PC.bitsOf t.States=(b:Int)) (h0:0<=v) (h1:v<=10000000) (hc:cs.length<=1000000000) :∃r,md v cs t (in_.map rv)=some r /\ (gF (cL b t.Hood.length in_ t.Nodes (v,cs,[])).1 (cL b t.Hood.length in_ t.Nodes (v,cs,[])).2.1=true->r=((cL b t.Hood.length in_ t.Nodes (v,cs,[])).1,((cL b t.Hood.length in_ t.Nodes (v,cs,[])).2.2.getLastD (0,[])).1,((cL b t.Hood.length in_ t.Nodes (v,cs,[])).2.2.getLastD (0,[])).2,(cL b t.Hood.length in_ t.Nodes (v,cs,[])).2.1)) /\ (gF (cL b t.Hood.length in_ t.Nodes (v,cs,[])).1 (cL b t.Hood.length in_ t.Nodes (v,cs,[])).2.1=false->gF r.1 r.2.2.2=false/\r.2.2.1=[]/\r.1<=v+12288/\v<=r.1/\r.2.2.2.length<=cs.length+196608):=by
 have hlen:=W.len;have b3:=W.b3;have n8:=W.n8;have n2:=W.n2;have hH:=W.H25;have TA:=TI.at_ W (TI.init (n:=n) (b:=b) (n0:=v) (cs:=cs));unfold md;rw[PC.bitsR_eq,hb];simp only[be];obtain⟨r,hr,i,hi,rfl,hq⟩:=d5 (b:=gt t (in_.map rv) (b:Int)) (n:=t.Nodes.length) (s:=(0,v,cs,[])) (λi st=>st=((i:Int),(cL b t.Hood.length in_ (t.Nodes.take i) (v,cs,[])).1,(cL b t.Hood.length in_ (t.Nodes.take i) (v,cs,[])).2.1,(cL b t.Hood.length in_ (t.Nodes.take i) (v,cs,[])).2.2.map rv)) (λr=>∃i,i<=t.Nodes.length/\r=((cL b t.Hood.length in_ (t.Nodes.take i) (v,cs,[])).1,(cL b t.Hood.length in_ (t.Nodes.take i) (v,cs,[])).2.1,(cL b t.Hood.length in_ (t.Nodes.take i) (v,cs,[])).2.2.map rv)/\(i=t.Nodes.length\/gF (cL b t.Hood.length in_ (t.Nodes.take i) (v,cs,[])).1 (cL b t.Hood.length in_ (t.Nodes.take i) (v,cs,[])).2.1=false)) (by omega) (by simp[cL]) (λi st hi e=>by
   subst e;have T:=TA i (by omega);have hx:t.Nodes[i]?=some t.Nodes[i]:=List.getElem?_eq_getElem hi;rw[tj b t.Hood.length in_ (v,cs,[]) hx];generalize t.Nodes[i]=x at hx;cases hf:gF (cL b t.Hood.length in_ (t.Nodes.take i) (v,cs,[])).1 (cL b t.Hood.length in_ (t.Nodes.take i) (v,cs,[])).2.1 with
   |false=>refine .inr ⟨_,?_,i,by omega,rfl,.inr hf⟩;simp_all[gt,mJ]|true=>
    generalize cL b t.Hood.length in_ (t.Nodes.take i) (v,cs,[])=st at T hf;obtain⟨w,ds,of_⟩:=st;have hl:=W.good.len i x hx;obtain⟨t1,t2,t3,t4,t5⟩:=id T;dsimp only at t1 t2 t3 t4 hf;refine .inl ⟨_,?_,rfl⟩;unfold gt;dsimp only;rw[bD,decide_eq_true hi,cond_true,mJ];dsimp only;rw[hf,bE,hx,zF];simp only[be,cond_true];rw[kidsR W t4 hx hS,uniR (by omega) (by omega)];simp only[be];unfold pI;cases hu:tA x with
    |true=>simp only[cond_true];rw[show idx (((List.range n).map λs=>lU of_ x s).map rv) 0=some (rv (lU of_ x 0))from by rw[show (0:Int)=((0:Nat):Int)from rfl,bE,List.getElem?_map,List.getElem?_map,List.getElem?_range (by omega)];rfl];grind[dw]|false=>
     simp only[cond_false];grind[freshR,rv,dw,selsR])
  (λst e=>by subst e;refine⟨_,?_,t.Nodes.length,Nat.le_refl _,rfl,.inl rfl⟩;simp[gt,bD])
 rw[hr];simp only[be];rw[mJ];simp only[be];have Ti:=TA i hi;cases hf:gF (cL b t.Hood.length in_ (t.Nodes.take i) (v,cs,[])).1 (cL b t.Hood.length in_ (t.Nodes.take i) (v,cs,[])).2.1 with
 |false=>refine⟨_,rfl,λh=>?_,λ_=>⟨hf,rfl,?_,Ti.lo,?_⟩⟩;{grind[fit_take]};{have:=Ti.hi;omega};{have:=Ti.cs;grind}|true=>
  have hil:i=t.Nodes.length:=by simp_all
  subst hil;rw[List.take_length] at hf ⊢ Ti;generalize cL b t.Hood.length in_ t.Nodes (v,cs,[])=st at Ti hf;obtain⟨w,ds,of_⟩:=st;have h4:=Ti.of_;have hne:=W.ne;dsimp only at h4 hf⊢;have:idx (of_.map rv) (bZ .i64 (br (of_.map rv)) 1)=some (rv (of_.getLastD (0,[]))):=by grind[br,jq,fE]
  refine⟨_,?_,λ_=>rfl,λh=>?_⟩;{simp only[e9,Bool.not_true,cond_false];rw[this];rfl};simp_all
end
def exC (n b:Nat) (vs:A0):A1:=(List.range (2 ^ b-n)).map λ(k:Nat)=>agS vs ((n:Int)+k)
def cV (b m:Nat):List SV:=(List.range m).map λ(i:Nat)=>((0:Int),cP ((i:Int)*b) b)
def f0 (n b m:Nat):A1:=gat (λ_ (v:SV)=>exC n b v.2) (cV b m) 0
theorem exC_len {n b:Nat} (hb:b<=3) (vs:A0):(exC n b vs).length<=8:=by unfold exC;rw[List.length_map,List.length_range];have:2 ^ b<=2 ^ 3:=Nat.pow_le_pow_right (by omega) hb;omega
theorem k6 (b m:Nat):(cV b m).length=m:=by simp[cV]
theorem cellsC_len {n b:Nat} (hb:b<=3) (m:Nat):(f0 n b m).length<=8*m:=by have:=gat_len (f:=λ_ (v:SV)=>exC n b v.2) (m:=8) (λ_ v=>exC_len hb v.2) (cV b m) 0;rwa [k6] at this
theorem cellsV_ok {n b m:Nat}:∀v∈cV b m,VOk n b v/\v.2.length=b:=λv hv=>by unfold cV at hv;obtain⟨i,_,rfl⟩:=List.mem_map.1 hv;exact⟨.inr ⟨rfl,dE _ _⟩,dE _ _⟩
structure SB (n b:Nat):Prop where
 n2:2<=n
 n8:n<=8
 b1:1<=b
 b3:b<=3
 pw:n<=2 ^ b
 bits:PC.bitsOf (n:Int)=(b:Int)
theorem sb_of {n:Nat} (h2:2<=n) (h8:n<=8):∃b,SB n b:=by rcases PC.bits_in (s:=(n:Int)) (by omega) (by omega)with⟨h,k⟩|⟨h,k⟩|⟨h,k⟩;{exact⟨1,h2,h8,by omega,by omega,by omega,h⟩};{exact⟨2,h2,h8,by omega,by omega,by omega,h⟩};{exact⟨3,h2,h8,by omega,by omega,by omega,h⟩}
theorem shl_b {n b:Nat} (B:SB n b):ishl .i64 1 (b:Int)=some ((2 ^ b:Nat):Int):=by
 have h1:=B.b1;have h3:=B.b3
 match b,h1,h3 with
 |1,_,_=>rfl|2,_,_=>rfl|3,_,_=>rfl
section
variable {n b:Nat} {S:Int} {Hd:AG} {N:AE} {mp:AF}
theorem ex_step (n _b:Nat) (vs:A0) (k:Nat):(List.range (k+1)).map (λ(k:Nat)=>agS vs ((n:Int)+k))=(List.range k).map (λ(k:Nat)=>agS vs ((n:Int)+k))++[agS vs ((n:Int)+k)]:=by rw[List.range_succ,List.map_append];rfl
theorem exP {box:Box} {l:AH} {f a:Int} {v:SV} {cs:A1} (B:SB n b) (hl:v.2.length=b) (hc:cs.length<=1000000000):bv (df (n:Int) Hd N (b:Int) mp box l f a (pv v)) bL ((n:Int),cs)=some (cs++exC n b v.2):=by have h1:=B.b1;have h3:=B.b3;have h8:=B.n8;have hp:=B.pw;have hq:2 ^ b<=2 ^ 3:=Nat.pow_le_pow_right (by omega) h3;obtain⟨r,hr,rfl⟩:=d5 (b:=df (n:Int) Hd N (b:Int) mp box l f a (pv v)) (n:=2 ^ b-n) (s:=((n:Int),cs)) (λk st=>st=((n:Int)+k,cs++(List.range k).map λ(k:Nat)=>agS v.2 ((n:Int)+k))) (λr=>r=cs++exC n b v.2) (by omega) (by simp) (λk st hk e=>by subst e;refine .inl ⟨_,?_,rfl⟩;unfold df;dsimp only;rw[shl_b B];simp only[be];rw[show ltB ((n:Int)+(k:Int)) ((2 ^ b:Nat):Int)=true from zD,cond_true,show (pv v).vars=v.2 from rfl,sX (λe=>by grind),against_eq (by omega)];simp only[be];rw[clauseP (by simp;omega),cY (a:=(n:Int)+k) (b:=1) (by omega),ex_step n b v.2 k,<- List.append_assoc];rfl) (λst e=>by subst e;refine⟨_,?_,rfl⟩;unfold df;dsimp only;rw[shl_b B];simp only[be];rw[show ltB ((n:Int)+((2 ^ b-n:Nat):Int)) ((2 ^ b:Nat):Int)=false from zA];rfl);exact hr
theorem exR {m:Int} {i:Int} {out:AJ} {v:A0} {cs:A1} (B:SB n b) (hl:v.length=b) (hc:cs.length<=1000000000):bv (kd m (n:Int) (b:Int) i out v) bL ((n:Int),cs)=some (cs++exC n b v):=by have h1:=B.b1;have h3:=B.b3;have h8:=B.n8;have hp:=B.pw;have hq:2 ^ b<=2 ^ 3:=Nat.pow_le_pow_right (by omega) h3;obtain⟨r,hr,rfl⟩:=d5 (b:=kd m (n:Int) (b:Int) i out v) (n:=2 ^ b-n) (s:=((n:Int),cs)) (λk st=>st=((n:Int)+k,cs++(List.range k).map λ(k:Nat)=>agS v ((n:Int)+k))) (λr=>r=cs++exC n b v) (by omega) (by simp) (λk st hk e=>by subst e;refine .inl ⟨_,?_,rfl⟩;unfold kd;dsimp only;rw[u64_nat (by omega),shl_b B];simp only[be];rw[show ltB ((n:Int)+(k:Int)) ((2 ^ b:Nat):Int)=true from zD,cond_true,againstR_eq (by omega)];simp only[be];rw[clauseR0 (by simp;omega) (by rw[agS_len];omega),cY (a:=(n:Int)+k) (b:=1) (by omega),ex_step n b v k,<- List.append_assoc];grind) (λst e=>by subst e;refine⟨_,?_,rfl⟩;unfold kd;dsimp only;rw[u64_nat (by omega),shl_b B];simp only[be];rw[show ltB ((n:Int)+((2 ^ b-n:Nat):Int)) ((2 ^ b:Nat):Int)=false from zA];rfl);exact hr
theorem cellsV_succ (b i:Nat):cV b (i+1)=cV b i++[((0:Int),cP ((i:Int)*b) b)]:=by unfold cV;rw[List.range_succ,List.map_append];rfl
theorem freeP {box:Box} {m:Nat} (B:SB n b) (hm:bH .i64 box.W box.H=(m:Int)) (hm1:m<=1000) :
  fx 0 [] (n:Int) Hd N (b:Int) mp box=some ((cV b m).map pv,f0 n b m,(m:Int)*b):=by
 have h1:=B.b1;have h3:=B.b3;have hmul:∀i:Nat,i<=m->0<=(i:Int)*b/\(i:Int)*b<=1000000:=λi hi=>by have:i*b<=1000*3:=Nat.mul_le_mul (by omega) h3;omega
 unfold fx;obtain⟨r,hr,rfl⟩:=d5 (b:=dO [] (n:Int) Hd N (b:Int) mp box) (n:=m) (s:=(0,[],0)) (λi st=>st=((i:Int),(cV b i).map pv,(i:Int)*b)) (λr=>r=((cV b m).map pv,(m:Int)*b)) (by omega) (by simp[cV]) (λi st hi e=>by subst e;refine .inl ⟨_,?_,rfl⟩;have:=hmul i (by omega);unfold dO;dsimp only;rw[hm,show ltB (i:Int) (m:Int)=true from zD,cond_true,freshP h3 (by omega) (by omega),zF];simp only[be];rw[sX (λe=>by grind[dE])];simp only[be];rw[dw (by decide) (by decide) (by rw[List.length_map,k6];simp;omega),cellsV_succ,List.map_append];simp only[be];rw[show ((i+1:Nat):Int)*b=(i:Int)*b+b by grind];rfl) (λst e=>by subst e;refine⟨_,?_,rfl⟩;simp_all[dO,ltB]);rw[hr];simp only[be];have hg:=lu (b:=dR (n:Int) Hd N (b:Int) mp box ((cV b m).map pv) ((m:Int)*b)) (cV b m) (λ_ v=>exC n b v.2) 8 1000000 [] (λ_ v=>exC_len h3 v.2) (by rw[k6];omega) (by rw[k6];simp;omega) (λi v ac hv hac=>by have hi:=cG hv;rw[k6] at hi;unfold dR;dsimp only;rw[show ltB (i:Int) (br ((cV b m).map pv))=true from decide_eq_true (by unfold br;grind),cond_true,bE,List.getElem?_map,hv,zF];simp only[Option.map_some,be];rw[exP B (cellsV_ok (n:=n) v (List.mem_of_getElem? hv)).2 (by omega)];rfl) (λac=>by simp[dR,ltB,br]);rw[hg];rfl
theorem cellsR {m:Nat} (B:SB n b) (hm1:m<=1000):oX (m:Int) (n:Int)=some ((m:Int)*b,(cV b m).map rv,f0 n b m):=by
 have h1:=B.b1;have h3:=B.b3;have hmul:∀i:Nat,i<=m->0<=(i:Int)*b/\(i:Int)*b<=1000000:=λi hi=>by have:i*b<=1000*3:=Nat.mul_le_mul (by omega) h3;omega
 unfold oX;rw[PC.bitsR_eq,B.bits];simp only[be];obtain⟨r,hr,rfl⟩:=d5 (b:=lI (m:Int) (n:Int) (b:Int)) (n:=m) (s:=(0,[],[])) (λi st=>st=((i:Int),f0 n b i,(cV b i).map rv)) (λr=>r=(f0 n b m,(cV b m).map rv)) (by omega) (by rfl) (λi st hi e=>by
   subst e;refine .inl ⟨_,?_,rfl⟩;have hmi:=hmul i (by omega);have hcl:=cellsC_len (n:=n) h3 i;have hf:bv (jy (m:Int) (n:Int) (b:Int) (i:Int) (f0 n b i) ((cV b i).map rv)) bL (1,[])=some (cP ((i:Int)*b) b):=by obtain⟨r,hr,rfl⟩:=d5 (b:=jy (m:Int) (n:Int) (b:Int) (i:Int) (f0 n b i) ((cV b i).map rv)) (n:=b) (s:=(1,[])) (λk st=>st=(((k+1:Nat):Int),cP ((i:Int)*b) k)) (λr=>r=cP ((i:Int)*b) b) (by omega) (by simp[cP]) (λk st hk e=>by subst e;refine .inl ⟨_,?_,rfl⟩;unfold jy;dsimp only;rw[show leB ((k+1:Nat):Int) (b:Int)=true from zD,cond_true,dw (by decide) (by decide) (by rw[dE];simp;omega),dz (a:=(i:Int)) (b:=(b:Int)) (by omega),cY (a:=(i:Int)*b) (b:=((k+1:Nat):Int)) (by omega),zF];grind[cP,List.range_succ]) (λst e=>by subst e;refine⟨_,?_,rfl⟩;grind[jy,leB]);exact hr
   unfold lI;dsimp only;rw[show ltB (i:Int) (m:Int)=true from zD,cond_true,hf,zF];simp only[be];rw[exR B (dE _ _) (by omega)];simp only[be];rw[dw (by decide) (by decide) (by rw[List.length_map,k6];simp;omega)];simp only[be];unfold f0;rw[cellsV_succ,List.map_append,gat_app];simp only[gat,List.append_nil];rfl)
  (λst e=>by subst e;refine⟨_,?_,rfl⟩;simp[lI,ltB])
 rw[hr];simp only[be];have:=hmul m (Nat.le_refl _);grind[dz]
end
def inB (X Y:Int) (W H:Nat) (x y:Int):Bool:=leB X x&&(ltB x (X+W)&&(leB Y y&&ltB y (Y+H)))
def atS (X Y:Int) (W H:Nat) (vals:List SV) (x y:Int):SV:=bif inB X Y W H x y then vals.getD ((y-Y).toNat*W+(x-X).toNat) (0,[])else(0,[])
theorem inB_iff {X Y:Int} {W H:Nat} {x y:Int}:inB X Y W H x y=true↔X<=x/\x<X+W/\Y<=y/\y<Y+H:=by unfold inB leB ltB;simp
theorem lin_lt {a c W H:Nat} (h1:a<H) (h2:c<W):a*W+c<W*H:=by have:=Nat.mul_le_mul_right W (show a+1<=H from h1);grind
structure BX (X Y:Int) (W H:Nat):Prop where
 X0:-1000<=X
 X1:X<=1000
 Y0:-1000<=Y
 Y1:Y<=1000
 W1:W<=1000
 H1:H<=1000
theorem out_eq {X Y:Int} {W H:Nat} (B:BX X Y W H) {x y:Int} (hx:-100000<=x/\x<=100000) (hy:-100000<=y/\y<=100000) :(bif ltB (bZ .i64 x X) 0 then some true else bif geB (bZ .i64 x X) (W:Int)then some true else bif ltB (bZ .i64 y Y) 0 then some true else some (geB (bZ .i64 y Y) (H:Int)))=some (!inB X Y W H x y):=by
 obtain⟨b1,b2,b3,b4,b5,b6⟩:=B;rw[jq (a:=x) (b:=X) (by omega),jq (a:=y) (b:=Y) (by omega)];simp only[iR,k8]
 congr 1
 rw[Bool.eq_iff_iff,Bool.not_eq_true',<- Bool.not_eq_true,inB_iff];unfold ltB geB;grind
theorem at_idx {X Y:Int} {W H:Nat} (B:BX X Y W H) {x y:Int} (hin:inB X Y W H x y=true):bC .i64 (bH .i64 (bZ .i64 y Y) (W:Int)) (bZ .i64 x X)=(((y-Y).toNat*W+(x-X).toNat:Nat):Int)/\(y-Y).toNat*W+(x-X).toNat<W*H:=by
 obtain⟨b1,b2,b3,b4,b5,b6⟩:=B;obtain⟨c1,c2,c3,c4⟩:=inB_iff.1 hin;have hlt:(y-Y).toNat*W+(x-X).toNat<W*H:=lin_lt (by omega) (by omega);have hle:W*H<=1000*1000:=Nat.mul_le_mul b5 b6;have e:(((y-Y).toNat*W:Nat):Int)=(y-Y)*W:=by grind
 refine⟨?_,hlt⟩;rw[jq (a:=x) (b:=X) (by omega),jq (a:=y) (b:=Y) (by omega),dz (a:=y-Y) (b:=(W:Int)) (by omega),cY (by omega)];omega
theorem atP {X Y:Int} {W H:Nat} {vals:List SV} (B:BX X Y W H) (hl:vals.length=W*H) {x y:Int} (hx:-100000<=x/\x<=100000) (hy:-100000<=y/\y<=100000) :
  jn ⟨⟨X,Y,W,H⟩,vals.map pv⟩ x y=some (pv (atS X Y W H vals x y)):=by
 unfold jn atS;dsimp only;rw[out_eq B hx hy];simp only[be];cases hin:inB X Y W H x y with
 |false=>rfl|true=>obtain⟨e1,e2⟩:=at_idx B hin;rw[e1,bE,List.getElem?_map,zB,List.getD_eq_getElem?_getD,zB];rfl
def inS (X Y:Int) (W H:Nat) (vals:List SV) (Hd:AG) (x y:Int):List SV:=Hd.map λd=>atS X Y W H vals (x+d.X) (y+d.Y)
def cellN (b H:Nat) (ins:Int->Int->List SV) (tr:List SV->AE) (X Y:Int) (W i:Nat) (st:FS):FS :=
 let in_:=ins (X+(i%W:Nat)) (Y+(i/W:Nat));let T:=cL b H in_ (tr in_) (st.1,st.2.1,[])
 (T.1,T.2.1,st.2.2++[T.2.2.getLastD (0,[])])
def lO (b H:Nat) (ins:Int->Int->List SV) (tr:List SV->AE) (X Y:Int) (W:Nat) (st:FS):Nat->FS|0=>st|i+1=>cellN b H ins tr X Y W i (lO b H ins tr X Y W st i)
theorem cell_mono (b H:Nat) (ins:Int->Int->List SV) (tr:List SV->AE) (X Y:Int) (W i:Nat) (st:FS):st.1<=(cellN b H ins tr X Y W i st).1/\st.2.1.length<=(cellN b H ins tr X Y W i st).2.1.length:=tree_mono b H _ _ (st.1,st.2.1,[])
theorem next_mono (b H:Nat) (ins:Int->Int->List SV) (tr:List SV->AE) (X Y:Int) (W:Nat) (st:FS) (i:Nat):∀k,(lO b H ins tr X Y W st i).1<=(lO b H ins tr X Y W st (i+k)).1/\(lO b H ins tr X Y W st i).2.1.length<=(lO b H ins tr X Y W st (i+k)).2.1.length|0=>⟨Int.le_refl _,Nat.le_refl _⟩|k+1=>by have h1:=next_mono b H ins tr X Y W st i k;have h2:=cell_mono b H ins tr X Y W (i+k) (lO b H ins tr X Y W st (i+k));grind[lO]
theorem next_fit {b H:Nat} {ins:Int->Int->List SV} {tr:List SV->AE} {X Y:Int} {W:Nat} {st:FS} {i m:Nat} (hi:i<=m) (h:gF (lO b H ins tr X Y W st m).1 (lO b H ins tr X Y W st m).2.1=true):gF (lO b H ins tr X Y W st i).1 (lO b H ins tr X Y W st i).2.1=true:=by have:=next_mono b H ins tr X Y W st i (m-i);grind[sV]
theorem getLastD_mem {I:Type} {l:List I} {d:I} (h:1<=l.length):l.getLastD d∈l:=by grind
theorem next_vals {n b H:Nat} {ins:Int->Int->List SV} {tr:List SV->AE} {X Y:Int} {W m:Nat} {v:Int} {cs:A1} (hW:∀i:Nat,i<m->WT n b H (ins (X+(i%W:Nat)) (Y+(i/W:Nat))) (tr (ins (X+(i%W:Nat)) (Y+(i/W:Nat))))):∀i,i<=m->(lO b H ins tr X Y W (v,cs,[]) i).2.2.length=i/\∀u∈(lO b H ins tr X Y W (v,cs,[]) i).2.2,VOk n b u
 |0,_=>⟨rfl,λu hu=>by cases hu⟩|i+1,hi=>by
  obtain⟨h1,h2⟩:=next_vals (v:=v) (cs:=cs) hW i (by omega);have w:=hW i (by omega);generalize hs:lO b H ins tr X Y W (v,cs,[]) i=st at h1 h2;have e:lO b H ins tr X Y W (v,cs,[]) (i+1)=cellN b H ins tr X Y W i st:=by rw[<- hs];rfl
  rw[e];unfold cellN;dsimp only;refine⟨by simp_all,λu hu=>?_⟩;rcases List.mem_append.1 hu with hu|hu;{exact h2 u hu};{rw[List.mem_singleton.1 hu];have T:=TI.at_ w (TI.init (n:=n) (b:=b) (n0:=st.1) (cs:=st.2.1)) _ (Nat.le_refl _);rw[List.take_length] at T;exact T.ok _ (getLastD_mem (by rw[T.of_];exact w.ne))}
theorem gat_map {I β:Type} (f:I->β):∀(l:List I) (i:Nat),gat (λ_ d=>[f d]) l i=l.map f|[],_=>rfl|d::l,i=>by rw[gat,gat_map f l (i+1)];rfl
section
variable {n b:Nat} {S:Int} {Hd:AG} {N:AE}
theorem insP {X Y:Int} {W H:Nat} {vals:List SV} {box:Box} {fixed:Bool} {y x:Int} {l2:AH} {l3:A1} {v2:Int} {mp:AF} {bb:Int} (B:BX X Y W H) (hl:vals.length=W*H) (hh:Hd.length<=25) (hd:∀d∈Hd,-2<=d.X/\d.X<=2/\-2<=d.Y/\d.Y<=2) (hx:-10000<=x/\x<=10000) (hy:-10000<=y/\y<=10000) :
  bv (dd S Hd N bb ⟨⟨X,Y,W,H⟩,vals.map pv⟩ box fixed y x l2 l3 v2 mp) bL (0,[])=some ((inS X Y W H vals Hd x y).map pv):=by have hg:=lu (b:=dd S Hd N bb ⟨⟨X,Y,W,H⟩,vals.map pv⟩ box fixed y x l2 l3 v2 mp) Hd (λ_ d=>[pv (atS X Y W H vals (x+d.X) (y+d.Y))]) 1 1000 [] (λ_ _=>Nat.le_refl _) (by omega) (by simp;omega) (λi d ac hdi hac=>by have hi:=cG hdi;obtain⟨d1,d2,d3,d4⟩:=hd d (List.mem_of_getElem? hdi);unfold dd;dsimp only;rw[bD,decide_eq_true hi,cond_true,bE,hdi,zF];grind[cY,atP,dw]) (λac=>by simp[dd,bD]);grind[gat_map,inS]
theorem nextP {fX fY:Int} {fW fH:Nat} {vals:List SV} {X Y:Int} {W H:Nat} {fixed:Bool} {tr:List SV->AE} {MOk:AF->Prop} {v0:Int} {cs0:A1} {mp0:AF} (Bf:BX fX fY fW fH) (hl:vals.length=fW*fH) (hh:Hd.length<=25) (hd:∀d∈Hd,-2<=d.X/\d.X<=2/\-2<=d.Y/\d.Y<=2) (Bx:BX X Y W H) (hH1:1<=H) (hW1:1<=W) (hW:∀i:Nat,i<W*H->WT n b Hd.length (inS fX fY fW fH vals Hd (X+(i%W:Nat)) (Y+(i/W:Nat))) (tr (inS fX fY fW fH vals Hd (X+(i%W:Nat)) (Y+(i/W:Nat))))) (hfix:∀v cs mp x y,MOk mp->∃mp',(bif fixed then (fM v cs S Hd N (b:Int) mp ((inS fX fY fW fH vals Hd x y).map pv)).bind λy1=>some (y1.1,y1.2.1,y1.2.2.1,y1.2.2.2)
   else some (S,Hd,N,mp))=some (S,Hd,tr (inS fX fY fW fH vals Hd x y),mp')/\MOk mp')
  (hm:MOk mp0) (hv0:0<=v0) (hv1:v0<=1000000) (hc0:cs0.length<=100000000) :
  ∃r,fv v0 cs0 S Hd N (b:Int) mp0 ⟨⟨fX,fY,fW,fH⟩,vals.map pv⟩ ⟨X,Y,W,H⟩ fixed=some r /\ ((∃mp,MOk mp/\gF (lO b Hd.length (inS fX fY fW fH vals Hd) tr X Y W (v0,cs0,[]) (W*H)).1 (lO b Hd.length (inS fX fY fW fH vals Hd) tr X Y W (v0,cs0,[]) (W*H)).2.1=true /\
     r=(X,Y,(W:Int),(H:Int),(lO b Hd.length (inS fX fY fW fH vals Hd) tr X Y W (v0,cs0,[]) (W*H)).2.2.map pv,true,(lO b Hd.length (inS fX fY fW fH vals Hd) tr X Y W (v0,cs0,[]) (W*H)).1,mp,(lO b Hd.length (inS fX fY fW fH vals Hd) tr X Y W (v0,cs0,[]) (W*H)).2.1)) \/
    (gF (lO b Hd.length (inS fX fY fW fH vals Hd) tr X Y W (v0,cs0,[]) (W*H)).1 (lO b Hd.length (inS fX fY fW fH vals Hd) tr X Y W (v0,cs0,[]) (W*H)).2.1=false/\r.2.2.2.2.2.1=false)):=by
 obtain⟨c1,c2,c3,c4,c5,c6⟩:=id Bx;have hle:W*H<=1000*1000:=Nat.mul_le_mul c5 c6;obtain⟨F,hF⟩:∃F,F=lO b Hd.length (inS fX fY fW fH vals Hd) tr X Y W (v0,cs0,[]):=⟨_,rfl⟩
 have hF0:F 0=(v0,cs0,[]):=by rw[hF];rfl
 have hstep:∀i,F (i+1)=cellN b Hd.length (inS fX fY fW fH vals Hd) tr X Y W i (F i):=λi=>by rw[hF];rfl
 have hval:∀i,i<=W*H->(F i).2.2.length=i:=λi hi=>by rw[hF];exact(next_vals hW i hi).1
 have hfit:∀{i m:Nat},i<=m->gF (F m).1 (F m).2.1=true->gF (F i).1 (F i).2.1=true:=λhi h=>by rw[hF] at h ⊢;exact next_fit hi h
 have hlow:∀i,v0<=(F i).1:=λi=>by have:=next_mono b Hd.length (inS fX fY fW fH vals Hd) tr X Y W (v0,cs0,[]) 0 i;simp_all
 rw[<- hF];have row:∀yy mp,yy<H->MOk mp->(yy=0\/gF (F (yy*W)).1 (F (yy*W)).2.1=true)->∃o,bv (cZ S Hd N (b:Int) ⟨⟨fX,fY,fW,fH⟩,vals.map pv⟩ ⟨X,Y,W,H⟩ fixed (Y+(yy:Int))) bL (X,(F (yy*W)).2.2.map pv,(F (yy*W)).2.1,(F (yy*W)).1,mp)=some o /\ ((∃mp',MOk mp'/\gF (F ((yy+1)*W)).1 (F ((yy+1)*W)).2.1=true/\o=.inr ((F ((yy+1)*W)).2.2.map pv,(F ((yy+1)*W)).2.1,(F ((yy+1)*W)).1,mp'))\/(∃k r,k<=W*H/\gF (F k).1 (F k).2.1=false/\o=.inl r/\r.2.2.2.2.2.1=false)):=λyy mp hyy hmp hfy=>by
  have hrow:(yy+1)*W<=W*H:=by rw[Nat.mul_comm W H];exact Nat.mul_le_mul_right W hyy
  have hsp:(yy+1)*W=yy*W+W:=by grind
  refine d5 (b:=cZ S Hd N (b:Int) ⟨⟨fX,fY,fW,fH⟩,vals.map pv⟩ ⟨X,Y,W,H⟩ fixed (Y+(yy:Int))) (n:=W) (λj st=>∃mp,st=(X+(j:Int),(F (yy*W+j)).2.2.map pv,(F (yy*W+j)).2.1,(F (yy*W+j)).1,mp)/\MOk mp/\(yy*W+j=0\/gF (F (yy*W+j)).1 (F (yy*W+j)).2.1=true)) _ (by omega) ⟨mp,by simp,hmp,by grind⟩ (λj st hj ⟨mp,e,hmp,hf⟩=>?_) (λst ⟨mp,e,hmp,hf⟩=>?_)
  ·subst e;have hk:yy*W+j<W*H:=by omega
   have e1:(yy*W+j)%W=j:=by rw[Nat.add_comm,Nat.add_mul_mod_self_right,Nat.mod_eq_of_lt hj]
   have e2:(yy*W+j)/W=yy:=by rw[Nat.add_comm,Nat.add_mul_div_right _ _ (by omega),Nat.div_eq_of_lt hj,Nat.zero_add]
   have hb1:(F (yy*W+j)).1<=1000000/\(F (yy*W+j)).2.1.length<=100000000:=by rcases hf with h|h;{grind};{have:=fit_len h;omega}
   have hlo:=hlow (yy*W+j);have hvl:=hval (yy*W+j) (by omega);have hn:=hstep (yy*W+j);unfold cellN at hn;rw[e1,e2] at hn;dsimp only at hn;obtain⟨mp',hfx,hmp'⟩:=hfix (F (yy*W+j)).1 (F (yy*W+j)).2.1 mp (X+(j:Int)) (Y+(yy:Int)) hmp;have w:=hW (yy*W+j) hk;rw[e1,e2] at w;have hT:=treeP (t:=⟨S,Hd,tr (inS fX fY fW fH vals Hd (X+(j:Int)) (Y+(yy:Int)))⟩) (S:=S) (Hd:=Hd) (N:=N) (mp:=mp') (v:=(F (yy*W+j)).1) (cs:=(F (yy*W+j)).2.1) w (by omega) (by omega) (by omega);dsimp only at hT;have hbody:cZ S Hd N (b:Int) ⟨⟨fX,fY,fW,fH⟩,vals.map pv⟩ ⟨X,Y,W,H⟩ fixed (Y+(yy:Int)) (X+(j:Int),(F (yy*W+j)).2.2.map pv,(F (yy*W+j)).2.1,(F (yy*W+j)).1,mp) =
     some (bif !gF (F (yy*W+j+1)).1 (F (yy*W+j+1)).2.1 then .out (.inl (0,0,0,0,[],false,(F (yy*W+j+1)).1,mp',(F (yy*W+j+1)).2.1))else .next (X+((j+1:Nat):Int),(F (yy*W+j+1)).2.2.map pv,(F (yy*W+j+1)).2.1,(F (yy*W+j+1)).1,mp')):=by unfold cZ;dsimp only;rw[cY (a:=X) (b:=(W:Int)) (by omega),show ltB (X+(j:Int)) (X+(W:Int))=true from zD,cond_true,insP Bf hl hh hd (by omega) (by omega)];simp only[be];rw[hfx];simp only[be];rw[hT];simp only[be];rw[dw (by decide) (by decide) (by simp[hvl];omega)];simp only[be];rw[largeP_eq];simp only[be];rw[hn,cY (a:=X+(j:Int)) (b:=1) (by omega),iR];dsimp only;rw[List.map_append,show X+(j:Int)+1=X+((j+1:Nat):Int) by omega];rfl
   rw[hbody];cases hft:gF (F (yy*W+j+1)).1 (F (yy*W+j+1)).2.1 with
   |true=>grind|false=>grind
  ·subst e;refine⟨.inr ((F (yy*W+W)).2.2.map pv,(F (yy*W+W)).2.1,(F (yy*W+W)).1,mp),?_,.inl ⟨mp,hmp,?_,by rw[hsp]⟩⟩;{unfold cZ;dsimp only;rw[cY (a:=X) (b:=(W:Int)) (by omega),show ltB (X+(W:Int)) (X+(W:Int))=false from zA];rfl};grind
 unfold fv;obtain⟨o,ho,hq⟩:=d5 (b:=dQ S Hd N (b:Int) ⟨⟨fX,fY,fW,fH⟩,vals.map pv⟩ ⟨X,Y,W,H⟩ fixed) (n:=H) (s:=(Y,[],cs0,v0,mp0)) (λyy st=>∃mp,st=(Y+(yy:Int),(F (yy*W)).2.2.map pv,(F (yy*W)).2.1,(F (yy*W)).1,mp)/\MOk mp/\(yy=0\/gF (F (yy*W)).1 (F (yy*W)).2.1=true)) (λo=>(∃mp',MOk mp'/\gF (F (W*H)).1 (F (W*H)).2.1=true/\o=.inr ((F (W*H)).2.2.map pv,(F (W*H)).2.1,(F (W*H)).1,mp'))\/(∃k r,k<=W*H/\gF (F k).1 (F k).2.1=false/\o=.inl r/\r.2.2.2.2.2.1=false)) (by omega) ⟨mp0,by simp[hF0],hm,.inl rfl⟩ (λyy st hyy ⟨mp,e,hmp,hf⟩=>by
   subst e;obtain⟨o,ho,hq⟩:=row yy mp hyy hmp hf;unfold dQ;dsimp only;rw[cY (a:=Y) (b:=(H:Int)) (by omega),show ltB (Y+(yy:Int)) (Y+(H:Int))=true from zD,cond_true,ho,cY (a:=Y+(yy:Int)) (b:=1) (by omega)];rcases hq with⟨mp',h1,h2,rfl⟩|⟨k,r,h1,h2,rfl,h3⟩;{grind}
   ·exact .inr ⟨_,rfl,.inr ⟨k,r,h1,h2,rfl,h3⟩⟩)
  (λst ⟨mp,e,hmp,hf⟩=>by subst e;refine⟨.inr ((F (W*H)).2.2.map pv,(F (W*H)).2.1,(F (W*H)).1,mp),?_,.inl ⟨mp,hmp,?_,rfl⟩⟩;{unfold dQ;dsimp only;rw[cY (a:=Y) (b:=(H:Int)) (by omega),show ltB (Y+(H:Int)) (Y+(H:Int))=false from zA,Nat.mul_comm H W];rfl};grind)
 rw[ho];rcases hq with⟨mp',h1,h2,rfl⟩|⟨k,r,h1,h2,rfl,h3⟩;{simp_all};grind
end
theorem small_eq (t:Tree) (x:Bu):∃y,oQ t x=some y/\(y=true->Sz t/\x.Syms.length<=20):=by
 unfold oQ;simp only[iR,be,k8,tO];cases h1:gtB (br t.Nodes) 150 with
 |true=>simp|false=>
  cases h2:gtB (br t.Hood) 9 with
  |true=>simp|false=>
   cases h3:gtB (br x.Syms) 20 with
   |true=>simp|false=>
    have e1:=of_decide_eq_false h1;have e2:=of_decide_eq_false h2;have e3:=of_decide_eq_false h3;unfold br at e1 e2 e3;rw[hZ t.Nodes (λ_ n=>gtB (br n.Next) 20) false (by omega) (λi n hn=>by unfold mI;dsimp only;rw[bD,decide_eq_true (cG hn),cond_true,bE,hn,cd (by grind)];grind) (by simp[mI,bD])];cases hG:gtB x.Gens 3&&leB x.Gens 6 with
    |true=>simp|false=>
     cases ha:iD (λ_ n=>gtB (br n.Next) 20) t.Nodes 0 with
     |true=>simp|false=>refine⟨_,rfl,λ_=>⟨⟨by omega,by omega,λn hn=>?_⟩,by omega⟩⟩;obtain⟨j,hj⟩:=List.getElem?_of_mem hn;have:=gp ha j n hj;have:=of_decide_eq_false this;unfold br at this;omega
theorem hood_pts {l:AG} (h:jc l=true):1<=l.length/\l.length<=25/\∀d∈l,-2<=d.X/\d.X<=2/\-2<=d.Y/\d.Y<=2:=by simp only[jc,Bool.and_eq_true,Bool.not_eq_true',Bool.or_eq_false_iff] at h;have c1:=of_decide_eq_false h.1.1;have c2:=of_decide_eq_false h.1.2;unfold br at c1 c2;refine⟨by omega,by omega,λd hd=>?_⟩;obtain⟨i,hi⟩:=List.mem_iff_getElem?.1 hd;have hb:=gp h.2 i d hi;rw[Nat.zero_add] at hb;unfold badP at hb;simp only[Bool.or_eq_false_iff] at hb;obtain⟨e1,e2,e3,e4,_⟩:=hb;have f1:=of_decide_eq_false e1;have f2:=of_decide_eq_false e2;have f3:=of_decide_eq_false e3;have f4:=of_decide_eq_false e4;omega
theorem ineg_in {a:Int} (h:-1000000<=a/\a<=1000000):cA .i64 a=-a:=by grind[cA,i64_in]
theorem rad_of {l:AG} (h:jc l=true):∃r:Nat,dt l=some (r:Int)/\dA l=some (r:Int)/\r<=2/\∀d∈l,-(r:Int)<=d.X/\d.X<=r/\-(r:Int)<=d.Y/\d.Y<=r:=by
 obtain⟨h1,h25,hp⟩:=hood_pts h;obtain⟨r,hr,hq⟩:=d5 (b:=fj l) (n:=l.length) (s:=(0,0)) (λi st=>st.2=(i:Int)/\0<=st.1/\st.1<=2/\∀(j:Nat) d,j<i->l[j]?=some d->-st.1<=d.X/\d.X<=st.1/\-st.1<=d.Y/\d.Y<=st.1) (λr=>0<=r/\r<=2/\∀d∈l,-r<=d.X/\d.X<=r/\-r<=d.Y/\d.Y<=r) (by omega) ⟨rfl,Int.le_refl _,by simp,λj d hj=>by omega⟩ (λi st hi ⟨e,e1,e2,e3⟩=>by
   obtain⟨q,a⟩:=st;dsimp only at e e1 e2 e3;subst e;have hx:l[i]?=some l[i]:=List.getElem?_eq_getElem hi;generalize l[i]=d at hx;obtain⟨d1,d2,d3,d4⟩:=hp d (List.mem_of_getElem? hx);refine .inl ⟨(ja (ja (ja (ja q d.X) (cA .i64 d.X)) d.Y) (cA .i64 d.Y),((i+1:Nat):Int)),?_,?_⟩;{unfold fj;dsimp only;rw[bD,decide_eq_true hi,cond_true,bE,hx,zF];rfl}
   ·rw[ineg_in (by omega),ineg_in (by omega)];have m1:=imax_is q d.X;have m2:=imax_is (ja q d.X) (-d.X);have m3:=imax_is (ja (ja q d.X) (-d.X)) d.Y;have m4:=imax_is (ja (ja (ja q d.X) (-d.X)) d.Y) (-d.Y);dsimp only;refine⟨rfl,by omega,by omega,λj d' hj hd'=>?_⟩;rcases Nat.lt_succ_iff_lt_or_eq.1 hj with hj|rfl;{grind};grind)
  (λst ⟨e,e1,e2,e3⟩=>by obtain⟨q,a⟩:=st;dsimp only at e e1 e2 e3;subst e;refine⟨q,?_,e1,e2,λd hd=>?_⟩;{simp[fj,bD]};grind[List.mem_iff_getElem?])
 have hR:dt l=some r:=by unfold dt;rw[hood_eq (by omega),h];simp_all
 refine⟨r.toNat,by grind,by grind[rad_eq],by omega,λd hd=>?_⟩;grind
def sizeB (g:Grid):Bool:=geB g.W 1&&(leB g.W 256&&(geB g.H 1&&(leB g.H 256&&(leB (bH .i64 g.W g.H) 4096&&(geB g.Edge 0&&leB g.Edge 2)))))
def badG (_:Nat) (s:Int):Bool:=ltB s 0||geB s 8
def k4 (g:Grid):Bool:=sizeB g&&(eqB (br g.Cells) (bH .i64 g.W g.H) && !iD badG g.Cells 0)
theorem loop_find {I:Type} {b:Int->Option (Lp Int (Int ⊕ Unit))} (l:List I) (bad:Nat->I->Bool) (hl:l.length<1099511627776) (hs:∀(i:Nat) (x:I),l[i]?=some x->b i=some (bif bad i x then .out (.inl (i:Int))else .next ((i+1:Nat):Int))) (he:b (l.length:Nat)=some (.out (.inr ()))):∃o,bv b bL 0=some o/\((iD bad l 0=true/\∃k:Nat,o=.inl (k:Int))\/(iD bad l 0=false/\o=.inr ())):=by
 obtain⟨o,ho,hq⟩:=d5 (b:=b) (n:=l.length) (s:=0) (λi st=>st=(i:Int)/\∀(j:Nat) x,j<i->l[j]?=some x->bad j x=false) (λo=>(iD bad l 0=true/\∃k:Nat,o=.inl (k:Int))\/(iD bad l 0=false/\o=.inr ())) hl ⟨rfl,λj x hj=>by omega⟩ (λi st hi ⟨e,h⟩=>by
   subst e;have hx:l[i]?=some l[i]:=List.getElem?_eq_getElem hi;generalize l[i]=x at hx;rw[hs i x hx];cases hb:bad i x with
   |false=>grind|true=>
    refine .inr ⟨_,rfl,.inl ⟨?_,i,rfl⟩⟩;rw[<- Bool.not_eq_false];intro ha;have:=gp ha i x hx;simp_all)
  (λst ⟨e,h⟩=>by subst e;exact⟨_,he,.inr ⟨iA λj x hx=>by grind,rfl⟩⟩)
 grind
theorem grid_eq {g:Grid} (hl:g.Cells.length<1099511627776):mh g=some (k4 g):=by
 have hc:cH g.Cells=some (iD badG g.Cells 0):=by unfold cH dc;obtain⟨o,ho,hq⟩:=loop_find (b:=cr g.Cells) g.Cells badG hl (λi x hx=>by unfold cr nG badG;dsimp only;rw[bD,decide_eq_true (cG hx),cond_true,bE,hx,cd (by grind)];grind) (by simp[cr,bD]);rw[ho];rcases hq with⟨h1,k,rfl⟩|⟨h1,rfl⟩;{simp_all[geB]};{rw[h1];rfl}
 unfold mh qd k4 sizeB;rw[hc];simp only[iR,be,tO,e9]
theorem gridR_eq {g:Grid} (hl:g.Cells.length<1099511627776):l8 g=some (k4 g):=by unfold l8 uo k4 sizeB;rw[hZ g.Cells badG false hl (λi x hx=>by unfold mO badG;dsimp only;rw[bD,decide_eq_true (cG hx),cond_true,bE,hx,cd (by grind)];grind) (by simp[mO,bD])];simp only[iR,be,tO,k8,e9,neB_eqB];grind
structure GOk (g:Grid) (w h:Nat):Prop where
 W:g.W=(w:Int)
 H:g.H=(h:Int)
 w1:1<=w
 w2:w<=256
 h1:1<=h
 h2:h<=256
 len:g.Cells.length=w*h
 cell:∀s∈g.Cells,0<=s/\s<8
theorem grid_ok {g:Grid} (h:k4 g=true):∃w h,GOk g w h:=by
 unfold k4 sizeB at h;simp only[Bool.and_eq_true,Bool.not_eq_true'] at h;obtain⟨⟨h1,h2,h3,h4,_⟩,h5,h6⟩:=h;have e1:=of_decide_eq_true h1;have e2:=of_decide_eq_true h2;have e3:=of_decide_eq_true h3;have e4:=of_decide_eq_true h4;have hm0:0<=g.W*g.H:=Int.mul_nonneg (by omega) (by omega);have hm1:g.W*g.H<=256*256:=Int.mul_le_mul (by omega) (by omega) (by omega) (by omega);have e5:br g.Cells=bH .i64 g.W g.H:=by simpa [eqB] using h5
 rw[dz (by omega)] at e5;unfold br at e5;refine⟨g.W.toNat,g.H.toNat,by omega,by omega,by omega,by omega,by omega,by omega,?_,λs hs=>?_⟩;{grind};{obtain⟨j,hj⟩:=List.mem_iff_getElem?.1 hs;have:=gp h6 j s hj;simp only[badG,Bool.or_eq_false_iff] at this;have f1:=of_decide_eq_false this.1;have f2:=of_decide_eq_false this.2;omega}
structure RT (n b:Nat) (t:Tree) (ns:AE):Prop where
 sb:SB n b
 st:t.States=(n:Int)
 ok:iw t=true
 tok:TOk n t
 red:TOk n ⟨t.States,t.Hood,ns⟩
 P:jl t=some ⟨t.States,t.Hood,ns⟩
 R:mz t=some ⟨t.States,t.Hood,ns⟩
theorem rt_of {t:Tree} (hok:iw t=true):∃n b ns,RT n b t ns:=by obtain⟨n,h⟩:=ok_tree hok;obtain⟨b,B⟩:=sb_of h.n2 h.n8;obtain⟨L,i,u,hi,hL,hr,_⟩:=h.rep;obtain⟨h1,h2⟩:=reduce_is hok h hi hL hr;exact⟨n,b,_,B,h.st,hok,h,(h.red hL hr).1,h1,h2⟩
theorem startP {n b:Nat} {t:Tree} {ns:AE} (R:RT n b t ns):mf t=some ((n:Int),t.Hood,ns,(b:Int)):=by unfold mf;rw[R.P,PC.bits_eq];simp only[be];rw[R.st,R.sb.bits]
theorem wt_free {n b:Nat} {t:Tree} {ns:AE} (R:RT n b t ns) {in_:List SV} (hl:in_.length=t.Hood.length) (hv:∀v∈in_,VOk n b v/\v.2.length=b):WT n b t.Hood.length in_ ns:=by
 have h:=R.red;obtain⟨i,x,e1,e2,_⟩:=h.root;refine⟨R.sb.n2,R.sb.n8,R.sb.b1,R.sb.b3,h.h25,h.nodes,by grind,h.good,h.lev,hl,λv hv'=>(hv v hv').1,λx hx _ e=>?_⟩;obtain⟨j,hj⟩:=List.mem_iff_getElem?.1 hx;have h1:=h.good.lev j x hj;have h2:=h.lev x hx;have hH:=h.h1;dsimp only at h2 hH;unfold rdS at e;have hlt:t.Hood.length-x.Level.toNat<in_.length:=by omega
 rw[List.getD_eq_getElem?_getD,List.getElem?_eq_getElem hlt] at e;have:=(hv _ (List.getElem_mem hlt)).2;have hb:=R.sb.b1;grind
def endC (u:SV) (s:Int):A1:=bif isE u.2 then(bif neB u.1 s then [[]] else [])else fixS u.2 s
def parC (b H:Nat) (ins:Int->Int->List SV) (ns:AE) (w:Nat) (cells:A0) (i:Nat) (st:Int×A1):Int×A1 :=
 let T:=cL b H (ins (i%w:Nat) (i/w:Nat)) ns (st.1,st.2,[])
 (T.1,T.2.1++endC (T.2.2.getLastD (0,[])) (cells.getD i 0))
def lx (b H:Nat) (ins:Int->Int->List SV) (ns:AE) (w:Nat) (cells:A0) (st:Int×A1):Nat->Int×A1|0=>st|i+1=>parC b H ins ns w cells i (lx b H ins ns w cells st i)
section
variable {n b H:Nat} {ins:Int->Int->List SV} {ns:AE} {w:Nat} {cells:A0} {st:Int×A1}
theorem parC_mono (i:Nat) (st:Int×A1):st.1<=(parC b H ins ns w cells i st).1/\st.2.length<=(parC b H ins ns w cells i st).2.length/\(cL b H (ins (i%w:Nat) (i/w:Nat)) ns (st.1,st.2,[])).1<=(parC b H ins ns w cells i st).1/\(cL b H (ins (i%w:Nat) (i/w:Nat)) ns (st.1,st.2,[])).2.1.length<=(parC b H ins ns w cells i st).2.length:=by have:=tree_mono b H (ins (i%w:Nat) (i/w:Nat)) ns (st.1,st.2,[]);grind[parC]
theorem par_mono (i:Nat):∀k,(lx b H ins ns w cells st i).1<=(lx b H ins ns w cells st (i+k)).1/\(lx b H ins ns w cells st i).2.length<=(lx b H ins ns w cells st (i+k)).2.length|0=>⟨Int.le_refl _,Nat.le_refl _⟩|k+1=>by have h1:=par_mono i k;have h2:=parC_mono (b:=b) (H:=H) (ins:=ins) (ns:=ns) (w:=w) (cells:=cells) (i+k) (lx b H ins ns w cells st (i+k));grind[lx]
theorem par_unfit {i m:Nat} (hi:i<=m) (h:gF (lx b H ins ns w cells st i).1 (lx b H ins ns w cells st i).2=false):gF (lx b H ins ns w cells st m).1 (lx b H ins ns w cells st m).2=false:=by have:=par_mono (b:=b) (H:=H) (ins:=ins) (ns:=ns) (w:=w) (cells:=cells) (st:=st) i (m-i);grind[sV]
theorem par_tree_unfit {i m:Nat} (hi:i+1<=m) (h:gF (cL b H (ins (i%w:Nat) (i/w:Nat)) ns ((lx b H ins ns w cells st i).1,(lx b H ins ns w cells st i).2,[])).1 (cL b H (ins (i%w:Nat) (i/w:Nat)) ns ((lx b H ins ns w cells st i).1,(lx b H ins ns w cells st i).2,[])).2.1=false):gF (lx b H ins ns w cells st m).1 (lx b H ins ns w cells st m).2=false:=by
 refine par_unfit hi ?_;have:=parC_mono (b:=b) (H:=H) (ins:=ins) (ns:=ns) (w:=w) (cells:=cells) i (lx b H ins ns w cells st i);cases hf:gF (lx b H ins ns w cells st (i+1)).1 (lx b H ins ns w cells st (i+1)).2 with
 |false=>rfl|true=>rw[sV this.2.2.1 this.2.2.2 hf] at h;cases h
end
theorem endC_len {n b:Nat} {u:SV} (hu:VOk n b u) (hb:b<=3) (s:Int):(endC u s).length<=3:=by
 unfold endC;cases he:isE u.2 with
 |true=>grind|false=>rw[cond_false,fixS_len,vok_len hu he];exact hb
theorem last_ok {n b H:Nat} {in_:List SV} {ns:AE} {v:Int} {cs:A1} (W:WT n b H in_ ns):VOk n b ((cL b H in_ ns (v,cs,[])).2.2.getLastD (0,[])):=by have T:=TI.at_ W (TI.init (n:=n) (b:=b) (n0:=v) (cs:=cs)) _ (Nat.le_refl _);rw[List.take_length] at T;exact T.ok _ (getLastD_mem (by rw[T.of_];exact W.ne))
theorem one_cell (b H:Nat) (ins:Int->Int->List SV) (ns:AE) (X Y:Int) (v:Int) (cs:A1) :
  lO b H ins (λ_=>ns) X Y 1 (v,cs,[]) 1=((cL b H (ins X Y) ns (v,cs,[])).1,(cL b H (ins X Y) ns (v,cs,[])).2.1,[(cL b H (ins X Y) ns (v,cs,[])).2.2.getLastD (0,[])]):=by show cellN b H ins (λ_=>ns) X Y 1 0 (v,cs,[])=_;unfold cellN;simp
theorem idiv_nat {i w:Nat} (hw:1<=w) (hi:i<1000000000):irem (i:Int) (w:Int)=some ((i%w:Nat):Int)/\iquo .i64 (i:Int) (w:Int)=some ((i/w:Nat):Int):=by
 constructor;{unfold irem;grind}
 ·unfold iquo;rw[if_neg (by omega)]
  congr 1
  have h2:=Nat.div_le_self i w;have z1:=Int.natCast_nonneg (i/w);rw[show (i:Int).tdiv (w:Int)=((i/w:Nat):Int)from rfl,i64_in (by omega)]
section
variable {n b:Nat} {t:Tree} {ns:AE} {g:Grid} {w h r:Nat}
structure GL_ (n b:Nat) (t:Tree) (ns:AE) (g:Grid) (w h r:Nat):Prop where
 R:RT n b t ns
 G:GOk g w h
 r2:r<=2
 pts:∀d∈t.Hood,-(r:Int)<=d.X/\d.X<=r/\-(r:Int)<=d.Y/\d.Y<=r
 sz:(w+2*r)*(h+2*r)<=16
theorem GL_.ins (A:GL_ n b t ns g w h r) {i:Nat} (hi:i<w*h) :
  inS (-(r:Int)) (-(r:Int)) (w+2*r) (h+2*r) (cV b ((w+2*r)*(h+2*r))) t.Hood (i%w:Nat) (i/w:Nat) =
   t.Hood.map λd=>(cV b ((w+2*r)*(h+2*r))).getD ((((i/w:Nat):Int)+d.Y+r).toNat*(w+2*r)+(((i%w:Nat):Int)+d.X+r).toNat) (0,[]):=by have hw:=A.G.w1;have h1:i%w<w:=Nat.mod_lt _ (by omega);have h2:i/w<h:=Nat.div_lt_of_lt_mul hi;have z1:=Int.natCast_nonneg (i/w);unfold inS;apply List.map_congr_left;intro d hd;obtain⟨d1,d2,d3,d4⟩:=A.pts d hd;unfold atS;rw[inB_iff.2 ⟨by omega,by omega,by omega,by omega⟩,cond_true];simp
theorem GL_.idx (A:GL_ n b t ns g w h r) {i:Nat} (hi:i<w*h) {d:Point} (hd:d∈t.Hood):(((i/w:Nat):Int)+d.Y+r).toNat*(w+2*r)+(((i%w:Nat):Int)+d.X+r).toNat<(w+2*r)*(h+2*r)/\0<=((i/w:Nat):Int)+d.Y+r/\0<=((i%w:Nat):Int)+d.X+r:=by have hw:=A.G.w1;have h1:i%w<w:=Nat.mod_lt _ (by omega);have h2:i/w<h:=Nat.div_lt_of_lt_mul hi;have z1:=Int.natCast_nonneg (i/w);obtain⟨d1,d2,d3,d4⟩:=A.pts d hd;exact⟨lin_lt (by omega) (by omega),by omega,by omega⟩
theorem GL_.wt (A:GL_ n b t ns g w h r) {i:Nat} (hi:i<w*h):WT n b t.Hood.length (inS (-(r:Int)) (-(r:Int)) (w+2*r) (h+2*r) (cV b ((w+2*r)*(h+2*r))) t.Hood (i%w:Nat) (i/w:Nat)) ns:=by refine wt_free A.R (by unfold inS;simp) λv hv=>?_;rw[A.ins hi] at hv;obtain⟨d,hd,rfl⟩:=List.mem_map.1 hv;obtain⟨h1,_,_⟩:=A.idx hi hd;grind[k6,cellsV_ok]
theorem GL_.w16 (A:GL_ n b t ns g w h r):w+2*r<=16/\h+2*r<=16/\w*h<=16:=by have h1:=A.G.w1;have h2:=A.G.h1;have h3:=A.sz;have a1:=Nat.mul_le_mul_left (w+2*r) (show 1<=h+2*r by omega);have a2:=Nat.mul_le_mul_right (h+2*r) (show 1<=w+2*r by omega);grind
def om (b:Nat) (t:Tree) (ns:AE) (g:Grid) (n w h r:Nat):Int×A1 :=lx b t.Hood.length (inS (-(r:Int)) (-(r:Int)) (w+2*r) (h+2*r) (cV b ((w+2*r)*(h+2*r))) t.Hood) ns w g.Cells ((((w+2*r)*(h+2*r):Nat):Int)*b,f0 n b ((w+2*r)*(h+2*r))) (w*h)
theorem vars0 (A:GL_ n b t ns g w h r):0<=((((w+2*r)*(h+2*r):Nat):Int)*b)/\((((w+2*r)*(h+2*r):Nat):Int)*b)<=48/\(f0 n b ((w+2*r)*(h+2*r))).length<=128:=by have h1:=A.sz;have h3:=A.R.sb.b3;have:(w+2*r)*(h+2*r)*b<=16*3:=Nat.mul_le_mul h1 h3;grind[cellsC_len]
theorem par_bound (A:GL_ n b t ns g w h r):∀i,i<=w*h->let F:=lx b t.Hood.length (inS (-(r:Int)) (-(r:Int)) (w+2*r) (h+2*r) (cV b ((w+2*r)*(h+2*r))) t.Hood) ns w g.Cells ((((w+2*r)*(h+2*r):Nat):Int)*b,f0 n b ((w+2*r)*(h+2*r)))
  0<=(F i).1/\(F i).1<=48+12288*i/\(F i).2.length<=128+196611*i
 |0,_=>by have:=vars0 A;dsimp only[lx];omega|i+1,hi=>by have ih:=par_bound A i (by omega);have w1:=A.wt (i:=i) (by omega);dsimp only at ih⊢;rw[lx];generalize lx b t.Hood.length (inS (-(r:Int)) (-(r:Int)) (w+2*r) (h+2*r) (cV b ((w+2*r)*(h+2*r))) t.Hood) ns w g.Cells ((((w+2*r)*(h+2*r):Nat):Int)*b,f0 n b ((w+2*r)*(h+2*r))) i=st at ih;have T:=TI.at_ w1 (TI.init (n:=n) (b:=b) (n0:=st.1) (cs:=st.2)) _ (Nat.le_refl _);rw[List.take_length] at T;have t1:=T.lo;have t2:=T.hi;have t3:=T.cs;have t4:=w1.len;have t5:=endC_len (last_ok w1 (v:=st.1) (cs:=st.2)) A.R.sb.b3 (g.Cells.getD i 0);grind[parC]
theorem parP (A:GL_ n b t ns g w h r) (hr:dt t.Hood=some (r:Int)) (hg:k4 g=true) (hc:iD (λ_ s=>geB s t.States) g.Cells 0=false) :
  eS t g=some (bif gF (om b t ns g n w h r).1 (om b t ns g n w h r).2 then(⟨(om b t ns g n w h r).1,(om b t ns g n w h r).2⟩,(((w+2*r)*(h+2*r):Nat):Int)*b,0)else(⟨0,[]⟩,0,6)):=by
 obtain⟨k1,k2,k3⟩:=A.w16;have hr2:=A.r2;have hlen:=A.G.len;have hgW:=A.G.W;have hmul:bH .i64 ((w+2*r:Nat):Int) ((h+2*r:Nat):Int)=(((w+2*r)*(h+2*r):Nat):Int):=by have:=A.sz;grind[dz]
 have e1:bC .i64 g.W (bH .i64 2 (r:Int))=((w+2*r:Nat):Int):=by grind[dz,cY]
 have e2:bC .i64 g.H (bH .i64 2 (r:Int))=((h+2*r:Nat):Int):=by rw[A.G.H,dz (by omega),cY (by omega)];omega
 have e3:cA .i64 (r:Int)=-(r:Int):=ineg_in (by omega);have hsz:=sz_of A.R.tok;have hcon:bV g.Cells t=some false:=by unfold bV cE;obtain⟨o,ho,hq⟩:=loop_find (b:=bM g.Cells t) g.Cells (λ_ s=>geB s t.States) (by omega) (λi x hx=>by unfold bM iM;dsimp only;rw[bD,decide_eq_true (cG hx),cond_true,bE,hx,cd (by grind)];grind) (by simp[bM,bD]);rw[ho];rcases hq with⟨h1,_⟩|⟨_,rfl⟩;{simp_all};{rfl}
 unfold eS;rw[tree_eq hsz,A.R.ok,grid_eq (by omega),hg,hcon,hr];simp only[be,e9,Bool.not_true,cond_false];rw[e1,e2,e3,hmul,show gtB (((w+2*r)*(h+2*r):Nat):Int) 16=false from decide_eq_false (by have:=A.sz;omega),cond_false,startP A.R];simp only[be];rw[freeP A.R.sb (m:=(w+2*r)*(h+2*r)) hmul (by have:=A.sz;omega)];simp only[be];obtain⟨F,hF⟩:∃F,F=lx b t.Hood.length (inS (-(r:Int)) (-(r:Int)) (w+2*r) (h+2*r) (cV b ((w+2*r)*(h+2*r))) t.Hood) ns w g.Cells ((((w+2*r)*(h+2*r):Nat):Int)*b,f0 n b ((w+2*r)*(h+2*r))):=⟨_,rfl⟩
 have hPF:om b t ns g n w h r=F (w*h):=by rw[hF];rfl
 have hbd:=λi hi=>par_bound A i hi;rw[<- hF] at hbd;dsimp only at hbd;rw[hPF];obtain⟨o,ho,hq⟩:=d5 (b:=fo g (r:Int) ((n:Int),t.Hood,ns,(b:Int)) ((cV b ((w+2*r)*(h+2*r))).map pv,f0 n b ((w+2*r)*(h+2*r)),(((w+2*r)*(h+2*r):Nat):Int)*b)) (n:=w*h) (s:=(0,[],(((w+2*r)*(h+2*r):Nat):Int)*b,f0 n b ((w+2*r)*(h+2*r)))) (λi st=>∃mp,st=((i:Int),mp,(F i).1,(F i).2)) (λo=>(∃mp,o=.inr (mp,(F (w*h)).1,(F (w*h)).2))\/(o=.inl (⟨0,[]⟩,0,6)/\gF (F (w*h)).1 (F (w*h)).2=false)) (by omega) ⟨[],by rw[hF];rfl⟩ (λi st hi ⟨mp,e⟩=>by
   subst e;have hci:g.Cells[i]?=some (g.Cells.getD i 0):=by simp_all
   obtain⟨q1,q2⟩:=idiv_nat (i:=i) A.G.w1 (by omega);have hw1:=A.G.w1;have hml:i%w<w:=Nat.mod_lt _ (by omega);have hdl:i/w<=i:=Nat.div_le_self i w;have z1:=Int.natCast_nonneg (i/w);obtain⟨b1,b2,b3⟩:=hbd i (by omega);have wt:=A.wt hi;obtain⟨rs,hrs,hqs⟩:=nextP (n:=n) (b:=b) (S:=(n:Int)) (Hd:=t.Hood) (N:=ns) (fX:=-(r:Int)) (fY:=-(r:Int)) (fW:=w+2*r) (fH:=h+2*r) (vals:=cV b ((w+2*r)*(h+2*r))) (X:=((i%w:Nat):Int)) (Y:=((i/w:Nat):Int)) (W:=1) (H:=1) (fixed:=false) (tr:=λ_=>ns) (MOk:=λ_=>True) (v0:=(F i).1) (cs0:=(F i).2) (mp0:=mp) ⟨by omega,by omega,by omega,by omega,by omega,by omega⟩ (k6 _ _) A.R.tok.h25 (λd hd=>by have:=A.pts d hd;omega) ⟨by omega,by omega,by omega,by omega,by omega,by omega⟩ (Nat.le_refl _) (Nat.le_refl _) (λj hj=>by simp_all) (λv cs mp x y _=>⟨mp,rfl,trivial⟩) trivial (by omega) (by omega) (by omega);rw[Nat.mul_one,one_cell] at hqs;rw[show ((1:Nat):Int)=1 from rfl] at hrs;have hFs:F (i+1)=parC b t.Hood.length (inS (-(r:Int)) (-(r:Int)) (w+2*r) (h+2*r) (cV b ((w+2*r)*(h+2*r))) t.Hood) ns w g.Cells i (F i):=by rw[hF];rfl
   have hun:=λhh=>par_tree_unfit (b:=b) (H:=t.Hood.length) (ins:=inS (-(r:Int)) (-(r:Int)) (w+2*r) (h+2*r) (cV b ((w+2*r)*(h+2*r))) t.Hood) (ns:=ns) (w:=w) (cells:=g.Cells) (st:=((((w+2*r)*(h+2*r):Nat):Int)*b,f0 n b ((w+2*r)*(h+2*r)))) (i:=i) (m:=w*h) (by omega) hh;rw[<- hF] at hun;unfold parC at hFs;dsimp only at hFs;have hlo:=last_ok wt (v:=(F i).1) (cs:=(F i).2);have TT:=TI.at_ wt (TI.init (n:=n) (b:=b) (n0:=(F i).1) (cs:=(F i).2)) _ (Nat.le_refl _);rw[List.take_length] at TT;have t3:=TT.cs;have t4:=wt.len;generalize cL b t.Hood.length (inS (-(r:Int)) (-(r:Int)) (w+2*r) (h+2*r) (cV b ((w+2*r)*(h+2*r))) t.Hood (i%w:Nat) (i/w:Nat)) ns ((F i).1,(F i).2,[])=T at hqs hFs hun hlo t3;obtain⟨tv,tc,to_⟩:=T;dsimp only at hqs hFs hun hlo t3;rcases hqs with⟨mp',_,hft,rfl⟩|⟨hft,hfl⟩
   ·refine .inl ⟨(((i+1:Nat):Int),mp',(F (i+1)).1,(F (i+1)).2),?_,mp',rfl⟩;unfold fo;dsimp only;rw[show ltB (i:Int) (br g.Cells)=true from decide_eq_true (by unfold br;omega),cond_true,bE,hci,hgW,q1,q2];simp only[be];rw[<- hgW,e1,e2,e3,hrs];simp only[be];rw[zF];simp only[e9,Bool.not_true,cond_false];rw[show idx (List.map pv [to_.getLastD (0,[])]) 0=some (pv (to_.getLastD (0,[])))from rfl];simp only[be];rw[hFs];generalize to_.getLastD (0,[])=u at hlo;unfold endC;dsimp only[pv];cases he:isE u.2 with
    |false=>simp only[Bool.not_false,cond_true,cond_false];rw[sX (λe=>by rw[e] at he;cases he)];simp only[be];rw[fixP _ (by omega) (by have:=vok_len hlo he;have:=A.R.sb.b3;omega)];rfl|true=>
     simp only[Bool.not_true,cond_true,cond_false];cases hnb:neB u.1 (g.Cells.getD i 0)with
     |false=>simp|true=>simp only[cond_true];unfold fD;rw[dw (by decide) (by decide) (by simp;omega)];rfl
   ·refine .inr ⟨.inl (⟨0,[]⟩,0,6),?_,.inr ⟨rfl,hun hft⟩⟩;unfold fo;dsimp only;rw[show ltB (i:Int) (br g.Cells)=true from decide_eq_true (by unfold br;omega),cond_true,bE,hci,hgW,q1,q2];simp_all)
  (λst ⟨mp,e⟩=>by subst e;refine⟨.inr (mp,(F (w*h)).1,(F (w*h)).2),?_,.inl ⟨mp,rfl⟩⟩;simp_all[fo,ltB,br])
 rw[ho];rcases hq with⟨mp,rfl⟩|⟨rfl,hft⟩;{grind[largeP_eq]};{rw[hft];rfl}
end
section
variable {n b:Nat} {t:Tree} {ns:AE} {g:Grid} {w h r:Nat}
theorem insR {vs:A1} {n0:Int} {i:Nat} {f:Int} {l:A1} (A:GL_ n b t ns g w h r) (hi:i<w*h) :
  bv (gP g (r:Int) (n0,(cV b ((w+2*r)*(h+2*r))).map rv,vs) ⟨t.States,t.Hood,ns⟩ (i:Int) f l ((i%w:Nat):Int) ((i/w:Nat):Int)) bL (0,[]) =
   some ((inS (-(r:Int)) (-(r:Int)) (w+2*r) (h+2*r) (cV b ((w+2*r)*(h+2*r))) t.Hood (i%w:Nat) (i/w:Nat)).map rv):=by
 obtain⟨k1,k2,k3⟩:=A.w16;have hr2:=A.r2;have h25:=A.R.tok.h25;have hw1:=A.G.w1;have hgW:=A.G.W;have hml:i%w<w:=Nat.mod_lt _ (by omega);have hdl:i/w<=i:=Nat.div_le_self i w;have z1:=Int.natCast_nonneg (i/w);have z2:=Int.natCast_nonneg (i%w);have e1:bC .i64 g.W (bH .i64 2 (r:Int))=((w+2*r:Nat):Int):=by grind[dz,cY]
 rw[A.ins hi];obtain⟨V,hV⟩:∃V,V=cV b ((w+2*r)*(h+2*r)):=⟨_,rfl⟩
 have hVl:V.length=(w+2*r)*(h+2*r):=by rw[hV,k6]
 have hidx:=λd hd=>A.idx hi (d:=d) hd;rw[<- hV];generalize hq:i%w=a at hml z2 hidx⊢;generalize hq':i/w=c at hdl z1 hidx⊢;have hg:=lu (b:=gP g (r:Int) (n0,V.map rv,vs) ⟨t.States,t.Hood,ns⟩ (i:Int) f l (a:Int) (c:Int)) t.Hood (λ_ d=>[rv (V.getD ((((c:Nat):Int)+d.Y+r).toNat*(w+2*r)+(((a:Nat):Int)+d.X+r).toNat) (0,[]))]) 1 1000 [] (λ_ _=>Nat.le_refl _) (by omega) (by simp;omega) (λk d ac hdk hac=>by
   have hk:=cG hdk;have hd:=List.mem_of_getElem? hdk;obtain⟨d1,d2,d3,d4⟩:=A.pts d hd;obtain⟨i1,i2,i3⟩:=hidx d hd;have hsz:=A.sz;have hy:((((c:Int)+d.Y+r).toNat*(w+2*r):Nat):Int)=((c:Int)+d.Y+r)*((w+2*r:Nat):Int):=by grind
   have hix:bC .i64 (bC .i64 (bH .i64 (bC .i64 (bC .i64 (c:Int) (r:Int)) d.Y) (bC .i64 g.W (bH .i64 2 (r:Int)))) (bC .i64 (a:Int) (r:Int))) d.X=((((c:Int)+d.Y+r).toNat*(w+2*r)+((a:Int)+d.X+r).toNat:Nat):Int):=by
    have hq1:bC .i64 (c:Int) (r:Int)=(c:Int)+r:=cY (by omega);have hq2:bC .i64 ((c:Int)+r) d.Y=(c:Int)+r+d.Y:=cY (by omega);have hq3:bC .i64 (a:Int) (r:Int)=(a:Int)+r:=cY (by omega);have hq4:bH .i64 ((c:Int)+r+d.Y) ((w+2*r:Nat):Int)=((((c:Int)+d.Y+r).toNat*(w+2*r):Nat):Int):=by rw[show (c:Int)+r+d.Y=(c:Int)+d.Y+r by omega,dz (by omega),hy]
    rw[hq1,hq2,hq3,e1,hq4,cY (b:=(a:Int)+r) (by omega),cY (b:=d.X) (by omega)];omega
   unfold gP;dsimp only;rw[bD,decide_eq_true hk,cond_true,bE,hdk,zF];simp only[be];rw[hix,bE,List.getElem?_map,zB,List.getD_eq_getElem?_getD,zB];grind[dw])
  (λac=>by simp[gP,bD])
 rw[hg,List.nil_append,gat_map,List.map_map];rfl
theorem parR (A:GL_ n b t ns g w h r) (hr:dA t.Hood=some (r:Int)) (hc:l7 t g=some 0) :
  kc t g=some (bif gF (om b t ns g n w h r).1 (om b t ns g n w h r).2 then(⟨(om b t ns g n w h r).1,(om b t ns g n w h r).2⟩,(((w+2*r)*(h+2*r):Nat):Int)*b,0)else(⟨0,[]⟩,0,6)):=by
 obtain⟨k1,k2,k3⟩:=A.w16;have hr2:=A.r2;have hlen:=A.G.len;have hgW:=A.G.W;have hmul:bH .i64 ((w+2*r:Nat):Int) ((h+2*r:Nat):Int)=(((w+2*r)*(h+2*r):Nat):Int):=by have:=A.sz;grind[dz]
 have e1:bC .i64 g.W (bH .i64 2 (r:Int))=((w+2*r:Nat):Int):=by grind[dz,cY]
 have e2:bC .i64 g.H (bH .i64 2 (r:Int))=((h+2*r:Nat):Int):=by rw[A.G.H,dz (by omega),cY (by omega)];omega
 unfold kc;rw[hc,hr];simp only[be];rw[show neB 0 0=false from rfl,cond_false,e1,e2,hmul,show t.States=(n:Int)from A.R.st,cellsR A.R.sb (by have:=A.sz;omega),A.R.R];simp only[be];obtain⟨F,hF⟩:∃F,F=lx b t.Hood.length (inS (-(r:Int)) (-(r:Int)) (w+2*r) (h+2*r) (cV b ((w+2*r)*(h+2*r))) t.Hood) ns w g.Cells ((((w+2*r)*(h+2*r):Nat):Int)*b,f0 n b ((w+2*r)*(h+2*r))):=⟨_,rfl⟩
 have hPF:om b t ns g n w h r=F (w*h):=by rw[hF];rfl
 have hbd:=λi hi=>par_bound A i hi;rw[<- hF] at hbd;dsimp only at hbd;rw[hPF];obtain⟨o,ho,hq⟩:=d5 (b:=dV g (r:Int) ((((w+2*r)*(h+2*r):Nat):Int)*b,(cV b ((w+2*r)*(h+2*r))).map rv,f0 n b ((w+2*r)*(h+2*r))) ⟨t.States,t.Hood,ns⟩) (n:=w*h) (s:=(0,(((w+2*r)*(h+2*r):Nat):Int)*b,f0 n b ((w+2*r)*(h+2*r)))) (λi st=>st=((i:Int),(F i).1,(F i).2)\/(∃j v cs,st=(j,v,cs)/\gF v cs=false/\gF (F (w*h)).1 (F (w*h)).2=false)) (λo=>o=((F (w*h)).1,(F (w*h)).2)\/(gF o.1 o.2=false/\gF (F (w*h)).1 (F (w*h)).2=false)) (by omega) (.inl (by rw[hF];rfl)) (λi st hi e=>by
   rcases e with e|⟨j,v,cs,e,hu1,hu2⟩
   ·subst e;have hci:g.Cells[i]?=some (g.Cells.getD i 0):=by simp_all
    obtain⟨q1,q2⟩:=idiv_nat (i:=i) A.G.w1 (by omega);obtain⟨b1,b2,b3⟩:=hbd i (by omega);have wt:=A.wt hi;cases hfi:gF (F i).1 (F i).2 with
    |false=>
     have hun:gF (F (w*h)).1 (F (w*h)).2=false:=by rw[hF] at hfi⊢;exact par_unfit (Nat.le_of_lt hi) hfi
     simp_all[dV,mJ]
    |true=>
     have hflen:=fit_len hfi;obtain⟨rs,hrs,hq1,hq2⟩:=treeR (t:=⟨t.States,t.Hood,ns⟩) (v:=(F i).1) (cs:=(F i).2) wt A.R.st (by show PC.bitsOf t.States=_;rw[A.R.st];exact A.R.sb.bits) b1 (by omega) (by omega);have hFs:F (i+1)=parC b t.Hood.length (inS (-(r:Int)) (-(r:Int)) (w+2*r) (h+2*r) (cV b ((w+2*r)*(h+2*r))) t.Hood) ns w g.Cells i (F i):=by rw[hF];rfl
     have hun:=λhh=>par_tree_unfit (b:=b) (H:=t.Hood.length) (ins:=inS (-(r:Int)) (-(r:Int)) (w+2*r) (h+2*r) (cV b ((w+2*r)*(h+2*r))) t.Hood) (ns:=ns) (w:=w) (cells:=g.Cells) (st:=((((w+2*r)*(h+2*r):Nat):Int)*b,f0 n b ((w+2*r)*(h+2*r)))) (i:=i) (m:=w*h) (by omega) hh;rw[<- hF] at hun;unfold parC at hFs;dsimp only at hFs hq1 hq2 hrs;have hlo:=last_ok wt (v:=(F i).1) (cs:=(F i).2);have TT:=TI.at_ wt (TI.init (n:=n) (b:=b) (n0:=(F i).1) (cs:=(F i).2)) _ (Nat.le_refl _);rw[List.take_length] at TT;have t3:=TT.cs;have t4:=wt.len;generalize cL b t.Hood.length (inS (-(r:Int)) (-(r:Int)) (w+2*r) (h+2*r) (cV b ((w+2*r)*(h+2*r))) t.Hood (i%w:Nat) (i/w:Nat)) ns ((F i).1,(F i).2,[])=T at hq1 hq2 hFs hun hlo t3;obtain⟨tv,tc,to_⟩:=T;dsimp only at hq1 hq2 hFs hun hlo t3;cases hft:gF tv tc with
     |true=>
      have hrr:=hq1 hft;refine .inl ⟨(((i+1:Nat):Int),(F (i+1)).1,(F (i+1)).2),?_,.inl rfl⟩;unfold dV;dsimp only;rw[show ltB (i:Int) (br g.Cells)=true from decide_eq_true (by unfold br;omega),cond_true,mJ];dsimp only;rw[hfi];simp only[be,cond_true];rw[hgW,q1,q2];simp only[be];rw[insR A hi];simp only[be];rw[hrs,hrr];simp only[be];rw[bE,hci,zF];simp only[be];rw[hFs];generalize to_.getLastD (0,[])=u at hlo;unfold endC;cases he:isE u.2 with
      |false=>have hul:=vok_len hlo he;have hb1:=A.R.sb.b1;have hb3:=A.R.sb.b3;rw[show gtB (br u.2) 0=true from decide_eq_true (by unfold br;omega),cond_true,fixR _ (by omega) (by omega)];rfl|true=>
       rw[show gtB (br u.2) 0=false from by rw[isE_true he];rfl,cond_false];cases hnb:neB u.1 (g.Cells.getD i 0)with
       |false=>simp|true=>simp only[cond_true];unfold iP;rw[dw (by decide) (by decide) (by simp),dw (by decide) (by decide) (by simp),dw (by decide) (by decide) (by simp;omega)];rfl
     |false=>
      obtain⟨u1,u2,u3,u4,u5⟩:=hq2 hft;have hun':=hun hft;have hbase:dV g (r:Int) ((((w+2*r)*(h+2*r):Nat):Int)*b,(cV b ((w+2*r)*(h+2*r))).map rv,f0 n b ((w+2*r)*(h+2*r))) ⟨t.States,t.Hood,ns⟩ ((i:Int),(F i).1,(F i).2)=some (.next (((i+1:Nat):Int),rs.1,rs.2.2.2++bif neB rs.2.1 (g.Cells.getD i 0)then [[]] else [])):=by
       unfold dV;dsimp only;rw[show ltB (i:Int) (br g.Cells)=true from decide_eq_true (by unfold br;omega),cond_true,mJ];dsimp only;rw[hfi];simp only[be,cond_true];rw[hgW,q1,q2];simp only[be];rw[insR A hi];simp only[be];rw[hrs];simp only[be];rw[bE,hci,zF,show gtB (br rs.2.2.1) 0=false from by rw[u2];rfl,cond_false];simp only[be];cases hnb:neB rs.2.1 (g.Cells.getD i 0)with
       |false=>simp|true=>simp only[cond_true];unfold iP;rw[dw (by decide) (by decide) (by simp),dw (by decide) (by decide) (by simp),dw (by decide) (by decide) (by simp;omega)];rfl
      refine .inl ⟨_,hbase,.inr ⟨_,_,_,rfl,?_,hun'⟩⟩;cases hfx:gF rs.1 (rs.2.2.2++bif neB rs.2.1 (g.Cells.getD i 0)then [[]] else [])with
      |false=>rfl|true=>rw[sV (Int.le_refl _) (by simp) hfx] at u1;cases u1
   simp_all[dV,mJ])
  (λst e=>by rcases e with e|⟨j,v,cs,e,hu1,hu2⟩;{subst e;refine⟨((F (w*h)).1,(F (w*h)).2),?_,.inl rfl⟩;simp_all[dV,ltB,br]};simp_all[dV,mJ])
 rw[ho];rcases hq with rfl|⟨hu1,hu2⟩;{simp only[be];rw[mJ];simp only[be];cases gF (F (w*h)).1 (F (w*h)).2<;>rfl};simp_all[mJ]
end
def chkG (t:Tree) (g:Grid):Int :=bif iw t then bif k4 g then bif iD (λ_ s=>geB s t.States) g.Cells 0 then 10 else (match dt t.Hood with
   |some r=>bif gtB (bH .i64 (bC .i64 g.W (bH .i64 2 r)) (bC .i64 g.H (bH .i64 2 r))) 16 then 6 else 0|none=>0)else 2 else 11
theorem checkG_eq {t:Tree} {g:Grid} (hs:Sz t) (hg:g.Cells.length<1099511627776):l7 t g=some (chkG t g):=by
 unfold l7 chkG;rw[treeR_eq hs,gridR_eq hg,hZ g.Cells (λ_ s=>geB s t.States) 10 hg (λi x hx=>by unfold mK;dsimp only;rw[bD,decide_eq_true (cG hx),cond_true,bE,hx,cd (by grind)];grind) (by simp[mK,bD])];cases hok:iw t with
 |false=>rfl|true=>
  cases k4 g with
  |false=>rfl|true=>
   cases iD (λ_ s=>geB s t.States) g.Cells 0 with
   |true=>rfl|false=>obtain⟨r,h1,h2,_⟩:=rad_of (p8 hok);rw[h1,h2];simp only[be,e9,Bool.not_true,cond_true,cond_false,iR]
theorem parErr {t:Tree} {g:Grid} (hs:Sz t) (hg:g.Cells.length<1099511627776) (h:chkG t g≠0):eS t g=some (⟨0,[]⟩,0,chkG t g):=by
 have hcon:bV g.Cells t=some (iD (λ_ s=>geB s t.States) g.Cells 0):=by unfold bV cE;obtain⟨o,ho,hq⟩:=loop_find (b:=bM g.Cells t) g.Cells (λ_ s=>geB s t.States) (by omega) (λi x hx=>by unfold bM iM;dsimp only;rw[bD,decide_eq_true (cG hx),cond_true,bE,hx,cd (by grind)];grind) (by simp[bM,bD]);rw[ho];rcases hq with⟨h1,k,rfl⟩|⟨h1,rfl⟩;{simp_all[geB]};{rw[h1];rfl}
 unfold eS;rw[tree_eq hs,grid_eq hg,hcon];unfold chkG at h⊢;cases hok:iw t with
 |false=>rfl|true=>
  rw[hok] at h;cases hgr:k4 g with
  |false=>rfl|true=>
   rw[hgr] at h;cases ha:iD (λ_ s=>geB s t.States) g.Cells 0 with
   |true=>rfl|false=>rw[ha] at h;obtain⟨r,h1,h2,_⟩:=rad_of (p8 hok);rw[h1] at h⊢;simp only[be,e9,Bool.not_true,cond_true,cond_false] at h⊢;grind
theorem gat_mem {I β:Type} {f:Nat->I->List β} {c:β}:∀{l:List I} {i:Nat},c∈gat f l i->∃j x,x∈l/\c∈f j x
 |[],_,h=>by cases h
 |x::l,i,h=>by rcases List.mem_append.1 h with h|h;{grind};{obtain⟨j,y,h1,h2⟩:=gat_mem h;grind}
def CL (cs:A1):Prop:=∀c∈cs,c.length<=8
theorem CL.app {a b:A1} (h1:CL a) (h2:CL b):CL (a++b):=λc hc=>by rcases List.mem_append.1 hc with h|h;{exact h1 c h};{exact h2 c h}
theorem CL.nil:CL []:=λc h=>by cases h
theorem fix_cl (l:A0) (c:Int):CL (fixS l c):=λd hd=>by obtain⟨j,x,_,h⟩:=gat_mem hd;simp_all
theorem sel_cl {un own:A0} (h:un.length<=3) (v:SV):CL (selS un own v):=λd hd=>by obtain⟨j,x,_,hc⟩:=gat_mem hd;unfold sel1 at hc;grind
theorem ex_cl {n b:Nat} (hb:b<=3) {vs:A0} (h:vs.length=b):CL (exC n b vs):=λd hd=>by unfold exC at hd;obtain⟨k,_,rfl⟩:=List.mem_map.1 hd;rw[agS_len];omega
theorem cells_cl {n b m:Nat} (hb:b<=3):CL (f0 n b m):=λd hd=>by obtain⟨j,v,hv,hc⟩:=gat_mem hd;exact ex_cl hb (cellsV_ok (n:=n) v hv).2 d hc
theorem tree_cl {n b H:Nat} {in_:List SV} {ns:AE} {v:Int} {cs:A1} (W:WT n b H in_ ns) (h:CL cs):∀i,i<=ns.length->CL (cL b H in_ (ns.take i) (v,cs,[])).2.1
 |0,_=>h|i+1,hi=>by
  have ih:=tree_cl (v:=v) W h i (by omega);have hx:ns[i]?=some ns[i]:=zB;rw[tj b H in_ _ hx];generalize ns[i]=x at hx;have hr:=rds_len W hx;generalize cL b H in_ (ns.take i) (v,cs,[])=st at ih;unfold pI;cases tA x with
  |true=>exact ih|false=>refine ih.app λd hd=>?_;obtain⟨s,_,_,hc⟩:=gat_mem hd;exact sel_cl (by rw[agS_len];exact hr) _ d hc
theorem tree_cl' {n b H:Nat} {in_:List SV} {ns:AE} {v:Int} {cs:A1} (W:WT n b H in_ ns) (h:CL cs):CL (cL b H in_ ns (v,cs,[])).2.1:=by have:=tree_cl (v:=v) W h ns.length (Nat.le_refl _);simp_all
theorem end_cl (u:SV) (s:Int):CL (endC u s):=by
 unfold endC;cases isE u.2 with
 |true=>
  cases neB u.1 s with
  |true=>exact λd hd=>by simp_all|false=>exact CL.nil
 |false=>exact fix_cl _ _
theorem par_cl {n b:Nat} {t:Tree} {ns:AE} {g:Grid} {w h r:Nat} (A:GL_ n b t ns g w h r):∀i,i<=w*h->CL (lx b t.Hood.length (inS (-(r:Int)) (-(r:Int)) (w+2*r) (h+2*r) (cV b ((w+2*r)*(h+2*r))) t.Hood) ns w g.Cells ((((w+2*r)*(h+2*r):Nat):Int)*b,f0 n b ((w+2*r)*(h+2*r))) i).2|0,_=>cells_cl A.R.sb.b3|i+1,hi=>by have ih:=par_cl A i (by omega);rw[lx];generalize lx b t.Hood.length (inS (-(r:Int)) (-(r:Int)) (w+2*r) (h+2*r) (cV b ((w+2*r)*(h+2*r))) t.Hood) ns w g.Cells ((((w+2*r)*(h+2*r):Nat):Int)*b,f0 n b ((w+2*r)*(h+2*r))) i=st at ih;exact(tree_cl' (A.wt (by omega)) ih).app (end_cl _ _)
theorem CL.lt {cs:A1} (h:CL cs):∀c∈cs,c.length<1099511627776:=λc hc=>by have:=h c hc;omega
theorem gl_of {t:Tree} {g:Grid} (hc:chkG t g=0):∃n b ns w h r,GL_ n b t ns g w h r/\dt t.Hood=some (r:Int)/\dA t.Hood=some (r:Int)/\k4 g=true/\iD (λ_ s=>geB s t.States) g.Cells 0=false:=by
 unfold chkG at hc;cases hok:iw t with
 |false=>simp_all|true=>
  rw[hok] at hc;cases hgr:k4 g with
  |false=>simp_all|true=>
   rw[hgr] at hc;cases ha:iD (λ_ s=>geB s t.States) g.Cells 0 with
   |true=>simp_all|false=>
    rw[ha] at hc;obtain⟨r,h1,h2,h3,h4⟩:=rad_of (p8 hok);rw[h1] at hc;dsimp only[cond_true,cond_false] at hc;obtain⟨w,h,G⟩:=grid_ok hgr;obtain⟨n,b,ns,R⟩:=rt_of hok;refine⟨n,b,ns,w,h,r,⟨R,G,h3,h4,?_⟩,h1,h2,rfl,rfl⟩;have e1:bC .i64 g.W (bH .i64 2 (r:Int))=((w+2*r:Nat):Int):=by have:=G.w2;rw[G.W,dz (by omega),cY (by omega)];omega
    have e2:bC .i64 g.H (bH .i64 2 (r:Int))=((h+2*r:Nat):Int):=by have:=G.h2;rw[G.H,dz (by omega),cY (by omega)];omega
    have hle:(w+2*r)*(h+2*r)<=260*260:=Nat.mul_le_mul (by have:=G.w2;omega) (by have:=G.h2;omega);have e3:bH .i64 ((w+2*r:Nat):Int) ((h+2*r:Nat):Int)=(((w+2*r)*(h+2*r):Nat):Int):=by grind[dz]
    grind[gtB]
abbrev Val:=An
def sQ (A:Val) (x:Int):Bool:=A x.natAbs==decide (0<x)
def sT (A:Val) (c:A0):Bool:=c.any (sQ A)
def Sat (A:Val) (cs:A1):Prop:=∀c∈cs,sT A c=true
def sr (V:Nat) (c:A0):Prop:=∀x∈c,1<=x.natAbs/\x.natAbs<=V
def Vrs (V:Nat) (l:A0):Prop:=∀x∈l,1<=x/\x<=(V:Int)
theorem Sat.app {A:Val} {a b:A1}:Sat A (a++b)↔Sat A a/\Sat A b :=⟨λh=>⟨λc hc=>h c (List.mem_append_left _ hc),λc hc=>h c (List.mem_append_right _ hc)⟩,λh c hc=>(List.mem_append.1 hc).elim (h.1 c) (h.2 c)⟩
theorem sr.mono {V W:Nat} (h:V<=W) {c:A0} (hc:sr V c):sr W c:=λx hx=>by have:=hc x hx;omega
theorem Vrs.mono {V W:Nat} (h:V<=W) {c:A0} (hc:Vrs V c):Vrs W c:=λx hx=>by have:=hc x hx;omega
theorem Vrs.lits {V:Nat} {c:A0} (hc:Vrs V c):sr V c:=λx hx=>by have:=hc x hx;omega
theorem sat_agree {A B:Val} {V:Nat} {c:A0} (h:sr V c) (hAB:∀u,u<=V->B u=A u):sT B c=sT A c:=by
 unfold sT;induction c with
 |nil=>rfl|cons x c ih=>rw[List.any_cons,List.any_cons,ih λy hy=>h y (by simp[hy])];have:=h x (by simp);simp_all[sQ]
theorem rW (A:Val) (a b:A0):sT A (a++b)=(sT A a||sT A b):=List.any_append
theorem Sat.agree {A B:Val} {V:Nat} {cs:A1} (h:∀c∈cs,sr V c) (hAB:∀u,u<=V->B u=A u):Sat B cs↔Sat A cs :=
 forall_congr' λc=>forall_congr' λhc=>by rw[sat_agree (h c hc) hAB]
def nK (A:Val) (l:A0) (c:Nat):Prop:=∀(j:Nat) x,l[j]?=some x->A x.natAbs=fU c j
theorem bits_small:∀b:Fin 4,∀c d:Fin 8,c.1<2 ^ b.1->d.1<2 ^ b.1->(∀j:Fin 3,j.1<b.1->fU (c.1:Int) j.1=fU (d.1:Int) j.1)->c=d:=by decide
theorem bits_inj {b c d:Nat} (hb:b<=3) (hc:c<2 ^ b) (hd:d<2 ^ b) (h:∀j,j<b->fU (c:Int) j=fU (d:Int) j):c=d:=by have h8:2 ^ b<=2 ^ 3:=Nat.pow_le_pow_right (by omega) hb;have:=bits_small ⟨b,by omega⟩ ⟨c,by omega⟩ ⟨d,by omega⟩ hc hd (λj hj=>h j.1 hj);simp_all
theorem nK.inj {A:Val} {l:A0} {b c d:Nat} (hl:l.length=b) (hb:b<=3) (hc:c<2 ^ b) (hd:d<2 ^ b) (h1:nK A l c) (h2:nK A l d):c=d :=
 bits_inj hb hc hd λj hj=>by have hx:l[j]?=some l[j]:=zB;rw[<- h1 j _ hx,h2 j _ hx]
theorem nK.agree {A B:Val} {V:Nat} {l:A0} {c:Nat} (h:Vrs V l) (hAB:∀u,u<=V->B u=A u) (hb:nK A l c):nK B l c:=λj x hx=>by have:=h x (List.mem_of_getElem? hx);rw[hAB _ (by omega),hb j x hx]
theorem nR {V:Nat} (hV:V<=1000000) {x:Int} (h:1<=x/\x<=(V:Int)):cA .i64 x=-x:=ineg_in (by omega)
theorem si (A:Val) {x:Int} (h:1<=x):sQ A x=A x.natAbs:=by grind[sQ]
theorem rY (A:Val) {x:Int} (h:1<=x):sQ A (-x)=!A x.natAbs:=by grind[sQ]
theorem tw {I β:Type} {f:Nat->I->β} {l:List I} {y:β}:y∈gat (λj x=>[f j x]) l 0↔∃j x,l[j]?=some x/\y=f j x:=by constructor;{intro h;obtain⟨j,hj⟩:=List.mem_iff_getElem?.1 h;rw[gat_get,Nat.zero_add] at hj;grind};{rintro⟨j,x,hx,rfl⟩;refine List.mem_of_getElem? (i:=j) ?_;rw[gat_get,hx,Nat.zero_add];rfl}
theorem nD {I β:Type} {f:Nat->I->List β} {c:β}:∀{l:List I} {i:Nat},c∈gat f l i↔∃j x,l[j]?=some x/\c∈f (i+j) x|[],i=>by simp[gat]|x::l,i=>by rw[gat,List.mem_append,nD (l:=l)];constructor;{rintro (h|⟨j,y,h1,h2⟩);{exact⟨0,x,rfl,h⟩};{exact⟨j+1,y,by simpa using h1,by grind⟩}};grind
theorem ag_sat {A:Val} {V:Nat} (hV:V<=1000000) {l:A0} (hl:Vrs V l) (c:Nat):sT A (agS l c)=false↔nK A l c:=by
 have key:∀(j:Nat) x,l[j]?=some x->sQ A (bif fU c j then cA .i64 x else x)=!(A x.natAbs==fU c j):=λj x hx=>by
  have h:=hl x (List.mem_of_getElem? hx);cases fU c j with
  |true=>rw[cond_true,nR hV h,rY A h.1];grind|false=>rw[cond_false,si A h.1];cases A x.natAbs<;>rfl
 unfold sT agS;rw[List.any_eq_false];constructor;{intro h j x hx;have:=h _ (tw.2 ⟨j,x,hx,rfl⟩);grind};{intro h y hy;obtain⟨j,x,hx,rfl⟩:=tw.1 hy;rw[key j x hx,h j x hx];simp}
theorem ag_lits {V:Nat} (hV:V<=1000000) {l:A0} (hl:Vrs V l) (c:Int):sr V (agS l c):=λy hy=>by
 obtain⟨j,x,hx,rfl⟩:=tw.1 hy;have h:=hl x (List.mem_of_getElem? hx);cases fU c j with
 |true=>rw[cond_true,nR hV h];omega|false=>grind
theorem fix_sat {A:Val} {V:Nat} (hV:V<=1000000) {l:A0} (hl:Vrs V l) (c:Nat):Sat A (fixS l c)↔nK A l c:=by
 have key:∀(j:Nat) x,l[j]?=some x->sT A [bif fU c j then x else cA .i64 x]=(A x.natAbs==fU c j):=λj x hx=>by
  have h:=hl x (List.mem_of_getElem? hx);show (sQ A _||false)=_;rw[Bool.or_false];cases fU c j with
  |true=>(rw[cond_true,si A h.1];cases A x.natAbs<;>rfl)|false=>rw[cond_false,nR hV h,rY A h.1];grind
 unfold Sat fixS;constructor;{intro h j x hx;have:=h _ (tw.2 ⟨j,x,hx,rfl⟩);grind};{intro h y hy;obtain⟨j,x,hx,rfl⟩:=tw.1 hy;rw[key j x hx,h j x hx];simp}
theorem fix_lits {V:Nat} (hV:V<=1000000) {l:A0} (hl:Vrs V l) (c:Int):∀d∈fixS l c,sr V d:=λd hd y hy=>by
 obtain⟨j,x,hx,rfl⟩:=tw.1 hd;have h:=hl x (List.mem_of_getElem? hx);rw[List.mem_singleton.1 hy];cases fU c j with
 |true=>grind|false=>rw[cond_false,nR hV h];omega
def Den (A:Val) (b:Nat) (v:SV) (c:Nat):Prop:=(v.2=[]/\v.1=(c:Int))\/(v.2.length=b/\nK A v.2 c)
theorem Den.agree {A B:Val} {V b:Nat} {v:SV} {c:Nat} (h:Vrs V v.2) (hAB:∀u,u<=V->B u=A u) (hd:Den A b v c):Den B b v c:=by rcases hd with h1|⟨h1,h2⟩;{exact .inl h1};{exact .inr ⟨h1,h2.agree h hAB⟩}
theorem sel_sat {A:Val} {V b:Nat} (hV:V<=1000000) (_hb:1<=b) {un own:A0} {v:SV} {c:Nat} (ho:Vrs V own) (hol:own.length=b) (hv:Vrs V v.2) (h:sT A un=true\/(Den A b v c/\nK A own c)):Sat A (selS un own v):=by
 intro d hd;unfold selS at hd;obtain⟨k,x,hx,hc⟩:=nD.1 hd;rw[Nat.zero_add] at hc;have hk:=cG hx;have hxo:=ho x (List.mem_of_getElem? hx);rcases h with h|⟨h1,h2⟩;{unfold sel1 at hc;cases he:isE v.2 with|true=>simp_all[rW]|false=>rw[he,cond_false] at hc;grind[rW]}
 ·have hA:=h2 k x hx;unfold sel1 at hc;rcases h1 with⟨e1,e2⟩|⟨e1,e2⟩
  ·rw[e1] at hc;dsimp only[isE,cond_true] at hc;rw[List.mem_singleton.1 hc,rW,e2];have:sT A [bif fU c k then x else cA .i64 x]=true:=by
    show (sQ A _||false)=_;rw[Bool.or_false];cases hbt:fU c k with
    |true=>rw[cond_true,si A hxo.1,hA,hbt]|false=>rw[cond_false,nR hV hxo,rY A hxo.1,hA,hbt];rfl
   simp_all
  ·have hy:v.2[k]?=some (v.2.getD k 0):=by simp_all
   have hvy:=hv _ (List.mem_of_getElem? hy);have hB:=e2 k _ hy;have he:isE v.2=false:=by cases hv2:v.2 with|nil=>grind|cons _ _=>rfl
   rw[he,cond_false] at hc;rcases List.mem_cons.1 hc with e|hc;{rw[e,rW];show (_||(sQ A _||(sQ A _||false)))=true;rw[nR hV hxo,rY A hxo.1,si A hvy.1,hA,hB];simp};{rw[List.mem_singleton.1 hc,rW];show (_||(sQ A _||(sQ A _||false)))=true;rw[nR hV hvy,rY A hvy.1,si A hxo.1,hA,hB];simp}
def Det (A:Val) (cs:A1) (u:Nat):Prop:=∃c∈cs,sr u c/\(∃x∈c,x.natAbs=u)/\∀B:Val,(∀k,k<u->B k=A k)->B u=!A u->sT B c=false
theorem Det.app {A:Val} {cs ds:A1} {u:Nat} (h:Det A cs u):Det A (cs++ds) u:=let ⟨c,hc,h'⟩:=h;⟨c,List.mem_append_left _ hc,h'⟩
theorem Det.app' {A:Val} {cs ds:A1} {u:Nat} (h:Det A ds u):Det A (cs++ds) u:=let ⟨c,hc,h'⟩:=h;⟨c,List.mem_append_right _ hc,h'⟩
theorem Det.agree {A A':Val} {cs:A1} {u:Nat} (h:Det A cs u) (hA:∀k,k<=u->A' k=A k):Det A' cs u :=
 let ⟨c,hc,h1,h2,h3⟩:=h
 ⟨c,hc,h1,h2,λB hB hu=>h3 B (λk hk=>by grind) (by simp_all)⟩
theorem sel_det {A:Val} {V b:Nat} (hV:V+3<=1000000) (_hb:1<=b) {un own:A0} {v:SV} {c:Nat} (hun:sr V un) (hol:own.length=b) (hv:Vrs V v.2) (h0:sT A un=false) (h1:Den A b v c) (h2:nK A own c) {k:Nat} {x:Int} (hx:own[k]?=some x) (hxV:(V:Int)<x) (hx3:x<=(V+3:Nat)):Det A (selS un own v) x.natAbs:=by
 have hk:=cG hx;have hA:=h2 k x hx;have hneg:cA .i64 x=-x:=nR hV ⟨by omega,hx3⟩;have hmem:∀d,d∈sel1 un v k x->d∈selS un own v:=λd hd=>nD.2 ⟨k,x,hx,by rwa [Nat.zero_add]⟩;have hun':∀B:Val,(∀j,j<x.natAbs->B j=A j)->sT B un=false:=λB hB=>by grind[sat_agree]
 rcases h1 with⟨e1,e2⟩|⟨e1,e2⟩;{refine⟨un++[bif fU v.1 k then x else cA .i64 x],hmem _ (by grind[sel1,isE]),λy hy=>?_,⟨bif fU v.1 k then x else cA .i64 x,by simp,by grind⟩,λB hB hu=>?_⟩;{rcases List.mem_append.1 hy with hy|hy;{have:=hun y hy;omega};grind};{rw[rW,hun' B hB,e2];show (false||(sQ B _||false))=false;rw[Bool.or_false,Bool.false_or];cases hbt:fU c k with|true=>rw[cond_true,si B (by omega),hu,hA,hbt];rfl|false=>rw[cond_false,hneg,rY B (by omega),hu,hA,hbt];rfl}}
 ·have hy:v.2[k]?=some (v.2.getD k 0):=by simp_all
  have hvy:=hv _ (List.mem_of_getElem? hy);have hAy:=e2 k _ hy;have he:isE v.2=false:=by cases hv2:v.2 with|nil=>grind|cons _ _=>rfl
  have hnegy:cA .i64 (v.2.getD k 0)=-(v.2.getD k 0):=nR (V:=V) (by omega) hvy;cases hbt:fU c k with
  |true=>refine⟨un++[x,cA .i64 (v.2.getD k 0)],hmem _ (by grind[sel1]),λy hy'=>?_,⟨x,by simp,rfl⟩,λB hB hu=>?_⟩;{rcases List.mem_append.1 hy' with hy'|hy';{have:=hun y hy';omega};grind};{rw[rW,hun' B hB];show (false||(sQ B _||(sQ B _||false)))=false;rw[hnegy,si B (by omega),rY B hvy.1,hu,hA,hbt,hB _ (by omega),hAy,hbt];rfl}|false=>refine⟨un++[cA .i64 x,v.2.getD k 0],hmem _ (by grind[sel1]),λy hy'=>?_,⟨cA .i64 x,by simp,by rw[hneg];omega⟩,λB hB hu=>?_⟩;{rcases List.mem_append.1 hy' with hy'|hy';{have:=hun y hy';omega};grind};{rw[rW,hun' B hB];show (false||(sQ B _||(sQ B _||false)))=false;rw[hneg,rY B (by omega),si B hvy.1,hu,hA,hbt,hB _ (by omega),hAy,hbt];rfl}
theorem sel_lits {V:Nat} (hV:V<=1000000) {un own:A0} {v:SV} (hun:sr V un) (ho:Vrs V own) (hv:Vrs V v.2) (hlen:isE v.2=false->v.2.length=own.length):∀d∈selS un own v,sr V d:=λd hd=>by
 obtain⟨k,x,hx,hc⟩:=nD.1 hd;rw[Nat.zero_add] at hc;have hk:=cG hx;have hxo:=ho x (List.mem_of_getElem? hx);have hneg:=nR hV hxo;have add:∀{l:A0},sr V l->sr V (un++l):=λh y hy=>(List.mem_append.1 hy).elim (hun y) (h y);unfold sel1 at hc;cases he:isE v.2 with
 |true=>rw[he,cond_true] at hc;rw[List.mem_singleton.1 hc];refine add λy hy=>?_;grind|false=>
  have hy:v.2[k]?=some (v.2.getD k 0):=by simp_all
  have hvy:=hv _ (List.mem_of_getElem? hy);have hnegy:=nR hV hvy;rw[he,cond_false] at hc;rcases List.mem_cons.1 hc with e|hc;{rw[e];refine add λy hy=>?_;grind};{rw[List.mem_singleton.1 hc];refine add λy hy=>?_;grind}
theorem ex_sat {A:Val} {V n b c:Nat} (hV:V<=1000000) (hb:b<=3) {vs:A0} (hvs:Vrs V vs) (hl:vs.length=b) (hc:c<n) (hn:n<=2 ^ b) (h:nK A vs c):Sat A (exC n b vs):=by
 intro d hd;unfold exC at hd;obtain⟨k,hk,rfl⟩:=List.mem_map.1 hd;rw[List.mem_range] at hk;rw[show ((n:Int)+(k:Nat))=((n+k:Nat):Int) by omega];cases hs:sT A (agS vs ((n+k:Nat):Int))with
 |true=>rfl|false=>have:=nK.inj hl hb (by omega) (by omega) h ((ag_sat hV hvs _).1 hs);omega
theorem ex_lits {V n b:Nat} (hV:V<=1000000) {vs:A0} (hvs:Vrs V vs):∀d∈exC n b vs,sr V d:=λd hd=>by unfold exC at hd;obtain⟨k,hk,rfl⟩:=List.mem_map.1 hd;exact ag_lits hV hvs _
theorem fresh_get (v:Int) (b:Nat) {k:Nat} (hk:k<b):(cP v b)[k]?=some (v+1+k):=by unfold cP;simp_all
theorem oB {V b:Nat}:Vrs (V+b) (cP (V:Int) b):=λx hx=>by unfold cP at hx;grind
structure TSem (n b H:Nat) (R:Tree) (L:A0) (A:Val) (V:Nat) (cs0:A1) (i:Nat) (st:FS) (V':Nat) (A':Val) (ds:A1):Prop where
 v:st.1=(V':Int)
 le:V<=V'
 agr:∀u,u<=V->A' u=A u
 cs:st.2.1=cs0++ds
 sat:Sat A' ds
 lits:∀d∈ds,sr V' d
 det:∀u,V<u->u<=V'->Det A' ds u
 len:st.2.2.length=i
 val:∀(j:Nat) x,j<i->R.Nodes[j]?=some x->∃c:Nat,c<n/\lz R (L.drop (H-x.Level.toNat)) (j:Nat)=some (c:Int)/\Den A' b (st.2.2.getD j (0,[])) c
 vrs:∀v∈st.2.2,Vrs V' v.2
def Ins (n b V:Nat) (A:Val) (in_:List SV) (L:A0):Prop:=∀(k:Nat) v,in_[k]?=some v->∃c:Nat,c<n/\L[k]?=some (c:Int)/\Den A b v c/\Vrs V v.2
theorem drop_get {I:Type} {l:List I} {k:Nat} {s:I} (h:l[k]?=some s):l.drop k=s::l.drop (k+1):=by obtain⟨h1,rfl⟩:=List.getElem?_eq_some_iff.1 h;simp
section
variable {n b H:Nat} {R:Tree} {in_:List SV} {L:A0} {A:Val} {V:Nat} {cs0:A1} {i:Nat} {st:FS} {V':Nat} {A':Val} {ds:A1} {x:Node}
theorem kid_vrs {of_:List SV} (h:∀v∈of_,Vrs V' v.2) (s:Nat):Vrs V' (lU of_ x s).2:=by unfold lU;split;{exact λy hy=>by cases hy};{rw[List.getD_eq_getElem?_getD];cases hg:of_[(x.Next.getD s 0).toNat]? with|none=>(exact λy hy=>by cases hy)|some v=>grind}
theorem TSem.kid (W:WT n b H in_ R.Nodes) (T:TSem n b H R L A V cs0 i st V' A' ds) (hx:R.Nodes[i]?=some x) {s0:Nat} (hs:s0<n) (hL:L[H-x.Level.toNat]?=some (s0:Int)) (hLl:L.length=H) :∃c:Nat,c<n/\lz R (L.drop (H-x.Level.toNat)) (i:Nat)=some (c:Int)/\Den A' b (lU st.2.2 x s0) c:=by
 obtain⟨w1,w2,w3⟩:=W.inb hx;have hl:=W.good.len i x hx;have hk:x.Next[s0]?=some (x.Next.getD s0 0):=by simp_all
 have hm:=List.mem_of_getElem? hk;rw[drop_get hL];have hw:lz R ((s0:Int)::L.drop (H-x.Level.toNat+1)) (i:Nat)=lz R (L.drop (H-x.Level.toNat+1)) (x.Next.getD s0 0):=by simp_all[lz,bE]
 rw[hw];unfold lU;by_cases h1:x.Level=1;{rw[if_pos h1];obtain⟨a,c⟩:=W.good.st i x hx h1 _ hm;refine⟨(x.Next.getD s0 0).toNat,by omega,?_,.inl ⟨rfl,by dsimp only;omega⟩⟩;grind[List.drop_eq_nil_of_le,lz]};{rw[if_neg h1];obtain⟨a,c,y,hy,hyl⟩:=W.good.kid i x hx (by omega) _ hm;obtain⟨q,hq,hwq,hd⟩:=T.val (x.Next.getD s0 0).toNat y (by omega) hy;grind}
theorem uni_kid {of_:List SV} (W:WT n b H in_ R.Nodes) (hx:R.Nodes[i]?=some x) (hu:tA x=true) {s:Nat} (hs:s<n):lU of_ x 0=lU of_ x s:=by
 have hl:=W.good.len i x hx;have hk:x.Next[s]?=some (x.Next.getD s 0):=by simp_all
 have:=List.all_eq_true.1 hu _ (List.mem_of_getElem? hk);simp_all[eqB,lU]
theorem getD_app {I:Type} {l:List I} {a d:I} {j:Nat} (h:j<l.length):(l++[a]).getD j d=l.getD j d:=by grind
theorem getD_last {I:Type} {l:List I} {a d:I}:(l++[a]).getD l.length d=a:=by simp
theorem TSem.step (W:WT n b H in_ R.Nodes) (hpw:n<=2 ^ b) (T:TSem n b H R L A V cs0 i st V' A' ds) {n0:Int} {c0:Nat} (Ia:TI n b i n0 c0 st) (hx:R.Nodes[i]?=some x) (hin:Ins n b V A in_ L) (hLl:L.length=H) (hV:V'+3<=1000000) :∃V'' A'' ds',TSem n b H R L A V cs0 (i+1) (pI b H in_ st x) V'' A'' ds':=by
 obtain⟨w1,w2,w3⟩:=W.inb hx;have n2:=W.n2;have b1:=W.b1;have b3:=W.b3;have hlt:H-x.Level.toNat<in_.length:=by rw[W.inl];omega
 obtain⟨s0,hs,hL,hD,hvr⟩:=hin _ _ (List.getElem?_eq_getElem hlt);obtain⟨c,hc,hwk,hdk⟩:=T.kid W hx hs hL hLl;unfold pI;cases hu:tA x with
 |true=>simp only[cond_true];refine⟨V',A',ds,T.v,T.le,T.agr,T.cs,T.sat,T.lits,T.det,by simp[T.len],λj y hj hy=>?_,λv hv=>?_⟩;{rcases Nat.lt_succ_iff_lt_or_eq.1 hj with hj|rfl;{rw[getD_app (by rw[T.len];exact hj)];exact T.val j y hj hy};{rw[hx] at hy;cases hy;have:=getD_last (l:=st.2.2) (a:=lU st.2.2 x 0) (d:=(0,[]));rw[T.len] at this;grind[uni_kid]}};{rcases List.mem_append.1 hv with hv|hv;{exact T.vrs v hv};{rw[List.mem_singleton.1 hv];exact kid_vrs T.vrs 0}}|false=>
  simp only[cond_false];have hne:=W.rds x (List.mem_of_getElem? hx) hu;have hrd:rdS H in_ x=(in_[H-x.Level.toNat]).2:=by unfold rdS;simp_all
  rw[hrd] at hne⊢;generalize in_[H-x.Level.toNat]=rv_ at hne hD hvr;rcases hD with⟨e,_⟩|⟨hrl,hrb⟩;{exact absurd e hne};have hvr':Vrs V' rv_.2:=hvr.mono T.le;have hA':∃A'':Val,(∀u,u<=V'->A'' u=A' u)/\∀k,k<b->A'' (V'+1+k)=fU (c:Int) k :=⟨λu=>if V'<u then fU (c:Int) (u-V'-1)else A' u,λu hu=>if_neg (by omega),λk _=>by grind⟩
  obtain⟨A'',hag,hbt⟩:=hA';have hown:nK A'' (cP (V':Int) b) c:=λk y hy=>by grind[dE,fresh_get]
  have hrb'':nK A'' rv_.2 s0:=(hrb.agree hvr T.agr).agree hvr' hag;have hdk'':Den A'' b (lU st.2.2 x s0) c:=hdk.agree (kid_vrs T.vrs s0) hag;have hunl:∀s:Nat,sr V' (agS rv_.2 (s:Int)):=λs=>ag_lits (by omega) hvr' _;have hl:=W.good.len i x hx;have hag':∀s:Nat,s<n->s≠s0->sT A'' (agS rv_.2 (s:Int))=true:=λs hsn hne=>by
   cases hq:sT A'' (agS rv_.2 (s:Int))with
   |true=>rfl|false=>exact absurd (nK.inj hrl b3 (by omega) (by omega) ((ag_sat (by omega) hvr' s).1 hq) hrb'') hne
  have hk0:x.Next[s0]?=some (x.Next.getD s0 0):=by simp_all
  rw[T.v];refine⟨V'+b,A'',ds++gat (λs _=>selS (agS rv_.2 ((s:Nat):Int)) (cP (V':Int) b) (lU st.2.2 x s)) x.Next 0,by rfl,by have:=T.le;omega,λu hu=>by rw[hag u (by have:=T.le;omega),T.agr u hu],?_,?_,?_,?_,by simp[T.len],λj y hj hy=>?_,λv hv=>?_⟩;{dsimp only;rw[T.cs,List.append_assoc]}
  ·refine Sat.app.2 ⟨(Sat.agree T.lits hag).2 T.sat,λd hd=>?_⟩;obtain⟨s,y,hy,hd⟩:=nD.1 hd;rw[Nat.zero_add] at hd;have hsn:s<n:=by grind
   refine sel_sat (V:=V'+b) (by omega) b1 (c:=c) oB (dE _ _) ((kid_vrs T.vrs s).mono (by omega)) ?_ d hd;grind
  ·intro d hd;rcases List.mem_append.1 hd with hd|hd;{exact(T.lits d hd).mono (by omega)}
   ·obtain⟨s,y,hy,hd⟩:=nD.1 hd;rw[Nat.zero_add] at hd;have hsn:s<n:=by grind
    exact sel_lits (by omega) ((hunl s).mono (by omega)) oB ((kid_vrs T.vrs s).mono (by omega)) (λhe=>by rw[dE];exact vok_len (kid_ok W Ia hx hsn) he) d hd
  ·intro u hu1 hu2;by_cases h:u<=V';{exact((T.det u hu1 h).agree λk hk=>hag k (by omega)).app}
   ·refine Det.app' ?_;have hk:u-V'-1<b:=by omega
    have hg:=fresh_get (V':Int) b hk;obtain⟨d,hd,h1,h2,h3⟩:=sel_det (V:=V') (by omega) b1 (hunl s0) (dE _ _) (kid_vrs T.vrs s0) (c:=c) ((ag_sat (by omega) hvr' s0).2 hrb'') hdk'' hown hg (by omega) (by omega);rw[show ((V':Int)+1+(u-V'-1:Nat)).natAbs=u by omega] at h1 h2 h3;exact⟨d,nD.2 ⟨s0,_,hk0,by rwa [Nat.zero_add]⟩,h1,h2,h3⟩
  ·rcases Nat.lt_succ_iff_lt_or_eq.1 hj with hj|rfl
   ·rw[getD_app (by rw[T.len];exact hj)];obtain⟨q,h1,h2,h3⟩:=T.val j y hj hy;have hv:Vrs V' (st.2.2.getD j (0,[])).2:=by rw[List.getD_eq_getElem?_getD,List.getElem?_eq_getElem (by rw[T.len];exact hj)];exact T.vrs _ (List.getElem_mem _)
    exact⟨q,h1,h2,h3.agree hv hag⟩
   ·rw[hx] at hy;cases hy;have:=getD_last (l:=st.2.2) (a:=((0:Int),cP (V':Int) b)) (d:=(0,[]));rw[T.len] at this;rw[this];exact⟨c,hc,hwk,.inr ⟨dE _ _,hown⟩⟩
  ·rcases List.mem_append.1 hv with hv|hv;{exact(T.vrs v hv).mono (by omega)};{rw[List.mem_singleton.1 hv];exact oB}
theorem tsem_at (W:WT n b H in_ R.Nodes) (hpw:n<=2 ^ b) (hin:Ins n b V A in_ L) (hLl:L.length=H) (hV:V<=900000):∀i,i<=R.Nodes.length->∃V' A' ds,TSem n b H R L A V cs0 i (cL b H in_ (R.Nodes.take i) ((V:Int),cs0,[])) V' A' ds|0,_=>⟨V,A,[],rfl,Nat.le_refl _,λ_ _=>rfl,by simp[cL],(λ_ h=>by cases h),(λ_ h=>by cases h),λu h1 h2=>by omega,rfl,λj x h=>by omega,(λv h=>by cases h)⟩|i+1,hi=>by obtain⟨V',A',ds,T⟩:=tsem_at W hpw hin hLl hV i (by omega);have Ia:=TI.at_ W (TI.init (n:=n) (b:=b) (n0:=(V:Int)) (cs:=cs0)) i (by omega);have hx:R.Nodes[i]?=some R.Nodes[i]:=zB;rw[tj b H in_ _ hx];have h1:=Ia.hi;have h2:=T.v;have h3:=W.len;exact T.step W hpw Ia hx hin hLl (by omega)
theorem tree_sem (W:WT n b H in_ R.Nodes) (hpw:n<=2 ^ b) (hin:Ins n b V A in_ L) (hLl:L.length=H) (hV:V<=900000) (hroot:∃x,R.Nodes[R.Nodes.length-1]?=some x/\x.Level=(H:Int)) (cs0:A1) :∃(V':Nat) (A':Val) (ds:A1) (c:Nat),(cL b H in_ R.Nodes ((V:Int),cs0,[])).1=(V':Int)/\V<=V'/\(∀u,u<=V->A' u=A u)/\(cL b H in_ R.Nodes ((V:Int),cs0,[])).2.1=cs0++ds/\Sat A' ds/\(∀d∈ds,sr V' d)/\(∀u,V<u->u<=V'->Det A' ds u) /\
   c<n/\lz R L ((R.Nodes.length-1:Nat):Int)=some (c:Int)/\Den A' b ((cL b H in_ R.Nodes ((V:Int),cs0,[])).2.2.getLastD (0,[])) c/\Vrs V' ((cL b H in_ R.Nodes ((V:Int),cs0,[])).2.2.getLastD (0,[])).2:=by
 obtain⟨V',A',ds,T⟩:=tsem_at (cs0:=cs0) W hpw hin hLl hV R.Nodes.length (Nat.le_refl _);rw[List.take_length] at T;obtain⟨x,hx,hxl⟩:=hroot;have hne:=W.ne;obtain⟨c,h1,h2,h3⟩:=T.val _ x (by omega) hx;rw[hxl,Int.toNat_natCast,Nat.sub_self,List.drop_zero] at h2;have hlen:=T.len;have hvr:=T.vrs;generalize cL b H in_ R.Nodes ((V:Int),cs0,[])=st at T h3 hlen hvr;have hlast:st.2.2.getLastD (0,[])=st.2.2.getD (R.Nodes.length-1) (0,[]):=by grind
 rw[hlast];refine⟨V',A',ds,c,T.v,T.le,T.agr,T.cs,T.sat,T.lits,T.det,h1,h2,h3,?_⟩;grind
end
theorem rep_walk {n:Nat} {t t':Tree}:∀{m:Nat} {k k':Int} {u:DD m} {L:A0},Rep t.Nodes m k u->Rep t'.Nodes m k' u->Reg n m u->L.length=m->(∀s∈L,0<=s/\s<(n:Int))->lz t L k=lz t' L k'
 |0,k,k',u,L,h,h',_,hl,_=>by
  obtain rfl:L=[]:=List.eq_nil_of_length_eq_zero hl;exact congrArg some ((show k=u from h).trans (show k'=u from h').symm)
 |m+1,k,k',u,[],_,_,_,hl,_=>by simp at hl|m+1,k,k',u,s::L,⟨x,h1,_,h3,h4⟩,⟨x',h1',_,h3',h4'⟩,hr,hl,hs=>by obtain⟨s0,s1⟩:=hs s (by simp);have hn:=hr.1;have hx:x.Next[s.toNat]?=some (x.Next[s.toNat]'(by omega)):=List.getElem?_eq_getElem _;have hx':x'.Next[s.toNat]?=some (x'.Next[s.toNat]'(by omega)):=List.getElem?_eq_getElem _;have hu:u.kids[s.toNat]?=some (u.kids[s.toNat]'(by omega)):=List.getElem?_eq_getElem _;rw[lz,lz,h1,h1'];simp only[be];rw[fE _ s0,fE _ s0,hx,hx'];exact rep_walk (h4 _ _ _ hx hu) (h4' _ _ _ hx' hu) (hr.2 _ (List.getElem_mem _)) (by simpa using hl) λy hy=>hs y (by simp[hy])
structure RW (n b:Nat) (t:Tree) (ns:AE):Prop extends RT n b t ns where
 walk:∀L:A0,L.length=t.Hood.length->(∀s∈L,0<=s/\s<(n:Int))->lz ⟨t.States,t.Hood,ns⟩ L ((ns.length-1:Nat):Int)=lz t L (bZ .i64 (br t.Nodes) 1)
theorem rw_of {t:Tree} (hok:iw t=true):∃n b ns,RW n b t ns:=by obtain⟨n,h⟩:=ok_tree hok;obtain⟨b,B⟩:=sb_of h.n2 h.n8;obtain⟨L,i,u,hi,hL,hr,hg⟩:=h.rep;obtain⟨h1,h2⟩:=reduce_is hok h hi hL hr;obtain⟨hT,j,hj,hj'⟩:=h.red hL hr;refine⟨n,b,_,⟨B,h.st,hok,h,hT,h1,h2⟩,λl hl hs=>?_⟩;have hn:=h.nodes;rw[show br t.Nodes=((i+1:Nat):Int) by unfold br;omega,dn_nat (by omega),show (ser (post (L+1) u [])).length-1=j by omega];grind[rep_walk]
section
variable {n b:Nat} {t:Tree} {ns:AE} {g:Grid} {w h r:Nat}
def seenL (t:Tree) (w r:Nat) (cs:Aj) (i:Nat):A0:=t.Hood.map λd=>((cs ((((i/w:Nat):Int)+d.Y+r).toNat*(w+2*r)+(((i%w:Nat):Int)+d.X+r).toNat):Nat):Int)
theorem cells_get {m k:Nat} (hk:k<m):(cV b m)[k]?=some ((0:Int),cP ((k:Int)*b) b):=by unfold cV;simp_all
theorem par_ins (A:GL_ n b t ns g w h r) {B:Val} {V:Nat} {cs:Aj} (hcs:∀k,k<(w+2*r)*(h+2*r)->cs k<n/\nK B (cP ((k:Int)*b) b) (cs k)) (hV:(w+2*r)*(h+2*r)*b<=V) {i:Nat} (hi:i<w*h) :
  Ins n b V B (inS (-(r:Int)) (-(r:Int)) (w+2*r) (h+2*r) (cV b ((w+2*r)*(h+2*r))) t.Hood (i%w:Nat) (i/w:Nat)) (seenL t w r cs i):=by
 intro k v hv;rw[A.ins hi,List.getElem?_map] at hv;cases hd:t.Hood[k]? with
 |none=>simp_all|some d=>rw[hd] at hv;simp only[Option.map_some,Option.some.injEq] at hv;obtain⟨h1,_,_⟩:=A.idx hi (List.mem_of_getElem? hd);generalize hq:(((i/w:Nat):Int)+d.Y+r).toNat*(w+2*r)+(((i%w:Nat):Int)+d.X+r).toNat=q at hv h1;obtain⟨h2,h3⟩:=hcs q h1;rw[List.getD_eq_getElem?_getD,cells_get h1] at hv;simp only[Option.getD_some] at hv;subst hv;refine⟨cs q,h2,?_,.inr ⟨dE _ _,h3⟩,?_⟩;{unfold seenL;simp_all};{rw[show ((q:Int)*b)=((q*b:Nat):Int) by rfl];refine oB.mono ?_;have:=Nat.mul_le_mul_right b (show q+1<=_ from h1);grind}
theorem cells_sat (A:GL_ n b t ns g w h r) {B:Val} {cs:Aj} (hcs:∀k,k<(w+2*r)*(h+2*r)->cs k<n/\nK B (cP ((k:Int)*b) b) (cs k)) :
  Sat B (f0 n b ((w+2*r)*(h+2*r)))/\∀d∈f0 n b ((w+2*r)*(h+2*r)),sr ((w+2*r)*(h+2*r)*b) d:=by
 have hb3:=A.R.sb.b3;have hsz:=A.sz;have hV:(w+2*r)*(h+2*r)*b<=16*3:=Nat.mul_le_mul hsz hb3;have key:∀d∈f0 n b ((w+2*r)*(h+2*r)),∃k,k<(w+2*r)*(h+2*r)/\d∈exC n b (cP ((k:Int)*b) b):=λd hd=>by unfold f0 at hd;grind[nD,k6,cells_get]
 have hvr:∀k,k<(w+2*r)*(h+2*r)->Vrs ((w+2*r)*(h+2*r)*b) (cP ((k:Int)*b) b):=λk hk=>by rw[show ((k:Int)*b)=((k*b:Nat):Int) by rfl];refine oB.mono ?_;have:=Nat.mul_le_mul_right b (show k+1<=_ from hk);grind
 constructor;{intro d hd;obtain⟨k,hk,hd⟩:=key d hd;obtain⟨h1,h2⟩:=hcs k hk;exact ex_sat (by omega) hb3 (hvr k hk) (dE _ _) h1 A.R.sb.pw h2 d hd};grind[ex_lits]
structure PSem (n b:Nat) (t:Tree) (ns:AE) (g:Grid) (w h r:Nat) (B:Val) (cs:Aj) (i:Nat) (st:Int×A1) (V':Nat) (A':Val):Prop where
 v:st.1=(V':Int)
 le:(w+2*r)*(h+2*r)*b<=V'
 agr:∀u,u<=(w+2*r)*(h+2*r)*b->A' u=B u
 lits:∀d∈st.2,sr V' d
 det:∀u,(w+2*r)*(h+2*r)*b<u->u<=V'->Det A' st.2 u
 sat:Sat A' st.2↔∀j,j<i->lz ⟨t.States,t.Hood,ns⟩ (seenL t w r cs j) ((ns.length-1:Nat):Int)=some (g.Cells.getD j 0)
theorem par_sem (A:GL_ n b t ns g w h r) {B:Val} {cs:Aj} (hcs:∀k,k<(w+2*r)*(h+2*r)->cs k<n/\nK B (cP ((k:Int)*b) b) (cs k)) (hg:∀s∈g.Cells,s<(n:Int)):∀i,i<=w*h->∃V' A',
  PSem n b t ns g w h r B cs i (lx b t.Hood.length (inS (-(r:Int)) (-(r:Int)) (w+2*r) (h+2*r) (cV b ((w+2*r)*(h+2*r))) t.Hood) ns w g.Cells ((((w+2*r)*(h+2*r):Nat):Int)*b,f0 n b ((w+2*r)*(h+2*r))) i) V' A'
 |0,_=>by
  obtain⟨h1,h2⟩:=cells_sat A hcs;exact⟨(w+2*r)*(h+2*r)*b,B,(Int.natCast_mul _ _).symm,Nat.le_refl _,λ_ _=>rfl,h2,λu h1 h2=>by omega,⟨λ_ j hj=>by omega,λ_=>h1⟩⟩
 |i+1,hi=>by
  obtain⟨V',A',P⟩:=par_sem A hcs hg i (by omega);have hbd:=par_bound A i (by omega);have W:=A.wt (i:=i) (by omega);have hsz:=A.sz;have b3:=A.R.sb.b3;have b1:=A.R.sb.b1;have hV:(w+2*r)*(h+2*r)*b<=16*3:=Nat.mul_le_mul hsz b3;have hin:=par_ins A (B:=A') (V:=V') (cs:=cs) (λk hk=>⟨(hcs k hk).1,by refine(hcs k hk).2.agree (V:=(w+2*r)*(h+2*r)*b) ?_ P.agr;rw[show ((k:Int)*b)=((k*b:Nat):Int) by rfl];refine oB.mono ?_;have:=Nat.mul_le_mul_right b (show k+1<=_ from hk);grind⟩) P.le (i:=i) (by omega);dsimp only at hbd;rw[lx];have hcell:g.Cells[i]?=some (g.Cells.getD i 0):=by rw[List.getD_eq_getElem?_getD,List.getElem?_eq_getElem (by have:=A.G.len;omega)];rfl
  have hc8:=A.G.cell _ (List.mem_of_getElem? hcell);have hcn:=hg _ (List.mem_of_getElem? hcell);generalize lx b t.Hood.length (inS (-(r:Int)) (-(r:Int)) (w+2*r) (h+2*r) (cV b ((w+2*r)*(h+2*r))) t.Hood) ns w g.Cells ((((w+2*r)*(h+2*r):Nat):Int)*b,f0 n b ((w+2*r)*(h+2*r))) i=st at hbd P;obtain⟨v,cs0⟩:=st;obtain⟨p1,p2,p3,p4,p5,p6⟩:=P;dsimp only at p1 p4 p5 p6 hbd;subst p1;obtain⟨j0,x,e1,e2,e3⟩:=A.R.red.root;have hiw:w*h<=16:=A.w16.2.2;obtain⟨V'',A'',ds,c,q1,q2,q3,q4,q5,q6,q7,q8,q9,q10,q11⟩:=tree_sem (R:=⟨t.States,t.Hood,ns⟩) W A.R.sb.pw hin (by unfold seenL;simp) (by omega) ⟨x,by grind,e3⟩ cs0;have Ia:=TI.at_ W (TI.init (n:=n) (b:=b) (n0:=(V':Int)) (cs:=cs0)) _ (Nat.le_refl _);rw[List.take_length] at Ia;have I2:=Ia.hi;have wl:=W.len;have hVV:V''<=1000000:=by grind
  have hlo:=last_ok W (v:=(V':Int)) (cs:=cs0);unfold parC;dsimp only at q1 q4 q9 q10 q11 hlo⊢;rw[q4];generalize (cL b t.Hood.length (inS (-(r:Int)) (-(r:Int)) (w+2*r) (h+2*r) (cV b ((w+2*r)*(h+2*r))) t.Hood (i%w:Nat) (i/w:Nat)) ns ((V':Int),cs0,[])).2.2.getLastD (0,[])=u at q10 q11 hlo;obtain⟨s,hs⟩:∃s:Nat,g.Cells.getD i 0=(s:Int):=⟨(g.Cells.getD i 0).toNat,by omega⟩
  rw[hs] at hcn;have hend:(Sat A'' (endC u (g.Cells.getD i 0))↔c=s)/\∀d∈endC u (g.Cells.getD i 0),sr V'' d:=by
   rw[hs];unfold endC;rcases q10 with⟨e,e'⟩|⟨e,e'⟩;{rw[e,e'];dsimp only[isE,cond_true];by_cases hcs':c=s;{subst hcs';rw[show neB (c:Int) (c:Int)=false from by simp[neB]];exact⟨⟨(λ_=>rfl),(λ_ d hd=>by cases hd)⟩,(λd hd=>by cases hd)⟩};{rw[show neB (c:Int) (s:Int)=true from by simp[neB];omega];exact⟨⟨(λhh=>by have:=hh [] (by simp);cases this),(λhh=>absurd hh hcs')⟩,(λd hd y hy=>by grind)⟩}}
   ·have he:isE u.2=false:=by cases hv2:u.2 with|nil=>grind|cons _ _=>rfl
    rw[he,cond_false];have hpw:=A.R.sb.pw;refine⟨(fix_sat hVV q11 s).trans ⟨λhh=>nK.inj e b3 (by omega) (by omega) e' hh,λhh=>hh ▸ e'⟩,fix_lits hVV q11 _⟩
  refine⟨V'',A'',q1,by omega,λk hk=>by grind,λd hd=>?_,λk k1 k2=>?_,?_⟩;{rcases List.mem_append.1 hd with hd|hd;{rcases List.mem_append.1 hd with hd|hd;{exact(p4 d hd).mono q2};{exact q6 d hd}};grind};{by_cases hk:k<=V';{exact(((p5 k k1 hk).agree λj hj=>q3 j (by omega)).app).app};{exact(Det.app' (q7 k (by omega) k2)).app}};{dsimp only;rw[Sat.app,Sat.app,Sat.agree p4 q3,p6,hend.1];constructor;{grind};{intro hh;refine⟨⟨λj hj=>hh j (by omega),q5⟩,?_⟩;grind}}
end
