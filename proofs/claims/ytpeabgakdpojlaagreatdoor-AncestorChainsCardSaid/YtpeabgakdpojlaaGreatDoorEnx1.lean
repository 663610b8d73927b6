/- Lemmas for the law. -/
import Derived.Test.YtpeabgakdpojlaaGreatDoorPsx1
import Derived.KernelRfl
namespace Go.Proofs.YtpeabgakdpojlaaGreatDoor
open Go.AM Go.Proofs
theorem mgetL_set (k:Int) (v:A0) (x:Int):∀m:A2,gx (ga m k v) x=if x=k then some v else gx m x|[]=>by simp only[ga,gx];grind|y::m=>by have ih:=mgetL_set k v x m;simp only[ga];by_cases h:y.1=k;{rw[if_pos h];simp only[gx,h];grind};{rw[if_neg h];grind[gx]}
theorem tB (m:A2) (k:Int) (v:A0) (x:Int):eG (ga m k v) x []=if x=k then v else eG m x []:=by grind[eG,mgetL_set]
theorem mhasB_set (m:A2) (k:Int) (v:A0) (x:Int):dh (ga m k v) x=(decide (x=k)||dh m x):=by grind[dh,mgetL_set]
theorem mgetL_app (k:Int) (x:Int):∀m:A2,gx (m++[(k,[])]) x=(gx m x).or (if x=k then some [] else none)|[]=>by simp only[List.nil_append,gx,Option.none_or];grind|y::m=>by have ih:=mgetL_app k x m;grind[gx]
theorem mgetD_mt (m:A2) (k x:Int):eG (js m k) x []=eG m x []:=by unfold js;cases dh m k;{rw[cond_false];grind[eG,mgetL_app]};{rfl}
theorem mhasB_mt (m:A2) (k x:Int) (h:dh m x=true\/x=k):dh (js m k) x=true:=by rcases h with h|rfl;{unfold js;cases dh m k;{simp_all[dh,mgetL_app]};{exact h}};simp
theorem nodup_le:∀(N:Nat) (l:A5),l.Nodup->(∀x∈l,1<=x/\x<=N)->l.length<=N
 |0,[],_,_=>Nat.le_refl _|0,x::_,_,h=>by have:=h x (by simp);omega|N+1,l,hn,h=>by
  have h1:=nodup_le N (l.erase (N+1)) (hn.erase _) λx hx=>by grind
  grind
def iY (N:Nat) (x:Int):Prop:=x≠0/\x.natAbs<=N
theorem iY.neg {N:Nat} {x:Int} (h:iY N x):iY N (-x):=⟨by have:=h.1;omega,by have:=h.2;omega⟩
structure TrO (N:Nat) (T:A0):Prop where
 ok:∀x∈T,iY N x
 nd:(T.map Int.natAbs).Nodup
def lv (T:A0) (x:Int):Int:=if x∈T then 1 else if -x∈T then -1 else 0
theorem TrO.len {N:Nat} {T:A0} (h:TrO N T):T.length<=N:=by
 have:=nodup_le N _ h.nd λx hx=>by obtain⟨y,hy,rfl⟩:=List.mem_map.1 hx;have:=h.ok y hy;have:=this.1;have:=(h.ok y hy).2;omega
 simpa using this
theorem TrO.cons {N:Nat} {T:A0} (h:TrO N T) {x:Int} (hx:x∈T):-x ∉ T:=λh2=>by
 obtain⟨i,hi⟩:=List.getElem?_of_mem hx;obtain⟨j,hj⟩:=List.getElem?_of_mem h2;have h0:=(h.ok x hx).1;have hij:i=j:=by obtain⟨hi',ei⟩:=List.getElem?_eq_some_iff.1 hi;obtain⟨hj',ej⟩:=List.getElem?_eq_some_iff.1 hj;have:=List.pairwise_iff_getElem.1 h.nd;grind
 grind
theorem TrO.push {N:Nat} {T:A0} (h:TrO N T) {x:Int} (hx:iY N x) (h1:x ∉ T) (h2:-x ∉ T):TrO N (T++[x]):=by refine⟨λy hy=>?_,?_⟩;{rcases List.mem_append.1 hy with hy|hy;{exact h.ok y hy};simp_all};{rw[List.map_append,List.nodup_append];refine⟨h.nd,by simp,λa ha b hb=>?_⟩;grind}
theorem TrO.take {N:Nat} {T:A0} (h:TrO N T) (n:Nat):TrO N (T.take n) :=⟨λx hx=>h.ok x (List.mem_of_mem_take hx),by rw[List.map_take];exact h.nd.sublist (List.take_sublist _ _)⟩
structure VT (N:Nat) (vals T:A0):Prop where
 len:vals.length=N+1
 big:N<=65536
 tr:TrO N T
 val:∀v,1<=v->v<=N->vals[v]?=some (lv T (v:Int))
theorem lv_neg {N:Nat} {T:A0} (h:TrO N T) {x:Int} (_hx:iY N x):lv T (-x)=-lv T x:=by unfold lv;rw[Int.neg_neg];by_cases h1:x∈T;{rw[if_pos h1,if_neg (h.cons h1),if_pos h1]};grind
theorem lv_cases (T:A0) (x:Int):lv T x=1\/lv T x=-1\/lv T x=0:=by unfold lv;omega
theorem lv_one {T:A0} {x:Int}:lv T x=1↔x∈T:=by grind[lv]
theorem lv_no {N:Nat} {T:A0} (h:TrO N T) {x:Int}:lv T x=-1↔-x∈T:=by unfold lv;by_cases h1:x∈T;{simp[h1,h.cons h1]};simp_all
theorem pR {T:A0} {x:Int}:lv T x=0↔x ∉ T/\-x ∉ T:=by grind[lv]
theorem tn {N:Nat} (hN:N<=65536) {x:Int} (hx:iY N x):cA .i64 x=-x:=by unfold cA;rw[i64_in (by have:=hx.2;omega)];omega
theorem of_eq {N:Nat} {vals T:A0} (h:VT N vals T) (tr:A0) (done:Int) (ds:AI) (bad:Bool) {x:Int} (hx:iY N x) :
  f9 vals tr done ds bad x=some (lv T x):=by
 unfold f9;by_cases h0:x<0
 ·rw[show ltB x 0=true from by simpa [ltB] using h0,cond_true,tn h.big hx];have h1:idx vals (-x)=some (lv T (-x)):=by rw[fE _ (by omega),h.val (-x).toNat (by omega) (by have:=hx.2;omega),show (((-x).toNat:Nat):Int)=-x from by omega]
  rw[h1,be,lv_neg h.tr hx];have:cA .i8 (-lv T x)=lv T x:=by rcases lv_cases T x with h|h|h<;>rw[h]<;>decide
  rw[this]
 ·have hx1:=hx.1;rw[show ltB x 0=false from by simpa [ltB] using h0,cond_false];have h1:idx vals x=some (lv T x):=by rw[fE _ (by omega),h.val x.toNat (by omega) (by have:=hx.2;omega),show ((x.toNat:Nat):Int)=x from by omega]
  rw[h1];rfl
theorem ud {I:Type} {n:Nat} {l m:List I} (h1:0<n) (h2:n<=64) (h:l.length+m.length<=2000000000000):dp n l m=some (l++m):=by unfold dp;rw[if_pos];refine⟨h1,?_⟩;have:=Nat.mul_le_mul h h2;omega
theorem lv_push {T:A0} {x y:Int} (_hx:x≠0) (h1:x ∉ T) (h2:-x ∉ T):lv (T++[x]) y=if y=x then 1 else if y=-x then -1 else lv T y:=by grind[lv]
theorem VT.set {N:Nat} {vals T:A0} (h:VT N vals T) {x:Int} (hx:iY N x) (h1:x ∉ T) (h2:-x ∉ T) (done:Int) (bad:Bool) :∃vals',dN vals T done bad x=some vals'/\VT N vals' (T++[x]):=by
 have hb:=h.big;have hl:=h.len;have hn:=h.tr.len;have hx1:=hx.1;have hx2:=hx.2;have key:∀(v:Nat) (z:Int),v=x.natAbs->z=(if 0<x then 1 else -1)->VT N (vals.set v z) (T++[x]):=λv z hv hz=>by subst hv hz;refine⟨by simpa using hl,hb,h.tr.push hx h1 h2,λu hu1 hu2=>?_⟩;rw[List.getElem?_set,lv_push hx1 h1 h2];by_cases hux:u=x.natAbs;{grind};{rw[if_neg (by omega),h.val u hu1 hu2,if_neg (by omega),if_neg (by omega)]}
 unfold dN;by_cases h0:0<x;{rw[show gtB x 0=true from by simpa [gtB] using h0,cond_true,fE _ (by omega),zB,be,be,ud (by omega) (by omega) (by simp;omega),be];grind};{rw[show gtB x 0=false from by simpa [gtB] using h0,cond_false,tn hb hx,fE _ (by omega),zB,be,be,ud (by omega) (by omega) (by simp;omega),be];grind}
def tr (I:An) (x:Int):Bool:=bif decide (0<x)then I x.natAbs else !I x.natAbs
theorem tr_neg (I:An) {x:Int} (h:x≠0):tr I (-x)=!tr I x:=by grind[tr]
def cs (I:An) (c:A0):Prop:=∃x∈c,tr I x=true
def css (I:An) (C:A1):Prop:=∀c∈C,cs I c
def trs (I:An) (T:A0):Prop:=∀x∈T,tr I x=true
theorem cs_perm {I:An} {c d:A0} (h:c.Perm d):cs I c↔cs I d:=by unfold cs;grind
def isW (c:A0) (z:Int):Prop:=c[0]?=some z\/c[1]?=some z
def wat (c:A0) (p q:Int):Prop:=(c[0]?=some p/\c[1]?=some q)\/(c[0]?=some q/\c[1]?=some p)
def wt (W:A2) (z:Int):A0:=eG W z []
def inW (C:A1) (z k:Int):Prop:=∃(i:Nat) (c:A0),k=(i:Int)/\C[i]?=some c/\isW c z
def SW (c P T:A0):Prop:=∀p q,wat c p q->-p∈P->q∈T
structure ClO (N:Nat) (C:A1):Prop where
 len:∀c∈C,2<=c.length
 sh:∀c∈C,c.length<=1000000
 nd:∀c∈C,c.Nodup
 ok:∀c∈C,∀x∈c,iY N x
 cnt:C.length<=262144
theorem inW_set {C:A1} {j:Nat} {c c':A0} (hj:C[j]?=some c) (z k:Int):inW (C.set j c') z k↔(k=(j:Int)/\isW c' z)\/(k≠(j:Int)/\inW C z k):=by have hl:=(List.getElem?_eq_some_iff.1 hj).1;unfold inW;grind
theorem inW_same {C:A1} {j:Nat} {c c':A0} (hj:C[j]?=some c) (hs:∀z,isW c' z↔isW c z) (z k:Int):inW (C.set j c') z k↔inW C z k:=by
 rw[inW_set hj,hs];constructor;{rintro (⟨rfl,h⟩|⟨_,h⟩);{exact⟨j,c,rfl,hj,h⟩};{exact h}}
 ·intro h;by_cases hk:k=(j:Int)
  ·obtain⟨i,d,he,hi,hw⟩:=h;grind
  simp_all
theorem ClO.set {N:Nat} {C:A1} (h:ClO N C) {j:Nat} {c c':A0} (hj:C[j]?=some c) (hp:c'.Perm c):ClO N (C.set j c'):=by have hc:c∈C:=List.mem_of_getElem? hj;have key:∀d∈C.set j c',d∈C\/d=c':=λd hd=>List.mem_or_eq_of_mem_set hd;refine⟨λd hd=>?_,λd hd=>?_,λd hd=>?_,λd hd=>?_,by simpa using h.cnt⟩;{rcases key d hd with hd|rfl;{exact h.len d hd};{rw[hp.length_eq];exact h.len c hc}};{rcases key d hd with hd|rfl;{exact h.sh d hd};{rw[hp.length_eq];exact h.sh c hc}};{rcases key d hd with hd|rfl;{exact h.nd d hd};{exact hp.nodup_iff.2 (h.nd c hc)}};{rcases key d hd with hd|rfl;{exact h.ok d hd};{exact λx hx=>h.ok c hc x (hp.mem_iff.1 hx)}}
theorem css_set {C:A1} {j:Nat} {c c':A0} (hj:C[j]?=some c) (hp:c'.Perm c) (I:An):css I (C.set j c')↔css I C:=by have hl:=(List.getElem?_eq_some_iff.1 hj).1;unfold css;constructor;{intro h d hd;obtain⟨i,hi⟩:=List.getElem?_of_mem hd;by_cases hij:j=i;{subst hij;rw[hj] at hi;cases hi;exact(cs_perm hp).1 (h c' (List.mem_of_getElem? (i:=j) (by simp_all)))};{exact h d (List.mem_of_getElem? (i:=i) (by simp_all))}};{intro h d hd;rcases List.mem_or_eq_of_mem_set hd with hd|rfl;{exact h d hd};{exact(cs_perm hp).2 (h c (List.mem_of_getElem? hj))}}
theorem swap_eq {c:A0} {x:Int} (hl:2<=c.length) (hn:c.Nodup) (hw:isW c x):∃p r,((idx c 0).bind λx3=>(bif (eqB x3 x)then(idx c 1).bind λx4=>(idx (c.set 0 x4) 1).bind λ_=>some ((c.set 0 x4).set 1 x3)else some c))=some (p::x::r) /\ (p::x::r).Perm c/\(∀z,isW (p::x::r) z↔isW c z)/\∀a b,wat (p::x::r) a b↔wat c a b:=by
 match c,hl with
 |c0::c1::r,_=>
  by_cases h:c0=x;{subst h;refine⟨c1,r,by simp[idx,eqB],.swap c0 c1 r,λz=>by simp only[isW,List.getElem?_cons_zero,List.getElem?_cons_succ,Option.some.injEq];exact Or.comm,λa b=>by simp only[wat,List.getElem?_cons_zero,List.getElem?_cons_succ,Option.some.injEq];grind⟩}
  ·have h1:c1=x:=by simp_all[isW]
   subst h1;exact⟨c0,r,by grind[idx,eqB],.refl _,λz=>Iff.rfl,λa b=>Iff.rfl⟩
theorem idxf_run {N:Nat} {vals T:A0} (hv:VT N vals T) (done:Int) (ds:AI) (bad:Bool) (s:A0) (hs:s.length<=1000000) (ho:∀y∈s,iY N y):∀(m:A0) (i n:Nat),s.drop i=m->i+m.length=s.length->m.length<n -> (∃(k:Nat) (y:Int),s[k]?=some y/\lv T y≠-1/\bv (bP s vals T done ds bad) n (i:Int)=some (.inl (k:Int))) \/ ((∀y∈m,lv T y=-1)/\bv (bP s vals T done ds bad) n (i:Int)=some (.inr ()))
 |[],i,n,hm,hl,hn=>by
  obtain⟨n,rfl⟩:∃k,n=k+1:=⟨n-1,by simp at hn;omega⟩
  simp_all[bv,bP,bD]
 |y::m,i,n,hm,hl,hn=>by
  obtain⟨n,rfl⟩:∃k,n=k+1:=⟨n-1,by simp at hn;omega⟩
  have hi:i<s.length:=by simp at hl;omega
  have hy:s[i]?=some y:=by have:=congrArg (·[0]?) hm;simpa using this
  have hyo:=ho y (List.mem_of_getElem? hy);have hb:bP s vals T done ds bad (i:Int)=some (bif neB (lv T y) (-1)then .out (.inl (i:Int))else .next ((i+1:Nat):Int)):=by unfold bP;dsimp only;rw[bD,decide_eq_true hi,cond_true,bE,hy,be];unfold io;rw[of_eq hv _ _ _ _ hyo,be,be,zF,iR]
  by_cases h:lv T y=-1;{rcases idxf_run hv done ds bad s hs ho m (i+1) n (by rw[<- List.drop_drop,hm];rfl) (by simp at hl;omega) (by simp at hn;omega)with⟨k,z,h1,h2,h3⟩|⟨h1,h2⟩;{grind[bv,neB]};{refine .inr ⟨λz hz=>?_,?_⟩;{grind};simp_all[bv,neB]}};grind[bv,neB]
theorem idxf_eq {N:Nat} {vals T:A0} (hv:VT N vals T) (done:Int) (ds:AI) (bad:Bool) (s:A0) (hs:s.length<=1000000) (ho:∀y∈s,iY N y) :(∃(k:Nat) (y:Int),s[k]?=some y/\lv T y≠-1/\cg s vals T done ds bad=some (k:Int)) \/ ((∀y∈s,lv T y=-1)/\cg s vals T done ds bad=some (-1)):=by unfold cg;rcases idxf_run hv done ds bad s hs ho s 0 bL rfl (by simp) (by unfold bL;omega)with⟨k,y,h1,h2,h3⟩|⟨h1,h2⟩;{grind};simp_all
theorem kck_lit {N:Nat} (hN:N<=65536) {x:Int} (hx:iY N x):kckL [x]=some ():=by
 unfold kckL;have:(Lit.int .i64 x).wf=true:=by have:=hx.2;simp[Lit.wf,IntKind.min,IntKind.max,IntKind.bits,IntKind.signed];omega
 simp[this]
theorem inW_len {C:A1} {l:A0} (hn:l.Nodup) (h:∀k∈l,∃z,inW C z k):l.length<=C.length:=by
 have:=nodup_le C.length (l.map λk=>k.toNat+1) (by rw[List.nodup_iff_pairwise_ne,List.pairwise_map];refine(List.nodup_iff_pairwise_ne.1 hn).imp_of_mem λ{a b} ha hb hab=>?_;obtain⟨_,i,_,rfl,_⟩:=h a ha;obtain⟨_,j,_,rfl,_⟩:=h b hb;omega) λx hx=>by obtain⟨k,hk,rfl⟩:=List.mem_map.1 hx;obtain⟨_,i,c,rfl,hi,_⟩:=h k hk;grind
 simpa using this
structure VI (N:Nat) (x:Int) (d:Nat) (Bd:Ad) (T0:A0) (C0:A1) (old:A0) (n a:Nat) (T:A0) (C:A1) (W:A2) (vals:A0):Prop where
 vt:VT N vals T
 pre:T0 <+: T
 xd:T0[d]?=some (-x)
 xo:iY N x
 co:ClO N C
 sem:∀I,css I C↔css I C0
 imp:∀I,css I C0->trs I T0->trs I T
 na:n<=a
 al:a<=old.length
 ol:old.length<=262144
 hx:dh W x=true
 mem:∀z,z≠x->∀k,k∈wt W z↔inW C z k
 nd:∀z,z≠x->(wt W z).Nodup
 memx:∀k,k∈old.take n++old.drop a↔inW C x k
 ndx:(old.take n++old.drop a).Nodup
 kept:∀(i:Nat) c,(i:Int)∈old.take n->C[i]?=some c->∀p,wat c p x->p∈T
 bd:∀τ,Bd τ->τ<=d
 str:∀τ,Bd τ->∀c∈C,SW c (T.take τ) (T.take τ)
 weak:∀c∈C,SW c (T.take d) T
structure WIO (C:A1) (W:A2):Prop where
 mem:∀z k,k∈wt W z↔inW C z k
 nd:∀z,(wt W z).Nodup
theorem tq {T T':A0} (h:T <+: T') {t:Nat} (ht:t<=T.length):T'.take t=T.take t:=by obtain⟨s,rfl⟩:=h;grind
theorem wat_uniq {c:A0} {p q x:Int} (_h:c.Nodup) (h1:wat c q x) (h2:wat c p x):q=p:=by grind[wat]
theorem swap_perm {y x:Int}:∀{r:A0} {j:Nat},r[j]?=some y->(y::r.set j x).Perm (x::r)|[],j,h=>by simp at h|z::r,0,h=>by grind|z::r,j+1,h=>by grind
section
variable {N:Nat} {x:Int} {d:Nat} {Bd:Ad} {T0:A0} {C0:A1} {old:A0} {n a:Nat} {T:A0} {C:A1} {W:A2} {vals:A0}
theorem VI.dl (h:VI N x d Bd T0 C0 old n a T C W vals):d<T.length:=by have:=(List.getElem?_eq_some_iff.1 h.xd).1;have:=h.pre.length_le;omega
theorem VI.xT (h:VI N x d Bd T0 C0 old n a T C W vals):-x∈T:=h.pre.subset (List.mem_of_getElem? h.xd)
theorem VI.nx (h:VI N x d Bd T0 C0 old n a T C W vals):x ∉ T:=by have:=h.vt.tr.cons h.xT;simp_all
theorem pre_eq {k:Int} (hna:n<=a) (hk:old[a]?=some k):(iJ old n [k]).take (n+1)=old.take n++[k]/\(iJ old n [k]).drop (a+1)=old.drop (a+1)/\(iJ old n [k]).length=old.length:=by
 have ha:=(List.getElem?_eq_some_iff.1 hk).1;have hl:(old.take n).length=n:=by simp;omega
 have hl1:(old.take n++[k]).length=n+1:=by simp;omega
 unfold iJ;refine⟨by grind,?_,by simp;omega⟩;rw[List.drop_append,List.drop_of_length_le (by omega),List.nil_append,hl1,List.drop_drop]
 congr 1
 simp;omega
theorem drop_at {k:Int} (hk:old[a]?=some k):old.drop a=k::old.drop (a+1):=by grind[List.drop_eq_getElem_cons]
theorem VI.keep (h:VI N x d Bd T0 C0 old n a T C W vals) {i:Nat} {c cv:A0} {p:Int} (hk:old[a]?=some (i:Int)) (hi:C[i]?=some c) (hperm:cv.Perm c) (hiw:∀z,isW cv z↔isW c z) (hwat:∀a b,wat cv a b↔wat c a b) (hpx:wat cv p x) {T' vals':A0} (hT:T <+: T') (hv:VT N vals' T') (hp:p∈T') (himp:∀I,css I C0->trs I T0->trs I T'):VI N x d Bd T0 C0 (iJ old n [(i:Int)]) (n+1) (a+1) T' (C.set i cv) W vals':=by
 obtain⟨e1,e2,e3⟩:=pre_eq h.na hk;have ha:=(List.getElem?_eq_some_iff.1 hk).1;have hc:c∈C:=List.mem_of_getElem? hi;have hdl:=h.dl;have hmc:∀c'∈C.set i cv,∃c''∈C,∀a b,wat c' a b↔wat c'' a b:=λc' hc'=>by grind
 refine⟨hv,h.pre.trans hT,h.xd,h.xo,h.co.set hi hperm,λI=>(css_set hi hperm I).trans (h.sem I),himp,by have:=h.na;omega,by omega,by have:=h.ol;omega,h.hx,λz hz k=>(h.mem z hz k).trans (inW_same hi hiw z k).symm,h.nd,λk=>?_,?_,λj c' hj hc' q hq=>?_,h.bd,λτ hτ c' hc'=>?_,λc' hc'=>?_⟩;{rw[inW_same hi hiw,<- h.memx k,e1,e2,drop_at hk];simp};{have:=h.ndx;simp_all[drop_at]};{rw[e1] at hj;by_cases hij:i=j;{subst hij;rw[List.getElem?_set,if_pos rfl,if_pos (List.getElem?_eq_some_iff.1 hi).1] at hc';cases hc';rw[wat_uniq (hperm.nodup_iff.2 (h.co.nd c hc)) hq hpx];exact hp};{rw[List.getElem?_set,if_neg hij] at hc';rcases List.mem_append.1 hj with hj|hj;{exact hT.subset (h.kept j c' hj hc' q hq)};grind}};{obtain⟨c'',h1,h2⟩:=hmc c' hc';have hb:=h.bd τ hτ;rw[tq hT (by omega)];exact λq q' hq=>h.str τ hτ c'' h1 q q' ((h2 q q').1 hq)};{obtain⟨c'',h1,h2⟩:=hmc c' hc';rw[tq hT (by omega)];exact λq q' hq hn=>hT.subset (h.weak c'' h1 q q' ((h2 q q').1 hq) hn)}
theorem VI.move (h:VI N x d Bd T0 C0 old n a T C W vals) {i:Nat} {c r:A0} {p y:Int} {j:Nat} (hk:old[a]?=some (i:Int)) (hi:C[i]?=some c) (hperm:(p::x::r).Perm c) (hiw:∀z,isW (p::x::r) z↔isW c z) (hwat:∀a b,wat (p::x::r) a b↔wat c a b) (hj:r[j]?=some y) (hy:lv T y≠-1):VI N x d Bd T0 C0 old n (a+1) T (C.set i (p::y::r.set j x)) (ga (js W y) y (wt W y++[(i:Int)])) vals:=by
 have ha:=(List.getElem?_eq_some_iff.1 hk).1;have hc:c∈C:=List.mem_of_getElem? hi;have hdl:=h.dl;have hnd:(p::x::r).Nodup:=hperm.nodup_iff.2 (h.co.nd c hc);have hyr:y∈r:=List.mem_of_getElem? hj;simp only[List.nodup_cons,List.mem_cons,not_or] at hnd;obtain⟨⟨hpx,hpr⟩,hxr,hrn⟩:=hnd;have hyx:y≠x:=λe=>hxr (e ▸ hyr);have hpy:p≠y:=λe=>hpr (e ▸ hyr);have hperm2:(p::y::r.set j x).Perm c:=(List.Perm.cons p (swap_perm hj)).trans hperm;have hw2:∀z,isW (p::y::r.set j x) z↔z=p\/z=y:=λz=>by simp[isW,eq_comm]
 have hw1:∀z,isW c z↔z=p\/z=x:=λz=>by simp_all[isW,eq_comm]
 have hci:∀z,inW C z (i:Int)↔z=p\/z=x:=λz=>by constructor;{rintro⟨i',c',he,hi',hw⟩;grind};{exact λhz=>⟨i,c,rfl,hi,(hw1 z).2 hz⟩}
 have hndx:=h.ndx;rw[drop_at hk] at hndx;have hkn:(i:Int) ∉ old.take n/\(i:Int) ∉ old.drop (a+1):=by grind
 have hwt:∀z,wt (ga (js W y) y (wt W y++[(i:Int)])) z=if z=y then wt W y++[(i:Int)] else wt W z:=λz=>by unfold wt;rw[tB,mgetD_mt]
 have hnew:∀P T':A0,(∀z,z∈P->z∈T)->(x∈T'->False)->(∀q q',wat c q q'->-q∈P->q'∈T')->SW (p::y::r.set j x) P T':=λP T' hP hxT hS q q' hq hn=>by simp only[wat,List.getElem?_cons_zero,List.getElem?_cons_succ,Option.some.injEq] at hq;rcases hq with⟨rfl,rfl⟩|⟨rfl,rfl⟩;{exact(hxT (hS p x ((hwat p x).1 (.inl ⟨rfl,rfl⟩)) hn)).elim};{exact(hy ((lv_no h.vt.tr).2 (hP _ hn))).elim}
 refine⟨h.vt,h.pre,h.xd,h.xo,h.co.set hi hperm2,λI=>(css_set hi hperm2 I).trans (h.sem I),h.imp,by have:=h.na;omega,by omega,h.ol,?_,λz hz k=>?_,λz hz=>?_,λk=>?_,?_,λj' c' hj' hc' q hq=>?_,h.bd,λτ hτ c' hc'=>?_,λc' hc'=>?_⟩;{rw[mhasB_set,mhasB_mt W y x (.inl h.hx)];simp};{rw[hwt,inW_set hi,hw2];have h1:=h.mem z hz k;grind};{rw[hwt];split;{rename_i hzy;subst hzy;rw[List.nodup_append];refine⟨h.nd z hz,by simp,λb hb b' hb'=>?_⟩;rw[List.mem_singleton] at hb';subst hb';rintro rfl;have:=(hci z).1 ((h.mem z hz _).1 hb);omega};{exact h.nd z hz}};{rw[inW_set hi,hw2];have h1:=h.memx k;grind[drop_at]};{grind};{have hij:i≠j':=λe=>hkn.1 (e ▸ hj');rw[List.getElem?_set,if_neg hij] at hc';exact h.kept j' c' hj' hc' q hq};{rcases List.mem_or_eq_of_mem_set hc' with h1|rfl;{exact h.str τ hτ c' h1};{exact hnew _ _ (λz hz=>List.mem_of_mem_take hz) (λhz=>h.nx (List.mem_of_mem_take hz)) (h.str τ hτ c hc)}};{rcases List.mem_or_eq_of_mem_set hc' with h1|rfl;{exact h.weak c' h1};{exact hnew _ _ (λz hz=>List.mem_of_mem_take hz) h.nx (h.weak c hc)}}
end
structure VC (N:Nat) (Bd:Ad) (T0:A0) (C0:A1) (T:A0) (C:A1) (W:A2) (vals:A0):Prop where
 vt:VT N vals T
 pre:T0 <+: T
 co:ClO N C
 sem:∀I,css I C↔css I C0
 wio:WIO C W
 str:∀τ,Bd τ->∀c∈C,SW c (T.take τ) (T.take τ)
 bad:∀I,css I C0->¬ trs I T0
structure VG (N:Nat) (Bd:Ad) (T0:A0) (C0:A1) (d:Nat) (T:A0) (C:A1) (W:A2) (vals:A0):Prop where
 vt:VT N vals T
 pre:T0 <+: T
 co:ClO N C
 sem:∀I,css I C↔css I C0
 imp:∀I,css I C0->trs I T0->trs I T
 wio:WIO C W
 bd:∀τ,Bd τ->τ<=d
 str:∀τ,Bd τ->∀c∈C,SW c (T.take τ) (T.take τ)
 weak:∀c∈C,SW c (T.take d) T
section
variable {N:Nat} {x:Int} {d:Nat} {Bd:Ad} {T0:A0} {C0:A1} {old:A0} {n a:Nat} {T:A0} {C:A1} {W:A2} {vals:A0}
theorem VI.step (h:VI N x d Bd T0 C0 old n a T C W vals) {W0:A2} (hW0:(eG W0 x []).length=old.length) (edone:Int) (ds:AI) (ebad:Bool) (u:Unit) (ha:a<old.length) :(∃n' old' T' C' W' vals',cS W0 edone ds ebad x u (n,(a:Int),old,T,C,W,vals)=some (.next (n',((a+1:Nat):Int),old',T',C',W',vals'))/\VI N x d Bd T0 C0 old' n' (a+1) T' C' W' vals'/\old'.length=old.length) \/ (∃C' W',cS W0 edone ds ebad x u (n,(a:Int),old,T,C,W,vals)=some (.out (.inl (false,T,C',W',vals)))/\VC N Bd T0 C0 T C' W' vals):=by
 obtain⟨k,hk⟩:∃k,old[a]?=some k:=⟨old[a],List.getElem?_eq_getElem ha⟩
 obtain⟨i,c,rfl,hi,hw⟩:=(h.memx k).1 (by rw[drop_at hk];simp);have hc:c∈C:=List.mem_of_getElem? hi;obtain⟨p,r,hsw,hperm,hiw,hwat⟩:=swap_eq (h.co.len c hc) (h.co.nd c hc) hw;have hnd:(p::x::r).Nodup:=hperm.nodup_iff.2 (h.co.nd c hc);have hok:∀z∈p::x::r,iY N z:=λz hz=>h.co.ok c hc z (hperm.mem_iff.1 hz);have hlen:(p::x::r).length<=1000000:=by rw[hperm.length_eq];exact h.co.sh c hc
 have hpo:=hok p (by simp);have hpx:wat (p::x::r) p x:=.inl ⟨rfl,rfl⟩;have hol:=h.ol;have hN:=h.vt.big;have hna:=h.na;have hlK:∀l:A0,l.length=old.length->lenK l (n+1)=some ():=λl hl=>by grind[lenK]
 have hlt:ltB (a:Int) (br (eG W0 x []))=true:=by simp_all[bD]
 have hup:bC .i64 (a:Int) 1=((a+1:Nat):Int):=zF;obtain⟨e1,e2,e3⟩:=pre_eq h.na hk;unfold cS;dsimp only;rw[hlt,cond_true,bE,hk,be,bE,hi,be,hsw,be,show idx (p::x::r) 0=some p from by simp[idx],be,of_eq h.vt _ _ _ _ hpo,be,hup];by_cases h1:lv T p=1;{rw[h1,show eqB 1 1=true from rfl,cond_true,hlK old rfl,be,Int.toNat_natCast];exact .inl ⟨_,_,_,_,_,_,rfl,h.keep hk hi hperm hiw hwat hpx (List.prefix_refl T) h.vt (lv_one.1 h1) h.imp,e3⟩}
 ·rw[show eqB (lv T p) 1=false from by simpa [eqB] using h1,cond_false];have hs2:subL (p::x::r) 2 (p::x::r).length=r:=by simp[subL]
  have hsk:rl (p::x::r) 2 ((p::x::r).length:Int)=some ():=by grind[rl]
  rw[hsk,be,hs2];rcases idxf_eq h.vt edone ds ebad r (by grind) (λy hy=>hok y (by simp[hy]))with⟨j,y,hj,hy,hf⟩|⟨hall,hf⟩
  ·have hjl:=(List.getElem?_eq_some_iff.1 hj).1;have hyr:y∈r:=List.mem_of_getElem? hj;have hyo:=hok y (by simp[hyr]);have hxy:x≠y:=λe=>by simp_all
   have hj2:bC .i64 (j:Int) 2=((j+2:Nat):Int):=by grind[cY]
   rw[hf,be,show geB (j:Int) 0=true from by simp[geB],cond_true,hj2,bE,show (p::x::r)[j+2]?=some y from by simpa using hj,be,show idx (p::x::r) 1=some x from by simp[idx],be,bE,
    show ((p::x::r).set 1 y)[j+2]?=some y from by simpa using hj,be,Int.toNat_natCast,show ((p::x::r).set 1 y).set (j+2) x=p::y::r.set j x from rfl,
    show idx (p::y::r.set j x) 1=some y from by simp[idx],be,kck_lit hN hyo,be,show ckB (neB x y)=some ()from by grind[ckB,neB],be,ud (by omega) (by omega) (by
     have:=inW_len (C:=C) (l:=wt W y) (h.nd y (Ne.symm hxy)) λk hk=>⟨y,(h.mem y (Ne.symm hxy) k).1 hk⟩
     have:=h.co.cnt;grind[wt]),be,Int.toNat_natCast]
   exact .inl ⟨_,_,_,_,_,_,rfl,h.move hk hi hperm hiw hwat hj hy,rfl⟩
  ·rw[hf,be,show geB (-1) 0=false from rfl,cond_false,hlK old rfl,be];have hno:∀I,css I C0->trs I T->tr I p=true:=λI hC hT=>by
    obtain⟨z,hz,hzt⟩:=(cs_perm hperm).2 ((h.sem I).2 hC c hc);rcases List.mem_cons.1 hz with rfl|hz;{exact hzt}
    ·have hzn:-z∈T:=by rcases List.mem_cons.1 hz with rfl|hz;{exact h.xT};{exact(lv_no h.vt.tr).1 (hall z hz)}
     have:=hT _ hzn;rw[tr_neg I (hok z (by simp[hz])).1,hzt] at this;cases this
   by_cases h2:lv T p=-1
   ·rw[h2,show eqB (-1) (-1)=true from rfl,cond_true];have hpl:(iJ old n [(i:Int)]).length=old.length:=e3;have hsl:subL (iJ old n [(i:Int)]) (a+1) (iJ old n [(i:Int)]).length=old.drop (a+1):=by unfold subL;grind
    have hdl:(old.drop (a+1)).length=old.length-(a+1):=by simp
    have hk5:lenK (iJ old n [(i:Int)]) (n+1+(old.drop (a+1)).length)=some ():=by unfold lenK;grind
    have hk8:lenK (iJ (iJ old n [(i:Int)]) (n+1) (old.drop (a+1))) (n+1+(old.drop (a+1)).length)=some ():=by unfold lenK;rw[show decide _=true from by simp[iJ];omega];rfl
    have hsk2:rl (iJ old n [(i:Int)]) ((a+1:Nat):Int) ((iJ old n [(i:Int)]).length:Int)=some ():=by unfold rl;grind
    rw[hsk2,be,Int.toNat_natCast,hsl,hk5,be,kck_lit hN h.xo,be,show ckB (dh W x)=some ()from by rw[h.hx];rfl,be,hk8,be,Int.toNat_natCast];refine .inr ⟨_,_,rfl,h.vt,h.pre,h.co.set hi hperm,λI=>(css_set hi hperm I).trans (h.sem I),?_,?_,λI hC hT=>?_⟩
    ·have hrow:(iJ (iJ old n [(i:Int)]) (n+1) (old.drop (a+1))).take (n+1+(old.drop (a+1)).length)=old.take n++(i:Int)::old.drop (a+1):=by
      have hl:(old.take n++[(i:Int)]).length=n+1:=by simp;omega
      unfold iJ;have:(List.take (n+1) (List.take n old++[(i:Int)]++List.drop (n+[(i:Int)].length) old))=old.take n++[(i:Int)]:=e1;rw[this,List.take_append_of_le_length (by simp;omega),List.take_of_length_le (by simp;omega)];simp
     have hwt:∀z,wt (ga W x ((iJ (iJ old n [(i:Int)]) (n+1) (old.drop (a+1))).take (n+1+(old.drop (a+1)).length))) z=if z=x then old.take n++(i:Int)::old.drop (a+1)else wt W z:=λz=>by unfold wt;rw[tB,hrow]
     have hm:=h.memx;have hn:=h.ndx;rw[drop_at hk] at hm hn;refine⟨λz k=>?_,λz=>?_⟩;{rw[hwt,inW_same hi hiw];split;{simp_all};{rename_i hz;exact h.mem z hz k}};{rw[hwt];split;{exact hn};{rename_i hz;exact h.nd z hz}}
    ·intro τ hτ c' hc';rcases List.mem_or_eq_of_mem_set hc' with h3|rfl;{exact h.str τ hτ c' h3};{exact λq q' hq=>h.str τ hτ c hc q q' ((hwat q q').1 hq)}
    ·have hT':=h.imp I hC hT;have h3:=hno I hC hT';have h4:=hT' _ ((lv_no h.vt.tr).1 h2);rw[tr_neg I hpo.1,h3] at h4;cases h4
   ·rw[show eqB (lv T p) (-1)=false from by simpa [eqB] using h2,cond_false];have h3:lv T p=0:=by grind[lv_cases]
    obtain⟨h4,h5⟩:=pR.1 h3;obtain⟨vals',hset,hv'⟩:=h.vt.set hpo h4 h5 edone ebad;rw[hset,be,Int.toNat_natCast];refine .inl ⟨_,_,_,_,_,_,rfl,h.keep hk hi hperm hiw hwat hpx (List.prefix_append T [p]) hv' (by simp) λI hC hT=>?_,e3⟩;have hT':=h.imp I hC hT;intro z hz;rcases List.mem_append.1 hz with hz|hz;{exact hT' z hz};simp_all
theorem VI.run {W0:A2} (edone:Int) (ds:AI) (ebad:Bool) (u:Unit):∀(m fu:Nat) {old:A0} {n a:Nat} {T:A0} {C:A1} {W:A2} {vals:A0},
  VI N x d Bd T0 C0 old n a T C W vals->(eG W0 x []).length=old.length->a+m=old.length->m<fu -> (∃n' old' T' C' W' vals',bv (cS W0 edone ds ebad x u) fu (n,(a:Int),old,T,C,W,vals)=some (.inr (n',old',T',C',W',vals'))/\VI N x d Bd T0 C0 old' n' old'.length T' C' W' vals') \/ (∃T' C' W' vals',bv (cS W0 edone ds ebad x u) fu (n,(a:Int),old,T,C,W,vals)=some (.inl (false,T',C',W',vals'))/\VC N Bd T0 C0 T' C' W' vals')
 |0,fu,old,n,a,T,C,W,vals,h,hW0,ham,hf=>by
  obtain⟨fu,rfl⟩:∃k,fu=k+1:=⟨fu-1,by omega⟩
  have ha:a=old.length:=by omega
  subst ha;refine .inl ⟨n,old,T,C,W,vals,?_,h⟩;simp_all[bv,cS,bD]
 |m+1,fu,old,n,a,T,C,W,vals,h,hW0,ham,hf=>by
  obtain⟨fu,rfl⟩:∃k,fu=k+1:=⟨fu-1,by omega⟩
  rcases h.step hW0 edone ds ebad u (by omega)with⟨n',old',T',C',W',vals',hb,h',hl⟩|⟨C',W',hb,h'⟩;{rw[bv,hb];exact VI.run edone ds ebad u m fu h' (by rw[hl];exact hW0) (by rw[hl];omega) (by omega)};grind[bv]
end
theorem visit_eq {N:Nat} {x:Int} {d:Nat} {Bd:Ad} {C0:A1} {T0 T:A0} {C:A1} {W:A2} {vals:A0} (h:VG N Bd T0 C0 d T C W vals) (hd:T[d]?=some (-x)) (edone:Int) (ds:AI) (ebad:Bool) :(∃T' C' W' vals',eT C W vals T edone ds ebad x=some (true,T',C',W',vals')/\VG N Bd T0 C0 (d+1) T' C' W' vals'/\T <+: T') \/ (∃T' C' W' vals',eT C W vals T edone ds ebad x=some (false,T',C',W',vals')/\VC N Bd T0 C0 T' C' W' vals'):=by
 have hxo:iY N x:=by have:=(h.vt.tr.ok _ (List.mem_of_getElem? hd)).neg;simp_all
 have hlen:=inW_len (C:=C) (l:=wt W x) (h.wio.nd x) λk hk=>⟨x,(h.wio.mem x k).1 hk⟩
 have hcnt:=h.co.cnt;have hwm:∀z,wt (js W x) z=wt W z:=λz=>by unfold wt;rw[mgetD_mt]
 have h0:VI N x d Bd T C (wt W x) 0 0 T C (js W x) vals:=⟨h.vt,List.prefix_refl _,hd,hxo,h.co,λ_=>Iff.rfl,λ_ _ h=>h,Nat.le_refl _,Nat.zero_le _,by omega,m5 x,λz _ k=>by rw[hwm];exact h.wio.mem z k,λz _=>by rw[hwm];exact h.wio.nd z,
  λk=>by simpa using h.wio.mem x k,by simpa using h.wio.nd x,λi c hi=>by simp at hi,h.bd,h.str,h.weak⟩
 unfold eT;rw[kck_lit h.vt.big hxo,be,show rl (eG W x []) 0 0=some ()from by rfl,be];have hrun:=h0.run (W0:=W) edone ds ebad () (wt W x).length bL rfl (by simp) (by unfold bL;omega);rw[show ((0:Nat):Int)=0 from rfl] at hrun;rcases hrun with⟨n',old',T',C',W',vals',hl,h1⟩|⟨T',C',W',vals',hl,h1⟩
 ·unfold wt at hl;rw[hl,be];dsimp only;rw[show ckB (dh W' x)=some ()from by rw[h1.hx];rfl,be,show lenK old' n'=some ()from by unfold lenK;rw[show decide _=true from by simpa using h1.na];rfl,be];refine .inl ⟨_,_,_,_,rfl,⟨h1.vt,h.pre.trans h1.pre,h1.co,λI=>(h1.sem I).trans (h.sem I),λI hC hT=>h1.imp I ((h.sem I).2 hC) (h.imp I hC hT),?_,λτ hτ=>Nat.le_succ_of_le (h.bd τ hτ),h1.str,λc hc p q hpq hp=>?_⟩,h1.pre⟩
  ·have hm:=h1.memx;have hn:=h1.ndx;rw[List.drop_length,List.append_nil] at hn;simp only[List.drop_length,List.append_nil] at hm;have hw2:∀z,wt (ga W' x (old'.take n')) z=if z=x then old'.take n' else wt W' z:=λz=>by unfold wt;rw[tB]
   refine⟨λz k=>?_,λz=>?_⟩;{rw[hw2];split;{simp_all};{rename_i hz;exact h1.mem z hz k}};{rw[hw2];split;{exact hn};{rename_i hz;exact h1.nd z hz}}
  ·rw[List.take_add_one] at hp;rcases List.mem_append.1 hp with hp|hp;{exact h1.weak c hc p q hpq hp}
   ·have hxd:T'[d]?=some (-x):=by obtain⟨s,rfl⟩:=h1.pre;grind
    rw[hxd] at hp;simp at hp;have hpx:p=x:=by omega
    subst hpx;obtain⟨i,hi⟩:=List.getElem?_of_mem hc;have hin:inW C' p (i:Int):=⟨i,c,rfl,hi,by rcases hpq with⟨h2,_⟩|⟨_,h2⟩;exact .inl h2;exact .inr h2⟩
    have hkt:=(h1.memx (i:Int)).2 hin;rw[List.drop_length,List.append_nil] at hkt;exact h1.kept i c hkt hi q (by rcases hpq with h2|h2;exact .inr h2;exact .inl h2)
 ·unfold wt at hl;rw[hl,be];refine .inr ⟨_,_,_,_,rfl,h1.vt,h.pre.trans h1.pre,h1.co,λI=>(h1.sem I).trans (h.sem I),h1.wio,h1.str,λI hC hT=>h1.bad I ((h.sem I).2 hC) (h.imp I hC hT)⟩
section
variable {N:Nat} {Bd:Ad} {C0:A1} {T0:A0}
theorem prop_run (ds:AI) (ebad:Bool):∀(m fu d:Nat) {T:A0} {C:A1} {W:A2} {vals:A0},VG N Bd T0 C0 d T C W vals->d<=T.length->N<=d+m->m<fu -> (∃T' C' W' vals',bv (ch ds ebad) fu (T,(d:Int),C,W,vals)=some (.inr (T',(T'.length:Int),C',W',vals'))/\VG N Bd T0 C0 T'.length T' C' W' vals') \/ (∃d' T' C' W' vals',bv (ch ds ebad) fu (T,(d:Int),C,W,vals)=some (.inl (false,d',C',W',vals',T'))/\VC N Bd T0 C0 T' C' W' vals')
 |m,fu,d,T,C,W,vals,h,hd,hm,hf=>by
  obtain⟨fu,rfl⟩:∃k,fu=k+1:=⟨fu-1,by omega⟩
  have hTl:=h.vt.tr.len;have hN:=h.vt.big;rcases Nat.lt_or_ge d T.length with hlt|hge
  ·obtain⟨m,rfl⟩:∃k,m=k+1:=⟨m-1,by omega⟩
   have hx:T[d]?=some T[d]:=List.getElem?_eq_getElem hlt;have hxo:=h.vt.tr.ok T[d] (List.getElem_mem hlt);have hup:bC .i64 (d:Int) 1=((d+1:Nat):Int):=zF;rcases visit_eq (x:=-T[d]) h (by simp) (d:Int) ds ebad with⟨T',C',W',vals',hv,h',hpre⟩|⟨T',C',W',vals',hv,h'⟩
   ·have ih:=prop_run ds ebad m fu (d+1) h' (by grind) (by omega) (by omega);have hb:ch ds ebad (T,(d:Int),C,W,vals)=some (.next (T',((d+1:Nat):Int),C',W',vals')):=by unfold ch;dsimp only;rw[bD,decide_eq_true hlt,cond_true,bE,hx,be,tn hN hxo,hv,be,hup];rfl
    simp_all[bv]
   ·refine .inr ⟨(d:Int),T',C',W',vals',?_,h'⟩;have hb:ch ds ebad (T,(d:Int),C,W,vals)=some (.out (.inl (false,(d:Int),C',W',vals',T'))):=by unfold ch;dsimp only;rw[bD,decide_eq_true hlt,cond_true,bE,hx,be,tn hN hxo,hv,be];rfl
    rw[bv,hb]
  ·have hdl:d=T.length:=by omega
   subst hdl;refine .inl ⟨T,C,W,vals,?_,h⟩;have hb:ch ds ebad (T,(T.length:Int),C,W,vals)=some (.out (.inr (T,(T.length:Int),C,W,vals))):=by simp[ch,bD]
   rw[bv,hb]
end
theorem imax_abs {N:Nat} (hN:N<=65536) {x:Int} (hx:iY N x):ja x (cA .i64 x)=(x.natAbs:Int):=by grind[tn,ja]
theorem decide_eq_ {N:Nat} {vals T:A0} (h:VT N vals T) {ds:AI} (hds:ds.length<=65536) {x:Int} (hx:iY N x) (h1:lv T x=0) (done:Int) (bad turned:Bool) :∃vals',ey vals T done ds bad x turned=some vals'/\VT N vals' (T++[x]):=by obtain⟨h2,h3⟩:=pR.1 h1;obtain⟨vals',h4,h5⟩:=h.set hx h2 h3 done bad;grind[ey,ud]
theorem VT.unset {N:Nat} {l A B:A0} {y:Int} (h:VT N l (A++y::B)):∃z,l[y.natAbs]?=some z/\VT N (l.set y.natAbs 0) (A++B):=by
 have hy:=h.tr.ok y (by simp);have hyl:y.natAbs<l.length:=by rw[h.len];have:=hy.2;omega
 have hsub:(A++B).Sublist (A++y::B):=List.Sublist.append_left (List.sublist_cons_self y B) A;have hnd:=h.tr.nd;have hno:y ∉ A++B/\-y ∉ A++B:=by grind[Int.natAbs_neg]
 refine⟨l[y.natAbs],List.getElem?_eq_getElem hyl,by simpa using h.len,h.big,⟨λx hx=>h.tr.ok x (hsub.subset hx),by grind⟩,λv hv1 hv2=>?_⟩;rw[List.getElem?_set];by_cases hvy:y.natAbs=v
 ·subst hvy;rw[if_pos rfl,if_pos hyl]
  congr 1
  symm;apply pR.2;grind
 ·rw[if_neg hvy,h.val v hv1 hv2]
  congr 1
  unfold lv;simp only[List.mem_append,List.mem_cons];simp only[show ¬ (v:Int)=y from by omega,show ¬ -(v:Int)=y from by omega,false_or]
theorem back_run {N:Nat} (edone:Int) (ds:AI) (ebad:Bool) (x:Bb) {T:A0} {t:Nat} (hx:x.trail=(t:Int)) (hT:T.length<=65536):∀(m fu a:Nat) (l:A0),VT N l (T.take t++T.drop (t+a))->t+a+m=T.length->m<fu -> ∃l',bv (dC T edone ds ebad x) fu ((a:Int),l)=some l'/\VT N l' (T.take t)
 |0,fu,a,l,h,ha,hf=>by
  obtain⟨fu,rfl⟩:∃k,fu=k+1:=⟨fu-1,by omega⟩
  grind[bv,dC,ltB,lenP]
 |m+1,fu,a,l,h,ha,hf=>by
  obtain⟨fu,rfl⟩:∃k,fu=k+1:=⟨fu-1,by omega⟩
  have hlt:t+a<T.length:=by omega
  rw[List.drop_eq_getElem_cons hlt] at h;have hyo:=h.tr.ok T[t+a] (List.mem_append_right _ List.mem_cons_self);obtain⟨z,hz,h'⟩:=h.unset;obtain⟨l',h1,h2⟩:=back_run edone ds ebad x hx hT m fu (a+1) _ h' (by omega) (by omega);refine⟨l',?_,h2⟩;have hb:dC T edone ds ebad x ((a:Int),l)=some (.next (((a+1:Nat):Int),l.set (T[t+a]).natAbs 0)):=by
   unfold dC;dsimp only;rw[hx,Int.toNat_natCast,show ltB (a:Int) (lenP t T.length)=true from by simp[ltB,lenP];omega,cond_true,
    show idxP T t T.length (a:Int)=some T[t+a] from by simp_all[idxP],
    be,imax_abs h.big hyo,bE,hz,be,zF,Int.toNat_natCast]
  rw[bv,hb];exact h1
theorem back_eq {N:Nat} {vals T:A0} (h:VT N vals T) {D:AI} {d:Bb} {t:Nat} (hd:d.trail=(t:Int)) (ht:t<=T.length) (hD:D.length<=65536) (edone:Int) (ebad:Bool) :∃vals',gj vals T edone (D++[d]) ebad=some (d.variable_,(t:Int),d.turned,T.take t,vals')/\VT N vals' (T.take t):=by
 have hTl:=h.tr.len;have hN:=h.big;obtain⟨l',h1,h2⟩:=back_run (N:=N) (T:=T) (t:=t) edone (D++[d]) ebad d hd (by omega) (T.length-t) bL 0 vals (by simp_all) (by omega) (by unfold bL;omega);refine⟨l',?_,h2⟩;have hl:bZ .i64 (br (D++[d])) 1=(D.length:Int):=by grind[jq,br]
 unfold gj;rw[hl,bE,show (D++[d])[D.length]?=some d from by simp,be,show rl (D++[d]) 0 (D.length:Int)=some ()from by grind[rl],be,hd,
  show rl T (t:Int) (T.length:Int)=some ()from by simp_all[rl],be,show (0:Int)=((0:Nat):Int)from rfl,h1,be,
  show rl T ((0:Nat):Int) (t:Int)=some ()from by simp_all[rl],be,Int.toNat_natCast]
def DV (N:Nat) (T:A0) (ds:AI):Prop:=∀(j:Nat) d,ds[j]?=some d->∃t:Nat,d.trail=(t:Int)/\t<T.length/\0<d.variable_/\d.variable_<=(N:Int)/\lv (T.take t) d.variable_=0
def Asc (ds:AI):Prop:=∀(i j:Nat) d e,i<j->ds[i]?=some d->ds[j]?=some e->d.trail<e.trail
theorem Asc.le {ds:AI} (h:Asc ds) {L:Nat} (hd:∀(j:Nat) d,ds[j]?=some d->∃t:Nat,d.trail=(t:Int)/\t<L):ds.length<=L:=by
 have key:∀(j:Nat) (d:Bb),ds[j]?=some d->(j:Int)<=d.trail:=λj=>by
  induction j with
  |zero=>grind|succ j ih=>intro d hj;have hl:=(List.getElem?_eq_some_iff.1 hj).1;have h1:ds[j]?=some ds[j]:=zB;have h2:=ih _ h1;have h3:=h j (j+1) _ d (Nat.lt_succ_self j) h1 hj;omega
 rcases Nat.eq_zero_or_pos ds.length with h0|h0;{omega};{have h1:ds[ds.length-1]?=some (ds[ds.length-1]'(by omega)):=zB;grind}
theorem turn_run {N:Nat} (ebad:Bool) (n:Int):∀(m fu:Nat) {T vals:A0} {ds:AI} (done:Int),ds.length=m->m<fu->VT N vals T->DV N T ds->Asc ds -> (∃(i:Nat) (d:Bb) (t:Nat) (vals':A0),ds[i]?=some d/\d.trail=(t:Int)/\d.turned=false/\d.variable_<=n/\(∀(j:Nat) e,i<j->ds[j]?=some e->e.turned=true\/n<e.variable_) /\
   bv (cX ebad n) fu (T,ds,done,vals)=some (.inl (true,(t:Int),vals',T.take t++[d.variable_],ds.take i++[⟨d.variable_,(t:Int),true⟩]))/\VT N vals' (T.take t++[d.variable_])) \/
  ((∀(j:Nat) e,ds[j]?=some e->e.turned=true\/n<e.variable_)/\∃T' done' vals',bv (cX ebad n) fu (T,ds,done,vals)=some (.inr (T',[],done',vals'))/\VT N vals' T')
 |0,fu,T,vals,ds,done,hm,hf,h,hd,ha=>by
  obtain⟨fu,rfl⟩:∃k,fu=k+1:=⟨fu-1,by omega⟩
  obtain rfl:ds=[]:=List.eq_nil_of_length_eq_zero hm;refine .inr ⟨λj e hj=>by simp at hj,T,done,vals,?_,h⟩;rw[bv];rfl
 |m+1,fu,T,vals,ds,done,hm,hf,h,hd,ha=>by
  obtain⟨fu,rfl⟩:∃k,fu=k+1:=⟨fu-1,by omega⟩
  obtain⟨D,d,rfl⟩:∃D d,ds=D++[d]:=by rcases List.eq_nil_or_concat ds with rfl|⟨D,d,rfl⟩;{simp at hm};simp
  have hDm:D.length=m:=by simpa using hm
  have hTl:=h.tr.len;have hN:=h.big;have hlast:(D++[d])[D.length]?=some d:=by simp
  obtain⟨t,hdt,htl,hv0,hvN,hlv⟩:=hd _ d hlast;have hmN:(D++[d]).length<=T.length:=ha.le λj e hj=>by obtain⟨t,h1,h2,_⟩:=hd j e hj;grind
  obtain⟨vals1,hb,h1⟩:=back_eq h (D:=D) hdt (Nat.le_of_lt htl) (by simp at hmN;omega) done ebad;have hvo:iY N d.variable_:=⟨by omega,by omega⟩
  have htake:(D++[d]).take ((bZ .i64 (br (D++[d])) 1).toNat)=D:=by rw[jq (by simp[br];omega)];simp[br]
  have hgt:gtB (br (D++[d])) 0=true:=by simp only[gtB,br,List.length_append,List.length_singleton,decide_eq_true_eq];omega
  by_cases hc:d.turned=false/\d.variable_<=n
  ·obtain⟨hc1,hc2⟩:=hc;obtain⟨vals2,hdec,h2⟩:=decide_eq_ h1 (ds:=D) (by simp at hmN;omega) hvo hlv (t:Int) ebad true;refine .inl ⟨D.length,d,t,vals2,hlast,hdt,hc1,hc2,λj e hj he=>?_,?_,h2⟩;{grind}
   ·rw[bv];have:cX ebad n (T,D++[d],done,vals)=some (.out (.inl (true,(t:Int),vals2,T.take t++[d.variable_],(D++[d]).take D.length++[⟨d.variable_,(t:Int),true⟩]))):=by unfold cX;dsimp only;rw[hgt,cond_true,hb,be];dsimp only;rw[hc1,show e9 false=true from rfl,cond_true,be,show leB d.variable_ n=true from by simpa [leB] using hc2,cond_true,htake,hdec,be,imax_abs hN hvo,show ((d.variable_.natAbs:Nat):Int)=d.variable_ from by omega,show br (T.take t)=(t:Int)from by simp[br];omega];simp
    rw[this]
  ·have hstep:cX ebad n (T,D++[d],done,vals)=some (.next (T.take t,D,(t:Int),vals1)):=by
    unfold cX;dsimp only;rw[hgt,cond_true,hb,be];dsimp only;rw[htake];cases htu:d.turned with
    |true=>rfl|false=>rw[show e9 false=true from rfl,cond_true,be,show leB d.variable_ n=false from by simp_all[leB]];rfl
   have hasc:∀(j:Nat) e,D[j]?=some e->(D++[d])[j]?=some e/\e.trail<(t:Int):=λj e hj=>by
    have hjl:=(List.getElem?_eq_some_iff.1 hj).1;have h2:(D++[d])[j]?=some e:=by grind
    have:=ha j D.length e d hjl h2 hlast;simp_all
   have hd':DV N (T.take t) D:=λj e hj=>by obtain⟨h2,h3⟩:=hasc j e hj;obtain⟨te,g1,g2,g3,g4,g5⟩:=hd j e h2;grind
   have ha':Asc D:=λi j e e' hij he he'=>ha i j e e' hij (hasc i e he).1 (hasc j e' he').1;have hlst:∀j e,D.length<=j->(D++[d])[j]?=some e->e.turned=true\/n<e.variable_:=λj e hj he=>by grind
   rcases turn_run ebad n m fu (t:Int) hDm (by omega) h1 hd' ha' with⟨i,d',t',vals',g1,g2,g3,g4,g5,g6,g7⟩|⟨g1,T',done',vals',g2,g3⟩
   ·have hil:=(List.getElem?_eq_some_iff.1 g1).1;obtain⟨g8,g9⟩:=hasc i d' g1;have htt:(T.take t).take t'=T.take t':=by grind
    rw[htt] at g6 g7;refine .inl ⟨i,d',t',vals',g8,g2,g3,g4,λj e hij he=>?_,?_,g7⟩;{grind};grind[bv]
   grind[bv]
def dl (d:Bb):Int:=bif d.turned then d.variable_ else -d.variable_
structure EIL (N:Nat) (U:A0) (C0:A1) (T:A0) (ds:AI) (C:A1) (W:A2) (vals:A0):Prop where
 vt:VT N vals T
 up:U <+: T
 co:ClO N C
 sem:∀I,css I C↔css I C0
 wio:WIO C W
 dv:DV N T ds
 ut:∀(j:Nat) d,ds[j]?=some d->(U.length:Int)<=d.trail
 asc:Asc ds
 tl:∀(j:Nat) d,ds[j]?=some d->T[d.trail.toNat]?=some (dl d)
 low:∀(j:Nat) d,ds[j]?=some d->∀v:Nat,1<=v->(v:Int)<d.variable_->lv (T.take d.trail.toNat) (v:Int)≠0
 lev:∀(j:Nat) d,ds[j]?=some d->∀I,css I C0->trs I U->(∀(i:Nat) e,i<j->ds[i]?=some e->tr I (dl e)=true)->trs I (T.take d.trail.toNat)
 str:∀(j:Nat) d,ds[j]?=some d->∀c∈C,SW c (T.take d.trail.toNat) (T.take d.trail.toNat)
def Top (U:A0) (C0:A1) (T:A0) (ds:AI):Prop:=∀I,css I C0->trs I U->(∀(i:Nat) e,ds[i]?=some e->tr I (dl e)=true)->trs I T
structure Dn (T:A0) (ds:AI) (C:A1) (k:Nat):Prop where
 le:k<=T.length
 bd:∀(j:Nat) d,ds[j]?=some d->d.trail.toNat<=k
 weak:∀c∈C,SW c (T.take k) T
def Rem (ds:AI) (I:An):Prop:=∃i:Nat,i<=ds.length/\(∀(j:Nat) d,j<i->ds[j]?=some d->tr I (dl d)=true)/\∀d,ds[i]?=some d->d.turned=false/\tr I (dl d)=false
theorem Rem.nil (I:An):Rem [] I:=⟨0,Nat.le_refl _,λ_ _ h=>by omega,λ_ h=>by simp at h⟩
theorem rem_push {ds:AI} {d:Bb} (hd:d.turned=false) (I:An):Rem ds I↔Rem (ds++[d]) I:=by
 have hget:∀j:Nat,j<ds.length->(ds++[d])[j]?=ds[j]?:=λj hj=>List.getElem?_append_left hj;have hlast:(ds++[d])[ds.length]?=some d:=by simp
 have hall:∀i:Nat,i<=ds.length->((∀(j:Nat) e,j<i->(ds++[d])[j]?=some e->tr I (dl e)=true)↔∀(j:Nat) e,j<i->ds[j]?=some e->tr I (dl e)=true):=λi hi=>
  forall_congr' λj=>forall_congr' λe=>forall_congr' λhj=>by grind
 constructor
 ·rintro⟨i,hi,h1,h2⟩;rcases Nat.lt_or_ge i ds.length with hlt|hge;{exact⟨i,by simp;omega,(hall i hi).2 h1,λe he=>h2 e (by simp_all)⟩}
  ·have:i=ds.length:=by omega
   subst this;cases hv:tr I (dl d)with
   |true=>refine⟨ds.length+1,by simp,λj e hj he=>?_,λe he=>by simp_all⟩;grind|false=>refine⟨ds.length,by simp,(hall _ hi).2 h1,λe he=>?_⟩;simp_all
 ·rintro⟨i,hi,h1,h2⟩;rcases Nat.lt_or_ge i ds.length with hlt|hge;{exact⟨i,by omega,(hall i (by omega)).1 h1,λe he=>h2 e (by rwa [hget i hlt])⟩};{refine⟨ds.length,Nat.le_refl _,λj e hj he=>h1 j e (by omega) (by rwa [hget j hj]),λe he=>by simp_all⟩}
theorem take_snoc_get {ds:AI} {i:Nat} {d:Bb} (hi:i<ds.length):(∀j:Nat,j<i->(ds.take i++[d])[j]?=ds[j]?)/\(ds.take i++[d])[i]?=some d/\(ds.take i++[d]).length=i+1:=by grind
theorem rem_turn {ds:AI} {i:Nat} {d:Bb} {t:Int} (hi:ds[i]?=some d) (hd:d.turned=false) (hv:d.variable_≠0) (I:An) :
  Rem (ds.take i++[⟨d.variable_,t,true⟩]) I↔∃k:Nat,k<=i/\(∀(j:Nat) e,j<k->ds[j]?=some e->tr I (dl e)=true)/\∀e,ds[k]?=some e->e.turned=false/\tr I (dl e)=false:=by
 have hil:=(List.getElem?_eq_some_iff.1 hi).1;obtain⟨g1,g2,g3⟩:=take_snoc_get (ds:=ds) (i:=i) (d:=⟨d.variable_,t,true⟩) hil;have hdl:dl d=-d.variable_:=by unfold dl;rw[hd];rfl
 constructor
 ·rintro⟨k,hk,h1,h2⟩;rw[g3] at hk;rcases Nat.lt_trichotomy k i with h3|h3|h3;{grind};{simp_all}
  ·have:k=i+1:=by omega
   subst this;refine⟨i,Nat.le_refl _,λj e hj he=>h1 j e (by omega) (by rwa [g1 j hj]),λe he=>?_⟩;rw[hi] at he;cases he;refine⟨hd,?_⟩;have h4:tr I d.variable_=true:=h1 i _ (Nat.lt_succ_self i) g2;rw[hdl,tr_neg I hv,h4];rfl
 ·rintro⟨k,hk,h1,h2⟩;rcases Nat.lt_or_ge k i with h3|h3;{exact⟨k,by omega,λj e hj he=>h1 j e hj (by grind),λe he=>h2 e (by grind)⟩}
  ·have:k=i:=by omega
   subst this;have h4:=(h2 _ hi).2;rw[hdl,tr_neg I hv] at h4;have h5:tr I d.variable_=true:=by simp_all
   refine⟨k+1,by omega,λj e hj he=>?_,λe he=>by simp_all⟩;rcases Nat.lt_or_ge j k with h7|h7;{grind}
   ·have:j=k:=by omega
    subst this;rw[g2] at he;cases he;exact h5
def mu (N:Nat):AI->Nat->Nat|[],i=>2 ^ (N-i)|d::ds,i=>(bif d.turned then 0 else 2 ^ (N-(i+1)))+mu N ds (i+1)
theorem pow_half {N i:Nat} (h:i<N):2 ^ (N-i)=2 ^ (N-(i+1))+2 ^ (N-(i+1)):=by rw[show N-i=(N-(i+1))+1 from by omega,Nat.pow_succ];omega
theorem mu_pos (N:Nat):∀(ds:AI) (i:Nat),1<=mu N ds i|[],_i=>Nat.one_le_two_pow|_::ds,i=>Nat.le_trans (mu_pos N ds (i+1)) (Nat.le_add_left _ _)
theorem mu_le (N:Nat):∀(ds:AI) (i:Nat),i+ds.length<=N->mu N ds i<=2 ^ (N-i)|[],i,_=>Nat.le_refl _|d::ds,i,h=>by simp only[List.length_cons] at h;have h1:=mu_le N ds (i+1) (by omega);have h2:=pow_half (N:=N) (i:=i) (by omega);simp only[mu];grind
theorem mu_push (N:Nat) {d:Bb} (hd:d.turned=false):∀(ds:AI) (i:Nat),i+ds.length<N->mu N (ds++[d]) i=mu N ds i|[],i,h=>by simp_all[mu,pow_half]|e::ds,i,h=>by simp only[List.length_cons] at h;simp only[List.cons_append,mu];rw[mu_push N hd ds (i+1) (by omega)]
theorem mu_turn (N:Nat) {v t:Int}:∀(ds:AI) (i k:Nat) {d:Bb},ds[k]?=some d->d.turned=false->mu N (ds.take k++[⟨v,t,true⟩]) i<mu N ds i|[],i,k,d,h,_=>by simp at h|e::ds,i,0,d,h,hd=>by simp at h;subst h;have:=mu_pos N ds (i+1);simp only[List.take_zero,List.nil_append,mu,hd,cond_true,cond_false];omega|e::ds,i,k+1,d,h,hd=>by have ih:=mu_turn N (v:=v) (t:=t) ds (i+1) k (d:=d) (by simpa using h) hd;simp only[List.take_succ_cons,List.cons_append,mu];omega
def meas (N:Nat) (ds:AI):Nat:=mu N ds 0*(N+1)+(N-ds.length)
theorem meas_push {N:Nat} {ds:AI} {d:Bb} (hd:d.turned=false) (h:ds.length<N):meas N (ds++[d])<meas N ds:=by grind[meas,mu_push]
theorem meas_turn {N:Nat} {ds:AI} {k:Nat} {d:Bb} {v t:Int} (hk:ds[k]?=some d) (hd:d.turned=false):meas N (ds.take k++[⟨v,t,true⟩])<meas N ds:=by have h:=mu_turn N (v:=v) (t:=t) ds 0 k hk hd;unfold meas;have h2:(mu N (ds.take k++[⟨v,t,true⟩]) 0+1)*(N+1)<=mu N ds 0*(N+1):=Nat.mul_le_mul_right _ h;grind
theorem meas_lt {N:Nat} (hN:N<=65536) {ds:AI} (h:ds.length<=N):meas N ds<loopG:=by
 have h1:=mu_le N ds 0 (by omega);have h0:∃K,65560<=K/\loopG=2 ^ K:=⟨70000,by omega,by delta loopG;exact Eq.refl _⟩
 obtain⟨K,hK,hG⟩:=h0;have h2:2 ^ (N-0)<=2 ^ (K-24):=Nat.pow_le_pow_right (by omega) (by omega);have h5:2 ^ K=2 ^ (K-24)*2 ^ 24:=by rw[<- Nat.pow_add,Nat.sub_add_cancel (by omega)]
 have h3:mu N ds 0*(N+1)<=2 ^ (K-24)*65537:=Nat.mul_le_mul (Nat.le_trans h1 h2) (by omega);have h6:0<2 ^ (K-24):=Nat.two_pow_pos _;unfold meas;rw[hG,h5];omega
theorem pre_get {T T':A0} (h:T <+: T') {i:Nat} {x:Int} (hx:T[i]?=some x):T'[i]?=some x:=by obtain⟨s,rfl⟩:=h;grind
section
variable {N:Nat} {U:A0} {C0:A1} {T:A0} {ds:AI} {C:A1} {W:A2} {vals:A0}
def Bds (ds:AI) (τ:Nat):Prop:=∃(j:Nat) (d:Bb),ds[j]?=some d/\d.trail.toNat=τ
theorem EIL.tle (h:EIL N U C0 T ds C W vals) {j:Nat} {d:Bb} (hj:ds[j]?=some d):d.trail.toNat<=T.length:=by obtain⟨t,h1,h2,_⟩:=h.dv j d hj;omega
theorem EIL.dlen (h:EIL N U C0 T ds C W vals):ds.length<=T.length:=h.asc.le λj d hj=>by obtain⟨t,h1,h2,_⟩:=h.dv j d hj;grind
theorem EIL.mono (h:EIL N U C0 T ds C W vals) {T':A0} {C':A1} {W':A2} {vals':A0} (hp:T <+: T') (hv:VT N vals' T') (hc:ClO N C') (hs:∀I,css I C'↔css I C) (hw:WIO C' W') (hst:∀τ,Bds ds τ->∀c∈C',SW c (T'.take τ) (T'.take τ)):EIL N U C0 T' ds C' W' vals':=by refine⟨hv,h.up.trans hp,hc,λI=>(hs I).trans (h.sem I),hw,λj d hj=>?_,h.ut,h.asc,λj d hj=>pre_get hp (h.tl j d hj),λj d hj v=>?_,λj d hj=>?_,λj d hj=>hst _ ⟨j,d,hj,rfl⟩⟩;{obtain⟨t,h1,h2,h3,h4,h5⟩:=h.dv j d hj;grind[tq]};{rw[tq hp (h.tle hj)];exact h.low j d hj v};{rw[tq hp (h.tle hj)];exact h.lev j d hj}
theorem EIL.start (h:EIL N U C0 T ds C W vals) {k:Nat} (hk:Dn T ds C k):VG N (Bds ds) T C k T C W vals :=⟨h.vt,List.prefix_refl _,h.co,λ_=>Iff.rfl,λ_ _ h=>h,h.wio,λ_τ ⟨j,d,hj,he⟩=>he ▸ hk.bd j d hj,λ_τ ⟨j,d,hj,he⟩=>he ▸ h.str j d hj,hk.weak⟩
theorem EIL.prop (h:EIL N U C0 T ds C W vals) (ht:Top U C0 T ds) {k:Nat} (hk:Dn T ds C k) (ebad:Bool) :(∃T' C' W' vals',dF C W vals T (k:Int) ds ebad=some (true,(T'.length:Int),C',W',vals',T')/\EIL N U C0 T' ds C' W' vals'/\Top U C0 T' ds/\Dn T' ds C' T'.length) \/ (∃d' T' C' W' vals',dF C W vals T (k:Int) ds ebad=some (false,d',C',W',vals',T')/\EIL N U C0 T' ds C' W' vals'/\∀I,css I C0->trs I U->¬ ∀(i:Nat) e,ds[i]?=some e->tr I (dl e)=true):=by have hN:=h.vt.big;unfold dF;rcases prop_run ds ebad N bL k (h.start hk) hk.le (by omega) (by unfold bL;omega)with⟨T',C',W',vals',h1,g⟩|⟨d',T',C',W',vals',h1,g⟩;{refine .inl ⟨T',C',W',vals',by rw[h1];rfl,h.mono g.pre g.vt g.co g.sem g.wio g.str,λI hC hU hd=>g.imp I ((h.sem I).2 hC) (ht I hC hU hd),⟨Nat.le_refl _,λj d hj=>g.bd _ ⟨j,d,hj,rfl⟩,g.weak⟩⟩};{exact .inr ⟨d',T',C',W',vals',by rw[h1];rfl,h.mono g.pre g.vt g.co g.sem g.wio g.str,λI hC hU hd=>g.bad I ((h.sem I).2 hC) (ht I hC hU hd)⟩}
theorem EIL.turn (h:EIL N U C0 T ds C W vals) {i:Nat} {d:Bb} {t:Nat} (hi:ds[i]?=some d) (ht:d.trail=(t:Int)) {vals':A0} (hv:VT N vals' (T.take t++[d.variable_])) :
  EIL N U C0 (T.take t++[d.variable_]) (ds.take i++[⟨d.variable_,(t:Int),true⟩]) C W vals'/\Top U C0 (T.take t++[d.variable_]) (ds.take i++[⟨d.variable_,(t:Int),true⟩])/\Dn (T.take t++[d.variable_]) (ds.take i++[⟨d.variable_,(t:Int),true⟩]) C t:=by
 have hil:=(List.getElem?_eq_some_iff.1 hi).1;obtain⟨g1,g2,g3⟩:=take_snoc_get (ds:=ds) (i:=i) (d:=⟨d.variable_,(t:Int),true⟩) hil;obtain⟨t',q1,q2,q3,q4,q5⟩:=h.dv i d hi;have htt:t'=t:=by omega
 subst htt;have hl:(T.take t').length=t':=by simp;omega
 have htk:∀n,n<=t'->(T.take t'++[d.variable_]).take n=T.take n:=λn hn=>by grind
 have hcase:∀(j:Nat) e,(ds.take i++[⟨d.variable_,(t':Int),true⟩])[j]?=some e->(j<i/\ds[j]?=some e/\e.trail.toNat<t')\/(j=i/\e=⟨d.variable_,(t':Int),true⟩):=λj e he=>by have hjl:=(List.getElem?_eq_some_iff.1 he).1;rw[g3] at hjl;rcases Nat.lt_or_ge j i with h1|h1;{rw[g1 j h1] at he;have:=h.asc j i e d h1 he hi;exact .inl ⟨h1,he,by obtain⟨u,hu,_⟩:=h.dv j e he;omega⟩};grind
 have hUt:U.length<=t':=by have:=h.ut i d hi;omega
 have hstr:∀c∈C,SW c (T.take t') (T.take t'):=by have:=h.str i d hi;simp_all
 refine⟨⟨hv,?_,h.co,h.sem,h.wio,λj e he=>?_,λj e he=>?_,λj k e e' hjk he he'=>?_,λj e he=>?_,λj e he v hv1 hv2=>?_,λj e he I hC hU hd=>?_,λj e he=>?_⟩,λI hC hU hd=>?_,?_,λj e he=>?_,λc hc p q hpq hp=>?_⟩;{refine List.IsPrefix.trans ?_ (List.prefix_append _ _);have h1:=List.prefix_iff_eq_take.1 h.up;grind};{rcases hcase j e he with⟨h1,h2,h3⟩|⟨_,rfl⟩;{obtain⟨u,r1,r2,r3,r4,r5⟩:=h.dv j e h2;exact⟨u,r1,by simp;omega,r3,r4,by rw[htk u (by omega)];exact r5⟩};grind};{rcases hcase j e he with⟨h1,h2,h3⟩|⟨_,rfl⟩;{exact h.ut j e h2};simp_all};{rcases hcase j e he with⟨h1,h2,h3⟩|⟨h1,rfl⟩;{rcases hcase k e' he' with⟨h4,h5,h6⟩|⟨_,rfl⟩;{exact h.asc j k e e' hjk h2 h5};grind};grind};{rcases hcase j e he with⟨h1,h2,h3⟩|⟨_,rfl⟩;{rw[List.getElem?_append_left (by omega),List.getElem?_take,if_pos h3];exact h.tl j e h2};{show (T.take t'++[d.variable_])[(t':Int).toNat]?=_;rw[Int.toNat_natCast,List.getElem?_append_right (by omega),hl,Nat.sub_self];rfl}};{rcases hcase j e he with⟨h1,h2,h3⟩|⟨_,rfl⟩;{rw[htk _ (by omega)];exact h.low j e h2 v hv1 hv2};{show lv ((T.take t'++[d.variable_]).take (t':Int).toNat) (v:Int)≠0;rw[Int.toNat_natCast,htk _ (Nat.le_refl _)];have:=h.low i d hi v hv1 hv2;simp_all}};{rcases hcase j e he with⟨h1,h2,h3⟩|⟨h1,rfl⟩;{rw[htk _ (by omega)];exact h.lev j e h2 I hC hU λk e' hk he'=>hd k e' hk (by grind)};{show trs I ((T.take t'++[d.variable_]).take (t':Int).toNat);rw[Int.toNat_natCast,htk _ (Nat.le_refl _)];have:=h.lev i d hi I hC hU λk e' hk he'=>hd k e' (by omega) (by rwa [g1 k hk]);simp_all}};{rcases hcase j e he with⟨h1,h2,h3⟩|⟨_,rfl⟩;{rw[htk _ (by omega)];exact h.str j e h2};simp_all};{have h1:=h.lev i d hi I hC hU λk e' hk he'=>hd k e' (by rwa [g1 k hk]);rw[ht,Int.toNat_natCast] at h1;have h2:tr I d.variable_=true:=hd i _ g2;intro z hz;rcases List.mem_append.1 hz with hz|hz;{exact h1 z hz};simp_all};{simp;omega};{grind};{rw[htk _ (Nat.le_refl _)] at hp;exact List.mem_append_left _ (hstr c hc p q hpq hp)}
theorem EIL.push (h:EIL N U C0 T ds C W vals) (ht:Top U C0 T ds) (hk:Dn T ds C T.length) {v:Nat} (hv1:1<=v) (hvN:v<=N) (h0:lv T (v:Int)=0) (hlow:∀u:Nat,1<=u->u<v->lv T (u:Int)≠0) {vals':A0} (hv:VT N vals' (T++[-(v:Int)])) :
  EIL N U C0 (T++[-(v:Int)]) (ds++[⟨(v:Int),(T.length:Int),false⟩]) C W vals'/\Top U C0 (T++[-(v:Int)]) (ds++[⟨(v:Int),(T.length:Int),false⟩])/\Dn (T++[-(v:Int)]) (ds++[⟨(v:Int),(T.length:Int),false⟩]) C T.length:=by
 have hpre:T <+: T++[-(v:Int)]:=List.prefix_append _ _;have hlast:(ds++[⟨(v:Int),(T.length:Int),false⟩])[ds.length]?=some ⟨(v:Int),(T.length:Int),false⟩:=by simp
 have hcase:∀(j:Nat) e,(ds++[⟨(v:Int),(T.length:Int),false⟩])[j]?=some e->(j<ds.length/\ds[j]?=some e/\e.trail.toNat<T.length)\/(j=ds.length/\e=⟨(v:Int),(T.length:Int),false⟩):=λj e he=>by have hjl:=(List.getElem?_eq_some_iff.1 he).1;simp at hjl;rcases Nat.lt_or_ge j ds.length with h1|h1;{rw[List.getElem?_append_left h1] at he;exact .inl ⟨h1,he,by obtain⟨u,hu,hu2,_⟩:=h.dv j e he;omega⟩};grind
 have hpt:∀n,n<=T.length->(T++[-(v:Int)]).take n=T.take n:=λn hn=>tq hpre hn;have htl:(T++[-(v:Int)]).take T.length=T:=by simp
 have hsw:∀c∈C,SW c T T:=λc hc=>by have:=hk.weak c hc;simp_all
 refine⟨⟨hv,h.up.trans hpre,h.co,h.sem,h.wio,λj e he=>?_,λj e he=>?_,λj k e e' hjk he he'=>?_,λj e he=>?_,λj e he u hu1 hu2=>?_,λj e he I hC hU hd=>?_,λj e he=>?_⟩,λI hC hU hd=>?_,?_,λj e he=>?_,λc hc p q hpq hp=>?_⟩;{rcases hcase j e he with⟨h1,h2,h3⟩|⟨_,rfl⟩;{obtain⟨u,r1,r2,r3,r4,r5⟩:=h.dv j e h2;grind};grind};{rcases hcase j e he with⟨h1,h2,h3⟩|⟨_,rfl⟩;{exact h.ut j e h2};{have:=h.up.length_le;simp_all}};{rcases hcase j e he with⟨h1,h2,h3⟩|⟨h1,rfl⟩;{rcases hcase k e' he' with⟨h4,h5,h6⟩|⟨_,rfl⟩;{exact h.asc j k e e' hjk h2 h5};grind};grind};{rcases hcase j e he with⟨h1,h2,h3⟩|⟨_,rfl⟩;{exact pre_get hpre (h.tl j e h2)};simp[dl]};{rcases hcase j e he with⟨h1,h2,h3⟩|⟨_,rfl⟩;{rw[hpt _ (by omega)];exact h.low j e h2 u hu1 hu2};simp_all};{rcases hcase j e he with⟨h1,h2,h3⟩|⟨h1,rfl⟩;{rw[hpt _ (by omega)];exact h.lev j e h2 I hC hU λk e' hk' he'=>hd k e' hk' (by grind)};{show trs I ((T++[-(v:Int)]).take (T.length:Int).toNat);rw[Int.toNat_natCast,htl];exact ht I hC hU λk e' he'=>by grind}};{rcases hcase j e he with⟨h1,h2,h3⟩|⟨_,rfl⟩;{rw[hpt _ (by omega)];exact h.str j e h2};simp_all}
 ·have h1:=ht I hC hU λk e' he'=>by grind
  have h2:=hd _ _ hlast;intro z hz;rcases List.mem_append.1 hz with hz|hz;{exact h1 z hz};{rw[List.mem_singleton.1 hz];exact h2}
 ·simp
 ·grind
 ·rw[htl] at hp;exact List.mem_append_left _ (hsw c hc p q hpq hp)
end
theorem scan_run {N:Nat} {T vals:A0} (hv:VT N vals T) {ds:AI} (hds:ds.length<=65536) (done:Int) (C:A1) (W:A2) {ev:A0} (hev:ev.length=N+1) (ebad:Bool):∀(m fu v:Nat),v+m=N+1->1<=v->(∀u:Nat,1<=u->u<v->lv T (u:Int)≠0)->m<fu -> (∃(w:Nat) (vals':A0),1<=w/\w<=N/\lv T (w:Int)=0/\(∀u:Nat,1<=u->u<w->lv T (u:Int)≠0)/\bv (cB ev ebad ds (true,done,C,W,vals,T)) fu (v:Int)=some (.inl (ds++[⟨(w:Int),(T.length:Int),false⟩],T++[-(w:Int)],vals'))/\VT N vals' (T++[-(w:Int)])) \/ ((∀u:Nat,1<=u->u<=N->lv T (u:Int)≠0)/\bv (cB ev ebad ds (true,done,C,W,vals,T)) fu (v:Int)=some (.inr ()))
 |m,fu,v,hm,hv1,hlow,hf=>by
  obtain⟨fu,rfl⟩:∃k,fu=k+1:=⟨fu-1,by omega⟩
  have hN:=hv.big;have hle:leB (v:Int) (bZ .i64 (br ev) 1)=decide (v<=N):=by grind[jq,br,leB]
  rcases Nat.lt_or_ge N v with h1|h1;{grind[bv,cB]}
  ·obtain⟨m,rfl⟩:∃k,m=k+1:=⟨m-1,by omega⟩
   by_cases h0:lv T (v:Int)=0
   ·have hvo:iY N (-(v:Int)):=⟨by omega,by omega⟩
    have h0':lv T (-(v:Int))=0:=by rw[lv_neg hv.tr (x:=(v:Int)) ⟨by omega,by omega⟩,h0];rfl
    obtain⟨vals',hd,hv'⟩:=decide_eq_ hv hds hvo h0' done ebad false;refine .inl ⟨v,vals',hv1,h1,h0,hlow,?_,hv'⟩;rw[bv];have hi:cA .i64 (v:Int)=-(v:Int):=tn hN (x:=(v:Int)) ⟨by omega,by omega⟩;have:cB ev ebad ds (true,done,C,W,vals,T) (v:Int)=some (.out (.inl (ds++[⟨(v:Int),(T.length:Int),false⟩],T++[-(v:Int)],vals'))):=by unfold cB;dsimp only;rw[hle,decide_eq_true h1,cond_true,bE,hv.val v hv1 h1,h0,be,show eqB 0 0=true from rfl,cond_true,hi,hd,be,imax_abs hN hvo,show ((-(v:Int)).natAbs:Int)=(v:Int)from by omega];rfl
    rw[this]
   ·have hstep:cB ev ebad ds (true,done,C,W,vals,T) (v:Int)=some (.next ((v+1:Nat):Int)):=by unfold cB;dsimp only;rw[hle,decide_eq_true h1,cond_true,bE,hv.val v hv1 h1,be,show eqB (lv T (v:Int)) 0=false from by simpa [eqB] using h0,cond_false,zF]
    rw[bv,hstep];exact scan_run hv hds done C W hev ebad m fu (v+1) (by omega) (by omega) (λu hu1 hu2=>by grind) (by omega)
theorem turn_eq {N:Nat} {U:A0} {C0:A1} {T:A0} {ds:AI} {C:A1} {W:A2} {vals:A0} (h:EIL N U C0 T ds C W vals) (done:Int) (ebad:Bool) (n:Int) :(∃(i:Nat) (d:Bb) (t:Nat) (vals':A0),ds[i]?=some d/\d.trail=(t:Int)/\d.turned=false/\d.variable_<=n/\(∀(j:Nat) e,i<j->ds[j]?=some e->e.turned=true\/n<e.variable_) /\
   eg vals T done ds ebad n=some (true,(t:Int),vals',T.take t++[d.variable_],ds.take i++[⟨d.variable_,(t:Int),true⟩])/\VT N vals' (T.take t++[d.variable_])) \/
  ((∀(j:Nat) e,ds[j]?=some e->e.turned=true\/n<e.variable_)/\∃T' done' vals',eg vals T done ds ebad n=some (false,done',vals',T',[])):=by have h1:=h.dlen;have h2:=h.vt.tr.len;have h3:=h.vt.big;unfold eg;rcases turn_run ebad n ds.length bL done rfl (by unfold bL;omega) h.vt h.dv h.asc with⟨i,d,t,vals',g1,g2,g3,g4,g5,g6,g7⟩|⟨g1,T',done',vals',g2,g3⟩;{grind};{exact .inr ⟨g1,T',done',vals',by rw[g2];rfl⟩}
theorem search_run {N:Nat} {U:A0} {C0:A1} {ev:A0} (hev:ev.length=N+1) (ebad:Bool):∀(m fu:Nat) {T:A0} {ds:AI} {C:A1} {W:A2} {vals:A0} {k:Nat},
  EIL N U C0 T ds C W vals->Top U C0 T ds->Dn T ds C k->meas N ds<=m->m<fu -> (∃T' ds' C' W' vals',bv (ce ev ebad) fu (T,ds,(k:Int),C,W,vals)=some (true,(T'.length:Int),C',W',vals',T',ds')/\EIL N U C0 T' ds' C' W' vals'/\Top U C0 T' ds'/\Dn T' ds' C' T'.length/\(∀u:Nat,1<=u->u<=N->lv T' (u:Int)≠0) /\ ∀I,css I C0->trs I U->(Rem ds I↔Rem ds' I)) \/ (∃r,bv (ce ev ebad) fu (T,ds,(k:Int),C,W,vals)=some (false,r)/\∀I,css I C0->trs I U->¬ Rem ds I):=by
 intro m;induction m with
 |zero=>grind[mu_pos,meas]|succ m ih=>
  intro fu T ds C W vals k h ht hk hm hf;obtain⟨fu,rfl⟩:∃q,fu=q+1:=⟨fu-1,by omega⟩
  have hN:=h.vt.big;rcases h.prop ht hk ebad with⟨T',C',W',vals',hp,h',ht',hk'⟩|⟨d',T',C',W',vals',hp,h',hbad⟩
  ·have hTl:=h'.vt.tr.len;have hdl:=h'.dlen;rcases scan_run h'.vt (ds:=ds) (by omega) (T'.length:Int) C' W' hev ebad N bL 1 (by omega) (Nat.le_refl _) (λu hu1 hu2=>by omega) (by unfold bL;omega)with⟨w,vals2,hw1,hw2,hw3,hw4,hw5,hw6⟩|⟨hall,hw5⟩
   ·obtain⟨g1,g2,g3⟩:=h'.push ht' hk' hw1 hw2 hw3 hw4 hw6;have hlt:ds.length<N:=by have:=g1.dlen;have:=g1.vt.tr.len;simp at *;omega
    have hmeas:=meas_push (N:=N) (ds:=ds) (d:=⟨(w:Int),(T'.length:Int),false⟩) rfl hlt;have hstep:ce ev ebad (T,ds,(k:Int),C,W,vals)=some (.next (T'++[-(w:Int)],ds++[⟨(w:Int),(T'.length:Int),false⟩],(T'.length:Int),C',W',vals2)):=by unfold ce;simp_all
    rcases ih fu g1 g2 g3 (by omega) (by omega)with⟨T2,ds2,C2,W2,v2,q1,q2,q3,q4,q5,q6⟩|⟨r,q1,q2⟩;{exact .inl ⟨T2,ds2,C2,W2,v2,by grind[bv],q2,q3,q4,q5,λI hC hU=>(rem_push rfl I).trans (q6 I hC hU)⟩};{exact .inr ⟨r,by grind[bv],λI hC hU hr=>q2 I hC hU ((rem_push rfl I).1 hr)⟩}
   ·refine .inl ⟨T',ds,C',W',vals',?_,h',ht',hk',hall,λ_ _ _=>Iff.rfl⟩;have hstep:ce ev ebad (T,ds,(k:Int),C,W,vals)=some (.out (true,(T'.length:Int),C',W',vals',T',ds)):=by unfold ce;simp_all
    rw[bv,hstep]
  ·have hn:bZ .i64 (br ev) 1=(N:Int):=by grind[jq,br]
   have hmax:∀(j:Nat) e,ds[j]?=some e->(e.turned=true\/(N:Int)<e.variable_)->e.turned=true:=λj e hj hor=>by rcases hor with h1|h1;{exact h1};{obtain⟨_,_,_,_,h2,_⟩:=h'.dv j e hj;omega}
   rcases turn_eq h' d' ebad (N:Int)with⟨i,d,t,vals2,g1,g2,g3,g4,g5,g6,g7⟩|⟨g1,T2,done2,vals2,g2⟩
   ·obtain⟨e1,e2,e3⟩:=h'.turn g1 g2 g7;have hmeas:=meas_turn (N:=N) (ds:=ds) (v:=d.variable_) (t:=(t:Int)) g1 g3;have hstep:ce ev ebad (T,ds,(k:Int),C,W,vals)=some (.next (T'.take t++[d.variable_],ds.take i++[⟨d.variable_,(t:Int),true⟩],(t:Int),C',W',vals2)):=by unfold ce;simp_all
    have hd0:d.variable_≠0:=by obtain⟨_,_,_,h3,_⟩:=h'.dv i d g1;omega
    have hrem:∀I,css I C0->trs I U->(Rem ds I↔Rem (ds.take i++[⟨d.variable_,(t:Int),true⟩]) I):=λI hC hU=>by rw[rem_turn g1 g3 hd0];have hil:=(List.getElem?_eq_some_iff.1 g1).1;constructor;{rintro⟨q,hq,h1,h2⟩;grind};{rintro⟨q,hq,h1,h2⟩;exact⟨q,by omega,h1,h2⟩}
    rcases ih fu e1 e2 e3 (by omega) (by omega)with⟨T2,ds2,C2,W2,v2,q1,q2,q3,q4,q5,q6⟩|⟨r,q1,q2⟩;{exact .inl ⟨T2,ds2,C2,W2,v2,by grind[bv],q2,q3,q4,q5,λI hC hU=>(hrem I hC hU).trans (q6 I hC hU)⟩};simp_all[bv]
   ·refine .inr ⟨(done2,C',W',vals2,T2,[]),?_,λI hC hU ⟨q,hq,h1,h2⟩=>?_⟩
    ·rw[bv];have hstep:ce ev ebad (T,ds,(k:Int),C,W,vals)=some (.out (false,done2,C',W',vals2,T2,[])):=by unfold ce;simp_all
     rw[hstep]
    grind
structure Sol (N:Nat) (U:A0) (C0:A1) (T:A0) (ds:AI) (C:A1) (W:A2) (vals:A0):Prop where
 il:EIL N U C0 T ds C W vals
 top:Top U C0 T ds
 dn:Dn T ds C T.length
 all:∀u:Nat,1<=u->u<=N->lv T (u:Int)≠0
theorem search_eq {N:Nat} {U:A0} {C0:A1} {T:A0} {ds:AI} {C:A1} {W:A2} {vals:A0} {k:Nat} (h:EIL N U C0 T ds C W vals) (ht:Top U C0 T ds) (hk:Dn T ds C k) :(∃T' ds' C' W' vals',db C W vals T (k:Int) ds false=some (true,(T'.length:Int),C',W',vals',T',ds')/\Sol N U C0 T' ds' C' W' vals'/\∀I,css I C0->trs I U->(Rem ds I↔Rem ds' I)) \/ (∃r,db C W vals T (k:Int) ds false=some (false,r)/\∀I,css I C0->trs I U->¬ Rem ds I):=by have h1:=h.dlen;have h2:=h.vt.tr.len;unfold db;rw[cond_false];rcases search_run h.vt.len false (meas N ds) loopG h ht hk (Nat.le_refl _) (meas_lt h.vt.big (by omega))with⟨T',ds',C',W',vals',q1,q2,q3,q4,q5,q6⟩|⟨r,q1,q2⟩;{exact .inl ⟨T',ds',C',W',vals',by rw[q1];rfl,⟨q2,q3,q4,q5⟩,q6⟩};simp_all
def asg (T:A0) (v:Nat):Bool:=decide ((v:Int)∈T)
def bits (I:An) (n:Nat):Ag:=(List.range n).map λv=>I (v+1)
def ltb (a b:Ag):Prop:=∃w:Nat,(∀v,v<w->a[v]?=b[v]?)/\a[w]?=some false/\b[w]?=some true
theorem m6 {I:An} {n v:Nat}:(bits I n)[v]?=if v<n then some (I (v+1))else none:=by simp[bits,List.getElem?_range']
where
 List.getElem?_range':(List.range n)[v]?=if v<n then some v else none:=by grind
theorem bits_len {I:An} {n:Nat}:(bits I n).length=n:=by simp[bits]
theorem bits_ext {I β:An} {n:Nat} (h:∀v,1<=v->v<=n->I v=β v):bits I n=bits β n:=by grind[bits,List.map_congr_left]
theorem tr_asg {N:Nat} {T:A0} (h:TrO N T) {x:Int} (_hx:iY N x) (h0:lv T x≠0):tr (asg T) x=decide (x∈T):=by unfold tr asg;by_cases hp:0<x;{grind};{rw[decide_eq_false hp,cond_false,show ((x.natAbs:Nat):Int)=-x from by omega];by_cases h1:x∈T;{have h2:=h.cons h1;simp[h1,h2]};simp_all[pR]}
section
variable {N:Nat} {U:A0} {C0:A1} {T:A0} {ds:AI} {C:A1} {W:A2} {vals:A0}
theorem lit_all (ha:∀u:Nat,1<=u->u<=N->lv T (u:Int)≠0) (ht:TrO N T) {x:Int} (hx:iY N x):lv T x≠0:=by have h1:=hx.1;have h2:=hx.2;grind[lv_neg]
theorem asg_trs (ht:TrO N T):trs (asg T) T:=λx hx=>by rw[tr_asg ht (ht.ok x hx) (by rw[lv_one.2 hx];omega)];simpa using hx
theorem Sol.sat (s:Sol N U C0 T ds C W vals):css (asg T) C0/\trs (asg T) U:=by
 have ht:=s.il.vt.tr;refine⟨(s.il.sem _).1 λc hc=>?_,λx hx=>asg_trs ht x (s.il.up.subset hx)⟩;have hl:=s.il.co.len c hc
 match c,hl with
 |p::q::r,_=>
  have hp:=s.il.co.ok _ hc p (by simp);have hq:=s.il.co.ok _ hc q (by simp);have h1:=lit_all s.all ht hp;by_cases hpT:p∈T;{exact⟨p,by simp,asg_trs ht p hpT⟩}
  ·have hnp:-p∈T:=by simp_all[pR]
   have:=s.dn.weak _ hc p q (.inl ⟨rfl,rfl⟩) (by simp_all);exact⟨q,by simp,asg_trs ht q this⟩
theorem tr_val {I:An} {T:A0} (_ht:TrO N T) (h:trs I T) {v:Nat} (hv:1<=v) (h0:lv T (v:Int)≠0):I v=asg T v:=by
 unfold asg;by_cases h1:(v:Int)∈T;{have:=h _ h1;unfold tr at this;grind}
 ·have h2:-(v:Int)∈T:=by simp_all[pR]
  have:=h _ h2;simp_all[tr,decide_eq_false]
theorem Sol.rem (s:Sol N U C0 T ds C W vals):Rem ds (asg T):=⟨ds.length,Nat.le_refl _,λj d _ hj=>asg_trs s.il.vt.tr _ (List.mem_of_getElem? (s.il.tl j d hj)),λd hd=>by simp_all⟩
theorem Sol.eq (s:Sol N U C0 T ds C W vals) {I:An} (hC:css I C0) (hU:trs I U) (hd:∀(i:Nat) e,ds[i]?=some e->tr I (dl e)=true) {v:Nat} (h1:1<=v) (h2:v<=N):I v=asg T v :=
 tr_val s.il.vt.tr (s.top I hC hU hd) h1 (s.all v h1 h2)
theorem lv_take {T:A0} {n:Nat} {x:Int} (h:lv (T.take n) x≠0):lv T x≠0:=λh0=>by grind[pR]
theorem Sol.lt (s:Sol N U C0 T ds C W vals) {I:An} (hC:css I C0) (hU:trs I U) {k:Nat} {d:Bb} (hk:ds[k]?=some d) (hb:∀(j:Nat) e,j<k->ds[j]?=some e->tr I (dl e)=true) (htu:d.turned=false) (hv:tr I (dl d)=false) :∃w:Nat,d.variable_=(w:Int)/\1<=w/\w<=N/\(∀v,1<=v->v<w->I v=asg T v)/\I w=true/\asg T w=false:=by
 obtain⟨t,q1,q2,q3,q4,q5⟩:=s.il.dv k d hk;have ht:=s.il.vt.tr;obtain⟨w,hw⟩:∃w:Nat,d.variable_=(w:Int):=⟨d.variable_.toNat,by omega⟩
 have hlev:=s.il.lev k d hk I hC hU hb;have hdl:dl d=-(w:Int):=by simp_all[dl]
 refine⟨w,hw,by omega,by omega,λv h1 h2=>?_,?_,?_⟩;{have h3:=s.il.low k d hk v h1 (by omega);rw[tr_val (ht.take _) hlev h1 h3];have h4:=tr_val (ht.take d.trail.toNat) (I:=asg T) (λx hx=>asg_trs ht x (List.mem_of_mem_take hx)) h1 h3;exact h4.symm};{rw[hdl,tr_neg I (by omega)] at hv;simp_all[tr]}
 ·have h1:-(w:Int)∈T:=by rw[<- hdl];exact List.mem_of_getElem? (s.il.tl k d hk)
  have h2:=ht.cons h1;simp_all[asg]
theorem EIL.vasc (h:EIL N U C0 T ds C W vals) {i j:Nat} {d e:Bb} (hij:i<j) (hi:ds[i]?=some d) (hj:ds[j]?=some e):d.variable_<e.variable_:=by
 obtain⟨t,p1,p2,p3,p4,p5⟩:=h.dv i d hi;obtain⟨u,q1,q2,q3,q4,q5⟩:=h.dv j e hj;have hlt:=h.asc i j d e hij hi hj;have hmem:dl d∈T.take u:=by
  have h1:=h.tl i d hi;have h2:(T.take u)[d.trail.toNat]?=some (dl d):=by simp_all
  grind
 rcases Int.lt_trichotomy d.variable_ e.variable_ with h1|h1|h1;{exact h1};{exfalso;obtain⟨h2,h3⟩:=pR.1 q5;unfold dl at hmem;grind};{exfalso;have h2:=h.low i d hi e.variable_.toNat (by omega) (by omega);rw[p1,Int.toNat_natCast,show ((e.variable_.toNat:Nat):Int)=e.variable_ from by omega] at h2;refine lv_take (n:=t) (T:=T.take u) ?_ q5;grind}
end
theorem first_run {N:Nat} {vals T:A0} (h:VT N vals T) (done:Int) (bad:Bool) {n:Nat} (hn:n<=N):∀(m fu a:Nat) (out:Ag),a+m=n->m<fu->out.length=n->(∀j,j<a->out[j]?=some (asg T (j+1))) ->
  bv (dq vals done bad (n:Int)) fu ((a:Int),out)=some (bits (asg T) n)
 |0,fu,a,out,ha,hf,hl,ho=>by
  obtain⟨fu,rfl⟩:∃k,fu=k+1:=⟨fu-1,by omega⟩
  rw[bv];unfold dq;dsimp only;rw[Int.toNat_natCast,bD,List.length_replicate,zA,cond_false];dsimp only
  congr 1
  apply List.ext_getElem?;grind[m6]
 |m+1,fu,a,out,ha,hf,hl,ho=>by
  obtain⟨fu,rfl⟩:∃k,fu=k+1:=⟨fu-1,by omega⟩
  have hN:=h.big;have hb:dq vals done bad (n:Int) ((a:Int),out)=some (.next (((a+1:Nat):Int),out.set a (asg T (a+1)))):=by unfold dq;dsimp only;rw[Int.toNat_natCast,bD,List.length_replicate,zD,cond_true,zF,bE,h.val (a+1) (by omega) (by omega),be,bE,zB,be,Int.toNat_natCast];grind[asg,eqB,lv]
  rw[bv,hb];refine first_run h done bad hn m fu (a+1) _ (by omega) (by omega) (by simpa using hl) λj hj=>?_;grind
theorem first_eq {N:Nat} {vals T:A0} (h:VT N vals T) (done:Int) (bad:Bool) {n:Nat} (hn:n<=N):eN vals done bad (n:Int)=some (bits (asg T) n):=by
 have hN:=h.big;unfold eN;rw[show mkL 1 (n:Int) (n:Int) false=some (List.replicate (n:Int).toNat false)from by unfold mkL;grind,be,Int.toNat_natCast,show (0:Int)=((0:Nat):Int)from rfl,
  first_run h done bad hn n bL 0 (List.replicate n false) (by omega) (by unfold bL;omega) (by simp) (λj hj=>by omega)]
 rfl
structure Lst (n:Nat) (S:An->Prop) (L:AV):Prop where
 mem:∀l∈L,∃I,S I/\l=bits I n
 srt:L.Pairwise ltb
section
variable {N:Nat} {U:A0} {C0:A1} {T:A0} {ds:AI} {C:A1} {W:A2} {vals:A0}
theorem Sol.after (s:Sol N U C0 T ds C W vals) {n:Nat} (_hn:n<=N) {i:Nat} {d:Bb} (hi:ds[i]?=some d) (hv:d.variable_<=(n:Int)) {I:An} (hC:css I C0) (hU:trs I U) {k:Nat} (hk:k<=i) (hb:∀(j:Nat) e,j<k->ds[j]?=some e->tr I (dl e)=true) (he:∀e,ds[k]?=some e->e.turned=false/\tr I (dl e)=false):ltb (bits (asg T) n) (bits I n):=by
 have hil:=(List.getElem?_eq_some_iff.1 hi).1;have hd:ds[k]?=some (ds[k]'(by omega)):=zB;obtain⟨h2,h3⟩:=he _ hd;obtain⟨w,g1,g2,g3,g4,g5,g6⟩:=s.lt hC hU hd hb h2 h3;have hwn:w<=n:=by rcases Nat.lt_or_ge k i with h4|h4;{have:=s.il.vasc h4 hd hi;omega};grind
 refine⟨w-1,λv hv1=>?_,?_,?_⟩;{rw[m6,m6,if_pos (by omega),if_pos (by omega),g4 (v+1) (by omega) (by omega)]};{rw[m6,if_pos (by omega),show w-1+1=w from by omega,g6]};{rw[m6,if_pos (by omega),show w-1+1=w from by omega,g5]}
end
theorem dedA_mem {z:Int}:∀(l:A0) (p:Int),(z=p\/z∈dedA p l)↔(z=p\/z∈l)|[],p=>by simp[dedA]|y::l,p=>by have ih:=dedA_mem (z:=z) l y;have ih2:=dedA_mem (z:=z) l p;unfold dedA;grind
theorem dedI_mem {z:Int} (l:A0):z∈dedI l↔z∈l:=by
 cases l with
 |nil=>simp[dedI]|cons x l=>simp[dedI,dedA_mem]
theorem dedA_lt:∀(l:A0) (p:Int),(p::l).Pairwise (·<=·)->(dedA p l).Pairwise (· < ·)/\∀y∈dedA p l,p<y|[],p,_=>by simp[dedA]|y::l,p,h=>by obtain⟨h1,h2⟩:=List.pairwise_cons.1 h;obtain⟨h3,h4⟩:=List.pairwise_cons.1 h2;unfold dedA;by_cases hy:y=p;{subst hy;rw[decide_eq_true rfl,cond_true];exact dedA_lt l y h2};{rw[decide_eq_false hy,cond_false];obtain⟨g1,g2⟩:=dedA_lt l y h2;have hpy:=h1 y (by simp);refine⟨List.pairwise_cons.2 ⟨g2,g1⟩,λz hz=>?_⟩;grind}
theorem dedI_nd {l:A0} (h:l.Pairwise (·<=·)):(dedI l).Nodup:=by
 cases l with
 |nil=>simp[dedI]|cons x l=>obtain⟨g1,g2⟩:=dedA_lt l x h;unfold dedI;rw[List.nodup_iff_pairwise_ne];refine List.pairwise_cons.2 ⟨λy hy=>?_,g1.imp λh=>by omega⟩;grind
theorem dedA_len:∀(l:A0) (p:Int),(dedA p l).length<=l.length|[],_=>by simp[dedA]|y::l,p=>by have h1:=dedA_len l p;have h2:=dedA_len l y;grind[dedA]
theorem dedI_len (l:A0):(dedI l).length<=l.length:=by
 cases l with
 |nil=>simp[dedI]|cons x l=>simp[dedA_len,dedI]
def nrm (c:A0):A0:=dedI (insSI c)
theorem nrm_mem {c:A0} {z:Int}:z∈nrm c↔z∈c:=by grind[nrm,dedI_mem,qy]
theorem nrm_nd (c:A0):(nrm c).Nodup:=dedI_nd (insSI_le c)
theorem nrm_len (c:A0):(nrm c).length<=c.length:=by have:=dedI_len (insSI c);rwa [(qy c).length_eq] at this
theorem nrm_cs {I:An} {c:A0}:cs I (nrm c)↔cs I c:=by simp[cs,nrm_mem]
structure FmO (N:Nat) (f:Bv):Prop where
 vars:f.Vars=(N:Int)
 big:N<=65536
 cnt:f.Clauses.length<=262144
 sh:∀c∈f.Clauses,c.length<=1000000
 ok:∀c∈f.Clauses,∀x∈c,iY N x
structure NI (N:Nat) (f:Bv) (a:Nat) (W:A2) (vals:A0) (bad:Bool) (C:A1) (T:A0):Prop where
 vt:VT N vals T
 co:ClO N C
 ca:C.length<=a
 wio:WIO C W
 good:bad=false->∀I,(∀c∈f.Clauses.take a,cs I c)↔(css I C/\trs I T)
 none:bad=true->∀I,¬ ∀c∈f.Clauses.take a,cs I c
section
variable {N:Nat} {f:Bv} {a:Nat} {W:A2} {vals:A0} {bad:Bool} {C:A1} {T:A0}
theorem clone_ok {c:A0} (h:c.length<=1000000):cq c=some c:=by grind[cq,ud]
theorem sort_ok {c:A0} (h:c.length<=1000000):gM c=some (insSI c):=by grind[gM,sortIM]
theorem comp_ok {c:A0} (h:c.length<=1000000):∃y,fN c=some y/\y.1.take y.2=dedI c:=by unfold fN cmpIM;rw[zD,cond_true];simp
theorem watch_ok (h:WIO C W) (hc:C.length<=262144) (hN:N<=65536) {c:A0} {p q:Int} {r:A0} (hcc:c=p::q::r) (hpq:p≠q) (hp:iY N p) (hq:iY N q) (l1:A0) (ai:Int) (l3:A0) {y:A0×Nat} (hy:y.1.take y.2=c) (u:Unit) :∃W',bv (ec f ai l1 bad C l3 y u) bL (0,W)=some W'/\WIO (C++[c]) W':=by
 have hstep:∀(i:Nat) (z:Int) (W1:A2),i<2->c[i]?=some z->iY N z->(wt W1 z).length<=1000000->ec f ai l1 bad C l3 y u ((i:Int),W1)=some (.next (((i+1:Nat):Int),ga (js W1 z) z (wt W1 z++[(C.length:Int)]))):=λi z W1 hi hz hzo hl=>by
  unfold ec;dsimp only;rw[show ltB (i:Int) (lenP 0 2)=true from decide_eq_true (by unfold lenP;omega),cond_true,hy,
   show idxP c 0 2 (i:Int)=some z from by
    simp_all[idxP],
   be,kck_lit hN hzo,be,show eG W1 z []=wt W1 z from rfl,ud (by omega) (by omega) (by simp;omega),be,zF]
  rfl
 have hwl:∀z,(wt W z).length<=262144:=λz=>Nat.le_trans (inW_len (h.nd z) λk hk=>⟨z,(h.mem z k).1 hk⟩) hc;let W1:=ga (js W p) p (wt W p++[(C.length:Int)]);let W2:=ga (js W1 q) q (wt W1 q++[(C.length:Int)]);have hw1:∀z,wt W1 z=if z=p then wt W p++[(C.length:Int)] else wt W z:=λz=>by show eG (ga _ _ _) z []=_;rw[tB,mgetD_mt];rfl
 have hw2:∀z,wt W2 z=if z=p\/z=q then wt W z++[(C.length:Int)] else wt W z:=λz=>by show eG (ga _ _ _) z []=_;rw[tB,mgetD_mt];show (if z=q then wt W1 q++_ else wt W1 z)=_;grind
 obtain⟨o,ho,rfl⟩:=d5 (b:=ec f ai l1 bad C l3 y u) (n:=2) (s:=(0,W)) (λi st=>st=((i:Int),if i=0 then W else if i=1 then W1 else W2)) (λo=>o=W2) (by omega) rfl (λi st hi e=>by grind) (λst e=>by subst e;refine⟨_,?_,rfl⟩;rfl);have hiw:∀z k,inW (C++[c]) z k↔inW C z k\/(k=(C.length:Int)/\(z=p\/z=q)):=λz k=>by
  constructor
  ·rintro⟨i,d,rfl,hi,hw⟩;rcases Nat.lt_or_ge i C.length with h1|h1;{rw[List.getElem?_append_left h1] at hi;exact .inl ⟨i,d,rfl,hi,hw⟩}
   ·have hil:=(List.getElem?_eq_some_iff.1 hi).1;simp at hil;have:i=C.length:=by omega
    subst this;simp at hi;subst hi;rw[hcc] at hw;simp only[isW,List.getElem?_cons_zero,List.getElem?_cons_succ,Option.some.injEq] at hw;omega
  ·rintro (⟨i,d,rfl,hi,hw⟩|⟨rfl,hz⟩);{exact⟨i,d,rfl,by grind,hw⟩};{refine⟨C.length,c,rfl,by simp,?_⟩;grind[isW]}
 refine⟨W2,ho,⟨λz k=>?_,λz=>?_⟩⟩;{rw[hw2,hiw,<- h.mem z k];grind};{rw[hw2];split;{rw[List.nodup_append];refine⟨h.nd z,by simp,λb hb b' hb'=>?_⟩;rw[List.mem_singleton] at hb';subst hb';rintro rfl;obtain⟨i,d,he,hi,_⟩:=(h.mem z _).1 hb;grind};{exact h.nd z}}
theorem take_at {x:A0} {l:A1} (hx:l[a]?=some x) (I:An):(∀c∈l.take (a+1),cs I c)↔(∀c∈l.take a,cs I c)/\cs I x:=by rw[List.take_add_one,hx];grind
theorem NI.step (F:FmO N f) (h:NI N f a W vals bad C T) (ha:a<f.Clauses.length) :∃W' vals' bad' C' T',ea f ((a:Int),W,vals,bad,C,T)=some (.next (((a+1:Nat):Int),W',vals',bad',C',T'))/\NI N f (a+1) W' vals' bad' C' T':=by
 have hx:f.Clauses[a]?=some f.Clauses[a]:=List.getElem?_eq_getElem ha;generalize f.Clauses[a]=x at hx;have hxm:x∈f.Clauses:=List.mem_of_getElem? hx;have hxl:=F.sh x hxm;have hxo:=F.ok x hxm;have hcnt:=F.cnt;have hN:=F.big;have hca:=h.ca;obtain⟨y,hy1,hy2⟩:=comp_ok (c:=insSI x) (by rw[(qy x).length_eq];exact hxl);have hy3:y.1.take y.2=nrm x:=hy2;have hta:=take_at hx;have hnl:=nrm_len x;have hup:bC .i64 (a:Int) 1=((a+1:Nat):Int):=zF;have hnbad:bad=true->∀I,¬ ∀c∈f.Clauses.take (a+1),cs I c:=λhb I hc=>h.none hb I ((hta I).1 hc).1;have hb0:ea f ((a:Int),W,vals,bad,C,T)=(bif (eqB (br (nrm x)) 0)then
    some (.next (((a+1:Nat):Int),W,vals,true,C,T))
   else (bif (eqB (br (nrm x)) 1)then (idx (nrm x) 0).bind λx1=>(f9 vals T 0 [] bad x1).bind λy3=>(bif (eqB y3 (-1))then
      some (.next (((a+1:Nat):Int),W,vals,true,C,T))
     else (bif (eqB y3 0)then (dN vals T 0 bad x1).bind λy4=>
       some (.next (((a+1:Nat):Int),W,y4,bad,C,(T++[x1])))
      else
       some (.next (((a+1:Nat):Int),W,vals,bad,C,T))))
    else (dp 24 C [nrm x]).bind λ_=>(rl (nrm x) 0 2).bind λu=>(bv (ec f a vals bad C T y u) bL (0,W)).bind λmp1=>
     some (.next (((a+1:Nat):Int),mp1,vals,bad,(C++[nrm x]),T)))):=by simp_all[ea,bD,bE,clone_ok,sort_ok]
 rw[hb0]
 match hc:nrm x with
 |[]=>
  refine⟨W,vals,true,C,T,rfl,h.vt,h.co,by omega,h.wio,λhb=>(by cases hb),λ_ I hall=>?_⟩;have h1:=((hta I).1 hall).2;rw[<- nrm_cs,hc] at h1;obtain⟨z,hz,_⟩:=h1;cases hz
 |[z]=>
  have hzo:iY N z:=hxo z (nrm_mem.1 (by rw[hc];simp));have hcsz:∀I,cs I x↔tr I z=true:=λI=>by rw[<- nrm_cs,hc];unfold cs;simp
  rw[show eqB (br [z]) 0=false from rfl,cond_false,show eqB (br [z]) 1=true from rfl,cond_true,show idx [z] 0=some z from rfl,be,of_eq h.vt _ _ _ _ hzo,be];rcases lv_cases T z with h0|h0|h0;{rw[h0];refine⟨W,vals,bad,C,T,rfl,h.vt,h.co,by omega,h.wio,λhb I=>?_,hnbad⟩;rw[hta,h.good hb,hcsz];exact⟨λh=>h.1,λh1=>⟨h1,h1.2 z (lv_one.1 h0)⟩⟩};{rw[h0];refine⟨W,vals,true,C,T,rfl,h.vt,h.co,by omega,h.wio,λhb=>(by cases hb),λ_ I hall=>?_⟩;obtain⟨h1,h2⟩:=(hta I).1 hall;cases hb:bad with|true=>exact h.none hb I h1|false=>have h3:=((h.good hb I).1 h1).2 _ ((lv_no h.vt.tr).1 h0);rw[tr_neg I hzo.1,(hcsz I).1 h2] at h3;cases h3};{rw[h0];obtain⟨h1,h2⟩:=pR.1 h0;obtain⟨vals',hs,hv'⟩:=h.vt.set hzo h1 h2 0 bad;rw[show eqB 0 (-1)=false from rfl,cond_false,show eqB 0 0=true from rfl,cond_true,hs,be];refine⟨W,vals',bad,C,T++[z],rfl,hv',h.co,by omega,h.wio,λhb I=>?_,hnbad⟩;rw[hta,h.good hb,hcsz];constructor;{rintro⟨⟨g1,g2⟩,g3⟩;refine⟨g1,λw hw=>?_⟩;rcases List.mem_append.1 hw with hw|hw;{exact g2 w hw};grind};{rintro⟨g1,g2⟩;exact⟨⟨g1,λw hw=>g2 w (List.mem_append_left _ hw)⟩,g2 z (by simp)⟩}}
 |p::q::r=>
  have hnd:=nrm_nd x;rw[hc] at hnd hnl;have hpq:p≠q:=λe=>(List.nodup_cons.1 hnd).1 (by simp[e]);have hok:∀z∈p::q::r,iY N z:=λz hz=>hxo z (nrm_mem.1 (by rw[hc];exact hz));obtain⟨W',hW',hw⟩:=watch_ok (f:=f) (bad:=bad) h.wio (by omega) hN (c:=p::q::r) rfl hpq (hok p (by simp)) (hok q (by simp)) vals (a:Int) T (y:=y) (by rw[hy3,hc]) ();rw[show eqB (br (p::q::r)) 0=false from by rfl,cond_false,show eqB (br (p::q::r)) 1=false from by rfl,cond_false,ud (by omega) (by omega) (by simp;omega),be,
   show rl (p::q::r) 0 2=some ()from by grind[rl],be,hW',be]
  refine⟨W',vals,bad,C++[p::q::r],T,rfl,h.vt,⟨λc hc'=>?_,λc hc'=>?_,λc hc'=>?_,λc hc'=>?_,by simp;omega⟩,by simp;omega,hw,λhb I=>?_,hnbad⟩;{rcases List.mem_append.1 hc' with h1|h1;{exact h.co.len c h1};grind};{rcases List.mem_append.1 hc' with h1|h1;{exact h.co.sh c h1};grind};{rcases List.mem_append.1 hc' with h1|h1;{exact h.co.nd c h1};simp_all};{rcases List.mem_append.1 hc' with h1|h1;{exact h.co.ok c h1};simp_all};{rw[hta,h.good hb,<- nrm_cs (c:=x),hc];grind[css]}
end
theorem VT.zero {N:Nat} (hN:N<=65536):VT N (List.replicate (N+1) 0) []:=by refine⟨by simp,hN,⟨λx hx=>(by cases hx),by simp⟩,λv h1 h2=>?_⟩;rw[List.getElem?_replicate,if_pos (by omega)];simp[lv]
theorem new_eq {N:Nat} {f:Bv} (F:FmO N f):∃W vals bad C T,gL f=some (W,vals,bad,C,T)/\NI N f f.Clauses.length W vals bad C T:=by
 have hN:=F.big;have hcnt:=F.cnt;have hv:bC .i64 f.Vars 1=((N+1:Nat):Int):=by rw[F.vars,zF]
 have h0:NI N f 0 [] (List.replicate (N+1) 0) false [] []:=⟨VT.zero hN,⟨λc hc=>(by cases hc),λc hc=>(by cases hc),λc hc=>(by cases hc),λc hc=>(by cases hc),by simp⟩,Nat.le_refl _,⟨λz k=>by
   constructor;{intro h;cases h}
   ·rintro⟨i,c,_,hi,_⟩;simp at hi,λz=>by show (eG [] z []).Nodup;simp[eG,gx]⟩,λ_ I=>⟨λ_=>⟨λc hc=>(by cases hc),λc hc=>(by cases hc)⟩,λ_ c hc=>by simp at hc⟩,λh=>by cases h⟩
 obtain⟨o,ho,W,vals,bad,C,T,rfl,hq⟩:=d5 (b:=ea f) (n:=f.Clauses.length) (s:=(0,([]:A2),List.replicate (N+1) 0,false,([]:A1),[])) (λa st=>∃W vals bad C T,st=((a:Int),W,vals,bad,C,T)/\NI N f a W vals bad C T) (λo=>∃W vals bad C T,o=(W,vals,bad,C,T)/\NI N f f.Clauses.length W vals bad C T) (by omega) ⟨_,_,_,_,_,rfl,h0⟩ (λa st ha ⟨W,vals,bad,C,T,e,h⟩=>by subst e;obtain⟨W',vals',bad',C',T',h1,h2⟩:=h.step F ha;grind) (λst ⟨W,vals,bad,C,T,e,h⟩=>by subst e;refine⟨_,?_,_,_,_,_,_,rfl,h⟩;simp[ea,bD]);refine⟨W,vals,bad,C,T,?_,hq⟩;unfold gL;rw[hv];unfold mkL;grind
def satF (f:Bv) (I:An):Prop:=∀c∈f.Clauses,cs I c
theorem right_ok {N:Nat} {f:Bv} (F:FmO N f):jh f=some true:=by
 have hN:=F.big;have hcnt:=F.cnt;have hp:∀c∈f.Clauses,ky f.Vars c=some true:=λc hc=>by
  have hl:=F.sh c hc;unfold ky;rw[hZ c (λ_ _=>false) false (by omega) (λi x hx=>by
   have hx':=F.ok c hc x (List.mem_of_getElem? hx);have h1:=hx'.1;have h2:=hx'.2;unfold iT;dsimp only;rw[bD,decide_eq_true (List.getElem?_eq_some_iff.1 hx).1,cond_true,bE,hx,be,F.vars,show eqB x 0=false from by simpa [eqB] using h1,show gtB x (N:Int)=false from zA,
    show cA .i64 (N:Int)=-(N:Int)from by grind[cA,i64_in],show ltB x (-(N:Int))=false from zA,cd (by grind)]
   rfl) (by simp[iT,bD])]
  rw[show iD (λ_ (_:Int)=>false) c 0=false from iA λ_ _ _=>rfl];rfl
 unfold jh;rw[F.vars,show ltB (N:Int) 0=false from zA,show gtB (N:Int) 65536=false from zA,show gtB (br f.Clauses) 262144=false from decide_eq_false (by unfold br;omega)];simp only[cond_false,be];rw[hZ f.Clauses (λ_ _=>false) false (by omega) (λi x hx=>by unfold ju;dsimp only;rw[bD,decide_eq_true (List.getElem?_eq_some_iff.1 hx).1,cond_true,bE,hx,be,hp x (List.mem_of_getElem? hx),be,cd (by grind)];rfl) (by simp[ju,bD])];rw[show iD (λ_ (_:A0)=>false) f.Clauses 0=false from iA λ_ _ _=>rfl];rfl
theorem NI.start {N:Nat} {f:Bv} {W:A2} {vals:A0} {C:A1} {T:A0} {bad:Bool} (h:NI N f f.Clauses.length W vals bad C T):EIL N T C T [] C W vals/\Top T C T []/\Dn T [] C 0 :=⟨⟨h.vt,List.prefix_refl _,h.co,λ_=>Iff.rfl,h.wio,λj d hj=>by simp at hj,λj d hj=>by simp at hj,λi j d e _ hi=>by simp at hi,λj d hj=>by simp at hj,λj d hj=>by simp at hj,λj d hj=>by simp at hj,λj d hj=>by simp at hj⟩,
  λ_ _ hU _=>hU,⟨Nat.zero_le _,λj d hj=>by simp at hj,λc _ p q _ hp=>by simp at hp⟩⟩
theorem NI.sat {N:Nat} {f:Bv} {W:A2} {vals:A0} {C:A1} {T:A0} (h:NI N f f.Clauses.length W vals false C T) (I:An):satF f I↔css I C/\trs I T:=by have:=h.good rfl I;rwa [List.take_length] at this
theorem NI.unsat {N:Nat} {f:Bv} {W:A2} {vals:A0} {C:A1} {T:A0} (h:NI N f f.Clauses.length W vals true C T) (I:An):¬ satF f I:=by have:=h.none rfl I;rwa [List.take_length] at this
theorem first_is {N:Nat} {f:Bv} (F:FmO N f) :(∃β,lG f=some (bits β N,true,0)/\satF f β/\∀I,satF f I->bits I N=bits β N\/ltb (bits β N) (bits I N))\/(lG f=some ([],false,0)/\∀I,¬ satF f I):=by
 obtain⟨W,vals,bad,C,T,h1,h2⟩:=new_eq F;unfold lG;rw[right_ok F,be,show e9 true=false from rfl,cond_false,h1,be];dsimp only;cases bad with
 |true=>refine .inr ⟨?_,h2.unsat⟩;rfl|false=>obtain⟨e1,e2,e3⟩:=h2.start;rw[show (0:Int)=((0:Nat):Int)from rfl];rcases search_eq e1 e2 e3 with⟨T',ds',C',W',vals',q1,q2,q3⟩|⟨r,q1,q2⟩;{refine .inl ⟨asg T',?_,(h2.sat _).2 q2.sat,λI hα=>?_⟩;{rw[q1,be];dsimp only;rw[show e9 true=false from rfl,cond_false,F.vars,first_eq q2.il.vt _ _ (Nat.le_refl N)];rfl};{obtain⟨hC,hU⟩:=(h2.sat I).1 hα;obtain⟨k,hk,g1,g2⟩:=(q3 I hC hU).1 (Rem.nil I);rcases Nat.lt_or_ge k ds'.length with h3|h3;{have hd:ds'[k]?=some ds'[k]:=List.getElem?_eq_getElem h3;obtain⟨_,_,_,_,hv,_⟩:=q2.il.dv k _ hd;refine .inr ?_;obtain⟨g3,g4⟩:=g2 _ hd;exact q2.after (Nat.le_refl N) hd hv hC hU (Nat.le_refl k) g1 λe he=>by simp_all};{exact .inl (bits_ext λv hv1 hv2=>q2.eq hC hU (λi e hi=>g1 i e (by grind) hi) hv1 hv2)}}};{refine .inr ⟨by rw[q1];rfl,λI hα=>?_⟩;obtain⟨hC,hU⟩:=(h2.sat I).1 hα;grind[Rem.nil]}
theorem Lst.mono {n:Nat} {S S':An->Prop} {L:AV} (h:Lst n S L) (hS:∀I,S I->S' I):Lst n S' L:=⟨λl hl=>let ⟨I,h1,h2⟩:=h.mem l hl;⟨I,hS I h1,h2⟩,h.srt⟩
theorem litV_tr (I:An) (x:Int):sQ I x=tr I x:=by unfold sQ tr;grind
theorem satV_cs (I:An) (c:A0):sT I c=true↔cs I c:=by simp[sT,cs,litV_tr]
theorem Sat_satF (I:An) (v:Int) (C:A1):satF ⟨v,C⟩ I↔Sat I C:=forall_congr' λc=>forall_congr' λ_=>(satV_cs I c).symm
theorem bits_num:∀b:Fin 4,∀x y z:Bool,∃c:Fin 8,c.1<2 ^ b.1/\(0<b.1->fU (c.1:Int) 0=x)/\(1<b.1->fU (c.1:Int) 1=y)/\(2<b.1->fU (c.1:Int) 2=z):=by decide
theorem num_of {b:Nat} (hb:b<=3) (f:An):∃c:Nat,c<2 ^ b/\∀j,j<b->fU (c:Int) j=f j:=by obtain⟨c,h1,h2,h3,h4⟩:=bits_num ⟨b,by omega⟩ (f 0) (f 1) (f 2);refine⟨c.1,h1,λj hj=>?_⟩;grind
section
variable {n b:Nat} {t:Tree} {ns:AE} {g:Grid} {w h r:Nat}
theorem cells_vrs {b M k:Nat} (hk:k<M):Vrs (M*b) (cP ((k:Int)*b) b):=by rw[show ((k:Int)*b)=((k*b:Nat):Int) by rfl];refine oB.mono ?_;have:=Nat.mul_le_mul_right b (show k+1<=_ from hk);grind
theorem ex_back {I:Val} {V n b:Nat} (hV:V<=1000000) (hb:b<=3) {vs:A0} (hvs:Vrs V vs) (hl:vs.length=b) (hn:n<=2 ^ b) (h:Sat I (exC n b vs)):∃c:Nat,c<n/\nK I vs c:=by
 obtain⟨c,h1,h2⟩:=num_of hb λj=>I (vs.getD j 0).natAbs;have hB:nK I vs c:=λj x hx=>by grind
 refine⟨c,?_,hB⟩;rcases Nat.lt_or_ge c n with h3|h3;{exact h3};{have h4:agS vs ((n:Int)+((c-n:Nat):Int))∈exC n b vs:=List.mem_map.2 ⟨c-n,List.mem_range.2 (by omega),rfl⟩;have h5:=h _ h4;grind[ag_sat]}
theorem tree_sub (b H:Nat) (in_:List SV):∀(ns:AE) (st:FS),∃ds,(cL b H in_ ns st).2.1=st.2.1++ds
 |[],st=>⟨[],(List.append_nil _).symm⟩|x::ns,st=>by
  obtain⟨ds,h⟩:=tree_sub b H in_ ns (pI b H in_ st x);have h':(cL b H in_ (x::ns) st).2.1=(pI b H in_ st x).2.1++ds:=h;rw[h'];unfold pI;cases tA x with
  |true=>simp|false=>simp
theorem parS_sub {b H:Nat} {ins:Int->Int->List SV} {ns:AE} {w:Nat} {cells:A0} {st:Int×A1}:∀i,∃ds,(lx b H ins ns w cells st i).2=st.2++ds|0=>⟨[],(List.append_nil _).symm⟩|i+1=>by obtain⟨ds,h⟩:=parS_sub (b:=b) (H:=H) (ins:=ins) (ns:=ns) (w:=w) (cells:=cells) (st:=st) i;obtain⟨es,h2⟩:=tree_sub b H (ins (i%w:Nat) (i/w:Nat)) ns ((lx b H ins ns w cells st i).1,(lx b H ins ns w cells st i).2,[]);simp_all[lx,parC]
theorem Sat.left {I:Val} {C D:A1} (h:Sat I (C++D)):Sat I C:=λc hc=>h c (List.mem_append_left _ hc)
theorem cells_back (A:GL_ n b t ns g w h r) {I:Val} (hs:Sat I (f0 n b ((w+2*r)*(h+2*r)))):∃cs:Aj,∀k,k<(w+2*r)*(h+2*r)->cs k<n/\nK I (cP ((k:Int)*b) b) (cs k):=by
 have hb3:=A.R.sb.b3;have hsz:=A.sz;have hV:(w+2*r)*(h+2*r)*b<=16*3:=Nat.mul_le_mul hsz hb3;have key:∀k,∃c:Nat,k<(w+2*r)*(h+2*r)->c<n/\nK I (cP ((k:Int)*b) b) c:=λk=>by by_cases hk:k<(w+2*r)*(h+2*r);{obtain⟨c,h1,h2⟩:=ex_back (V:=(w+2*r)*(h+2*r)*b) (by omega) hb3 (cells_vrs hk) (dE _ _) A.R.sb.pw (λd hd=>hs d (nD.2 ⟨k,_,cells_get hk,hd⟩));grind};{exact⟨0,λh=>(hk h).elim⟩}
 exact⟨λk=>Classical.choose (key k),λk hk=>Classical.choose_spec (key k) hk⟩
def LeadsN (t:Tree) (ns:AE) (g:Grid) (w h r:Nat) (cs:Aj):Prop:=∀j,j<w*h->lz ⟨t.States,t.Hood,ns⟩ (seenL t w r cs j) ((ns.length-1:Nat):Int)=some (g.Cells.getD j 0)
theorem par_back (A:GL_ n b t ns g w h r) (hg:∀s∈g.Cells,s<(n:Int)) {I:Val} (hs:Sat I (om b t ns g n w h r).2) :∃cs:Aj,(∀k,k<(w+2*r)*(h+2*r)->cs k<n/\nK I (cP ((k:Int)*b) b) (cs k))/\LeadsN t ns g w h r cs:=by
 unfold om at hs;obtain⟨ds,hds⟩:=parS_sub (b:=b) (H:=t.Hood.length) (ins:=inS (-(r:Int)) (-(r:Int)) (w+2*r) (h+2*r) (cV b ((w+2*r)*(h+2*r))) t.Hood) (ns:=ns) (w:=w) (cells:=g.Cells) (st:=((((w+2*r)*(h+2*r):Nat):Int)*b,f0 n b ((w+2*r)*(h+2*r)))) (w*h);obtain⟨cs,hcs⟩:=cells_back A (I:=I) (by rw[hds] at hs;exact hs.left);obtain⟨V',A',P⟩:=par_sem A hcs hg (w*h) (Nat.le_refl _);refine⟨cs,hcs,P.sat.1 ?_⟩;have hag:∀u,u<=V'->I u=A' u:=by
  intro u;induction u using Nat.strongRecOn with
  |_ u ih=>intro hu;rcases Nat.lt_or_ge ((w+2*r)*(h+2*r)*b) u with h1|h1;{obtain⟨c,c1,c2,c3,c4⟩:=P.det u h1 hu;cases h5:I u==A' u with|true=>exact eq_of_beq h5|false=>have h6:=c4 I (λk hk=>ih k hk (by omega)) (by cases h7:I u<;>cases h8:A' u<;>simp_all);rw[hs c c1] at h6;cases h6};{exact(P.agr u h1).symm}
 exact(Sat.agree P.lits hag).1 hs
def codeV (cs:Aj) (b:Nat):Val:=λu=>fU ((cs ((u-1)/b):Nat):Int) ((u-1)%b)
theorem qq (cs:Aj) {b k j:Nat} (hj:j<b):codeV cs b (k*b+j+1)=fU ((cs k:Nat):Int) j:=by unfold codeV;rw[Nat.add_sub_cancel,Nat.mul_comm k b,Nat.mul_add_div (by omega),Nat.div_eq_of_lt hj,Nat.add_zero,Nat.mul_add_mod,Nat.mod_eq_of_lt hj]
theorem bits_at {I:Val} {k b c:Nat}:nK I (cP ((k:Int)*b) b) c↔∀j,j<b->I (k*b+j+1)=fU (c:Int) j:=by
 have hx:∀j,j<b->((k:Int)*b+1+j).natAbs=k*b+j+1:=λj _=>by omega
 constructor;{intro hB j hj;have:=hB j _ (fresh_get _ _ hj);grind};{intro hB j x hxj;grind[dE,fresh_get]}
theorem par_to (A:GL_ n b t ns g w h r) (hg:∀s∈g.Cells,s<(n:Int)) {cs:Aj} (hcs:∀k,k<(w+2*r)*(h+2*r)->cs k<n) (hl:LeadsN t ns g w h r cs) :∃I,Sat I (om b t ns g n w h r).2/\∀k,k<(w+2*r)*(h+2*r)->nK I (cP ((k:Int)*b) b) (cs k):=by obtain⟨V',A',P⟩:=par_sem A (B:=codeV cs b) (cs:=cs) (λk hk=>⟨hcs k hk,bits_at.2 λj hj=>qq cs hj⟩) hg (w*h) (Nat.le_refl _);refine⟨A',P.sat.2 hl,λk hk=>nK.agree (cells_vrs hk) P.agr (bits_at.2 λj hj=>qq cs hj)⟩
def codeL (cs:Aj) (b M:Nat):Ag:=bits (codeV cs b) (M*b)
theorem code_bits {I:Val} {cs:Aj} {b M:Nat} (hb:1<=b) (h:∀k,k<M->nK I (cP ((k:Int)*b) b) (cs k)):bits I (M*b)=codeL cs b M:=by
 refine bits_ext λv h1 h2=>?_;obtain⟨k,j,hj,rfl⟩:∃k j,j<b/\v=k*b+j+1:=⟨(v-1)/b,(v-1)%b,Nat.mod_lt _ (by omega),by simp_all[Nat.div_add_mod,Nat.mul_comm]⟩
 have hk:k<M:=by rcases Nat.lt_or_ge k M with h3|h3;{exact h3};{have:=Nat.mul_le_mul_right b h3;omega}
 grind[bits_at,qq]
theorem par_codes (A:GL_ n b t ns g w h r) (hg:∀s∈g.Cells,s<(n:Int)) (l:Ag) :(∃I,Sat I (om b t ns g n w h r).2/\l=bits I ((w+2*r)*(h+2*r)*b))↔∃cs:Aj,(∀k,k<(w+2*r)*(h+2*r)->cs k<n)/\LeadsN t ns g w h r cs/\l=codeL cs b ((w+2*r)*(h+2*r)):=by constructor;{rintro⟨I,h1,rfl⟩;obtain⟨cs,h2,h3⟩:=par_back A hg h1;exact⟨cs,λk hk=>(h2 k hk).1,h3,code_bits A.R.sb.b1 λk hk=>(h2 k hk).2⟩};{rintro⟨cs,h1,h2,rfl⟩;obtain⟨I,h3,h4⟩:=par_to A hg h1 h2;exact⟨I,h3,(code_bits A.R.sb.b1 h4).symm⟩}
end
set_option maxRecDepth 100000 in
theorem alive48:m0=some true:=by kernel_rfl
end Go.Proofs.YtpeabgakdpojlaaGreatDoor
namespace Go.Proofs.YtpeabgakdpojlaaGreatDoor
open Go.AM Go.Proofs
theorem idivN {i w:Nat} (hw:1<=w) (hi:i<=1000000) (hw2:w<=1000000):irem (i:Int) (w:Int)=some ((i%w:Nat):Int)/\iquo .i64 (i:Int) (w:Int)=some ((i/w:Nat):Int):=by unfold irem iquo;rw[if_neg (by omega),if_neg (by omega)];have h1:i/w<=i:=Nat.div_le_self i w;have h2:Int.tdiv (i:Int) (w:Int)=((i/w:Nat):Int):=rfl;have h3:Int.tmod (i:Int) (w:Int)=((i%w:Nat):Int):=rfl;grind[i64_in]
def chkI (t:Tree) (g:Grid):Int:=bif iw t then(bif k4 g then(bif iD (λ_ s=>geB s t.States) g.Cells 0 then 10 else 0)else 2)else 11
theorem fits_is {t:Tree} {g:Grid} (hs:Sz t) (hl:g.Cells.length<1099511627776):jk t g=some (chkI t g):=by
 have hc:cy g.Cells t=some (iD (λ_ s=>geB s t.States) g.Cells 0):=by unfold cy d6;obtain⟨o,ho,hq⟩:=loop_find (b:=cm g.Cells t) g.Cells (λ_ s=>geB s t.States) hl (λi x hx=>by unfold cm lR;dsimp only;rw[bD,decide_eq_true (cG hx),cond_true,bE,hx,cd (by grind)];grind) (by simp[cm,bD]);rw[ho];rcases hq with⟨h1,k,rfl⟩|⟨h1,rfl⟩;{simp_all[geB]};{rw[h1];rfl}
 unfold jk chkI;rw[tree_eq hs,grid_eq hl,hc];cases iw t<;>cases k4 g<;>cases iD (λ_ s=>geB s t.States) g.Cells 0<;>rfl
theorem check_is {t:Tree} {g:Grid} (hs:Sz t) (hl:g.Cells.length<1099511627776):oY t g=some (chkI t g):=by unfold oY chkI;rw[treeR_eq hs,gridR_eq hl,hZ g.Cells (λ_ s=>geB s t.States) 10 hl (λi x hx=>by unfold mV;dsimp only;rw[bD,decide_eq_true (cG hx),cond_true,bE,hx,cd (by grind)];grind) (by simp[mV,bD])];cases iw t<;>cases k4 g<;>cases iD (λ_ s=>geB s t.States) g.Cells 0<;>rfl
def seeI (t:Tree) (cells:A0) (w r x y:Nat):A0:=t.Hood.map λd=>cells.getD (((y:Int)+r+d.Y).toNat*w+((x:Int)+r+d.X).toNat) 0
section
variable {t:Tree} {cells:A0} {w h r:Nat}
structure SeeOk (t:Tree) (cells:A0) (w h r:Nat):Prop where
 w2:w<=300
 h2:h<=300
 r2:r<=2
 h25:t.Hood.length<=25
 pts:∀d∈t.Hood,-(r:Int)<=d.X/\d.X<=r/\-(r:Int)<=d.Y/\d.Y<=r
theorem SeeOk.idx (S:SeeOk t cells w h r) {x y:Nat} (hx:x+2*r<w) (hy:y+2*r<h) {d:Point} (hd:d∈t.Hood) :
  bC .i64 (bC .i64 (bC .i64 (bH .i64 (bC .i64 (bC .i64 (y:Int) (r:Int)) d.Y) (w:Int)) (x:Int)) (r:Int)) d.X=((((y:Int)+r+d.Y).toNat*w+((x:Int)+r+d.X).toNat:Nat):Int)/\((y:Int)+r+d.Y).toNat*w+((x:Int)+r+d.X).toNat<w*h:=by
 obtain⟨d1,d2,d3,d4⟩:=S.pts d hd;have hw:=S.w2;have hh:=S.h2;have hr:=S.r2;obtain⟨p,hp⟩:∃p:Nat,(y:Int)+r+d.Y=(p:Int):=⟨((y:Int)+r+d.Y).toNat,by omega⟩
 obtain⟨q,hq⟩:∃q:Nat,(x:Int)+r+d.X=(q:Int):=⟨((x:Int)+r+d.X).toNat,by omega⟩
 have hpl:p<h:=by omega
 have hql:q<w:=by omega
 have hm:p*w<=300*300:=Nat.mul_le_mul (by omega) hw;have hm':=Int.natCast_mul p w;rw[hp,hq,Int.toNat_natCast,Int.toNat_natCast];refine⟨?_,?_⟩;{rw[cY (a:=(y:Int)) (by omega),cY (a:=(y:Int)+r) (by omega),hp,dz (by omega),<- hm',cY (b:=(x:Int)) (by omega),cY (b:=(r:Int)) (by omega),cY (b:=d.X) (by omega)];omega};{have:(p+1)*w<=h*w:=Nat.mul_le_mul_right _ hpl;grind}
def valI (t:Tree) (cells:A0) (w r x y:Nat):Int:=(lz t (seeI t cells w r x y) (bZ .i64 (br t.Nodes) 1)).getD 0
end
theorem same_grid {g:Grid} (hl:g.Cells.length<1099511627776):nt g g=some true:=by unfold nt;rw[hZ g.Cells (λ_ _=>false) false hl (λi x hx=>by unfold nH;dsimp only;rw[bD,decide_eq_true (cG hx),cond_true,bE,hx,cd (by grind)];simp only[be,neB,bne_self_eq_false];rfl) (by simp[nH,bD])];rw[show iD (λ_ (_:Int)=>false) g.Cells 0=false from iA λ_ _ _=>rfl];simp only[neB,bne_self_eq_false,cond_false];rfl
section
variable {t:Tree} {g:Grid} {w h r:Nat}
end
def stChk:Bool:=(List.range 4).all λb=>(List.range 8).all λc=>!decide (c<2 ^ b)||decide (mP ((List.range b).map λj=>fU (c:Int) j)=some (c:Int))
theorem stChk_true:stChk=true:=by kernel_rfl
theorem state_num {b c:Nat} (hb:b<=3) (hc:c<2 ^ b):mP ((List.range b).map λj=>fU (c:Int) j)=some (c:Int):=by have h:=stChk_true;unfold stChk at h;have h8:2 ^ b<=2 ^ 3:=Nat.pow_le_pow_right (by omega) hb;have h1:=List.all_eq_true.1 (List.all_eq_true.1 h b (List.mem_range.2 (by omega))) c (List.mem_range.2 (by omega));simp_all
def iX (cs:Aj) (M:Nat):A0:=(List.range M).map λk=>((cs k:Nat):Int)
theorem listS_succ (cs:Aj) (M:Nat):iX cs (M+1)=iX cs M++[((cs M:Nat):Int)]:=by unfold iX;rw[List.range_succ,List.map_append];rfl
theorem listS_len (cs:Aj) (M:Nat):(iX cs M).length=M:=by simp[iX]
theorem qk {cs:Aj} {M k:Nat} (hk:k<M):(iX cs M)[k]?=some ((cs k:Nat):Int):=by unfold iX;simp_all
theorem code_len (cs:Aj) (b M:Nat):(codeL cs b M).length=M*b:=bits_len
theorem code_sub {cs:Aj} {b M k:Nat} (hb:b<=3) (hM:M<=16) (hk:k<M):slcL (codeL cs b M) (bH .i64 (k:Int) (b:Int)) (bH .i64 (bC .i64 (k:Int) 1) (b:Int))=some ((List.range b).map λj=>fU ((cs k:Nat):Int) j):=by
 have h1:k*b<=16*3:=Nat.mul_le_mul (by omega) hb;have h2:(k+1)*b<=M*b:=Nat.mul_le_mul_right _ hk;have h3:M*b<=16*3:=Nat.mul_le_mul hM hb;have h4:(k+1)*b=k*b+b:=by grind
 rw[zF,dz (by omega),dz (by omega),<- Int.natCast_mul,<- Int.natCast_mul];unfold slcL;rw[if_pos (by rw[code_len];omega),Int.toNat_natCast,Int.toNat_natCast];refine congrArg some (List.ext_getElem? λj=>?_);rw[List.getElem?_drop,List.getElem?_map];by_cases hj:j<b;{rw[List.getElem?_take,if_pos (by omega),List.getElem?_range hj];unfold codeL;rw[m6,if_pos (by omega),qq cs hj];rfl};grind
theorem build_is {cs:Aj} {b W H:Nat} (_hb1:1<=b) (hb:b<=3) (hM:W*H<=16) (_hW:W<=16) (_hH:H<=16) (hcs:∀k,k<W*H->cs k<2 ^ b):dr (codeL cs b (W*H)) (W:Int) (H:Int) (b:Int)=some (iX cs (W*H)):=by
 have hmul:bH .i64 (W:Int) (H:Int)=((W*H:Nat):Int):=by grind[dz]
 unfold dr;obtain⟨o,ho,rfl⟩:=d5 (b:=dD (codeL cs b (W*H)) (W:Int) (H:Int) (b:Int)) (n:=W*H) (s:=(0,[])) (λi st=>st=((i:Int),iX cs i)) (λo=>o=iX cs (W*H)) (by omega) rfl (λi st hi e=>by subst e;refine .inl ⟨(((i+1:Nat):Int),iX cs (i+1)),?_,rfl⟩;unfold dD;dsimp only;rw[hmul,show ltB (i:Int) ((W*H:Nat):Int)=true from zD,cond_true,code_sub hb hM hi,be,state_num hb (hcs i hi),be,dw (by omega) (by omega) (by grind[listS_len]),be,zF,listS_succ]) (λst e=>by subst e;refine⟨_,?_,rfl⟩;simp_all[dD,ltB]);rw[ho];rfl
def csq (q:A0) (k:Nat):Nat:=(q.getD k 0).toNat
section
variable {n b:Nat} {t:Tree} {ns:AE} {g:Grid} {w h r:Nat} {q q':A0}
structure Pred (t:Tree) (g:Grid) (n w h r:Nat) (q:A0):Prop where
 len:q.length=(w+2*r)*(h+2*r)
 st:∀s∈q,0<=s/\s<(n:Int)
 leads:∀i,i<w*h->valI t q (w+2*r) r (i%w) (i/w)=g.Cells.getD i 0
theorem csq_list {q:A0} {M:Nat} (hq:q.length=M) (h0:∀s∈q,0<=s):iX (csq q) M=q:=by refine List.ext_getElem? λk=>?_;grind[qk,csq,List.getElem_mem,listS_len]
theorem see_eq (A:GL_ n b t ns g w h r) (cs:Aj) {i:Nat} (hi:i<w*h):seeI t (iX cs ((w+2*r)*(h+2*r))) (w+2*r) r (i%w) (i/w)=seenL t w r cs i:=by unfold seeI seenL;refine List.map_congr_left λd hd=>?_;obtain⟨i1,i2,i3⟩:=A.idx hi hd;grind[qk]
theorem leads_iff (A:GL_ n b t ns g w h r) (R:RW n b t ns) (hs:Sz t) {cs:Aj} (hcs:∀k,k<(w+2*r)*(h+2*r)->cs k<n):LeadsN t ns g w h r cs↔∀i,i<w*h->valI t (iX cs ((w+2*r)*(h+2*r))) (w+2*r) r (i%w) (i/w)=g.Cells.getD i 0:=by
 unfold LeadsN;refine forall_congr' λi=>forall_congr' λhi=>?_;have hl:(seenL t w r cs i).length=t.Hood.length:=by unfold seenL;simp
 have hin:∀s∈seenL t w r cs i,0<=s/\s<(n:Int):=λs hs=>by unfold seenL at hs;obtain⟨d,hd,rfl⟩:=List.mem_map.1 hs;have:=hcs _ (A.idx hi hd).1;omega
 rw[R.walk _ hl hin];unfold valI;rw[see_eq A cs hi];obtain⟨v,hv,_⟩:=value_total (ok_of A.R.ok) hs hl (by rw[A.R.st];exact hin);simp_all
theorem pred_codes (A:GL_ n b t ns g w h r) (R:RW n b t ns) (hs:Sz t) (hg:∀s∈g.Cells,s<(n:Int)) (l:Ag) :(∃I,Sat I (om b t ns g n w h r).2/\l=bits I ((w+2*r)*(h+2*r)*b))↔∃q,Pred t g n w h r q/\l=codeL (csq q) b ((w+2*r)*(h+2*r)):=by
 rw[par_codes A hg];constructor
 ·rintro⟨cs,h1,h2,rfl⟩;have hst:∀s∈iX cs ((w+2*r)*(h+2*r)),0<=s/\s<(n:Int):=λs hs=>by unfold iX at hs;grind
  refine⟨iX cs ((w+2*r)*(h+2*r)),⟨listS_len _ _,hst,(leads_iff A R hs h1).1 h2⟩,?_⟩;have hc:∀k,k<(w+2*r)*(h+2*r)->csq (iX cs ((w+2*r)*(h+2*r))) k=cs k:=λk hk=>by unfold csq;rw[List.getD_eq_getElem?_getD,qk hk];rfl
  exact code_bits A.R.sb.b1 λk hk=>bits_at.2 λj hj=>by rw[qq cs hj,hc k hk]
 ·rintro⟨q,P,rfl⟩;have hcs:∀k,k<(w+2*r)*(h+2*r)->csq q k<n:=λk hk=>by have hx:q[k]?=some (q[k]'(by have:=P.len;omega)):=List.getElem?_eq_getElem _;have:=P.st _ (List.mem_of_getElem? hx);unfold csq;grind
  refine⟨csq q,hcs,(leads_iff A R hs hcs).2 ?_,rfl⟩;rw[csq_list P.len λs hs=>(P.st s hs).1];exact P.leads
theorem Pred.cs (P:Pred t g n w h r q):∀k,k<(w+2*r)*(h+2*r)->csq q k<n:=λk hk=>by have hx:q[k]?=some (q[k]'(by have:=P.len;omega)):=List.getElem?_eq_getElem _;have:=P.st _ (List.mem_of_getElem? hx);unfold csq;grind
theorem GL_.big (A:GL_ n b t ns g w h r):w+2*r<=16/\h+2*r<=16:=by have hsz:=A.sz;have hw:=A.G.w1;have hh:=A.G.h1;exact⟨Nat.le_trans (Nat.le_mul_of_pos_right _ (by omega)) hsz,Nat.le_trans (Nat.le_mul_of_pos_left _ (by omega)) hsz⟩
theorem build_code (A:GL_ n b t ns g w h r) (P:Pred t g n w h r q):dr (codeL (csq q) b ((w+2*r)*(h+2*r))) ((w+2*r:Nat):Int) ((h+2*r:Nat):Int) (b:Int)=some q:=by have hpw:=A.R.sb.pw;rw[build_is A.R.sb.b1 A.R.sb.b3 A.sz A.big.1 A.big.2 λk hk=>Nat.lt_of_lt_of_le (P.cs k hk) hpw,csq_list P.len λs hs=>(P.st s hs).1]
end
