/- Lemmas for the law. -/
import Derived.Test.YtpeabgakdpojlaaGreatDoorEnx1
import Derived.Test.YtpeabgakdpojlaaGreatDoorCfP
namespace Go.Proofs.YtpeabgakdpojlaaGreatDoor
open Go.AM Go.Proofs
theorem hood_step {l:AG} (h:jc l=true) {i:Nat} {x y:Point} (hi:l[i]?=some y) (hj:l[i+1]?=some x):y.Y<x.Y\/(y.Y=x.Y/\y.X<x.X):=by simp only[jc,Bool.and_eq_true,Bool.not_eq_true'] at h;have hb:=gp h.2 (i+1) x hj;rw[Nat.zero_add] at hb;unfold badP at hb;simp only[Bool.or_eq_false_iff] at hb;obtain⟨_,_,_,_,e5⟩:=hb;rw[hi] at e5;simp only[befP,Bool.not_eq_false',Bool.or_eq_true,decide_eq_true_eq,Bool.and_eq_true,beq_iff_eq] at e5;exact e5
theorem hood_le {l:AG} (h:jc l=true) {i:Nat} {y:Point} (hi:l[i]?=some y):∀(k:Nat) (x:Point),l[i+k]?=some x->y.Y<x.Y\/(y.Y=x.Y/\y.X<=x.X)|0,x,hx=>by simp_all|k+1,x,hx=>by obtain⟨z,hz⟩:=getE_prev (show l[i+k+1]?=some x from hx);have h1:=hood_le h hi k z hz;have h2:=hood_step h hz hx;omega
theorem hood_last {l:AG} (h:jc l=true):∃o,l[l.length-1]?=some o/\o∈l/\∀d∈l,d.Y<o.Y\/(d.Y=o.Y/\d.X<=o.X):=by obtain⟨h1,_,_⟩:=hood_pts h;have ho:l[l.length-1]?=some (l[l.length-1]'(by omega)):=List.getElem?_eq_getElem _;refine⟨_,ho,List.mem_of_getElem? ho,λd hd=>?_⟩;obtain⟨i,hi⟩:=List.mem_iff_getElem?.1 hd;have:=cG hi;exact hood_le h hi (l.length-1-i) _ (by grind)
section
variable {t:Tree} {cells:A0} {w h r:Nat}
theorem statep_is (S:SeeOk t cells w h r) {x y:Nat} (hx:x+2*r<w) (hy:y+2*r<h) (hix:∀d∈t.Hood,((y:Int)+r+d.Y).toNat*w+((x:Int)+r+d.X).toNat<cells.length):bv (ka t cells (w:Int) (r:Int) (x:Int) (y:Int)) bL (0,[])=some (seeI t cells w r x y):=by have h25:=S.h25;have hg:=lu (b:=ka t cells (w:Int) (r:Int) (x:Int) (y:Int)) t.Hood (λ_ d=>[cells.getD (((y:Int)+r+d.Y).toNat*w+((x:Int)+r+d.X).toNat) 0]) 1 1000 [] (λ_ _=>Nat.le_refl _) (by omega) (by simp;omega) (λk d ac hdk hac=>by obtain⟨e1,_⟩:=S.idx hx hy (List.mem_of_getElem? hdk);have e2:=hix d (List.mem_of_getElem? hdk);unfold ka;dsimp only;rw[bD,decide_eq_true (cG hdk),cond_true,bE,hdk,be,e1,bE,zB,be,dw (by decide) (by decide) (by simp;omega),cd (by grind),List.getD_eq_getElem?_getD,zB];rfl) (λac=>by simp[ka,bD]);rw[hg,List.nil_append,gat_map];rfl
theorem stateRp_is (S:SeeOk t cells w h r) (hok:iw t=true) (hs:Sz t) (hc:∀s∈cells,0<=s/\s<t.States) {x y:Nat} (hx:x+2*r<w) (hy:y+2*r<h) (hix:∀d∈t.Hood,((y:Int)+r+d.Y).toNat*w+((x:Int)+r+d.X).toNat<cells.length) :
  pd t cells (w:Int) (r:Int) (x:Int) (y:Int)=some (valI t cells w r x y):=by
 have l1:(seeI t cells w r x y).length=t.Hood.length:=by unfold seeI;simp
 have l2:∀s∈seeI t cells w r x y,0<=s/\s<t.States:=λs hs=>by unfold seeI at hs;obtain⟨d,hd,rfl⟩:=List.mem_map.1 hs;simp_all
 have h25:=S.h25;obtain⟨v,hv,_⟩:=value_total (ok_of hok) hs l1 l2;grind[pd,valI,statep_is,valueR_eq]
end
def nbI (w r i:Nat) (d:Point):Nat:=(((i/w:Nat):Int)+r+d.Y).toNat*(w+2*r)+(((i%w:Nat):Int)+r+d.X).toNat
def lastI (t:Tree) (w r i:Nat):Nat:=nbI w r i ((t.Hood[t.Hood.length-1]?).getD ⟨0,0⟩)
def badQ (t:Tree) (g:Grid) (w r:Nat) (p:A0) (i:Nat):Bool:=decide (lastI t w r i+1=p.length) && !decide (valI t p (w+2*r) r (i%w) (i/w)=g.Cells.getD i 0)
def rV (t:Tree) (g:Grid) (w r:Nat) (p:A0):Bool:=iD (λi _=>badQ t g w r p i) g.Cells 0
section
variable {n b:Nat} {t:Tree} {ns:AE} {g:Grid} {w h r:Nat} {q p:A0}
theorem GL_.nb (A:GL_ n b t ns g w h r) {i:Nat} (hi:i<w*h) {d:Point} (hd:d∈t.Hood):nbI w r i d<=lastI t w r i/\lastI t w r i<(w+2*r)*(h+2*r):=by
 obtain⟨o,h1,h2,h3⟩:=hood_last (p8 A.R.ok);have e:lastI t w r i=nbI w r i o:=by unfold lastI;rw[h1];rfl
 rw[e];obtain⟨i1,i2,i3⟩:=A.idx hi hd;obtain⟨j1,j2,j3⟩:=A.idx hi h2;obtain⟨d1,d2,d3,d4⟩:=A.pts d hd;have hw:=A.G.w1;have hml:i%w<w:=Nat.mod_lt _ (by omega);have hdo:=h3 d hd;refine⟨?_,?_⟩
 ·unfold nbI;rcases hdo with h4|⟨h4,h5⟩
  ·have h6:(((i/w:Nat):Int)+r+d.Y).toNat+1<=(((i/w:Nat):Int)+r+o.Y).toNat:=by omega
   have h7:=Nat.mul_le_mul_right (w+2*r) h6;grind
  ·rw[h4];omega
 grind[nbI]
theorem GL_.see (A:GL_ n b t ns g w h r) (cells:A0):SeeOk t cells (w+2*r) (h+2*r) r:=⟨by have:=A.big;omega,by have:=A.big;omega,A.r2,A.R.tok.h25,A.pts⟩
theorem failR_is (A:GL_ n b t ns g w h r) (hs:Sz t) (hR:dA t.Hood=some (r:Int)) (hp1:1<=p.length) (hpM:p.length<=(w+2*r)*(h+2*r)) (hps:∀s∈p,0<=s/\s<(n:Int)):oZ t g p=some (rV t g w r p):=by
 obtain⟨k1,k2,k3⟩:=A.w16;have hr2:=A.r2;have hlen:=A.G.len;have hw1:=A.G.w1;have hsz:=A.sz;have h25:=A.R.tok.h25;have e1:bC .i64 g.W (bH .i64 2 (r:Int))=((w+2*r:Nat):Int):=by rw[A.G.W,dz (by omega),cY (by omega)];omega
 obtain⟨o,ho1,ho2,_⟩:=hood_last (p8 A.R.ok);have hl1:=A.R.tok.h1;have eo:bZ .i64 (br t.Hood) 1=((t.Hood.length-1:Nat):Int):=by rw[show br t.Hood=((t.Hood.length-1+1:Nat):Int) by unfold br;omega,dn_nat (by omega)]
 unfold oZ rV;rw[hR,be,hZ g.Cells (λi _=>badQ t g w r p i) true (by omega) (λi x hx=>by
  have hi:i<w*h:=by grind
  obtain⟨q1,q2⟩:=idivN (w:=w) (i:=i) A.G.w1 (by omega) (by omega);have hml:i%w<w:=Nat.mod_lt _ (by omega);have hdl:i/w<h:=Nat.div_lt_of_lt_mul hi;obtain⟨f1,f2⟩:=(A.see p).idx (x:=i%w) (y:=i/w) (by omega) (by omega) ho2;unfold mS;dsimp only;rw[bD,decide_eq_true (cG hx),cond_true,A.G.W,q1,be,q2,be,eo,bE,ho1,be,<- A.G.W,e1,f1];have ei:lastI t w r i=((((i/w:Nat):Int)+r+o.Y).toNat*(w+2*r)+(((i%w:Nat):Int)+r+o.X).toNat):=by unfold lastI;rw[ho1];rfl
  rw[<- ei];have el:bZ .i64 (br p) 1=((p.length-1:Nat):Int):=by rw[show br p=((p.length-1+1:Nat):Int) by unfold br;omega,dn_nat (by omega)]
  rw[el];unfold badQ;by_cases hc:lastI t w r i+1=p.length
  ·rw[decide_eq_true hc,Bool.true_and,show eqB ((lastI t w r i:Nat):Int) ((p.length-1:Nat):Int)=true from by simp[eqB];omega,cond_true,
    stateRp_is (A.see p) A.R.ok hs (by rw[A.R.st];exact hps) (by omega) (by omega) (λd hd=>by have:=(A.nb hi hd).1;grind[nbI]),be,bE,hx,be,be]
   have hgx:g.Cells.getD i 0=x:=by simp_all
   rw[hgx,zF];by_cases hv:valI t p (w+2*r) r (i%w) (i/w)=x;{rw[hv,show neB x x=false from by simp[neB],decide_eq_true rfl];rfl};grind[neB]
  ·rw[decide_eq_false hc,Bool.false_and,show eqB ((lastI t w r i:Nat):Int) ((p.length-1:Nat):Int)=false from by simp[eqB];omega,cond_false,be,zF];rfl) (by simp[mS,bD])]
 grind
theorem see_take (A:GL_ n b t ns g w h r) {i k:Nat} (hi:i<w*h) (hk:lastI t w r i<k):valI t (q.take k) (w+2*r) r (i%w) (i/w)=valI t q (w+2*r) r (i%w) (i/w):=by unfold valI;refine congrArg (λl=>(lz t l (bZ .i64 (br t.Nodes) 1)).getD 0) ?_;unfold seeI;refine List.map_congr_left λd hd=>?_;have h1:=(A.nb hi hd).1;unfold nbI at h1;grind
theorem pred_iff (A:GL_ n b t ns g w h r) (hl:q.length=(w+2*r)*(h+2*r)) (hst:∀s∈q,0<=s/\s<(n:Int)):Pred t g n w h r q↔∀k,0<k->k<=q.length->rV t g w r (q.take k)=false:=by
 have hlen:=A.G.len;constructor
 ·intro P k k1 k2;unfold rV;refine iA λi x hx=>?_;rw[Nat.zero_add];have hi:i<w*h:=by grind
  unfold badQ;by_cases hc:lastI t w r i+1=(q.take k).length
  ·have hk:lastI t w r i<k:=by grind
   rw[see_take A hi hk,P.leads i hi,decide_eq_true rfl];simp
  simp_all
 ·intro hk;refine⟨hl,hst,λi hi=>?_⟩;obtain⟨o,_,ho,_⟩:=hood_last (p8 A.R.ok);have h2:=(A.nb hi ho).2;have hf:=hk (lastI t w r i+1) (by omega) (by omega);unfold rV at hf;have hx:g.Cells[i]?=some (g.Cells[i]'(by omega)):=List.getElem?_eq_getElem _;have hb:=gp hf i _ hx;rw[Nat.zero_add] at hb;unfold badQ at hb;rw[decide_eq_true (by grind),Bool.true_and,see_take A hi (by omega)] at hb;simpa using hb
end
section
variable {n b:Nat} {t:Tree} {ns:AE} {g:Grid} {w h r:Nat} {q p:A0}
def pJ (t:Tree) (g:Grid) (n w r:Nat):Nat->A0->A1|0,p=>[p]|m+1,p=>(List.range n).flatMap λ(s:Nat)=>bif rV t g w r (p++[(s:Int)])then [] else pJ t g n w r m (p++[(s:Int)])
def gridQ (w h r:Nat) (q:A0):Grid:=⟨((w+2*r:Nat):Int),((h+2*r:Nat):Int),0,q⟩
def nB (t:Tree) (g:Grid) (n w r m:Nat) (p:A0) (k:Nat):A1:=(List.range k).flatMap λ(s:Nat)=>bif rV t g w r (p++[(s:Int)])then [] else pJ t g n w r m (p++[(s:Int)])
theorem part_succ (m:Nat) (p:A0) (k:Nat):nB t g n w r m p (k+1)=nB t g n w r m p k++(bif rV t g w r (p++[(k:Int)])then [] else pJ t g n w r m (p++[(k:Int)])):=by unfold nB;rw[List.range_succ,List.flatMap_append,List.flatMap_singleton]
theorem part_pre (m:Nat) (p:A0) {k:Nat}:∀{j:Nat},k<=j->nB t g n w r m p k <+: nB t g n w r m p j:=by
 intro j hj;induction j with
 |zero=>simp_all|succ j ih=>grind[part_succ]
theorem take_pre {I:Type} {a b:List I} {k:Nat} (h:a <+: b) (hk:k<=a.length):a.take k=b.take k:=by obtain⟨c,rfl⟩:=h;grind
theorem search48 (A:GL_ n b t ns g w h r) {M:Nat} (hM:(w+2*r)*(h+2*r)=M) (hs:Sz t) (hR:dA t.Hood=some (r:Int)):∀(m:Nat) (p:A0) (most f:Nat),p.length+m=M->1<=most->most<=100000->m<f->(∀s∈p,0<=s/\s<(n:Int)) ->
  rP gA (λ_ _ _ _=>none) f t g p (most:Int)=some (((pJ t g n w r m p).take most).map (gridQ w h r)):=by
 have hsz:=A.sz;rw[hM] at hsz;obtain⟨k1,k2,k3⟩:=A.w16;have hr2:=A.r2;have hn8:=A.R.sb.n8;have e1:bC .i64 g.W (bH .i64 2 (r:Int))=((w+2*r:Nat):Int):=by rw[A.G.W,dz (by omega),cY (by omega)];omega
 have e2:bC .i64 g.H (bH .i64 2 (r:Int))=((h+2*r:Nat):Int):=by rw[A.G.H,dz (by omega),cY (by omega)];omega
 have e3:bH .i64 ((w+2*r:Nat):Int) ((h+2*r:Nat):Int)=((M:Nat):Int):=by have e:=Int.natCast_mul (w+2*r) (h+2*r);rw[hM] at e;rw[dz (by omega),e]
 intro m;induction m with
 |zero=>
  intro p most f hp h1 h2 hf hst;obtain⟨f,rfl⟩:∃k,f=k+1:=⟨f-1,by omega⟩
  rw[rP];generalize rP gA (λ_ _ _ _=>none) f=R;unfold gA;rw[hR,be,e1,e2,e3,show eqB (br p) ((M:Nat):Int)=true from by simp[eqB,br];omega,cond_true,pJ,List.take_of_length_le (by simpa using h1)];rfl
 |succ m ih=>
  intro p most f hp h1 h2 hf hst;obtain⟨f,rfl⟩:∃k,f=k+1:=⟨f-1,by omega⟩
  rw[rP];have ih':=λ(p:A0) (most:Nat) (a:p.length+m=M) (b:1<=most) (c:most<=100000) (d:∀s∈p,0<=s/\s<(n:Int))=>ih p most f a b c (by omega) d;generalize rP gA (λ_ _ _ _=>none) f=R at ih';unfold gA;rw[hR,be,e1,e2,e3,show eqB (br p) ((M:Nat):Int)=false from by simp[eqB,br];omega,cond_false];have hend:∀k,k<=n->most<=(nB t g n w r m p k).length\/k=n->(nB t g n w r m p k).take most=(pJ t g n w r (m+1) p).take most:=λk hk hor=>by rcases hor with h3|rfl;{exact take_pre (part_pre m p hk) h3};{rfl}
  obtain⟨o,ho,rfl⟩:=d5 (b:=kr R t g p (most:Int)) (n:=n) (s:=(0,[])) (λk st=>st=((k:Int),((nB t g n w r m p k).take most).map (gridQ w h r))) (λo=>o=((pJ t g n w r (m+1) p).take most).map (gridQ w h r)) (by omega) (by rw[show nB t g n w r m p 0=[] from rfl,List.take_nil];rfl) (λk st hk e=>by
    subst e;unfold kr;dsimp only;rw[A.R.st,show ltB (k:Int) (n:Int)=true from zD,cond_true,be];have hll:br (((nB t g n w r m p k).take most).map (gridQ w h r))=((min most (nB t g n w r m p k).length:Nat):Int):=by unfold br;simp
    rw[hll];rcases Nat.lt_or_ge (nB t g n w r m p k).length most with h3|h3
    ·refine .inl ⟨(((k+1:Nat):Int),((nB t g n w r m p (k+1)).take most).map (gridQ w h r)),?_,rfl⟩;have hps:∀s∈p++[(k:Int)],0<=s/\s<(n:Int):=λs hs=>by grind
     have hpl:(p++[(k:Int)]).length=p.length+1:=by simp
     rw[show ltB ((min most (nB t g n w r m p k).length:Nat):Int) (most:Int)=true from zD,cond_true,dw (by decide) (by decide) (by simp;omega),be,List.nil_append,dw (by decide) (by decide) (by simp;omega),be,
      failR_is A hs hR (p:=p++[(k:Int)]) (by omega) (by rw[hM];omega) hps,be,zF,List.take_of_length_le (l:=nB t g n w r m p k) (by omega),part_succ]
     cases hfb:rV t g w r (p++[(k:Int)])with
     |true=>rw[show e9 true=false from rfl,cond_false,be,cond_true,List.append_nil,List.take_of_length_le (by omega)]|false=>
      rw[show e9 false=true from rfl,cond_true,cond_false,show bZ .i64 (most:Int) ((min most (nB t g n w r m p k).length:Nat):Int)=((most-(nB t g n w r m p k).length:Nat):Int)from by grind[jq],
       ih' (p++[(k:Int)]) (most-(nB t g n w r m p k).length) (by omega) (by omega) (by omega) hps,be,dw (by decide) (by decide) (by grind),be,be,List.take_append,List.take_of_length_le (l:=nB t g n w r m p k) (by omega),List.map_append]
    ·refine .inr ⟨((pJ t g n w r (m+1) p).take most).map (gridQ w h r),?_,rfl⟩;rw[show ltB ((min most (nB t g n w r m p k).length:Nat):Int) (most:Int)=false from zA,cond_false,hend k (by omega) (.inl h3)])
   (λst e=>by subst e;refine⟨_,?_,rfl⟩;unfold kr;dsimp only;rw[A.R.st,show ltB (n:Int) (n:Int)=false from zA,cond_false,be,cond_false,hend n (Nat.le_refl _) (.inr rfl)])
  rw[ho];rfl
theorem enum_mem:∀(m:Nat) (p q:A0),q∈pJ t g n w r m p↔q.length=p.length+m/\p <+: q/\(∀s∈q.drop p.length,0<=s/\s<(n:Int))/\∀k,p.length<k->k<=q.length->rV t g w r (q.take k)=false
 |0,p,q=>by rw[pJ,List.mem_singleton];constructor;{grind};{rintro⟨h1,h2,_,_⟩;exact(h2.eq_of_length h1.symm).symm}|m+1,p,q=>by
  rw[pJ,List.mem_flatMap];constructor
  ·rintro⟨s,hs,hq⟩;cases hf:rV t g w r (p++[(s:Int)])with
   |true=>simp_all|false=>
    rw[hf,cond_false] at hq;obtain⟨h1,h2,h3,h4⟩:=(enum_mem m _ _).1 hq;have hl:(p++[(s:Int)]).length=p.length+1:=by simp
    rw[hl] at h1 h3 h4;obtain⟨c,rfl⟩:=h2;grind
  ·rintro⟨h1,⟨c,rfl⟩,h3,h4⟩;rw[List.drop_left] at h3;cases c with
   |nil=>simp at h1|cons s c=>
    obtain⟨s1,s2⟩:=h3 s (by simp);refine⟨s.toNat,List.mem_range.2 (by omega),?_⟩;rw[Int.toNat_of_nonneg s1];have hl:(p++[s]).length=p.length+1:=by simp
    have hf:=h4 (p.length+1) (by omega) (by simp);have e:p++s::c=(p++[s])++c:=by simp
    rw[e,<- hl,List.take_left] at hf;rw[hf,cond_false];refine(enum_mem m _ _).2 ⟨by omega,⟨c,e.symm⟩,λx hx=>?_,λk k1 k2=>?_⟩;{grind};grind
def lexB (a b:A0):Prop:=kj a b<0
theorem lex_pre (p:A0) {a b:A0}:lexB (p++a) (p++b)↔lexB a b:=by
 induction p with
 |nil=>rfl|cons x p ih=>simp_all[lexB,rA]
theorem lex_head {x y:Int} (h:x<y) (a b:A0):lexB (x::a) (y::b):=by unfold lexB;rw[rA,if_pos h];decide
theorem enum_asc:∀(m:Nat) (p:A0),(pJ t g n w r m p).Pairwise lexB
 |0,p=>List.pairwise_singleton _ _|m+1,p=>by
  rw[pJ];refine List.pairwise_flatMap.2 ⟨λs _=>?_,?_⟩;{cases rV t g w r (p++[(s:Int)])with|true=>simp|false=>exact enum_asc m _}
  ·refine List.Pairwise.imp ?_ (List.pairwise_lt_range);intro s s' hss x hx y hy;cases hf:rV t g w r (p++[(s:Int)])with
   |true=>simp_all|false=>
    cases hf':rV t g w r (p++[(s':Int)])with
    |true=>simp_all|false=>rw[hf,cond_false] at hx;rw[hf',cond_false] at hy;obtain⟨_,⟨c,rfl⟩,_⟩:=(enum_mem m _ _).1 hx;obtain⟨_,⟨d,rfl⟩,_⟩:=(enum_mem m _ _).1 hy;simp_all[lex_pre,lex_head]
theorem enum_pred (A:GL_ n b t ns g w h r):q∈pJ t g n w r ((w+2*r)*(h+2*r)) []↔Pred t g n w h r q:=by
 rw[enum_mem];constructor
 ·rintro⟨h1,_,h3,h4⟩;have hl:q.length=(w+2*r)*(h+2*r):=by simpa using h1
  exact(pred_iff A hl (by simpa using h3)).2 λk k1 k2=>h4 k (by simpa using k1) k2
 ·intro P;refine⟨by simpa using P.len,List.nil_prefix,by simpa using P.st,λk k1 k2=>?_⟩;exact(pred_iff A P.len P.st).1 P k (by simpa using k1) k2
end
end Go.Proofs.YtpeabgakdpojlaaGreatDoor
namespace Go.Proofs.YtpeabgakdpojlaaGreatDoor
open Go.AM Go.Proofs Go.Sort
theorem few48 (t:Tree) (g:Grid):∃y,qf t g=some y/\(y=true->Sz t/\g.Cells.length<=5000):=by
 obtain⟨y,hy,hs⟩:=small_eq t ⟨0,0,0,0,0,[]⟩;unfold qf;rw[hy];cases y with
 |false=>simp|true=>
  obtain⟨hsz,_⟩:=hs rfl;simp only[be,e9,Bool.not_true,cond_false];cases hc:gtB (br g.Cells) 5000 with
  |true=>simp|false=>
   have hl:=of_decide_eq_false hc;unfold br at hl;have hl':g.Cells.length<=5000:=by omega
   rw[cond_false,treeR_eq hsz,be];cases hok:iw t with
   |false=>simp_all|true=>
    rw[gridR_eq (by omega)];cases hgr:k4 g with
    |false=>simp_all|true=>
     obtain⟨w,h,G⟩:=grid_ok hgr;obtain⟨r,_,h2,h3,_⟩:=rad_of (p8 hok);obtain⟨n,b,ns,R⟩:=rt_of hok;have e1:bC .i64 g.W (bH .i64 2 (r:Int))=((w+2*r:Nat):Int):=by have:=G.w2;rw[G.W,dz (by omega),cY (by omega)];omega
     have e2:bC .i64 g.H (bH .i64 2 (r:Int))=((h+2*r:Nat):Int):=by have:=G.h2;rw[G.H,dz (by omega),cY (by omega)];omega
     have hle:(w+2*r)*(h+2*r)<=260*260:=Nat.mul_le_mul (by have:=G.w2;omega) (by have:=G.h2;omega);have e3:bH .i64 ((w+2*r:Nat):Int) ((h+2*r:Nat):Int)=(((w+2*r)*(h+2*r):Nat):Int):=by grind[dz]
     have hn8:=R.sb.n8;have hn2:=R.sb.n2;generalize (w+2*r)*(h+2*r)=K at hle e3;simp only[be,iR];rw[h2,be];obtain⟨o,ho,_⟩:=d5 (b:=ny t g (r:Int)) (n:=K) (s:=(1,0)) (λi st=>∃a:Nat,st=((a:Int),(i:Int))/\a<=65536) (λ_=>True) (by omega) ⟨1,rfl,by omega⟩ (λi st hi ⟨a,e,ha⟩=>by
       subst e;have ha8:a*n<=65536*8:=Nat.mul_le_mul ha hn8;have hcast:(((a*n:Nat):Int))=(a:Int)*(n:Int):=Int.natCast_mul a n;unfold ny;dsimp only;rw[e1,e2,e3,show ltB (i:Int) (K:Int)=true from zD,cond_true,be,R.st,dz (a:=(a:Int)) (by omega),<- hcast];cases leB (K:Int) 16 with
       |false=>simp|true=>
        rw[cond_true];cases hg:gtB ((a*n:Nat):Int) 65536 with
        |true=>simp|false=>
         have:=of_decide_eq_false hg;refine .inl ⟨(((a*n:Nat):Int),((i+1:Nat):Int)),?_,a*n,rfl,by omega⟩;rw[cond_false,zF])
      (λst ⟨a,e,ha⟩=>by subst e;unfold ny;dsimp only;rw[e1,e2,e3,show ltB (K:Int) (K:Int)=false from zA];simp)
     grind
end Go.Proofs.YtpeabgakdpojlaaGreatDoor
namespace Go.Proofs.YtpeabgakdpojlaaGreatDoor
open Go.AM Go.Proofs Go.Sort
theorem lex_ne {a b:A0} (h:lexB a b):a≠b:=by rintro rfl;simp_all[lexB,cmpLL_self]
section
variable {n b:Nat} {t:Tree} {ns:AE} {g:Grid} {w h r:Nat}
theorem par_fm (A:GL_ n b t ns g w h r) (hg:∀s∈g.Cells,s<(n:Int)) (hf:gF (om b t ns g n w h r).1 (om b t ns g n w h r).2=true):∃N:Nat,FmO N ⟨(om b t ns g n w h r).1,(om b t ns g n w h r).2⟩/\(w+2*r)*(h+2*r)*b<=N:=by obtain⟨V',A',P⟩:=par_sem A (B:=codeV (λ_=>0) b) (cs:=λ_=>0) (λk hk=>⟨by have:=A.R.sb.n2;omega,bits_at.2 λj hj=>qq (λ_=>0) hj⟩) hg (w*h) (Nat.le_refl _);have hcl:=par_cl A (w*h) (Nat.le_refl _);have hpf:om b t ns g n w h r=lx b t.Hood.length (inS (-(r:Int)) (-(r:Int)) (w+2*r) (h+2*r) (cV b ((w+2*r)*(h+2*r))) t.Hood) ns w g.Cells ((((w+2*r)*(h+2*r):Nat):Int)*b,f0 n b ((w+2*r)*(h+2*r))) (w*h):=rfl;rw[<- hpf] at P hcl;generalize om b t ns g n w h r=F at P hcl hf;obtain⟨v,fc⟩:=F;obtain⟨p1,p2,p3,p4,p5,p6⟩:=P;dsimp only at p1 p4 p5 p6 hcl hf⊢;unfold gF at hf;rw[Bool.and_eq_true] at hf;have q1:=of_decide_eq_true hf.1;have q2:=of_decide_eq_true hf.2;unfold br at q2;refine⟨V',⟨p1,by omega,by grind,λc hc=>?_,λc hc x hx=>?_⟩,p2⟩;{have:=hcl c hc;omega};{have:=p4 c hc x hx;exact⟨by omega,this.2⟩}
abbrev allQ (t:Tree) (g:Grid) (n w h r:Nat):A1:=pJ t g n w r ((w+2*r)*(h+2*r)) []
theorem cells48 (A:GL_ n b t ns g w h r) (h1:dt t.Hood=some (r:Int)):iH t g=some ((b:Int),((w+2*r:Nat):Int),((h+2*r:Nat):Int)):=by
 obtain⟨k1,k2,k3⟩:=A.w16;have hr2:=A.r2;unfold iH;rw[h1,be,PC.bits_eq,A.R.st,A.R.sb.bits,be,be,
  show bC .i64 g.W (bH .i64 2 (r:Int))=((w+2*r:Nat):Int)from by rw[A.G.W,dz (by omega),cY (by omega)];omega,
  show bC .i64 g.H (bH .i64 2 (r:Int))=((h+2*r:Nat):Int)from by rw[A.G.H,dz (by omega),cY (by omega)];omega]
end
end Go.Proofs.YtpeabgakdpojlaaGreatDoor
namespace Go.Proofs.YtpeabgakdpojlaaGreatDoor
open Go.AM Go.Proofs Go.Sort
structure Fit (n b:Nat) (t:Tree) (ns:AE) (g:Grid) (w h r:Nat):Prop where
 A:GL_ n b t ns g w h r
 R:RW n b t ns
 hg:∀s∈g.Cells,s<(n:Int)
 h1:dt t.Hood=some (r:Int)
 h2:dA t.Hood=some (r:Int)
 h3:k4 g=true
 h4:iD (λ_ s=>geB s t.States) g.Cells 0=false
 hc:l7 t g=some 0
 hf:gF (om b t ns g n w h r).1 (om b t ns g n w h r).2=true
theorem par_cases {t:Tree} {g:Grid} (hs:Sz t) (hl:g.Cells.length<=5000) :(∃e:Int,e≠0/\eS t g=some (⟨0,[]⟩,0,e)/\kc t g=some (⟨0,[]⟩,0,e)/\(e=chkG t g\/(e=6/\chkG t g=0)))\/(∃n b ns w h r,Fit n b t ns g w h r):=by
 by_cases h0:chkG t g=0
 ·obtain⟨n,b,ns,w,h,r,A,h1,h2,h3,h4⟩:=gl_of h0;have hck:l7 t g=some 0:=by grind[checkG_eq]
  cases hf:gF (om b t ns g n w h r).1 (om b t ns g n w h r).2 with
  |false=>refine .inl ⟨6,by decide,?_,?_,.inr ⟨rfl,h0⟩⟩;{grind[parP]};grind[parR]|true=>
   refine .inr ⟨n,b,ns,w,h,r,A,?_,?_,h1,h2,h3,h4,hck,hf⟩
   ·obtain⟨n',b',ns',RW'⟩:=rw_of A.R.ok;have en:n'=n:=by have e1:=RW'.st;have e2:=A.R.st;omega
    have ens:ns'=ns:=by have e1:=RW'.P;rw[A.R.P] at e1;simp_all
    subst en ens;have eb:b'=b:=by have e1:=RW'.sb.bits;have e2:=A.R.sb.bits;omega
    subst eb;exact RW'
   ·intro s hs';obtain⟨j,hj⟩:=List.mem_iff_getElem?.1 hs';have h5:=of_decide_eq_false (gp h4 j s hj);rw[A.R.st] at h5;omega
 ·refine .inl ⟨chkG t g,h0,parErr hs (by omega) h0,?_,.inl rfl⟩;unfold kc;rw[checkG_eq hs (by omega),be,show neB (chkG t g) 0=true from by simp[neB,h0],cond_true]
theorem same_list {l:AK} (hl:l.length<=100000) (hc:∀x∈l,x.Cells.length<1099511627776):nq l l=some true:=by unfold nq;rw[show neB (br l) (br l)=false from by simp[neB],cond_false,hZ l (λ_ _=>false) false (by omega) (λi x hx=>by unfold nU;dsimp only;rw[bD,decide_eq_true (cG hx),cond_true,bE,hx,be,be,same_grid (hc x (List.mem_of_getElem? hx)),be,cd (by grind)];rfl) (by simp[nU,bD])];rw[show iD (λ_ (_:Grid)=>false) l 0=false from iA λ_ _ _=>rfl];rfl
end Go.Proofs.YtpeabgakdpojlaaGreatDoor
namespace Go.Proofs.YtpeabgakdpojlaaGreatDoor
open Go.AM Go.Proofs Go.Sort
theorem mkL_ok {I:Type} {k:Int} (hk:k<=100) {n:Nat} (hn:n<=1000000) (hk0:0<=k) (x:I):mkL k (n:Int) (n:Int) x=some (List.replicate n x):=by have:(n:Int)*k<=1000000*100:=Int.mul_le_mul (by omega) hk hk0 (by omega);unfold mkL;grind
theorem loop_set {I:Type} {b:Int×List I->Option (Lp (Int×List I) (List I))} (n:Nat) (f:Nat->I) (d:I) (hn:n<1099511627776) (hs:∀(i:Nat) (L:List I),i<n->L.length=n->b ((i:Int),L)=some (.next (((i+1:Nat):Int),L.set i (f i)))) (he:∀L:List I,L.length=n->b ((n:Int),L)=some (.out L)):bv b bL (0,List.replicate n d)=some ((List.range n).map f):=by obtain⟨o,ho,rfl⟩:=d5 (b:=b) (n:=n) (s:=(0,List.replicate n d)) (λi st=>st=((i:Int),(List.range i).map f++List.replicate (n-i) d)) (λo=>o=(List.range n).map f) hn rfl (λi st hi e=>by subst e;refine .inl ⟨_,hs i _ hi (by simp;omega),?_⟩;have h1:=set_app ((List.range i).map f) (n-i-1) d (f i);grind[List.range_succ]) (λst e=>by simp_all);exact ho
def tv (b a:Nat):Nat:=a/b*b+(b-1-a%b)
def tpi (n b u:Nat):Nat:=if 1<=u/\u<=n then tv b (u-1)+1 else u
def tlit (n b:Nat) (x:Int):Int:=if x<0 then -((tpi n b x.natAbs:Nat):Int)else((tpi n b x.natAbs:Nat):Int)
theorem tv_at {b k j:Nat} (hj:j<b):tv b (k*b+j)=k*b+(b-1-j):=by unfold tv;rw[Nat.mul_comm k b,Nat.mul_add_div (by omega),Nat.div_eq_of_lt hj,Nat.add_zero,Nat.mul_add_mod,Nat.mod_eq_of_lt hj,Nat.mul_comm]
theorem tv_split {b:Nat} (hb:1<=b) (a:Nat):∃k j,j<b/\a=k*b+j:=⟨a/b,a%b,Nat.mod_lt _ (by omega),by simp[Nat.div_add_mod,Nat.mul_comm]⟩
theorem tv_tv {b:Nat} (hb:1<=b) (a:Nat):tv b (tv b a)=a:=by obtain⟨k,j,hj,rfl⟩:=tv_split hb a;rw[tv_at hj,tv_at (by omega)];omega
theorem tv_lt {b M a:Nat} (hb:1<=b) (ha:a<M*b):tv b a<M*b:=by
 obtain⟨k,j,hj,rfl⟩:=tv_split hb a;rw[tv_at hj];have hk:k<M:=by rcases Nat.lt_or_ge k M with h3|h3;{exact h3};{have:=Nat.mul_le_mul_right b h3;omega}
 have:=Nat.mul_le_mul_right b (show k+1<=M from hk);grind
section
variable {b M:Nat}
theorem tpi_lt (hb:1<=b) {u:Nat} (h1:1<=u) (h2:u<=M*b):1<=tpi (M*b) b u/\tpi (M*b) b u<=M*b:=by unfold tpi;rw[if_pos ⟨h1,h2⟩];have:=tv_lt (M:=M) hb (show u-1<M*b by omega);omega
theorem tpi_tpi (hb:1<=b) (u:Nat):tpi (M*b) b (tpi (M*b) b u)=u:=by by_cases h:1<=u/\u<=M*b;{have h3:=tpi_lt hb h.1 h.2;have e:tpi (M*b) b u=tv b (u-1)+1:=if_pos h;simp_all[tpi,tv_tv]};simp_all[tpi,if_neg]
theorem tpi_ok (hb:1<=b) {N u:Nat} (hN:M*b<=N) (h1:1<=u) (h2:u<=N):1<=tpi (M*b) b u/\tpi (M*b) b u<=N:=by by_cases h:1<=u/\u<=M*b;{grind[tpi_lt]};simp_all[tpi,if_neg]
theorem tlit_abs (n b:Nat) (x:Int):(tlit n b x).natAbs=tpi n b x.natAbs:=by grind[tlit]
theorem tlit_ok (hb:1<=b) {N:Nat} (hN:M*b<=N) {x:Int} (h:iY N x):iY N (tlit (M*b) b x):=by have h1:=tpi_ok (M:=M) hb hN (u:=x.natAbs) (by have:=h.1;omega) h.2;have h2:=tlit_abs (M*b) b x;exact⟨by omega,by omega⟩
theorem tlit_tr (hb:1<=b) (γ:An) {x:Int} (hx:x≠0):tr γ (tlit (M*b) b x)=tr (λu=>γ (tpi (M*b) b u)) x:=by
 have h2:=tlit_abs (M*b) b x;have h3:0<tlit (M*b) b x↔0<x:=by
  unfold tlit;by_cases h:x<0;{omega}
  ·rw[if_neg h];have h4:1<=tpi (M*b) b x.natAbs:=by by_cases h:1<=x.natAbs/\x.natAbs<=M*b;{exact(tpi_lt hb h.1 h.2).1};{have e:tpi (M*b) b x.natAbs=x.natAbs:=if_neg h;rw[e];omega}
   omega
 unfold tr;simp_all
def turnF (n b:Nat) (f:Bv):Bv:=⟨f.Vars,f.Clauses.map λc=>c.map (tlit n b)⟩
theorem turn_sat (hb:1<=b) {N:Nat} {f:Bv} (F:FmO N f) (γ:An):satF (turnF (M*b) b f) γ↔satF f λu=>γ (tpi (M*b) b u):=by unfold satF turnF;constructor;{intro h c hc;obtain⟨x,hx,h1⟩:=h _ (List.mem_map.2 ⟨c,hc,rfl⟩);obtain⟨z,hz,rfl⟩:=List.mem_map.1 hx;exact⟨z,hz,by rw[<- tlit_tr hb γ (F.ok c hc z hz).1];exact h1⟩};{intro h c hc;obtain⟨d,hd,rfl⟩:=List.mem_map.1 hc;obtain⟨x,hx,h1⟩:=h d hd;exact⟨tlit (M*b) b x,List.mem_map.2 ⟨x,hx,rfl⟩,by rw[tlit_tr hb γ (F.ok d hd x hx).1];exact h1⟩}
theorem turn_fm (hb:1<=b) {N:Nat} {f:Bv} (F:FmO N f) (hN:M*b<=N):FmO N (turnF (M*b) b f) :=⟨F.vars,F.big,by unfold turnF;rw[List.length_map];exact F.cnt,λc hc=>by obtain⟨d,hd,rfl⟩:=List.mem_map.1 hc;rw[List.length_map];exact F.sh d hd,λc hc x hx=>by obtain⟨d,hd,rfl⟩:=List.mem_map.1 hc;obtain⟨z,hz,rfl⟩:=List.mem_map.1 hx;exact tlit_ok hb hN (F.ok d hd z hz)⟩
def ra (b n:Nat):A0:=(List.range n).map λa=>((tv b a:Nat):Int)
theorem turned_is (hb1:1<=b) (hb3:b<=3) (hM:M<=16) {N:Nat} {f:Bv} (F:FmO N f) (hN:M*b<=N):jx f ((M*b:Nat):Int) (b:Int)=some (turnF (M*b) b f,ra b (M*b)):=by
 have hn:M*b<=16*3:=Nat.mul_le_mul hM hb3;have hbig:=F.big;unfold jx;rw[mkL_ok (by omega) (by omega) (by omega),be,Int.toNat_natCast];rw[loop_set (b:=fT f ((M*b:Nat):Int) (b:Int)) (M*b) (λa=>((tv b a:Nat):Int)) 0 (by omega) (λi L hi hL=>by
  obtain⟨q1,q2⟩:=idivN (w:=b) (i:=i) hb1 (by omega) (by omega);have hmod:i%b<b:=Nat.mod_lt _ (by omega);have hdm:=Nat.div_add_mod i b;have hmul:(i/b:Nat)*b<=48:=by grind
  have hmc:=Int.natCast_mul (i/b) b;unfold fT;dsimp only;rw[Int.toNat_natCast,show ltB (i:Int) (br (List.replicate (M*b) ()))=true from decide_eq_true (by unfold br;grind),cond_true,q2,be,q1,be,bE,zB,be,zF,Int.toNat_natCast];have e:bZ .i64 (bZ .i64 (bC .i64 (bH .i64 ((i/b:Nat):Int) (b:Int)) (b:Int)) 1) ((i%b:Nat):Int)=((tv b i:Nat):Int):=by grind[dz,cY,jq,tv]
  rw[e]) (λL hL=>by unfold fT;grind[ltB,br]),be]
 show (bv (f7 f ((M*b:Nat):Int) (ra b (M*b))) bL (0,[])).bind _=_;have hcnt:=F.cnt;have hg:=lu (b:=f7 f ((M*b:Nat):Int) (ra b (M*b))) f.Clauses (λ_ c=>[c.map (tlit (M*b) b)]) 1 1000000 [] (λ_ _=>Nat.le_refl _) (by omega) (by simp;omega) (λk c ac hc hac=>by
   have hcm:=List.mem_of_getElem? hc;have hsh:=F.sh c hcm;unfold f7;dsimp only;rw[bD,decide_eq_true (cG hc),cond_true,bE,hc,be,show br c=((c.length:Nat):Int)from rfl,mkL_ok (by omega) (by omega) (by omega),be,show ((c.length:Nat):Int).toNat=c.length from Int.toNat_natCast _];rw[loop_set (b:=fS f ((M*b:Nat):Int) (ra b (M*b)) (k:Int) ac c) c.length (λj=>tlit (M*b) b (c.getD j 0)) 0 (by omega) (λi L hi hL=>by
    have hx:c[i]?=some (c.getD i 0):=by simp_all
    have hxo:=F.ok c hcm _ (List.mem_of_getElem? hx);generalize c.getD i 0=x at hx hxo;have hx1:=hxo.1;have hx2:=hxo.2;have hv:(bif (leB (ja x (cA .i64 x)) ((M*b:Nat):Int))then(idx (ra b (M*b)) (bZ .i64 (ja x (cA .i64 x)) 1)).bind λx2=>some (bC .i64 x2 1)else some (ja x (cA .i64 x)))=some ((tpi (M*b) b x.natAbs:Nat):Int):=by rw[imax_abs hbig hxo];by_cases h:x.natAbs<=M*b;{rw[show leB (x.natAbs:Int) ((M*b:Nat):Int)=true from zD,cond_true];have e:tpi (M*b) b x.natAbs=tv b (x.natAbs-1)+1:=if_pos ⟨by omega,h⟩;have hlt:=tv_lt (M:=M) hb1 (show x.natAbs-1<M*b by omega);rw[e,show bZ .i64 (x.natAbs:Int) 1=((x.natAbs-1:Nat):Int)from by grind[jq],bE];grind[ra,cd]};{rw[show leB (x.natAbs:Int) ((M*b:Nat):Int)=false from zA,cond_false];simp_all[tpi,if_neg]}
    have htp:=tpi_ok (M:=M) hb1 hN (u:=x.natAbs) (by omega) hx2;unfold fS;dsimp only;rw[bD,decide_eq_true hi,cond_true,bE,hx,be,hv,be];have hs:(bif (ltB x 0)then some (cA .i64 ((tpi (M*b) b x.natAbs:Nat):Int))else some ((tpi (M*b) b x.natAbs:Nat):Int))=some (tlit (M*b) b x):=by unfold tlit;by_cases h:x<0;{rw[show ltB x 0=true from decide_eq_true h,cond_true,if_pos h,ineg_in (by omega)]};simp_all[ltB,decide_eq_false,if_neg]
    grind[bE,cd]) (λL hL=>by simp[fS,bD]),be,dw (by decide) (by decide) (by simp;omega),be,cd (by grind)]
   have e:(List.range c.length).map (λj=>tlit (M*b) b (c.getD j 0))=c.map (tlit (M*b) b):=by refine List.ext_getElem? λj=>?_;grind
   rw[e])
  (λac=>by simp[f7,bD])
 rw[hg,List.nil_append,gat_map];rfl
theorem back_is (hb1:1<=b) (hb3:b<=3) (hM:M<=16) {N:Nat} (hN:M*b<=N) (γ:An):lB (bits γ N) (ra b (M*b))=some (bits (λu=>γ (tpi (M*b) b u)) (M*b)):=by
 have hn:M*b<=16*3:=Nat.mul_le_mul hM hb3;have hl:(ra b (M*b)).length=M*b:=by unfold ra;simp
 unfold lB;rw[show br (ra b (M*b))=((M*b:Nat):Int)from by unfold br;rw[hl],mkL_ok (by omega) (by omega) (by omega),be,Int.toNat_natCast];rw[loop_set (b:=gO (bits γ N) (ra b (M*b))) (M*b) (λa=>γ (tpi (M*b) b (a+1))) false (by omega) (λi L hi hL=>by
  have hlt:=tv_lt (M:=M) hb1 hi;have hv:(ra b (M*b))[i]?=some ((tv b i:Nat):Int):=by unfold ra;simp_all
  unfold gO;dsimp only;rw[show ltB (i:Int) (br (ra b (M*b)))=true from decide_eq_true (by grind[br]),cond_true,bE,hv,be,bE,m6,if_pos (by omega),be,bE,zB,be,zF,Int.toNat_natCast,
   show tpi (M*b) b (i+1)=tv b i+1 from if_pos ⟨by omega,by omega⟩]) (λL hL=>by simp[gO,ltB,br,ra]),be]
 rfl
end
end Go.Proofs.YtpeabgakdpojlaaGreatDoor
namespace Go.Proofs.YtpeabgakdpojlaaGreatDoor
open Go.AM Go.Proofs Go.Sort
def hiChk:Bool:=(List.range 4).all λb=>(List.range 8).all λc=>(List.range 8).all λd=>(List.range 3).all λj=>!(decide (c<2 ^ b)&&(decide (d<2 ^ b)&&(decide (j<b)&&(((List.range j).all λi=>fU (c:Int) (b-1-i)==fU (d:Int) (b-1-i))&&(!fU (c:Int) (b-1-j)&&fU (d:Int) (b-1-j))))))||decide (c<d)
theorem hiChk_true:hiChk=true:=by kernel_rfl
theorem hi_lt {b c d j:Nat} (hb:b<=3) (hc:c<2 ^ b) (hd:d<2 ^ b) (hj:j<b) (h:∀i,i<j->fU (c:Int) (b-1-i)=fU (d:Int) (b-1-i)) (h1:fU (c:Int) (b-1-j)=false) (h2:fU (d:Int) (b-1-j)=true):c<d:=by have h8:2 ^ b<=2 ^ 3:=Nat.pow_le_pow_right (by omega) hb;have h0:=hiChk_true;unfold hiChk at h0;have h3:=List.all_eq_true.1 (List.all_eq_true.1 (List.all_eq_true.1 (List.all_eq_true.1 h0 b (List.mem_range.2 (by omega))) c (List.mem_range.2 (by omega))) d (List.mem_range.2 (by omega))) j (List.mem_range.2 (by omega));grind
theorem list_lt {c c':Aj} {M k:Nat} (hk:k<M) (h:∀i,i<k->c i=c' i) (hlt:c k<c' k):lexB (iX c M) (iX c' M):=by
 have hs:∀d:Aj,iX d M=(iX d M).take k++((d k:Nat):Int)::(iX d M).drop (k+1):=λd=>by grind[List.take_append_drop,drop_get,qk]
 have ht:(iX c M).take k=(iX c' M).take k:=List.ext_getElem? λi=>by rw[List.getElem?_take,List.getElem?_take];by_cases hi:i<k;{rw[if_pos hi,if_pos hi,qk (by omega),qk (by omega),h i hi]};grind
 grind[lex_pre,lex_head]
theorem cmp_turn {b M N:Nat} (hb1:1<=b) (hb3:b<=3) {c c':Aj} (hc:∀k,k<M->c k<2 ^ b) (hc':∀k,k<M->c' k<2 ^ b) {β γ:An} (hβ:∀k j,k<M->j<b->β (k*b+j+1)=fU ((c k:Nat):Int) (b-1-j)) (hγ:∀k j,k<M->j<b->γ (k*b+j+1)=fU ((c' k:Nat):Int) (b-1-j)) (hN:M*b<=N) (h:bits γ N=bits β N\/ltb (bits β N) (bits γ N)):iX c M=iX c' M\/lexB (iX c M) (iX c' M):=by
 have key:∃w,(∀v,v<w->v<N->β (v+1)=γ (v+1))/\(M*b<=w\/(w<M*b/\β (w+1)=false/\γ (w+1)=true)):=by rcases h with h|⟨w,h1,h2,h3⟩;{refine⟨N,λv _ hv=>?_,.inl hN⟩;have:=congrArg (·[v]?) h;simp only[m6,if_pos hv,Option.some.injEq] at this;exact this.symm};{refine⟨w,λv hv hvN=>?_,?_⟩;{have:=h1 v hv;simp_all[m6]};{rcases Nat.lt_or_ge w (M*b)with h4|h4;{simp_all[m6]};{exact .inl h4}}}
 obtain⟨w,h1,h2⟩:=key;have hlt:∀k j,k<M->j<b->k*b+j<M*b:=λk j hk hj=>by have:=Nat.mul_le_mul_right b (show k+1<=M from hk);grind
 have hsame:∀k,k<M->k*b+b<=w->c k=c' k:=λk hk hw=>bits_inj hb3 (hc k hk) (hc' k hk) λj hj=>by have:=h1 (k*b+(b-1-j)) (by omega) (by have:=hlt k (b-1-j) hk (by omega);omega);rw[hβ k _ hk (by omega),hγ k _ hk (by omega),show b-1-(b-1-j)=j by omega] at this;exact this
 rcases h2 with h2|⟨h2,h3,h4⟩;{refine .inl ?_;unfold iX;refine List.map_congr_left λk hk=>?_;have hk':=List.mem_range.1 hk;rw[hsame k hk' (by have:=hlt k (b-1) hk' (by omega);omega)]}
 ·obtain⟨k,j,hj,rfl⟩:=tv_split hb1 w;have hk:k<M:=by grind[Nat.lt_or_ge,Nat.mul_le_mul_right]
  refine .inr (list_lt hk (λi hi=>hsame i (by omega) ?_) (hi_lt hb3 (hc k hk) (hc' k hk) hj (λi hi=>?_) ?_ ?_));{have:=Nat.mul_le_mul_right b (show i+1<=k from hi);grind};{grind};{simp_all};simp_all
theorem head_is {l:A1} (hl:l.Pairwise lexB) {q:A0} (hq:q∈l) (h:∀x∈l,q=x\/lexB q x):∃rest,l=q::rest:=by
 cases l with
 |nil=>(cases hq)|cons x l=>rw[List.pairwise_cons] at hl;rcases h x (by simp)with e|h1;{simp_all};{rcases List.mem_cons.1 hq with e|h2;{simp_all};{exact(lex_ne (cmpLL_trans _ _ _ h1 (hl.1 q h2)) rfl).elim}}
section
variable {n b:Nat} {t:Tree} {ns:AE} {g:Grid} {w h r:Nat}
def oz (t:Tree) (g:Grid) (n w h r:Nat):Grid×Bool×Int:=match allQ t g n w h r with|[]=>(⟨0,0,0,[]⟩,false,0)|q::_=>(gridQ w h r q,true,0)
theorem tpi_at {b M k j:Nat} (hj:j<b) (hlt:k*b+j<M*b):tpi (M*b) b (k*b+j+1)=k*b+(b-1-j)+1:=by unfold tpi;rw[if_pos (by omega),Nat.add_sub_cancel,tv_at hj]
theorem bits_code {I:An} {c:Aj} {b M:Nat} (h:bits I (M*b)=codeL c b M) {k j:Nat} (hk:k<M) (hj:j<b):I (k*b+j+1)=fU ((c k:Nat):Int) j:=by
 have hlt:k*b+j<M*b:=by have:=Nat.mul_le_mul_right b (show k+1<=M from hk);grind
 have:=congrArg (·[k*b+j]?) h;unfold codeL at this;simp only[m6,if_pos hlt,Option.some.injEq] at this;rw[this,qq c hj]
theorem first48 (F:Fit n b t ns g w h r) (hs:Sz t):d9 t g=some (oz t g n w h r):=by
 have A:=F.A;have hb1:=A.R.sb.b1;have hb3:=A.R.sb.b3;have hpw:=A.R.sb.pw;obtain⟨N,FM,hN⟩:=par_fm A F.hg F.hf;have FT:=turn_fm (b:=b) hb1 FM hN;unfold d9;rw[parP A F.h1 F.h3 F.h4,F.hf,cond_true,be];dsimp only;rw[show neB (0:Int) 0=false from rfl,cond_false,PC.bits_eq,A.R.st,A.R.sb.bits,be,<- Int.natCast_mul,turned_is hb1 hb3 A.sz FM hN,be];dsimp only;have hsat:∀q∈allQ t g n w h r,∃γ:An,satF (turnF ((w+2*r)*(h+2*r)*b) b ⟨(om b t ns g n w h r).1,(om b t ns g n w h r).2⟩) γ/\∀k j,k<(w+2*r)*(h+2*r)->j<b->γ (k*b+j+1)=fU ((csq q k:Nat):Int) (b-1-j):=λq hq=>by
  obtain⟨I,h1,h2⟩:=(pred_codes A F.R hs F.hg _).2 ⟨q,(enum_pred A).1 hq,rfl⟩;refine⟨λu=>I (tpi ((w+2*r)*(h+2*r)*b) b u),(turn_sat hb1 FM _).2 ?_,λk j hk hj=>?_⟩
  ·have e:(λu=>I (tpi ((w+2*r)*(h+2*r)*b) b (tpi ((w+2*r)*(h+2*r)*b) b u)))=I:=funext λu=>by rw[tpi_tpi hb1]
   grind[Sat_satF]
  ·have hlt:k*b+j<(w+2*r)*(h+2*r)*b:=by have:=Nat.mul_le_mul_right b (show k+1<=_ from hk);grind
   grind[tpi_at,bits_code]
 rcases first_is FT with⟨β,e1,e2,e3⟩|⟨e1,e2⟩
 ·rw[e1,be];dsimp only;rw[show neB (0:Int) 0=false from rfl,cond_false,show e9 true=false from rfl,be,cond_false,cells48 A F.h1,be,back_is hb1 hb3 A.sz hN,be];dsimp only;have e4:=(turn_sat hb1 FM β).1 e2;obtain⟨q,P,e5⟩:=(pred_codes A F.R hs F.hg _).1 ⟨_,(Sat_satF _ _ _).1 e4,rfl⟩;rw[e5,build_code A P,be];have hβ:∀k j,k<(w+2*r)*(h+2*r)->j<b->β (k*b+j+1)=fU ((csq q k:Nat):Int) (b-1-j):=λk j hk hj=>by
   have hlt:k*b+(b-1-j)<(w+2*r)*(h+2*r)*b:=by have:=Nat.mul_le_mul_right b (show k+1<=_ from hk);grind
   have:=bits_code e5 hk (show b-1-j<b by omega);rw[tpi_at (by omega) hlt,show b-1-(b-1-j)=j by omega] at this;exact this
  obtain⟨rest,e6⟩:=head_is (enum_asc _ []) ((enum_pred A).2 P) λx hx=>by obtain⟨γ,g1,g2⟩:=hsat x hx;have P':=(enum_pred A).1 hx;have:=cmp_turn hb1 hb3 (λk hk=>Nat.lt_of_lt_of_le (P.cs k hk) hpw) (λk hk=>Nat.lt_of_lt_of_le (P'.cs k hk) hpw) hβ g2 hN (e3 γ g1);rwa [csq_list P.len λs hs=>(P.st s hs).1,csq_list P'.len λs hs=>(P'.st s hs).1] at this
  unfold oz;rw[show allQ t g n w h r=q::rest from e6];rfl
 ·rw[e1,be];dsimp only;rw[show neB (0:Int) 0=false from rfl,cond_false,show e9 false=true from rfl,be,cond_true];unfold oz;cases hE:allQ t g n w h r with|nil=>rfl|cons q rest=>obtain⟨γ,g1,_⟩:=hsat q (by rw[hE];simp);grind
theorem firstR48 (F:Fit n b t ns g w h r) (hs:Sz t):jw t g=some (oz t g n w h r):=by
 have A:=F.A;unfold jw;rw[parR A F.h2 F.hc,F.hf,cond_true,be];dsimp only;rw[show neB (0:Int) 0=false from rfl,cond_false];unfold tP;rw[show (1:Int)=((1:Nat):Int)from rfl,search48 A rfl hs F.h2 ((w+2*r)*(h+2*r)) [] 1 recF (by simp) (by omega) (by omega) (by have:=A.sz;unfold recF;omega) (λs hs=>by cases hs),be];unfold oz allQ;generalize pJ t g n w r ((w+2*r)*(h+2*r)) []=Ea;cases Ea with
 |nil=>rfl|cons q rest=>rfl
end
end Go.Proofs.YtpeabgakdpojlaaGreatDoor
namespace Go.Proofs.YtpeabgakdpojlaaGreatDoor
open Go.AM Go.Proofs Go.Sort
theorem first_both {t:Tree} {g:Grid} (hs:Sz t) (hl:g.Cells.length<=5000) :(∃e:Int,e≠0/\d9 t g=some (⟨0,0,0,[]⟩,false,e)/\jw t g=some (⟨0,0,0,[]⟩,false,e)/\(e=chkG t g\/(e=6/\chkG t g=0)))\/(∃n b ns w h r,Fit n b t ns g w h r/\d9 t g=some (oz t g n w h r)/\jw t g=some (oz t g n w h r)):=by rcases par_cases hs hl with⟨e,h1,h2,h3,h4⟩|⟨n,b,ns,w,h,r,F⟩;{refine .inl ⟨e,h1,?_,?_,h4⟩;{unfold d9;rw[h2,be,show neB e 0=true from by simp[neB,h1],cond_true]};{unfold jw;rw[h3,be,show neB e 0=true from by simp[neB,h1],cond_true]}};grind[first48,firstR48]
section
variable {n b:Nat} {t:Tree} {ns:AE} {g:Grid} {w h r:Nat}
theorem firstR_in (F:Fit n b t ns g w h r):(oz t g n w h r).2.2=0/\(oz t g n w h r).1.Cells.length<=16/\((oz t g n w h r).2.1=true->∃q,Pred t g n w h r q/\(oz t g n w h r).1=gridQ w h r q):=by
 unfold oz;cases hE:allQ t g n w h r with
 |nil=>simp|cons q rest=>have P:Pred t g n w h r q:=(enum_pred F.A).1 (by simp_all);refine⟨rfl,?_,λ_=>⟨q,P,rfl⟩⟩;have h5:=P.len;have h6:=F.A.sz;show q.length<=16;omega
theorem grid_edge {e:Int} (he:0<=e/\e<=2) (h:k4 g=true):k4 ⟨g.W,g.H,e,g.Cells⟩=true:=by unfold k4 sizeB at h⊢;simp only[Bool.and_eq_true] at h⊢;obtain⟨⟨a1,a2,a3,a4,a5,a6,a7⟩,a8,a9⟩:=h;exact⟨⟨a1,a2,a3,a4,a5,decide_eq_true he.1,decide_eq_true he.2⟩,a8,a9⟩
theorem Fit.edge (F:Fit n b t ns g w h r) (hs:Sz t) {e:Int} (he:0<=e/\e<=2):Fit n b t ns ⟨g.W,g.H,e,g.Cells⟩ w h r:=by have hok:=F.A.R.ok;have h3:=grid_edge he F.h3;refine⟨⟨F.A.R,⟨F.A.G.W,F.A.G.H,F.A.G.w1,F.A.G.w2,F.A.G.h1,F.A.G.h2,F.A.G.len,F.A.G.cell⟩,F.A.r2,F.A.pts,F.A.sz⟩,F.R,F.hg,F.h1,F.h2,h3,F.h4,?_,F.hf⟩;have hl:=F.A.G.len;have hc:=F.hc;have hk:=F.A.w16;rw[checkG_eq hs (by omega)] at hc;rw[checkG_eq hs (by grind)];refine congrArg some ?_;grind[chkG]
end
end Go.Proofs.YtpeabgakdpojlaaGreatDoor
namespace Go.Proofs.YtpeabgakdpojlaaGreatDoor
open Go.AM Go.Proofs Go.Sort
section
variable {n b:Nat} {t:Tree} {ns:AE} {g:Grid} {w h r:Nat} {q:A0}
end
end Go.Proofs.YtpeabgakdpojlaaGreatDoor
namespace Go.Proofs.YtpeabgakdpojlaaGreatDoor
open Go.AM Go.Proofs Go.Sort
end Go.Proofs.YtpeabgakdpojlaaGreatDoor
namespace Go.Proofs.YtpeabgakdpojlaaGreatDoor
open Go.AM Go.Proofs Go.Sort
def nk (t:Tree):Nat->Grid->AK
 |0,_=>[]|m+1,g=>match d9 t g with
  |some e=>bif e.2.1 then e.1::nk t m e.1 else []|none=>[]
theorem first_end {t:Tree} {g:Grid} (hs:Sz t) (hl:g.Cells.length<=5000):∃x ok e,d9 t g=some (x,ok,e)/\jw t g=some (x,ok,e)/\x.Cells.length<=16/\((ok=false/\∀m,nk t (m+1) g=[])\/(ok=true/\e=0/\∀m,nk t (m+1) g=x::nk t m x)):=by rcases first_both hs hl with⟨e,h1,h2,h3,_⟩|⟨n,b,ns,w,h,r,F,h2,h3⟩;{exact⟨_,_,_,h2,h3,Nat.zero_le _,.inl ⟨rfl,λm=>by rw[nk,h2];rfl⟩⟩};{obtain⟨f1,f2,f3⟩:=firstR_in F;clear f3;generalize oz t g n w h r=fr at h2 h3 f1 f2;obtain⟨x,ok,e⟩:=fr;dsimp only at f1 f2;subst f1;refine⟨x,ok,0,h2,h3,f2,?_⟩;cases ok with|false=>exact .inl ⟨rfl,λm=>by rw[nk,h2];rfl⟩|true=>exact .inr ⟨rfl,rfl,λm=>by rw[nk,h2];rfl⟩}
theorem chain_run {t:Tree} (hs:Sz t) {n:Nat} (hn:n<=100):∀(m f:Nat) (g:Grid) (out:AK),g.Cells.length<=5000->out.length+m=n->m<f ->
  bv (dT t (n:Int)) f (g.W,g.H,g.Edge,g.Cells,out)=some (out++nk t m g)
 |0,f,g,out,hl,ho,hf=>by
  obtain⟨f,rfl⟩:∃k,f=k+1:=⟨f-1,by omega⟩
  simp_all[bv,dT,ltB,br,nk]
 |m+1,f,g,out,hl,ho,hf=>by
  obtain⟨f,rfl⟩:∃k,f=k+1:=⟨f-1,by omega⟩
  obtain⟨x,ok,e,h1,_,h3,h4⟩:=first_end hs hl;rcases h4 with⟨rfl,h5⟩|⟨rfl,rfl,h5⟩
  ·have hb:dT t (n:Int) (g.W,g.H,g.Edge,g.Cells,out)=some (.out out):=by unfold dT;simp_all
   rw[bv,hb,h5,List.append_nil]
  ·have hb:dT t (n:Int) (g.W,g.H,g.Edge,g.Cells,out)=some (.next (x.W,x.H,x.Edge,x.Cells,out++[x])):=by unfold dT;dsimp only;rw[show ltB (br out) (n:Int)=true from decide_eq_true (by unfold br;omega),cond_true,h1,be];dsimp only;rw[show eqB (0:Int) 6=false from rfl,cond_false,show e9 true=false from rfl,be,cond_false,dw (by decide) (by decide) (by simp;omega),be]
   rw[bv,hb];dsimp only;rw[chain_run hs hn m f x (out++[x]) (by omega) (by simp;omega) (by omega),h5,List.append_assoc];rfl
theorem chainR_run {t:Tree} (hs:Sz t) {n:Nat} (hn:n<=100):∀(m f:Nat) (g:Grid) (out:AK),g.Cells.length<=5000->out.length+m=n->m<f -> ∃o,bv (gz t (n:Int)) f ((out.length:Int),g.W,g.H,g.Edge,g.Cells,out)=some o/\(o=.inl (out++nk t m g,0)\/o=.inr (out++nk t m g))
 |0,f,g,out,hl,ho,hf=>by
  obtain⟨f,rfl⟩:∃k,f=k+1:=⟨f-1,by omega⟩
  rw[bv];unfold gz;dsimp only;rw[show ltB (out.length:Int) (n:Int)=false from zA,cond_false,nk,List.append_nil];simp
 |m+1,f,g,out,hl,ho,hf=>by
  obtain⟨f,rfl⟩:∃k,f=k+1:=⟨f-1,by omega⟩
  obtain⟨x,ok,e,_,h2,h3,h4⟩:=first_end hs hl;rcases h4 with⟨rfl,h5⟩|⟨rfl,rfl,h5⟩
  ·have hb:gz t (n:Int) ((out.length:Int),g.W,g.H,g.Edge,g.Cells,out)=some (.out (.inl (out,0))):=by unfold gz;dsimp only;rw[show ltB (out.length:Int) (n:Int)=true from zD,cond_true,h2,be];rfl
   rw[bv,hb,h5,List.append_nil];simp
  ·have hi:bC .i64 (out.length:Int) 1=(((out++[x]).length:Nat):Int):=by rw[zF,List.length_append];rfl
   have hb:gz t (n:Int) ((out.length:Int),g.W,g.H,g.Edge,g.Cells,out)=some (.next ((((out++[x]).length:Nat):Int),x.W,x.H,x.Edge,x.Cells,out++[x])):=by unfold gz;dsimp only;rw[show ltB (out.length:Int) (n:Int)=true from zD,cond_true,h2,be];dsimp only;rw[show neB (0:Int) 0=false from rfl,show e9 true=false from rfl,cond_false,be,cond_false,dw (by decide) (by decide) (by simp;omega),be,hi]
   obtain⟨o,q1,q2⟩:=chainR_run hs hn m f x (out++[x]) (by omega) (by simp;omega) (by omega);rw[bv,hb];simp_all
theorem chain_cells {t:Tree} (hs:Sz t):∀(m:Nat) (g:Grid),g.Cells.length<=5000->(nk t m g).length<=m/\∀x∈nk t m g,x.Cells.length<=16|0,g,_=>⟨Nat.le_refl _,λx hx=>by cases hx⟩|m+1,g,hl=>by obtain⟨x,ok,e,_,_,h3,h4⟩:=first_end hs hl;rcases h4 with⟨_,h5⟩|⟨_,_,h5⟩;{simp_all};{rw[h5];obtain⟨c1,c2⟩:=chain_cells hs m x (by omega);simp_all}
theorem chain_both {t:Tree} {g:Grid} (hs:Sz t) (hl:g.Cells.length<=5000) (n:Int):∃e,fw t g n=some e/\lV t g n=some e/\e.1.length<=100/\∀x∈e.1,x.Cells.length<=16:=by
 unfold fw lV;rw[fits_is hs (by omega),check_is hs (by omega),be,be];cases hk:neB (chkI t g) 0 with
 |true=>simp|false=>
  rw[cond_false,cond_false];cases h1:ltB n 0 with
  |true=>simp|false=>
   cases h2:gtB n 100 with
   |true=>simp|false=>
    have h1':=of_decide_eq_false h1;have h2':=of_decide_eq_false h2;obtain⟨k,rfl⟩:∃k:Nat,n=(k:Int):=⟨n.toNat,by omega⟩
    obtain⟨c1,c2⟩:=chain_cells hs k g hl;obtain⟨o,q1,q2⟩:=chainR_run hs (n:=k) (by omega) k bL g [] hl (by simp) (by unfold bL;omega);refine⟨(nk t k g,0),?_,?_,by grind,c2⟩;{rw[cond_false,be,cond_false,chain_run hs (by omega) k bL g [] hl (by simp) (by unfold bL;omega)];rfl};grind
theorem chains_true (t:Tree) (g:Grid) (n:Int):jo t g n=some true:=by
 obtain⟨y,hy,hs⟩:=few48 t g;unfold jo;rw[hy,alive48];cases y with
 |false=>rfl|true=>
  obtain⟨hsz,hl⟩:=hs rfl;obtain⟨e,h1,h2,h3,h4⟩:=chain_both hsz hl n;have hend:((fw t g n).bind λy2=>(lV t g n).bind λy3=>((nq y2.1 y3.1).bind λy4=>(bif y4 then(bif (eqB y2.2 y3.2)then(some true).bind λy5=>some y5 else some false)else some false)).bind λa1=>some a1)=some true:=by rw[h1,h2,be,be,same_list (by omega) λx hx=>by grind];simp[eqB]
  rw[be,show e9 true=false from rfl,cond_false,treeR_eq hsz,be];cases hok:iw t with
  |false=>exact hend|true=>
   rw[cond_true,gridR_eq (by omega),be,be];cases hgr:k4 g with
   |false=>exact hend|true=>
    obtain⟨w,h,G⟩:=grid_ok hgr;obtain⟨r,_,r2,r3,_⟩:=rad_of (p8 hok);rw[cond_true,r2,be];have hw2:=G.w2;have hh2:=G.h2;obtain⟨o,ho,ho'⟩:=d5 (b:=fJ t g n (r:Int)) (n:=8) (s:=1) (λi st=>st=((i+1:Nat):Int)) (λo=>o=.inl true\/o=.inr ()) (by omega) rfl (λi st hi e=>by
      subst e;have hm:2*r*(i+1)<=4*8:=Nat.mul_le_mul (by omega) (by omega);have hm2:2*r<=2*r*(i+1):=Nat.le_mul_of_pos_right _ (by omega);have hmc:=Int.natCast_mul (2*r) (i+1);obtain⟨s,hs'⟩:∃s,s=2*r:=⟨_,rfl⟩
      have q0:bH .i64 2 (r:Int)=(s:Int):=by grind[dz]
      rw[<- hs'] at hm hm2 hmc;have q1:bH .i64 (s:Int) ((i+1:Nat):Int)=((s*(i+1):Nat):Int):=by rw[dz (by omega),hmc]
      generalize hp:s*(i+1)=p at hm hm2 hmc q1;have q2:bC .i64 g.W (p:Int)=((w+p:Nat):Int):=by rw[G.W,cY (by omega)];omega
      have q3:bC .i64 g.H (p:Int)=((h+p:Nat):Int):=by rw[G.H,cY (by omega)];omega
      have q4:bZ .i64 ((w+p:Nat):Int) (s:Int)=((w+p-s:Nat):Int):=by grind[jq]
      have q5:bZ .i64 ((h+p:Nat):Int) (s:Int)=((h+p-s:Nat):Int):=by grind[jq]
      have hmm:(w+p-s)*(h+p-s)<=300*300:=Nat.mul_le_mul (by omega) (by omega);have q6:bH .i64 ((w+p-s:Nat):Int) ((h+p-s:Nat):Int)=(((w+p-s)*(h+p-s):Nat):Int):=by grind[dz]
      unfold fJ;dsimp only;rw[show leB ((i+1:Nat):Int) 8=true from zD,cond_true,q0,q1,q2,q3,q4,q5,q6,mkL_ok (by omega) (by omega) (by omega),be,alive48];obtain⟨y',hy',_⟩:=few48 t ⟨((w+p-s:Nat):Int),((h+p-s:Nat):Int),0,List.replicate ((((w+p-s)*(h+p-s):Nat):Int)).toNat 0⟩;rw[hy',be];cases leB (bH .i64 ((w+p:Nat):Int) ((h+p:Nat):Int)) 16 with
      |false=>exact .inl ⟨_,rfl,zF⟩|true=>
       cases y' with
       |true=>exact .inl ⟨_,rfl,zF⟩|false=>simp) (λst e=>by subst e;exact⟨.inr (),rfl,.inr rfl⟩)
    grind
