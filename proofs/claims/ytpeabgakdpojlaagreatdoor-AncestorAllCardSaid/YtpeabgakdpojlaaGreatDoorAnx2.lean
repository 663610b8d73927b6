/- The reference's test of the last cell of a beginning of a predecessor. -/
import Derived.Test.YtpeabgakdpojlaaGreatDoorEnx1
import Derived.Test.YtpeabgakdpojlaaGreatDoorCfP
namespace Go.Proofs.YtpeabgakdpojlaaGreatDoor
open Go.AM Go.Proofs
theorem hood_step {l:Az} (h:iU l=true) {i:Nat} {x y:Point} (hi:l[i]?=some y) (hj:l[i+1]?=some x):y.Y<x.Y\/(y.Y=x.Y/\y.X<x.X):=by simp only[iU,Bool.and_eq_true,Bool.not_eq_true'] at h;have hb:=gf h.2 (i+1) x hj;rw[Nat.zero_add] at hb;unfold badP at hb;simp only[Bool.or_eq_false_iff] at hb;obtain⟨_,_,_,_,e5⟩:=hb;rw[hi] at e5;simp only[befP,Bool.not_eq_false',Bool.or_eq_true,decide_eq_true_eq,Bool.and_eq_true,beq_iff_eq] at e5;exact e5
theorem hood_le {l:Az} (h:iU l=true) {i:Nat} {y:Point} (hi:l[i]?=some y):∀(k:Nat) (x:Point),l[i+k]?=some x->y.Y<x.Y\/(y.Y=x.Y/\y.X<=x.X)|0,x,hx=>by simp_all|k+1,x,hx=>by obtain⟨z,hz⟩:=getE_prev (show l[i+k+1]?=some x from hx);have h1:=hood_le h hi k z hz;have h2:=hood_step h hz hx;omega
theorem hood_last {l:Az} (h:iU l=true):∃o,l[l.length-1]?=some o/\o∈l/\∀d∈l,d.Y<o.Y\/(d.Y=o.Y/\d.X<=o.X):=by obtain⟨h1,_,_⟩:=hood_pts h;have ho:l[l.length-1]?=some (l[l.length-1]'(by omega)):=List.getElem?_eq_getElem _;refine⟨_,ho,List.mem_of_getElem? ho,λd hd=>?_⟩;obtain⟨i,hi⟩:=List.mem_iff_getElem?.1 hd;have:=cM hi;exact hood_le h hi (l.length-1-i) _ (by grind)
section
variable {t:Tree} {cells:A0} {w h r:Nat}
theorem statep_is (S:SeeOk t cells w h r) {x y:Nat} (hx:x+2*r<w) (hy:y+2*r<h) (hix:∀d∈t.Hood,((y:Int)+r+d.Y).toNat*w+((x:Int)+r+d.X).toNat<cells.length):bv (jl t cells (w:Int) (r:Int) (x:Int) (y:Int)) bK (0,[])=some (seeI t cells w r x y):=by have h25:=S.h25;have hg:=kx (b:=jl t cells (w:Int) (r:Int) (x:Int) (y:Int)) t.Hood (λ_ d=>[cells.getD (((y:Int)+r+d.Y).toNat*w+((x:Int)+r+d.X).toNat) 0]) 1 1000 [] (λ_ _=>Nat.le_refl _) (by omega) (by simp;omega) (λk d ac hdk hac=>by obtain⟨e1,_⟩:=S.idx hx hy (List.mem_of_getElem? hdk);have e2:=hix d (List.mem_of_getElem? hdk);unfold jl;dsimp only;rw[bC,decide_eq_true (cM hdk),cond_true,bD,hdk,be,e1,bD,List.getElem?_eq_getElem (by omega),be,dE (by decide) (by decide) (by simp;omega),cg (by grind),List.getD_eq_getElem?_getD,List.getElem?_eq_getElem (by omega)];rfl) (λac=>by simp[jl,bC]);rw[hg,List.nil_append,gat_map];rfl
theorem stateRp_is (S:SeeOk t cells w h r) (hok:k4 t=true) (hs:Sz t) (hc:∀s∈cells,0<=s/\s<t.States) {x y:Nat} (hx:x+2*r<w) (hy:y+2*r<h) (hix:∀d∈t.Hood,((y:Int)+r+d.Y).toNat*w+((x:Int)+r+d.X).toNat<cells.length) :
  oE t cells (w:Int) (r:Int) (x:Int) (y:Int)=some (valI t cells w r x y):=by
 have l1:(seeI t cells w r x y).length=t.Hood.length:=by unfold seeI;simp
 have l2:∀s∈seeI t cells w r x y,0<=s/\s<t.States:=λs hs=>by unfold seeI at hs;obtain⟨d,hd,rfl⟩:=List.mem_map.1 hs;simp_all
 have h25:=S.h25;obtain⟨v,hv,_⟩:=value_total (ok_of hok) hs l1 l2;grind[oE,valI,statep_is,valueR_eq]
end
def nbI (w r i:Nat) (d:Point):Nat:=(((i/w:Nat):Int)+r+d.Y).toNat*(w+2*r)+(((i%w:Nat):Int)+r+d.X).toNat
def lastI (t:Tree) (w r i:Nat):Nat:=nbI w r i ((t.Hood[t.Hood.length-1]?).getD ⟨0,0⟩)
def badQ (t:Tree) (g:Grid) (w r:Nat) (p:A0) (i:Nat):Bool:=decide (lastI t w r i+1=p.length) && !decide (valI t p (w+2*r) r (i%w) (i/w)=g.Cells.getD i 0)
def rH (t:Tree) (g:Grid) (w r:Nat) (p:A0):Bool:=iS (λi _=>badQ t g w r p i) g.Cells 0
section
variable {n b:Nat} {t:Tree} {ns:Ax} {g:Grid} {w h r:Nat} {q p:A0}
theorem GL_.nb (A:GL_ n b t ns g w h r) {i:Nat} (hi:i<w*h) {d:Point} (hd:d∈t.Hood):nbI w r i d<=lastI t w r i/\lastI t w r i<(w+2*r)*(h+2*r):=by
 obtain⟨o,h1,h2,h3⟩:=hood_last (qp A.R.ok);have e:lastI t w r i=nbI w r i o:=by unfold lastI;rw[h1];rfl
 rw[e];obtain⟨i1,i2,i3⟩:=A.idx hi hd;obtain⟨j1,j2,j3⟩:=A.idx hi h2;obtain⟨d1,d2,d3,d4⟩:=A.pts d hd;have hw:=A.G.w1;have hml:i%w<w:=Nat.mod_lt _ (by omega);have hdo:=h3 d hd;refine⟨?_,?_⟩
 ·unfold nbI;rcases hdo with h4|⟨h4,h5⟩
  ·have h6:(((i/w:Nat):Int)+r+d.Y).toNat+1<=(((i/w:Nat):Int)+r+o.Y).toNat:=by omega
   have h7:=Nat.mul_le_mul_right (w+2*r) h6;grind
  ·rw[h4];omega
 grind[nbI]
theorem GL_.see (A:GL_ n b t ns g w h r) (cells:A0):SeeOk t cells (w+2*r) (h+2*r) r:=⟨by have:=A.big;omega,by have:=A.big;omega,A.r2,A.R.tok.h25,A.pts⟩
theorem failR_is (A:GL_ n b t ns g w h r) (hs:Sz t) (hR:du t.Hood=some (r:Int)) (hp1:1<=p.length) (hpM:p.length<=(w+2*r)*(h+2*r)) (hps:∀s∈p,0<=s/\s<(n:Int)):oO t g p=some (rH t g w r p):=by
 obtain⟨k1,k2,k3⟩:=A.w16;have hr2:=A.r2;have hlen:=A.G.len;have hw1:=A.G.w1;have hsz:=A.sz;have h25:=A.R.tok.h25;have e1:bE .i64 g.W (ce .i64 2 (r:Int))=((w+2*r:Nat):Int):=by rw[A.G.W,ef (by omega),d5 (by omega)];omega
 obtain⟨o,ho1,ho2,_⟩:=hood_last (qp A.R.ok);have hl1:=A.R.tok.h1;have eo:cm .i64 (br t.Hood) 1=((t.Hood.length-1:Nat):Int):=by rw[show br t.Hood=((t.Hood.length-1+1:Nat):Int) by unfold br;omega,dn_nat (by omega)]
 unfold oO rH;rw[hR,be,iD g.Cells (λi _=>badQ t g w r p i) true (by omega) (λi x hx=>by
  have hi:i<w*h:=by grind
  obtain⟨q1,q2⟩:=idivN (w:=w) (i:=i) A.G.w1 (by omega) (by omega);have hml:i%w<w:=Nat.mod_lt _ (by omega);have hdl:i/w<h:=Nat.div_lt_of_lt_mul hi;obtain⟨f1,f2⟩:=(A.see p).idx (x:=i%w) (y:=i/w) (by omega) (by omega) ho2;unfold mA;dsimp only;rw[bC,decide_eq_true (cM hx),cond_true,A.G.W,q1,be,q2,be,eo,bD,ho1,be,<- A.G.W,e1,f1];have ei:lastI t w r i=((((i/w:Nat):Int)+r+o.Y).toNat*(w+2*r)+(((i%w:Nat):Int)+r+o.X).toNat):=by unfold lastI;rw[ho1];rfl
  rw[<- ei];have el:cm .i64 (br p) 1=((p.length-1:Nat):Int):=by rw[show br p=((p.length-1+1:Nat):Int) by unfold br;omega,dn_nat (by omega)]
  rw[el];unfold badQ;by_cases hc:lastI t w r i+1=p.length
  ·rw[decide_eq_true hc,Bool.true_and,show eqB ((lastI t w r i:Nat):Int) ((p.length-1:Nat):Int)=true from by simp[eqB];omega,cond_true,
    stateRp_is (A.see p) A.R.ok hs (by rw[A.R.st];exact hps) (by omega) (by omega) (λd hd=>by have:=(A.nb hi hd).1;grind[nbI]),be,bD,hx,be,be]
   have hgx:g.Cells.getD i 0=x:=by simp_all
   rw[hgx,cg (by omega)];by_cases hv:valI t p (w+2*r) r (i%w) (i/w)=x;{rw[hv,show neB x x=false from by simp[neB],decide_eq_true rfl];rfl};grind[neB]
  ·rw[decide_eq_false hc,Bool.false_and,show eqB ((lastI t w r i:Nat):Int) ((p.length-1:Nat):Int)=false from by simp[eqB];omega,cond_false,be,cg (by omega)];rfl) (by simp[mA,bC])]
 grind
theorem see_take (A:GL_ n b t ns g w h r) {i k:Nat} (hi:i<w*h) (hk:lastI t w r i<k):valI t (q.take k) (w+2*r) r (i%w) (i/w)=valI t q (w+2*r) r (i%w) (i/w):=by unfold valI;refine congrArg (λl=>(kw t l (cm .i64 (br t.Nodes) 1)).getD 0) ?_;unfold seeI;refine List.map_congr_left λd hd=>?_;have h1:=(A.nb hi hd).1;unfold nbI at h1;grind
theorem pred_iff (A:GL_ n b t ns g w h r) (hl:q.length=(w+2*r)*(h+2*r)) (hst:∀s∈q,0<=s/\s<(n:Int)):Pred t g n w h r q↔∀k,0<k->k<=q.length->rH t g w r (q.take k)=false:=by
 have hlen:=A.G.len;constructor
 ·intro P k k1 k2;unfold rH;refine i7 λi x hx=>?_;rw[Nat.zero_add];have hi:i<w*h:=by grind
  unfold badQ;by_cases hc:lastI t w r i+1=(q.take k).length
  ·have hk:lastI t w r i<k:=by grind
   rw[see_take A hi hk,P.leads i hi,decide_eq_true rfl];simp
  simp_all
 ·intro hk;refine⟨hl,hst,λi hi=>?_⟩;obtain⟨o,_,ho,_⟩:=hood_last (qp A.R.ok);have h2:=(A.nb hi ho).2;have hf:=hk (lastI t w r i+1) (by omega) (by omega);unfold rH at hf;have hx:g.Cells[i]?=some (g.Cells[i]'(by omega)):=List.getElem?_eq_getElem _;have hb:=gf hf i _ hx;rw[Nat.zero_add] at hb;unfold badQ at hb;rw[decide_eq_true (by grind),Bool.true_and,see_take A hi (by omega)] at hb;simpa using hb
end
section
variable {n b:Nat} {t:Tree} {ns:Ax} {g:Grid} {w h r:Nat} {q p:A0}
def pZ (t:Tree) (g:Grid) (n w r:Nat):Nat->A0->A1|0,p=>[p]|m+1,p=>(List.range n).flatMap λ(s:Nat)=>bif rH t g w r (p++[(s:Int)])then [] else pZ t g n w r m (p++[(s:Int)])
def gridQ (w h r:Nat) (q:A0):Grid:=⟨((w+2*r:Nat):Int),((h+2*r:Nat):Int),0,q⟩
def ng (t:Tree) (g:Grid) (n w r m:Nat) (p:A0) (k:Nat):A1:=(List.range k).flatMap λ(s:Nat)=>bif rH t g w r (p++[(s:Int)])then [] else pZ t g n w r m (p++[(s:Int)])
theorem part_succ (m:Nat) (p:A0) (k:Nat):ng t g n w r m p (k+1)=ng t g n w r m p k++(bif rH t g w r (p++[(k:Int)])then [] else pZ t g n w r m (p++[(k:Int)])):=by unfold ng;rw[List.range_succ,List.flatMap_append,List.flatMap_singleton]
theorem part_pre (m:Nat) (p:A0) {k:Nat}:∀{j:Nat},k<=j->ng t g n w r m p k <+: ng t g n w r m p j:=by
 intro j hj;induction j with
 |zero=>simp_all|succ j ih=>grind[part_succ]
theorem take_pre {α:Type} {a b:List α} {k:Nat} (h:a <+: b) (hk:k<=a.length):a.take k=b.take k:=by obtain⟨c,rfl⟩:=h;grind
theorem search48 (A:GL_ n b t ns g w h r) {M:Nat} (hM:(w+2*r)*(h+2*r)=M) (hs:Sz t) (hR:du t.Hood=some (r:Int)):∀(m:Nat) (p:A0) (most f:Nat),p.length+m=M->1<=most->most<=100000->m<f->(∀s∈p,0<=s/\s<(n:Int)) ->
  ry gp (λ_ _ _ _=>none) f t g p (most:Int)=some (((pZ t g n w r m p).take most).map (gridQ w h r)):=by
 have hsz:=A.sz;rw[hM] at hsz;obtain⟨k1,k2,k3⟩:=A.w16;have hr2:=A.r2;have hn8:=A.R.sb.n8;have e1:bE .i64 g.W (ce .i64 2 (r:Int))=((w+2*r:Nat):Int):=by rw[A.G.W,ef (by omega),d5 (by omega)];omega
 have e2:bE .i64 g.H (ce .i64 2 (r:Int))=((h+2*r:Nat):Int):=by rw[A.G.H,ef (by omega),d5 (by omega)];omega
 have e3:ce .i64 ((w+2*r:Nat):Int) ((h+2*r:Nat):Int)=((M:Nat):Int):=by have e:=Int.natCast_mul (w+2*r) (h+2*r);rw[hM] at e;rw[ef (by omega),e]
 intro m;induction m with
 |zero=>
  intro p most f hp h1 h2 hf hst;obtain⟨f,rfl⟩:∃k,f=k+1:=⟨f-1,by omega⟩
  rw[ry];generalize ry gp (λ_ _ _ _=>none) f=R;unfold gp;rw[hR,be,e1,e2,e3,show eqB (br p) ((M:Nat):Int)=true from by simp[eqB,br];omega,cond_true,pZ,List.take_of_length_le (by simpa using h1)];rfl
 |succ m ih=>
  intro p most f hp h1 h2 hf hst;obtain⟨f,rfl⟩:∃k,f=k+1:=⟨f-1,by omega⟩
  rw[ry];have ih':=λ(p:A0) (most:Nat) (a:p.length+m=M) (b:1<=most) (c:most<=100000) (d:∀s∈p,0<=s/\s<(n:Int))=>ih p most f a b c (by omega) d;generalize ry gp (λ_ _ _ _=>none) f=R at ih';unfold gp;rw[hR,be,e1,e2,e3,show eqB (br p) ((M:Nat):Int)=false from by simp[eqB,br];omega,cond_false];have hend:∀k,k<=n->most<=(ng t g n w r m p k).length\/k=n->(ng t g n w r m p k).take most=(pZ t g n w r (m+1) p).take most:=λk hk hor=>by rcases hor with h3|rfl;{exact take_pre (part_pre m p hk) h3};{rfl}
  obtain⟨o,ho,rfl⟩:=d6 (b:=jz R t g p (most:Int)) (n:=n) (s:=(0,[])) (λk st=>st=((k:Int),((ng t g n w r m p k).take most).map (gridQ w h r))) (λo=>o=((pZ t g n w r (m+1) p).take most).map (gridQ w h r)) (by omega) (by rw[show ng t g n w r m p 0=[] from rfl,List.take_nil];rfl) (λk st hk e=>by
    subst e;unfold jz;dsimp only;rw[A.R.st,show ltB (k:Int) (n:Int)=true from decide_eq_true (by omega),cond_true,be];have hll:br (((ng t g n w r m p k).take most).map (gridQ w h r))=((min most (ng t g n w r m p k).length:Nat):Int):=by unfold br;simp
    rw[hll];rcases Nat.lt_or_ge (ng t g n w r m p k).length most with h3|h3
    ·refine .inl ⟨(((k+1:Nat):Int),((ng t g n w r m p (k+1)).take most).map (gridQ w h r)),?_,rfl⟩;have hps:∀s∈p++[(k:Int)],0<=s/\s<(n:Int):=λs hs=>by grind
     have hpl:(p++[(k:Int)]).length=p.length+1:=by simp
     rw[show ltB ((min most (ng t g n w r m p k).length:Nat):Int) (most:Int)=true from decide_eq_true (by omega),cond_true,dE (by decide) (by decide) (by simp;omega),be,List.nil_append,dE (by decide) (by decide) (by simp;omega),be,
      failR_is A hs hR (p:=p++[(k:Int)]) (by omega) (by rw[hM];omega) hps,be,cg (by omega),List.take_of_length_le (l:=ng t g n w r m p k) (by omega),part_succ]
     cases hfb:rH t g w r (p++[(k:Int)])with
     |true=>rw[show eX true=false from rfl,cond_false,be,cond_true,List.append_nil,List.take_of_length_le (by omega)]|false=>
      rw[show eX false=true from rfl,cond_true,cond_false,show cm .i64 (most:Int) ((min most (ng t g n w r m p k).length:Nat):Int)=((most-(ng t g n w r m p k).length:Nat):Int)from by grind[m6],
       ih' (p++[(k:Int)]) (most-(ng t g n w r m p k).length) (by omega) (by omega) (by omega) hps,be,dE (by decide) (by decide) (by grind),be,be,List.take_append,List.take_of_length_le (l:=ng t g n w r m p k) (by omega),List.map_append]
    ·refine .inr ⟨((pZ t g n w r (m+1) p).take most).map (gridQ w h r),?_,rfl⟩;rw[show ltB ((min most (ng t g n w r m p k).length:Nat):Int) (most:Int)=false from decide_eq_false (by omega),cond_false,hend k (by omega) (.inl h3)])
   (λst e=>by subst e;refine⟨_,?_,rfl⟩;unfold jz;dsimp only;rw[A.R.st,show ltB (n:Int) (n:Int)=false from decide_eq_false (by omega),cond_false,be,cond_false,hend n (Nat.le_refl _) (.inr rfl)])
  rw[ho];rfl
theorem enum_mem:∀(m:Nat) (p q:A0),q∈pZ t g n w r m p↔q.length=p.length+m/\p <+: q/\(∀s∈q.drop p.length,0<=s/\s<(n:Int))/\∀k,p.length<k->k<=q.length->rH t g w r (q.take k)=false
 |0,p,q=>by rw[pZ,List.mem_singleton];constructor;{grind};{rintro⟨h1,h2,_,_⟩;exact(h2.eq_of_length h1.symm).symm}|m+1,p,q=>by
  rw[pZ,List.mem_flatMap];constructor
  ·rintro⟨s,hs,hq⟩;cases hf:rH t g w r (p++[(s:Int)])with
   |true=>simp_all|false=>
    rw[hf,cond_false] at hq;obtain⟨h1,h2,h3,h4⟩:=(enum_mem m _ _).1 hq;have hl:(p++[(s:Int)]).length=p.length+1:=by simp
    rw[hl] at h1 h3 h4;obtain⟨c,rfl⟩:=h2;grind
  ·rintro⟨h1,⟨c,rfl⟩,h3,h4⟩;rw[List.drop_left] at h3;cases c with
   |nil=>simp at h1|cons s c=>
    obtain⟨s1,s2⟩:=h3 s (by simp);refine⟨s.toNat,List.mem_range.2 (by omega),?_⟩;rw[Int.toNat_of_nonneg s1];have hl:(p++[s]).length=p.length+1:=by simp
    have hf:=h4 (p.length+1) (by omega) (by simp);have e:p++s::c=(p++[s])++c:=by simp
    rw[e,<- hl,List.take_left] at hf;rw[hf,cond_false];refine(enum_mem m _ _).2 ⟨by omega,⟨c,e.symm⟩,λx hx=>?_,λk k1 k2=>?_⟩;{grind};grind
def lexB (a b:A0):Prop:=js a b<0
theorem lex_pre (p:A0) {a b:A0}:lexB (p++a) (p++b)↔lexB a b:=by
 induction p with
 |nil=>rfl|cons x p ih=>simp_all[lexB,q0]
theorem lex_head {x y:Int} (h:x<y) (a b:A0):lexB (x::a) (y::b):=by unfold lexB;rw[q0,if_pos h];decide
theorem enum_asc:∀(m:Nat) (p:A0),(pZ t g n w r m p).Pairwise lexB
 |0,p=>List.pairwise_singleton _ _|m+1,p=>by
  rw[pZ];refine List.pairwise_flatMap.2 ⟨λs _=>?_,?_⟩;{cases rH t g w r (p++[(s:Int)])with|true=>simp|false=>exact enum_asc m _}
  ·refine List.Pairwise.imp ?_ (List.pairwise_lt_range);intro s s' hss x hx y hy;cases hf:rH t g w r (p++[(s:Int)])with
   |true=>simp_all|false=>
    cases hf':rH t g w r (p++[(s':Int)])with
    |true=>simp_all|false=>rw[hf,cond_false] at hx;rw[hf',cond_false] at hy;obtain⟨_,⟨c,rfl⟩,_⟩:=(enum_mem m _ _).1 hx;obtain⟨_,⟨d,rfl⟩,_⟩:=(enum_mem m _ _).1 hy;simp_all[lex_pre,lex_head]
theorem pT (A:GL_ n b t ns g w h r):q∈pZ t g n w r ((w+2*r)*(h+2*r)) []↔Pred t g n w h r q:=by
 rw[enum_mem];constructor
 ·rintro⟨h1,_,h3,h4⟩;have hl:q.length=(w+2*r)*(h+2*r):=by simpa using h1
  exact(pred_iff A hl (by simpa using h3)).2 λk k1 k2=>h4 k (by simpa using k1) k2
 ·intro P;refine⟨by simpa using P.len,List.nil_prefix,by simpa using P.st,λk k1 k2=>?_⟩;exact(pred_iff A P.len P.st).1 P k (by simpa using k1) k2
end
end Go.Proofs.YtpeabgakdpojlaaGreatDoor
namespace Go.Proofs.YtpeabgakdpojlaaGreatDoor
open Go.AM Go.Proofs Go.Sort
theorem sub_length {α:Type} [DecidableEq α]:∀(l m:List α),l.Nodup->(∀x∈l,x∈m)->l.length<=m.length|[],m,_,_=>Nat.zero_le _|x::l,m,hn,hs=>by rw[List.nodup_cons] at hn;have hx:x∈m:=hs x (by simp);have h1:=sub_length l (m.erase x) hn.2 λy hy=>(List.mem_erase_of_ne (a:=y) (b:=x) (λe=>hn.1 (by grind))).2 (hs y (by simp[hy]));grind
theorem perm_of {α:Type} [DecidableEq α]:∀(l m:List α),l.Nodup->m.Nodup->(∀x,x∈l↔x∈m)->l.Perm m|[],m,_,_,h=>by grind|x::l,m,hl,hm,h=>by grind
theorem ins_srt {α:Type} {cf:α->α->Int} (hO:SWO (ltOf cf)) (x:α):∀{l:List α},l.Pairwise (λx y=>¬ cf y x<0)->(insS cf x l).Pairwise λx y=>¬ cf y x<0|[],_=>List.pairwise_singleton _ _|y::l,h=>by unfold insS;rw[List.pairwise_cons] at h;split;{rename_i hxy;refine List.Pairwise.cons (λz hz hzx=>?_) (List.Pairwise.cons h.1 h.2);rcases List.mem_cons.1 hz with rfl|hz;{have:=hO.trans x z x (decide_eq_true hxy) (decide_eq_true hzx);rw[hO.irrefl] at this;cases this};{exact h.1 z hz (of_decide_eq_true (hO.trans z x y (decide_eq_true hzx) (decide_eq_true hxy)))}};{rename_i hxy;refine List.Pairwise.cons (λz hz=>?_) (ins_srt hO x h.2);rcases List.mem_cons.1 ((insS_perm x l).subset hz)with rfl|hz;{exact hxy};{exact h.1 z hz}}
theorem is_srt {α:Type} {cf:α->α->Int} (hO:SWO (ltOf cf)):∀l:List α,(isort cf l).Pairwise λx y=>¬ cf y x<0|[]=>List.Pairwise.nil|x::l=>ins_srt hO x (is_srt hO l)
theorem strict_of {α:Type} {cf:α->α->Int}:∀{l:List α},l.Pairwise (λx y=>cf x y<0)->rZ cf l=true|[],_=>rfl|[x],_=>rfl|x::y::l,h=>by rw[List.pairwise_cons] at h;unfold rZ;rw[decide_eq_true (h.1 y (by simp)),Bool.true_and];exact strict_of h.2
theorem sortM_to {α:Type} {cf:α->α->Int} (hO:SWO (ltOf cf)) {l m:List α} (hp:l.Perm m) (hm:m.Pairwise λx y=>cf x y<0) (hl:m.length<=1000000):sortM cf l=some m:=by have e:isort cf l=m:=strict_uniq hO hm (is_srt hO l) ((isort_perm l).trans hp);unfold sortM;rw[e,strict_of hm,hp.length_eq,decide_eq_true (by omega)];rfl
theorem few48 (t:Tree) (g:Grid):∃y,sD t g=some y/\(y=true->Sz t/\g.Cells.length<=5000):=by
 obtain⟨y,hy,hs⟩:=small_eq t ⟨0,0,0,0,0,[]⟩;unfold sD;rw[hy];cases y with
 |false=>simp|true=>
  obtain⟨hsz,_⟩:=hs rfl;simp only[be,eX,Bool.not_true,cond_false];cases hc:gtB (br g.Cells) 5000 with
  |true=>simp|false=>
   have hl:=of_decide_eq_false hc;unfold br at hl;have hl':g.Cells.length<=5000:=by omega
   rw[cond_false,treeR_eq hsz,be];cases hok:k4 t with
   |false=>simp_all|true=>
    rw[gridR_eq (by omega)];cases hgr:lr g with
    |false=>simp_all|true=>
     obtain⟨w,h,G⟩:=grid_ok hgr;obtain⟨r,_,h2,h3,_⟩:=rad_of (qp hok);obtain⟨n,b,ns,R⟩:=rt_of hok;have e1:bE .i64 g.W (ce .i64 2 (r:Int))=((w+2*r:Nat):Int):=by have:=G.w2;rw[G.W,ef (by omega),d5 (by omega)];omega
     have e2:bE .i64 g.H (ce .i64 2 (r:Int))=((h+2*r:Nat):Int):=by have:=G.h2;rw[G.H,ef (by omega),d5 (by omega)];omega
     have hle:(w+2*r)*(h+2*r)<=260*260:=Nat.mul_le_mul (by have:=G.w2;omega) (by have:=G.h2;omega);have e3:ce .i64 ((w+2*r:Nat):Int) ((h+2*r:Nat):Int)=(((w+2*r)*(h+2*r):Nat):Int):=by grind[ef]
     have hn8:=R.sb.n8;have hn2:=R.sb.n2;generalize (w+2*r)*(h+2*r)=K at hle e3;simp only[be,iA];rw[h2,be];obtain⟨o,ho,_⟩:=d6 (b:=nc t g (r:Int)) (n:=K) (s:=(1,0)) (λi st=>∃a:Nat,st=((a:Int),(i:Int))/\a<=65536) (λ_=>True) (by omega) ⟨1,rfl,by omega⟩ (λi st hi ⟨a,e,ha⟩=>by
       subst e;have ha8:a*n<=65536*8:=Nat.mul_le_mul ha hn8;have hcast:(((a*n:Nat):Int))=(a:Int)*(n:Int):=Int.natCast_mul a n;unfold nc;dsimp only;rw[e1,e2,e3,show ltB (i:Int) (K:Int)=true from decide_eq_true (by omega),cond_true,be,R.st,ef (a:=(a:Int)) (by omega),<- hcast];cases leB (K:Int) 16 with
       |false=>simp|true=>
        rw[cond_true];cases hg:gtB ((a*n:Nat):Int) 65536 with
        |true=>simp|false=>
         have:=of_decide_eq_false hg;refine .inl ⟨(((a*n:Nat):Int),((i+1:Nat):Int)),?_,a*n,rfl,by omega⟩;rw[cond_false,cg (by omega)])
      (λst ⟨a,e,ha⟩=>by subst e;unfold nc;dsimp only;rw[e1,e2,e3,show ltB (K:Int) (K:Int)=false from decide_eq_false (by omega)];simp)
     grind
end Go.Proofs.YtpeabgakdpojlaaGreatDoor
namespace Go.Proofs.YtpeabgakdpojlaaGreatDoor
open Go.AM Go.Proofs Go.Sort
theorem ltb_ne {a b:Af} (h:ltb a b):a≠b:=by rintro rfl;obtain⟨w,_,h1,h2⟩:=h;simp_all
theorem lex_ne {a b:A0} (h:lexB a b):a≠b:=by rintro rfl;simp_all[lexB,cmpLL_self]
section
variable {n b:Nat} {t:Tree} {ns:Ax} {g:Grid} {w h r:Nat}
theorem par_fm (A:GL_ n b t ns g w h r) (hg:∀s∈g.Cells,s<(n:Int)) (hf:fZ (ls b t ns g n w h r).1 (ls b t ns g n w h r).2=true):∃N:Nat,FmO N ⟨(ls b t ns g n w h r).1,(ls b t ns g n w h r).2⟩/\(w+2*r)*(h+2*r)*b<=N:=by obtain⟨V',A',P⟩:=par_sem A (B:=codeV (λ_=>0) b) (cs:=λ_=>0) (λk hk=>⟨by have:=A.R.sb.n2;omega,bits_at.2 λj hj=>sL (λ_=>0) hj⟩) hg (w*h) (Nat.le_refl _);have hcl:=par_cl A (w*h) (Nat.le_refl _);have hpf:ls b t ns g n w h r=kv b t.Hood.length (inS (-(r:Int)) (-(r:Int)) (w+2*r) (h+2*r) (cU b ((w+2*r)*(h+2*r))) t.Hood) ns w g.Cells ((((w+2*r)*(h+2*r):Nat):Int)*b,eY n b ((w+2*r)*(h+2*r))) (w*h):=rfl;rw[<- hpf] at P hcl;generalize ls b t ns g n w h r=F at P hcl hf;obtain⟨v,fc⟩:=F;obtain⟨p1,p2,p3,p4,p5,p6⟩:=P;dsimp only at p1 p4 p5 p6 hcl hf⊢;unfold fZ at hf;rw[Bool.and_eq_true] at hf;have q1:=of_decide_eq_true hf.1;have q2:=of_decide_eq_true hf.2;unfold br at q2;refine⟨V',⟨p1,by omega,by grind,λc hc=>?_,λc hc x hx=>?_⟩,p2⟩;{have:=hcl c hc;omega};{have:=p4 c hc x hx;exact⟨by omega,this.2⟩}
abbrev allQ (t:Tree) (g:Grid) (n w h r:Nat):A1:=pZ t g n w r ((w+2*r)*(h+2*r)) []
abbrev codeQ (b w h r:Nat) (q:A0):Af:=sU (csq q) b ((w+2*r)*(h+2*r))
theorem codes_nodup (A:GL_ n b t ns g w h r):((allQ t g n w h r).map (codeQ b w h r)).Nodup:=by refine List.pairwise_map.2 ((enum_asc (t:=t) (g:=g) (n:=n) (w:=w) (r:=r) _ []).imp_of_mem λ{q q'} hq hq' hlt e=>?_);grind[lex_ne,code_inj,pT]
theorem lst_sub (A:GL_ n b t ns g w h r) (R:RW n b t ns) (hs:Sz t) (hg:∀s∈g.Cells,s<(n:Int)) {l:Af} (hl:∃α,satF ⟨(ls b t ns g n w h r).1,(ls b t ns g n w h r).2⟩ α/\l=bits α ((w+2*r)*(h+2*r)*b)):l∈(allQ t g n w h r).map (codeQ b w h r):=by obtain⟨α,h1,h2⟩:=hl;obtain⟨q,P,e⟩:=(pred_codes A R hs hg l).1 ⟨α,(Sat_satF α _ _).1 h1,h2⟩;grind[pT]
theorem solve_all (A:GL_ n b t ns g w h r) (R:RW n b t ns) (hs:Sz t) (hg:∀s∈g.Cells,s<(n:Int)) (hf:fZ (ls b t ns g n w h r).1 (ls b t ns g n w h r).2=true) {most:Nat} (hm:most<=262144) :((allQ t g n w h r).length<=most/\∃L,kd ⟨(ls b t ns g n w h r).1,(ls b t ns g n w h r).2⟩ ((((w+2*r)*(h+2*r):Nat):Int)*b) (most:Int)=some (L,0)/\L.Perm ((allQ t g n w h r).map (codeQ b w h r))) \/ (most<(allQ t g n w h r).length/\kd ⟨(ls b t ns g n w h r).1,(ls b t ns g n w h r).2⟩ ((((w+2*r)*(h+2*r):Nat):Int)*b) (most:Int)=some ([],14)):=by
 obtain⟨N,F,hN⟩:=par_fm A hg hf;rw[<- Int.natCast_mul];rcases all_is F hN hm with⟨L,h1,h2,h3,h4⟩|⟨L,h1,h2,h3⟩
 ·have hp:L.Perm ((allQ t g n w h r).map (codeQ b w h r)):=perm_of _ _ (h3.srt.imp ltb_ne) (codes_nodup A) λl=>by constructor;{intro hl;exact lst_sub A R hs hg (h3.mem l hl)};{intro hl;obtain⟨q,hq,rfl⟩:=List.mem_map.1 hl;obtain⟨α,a1,a2⟩:=(pred_codes A R hs hg _).2 ⟨q,(pT A).1 hq,rfl⟩;show sU (csq q) b _∈L;rw[a2];exact h4 α ((Sat_satF α _ _).2 a1)}
  refine .inl ⟨?_,L,h1,hp⟩;have:=hp.length_eq;simp_all
 ·refine .inr ⟨?_,h1⟩;have:=sub_length L _ (h3.srt.imp ltb_ne) λl hl=>lst_sub A R hs hg (h3.mem l hl);grind
def allR (t:Tree) (g:Grid) (n w h r:Nat) (most:Nat):AD×Int:=bif decide ((allQ t g n w h r).length<=most)then((allQ t g n w h r).map (gridQ w h r),0)else([],14)
theorem cells48 (A:GL_ n b t ns g w h r) (h1:d8 t.Hood=some (r:Int)):ij t g=some ((b:Int),((w+2*r:Nat):Int),((h+2*r:Nat):Int)):=by
 obtain⟨k1,k2,k3⟩:=A.w16;have hr2:=A.r2;unfold ij;rw[h1,be,PC.bits_eq,A.R.st,A.R.sb.bits,be,be,
  show bE .i64 g.W (ce .i64 2 (r:Int))=((w+2*r:Nat):Int)from by rw[A.G.W,ef (by omega),d5 (by omega)];omega,
  show bE .i64 g.H (ce .i64 2 (r:Int))=((h+2*r:Nat):Int)from by rw[A.G.H,ef (by omega),d5 (by omega)];omega]
theorem all48 (A:GL_ n b t ns g w h r) (R:RW n b t ns) (hs:Sz t) (hg:∀s∈g.Cells,s<(n:Int)) (h1:d8 t.Hood=some (r:Int)) (h3:lr g=true) (h4:iS (λ_ s=>geB s t.States) g.Cells 0=false) (hf:fZ (ls b t ns g n w h r).1 (ls b t ns g n w h r).2=true) {most:Nat} (hm1:1<=most) (hm2:most<=5000):fb t g (most:Int)=some (allR t g n w h r most):=by
 unfold fb;rw[parP A h1 h3 h4,hf,cond_true,be];dsimp only;rw[show neB (0:Int) 0=false from rfl,cond_false,show ltB (most:Int) 1=false from decide_eq_false (by omega),cond_false,be,show gtB (most:Int) 5000=false from decide_eq_false (by omega),cond_false];unfold allR;rcases solve_all A R hs hg hf (most:=most) (by omega)with⟨e1,L,e2,e3⟩|⟨e1,e2⟩
 ·rw[e2,be,decide_eq_true e1,cond_true];dsimp only;rw[show neB (0:Int) 0=false from rfl,cond_false,cells48 A h1,be];have hdec:∀q∈allQ t g n w h r,cE (codeQ b w h r q) ((w+2*r:Nat):Int) ((h+2*r:Nat):Int) (b:Int)=some q:=λq hq=>build_code A ((pT A).1 hq);have hlen:L.length<=5000:=by have:=e3.length_eq;grind
  have hg2:=kx (b:=ig (L,0) ((b:Int),((w+2*r:Nat):Int),((h+2*r:Nat):Int))) L (λ_ l=>[gridQ w h r ((cE l ((w+2*r:Nat):Int) ((h+2*r:Nat):Int) (b:Int)).getD [])]) 1 10000 [] (λ_ _=>Nat.le_refl _) (by omega) (by simp;omega) (λk l ac hl hac=>by obtain⟨q,hq,e⟩:=List.mem_map.1 (e3.subset (List.mem_of_getElem? hl));subst e;unfold ig;dsimp only;rw[bC,decide_eq_true (cM hl),cond_true,bD,hl,be,hdec q hq,be,dE (by decide) (by decide) (by simp;omega),be,cg (by grind)];rfl) (λac=>by simp[ig,bC]);rw[hg2,List.nil_append,gat_map,be];have hperm:(L.map λl=>gridQ w h r ((cE l ((w+2*r:Nat):Int) ((h+2*r:Nat):Int) (b:Int)).getD [])).Perm ((allQ t g n w h r).map (gridQ w h r)):=by refine(e3.map _).trans ?_;simp_all[List.Perm.of_eq]
  have hasc:((allQ t g n w h r).map (gridQ w h r)).Pairwise λx y=>fK x y<0:=List.pairwise_map.2 (enum_asc _ []);unfold cA sortR;rw[List.all_eq_true.2 λx hx=>?_,cond_true,sortM_to rc hperm hasc (by grind)];{rfl};{obtain⟨q,hq,rfl⟩:=List.mem_map.1 (hperm.subset hx);have h5:=((pT A).1 hq).len;have h6:=A.sz;exact decide_eq_true (by show q.length<1000000;omega)}
 ·rw[e2,be,decide_eq_false (by omega)];rfl
theorem allR48 (A:GL_ n b t ns g w h r) (hs:Sz t) (h2:du t.Hood=some (r:Int)) (hc:jb t g=some 0) (hf:fZ (ls b t ns g n w h r).1 (ls b t ns g n w h r).2=true) {most:Nat} (hm1:1<=most) (hm2:most<=5000):nh t g (most:Int)=some (allR t g n w h r most):=by unfold nh;rw[parR A h2 hc,hf,cond_true,be];dsimp only;rw[show neB (0:Int) 0=false from rfl,cond_false,show ltB (most:Int) 1=false from decide_eq_false (by omega),cond_false,be,show gtB (most:Int) 5000=false from decide_eq_false (by omega),cond_false,cg (by omega)];unfold tq;rw[search48 A rfl hs h2 ((w+2*r)*(h+2*r)) [] (most+1) recF (by simp) (by omega) (by omega) (by have:=A.sz;unfold recF;omega) (λs hs=>by cases hs),be];unfold allR br;rw[List.length_map,List.length_take];by_cases hle:(allQ t g n w h r).length<=most;{rw[show gtB ((min (most+1) (allQ t g n w h r).length:Nat):Int) (most:Int)=false from decide_eq_false (by omega),cond_false,decide_eq_true hle,cond_true,List.take_of_length_le (l:=allQ t g n w h r) (by omega)]};{rw[show gtB ((min (most+1) (allQ t g n w h r).length:Nat):Int) (most:Int)=true from decide_eq_true (by omega),cond_true,decide_eq_false hle,cond_false]}
end
end Go.Proofs.YtpeabgakdpojlaaGreatDoor
namespace Go.Proofs.YtpeabgakdpojlaaGreatDoor
open Go.AM Go.Proofs Go.Sort
structure Fit (n b:Nat) (t:Tree) (ns:Ax) (g:Grid) (w h r:Nat):Prop where
 A:GL_ n b t ns g w h r
 R:RW n b t ns
 hg:∀s∈g.Cells,s<(n:Int)
 h1:d8 t.Hood=some (r:Int)
 h2:du t.Hood=some (r:Int)
 h3:lr g=true
 h4:iS (λ_ s=>geB s t.States) g.Cells 0=false
 hc:jb t g=some 0
 hf:fZ (ls b t ns g n w h r).1 (ls b t ns g n w h r).2=true
theorem par_cases {t:Tree} {g:Grid} (hs:Sz t) (hl:g.Cells.length<=5000) :(∃e:Int,e≠0/\eP t g=some (⟨0,[]⟩,0,e)/\ji t g=some (⟨0,[]⟩,0,e)/\(e=chkG t g\/(e=6/\chkG t g=0)))\/(∃n b ns w h r,Fit n b t ns g w h r):=by
 by_cases h0:chkG t g=0
 ·obtain⟨n,b,ns,w,h,r,A,h1,h2,h3,h4⟩:=gl_of h0;have hck:jb t g=some 0:=by grind[checkG_eq]
  cases hf:fZ (ls b t ns g n w h r).1 (ls b t ns g n w h r).2 with
  |false=>refine .inl ⟨6,by decide,?_,?_,.inr ⟨rfl,h0⟩⟩;{grind[parP]};grind[parR]|true=>
   refine .inr ⟨n,b,ns,w,h,r,A,?_,?_,h1,h2,h3,h4,hck,hf⟩
   ·obtain⟨n',b',ns',RW'⟩:=rw_of A.R.ok;have en:n'=n:=by have e1:=RW'.st;have e2:=A.R.st;omega
    have ens:ns'=ns:=by have e1:=RW'.P;rw[A.R.P] at e1;simp_all
    subst en ens;have eb:b'=b:=by have e1:=RW'.sb.bits;have e2:=A.R.sb.bits;omega
    subst eb;exact RW'
   ·intro s hs';obtain⟨j,hj⟩:=List.mem_iff_getElem?.1 hs';have h5:=of_decide_eq_false (gf h4 j s hj);rw[A.R.st] at h5;omega
 ·refine .inl ⟨chkG t g,h0,parErr hs (by omega) h0,?_,.inl rfl⟩;unfold ji;rw[checkG_eq hs (by omega),be,show neB (chkG t g) 0=true from by simp[neB,h0],cond_true]
theorem allR_len {t:Tree} {g:Grid} {n w h r most:Nat}:(allR t g n w h r most).1.length<=most:=by unfold allR;grind
theorem allR_cells {n b:Nat} {t:Tree} {ns:Ax} {g:Grid} {w h r:Nat} (A:GL_ n b t ns g w h r) {most:Nat}:∀x∈(allR t g n w h r most).1,x.Cells.length<=16:=λx hx=>by unfold allR at hx;by_cases hle:(allQ t g n w h r).length<=most;{rw[decide_eq_true hle,cond_true] at hx;obtain⟨q,hq,rfl⟩:=List.mem_map.1 hx;have h5:=((pT A).1 hq).len;have h6:=A.sz;show q.length<=16;omega};simp_all
theorem all_both {t:Tree} {g:Grid} (hs:Sz t) (hl:g.Cells.length<=5000) (most:Int):∃e,fb t g most=some e/\nh t g most=some e/\e.1.length<=5000/\∀x∈e.1,x.Cells.length<=16:=by
 rcases par_cases hs hl with⟨e,h1,h2,h3,_⟩|⟨n,b,ns,w,h,r,F⟩;{refine⟨([],e),?_,?_,Nat.zero_le _,λx hx=>by cases hx⟩;{unfold fb;rw[h2,be,show neB e 0=true from by simp[neB,h1],cond_true]};{unfold nh;rw[h3,be,show neB e 0=true from by simp[neB,h1],cond_true]}}
 ·by_cases hm:1<=most/\most<=5000
  ·obtain⟨m,rfl⟩:∃m:Nat,most=(m:Int):=⟨most.toNat,by omega⟩
   refine⟨_,all48 F.A F.R hs F.hg F.h1 F.h3 F.h4 F.hf (by omega) (by omega),allR48 F.A hs F.h2 F.hc F.hf (by omega) (by omega),?_,allR_cells F.A⟩;grind[allR_len]
  ·refine⟨([],2),?_,?_,Nat.zero_le _,λx hx=>by cases hx⟩;{unfold fb;rw[parP F.A F.h1 F.h3 F.h4,F.hf,cond_true,be];dsimp only;rw[show neB (0:Int) 0=false from rfl,cond_false];by_cases h5:most<1;{simp_all[ltB]};simp_all[gtB]};{unfold nh;rw[parR F.A F.h2 F.hc,F.hf,cond_true,be];dsimp only;rw[show neB (0:Int) 0=false from rfl,cond_false];by_cases h5:most<1;{simp_all[ltB]};simp_all[gtB]}
theorem same_list {l:AD} (hl:l.length<=100000) (hc:∀x∈l,x.Cells.length<1099511627776):rl l l=some true:=by unfold rl;rw[show neB (br l) (br l)=false from by simp[neB],cond_false,iD l (λ_ _=>false) false (by omega) (λi x hx=>by unfold nu;dsimp only;rw[bC,decide_eq_true (cM hx),cond_true,bD,hx,be,be,same_grid (hc x (List.mem_of_getElem? hx)),be,cg (by grind)];rfl) (by simp[nu,bC])];rw[show iS (λ_ (_:Grid)=>false) l 0=false from i7 λ_ _ _=>rfl];rfl
theorem alls_true (t:Tree) (g:Grid) (most:Int):lB t g most=some true:=by
 obtain⟨y,hy,hs⟩:=few48 t g;unfold lB;rw[hy,alive48];cases y with
 |false=>rfl|true=>obtain⟨hsz,hl⟩:=hs rfl;obtain⟨e,h1,h2,h3,h4⟩:=all_both hsz hl most;simp only[be,eX,Bool.not_true,cond_false];rw[h1,h2,be,be,same_list (by omega) λx hx=>by grind];simp[eqB]
end Go.Proofs.YtpeabgakdpojlaaGreatDoor
namespace Go.Proofs.YtpeabgakdpojlaaGreatDoor
open Go.AM Go.Proofs Go.Sort
def tv (b a:Nat):Nat:=a/b*b+(b-1-a%b)
section
variable {b M:Nat}
end
end Go.Proofs.YtpeabgakdpojlaaGreatDoor
namespace Go.Proofs.YtpeabgakdpojlaaGreatDoor
open Go.AM Go.Proofs Go.Sort
section
variable {n b:Nat} {t:Tree} {ns:Ax} {g:Grid} {w h r:Nat}
end
end Go.Proofs.YtpeabgakdpojlaaGreatDoor
namespace Go.Proofs.YtpeabgakdpojlaaGreatDoor
open Go.AM Go.Proofs Go.Sort
section
variable {n b:Nat} {t:Tree} {ns:Ax} {g:Grid} {w h r:Nat}
theorem grid_edge {e:Int} (he:0<=e/\e<=2) (h:lr g=true):lr ⟨g.W,g.H,e,g.Cells⟩=true:=by unfold lr sizeB at h⊢;simp only[Bool.and_eq_true] at h⊢;obtain⟨⟨a1,a2,a3,a4,a5,a6,a7⟩,a8,a9⟩:=h;exact⟨⟨a1,a2,a3,a4,a5,decide_eq_true he.1,decide_eq_true he.2⟩,a8,a9⟩
theorem Fit.edge (F:Fit n b t ns g w h r) (hs:Sz t) {e:Int} (he:0<=e/\e<=2):Fit n b t ns ⟨g.W,g.H,e,g.Cells⟩ w h r:=by have hok:=F.A.R.ok;have h3:=grid_edge he F.h3;refine⟨⟨F.A.R,⟨F.A.G.W,F.A.G.H,F.A.G.w1,F.A.G.w2,F.A.G.h1,F.A.G.h2,F.A.G.len,F.A.G.cell⟩,F.A.r2,F.A.pts,F.A.sz⟩,F.R,F.hg,F.h1,F.h2,h3,F.h4,?_,F.hf⟩;have hl:=F.A.G.len;have hc:=F.hc;have hk:=F.A.w16;rw[checkG_eq hs (by omega)] at hc;rw[checkG_eq hs (by grind)];refine congrArg some ?_;grind[chkG]
end
end Go.Proofs.YtpeabgakdpojlaaGreatDoor
namespace Go.Proofs.YtpeabgakdpojlaaGreatDoor
open Go.AM Go.Proofs Go.Sort
section
variable {n b:Nat} {t:Tree} {ns:Ax} {g:Grid} {w h r:Nat} {q:A0}
end
end Go.Proofs.YtpeabgakdpojlaaGreatDoor
namespace Go.Proofs.YtpeabgakdpojlaaGreatDoor
open Go.AM Go.Proofs Go.Sort
end Go.Proofs.YtpeabgakdpojlaaGreatDoor
namespace Go.Proofs.YtpeabgakdpojlaaGreatDoor
open Go.AM Go.Proofs Go.Sort
