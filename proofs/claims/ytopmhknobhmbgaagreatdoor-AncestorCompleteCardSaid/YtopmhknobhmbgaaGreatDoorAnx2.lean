/- Predecessors: the laws. -/
import Derived.Test.YtopmhknobhmbgaaGreatDoorEnx1
import Derived.Test.YtopmhknobhmbgaaGreatDoorCfP
import Derived.KernelRfl
namespace Go.Proofs.YtopmhknobhmbgaaGreatDoor
open Go.AM Go.Proofs
theorem hood_step {l:Ay} (h:iS l=true) {i:Nat} {x y:Point} (hi:l[i]?=some y) (hj:l[i+1]?=some x):y.Y<x.Y\/(y.Y=x.Y/\y.X<x.X):=by simp only[iS,Bool.and_eq_true,Bool.not_eq_true'] at h;have hb:=fR h.2 (i+1) x hj;rw[Nat.zero_add] at hb;unfold badP at hb;simp only[Bool.or_eq_false_iff] at hb;obtain⟨_,_,_,_,e5⟩:=hb;rw[hi] at e5;simp only[befP,Bool.not_eq_false',Bool.or_eq_true,decide_eq_true_eq,Bool.and_eq_true,beq_iff_eq] at e5;exact e5
theorem hood_le {l:Ay} (h:iS l=true) {i:Nat} {y:Point} (hi:l[i]?=some y):∀(k:Nat) (x:Point),l[i+k]?=some x->y.Y<x.Y\/(y.Y=x.Y/\y.X<=x.X)|0,x,hx=>by simp_all|k+1,x,hx=>by obtain⟨z,hz⟩:=getE_prev (show l[i+k+1]?=some x from hx);have h1:=hood_le h hi k z hz;have h2:=hood_step h hz hx;omega
theorem hood_last {l:Ay} (h:iS l=true):∃o,l[l.length-1]?=some o/\o∈l/\∀d∈l,d.Y<o.Y\/(d.Y=o.Y/\d.X<=o.X):=by obtain⟨h1,_,_⟩:=hood_pts h;have ho:l[l.length-1]?=some (l[l.length-1]'(by omega)):=List.getElem?_eq_getElem _;refine⟨_,ho,List.mem_of_getElem? ho,λd hd=>?_⟩;obtain⟨i,hi⟩:=List.mem_iff_getElem?.1 hd;have:=bP hi;exact hood_le h hi (l.length-1-i) _ (by grind)
section
variable {t:Tree} {cells:A0} {w h r:Nat}
end
def nbI (w r i:Nat) (d:Point):Nat:=(((i/w:Nat):Int)+r+d.Y).toNat*(w+2*r)+(((i%w:Nat):Int)+r+d.X).toNat
def lastI (t:Tree) (w r i:Nat):Nat:=nbI w r i ((t.Hood[t.Hood.length-1]?).getD ⟨0,0⟩)
def badQ (t:Tree) (g:Grid) (w r:Nat) (p:A0) (i:Nat):Bool:=decide (lastI t w r i+1=p.length) && !decide (sk t p (w+2*r) r (i%w) (i/w)=g.Cells.getD i 0)
def failB (t:Tree) (g:Grid) (w r:Nat) (p:A0):Bool:=gz (λi _=>badQ t g w r p i) g.Cells 0
section
variable {n b:Nat} {t:Tree} {ns:Aw} {g:Grid} {w h r:Nat} {q p:A0}
theorem GL_.nb (A:GL_ n b t ns g w h r) {i:Nat} (hi:i<w*h) {d:Point} (hd:d∈t.Hood):nbI w r i d<=lastI t w r i/\lastI t w r i<(w+2*r)*(h+2*r):=by
 obtain⟨o,h1,h2,h3⟩:=hood_last (tok_hood A.R.ok);have e:lastI t w r i=nbI w r i o:=by unfold lastI;rw[h1];rfl
 rw[e];obtain⟨i1,i2,i3⟩:=A.idx hi hd;obtain⟨j1,j2,j3⟩:=A.idx hi h2;obtain⟨d1,d2,d3,d4⟩:=A.pts d hd;have hw:=A.G.w1;have hml:i%w<w:=Nat.mod_lt _ (by omega);have hdo:=h3 d hd;refine⟨?_,?_⟩
 ·unfold nbI;rcases hdo with h4|⟨h4,h5⟩
  ·have h6:(((i/w:Nat):Int)+r+d.Y).toNat+1<=(((i/w:Nat):Int)+r+o.Y).toNat:=by omega
   have h7:=Nat.mul_le_mul_right (w+2*r) h6;grind
  ·rw[h4];omega
 grind[nbI]
theorem GL_.see (A:GL_ n b t ns g w h r) (cells:A0):SeeOk t cells (w+2*r) (h+2*r) r:=⟨by have:=A.big;omega,by have:=A.big;omega,A.r2,A.R.tok.h25,A.pts⟩
theorem see_take (A:GL_ n b t ns g w h r) {i k:Nat} (hi:i<w*h) (hk:lastI t w r i<k):sk t (q.take k) (w+2*r) r (i%w) (i/w)=sk t q (w+2*r) r (i%w) (i/w):=by unfold sk;refine congrArg (λl=>(kc t l (bX .i64 (bi t.Nodes) 1)).getD 0) ?_;unfold seeI;refine List.map_congr_left λd hd=>?_;have h1:=(A.nb hi hd).1;unfold nbI at h1;grind
theorem pred_iff (A:GL_ n b t ns g w h r) (hl:q.length=(w+2*r)*(h+2*r)) (hst:∀s∈q,0<=s/\s<(n:Int)):Pred t g n w h r q↔∀k,0<k->k<=q.length->failB t g w r (q.take k)=false:=by
 have hlen:=A.G.len;constructor
 ·intro P k k1 k2;unfold failB;refine dT λi x hx=>?_;rw[Nat.zero_add];have hi:i<w*h:=by grind
  unfold badQ;by_cases hc:lastI t w r i+1=(q.take k).length
  ·have hk:lastI t w r i<k:=by grind
   rw[see_take A hi hk,P.leads i hi,decide_eq_true rfl];simp
  simp_all
 ·intro hk;refine⟨hl,hst,λi hi=>?_⟩;obtain⟨o,_,ho,_⟩:=hood_last (tok_hood A.R.ok);have h2:=(A.nb hi ho).2;have hf:=hk (lastI t w r i+1) (by omega) (by omega);unfold failB at hf;have hx:g.Cells[i]?=some (g.Cells[i]'(by omega)):=List.getElem?_eq_getElem _;have hb:=fR hf i _ hx;rw[Nat.zero_add] at hb;unfold badQ at hb;rw[decide_eq_true (by grind),Bool.true_and,see_take A hi (by omega)] at hb;simpa using hb
end
section
variable {n b:Nat} {t:Tree} {ns:Aw} {g:Grid} {w h r:Nat} {q p:A0}
def enumQ (t:Tree) (g:Grid) (n w r:Nat):Nat->A0->A1|0,p=>[p]|m+1,p=>(List.range n).flatMap λ(s:Nat)=>bif failB t g w r (p++[(s:Int)])then [] else enumQ t g n w r m (p++[(s:Int)])
def jl (w h r:Nat) (q:A0):Grid:=⟨((w+2*r:Nat):Int),((h+2*r:Nat):Int),0,q⟩
theorem enum_mem:∀(m:Nat) (p q:A0),q∈enumQ t g n w r m p↔q.length=p.length+m/\p <+: q/\(∀s∈q.drop p.length,0<=s/\s<(n:Int))/\∀k,p.length<k->k<=q.length->failB t g w r (q.take k)=false
 |0,p,q=>by rw[enumQ,List.mem_singleton];constructor;{rintro rfl;exact⟨rfl,List.prefix_refl _,λs hs=>by simp at hs,λk h1 h2=>by omega⟩};{rintro⟨h1,h2,_,_⟩;exact(h2.eq_of_length h1.symm).symm}|m+1,p,q=>by
  rw[enumQ,List.mem_flatMap];constructor
  ·rintro⟨s,hs,hq⟩;cases hf:failB t g w r (p++[(s:Int)])with
   |true=>(rw[hf] at hq;cases hq)|false=>
    rw[hf,cond_false] at hq;obtain⟨h1,h2,h3,h4⟩:=(enum_mem m _ _).1 hq;have hl:(p++[(s:Int)]).length=p.length+1:=by simp
    rw[hl] at h1 h3 h4;obtain⟨c,rfl⟩:=h2;refine⟨by omega,⟨[(s:Int)]++c,by rw[List.append_assoc]⟩,λx hx=>?_,λk k1 k2=>?_⟩;{rw[List.append_assoc,List.drop_left] at hx;rw[<- hl,List.drop_left] at h3;rcases List.mem_append.1 hx with hx|hx;{rw[List.mem_singleton.1 hx];have:=List.mem_range.1 hs;omega};{exact h3 x hx}};{rcases Nat.lt_or_ge (p.length+1) k with k3|k3;{exact h4 k k3 k2};{rw[show k=(p++[(s:Int)]).length by omega,List.take_left];exact hf}}
  ·rintro⟨h1,⟨c,rfl⟩,h3,h4⟩;rw[List.drop_left] at h3;cases c with
   |nil=>simp at h1|cons s c=>
    obtain⟨s1,s2⟩:=h3 s (by simp);refine⟨s.toNat,List.mem_range.2 (by omega),?_⟩;rw[Int.toNat_of_nonneg s1];have hl:(p++[s]).length=p.length+1:=by simp
    have hf:=h4 (p.length+1) (by omega) (by simp);have e:p++s::c=(p++[s])++c:=by simp
    rw[e,<- hl,List.take_left] at hf;rw[hf,cond_false];refine(enum_mem m _ _).2 ⟨by simp at h1 ⊢;omega,⟨c,e.symm⟩,λx hx=>?_,λk k1 k2=>?_⟩;{rw[e,List.drop_left] at hx;exact h3 x (by simp[hx])};{exact h4 k (by omega) k2}
def lexB (a b:A0):Prop:=jq a b<0
theorem lex_pre (p:A0) {a b:A0}:lexB (p++a) (p++b)↔lexB a b:=by
 induction p with
 |nil=>rfl|cons x p ih=>unfold lexB at ih⊢;rw[List.cons_append,List.cons_append,np,if_neg (by omega),if_neg (by omega)];exact ih
theorem lex_head {x y:Int} (h:x<y) (a b:A0):lexB (x::a) (y::b):=by unfold lexB;rw[np,if_pos h];decide
theorem rz:∀(m:Nat) (p:A0),(enumQ t g n w r m p).Pairwise lexB
 |0,p=>List.pairwise_singleton _ _|m+1,p=>by
  rw[enumQ];refine List.pairwise_flatMap.2 ⟨λs _=>?_,?_⟩;{cases failB t g w r (p++[(s:Int)])with|true=>exact List.Pairwise.nil|false=>exact rz m _}
  ·refine List.Pairwise.imp ?_ (List.pairwise_lt_range);intro s s' hss x hx y hy;cases hf:failB t g w r (p++[(s:Int)])with
   |true=>(rw[hf] at hx;cases hx)|false=>
    cases hf':failB t g w r (p++[(s':Int)])with
    |true=>(rw[hf'] at hy;cases hy)|false=>rw[hf,cond_false] at hx;rw[hf',cond_false] at hy;obtain⟨_,⟨c,rfl⟩,_⟩:=(enum_mem m _ _).1 hx;obtain⟨_,⟨d,rfl⟩,_⟩:=(enum_mem m _ _).1 hy;rw[List.append_assoc,List.append_assoc,lex_pre];exact lex_head (by omega) _ _
theorem ir (A:GL_ n b t ns g w h r):q∈enumQ t g n w r ((w+2*r)*(h+2*r)) []↔Pred t g n w h r q:=by
 rw[enum_mem];constructor
 ·rintro⟨h1,_,h3,h4⟩;have hl:q.length=(w+2*r)*(h+2*r):=by simpa using h1
  exact(pred_iff A hl (by simpa using h3)).2 λk k1 k2=>h4 k (by simpa using k1) k2
 ·intro P;refine⟨by simpa using P.len,List.nil_prefix,by simpa using P.st,λk k1 k2=>?_⟩;exact(pred_iff A P.len P.st).1 P k (by simpa using k1) k2
end
end Go.Proofs.YtopmhknobhmbgaaGreatDoor
namespace Go.Proofs.YtopmhknobhmbgaaGreatDoor
open Go.AM Go.Proofs Go.Sort
theorem sub_length {α:Type} [DecidableEq α]:∀(l m:List α),l.Nodup->(∀x∈l,x∈m)->l.length<=m.length|[],m,_,_=>Nat.zero_le _|x::l,m,hn,hs=>by rw[List.nodup_cons] at hn;have hx:x∈m:=hs x (by simp);have h1:=sub_length l (m.erase x) hn.2 λy hy=>(List.mem_erase_of_ne (a:=y) (b:=x) (λe=>hn.1 (by rw[<- e];exact hy))).2 (hs y (by simp[hy]));rw[List.length_erase_of_mem hx] at h1;have:=List.length_pos_of_mem hx;simp only[List.length_cons];omega
theorem perm_of {α:Type} [DecidableEq α]:∀(l m:List α),l.Nodup->m.Nodup->(∀x,x∈l↔x∈m)->l.Perm m
 |[],m,_,_,h=>by
  have:m=[]:=List.eq_nil_iff_forall_not_mem.2 λx hx=>by have:=(h x).2 hx;cases this
  rw[this]
 |x::l,m,hl,hm,h=>by rw[List.nodup_cons] at hl;have hx:x∈m:=(h x).1 (by simp);refine((perm_of l (m.erase x) hl.2 (hm.erase x) λy=>?_).cons x).trans (List.perm_cons_erase hx).symm;rw[List.Nodup.mem_erase_iff hm];constructor;{intro hy;exact⟨λe=>hl.1 (e ▸ hy),(h y).1 (by simp[hy])⟩};{rintro⟨h1,h2⟩;exact(List.mem_cons.1 ((h y).2 h2)).resolve_left h1}
theorem ins_srt {α:Type} {cf:α->α->Int} (hO:SWO (ltOf cf)) (x:α):∀{l:List α},l.Pairwise (λx y=>¬ cf y x<0)->(insS cf x l).Pairwise λx y=>¬ cf y x<0|[],_=>List.pairwise_singleton _ _|y::l,h=>by unfold insS;rw[List.pairwise_cons] at h;split;{rename_i hxy;refine List.Pairwise.cons (λz hz hzx=>?_) (List.Pairwise.cons h.1 h.2);rcases List.mem_cons.1 hz with rfl|hz;{have:=hO.trans x z x (decide_eq_true hxy) (decide_eq_true hzx);rw[hO.irrefl] at this;cases this};{exact h.1 z hz (of_decide_eq_true (hO.trans z x y (decide_eq_true hzx) (decide_eq_true hxy)))}};{rename_i hxy;refine List.Pairwise.cons (λz hz=>?_) (ins_srt hO x h.2);rcases List.mem_cons.1 ((insS_perm x l).subset hz)with rfl|hz;{exact hxy};{exact h.1 z hz}}
theorem is_srt {α:Type} {cf:α->α->Int} (hO:SWO (ltOf cf)):∀l:List α,(isort cf l).Pairwise λx y=>¬ cf y x<0|[]=>List.Pairwise.nil|x::l=>ins_srt hO x (is_srt hO l)
theorem strict_of {α:Type} {cf:α->α->Int}:∀{l:List α},l.Pairwise (λx y=>cf x y<0)->qk cf l=true|[],_=>rfl|[x],_=>rfl|x::y::l,h=>by rw[List.pairwise_cons] at h;unfold qk;rw[decide_eq_true (h.1 y (by simp)),Bool.true_and];exact strict_of h.2
theorem sortM_to {α:Type} {cf:α->α->Int} (hO:SWO (ltOf cf)) {l m:List α} (hp:l.Perm m) (hm:m.Pairwise λx y=>cf x y<0) (hl:m.length<=1000000):sortM cf l=some m:=by have e:isort cf l=m:=strict_uniq hO hm (is_srt hO l) ((isort_perm l).trans hp);unfold sortM;rw[e,strict_of hm,hp.length_eq,decide_eq_true (by omega)];rfl
theorem few48 (t:Tree) (g:Grid):∃y,oM t g=some y/\(y=true->Sz t/\g.Cells.length<=5000):=by
 obtain⟨y,hy,hs⟩:=small_eq t ⟨0,0,0,0,0,[]⟩;unfold oM;rw[hy];cases y with
 |false=>exact⟨false,rfl,λh=>by cases h⟩|true=>
  obtain⟨hsz,_⟩:=hs rfl;simp only[be,eR,Bool.not_true,cond_false];cases hc:gtB (bi g.Cells) 5000 with
  |true=>exact⟨false,rfl,λh=>by cases h⟩|false=>
   have hl:=of_decide_eq_false hc;unfold bi at hl;have hl':g.Cells.length<=5000:=by omega
   rw[cond_false,treeR_eq hsz,be];cases hok:gq t with
   |false=>exact⟨true,rfl,λ_=>⟨hsz,hl'⟩⟩|true=>
    rw[gridR_eq (by omega)];cases hgr:jc g with
    |false=>exact⟨true,rfl,λ_=>⟨hsz,hl'⟩⟩|true=>
     obtain⟨w,h,G⟩:=grid_ok hgr;obtain⟨r,_,h2,h3,_⟩:=rad_of (tok_hood hok);obtain⟨n,b,ns,R⟩:=rt_of hok;have e1:bC .i64 g.W (cg .i64 2 (r:Int))=((w+2*r:Nat):Int):=by have:=G.w2;rw[G.W,dP (by omega),ef (by omega)];omega
     have e2:bC .i64 g.H (cg .i64 2 (r:Int))=((h+2*r:Nat):Int):=by have:=G.h2;rw[G.H,dP (by omega),ef (by omega)];omega
     have hle:(w+2*r)*(h+2*r)<=260*260:=Nat.mul_le_mul (by have:=G.w2;omega) (by have:=G.h2;omega);have e3:cg .i64 ((w+2*r:Nat):Int) ((h+2*r:Nat):Int)=(((w+2*r)*(h+2*r):Nat):Int):=by have e:=Int.natCast_mul (w+2*r) (h+2*r);rw[dP (by omega),e]
     have hn8:=R.sb.n8;have hn2:=R.sb.n2;generalize (w+2*r)*(h+2*r)=K at hle e3;simp only[be,fB];rw[h2,be];obtain⟨o,ho,_⟩:=eD (b:=mF t g (r:Int)) (n:=K) (s:=(1,0)) (λi st=>∃a:Nat,st=((a:Int),(i:Int))/\a<=65536) (λ_=>True) (by omega) ⟨1,rfl,by omega⟩ (λi st hi ⟨a,e,ha⟩=>by
       subst e;have ha8:a*n<=65536*8:=Nat.mul_le_mul ha hn8;have hcast:(((a*n:Nat):Int))=(a:Int)*(n:Int):=Int.natCast_mul a n;unfold mF;dsimp only;rw[e1,e2,e3,show ltB (i:Int) (K:Int)=true from decide_eq_true (by omega),cond_true,be,R.st,dP (a:=(a:Int)) (by omega),<- hcast];cases leB (K:Int) 16 with
       |false=>exact .inr ⟨_,rfl,trivial⟩|true=>
        rw[cond_true];cases hg:gtB ((a*n:Nat):Int) 65536 with
        |true=>exact .inr ⟨_,rfl,trivial⟩|false=>
         have:=of_decide_eq_false hg;refine .inl ⟨(((a*n:Nat):Int),((i+1:Nat):Int)),?_,a*n,rfl,by omega⟩;rw[cond_false,ch (by omega)])
      (λst ⟨a,e,ha⟩=>by subst e;unfold mF;dsimp only;rw[e1,e2,e3,show ltB (K:Int) (K:Int)=false from decide_eq_false (by omega)];exact⟨_,rfl,trivial⟩)
     rw[ho,be];cases o with
     |inl r=>exact⟨r,rfl,λ_=>⟨hsz,hl'⟩⟩|inr u=>exact⟨true,rfl,λ_=>⟨hsz,hl'⟩⟩
end Go.Proofs.YtopmhknobhmbgaaGreatDoor
namespace Go.Proofs.YtopmhknobhmbgaaGreatDoor
open Go.AM Go.Proofs Go.Sort
theorem ltb_ne {a b:Af} (h:ltb a b):a≠b:=by rintro rfl;obtain⟨w,_,h1,h2⟩:=h;simp_all
theorem lex_ne {a b:A0} (h:lexB a b):a≠b:=by rintro rfl;simp_all[lexB,cmpLL_self]
section
variable {n b:Nat} {t:Tree} {ns:Aw} {g:Grid} {w h r:Nat}
theorem par_fm (A:GL_ n b t ns g w h r) (hg:∀s∈g.Cells,s<(n:Int)) (hf:lx (mh b t ns g n w h r).1 (mh b t ns g n w h r).2=true):∃N:Nat,FmO N ⟨(mh b t ns g n w h r).1,(mh b t ns g n w h r).2⟩/\(w+2*r)*(h+2*r)*b<=N:=by obtain⟨V',A',P⟩:=par_sem A (B:=codeV (λ_=>0) b) (cs:=λ_=>0) (λk hk=>⟨by have:=A.R.sb.n2;omega,bits_at.2 λj hj=>pq (λ_=>0) hj⟩) hg (w*h) (Nat.le_refl _);have hcl:=par_cl A (w*h) (Nat.le_refl _);have hpf:mh b t ns g n w h r=ko b t.Hood.length (inS (-(r:Int)) (-(r:Int)) (w+2*r) (h+2*r) (dN b ((w+2*r)*(h+2*r))) t.Hood) ns w g.Cells ((((w+2*r)*(h+2*r):Nat):Int)*b,iV n b ((w+2*r)*(h+2*r))) (w*h):=rfl;rw[<- hpf] at P hcl;generalize mh b t ns g n w h r=F at P hcl hf;obtain⟨v,fc⟩:=F;obtain⟨p1,p2,p3,p4,p5,p6⟩:=P;dsimp only at p1 p4 p5 p6 hcl hf⊢;unfold lx at hf;rw[Bool.and_eq_true] at hf;have q1:=of_decide_eq_true hf.1;have q2:=of_decide_eq_true hf.2;unfold bi at q2;refine⟨V',⟨p1,by omega,by grind,λc hc=>?_,λc hc x hx=>?_⟩,p2⟩;{have:=hcl c hc;omega};{have:=p4 c hc x hx;exact⟨by omega,this.2⟩}
abbrev md (t:Tree) (g:Grid) (n w h r:Nat):A1:=enumQ t g n w r ((w+2*r)*(h+2*r)) []
abbrev codeQ (b w h r:Nat) (q:A0):Af:=pH (csq q) b ((w+2*r)*(h+2*r))
theorem codes_nodup (A:GL_ n b t ns g w h r):((md t g n w h r).map (codeQ b w h r)).Nodup:=by refine List.pairwise_map.2 ((rz (t:=t) (g:=g) (n:=n) (w:=w) (r:=r) _ []).imp_of_mem λ{q q'} hq hq' hlt e=>?_);grind[lex_ne,code_inj,ir]
theorem lst_sub (A:GL_ n b t ns g w h r) (R:RW n b t ns) (hs:Sz t) (hg:∀s∈g.Cells,s<(n:Int)) {l:Af} (hl:∃α,satF ⟨(mh b t ns g n w h r).1,(mh b t ns g n w h r).2⟩ α/\l=bits α ((w+2*r)*(h+2*r)*b)):l∈(md t g n w h r).map (codeQ b w h r):=by obtain⟨α,h1,h2⟩:=hl;obtain⟨q,P,e⟩:=(rX A R hs hg l).1 ⟨α,(Sat_satF α _ _).1 h1,h2⟩;grind[ir]
theorem solve_all (A:GL_ n b t ns g w h r) (R:RW n b t ns) (hs:Sz t) (hg:∀s∈g.Cells,s<(n:Int)) (hf:lx (mh b t ns g n w h r).1 (mh b t ns g n w h r).2=true) {most:Nat} (hm:most<=262144) :((md t g n w h r).length<=most/\∃L,ka ⟨(mh b t ns g n w h r).1,(mh b t ns g n w h r).2⟩ ((((w+2*r)*(h+2*r):Nat):Int)*b) (most:Int)=some (L,0)/\L.Perm ((md t g n w h r).map (codeQ b w h r))) \/ (most<(md t g n w h r).length/\ka ⟨(mh b t ns g n w h r).1,(mh b t ns g n w h r).2⟩ ((((w+2*r)*(h+2*r):Nat):Int)*b) (most:Int)=some ([],14)):=by
 obtain⟨N,F,hN⟩:=par_fm A hg hf;rw[<- Int.natCast_mul];rcases all_is F hN hm with⟨L,h1,h2,h3,h4⟩|⟨L,h1,h2,h3⟩
 ·have hp:L.Perm ((md t g n w h r).map (codeQ b w h r)):=perm_of _ _ (h3.srt.imp ltb_ne) (codes_nodup A) λl=>by constructor;{intro hl;exact lst_sub A R hs hg (h3.mem l hl)};{intro hl;obtain⟨q,hq,rfl⟩:=List.mem_map.1 hl;obtain⟨α,a1,a2⟩:=(rX A R hs hg _).2 ⟨q,(ir A).1 hq,rfl⟩;show pH (csq q) b _∈L;rw[a2];exact h4 α ((Sat_satF α _ _).2 a1)}
  refine .inl ⟨?_,L,h1,hp⟩;have:=hp.length_eq;simp_all
 ·refine .inr ⟨?_,h1⟩;have:=sub_length L _ (h3.srt.imp ltb_ne) λl hl=>lst_sub A R hs hg (h3.mem l hl);grind
def allR (t:Tree) (g:Grid) (n w h r:Nat) (most:Nat):AD×Int:=bif decide ((md t g n w h r).length<=most)then((md t g n w h r).map (jl w h r),0)else([],14)
theorem cells48 (A:GL_ n b t ns g w h r) (h1:cR t.Hood=some (r:Int)):iB t g=some ((b:Int),((w+2*r:Nat):Int),((h+2*r:Nat):Int)):=by
 obtain⟨k1,k2,k3⟩:=A.w16;have hr2:=A.r2;unfold iB;rw[h1,be,PC.bits_eq,A.R.st,A.R.sb.bits,be,be,
  show bC .i64 g.W (cg .i64 2 (r:Int))=((w+2*r:Nat):Int)from by rw[A.G.W,dP (by omega),ef (by omega)];omega,
  show bC .i64 g.H (cg .i64 2 (r:Int))=((h+2*r:Nat):Int)from by rw[A.G.H,dP (by omega),ef (by omega)];omega]
theorem all48 (A:GL_ n b t ns g w h r) (R:RW n b t ns) (hs:Sz t) (hg:∀s∈g.Cells,s<(n:Int)) (h1:cR t.Hood=some (r:Int)) (h3:jc g=true) (h4:gz (λ_ s=>geB s t.States) g.Cells 0=false) (hf:lx (mh b t ns g n w h r).1 (mh b t ns g n w h r).2=true) {most:Nat} (hm1:1<=most) (hm2:most<=5000):fg t g (most:Int)=some (allR t g n w h r most):=by
 unfold fg;rw[parP A h1 h3 h4,hf,cond_true,be];dsimp only;rw[show neB (0:Int) 0=false from rfl,cond_false,show ltB (most:Int) 1=false from decide_eq_false (by omega),cond_false,be,show gtB (most:Int) 5000=false from decide_eq_false (by omega),cond_false];unfold allR;rcases solve_all A R hs hg hf (most:=most) (by omega)with⟨e1,L,e2,e3⟩|⟨e1,e2⟩
 ·rw[e2,be,decide_eq_true e1,cond_true];dsimp only;rw[show neB (0:Int) 0=false from rfl,cond_false,cells48 A h1,be];have hdec:∀q∈md t g n w h r,cz (codeQ b w h r q) ((w+2*r:Nat):Int) ((h+2*r:Nat):Int) (b:Int)=some q:=λq hq=>rO A ((ir A).1 hq);have hlen:L.length<=5000:=by have:=e3.length_eq;grind
  have hg2:=nU (b:=iz (L,0) ((b:Int),((w+2*r:Nat):Int),((h+2*r:Nat):Int))) L (λ_ l=>[jl w h r ((cz l ((w+2*r:Nat):Int) ((h+2*r:Nat):Int) (b:Int)).getD [])]) 1 10000 [] (λ_ _=>Nat.le_refl _) (by omega) (by simp;omega) (λk l ac hl hac=>by obtain⟨q,hq,e⟩:=List.mem_map.1 (e3.subset (List.mem_of_getElem? hl));subst e;unfold iz;dsimp only;rw[bw,decide_eq_true (bP hl),cond_true,bz,hl,be,hdec q hq,be,lr (by decide) (by decide) (by simp;omega),be,ch (by grind)];rfl) (λac=>by simp[iz,bw]);rw[hg2,List.nil_append,gat_map,be];have hperm:(L.map λl=>jl w h r ((cz l ((w+2*r:Nat):Int) ((h+2*r:Nat):Int) (b:Int)).getD [])).Perm ((md t g n w h r).map (jl w h r)):=by refine(e3.map _).trans ?_;simp_all[List.Perm.of_eq]
  have hasc:((md t g n w h r).map (jl w h r)).Pairwise λx y=>fK x y<0:=List.pairwise_map.2 (rz _ []);unfold ct sortR;rw[List.all_eq_true.2 λx hx=>?_,cond_true,sortM_to p8 hperm hasc (by grind)];{rfl};{obtain⟨q,hq,rfl⟩:=List.mem_map.1 (hperm.subset hx);have h5:=((ir A).1 hq).len;have h6:=A.sz;exact decide_eq_true (by show q.length<1000000;omega)}
 ·rw[e2,be,decide_eq_false (by omega)];rfl
end
end Go.Proofs.YtopmhknobhmbgaaGreatDoor
namespace Go.Proofs.YtopmhknobhmbgaaGreatDoor
open Go.AM Go.Proofs Go.Sort
structure Fit (n b:Nat) (t:Tree) (ns:Aw) (g:Grid) (w h r:Nat):Prop where
 A:GL_ n b t ns g w h r
 R:RW n b t ns
 hg:∀s∈g.Cells,s<(n:Int)
 h1:cR t.Hood=some (r:Int)
 h2:ik t.Hood=some (r:Int)
 h3:jc g=true
 h4:gz (λ_ s=>geB s t.States) g.Cells 0=false
 hf:lx (mh b t ns g n w h r).1 (mh b t ns g n w h r).2=true
theorem par_cases {t:Tree} {g:Grid} (hs:Sz t) (hl:g.Cells.length<=5000) :(∃e:Int,e≠0/\eB t g=some (⟨0,[]⟩,0,e)/\(e=chkG t g\/(e=6/\chkG t g=0)))\/(∃n b ns w h r,Fit n b t ns g w h r):=by
 by_cases h0:chkG t g=0
 ·obtain⟨n,b,ns,w,h,r,A,h1,h2,h3,h4⟩:=gl_of h0;cases hf:lx (mh b t ns g n w h r).1 (mh b t ns g n w h r).2 with
  |false=>refine .inl ⟨6,by decide,?_,.inr ⟨rfl,h0⟩⟩;grind[parP]|true=>
   refine .inr ⟨n,b,ns,w,h,r,A,?_,?_,h1,h2,h3,h4,hf⟩
   ·obtain⟨n',b',ns',RW'⟩:=rw_of A.R.ok;have en:n'=n:=by have e1:=RW'.st;have e2:=A.R.st;omega
    have ens:ns'=ns:=by have e1:=RW'.P;rw[A.R.P] at e1;simp_all
    subst en ens;have eb:b'=b:=by have e1:=RW'.sb.bits;have e2:=A.R.sb.bits;omega
    subst eb;exact RW'
   ·intro s hs';obtain⟨j,hj⟩:=List.mem_iff_getElem?.1 hs';have h5:=of_decide_eq_false (fR h4 j s hj);rw[A.R.st] at h5;omega
 ·exact .inl ⟨chkG t g,h0,parErr hs (by omega) h0,.inl rfl⟩
end Go.Proofs.YtopmhknobhmbgaaGreatDoor
namespace Go.Proofs.YtopmhknobhmbgaaGreatDoor
open Go.AM Go.Proofs Go.Sort
theorem mkL_ok {α:Type} {k:Int} (hk:k<=100) {n:Nat} (hn:n<=1000000) (hk0:0<=k) (x:α):mkL k (n:Int) (n:Int) x=some (List.replicate n x):=by have:(n:Int)*k<=1000000*100:=Int.mul_le_mul (by omega) hk hk0 (by omega);unfold mkL;grind
theorem loop_set {α:Type} {b:Int×List α->Option (Lp (Int×List α) (List α))} (n:Nat) (f:Nat->α) (d:α) (hn:n<1099511627776) (hs:∀(i:Nat) (L:List α),i<n->L.length=n->b ((i:Int),L)=some (.next (((i+1:Nat):Int),L.set i (f i)))) (he:∀L:List α,L.length=n->b ((n:Int),L)=some (.out L)):bn b bI (0,List.replicate n d)=some ((List.range n).map f):=by obtain⟨o,ho,rfl⟩:=eD (b:=b) (n:=n) (s:=(0,List.replicate n d)) (λi st=>st=((i:Int),(List.range i).map f++List.replicate (n-i) d)) (λo=>o=(List.range n).map f) hn rfl (λi st hi e=>by subst e;refine .inl ⟨_,hs i _ hi (by simp;omega),?_⟩;have h1:=set_app ((List.range i).map f) (n-i-1) d (f i);grind[List.range_succ]) (λst e=>by simp_all);exact ho
def tv (b a:Nat):Nat:=a/b*b+(b-1-a%b)
def tpi (n b u:Nat):Nat:=if 1<=u/\u<=n then tv b (u-1)+1 else u
def tlit (n b:Nat) (x:Int):Int:=if x<0 then -((tpi n b x.natAbs:Nat):Int)else((tpi n b x.natAbs:Nat):Int)
theorem tv_at {b k j:Nat} (hj:j<b):tv b (k*b+j)=k*b+(b-1-j):=by unfold tv;rw[Nat.mul_comm k b,Nat.mul_add_div (by omega),Nat.div_eq_of_lt hj,Nat.add_zero,Nat.mul_add_mod,Nat.mod_eq_of_lt hj,Nat.mul_comm]
theorem tv_split {b:Nat} (hb:1<=b) (a:Nat):∃k j,j<b/\a=k*b+j:=⟨a/b,a%b,Nat.mod_lt _ (by omega),by simp[Nat.div_add_mod,Nat.mul_comm]⟩
theorem tv_tv {b:Nat} (hb:1<=b) (a:Nat):tv b (tv b a)=a:=by obtain⟨k,j,hj,rfl⟩:=tv_split hb a;rw[tv_at hj,tv_at (by omega)];omega
theorem tv_lt {b M a:Nat} (hb:1<=b) (ha:a<M*b):tv b a<M*b:=by
 obtain⟨k,j,hj,rfl⟩:=tv_split hb a;rw[tv_at hj];have hk:k<M:=by rcases Nat.lt_or_ge k M with h3|h3;{exact h3};{have:=Nat.mul_le_mul_right b h3;omega}
 have:=Nat.mul_le_mul_right b (show k+1<=M from hk);grind
section
variable {b M:Nat}
theorem tpi_lt (hb:1<=b) {u:Nat} (h1:1<=u) (h2:u<=M*b):1<=tpi (M*b) b u/\tpi (M*b) b u<=M*b:=by unfold tpi;rw[if_pos ⟨h1,h2⟩];have:=tv_lt (M:=M) hb (show u-1<M*b by omega);omega
theorem tpi_tpi (hb:1<=b) (u:Nat):tpi (M*b) b (tpi (M*b) b u)=u:=by by_cases h:1<=u/\u<=M*b;{have h3:=tpi_lt hb h.1 h.2;have e:tpi (M*b) b u=tv b (u-1)+1:=if_pos h;simp_all[tpi,tv_tv]};simp_all[tpi,if_neg]
theorem tpi_ok (hb:1<=b) {N u:Nat} (hN:M*b<=N) (h1:1<=u) (h2:u<=N):1<=tpi (M*b) b u/\tpi (M*b) b u<=N:=by by_cases h:1<=u/\u<=M*b;{grind[tpi_lt]};simp_all[tpi,if_neg]
theorem tlit_abs (n b:Nat) (x:Int):(tlit n b x).natAbs=tpi n b x.natAbs:=by grind[tlit]
theorem tlit_ok (hb:1<=b) {N:Nat} (hN:M*b<=N) {x:Int} (h:iR N x):iR N (tlit (M*b) b x):=by have h1:=tpi_ok (M:=M) hb hN (u:=x.natAbs) (by have:=h.1;omega) h.2;have h2:=tlit_abs (M*b) b x;exact⟨by omega,by omega⟩
theorem tlit_tr (hb:1<=b) (γ:Ao) {x:Int} (hx:x≠0):tr γ (tlit (M*b) b x)=tr (λu=>γ (tpi (M*b) b u)) x:=by
 have h2:=tlit_abs (M*b) b x;have h3:0<tlit (M*b) b x↔0<x:=by
  unfold tlit;by_cases h:x<0;{omega}
  ·rw[if_neg h];have h4:1<=tpi (M*b) b x.natAbs:=by by_cases h:1<=x.natAbs/\x.natAbs<=M*b;{exact(tpi_lt hb h.1 h.2).1};{have e:tpi (M*b) b x.natAbs=x.natAbs:=if_neg h;rw[e];omega}
   omega
 unfold tr;simp_all
def turnF (n b:Nat) (f:Bo):Bo:=⟨f.Vars,f.Clauses.map λc=>c.map (tlit n b)⟩
theorem turn_sat (hb:1<=b) {N:Nat} {f:Bo} (F:FmO N f) (γ:Ao):satF (turnF (M*b) b f) γ↔satF f λu=>γ (tpi (M*b) b u):=by unfold satF turnF;constructor;{intro h c hc;obtain⟨x,hx,h1⟩:=h _ (List.mem_map.2 ⟨c,hc,rfl⟩);obtain⟨z,hz,rfl⟩:=List.mem_map.1 hx;exact⟨z,hz,by rw[<- tlit_tr hb γ (F.ok c hc z hz).1];exact h1⟩};{intro h c hc;obtain⟨d,hd,rfl⟩:=List.mem_map.1 hc;obtain⟨x,hx,h1⟩:=h d hd;exact⟨tlit (M*b) b x,List.mem_map.2 ⟨x,hx,rfl⟩,by rw[tlit_tr hb γ (F.ok d hd x hx).1];exact h1⟩}
theorem turn_fm (hb:1<=b) {N:Nat} {f:Bo} (F:FmO N f) (hN:M*b<=N):FmO N (turnF (M*b) b f) :=⟨F.vars,F.big,by unfold turnF;rw[List.length_map];exact F.cnt,λc hc=>by obtain⟨d,hd,rfl⟩:=List.mem_map.1 hc;rw[List.length_map];exact F.sh d hd,λc hc x hx=>by obtain⟨d,hd,rfl⟩:=List.mem_map.1 hc;obtain⟨z,hz,rfl⟩:=List.mem_map.1 hx;exact tlit_ok hb hN (F.ok d hd z hz)⟩
def pK (b n:Nat):A0:=(List.range n).map λa=>((tv b a:Nat):Int)
theorem turned_is (hb1:1<=b) (hb3:b<=3) (hM:M<=16) {N:Nat} {f:Bo} (F:FmO N f) (hN:M*b<=N):jn f ((M*b:Nat):Int) (b:Int)=some (turnF (M*b) b f,pK b (M*b)):=by
 have hn:M*b<=16*3:=Nat.mul_le_mul hM hb3;have hbig:=F.big;unfold jn;rw[mkL_ok (by omega) (by omega) (by omega),be,Int.toNat_natCast];rw[loop_set (b:=fT f ((M*b:Nat):Int) (b:Int)) (M*b) (λa=>((tv b a:Nat):Int)) 0 (by omega) (λi L hi hL=>by
  obtain⟨q1,q2⟩:=idivN (w:=b) (i:=i) hb1 (by omega) (by omega);have hmod:i%b<b:=Nat.mod_lt _ (by omega);have hdm:=Nat.div_add_mod i b;have hmul:(i/b:Nat)*b<=48:=by grind
  have hmc:=Int.natCast_mul (i/b) b;unfold fT;dsimp only;rw[Int.toNat_natCast,show ltB (i:Int) (bi (List.replicate (M*b) ()))=true from decide_eq_true (by unfold bi;grind),cond_true,q2,be,q1,be,bz,List.getElem?_eq_getElem (by omega),be,ch (by omega),Int.toNat_natCast];have e:bX .i64 (bX .i64 (bC .i64 (cg .i64 ((i/b:Nat):Int) (b:Int)) (b:Int)) 1) ((i%b:Nat):Int)=((tv b i:Nat):Int):=by grind[dP,ef,i6,tv]
  rw[e]) (λL hL=>by unfold fT;grind[ltB,bi]),be]
 show (bn (eV f ((M*b:Nat):Int) (pK b (M*b))) bI (0,[])).bind _=_;have hcnt:=F.cnt;have hg:=nU (b:=eV f ((M*b:Nat):Int) (pK b (M*b))) f.Clauses (λ_ c=>[c.map (tlit (M*b) b)]) 1 1000000 [] (λ_ _=>Nat.le_refl _) (by omega) (by simp;omega) (λk c ac hc hac=>by
   have hcm:=List.mem_of_getElem? hc;have hsh:=F.sh c hcm;unfold eV;dsimp only;rw[bw,decide_eq_true (bP hc),cond_true,bz,hc,be,show bi c=((c.length:Nat):Int)from rfl,mkL_ok (by omega) (by omega) (by omega),be,show ((c.length:Nat):Int).toNat=c.length from Int.toNat_natCast _];rw[loop_set (b:=fS f ((M*b:Nat):Int) (pK b (M*b)) (k:Int) ac c) c.length (λj=>tlit (M*b) b (c.getD j 0)) 0 (by omega) (λi L hi hL=>by
    have hx:c[i]?=some (c.getD i 0):=by simp_all
    have hxo:=F.ok c hcm _ (List.mem_of_getElem? hx);generalize c.getD i 0=x at hx hxo;have hx1:=hxo.1;have hx2:=hxo.2;have hv:(bif (leB (iW x (cM .i64 x)) ((M*b:Nat):Int))then(idx (pK b (M*b)) (bX .i64 (iW x (cM .i64 x)) 1)).bind λx2=>some (bC .i64 x2 1)else some (iW x (cM .i64 x)))=some ((tpi (M*b) b x.natAbs:Nat):Int):=by rw[imax_abs hbig hxo];by_cases h:x.natAbs<=M*b;{rw[show leB (x.natAbs:Int) ((M*b:Nat):Int)=true from decide_eq_true (by omega),cond_true];have e:tpi (M*b) b x.natAbs=tv b (x.natAbs-1)+1:=if_pos ⟨by omega,h⟩;have hlt:=tv_lt (M:=M) hb1 (show x.natAbs-1<M*b by omega);rw[e,show bX .i64 (x.natAbs:Int) 1=((x.natAbs-1:Nat):Int)from by grind[i6],bz];grind[pK,ch]};{rw[show leB (x.natAbs:Int) ((M*b:Nat):Int)=false from decide_eq_false (by omega),cond_false];simp_all[tpi,if_neg]}
    have htp:=tpi_ok (M:=M) hb1 hN (u:=x.natAbs) (by omega) hx2;unfold fS;dsimp only;rw[bw,decide_eq_true hi,cond_true,bz,hx,be,hv,be];have hs:(bif (ltB x 0)then some (cM .i64 ((tpi (M*b) b x.natAbs:Nat):Int))else some ((tpi (M*b) b x.natAbs:Nat):Int))=some (tlit (M*b) b x):=by unfold tlit;by_cases h:x<0;{rw[show ltB x 0=true from decide_eq_true h,cond_true,if_pos h,ineg_in (by omega)]};simp_all[ltB,decide_eq_false,if_neg]
    grind[bz,ch]) (λL hL=>by simp[fS,bw]),be,lr (by decide) (by decide) (by simp;omega),be,ch (by grind)]
   have e:(List.range c.length).map (λj=>tlit (M*b) b (c.getD j 0))=c.map (tlit (M*b) b):=by refine List.ext_getElem? λj=>?_;grind
   rw[e])
  (λac=>by simp[eV,bw])
 rw[hg,List.nil_append,gat_map];rfl
theorem back_is (hb1:1<=b) (hb3:b<=3) (hM:M<=16) {N:Nat} (hN:M*b<=N) (γ:Ao):l9 (bits γ N) (pK b (M*b))=some (bits (λu=>γ (tpi (M*b) b u)) (M*b)):=by
 have hn:M*b<=16*3:=Nat.mul_le_mul hM hb3;have hl:(pK b (M*b)).length=M*b:=by unfold pK;simp
 unfold l9;rw[show bi (pK b (M*b))=((M*b:Nat):Int)from by unfold bi;rw[hl],mkL_ok (by omega) (by omega) (by omega),be,Int.toNat_natCast];rw[loop_set (b:=gG (bits γ N) (pK b (M*b))) (M*b) (λa=>γ (tpi (M*b) b (a+1))) false (by omega) (λi L hi hL=>by
  have hlt:=tv_lt (M:=M) hb1 hi;have hv:(pK b (M*b))[i]?=some ((tv b i:Nat):Int):=by unfold pK;simp_all
  unfold gG;dsimp only;rw[show ltB (i:Int) (bi (pK b (M*b)))=true from decide_eq_true (by grind[bi]),cond_true,bz,hv,be,bz,ky,if_pos (by omega),be,bz,List.getElem?_eq_getElem (by omega),be,ch (by omega),Int.toNat_natCast,
   show tpi (M*b) b (i+1)=tv b i+1 from if_pos ⟨by omega,by omega⟩]) (λL hL=>by simp[gG,ltB,bi,pK]),be]
 rfl
end
end Go.Proofs.YtopmhknobhmbgaaGreatDoor
namespace Go.Proofs.YtopmhknobhmbgaaGreatDoor
open Go.AM Go.Proofs Go.Sort
def hiChk:Bool:=(List.range 4).all λb=>(List.range 8).all λc=>(List.range 8).all λd=>(List.range 3).all λj=>!(decide (c<2 ^ b)&&(decide (d<2 ^ b)&&(decide (j<b)&&(((List.range j).all λi=>fU (c:Int) (b-1-i)==fU (d:Int) (b-1-i))&&(!fU (c:Int) (b-1-j)&&fU (d:Int) (b-1-j))))))||decide (c<d)
theorem hiChk_true:hiChk=true:=by kernel_rfl
theorem hi_lt {b c d j:Nat} (hb:b<=3) (hc:c<2 ^ b) (hd:d<2 ^ b) (hj:j<b) (h:∀i,i<j->fU (c:Int) (b-1-i)=fU (d:Int) (b-1-i)) (h1:fU (c:Int) (b-1-j)=false) (h2:fU (d:Int) (b-1-j)=true):c<d:=by
 have h8:2 ^ b<=2 ^ 3:=Nat.pow_le_pow_right (by omega) hb;have h0:=hiChk_true;unfold hiChk at h0;have h3:=List.all_eq_true.1 (List.all_eq_true.1 (List.all_eq_true.1 (List.all_eq_true.1 h0 b (List.mem_range.2 (by omega))) c (List.mem_range.2 (by omega))) d (List.mem_range.2 (by omega))) j (List.mem_range.2 (by omega));have h4:((List.range j).all λi=>fU (c:Int) (b-1-i)==fU (d:Int) (b-1-i))=true:=List.all_eq_true.2 λi hi=>by rw[h i (List.mem_range.1 hi)];exact beq_self_eq_true _
 rw[decide_eq_true hc,decide_eq_true hd,decide_eq_true hj,h4,h1,h2] at h3;simpa using h3
theorem list_lt {c c':Aj} {M k:Nat} (hk:k<M) (h:∀i,i<k->c i=c' i) (hlt:c k<c' k):lexB (iC c M) (iC c' M):=by
 have hs:∀d:Aj,iC d M=(iC d M).take k++((d k:Nat):Int)::(iC d M).drop (k+1):=λd=>by
  conv=>lhs;rw[<- List.take_append_drop k (iC d M),drop_get (oK hk)]
 have ht:(iC c M).take k=(iC c' M).take k:=List.ext_getElem? λi=>by rw[List.getElem?_take,List.getElem?_take];by_cases hi:i<k;{rw[if_pos hi,if_pos hi,oK (by omega),oK (by omega),h i hi]};{rw[if_neg hi,if_neg hi]}
 rw[hs c,hs c',ht,lex_pre];exact lex_head (by omega) _ _
theorem cmp_turn {b M N:Nat} (hb1:1<=b) (hb3:b<=3) {c c':Aj} (hc:∀k,k<M->c k<2 ^ b) (hc':∀k,k<M->c' k<2 ^ b) {β γ:Ao} (hβ:∀k j,k<M->j<b->β (k*b+j+1)=fU ((c k:Nat):Int) (b-1-j)) (hγ:∀k j,k<M->j<b->γ (k*b+j+1)=fU ((c' k:Nat):Int) (b-1-j)) (hN:M*b<=N) (h:bits γ N=bits β N\/ltb (bits β N) (bits γ N)):iC c M=iC c' M\/lexB (iC c M) (iC c' M):=by
 have key:∃w,(∀v,v<w->v<N->β (v+1)=γ (v+1))/\(M*b<=w\/(w<M*b/\β (w+1)=false/\γ (w+1)=true)):=by rcases h with h|⟨w,h1,h2,h3⟩;{refine⟨N,λv _ hv=>?_,.inl hN⟩;have:=congrArg (·[v]?) h;simp only[ky,if_pos hv,Option.some.injEq] at this;exact this.symm};{refine⟨w,λv hv hvN=>?_,?_⟩;{have:=h1 v hv;simpa only [ky,if_pos hvN,Option.some.injEq] using this};{rcases Nat.lt_or_ge w (M*b)with h4|h4;{refine .inr ⟨h4,?_,?_⟩;{simpa only [ky,if_pos (show w<N by omega),Option.some.injEq] using h2};{simpa only [ky,if_pos (show w<N by omega),Option.some.injEq] using h3}};{exact .inl h4}}}
 obtain⟨w,h1,h2⟩:=key;have hlt:∀k j,k<M->j<b->k*b+j<M*b:=λk j hk hj=>by have:=Nat.mul_le_mul_right b (show k+1<=M from hk);rw[Nat.add_mul,Nat.one_mul] at this;omega
 have hsame:∀k,k<M->k*b+b<=w->c k=c' k:=λk hk hw=>bits_inj hb3 (hc k hk) (hc' k hk) λj hj=>by have:=h1 (k*b+(b-1-j)) (by omega) (by have:=hlt k (b-1-j) hk (by omega);omega);rw[hβ k _ hk (by omega),hγ k _ hk (by omega),show b-1-(b-1-j)=j by omega] at this;exact this
 rcases h2 with h2|⟨h2,h3,h4⟩;{refine .inl ?_;unfold iC;refine List.map_congr_left λk hk=>?_;have hk':=List.mem_range.1 hk;rw[hsame k hk' (by have:=hlt k (b-1) hk' (by omega);omega)]}
 ·obtain⟨k,j,hj,rfl⟩:=tv_split hb1 w;have hk:k<M:=by rcases Nat.lt_or_ge k M with h5|h5;{exact h5};{have:=Nat.mul_le_mul_right b h5;omega}
  refine .inr (list_lt hk (λi hi=>hsame i (by omega) ?_) (hi_lt hb3 (hc k hk) (hc' k hk) hj (λi hi=>?_) ?_ ?_));{have:=Nat.mul_le_mul_right b (show i+1<=k from hi);rw[Nat.add_mul,Nat.one_mul] at this;omega};{have:=h1 (k*b+i) (by omega) (by omega);rw[hβ k _ hk (by omega),hγ k _ hk (by omega)] at this;exact this};{rw[<- hβ k j hk hj];exact h3};{rw[<- hγ k j hk hj];exact h4}
theorem head_is {l:A1} (hl:l.Pairwise lexB) {q:A0} (hq:q∈l) (h:∀x∈l,q=x\/lexB q x):∃rest,l=q::rest:=by
 cases l with
 |nil=>(cases hq)|cons x l=>rw[List.pairwise_cons] at hl;rcases h x (by simp)with e|h1;{exact⟨l,by rw[e]⟩};{rcases List.mem_cons.1 hq with e|h2;{exact⟨l,by rw[e]⟩};{exact(lex_ne (cmpLL_trans _ _ _ h1 (hl.1 q h2)) rfl).elim}}
section
variable {n b:Nat} {t:Tree} {ns:Aw} {g:Grid} {w h r:Nat}
def firstR (t:Tree) (g:Grid) (n w h r:Nat):Grid×Bool×Int:=match md t g n w h r with|[]=>(⟨0,0,0,[]⟩,false,0)|q::_=>(jl w h r q,true,0)
theorem tpi_at {b M k j:Nat} (hj:j<b) (hlt:k*b+j<M*b):tpi (M*b) b (k*b+j+1)=k*b+(b-1-j)+1:=by unfold tpi;rw[if_pos (by omega),Nat.add_sub_cancel,tv_at hj]
theorem bits_code {α:Ao} {c:Aj} {b M:Nat} (h:bits α (M*b)=pH c b M) {k j:Nat} (hk:k<M) (hj:j<b):α (k*b+j+1)=fU ((c k:Nat):Int) j:=by
 have hlt:k*b+j<M*b:=by have:=Nat.mul_le_mul_right b (show k+1<=M from hk);rw[Nat.add_mul,Nat.one_mul] at this;omega
 have:=congrArg (·[k*b+j]?) h;unfold pH at this;simp only[ky,if_pos hlt,Option.some.injEq] at this;rw[this,pq c hj]
theorem first48 (F:Fit n b t ns g w h r) (hs:Sz t):dQ t g=some (firstR t g n w h r):=by
 have A:=F.A;have hb1:=A.R.sb.b1;have hb3:=A.R.sb.b3;have hpw:=A.R.sb.pw;obtain⟨N,FM,hN⟩:=par_fm A F.hg F.hf;have FT:=turn_fm (b:=b) hb1 FM hN;unfold dQ;rw[parP A F.h1 F.h3 F.h4,F.hf,cond_true,be];dsimp only;rw[show neB (0:Int) 0=false from rfl,cond_false,PC.bits_eq,A.R.st,A.R.sb.bits,be,<- Int.natCast_mul,turned_is hb1 hb3 A.sz FM hN,be];dsimp only;have hsat:∀q∈md t g n w h r,∃γ:Ao,satF (turnF ((w+2*r)*(h+2*r)*b) b ⟨(mh b t ns g n w h r).1,(mh b t ns g n w h r).2⟩) γ/\∀k j,k<(w+2*r)*(h+2*r)->j<b->γ (k*b+j+1)=fU ((csq q k:Nat):Int) (b-1-j):=λq hq=>by
  obtain⟨α,h1,h2⟩:=(rX A F.R hs F.hg _).2 ⟨q,(ir A).1 hq,rfl⟩;refine⟨λu=>α (tpi ((w+2*r)*(h+2*r)*b) b u),(turn_sat hb1 FM _).2 ?_,λk j hk hj=>?_⟩
  ·have e:(λu=>α (tpi ((w+2*r)*(h+2*r)*b) b (tpi ((w+2*r)*(h+2*r)*b) b u)))=α:=funext λu=>by rw[tpi_tpi hb1]
   show satF _ (λu=>α (tpi _ b (tpi _ b u)));rw[e];exact(Sat_satF α _ _).2 h1
  ·have hlt:k*b+j<(w+2*r)*(h+2*r)*b:=by have:=Nat.mul_le_mul_right b (show k+1<=_ from hk);rw[Nat.add_mul,Nat.one_mul] at this;omega
   dsimp only;rw[tpi_at hj hlt,bits_code h2.symm hk (by omega)]
 rcases first_is FT with⟨β,e1,e2,e3⟩|⟨e1,e2⟩
 ·rw[e1,be];dsimp only;rw[show neB (0:Int) 0=false from rfl,cond_false,show eR true=false from rfl,be,cond_false,cells48 A F.h1,be,back_is hb1 hb3 A.sz hN,be];dsimp only;have e4:=(turn_sat hb1 FM β).1 e2;obtain⟨q,P,e5⟩:=(rX A F.R hs F.hg _).1 ⟨_,(Sat_satF _ _ _).1 e4,rfl⟩;rw[e5,rO A P,be];have hβ:∀k j,k<(w+2*r)*(h+2*r)->j<b->β (k*b+j+1)=fU ((csq q k:Nat):Int) (b-1-j):=λk j hk hj=>by
   have hlt:k*b+(b-1-j)<(w+2*r)*(h+2*r)*b:=by have:=Nat.mul_le_mul_right b (show k+1<=_ from hk);rw[Nat.add_mul,Nat.one_mul] at this;omega
   have:=bits_code e5 hk (show b-1-j<b by omega);rw[tpi_at (by omega) hlt,show b-1-(b-1-j)=j by omega] at this;exact this
  obtain⟨rest,e6⟩:=head_is (rz _ []) ((ir A).2 P) λx hx=>by obtain⟨γ,g1,g2⟩:=hsat x hx;have P':=(ir A).1 hx;have:=cmp_turn hb1 hb3 (λk hk=>Nat.lt_of_lt_of_le (P.cs k hk) hpw) (λk hk=>Nat.lt_of_lt_of_le (P'.cs k hk) hpw) hβ g2 hN (e3 γ g1);rwa [csq_list P.len λs hs=>(P.st s hs).1,csq_list P'.len λs hs=>(P'.st s hs).1] at this
  unfold firstR;rw[show md t g n w h r=q::rest from e6];rfl
 ·rw[e1,be];dsimp only;rw[show neB (0:Int) 0=false from rfl,cond_false,show eR false=true from rfl,be,cond_true];unfold firstR;cases hE:md t g n w h r with|nil=>rfl|cons q rest=>obtain⟨γ,g1,_⟩:=hsat q (by rw[hE];simp);exact(e2 γ g1).elim
end
end Go.Proofs.YtopmhknobhmbgaaGreatDoor
namespace Go.Proofs.YtopmhknobhmbgaaGreatDoor
open Go.AM Go.Proofs Go.Sort
section
variable {n b:Nat} {t:Tree} {ns:Aw} {g:Grid} {w h r:Nat}
end
end Go.Proofs.YtopmhknobhmbgaaGreatDoor
namespace Go.Proofs.YtopmhknobhmbgaaGreatDoor
open Go.AM Go.Proofs Go.Sort
theorem lex_split:∀(a b:A0),a.length=b.length->lexB a b->∃(i:Nat) (x y:Int),a[i]?=some x/\b[i]?=some y/\x<y/\∀j:Nat,j<i->a[j]?=b[j]?|[],[],_,h=>by grind[lexB,jq]|[],_::_,h,_=>by simp at h|_::_,[],h,_=>by simp at h|x::a,y::b,hl,h=>by unfold lexB at h;rw[np] at h;by_cases h1:x<y;{exact⟨0,x,y,rfl,rfl,h1,λj hj=>by omega⟩};{rw[if_neg h1] at h;by_cases h2:y<x;{omega};{rw[if_neg h2] at h;obtain⟨i,u,v,e1,e2,e3,e4⟩:=lex_split a b (by simpa using hl) h;refine⟨i+1,u,v,by simpa using e1,by simpa using e2,e3,λj hj=>?_⟩;grind}}
theorem before_lt {a b:A0} (hl:a.length=b.length) (hs:a.length<=1000000) (h:lexB a b):eG a b=some true:=by obtain⟨i,x,y,e1,e2,e3,e4⟩:=lex_split a b hl h;have hi:=bP e1;unfold eG;obtain⟨o,ho,rfl⟩:=eD (b:=eg a b) (n:=i) (s:=0) (λk st=>st=(k:Int)) (λo=>o=.inl true) (by omega) rfl (λk st hk e=>by subst e;have hk1:a[k]?=some (a[k]'(by omega)):=List.getElem?_eq_getElem (by omega);have hk2:=e4 k hk;refine .inl ⟨((k+1:Nat):Int),?_,rfl⟩;unfold eg;dsimp only;rw[bw,decide_eq_true (by omega),cond_true,bw,decide_eq_true (by omega),be,cond_true,bz,bz,<- hk2,hk1,be,be,show neB (a[k]'(by omega)) (a[k]'(by omega))=false from by simp[neB],cond_false,ch (by omega)]) (λst e=>by subst e;refine⟨_,?_,rfl⟩;unfold eg;dsimp only;rw[bw,decide_eq_true (by omega),cond_true,bw,decide_eq_true (by omega),be,cond_true,bz,bz,e1,e2,be,be,show neB x y=true from by simp[neB];omega,cond_true,show ltB x y=true from decide_eq_true e3]);rw[ho,be]
section
variable {n b:Nat} {t:Tree} {ns:Aw} {g:Grid} {w h r:Nat} {q:A0}
theorem gridQ_ok (A:GL_ n b t ns g w h r) (P:Pred t g n w h r q):jc (jl w h r q)=true:=by
 have hbg:=A.big;have hsz:=A.sz;have hw:=A.G.w1;have hh:=A.G.h1;have hn:=A.R.sb.n8;have e:cg .i64 ((w+2*r:Nat):Int) ((h+2*r:Nat):Int)=(((w+2*r)*(h+2*r):Nat):Int):=by grind[dP]
 unfold jc sizeB jl;dsimp only;rw[e,show geB ((w+2*r:Nat):Int) 1=true from decide_eq_true (by omega),show leB ((w+2*r:Nat):Int) 256=true from decide_eq_true (by omega),show geB ((h+2*r:Nat):Int) 1=true from decide_eq_true (by omega),show leB ((h+2*r:Nat):Int) 256=true from decide_eq_true (by omega),
  show leB (((w+2*r)*(h+2*r):Nat):Int) 4096=true from decide_eq_true (by omega),show eqB (bi q) (((w+2*r)*(h+2*r):Nat):Int)=true from by unfold bi;rw[P.len];simp[eqB],dT (f:=badG) λj s hj=>by have:=P.st s (List.mem_of_getElem? hj);grind[badG,ltB,geB]]
 rfl
theorem pred_image (A:GL_ n b t ns g w h r) (hs:Sz t) (h1:cR t.Hood=some (r:Int)) (P:Pred t g n w h r q):eI t (jl w h r q)=some (⟨g.W,g.H,0,g.Cells⟩,0):=by
 have hbg:=A.big;have hsz:=A.sz;have hw:=A.G.w1;have hh:=A.G.h1;have hlen:=A.G.len;have hr2:=A.r2;have hql:(jl w h r q).Cells.length=(w+2*r)*(h+2*r):=P.len;have hck:chkI t (jl w h r q)=0:=by unfold chkI;rw[A.R.ok,gridQ_ok A P,cond_true,cond_true,dT (l:=(jl w h r q).Cells) λj s hj=>by have:=P.st s (List.mem_of_getElem? hj);rw[A.R.st];exact decide_eq_false (by omega)];rfl
 have e1:bX .i64 ((w+2*r:Nat):Int) (cg .i64 2 (r:Int))=(w:Int):=by grind[dP,i6]
 have e2:bX .i64 ((h+2*r:Nat):Int) (cg .i64 2 (r:Int))=(h:Int):=by grind[dP,i6]
 unfold eI;rw[fits_is hs (by omega),hck,be,show neB (0:Int) 0=false from rfl,cond_false,h1,be,img_loop (A.see (jl w h r q).Cells) A.R.ok hs hql (by rw[A.R.st];exact P.st) rfl rfl (by omega) (by omega)];show ((bif ltB (bX .i64 ((w+2*r:Nat):Int) (cg .i64 2 (r:Int))) 1 then some true else some (ltB (bX .i64 ((h+2*r:Nat):Int) (cg .i64 2 (r:Int))) 1)).bind λa=>bif a then _ else(some (imgI t (jl w h r q) (w+2*r) (h+2*r) r).Cells).bind λl=>some ((⟨bX .i64 ((w+2*r:Nat):Int) (cg .i64 2 (r:Int)),bX .i64 ((h+2*r:Nat):Int) (cg .i64 2 (r:Int)),0,l⟩:Grid),0))=_;rw[e1,e2,show ltB (w:Int) 1=false from decide_eq_false (by omega),cond_false,show ltB (h:Int) 1=false from decide_eq_false (by omega),be,cond_false,be,A.G.W,A.G.H];have hcells:(imgI t (jl w h r q) (w+2*r) (h+2*r) r).Cells=g.Cells:=by unfold imgI jl;dsimp only;rw[Nat.add_sub_cancel,Nat.add_sub_cancel];refine List.ext_getElem? λi=>?_;rw[List.getElem?_map];by_cases hi:i<w*h;{rw[List.getElem?_range hi,Option.map_some,P.leads i hi,List.getD_eq_getElem?_getD,List.getElem?_eq_getElem (by omega)];rfl};simp_all
 rw[hcells]
end
theorem leads_true (t:Tree) (g:Grid):jR t g=some true:=by
 obtain⟨y,hy,hs⟩:=few48 t g;unfold jR;rw[hy,alive48];cases y with
 |false=>rfl|true=>
  obtain⟨hsz,hl⟩:=hs rfl;simp only[be,eR,Bool.not_true,cond_false];rcases par_cases hsz hl with⟨e,h1,h2,_⟩|⟨n,b,ns,w,h,r,F⟩;{unfold fg;rw[h2,be,show neB e 0=true from by simp[neB,h1],cond_true,be];dsimp only;rw[show neB e 0=true from by simp[neB,h1],cond_true];rfl}
  ·have A:=F.A;rw[show (5000:Int)=((5000:Nat):Int)from rfl,all48 A F.R hsz F.hg F.h1 F.h3 F.h4 F.hf (by omega) (by omega),be];unfold allR;by_cases hle:(md t g n w h r).length<=5000
   ·rw[decide_eq_true hle,cond_true];dsimp only;rw[show neB (0:Int) 0=false from rfl,cond_false];have hasc:(md t g n w h r).Pairwise lexB:=rz _ [];rw[iE ((md t g n w h r).map (jl w h r)) (λ_ _=>false) false (by grind) (λi x hx=>by
     have hi:=bP hx;rw[List.length_map] at hi;rw[List.getElem?_map,List.getElem?_eq_getElem hi,Option.map_some,Option.some.injEq] at hx;have hPi:=(ir A).1 (List.getElem_mem hi);unfold gj;dsimp only;rw[bw,decide_eq_true (by simp_all),cond_true,bz,List.getElem?_map,List.getElem?_eq_getElem hi,Option.map_some,be,pred_image A hsz F.h1 hPi,be];dsimp only;rw[show neB (0:Int) 0=false from rfl,cond_false,same_grid (g:=⟨g.W,g.H,0,g.Cells⟩) (by grind),be,show eR true=false from rfl,cond_false,ch (by omega)];cases i with
     |zero=>rfl|succ i=>
      have hi':i<(md t g n w h r).length:=by omega
      have hPj:=(ir A).1 (List.getElem_mem hi');have hlt:=List.pairwise_iff_getElem.1 hasc i (i+1) hi' hi (by omega);have hsz':=A.sz;rw[show gtB (((i+1:Nat)):Int) 0=true from decide_eq_true (by omega),cond_true,dn_nat (by omega),bz,List.getElem?_map,List.getElem?_eq_getElem hi',Option.map_some,be];rw[show eG (jl w h r ((md t g n w h r)[i]'hi')).Cells (jl w h r ((md t g n w h r)[i+1]'hi)).Cells=some true from before_lt (by show List.length (_:A0)=List.length (_:A0);exact hPj.len.trans hPi.len.symm) (by have:=hPj.len;show ((md t g n w h r)[i]'hi').length<=1000000;omega) hlt];rfl) (by simp[gj,bw])]
    rw[show gz (λ_ (_:Grid)=>false) ((md t g n w h r).map (jl w h r)) 0=false from dT λ_ _ _=>rfl];rfl
   ·rw[decide_eq_false hle,cond_false];rfl
end Go.Proofs.YtopmhknobhmbgaaGreatDoor
namespace Go.Proofs.YtopmhknobhmbgaaGreatDoor
open Go.AM Go.Proofs Go.Sort
theorem same_total (a b:Grid) (ha:a.Cells.length<1000000):∃o,iL a b=some o:=by
 unfold iL;cases neB a.W b.W with
 |true=>simp|false=>
  cases neB a.H b.H with
  |true=>simp|false=>
   cases neB a.Edge b.Edge with
   |true=>simp|false=>
    cases hl:neB (bi a.Cells) (bi b.Cells)with
    |true=>simp|false=>
     have hl':a.Cells.length=b.Cells.length:=by simp[neB,bi] at hl;omega
     simp only[cond_false,be];rw[iE a.Cells (λi x=>neB x (b.Cells.getD i 0)) false (by omega) (λi x hx=>by have hi:=bP hx;unfold kl;dsimp only;rw[bw,decide_eq_true hi,cond_true,bz,hx,be,bz,List.getElem?_eq_getElem (by omega),be,List.getD_eq_getElem?_getD,List.getElem?_eq_getElem (by omega),ch (by omega),Option.getD_some];grind) (by simp[kl,bw]),be];cases gz (λi x=>neB x (b.Cells.getD i 0)) a.Cells 0 with
     |true=>simp|false=>simp
theorem before_self {a:A0} (hs:a.length<=1000000):eG a a=some false:=by unfold eG;rw[iE a (λ_ _=>false) true (by omega) (λi x hx=>by unfold eg;dsimp only;rw[bw,decide_eq_true (bP hx),cond_true,be,cond_true,bz,hx,be,be,show neB x x=false from by simp[neB],ch (by grind)];rfl) (by simp[eg,bw])];rw[show gz (λ_ (_:Int)=>false) a 0=false from dT λ_ _ _=>rfl];rfl
theorem before_gt {a b:A0} (hl:b.length=a.length) (hs:a.length<=1000000) (h:lexB b a):eG a b=some false:=by obtain⟨i,x,y,e1,e2,e3,e4⟩:=lex_split b a hl h;have hi:=bP e1;unfold eG;obtain⟨o,ho,rfl⟩:=eD (b:=eg a b) (n:=i) (s:=0) (λk st=>st=(k:Int)) (λo=>o=.inl false) (by omega) rfl (λk st hk e=>by subst e;have hk1:a[k]?=some (a[k]'(by omega)):=List.getElem?_eq_getElem (by omega);have hk2:=e4 k hk;refine .inl ⟨((k+1:Nat):Int),?_,rfl⟩;unfold eg;dsimp only;rw[bw,decide_eq_true (by omega),cond_true,bw,decide_eq_true (by omega),be,cond_true,bz,bz,hk2,hk1,be,be,show neB (a[k]'(by omega)) (a[k]'(by omega))=false from by simp[neB],cond_false,ch (by omega)]) (λst e=>by subst e;refine⟨_,?_,rfl⟩;unfold eg;dsimp only;rw[bw,decide_eq_true (by omega),cond_true,bw,decide_eq_true (by omega),be,cond_true,bz,bz,e1,e2,be,be,show neB y x=true from by simp[neB];omega,cond_true,show ltB y x=false from decide_eq_false (by omega)]);rw[ho,be]
theorem complete_true (t:Tree) (p:Grid):hZ t p=some true:=by
 obtain⟨y,hy,hs⟩:=small_eq t ⟨0,0,0,0,0,[]⟩;unfold hZ;rw[alive48];cases hc:gtB (bi p.Cells) 16 with
 |true=>rfl|false=>
  have hl:=of_decide_eq_false hc;unfold bi at hl;rw[cond_false,hy,be];cases y with
  |false=>rfl|true=>
   obtain⟨hsz,_⟩:=hs rfl;obtain⟨e,h1,_,h4⟩:=image_is hsz (g:=p) (by omega);rw[show eR true=false from rfl,be,cond_false,h1,be];cases he:neB e.2 0 with
   |true=>rfl|false=>
    have he0:e.2=0:=by simpa [neB] using he
    obtain⟨W,H,r,G,hok,S,hst,hw,hh,r1,r2,e1⟩:=h4 he0;obtain⟨y',hy',hs'⟩:=few48 t e.1;rw[cond_false,hy',be];cases y' with
    |false=>rfl|true=>
     obtain⟨_,hl'⟩:=hs' rfl;rw[show eR true=false from rfl,be,cond_false];obtain⟨w,rfl⟩:∃w,W=w+2*r:=⟨W-2*r,by omega⟩
     obtain⟨h,rfl⟩:∃h,H=h+2*r:=⟨H-2*r,by omega⟩
     have hpl:=G.len;have eW:e.1.W=(w:Int):=by rw[e1];show ((w+2*r-2*r:Nat):Int)=_;simp
     have eH:e.1.H=(h:Int):=by rw[e1];show ((h+2*r-2*r:Nat):Int)=_;simp
     have eE:e.1.Edge=0:=by rw[e1];rfl
     have eC:e.1.Cells=(List.range (w*h)).map λi=>sk t p.Cells (w+2*r) r (i%w) (i/w):=by simp_all[imgI]
     have hval:∀i,i<w*h->0<=sk t p.Cells (w+2*r) r (i%w) (i/w)/\sk t p.Cells (w+2*r) r (i%w) (i/w)<t.States:=λi hi=>by have hml:i%w<w:=Nat.mod_lt _ (by omega);have hdl:i/w<h:=Nat.div_lt_of_lt_mul hi;exact(val_is S hok hsz (by omega) hst (by omega) (by omega)).2
     rcases par_cases hsz hl' with⟨k,k1,k2,k4⟩|⟨n,b,ns,w',h',r',F⟩
     ·have hk6:k=6:=by
       rcases k4 with k4|⟨k4,_⟩
       ·exfalso;obtain⟨n,b,ns,R⟩:=rt_of hok;have hn8:=R.sb.n8;have hstn:=R.st;have hbig:w+2*r<=16/\h+2*r<=16:=⟨Nat.le_trans (Nat.le_mul_of_pos_right _ (by omega)) (show (w+2*r)*(h+2*r)<=16 by omega),Nat.le_trans (Nat.le_mul_of_pos_left _ (by omega)) (show (w+2*r)*(h+2*r)<=16 by omega)⟩
        have hwh:w*h<=16*16:=Nat.mul_le_mul (by omega) (by omega);have em:cg .i64 (w:Int) (h:Int)=((w*h:Nat):Int):=by grind[dP]
        have hg:jc e.1=true:=by
         unfold jc sizeB;rw[eW,eH,eE,em,eC,show geB (w:Int) 1=true from decide_eq_true (by omega),show leB (w:Int) 256=true from decide_eq_true (by omega),show geB (h:Int) 1=true from decide_eq_true (by omega),show leB (h:Int) 256=true from decide_eq_true (by omega),show leB ((w*h:Nat):Int) 4096=true from decide_eq_true (by omega),
          show eqB (bi ((List.range (w*h)).map λi=>sk t p.Cells (w+2*r) r (i%w) (i/w))) ((w*h:Nat):Int)=true from by unfold bi;rw[List.length_map,List.length_range];simp[eqB],dT (f:=badG) λj s hj=>by obtain⟨i,hi,rfl⟩:=List.mem_map.1 (List.mem_of_getElem? hj);grind[badG,ltB,geB]]
         rfl
        have ha:gz (λ_ s=>geB s t.States) e.1.Cells 0=false:=by rw[eC];refine dT λj s hj=>?_;obtain⟨i,hi,rfl⟩:=List.mem_map.1 (List.mem_of_getElem? hj);have:=hval i (List.mem_range.1 hi);exact decide_eq_false (by omega)
        have hr2:=S.r2;refine k1 ?_;rw[k4];unfold chkG;rw[hok,hg,ha,r1];dsimp only[cond_true,cond_false];have q1:bC .i64 e.1.W (cg .i64 2 (r:Int))=((w+2*r:Nat):Int):=by grind[dP,ef]
        have q2:bC .i64 e.1.H (cg .i64 2 (r:Int))=((h+2*r:Nat):Int):=by grind[dP,ef]
        have q3:cg .i64 ((w+2*r:Nat):Int) ((h+2*r:Nat):Int)=(((w+2*r)*(h+2*r):Nat):Int):=by grind[dP]
        simp_all[gtB,decide_eq_false]
       ·exact k4
      subst hk6;unfold fg dQ;rw[k2,be,be];rfl
     ·have A:=F.A;have er:r'=r:=by have:=F.h1;grind
      subst er;have ew:w'=w:=by have:=A.G.W;omega
      have eh:h'=h:=by have:=A.G.H;omega
      subst ew eh;have P:Pred t e.1 n w' h' r' p.Cells:=⟨hpl,by have:=A.R.st;simp_all,λi hi=>by simp_all⟩
      have hmem:p.Cells∈md t e.1 n w' h' r':=(ir A).2 P;have hsz16:=A.sz;rw[show (5000:Int)=((5000:Nat):Int)from rfl,all48 A F.R hsz F.hg F.h1 F.h3 F.h4 F.hf (by omega) (by omega),be];unfold allR;by_cases hle:(md t e.1 n w' h' r').length<=5000
      ·rw[decide_eq_true hle,cond_true];dsimp only;rw[show neB (0:Int) 0=false from rfl,cond_false];have hwant:(⟨p.W,p.H,0,p.Cells⟩:Grid)=jl w' h' r' p.Cells:=by unfold jl;rw[G.W,G.H]
       have hin:jl w' h' r' p.Cells∈(md t e.1 n w' h' r').map (jl w' h' r'):=List.mem_map.2 ⟨_,hmem,rfl⟩;have hcl:∀x∈(md t e.1 n w' h' r').map (jl w' h' r'),x.Cells.length<=16:=λx hx=>by obtain⟨q,hq,rfl⟩:=List.mem_map.1 hx;have:=((ir A).1 hq).len;show q.length<=16;omega
       have hll:((md t e.1 n w' h' r').map (jl w' h' r')).length<=5000:=by simp_all
       generalize (md t e.1 n w' h' r').map (jl w' h' r')=E at hin hcl hll;rw[iE E (λ_ x=>(iL x (jl w' h' r' p.Cells)).getD false) true (by omega) (λi x hx=>by obtain⟨o,ho⟩:=same_total x (jl w' h' r' p.Cells) (by grind);unfold fh;dsimp only;rw[bw,decide_eq_true (bP hx),cond_true,bz,hx,be,hwant,ho,be,alive48,ch (by grind)];cases o<;>rfl) (by simp[fh,bw])];grind[List.mem_iff_getElem?,fR,same_grid]
      ·rw[decide_eq_false hle,cond_false];dsimp only;rw[show neB (14:Int) 0=true from rfl,cond_true,first48 F hsz,be];obtain⟨q,rest,hE⟩:∃q rest,md t e.1 n w' h' r'=q::rest:=by
        cases hE:md t e.1 n w' h' r' with
        |nil=>simp_all|cons q rest=>simp
       have hP:Pred t e.1 n w' h' r' q:=(ir A).1 (by simp_all);have hasc:(md t e.1 n w' h' r').Pairwise lexB:=rz _ [];have hb:eG p.Cells q=some false:=by rw[hE] at hmem hasc;rcases List.mem_cons.1 hmem with e2|h5;{grind[before_self]};{exact before_gt (hP.len.trans P.len.symm) (by omega) ((List.pairwise_cons.1 hasc).1 _ h5)}
       unfold firstR;rw[hE];dsimp only;rw[show eqB (14:Int) 14=true from rfl,cond_true,cond_true,show eqB (0:Int) 0=true from rfl,cond_true];show ((eG p.Cells q).bind _).bind _=_;rw[hb];rfl
