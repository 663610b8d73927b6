/- Lemmas for the law. -/
import Derived.Test.YtpeabgakdpojlaaGreatDoorAmFs
namespace Go.AM
open Go.RowKit
def mm:A5->Nat->Nat|[],_=>0|x::_,0=>x|_::l,n+1=>mm l n
theorem nthD_eq:∀(l:A5) (n:Nat),mm l n=l.getD n 0|[],n=>by simp[mm]|x::l,0=>rfl|x::l,n+1=>by rw[mm,nthD_eq l n];simp
def rnG (inv:A5):Aw->Aw|none=>none|some (j,b)=>some (mm inv j,b)
def rnE (inv:A5) (e:Edge):Edge:={ e with on:=mm inv e.on }
def rnO (inv:A5):Oper->Oper|⟨d,op,ty,pos,af,g⟩=>⟨d,op,ty,pos,af.map (rnE inv),rnG inv g⟩
def rnL (inv:A5):A6->A6|[]=>[]|o::l=>rnO inv o::rnL inv l
def pmL (l:A6):A5->A6|[]=>[]|i::p=>pk l i++pmL l p
def pmOk (n:Nat) (p inv:A5):Bool:=p.length==n&&inv.length==n&&(List.range n).all λi=>decide (mm p (mm inv i)=i)&&decide (mm inv (mm p i)=i)&&decide (mm p i<n)&&decide (mm inv i<n)
def edgeOk (l:A6):Bool:=l.all λo=>o.after.all (λe=>decide (e.on<l.length))&&(match o.guard with|some (j,_)=>decide (j<l.length)|none=>true)
section
variable {P:Program} {p inv:A5} {l:A6} {Q:Exit->Act->World->Prop}
theorem qt:∀{p:A5},(∀i∈p,i<l.length)->(pmL l p).length=p.length|[],_=>rfl|i::p,h=>by rw[pmL,List.length_append,qt λj hj=>h j (by simp[hj]),pk_eq,List.getElem?_eq_getElem (h i (by simp))];simp;omega
theorem pmL_get:∀{p:A5} (k:Nat),(∀i∈p,i<l.length)->k<p.length->(pmL l p)[k]?=l[mm p k]?|[],k,_,hk=>by simp at hk|i::p,0,h,_=>by simp_all[pmL,pk_eq,mm]|i::p,k+1,h,hk=>by rw[pmL,pk_eq,List.getElem?_eq_getElem (h i (by simp)),mm];simp only[Option.toList_some,List.cons_append,List.nil_append,List.getElem?_cons_succ];exact pmL_get k (λj hj=>h j (by simp[hj])) (by simpa using hk)
theorem rnL_eq (l:A6):rnL inv l=l.map (rnO inv):=by
 induction l with
 |nil=>rfl|cons o l ih=>rw[rnL,ih];rfl
theorem nthD_get {l:A5} {n:Nat} (h:n<l.length):l[n]?=some (mm l n):=by rw[nthD_eq,List.getD_eq_getElem?_getD,List.getElem?_eq_getElem h];rfl
structure Pm (n:Nat) (p inv:A5):Prop where
 lp:p.length=n
 li:inv.length=n
 pi:∀i,i<n->mm p (mm inv i)=i
 ip:∀i,i<n->mm inv (mm p i)=i
 pn:∀i,i<n->mm p i<n
 inn:∀i,i<n->mm inv i<n
theorem pm_of {n:Nat} (h:pmOk n p inv=true):Pm n p inv:=by simp only[pmOk,Bool.and_eq_true,beq_iff_eq,List.all_eq_true,List.mem_range,decide_eq_true_eq] at h;exact⟨h.1.1,h.1.2,λi hi=>(h.2 i hi).1.1.1,λi hi=>(h.2 i hi).1.1.2,λi hi=>(h.2 i hi).1.2,λi hi=>(h.2 i hi).2⟩
theorem Pm.mem {n:Nat} (h:Pm n p inv):∀i∈p,i<n:=λi hi=>by obtain⟨k,hk⟩:=List.mem_iff_getElem?.1 hi;have hlt:=(List.getElem?_eq_some_iff.1 hk).1;rw[nthD_get hlt] at hk;cases hk;exact h.pn k (by rw[<- h.lp];exact hlt)
theorem Pm.get (h:Pm l.length p inv) {i:Nat} {o:Oper} (ho:l[i]?=some o):(rnL inv (pmL l p))[mm inv i]?=some (rnO inv o):=by have hi:=(List.getElem?_eq_some_iff.1 ho).1;rw[rnL_eq,List.getElem?_map,pmL_get _ h.mem (by rw[h.lp];exact h.inn i hi),h.pi i hi,ho];rfl
theorem rnO_after (o:Oper):(rnO inv o).after=o.after.map (rnE inv):=by cases o;rfl
theorem rnO_dst (o:Oper):(rnO inv o).dst=o.dst:=by cases o;rfl
theorem rnO_guard (o:Oper):(rnO inv o).guard=rnG inv o.guard:=by cases o;rfl
theorem rnO_wp (o:Oper) (a:Act) (w:World) (K:Act->World->Prop):(rnO inv o).wp P a w K Q=o.wp P a w K Q:=by cases o;rfl
theorem rnO_asks (o:Oper) (a:Act) (w:World):(rnO inv o).asks P a w=o.asks P a w:=by cases o;rfl
def SameL (n:Nat) (inv:A5) (listed listed':Array Bool):Prop:=listed.size=n/\listed'.size=n/\∀i,i<n->listed[i]?=listed'[mm inv i]?
theorem SameL.getD {n:Nat} {inv:A5} {a b:Array Bool} (h:SameL n inv a b) {i:Nat} (hi:i<n) (d:Bool):a.getD i d=b.getD (mm inv i) d:=by rw[Array.getD_eq_getD_getElem?,Array.getD_eq_getD_getElem?,h.2.2 i hi]
theorem SameL.set {n:Nat} (hp:Pm n p inv) {a b:Array Bool} (h:SameL n inv a b) {i:Nat} (hi:i<n):SameL n inv (a.setIfInBounds i true) (b.setIfInBounds (mm inv i) true):=by refine⟨by rw[Array.size_setIfInBounds];exact h.1,by rw[Array.size_setIfInBounds];exact h.2.1,λj hj=>?_⟩;rw[Array.getElem?_setIfInBounds,Array.getElem?_setIfInBounds,h.2.2 j hj];by_cases he:i=j;{subst he;rw[if_pos rfl,if_pos rfl,if_pos (by rw[h.1];exact hi),if_pos (by rw[h.2.1];exact hp.inn i hi)]};{rw[if_neg he,if_neg λe=>he (by rw[<- hp.pi i hi,<- hp.pi j hj,e])]}
theorem edge_of (h:edgeOk l=true) {o:Oper} (ho:o∈l):(∀e∈o.after,e.on<l.length)/\∀j b,o.guard=some (j,b)->j<l.length:=by have h1:=List.all_eq_true.1 h o ho;simp only[Bool.and_eq_true] at h1;refine⟨λe he=>?_,λj b hg=>?_⟩;{have:=Array.all_eq_true'.1 h1.1 e he;simp_all};simp_all
theorem ready_perm (hp:Pm l.length p inv) (he:edgeOk l=true) {a b:Array Bool} (h:SameL l.length inv a b) {i:Nat} (hi:i<l.length):mm inv i∈Region.ready .any (rnL inv (pmL l p)).toArray b↔i∈Region.ready .any l.toArray a:=by
 have ho:l[i]?=some l[i]:=List.getElem?_eq_getElem hi;have ho':=hp.get ho;have hlen:(rnL inv (pmL l p)).length=l.length:=by rw[rnL_eq,List.length_map,qt hp.mem,hp.lp]
 have key:((rnO inv l[i]).after.all λe=>!Region.binds .any e||b.getD e.on false)=(l[i].after.all λe=>!Region.binds .any e||a.getD e.on false):=by
  rw[rnO_after,Array.all_map];have hE:=(edge_of he (List.mem_of_getElem? ho)).1;rw[Bool.eq_iff_iff,Array.all_eq_true',Array.all_eq_true'];have q:∀e∈l[i].after,((λe=>!Region.binds .any e||b.getD e.on false) ∘ rnE inv) e=(!Region.binds .any e||a.getD e.on false):=λe hm=>by rw[h.getD (hE e hm) false];rfl
  simp_all
 unfold Region.ready;simp only[List.mem_filter,List.mem_range,List.size_toArray,hlen,List.getElem?_toArray,ho,ho',Option.map_some,Option.getD_some,key,<- h.getD hi true,hi,hp.inn i hi,true_and]
theorem wanted_perm (hp:Pm l.length p inv) (he:edgeOk l=true) {i:Nat} {o:Oper} (ho:l[i]?=some o) (tm:Array Value):Region.wanted (rnO inv o) (yielded (rnL inv (pmL l p)).toArray tm)=Region.wanted o (yielded l.toArray tm):=by
 unfold Region.wanted;rw[rnO_guard];cases hg:o.guard with
 |none=>rfl|some g=>
  obtain⟨j,b⟩:=g;have hj:=(edge_of he (List.mem_of_getElem? ho)).2 j b hg;have hoj:l[j]?=some l[j]:=List.getElem?_eq_getElem hj;show (yielded _ tm (mm inv j)==some b)=_;have:yielded (rnL inv (pmL l p)).toArray tm (mm inv j)=yielded l.toArray tm j:=by unfold yielded;rw[List.getElem?_toArray,List.getElem?_toArray,hp.get hoj,hoj];rfl
  rw[this]
theorem wpAny_perm (hp:Pm l.length p inv) (he:edgeOk l=true):∀(fuel:Nat) (x y:Array Bool) (a:Act) (w:World),SameL l.length inv x y->wpAny P .any (rnL inv (pmL l p)).toArray Q fuel y a w->wpAny P .any l.toArray Q fuel x a w:=by
 have hnil:∀{x y:Array Bool},SameL l.length inv x y->(Region.ready .any (rnL inv (pmL l p)).toArray y=[]↔Region.ready .any l.toArray x=[]):=λ{x y} h=>by
  have hlen:(rnL inv (pmL l p)).length=l.length:=by rw[rnL_eq,List.length_map,qt hp.mem,hp.lp]
  rw[List.eq_nil_iff_forall_not_mem,List.eq_nil_iff_forall_not_mem];refine⟨λh1 i hi=>?_,λh1 k hk=>?_⟩
  ·have hlt:i<l.length:=by simpa using (mem_ready.1 hi).2.elim λo ho=>(Array.getElem?_eq_some_iff.1 ho.1).1
   exact h1 _ ((ready_perm hp he h hlt).2 hi)
  ·have hlt:k<l.length:=by have:=(mem_ready.1 hk).2.elim λo ho=>(Array.getElem?_eq_some_iff.1 ho.1).1;simp_all
   refine h1 (mm p k) ((ready_perm hp he h (hp.pn k hlt)).1 ?_);rw[hp.ip k hlt];exact hk
 intro fuel;induction fuel with
 |zero=>intro x y a w h hh;exact⟨(hnil h).1 hh.1,hh.2⟩|succ fuel ih=>
  intro x y a w h hh;refine⟨λh0=>hh.1 ((hnil h).2 h0),λi hi=>?_⟩;have hlt:i<l.length:=by simpa using (mem_ready.1 hi).2.elim λo ho=>(Array.getElem?_eq_some_iff.1 ho.1).1
  have h1:=hh.2 _ ((ready_perm hp he h hlt).2 hi);have ho:l[i]?=some l[i]:=List.getElem?_eq_getElem hlt;unfold wpOp at h1⊢;rw[List.getElem?_toArray,hp.get ho] at h1;rw[List.getElem?_toArray,ho];dsimp only at h1⊢;rw[wanted_perm hp he ho] at h1;rw[rnO_wp,rnO_asks,rnO_dst] at h1;split;{rename_i hw;rw[if_pos hw] at h1;rcases h1 with h1|h1;{exact .inl (Oper.wp_mono (λa' w' h'=>ih _ _ a' w' (h.set hp hlt) h') h1)};{exact .inr h1}};{rename_i hw;rw[if_neg hw] at h1;exact ih _ _ _ _ (h.set hp hlt) h1}
end
def adO (i:Nat):Oper->Oper|⟨d,op,ty,pos,af,g⟩=>⟨d,op,ty,pos,af.push ⟨i,.data⟩,g⟩
def nN:A6->Nat->Nat->A6|[],_,_=>[]|o::l,i,0=>adO i o::l|o::l,i,m+1=>o::nN l i m
def gk (l:A6):List (Nat×Nat)->A6|[]=>l|(i,m)::es=>gk (nN l i m) es
def isExt:Op->Bool|.extract _ _=>true|_=>false
def edgeChk (l:A6) (i m:Nat):Bool:=decide (i≠m)&&decide (m<l.length)&&(match l[i]? with
 |some oi=>isExt oi.op&&oi.guard.isNone&&(List.range l.length).all λj=>j==i||(ku l.toArray i).contains j||(match l[j]? with
  |some oj=>oj.after.any (λe=>Region.binds .any e&&e.on==i)||oi.apart l.toArray oj|none=>false)
 |none=>false)&&(ku l.toArray i).all λj=>(clos l.toArray l.toArray.size (ku l.toArray m)).contains j
def sZ:A6->List (Nat×Nat)->Bool|_,[]=>true|l,(i,m)::es=>edgeChk l i m&&sZ (nN l i m) es
section
variable {P:Program} {l:A6} {Q:Exit->Act->World->Prop} {i m:Nat}
theorem sg:∀(l:A6) (m:Nat),(nN l i m).length=l.length|[],_=>rfl|o::l,0=>rfl|o::l,m+1=>by rw[nN,List.length_cons,List.length_cons,sg l m]
theorem addE_get:∀(l:A6) (m k:Nat),(nN l i m)[k]?=if k=m then l[k]?.map (adO i)else l[k]?|[],m,k=>by simp[nN]|o::l,0,0=>rfl|o::l,0,k+1=>by simp[nN]|o::l,m+1,0=>by simp[nN]|o::l,m+1,k+1=>by rw[nN,List.getElem?_cons_succ,List.getElem?_cons_succ,addE_get l m k];simp
theorem adO_dst (o:Oper):(adO i o).dst=o.dst:=by cases o;rfl
theorem adO_after (o:Oper):(adO i o).after=o.after.push ⟨i,.data⟩:=by cases o;rfl
theorem addE_yielded (tm:Array Value):yielded (nN l i m).toArray tm=yielded l.toArray tm:=by
 funext j;have e:((nN l i m).toArray[j]?).bind (·.dst)=(l.toArray[j]?).bind (·.dst):=by rw[List.getElem?_toArray,List.getElem?_toArray,addE_get];by_cases h:j=m;{rw[if_pos h];grind[adO_dst]};{rw[if_neg h]}
 unfold yielded;rw[e]
theorem qj (k:Nat) (K:Act->World->Prop) (a:Act) (w:World):wpOp P (nN l i m).toArray Q k K a w=wpOp P l.toArray Q k K a w:=by unfold wpOp;rw[List.getElem?_toArray,List.getElem?_toArray,addE_get,addE_yielded];by_cases h:k=m;{rw[if_pos h];cases l[k]? with|none=>rfl|some o=>rfl};{rw[if_neg h]}
theorem fI (hm:m<l.length) {listed:Array Bool} {k:Nat}:k∈Region.ready .any (nN l i m).toArray listed↔k∈Region.ready .any l.toArray listed/\(k=m->listed.getD i false=true):=by rw[mem_ready,mem_ready];simp only[List.getElem?_toArray,addE_get];by_cases h:k=m;{subst h;simp only[if_true];have ho:l[k]?=some l[k]:=List.getElem?_eq_getElem hm;simp only[ho,Option.map_some,Option.some.injEq,exists_eq_left',adO_after,Array.mem_push,forall_const];refine⟨λ⟨h1,h2⟩=>⟨⟨h1,λe he hb=>h2 e (.inl he) hb⟩,h2 _ (.inr rfl) rfl⟩,λ⟨⟨h1,h2⟩,h3⟩=>⟨h1,λe he hb=>?_⟩⟩;grind};simp_all
theorem ext_runs {o:Oper} (he:isExt o.op=true) (f:Operand->Value):(∃v,∀w,(execOp f o).run P w=.ok (.value v) w)\/∀a w K,a.eval=f->¬ (o.wp P a w K Q\/(o.asks P a w/\LetsOut Q)):=by
 obtain⟨d,op,ty,pos,af,g⟩:=o;cases op<;>first|(simp only[isExt] at he;cases he;done)|skip
 rename_i x ix;by_cases hx:∃vs v,f x=.tuple vs/\vs[ix]?=some v;{obtain⟨vs,v,h1,h2⟩:=hx;exact .inl ⟨v,λw=>by simp[execOp,Instr.extract,h1,h2]⟩}
 ·refine .inr λa w K ha=>?_;have hst:∃msg,Instr.extract (f x) ix=stuck msg:=by unfold Instr.extract;split;{rename_i vs hvs;split;{simp_all};grind};grind
  obtain⟨msg,hst⟩:=hst;have hrun:(execOp a.eval ⟨d,.extract x ix,ty,pos,af,g⟩).run P w=(stuck msg:Sem Next).run P w:=by rw[ha];simp only[execOp,hst];rfl
  rintro (h|⟨⟨h,_⟩,_⟩);{unfold Oper.wp at h;rw[hrun] at h;exact h};{rw[ha] at h;simp only[execOp,hst] at h;have:noRoomEvent∈(#[]:Array Event):=h;simp at this}
theorem edgeChk_of (h:edgeChk l i m=true):i≠m/\m<l.length/\(∃oi,l[i]?=some oi/\isExt oi.op=true/\oi.guard=none/\∀(j:Nat) (oj:Oper),l[j]?=some oj->j≠i->j ∉ ku l.toArray i->(∀e∈oj.after,Region.binds .any e=true->e.on≠i)->oi.apart l.toArray oj=true) /\ ∀j∈ku l.toArray i,j∈clos l.toArray l.toArray.size (ku l.toArray m):=by unfold edgeChk at h;simp only[Bool.and_eq_true,decide_eq_true_eq] at h;obtain⟨⟨⟨h1,h2⟩,h3⟩,h4⟩:=h;refine⟨h1,h2,?_,λj hj=>by simp_all⟩;split at h3;{rename_i oi ho;simp only[Bool.and_eq_true,Option.isNone_iff_eq_none] at h3;grind};{cases h3}
theorem wpAny_edge (h:edgeChk l i m=true) (hsel:Region.noSelect l.toArray=true) (hQ:∀c a w,¬ Q (.panic c) a w):∀(fuel:Nat) (listed:Array Bool) (a:Act) (w:World),listed.size=l.length->Closed l.toArray listed->wpAny P .any (nN l i m).toArray Q fuel listed a w->wpAny P .any l.toArray Q fuel listed a w:=by
 obtain⟨him,hm,⟨oi,ho,hext,hg,hap⟩,hpre⟩:=edgeChk_of h;have ho':l.toArray[i]?=some oi:=by simp_all
 have hil:i<l.length:=(List.getElem?_eq_some_iff.1 ho).1;have hup:∀{listed:Array Bool} {k:Nat},listed.size=l.length->Closed l.toArray listed->k∈Region.ready .any l.toArray listed->i ∉ Region.ready .any l.toArray listed->k=m->listed.getD i false=true:=λ{listed k} hsz hcl hk hi he=>by
  subst he;cases hb:listed.getD i false with
  |true=>rfl|false=>
   exfalso;refine hi (mem_ready.2 ⟨?_,oi,ho',λe hee hbb=>?_⟩);{simp_all}
   ·have:e.on∈ku l.toArray i:=by unfold ku;grind
    grind[pred_ready]
 have hpred:∀{listed:Array Bool},i∈Region.ready .any l.toArray listed->∀j∈ku l.toArray i,listed.getD j false=true:=λ{listed} hi j hj=>by obtain⟨_,o2,ho2,hall⟩:=mem_ready.1 hi;grind[ku]
 intro fuel;induction fuel with
 |zero=>
  intro listed a w hsz hcl hh;refine⟨List.eq_nil_iff_forall_not_mem.2 λk hk=>?_,hh.2⟩;by_cases hi:i∈Region.ready .any l.toArray listed;{have:i∈Region.ready .any (nN l i m).toArray listed:=(fI hm).2 ⟨hi,λe=>absurd e him⟩;rw[hh.1] at this;cases this};{have:k∈Region.ready .any (nN l i m).toArray listed:=(fI hm).2 ⟨hk,hup hsz hcl hk hi⟩;rw[hh.1] at this;cases this}
 |succ fuel ih=>
  intro listed a w hsz hcl hh;by_cases hi:i∈Region.ready .any l.toArray listed
  ·have h1:=hh.2 i ((fI hm).2 ⟨hi,λe=>absurd e him⟩);rw[qj] at h1;unfold wpOp at h1;rw[ho'] at h1;have hw:Region.wanted oi (yielded l.toArray a.tmps)=true:=by unfold Region.wanted;rw[hg]
   simp only[hw,if_true] at h1;rcases ext_runs (P:=P) (Q:=Q) hext a.eval with⟨v,hv⟩|hno
   ·have h2:wpAny P .any (nN l i m).toArray Q fuel (listed.setIfInBounds i true) (a.put oi.dst v) w:=by
     rcases h1 with h1|⟨⟨h1,_⟩,_⟩;{unfold Oper.wp at h1;rw[hv w] at h1;exact h1}
     ·exfalso;obtain⟨d,op,ty,pos,af,g⟩:=oi;cases op<;>first|(simp only[isExt] at hext;cases hext;done)|skip
      rename_i x ix;have hvw:=hv w;simp only[execOp,Instr.extract] at h1 hvw;split at h1;{rename_i vs hvs;rw[hvs] at hvw;simp only at hvw;split at h1<;>(have:noRoomEvent∈(#[]:Array Event):=h1;simp at this)};simp_all
    exact wpAny_first ho' (Region.noSelect_spec hsel) (λc a w h=>absurd h (hQ c _ w)) fuel listed a w (λj oj hj hne hun hb=>hap j oj (by simp_all) hne (λhpr=>by grind) hb) hi (.inl ⟨hw,hv⟩) (ih _ _ _ (by simp_all) (gZ hcl hi) h2)
   simp_all
  ·refine⟨λh0=>hh.1 (List.eq_nil_iff_forall_not_mem.2 λk hk=>?_),λk hk=>?_⟩;{simp_all[fI]};{have h1:=hh.2 k ((fI hm).2 ⟨hk,hup hsz hcl hk hi⟩);rw[qj] at h1;exact wpOp_mono (λa' w' h'=>ih _ a' w' (by simp_all) (gZ hcl hk) h') h1}
theorem wpAny_edges (hQ:∀c a w,¬ Q (.panic c) a w) (fuel:Nat) (a:Act) (w:World):∀(es:List (Nat×Nat)) (l:A6),sZ l es=true->Region.noSelect l.toArray=true->wpAny P .any (gk l es).toArray Q fuel (Array.replicate l.length false) a w->wpAny P .any l.toArray Q fuel (Array.replicate l.length false) a w
 |[],_,_,_,h=>h|(i,m)::es,l,hc,hs,h=>by
  simp only[sZ,Bool.and_eq_true] at hc;have hsel:Region.noSelect (nN l i m).toArray=true:=by have hn:=Region.noSelect_spec hs;unfold Region.noSelect at hs⊢;rw[Array.all_eq_true'] at hs⊢;intro o ho;obtain⟨k,hk⟩:=List.mem_iff_getElem?.1 (List.mem_toArray.1 ho);rw[addE_get] at hk;split at hk;{obtain⟨o',ho',rfl⟩:=Option.map_eq_some_iff.1 hk;have:=hs o' (List.mem_toArray.2 (List.mem_of_getElem? ho'));cases o';exact this};grind
  have h2:=wpAny_edges hQ fuel a w es (nN l i m) hc.2 hsel (by rw[sg];exact h);rw[sg] at h2;exact wpAny_edge hc.1 hs hQ fuel _ a w (by simp) (by have:=mc (ops:=l.toArray);simpa using this) h2
end
section
variable {P:Program} {cx:Cx} {tb:Tb} {Z:Env} {O:Sto} {Q:Aa}
theorem sw_midp (ht:TbOk P tb) (hm:P.follows .mixedOrders=true) (es:List (Nat×Nat)) (p inv:A5) (x y nT A:Nat) (uss nss:List A5) (las:Ag) (fl:Flt) {id:Nat} {l0:A6} (hc:(sZ l0 es&&Region.noSelect l0.toArray&&decide ((gk l0 es).length=l0.length)&&(pmOk (gk l0 es).length p inv&&edgeOk (gk l0 es)&&(kl cx.n (rnL inv (pmL (gk l0 es) p))&&Region.lexB .any (rnL inv (pmL (gk l0 es) p)).toArray&&mb (rnL inv (pmL (gk l0 es) p)).toArray x y nT A uss nss las fl)))=true) {l:A6} (hl:rnL inv (pmL (gk l0 es) p)=l) (hf:fltT tb fl l) (h:pq P tb l (nss.flatten++flN fl) (flI fl O) (l.take x) (iy (nss.flatten++flN fl) Z) (λρx=>midsL P cx tb l (nss.flatten++flN fl) fl ρx (fP l ((l.take y).drop x) uss nss) ρx (flI fl O) (λZ O=>sd P cx tb l (nss.flatten++flN fl) fl O (gb ((l.take nT).drop y) las) Z (λZ=>lP P cx tb l (l.drop nT) Z (flS fl O) (Q .normal) .mk) .mk) .mk) .mk) :
  Swp P cx (.region id l0.toArray true) Z O Q:=by
 subst hl;simp only[Bool.and_eq_true,decide_eq_true_eq] at hc;obtain⟨⟨⟨hes,hsel⟩,hle⟩,⟨h1,h2⟩,⟨h3,h4⟩,h5⟩:=hc;unfold pq midsL sd lP at h;rw[<- midsD_eq] at h;simp only[<- lateD_eq] at h;obtain⟨l1,hl1⟩:∃l1,l1=gk l0 es:=⟨_,rfl⟩
 have hp:=pm_of h1;have hlen:(rnL inv (pmL (gk l0 es) p)).length=(gk l0 es).length:=by rw[rnL_eq,List.length_map,qt hp.mem,hp.lp]
 intro E a w hs;have key:=draw_midsA (ops:=(rnL inv (pmL (gk l0 es) p)).toArray) ht h3 h4 h5 (Q:=λe a w=>(∀c,e=.panic c->False)/\(e=.outgrown->False)/\∃E Z O,Sim cx E Z O a w/\Q e Z O) (λE Z O a w hs hk=>⟨(λ_ h=>by cases h),(λh=>by cases h),E,Z,O,hs,hk⟩) hs rfl hf h;rw[List.size_toArray,hlen] at key;refine wp_region_any hm ?_;rw[List.size_toArray];refine wpAny_edges (λc a w hq=>hq.1 c rfl) _ _ _ es l0 hes hsel (wpAny_perm hp h2 _ _ (Array.replicate (gk l0 es).length false) _ _ ⟨by simp[hle],by simp,λi hi=>?_⟩ ?_);{rw[hle] at hi;simp[hle,hi,hle ▸ hp.inn i (by rw[hle];exact hi)]};{rw[hle] at key⊢;exact key}
theorem sw_midps (ht:TbOk P tb) (hm:P.follows .mixedOrders=true) (es:List (Nat×Nat)) (p inv:A5) (x y nT A:Nat) (uss nss:List A5) (las:Ag) (fl:Flt) {id:Nat} {l0:A6} {z:Code} (hc:(sZ l0 es&&Region.noSelect l0.toArray&&decide ((gk l0 es).length=l0.length)&&(pmOk (gk l0 es).length p inv&&edgeOk (gk l0 es)&&(kl cx.n (rnL inv (pmL (gk l0 es) p))&&Region.lexB .any (rnL inv (pmL (gk l0 es) p)).toArray&&mb (rnL inv (pmL (gk l0 es) p)).toArray x y nT A uss nss las fl)))=true) {l:A6} (hl:rnL inv (pmL (gk l0 es) p)=l) (hf:fltT tb fl l) (h:pq P tb l (nss.flatten++flN fl) (flI fl O) (l.take x) (iy (nss.flatten++flN fl) Z) (λρx=>midsL P cx tb l (nss.flatten++flN fl) fl ρx (fP l ((l.take y).drop x) uss nss) ρx (flI fl O) (λZ O=>sd P cx tb l (nss.flatten++flN fl) fl O (gb ((l.take nT).drop y) las) Z (λZ=>lP P cx tb l (l.drop nT) Z (flS fl O) (λZ O=>Swp P cx z Z O Q) .mk) .mk) .mk) .mk) :
  Swp P cx (.seq (.region id l0.toArray true) z) Z O Q:=bo (sw_midp ht hm es p inv x y nT A uss nss las fl hc hl hf h)
end
