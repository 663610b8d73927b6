/- Lemmas for the law. -/
import Derived.Test.YtpeabgakdpojlaaGreatDoorAmFl
namespace Go.AM
open Go.RowKit
def qopsF (P:Program) (tb:Tb) (all:A6) (ds:A5) (O:Sto):A6->Env->Aq->Prop|[],Z,K=>K Z|o::l,Z,K=>lf all o.guard Z (λZ=>qstep P tb o Z O λv=>qopsF P tb all ds O l (cK Z o.dst (v.wipes ds)) K) (λZ=>qopsF P tb all ds O l (cK Z o.dst (.tup [])) K)
def rchkd (ds:A5) (ρx:Env) (d:Ac) (v:V):Prop:=match d with|some d=>v.wipes ds=ρx d|none=>False
def rchk (P:Program) (tb:Tb) (all:A6) (ds:A5) (ρx:Env) (O:Sto):A6->Prop->Prop|[],K=>K|o::us,K=>lf all o.guard ρx (λ_=>qstep P tb o ρx O λv=>rchkd ds ρx o.dst v/\rchk P tb all ds ρx O us K) (λ_=>rchk P tb all ds ρx O us K)
def flN:Flt->A5|some (e,_)=>[e]|none=>[]
def flS (fl:Flt) (O:Sto):Sto:=match fl with|some (e,ob)=>upd O e (some ob)|none=>O
def flI (fl:Flt) (O:Sto):Sto:=match fl with|some (e,_)=>upd (cM e O) e (some (.row 1 0 []))|none=>O
def mA:Flt->Ac->Bool|some (e,_),some d=>d==e|_,_=>false
def flV:Flt->V|some (e,.box _)=>.u (.one (.box e 0))|some (e,.row _ _ _)=>.u (.one (.own e))|_=>.tup []
def fltC (P:Program) (cx:Cx) (tb:Tb) (fl:Flt) (o:Oper) (Z:Env):Prop:=match fl with|some (e,.row sz et rows)=>∀(Z':Env) (O:Sto) (K':A3),(∀z∈o.op.operands,oev Z' z=oev Z z)->clean e O->K' (cK (eY e Z') o.dst (.u (.one (.own e)))) (upd O e (some (.row sz et rows)))->p7 P cx tb o Z' O K'|_=>True
def fltE3 (P:Program) (cx:Cx) (tb:Tb) (f:FuncId) (args:Ao) (e sz:Nat) (et:TypeId) (rows:A8):Prop :=tb.call f args=none/\(∀d Z' O',tb.eff f args d Z' O'=none)/\(∀(Z':Env) (O:Sto) (K':A3),clean e O->K' (cK (eY e Z') (some e) (.u (.one (.own e)))) (upd O e (some (.row sz et rows)))->oU P cx f args Z' O (some e) K')
def fltE2 (P:Program) (cx:Cx) (tb:Tb) (fa:Option (FuncId×Ao)) (e sz:Nat) (et:TypeId) (rows:A8):Prop:=match fa with|some (f,args)=>fltE3 P cx tb f args e sz et rows|none=>False
def fltE1 (P:Program) (cx:Cx) (tb:Tb) (gc:Option Call) (d:Ac) (Z:Env) (e sz:Nat) (et:TypeId) (rows:A8):Prop:=match gc with|some c=>d=some e/\fltE2 P cx tb (eE Z c) e sz et rows|none=>False
def fltE (P:Program) (cx:Cx) (tb:Tb) (fl:Flt) (o:Oper) (Z:Env):Prop:=match fl with|some (e,.row sz et rows)=>fltE1 P cx tb (ep o.op) o.dst Z e sz et rows|_=>True
theorem fltC_of {P:Program} {cx:Cx} {tb:Tb} {fl:Flt} {o:Oper} {Z:Env} (h:fltE P cx tb fl o Z):fltC P cx tb fl o Z:=by
 unfold fltE at h;unfold fltC;split at h
 ·unfold fltE1 at h;split at h
  ·rename_i c hgc;obtain⟨hd,h⟩:=h;unfold fltE2 at h;split at h
   ·rename_i f args ha;obtain⟨h1,h2,h3⟩:=h;intro Z' O K' hz hcl hk;have ha':eE Z' c=some (f,args):=by rw[<- ha];exact nP λy hy=>hz y (by rw[(lX hgc).1];exact hy)
    simp_all[p7]
   ·exact h.elim
  ·exact h.elim
 ·trivial
def flOk (tb:Tb) (fl:Flt) (op:Op) (d:Ac):Prop:=match fl,op with
 |none,_=>True|some (e,.box cs),.alloc t=>d≠some e/\(∀s,cs.map (C.wipe s)=cs)/\match tb.ty t with
  |some ti=>∀s,(nh ti.zu).map (C.wipe s)=nh ti.zu|none=>False
 |_,_=>False
theorem map_self {I:Type} {f:I->I}:∀{l:List I},l.map f=l->∀x∈l,f x=x|[],_,_,h=>by simp at h|y::l,h,x,hx=>by simp only[List.map_cons,List.cons.injEq] at h;rcases List.mem_cons.1 hx with rfl|hx;{exact h.1};{exact map_self h.2 x hx}
theorem Ob.wipe_clean {d e:Nat} {o o':Ob} (h:o.wipe d=some o') (he:o.wipe e=some o):o'.wipe e=some o':=by
 cases o with
 |box cs=>simp only[Ob.wipe,Option.some.injEq,Ob.box.injEq] at h he;subst h;simp only[Ob.wipe,Option.some.injEq,Ob.box.injEq,List.map_map];refine List.map_congr_left λc hc=>?_;grind[C.wipe_comm,rX]|row sz e' rows=>grind[Ob.wipe]|map kk es=>
  simp only[Ob.wipe,Option.some.injEq,Ob.map.injEq,true_and] at h he;subst h;simp only[Ob.wipe,Option.some.injEq,Ob.map.injEq,true_and,List.map_map];refine List.map_congr_left λx hx=>?_;have h1:(x.1,x.2.wipe e)=x:=by exact map_self he x hx
  show (x.1,(x.2.wipe d).wipe e)=(x.1,x.2.wipe d)
  rw[U.wipe_comm,show x.2.wipe e=x.2 from congrArg Prod.snd h1]
 |iter m left last=>
  simp only[Ob.wipe] at h he;split at h;{cases h}
  ·split at he;{cases he}
   ·rename_i hm1 hm2;simp only[Option.some.injEq,Ob.iter.injEq,true_and] at h he;subst h;simp only[Ob.wipe,if_neg hm2,Option.some.injEq,Ob.iter.injEq,true_and,List.map_map,Option.map_map];have key:∀x:Key×U,(x.1,x.2.wipe e)=x->(x.1,(x.2.wipe d).wipe e)=(x.1,x.2.wipe d):=λx hx=>by rw[U.wipe_comm,show x.2.wipe e=x.2 from congrArg Prod.snd hx]
    refine⟨List.map_congr_left λx hx=>key x (map_self he.1 x hx),?_⟩;cases last with
    |none=>rfl|some x=>grind
 |nest e' ie sz els=>simp only[Ob.wipe,Option.some.injEq,Ob.nest.injEq,true_and] at h he;subst h;simp only[Ob.wipe,Option.some.injEq,Ob.nest.injEq,true_and,List.map_map];refine List.map_congr_left λc hc=>?_;grind[NE.wipe_comm,map_self]
theorem clean_alloc {d e:Nat} {O:Sto} {cs:As} (h:clean e O) (hcs:cs.map (C.wipe e)=cs):clean e (upd (cM d O) d (some (.box cs))):=by intro t o ht;by_cases htd:t=d;{subst htd;rw[upd_same] at ht;cases ht;show some (Ob.box (cs.map (C.wipe e)))=_;rw[hcs]};{rw[bz _ _ htd] at ht;unfold cM at ht;cases h0:O t with|none=>simp_all|some o0=>rw[h0] at ht;exact Ob.wipe_clean ht (h t o0 h0)}
def indep2:Op->Bool|.move _=>true|.extract _ _=>true|_=>false
def estq (o:At) (later:A5) (k:Az):Prop:=match o with|some v=>(∀e∈later,v.wipe e=v)/\k v|none=>False
theorem estq_some {o:At} {later:A5} {k:Az} (h:estq o later k):∃v,o=some v/\(∀e∈later,v.wipe e=v)/\k v:=by
 cases o with
 |none=>exact h.elim|some v=>exact⟨v,rfl,h⟩
theorem qev_indep2 {tb:Tb} {Z Z':Env} {O O':Sto} {op:Op} (hi:indep2 op=true) (hz:∀z∈op.operands,oev Z' z=oev Z z):qev tb Z' O' op=qev tb Z O op:=by
 cases op<;>first|(cases hi;done)|skip
 ·rename_i x;simp only[qev];rw[hz x (by simp[Op.operands])]
 ·rename_i x i;simp only[qev];rw[hz x (by simp[Op.operands])]
def slotO (d:Ac) (Z:Env):V:=match d with|some d=>Z d|none=>.tup []
def estp (r:Ae) (fl:Flt) (d:Ac) (ns later:A5) (K:A3) (alt:Prop):Prop:=match r with|some (p,Z',O')=>(fl=none/\ns=[]/\p/\∀e∈later,(slotO d Z').wipe e=slotO d Z')/\K Z' O'|none=>alt
theorem preT_ex {te:Option TI} {e:TypeId} {Z Z':Env} {O O':Sto} {d:Nat} {x y:V} {p:Prop} (h:preT te e Z O d x y=some (p,Z',O')):∃v,Z'=upd Z d v/\∀ρ1,preT te e ρ1 O d x y=some (p,upd ρ1 d v,O'):=by
 unfold preT at h⊢;cases te with
 |none=>(cases h)|some te=>grind
theorem preR_ex {tb:Tb} {Z Z':Env} {O O':Sto} {op:Op} {d:Ac} {p:Prop} (h:preR tb Z O op d=some (p,Z',O')) :∃v,Z'=cK Z d v/\slotO d Z'=v/\ep op=none/\(∀ρ1 σ1,qev tb ρ1 σ1 op=none)/\∀ρ1,(∀z∈op.operands,oev ρ1 z=oev Z z)->preR tb ρ1 O op d=some (p,cK ρ1 d v,O'):=by
 unfold preR at h;split at h
 ·rename_i c;split at h
  ·rename_i x y t t' d0 g1 g2 g3;split at h
   ·rename_i htt;have hz:∀ρ1:Env,(∀z∈(Op.call c).operands,oev ρ1 z=oev Z z)->oev ρ1 x=oev Z x/\oev ρ1 y=oev Z y:=λρ1 hz=>by have hm:∀z∈c.args.toList,oev ρ1 z=oev Z z:=λz hzz=>hz z (by simp only[Op.operands,Call.operands,g1];simpa using hzz);simp_all
    unfold preD at h;split at h;{rename_i ti hti;split at h;{rename_i e hd;obtain⟨v,rfl,hv⟩:=preT_ex h;refine⟨v,rfl,upd_same _ _ _,?_,?_,λρ1 h1=>?_⟩;{grind[ep]};{simp_all[qev]};{obtain⟨hx,hy⟩:=hz ρ1 h1;unfold preR;simp only[g1,g2,g3,if_pos htt];unfold preD;simp only[hti,hd,hx,hy];exact hv ρ1}};{cases h}};{cases h}
   ·cases h
  ·cases h
 ·cases h
def estep (P:Program) (cx:Cx) (tb:Tb) (fl:Flt) (o:Oper) (ns later:A5) (Z:Env) (O:Sto) (K:A3):Prop:=match ep o.op with
 |some c=>match eE Z c with
  |some (f,args)=>CallE P cx tb fl f args o.dst ns later O λv O'=>K (cK Z o.dst v) O'|none=>False
 |none=>match indep2 o.op with
  |true=>ns=[]/\estq (qev tb Z O o.op) later λv=>K (cK Z o.dst v) O|false=>estp (preR tb Z O o.op o.dst) fl o.dst ns later K (flOk tb fl o.op o.dst/\ns=o.dst.toList/\jr tb Z O o K)
def midsP (P:Program) (cx:Cx) (tb:Tb) (all:A6) (ds:A5) (fl:Flt) (ρx:Env):List (Oper×A6×A5)->Env->Sto->A3->Prop|[],Z,O,K=>K Z O|(o,us,ns)::l,Z,O,K=>lf all o.guard Z (λZ=>estep P cx tb fl o ns (l.flatMap (·.2.2)++flN fl) Z O λZ O=>rchk P tb all ds ρx O us (midsP P cx tb all ds fl ρx l Z O K)) (λZ=>rchk P tb all ds ρx O us (midsP P cx tb all ds fl ρx l (cK Z o.dst (.tup [])) O K))
def lw (ds:A5) (fl:Flt) (la:Bool):A5:=bif la then flN fl else ds
def s9 (P:Program) (cx:Cx) (tb:Tb) (all:A6) (ds:A5) (fl:Flt) (O:Sto):AC->Env->Aq->Prop
 |[],Z,K=>K Z|(o,la)::l,Z,K=>match mA fl o.dst with
  |true=>fltE P cx tb fl o Z/\s9 P cx tb all ds fl O l (cK Z o.dst (flV fl)) K|false=>lf all o.guard Z (λZ=>qstep P tb o Z O λv=>s9 P cx tb all ds fl O l (cK Z o.dst (v.wipes (lw ds fl la))) K) (λZ=>s9 P cx tb all ds fl O l (cK Z o.dst (.tup [])) K)
def EffG (P:Program) (cx:Cx) (tb:Tb) (fl:Flt) (o:Oper) (ns:A5) (Z:Env) (O:Sto) (v:V) (O':Sto):Prop :=(∀(Z':Env) (K':A3),(∀z∈o.op.operands,oev Z' z=oev Z z)->K' (cK (iy ns Z') o.dst v) O'->p7 P cx tb o Z' O K') /\ ∀e cs,fl=some (e,.box cs)->(∀(Z':Env) (K':A3),(∀z∈o.op.operands,oev Z' z=oev Z z)->K' (cK (iy ns Z') o.dst v) (upd O' e (some (.box cs)))->p7 P cx tb o Z' (upd O e (some (.box cs))) K')/\(clean e O->clean e O')
def effS (P:Program) (cx:Cx) (tb:Tb) (fl:Flt) (all:A6) (o:Oper) (ns:A5) (Z:Env) (O:Sto) (v:V) (O':Sto):Prop:=(gst all o.guard Z=some true/\EffG P cx tb fl o ns Z O v O')\/(gst all o.guard Z=some false/\v=.tup []/\O'=O)
def indep:Op->Bool|.move _=>true|.assign _=>true|.extract _ _=>true|.binOp _ _ _ _ _=>true|.unOp _ _ _=>true|.pick _ _ _=>true|_=>false
def lateB (ops:Array Oper) (x y:Nat) (las:Ag) (i:Nat):Bool:=match ops[i]?,las[i-y]? with|some o,some la=>(!la&&indep o.op)||(List.range (y-x)).all λj=>(clos ops ops.size (ku ops i)).contains (x+j)|_,_=>false
def uops (l:A6) (us:A5):A6:=us.filterMap (l[·]?)
def mids (l:A6) (x y:Nat) (uss nss:List A5):List (Oper×A6×A5):=((l.take y).drop x).zip ((uss.map (uops l)).zip nss)
def usB (ops:Array Oper) (x:Nat) (us:A5):Bool:=us.all λj=>decide (j<x)&&match ops[j]? with
  |some o=>match o.dst with
   |some d=>!(o.looksAt ops).contains d&&((ops.toList.take x).drop (j+1)).all λo'=>match o'.dst with
    |some d'=>d' != d && !(o.looksAt ops).contains d'|none=>true
   |none=>false
  |none=>false
def effB (ops:Array Oper) (x:Nat) (uss:List A5) (j:Nat):Bool:=match ops[x+j]?,uss[j]? with|some o,some us=>(effOp o.op||(ep o.op).isSome||indep2 o.op)&&((List.range x).all λi=>us.contains i||(clos ops ops.size (ku ops (x+j))).contains i) && ((List.range j).all λi=>(clos ops ops.size (ku ops (x+j))).contains (x+i))&&usB ops x us|_,_=>false
def flK (x y:Nat):Ob->Bool|.box _=>true|.row _ _ _=>x==y|_=>false
def flB (ops:Array Oper) (x y nT A:Nat) (fl:Flt):Bool:=match fl with
 |some (e,ob)=>flK x y ob&&(decide (y<=A)&&decide (A<nT)&&(match ops[A]? with
   |some o=>o.dst==some e&&o.guard.isNone|none=>false)&&(List.range nT).all λi=>match ops[i]? with
  |some o=>!(o.looksAt ops).contains e&&(o.dst != some e||i==A)|none=>false)
 |none=>true
def mb (ops:Array Oper) (x y nT A:Nat) (uss nss:List A5) (las:Ag) (fl:Flt):Bool :=decide (x<=y)&&decide (y<=nT)&&decide (nT<ops.size)&&chainB ops nT&&decide (uss.length=y-x)&&(List.range (y-x)).all (effB ops x uss)&&((List.range nT).all λi=>decide (i<y)||lateB ops x y las i||mA fl ((ops[i]?).bind (·.dst))) && decide (nss.length=y-x)&&decide (las.length=nT-y)&&decide (nss.flatten++flN fl).Nodup&&flB ops x y nT A fl
def fltT (tb:Tb) (fl:Flt) (l:A6):Prop:=∀e cs,fl=some (e,.box cs)->∀o∈l,o.dst=some e->∃t ti,o.op=.alloc t/\tb.ty t=some ti/\nh ti.zu=cs/\okZero ti=true/\cs.map (C.wipe e)=cs
section
variable {P:Program} {tb:Tb} {cx:Cx} {Z Z':Env} {O O':Sto} {ops:Array Oper} {K:Aq} {x y nT A:Nat} {uss nss:List A5} {las:Ag} {ds:A5} {fl:Flt} {o:Oper}
theorem YA_of_guard (ht:TbOk P tb) {k:Az} {k':Prop} {all:A6} (h:lf all o.guard Z (λρ1=>ρ1=Z->qstep P tb o ρ1 O k) (λρ1=>ρ1=Z->k')) :(gst all o.guard Z=some true/\∃v,tN P tb O o Z v/\k v)\/(gst all o.guard Z=some false/\k'):=by
 unfold lf at h;unfold gst;split at h;{rename_i hg;obtain⟨v,hv,hk⟩:=nS ht (h rfl);grind}
 ·rename_i j want hg;rw[hg];split at h
  ·rename_i s hs;split at h
   ·rename_i b hb;simp only[hs,hb];by_cases hbw:b=want;{have h1:=h.1 hbw;rw[<- hbw,<- hb,ly] at h1;obtain⟨v,hv,hk⟩:=nS ht (h1 rfl);grind}
    ·have hbn:b=!want:=by cases b<;>cases want<;>simp_all
     have h1:=h.2 hbn;rw[<- hbn,<- hb,ly] at h1;simp_all
   ·simp_all
   ·exact h.elim
  ·exact h.elim
theorem aguard_gst {all:A6} {g:Aw} {r s:Aq} (h:lf all g Z r s):(gst all g Z=some true/\r Z)\/(gst all g Z=some false/\s Z):=by
 unfold lf at h;unfold gst;split at h;{simp_all}
 ·rename_i j want;simp only;split at h
  ·rename_i sl hs;split at h
   ·rename_i b hb;simp only[hs,hb];by_cases hbw:b=want;{grind[ly]}
    ·have hbn:b=!want:=by cases b<;>cases want<;>simp_all
     grind[ly]
   ·simp_all
   ·exact h.elim
  ·exact h.elim
theorem aguard_mono {all:A6} {g:Aw} {r r' s s':Aq} (hr:∀Z,r Z->r' Z) (hs:∀Z,s Z->s' Z) (h:lf all g Z r s):lf all g Z r' s':=by unfold lf at h⊢;split;{simp_all};{rename_i j want;simp only at h;split;{grind};simp_all}
theorem wipes_tup:∀ds:A5,V.wipes ds (.tup [])=.tup []|[]=>rfl|_::ds=>wipes_tup ds
def YQ (P:Program) (tb:Tb) (ops:Array Oper) (ds:A5) (O:Sto) (o:Oper) (Z:Env) (v:V):Prop:=∃v0,YA P tb ops O o Z v0/\v=v0.wipes ds
theorem sx (ht:TbOk P tb):∀(l:A6) (k:Nat) (Z:Env),qopsF P tb ops.toList ds O l Z K->pX (λ_=>YQ P tb ops ds O) k l Z K|[],_,_,h=>by simpa [qopsF,pX] using h|o::l,k,Z,h=>by rw[qopsF] at h;rcases YA_of_guard (k:=λv=>qopsF P tb ops.toList ds O l (cK Z o.dst (v.wipes ds)) K) (k':=qopsF P tb ops.toList ds O l (cK Z o.dst (.tup [])) K) ht (aguard_mono (λρ1 h1 e=>by subst e;exact h1) (λρ1 h1 e=>by subst e;exact h1) h)with⟨hg,v,hv,hk⟩|⟨hg,hk⟩;{exact⟨_,⟨v,.inl ⟨hg,hv⟩,rfl⟩,sx ht l (k+1) _ hk⟩};{exact⟨_,⟨.tup [],.inr ⟨hg,rfl⟩,(wipes_tup ds).symm⟩,sx ht l (k+1) _ hk⟩}
theorem yrun_fin {Y:Au}:∀(l:A6) (k:Nat) (Z':Env) (R:Aq),pX Y k l Z' R->∃ρ1,R ρ1/\pX Y k l Z' λρ2=>ρ2=ρ1|[],_,_,_,h=>⟨_,h,rfl⟩|_::l,k,_,R,⟨v,hy,h⟩=>let ⟨ρ1,h1,h2⟩:=yrun_fin l (k+1) _ R h;⟨ρ1,h1,v,hy,h2⟩
theorem yrun_append {Y:Au}:∀(l:A6) (k:Nat) (Z':Env) (l2:A6) (R:Aq),pX Y k l Z' (λZ=>pX Y (k+l.length) l2 Z R)->pX Y k (l++l2) Z' R|[],k,_,_,_,h=>h|o::l,k,Z',l2,R,⟨v,hy,h⟩=>⟨v,hy,yrun_append l (k+1) _ l2 R (by grind)⟩
def Clean (ds:A5) (Z:Env):Prop:=∀d∈ds,∀t,(Z t).wipe d=Z t
theorem Clean.put {d:Ac} {v:V} (h:Clean ds Z) (hv:∀e∈ds,v.wipe e=v):Clean ds (cK Z d v):=by
 intro e he t;cases d with
 |none=>exact h e he t|some d=>by_cases htd:t=d;{subst htd;show V.wipe e (upd Z t v t)=upd Z t v t;rw[upd_same];exact hv e he};{show V.wipe e (upd Z d v t)=upd Z d v t;rw[bz _ _ htd];exact h e he t}
theorem yrun_clean {ρ1:Env}:∀(l:A6) (k:Nat) (Z:Env),Clean ds Z->pX (λ_=>YQ P tb ops ds O) k l Z (λρ2=>ρ2=ρ1)->Clean ds ρ1|[],_,_,hc,h=>by have h:_=ρ1:=h;subst h;exact hc|_::l,k,Z,hc,⟨v,⟨v0,_,hv⟩,h⟩=>yrun_clean l (k+1) _ (hc.put λe he=>by rw[hv];exact lZ _ he) h
theorem rchk_all (ht:TbOk P tb) {all:A6} {ρx:Env} {X:Prop}:∀(us:A6),rchk P tb all ds ρx O us X->(∀u∈us,gst all u.guard ρx=some false\/∃d v0,u.dst=some d/\tN P tb O u ρx v0/\v0.wipes ds=ρx d)/\X|[],h=>⟨λ_ hu=>by simp at hu,h⟩|o::us,h=>by rcases aguard_gst h with⟨hg,h⟩|⟨hg,h⟩;{obtain⟨v,hv,hd,hk⟩:=nS ht h;obtain⟨h1,h2⟩:=rchk_all ht us hk;refine⟨λu hu=>?_,h2⟩;rcases List.mem_cons.1 hu with rfl|hu;{unfold rchkd at hd;grind};{exact h1 u hu}};{obtain⟨h1,h2⟩:=rchk_all ht us h;simp_all}
theorem pN:∀{ns:A5},(∀d∈ns,∀t,(Z t).wipe d=Z t)->iy ns Z=Z|[],_=>rfl|d::ns,h=>by funext t;show V.wipes ns ((Z t).wipe d)=Z t;rw[h d (by simp) t];exact congrFun (pN (ns:=ns) λe he=>h e (by simp[he])) t
theorem wipeD_eq (d:Ac) (Z:Env):wipeD d Z=iy d.toList Z:=by cases d<;>rfl
theorem estep_to {ns later:A5} {K:A3} (he:(effOp o.op=true\/(ep o.op).isSome=true)\/indep2 o.op=true) (hc:∀d∈ns,∀t,(Z t).wipe d=Z t) (hl:∀e∈later,e ∉ ns) (h:estep P cx tb fl o ns later Z O K) :∃v O',EffG P cx tb fl o ns Z O v O'/\(∀e∈later,v.wipe e=v)/\K (cK Z o.dst v) O':=by
 unfold estep at h;split at h
 ·rename_i c hgc;split at h
  ·rename_i f args ha;obtain⟨h1,h2,v,O',⟨h3,h4⟩,h5,h6⟩:=h;have hargs:∀Z':Env,(∀z∈o.op.operands,oev Z' z=oev Z z)->eE Z' c=some (f,args):=λZ' hz=>by rw[<- ha];exact nP λy hy=>hz y (by rw[(lX hgc).1];exact hy)
   have run:∀(Z':Env) (σ0:Sto) (K':A3),(∀z∈o.op.operands,oev Z' z=oev Z z)->oU P cx f args Z' σ0 o.dst K'->p7 P cx tb o Z' σ0 K':=λZ' σ0 K' hz hk=>by simp_all[p7]
   exact⟨v,O',⟨λZ' K' hz hk=>run Z' _ K' hz (h3 Z' K' hk),λe cs hf=>⟨λZ' K' hz hk=>run Z' _ K' hz ((h4 e cs hf).1 Z' K' hk),(h4 e cs hf).2⟩⟩,h5,h6⟩
  ·exact h.elim
 ·rename_i hgc;split at h
  ·rename_i hi;obtain⟨hns,h⟩:=h;obtain⟨v,hv,hl2,hk⟩:=estq_some h;subst hns;have run:∀(Z':Env) (σ0:Sto) (K':A3),(∀z∈o.op.operands,oev Z' z=oev Z z)->K' (cK Z' o.dst v) σ0->p7 P cx tb o Z' σ0 K':=λZ' σ0 K' hz hk'=>by grind[p7,qev_indep2]
   exact⟨v,O,⟨λZ' K' hz hk'=>run Z' O K' hz hk',λe cs hf=>⟨λZ' K' hz hk'=>run Z' _ K' hz hk',id⟩⟩,hl2,hk⟩
  rename_i hi;replace he:effOp o.op=true\/(ep o.op).isSome=true:=he.resolve_right (by rw[hi];simp);unfold estp at h;split at h;{rename_i p ρ2 σ2 hpre;obtain⟨⟨hfl,hns,hp,hl2⟩,hk⟩:=h;obtain⟨v,rfl,hv,_,hq,hpr⟩:=preR_ex hpre;subst hns hfl;rw[hv] at hl2;refine⟨v,σ2,⟨λZ' K' hz hk'=>?_,λe cs hf=>by cases hf⟩,hl2,hk⟩;unfold p7;simp only[hgc,hq];unfold aeffP;rw[hpr Z' hz];exact⟨hp,hk'⟩};obtain⟨hfl,hns,h⟩:=h;cases fl with
  |some p=>
   unfold flOk at hfl;split at hfl;{simp_all}
   ·rename_i e cs t heq hop;cases heq;obtain⟨hd,hcs,hti⟩:=hfl;obtain⟨dst,op,ty,pos,af,g⟩:=o;simp only at hop hd hns h hgc⊢;subst hop;cases dst with
    |none=>simp_all[jr]|some d=>
     have hde:d≠e:=λh=>hd (by rw[h]);unfold jr at h;simp only at h;cases hty:tb.ty t with
     |none=>simp_all|some ti=>
      rw[hty] at h hti;simp only at h hti;obtain⟨hz,hk⟩:=h;have hzz:((nh ti.zu).map (C.wipe d)).map (C.wipe e)=(nh ti.zu).map (C.wipe d):=by rw[hti d,hti e]
      have run:∀(Z':Env) (σ0:Sto) (K':A3),K' (upd (eY d Z') d (.u (.one (.box d 0)))) (upd (cM d σ0) d (some (.box ((nh ti.zu).map (C.wipe d)))))->p7 P cx tb ⟨some d,.alloc t,ty,pos,af,g⟩ Z' σ0 K':=λZ' σ0 K' hk'=>
       tM rfl (by unfold jr;simp only[hty];exact⟨hz,hk'⟩)
      refine⟨.u (.one (.box d 0)),upd (cM d O) d (some (.box ((nh ti.zu).map (C.wipe d)))),⟨λZ' K' _ hk'=>run Z' O K' (by rw[hns] at hk';exact hk'),λe' cs' hf=>?_⟩,λe' hel=>?_,?_⟩
      ·cases hf;refine⟨λZ' K' _ hk'=>run Z' _ K' ?_,λhcl=>clean_alloc hcl hzz⟩;have heq:upd (cM d (upd O e (some (.box cs)))) d (some (.box ((nh ti.zu).map (C.wipe d))))=upd (upd (cM d O) d (some (.box ((nh ti.zu).map (C.wipe d))))) e (some (.box cs)):=by funext s;by_cases h1:s=d;{simp_all[upd_same,bz]};{rw[bz _ _ h1];by_cases h2:s=e;{subst h2;rw[upd_same];show (upd O s (some (.box cs)) s).bind (Ob.wipe d)=_;rw[upd_same];show some (Ob.box (cs.map (C.wipe d)))=_;rw[hcs d]};{rw[bz _ _ h2,bz _ _ h1];show (upd O e (some (.box cs)) s).bind (Ob.wipe d)=(O s).bind (Ob.wipe d);rw[bz _ _ h2]}}
       rw[heq];rw[hns] at hk';exact hk'
      ·grind[han_box]
      ·have:=pN hc;rw[hns] at this;have h2:eY d Z=Z:=this;rw[h2] at hk;exact hk
   ·exact hfl.elim
  |none=>
  obtain⟨v,O',hto,hk⟩:=eff_to (by grind) h;refine⟨v,O',⟨λZ' K' hz hk=>tM (by grind) (hto.run Z' K' hz (by grind[wipeD_eq])),λe cs hf=>by cases hf⟩,λe hel=>hto.han e λhd=>hl e hel (by rw[hns,hd];simp),?_⟩;grind[wipeD_eq,pN]
theorem mids_run (ht:TbOk P tb) {all:A6} {ρx:Env} {K:A3}:∀(l:List (Oper×A6×A5)) (Z:Env) (O:Sto),(∀p∈l,(effOp p.1.op=true\/(ep p.1.op).isSome=true)\/indep2 p.1.op=true)->(∀p∈l,∀d∈p.2.2,∀t,(Z t).wipe d=Z t) ->
  l.Pairwise (λp q=>∀d∈q.2.2,d ∉ p.2.2)->(∀p∈l,∀d∈flN fl,d ∉ p.2.2)->midsP P cx tb all ds fl ρx l Z O K -> ∃(S:Nat->Sto) (W:Nat->V) (R:Nat->Env),S 0=O/\R 0=Z/\(∀(j:Nat) (p:Oper×A6×A5),l[j]?=some p->effS P cx tb fl all p.1 p.2.2 (R j) (S j) (W j) (S (j+1))/\(∀(i:Nat) (q:Oper×A6×A5),j<i->l[i]?=some q->∀e∈q.2.2,(W j).wipe e=W j)/\(∀e∈flN fl,(W j).wipe e=W j)/\R (j+1)=cK (R j) p.1.dst (W j) /\ ∀u∈p.2.1,gst all u.guard ρx=some false\/∃d v0,u.dst=some d/\tN P tb (S (j+1)) u ρx v0/\v0.wipes ds=ρx d)/\K (R l.length) (S l.length)
 |[],Z,O,_,_,_,_,h=>⟨λ_=>O,λ_=>.tup [],λ_=>Z,rfl,rfl,λj p hp=>by simp at hp,h⟩|(o,us,ns)::l,Z,O,he,hc,hp,hf,h=>by
  rw[midsP] at h;have hpc:=List.pairwise_cons.1 hp;obtain⟨v,O',hto,hhan,hk⟩:∃v O',effS P cx tb fl all o ns Z O v O'/\(∀e∈l.flatMap (·.2.2)++flN fl,v.wipe e=v)/\rchk P tb all ds ρx O' us (midsP P cx tb all ds fl ρx l (cK Z o.dst v) O' K):=by rcases aguard_gst h with⟨hg,h⟩|⟨hg,h⟩;{obtain⟨v,O',hto,h1,hk⟩:=estep_to (he (o,us,ns) (by simp)) (hc (o,us,ns) (by simp)) (λe hel=>by rcases List.mem_append.1 hel with hel|hel;{obtain⟨q,hq,heq⟩:=List.mem_flatMap.1 hel;grind};simp_all) h;exact⟨v,O',.inl ⟨hg,hto⟩,h1,hk⟩};{exact⟨.tup [],O,.inr ⟨hg,rfl,rfl⟩,λ_ _=>rfl,h⟩}
  obtain⟨h1,h2⟩:=rchk_all ht us hk;obtain⟨S,W,R,hS,hR,hall,hK⟩:=mids_run ht l (cK Z o.dst v) O' (λp hp=>he p (by simp[hp])) (λp hpl d hd t=>by
   cases hod:o.dst with
   |none=>exact hc p (by simp[hpl]) d hd t|some e=>
    by_cases hte:t=e;{subst hte;show V.wipe d (upd Z t v t)=upd Z t v t;grind[upd_same]}
    ·show V.wipe d (upd Z e v t)=upd Z e v t;grind[bz]) hpc.2 (λp hp=>hf p (by simp[hp])) h2
  refine⟨λk=>match k with|0=>O|k+1=>S k,λk=>match k with|0=>v|k+1=>W k,λk=>match k with|0=>Z|k+1=>R k,rfl,rfl,λj p hj=>?_,hK⟩;cases j with
  |zero=>grind|succ j=>
   obtain⟨a1,a2,a3⟩:=hall j p (by simpa using hj);refine⟨a1,λi q hi hq e heq=>?_,a3⟩;cases i with
   |zero=>omega|succ i=>grind
def YG (P:Program) (cx:Cx) (tb:Tb) (ops:Array Oper) (ds:A5) (las:Ag) (fl:Flt) (x y nT:Nat) (uss:List A5) (S:Nat->Sto) (W:Nat->V) (R:Nat->Env) (i:Nat) (o:Oper) (Z:Env) (v:V):Prop :=(i<x/\∀k,k<=y-x->(∀j,k=j+1->∀us,uss[j]?=some us->us.contains i=true)->∃v0,YA P tb ops (S k) o Z v0/\v=v0.wipes ds) \/ (∃j,i=x+j/\i<y/\v=W j/\gst ops.toList o.guard Z=gst ops.toList o.guard (R j)/\∀z∈o.op.operands,oev Z z=oev (R j) z) \/ (y<=i/\i<nT/\mA fl o.dst=false/\∃la,las[i-y]?=some la/\∃v0,YA P tb ops (S (y-x)) o Z v0/\v=v0.wipes (lw ds fl la)) \/ (y<=i/\i<nT/\mA fl o.dst=true/\v=flV fl/\fltC P cx tb fl o Z)
variable {S:Nat->Sto} {W:Nat->V} {R:Nat->Env}
theorem fltC_congr (h:∀z∈o.op.operands,oev Z' z=oev Z z):fltC P cx tb fl o Z'↔fltC P cx tb fl o Z:=by unfold fltC;simp_all
theorem looks_YG:Looks (YG P cx tb ops ds las fl x y nT uss S W R) ops:=by intro i o Z z v u h;unfold YG;have hop:=oev_puts (Z:=Z) (v:=v) h;refine or_congr (and_congr_right λ_=>forall_congr' λk=>forall_congr' λ_=>forall_congr' λ_=>exists_congr λv0=>and_congr_left λ_=>YA_put h) (or_congr ?_ ?_);{simp_all[gst_put]};{exact or_congr (and_congr_right λ_=>and_congr_right λ_=>and_congr_right λ_=>exists_congr λla=>and_congr_right λ_=>exists_congr λv0=>and_congr_left λ_=>YA_put h) (and_congr_right λ_=>and_congr_right λ_=>and_congr_right λ_=>and_congr_right λ_=>fltC_congr hop)}
theorem YA_indep {v:V} (hi:indep o.op=true) (h:YA P tb ops O o Z v):YA P tb ops O' o Z v:=by
 have h1:ep o.op=none:=by cases ho:o.op<;>rw[ho] at hi<;>first|rfl|cases hi
 have h2:qev tb Z O o.op=qev tb Z O' o.op:=by cases ho:o.op<;>rw[ho] at hi<;>first|rfl|cases hi
 rcases h with⟨hg,hv⟩|h;{refine .inl ⟨hg,?_⟩;simp_all[tN]};{exact .inr h}
theorem mw (hB:mb ops x y nT A uss nss las fl=true) {j:Nat} (hj:j<y-x):effB ops x uss j=true:=by simp_all[mb]
theorem midsB_late (hB:mb ops x y nT A uss nss las fl=true) {i:Nat} (hy:y<=i) (hi:i<nT) {o:Oper} (ho:ops[i]?=some o) (hf:mA fl o.dst=false) {la:Bool} (hla:las[i-y]?=some la):(la=false/\indep o.op=true)\/∀j,j<y-x->x+j∈clos ops ops.size (ku ops i):=by simp only[mb,Bool.and_eq_true] at hB;have:=List.all_eq_true.1 hB.1.1.1.1.2 i (List.mem_range.2 hi);rw[ho] at this;simp only[Option.bind_some,hf,Bool.or_false,Bool.or_eq_true,decide_eq_true_eq] at this;have:=this.resolve_left (by omega);simp_all[lateB]
theorem midsB_las (hB:mb ops x y nT A uss nss las fl=true):las.length=nT-y:=by simp_all[mb]
theorem midsB_flK (hB:mb ops x y nT A uss nss las fl=true) {e:Nat} {cs:Ob} (hf:fl=some (e,cs)):flK x y cs=true:=by simp_all[mb,flB]
theorem midsB_flA (hB:mb ops x y nT A uss nss las fl=true) {e:Nat} {cs:Ob} (hf:fl=some (e,cs)):y<=A/\A<nT/\∃o,ops[A]?=some o/\o.dst=some e/\o.guard=none:=by simp only[mb,Bool.and_eq_true] at hB;have:=hB.2;unfold flB at this;rw[hf] at this;simp only[Bool.and_eq_true,decide_eq_true_eq] at this;obtain⟨_,⟨⟨h1,h2⟩,h3⟩,_⟩:=this;refine⟨h1,h2,?_⟩;split at h3;{simp_all};{cases h3}
theorem midsB_fl1 (hB:mb ops x y nT A uss nss las fl=true) {e:Nat} {cs:Ob} (hf:fl=some (e,cs)) {i:Nat} (hi:i<nT) {o:Oper} (ho:ops[i]?=some o):e ∉ o.looksAt ops/\(o.dst=some e->i=A):=by simp only[mb,Bool.and_eq_true] at hB;have:=hB.2;unfold flB at this;grind
theorem midsB_fl (hB:mb ops x y nT A uss nss las fl=true) {e:Nat} {cs:Ob} (hf:fl=some (e,cs)) {i:Nat} (hi:i<nT) {o:Oper} (ho:ops[i]?=some o):e ∉ o.looksAt ops/\(o.dst=some e->y<=i/\o.guard=none):=by grind[midsB_fl1,midsB_flA]
theorem nss_later:∀{nss:List A5} {l:A5},(nss.flatten++l).Nodup->(∀(i j:Nat) (a b:A5),i<j->nss[i]?=some a->nss[j]?=some b->∀d∈b,d ∉ a)/\∀(i:Nat) (a:A5),nss[i]?=some a->∀d∈l,d ∉ a
 |[],_,_=>⟨λi j a b _ h=>by simp at h,λi a h=>by simp at h⟩|n::nss,l,h=>by
  rw[List.flatten_cons,List.append_assoc] at h;obtain⟨_,h2,h3⟩:=List.nodup_append.1 h;obtain⟨k1,k2⟩:=nss_later h2;refine⟨λi j a b hij ha hb d hd hda=>?_,λi a ha d hd hda=>?_⟩
  ·cases j with
   |zero=>omega|succ j=>
    cases i with
    |zero=>
     cases ha;exact h3 d hda d (List.mem_append_left _ (List.mem_flatten.2 ⟨b,List.mem_of_getElem? (by simpa using hb),hd⟩)) rfl
    |succ i=>grind
  grind
theorem nE {j:Nat} (h:effB ops x uss j=true):∃o us,ops[x+j]?=some o/\uss[j]?=some us/\((effOp o.op=true\/(ep o.op).isSome=true)\/indep2 o.op=true) /\ (∀i,i<x->us.contains i=true\/i∈clos ops ops.size (ku ops (x+j)))/\(∀i,i<j->x+i∈clos ops ops.size (ku ops (x+j)))/\usB ops x us=true:=by unfold effB at h;split at h;{simp_all};{cases h}
theorem pred_listed {listed:Array Bool} (hcl:Closed ops listed) {i:Nat} {oi:Oper} (ho:ops[i]?=some oi) (hl:listed.getD i false=true) {j:Nat} (hj:j∈clos ops ops.size (ku ops i)):listed.getD j false=true :=
 s3 hcl ops.size (ku ops i) (λk hk=>by
  unfold ku at hk;rw[ho] at hk;obtain⟨e,he,hek⟩:=List.mem_filterMap.1 hk;split at hek;{rename_i hb;cases hek;exact hcl i oi ho hl e (by simpa using he) hb}
  ·cases hek) j hj
theorem pred_ready {listed:Array Bool} (hcl:Closed ops listed) {i:Nat} (hr:i∈Region.ready .any ops listed) {j:Nat} (hj:j∈clos ops ops.size (ku ops i)):listed.getD j false=true:=by obtain⟨_,oi,ho,hall⟩:=mem_ready.1 hr;grind[s3,ku]
theorem Sim.wipesPut {E:A7} {a:Act} {w:World} {d:Ac} {v:V} (ds:A5) (h:Sim cx E (cK Z d v) O a w):Sim cx E (cK Z d (v.wipes ds)) O a w:=by
 cases d with
 |none=>exact h|some d=>refine⟨h.core,λt=>?_,h.defers,h.room⟩;have:=h.slots t;by_cases htd:t=d;{simp_all[cK,upd_same,vsim_wipes]};simp_all[cK,bz]
theorem isFlt_get {d:Ac} (h:mA fl d=true):∃e cs,fl=some (e,cs)/\d=some e:=by
 cases fl with
 |none=>(cases d<;>cases h)|some p=>
  cases d with
  |none=>(cases h)|some d=>refine⟨p.1,p.2,rfl,?_⟩;simp only[mA,beq_iff_eq] at h;rw[h]
theorem isFlt_mk {e:Nat} {cs:Ob} {d:Ac} (hf:fl=some (e,cs)) (hd:d=some e):mA fl d=true:=by simp_all[mA]
def stB (fl:Flt) (b:Bool) (O:Sto):Sto:=bif b then flS fl O else O
theorem constC_wipe (e:Nat) (v:Value):(ug v).wipe e=ug v:=by unfold ug;split<;>rfl
theorem constV_wipe (e:Nat) (v:Value):V.wipe e (constV v)=constV v:=by unfold constV;split;{simp only[V.wipe,U.wipe,List.map_map,Function.comp_def,constC_wipe]};{simp only[V.wipe,U.wipe,constC_wipe]}
theorem oev_wipe {e:Nat} {o:Oper} (hl:e ∉ o.looksAt ops) (hc:∀t,t≠e->(Z t).wipe e=Z t):∀z∈o.op.operands,(oev Z z).wipe e=oev Z z:=by
 intro z hz;cases z with
 |tmp t=>refine hc t λhe=>hl ?_;subst he;exact List.mem_append_left _ (List.mem_filterMap.2 ⟨.tmp t,by simpa using hz,rfl⟩)|const v=>exact constV_wipe e v|func f=>rfl|global g=>rfl
theorem YA_flt {v0:V} {b:Bool} (hcl:∀e cs,fl=some (e,cs)->clean e O) (hl:∀e cs,fl=some (e,cs)->e ∉ o.looksAt ops) (hc:∀e cs,fl=some (e,cs)->∀t,t≠e->(Z t).wipe e=Z t) (h:YA P tb ops O o Z v0):YA P tb ops (stB fl b O) o Z v0:=by cases b;{exact h};{show YA P tb ops (flS fl O) o Z v0;unfold flS;split;{rename_i e cs;rcases h with⟨hg,hv⟩|h;{exact .inl ⟨hg,qval_frame (hcl e cs rfl) (oev_wipe (hl e cs rfl) (hc e cs rfl)) hv⟩};{exact .inr h}};{exact h}}
theorem clean_wipeS {e:Nat} {O:Sto} (h:clean e O):cM e O=O:=by
 funext t;show (O t).bind (Ob.wipe e)=O t;cases hs:O t with
 |none=>rfl|some o=>exact h t o hs
theorem oM (ht:TbOk P tb) (hd:kl cx.n ops.toList=true) (hB:mb ops x y nT A uss nss las fl=true) (hds:ds=nss.flatten++flN fl) (hft:fltT tb fl ops.toList) (hE:∀(j:Nat) (o:Oper) (ns:A5),x+j<y->ops[x+j]?=some o->nss[j]?=some ns->effS P cx tb fl ops.toList o ns (R j) (S j) (W j) (S (j+1))/\(∀(i:Nat) (ns':A5),j<i->nss[i]?=some ns'->∀e∈ns',(W j).wipe e=W j)/\∀e∈flN fl,(W j).wipe e=W j) (hcl0:∀e cs,fl=some (e,cs)->∀k,k<=y-x->clean e (S k)) {T:Nat->Env->Prop} {Q:Exit->Act->World->Prop} (hT:∀fuel listed E Z a w i,Closed ops listed->(∀j,nT<=j->j<ops.size->listed.getD j true=false)->i∈Region.ready .any ops listed->¬ i<nT->Sim cx E Z (flS fl (S (y-x))) a w->T fuel Z->wpOp P ops Q i (wpAny P .any ops Q fuel (listed.setIfInBounds i true)) a w) :∀(fuel:Nat) (listed:Array Bool) (E:A7) (Z:Env) (a:Act) (w:World) (k:Nat) (b:Bool),k<=y-x->(∀j,j<k->listed.getD (x+j) false=true)->(∀j,k<=j->x+j<y->listed.getD (x+j) true=false)->Closed ops listed -> (∀j,nT<=j->j<ops.size->listed.getD j true=false)->(∀(j:Nat) (ns:A5),k<=j->nss[j]?=some ns->∀d∈ns,∀t,(Z t).wipe d=Z t) -> (∀(A:Nat) (o:Oper),A<nT->ops[A]?=some o->mA fl o.dst=true->listed.getD A false=b/\listed.getD A true=b)->(fl=none->b=false)->(∀e cs,fl=some (e,cs)->∀t,t≠e\/b=false->(Z t).wipe e=Z t)->Sim cx E Z (stB fl b (S k)) a w ->
   wpE (YG P cx tb ops ds las fl x y nT uss S W R) ops nT T (λ_=>False) fuel listed Z->wpAny P .any ops Q fuel listed a w
 |0,listed,E,Z,a,w,k,b,_,_,_,_,_,_,_,_,_,hs,h=>h.2.elim|fuel+1,listed,E,Z,a,w,k,b,hk,hL,hN,hcl,hU,hC,hA,hfb,hCe,hs,h=>by
  have hB':=hB;simp only[mb,Bool.and_eq_true,decide_eq_true_eq] at hB';obtain⟨⟨⟨⟨⟨⟨⟨⟨⟨⟨hxy,hyn⟩,hnsz⟩,hch⟩,hul⟩,_⟩,_⟩,hnl⟩,_⟩,hnd⟩,_⟩:=hB';obtain⟨hlat,hlatf⟩:=nss_later hnd;refine⟨λh0=>(h.1 h0).elim,λi hi=>?_⟩;have h1:=h.2 i hi;split at h1
  ·rename_i hin;obtain⟨hiun,o,ho,_⟩:=mem_ready.1 hi;have hdo:=nu hd (show ops.toList[i]?=some o by simpa using ho);have hU':∀j,nT<=j->j<ops.size->(listed.setIfInBounds i true).getD j true=false:=λj h1 h2=>by rw[getD_set_ne true (by omega)];exact hU j h1 h2
   have hisz:i<listed.size:=by rcases Nat.lt_or_ge i listed.size with h'|h';{exact h'};{simp[Array.getElem?_eq_none h'] at hiun}
   have hlk:∀e cs,fl=some (e,cs)->e ∉ o.looksAt ops:=λe cs hf=>(midsB_fl hB hf hin ho).1;have hCe':∀e cs,fl=some (e,cs)->∀t,t≠e->(Z t).wipe e=Z t:=λe cs hf t ht'=>hCe e cs hf t (.inl ht');have hAset:∀{o':Oper} {b':Bool},mA fl o'.dst=false->ops[i]?=some o'->(∀(A:Nat) (o:Oper),A<nT->ops[A]?=some o->mA fl o.dst=true->listed.getD A false=b'/\listed.getD A true=b') -> ∀(A:Nat) (o:Oper),A<nT->ops[A]?=some o->mA fl o.dst=true->(listed.setIfInBounds i true).getD A false=b'/\(listed.setIfInBounds i true).getD A true=b':=λ{o'} {b'} hn ho' hall A oA hA hoA hfA=>by
    have hne:A≠i:=λe=>by subst e;rw[ho'] at hoA;cases hoA;rw[hn] at hfA;cases hfA
    rw[getD_set_ne false (by omega),getD_set_ne true (by omega)];exact hall A oA hA hoA hfA
   unfold QOpE at h1;unfold wpOp;simp only[ho] at h1⊢;obtain⟨v,hy,hkk⟩:=h1;have hdse:∀e cs,fl=some (e,cs)->e∈ds:=λe cs hf=>by rw[hds,hf];exact List.mem_append_right _ (by simp[flN])
   have hy2:(∃v0 wl,(i<x\/(y<=i/\mA fl o.dst=false))/\YA P tb ops (S k) o Z v0/\v=v0.wipes wl/\(∀e cs,fl=some (e,cs)->e∈wl)/\(wl=ds\/k=y-x))\/(∃j,i=x+j/\i<y/\v=W j/\gst ops.toList o.guard Z=gst ops.toList o.guard (R j)/\∀z∈o.op.operands,oev Z z=oev (R j) z) \/ (y<=i/\mA fl o.dst=true/\v=flV fl/\fltC P cx tb fl o Z):=by
    rcases hy with⟨hix,hall⟩|h|⟨hyi,_,hnf,la,hla,v0,hya,hv⟩|⟨hyi,_,hf,hv,hfc⟩
    ·obtain⟨v0,hya,hv⟩:=hall k hk λj hkj us hus=>by
      have hj:j<y-x:=by omega
      obtain⟨o',us',ho',hus',_,h3,_⟩:=nE (mw hB hj);rw[hus] at hus';cases hus';rcases h3 i hix with h3|h3;{exact h3};{have:=getD_both (pred_listed hcl ho' (hL j (by omega)) h3);rw[hiun] at this;cases this}
     exact .inl ⟨v0,ds,.inl hix,hya,hv,hdse,.inl rfl⟩
    ·exact .inr (.inl h)
    ·have hlwe:∀e cs,fl=some (e,cs)->e∈lw ds fl la:=λe cs hf=>by cases la;{exact hdse e cs hf};{rw[hf];simp[lw,flN]}
     rcases midsB_late hB hyi hin ho hnf hla with⟨hl0,hind⟩|hall;{subst hl0;exact .inl ⟨v0,ds,.inr ⟨hyi,hnf⟩,YA_indep hind hya,hv,hdse,.inl rfl⟩}
     ·have:k=y-x:=by rcases Nat.lt_or_ge k (y-x)with hlt|hge;{have:=getD_both (pred_ready hcl hi (hall k hlt));rw[hN k (Nat.le_refl _) (by omega)] at this;cases this};{omega}
      exact .inl ⟨v0,_,.inr ⟨hyi,hnf⟩,by rw[this];exact hya,hv,hlwe,.inr this⟩
    ·exact .inr (.inr ⟨hyi,hf,hv,hfc⟩)
   rcases hy2 with⟨v0,wl,hpos,hya,rfl,hwle,hwlk⟩|⟨j,hij,hiy,rfl,hgag,hag⟩|⟨hyi,hflt,rfl,hfc⟩
   ·-- a quiet operation
    have hnf:mA fl o.dst=false:=by rcases hpos with hix|h;{cases hf:mA fl o.dst;{rfl};{obtain⟨e,cs,hf1,hd'⟩:=isFlt_get hf;have:=(midsB_fl hB hf1 hin ho).2 hd';omega}};{exact h.2}
    have hya:=YA_flt (b:=b) (λe cs hf=>hcl0 e cs hf k hk) hlk hCe' hya;have hL':∀j,j<k->(listed.setIfInBounds i true).getD (x+j) false=true:=λj hj=>by by_cases hji:x+j=i;{subst hji;simp[hisz]};{rw[getD_set_ne false (by omega)];exact hL j hj}
    have hN':∀j,k<=j->x+j<y->(listed.setIfInBounds i true).getD (x+j) true=false:=λj h1 h2=>by rw[getD_set_ne true (by rcases hpos with h|h<;>omega)];exact hN j h1 h2
    have hput:∀{d:Nat} {v:V},v.wipe d=v->(∀t,(Z t).wipe d=Z t)->∀t,(cK Z o.dst v t).wipe d=cK Z o.dst v t:=λ{d} {v} hv hc t=>(show Clean [d] (cK Z o.dst v)from Clean.put (λe he t=>by simp only[List.mem_singleton] at he;subst he;exact hc t) (λe he=>by simp only[List.mem_singleton] at he;subst he;exact hv)) d (by simp) t;have hwd:∀{d:Nat} (v:V),d∈wl->(v.wipes wl).wipe d=v.wipes wl:=λv hd=>lZ v hd;have hC':∀(v:V) (j:Nat) (ns:A5),k<=j->nss[j]?=some ns->∀d∈ns,∀t,(cK Z o.dst (v.wipes wl) t).wipe d=cK Z o.dst (v.wipes wl) t:=λv j ns h1 h2 d hd=>by rcases hwlk with hwlk|hwlk;{exact hput (hwd v (by rw[hwlk,hds];exact List.mem_append_left _ (List.mem_flatten.2 ⟨ns,List.mem_of_getElem? h2,hd⟩))) (hC j ns h1 h2 d hd)};{have:=(List.getElem?_eq_some_iff.1 h2).1;omega}
    have hCe2:∀(v:V) e cs,fl=some (e,cs)->∀t,t≠e\/b=false->(cK Z o.dst (v.wipes wl) t).wipe e=cK Z o.dst (v.wipes wl) t:=λv e cs hf t hte=>by
     have hde:e∈wl:=hwle e cs hf;cases hod:o.dst with
     |none=>exact hCe e cs hf t hte|some d=>by_cases htd:t=d;{subst htd;show V.wipe e (upd Z t _ t)=upd Z t _ t;rw[upd_same];exact hwd v hde};{show V.wipe e (upd Z d _ t)=upd Z d _ t;rw[bz _ _ htd];exact hCe e cs hf t hte}
    rcases hya with⟨hg,hv⟩|⟨hg,rfl⟩;{rw[if_pos (mq hs.slots hg)];refine .inl (Step.of_quiet (K:=λρ2 σ2=>ρ2=cK Z o.dst v0/\σ2=stB fl b (S k)) (quiet_of_qval ht hv) (λx hx=>(hdo x hx).1) (λv' hv'=>by subst hv';exact⟨rfl,rfl⟩) E a w hs _ _ λE' ρ2 σ2 a' w' hs' hk'=>?_);rw[hk'.1,hk'.2] at hs';exact oM ht hd hB hds hft hE hcl0 hT fuel _ E' _ a' w' k b hk hL' hN' (gZ hcl hi) hU' (hC' v0) (hAset hnf ho hA) hfb (hCe2 v0) (hs'.wipesPut wl) hkk};{rw[if_neg (by rw[mq hs.slots hg];simp)];have h5:=hC' (.tup []);have h6:=hCe2 (.tup []);rw[wipes_tup] at hkk h5 h6;exact oM ht hd hB hds hft hE hcl0 hT fuel _ E _ _ w k b hk hL' hN' (gZ hcl hi) hU' h5 (hAset hnf ho hA) hfb h6 (hs.put (λx hx=>(hdo x hx).1) oh) hkk}
   ·-- an effect
    subst hij;have hjn:j<y-x:=by omega
    obtain⟨ns,hns⟩:∃ns,nss[j]?=some ns:=⟨nss[j]'(by omega),by simp⟩
    obtain⟨o',us,ho',hus,heff,_,hchain,_⟩:=nE (mw hB hjn);rw[ho] at ho';cases ho';have hjk:j=k:=by rcases Nat.lt_trichotomy j k with hlt|he|hgt;{have:=getD_both (hL j hlt);rw[hiun] at this;cases this};{exact he};{have:=getD_both (pred_ready hcl hi (hchain k hgt));rw[hN k (Nat.le_refl _) (by omega)] at this;cases this}
    subst hjk;have hnf:mA fl o.dst=false:=by cases hf:mA fl o.dst;{rfl};{obtain⟨e,cs,hf1,hd'⟩:=isFlt_get hf;have:=(midsB_fl hB hf1 hin ho).2 hd';omega}
    have hw:iy ns Z=Z:=pN λd hdn t=>hC j ns (Nat.le_refl _) hns d hdn t;obtain⟨hto,hhan,hhanf⟩:=hE j o ns (by omega) ho hns;have hL':∀j',j'<j+1->(listed.setIfInBounds (x+j) true).getD (x+j') false=true:=λj' hj'=>by by_cases hjj:j'=j;{subst hjj;simp[hisz]};{rw[getD_set_ne false (by omega)];exact hL j' (by omega)}
    have hN':∀j',j+1<=j'->x+j'<y->(listed.setIfInBounds (x+j) true).getD (x+j') true=false:=λj' h1 h2=>by rw[getD_set_ne true (by omega)];exact hN j' (by omega) h2
    have hC':∀(v:V),(∀(i:Nat) (ns':A5),j<i->nss[i]?=some ns'->∀e∈ns',v.wipe e=v)->∀(j':Nat) (ns':A5),j+1<=j'->nss[j']?=some ns'->∀d∈ns',∀t,(cK Z o.dst v t).wipe d=cK Z o.dst v t:=λv hv j' ns' h1 h2 d hd=>(show Clean [d] (cK Z o.dst v)from Clean.put (λe he t=>by simp only[List.mem_singleton] at he;subst he;exact hC j' ns' (by omega) h2 e hd t) (λe he=>by simp only[List.mem_singleton] at he;subst he;exact hv j' ns' (by omega) h2 e hd)) d (by simp);have hCe2:∀(v:V),(∀e∈flN fl,v.wipe e=v)->∀e cs,fl=some (e,cs)->∀t,t≠e\/b=false->(cK Z o.dst v t).wipe e=cK Z o.dst v t:=λv hv e cs hf t hte=>by
     cases hod:o.dst with
     |none=>exact hCe e cs hf t hte|some d=>by_cases htd:t=d;{subst htd;show V.wipe e (upd Z t _ t)=upd Z t _ t;rw[upd_same];exact hv e (by rw[hf];simp[flN])};{show V.wipe e (upd Z d _ t)=upd Z d _ t;rw[bz _ _ htd];exact hCe e cs hf t hte}
    rcases hto with⟨hg,hto⟩|⟨hg,hWj,hSj⟩
    ·rw[if_pos (mq hs.slots (hgag.trans hg))];have hstep:p7 P cx tb o Z (stB fl b (S j)) (λρ2 σ2=>ρ2=cK Z o.dst (W j)/\σ2=stB fl b (S (j+1))):=by
      cases b;{exact hto.1 Z _ hag ⟨by rw[hw],rfl⟩}
      ·cases hf:fl with
       |none=>exact absurd (hfb hf) (by simp)|some p=>
        obtain⟨e,ob⟩:=p;have hK:=midsB_flK hB hf;cases ob with
        |box cs=>exact(hto.2 e cs hf).1 Z _ hag ⟨by rw[hw],rfl⟩|row sz et rows=>simp only[flK,beq_iff_eq] at hK;omega|_=>simp[flK] at hK
     refine .inl (p9 ht hdo hstep E a w hs _ _ λE' ρ2 σ2 a' w' hs' hk'=>?_);rw[hk'.1,hk'.2] at hs';exact oM ht hd hB hds hft hE hcl0 hT fuel _ E' _ a' w' (j+1) b (by omega) hL' hN' (gZ hcl hi) hU' (hC' _ hhan) (hAset hnf ho hA) hfb (hCe2 _ hhanf) hs' hkk
    ·rw[if_neg (by rw[mq hs.slots (hgag.trans hg)];simp)];have h5:=hC' _ hhan;have h6:=hCe2 _ hhanf;rw[hWj] at hkk h5 h6;exact oM ht hd hB hds hft hE hcl0 hT fuel _ E _ _ w (j+1) b (by omega) hL' hN' (gZ hcl hi) hU' h5 (hAset hnf ho hA) hfb h6 (by rw[hSj];exact hs.put (λx hx=>(hdo x hx).1) oh) hkk
   ·-- the box
    obtain⟨e,cs,hf,hod⟩:=isFlt_get hflt;have hbf:b=false:=by have:=(hA i o hin ho hflt).1;rw[<- this];simpa [Array.getD_eq_getD_getElem?,hisz] using hiun
    subst hbf;obtain⟨hnl',hgn⟩:=midsB_fl hB hf hin ho;obtain⟨hyi',hgn⟩:=hgn hod;have hclk:=hcl0 e cs hf k hk;have hwE:eY e Z=Z:=by funext t;exact hCe e cs hf t (.inr rfl)
    have hKf:=midsB_flK hB hf;have hstep:p7 P cx tb o Z (stB fl false (S k)) (λρ2 σ2=>ρ2=cK Z o.dst (flV fl)/\σ2=stB fl true (S k)):=by
     cases cs with
     |box cs=>
      obtain⟨t,ti,hop,hty,hvc,hnt,hcw⟩:=hft e cs hf o (List.mem_of_getElem? (i:=i) (by simpa using ho)) hod;refine tM (by rw[hop];rfl) ?_;unfold jr;simp only[hop,hod,hty];unfold aAllocBox;simp only[hvc];refine⟨hnt,?_,?_⟩;{rw[hwE,hf];rfl};{rw[hcw];show upd (cM e (S k)) e _=flS fl (S k);rw[clean_wipeS hclk,hf];rfl}
     |row sz et rows=>rw[hf] at hfc;refine hfc Z (S k) _ (λ_ _=>rfl) hclk ⟨?_,?_⟩;{rw[hwE,hf];rfl};{rw[hf];rfl}|_=>simp[flK] at hKf
    have hsp:Region.wanted o (yielded ops a.tmps)=true:=mq hs.slots (by unfold gst;rw[hgn]);rw[if_pos hsp];refine .inl (p9 ht hdo hstep E a w hs _ _ λE' ρ2 σ2 a' w' hs' hk'=>?_);rw[hk'.1,hk'.2] at hs';have hL':∀j,j<k->(listed.setIfInBounds i true).getD (x+j) false=true:=λj hj=>by by_cases hji:x+j=i;{subst hji;simp[hisz]};{rw[getD_set_ne false (by omega)];exact hL j hj}
    have hN':∀j,k<=j->x+j<y->(listed.setIfInBounds i true).getD (x+j) true=false:=λj h1 h2=>by rw[getD_set_ne true (by omega)];exact hN j h1 h2
    refine oM ht hd hB hds hft hE hcl0 hT fuel _ E' _ a' w' k true hk hL' hN' (gZ hcl hi) hU' (λj ns h1 h2 d hdn t=>?_) (λA oA hAn hoA hfA=>?_) (λh=>by rw[hf] at h;cases h) (λe' cs' hf' t hte=>?_) hs' hkk;{rw[hod];by_cases hte:t=e;{subst hte;show V.wipe d (upd Z t _ t)=upd Z t _ t;rw[upd_same,hf];have hne2:d≠t:=λh=>hlatf j ns h2 d (by rw[hf];simp only[flN,List.mem_singleton];exact h) hdn;cases cs with|box cs=>exact han_box d λh=>hne2 (Option.some.inj h).symm|row sz et rows=>simp[flV,V.wipe,U.wipe,C.wipe,Ne.symm hne2]|_=>simp[flK] at hKf};{show V.wipe d (upd Z e _ t)=upd Z e _ t;rw[bz _ _ hte];exact hC j ns h1 h2 d hdn t}}
    ·by_cases hAi:A=i;{subst hAi;simp[hisz]}
     ·exfalso;have h7:=hA A oA hAn hoA hfA;have:oA.dst=some e:=by obtain⟨e',cs',he',hd'⟩:=isFlt_get hfA;rw[hf] at he';cases he';exact hd'
      exact hAi (((midsB_fl1 hB hf hAn hoA).2 this).trans ((midsB_fl1 hB hf hin ho).2 hod).symm)
    ·rw[hf] at hf';cases hf';have hne:=hte.resolve_right (by simp);rw[hod];show V.wipe e (upd Z e _ t)=upd Z e _ t;rw[bz _ _ hne];exact hCe e cs hf t (.inl hne)
  ·rename_i hin;have hkn:k=y-x:=by rcases Nat.lt_or_ge k (y-x)with hlt|hge;{have:=getD_both (mt hch hcl hin hi (x+k) (by omega));rw[hN k (Nat.le_refl _) (by omega)] at this;cases this};{omega}
   subst hkn;have hst:stB fl b (S (y-x))=flS fl (S (y-x)):=by cases b;{cases hf:fl with|none=>rfl|some p=>exfalso;obtain⟨_,hAn,oA,hoA,hfA,_⟩:=midsB_flA hB hf;have h7:=(hA _ oA hAn hoA (isFlt_mk hf hfA)).1;rw[mt hch hcl hin hi _ (by omega)] at h7;cases h7};{rfl}
   rw[hst] at hs;exact hT fuel listed E Z a w i hcl hU hi hin hs h1
theorem qval_congr {v:V} (h:∀z∈o.op.operands,oev Z z=oev Z' z) (hv:tN P tb O o Z v):tN P tb O o Z' v:=by unfold tN at hv⊢;split;{rename_i c hc;rw[hc] at hv;simp only at hv;rw[<- nP λy hy=>h y (by rw[(lX hc).1];exact hy)];exact hv};{rename_i hc;rw[hc] at hv;simp only at hv;rw[<- qev_congr h];exact hv}
theorem usB_get {us:A5} (hB:usB ops x us=true) {j:Nat} (hj:us.contains j=true):j<x/\∃o d,ops[j]?=some o/\o.dst=some d/\d ∉ o.looksAt ops /\ ∀o'∈(ops.toList.take x).drop (j+1),o'.dst≠some d/\∀t,o'.dst=some t->t ∉ o.looksAt ops:=by have:=List.all_eq_true.1 hB j (by simpa using hj);simp only[Bool.and_eq_true,decide_eq_true_eq] at this;obtain⟨h1,h2⟩:=this;refine⟨h1,?_⟩;split at h2;{rename_i o ho;have h5:=h2;split at h5;{rename_i d hd;simp only[Bool.and_eq_true] at h5;refine⟨o,d,ho,hd,by simpa using h5.1,λo' ho'=>?_⟩;have h6:=List.all_eq_true.1 h5.2 o' ho';split at h6;{rename_i d' hd';simp only[Bool.and_eq_true] at h6;refine⟨λe=>?_,λt ht=>?_⟩;{rw[hd'] at e;cases e;simp at h6};{rw[hd'] at ht;cases ht;simpa using h6.2}};{rename_i hd';exact⟨by rw[hd'];simp,λt ht=>by rw[hd'] at ht;cases ht⟩}};{cases h5}};{cases h2}
theorem yrun_pre {ρx:Env} (hul:uss.length=y-x) (hus:∀(j:Nat) (us:A5),uss[j]?=some us->usB ops x us=true) (hS:S 0=O) (hre:∀(j:Nat) (us:A5),uss[j]?=some us->∀i,us.contains i=true->∀o,ops[i]?=some o->gst ops.toList o.guard ρx=some false\/∃d v0,o.dst=some d/\tN P tb (S (j+1)) o ρx v0/\v0.wipes ds=ρx d) :∀(l:A6) (k:Nat) (Z:Env),k+l.length=x->(∀j,j<l.length->l[j]?=ops[k+j]?)->pX (λ_=>YQ P tb ops ds O) k l Z (λρ2=>ρ2=ρx)->pX (YG P cx tb ops ds las fl x y nT uss S W R) k l Z (λρ2=>ρ2=ρx)
 |[],_,_,_,_,h=>h|o::l,k,Z,hk,hl,h=>by
  simp only[List.length_cons] at hk;obtain⟨v,⟨v0,hya,hv⟩,h2⟩:=h;have h0:ops[k]?=some o:=by simpa using (hl 0 (by simp)).symm
  refine⟨v,.inl ⟨by omega,λkk hkk hj=>?_⟩,yrun_pre hul hus hS hre l (k+1) _ (by omega) (λj hj=>by have:=hl (j+1) (by simp;omega);simpa [Nat.add_assoc,Nat.add_comm 1 j] using this) h2⟩;cases kk with
  |zero=>exact⟨v0,by rw[hS];exact hya,hv⟩|succ j=>
   obtain⟨us,hu⟩:∃us,uss[j]?=some us:=⟨uss[j]'(by omega),by simp⟩
   have hc:=hj j rfl us hu;obtain⟨_,o',d,ho',hd,hnd,hw⟩:=usB_get (hus j us hu) hc;rw[h0] at ho';cases ho';have hdrop:(ops.toList.take x).drop (k+1)=l:=by apply List.ext_getElem?;intro j;rw[List.getElem?_drop,List.getElem?_take];by_cases hj:j<l.length;{rw[if_pos (by omega)];have:=hl (j+1) (by simp;omega);simp only[List.getElem?_cons_succ] at this;rw[this];simp[Nat.add_assoc,Nat.add_comm 1 j]};{rw[if_neg (by omega),List.getElem?_eq_none (by omega)]}
   rw[hdrop] at hw;obtain⟨ρ1,⟨h3,hkeep⟩,_⟩:=yrun_fin _ _ _ _ (yrun_keep l (k+1) _ h2);have h3:ρ1=ρx:=h3;subst h3;have hkp:∀t∈o.looksAt ops,ρ1 t=Z t:=λt ht=>by rw[hkeep t λo' ho' e=>(hw o' ho').2 t e ht,rc λe=>?_];rw[hd] at e;cases e;exact hnd ht
   have hgg:gst ops.toList o.guard ρ1=gst ops.toList o.guard Z:=by unfold gst;split;{rfl};{rename_i j want hgd;split;{rename_i s hs;rw[hkp s (List.mem_append_right _ (by rw[hgd];simp only;simpa [gslot] using hs))]};{rfl}}
   rcases hya with⟨hg,_⟩|⟨hg,hv0⟩
   case inr=>exact⟨v0,.inr ⟨hg,hv0⟩,hv⟩
   have hre':=hre j us hu k hc o h0;rw[hgg,hg] at hre';obtain⟨d',v0',hd',hq,hv0'⟩:=hre'.resolve_left (by simp);rw[hd] at hd';cases hd';have hρd:ρ1 d=v:=by rw[hkeep d λo' ho'=>(hw o' ho').1,hd];exact upd_same _ _ _
   refine⟨v0',.inl ⟨hg,qval_congr (λz hz=>?_) hq⟩,by rw[hv0',hρd]⟩;cases z with
   |tmp t=>exact hkp t (List.mem_append_left _ (List.mem_filterMap.2 ⟨.tmp t,by simpa using hz,rfl⟩))|_=>rfl
theorem yrun_effs (hR:∀j o,x+j<y->ops[x+j]?=some o->R (j+1)=cK (R j) o.dst (W j)):∀(l:A6) (j:Nat),x+j+l.length=y->(∀i,i<l.length->l[i]?=ops[x+j+i]?) ->
  pX (YG P cx tb ops ds las fl x y nT uss S W R) (x+j) l (R j) (λρ2=>ρ2=R (y-x))
 |[],j,hj,_=>by
  have:j=y-x:=by simp at hj;omega
  subst this;exact rfl
 |o::l,j,hj,hl=>by
  simp only[List.length_cons] at hj;have h0:ops[x+j]?=some o:=by simpa using (hl 0 (by simp)).symm
  refine⟨W j,.inr (.inl ⟨j,rfl,by omega,rfl,rfl,λ_ _=>rfl⟩),?_⟩;rw[<- hR j o (by omega) h0];exact yrun_effs hR l (j+1) (by omega) λi hi=>by
   have:=hl (i+1) (by simp;omega);rw[List.getElem?_cons_succ] at this;rw[this]
   congr 1
   omega
theorem mids_get {j:Nat} {o:Oper} {us ns:A5} (hj:x+j<y) (ho:ops[x+j]?=some o) (hu:uss[j]?=some us) (hn:nss[j]?=some ns):(mids ops.toList x y uss nss)[j]?=some (o,uops ops.toList us,ns):=by unfold mids;rw[List.getElem?_zip_eq_some];refine⟨?_,?_⟩;{rw[List.getElem?_drop,List.getElem?_take,if_pos hj];simpa using ho};{rw[List.getElem?_zip_eq_some];exact⟨by simp[hu],hn⟩}
theorem pQ (ht:TbOk P tb):∀(l:A6) (lb:Ag) (k:Nat) (Z:Env),y<=k->k+l.length=nT->lb.length=l.length->(∀j,j<lb.length->lb[j]?=las[k-y+j]?)->s9 P cx tb ops.toList ds fl (S (y-x)) (l.zip lb) Z K->pX (YG P cx tb ops ds las fl x y nT uss S W R) k l Z K
 |[],_,_,_,_,_,_,_,h=>by simpa [s9,pX] using h|o::l,[],_,_,_,_,hlb,_,_=>by simp at hlb|o::l,la::lb,k,Z,hy,hk,hlb,hget,h=>by
  simp only[List.length_cons] at hk hlb;have hla:las[k-y]?=some la:=by have:=hget 0 (by simp);simpa using this.symm
  have hget':∀j,j<lb.length->lb[j]?=las[k+1-y+j]?:=λj hj=>by
   have:=hget (j+1) (by simpa using hj);rw[List.getElem?_cons_succ] at this;rw[this]
   congr 1
   omega
  rw[List.zip_cons_cons,s9] at h;split at h;{rename_i hf;exact⟨_,.inr (.inr (.inr ⟨hy,by omega,hf,rfl,fltC_of h.1⟩)),pQ ht l lb (k+1) _ (by omega) (by omega) (by omega) hget' h.2⟩};{rename_i hf;rcases YA_of_guard (k:=λv=>s9 P cx tb ops.toList ds fl (S (y-x)) (l.zip lb) (cK Z o.dst (v.wipes (lw ds fl la))) K) (k':=s9 P cx tb ops.toList ds fl (S (y-x)) (l.zip lb) (cK Z o.dst (.tup [])) K) ht (aguard_mono (λρ1 h1 e=>by subst e;exact h1) (λρ1 h1 e=>by subst e;exact h1) h)with⟨hg,v,hv,hk'⟩|⟨hg,hk'⟩;{exact⟨_,.inr (.inr (.inl ⟨hy,by omega,hf,la,hla,v,.inl ⟨hg,hv⟩,rfl⟩)),pQ ht l lb (k+1) _ (by omega) (by omega) (by omega) hget' hk'⟩};{exact⟨_,.inr (.inr (.inl ⟨hy,by omega,hf,la,hla,.tup [],.inr ⟨hg,rfl⟩,(wipes_tup _).symm⟩)),pQ ht l lb (k+1) _ (by omega) (by omega) (by omega) hget' hk'⟩}}
theorem clean_flI {e:Nat} {cs:Ob} (hf:fl=some (e,cs)):clean e (flI fl O):=by
 intro t o ho;unfold flI at ho;rw[hf] at ho;simp only at ho;by_cases hte:t=e;{subst hte;rw[upd_same] at ho;cases ho;rfl}
 ·rw[bz _ _ hte] at ho;unfold cM at ho;cases hs:O t with
  |none=>(rw[hs] at ho;cases ho)|some o'=>
   rw[hs] at ho;simp only[Option.bind_some] at ho;cases o' with
   |box cs=>
    cases ho;simp only[Ob.wipe,List.map_map,Function.comp_def,C.wipe_idem]
   |row sz e' rows=>(cases ho;rfl)|map kk es=>
    cases ho;simp only[Ob.wipe,List.map_map,Function.comp_def,U.wipe_idem]
   |iter m l la=>simp only[Ob.wipe] at ho;split at ho;{cases ho};{rename_i hm;cases ho;simp only[Ob.wipe,if_neg hm,List.map_map,Function.comp_def,U.wipe_idem];cases la<;>simp[U.wipe_idem]}|nest e' ie sz els=>cases ho;simp only[Ob.wipe,List.map_map,Function.comp_def,NE.wipe_idem]
theorem Sim.flI {E:A7} {a:Act} {w:World} (h:Sim cx E Z O a w) (fl:Flt) (hb:∀e cs,fl=some (e,cs)->e<inBase):∃E',Sim cx E' (iy (flN fl) Z) (flI fl O) a w:=by
 cases fl with
 |none=>exact⟨E,h⟩|some p=>obtain⟨e,cs⟩:=p;have key:=h.core.replace (so:=none) (d:=e) (hv:=.slice none 0 0) (ob:=.row 1 0 []) (w':=w) (hb e cs rfl) (λ_ _ h=>by cases h) rfl rfl rfl (Nat.le_refl _) (Nat.le_refl _) (λ_ _ _=>rfl) (λb hb=>by cases hb) (λ_ _ _ h=>by cases h) (λ_=>⟨by simp,.inl ⟨rfl,none,upd_same _ _ _⟩⟩);rw[nw] at key;obtain⟨h1,_,h3⟩:=key;exact⟨_,h1,λt'=>h3 _ _ (h.slots t'),h.defers,h.room⟩
theorem draw_midsA (ht:TbOk P tb) (hd:kl cx.n ops.toList=true) (hB:Region.lexB .any ops=true) (hM:mb ops x y nT A uss nss las fl=true) {K':A3} {Q:Exit->Act->World->Prop} (hQ:∀E Z O a w,Sim cx E Z O a w->K' Z O->Q .normal a w) {E:A7} {a:Act} {w:World} (hs:Sim cx E Z O a w) (hds:ds=nss.flatten++flN fl) (hft:fltT tb fl ops.toList) (h:qopsF P tb ops.toList ds (flI fl O) (ops.toList.take x) (iy ds Z) λρx=>midsP P cx tb ops.toList ds fl ρx (mids ops.toList x y uss nss) ρx (flI fl O) λZ O=>s9 P cx tb ops.toList ds fl O (((ops.toList.take nT).drop y).zip las) Z λZ=>aops P cx tb ops.toList (ops.toList.drop nT) Z (flS fl O) K'):wpAny P .any ops Q ops.size (Array.replicate ops.size false) a { w with drawn:=w.drawn+1 }:=by
 simp only[Region.lexB,Bool.and_eq_true] at hB;have hM':=hM;simp only[mb,Bool.and_eq_true,decide_eq_true_eq] at hM';obtain⟨⟨⟨⟨⟨⟨⟨⟨⟨⟨hxy,hyn⟩,hn⟩,hC⟩,hul⟩,_⟩,_⟩,hnl⟩,_⟩,hnd⟩,_⟩:=hM';obtain⟨hlat,hlatf⟩:=nss_later hnd;obtain⟨ρx,hmid,hrun⟩:=yrun_fin _ _ _ _ (sx ht (ops.toList.take x) 0 _ h);have hcl:Clean ds ρx:=yrun_clean _ 0 _ (λd hdd t=>lZ _ hdd) hrun;have hdn:∀{j:Nat} {ns:A5},nss[j]?=some ns->∀d∈ns,d∈ds:=λhj d hd=>by rw[hds];exact List.mem_append_left _ (List.mem_flatten.2 ⟨_,List.mem_of_getElem? hj,hd⟩)
 have hlen:(mids ops.toList x y uss nss).length=y-x:=by unfold mids;simp only[List.length_zip,List.length_drop,List.length_take,List.length_map,Array.length_toList];omega
 have hget:∀j p,(mids ops.toList x y uss nss)[j]?=some p->∃o us ns,j<y-x/\ops[x+j]?=some o/\uss[j]?=some us/\nss[j]?=some ns/\p=(o,uops ops.toList us,ns):=λj p hp=>by
  have hj:j<y-x:=by rw[<- hlen];exact(List.getElem?_eq_some_iff.1 hp).1
  obtain⟨o,us,ho,hu,_⟩:=nE (mw hM hj);have hns:nss[j]?=some (nss[j]'(by omega)):=by simp
  rw[mids_get (by omega) ho hu hns] at hp;cases hp;exact⟨o,us,_,hj,ho,hu,hns,rfl⟩
 obtain⟨S,W,R,hS,hR,hall,hK⟩:=mids_run ht (mids ops.toList x y uss nss) ρx (flI fl O) (λp hp=>by obtain⟨j,hj⟩:=List.getElem?_of_mem hp;obtain⟨o,us,ns,hjn,ho,hu,hns,rfl⟩:=hget j p hj;obtain⟨o',us',ho',_,he,_⟩:=nE (mw hM hjn);rw[ho] at ho';cases ho';exact he) (λp hp d hpd t=>by obtain⟨j,hj⟩:=List.getElem?_of_mem hp;obtain⟨o,us,ns,hjn,ho,hu,hns,rfl⟩:=hget j p hj;exact hcl d (hdn hns d hpd) t) (List.pairwise_iff_getElem.2 λi j hi hj hij d hjd=>by obtain⟨o,us,ns,hin,ho,hu,hns,hpi⟩:=hget i _ (List.getElem?_eq_getElem hi);obtain⟨o2,us2,ns2,hjn,ho2,hu2,hns2,hpj⟩:=hget j _ (List.getElem?_eq_getElem hj);rw[hpi];rw[hpj] at hjd;exact hlat i j ns ns2 hij hns hns2 d hjd) (λp hp d hdf=>by obtain⟨j,hj⟩:=List.getElem?_of_mem hp;obtain⟨o,us,ns,hjn,ho,hu,hns,rfl⟩:=hget j p hj;exact hlatf j ns hns d hdf) hmid;rw[hlen] at hK;obtain⟨ρz,hKz,hlate⟩:=yrun_fin _ _ _ _ (pQ (W:=W) (R:=R) (uss:=uss) (nT:=nT) (las:=las) ht ((ops.toList.take nT).drop y) las y _ (Nat.le_refl _) (by simp;omega) (by rw[midsB_las hM];simp;omega) (λj _=>by simp) hK);have hE:∀(j:Nat) (o:Oper) (ns:A5),x+j<y->ops[x+j]?=some o->nss[j]?=some ns->(effS P cx tb fl ops.toList o ns (R j) (S j) (W j) (S (j+1))/\(∀(i:Nat) (ns':A5),j<i->nss[i]?=some ns'->∀e∈ns',(W j).wipe e=W j)/\∀e∈flN fl,(W j).wipe e=W j)/\R (j+1)=cK (R j) o.dst (W j):=λj o ns hj ho hns=>by
  obtain⟨o',us,ho',hu,_⟩:=nE (mw hM (show j<y-x by omega));have:=hall j _ (mids_get hj ho hu hns);refine⟨⟨this.1,λi ns' hi hns' e he=>?_,this.2.2.1⟩,this.2.2.2.1⟩;have hin:i<y-x:=by rw[<- hnl];exact(List.getElem?_eq_some_iff.1 hns').1
  obtain⟨o2,us2,ho2,hu2,_⟩:=nE (mw hM hin);exact this.2.1 i _ hi (mids_get (by omega) ho2 hu2 hns') e he
 have hcl0:∀e cs,fl=some (e,cs)->∀k,k<=y-x->clean e (S k):=λe cs hf k=>by
  induction k with
  |zero=>intro _;rw[hS];exact clean_flI hf|succ k ih=>
   intro hk;obtain⟨o,us,ho,hu,_⟩:=nE (mw hM (show k<y-x by omega));have hns:nss[k]?=some (nss[k]'(by omega)):=by simp
   rcases (hE k o _ (by omega) ho hns).1.1 with⟨_,h2⟩|⟨_,_,h2⟩;{cases cs with|box cs=>exact(h2.2 e cs hf).2 (ih (by omega))|row sz et rows=>have hK:=midsB_flK hM hf;simp only[flK,beq_iff_eq] at hK;omega|_=>have hK:=midsB_flK hM hf;simp[flK] at hK};{rw[h2];exact ih (by omega)}
 have hpre:=yrun_pre (P:=P) (cx:=cx) (tb:=tb) (nT:=nT) (fl:=fl) (las:=las) (W:=W) (R:=R) hul (λj us hu=>by
   have hj:j<y-x:=by rw[<- hul];exact(List.getElem?_eq_some_iff.1 hu).1
   obtain⟨o',us',ho',hu',_,_,_,h5⟩:=nE (mw hM hj);rw[hu] at hu';cases hu';exact h5) hS (λj us hu i hc o ho=>by
   have hj:j<y-x:=by rw[<- hul];exact(List.getElem?_eq_some_iff.1 hu).1
   obtain⟨o',us',ho',hu',_⟩:=nE (mw hM hj);have hns:nss[j]?=some (nss[j]'(by omega)):=by simp
   exact(hall j _ (mids_get (by omega) ho' hu hns)).2.2.2.2 o (List.mem_filterMap.2 ⟨i,by simpa using hc,by simpa using ho⟩)) (ops.toList.take x) 0 _ (by simp;omega) (λj hj=>by rw[List.getElem?_take,if_pos (by simp at hj;omega)];simp) hrun
 have heffs:=yrun_effs (P:=P) (cx:=cx) (tb:=tb) (nT:=nT) (ds:=ds) (fl:=fl) (las:=las) (uss:=uss) (S:=S) (x:=x) (y:=y) (R:=R) (W:=W) (λj o hj ho=>by
  have hns:nss[j]?=some (nss[j]'(by omega)):=by simp
  exact(hE j o _ hj ho hns).2) ((ops.toList.take y).drop x) 0 (by simp;omega) (λi hi=>by rw[List.getElem?_drop,List.getElem?_take,if_pos (by simp at hi;omega)];simp)
 rw[hR] at heffs;have htk:ops.toList.take x++(ops.toList.take y).drop x=ops.toList.take y:=by have h1:=List.take_append_drop x (ops.toList.take y);rw[List.take_take,Nat.min_eq_left hxy] at h1;exact h1
 have htk2:ops.toList.take y++(ops.toList.take nT).drop y=ops.toList.take nT:=by have h1:=List.take_append_drop y (ops.toList.take nT);rw[List.take_take,Nat.min_eq_left hyn] at h1;exact h1
 have hlx:(ops.toList.take x).length=x:=by simp;omega
 have hly:(ops.toList.take y).length=y:=by simp;omega
 have hrunS:pX (YG P cx tb ops ds las fl x y nT uss S W R) 0 (ops.toList.take nT) (iy ds Z) λρ2=>ρ2=ρz:=by
  have key:∀(l:A6) (k:Nat) (Z':Env) (K K':Aq),(∀ρ1,K ρ1->K' ρ1)->pX (YG P cx tb ops ds las fl x y nT uss S W R) k l Z' K->pX (YG P cx tb ops ds las fl x y nT uss S W R) k l Z' K':=by
   intro l;induction l with
   |nil=>intro k Z' K K' hk h;exact hk _ h|cons o l ih=>intro k Z' K K' hk ⟨v,hy,h⟩;exact⟨v,hy,ih _ _ _ _ hk h⟩
  rw[<- htk2];refine yrun_append _ 0 _ _ _ ?_;rw[hly,Nat.zero_add,<- htk];refine yrun_append _ 0 _ _ _ ?_;rw[hlx,Nat.zero_add];refine key _ _ _ _ _ (λρ1 he=>?_) hpre;subst he;refine key _ _ _ _ _ (λρ2 he2=>?_) heffs;subst he2;exact hlate
 have htl:(ops.toList.take nT).length=nT:=by simp;omega
 have hdl:(ops.toList.drop nT).length=ops.size-nT:=by simp
 obtain⟨m,hm1⟩:∃m,ops.size-nT=m+1:=⟨ops.size-nT-1,by omega⟩
 have key:=wpE_lex (looks_YG (P:=P) (cx:=cx) (tb:=tb) (ds:=ds) (las:=las) (fl:=fl) (x:=x) (y:=y) (nT:=nT) (uss:=uss) (S:=S) (W:=W) (R:=R)) (ops:=ops) (nT:=nT) (T:=λf Z=>f=m/\Z=ρz) (Kd:=λ_=>False) (K:=λZ=>Z=ρz) (m:=m+1) (λi hi listed hcl hri j hj=>by
   rcases Nat.lt_or_ge j nT with h1|h1;{exact h1}
   ·have:=getD_both (mt hC hcl (by omega) hj i (by omega));rw[(mem_ready.1 hri).1] at this;cases this)
  (λlisted Z hl hlex hk=>by
   simp only[Region.lexFrom,Bool.and_eq_true] at hlex;refine⟨λh0=>?_,λi hi=>?_⟩
   ·have:nT∈Region.ready .any ops listed:=by simpa using hlex.1.1
    rw[h0] at this;cases this
   ·rw[if_neg];{exact⟨rfl,hk⟩}
    ·intro hlt;obtain⟨h1,o,ho,_⟩:=mem_ready.1 hi;rw[hl i hlt (Array.getElem?_eq_some_iff.1 ho).1] at h1;cases h1)
  (ops.toList.take nT) 0 (Array.replicate ops.size false) (iy ds Z) (by simp) mc (λi hi=>by omega) (by omega) (λj hj=>by rw[List.getElem?_take,if_pos (by omega)];simp) (by rw[htl,<- hm1,show nT+(ops.size-nT)=ops.size from by omega];exact hB.2) hrunS
 have hbase:∀e cs,fl=some (e,cs)->e<inBase:=λe cs hf=>by obtain⟨_,_,o,ho,hod,_⟩:=midsB_flA hM hf;exact(nu hd (show ops.toList[A]?=some o by simpa using ho) e hod).2
 obtain⟨E1,hs1⟩:=hs.flI fl hbase;have hsd:Sim cx E1 (iy ds Z) (flI fl O) a { w with drawn:=w.drawn+1 }:=by
  have h1:=(hs1.wipes ds).below (w':={ w with drawn:=w.drawn+1 }) ⟨⟨rfl,rfl,rfl,Nat.le_refl _,λ_ _=>rfl⟩,rt (Nat.le_succ _)⟩;have h2:iy ds (iy (flN fl) Z)=iy ds Z:=by
   funext t;show V.wipes ds (V.wipes (flN fl) (Z t))=V.wipes ds (Z t);cases hf:fl with
   |none=>rfl|some p=>obtain⟨e,cs⟩:=p;show V.wipes ds ((Z t).wipe e)=V.wipes ds (Z t);rw[<- tL];exact lZ _ (by rw[hds,hf];exact List.mem_append_right _ (by simp[flN]))
  rwa [h2] at h1
 have:=oM (Q:=Q) (S:=S) (W:=W) (R:=R) ht hd hM hds hft (λj o ns hj ho hns=>(hE j o ns hj ho hns).1) hcl0 (T:=λf Z=>f=m/\Z=ρz) (λfuel listed E Z a w i hcl hU hi hin hs' hT'=>by
  obtain⟨rfl,rfl⟩:=hT';obtain⟨_,o,ho,_⟩:=mem_ready.1 hi;have his:i<ops.size:=(Array.getElem?_eq_some_iff.1 ho).1;have hin':i=nT:=by rcases Nat.lt_or_ge nT i with h1|h1;{have h2:=getD_both (mt hC hcl hin hi nT h1);rw[hU nT (Nat.le_refl _) hn] at h2;cases h2};{omega}
  subst hin';have hc:=wpAny_chain (Q:=Q) ht hd hC hQ (ops.toList.drop i) i listed E _ _ a w (Nat.le_refl _) (by rw[hdl];omega) (λj=>by simp) hcl (mt hC hcl hin hi) hU hs' hKz;rw[hdl,hm1] at hc;exact hc.2 i hi)
  ((ops.toList.take nT).length+(m+1)) (Array.replicate ops.size false) E1 _ a _ 0 false (by omega) (λj hj=>by omega) (λj _ hj=>by
   have:x+j<ops.size:=by omega
   simp[this]) mc (λj h1 h2=>by simp[h2]) (λj ns _ hns d hdd t=>lZ _ (hdn hns d hdd)) (λA oA hA hoA hfA=>by
   have:A<ops.size:=by omega
   simp[this]) (λ_=>rfl) (λe cs hf t _=>lZ _ (by rw[hds,hf];exact List.mem_append_right _ (by simp[flN]))) (by rw[hS];exact hsd) key
 rw[htl,<- hm1,show nT+(ops.size-nT)=ops.size from by omega] at this;exact this
theorem draw_mids (ht:TbOk P tb) (hd:kl cx.n ops.toList=true) (hm:P.follows .mixedOrders=true) (hB:Region.lexB .any ops=true) (hM:mb ops x y nT A uss nss las fl=true) {id:Nat} {K':A3} {Q:Exit->Act->World->Prop} (hQ:∀E Z O a w,Sim cx E Z O a w->K' Z O->Q .normal a w) {E:A7} {a:Act} {w:World} (hs:Sim cx E Z O a w) (hds:ds=nss.flatten++flN fl) (hft:fltT tb fl ops.toList) (h:qopsF P tb ops.toList ds (flI fl O) (ops.toList.take x) (iy ds Z) λρx=>midsP P cx tb ops.toList ds fl ρx (mids ops.toList x y uss nss) ρx (flI fl O) λZ O=>s9 P cx tb ops.toList ds fl O (((ops.toList.take nT).drop y).zip las) Z λZ=>aops P cx tb ops.toList (ops.toList.drop nT) Z (flS fl O) K'):(Code.region id ops true).wp P Q a w :=
 wp_region_any hm (draw_midsA ht hd hB hM hQ hs hds hft h)
end
