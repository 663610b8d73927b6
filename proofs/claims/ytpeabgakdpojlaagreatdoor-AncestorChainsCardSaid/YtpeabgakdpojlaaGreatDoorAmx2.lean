/- Lemmas for the law. -/
import Derived.Test.YtpeabgakdpojlaaGreatDoorAmx1
import Derived.Maps.AppendAt
import Derived.Lib.AppendStr
import Derived.Deep.Draws
namespace Go.AM
open Go.RowKit
def NE.wipe (d:Nat):NE->NE|.own t=>if t=d then .dead else .own t|.sub t z n=>if t=d then .dead else .sub t z n|x=>x
def NE.ren (f:Aj):NE->NE|.own t=>.own (f t)|.sub t z n=>.sub (f t) z n|x=>x
theorem NE.wipe_comm {d e:Nat} (x:NE):(x.wipe d).wipe e=(x.wipe e).wipe d:=by
 cases x with
 |own t=>grind[NE.wipe]|sub t z n=>grind[NE.wipe]|_=>rfl
theorem NE.wipe_idem {d:Nat} (x:NE):(x.wipe d).wipe d=x.wipe d:=by
 cases x with
 |own t=>grind[NE.wipe]|sub t z n=>grind[NE.wipe]|_=>rfl
def NE.closed:NE->Bool|.own _|.sub _ _ _=>false|_=>true
def Ob.wipe (d:Nat):Ob->Ab|.box cs=>some (.box (cs.map (C.wipe d)))|.row sz e rows=>some (.row sz e rows)|.map kk es=>some (.map kk (es.map λx=>(x.1,x.2.wipe d)))|.iter m left last=>if m=d then none else some (.iter m (left.map λx=>(x.1,x.2.wipe d)) (last.map λx=>(x.1,x.2.wipe d)))|.nest e ie sz els=>some (.nest e ie sz (els.map (NE.wipe d)))
def eY (d:Nat) (Z:Env):Env:=λt=>(Z t).wipe d
def cM (d:Nat) (O:Sto):Sto:=λs=>(O s).bind (Ob.wipe d)
def drop (so:Ac) (O:Sto):Sto:=λt=>if so=some t then none else O t
def lm (s:Nat) (O:Sto):Sto:=λt=>match O t with|some (.iter m left last)=>if m=s then none else some (.iter m left last)|o=>o
section
variable {E J:A7} {w w':World} {F F':Ad} {s d:Nat} {O:Sto} {cx:Cx}
theorem esims_wipe (h:∀t,t≠d->J t=E t):∀{es:Am} {l:List MapEntry},fL E w F es l->fL J w F (es.map λx=>(x.1,x.2.wipe d)) l|[],_,hs=>hs|x::es,l,hs=>by obtain⟨e,r,rfl,h1,h2,h3⟩:=hs;exact⟨e,r,rfl,h1,usim_wipe h _ _ h2,esims_wipe h h3⟩
theorem r9 {v:Value} {sz:Nat} {e:TypeId} {rows:A8} (ho:rowv E w F v sz e rows):rowv J w F v sz e rows:=by obtain⟨h1,h2⟩:=ho;refine⟨h1,?_⟩;rcases h2 with h2|⟨b,cap,cur,h0,hp,hl,hm,hh,hs,hc⟩;{exact .inl h2};{exact .inr ⟨b,cap,cur,h0,hp,hl,hm,hh,hs,csims_phi hc⟩}
theorem qn {ie:TypeId} {sz:Nat} (h:∀t,t≠d->J t=E t):∀{els:List NE} {cs ivs:A9},mM E w F ie sz els cs ivs->mM J w F ie sz (els.map (NE.wipe d)) cs ivs
 |[],_,_,hn=>hn|x::els,cs,ivs,hn=>by
  obtain⟨c,cs',iv,ivs',rfl,rfl,h1,h2⟩:=hn;refine⟨c,cs',iv,ivs',rfl,rfl,?_,qn h h2⟩;cases x with
  |rows r=>exact⟨h1.1,r9 h1.2⟩|own t=>simp only[NE.wipe];split;{exact⟨h1.2.1,h1.2.2⟩};{rename_i ht;exact⟨by rw[h t ht];exact h1.1,h1.2⟩}|sub t z n=>simp only[NE.wipe];split;{obtain⟨⟨_,_,_,_,_,_,rfl⟩,h2⟩:=h1;exact⟨rfl,h2⟩};{rename_i ht;obtain⟨h1,h2⟩:=h1;exact⟨by simp only[bG] at h1 ⊢;rw[h t ht];exact h1,h2⟩}|dead=>exact h1
theorem nsims_ren {ie:TypeId} {sz:Nat} {f:Aj}:∀{els:List NE} {cs ivs:A9},mM E w F ie sz (els.map (NE.ren f)) cs ivs↔mM (λt=>E (f t)) w F ie sz els cs ivs
 |[],_,_=>Iff.rfl|x::els,cs,ivs=>by
  refine exists_congr λc=>exists_congr λcs'=>exists_congr λiv=>exists_congr λivs'=>and_congr Iff.rfl (and_congr Iff.rfl (and_congr ?_ nsims_ren));cases x with
  |rows r=>exact and_congr Iff.rfl ⟨r9,r9⟩|own t=>exact Iff.rfl|sub t z n=>exact Iff.rfl|dead=>exact Iff.rfl
theorem closed_ren {f:Aj}:∀{els:List NE},els.all NE.closed=true->els.map (NE.ren f)=els
 |[],_=>rfl|x::els,h=>by
  simp only[List.all_cons,Bool.and_eq_true] at h;rw[List.map_cons,closed_ren h.2];cases x with
  |own t=>(cases h.1)|sub t z n=>(cases h.1)|_=>rfl
theorem closed_wipe {d:Nat}:∀{els:List NE},els.all NE.closed=true->els.map (NE.wipe d)=els
 |[],_=>rfl|x::els,h=>by
  simp only[List.all_cons,Bool.and_eq_true] at h;rw[List.map_cons,closed_wipe h.2];cases x with
  |own t=>(cases h.1)|sub t z n=>(cases h.1)|_=>rfl
theorem nsims_closed {ie:TypeId} {sz:Nat}:∀{els:List NE} {cs ivs:A9},els.all NE.closed=true->mM E w F ie sz els cs ivs->mM J w F ie sz els cs ivs
 |[],_,_,_,hn=>hn|x::els,cs,ivs,hc,hn=>by
  simp only[List.all_cons,Bool.and_eq_true] at hc;obtain⟨c,cs',iv,ivs',rfl,rfl,h1,h2⟩:=hn;refine⟨c,cs',iv,ivs',rfl,rfl,?_,nsims_closed hc.2 h2⟩;cases x with
  |rows r=>exact⟨h1.1,r9 h1.2⟩|own t=>(cases hc.1)|sub t z n=>(cases hc.1)|dead=>exact h1
theorem tg (h:∀t,t≠d->J t=E t) {t:Nat} (htd:t≠d) {o o':Ob} (ho:kq E w F t o) (hw:o.wipe d=some o'):kq J w F t o':=by
 cases o with
 |box cs=>
  cases hw;obtain⟨b,arr,ty,hp,hh,hc,h1⟩:=ho;exact⟨b,arr,ty,(h t htd).trans hp,hh,rC h _ _ hc,h1⟩
 |row sz e rows=>
  cases hw;obtain⟨h1,h2⟩:=ho;refine⟨h1,?_⟩;rw[h t htd];rcases h2 with h2|⟨b,cap,cur,h0,hp,hl,hm,hh,hs,hc⟩
  ·exact .inl h2
  ·refine .inr ⟨b,cap,cur,h0,hp,hl,hm,hh,hs,?_⟩;have:=rC h _ _ hc;rwa [List.map_map] at this
 |map kk es=>
  cases hw;obtain⟨b,ents,clk,hp,hh,hc,h1,h2,h3,h4⟩:=ho;refine⟨b,ents,clk,(h t htd).trans hp,hh,esims_wipe h hc,h1,h2,?_,?_⟩;{grind};grind
 |iter m left last=>
  simp only[Ob.wipe] at hw;split at hw;{cases hw}
  ·rename_i hmd;cases hw;obtain⟨b,c,ents,clk,seen,hp,hq,hh,hh',hc,h1,h2,h3⟩:=ho;refine⟨b,c,ents,clk,seen,(h t htd).trans hp,(h m hmd).trans hq,hh,hh',esims_wipe h hc,h1,h2,λx hx=>?_⟩;cases last with
   |none=>(cases hx)|some y=>
    cases hx;obtain⟨e,a1,a2,a3,a4⟩:=h3 y rfl;grind[usim_wipe]
 |nest e ie sz els=>cases hw;obtain⟨out,ivs,cs,h1,h2,h3,h4⟩:=ho;exact⟨out,ivs,cs,(h t htd).trans h1,by rw[h t htd];exact h2,by rw[List.length_map];exact h3,qn h h4⟩
theorem Core.replace (h:Core cx E O w) (hd:d<inBase) {so:Ac} (hs:∀s o,so=some s->O s=some o->∀kk es,o≠.map kk es) {hv:Value} {ob:Ob} (hos:w'.os=w.os) (htape:w'.tape=w.tape) (hout:w'.output=w.output) (hdr:drn w<=drn w') (hsize:w.heap.size<=w'.heap.size) (hblock:∀b,b<w.heap.size->(∀s o,so=some s->O s=some o->¬ hbl (E s) b)->w'.heap[b]?=w.heap[b]?) (hnew:∀b,hbl hv b->(w.heap.size<=b\/∃s o,so=some s/\O s=some o/\hbl (E s) b)/\b<w'.heap.size) (hit:∀m left last,ob=.iter m left last->m≠d/\so≠some m/\∃kk es,O m=some (.map kk es)) (hob:Keep (cx.fr E O) (cx.fr (upd E d hv) (upd (cM d (drop so O)) d (some ob))) w w'->kq (upd E d hv) w' (cx.fr (upd E d hv) (upd (cM d (drop so O)) d (some ob))) d ob) :
  Core cx (upd E d hv) (upd (cM d (drop so O)) d (some ob)) w'/\Keep (cx.fr E O) (cx.fr (upd E d hv) (upd (cM d (drop so O)) d (some ob))) w w' /\ ∀v u,bI E w (cx.fr E O) v u->bI (upd E d hv) w' (cx.fr (upd E d hv) (upd (cM d (drop so O)) d (some ob))) (v.wipe d) u:=by
 have hφ:∀t,t≠d->upd E d hv t=E t:=λt ht=>bz _ _ ht;have hσ:∀t o',t≠d->upd (cM d (drop so O)) d (some ob) t=some o'->∃o,O t=some o/\so≠some t/\o.wipe d=some o':=by intro t o' ht ho;rw[bz _ _ ht] at ho;simp only[cM,drop] at ho;split at ho;{cases ho};{rename_i hts;cases hst:O t with|none=>simp_all|some o=>simp_all}
 have hk:Keep (cx.fr E O) (cx.fr (upd E d hv) (upd (cM d (drop so O)) d (some ob))) w w':=by refine⟨hsize,λb hb hl=>hblock b hl λs o _ ho he=>hb.2 ⟨s,o,ho,he⟩,λb hb hl=>⟨hb.1,?_⟩⟩;rintro⟨t,o',ho,he⟩;by_cases htd:t=d;{subst htd;rw[upd_same] at he;rcases (hnew b he).1 with h1|⟨s,o,_,h1,h2⟩;{omega};{exact hb.2 ⟨s,o,h1,h2⟩}};{obtain⟨o,h1,_,_⟩:=hσ t o' htd ho;rw[hφ t htd] at he;exact hb.2 ⟨t,o,h1,he⟩}
 have hkeepb:∀t o b,so≠some t->O t=some o->hbl (E t) b->w'.heap[b]?=w.heap[b]?:=λt o b hts ho hb=>
  hblock b (h.own t o b ho hb).2 λs o' hs' ho' he=>hts (by rw[h.disj t s o o' b ho ho' hb he];exact hs')
 refine⟨⟨hos.trans h.os,htape.trans h.tape,hout.trans h.output,Nat.le_trans h.drawn hdr,Nat.le_trans h.size hsize,?_,?_,?_,?_,?_,?_⟩,hk,λv u hvu=>qg hφ v u (fb hk v u hvu)⟩;{intro b hb hn;rw[hblock b (Nat.lt_of_lt_of_le hb h.size) λs o _ ho he=>?_];{exact h.block b hb hn};{rcases (h.own s o b ho he).1 with h1|h1;{omega};{exact hn h1}}};{intro t o' ho;by_cases htd:t=d;{simp_all[upd_same]};{obtain⟨o,h1,hts,h2⟩:=hσ t o' htd ho;refine tg hφ htd (fy hk (h.objs t o h1) (λb hb=>hkeepb t o b hts h1 hb) λm left last b hoi hb=>?_) h2;subst hoi;obtain⟨kk,es,hm⟩:=h.itm t m left last h1;grind}};{intro t o' b ho hb;by_cases htd:t=d;{subst htd;rw[upd_same] at hb;obtain⟨h1,h2⟩:=hnew b hb;refine⟨?_,h2⟩;rcases h1 with h1|⟨s,o,_,h1,h3⟩;{exact .inl (Nat.le_trans h.size h1)};{exact(h.own s o b h1 h3).1}};{obtain⟨o,h1,_,_⟩:=hσ t o' htd ho;rw[hφ t htd] at hb;exact⟨(h.own t o b h1 hb).1,Nat.lt_of_lt_of_le (h.own t o b h1 hb).2 hsize⟩}};{intro t t' o o' b ho ho' hb hb';by_cases htd:t=d<;>by_cases htd':t'=d;{rw[htd,htd']};{subst htd;obtain⟨o1,h1,hts,_⟩:=hσ t' o' htd' ho';rw[hφ t' htd'] at hb';rw[upd_same] at hb;rcases (hnew b hb).1 with h2|⟨s,o2,hs',h2,h3⟩;{grind};{exact absurd (by rw[h.disj t' s o1 o2 b h1 h2 hb' h3];exact hs') hts}};{subst htd';obtain⟨o1,h1,hts,_⟩:=hσ t o htd ho;rw[hφ t htd] at hb;rw[upd_same] at hb';rcases (hnew b hb').1 with h2|⟨s,o2,hs',h2,h3⟩;{grind};{exact absurd (by rw[h.disj t s o1 o2 b h1 h2 hb h3];exact hs') hts}};{obtain⟨o1,h1,_,_⟩:=hσ t o htd ho;obtain⟨o2,h2,_,_⟩:=hσ t' o' htd' ho';rw[hφ t htd] at hb;rw[hφ t' htd'] at hb';exact h.disj t t' o1 o2 b h1 h2 hb hb'}};{intro i hi hk;rw[hφ i (by omega)];exact h.inp i hi hk}
 ·intro t m left last ho;have hmap:∀m kk es,m≠d->so≠some m->O m=some (.map kk es)->∃kk es,upd (cM d (drop so O)) d (some ob) m=some (.map kk es):=by intro m kk es hmd hms hm;rw[bz _ _ hmd];simp only[cM,drop,if_neg hms,hm,Option.bind_some,Ob.wipe];simp
  by_cases htd:t=d;{subst htd;rw[upd_same] at ho;grind};{obtain⟨o,h1,hts,h2⟩:=hσ t _ htd ho;cases o with|iter m' left' last'=>simp only[Ob.wipe] at h2;split at h2;{cases h2};{rename_i hmd;cases h2;obtain⟨kk,es,hm⟩:=h.itm t _ _ _ h1;grind}|_=>simp[Ob.wipe] at h2}
theorem Core.mutate (h:Core cx E O w) {ob ob':Ob} (hs:O s=some ob) {σ1:Sto} (h1:∀t o,t≠s->σ1 t=some o->O t=some o) (h2:∀t m left last,t≠s->σ1 t=some (.iter m left last)->m≠s) (h3:∀m kk es,O m=some (.map kk es)->m≠s->σ1 m=some (.map kk es)) (h4:∀m left last,ob'=.iter m left last->∃kk es,m≠s/\O m=some (.map kk es)) (hos:w'.os=w.os) (htape:w'.tape=w.tape) (hout:w'.output=w.output) (hdr:drn w<=drn w') (hsize:w.heap.size<=w'.heap.size) (hblock:∀b,b<w.heap.size->¬ hbl (E s) b->w'.heap[b]?=w.heap[b]?) (hob:Keep (cx.fr E O) (cx.fr E (upd σ1 s (some ob'))) w w'->kq E w' (cx.fr E (upd σ1 s (some ob'))) s ob') :
  Core cx E (upd σ1 s (some ob')) w'/\Keep (cx.fr E O) (cx.fr E (upd σ1 s (some ob'))) w w':=by
 have hσ:∀t o,upd σ1 s (some ob') t=some o->∃o',O t=some o'/\(t≠s->o'=o):=by intro t o ho;by_cases hts:t=s;{simp_all};{rw[bz _ _ hts] at ho;simp_all}
 have hk:Keep (cx.fr E O) (cx.fr E (upd σ1 s (some ob'))) w w':=by refine⟨hsize,λb hb hl=>hblock b hl λhe=>hb.2 ⟨s,ob,hs,he⟩,λb hb hl=>⟨hb.1,?_⟩⟩;rintro⟨t,o,ho,he⟩;obtain⟨o',h5,_⟩:=hσ t o ho;exact hb.2 ⟨t,o',h5,he⟩
 have hkeepb:∀t o b,t≠s->O t=some o->hbl (E t) b->w'.heap[b]?=w.heap[b]?:=λt o b hts ho hb=>
  hblock b (h.own t o b ho hb).2 λhe=>hts (h.disj t s o ob b ho hs hb he)
 refine⟨⟨hos.trans h.os,htape.trans h.tape,hout.trans h.output,Nat.le_trans h.drawn hdr,Nat.le_trans h.size hsize,?_,?_,?_,?_,h.inp,?_⟩,hk⟩;{intro b hb hn;rw[hblock b (Nat.lt_of_lt_of_le hb h.size) λhe=>?_];{exact h.block b hb hn};{rcases (h.own s ob b hs he).1 with h6|h6;{omega};{exact hn h6}}};{intro t o ho;by_cases hts:t=s;{simp_all[upd_same]};{rw[bz _ _ hts] at ho;have h5:=h1 t o hts ho;refine fy hk (h.objs t o h5) (λb hb=>hkeepb t o b hts h5 hb) λm left last b hoi hb=>?_;subst hoi;obtain⟨kk,es,hm⟩:=h.itm t m left last h5;grind}};{intro t o b ho hb;obtain⟨o',h5,_⟩:=hσ t o ho;exact⟨(h.own t o' b h5 hb).1,Nat.lt_of_lt_of_le (h.own t o' b h5 hb).2 hsize⟩};{intro t t' o o' b ho ho' hb hb';obtain⟨o1,h5,_⟩:=hσ t o ho;obtain⟨o2,h6,_⟩:=hσ t' o' ho';exact h.disj t t' o1 o2 b h5 h6 hb hb'}
 ·intro t m left last ho;have hm:∃kk es,m≠s/\O m=some (.map kk es):=by by_cases hts:t=s;{subst hts;rw[upd_same] at ho;simp_all};{rw[bz _ _ hts] at ho;obtain⟨kk,es,hm⟩:=h.itm t m left last (h1 t _ hts ho);grind}
  grind[bz]
end
theorem i6 {I:Type}:∀{l:List I} {i:Nat} {x:I},l[i]?=some x->l.set i x=l|[],i,_,h=>by simp at h|y::l,0,x,h=>by simp_all|y::l,i+1,x,h=>by simp at h;rw[List.set_cons_succ,i6 (by simpa using h)]
structure HQ (E J:A7):Prop where
 hd:∀t,hdv (J t)=hdv (E t)
 ptr:∀t a,E t=.pointer a->J t=.pointer a
theorem HQ.of {E J:A7} (h:∀t,veq (E t) (J t)):HQ E J:=⟨λt=>(h t).hd,λt a e=>by rw[(h t).eq (by rw[e];simp),e]⟩
section
variable {E J:A7} {w w':World} {F F':Ad} {s d:Nat} {O:Sto} {cx:Cx}
mutual
theorem csim_veq (h:HQ E J):∀(c:C) (v:Value),bG E w F c v->bG J w F c v
 |.top,v,_=>by simp[bG]|.d x,v,hv=>by simpa [bG] using hv|.ref xs off,v,hv=>by simpa [bG] using hv|.box t off,v,hv=>by
  simp only[bG] at hv⊢;obtain⟨b,hp,rfl⟩:=hv;exact⟨b,by exact h.ptr t _ hp,rfl⟩
 |.own t,v,hv=>by simp only[bG] at hv ⊢;rw[h.hd t];exact hv|.elt t i z off,v,hv=>by simp only[bG] at hv ⊢;rw[h.hd t];exact hv|.map t,v,hv=>by simp only[bG] at hv ⊢;rw[h.hd t];exact hv|.nilmap,v,hv=>by simpa [bG] using hv|.iter t,v,hv=>by simp only[bG] at hv ⊢;rw[h.hd t];exact hv|.sub t z a n,v,hv=>by simp only[bG] at hv ⊢;rw[h.hd t];exact hv|.opq u,v,hv=>by simpa [bG] using hv|.fn f caps,v,hv=>by simp only[bG] at hv⊢;obtain⟨arr,rfl,hc⟩:=hv;exact⟨arr,rfl,csims_veq h caps _ hc⟩
theorem csims_veq (h:HQ E J):∀(cs:As) (vs:A9),bB E w F cs vs->bB J w F cs vs|[],vs,hv=>by simpa [bB] using hv|c::cs,vs,hv=>by simp only[bB] at hv⊢;obtain⟨v,r,rfl,hc,hcs⟩:=hv;exact⟨v,r,rfl,csim_veq h c v hc,csims_veq h cs r hcs⟩
end
theorem usim_veq (h:HQ E J) (x:U) (v:Value) (hv:ct E w F x v):ct J w F x v:=by
 cases x with
 |one c=>exact csim_veq h c v hv|agg cs=>obtain⟨arr,rfl,hc⟩:=hv;exact⟨arr,rfl,csims_veq h cs _ hc⟩
theorem usims_veq (h:HQ E J):∀(us:List U) (vs:A9),iN E w F us vs->iN J w F us vs|[],_,hv=>hv|x::us,vs,hv=>by obtain⟨v,r,rfl,hc,hcs⟩:=hv;exact⟨v,r,rfl,usim_veq h x v hc,usims_veq h us r hcs⟩
theorem vsim_veq (h:HQ E J) (x:V) (v:Value) (hv:bI E w F x v):bI J w F x v:=by
 cases x with
 |u x=>exact usim_veq h x v hv|tup us=>obtain⟨arr,rfl,hc⟩:=hv;exact⟨arr,rfl,usims_veq h us _ hc⟩
theorem esims_veq (h:HQ E J):∀{es:Am} {l:List MapEntry},fL E w F es l->fL J w F es l|[],_,hs=>hs|x::es,l,hs=>by obtain⟨e,r,rfl,h1,h2,h3⟩:=hs;exact⟨e,r,rfl,h1,usim_veq h _ _ h2,esims_veq h h3⟩
theorem ou {ie:TypeId} {sz:Nat} (h:∀t,hdv (J t)=hdv (E t)):∀{els:List NE} {cs ivs:A9},mM E w F ie sz els cs ivs->mM J w F ie sz els cs ivs
 |[],_,_,hn=>hn|x::els,cs,ivs,hn=>by
  obtain⟨c,cs',iv,ivs',rfl,rfl,h1,h2⟩:=hn;refine⟨c,cs',iv,ivs',rfl,rfl,?_,ou h h2⟩;cases x with
  |rows r=>exact⟨h1.1,r9 h1.2⟩|own t=>exact⟨by rw[h t];exact h1.1,h1.2⟩|sub t z n=>exact⟨by obtain⟨h1,_⟩:=h1;simp only[bG] at h1 ⊢;rw[h t];exact h1,h1.2⟩|dead=>exact h1
theorem osim_veq (h:HQ E J) {o:Ob} (hm:∀m l la,o=.iter m l la->∀r,E m=.map r->J m=.map r) (hs:J s=E s) (ho:kq E w F s o):kq J w F s o:=by
 cases o with
 |box cs=>
  obtain⟨b,arr,t,h1,h2,h3,h4⟩:=ho;exact⟨b,arr,t,hs.trans h1,h2,csims_veq h cs _ h3,h4⟩
 |row sz e rows=>
  obtain⟨h1,h2⟩:=ho;refine⟨h1,?_⟩;rw[hs];rcases h2 with h2|⟨b,cap,cur,h0,hp,hl,hm,hh,hz,hc⟩;{exact .inl h2};{exact .inr ⟨b,cap,cur,h0,hp,hl,hm,hh,hz,csims_phi hc⟩}
 |map kk es=>
  obtain⟨b,ents,clk,hp,hh,hc,h1⟩:=ho;exact⟨b,ents,clk,hs.trans hp,hh,esims_veq h hc,h1⟩
 |iter m left last=>
  obtain⟨b,c,ents,clk,seen,hp,hq,hh,hh',hc,h1,h2,h3⟩:=ho;exact⟨b,c,ents,clk,seen,hs.trans hp,hm m _ _ rfl _ hq,hh,hh',esims_veq h hc,h1,h2,
   λx hx=>let ⟨e,a1,a2,a3,a4⟩:=h3 x hx;⟨e,a1,a2,a3,usim_veq h _ _ a4⟩⟩
 |nest e ie sz els=>obtain⟨out,ivs,cs,h1,h2,h3,h4⟩:=ho;exact⟨out,ivs,cs,hs.trans h1,by rw[hs];exact h2,h3,ou h.hd h4⟩
theorem osim_veqs (h:∀t,veq (E t) (J t)) {o:Ob} (hs:J s=E s) (ho:kq E w F s o):kq J w F s o:=osim_veq (.of h) (λm _ _ _ r e=>by rw[(h m).eq (by rw[e];simp),e]) hs ho
theorem hblk_undef:gD undef=none:=rfl
theorem fm_sub:∀(ivs:A9) (i:Nat),((ivs.set i undef).filterMap gD).Sublist (ivs.filterMap gD)
 |[],_=>List.Sublist.refl _|x::ivs,0=>by
  rw[List.set_cons_zero,List.filterMap_cons,hblk_undef,List.filterMap_cons];cases gD x with
  |none=>exact List.Sublist.refl _|some b=>exact List.sublist_cons_self _ _
 |x::ivs,i+1=>by
  rw[List.set_cons_succ,List.filterMap_cons,List.filterMap_cons];cases gD x with
  |none=>exact fm_sub ivs i|some b=>exact(fm_sub ivs i).cons_cons b
theorem fm_not:∀{ivs:A9} {i:Nat} {iv:Value} {b:Nat},ivs[i]?=some iv->gD iv=some b->(ivs.filterMap gD).Nodup->b ∉ (ivs.set i undef).filterMap gD
 |[],_,_,_,h,_,_=>by simp at h|x::ivs,0,iv,b,h,hb,hn=>by simp only[List.getElem?_cons_zero,Option.some.injEq] at h;subst h;rw[List.filterMap_cons,hb,List.nodup_cons] at hn;rw[List.set_cons_zero,List.filterMap_cons,hblk_undef];exact hn.1|x::ivs,i+1,iv,b,h,hb,hn=>by
  rw[List.getElem?_cons_succ] at h;rw[List.set_cons_succ,List.filterMap_cons];rw[List.filterMap_cons] at hn;cases hx:gD x with
  |none=>rw[hx] at hn;exact fm_not h hb hn|some b'=>rw[hx,List.nodup_cons] at hn;rw[List.mem_cons,not_or];refine⟨λe=>hn.1 ?_,fm_not h hb hn.2⟩;rw[<- e];exact List.mem_filterMap.2 ⟨iv,List.mem_of_getElem? h,hb⟩
theorem fm_add:∀{ivs:A9} {i:Nat} {v:Value},ivs[i]?=some undef->(ivs.filterMap gD).Nodup->(∀b,gD v=some b->b ∉ ivs.filterMap gD)->((ivs.set i v).filterMap gD).Nodup
 |[],_,_,h,_,_=>by simp at h|x::ivs,0,v,h,hn,hv=>by
  simp only[List.getElem?_cons_zero,Option.some.injEq] at h;subst h;rw[List.filterMap_cons,hblk_undef] at hn hv;rw[List.set_cons_zero,List.filterMap_cons];cases hb:gD v with
  |none=>exact hn|some b=>exact List.nodup_cons.2 ⟨hv b hb,hn⟩
 |x::ivs,i+1,v,h,hn,hv=>by
  rw[List.getElem?_cons_succ] at h;rw[List.set_cons_succ,List.filterMap_cons];rw[List.filterMap_cons] at hn hv;cases hx:gD x with
  |none=>rw[hx] at hn hv;exact fm_add h hn hv|some b'=>rw[hx] at hv;rw[hx,List.nodup_cons] at hn;refine List.nodup_cons.2 ⟨λhm=>?_,fm_add h hn.2 λb hb hm=>hv b hb (List.mem_cons_of_mem _ hm)⟩;obtain⟨y,hy,hyb⟩:=List.mem_filterMap.1 hm;rcases List.mem_or_eq_of_mem_set hy with hy|rfl;{exact hn.1 (List.mem_filterMap.2 ⟨y,hy,hyb⟩)};{exact hv b' hyb (by simp)}
theorem gl (out:Value) (ivs:A9):blks (.tuple (out::ivs).toArray)=(out::ivs).filterMap gD:=by simp[blks]
theorem se {out:Value} {ivs:A9} {b:Nat}:hbl (.tuple (out::ivs).toArray) b↔b∈(out::ivs).filterMap gD:=by unfold hbl;rw[gl]
theorem rowv_slice {v:Value} {sz:Nat} {e:TypeId} {rows:A8} (h:rowv E w F v sz e rows):v.oneCell'=true/\hdv v=v/\∀b,hbl v b↔gD v=some b:=by obtain⟨_,h⟩:=h;rcases h with⟨_,a,rfl⟩|⟨b,cap,cur,_,rfl,_⟩;{refine⟨rfl,rfl,λb=>?_⟩;rw[hbl_slice0];cases a<;>simp[gD]};{refine⟨rfl,rfl,λb'=>?_⟩;rw[hbl_slice];simp only[gD];split;{simp_all};{simp_all[eq_comm]}}
def fcS (s d i:Nat) (e:NSp) (ie:TypeId) (sz:Nat) (els:List NE) (r:A8) (O:Sto):Sto:=upd (upd (cM d O) s (some (.nest e ie sz ((els.map (NE.wipe d)).set i (.own d))))) d (some (.row sz ie r))
theorem Core.focus (h:Core cx E O w) {e:NSp} {ie:TypeId} {sz i:Nat} {els:List NE} {r:A8} (hs:O s=some (.nest e ie sz els)) (hi:els[i]?=some (.rows r)) (hd:d<inBase) (hsd:s≠d) :∃E' iv out ivs cs,E s=.tuple (out::ivs).toArray/\spine w e els.length out cs/\cs[i]?=some iv/\E' d=iv/\iv.oneCell'=true/\hdv iv=iv/\(∀t,t≠d->veq (E t) (E' t)) /\
   Core cx E' (fcS s d i e ie sz els r O) w/\Keep (cx.fr E O) (cx.fr E' (fcS s d i e ie sz els r O)) w w/\∀v u,bI E w (cx.fr E O) v u->bI E' w (cx.fr E' (fcS s d i e ie sz els r O)) (v.wipe d) u:=by
 obtain⟨out,ivs,cs,hp,hnd,hsp,hn⟩:=h.objs s _ hs;obtain⟨c,iv,hc,hiv,rfl,hrow⟩:=oJ hn hi;obtain⟨hone,hhd,hbiv⟩:=rowv_slice hrow;obtain⟨J,hψ⟩:∃J,J=upd E s (.tuple (out::ivs.set i undef).toArray):=⟨_,rfl⟩
 have hJs:J s=.tuple (out::ivs.set i undef).toArray:=by rw[hψ,upd_same]
 have hJo:∀t,t≠s->J t=E t:=λt ht=>by rw[hψ,bz _ _ ht]
 have hv:∀t,veq (E t) (J t):=λt=>by by_cases ht:t=s;{subst ht;rw[hp,hJs];exact .inr ⟨_,_,_,rfl,rfl⟩};{rw[hJo t ht];exact .refl _}
 obtain⟨E',hE'⟩:∃E',E'=upd J d c:=⟨_,rfl⟩
 have hEd:E' d=c:=by rw[hE',upd_same]
 have hEo:∀t,t≠d->E' t=J t:=λt ht=>by rw[hE',bz _ _ ht]
 have hEs:E' s=.tuple (out::ivs.set i undef).toArray:=(hEo s hsd).trans hJs;have hnd':=hnd;rw[hp,gl] at hnd';have hset:(out::ivs.set i undef)=(out::ivs).set (i+1) undef:=rfl;have hivc:(out::ivs)[i+1]?=some c:=hiv;have bd:∀b,hbl c b->hbl (E s) b:=λb hb=>by rw[hp];exact lE.2 (.inr ⟨c,List.mem_of_getElem? hiv,(hbiv b).1 hb⟩)
 have bs:∀b,hbl (E' s) b->hbl (E s) b:=λb hb=>by rw[hEs,se,hset] at hb;rw[hp,se];exact(fm_sub (out::ivs) (i+1)).mem hb
 have bds:∀b,hbl c b->¬ hbl (E' s) b:=λb hb hb'=>by rw[hEs,se,hset] at hb';exact fm_not hivc ((hbiv b).1 hb) hnd' hb'
 have hσd:fcS s d i e ie sz els r O d=some (.row sz ie r):=by unfold fcS;rw[upd_same]
 have hσs:fcS s d i e ie sz els r O s=some (.nest e ie sz ((els.map (NE.wipe d)).set i (.own d))):=by unfold fcS;rw[bz _ _ hsd,upd_same]
 have hσo:∀t,t≠d->t≠s->fcS s d i e ie sz els r O t=(O t).bind (Ob.wipe d):=λt h1 h2=>by unfold fcS;rw[bz _ _ h1,bz _ _ h2];rfl
 have back:∀t o',fcS s d i e ie sz els r O t=some o'->t≠d->t≠s->∃o,O t=some o/\o.wipe d=some o':=λt o' ho h1 h2=>by
  rw[hσo t h1 h2] at ho;cases hst:O t with
  |none=>(rw[hst] at ho;cases ho)|some o=>rw[hst] at ho;exact⟨o,rfl,ho⟩
 have bk:∀t o' b,fcS s d i e ie sz els r O t=some o'->hbl (E' t) b->(t=d/\hbl c b)\/(t=s/\hbl (E' s) b)\/(t≠d/\t≠s/\∃o,O t=some o/\hbl (E t) b):=λt o' b ho hb=>by by_cases h1:t=d;{subst h1;rw[hEd] at hb;exact .inl ⟨rfl,hb⟩};{by_cases h2:t=s;{subst h2;exact .inr (.inl ⟨rfl,hb⟩)};{obtain⟨o,h3,_⟩:=back t o' ho h1 h2;rw[hEo t h1,hJo t h2] at hb;exact .inr (.inr ⟨h1,h2,o,h3,hb⟩)}}
 have own':∀t o' b,fcS s d i e ie sz els r O t=some o'->hbl (E' t) b->∃t1 o,O t1=some o/\hbl (E t1) b:=λt o' b ho hb=>by rcases bk t o' b ho hb with⟨_,h1⟩|⟨_,h1⟩|⟨_,_,o,h1,h2⟩;{exact⟨s,_,hs,bd b h1⟩};{exact⟨s,_,hs,bs b h1⟩};{exact⟨t,o,h1,h2⟩}
 have hk:Keep (cx.fr E O) (cx.fr E' (fcS s d i e ie sz els r O)) w w:=⟨Nat.le_refl _,λ_ _ _=>rfl,λb hb _=>⟨hb.1,λ⟨t,o',ho,he⟩=>hb.2 (own' t o' b ho he)⟩⟩
 refine⟨E',c,out,ivs,cs,hp,hsp,hc,hEd,hone,hhd,λt ht=>by rw[hEo t ht];exact hv t,⟨h.os,h.tape,h.output,h.drawn,h.size,h.block,?_,?_,?_,?_,?_⟩,hk,λv u hvu=>qg hEo v u (vsim_veq (.of hv) v u (fb hk v u hvu))⟩;{intro t o' ho;by_cases h1:t=d;{subst h1;rw[hσd] at ho;cases ho;have:=r9 (J:=E') (rowv_keep hk (λ_ _=>rfl) hrow);show rowv E' w _ (E' t) sz ie r;rw[hEd];exact this};{by_cases h2:t=s;{subst h2;rw[hσs] at ho;cases ho;refine⟨out,ivs.set i undef,cs,hEs,?_,by rw[List.length_set,List.length_map];exact hsp,?_⟩;{rw[hEs,gl,hset];exact hnd'.sublist (fm_sub _ _)};{have h3:=oq (i:=i) (x:=.own d) (c:=c) (iv:=undef) (qn (d:=d) (J:=E') hEo (ou (λt=>(hv t).hd) (k5 hk (λ_ _ _ _=>rfl) hn))) ⟨by rw[hEd,hhd],hone,rfl⟩;rwa [i6 hc] at h3}};{obtain⟨o,h3,h4⟩:=back t o' ho h1 h2;exact tg hEo h1 (osim_veqs hv (hJo t h2) (fy hk (h.objs t o h3) (λ_ _=>rfl) λ_ _ _ _ _ _=>rfl)) h4}}};{intro t o' b ho hb;obtain⟨t1,o,h1,h2⟩:=own' t o' b ho hb;exact h.own t1 o b h1 h2};{intro t t' o o' b ho ho' hb hb';rcases bk t o b ho hb with⟨e1,h1⟩|⟨e1,h1⟩|⟨n1,n2,o1,h1,h2⟩<;>rcases bk t' o' b ho' hb' with⟨e2,h3⟩|⟨e2,h3⟩|⟨m1,m2,o2,h3,h4⟩;{rw[e1,e2]};{exact absurd h3 (bds b h1)};{exact absurd (h.disj t' s o2 _ b h3 hs h4 (bd b h1)) m2};{exact absurd h1 (bds b h3)};{rw[e1,e2]};{exact absurd (h.disj t' s o2 _ b h3 hs h4 (bs b h1)) m2};{exact absurd (h.disj t s o1 _ b h1 hs h2 (bd b h3)) n2};{exact absurd (h.disj t s o1 _ b h1 hs h2 (bs b h3)) n2};{exact h.disj t t' o1 o2 b h1 h3 h2 h4}};{intro k hk1 hk2;rw[hEo k (by omega)];exact(h.inp k hk1 hk2).trans (hv k)}
 ·intro t m left last ho;by_cases h1:t=d;{subst h1;rw[hσd] at ho;cases ho}
  ·by_cases h2:t=s;{subst h2;rw[hσs] at ho;cases ho}
   ·obtain⟨o,h3,h4⟩:=back t _ ho h1 h2;cases o with
    |iter m' l' la'=>
     simp only[Ob.wipe] at h4;split at h4;{cases h4}
     ·rename_i hmd;cases h4;obtain⟨kk,es,hm⟩:=h.itm t _ _ _ h3;have hms:m≠s:=λe=>by rw[e,hs] at hm;cases hm
      exact⟨kk,_,by rw[hσo m hmd hms,hm];rfl⟩
    |_=>simp[Ob.wipe] at h4
def ufS (s t i:Nat) (e:NSp) (ie:TypeId) (sz:Nat) (els:List NE) (r:A8) (O:Sto):Sto:=upd (upd (cM t O) s (some (.nest e ie sz ((els.map (NE.wipe t)).set i (.rows r))))) t (some (.row sz ie []))
theorem Core.unfocus (h:Core cx E O w) {e:NSp} {ie:TypeId} {sz i t:Nat} {els:List NE} {r:A8} (hs:O s=some (.nest e ie sz els)) (hi:els[i]?=some (.own t)) (hr:O t=some (.row sz ie r)) (hd:t<inBase) :∃E',Core cx E' (ufS s t i e ie sz els r O) w/\∀v u,bI E w (cx.fr E O) v u->bI E' w (cx.fr E' (ufS s t i e ie sz els r O)) (v.wipe t) u:=by
 have hst:s≠t:=λe=>by rw[e,hr] at hs;cases hs
 obtain⟨out,ivs,cs,hp,hnd,hsp,hn⟩:=h.objs s _ hs;obtain⟨c,iv,hc,hiv,hx,hone,rfl⟩:=oJ hn hi;have hrow:rowv E w (cx.fr E O) (E t) sz ie r:=h.objs t _ hr;obtain⟨_,hhd,hbt⟩:=rowv_slice hrow;rw[hhd] at hx;subst hx;obtain⟨J,hψ⟩:∃J,J=upd E s (.tuple (out::ivs.set i (E t)).toArray):=⟨_,rfl⟩
 have hJs:J s=.tuple (out::ivs.set i (E t)).toArray:=by rw[hψ,upd_same]
 have hJo:∀k,k≠s->J k=E k:=λk hk=>by rw[hψ,bz _ _ hk]
 have hv:∀k,veq (E k) (J k):=λk=>by by_cases hk:k=s;{subst hk;rw[hp,hJs];exact .inr ⟨_,_,_,rfl,rfl⟩};{rw[hJo k hk];exact .refl _}
 obtain⟨E',hE'⟩:∃E',E'=upd J t (.slice none 0 0):=⟨_,rfl⟩
 have hEd:E' t=.slice none 0 0:=by rw[hE',upd_same]
 have hEo:∀k,k≠t->E' k=J k:=λk hk=>by rw[hE',bz _ _ hk]
 have hEs:E' s=.tuple (out::ivs.set i (E t)).toArray:=(hEo s hst).trans hJs;have hnd':=hnd;rw[hp,gl] at hnd';have hset:(out::ivs.set i (E t))=(out::ivs).set (i+1) (E t):=rfl;have hivc:(out::ivs)[i+1]?=some undef:=hiv;have bs:∀b,hbl (E' s) b->hbl (E s) b\/hbl (E t) b:=λb hb=>by rw[hEs,lE] at hb;rw[hp,lE,hbt];rcases hb with hb|⟨y,hy,hb⟩;{exact .inl (.inl hb)};{rcases List.mem_or_eq_of_mem_set hy with hy|rfl;{exact .inl (.inr ⟨y,hy,hb⟩)};{exact .inr hb}}
 have hσd:ufS s t i e ie sz els r O t=some (.row sz ie []):=by unfold ufS;rw[upd_same]
 have hσs:ufS s t i e ie sz els r O s=some (.nest e ie sz ((els.map (NE.wipe t)).set i (.rows r))):=by unfold ufS;rw[bz _ _ hst,upd_same]
 have hσo:∀k,k≠t->k≠s->ufS s t i e ie sz els r O k=(O k).bind (Ob.wipe t):=λk h1 h2=>by unfold ufS;rw[bz _ _ h1,bz _ _ h2];rfl
 have back:∀k o',ufS s t i e ie sz els r O k=some o'->k≠t->k≠s->∃o,O k=some o/\o.wipe t=some o':=λk o' ho h1 h2=>by
  rw[hσo k h1 h2] at ho;cases hst:O k with
  |none=>(rw[hst] at ho;cases ho)|some o=>rw[hst] at ho;exact⟨o,rfl,ho⟩
 have bk:∀k o' b,ufS s t i e ie sz els r O k=some o'->hbl (E' k) b->(k=s/\(hbl (E s) b\/hbl (E t) b))\/(k≠t/\k≠s/\∃o,O k=some o/\hbl (E k) b):=λk o' b ho hb=>by by_cases h1:k=t;{subst h1;rw[hEd] at hb;simp at hb};{by_cases h2:k=s;{subst h2;exact .inl ⟨rfl,bs b hb⟩};{obtain⟨o,h3,_⟩:=back k o' ho h1 h2;rw[hEo k h1,hJo k h2] at hb;exact .inr ⟨h1,h2,o,h3,hb⟩}}
 have own':∀k o' b,ufS s t i e ie sz els r O k=some o'->hbl (E' k) b->∃t1 o,O t1=some o/\hbl (E t1) b:=λk o' b ho hb=>by rcases bk k o' b ho hb with⟨_,h1|h1⟩|⟨_,_,o,h1,h2⟩;{exact⟨s,_,hs,h1⟩};{exact⟨t,_,hr,h1⟩};{exact⟨k,o,h1,h2⟩}
 have hk:Keep (cx.fr E O) (cx.fr E' (ufS s t i e ie sz els r O)) w w:=⟨Nat.le_refl _,λ_ _ _=>rfl,λb hb _=>⟨hb.1,λ⟨k,o',ho,he⟩=>hb.2 (own' k o' b ho he)⟩⟩
 refine⟨E',⟨h.os,h.tape,h.output,h.drawn,h.size,h.block,?_,?_,?_,?_,?_⟩,λv u hvu=>qg hEo v u (vsim_veq (.of hv) v u (fb hk v u hvu))⟩;{intro k o' ho;by_cases h1:k=t;{subst h1;rw[hσd] at ho;cases ho;exact⟨by simp,.inl ⟨rfl,none,hEd⟩⟩};{by_cases h2:k=s;{subst h2;rw[hσs] at ho;cases ho;refine⟨out,ivs.set i (E t),cs,hEs,?_,by rw[List.length_set,List.length_map];exact hsp,?_⟩;{rw[hEs,gl,hset];refine fm_add hivc hnd' λb hb hm=>hst (h.disj k t _ _ b hs hr ?_ ((hbt b).2 hb));rw[hp,se];exact hm};{have h3:=oq (i:=i) (x:=.rows r) (c:=E t) (iv:=E t) (qn (d:=t) (J:=E') hEo (ou (λt=>(hv t).hd) (k5 hk (λ_ _ _ _=>rfl) hn))) ⟨rfl,r9 (rowv_keep hk (λ_ _=>rfl) hrow)⟩;rwa [i6 hc] at h3}};{obtain⟨o,h3,h4⟩:=back k o' ho h1 h2;exact tg hEo h1 (osim_veqs hv (hJo k h2) (fy hk (h.objs k o h3) (λ_ _=>rfl) λ_ _ _ _ _ _=>rfl)) h4}}};{intro k o' b ho hb;obtain⟨t1,o,h1,h2⟩:=own' k o' b ho hb;exact h.own t1 o b h1 h2};{intro k k' o o' b ho ho' hb hb';rcases bk k o b ho hb with⟨e1,h1⟩|⟨n1,n2,o1,h1,h2⟩<;>rcases bk k' o' b ho' hb' with⟨e2,h3⟩|⟨m1,m2,o2,h3,h4⟩;{rw[e1,e2]};{rcases h1 with h1|h1;{exact absurd (h.disj k' s o2 _ b h3 hs h4 h1) m2};{exact absurd (h.disj k' t o2 _ b h3 hr h4 h1) m1}};{rcases h3 with h3|h3;{exact absurd (h.disj k s o1 _ b h1 hs h2 h3) n2};{exact absurd (h.disj k t o1 _ b h1 hr h2 h3) n1}};{exact h.disj k k' o1 o2 b h1 h3 h2 h4}};{intro k hk1 hk2;rw[hEo k (by omega)];exact(h.inp k hk1 hk2).trans (hv k)}
 ·intro k m left last ho;by_cases h1:k=t;{subst h1;rw[hσd] at ho;cases ho}
  ·by_cases h2:k=s;{subst h2;rw[hσs] at ho;cases ho}
   ·obtain⟨o,h3,h4⟩:=back k _ ho h1 h2;cases o with
    |iter m' l' la'=>
     simp only[Ob.wipe] at h4;split at h4;{cases h4}
     ·rename_i hmd;cases h4;obtain⟨kk,es,hm⟩:=h.itm k _ _ _ h3;have hms:m≠s:=λe=>by rw[e,hs] at hm;cases hm
      exact⟨kk,_,by rw[hσo m hmd hms,hm];rfl⟩
    |_=>simp[Ob.wipe] at h4
theorem Core.swap (h:Core cx E O w) {o o':Ob} {v:Value} (hs:O s=some o) (hin:s<inBase\/veq (E s) v) (hhd:hdv v=hdv (E s)) (hpt:∀a,E s=.pointer a->v=.pointer a) (hb:∀b,hbl v b->hbl (E s) b) (hit:∀t m l la,upd O s (some o') t=some (.iter m l la)->t≠s/\m≠s) (ho:∀F':Ad,HQ E (upd E s v)->Keep (cx.fr E O) F' w w->kq (upd E s v) w F' s o') :
  Core cx (upd E s v) (upd O s (some o')) w/\∀x u,bI E w (cx.fr E O) x u->bI (upd E s v) w (cx.fr (upd E s v) (upd O s (some o'))) x u:=by
 obtain⟨J,hψ⟩:∃J,J=upd E s v:=⟨_,rfl⟩
 have hJs:J s=v:=by rw[hψ,upd_same]
 have hJo:∀t,t≠s->J t=E t:=λt ht=>by rw[hψ,bz _ _ ht]
 rw[<- hψ] at ho⊢;have hq:HQ E J:=⟨λt=>by
  by_cases ht:t=s;{rw[ht,hJs,hhd]}
  ·rw[hJo t ht],λt a e=>by
  by_cases ht:t=s;{rw[ht] at e ⊢;rw[hJs];exact hpt a e}
  ·rw[hJo t ht,e]⟩
 have bs:∀t b,hbl (J t) b->hbl (E t) b:=λt b hb'=>by by_cases ht:t=s;{rw[ht] at hb' ⊢;rw[hJs] at hb';exact hb b hb'};{rwa [hJo t ht] at hb'}
 have dom:∀t o1,upd O s (some o') t=some o1->∃o2,O t=some o2/\(t≠s->o2=o1):=λt o1 ho1=>by by_cases ht:t=s;{exact⟨_,by rw[ht];exact hs,λh=>absurd ht h⟩};{rw[bz _ _ ht] at ho1;exact⟨o1,ho1,λ_=>rfl⟩}
 have hk:Keep (cx.fr E O) (cx.fr J (upd O s (some o'))) w w:=⟨Nat.le_refl _,λ_ _ _=>rfl,λb hb1 _=>⟨hb1.1,λ⟨t,o1,ho1,he⟩=>by obtain⟨o2,h1,_⟩:=dom t o1 ho1;exact hb1.2 ⟨t,o2,h1,bs t b he⟩⟩⟩
 refine⟨⟨h.os,h.tape,h.output,h.drawn,h.size,h.block,?_,?_,?_,?_,?_⟩,λx u hxu=>vsim_veq hq x u (fb hk x u hxu)⟩;{intro t o1 ho1;by_cases ht:t=s;{rw[ht,upd_same] at ho1;cases ho1;rw[ht];exact ho _ hq hk};{rw[bz _ _ ht] at ho1;exact osim_veq hq (λm l la e r hr=>by subst e;rw[hJo m (hit t m l la (by rw[bz _ _ ht];exact ho1)).2,hr]) (hJo t ht) (fy hk (h.objs t o1 ho1) (λ_ _=>rfl) λ_ _ _ _ _ _=>rfl)}};{intro t o1 b ho1 hb1;obtain⟨o2,h1,_⟩:=dom t o1 ho1;exact h.own t o2 b h1 (bs t b hb1)};{intro t t' o1 o2 b ho1 ho2 hb1 hb2;obtain⟨o3,h1,_⟩:=dom t o1 ho1;obtain⟨o4,h2,_⟩:=dom t' o2 ho2;exact h.disj t t' o3 o4 b h1 h2 (bs t b hb1) (bs t' b hb2)};{intro k hk1 hk2;by_cases ht:k=s;{rw[ht] at hk1 hk2⊢;rw[hJs];rcases hin with hin|hin;{omega};{exact(h.inp s hk1 hk2).trans hin}};{rw[hJo k ht];exact h.inp k hk1 hk2}};{intro t m left last ho1;have hi:=hit t m left last ho1;rw[bz _ _ hi.1] at ho1;obtain⟨kk,es,hm⟩:=h.itm t m left last ho1;exact⟨kk,es,by rw[bz _ _ hi.2];exact hm⟩}
theorem Core.renest (h:Core cx E O w) {e e':NSp} {ie:TypeId} {sz:Nat} {els els':List NE} {out:Value} {ivs ivs' cs':A9} (hs:O s=some (.nest e ie sz els)) (hp:E s=.tuple (out::ivs).toArray) (hsp:spine w e' els'.length out cs') (hsub:((out::ivs').filterMap gD).Sublist ((out::ivs).filterMap gD)) (hn:∀(J:A7) (F':Ad),(∀t,veq (E t) (J t))->Keep (cx.fr E O) F' w w->mM J w F' ie sz els' cs' ivs') :∃J,(∀t,veq (E t) (J t))/\J s=.tuple (out::ivs').toArray/\Core cx J (upd O s (some (.nest e' ie sz els'))) w/\∀v u,bI E w (cx.fr E O) v u->bI J w (cx.fr J (upd O s (some (.nest e' ie sz els')))) v u:=by
 have hve:veq (E s) (.tuple (out::ivs').toArray):=by rw[hp];exact .inr ⟨_,_,_,rfl,rfl⟩
 have hv:∀t,veq (E t) (upd E s (.tuple (out::ivs').toArray) t):=λt=>by by_cases ht:t=s;{rw[ht,upd_same];exact hve};{rw[bz _ _ ht];exact .refl _}
 have hnd:(blks (E s)).Nodup:=by obtain⟨_,_,_,_,hnd,_⟩:=h.objs s _ hs;exact hnd
 rw[hp,gl] at hnd;refine⟨_,hv,upd_same _ _ _,h.swap hs (.inr hve) (by rw[hp,fB,fB]) (λa e=>by rw[hp] at e;cases e) (λb hb=>by rw[se] at hb;rw[hp,se];exact hsub.mem hb) (λt m l la ho=>?_)
  λF' _ hk=>⟨out,ivs',cs',upd_same _ _ _,by rw[upd_same,gl];exact hnd.sublist hsub,hsp,hn _ _ hv hk⟩⟩
 by_cases ht:t=s;{rw[ht,upd_same] at ho;cases ho};{rw[bz _ _ ht] at ho;obtain⟨kk,es,hm⟩:=h.itm t m l la ho;exact⟨ht,λe=>by rw[e,hs] at hm;cases hm⟩}
theorem tF {E:A7} {F:Ad} {ie:TypeId} {sz:Nat} {x:NE} {c iv:Value} (hx:nsim E w F ie sz c iv x):∀{els:List NE} {cs ivs:A9},mM E w F ie sz els cs ivs->mM E w F ie sz (els++[x]) (cs++[c]) (ivs++[iv])|[],_,_,⟨h1,h2⟩=>by subst h1 h2;exact⟨c,[],iv,[],rfl,rfl,hx,rfl,rfl⟩|y::els,_,_,⟨c',cs',iv',ivs',h1,h2,h3,h4⟩=>by subst h1 h2;exact⟨c',_,iv',_,rfl,rfl,h3,tF hx h4⟩
theorem vget_none {es:AD} {k:Key} (h:∀x∈es,x.1≠k):vget es k=.slice none 0 0:=by unfold vget;rw[List.find?_eq_none.2 λx hx=>by simpa using h x hx];rfl
theorem Core.vir (h:Core cx E O w) {kk:KK} {ks:List Key} {ie:TypeId} {sz:Nat} {els:List NE} {key:Key} (hs:O s=some (.nest (.map kk ks) ie sz els)) (hf:key.fits kk=true) (hk:key ∉ ks) :∃J,Core cx J (upd O s (some (.nest (.map kk (ks++[key])) ie sz (els++[.rows []])))) w/\∀v u,bI E w (cx.fr E O) v u->bI J w (cx.fr J (upd O s (some (.nest (.map kk (ks++[key])) ie sz (els++[.rows []]))))) v u:=by
 obtain⟨out,ivs,cs,hp,hnd,⟨b,ents,clk,es,h1,h2,h3,h4,h5,h6,h7,h8,h9,h10,h11,h12⟩,hn⟩:=h.objs s _ hs;obtain⟨J,_,_,g3,g4⟩:=h.renest (e':=.map kk (ks++[key])) (els':=els++[.rows []]) (ivs':=ivs++[.slice none 0 0]) (cs':=cs++[.slice none 0 0]) hs hp ⟨b,ents,clk,es,h1,h2,h3,h4,h5,h6,h7,by simp[h8],by rw[h9,List.map_append,List.map_cons,List.map_nil,vget_none (es:=es) (k:=key) λx hx e=>hk (e ▸ h12 x hx)],List.nodup_append.2 ⟨h10,by simp,λa ha b hb e=>hk (by simp at hb;rw[<- hb,<- e];exact ha)⟩,
   λk hk'=>(List.mem_append.1 hk').elim (h11 k) λhk'=>by simp at hk';rw[hk'];exact hf,λx hx=>List.mem_append_left _ (h12 x hx)⟩
  (by rw[<- List.cons_append,List.filterMap_append];simp[gD]) λJ F' hv hk=>tF (x:=.rows []) (show nsim J w F' ie sz (.slice none 0 0) (.slice none 0 0) (.rows [])from⟨rfl,by simp,.inl ⟨rfl,none,rfl⟩⟩) (ou (λt=>(hv t).hd) (k5 hk (λ_ _ _ _=>rfl) hn))
 exact⟨J,g3,g4⟩
theorem Core.toNM (h:Core cx E O w) {kk:KK} {ie:TypeId} {sz:Nat} (hs:O s=some (.map kk [])) (hsb:s<inBase) (hit:∀t m l la,O t=some (.iter m l la)->m≠s) :∃J,Core cx J (upd O s (some (.nest (.map kk []) ie sz []))) w/\∀v u,bI E w (cx.fr E O) v u->bI J w (cx.fr J (upd O s (some (.nest (.map kk []) ie sz [])))) v u:=by obtain⟨b,ents,clk,h1,h2,h3,h4,h5,h6⟩:=h.objs s _ hs;refine⟨upd E s (.tuple (E s::[]).toArray),h.swap hs (.inl hsb) (by rw[fB,h1];rfl) (λa e=>by rw[h1] at e;cases e) (λb' hb=>?_) (λt m l la ho=>?_) λF' _ hk=>⟨E s,[],[],upd_same _ _ _,?_,⟨b,ents,clk,[],h1,h2,h3,h4,h5,(λ_ h=>by cases h),List.nodup_nil,rfl,rfl,List.nodup_nil,(λ_ h=>by cases h),λ_ h=>by cases h⟩,rfl,rfl⟩⟩;{rw[se,h1] at hb;rw[h1];simpa [gD] using hb};{by_cases ht:t=s;{rw[ht,upd_same] at ho;cases ho};{rw[bz _ _ ht] at ho;exact⟨ht,hit t m l la ho⟩}};{rw[upd_same,gl,h1];simp[gD]}
theorem Core.deaden (h:Core cx E O w) {e:NSp} {ie:TypeId} {sz i:Nat} {els:List NE} (hs:O s=some (.nest e ie sz els)) (hi:i<els.length) :∃J out ivs cs,(∀t,veq (E t) (J t))/\J s=.tuple (out::ivs).toArray/\spine w e els.length out cs/\ivs[i]?=some undef/\Core cx J (upd O s (some (.nest e ie sz (els.set i .dead)))) w /\ (∀v u,bI E w (cx.fr E O) v u->bI J w (cx.fr J (upd O s (some (.nest e ie sz (els.set i .dead))))) v u)/\mM J w (cx.fr J (upd O s (some (.nest e ie sz (els.set i .dead))))) ie sz (els.set i .dead) cs ivs:=by
 obtain⟨out,ivs,cs,hp,hnd,hsp,hn⟩:=h.objs s _ hs;obtain⟨c,iv,hc,hiv,hx⟩:=oJ hn (List.getElem?_eq_getElem hi);obtain⟨J,h1,h2,h3,h4⟩:=h.renest (els':=els.set i .dead) (ivs':=ivs.set i undef) hs hp (by rw[List.length_set];exact hsp) (fm_sub (out::ivs) (i+1)) λJ F' hv hk=>by have:=oq (i:=i) (x:=.dead) (c:=c) (iv:=undef) (ou (λt=>(hv t).hd) (k5 hk (λ_ _ _ _=>rfl) hn)) ⟨nsim_one hx,rfl⟩;rwa [i6 hc] at this
 obtain⟨out',ivs',cs',g1,_,g3,g4⟩:=h3.objs s _ (upd_same _ _ _);rw[h2] at g1;simp only[Value.tuple.injEq] at g1;obtain⟨rfl,rfl⟩:=g1;rw[List.length_set] at g3;exact⟨J,out,_,cs',h1,h2,g3,by rw[List.getElem?_set_self (by have:=(tT hn).2;omega)],h3,h4,g4⟩
theorem Core.toN (h:Core cx E O w) {e ie:TypeId} {sz k:Nat} (hs:O s=some (.row 1 e (List.replicate k [.nil]))) (hsb:s<inBase) :∃J,Core cx J (upd O s (some (.nest (.row e) ie sz (List.replicate k (.rows []))))) w/\∀v u,bI E w (cx.fr E O) v u->bI J w (cx.fr J (upd O s (some (.nest (.row e) ie sz (List.replicate k (.rows [])))))) v u:=by
 have hrow:rowv E w (cx.fr E O) (E s) 1 e (List.replicate k [.nil]):=h.objs s _ hs;obtain⟨hone,hhd,hbt⟩:=rowv_slice hrow;have hns:∀a,E s≠.pointer a:=by obtain⟨_,h1⟩:=hrow;rcases h1 with⟨_,a,h1⟩|⟨b,cap,cur,_,h1,_⟩<;>rw[h1]<;>exact λ_ h=>by cases h
 have hfm:∀n,(List.replicate n (Value.slice none 0 0)).filterMap gD=[]:=λn=>by
  induction n with
  |zero=>rfl|succ n ih=>rw[List.replicate_succ,List.filterMap_cons,ih];rfl
 have hrep:∀(J:A7) (F':Ad) n,mM J w F' ie sz (List.replicate n (.rows [])) (List.replicate n (.slice none 0 0)) (List.replicate n (.slice none 0 0)):=λJ F' n=>by
  induction n with
  |zero=>exact⟨rfl,rfl⟩|succ n ih=>exact⟨_,_,_,_,rfl,rfl,⟨rfl,by simp,.inl ⟨rfl,none,rfl⟩⟩,ih⟩
 have hcs:∀(n:Nat) (us:A9),bB E w (cx.fr E O) ((List.replicate n [L.nil]).flatten.map C.d) us->us=List.replicate n (.slice none 0 0):=λn=>by
  induction n with
  |zero=>intro us h;simpa [bB] using h|succ n ih=>intro us h;rw[List.replicate_succ,List.flatten_cons,List.map_append] at h;simp only[List.map_cons,List.map_nil,List.singleton_append,bB,bG,rep] at h;obtain⟨v,r,rfl,rfl,h⟩:=h;rw[ih r h,List.replicate_succ]
 refine⟨upd E s (.tuple (E s::List.replicate k (.slice none 0 0)).toArray),h.swap hs (.inl hsb) (by rw[fB,hhd]) (λa e=>absurd e (hns a)) (λb hb=>?_) (λt m l la ho=>?_)
  λF' _ hk=>⟨E s,List.replicate k (.slice none 0 0),List.replicate k (.slice none 0 0),upd_same _ _ _,?_,?_,hrep _ _ k⟩⟩
 ·rw[se,List.filterMap_cons,hfm] at hb;rw[hbt];revert hb;cases gD (E s)with|none=>simp|some c=>simp[eq_comm]
 ·by_cases ht:t=s;{rw[ht,upd_same] at ho;cases ho};{rw[bz _ _ ht] at ho;obtain⟨kk,es,hm⟩:=h.itm t m l la ho;exact⟨ht,λe=>by rw[e,hs] at hm;cases hm⟩}
 ·rw[upd_same,gl,List.filterMap_cons,hfm];cases gD (E s)<;>simp
 ·rw[List.length_replicate];obtain⟨_,h1⟩:=hrow;rcases h1 with⟨h0,a,h1⟩|⟨b,cap,cur,h0,h1,h2,h3,h4,h5,h6⟩;{cases k with|zero=>exact .inl ⟨rfl,rfl,a,h1⟩|succ k=>simp[List.replicate_succ] at h0};{rw[List.length_replicate] at h1 h2 h6;rw[Nat.mul_one] at h5 h6;exact .inr ⟨b,cap,cur,h0,h1,h2,h3,h4,h5,(hcs k _ h6).symm⟩}
end
def ft {I:Type} (f:I->Ak) (l:List (List I)):List NE:=l.map λr=>.rows (r.map f)
section
variable {I:Type} {f:I->Ak} {l:List (List I)}
theorem nels_wipe (d:Nat):(ft f l).map (NE.wipe d)=ft f l:=by unfold ft;rw[List.map_map];rfl
theorem nels_ren (g:Aj):(ft f l).map (NE.ren g)=ft f l:=by unfold ft;rw[List.map_map];rfl
theorem nels_closed:(ft f l).all NE.closed=true:=by unfold ft;simp[NE.closed]
theorem sf:(ft f l).length=l.length:=by simp[ft]
theorem nels_set (i:Nat) (r:List I):(ft f l).set i (.rows (r.map f))=ft f (l.set i r):=by unfold ft;rw[List.map_set]
theorem nels_rep (k:Nat):ft f (List.replicate k [])=List.replicate k (.rows []):=by unfold ft;rw[List.map_replicate];rfl
theorem newipe_own (d t:Nat):NE.wipe d (.own t)=if t=d then .dead else .own t:=rfl
end
def noTop (cs:As):Bool:=cs.all λc=>match c with|.top=>false|_=>true
def cK (Z:Env) (d:Ac) (v:V):Env:=match d with|some d=>upd Z d v|none=>Z
def fstRow (O:Sto) (sz:Nat) (e:TypeId):V->Option (Ac×A8)
 |.u (.one (.d .nil))=>some (none,[])|.u (.one (.d .emp))=>some (none,[])|.u (.one (.own s))=>match O s with
  |some (.row sz' e' rows)=>if sz'=sz/\e'=e then some (some s,rows)else none|_=>none
 |_=>none
def fullV (sz:Nat):V->Option A8|.u (.one (.d (.slx sz' rows)))=>if sz'=sz then some rows else none|_=>none
def tU (O:Sto) (sz:Nat):V->Option A8
 |.u (.one (.d .nil))=>some []|.u (.one (.d .emp))=>some []|.u (.one (.d (.sl sz' rows)))=>if sz'=sz then some rows else none|.u (.one (.own s))=>match O s with
  |some (.row sz' _ rows)=>if sz'=sz then some rows else none|_=>none
 |.u (.one (.sub s sz' a n))=>match O s with
  |some (.row sz'' _ rows)=>if sz'=sz/\sz''=sz/\n<=rows.length then some (subRow rows a n)else none|_=>none
 |_=>none
def preRow (rows:A8) (n:Nat) (news:A8):A8:=rows.take n++news++rows.drop (n+news.length)
def preV (O:Sto) (sz:Nat) (e:TypeId):V->Option (Nat×Nat×A8)
 |.u (.one (.sub s sz' 0 n))=>match O s with
  |some (.row sz'' e' rows)=>if sz'=sz/\sz''=sz/\e'=e then some (s,n,rows)else none|_=>none
 |_=>none
def mset:Am->Key->U->Am|[],k,u=>[(k,u)]|x::es,k,u=>if x.1=k then(k,u)::es else x::mset es k u
def mdel:Am->Key->Am|[],_=>[]|x::es,k=>if x.1=k then es else x::mdel es k
def vu:V->Option U|.u u=>some u|_=>none
def qint:V->AB|.u (.one (.d (.int _ n)))=>some n|_=>none
def tV (tb:Tb) (Z:Env) (O:Sto) (t:TypeId) (x y:V) (K:A3):Prop:=match tb.ty t,x,nZ y with
 |some ti,.u (.one (.box s off)),some xs=>match O s with
  |some (.box cs)=>xs.length=ti.size/\off+ti.size<=cs.length/\noTop xs=true/\K Z (upd O s (some (.box (cs.take off++xs++cs.drop (off+ti.size)))))|_=>False
 |some ti,.u (.one (.elt s i sz off)),some xs=>match O s,rq xs with
  |some (.row sz' e rows),some ys=>match rows[i]? with
   |some r=>sz=sz'/\ys.length=ti.size/\off+ti.size<=r.length/\K Z (upd O s (some (.row sz' e (rows.set i (r.take off++ys++r.drop (off+ti.size))))))|none=>False
  |some (.nest (.row e) ie sz' els),_=>match xs with
   |[.own t']=>sz=1/\off=0/\ti.size=1/\i<els.length/\K Z (upd O s (some (.nest (.row e) ie sz' (els.set i (.own t')))))|_=>False
  |_,_=>False
 |_,_,_=>False
def nJ (tb:Tb) (Z:Env) (O:Sto) (d:Nat) (t:TypeId) (x y:V) (K:A3):Prop:=match tb.ty t with
 |some ti=>match ti.desc with
  |.slice e=>match tb.ty e with
   |some te=>match fstRow O te.size e x,tU O te.size y with
    |some (so,rows),some news=>0<te.size/\0<te.bytes/\(rows.length+news.length)*te.bytes<=140737488355328 /\ K (upd (eY d Z) d (.u (.one (.own d)))) (upd (cM d (drop so O)) d (some (.row te.size e (rows++news))))|none,some news=>match fullV te.size x with
     |some rows=>(0<te.size/\0<te.bytes/\(rows.length+news.length)*te.bytes<=140737488355328/\0<news.length)/\K (upd (eY d Z) d (.u (.one (.own d)))) (upd (cM d O) d (some (.row te.size e (rows++news))))|none=>False
    |_,_=>False
   |none=>False
  |_=>False
 |none=>False
def preT (te:Option TI) (e:TypeId) (Z:Env) (O:Sto) (d:Nat) (x y:V):Ae:=match te with
 |some te=>match preV O te.size e x with
  |some (s,n,rows)=>match tU O te.size y with
   |some news=>some ((0<te.size/\n+news.length<=rows.length),upd Z d (.u (.one (.sub s te.size 0 (n+news.length)))),upd O s (some (.row te.size e (preRow rows n news))))|none=>none
  |none=>none
 |none=>none
def preD (tb:Tb) (ti:Option TI) (Z:Env) (O:Sto) (d:Nat) (x y:V):Ae:=match ti with
 |some ti=>match ti.desc with
  |.slice e=>preT (tb.ty e) e Z O d x y|_=>none
 |none=>none
def preR (tb:Tb) (Z:Env) (O:Sto) (op:Op) (d:Ac):Ae:=match op with
 |.call c=>match c.callee,c.args.toList,c.argTypes.toList,d with
  |.builtin .append,[x,y],[t,t'],some d=>if t=t' then preD tb (tb.ty t) Z O d (oev Z x) (oev Z y)else none|_,_,_,_=>none
 |_=>none
def tJ (Z:Env) (O:Sto) (d:Nat) (cs:Option As) (K:A3):Prop:=match cs with|some cs=>noTop cs=true/\K (upd (eY d Z) d (.u (.one (.box d 0)))) (upd (cM d O) d (some (.box (cs.map (C.wipe d)))))|none=>False
def nh:U->As|.one c=>[c]|.agg cs=>cs
def allOne:Value->Bool|.agg arr=>arr.toList.all Value.oneCell'|_=>false
def okZero (ti:TI):Bool:=match ti.zu with|.one .top=>ti.zv.oneCell'|.one _=>true|.agg cs=>noTop cs||allOne ti.zv
def aAllocBox (ti:TI) (Z:Env) (O:Sto) (d:Nat) (K:A3):Prop:=okZero ti=true/\K (upd (eY d Z) d (.u (.one (.box d 0)))) (upd (cM d O) d (some (.box ((nh ti.zu).map (C.wipe d)))))
def neC:U->Option NE|.one (.own t)=>some (.own t)|.one (.sub t z 0 n)=>some (.sub t z n)|_=>none
def rMapN (kk':Option KK) (kk:KK) (ks:List Key) (ie:TypeId) (sz:Nat) (els:List NE) (key:Key) (u:U) (Z:Env) (O:Sto) (s:Nat):Ae:=match neC u with|some x=>some ((kk'=some kk/\key.fits kk=true/\iU ks key<ks.length),Z,upd O s (some (.nest (.map kk ks) ie sz (els.set (iU ks key) x))))|none=>none
def stpN' (r:Ae) (K:A3):Prop:=match r with|some (p,Z',O')=>p/\K Z' O'|none=>False
def pU (tb:Tb) (Z:Env) (O:Sto) (t:TypeId) (m k x:V) (K:A3):Prop:=match tb.ty t,m,vkey k,vu x with
 |some ti,.u (.one (.map s)),some key,some u=>match ti.desc,O s with
  |.map kt _,some (.map kk es)=>tb.key kt=some kk/\key.fits kk=true/\K Z (upd (lm s O) s (some (.map kk (mset es key u))))|.map kt _,some (.nest (.map kk ks) ie sz els)=>stpN' (rMapN (tb.key kt) kk ks ie sz els key u Z O s) K|_,_=>False
 |_,_,_,_=>False
def oS (tb:Tb) (Z:Env) (O:Sto) (d:Nat) (t:TypeId) (r:At) (K:A3):Prop:=match tb.ty t with
 |some ti=>match ti.desc with
  |.map kt _=>match tb.key kt with
   |some kk=>(match r with|none=>True|some v=>(qint v).isSome=true)/\K (upd (eY d Z) d (.u (.one (.map d)))) (upd (cM d O) d (some (.map kk [])))|none=>False
  |_=>False
 |none=>False
def m9 (tb:Tb) (Z:Env) (O:Sto) (d:Nat) (t:TypeId) (x c:V) (K:A3):Prop:=match tb.ty t with
 |some ti=>match ti.desc with
  |.slice e=>match tb.ty e with
   |some te=>match x,c,(nZ (.u te.zu)).bind rq with
    |.u (.one (.d (.int .i64 n))),.u (.one (.d (.int .i64 m))),some zr=>(0<=n/\n<=m/\0<te.size/\0<te.bytes/\m*te.bytes<=140737488355328) /\ K (upd (eY d Z) d (.u (.one (.own d)))) (upd (cM d O) d (some (.row te.size e (List.replicate n.toNat zr))))|_,_,_=>False
   |none=>False
  |_=>False
 |none=>False
def aNext (Z:Env) (O:Sto) (d:Nat) (x:V) (K:A3):Prop:=match x with
 |.u (.one (.iter s))=>match O s with
  |some (.iter m left _)=>(left=[]->K (upd Z d (.tup [.one (.d (.bool false))])) O) /\ ∀i x,left[i]?=some x->K (upd Z d (.tup [.one (.d (.bool true)),x.1.u,x.2])) (upd O s (some (.iter m (left.eraseIdx i) (some x))))|_=>False
 |_=>False
def aEntry (Z:Env) (O:Sto) (d:Nat) (x:V) (K:A3):Prop:=match x with
 |.u (.one (.iter s))=>match O s with
  |some (.iter _ _ (some x))=>K (upd Z d (.tup [x.1.u,x.2])) O|_=>False
 |_=>False
def aEqNil (tb:Tb) (Z:Env) (O:Sto) (d:Nat) (op:BinOp) (t:TypeId) (x y:V) (K:A3):Prop:=match tb.ty t,x,y with
 |some ti,.u (.one (.d (.sl _ []))),.u (.one (.d .nil))=>match ti.desc,op with
  |.slice _,.eql=>K (upd Z d (.u (.one (.d (.bool true))))) O/\K (upd Z d (.u (.one (.d (.bool false))))) O|_,_=>False
 |_,_,_=>False
def jr (tb:Tb) (Z:Env) (O:Sto) (o:Oper) (K:A3):Prop :=match o.op,o.dst with
 |.alloc t,some d=>match tb.ty t with
  |some ti=>aAllocBox ti Z O d K|none=>False
 |.box _ x,some d=>tJ Z O d (nZ (oev Z x)) K|.store t x y,none=>tV tb Z O t (oev Z x) (oev Z y) K|.call c,d=>match c.callee,c.args.toList,c.argTypes.toList,d with
  |.builtin .append,[x,y],[t,t'],some d=>if t=t' then nJ tb Z O d t (oev Z x) (oev Z y) K else False|_,_,_,_=>False
 |.mapUpdate t m k x,none=>pU tb Z O t (oev Z m) (oev Z k) (oev Z x) K|.makeSlice t x c,some d=>m9 tb Z O d t (oev Z x) (oev Z c) K|.makeMap t r,some d=>oS tb Z O d t (r.map (oev Z)) K|.entry x,some d=>aEntry Z O d (oev Z x) K|.binOp op t x y _,some d=>aEqNil tb Z O d op t (oev Z x) (oev Z y) K|_,_=>False
def Step (P:Program) (cx:Cx) (o:Oper) (Z:Env) (O:Sto) (K:A3):Prop :=∀(E:A7) (a:Act) (w:World),Sim cx E Z O a w->∀(next:Act->World->Prop) (Q:Exit->Act->World->Prop),(∀E' Z' O' a' w',Sim cx E' Z' O' a' w'->K Z' O'->next a' w')->o.wp P a w next Q
section
variable {P:Program} {tb:Tb} {cx:Cx} {Z:Env} {O:Sto} {o:Oper} {K:A3}
theorem Sim.put {E:A7} {a:Act} {w:World} (h:Sim cx E Z O a w) {d:Ac} (hd:∀x,d=some x->x<cx.n) {v:V} {u:Value} (hv:bI E w (cx.fr E O) v u) :
  Sim cx E (cK Z d v) O (a.put d u) w:=by
 cases d with
 |none=>exact h|some d=>refine⟨h.core,qh h.slots hv (Nat.lt_of_lt_of_le (hd d rfl) h.room),h.defers,?_⟩;simpa [Act.put] using h.room
theorem Step.of_quiet {S:Az} (h:Quiet P cx o Z O S) (hd:∀x,o.dst=some x->x<cx.n) (hk:∀v,S v->K (cK Z o.dst v) O):Step P cx o Z O K:=by
 intro E a w hs next Q hn
 have hq:=h E a w hs.core (λx _=>dW hs.core.gw hs.slots x);unfold Oper.wp;generalize (execOp a.eval o).run P w=r at hq;cases r with
 |ok n w'=>
  cases n with
  |value u=>
   obtain⟨hb,v,hv,hvs⟩:=hq;exact hn E _ O _ w' ((hs.below hb).put hd hvs) (hk v hv)
  |enter f args=>
   obtain⟨hb,hc⟩:=hq;refine hc.mono λe w'' he=>?_;obtain⟨u,v,rfl,hb',hv,hvs⟩:=he;exact hn E _ O _ w'' (((hs.below hb).below hb').put hd hvs) (hk v hv)
  |_=>exact hq.elim
 |halt x w'=>exact hq.elim
theorem Step.of_run {a:Act} {w w':World} {u:Value} (hr:(execOp a.eval o).run P w=.ok (.value u) w') {E':A7} {Z':Env} {O':Sto} (hs:Sim cx E' Z' O' (a.put o.dst u) w') (hk:K Z' O') {next:Act->World->Prop} {Q:Exit->Act->World->Prop} (hn:∀E' Z' O' a' w',Sim cx E' Z' O' a' w'->K Z' O'->next a' w'):o.wp P a w next Q:=by unfold Oper.wp;rw[hr];exact hn _ _ _ _ _ hs hk
theorem o5 {E:A7} {w:World} {F:Ad}:∀{cs:As} {vs:A9},noTop cs=true->bB E w F cs vs->∀u∈vs,u.oneCell'=true|[],vs,_,h=>by simp_all[bB]|c::cs,vs,hn,h=>by simp only[bB] at h;obtain⟨v,r,rfl,hc,h⟩:=h;simp only[noTop,List.all_cons,Bool.and_eq_true] at hn;intro u hu;rcases List.mem_cons.1 hu with rfl|hu;{grind[nQ]};{exact o5 hn.2 h u hu}
theorem Sim.new {E:A7} {a:Act} {w w':World} {d:Nat} {hv:Value} {c:C} {Z':Env} {O':Sto} (hs:Sim cx E Z O a w) (hd:d<cx.n) (h:Core cx (upd E d hv) O' w'/\Keep (cx.fr E O) (cx.fr (upd E d hv) O') w w'/\∀v u,bI E w (cx.fr E O) v u->bI (upd E d hv) w' (cx.fr (upd E d hv) O') (v.wipe d) u) (hρ:Z'=upd (eY d Z) d (.u (.one c))) (hc:bG (upd E d hv) w' (cx.fr (upd E d hv) O') c hv):Sim cx (upd E d hv) Z' O' (a.put (some d) hv) w':=by subst hρ;obtain⟨h1,_,h3⟩:=h;refine⟨h1,qh (λt=>h3 _ _ (hs.slots t)) hc (Nat.lt_of_lt_of_le hd hs.room),hs.defers,?_⟩;simpa [Act.put] using hs.room
theorem nw (O:Sto):drop none O=O:=by rfl
theorem newBox_step {E:A7} {a:Act} {w:World} {d:Nat} {t:TypeId} {cs:As} {arr:Array Value} (hs:Sim cx E Z O a w) (hd:d<cx.n) (hd':d<inBase) (hc:bB E w (cx.fr E O) cs arr.toList) (hn:∀u∈arr.toList,u.oneCell'=true) :
  Sim cx (upd E d (.pointer (some ⟨w.heap.size,0,none⟩))) (upd (eY d Z) d (.u (.one (.box d 0)))) (upd (cM d O) d (some (.box (cs.map (C.wipe d))))) (a.put (some d) (.pointer (some ⟨w.heap.size,0,none⟩))) (w.alloc (.cells arr t)):=by have hb:Blw w.heap.size w (w.alloc (.cells arr t)):=(Blw.refl _ _).alloc (Nat.le_refl _) _;have key:=hs.core.replace (so:=none) (d:=d) (hv:=.pointer (some ⟨w.heap.size,0,none⟩)) (ob:=.box (cs.map (C.wipe d))) (w':=w.alloc (.cells arr t)) hd' (λ_ _ h=>by cases h) hb.os hb.tape hb.output hb.drawn hb.size (λb hl _=>hb.block b hl) (λb hbk=>by simp_all) (λ_ _ _ h=>by cases h) (λhk=>⟨w.heap.size,arr,t,upd_same _ _ _,heap_alloc_new w _,rC (λt ht=>bz _ _ ht) _ _ (cF hk _ _ hc),hn⟩);rw[nw] at key;exact Sim.new hs hd key rfl (by simp only[bG];exact⟨w.heap.size,upd_same _ _ _,rfl⟩)
theorem alloc_sound (ht:TbOk P tb) {d:Nat} {t:TypeId} (hop:o.op=.alloc t) (hdst:o.dst=some d) (hd:d<cx.n) (hd':d<inBase) (h:jr tb Z O o K):Step P cx o Z O K:=by
 intro E a w hs next Q hn
 unfold jr at h;simp only[hop,hdst] at h;split at h
 ·rename_i ti hty;have T:=ht.ty t ti hty;obtain⟨h1,h2⟩:=h;have hz:=T.zero E w (cx.fr E O);have hc:bB E w (cx.fr E O) (nh ti.zu) ti.zv.cells.toList/\∀u∈ti.zv.cells.toList,u.oneCell'=true:=by
   unfold okZero at h1;cases hu:ti.zu with
   |one c=>
    rw[hu] at hz h1;have ho:ti.zv.oneCell'=true:=by
     cases c with
     |top=>exact h1|_=>exact nQ (by simp) hz
    rw[sk ho];simp only[nh,bB];exact⟨⟨ti.zv,[],rfl,hz,rfl⟩,λu hu=>by simp_all⟩
   |agg cs=>rw[hu] at hz h1;obtain⟨arr,he,hcs⟩:=hz;rw[he];refine⟨hcs,?_⟩;simp only[Bool.or_eq_true] at h1;rcases h1 with h1|h1;{exact o5 h1 hcs};{rw[he] at h1;exact λu hu=>List.all_eq_true.1 h1 u hu}
  refine Step.of_run (u:=.pointer (some ⟨w.heap.size,0,none⟩)) (w':=w.alloc (.cells ti.zv.cells t)) ?_ (by rw[hdst];exact newBox_step hs hd hd' hc.1 hc.2) h2 hn;simp[execOp,hop,Instr.alloc,T.run_zero,newVar,tY]
 ·exact h.elim
theorem box_sound {d:Nat} {t:TypeId} {x:Operand} (hop:o.op=.box t x) (hdst:o.dst=some d) (hd:d<cx.n) (hd':d<inBase) (h:jr tb Z O o K):Step P cx o Z O K:=by
 intro E a w hs next Q hn
 unfold jr at h;simp only[hop,hdst] at h;unfold tJ at h;split at h;{rename_i cs hcs;have hc:=iq (E:=E) (w:=w) (F:=cx.fr E O) hcs (dW hs.core.gw hs.slots x);refine Step.of_run (u:=.pointer (some ⟨w.heap.size,0,none⟩)) (w':=w.alloc (.cells (a.eval x).cells t)) ?_ (by rw[hdst];exact newBox_step hs hd hd' hc (o5 h.1 hc)) h.2 hn;simp[execOp,hop,Instr.box,newVar,tY]};{exact h.elim}
theorem run_storeVar {P:Program} {w:World} {t:TypeId} {ti:TI} (T:TabFact P t ti) {b off:Nat} {cur:Array Value} {e:TypeId} (hh:w.heap[b]?=some (.cells cur e (0,0))) {v:Value} (hsz:v.cells.size=ti.size) (hroom:off+ti.size<=cur.size) (h1:∀u∈v.cells.toList,u.oneCell'=true) :(Instr.storeAt t (.pointer (some ⟨b,off,none⟩)) v).run P w=.ok () (w.setRow b (cur.toList.take off++v.cells.toList++cur.toList.drop (off+ti.size)).toArray):=by have hst:=run_storeCells_at P b off e v.cells.toList 0 cur w hh (by simp;omega) h1;simp only[Nat.add_zero] at hst;unfold Instr.storeAt storeVar;simp only[Instr.sureAddr,Sem.run_bind,Sem.run_pure,Result.andThen_ok,T.run_size,hsz,ne_eq,not_true_eq_false,if_false];grind
theorem store_sound (ht:TbOk P tb) {t:TypeId} {x y:Operand} (hop:o.op=.store t x y) (hdst:o.dst=none) (h:jr tb Z O o K):Step P cx o Z O K:=by
 intro E a w hs next Q hn
 unfold jr at h;simp only[hop,hdst] at h;unfold tV at h;have hx:=dW hs.core.gw hs.slots x;have hy:=dW hs.core.gw hs.slots y;have go:∀(b off:Nat) (cur:Array Value) (e:TypeId) (ti:TI) (s:Nat) (ob ob':Ob),tb.ty t=some ti->a.eval x=.pointer (some ⟨b,off,none⟩)->w.heap[b]?=some (.cells cur e (0,0))->(a.eval y).cells.size=ti.size->off+ti.size<=cur.size -> (∀u∈(a.eval y).cells.toList,u.oneCell'=true)->O s=some ob->(∀kk es,ob≠.map kk es)->(∀m l la,ob'≠.iter m l la)->hbl (E s) b -> (Keep (cx.fr E O) (cx.fr E (upd O s (some ob'))) w (w.setRow b (cur.toList.take off++(a.eval y).cells.toList++cur.toList.drop (off+ti.size)).toArray) ->
    kq E (w.setRow b (cur.toList.take off++(a.eval y).cells.toList++cur.toList.drop (off+ti.size)).toArray) (cx.fr E (upd O s (some ob'))) s ob') ->
   K Z (upd O s (some ob'))->o.wp P a w next Q:=by
  intro b off cur e ti s ob ob' hty hxe hh hsz hroom h1 hs' hnm hni hbk hob hk;have T:=ht.ty t ti hty;have hrun:=run_storeVar T hh hsz hroom h1;have key:=hs.core.mutate (s:=s) (ob':=ob') (w':=w.setRow b (cur.toList.take off++(a.eval y).cells.toList++cur.toList.drop (off+ti.size)).toArray) hs' (σ1:=O) (λ_ _ _ h=>h) (λt m l la _ h e=>by subst e;obtain⟨kk,es,hm⟩:=hs.core.itm t m l la h;grind) (λ_ _ _ h _=>h) (λm l la h=>absurd h (hni m l la)) rfl rfl rfl (Nat.le_refl _) (by simp) (λb' _ hne=>setRow_other w b b' _ (λe=>hne (e ▸ hbk))) hob;have hs2:Sim cx E Z (upd O s (some ob')) (a.put o.dst undef) (w.setRow b (cur.toList.take off++(a.eval y).cells.toList++cur.toList.drop (off+ti.size)).toArray):=by rw[hdst];exact⟨key.1,λt=>fb key.2 _ _ (hs.slots t),hs.defers,hs.room⟩
  unfold Oper.wp;have he:(execOp a.eval o).run P w=.ok .skip (w.setRow b (cur.toList.take off++(a.eval y).cells.toList++cur.toList.drop (off+ti.size)).toArray):=by simp[execOp,hop,hxe,hrun]
  rw[he];exact hn _ _ _ _ _ hs2 hk
 split at h;{rename_i ti s off xs hty hxv hyv;split at h;{rename_i cs hs';obtain⟨h1,h2,h3,h4⟩:=h;rw[hxv] at hx;obtain⟨b,arr,t',hp,hh,hc,hone⟩:=hs.core.objs s _ hs';obtain⟨b',hb',hxe⟩:=hx;rw[hp] at hb';simp only[Value.pointer.injEq,Option.some.injEq,Addr.mk.injEq] at hb';obtain⟨rfl,_,_⟩:=hb';have hcy:=iq hyv hy;have hl1:=cR hcy;have hl2:=cR hc;simp only[Array.length_toList] at hl1 hl2;have h1c:=o5 h3 hcy;refine go b off arr t' ti s _ (.box (cs.take off++xs++cs.drop (off+ti.size))) hty hxe hh (by omega) (by omega) h1c hs' (λ_ _ h=>by cases h) (λ_ _ _ h=>by cases h) (by rw[hp];simp) (λhk=>?_) h4;refine⟨b,_,t',hp,setRow_heap w b arr _ t' (0,0) hh,?_,?_⟩;{grind[ek,iL,cF,lq]};grind};{exact h.elim}}
 ·rename_i ti s i sz off xs hty hxv hyv;split at h
  ·rename_i sz' e rows ys hs' hys;split at h
   ·rename_i r hr;obtain⟨rfl,h1,h2,h4⟩:=h;rw[hxv] at hx;obtain⟨b',n',c',hb',hxe⟩:=hx;obtain⟨hrl,ho⟩:=hs.core.objs s _ hs';rcases ho with⟨h0,_⟩|⟨b,cap,cur,h0,hp,hl,hm',hh,hcs,hc⟩;{grind}
    ·rw[hp] at hb';simp at hb';obtain⟨rfl,_,_⟩:=hb';have hcy:=iq hyv hy;rw[sU hys] at hcy;have hl1:=cR hcy;simp only[List.length_map,Array.length_toList] at hl1;have hil:i<rows.length:=(List.getElem?_eq_some_iff.1 hr).1;have hri:=hrl r (List.mem_of_getElem? hr);have hle:i*sz+sz<=rows.length*sz:=by have:=Nat.mul_le_mul_right sz (show i+1<=rows.length from hil);grind
     have hle2:rows.length*sz<=cap*sz:=Nat.mul_le_mul_right sz hl;have h1c:=jm hcy;have hnew:(r.take off++ys++r.drop (off+ti.size)).length=sz:=by simp;omega
     refine go b (i*sz+off) cur e ti s _ (.row sz e (rows.set i (r.take off++ys++r.drop (off+ti.size)))) hty hxe hh (by omega) (by omega) h1c hs' (λ_ _ h=>by cases h) (λ_ _ _ h=>by cases h) (by rw[hp];simp only[hbl_slice];grind) (λhk=>?_) h4;refine⟨λq hq=>?_,.inr ⟨b,cap,_,h0,by simp_all,by simp_all,hm',setRow_heap w b cur _ e (0,0) hh,?_,?_⟩⟩;{grind};{simp;omega}
     ·rw[List.length_set,flatten_set hrl hil];have hfl:=fR hrl;have hck:=cF hk _ _ hc;have hcy':=cF hk _ _ hcy;have e1:rows.flatten.take (i*sz)++(r.take off++ys++r.drop (off+ti.size))++rows.flatten.drop (i*sz+sz) =
        rows.flatten.take (i*sz+off)++ys++rows.flatten.drop (i*sz+off+ti.size):=by
       have hrow:=flatten_row hrl hr;have d1:rows.flatten.take (i*sz+off)=rows.flatten.take (i*sz)++r.take off:=by rw[List.take_add,<- hrow,List.take_take,Nat.min_eq_left (by omega)]
       have d2:rows.flatten.drop (i*sz+off+ti.size)=r.drop (off+ti.size)++rows.flatten.drop (i*sz+sz):=by rw[Nat.add_assoc,<- List.drop_drop];grind[List.take_append_drop,List.drop_drop]
       rw[d1,d2];simp
      rw[e1];have e2:(cur.toList.take (i*sz+off)++(a.eval y).cells.toList++cur.toList.drop (i*sz+off+ti.size)).take (rows.length*sz) = (cur.toList.take (rows.length*sz)).take (i*sz+off)++(a.eval y).cells.toList++(cur.toList.take (rows.length*sz)).drop (i*sz+off+ti.size):=by
       rw[List.take_append,List.take_append,List.take_take,List.take_take,List.drop_take];have q1:(cur.toList.take (i*sz+off)).length=i*sz+off:=by simp;omega
       have q2:(cur.toList.take (i*sz+off)++(a.eval y).cells.toList).length=i*sz+off+ti.size:=by simp_all
       rw[q1,q2,Nat.min_eq_right (by omega),Nat.min_eq_left (by omega),List.take_of_length_le (l:=(a.eval y).cells.toList) (by grind)]
      grind[List.map_take,List.map_drop,ek,iL,lq]
   ·exact h.elim
  ·rename_i e ie sz' els hs';split at h
   ·rename_i t';obtain⟨rfl,rfl,h2,h3,h4⟩:=h;obtain⟨J,out,ivs,cs,hv,hp,hsp,hiv,hco,hvs,hns⟩:=hs.core.deaden hs' h3;rw[hxv] at hx;simp only[bI,ct,bG] at hx;obtain⟨b,n,c,hb',hxe⟩:=hx;rw[Nat.mul_one,Nat.add_zero] at hxe;rw[<- (hv s).hd,hp,fB] at hb';subst hb';rcases hsp with⟨h0,_⟩|⟨b',cap,cur,h0,ho,hl,hm,hh,hz,rfl⟩;{omega};simp only[Value.slice.injEq,Option.some.injEq,Addr.mk.injEq] at ho;obtain⟨⟨rfl,_,_⟩,rfl,rfl⟩:=ho;have T:=ht.ty t ti hty;have hcy:=iq hyv (hvs _ _ hy);have hcy0:=iq hyv hy;have hy1:∃u,(a.eval y).cells.toList=[u]/\u=hdv (J t')/\u.oneCell'=true:=by simp only[bB,bG] at hcy;obtain⟨u,q,he,⟨h5,h6⟩,rfl⟩:=hcy;exact⟨u,he,h5,h6⟩
    obtain⟨u,he,hu1,hu2⟩:=hy1;have hsz:(a.eval y).cells.size=ti.size:=by rw[h2,<- Array.length_toList,he];rfl
    have hrun:=run_storeVar T (off:=i) hh hsz (by omega) (by rw[he];simpa using hu2);rw[he,h2] at hrun;have key:=hco.mutate (s:=s) (ob:=.nest (.row e) ie sz' (els.set i .dead)) (ob':=.nest (.row e) ie sz' (els.set i (.own t'))) (w':=w.setRow b (cur.toList.take (i)++[u]++cur.toList.drop (i+1)).toArray) (upd_same _ _ _) (σ1:=O) (λt o ht ho=>by rw[bz _ _ ht];exact ho) (λt m l la _ h e=>by subst e;obtain⟨kk,es,hm⟩:=hs.core.itm t m l la h;rw[hs'] at hm;cases hm) (λm kk es hm hms=>by rwa [bz _ _ hms] at hm) (λm l la h=>by cases h) rfl rfl rfl (Nat.le_refl _) (by simp) (λb' _ hne=>setRow_other w b b' _ (λe=>hne (by rw[hp,lE];exact .inl (by simp[gD,e];omega)))) (λhk=>by
      have hnd:(blks (J s)).Nodup:=by obtain⟨_,_,_,_,hnd,_⟩:=hco.objs s _ (upd_same _ _ _);exact hnd
      have hnd':=hnd;rw[hp,gl,List.filterMap_cons,show gD (Value.slice (some ⟨b,0,none⟩) els.length c)=some b from by simp[gD];omega,List.nodup_cons] at hnd';have h5:=oq (i:=i) (x:=.own t') (c:=u) (iv:=undef) (k5 hk (λiv hv' b' hb'=>setRow_other w b b' _ (λe=>hnd'.1 (by rw[<- e];exact List.mem_filterMap.2 ⟨iv,hv',hb'⟩))) hns) ⟨hu1,hu2,rfl⟩;rw[List.set_set,i6 hiv] at h5;have hlen:i<cur.toList.length:=by simp;omega
      have hcur:cur.toList.take (i)++[u]++cur.toList.drop (i+1)=cur.toList.set i u:=by rw[List.set_eq_take_append_cons_drop,if_pos hlen];simp
      refine⟨_,ivs,_,hp,hnd,.inr ⟨b,c,_,h0,by rw[List.length_set],by rw[List.length_set];exact hl,hm,setRow_heap w b cur _ e (0,0) hh,by rw[hcur];simp[hz],by rw[List.length_set]⟩,?_⟩;rw[hcur] at h5⊢;rw[<- List.take_set] at h5;exact h5)
    have hs2:Sim cx J Z (upd O s (some (.nest (.row e) ie sz' (els.set i (.own t'))))) (a.put o.dst undef) (w.setRow b (cur.toList.take (i)++[u]++cur.toList.drop (i+1)).toArray):=by rw[hdst];exact⟨key.1,λt=>fb key.2 _ _ (hvs _ _ (hs.slots t)),hs.defers,hs.room⟩
    unfold Oper.wp;have hex:(execOp a.eval o).run P w=.ok .skip (w.setRow b (cur.toList.take (i)++[u]++cur.toList.drop (i+1)).toArray):=by simp[execOp,hop,hxe,hrun]
    rw[hex];exact hn _ _ _ _ _ hs2 h4
   ·exact h.elim
  ·exact h.elim
 ·exact h.elim
theorem equalIn_none' {w:World} (d:Nat) {t e:TypeId} (h:P.underlying t=some (.slice e)) (n c:Nat):(Op.equalIn (d+1) t (.slice none n c) (.slice none 0 0)).run P w=.ok true w:=by simp[Op.equalIn,run_underlying h]
theorem eqNil_sound (ht:TbOk P tb) {d:Nat} {op:BinOp} {t yt:TypeId} {x y:Operand} (hop:o.op=.binOp op t x y yt) (hdst:o.dst=some d) (hd:d<cx.n) (h:aEqNil tb Z O d op t (oev Z x) (oev Z y) K):Step P cx o Z O K:=by
 intro E a w hs next Q hn
 unfold aEqNil at h;split at h
 ·rename_i ti sz hty hx hy;have T:=ht.ty t ti hty;split at h
  ·rename_i e hde;have hxs:=dW hs.core.gw hs.slots x;have hys:=dW hs.core.gw hs.slots y;rw[hx] at hxs;rw[hy] at hys;simp only[bI,ct,bG,rep] at hxs hys;obtain⟨ao,n,c,hu,hn0,_⟩:=hxs;have hg:∀u:Value,(eqGuard .eql t x y (.slice ao n c) u).run P w=.ok () w:=λu=>by simp[eqGuard]
   have hput:∀b:Bool,Sim cx E (upd Z d (.u (.one (.d (.bool b))))) O (a.put (some d) (.bool b)) w:=λb=>⟨hs.core,qh hs.slots (by rfl) (Nat.lt_of_lt_of_le hd hs.room),hs.defers,by simpa [Act.put] using hs.room⟩
   cases ao with
   |none=>
    have he:(Op.equal t (.slice none n c) (.slice none 0 0)).run P w=.ok true w:=by unfold Op.equal Op.maxDepth;exact equalIn_none' 9999 (T.und.trans (by rw[hde])) n c
    refine Step.of_run (u:=.bool true) (w':=w) ?_ (by rw[hdst];exact hput true) h.1 hn;simp only[execOp,hop,hu,hys,Sem.run_bind,hg,Result.andThen_ok,binOp,he];rfl
   |some ad=>
    have he:(Op.equal t (.slice (some ad) n c) (.slice none 0 0)).run P w=.ok false w:=by unfold Op.equal Op.maxDepth;exact equalIn_some 9999 (T.und.trans (by rw[hde])) ad n c
    refine Step.of_run (u:=.bool false) (w':=w) ?_ (by rw[hdst];exact hput false) h.2 hn;simp only[execOp,hop,hu,hys,Sem.run_bind,hg,Result.andThen_ok,binOp,he];rfl
  ·exact h.elim
 ·exact h.elim
end
section
variable {P:Program} {tb:Tb} {cx:Cx} {Z:Env} {O:Sto} {o:Oper} {K:A3}
theorem k9 {E J:A7} {w:World} {F:Ad}:∀{xs:Ak} {vs:A9},bB E w F (xs.map C.d) vs->bB J w F (xs.map C.d) vs|[],_,h=>h|x::xs,vs,h=>by simp only[List.map_cons,bB] at h⊢;obtain⟨v,r,rfl,hc,h⟩:=h;exact⟨v,r,rfl,by simpa [bG] using hc,k9 h⟩
def lQ (w:World) (e:TypeId) (sz:Nat) (u:Value) (n:Nat) (xs:A9):Prop :=(n=0/\xs=[]/\∃a,u=.slice a 0 0) \/ ∃b cap cur,0<cap/\u=.slice (some ⟨b,0,none⟩) n cap/\n<=cap/\cap<=maxLen/\w.heap[b]?=some (.cells cur e (0,0))/\cur.size=cap*sz/\cur.toList.take (n*sz)=xs
theorem run_app {w:World} {t ty e:TypeId} {te:TI} (hT:P.underlying t=some (.slice e)) (TE:TabFact P e te) (hsz:0<te.size) (hby:0<te.bytes) {u:Value} {n:Nat} {xs:A9} (hu:lQ w e te.size u n xs) (hxl:xs.length=n*te.size) {A:Option Addr} {m c:Nat} {ns:A9} (hl:ns.length=m*te.size) (hA:0<m->∃ad,A=some ad/\∀(j:Nat) (v:Value),ns[j]?=some v->w.cell? (ad.add j)=some v) (h1:∀v∈ns,v.oneCell'=true) (hb:(n+m)*te.bytes<=140737488355328) :∃v' w',(Builtin.append_ #[t,t] ty #[u,.slice A m c]).run P w=.ok v' w'/\w'.os=w.os/\w'.tape=w.tape/\w'.output=w.output/\w.heap.size<=w'.heap.size/\(∀b,b<w.heap.size->¬ hbl u b->w'.heap[b]?=w.heap[b]?) /\ (∀b,hbl v' b->(w.heap.size<=b\/hbl u b)/\b<w'.heap.size)/\lQ w' e te.size v' (n+m) (xs++ns):=by
 obtain⟨i,hi,hi1,hi2,hi3⟩:=TE.get;have hnm:n+m<=(n+m)*te.bytes:=Nat.le_mul_of_pos_right _ hby;have h63:n+m<=maxLen:=by simp only[maxLen];omega
 rcases Nat.eq_zero_or_pos m with hm|hm
 ·subst hm;have hns:ns=[]:=List.eq_nil_of_length_eq_zero (by simpa using hl);subst hns;refine⟨u,w,?_,rfl,rfl,rfl,Nat.le_refl _,λ_ _ _=>rfl,λb hbk=>⟨.inr hbk,?_⟩,by simpa using hu⟩
  ·have hlc:∀ad:Addr,(loadCells ad 0).run P w=.ok #[] w:=λad=>by rfl
   rcases hu with⟨rfl,rfl,a,rfl⟩|⟨b,cap,cur,_,rfl,hnc,_⟩;{cases a<;>cases A<;>simp[Builtin.append_,run_underlying hT,sizeOf,typeInfo,hi,Builtin.lenOf,Builtin.firstCells,hlc,storeCells]};{cases A<;>simp[Builtin.append_,run_underlying hT,sizeOf,typeInfo,hi,Builtin.lenOf,Builtin.firstCells,hlc,storeCells,hnc]}
  ·rcases hu with⟨rfl,rfl,a,rfl⟩|⟨b',cap,cur,h0,rfl,hnc,_,hh,_⟩;{simp at hbk};{simp only[hbl_slice] at hbk;grind}
 ·obtain⟨ad,rfl,hcells⟩:=hA hm;have key:∀v w'',w.heap.size<=w''.heap.size->w''.ownsRow 0 e te.size v (n+m) (xs++ns)->lQ w'' e te.size v (n+m) (xs++ns):=by intro v w'' _ ho;rcases ho.2 with⟨_,h0⟩|⟨g,cap,cur,rfl,_,hh,hc1,hc2,hc3,hc4⟩;{omega};{exact .inr ⟨g,cap,cur,by omega,rfl,hc1,hc2,hh,hc3,hc4⟩}
  rcases hu with⟨rfl,rfl,a,rfl⟩|⟨b,cap,cur,h0,rfl,hnc,hcm,hh,hcs,htk⟩
  ·have fin:∀v' w'',w''.ownsRow 0 e te.size v' (0+m) ([]++ns)->w.grownBy w'' none->(v'.ownBlock=none\/v'.ownBlock=some w.heap.size)->(Builtin.append_ #[t,t] ty #[.slice a 0 0,.slice (some ad) m c]).run P w=.ok v' w'' -> ∃v' w',(Builtin.append_ #[t,t] ty #[.slice a 0 0,.slice (some ad) m c]).run P w=.ok v' w'/\w'.os=w.os/\w'.tape=w.tape/\w'.output=w.output/\w.heap.size<=w'.heap.size/\(∀b,b<w.heap.size->¬ hbl (.slice a 0 0) b->w'.heap[b]?=w.heap[b]?) /\ (∀b,hbl v' b->(w.heap.size<=b\/hbl (.slice a 0 0) b)/\b<w'.heap.size)/\lQ w' e te.size v' (0+m) ([]++ns):=by intro v' w'' ho hg hbk hrun;refine⟨v',w'',hrun,hg.os,hg.tape,hg.output,hg.size,λb hb' _=>hg.block b hb' (by simp),λb hb'=>?_,key v' w'' hg.size ho⟩;rcases key v' w'' hg.size ho with⟨h0,_⟩|⟨g,cap,cur,h0,rfl,_,_,hh,_⟩;{omega};{obtain⟨_,rfl⟩:=(hbl_slice _ _ _ _).1 hb';simp[Value.ownBlock] at hbk;grind}
   cases a with
   |none=>
    obtain⟨v',w'',hrun,ho,hg,_,hbk⟩:=run_append_own_at (P:=P) w 0 t ty e i te.zv te.size te.bytes hT hi hi3 hi1 hi2 TE.zsize hsz (.slice none 0 0) 0 [] (World.ownsRow_nil w 0 e te.size) ad m c ns hl hcells h1 h63 hb (Nat.zero_le _);exact fin v' w'' ho (by simpa [Value.ownBlock] using hg) (by simpa [Value.ownBlock] using hbk) hrun
   |some a0=>
    have hrun:=run_append_grow (P:=P) w t ty e i te.zv hT hi hi3 a0 0 0 [] (by simp) (λj v hj=>by simp at hj) ad m c ns (by rw[hi1];exact hl) hcells (by omega) (by omega) (growslice_fits (by omega) (by rw[hi2];exact hb));have hge:=grownCap_ge w (0+m) 0 e;have hcm:=grownCap_le_maxLen w (0+m) 0 e h63;refine fin _ _ ?_ ?_ ?_ hrun
    rotate_left
    ·exact⟨rfl,rfl,rfl,by simp,λk hk _=>Below.heap_alloc w.drew _ k hk⟩
    ·simp[Value.ownBlock]
    refine⟨by simpa using hl,.inr ⟨w.heap.size,_,_,rfl,Nat.zero_le _,heap_alloc_new w.drew _,hge,hcm,?_,?_⟩⟩;{simp only[Array.size_append,List.size_toArray,size_zeroCells,TE.zsize,List.length_nil,Nat.zero_add,hl,<- Nat.add_mul];simp_all};simp_all
  ·obtain⟨v',w'',hrun,ho,hg,_,hbk⟩:=run_append_own_at (P:=P) w 0 t ty e i te.zv te.size te.bytes hT hi hi3 hi1 hi2 TE.zsize hsz (.slice (some ⟨b,0,none⟩) n cap) n xs ⟨hxl,.inr ⟨b,cap,cur,rfl,Nat.zero_le _,hh,hnc,hcm,hcs,htk⟩⟩ ad m c ns hl hcells h1 h63 hb (Nat.zero_le _);refine⟨v',w'',hrun,hg.os,hg.tape,hg.output,hg.size,λb' hb' hne=>hg.block b' hb' (λe=>hne ?_),λb' hb'=>?_,key v' w'' hg.size ho⟩;{refine(hbl_slice _ _ _ _).2 ⟨by omega,?_⟩;first|simpa [Value.ownBlock] using e.symm|simpa [Value.ownBlock] using e};{rcases key v' w'' hg.size ho with⟨h0,_⟩|⟨g,cap',cur',h0',rfl,_,_,hh',_⟩;{omega};{obtain⟨_,rfl⟩:=(hbl_slice _ _ _ _).1 hb';refine⟨?_,(Array.getElem?_eq_some_iff.1 hh').1⟩;simp only[Value.ownBlock,Option.some.injEq] at hbk;rcases hbk with hbk|hbk;{exact .inr (by simp only[hbl_slice];grind)};omega}}
theorem mem_of_rows {E:A7} {w:World} {F:Ad} {sz:Nat}:∀{rs:A8} {b o:Nat},cJ w F sz rs b o->Mem E w F (rs.flatten.map C.d) b o
 |[],b,o,_=>⟨[],by simp[bB],λj u hj=>by simp at hj⟩|r::rs,b,o,h=>by
  simp only[cJ] at h;obtain⟨us,h1,h2⟩:=tE (E:=E) h.1.2;obtain⟨vs,h3,h4⟩:=mem_of_rows (E:=E) h.2;have hl:us.length=sz:=by rw[<- cR h1,List.length_map];exact h.1.1
  refine⟨us++vs,by rw[List.flatten_cons,List.map_append];exact ek h1 h3,λj u hj=>?_⟩;rcases Nat.lt_or_ge j us.length with hj'|hj';{rw[List.getElem?_append_left hj'] at hj;exact h2 j u hj};{rw[List.getElem?_append_right hj'] at hj;have:=h4 _ u hj;rwa [hl,show o+sz+(j-sz)=o+j by omega] at this}
theorem run_appX {w:World} {t ty e:TypeId} {te:TI} (hT:P.underlying t=some (.slice e)) (TE:TabFact P e te) (hsz:0<te.size) (hby:0<te.bytes) {ao:Option Addr} {n:Nat} {xs:A9} (hxl:xs.length=n*te.size) (hx:0<n->∃ad,ao=some ad/\∀(j:Nat) (v:Value),xs[j]?=some v->w.cell? (ad.add j)=some v) {A:Option Addr} {m c:Nat} {ns:A9} (hl:ns.length=m*te.size) (hA:0<m->∃ad,A=some ad/\∀(j:Nat) (v:Value),ns[j]?=some v->w.cell? (ad.add j)=some v) (hx1:∀v∈xs,v.oneCell'=true) (h1:∀v∈ns,v.oneCell'=true) (hm:0<m) (hb:(n+m)*te.bytes<=140737488355328) :∃v' w',(Builtin.append_ #[t,t] ty #[.slice ao n n,.slice A m c]).run P w=.ok v' w'/\w'.os=w.os/\w'.tape=w.tape/\w'.output=w.output/\w.heap.size<=w'.heap.size/\(∀b,b<w.heap.size->w'.heap[b]?=w.heap[b]?) /\ (∀b,hbl v' b->w.heap.size<=b/\b<w'.heap.size)/\lQ w' e te.size v' (n+m) (xs++ns):=by
 rcases Nat.eq_zero_or_pos n with h0|h0;{subst h0;have hxs:xs=[]:=List.eq_nil_of_length_eq_zero (by simpa using hxl);subst hxs;obtain⟨v',w',a1,a2,a3,a4,a5,a6,a7,a8⟩:=run_app (P:=P) (ty:=ty) (c:=c) hT TE hsz hby (u:=.slice ao 0 0) (n:=0) (xs:=[]) (.inl ⟨rfl,rfl,ao,rfl⟩) (by simp) hl hA h1 hb;exact⟨v',w',a1,a2,a3,a4,a5,λb hb=>a6 b hb (by simp),λb hb=>by have:=a7 b hb;simp at this;exact this,a8⟩}
 ·obtain⟨ad0,rfl,hc0⟩:=hx h0;obtain⟨ad,rfl,hcells⟩:=hA hm;obtain⟨i,hi,hi1,hi2,hi3⟩:=TE.get;have hnm:n+m<=(n+m)*te.bytes:=Nat.le_mul_of_pos_right _ hby;have h63:n+m<=maxLen:=by simp only[maxLen];omega
  have hrun:=run_append_grow (P:=P) w t ty e i te.zv hT hi hi3 ad0 n n xs (by rw[hi1];exact hxl) hc0 ad m c ns (by rw[hi1];exact hl) hcells (by omega) (by omega) (growslice_fits (by omega) (by rw[hi2];exact hb));have hge:=grownCap_ge w (n+m) n e;have hcm:=grownCap_le_maxLen w (n+m) n e h63;refine⟨_,_,hrun,rfl,rfl,rfl,by simp,λk hk=>Below.heap_alloc w.drew _ k hk,λb hb=>?_,.inr ⟨w.heap.size,_,_,by omega,rfl,hge,hcm,heap_alloc_new w.drew _,?_,?_⟩⟩;{obtain⟨_,rfl⟩:=(hbl_slice _ _ _ _).1 hb;simp};{simp only[Array.size_append,List.size_toArray,size_zeroCells,TE.zsize,hl,hxl,<- Nat.add_mul];rw[Nat.add_sub_cancel' hge]}
  ·have hlen:(xs++ns).length=(n+m)*te.size:=by rw[List.length_append,hxl,hl,Nat.add_mul]
   refine(congrArg _ ?_).trans (List.take_left' (l₂:=(Builtin.zeroCells te.zv.cells (grownCap w (n+m) n e-(n+m))).toList) hlen);simp
theorem flat_take {sz:Nat}:∀{rs:A8} (a:Nat),(∀r∈rs,r.length=sz)->(rs.take a).flatten=rs.flatten.take (a*sz)|[],a,_=>by simp|r::rs,0,_=>by simp|r::rs,a+1,h=>by have hr:=h r (by simp);rw[List.take_succ_cons,List.flatten_cons,List.flatten_cons,flat_take a λx hx=>h x (List.mem_cons_of_mem _ hx),Nat.add_mul,Nat.one_mul,Nat.add_comm,<- hr,List.take_length_add_append]
theorem flat_drop {sz:Nat}:∀{rs:A8} (a:Nat),(∀r∈rs,r.length=sz)->(rs.drop a).flatten=rs.flatten.drop (a*sz)|[],a,_=>by simp|r::rs,0,_=>by simp|r::rs,a+1,h=>by have hr:=h r (by simp);rw[List.drop_succ_cons,List.flatten_cons,flat_drop a λx hx=>h x (List.mem_cons_of_mem _ hx),Nat.add_mul,Nat.one_mul,Nat.add_comm,<- hr,List.drop_length_add_append]
theorem sub_mem {E:A7} {w:World} {F:Ad} {sz b:Nat} {e:TypeId} {cur:Array Value} {rows:A8} (hl:∀r∈rows,r.length=sz) (hh:w.heap[b]?=some (.cells cur e (0,0))) (hc:bB E w F (rows.flatten.map C.d) (cur.toList.take (rows.length*sz))) (a n:Nat) (hn:n<=rows.length) :
  bB E w F (((rows.take n).drop a).flatten.map C.d) ((cur.toList.take (n*sz)).drop (a*sz))/\∀(j:Nat) (v:Value),((cur.toList.take (n*sz)).drop (a*sz))[j]?=some v->w.cell? ⟨b,a*sz+j,none⟩=some v:=by have hl':∀r∈rows.take n,r.length=sz:=λr hr=>hl r (List.mem_of_mem_take hr);constructor;{rw[flat_drop a hl',flat_take n hl,List.map_drop,List.map_take];have h1:=iL (n*sz) hc;rw[List.take_take,Nat.min_eq_left (Nat.mul_le_mul_right _ hn)] at h1;exact lq (a*sz) h1};{intro j v hj;rw[List.getElem?_drop,List.getElem?_take] at hj;split at hj;{rw[cell_of_row w b _ cur e (0,0) hh];simpa using hj};{cases hj}}
theorem run_appIn {P:Program} {w:World} {t ty e:TypeId} {te:TI} (hT:P.underlying t=some (.slice e)) (TE:TabFact P e te) {b n cap:Nat} {cur:Array Value} (hh:w.heap[b]?=some (.cells cur e (0,0))) {A:Option Addr} {m c:Nat} {ns:A9} (hl:ns.length=m*te.size) (hA:0<m->∃ad,A=some ad/\∀(j:Nat) (v:Value),ns[j]?=some v->w.cell? (ad.add j)=some v) (h1:∀v∈ns,v.oneCell'=true) (hm:0<m) (hroom:n+m<=cap) (hsz:(n+m)*te.size<=cur.size) :(Builtin.append_ #[t,t] ty #[.slice (some ⟨b,0,none⟩) n cap,.slice A m c]).run P w=.ok (.slice (some ⟨b,0,none⟩) (n+m) cap) (w.setRow b (cur.toList.take (n*te.size)++ns++cur.toList.drop ((n+m)*te.size)).toArray):=by obtain⟨i,hi,hi1,hi2,hi3⟩:=TE.get;obtain⟨ad,rfl,hcells⟩:=hA hm;rw[Nat.add_mul] at hsz⊢;have hfc:=run_firstCells_some (P:=P) w te.size m ad m c ns hl hcells;have hst:=run_storeCells_at P b (n*te.size) e ns 0 cur w hh (by omega) h1;simp only[Nat.add_zero] at hst;rw[hl] at hst;simp[Builtin.append_,run_underlying hT,sizeOf,typeInfo,hi,Builtin.lenOf,hroom,hfc,addr_add,hi1,hst]
theorem tX {E:A7} {w:World} (hco:Core cx E O w) {sz:Nat} {y:V} {q:Value} {news:A8} (h:tU O sz y=some news) (hy:bI E w (cx.fr E O) y q) :(∀r∈news,r.length=sz)/\∃A c ns,q=.slice A news.length c/\bB E w (cx.fr E O) (news.flatten.map C.d) ns/\(0<news.length->∃ad,A=some ad/\∀(j:Nat) (v:Value),ns[j]?=some v->w.cell? (ad.add j)=some v):=by
 unfold tU at h;split at h;{cases h;simp only[bI,ct,bG,rep] at hy;subst hy;exact⟨by simp,none,0,[],rfl,by simp[bB],by simp⟩};{cases h;simp only[bI,ct,bG,rep] at hy;obtain⟨a,rfl⟩:=hy;exact⟨by simp,a,0,[],rfl,by simp[bB],by simp⟩}
 ·split at h
  ·rename_i hz;cases h;simp only[bI,ct,bG,rep] at hy;obtain⟨ao,n,c,rfl,rfl,_,_,hr⟩:=hy;rcases hr with rfl|⟨b,o,rfl,hF,hl,hr⟩;{exact⟨by simp,ao,c,[],rfl,by simp[bB],by simp⟩}
   ·have hall:∀(rs:A8) (o:Nat),cJ w (cx.fr E O) sz rs b o->(∀r∈rs,r.length=sz)/\∃ns,bB E w (cx.fr E O) (rs.flatten.map C.d) ns/\∀(j:Nat) (v:Value),ns[j]?=some v->w.cell? ⟨b,o+j,none⟩=some v:=by
     intro rs;induction rs with
     |nil=>simp[bB]|cons r rs ih=>intro o hrs;simp only[cJ] at hrs;obtain⟨ih1,ns,ih2,ih3⟩:=ih (o+sz) hrs.2;obtain⟨us,h1,h2⟩:=tE (E:=E) hrs.1.2;have hul:=cR h1;simp only[List.length_map] at hul;refine⟨by simp_all,us++ns,by rw[List.flatten_cons,List.map_append];exact ek h1 ih2,λj v hj=>?_⟩;grind
    subst hz;obtain⟨h1,ns,h2,h3⟩:=hall news o hr;exact⟨h1,_,c,ns,rfl,h2,λ_=>⟨_,rfl,λj v hj=>by grind[addr_add]⟩⟩
  ·cases h
 ·rename_i s;split at h;{rename_i sz' e' rows hs;split at h;{rename_i hz;cases h;subst hz;simp only[bI,ct,bG] at hy;obtain⟨h1,ho⟩:=hco.objs s _ hs;refine⟨h1,?_⟩;obtain⟨rfl,_⟩:=hy;rcases ho with⟨rfl,a,ha⟩|⟨b,cap,cur,h0,hp,hl,hm',hh,hs',hc⟩;{simp_all[bB]};{refine⟨some ⟨b,0,none⟩,cap,_,(by rw[hp];rfl),hc,λ_=>⟨_,rfl,λj v hj=>?_⟩⟩;rw[addr_add,Nat.zero_add,cell_of_row w b j cur e' (0,0) hh];grind}};{cases h}};{cases h}
 ·rename_i s sz' a n;split at h
  ·rename_i sz'' e' rows hs;split at h
   ·rename_i hz;cases h;obtain⟨rfl,rfl,hn⟩:=hz;simp only[bI,ct,bG] at hy;obtain⟨ao,len,cap,hp',ha,hln,rfl⟩:=hy;obtain⟨h1,ho⟩:=hco.objs s _ hs;unfold subRow;have hlen:((rows.take n).drop a).length=n-a:=by simp;omega
    refine⟨λr hr=>h1 r (List.mem_of_mem_take (List.mem_of_mem_drop hr)),?_⟩;rw[hlen];rcases ho with⟨rfl,a0,ha0⟩|⟨b,cap',cur,h0,hp,hl,hm',hh,hs',hc⟩;{simp only[List.length_nil,Nat.le_zero] at hn;subst hn;exact⟨_,_,[],rfl,by simp[bB],λh=>by omega⟩};{rw[hp,hdv_slice] at hp';simp only[Value.slice.injEq] at hp';obtain⟨rfl,rfl,rfl⟩:=hp';obtain⟨g1,g2⟩:=sub_mem (E:=E) h1 hh hc a n hn;refine⟨_,_,_,rfl,g1,λhpos=>⟨⟨b,a*sz'',none⟩,?_,λj v hj=>?_⟩⟩;{unfold subA;rw[if_neg (by omega)];simp[addr_add]};{rw[addr_add];exact g2 j v hj}}
   ·cases h
  ·cases h
 ·cases h
theorem pre_sound (ht:TbOk P tb) {p:Prop} {Z':Env} {O':Sto} (h:preR tb Z O o.op o.dst=some (p,Z',O')) (hp:p) (hk:K Z' O') (hd:∀d,o.dst=some d->d<cx.n):Step P cx o Z O K:=by
 intro E a w hs next Q hn
 unfold preR at h;split at h
 ·rename_i cc hop;obtain⟨callee,args,ats⟩:=cc;split at h
  ·rename_i x y t t' d hcal hargs hats hdst;simp only at hcal hargs hats;subst hcal;obtain⟨args⟩:=args;obtain⟨ats⟩:=ats;simp only at hargs hats;subst hargs hats;replace hd:=hd d hdst;split at h
   ·rename_i htt;subst htt;have hx:=dW hs.core.gw hs.slots x;have hy:=dW hs.core.gw hs.slots y;unfold preD at h;split at h
    ·rename_i ti hty;have T:=ht.ty t ti hty;split at h
     ·rename_i e hde;unfold preT at h;split at h
      ·rename_i te hte;have TE:=ht.ty e te hte;split at h
       ·rename_i s n rows hpv;split at h
        ·rename_i news hsn;simp only[Option.some.injEq,Prod.mk.injEq] at h;obtain⟨rfl,rfl,rfl⟩:=h;obtain⟨hsz,hlen⟩:=hp;obtain⟨hn1,A,c,ns,hq,hns,hA⟩:=tX hs.core hsn hy;have hnl:ns.length=news.length*te.size:=by rw[<- cR hns,List.length_map,fR hn1]
         unfold preV at hpv;split at hpv
         ·rename_i s' sz' n' hxv;split at hpv
          ·rename_i sz'' e' rows' hs';split at hpv
           ·rename_i hz;cases hpv;obtain⟨rfl,rfl,rfl⟩:=hz;rw[hxv] at hx;simp only[bI,ct,bG] at hx;obtain⟨ao,len,cap,hp',_,hln,hxe⟩:=hx;obtain⟨hr1,ho⟩:=hs.core.objs s _ hs';rcases Nat.eq_zero_or_pos news.length with hm|hm
            ·obtain rfl:news=[]:=List.eq_nil_of_length_eq_zero hm;have hnc:n<=cap:=by rcases ho with⟨rfl,a0,ha0⟩|⟨b,cap',cur,h0,hp,hl,_⟩;{rw[ha0] at hp';cases hp';omega};{rw[hp] at hp';cases hp';omega}
             have hst:upd O s (some (.row te.size e' (rows.take n++[]++rows.drop (n+([]:A8).length))))=O:=by funext k;by_cases hks:k=s;{subst hks;rw[upd_same,hs'];simp};{rw[bz _ _ hks]}
             unfold preRow at hk;rw[hst] at hk;obtain⟨ii,hi,hi1,hi2,hi3⟩:=TE.get;have hlc:∀ad:Addr,(loadCells ad 0).run P w=.ok #[] w:=λad=>by rfl
             refine Step.of_run (u:=a.eval x) (w':=w) ?_ (by rw[hdst];exact⟨hs.core,qh hs.slots (v:=.u (.one (.sub s te.size 0 n))) (by simp only[bI,ct,bG];exact⟨ao,len,cap,hp',Nat.zero_le _,hln,hxe⟩) (Nat.lt_of_lt_of_le hd hs.room),hs.defers,by simpa [Act.put] using hs.room⟩) hk hn;unfold execOp;simp only[hop,resolve,invoke,builtin,Sem.run_bind,Sem.run_pure,Result.andThen_ok,List.map_toArray,List.map_cons,List.map_nil,hq,hxe];generalize subA ao cap 0 te.size=ao';cases ao'<;>cases A<;>simp[Builtin.append_,run_underlying (T.und.trans (by rw[hde])),sizeOf,typeInfo,hi,Builtin.lenOf,Builtin.firstCells,hlc,storeCells,hnc]
            ·rcases ho with⟨rfl,a0,ha0⟩|⟨b,cap',cur,h0,hp,hl,hm',hh,hsz',hc⟩;{have:n+news.length<=0:=hlen;omega}
             ·rw[hp,hdv_slice] at hp';simp only[Value.slice.injEq] at hp';obtain⟨rfl,rfl,rfl⟩:=hp';have hsub:subA (some ⟨b,0,none⟩) cap' 0 te.size=some ⟨b,0,none⟩:=by unfold subA;rw[if_neg (by omega)];simp[addr_add]
              rw[hsub,Nat.sub_zero,Nat.sub_zero] at hxe;have hmul:(n+news.length)*te.size<=rows.length*te.size:=Nat.mul_le_mul_right _ hlen;have hmul2:rows.length*te.size<=cap'*te.size:=Nat.mul_le_mul_right _ hl;have hrun:=run_appIn (P:=P) (ty:=o.type) (c:=c) (n:=n) (cap:=cap') (T.und.trans (by rw[hde])) TE hh hnl hA (jm hns) hm (by omega) (by omega);unfold preRow at hk;have hrl:(rows.take n++news++rows.drop (n+news.length)).length=rows.length:=by simp;omega
              have key:=hs.core.mutate (s:=s) (ob':=.row te.size e' (rows.take n++news++rows.drop (n+news.length))) (w':=w.setRow b (cur.toList.take (n*te.size)++ns++cur.toList.drop ((n+news.length)*te.size)).toArray) hs' (σ1:=O) (λ_ _ _ h=>h) (λt m l la _ h e=>by subst e;obtain⟨kk,es,hm⟩:=hs.core.itm t m l la h;rw[hs'] at hm;cases hm) (λ_ _ _ h _=>h) (λm l la h=>by cases h) rfl rfl rfl (Nat.le_refl _) (by simp) (λb' _ hne=>setRow_other w b b' _ (λe=>hne (by rw[hp];simp only[hbl_slice];exact⟨by omega,e⟩))) (λhkp=>by
                refine⟨λr hr=>?_,.inr ⟨b,cap',_,h0,by rw[hrl];exact hp,by rw[hrl];exact hl,hm',setRow_heap w b cur _ e' (0,0) hh,?_,?_⟩⟩;{rcases List.mem_append.1 hr with hr|hr;{rcases List.mem_append.1 hr with hr|hr;{exact hr1 r (List.mem_of_mem_take hr)};{exact hn1 r hr}};{exact hr1 r (List.mem_of_mem_drop hr)}};{rw[Nat.add_mul] at hmul⊢;simp[hnl];omega}
                ·obtain⟨X,hX⟩:∃X,X=cur.toList.take (rows.length*te.size):=⟨_,rfl⟩
                 have hXl:X.length=rows.length*te.size:=by rw[hX];simp;omega
                 have hXY:cur.toList=X++cur.toList.drop (rows.length*te.size):=by rw[hX];exact(List.take_append_drop _ _).symm
                 have e1:cur.toList.take (n*te.size)=X.take (n*te.size):=by rw[hX,List.take_take,Nat.min_eq_left (by have:=Nat.mul_le_mul_right te.size (show n<=rows.length by omega);omega)]
                 have e2:cur.toList.drop ((n+news.length)*te.size)=X.drop ((n+news.length)*te.size)++cur.toList.drop (rows.length*te.size):=by
                  conv=>lhs;rw[hXY]
                  rw[List.drop_append_of_le_length (by omega)]
                 have hlen3:(X.take (n*te.size)++ns++X.drop ((n+news.length)*te.size)).length=rows.length*te.size:=by have hmn:=Nat.mul_le_mul_right te.size (show n<=rows.length by omega);rw[List.length_append,List.length_append,List.length_take,List.length_drop,hnl,hXl,Nat.min_eq_left hmn];rw[Nat.add_mul] at hmul⊢;omega
                 have hcur:((cur.toList.take (n*te.size)++ns++cur.toList.drop ((n+news.length)*te.size)).toArray).toList.take (rows.length*te.size)=X.take (n*te.size)++ns++X.drop ((n+news.length)*te.size):=by rw[e1,e2,<- List.append_assoc];exact List.take_left' hlen3
                 rw[hrl,hcur,List.flatten_append,List.flatten_append,flat_take n hr1,flat_drop (n+news.length) hr1];rw[<- hX] at hc;have h9:bB E w (cx.fr E O) ((rows.flatten.take (n*te.size)++news.flatten++rows.flatten.drop ((n+news.length)*te.size)).map C.d) (X.take (n*te.size)++ns++X.drop ((n+news.length)*te.size)):=by rw[List.map_append,List.map_append,List.map_take,List.map_drop];exact ek (ek (iL _ hc) hns) (lq _ hc)
                 exact k9 (cF hkp _ _ h9))
              refine Step.of_run (u:=.slice (some ⟨b,0,none⟩) (n+news.length) cap') (w':=w.setRow b (cur.toList.take (n*te.size)++ns++cur.toList.drop ((n+news.length)*te.size)).toArray) ?_ (by rw[hdst];exact⟨key.1,qh (λt=>fb key.2 _ _ (hs.slots t)) (v:=.u (.one (.sub s te.size 0 (n+news.length)))) (by simp only[bI,ct,bG];exact⟨_,_,cap',by rw[hp,hdv_slice],Nat.zero_le _,hlen,by rw[hsub];simp⟩) (Nat.lt_of_lt_of_le hd hs.room),hs.defers,by simpa [Act.put] using hs.room⟩) hk hn;unfold execOp;simp only[hop,resolve,invoke,builtin,Sem.run_bind,Sem.run_pure,Result.andThen_ok,List.map_toArray,List.map_cons,List.map_nil,hq,hxe,hrun]
           ·cases hpv
          ·cases hpv
         ·cases hpv
        ·cases h
       ·cases h
      ·cases h
     ·cases h
    ·cases h
   ·cases h
  ·cases h
 ·cases h
theorem append_sound (ht:TbOk P tb) {d:Nat} {x y:Operand} {t:TypeId} {ats:Array TypeId} {args:Array Operand} (hop:o.op=.call { callee:=.builtin .append,args:=args,argTypes:=ats }) (hargs:args.toList=[x,y]) (hats:ats.toList=[t,t]) (hdst:o.dst=some d) (hd:d<cx.n) (hd':d<inBase) (h:nJ tb Z O d t (oev Z x) (oev Z y) K):Step P cx o Z O K:=by
 intro E a w hs next Q hn
 obtain⟨args⟩:=args;obtain⟨ats⟩:=ats;simp only at hargs hats;subst hargs hats;have hx:=dW hs.core.gw hs.slots x;have hy:=dW hs.core.gw hs.slots y;unfold nJ at h;split at h
 ·rename_i ti hty;have T:=ht.ty t ti hty;split at h
  ·rename_i e hde;split at h
   ·rename_i te hte;have TE:=ht.ty e te hte;split at h
    ·rename_i so rows news hf hsn;obtain⟨hsz,hby,hbd,hk⟩:=h;obtain⟨hn1,A,c,ns,hq,hns,hA⟩:=tX hs.core hsn hy;have hnl:ns.length=news.length*te.size:=by rw[<- cR hns,List.length_map,fR hn1]
     have hfst:(∀r∈rows,r.length=te.size)/\(∃xs,lQ w e te.size (a.eval x) rows.length xs/\bB E w (cx.fr E O) (rows.flatten.map C.d) xs)/\(∀s o,so=some s->O s=some o->∃sz e rows,o=.row sz e rows) /\ (∀b,hbl (a.eval x) b->∃s o,so=some s/\O s=some o/\hbl (E s) b)/\(∀b,(∀s o,so=some s->O s=some o->¬ hbl (E s) b)->¬ hbl (a.eval x) b):=by
      unfold fstRow at hf;split at hf;{cases hf;rename_i hxv;rw[hxv] at hx;simp only[bI,ct,bG,rep] at hx;rw[hx];refine⟨by simp,⟨[],.inl ⟨rfl,rfl,none,rfl⟩,by simp[bB]⟩,?_,?_,?_⟩;{simp};{intro b h;cases h};{intro b _ h;cases h}};{cases hf;rename_i hxv;rw[hxv] at hx;simp only[bI,ct,bG,rep] at hx;obtain⟨a0,ha0⟩:=hx;rw[ha0];refine⟨by simp,⟨[],.inl ⟨rfl,rfl,a0,rfl⟩,by simp[bB]⟩,?_,?_,?_⟩;{simp};{simp};simp}
      ·rename_i s hxv;split at hf
       ·rename_i sz' e' rows' hs';split at hf
        ·rename_i hz;cases hf;obtain⟨rfl,rfl⟩:=hz;rw[hxv] at hx;obtain⟨hxe,_⟩:=hx;obtain⟨h1,ho⟩:=hs.core.objs s _ hs';have hv:hdv (E s)=E s:=by rcases ho with⟨_,a,h⟩|⟨_,_,_,_,h,_⟩<;>rw[h]<;>rfl
         rw[hxe,hv];refine⟨h1,?_,λs' o' hso hs2=>?_,λb hb=>⟨s,_,rfl,hs',hb⟩,λb hb=>hb s _ rfl hs'⟩;{rcases ho with⟨rfl,a0,ha0⟩|⟨b,cap,cur,h0,hp,hl,hm',hh,hs',hc⟩;{exact⟨[],.inl ⟨rfl,rfl,a0,ha0⟩,by simp[bB]⟩};{exact⟨_,.inr ⟨b,cap,cur,h0,hp,hl,hm',hh,hs',rfl⟩,hc⟩}};simp_all
        ·cases hf
       ·cases hf
      ·cases hf
     obtain⟨hr1,⟨xs,hrow,hxs⟩,hso,hbo,hbo'⟩:=hfst;have hxl:xs.length=rows.length*te.size:=by rw[<- cR hxs,List.length_map,fR hr1]
     obtain⟨v',w',hrun,hos,htp,hout,hsize,hblk',hnew,hrow'⟩:=run_app (P:=P) (ty:=o.type) (c:=c) (T.und.trans (by rw[hde])) TE hsz hby hrow hxl hnl hA (jm hns) hbd;have hfl:∀r∈rows++news,r.length=te.size:=λr hr=>by grind
     have hone:v'.oneCell'=true:=by rcases hrow' with⟨_,_,a0,rfl⟩|⟨_,_,_,_,rfl,_⟩<;>rfl
     have key:=hs.core.replace (so:=so) (d:=d) (hv:=v') (ob:=.row te.size e (rows++news)) (w':=w') hd' (λs o h1 h2 kk es e=>by obtain⟨_,_,_,h3⟩:=hso s o h1 h2;rw[h3] at e;cases e) hos htp hout (tk _ _ _ _ hrun) hsize (λb hl hne=>hblk' b hl (hbo' b hne)) (λb hb=>by grind) (λ_ _ _ h=>by cases h) (λhkp=>by
       refine⟨hfl,?_⟩;rw[upd_same];have hcs:bB (upd E d v') w' (cx.fr (upd E d v') (upd (cM d (drop so O)) d (some (.row te.size e (rows++news))))) ((rows++news).flatten.map C.d) (xs++ns):=by grind[ek,k9,cF]
       rcases hrow' with⟨h0,_,a0,hv⟩|⟨b,cap,cur,h0,hv,h1,h2,h3,h4,h5⟩;{simp_all};grind)
     refine Step.of_run (u:=v') (w':=w') ?_ (by rw[hdst];exact Sim.new hs hd key rfl (by simp only[bG];rw[upd_same,show hdv v'=v' by rcases hrow' with⟨_,_,a0,rfl⟩|⟨_,_,_,_,rfl,_⟩<;>rfl];exact⟨rfl,hone⟩)) hk hn;unfold execOp;simp only[hop,resolve,invoke,builtin,Sem.run_bind,Sem.run_pure,Result.andThen_ok,List.map_toArray,List.map_cons,List.map_nil,hq,hrun]
    ·rename_i news hf hsn;split at h
     ·rename_i rows hfu;obtain⟨⟨hsz,hby,hbd,hpos⟩,hk⟩:=h;obtain⟨hn1,A,c,ns,hq,hns,hA⟩:=tX hs.core hsn hy;have hnl:ns.length=news.length*te.size:=by rw[<- cR hns,List.length_map,fR hn1]
      unfold fullV at hfu;split at hfu
      ·rename_i sz' rows' hxv;split at hfu
       ·rename_i hz;cases hfu;subst hz;rw[hxv] at hx;simp only[bI,ct,bG,rep] at hx;obtain⟨ao,n,hxe,hnr,hmx,hro⟩:=hx;have hr1:∀r∈rows,r.length=te.size:=by rcases hro with rfl|⟨b,o,_,_,_,hr⟩;{simp};{exact λr hr'=>let ⟨i,hi⟩:=List.mem_iff_getElem?.1 hr';(repRows_get hr hi).1}
        obtain⟨xs,hxl,hxs,hcell⟩:∃xs:A9,xs.length=rows.length*te.size/\bB E w (cx.fr E O) (rows.flatten.map C.d) xs/\(0<n->∃ad,ao=some ad/\∀(j:Nat) (v:Value),xs[j]?=some v->w.cell? (ad.add j)=some v):=by rcases hro with rfl|⟨b,o,hao,_,_,hr⟩;{exact⟨[],by simp,by simp[bB],λh=>by simp at hnr;omega⟩};{obtain⟨us,h1,h2⟩:=mem_of_rows (E:=E) hr;refine⟨us,by rw[<- cR h1,List.length_map,fR hr1],h1,λ_=>⟨⟨b,o,none⟩,hao,λj v hj=>?_⟩⟩;rw[addr_add];exact(h2 j v hj).1}
        obtain⟨v',w',hrun,hos,htp,hout,hsize,hblk',hnew,hrow'⟩:=run_appX (P:=P) (ty:=o.type) (c:=c) (T.und.trans (by rw[hde])) TE hsz hby (n:=rows.length) (xs:=xs) hxl (by rw[<- hnr];exact hcell) hnl hA (jm hxs) (jm hns) hpos hbd;have hfl:∀r∈rows++news,r.length=te.size:=λr hr=>by rcases List.mem_append.1 hr with hr|hr;{exact hr1 r hr};{exact hn1 r hr}
        have hone:v'.oneCell'=true:=by rcases hrow' with⟨_,_,a0,rfl⟩|⟨_,_,_,_,rfl,_⟩<;>rfl
        have hdv':hdv v'=v':=by rcases hrow' with⟨_,_,a0,rfl⟩|⟨_,_,_,_,rfl,_⟩<;>rfl
        have key:=hs.core.replace (so:=none) (d:=d) (hv:=v') (ob:=.row te.size e (rows++news)) (w':=w') hd' (λ_ _ h=>by cases h) hos htp hout (tk _ _ _ _ hrun) hsize (λb hl _=>hblk' b hl) (λb hb=>⟨.inl (hnew b hb).1,(hnew b hb).2⟩) (λ_ _ _ h=>by cases h) (λhkp=>by
          refine⟨hfl,?_⟩;rw[upd_same];have hcs:bB (upd E d v') w' (cx.fr (upd E d v') (upd (cM d (drop none O)) d (some (.row te.size e (rows++news))))) ((rows++news).flatten.map C.d) (xs++ns):=by rw[List.flatten_append,List.map_append];exact ek (k9 (cF hkp _ _ hxs)) (k9 (cF hkp _ _ hns))
          rcases hrow' with⟨h0,_,a0,hv⟩|⟨b,cap,cur,h0,hv,h1,h2,h3,h4,h5⟩;{omega}
          ·refine .inr ⟨b,cap,cur,h0,by rw[List.length_append];exact hv,by rw[List.length_append];exact h1,h2,h3,h4,?_⟩;rw[List.length_append,h5];exact hcs)
        rw[nw] at key;refine Step.of_run (u:=v') (w':=w') ?_ (by rw[hdst];exact Sim.new hs hd key rfl (by simp only[bG];rw[upd_same,hdv'];exact⟨rfl,hone⟩)) hk hn;unfold execOp;rw[hnr] at hxe;simp only[hop,resolve,invoke,builtin,Sem.run_bind,Sem.run_pure,Result.andThen_ok,List.map_toArray,List.map_cons,List.map_nil,hq,hxe,hrun]
       ·cases hfu
      ·cases hfu
     ·exact h.elim
    ·exact h.elim
   ·exact h.elim
  ·exact h.elim
 ·exact h.elim
theorem run_appS {w:World} {t ts ty e:TypeId} {te:TI} (hT:P.underlying t=some (.slice e)) (hS:P.underlying ts=some .string) (TE:TabFact P e te) (hsz:te.size=1) (hby:0<te.bytes) {u:Value} {n:Nat} {xs:A9} (hu:lQ w e te.size u n xs) (hxl:xs.length=n) (s:ByteArray) (hb:(n+(bsl s).length)*te.bytes<=140737488355328) :∃v' w',(Builtin.append_ #[t,ts] ty #[u,.string s]).run P w=.ok v' w'/\w'.os=w.os/\w'.tape=w.tape/\w'.output=w.output/\w.heap.size<=w'.heap.size/\(∀b,b<w.heap.size->¬ hbl u b->w'.heap[b]?=w.heap[b]?) /\ (∀b,hbl v' b->(w.heap.size<=b\/hbl u b)/\b<w'.heap.size)/\lQ w' e te.size v' (n+(bsl s).length) (xs++Lib.strCells s):=by
 have hm:(bsl s).length=s.size:=rfl;rw[hm] at hb⊢;obtain⟨i,hi,hi1,hi2,hi3⟩:=TE.get;rw[hsz] at hi1 hu⊢;have hzs:=TE.zsize;rw[hsz] at hzs;have hnm:n+s.size<=(n+s.size)*te.bytes:=Nat.le_mul_of_pos_right _ hby;have h63:n+s.size<=maxLen:=by simp only[maxLen];omega
 have hlen:(xs++Lib.strCells s).length=n+s.size:=by rw[List.length_append,hxl,Lib.strCells_length]
 have grown:∀(old:Nat),0<n+s.size->∀C:Array Value,C=xs.toArray++(Lib.strCells s).toArray++Builtin.zeroCells te.zv.cells (grownCap w (n+s.size) old e-(n+s.size)) -> (Builtin.append_ #[t,ts] ty #[u,.string s]).run P w=.ok (.slice (some ⟨w.heap.size,0,none⟩) (n+s.size) (grownCap w (n+s.size) old e)) (w.drew.alloc (.cells C e)) -> ∃v' w',(Builtin.append_ #[t,ts] ty #[u,.string s]).run P w=.ok v' w'/\w'.os=w.os/\w'.tape=w.tape/\w'.output=w.output/\w.heap.size<=w'.heap.size/\(∀b,b<w.heap.size->¬ hbl u b->w'.heap[b]?=w.heap[b]?) /\ (∀b,hbl v' b->(w.heap.size<=b\/hbl u b)/\b<w'.heap.size)/\lQ w' e 1 v' (n+s.size) (xs++Lib.strCells s):=by rintro old hpos C rfl hrun;have hge:=grownCap_ge w (n+s.size) old e;have hcm:=grownCap_le_maxLen w (n+s.size) old e h63;refine⟨_,_,hrun,rfl,rfl,rfl,by simp,λk hk _=>Below.heap_alloc w.drew _ k hk,λb hbk=>?_,.inr ⟨w.heap.size,_,_,by omega,rfl,hge,hcm,heap_alloc_new w.drew _,?_,?_⟩⟩;{simp_all};{simp only[Array.size_append,List.size_toArray,size_zeroCells,hzs,hxl,Lib.strCells_length];omega};grind
 rcases hu with⟨rfl,rfl,a,rfl⟩|⟨b,cap,cur,h0,rfl,hnc,hcm,hh,hcs,htk⟩
 ·by_cases hz:s.size=0;{have hn:Lib.strCells s=[]:=List.eq_nil_of_length_eq_zero (by simp_all);refine⟨.slice a 0 0,w,?_,rfl,rfl,rfl,Nat.le_refl _,λ_ _ _=>rfl,λb hbk=>?_,.inl ⟨by omega,by simp[hn],a,rfl⟩⟩;{have hf:=Lib.run_firstCells_string (P:=P) w 1 s;rw[hz,hn] at hf;cases a<;>simp[Builtin.append_,run_underlying hT,run_underlying hS,sizeOf,typeInfo,hi,hi1,Builtin.lenOf,hz,hf,storeCells]};simp_all}
  ·cases a with
   |none=>
    have hr:=run_append_nil_string (P:=P) w t ts ty e i te.zv hT hS hi hi3 s (by omega) (by omega) (by grind);refine grown 0 (by omega) _ ?_ (by simpa using hr);have e1:(s.data.map λb=>Value.int .u8 b.toNat)=(Lib.strCells s).toArray:=by apply Array.ext';simp[Lib.strCells]
    simp[e1]
   |some a0=>have hr:=Lib.run_append_grow_string (P:=P) w t ts ty e i te.zv hT hS hi hi3 a0 0 0 [] (by simp) (λj v hj=>by simp at hj) s (by omega) (by omega) (growslice_fits (by omega) (by rw[hi2];exact hb));grind
 ·by_cases hroom:n+s.size<=cap
  ·have hcs':cur.size=cap:=by simpa using hcs
   have hr:=Lib.run_append_room_string (P:=P) w t ts ty e i hT hS hi hi1 b n cap cur hh s hroom (by omega);have hbl:=(Array.getElem?_eq_some_iff.1 hh).1;refine⟨_,_,hr,rfl,rfl,rfl,by simp,λk _ hk=>setRow_other w b k _ (λe=>hk (by simp_all)),λk hk=>?_,.inr ⟨b,cap,_,h0,rfl,hroom,hcm,setRow_heap w b cur _ e _ hh,?_,?_⟩⟩;{simp_all};{grind};grind
  ·have holds:∀j v,xs[j]?=some v->w.cell? ((⟨b,0,none⟩:Addr).add j)=some v:=λj v hj=>by rw[addr_add];simp only[World.cell?,hh,Nat.zero_add];grind
   have hr:=Lib.run_append_grow_string (P:=P) w t ts ty e i te.zv hT hS hi hi3 ⟨b,0,none⟩ n cap xs (by simp_all) holds s (by omega) (by omega) (growslice_fits (by omega) (by rw[hi2];exact hb));grind
end
theorem ni:∀{es:Am} {j:Nat} {k:Key} {x u:U},(es.map (·.1)).Nodup->es[j]?=some (k,x)->mset es k u=es.set j (k,u)|[],j,_,_,_,_,h=>by simp at h|y::es,0,k,x,u,_,h=>by simp_all[mset]|y::es,j+1,k,x,u,hn,h=>by simp only[List.map_cons,List.nodup_cons] at hn;simp only[List.getElem?_cons_succ] at h;have:y.1≠k:=λe=>hn.1 (by grind);simp only[mset,if_neg this,List.set_cons_succ];rw[ni hn.2 h]
theorem uf:∀{es:Am} {k:Key},ta es k=none->∀x∈es,x.1≠k
 |[],_,_,x,hx=>by cases hx
 |y::es,k,h,x,hx=>by simp only[ta] at h;split at h;{cases h};{rename_i hne;rcases List.mem_cons.1 hx with rfl|hx;{exact hne};{exact uf h x hx}}
theorem rm:∀{es:Am} {k:Key} {u:U},ta es k=none->mset es k u=es++[(k,u)]|[],_,_,_=>rfl|y::es,k,u,h=>by simp only[ta] at h;split at h;{cases h};{rename_i hne;simp only[mset,if_neg hne,List.cons_append];rw[rm h]}
section
variable {P:Program} {tb:Tb} {cx:Cx} {Z:Env} {O:Sto} {o:Oper} {K:A3} {E:A7} {w:World} {F:Ad}
theorem esims_set:∀{es:Am} {l:List MapEntry} {j:Nat} {k:Key} {u:U} {e:MapEntry},fL E w F es l->e.key=k.val->ct E w F u e.val->fL E w F (es.set j (k,u)) (l.set j e)
 |[],_,j,_,_,_,h,_,_=>by simp_all[fL]|x::es,l,j,k,u,e,h,hk,hu=>by
  obtain⟨e',r,rfl,h1,h2,h3⟩:=h;cases j with
  |zero=>exact⟨e,r,rfl,hk,hu,h3⟩|succ j=>exact⟨e',_,rfl,h1,h2,esims_set h3 hk hu⟩
theorem ul:∀{es fs:Am} {l m:List MapEntry},fL E w F es l->fL E w F fs m->fL E w F (es++fs) (l++m)|[],_,_,_,h,h'=>by simp_all[fL]|x::es,fs,l,m,h,h'=>by obtain⟨e,r,rfl,h1,h2,h3⟩:=h;exact⟨e,r++m,rfl,h1,h2,ul h3 h'⟩
def lr (w:World) (b:Nat) (o:Obj):World:={ w with heap:=w.heap.setIfInBounds b o }
theorem sJ (w:World) (b b':Nat) (o:Obj) (h:b≠b'):(lr w b o).heap[b']?=w.heap[b']?:=by simp[lr,Array.getElem?_setIfInBounds_ne h]
theorem setObjW_same (w:World) (b:Nat) (o:Obj) (h:b<w.heap.size):(lr w b o).heap[b]?=some o:=by simp[lr,h]
theorem rn {b:Nat} {ents:Array MapEntry} {clk:Nat} (hh:w.heap[b]?=some (.map ents clk)):(getObj b).run P w=.ok (.map ents clk) w:=by simp[getObj,Sem.run,hh]
theorem tW {b:Nat} {ents:Array MapEntry} {clk:Nat} (hh:w.heap[b]?=some (.map ents clk)) (o:Obj):(setObj b o).run P w=.ok () (lr w b o):=by simp[setObj,Sem.run,hh,lr]
theorem dropIt_sub {s t:Nat} {o:Ob} (h:lm s O t=some o):O t=some o:=by grind[lm]
theorem dropIt_iter {s t m:Nat} {l:Am} {la:Option (Key×U)} (h:lm s O t=some (.iter m l la)):m≠s:=by grind[lm]
theorem dropIt_map {s m:Nat} {kk:KK} {es:Am} (h:O m=some (.map kk es)):lm s O m=some (.map kk es):=by unfold lm;rw[h]
theorem mapWrite (hco:Core cx E O w) {s:Nat} {kk:KK} {es es':Am} (hs:O s=some (.map kk es)) {b:Nat} {ents:Array MapEntry} {clk clk':Nat} {ents':Array MapEntry} (hp:E s=.map (some b)) (hh:w.heap[b]?=some (.map ents clk)) (hes:∀F' w',Keep (cx.fr E O) F' w w'->fL E w' F' es' ents'.toList) (h1:(ents'.toList.map (·.born)).Nodup) (h2:∀e∈ents'.toList,e.born<clk') (h3:∀x∈es',x.1.fits kk=true) (h4:(es'.map (·.1)).Nodup) :
  Core cx E (upd (lm s O) s (some (.map kk es'))) (lr w b (.map ents' clk'))/\Keep (cx.fr E O) (cx.fr E (upd (lm s O) s (some (.map kk es')))) w (lr w b (.map ents' clk')):=by have hl:b<w.heap.size:=(Array.getElem?_eq_some_iff.1 hh).1;refine hco.mutate (ob':=.map kk es') hs (λt o _ h=>dropIt_sub h) (λt m l la _ h=>dropIt_iter h) (λm kk es h _=>dropIt_map h) (λ_ _ _ h=>by cases h) rfl rfl rfl (Nat.le_refl _) (by simp[lr]) (λb' _ hne=>sJ w b b' _ (λe=>hne (by rw[hp,e];simp))) (λhk=>?_);exact⟨b,ents',clk',hp,setObjW_same w b _ hl,hes _ _ hk,h1,h2,h3,h4⟩
theorem Sim.written {E:A7} {a:Act} {w w':World} {O':Sto} (hs:Sim cx E Z O a w) (h:Core cx E O' w'/\Keep (cx.fr E O) (cx.fr E O') w w'):Sim cx E Z O' a w' :=⟨h.1,λt=>fb h.2 _ _ (hs.slots t),hs.defers,hs.room⟩
def vset:AD->Key->Value->AD|[],k,u=>[(k,u)]|x::es,k,u=>if x.1=k then(k,u)::es else x::vset es k u
theorem ow:∀(es:AD) (k:Key) (u:Value),opqs (vset es k u)=mset (opqs es) k (.one (.opq u))|[],_,_=>rfl|x::es,k,u=>by unfold vset;by_cases h:x.1=k;{simp[opqs,mset,h]};{have:=ow es k u;simp only[opqs] at this;simp[opqs,mset,h,this]}
theorem vget_vset:∀(es:AD) (k:Key) (u:Value) (k':Key),vget (vset es k u) k'=if k'=k then u else vget es k'
 |[],k,u,k'=>by
  by_cases h:k'=k;{subst h;simp[vget,vset]};{simp[vget,vset,h,Ne.symm h]}
 |x::es,k,u,k'=>by have ih:=vget_vset es k u k';unfold vset;by_cases h:x.1=k;{rw[if_pos h];by_cases h2:k'=k;{subst h2;simp[vget]};{have h3:¬ k=k':=λe=>h2 e.symm;simp[vget,h2,h3,h]}};{rw[if_neg h];by_cases h2:x.1=k';{subst h2;simp[vget,h]};{simp only[vget,List.find?_cons,h2,decide_false] at ih⊢;exact ih}}
theorem vset_mem:∀{es:AD} {k:Key} {u:Value} {x:Key×Value},x∈vset es k u->x.1=k\/x∈es|[],k,u,x,h=>by simp[vset] at h;exact .inl (by rw[h])|y::es,k,u,x,h=>by unfold vset at h;split at h;{rcases List.mem_cons.1 h with rfl|h;{exact .inl rfl};{exact .inr (List.mem_cons_of_mem _ h)}};{rcases List.mem_cons.1 h with rfl|h;{exact .inr (by simp)};{exact(vset_mem h).imp_right (List.mem_cons_of_mem _)}}
theorem map_vget_set:∀{ks:List Key} {es:AD} {k:Key} {u:Value},ks.Nodup->iU ks k<ks.length->ks.map (vget (vset es k u))=(ks.map (vget es)).set (iU ks k) u
 |[],_,_,_,_,h=>by simp[iU] at h|x::ks,es,k,u,hn,h=>by
  rw[List.nodup_cons] at hn;unfold iU at h⊢;by_cases hx:x=k
  ·subst hx;rw[if_pos rfl,List.map_cons,List.map_cons,List.set_cons_zero,vget_vset,if_pos rfl]
   congr 1
   refine List.map_congr_left λy hy=>?_;rw[vget_vset,if_neg (λe:y=x=>hn.1 (e ▸ hy))]
  ·rw[if_neg hx] at h⊢;rw[List.map_cons,List.map_cons,List.set_cons_succ,vget_vset,if_neg hx,map_vget_set hn.2 (by simpa using h)]
theorem neC_sound {E:A7} {w:World} {F:Ad} {ie:TypeId} {sz:Nat} {c:C} {x:NE} {v:Value} (h:neC (.one c)=some x) (hv:bI E w F (.u (.one c)) v):nsim E w F ie sz v undef x/\v.oneCell'=true:=by unfold neC at h;split at h;{rename_i t he;cases he;cases h;exact⟨⟨hv.1,hv.2,rfl⟩,hv.2⟩};{rename_i t z n he;cases he;cases h;refine⟨⟨hv,rfl⟩,?_⟩;obtain⟨_,_,_,_,_,_,rfl⟩:=hv;rfl};{cases h}
theorem nsim_keep {E:A7} {w w':World} {F F':Ad} {ie:TypeId} {sz:Nat} {x:NE} {c:Value} (hk:Keep F F' w w') (h:nsim E w F ie sz c undef x):nsim E w' F' ie sz c undef x:=by
 cases x with
 |rows r=>exact⟨h.1,rowv_keep hk (λb hb=>by cases hb) h.2⟩|own t=>exact h|sub t z n=>exact⟨eB hk _ _ h.1,h.2⟩|dead=>exact h
theorem mapsetN_sound (ht:TbOk P tb) {t kt e:TypeId} {m k x:Operand} {ti:TI} {s:Nat} {key:Key} {u:U} {kk:KK} {ks:List Key} {ie:TypeId} {sz:Nat} {els:List NE} (hop:o.op=.mapUpdate t m k x) (hdst:o.dst=none) (hty:tb.ty t=some ti) (hmv:oev Z m=.u (.one (.map s))) (hkv:vkey (oev Z k)=some key) (hxv:vu (oev Z x)=some u) (hd:ti.desc=.map kt e) (hs':O s=some (.nest (.map kk ks) ie sz els)) (h:stpN' (rMapN (tb.key kt) kk ks ie sz els key u Z O s) K):Step P cx o Z O K:=by
 intro E a w hs next Q hn
 have hm:=dW hs.core.gw hs.slots m;have hk:=dW hs.core.gw hs.slots k;have hx:=dW hs.core.gw hs.slots x;have T:=ht.ty t ti hty;unfold rMapN stpN' at h;split at h
 ·rename_i p Z' O' heq;split at heq
  ·rename_i x' hnx;simp only[Option.some.injEq,Prod.mk.injEq] at heq;obtain⟨rfl,rfl,rfl⟩:=heq;obtain⟨⟨hkt,hfit,hpos⟩,hK⟩:=h;have hxe:∃c',oev Z x=.u (.one c')/\neC (.one c')=some x':=by
    cases hv0:oev Z x with
    |u u'=>
     rw[hv0] at hxv;simp only[vu,Option.some.injEq] at hxv;rw[<- hxv] at hnx;cases u' with
     |one c'=>exact⟨c',rfl,hnx⟩|agg cs=>cases hnx
    |tup us=>rw[hv0] at hxv;cases hxv
   obtain⟨c',hxe,hnc⟩:=hxe;rw[hxe] at hx;have hlen0:iU ks key<els.length:=by obtain⟨_,_,_,_,_,⟨_,_,_,_,_,_,_,_,_,_,_,hl,_⟩,_⟩:=hs.core.objs s _ hs';omega
   obtain⟨J,out,ivs,cs,hv,hp,hsp,hiv,hco,hvs,hns⟩:=hs.core.deaden hs' hlen0;obtain⟨b,ents,clk,es,rfl,hh,hes,hb1,hb2,hfits,hnd,hlen,hcs,hkn,hkf,hall⟩:=hsp;rw[hmv] at hm;have hme:a.eval m=.map (some b):=by have h1:=hvs _ _ hm;simp only[bI,ct,bG] at h1;rw[h1.1,hp,fB]
   have hke:=tD hkv hk;have hxu:=neC_sound (ie:=ie) (sz:=sz) hnc (hvs _ _ hx);obtain⟨hchk,hfind⟩:=ue (P:=P) (w:=w) ht hkt hes hfits hnd hfit;obtain⟨K',hof⟩:=ht.key kt kk hkt;obtain⟨lk,hlk⟩:=hof key hfit;have hbl:b<w.heap.size:=(Array.getElem?_eq_some_iff.1 hh).1;have hndb:(blks (J s)).Nodup:=by obtain⟨_,_,_,_,hnd,_⟩:=hco.objs s _ (upd_same _ _ _);exact hnd
   have hndb':=hndb;rw[hp,gl,List.filterMap_cons,show gD (Value.map (some b))=some b from rfl,List.nodup_cons] at hndb';have fin:∀(ents':Array MapEntry) (clk':Nat),(execOp a.eval o).run P w=.ok .skip (lr w b (.map ents' clk'))->(∀w',fL (λ_=>undef) w' (λ_=>False) (opqs (vset es key (a.eval x))) ents'.toList)->(ents'.toList.map (·.born)).Nodup->(∀e∈ents'.toList,e.born<clk') -> (∀y∈opqs (vset es key (a.eval x)),y.1.fits kk=true)->((opqs (vset es key (a.eval x))).map (·.1)).Nodup->o.wp P a w next Q:=by
    intro ents' clk' hrun g1 g2 g3 g4 g5;have key':=hco.mutate (s:=s) (ob:=.nest (.map kk ks) ie sz (els.set (iU ks key) .dead)) (ob':=.nest (.map kk ks) ie sz (els.set (iU ks key) x')) (w':=lr w b (.map ents' clk')) (upd_same _ _ _) (σ1:=O) (λt o ht ho=>by rw[bz _ _ ht];exact ho) (λt m l la _ h e=>by subst e;obtain⟨kk,es,hm⟩:=hs.core.itm t m l la h;rw[hs'] at hm;cases hm) (λm kk es hm hms=>by rwa [bz _ _ hms] at hm) (λm l la h=>by cases h) rfl rfl rfl (Nat.le_refl _) (by simp[lr]) (λb' _ hne=>sJ w b b' _ (λe=>hne (by rw[hp,lE];exact .inl (by rw[e];rfl)))) (λhkp=>by
      have h5:=oq (i:=iU ks key) (x:=x') (c:=a.eval x) (iv:=undef) (k5 hkp (λiv hv' b' hb'=>sJ w b b' _ (λe=>hndb'.1 (by rw[e];exact List.mem_filterMap.2 ⟨iv,hv',hb'⟩))) hns) (nsim_keep hkp hxu.1);rw[List.set_set,i6 hiv] at h5;refine⟨_,ivs,_,hp,hndb,⟨b,ents',clk',vset es key (a.eval x),rfl,setObjW_same w b _ hbl,g1 _,g2,g3,g4,g5,by rw[List.length_set];exact hlen,rfl,hkn,hkf,λy hy=>?_⟩,?_⟩;{rcases vset_mem hy with h6|h6;{rw[h6];exact List.mem_of_getElem? (posK_get hpos)};{exact hall y h6}}
      ·rw[map_vget_set hkn hpos,<- hcs];exact h5)
    have hs2:Sim cx J Z (upd O s (some (.nest (.map kk ks) ie sz (els.set (iU ks key) x')))) (a.put o.dst undef) (lr w b (.map ents' clk')):=by rw[hdst];exact⟨key'.1,λt=>fb key'.2 _ _ (hvs _ _ (hs.slots t)),hs.defers,hs.room⟩
    unfold Oper.wp;rw[hrun];exact hn _ _ _ _ _ hs2 hK
   rcases hfind with⟨h1,h2⟩|⟨j,en,x',h1,h2,h3,h4,h5,h6⟩;{refine fin (ents.push { key:=key.val,val:=a.eval x,born:=clk }) (clk+1) ?_ ?_ ?_ ?_ ?_ ?_;{simp only[execOp,hop,hme,hke,Instr.mapUpdate,Sem.run_bind,T.run_und,Result.andThen_ok,hd,rn hh,hchk,h1,tW hh,Sem.run_pure]};{intro w';rw[ow,rm h2,Array.toList_push];exact ul (uh hes) ⟨_,[],rfl,rfl,by simp only[ct,bG];exact⟨trivial,hxu.2⟩,rfl⟩};{grind};{intro e he;grind};{intro y hy;rw[ow,rm h2] at hy;grind};{rw[ow,rm h2,List.map_append,List.nodup_append];refine⟨hnd,by simp,λp hp q hq=>?_⟩;obtain⟨e,he,rfl⟩:=List.mem_map.1 hp;simp only[List.map_cons,List.map_nil,List.mem_cons,List.not_mem_nil,or_false] at hq;grind[uf]}}
   ·have hej:ents[j]?=some en:=by simpa using h2
    have hlt:j<ents.size:=(Array.getElem?_eq_some_iff.1 hej).1;have hmod:(ents.modify j λe=>{ e with key:=key.val,val:=a.eval x }).toList=ents.toList.set j { key:=key.val,val:=a.eval x,born:=en.born }:=by apply List.ext_getElem?;grind
    have hborn:(ents.toList.set j { key:=key.val,val:=a.eval x,born:=en.born }).map (·.born)=ents.toList.map (·.born):=by simp_all[i6]
    have hstay:=K'.stays w hlk;refine fin (ents.modify j λe=>{ e with key:=key.val,val:=a.eval x }) clk ?_ ?_ ?_ ?_ ?_ ?_;{simp only[execOp,hop,hme,hke,Instr.mapUpdate,Sem.run_bind,T.run_und,Result.andThen_ok,hd,rn hh,hchk,h1,hej,Option.map_some,Option.getD_some,h3,hstay,tW hh,Sem.run_pure]};{intro w';rw[ow,ni hnd h4,hmod];exact esims_set (uh hes) rfl (by simp only[ct,bG];exact⟨trivial,hxu.2⟩)};{simp_all};{intro e he;grind};{intro y hy;rw[ow,ni hnd h4] at hy;grind};{rw[ow,ni hnd h4,List.map_set,i6 (by simp_all)];exact hnd}
  ·cases heq
 ·exact h.elim
theorem mapset_sound (ht:TbOk P tb) {t:TypeId} {m k x:Operand} (hop:o.op=.mapUpdate t m k x) (hdst:o.dst=none) (h:pU tb Z O t (oev Z m) (oev Z k) (oev Z x) K):Step P cx o Z O K:=by
 intro E a w hs next Q hn
 have hm:=dW hs.core.gw hs.slots m;have hk:=dW hs.core.gw hs.slots k;have hx:=dW hs.core.gw hs.slots x;unfold pU at h;split at h
 ·rename_i ti s key u hty hmv hkv hxv;have T:=ht.ty t ti hty;split at h
  ·rename_i kt e kk es hd hs';obtain⟨hkt,hfit,hK⟩:=h;obtain⟨b,ents,clk,hp,hh,hes,hb1,hb2,hfits,hnd⟩:=hs.core.objs s _ hs';rw[hmv] at hm;have hme:a.eval m=.map (some b):=hm.1.trans (by rw[hp];rfl);have hke:=tD hkv hk;have hxu:ct E w (cx.fr E O) u (a.eval x):=by unfold vu at hxv;split at hxv;{cases hxv;rename_i hxe;rw[hxe] at hx;exact hx};{cases hxv}
   obtain⟨hchk,hfind⟩:=ue (P:=P) (w:=w) ht hkt hes hfits hnd hfit;obtain⟨K',hof⟩:=ht.key kt kk hkt;obtain⟨lk,hlk⟩:=hof key hfit;rcases hfind with⟨h1,h2⟩|⟨j,en,x',h1,h2,h3,h4,h5,h6⟩
   ·have hw:=mapWrite hs.core hs' hp hh (es':=mset es key u) (ents':=ents.push { key:=key.val,val:=a.eval x,born:=clk }) (clk':=clk+1) (λF' w' hkp=>by rw[rm h2,Array.toList_push];exact ul (r8 hkp hes) ⟨_,[],rfl,rfl,qi hkp _ _ hxu,rfl⟩) (by grind) (λe he=>by grind) (λy hy=>by rw[rm h2] at hy;grind) (by rw[rm h2,List.map_append,List.nodup_append];refine⟨hnd,by simp,λp hp q hq=>?_⟩;obtain⟨e,he,rfl⟩:=List.mem_map.1 hp;simp only[List.map_cons,List.map_nil,List.mem_cons,List.not_mem_nil,or_false] at hq;grind[uf]);have hrun:(execOp a.eval o).run P w=.ok .skip (lr w b (.map (ents.push { key:=key.val,val:=a.eval x,born:=clk }) (clk+1))):=by simp only[execOp,hop,hme,hke,Instr.mapUpdate,Sem.run_bind,T.run_und,Result.andThen_ok,hd,rn hh,hchk,h1,tW hh,Sem.run_pure]
    unfold Oper.wp;rw[hrun];refine hn E Z _ _ _ ?_ hK;rw[hdst];exact hs.written hw
   ·have hej:ents[j]?=some en:=by simpa using h2
    have hlt:j<ents.size:=(Array.getElem?_eq_some_iff.1 hej).1;have hmod:(ents.modify j λe=>{ e with key:=key.val,val:=a.eval x }).toList=ents.toList.set j { key:=key.val,val:=a.eval x,born:=en.born }:=by apply List.ext_getElem?;grind
    have hborn:(ents.toList.set j { key:=key.val,val:=a.eval x,born:=en.born }).map (·.born)=ents.toList.map (·.born):=by simp_all[i6]
    have hw:=mapWrite hs.core hs' hp hh (es':=mset es key u) (ents':=ents.modify j λe=>{ e with key:=key.val,val:=a.eval x }) (clk':=clk) (λF' w' hkp=>by rw[ni hnd h4,hmod];exact esims_set (r8 hkp hes) rfl (qi hkp _ _ hxu)) (by simp_all) (λe he=>by grind) (λy hy=>by rw[ni hnd h4] at hy;grind) (by rw[ni hnd h4,List.map_set,i6 (by simp_all)];exact hnd);have hstay:=K'.stays w hlk;have hrun:(execOp a.eval o).run P w=.ok .skip (lr w b (.map (ents.modify j λe=>{ e with key:=key.val,val:=a.eval x }) clk)):=by simp only[execOp,hop,hme,hke,Instr.mapUpdate,Sem.run_bind,T.run_und,Result.andThen_ok,hd,rn hh,hchk,h1,hej,Option.map_some,Option.getD_some,h3,hstay,tW hh,Sem.run_pure]
    unfold Oper.wp;rw[hrun];refine hn E Z _ _ _ ?_ hK;rw[hdst];exact hs.written hw
  ·rename_i kt e kk ks ie sz els hd hs';exact mapsetN_sound ht hop hdst hty hmv hkv hxv hd hs' h E a w hs next Q hn
  ·exact h.elim
 ·exact h.elim
theorem makeMap_sound (ht:TbOk P tb) {d:Nat} {t:TypeId} {r:Option Operand} (hop:o.op=.makeMap t r) (hdst:o.dst=some d) (hd:d<cx.n) (hd':d<inBase) (h:oS tb Z O d t (r.map (oev Z)) K):Step P cx o Z O K:=by
 intro E a w hs next Q hn
 unfold oS at h;split at h;{rename_i ti hty;have T:=ht.ty t ti hty;split at h;{rename_i kt e hde;split at h;{rename_i kk hkk;obtain⟨hr,hK⟩:=h;have hb:Blw w.heap.size w (w.alloc (.map #[] 0)):=(Blw.refl _ _).alloc (Nat.le_refl _) _;have key:=hs.core.replace (so:=none) (d:=d) (hv:=.map (some w.heap.size)) (ob:=.map kk []) (w':=w.alloc (.map #[] 0)) hd' (λ_ _ h=>by cases h) hb.os hb.tape hb.output hb.drawn hb.size (λb hl _=>hb.block b hl) (λb hbk=>by simp_all) (λ_ _ _ h=>by cases h) (λ_=>⟨w.heap.size,#[],0,upd_same _ _ _,heap_alloc_new w _,rfl,by simp,by simp,by simp,by simp⟩);rw[nw] at key;refine Step.of_run (u:=.map (some w.heap.size)) (w':=w.alloc (.map #[] 0)) ?_ (by rw[hdst];exact Sim.new hs hd key rfl (by simp only[bG];exact⟨(by rw[upd_same];rfl),rfl⟩)) hK hn;have hnew:(newObj (.map #[] 0)).run P w=.ok w.heap.size (w.alloc (.map #[] 0)):=rfl;cases r with|none=>simp only[execOp,hop,Instr.makeMap,Option.map_none,Sem.run_bind,Sem.run_pure,Result.andThen_ok,hnew]|some x=>have hx:=dW hs.core.gw hs.slots x;simp only[Option.map_some] at hr;unfold qint at hr;split at hr;{rename_i q n hxe;rw[hxe] at hx;simp only[bI,ct,bG,rep] at hx;simp only[execOp,hop,Instr.makeMap,Option.map_some,Sem.run_bind,Sem.run_pure,Result.andThen_ok,T.run_und,hde,hx,asInt,asIntOf,hnew]};{cases hr}};{exact h.elim}};{exact h.elim}};{exact h.elim}
theorem makeSlice_sound (ht:TbOk P tb) {d:Nat} {t:TypeId} {x c:Operand} (hop:o.op=.makeSlice t x c) (hdst:o.dst=some d) (hd:d<cx.n) (hd':d<inBase) (h:m9 tb Z O d t (oev Z x) (oev Z c) K):Step P cx o Z O K:=by
 intro E a w hs next Q hn
 unfold m9 at h;split at h
 ·rename_i ti hty;have T:=ht.ty t ti hty;split at h
  ·rename_i e hde;split at h
   ·rename_i te hte;have TE:=ht.ty e te hte;split at h
    ·rename_i n m zr hx hc hz;obtain⟨⟨h0,hnm,hsz,hby,hbm⟩,hK⟩:=h;have hx':=dW hs.core.gw hs.slots x;have hc':=dW hs.core.gw hs.slots c;rw[hx] at hx';rw[hc] at hc';simp only[bI,ct,bG,rep] at hx' hc';obtain⟨i,hi,hi1,hi2,hi3⟩:=TE.get;obtain⟨zs,hzs,hzr⟩:=Option.bind_eq_some_iff.1 hz;have hzc:=iq (E:=E) (w:=w) (F:=cx.fr E O) hzs (TE.zero _ _ _);rw[sU hzr] at hzc;have hm0:0<=m:=by omega
     obtain⟨N,rfl⟩:=Int.eq_ofNat_of_zero_le h0;obtain⟨M,rfl⟩:=Int.eq_ofNat_of_zero_le hm0;have hNM:N<=M:=by omega
     have hMM:M<=M*te.bytes:=Nat.le_mul_of_pos_right _ hby;have hbM:M*te.bytes<=140737488355328:=by omega
     have hwN:IntKind.i64.wrap (N:Int)=N:=IntWalk.i64_in _ ⟨by omega,by omega⟩;have hwM:IntKind.i64.wrap (M:Int)=M:=IntWalk.i64_in _ ⟨by omega,by omega⟩;have hzcs:=TE.zsize;have hbi:¬ ((te.bytes:Int)*(M:Int)>2 ^ 48):=by grind
     have hroom:∀b:Nat,(askRoom b).run P w=.ok () w:=λb=>by simp
     let cells:Array Value:=(Array.range (M*te.zv.cells.size)).map λj=>te.zv.cells[j%te.zv.cells.size]!;have hrun:(Instr.makeSlice t (.int .i64 N) (.int .i64 M)).run P w=.ok (.slice (some ⟨w.heap.size,0,none⟩) N M) (w.alloc (.cells cells e)):=by
      have hnew:∀cs:Array Value,(newRow e cs).run P w=.ok ⟨w.heap.size,0,none⟩ (w.alloc (.cells cs e)):=λcs=>rfl;have hM0:¬ ((M:Int)<0):=by omega
      have hN0:¬ ((N:Int)<0):=by omega
      have hNM0:¬ ((N:Int)>M):=by omega
      have hti:(typeInfo e).run P w=.ok i w:=by simp[typeInfo,hi]
      unfold Instr.makeSlice;simp only[Sem.run_bind,T.run_und,Result.andThen_ok,hde,asInt,asIntOf,Sem.run_pure,hti,hi2,hwN,hwM,hM0,hN0,hNM0,hbi,decide_false,Bool.or_self,Bool.false_eq_true,if_false,hroom,TE.run_size,Int.toNat_natCast];split;{rename_i h0;have:M*te.size=0:=h0;simp only[Sem.run_bind,Sem.run_pure,Result.andThen_ok,hnew];grind};{simp only[Sem.run_bind,TE.run_zero,Sem.run_pure,Result.andThen_ok,hnew];grind}
     have hb:Blw w.heap.size w (w.alloc (.cells cells e)):=(Blw.refl _ _).alloc (Nat.le_refl _) _;have hzl:=cR hzc;simp only[List.length_map,Array.length_toList] at hzl;rw[hzcs] at hzl;have hcells:bB E w (cx.fr E O) ((List.replicate M zr).flatten.map C.d) cells.toList:=by exact zero_cells hzc M
     have hcs:cells.size=M*te.size:=by simp[cells,hzcs]
     have key:=hs.core.replace (so:=none) (d:=d) (hv:=.slice (some ⟨w.heap.size,0,none⟩) N M) (ob:=.row te.size e (List.replicate N zr)) (w':=w.alloc (.cells cells e)) hd' (λ_ _ h=>by cases h) hb.os hb.tape hb.output hb.drawn hb.size (λb hl _=>hb.block b hl) (λb hbk=>by simp_all) (λ_ _ _ h=>by cases h) (λhk=>by
       refine⟨λr hr=>by simp_all,?_⟩;by_cases hM:M=0
       ·have hN:N=0:=by omega
        subst hM hN;exact .inl ⟨rfl,_,upd_same _ _ _⟩
       ·refine .inr ⟨w.heap.size,M,cells,by omega,by rw[List.length_replicate];exact upd_same _ _ _,by simpa using hNM,by simp only[maxLen];omega,heap_alloc_new w _,hcs,?_⟩;have h1:=iL (N*te.size) hcells;have h2:((List.replicate M zr).flatten.map C.d).take (N*te.size)=(List.replicate N zr).flatten.map C.d:=by
         rw[<- List.map_take]
         congr 1
         rw[show M=N+(M-N)from by omega,<- List.replicate_append_replicate,List.flatten_append,List.take_append_of_le_length (by simp[hzl]),List.take_of_length_le (by simp[hzl])]
        grind[k9,cF])
     rw[nw] at key;refine Step.of_run (u:=.slice (some ⟨w.heap.size,0,none⟩) N M) (w':=w.alloc (.cells cells e)) ?_ (by rw[hdst];exact Sim.new hs hd key rfl (by simp only[bG];exact⟨(by rw[upd_same];rfl),rfl⟩)) hK hn;simp only[execOp,hop,hx',hc',hrun,Sem.run_bind,Sem.run_pure,Result.andThen_ok]
    ·exact h.elim
   ·exact h.elim
  ·exact h.elim
 ·exact h.elim
theorem usim_key (k:Key):ct E w F k.u k.val:=by
 cases k with
 |int k n=>rfl|str s=>rfl|ints l=>
  refine⟨_,rfl,?_⟩;have:∀l:A0,bB E w F (l.map λn=>C.d (.int .i64 n)) (l.map (Value.int .i64)):=by
   intro l;induction l with
   |nil=>simp[bB]|cons n l ih=>simp only[List.map_cons,bB];exact⟨_,_,rfl,by simp[bG,rep],ih⟩
  simpa using this l
theorem entry_sound {d:Nat} {x:Operand} (hop:o.op=.entry x) (hdst:o.dst=some d) (hd:d<cx.n) (h:aEntry Z O d (oev Z x) K):Step P cx o Z O K:=by
 intro E a w hs next Q hn
 have hx:=dW hs.core.gw hs.slots x;unfold aEntry at h;split at h
 ·rename_i s hxv;split at h
  ·rename_i m left y hs';obtain⟨b,c,ents,clk,seen,hp,hq,hh,hh',hc,h1,h2,h3⟩:=hs.core.objs s _ hs';obtain⟨e,a1,a2,a3,a4⟩:=h3 y rfl;rw[hxv] at hx;have hxe:a.eval x=.pointer (some ⟨b,0,none⟩):=hx.1.trans (by rw[hp];rfl);have hgi:(getObj b).run P w=.ok (.mapIter (some c) clk seen clk) w:=by simp[getObj,Sem.run,hh]
   refine Step.of_run (u:=.tuple #[e.key,e.val]) (w':=w) ?_ (hs.put (d:=o.dst) (v:=.tup [y.1.u,y.2]) (λz hz=>by simp_all) ⟨_,rfl,e.key,[e.val],rfl,by rw[a3];exact usim_key _,e.val,[],rfl,a4,rfl⟩) (by rw[hdst];exact h) hn;simp[execOp,hop,Instr.entry,hxe,hgi,a1,rn hh',a2]
  ·exact h.elim
 ·exact h.elim
end
