import Derived.Test.YtbgliammfkgfoaaGreatDoorAmx1
namespace Go.AM
open Go.RowKit
def NE.wipe (d:Nat):NE->NE
 | .own t=>if t=d then .dead else .own t
 | .sub t z n=>if t=d then .dead else .sub t z n
 | x=>x
def NE.ren (f:Nat->Nat):NE->NE
 | .own t=>.own (f t)
 | .sub t z n=>.sub (f t) z n
 | x=>x
theorem NE.wipe_comm {d e:Nat} (x:NE):(x.wipe d).wipe e=(x.wipe e).wipe d:=by
 cases x with
 | own t=>grind [NE.wipe]
 | sub t z n=>grind [NE.wipe]
 | _=>rfl
theorem NE.wipe_idem {d:Nat} (x:NE):(x.wipe d).wipe d=x.wipe d:=by
 cases x with
 | own t=>grind [NE.wipe]
 | sub t z n=>grind [NE.wipe]
 | _=>rfl
def NE.closed:NE->Bool
 | .own _ | .sub _ _ _=>false
 | _=>true
def Ob.wipe (d:Nat):Ob->Option Ob
 | .box cs=>some (.box (cs.map (C.wipe d)))
 | .row sz e rows=>some (.row sz e rows)
 | .map kk es=>some (.map kk (es.map fun x=>(x.1,x.2.wipe d)))
 | .iter m left last=>if m=d then none else some (.iter m (left.map fun x=>(x.1,x.2.wipe d)) (last.map fun x=>(x.1,x.2.wipe d)))
 | .nest e ie sz els=>some (.nest e ie sz (els.map (NE.wipe d)))
def cL (d:Nat) (Z:Env):Env:=fun t=>(Z t).wipe d
def bN (d:Nat) (O:Sto):Sto:=fun s=>(O s).bind (Ob.wipe d)
def drop (so:Option Nat) (O:Sto):Sto:=fun t=>if so=some t then none else O t
def gj (s:Nat) (O:Sto):Sto:=fun t=>match O t with
 | some (.iter m left last)=>if m=s then none else some (.iter m left last)
 | o=>o
section
variable {φ ψ:Nat->Value} {w w':World} {F F':Nat->Prop} {s d:Nat} {O:Sto} {cx:Cx}
theorem oh (h:∀ t,t≠d->ψ t=φ t):∀ {es:List (Key×U)} {l:List MapEntry},dn φ w F es l->dn ψ w F (es.map fun x=>(x.1,x.2.wipe d)) l
 | [],_,hs=>hs
 | x::es,l,hs=>by
  obtain⟨e,r,rfl,h1,h2,h3⟩:=hs
  exact⟨e,r,rfl,h1,usim_wipe h _ _ h2,oh h h3⟩
theorem mH {v:Value} {sz:Nat} {e:TypeId} {rows:List (List L)} (ho:rowv φ w F v sz e rows):rowv ψ w F v sz e rows:=by
 obtain⟨h1,h2⟩:=ho
 refine⟨h1,?_⟩
 rcases h2 with h2 | ⟨b,cap,cur,h0,hp,hl,hm,hh,hs,hc⟩
 ·exact .inl h2
 ·exact .inr ⟨b,cap,cur,h0,hp,hl,hm,hh,hs,csims_phi hc⟩
theorem mL {ie:TypeId} {sz:Nat} (h:∀ t,t≠d->ψ t=φ t):∀ {els:List NE} {cs ivs:List Value},jn φ w F ie sz els cs ivs->jn ψ w F ie sz (els.map (NE.wipe d)) cs ivs
 | [],_,_,hn=>hn
 | x::els,cs,ivs,hn=>by
  obtain⟨c,cs',iv,ivs',rfl,rfl,h1,h2⟩:=hn
  refine⟨c,cs',iv,ivs',rfl,rfl,?_,mL h h2⟩
  cases x with
  | rows r=>exact⟨h1.1,mH h1.2⟩
  | own t =>
   simp only[NE.wipe]
   split
   ·exact⟨h1.2.1,h1.2.2⟩
   ·rename_i ht
    exact⟨by rw[h t ht]; exact h1.1,h1.2⟩
  | sub t z n =>
   simp only[NE.wipe]
   split
   ·obtain⟨⟨_,_,_,_,_,_,rfl⟩,h2⟩:=h1
    exact⟨rfl,h2⟩
   ·rename_i ht
    obtain⟨h1,h2⟩:=h1
    exact⟨by simp only[bl] at h1 ⊢; rw[h t ht]; exact h1,h2⟩
  | dead=>exact h1
theorem nsims_ren {ie:TypeId} {sz:Nat} {f:Nat->Nat}:∀ {els:List NE} {cs ivs:List Value},jn φ w F ie sz (els.map (NE.ren f)) cs ivs↔jn (fun t=>φ (f t)) w F ie sz els cs ivs
 | [],_,_=>Iff.rfl
 | x::els,cs,ivs=>by
  refine exists_congr fun c=>exists_congr fun cs'=>exists_congr fun iv=>exists_congr fun ivs'=>and_congr Iff.rfl (and_congr Iff.rfl (and_congr ?_ nsims_ren))
  cases x with
  | rows r=>exact and_congr Iff.rfl ⟨mH,mH⟩
  | own t=>exact Iff.rfl
  | sub t z n=>exact Iff.rfl
  | dead=>exact Iff.rfl
theorem closed_ren {f:Nat->Nat}:∀ {els:List NE},els.all NE.closed=true->els.map (NE.ren f)=els
 | [],_=>rfl
 | x::els,h=>by
  simp only[List.all_cons,Bool.and_eq_true] at h
  rw[List.map_cons,closed_ren h.2]
  cases x with
  | own t=>cases h.1
  | sub t z n=>cases h.1
  | _=>rfl
theorem closed_wipe {d:Nat}:∀ {els:List NE},els.all NE.closed=true->els.map (NE.wipe d)=els
 | [],_=>rfl
 | x::els,h=>by
  simp only[List.all_cons,Bool.and_eq_true] at h
  rw[List.map_cons,closed_wipe h.2]
  cases x with
  | own t=>cases h.1
  | sub t z n=>cases h.1
  | _=>rfl
theorem nsims_closed {ie:TypeId} {sz:Nat}:∀ {els:List NE} {cs ivs:List Value},els.all NE.closed=true->jn φ w F ie sz els cs ivs->jn ψ w F ie sz els cs ivs
 | [],_,_,_,hn=>hn
 | x::els,cs,ivs,hc,hn=>by
  simp only[List.all_cons,Bool.and_eq_true] at hc
  obtain⟨c,cs',iv,ivs',rfl,rfl,h1,h2⟩:=hn
  refine⟨c,cs',iv,ivs',rfl,rfl,?_,nsims_closed hc.2 h2⟩
  cases x with
  | rows r=>exact⟨h1.1,mH h1.2⟩
  | own t=>cases hc.1
  | sub t z n=>cases hc.1
  | dead=>exact h1
theorem nM (h:∀ t,t≠d->ψ t=φ t) {t:Nat} (htd:t≠d) {o o':Ob} (ho:gm φ w F t o) (hw:o.wipe d=some o'):gm ψ w F t o':=by
 cases o with
 | box cs =>
  cases hw
  obtain⟨b,arr,ty,hp,hh,hc,h1⟩:=ho
  exact⟨b,arr,ty,(h t htd).trans hp,hh,mG h _ _ hc,h1⟩
 | row sz e rows =>
  cases hw
  obtain⟨h1,h2⟩:=ho
  refine⟨h1,?_⟩
  rw[h t htd]
  rcases h2 with h2 | ⟨b,cap,cur,h0,hp,hl,hm,hh,hs,hc⟩
  ·exact .inl h2
  ·refine .inr ⟨b,cap,cur,h0,hp,hl,hm,hh,hs,?_⟩
   have:=mG h _ _ hc
   rwa [List.map_map] at this
 | map kk es =>
  cases hw
  obtain⟨b,ents,clk,hp,hh,hc,h1,h2,h3,h4⟩:=ho
  refine⟨b,ents,clk,(h t htd).trans hp,hh,oh h hc,h1,h2,?_,?_⟩
  ·grind
  grind
 | iter m left last =>
  simp only[Ob.wipe] at hw
  split at hw
  ·cases hw
  ·rename_i hmd
   cases hw
   obtain⟨b,c,ents,clk,seen,hp,hq,hh,hh',hc,h1,h2,h3⟩:=ho
   refine⟨b,c,ents,clk,seen,(h t htd).trans hp,(h m hmd).trans hq,hh,hh',oh h hc,h1,h2,fun x hx=>?_⟩
   cases last with
   | none=>cases hx
   | some y =>
    cases hx
    obtain⟨e,a1,a2,a3,a4⟩:=h3 y rfl
    grind [usim_wipe]
 | nest e ie sz els =>
  cases hw
  obtain⟨out,ivs,cs,h1,h2,h3,h4⟩:=ho
  exact⟨out,ivs,cs,(h t htd).trans h1,by rw[h t htd]; exact h2,by rw[List.length_map]; exact h3,mL h h4⟩
theorem Core.replace (h:Core cx φ O w) (hd:d < inBase) {so:Option Nat} (hs:∀ s o,so=some s->O s=some o->∀ kk es,o≠.map kk es) {hv:Value} {ob:Ob}
  (hos:w'.os=w.os) (htape:w'.tape=w.tape) (hout:w'.output=w.output) (hdr:drn w<=drn w') (hsize:w.heap.size<=w'.heap.size)
  (hblock:∀ b,b < w.heap.size->(∀ s o,so=some s->O s=some o->¬ hbl (φ s) b)->w'.heap[b]?=w.heap[b]?)
  (hnew:∀ b,hbl hv b->(w.heap.size<=b \/ ∃ s o,so=some s/\O s=some o/\hbl (φ s) b)/\b < w'.heap.size)
  (hit:∀ m left last,ob=.iter m left last->m≠d/\so≠some m/\∃ kk es,O m=some (.map kk es))
  (hob:Keep (cx.fr φ O) (cx.fr (upd φ d hv) (upd (bN d (drop so O)) d (some ob))) w w'->gm (upd φ d hv) w' (cx.fr (upd φ d hv) (upd (bN d (drop so O)) d (some ob))) d ob) :
  Core cx (upd φ d hv) (upd (bN d (drop so O)) d (some ob)) w'/\Keep (cx.fr φ O) (cx.fr (upd φ d hv) (upd (bN d (drop so O)) d (some ob))) w w' /\
   ∀ v u,bn φ w (cx.fr φ O) v u->bn (upd φ d hv) w' (cx.fr (upd φ d hv) (upd (bN d (drop so O)) d (some ob))) (v.wipe d) u:=by
 have hφ:∀ t,t≠d->upd φ d hv t=φ t:=fun t ht=>bc _ _ ht
 have hσ:∀ t o',t≠d->upd (bN d (drop so O)) d (some ob) t=some o'->∃ o,O t=some o/\so≠some t/\o.wipe d=some o':=by
  intro t o' ht ho
  rw[bc _ _ ht] at ho
  simp only[bN,drop] at ho
  split at ho
  ·cases ho
  ·rename_i hts
   cases hst:O t with
   | none=>simp_all
   | some o=>simp_all
 have hk:Keep (cx.fr φ O) (cx.fr (upd φ d hv) (upd (bN d (drop so O)) d (some ob))) w w':=by
  refine⟨hsize,fun b hb hl=>hblock b hl fun s o _ ho he=>hb.2 ⟨s,o,ho,he⟩,fun b hb hl=>⟨hb.1,?_⟩⟩
  rintro⟨t,o',ho,he⟩
  by_cases htd:t=d
  ·subst htd
   rw[upd_same] at he
   rcases (hnew b he).1 with h1 | ⟨s,o,_,h1,h2⟩
   ·omega
   ·exact hb.2 ⟨s,o,h1,h2⟩
  ·obtain⟨o,h1,_,_⟩:=hσ t o' htd ho
   rw[hφ t htd] at he
   exact hb.2 ⟨t,o,h1,he⟩
 have hkeepb:∀ t o b,so≠some t->O t=some o->hbl (φ t) b->w'.heap[b]?=w.heap[b]?:=fun t o b hts ho hb =>
  hblock b (h.own t o b ho hb).2 fun s o' hs' ho' he=>hts (by rw[h.disj t s o o' b ho ho' hb he]; exact hs')
 refine⟨⟨hos.trans h.os,htape.trans h.tape,hout.trans h.output,Nat.le_trans h.drawn hdr,Nat.le_trans h.size hsize,?_,?_,?_,?_,?_,?_⟩,hk,fun v u hvu=>m5 hφ v u (cV hk v u hvu)⟩
 ·intro b hb hn
  rw[hblock b (Nat.lt_of_lt_of_le hb h.size) fun s o _ ho he=>?_]
  ·exact h.block b hb hn
  ·rcases (h.own s o b ho he).1 with h1 | h1
   ·omega
   ·exact hn h1
 ·intro t o' ho
  by_cases htd:t=d
  ·simp_all [upd_same]
  ·obtain⟨o,h1,hts,h2⟩:=hσ t o' htd ho
   refine nM hφ htd (dx hk (h.objs t o h1) (fun b hb=>hkeepb t o b hts h1 hb) fun m left last b hoi hb=>?_) h2
   subst hoi
   obtain⟨kk,es,hm⟩:=h.itm t m left last h1
   grind
 ·intro t o' b ho hb
  by_cases htd:t=d
  ·subst htd
   rw[upd_same] at hb
   obtain⟨h1,h2⟩:=hnew b hb
   refine⟨?_,h2⟩
   rcases h1 with h1 | ⟨s,o,_,h1,h3⟩
   ·exact .inl (Nat.le_trans h.size h1)
   ·exact (h.own s o b h1 h3).1
  ·obtain⟨o,h1,_,_⟩:=hσ t o' htd ho
   rw[hφ t htd] at hb
   exact⟨(h.own t o b h1 hb).1,Nat.lt_of_lt_of_le (h.own t o b h1 hb).2 hsize⟩
 ·intro t t' o o' b ho ho' hb hb'
  by_cases htd:t=d<;>by_cases htd':t'=d
  ·rw[htd,htd']
  ·subst htd
   obtain⟨o1,h1,hts,_⟩:=hσ t' o' htd' ho'
   rw[hφ t' htd'] at hb'
   rw[upd_same] at hb
   rcases (hnew b hb).1 with h2 | ⟨s,o2,hs',h2,h3⟩
   ·grind
   ·exact absurd (by rw[h.disj t' s o1 o2 b h1 h2 hb' h3]; exact hs') hts
  ·subst htd'
   obtain⟨o1,h1,hts,_⟩:=hσ t o htd ho
   rw[hφ t htd] at hb
   rw[upd_same] at hb'
   rcases (hnew b hb').1 with h2 | ⟨s,o2,hs',h2,h3⟩
   ·grind
   ·exact absurd (by rw[h.disj t s o1 o2 b h1 h2 hb h3]; exact hs') hts
  ·obtain⟨o1,h1,_,_⟩:=hσ t o htd ho
   obtain⟨o2,h2,_,_⟩:=hσ t' o' htd' ho'
   rw[hφ t htd] at hb
   rw[hφ t' htd'] at hb'
   exact h.disj t t' o1 o2 b h1 h2 hb hb'
 ·intro i hi hk
  rw[hφ i (by omega)]
  exact h.inp i hi hk
 ·intro t m left last ho
  have hmap:∀ m kk es,m≠d->so≠some m->O m=some (.map kk es)->∃ kk es,upd (bN d (drop so O)) d (some ob) m=some (.map kk es):=by
   intro m kk es hmd hms hm
   rw[bc _ _ hmd]
   simp only[bN,drop,if_neg hms,hm,Option.bind_some,Ob.wipe]
   simp
  by_cases htd:t=d
  ·subst htd
   rw[upd_same] at ho
   grind
  ·obtain⟨o,h1,hts,h2⟩:=hσ t _ htd ho
   cases o with
   | iter m' left' last' =>
    simp only[Ob.wipe] at h2
    split at h2
    ·cases h2
    ·rename_i hmd
     cases h2
     obtain⟨kk,es,hm⟩:=h.itm t _ _ _ h1
     grind
   | _=>simp[Ob.wipe] at h2
theorem Core.mutate (h:Core cx φ O w) {ob ob':Ob} (hs:O s=some ob) {σ1:Sto} (h1:∀ t o,t≠s->σ1 t=some o->O t=some o) (h2:∀ t m left last,t≠s->σ1 t=some (.iter m left last)->m≠s)
  (h3:∀ m kk es,O m=some (.map kk es)->m≠s->σ1 m=some (.map kk es)) (h4:∀ m left last,ob'=.iter m left last->∃ kk es,m≠s/\O m=some (.map kk es))
  (hos:w'.os=w.os) (htape:w'.tape=w.tape) (hout:w'.output=w.output) (hdr:drn w<=drn w') (hsize:w.heap.size<=w'.heap.size)
  (hblock:∀ b,b < w.heap.size->¬ hbl (φ s) b->w'.heap[b]?=w.heap[b]?)
  (hob:Keep (cx.fr φ O) (cx.fr φ (upd σ1 s (some ob'))) w w'->gm φ w' (cx.fr φ (upd σ1 s (some ob'))) s ob') :
  Core cx φ (upd σ1 s (some ob')) w'/\Keep (cx.fr φ O) (cx.fr φ (upd σ1 s (some ob'))) w w':=by
 have hσ:∀ t o,upd σ1 s (some ob') t=some o->∃ o',O t=some o'/\(t≠s->o'=o):=by
  intro t o ho
  by_cases hts:t=s
  ·simp_all
  ·rw[bc _ _ hts] at ho
   simp_all
 have hk:Keep (cx.fr φ O) (cx.fr φ (upd σ1 s (some ob'))) w w':=by
  refine⟨hsize,fun b hb hl=>hblock b hl fun he=>hb.2 ⟨s,ob,hs,he⟩,fun b hb hl=>⟨hb.1,?_⟩⟩
  rintro⟨t,o,ho,he⟩
  obtain⟨o',h5,_⟩:=hσ t o ho
  exact hb.2 ⟨t,o',h5,he⟩
 have hkeepb:∀ t o b,t≠s->O t=some o->hbl (φ t) b->w'.heap[b]?=w.heap[b]?:=fun t o b hts ho hb =>
  hblock b (h.own t o b ho hb).2 fun he=>hts (h.disj t s o ob b ho hs hb he)
 refine⟨⟨hos.trans h.os,htape.trans h.tape,hout.trans h.output,Nat.le_trans h.drawn hdr,Nat.le_trans h.size hsize,?_,?_,?_,?_,h.inp,?_⟩,hk⟩
 ·intro b hb hn
  rw[hblock b (Nat.lt_of_lt_of_le hb h.size) fun he=>?_]
  ·exact h.block b hb hn
  ·rcases (h.own s ob b hs he).1 with h6 | h6
   ·omega
   ·exact hn h6
 ·intro t o ho
  by_cases hts:t=s
  ·simp_all [upd_same]
  ·rw[bc _ _ hts] at ho
   have h5:=h1 t o hts ho
   refine dx hk (h.objs t o h5) (fun b hb=>hkeepb t o b hts h5 hb) fun m left last b hoi hb=>?_
   subst hoi
   obtain⟨kk,es,hm⟩:=h.itm t m left last h5
   grind
 ·intro t o b ho hb
  obtain⟨o',h5,_⟩:=hσ t o ho
  exact⟨(h.own t o' b h5 hb).1,Nat.lt_of_lt_of_le (h.own t o' b h5 hb).2 hsize⟩
 ·intro t t' o o' b ho ho' hb hb'
  obtain⟨o1,h5,_⟩:=hσ t o ho
  obtain⟨o2,h6,_⟩:=hσ t' o' ho'
  exact h.disj t t' o1 o2 b h5 h6 hb hb'
 ·intro t m left last ho
  have hm:∃ kk es,m≠s/\O m=some (.map kk es):=by
   by_cases hts:t=s
   ·subst hts
    rw[upd_same] at ho
    simp_all
   ·rw[bc _ _ hts] at ho
    obtain⟨kk,es,hm⟩:=h.itm t m left last (h1 t _ hts ho)
    grind
  grind [bc]
end
end Go.AM
namespace Go.AM
open Go.RowKit
theorem eG {α:Type}:∀ {l:List α} {i:Nat} {x:α},l[i]?=some x->l.set i x=l
 | [],i,_,h=>by simp at h
 | y::l,0,x,h=>by simp_all
 | y::l,i+1,x,h=>by simp at h; rw[List.set_cons_succ,eG (by simpa using h)]
structure HQ (φ ψ:Nat->Value):Prop where
 hd:∀ t,hdv (ψ t)=hdv (φ t)
 ptr:∀ t a,φ t=.pointer a->ψ t=.pointer a
theorem HQ.of {φ ψ:Nat->Value} (h:∀ t,veq (φ t) (ψ t)):HQ φ ψ:=⟨fun t=>(h t).hd,fun t a e=>by rw[(h t).eq (by rw[e]; simp),e]⟩
section
variable {φ ψ:Nat->Value} {w w':World} {F F':Nat->Prop} {s d:Nat} {O:Sto} {cx:Cx}
mutual
theorem csim_veq (h:HQ φ ψ):∀ (c:C) (v:Value),bl φ w F c v->bl ψ w F c v
 | .top,v,_=>by simp[bl]
 | .d x,v,hv=>by simpa [bl] using hv
 | .ref xs off,v,hv=>by simpa [bl] using hv
 | .box t off,v,hv=>by
  simp only[bl] at hv ⊢
  obtain⟨b,hp,rfl⟩:=hv
  exact⟨b,by exact h.ptr t _ hp,rfl⟩
 | .own t,v,hv=>by simp only[bl] at hv ⊢; rw[h.hd t]; exact hv
 | .elt t i z off,v,hv=>by simp only[bl] at hv ⊢; rw[h.hd t]; exact hv
 | .map t,v,hv=>by simp only[bl] at hv ⊢; rw[h.hd t]; exact hv
 | .nilmap,v,hv=>by simpa [bl] using hv
 | .iter t,v,hv=>by simp only[bl] at hv ⊢; rw[h.hd t]; exact hv
 | .sub t z a n,v,hv=>by simp only[bl] at hv ⊢; rw[h.hd t]; exact hv
 | .opq u,v,hv=>by simpa [bl] using hv
 | .fn f caps,v,hv=>by
  simp only[bl] at hv ⊢
  obtain⟨arr,rfl,hc⟩:=hv
  exact⟨arr,rfl,csims_veq h caps _ hc⟩
theorem csims_veq (h:HQ φ ψ):∀ (cs:List C) (vs:List Value),bh φ w F cs vs->bh ψ w F cs vs
 | [],vs,hv=>by simpa [bh] using hv
 | c::cs,vs,hv=>by
  simp only[bh] at hv ⊢
  obtain⟨v,r,rfl,hc,hcs⟩:=hv
  exact⟨v,r,rfl,csim_veq h c v hc,csims_veq h cs r hcs⟩
end
theorem usim_veq (h:HQ φ ψ) (x:U) (v:Value) (hv:bD φ w F x v):bD ψ w F x v:=by
 cases x with
 | one c=>exact csim_veq h c v hv
 | agg cs=>obtain⟨arr,rfl,hc⟩:=hv; exact⟨arr,rfl,csims_veq h cs _ hc⟩
theorem usims_veq (h:HQ φ ψ):∀ (us:List U) (vs:List Value),fo φ w F us vs->fo ψ w F us vs
 | [],_,hv=>hv
 | x::us,vs,hv=>by
  obtain⟨v,r,rfl,hc,hcs⟩:=hv
  exact⟨v,r,rfl,usim_veq h x v hc,usims_veq h us r hcs⟩
theorem vsim_veq (h:HQ φ ψ) (x:V) (v:Value) (hv:bn φ w F x v):bn ψ w F x v:=by
 cases x with
 | u x=>exact usim_veq h x v hv
 | tup us=>obtain⟨arr,rfl,hc⟩:=hv; exact⟨arr,rfl,usims_veq h us _ hc⟩
theorem esims_veq (h:HQ φ ψ):∀ {es:List (Key×U)} {l:List MapEntry},dn φ w F es l->dn ψ w F es l
 | [],_,hs=>hs
 | x::es,l,hs=>by
  obtain⟨e,r,rfl,h1,h2,h3⟩:=hs
  exact⟨e,r,rfl,h1,usim_veq h _ _ h2,esims_veq h h3⟩
theorem kE {ie:TypeId} {sz:Nat} (h:∀ t,hdv (ψ t)=hdv (φ t)):∀ {els:List NE} {cs ivs:List Value},jn φ w F ie sz els cs ivs->jn ψ w F ie sz els cs ivs
 | [],_,_,hn=>hn
 | x::els,cs,ivs,hn=>by
  obtain⟨c,cs',iv,ivs',rfl,rfl,h1,h2⟩:=hn
  refine⟨c,cs',iv,ivs',rfl,rfl,?_,kE h h2⟩
  cases x with
  | rows r=>exact⟨h1.1,mH h1.2⟩
  | own t=>exact⟨by rw[h t]; exact h1.1,h1.2⟩
  | sub t z n=>exact⟨by obtain⟨h1,_⟩:=h1; simp only[bl] at h1 ⊢; rw[h t]; exact h1,h1.2⟩
  | dead=>exact h1
theorem osim_veq (h:HQ φ ψ) {o:Ob} (hm:∀ m l la,o=.iter m l la->∀ r,φ m=.map r->ψ m=.map r) (hs:ψ s=φ s) (ho:gm φ w F s o):gm ψ w F s o:=by
 cases o with
 | box cs =>
  obtain⟨b,arr,t,h1,h2,h3,h4⟩:=ho
  exact⟨b,arr,t,hs.trans h1,h2,csims_veq h cs _ h3,h4⟩
 | row sz e rows =>
  obtain⟨h1,h2⟩:=ho
  refine⟨h1,?_⟩
  rw[hs]
  rcases h2 with h2 | ⟨b,cap,cur,h0,hp,hl,hm,hh,hz,hc⟩
  ·exact .inl h2
  ·exact .inr ⟨b,cap,cur,h0,hp,hl,hm,hh,hz,csims_phi hc⟩
 | map kk es =>
  obtain⟨b,ents,clk,hp,hh,hc,h1⟩:=ho
  exact⟨b,ents,clk,hs.trans hp,hh,esims_veq h hc,h1⟩
 | iter m left last =>
  obtain⟨b,c,ents,clk,seen,hp,hq,hh,hh',hc,h1,h2,h3⟩:=ho
  exact⟨b,c,ents,clk,seen,hs.trans hp,hm m _ _ rfl _ hq,hh,hh',esims_veq h hc,h1,h2,
   fun x hx=>let ⟨e,a1,a2,a3,a4⟩:=h3 x hx; ⟨e,a1,a2,a3,usim_veq h _ _ a4⟩⟩
 | nest e ie sz els =>
  obtain⟨out,ivs,cs,h1,h2,h3,h4⟩:=ho
  exact⟨out,ivs,cs,hs.trans h1,by rw[hs]; exact h2,h3,kE h.hd h4⟩
theorem osim_veqs (h:∀ t,veq (φ t) (ψ t)) {o:Ob} (hs:ψ s=φ s) (ho:gm φ w F s o):gm ψ w F s o:=osim_veq (.of h) (fun m _ _ _ r e=>by rw[(h m).eq (by rw[e]; simp),e]) hs ho
theorem hblk_undef:ea undef=none:=rfl
theorem fm_sub:∀ (ivs:List Value) (i:Nat),((ivs.set i undef).filterMap ea).Sublist (ivs.filterMap ea)
 | [],_=>List.Sublist.refl _
 | x::ivs,0=>by
  rw[List.set_cons_zero,List.filterMap_cons,hblk_undef,List.filterMap_cons]
  cases ea x with
  | none=>exact List.Sublist.refl _
  | some b=>exact List.sublist_cons_self _ _
 | x::ivs,i+1=>by
  rw[List.set_cons_succ,List.filterMap_cons,List.filterMap_cons]
  cases ea x with
  | none=>exact fm_sub ivs i
  | some b=>exact (fm_sub ivs i).cons_cons b
theorem fm_not:∀ {ivs:List Value} {i:Nat} {iv:Value} {b:Nat},ivs[i]?=some iv->ea iv=some b->(ivs.filterMap ea).Nodup->b ∉ (ivs.set i undef).filterMap ea
 | [],_,_,_,h,_,_=>by simp at h
 | x::ivs,0,iv,b,h,hb,hn=>by
  simp only[List.getElem?_cons_zero,Option.some.injEq] at h
  subst h
  rw[List.filterMap_cons,hb,List.nodup_cons] at hn
  rw[List.set_cons_zero,List.filterMap_cons,hblk_undef]
  exact hn.1
 | x::ivs,i+1,iv,b,h,hb,hn=>by
  rw[List.getElem?_cons_succ] at h
  rw[List.set_cons_succ,List.filterMap_cons]
  rw[List.filterMap_cons] at hn
  cases hx:ea x with
  | none=>rw[hx] at hn; exact fm_not h hb hn
  | some b' =>
   rw[hx,List.nodup_cons] at hn
   rw[List.mem_cons,not_or]
   refine⟨fun e=>hn.1 ?_,fm_not h hb hn.2⟩
   rw[<- e]
   exact List.mem_filterMap.2 ⟨iv,List.mem_of_getElem? h,hb⟩
theorem fm_add:∀ {ivs:List Value} {i:Nat} {v:Value},ivs[i]?=some undef->(ivs.filterMap ea).Nodup->(∀ b,ea v=some b->b ∉ ivs.filterMap ea)->((ivs.set i v).filterMap ea).Nodup
 | [],_,_,h,_,_=>by simp at h
 | x::ivs,0,v,h,hn,hv=>by
  simp only[List.getElem?_cons_zero,Option.some.injEq] at h
  subst h
  rw[List.filterMap_cons,hblk_undef] at hn hv
  rw[List.set_cons_zero,List.filterMap_cons]
  cases hb:ea v with
  | none=>exact hn
  | some b=>exact List.nodup_cons.2 ⟨hv b hb,hn⟩
 | x::ivs,i+1,v,h,hn,hv=>by
  rw[List.getElem?_cons_succ] at h
  rw[List.set_cons_succ,List.filterMap_cons]
  rw[List.filterMap_cons] at hn hv
  cases hx:ea x with
  | none=>rw[hx] at hn hv; exact fm_add h hn hv
  | some b' =>
   rw[hx] at hv
   rw[hx,List.nodup_cons] at hn
   refine List.nodup_cons.2 ⟨fun hm=>?_,fm_add h hn.2 fun b hb hm=>hv b hb (List.mem_cons_of_mem _ hm)⟩
   obtain⟨y,hy,hyb⟩:=List.mem_filterMap.1 hm
   rcases List.mem_or_eq_of_mem_set hy with hy | rfl
   ·exact hn.1 (List.mem_filterMap.2 ⟨y,hy,hyb⟩)
   ·exact hv b' hyb (by simp)
theorem dX (out:Value) (ivs:List Value):blks (.tuple (out::ivs).toArray)=(out::ivs).filterMap ea:=by simp[blks]
theorem nb {out:Value} {ivs:List Value} {b:Nat}:hbl (.tuple (out::ivs).toArray) b↔b∈(out::ivs).filterMap ea:=by unfold hbl; rw[dX]
theorem rowv_slice {v:Value} {sz:Nat} {e:TypeId} {rows:List (List L)} (h:rowv φ w F v sz e rows):v.oneCell'=true/\hdv v=v/\∀ b,hbl v b↔ea v=some b:=by
 obtain⟨_,h⟩:=h
 rcases h with ⟨_,a,rfl⟩ | ⟨b,cap,cur,_,rfl,_⟩
 ·refine⟨rfl,rfl,fun b=>?_⟩
  rw[hbl_slice0]
  cases a<;>simp[ea]
 ·refine⟨rfl,rfl,fun b'=>?_⟩
  rw[hbl_slice]
  simp only[ea]
  split
  ·simp_all
  ·simp_all [eq_comm]
def fcS (s d i:Nat) (e:NSp) (ie:TypeId) (sz:Nat) (els:List NE) (r:List (List L)) (O:Sto):Sto:=upd (upd (bN d O) s (some (.nest e ie sz ((els.map (NE.wipe d)).set i (.own d))))) d (some (.row sz ie r))
theorem Core.focus (h:Core cx φ O w) {e:NSp} {ie:TypeId} {sz i:Nat} {els:List NE} {r:List (List L)} (hs:O s=some (.nest e ie sz els)) (hi:els[i]?=some (.rows r)) (hd:d < inBase) (hsd:s≠d) :
  ∃ φ' iv out ivs cs,φ s=.tuple (out::ivs).toArray/\spine w e els.length out cs/\cs[i]?=some iv/\φ' d=iv/\iv.oneCell'=true/\hdv iv=iv/\(∀ t,t≠d->veq (φ t) (φ' t)) /\
   Core cx φ' (fcS s d i e ie sz els r O) w/\Keep (cx.fr φ O) (cx.fr φ' (fcS s d i e ie sz els r O)) w w/\∀ v u,bn φ w (cx.fr φ O) v u->bn φ' w (cx.fr φ' (fcS s d i e ie sz els r O)) (v.wipe d) u:=by
 obtain⟨out,ivs,cs,hp,hnd,hsp,hn⟩:=h.objs s _ hs
 obtain⟨c,iv,hc,hiv,rfl,hrow⟩:=kL hn hi
 obtain⟨hone,hhd,hbiv⟩:=rowv_slice hrow
 obtain⟨ψ,hψ⟩:∃ ψ,ψ=upd φ s (.tuple (out::ivs.set i undef).toArray):=⟨_,rfl⟩
 have hψs:ψ s=.tuple (out::ivs.set i undef).toArray:=by rw[hψ,upd_same]
 have hψo:∀ t,t≠s->ψ t=φ t:=fun t ht=>by rw[hψ,bc _ _ ht]
 have hv:∀ t,veq (φ t) (ψ t):=fun t=>by
  by_cases ht:t=s
  ·subst ht
   rw[hp,hψs]
   exact .inr ⟨_,_,_,rfl,rfl⟩
  ·rw[hψo t ht]
   exact .refl _
 obtain⟨φ',hφ'⟩:∃ φ',φ'=upd ψ d c:=⟨_,rfl⟩
 have hφd:φ' d=c:=by rw[hφ',upd_same]
 have hφo:∀ t,t≠d->φ' t=ψ t:=fun t ht=>by rw[hφ',bc _ _ ht]
 have hφs:φ' s=.tuple (out::ivs.set i undef).toArray:=(hφo s hsd).trans hψs
 have hnd':=hnd
 rw[hp,dX] at hnd'
 have hset:(out::ivs.set i undef)=(out::ivs).set (i+1) undef:=rfl
 have hivc:(out::ivs)[i+1]?=some c:=hiv
 have bd:∀ b,hbl c b->hbl (φ s) b:=fun b hb=>by
  rw[hp]
  exact hZ.2 (.inr ⟨c,List.mem_of_getElem? hiv,(hbiv b).1 hb⟩)
 have bs:∀ b,hbl (φ' s) b->hbl (φ s) b:=fun b hb=>by
  rw[hφs,nb,hset] at hb
  rw[hp,nb]
  exact (fm_sub (out::ivs) (i+1)).mem hb
 have bds:∀ b,hbl c b->¬ hbl (φ' s) b:=fun b hb hb'=>by
  rw[hφs,nb,hset] at hb'
  exact fm_not hivc ((hbiv b).1 hb) hnd' hb'
 have hσd:fcS s d i e ie sz els r O d=some (.row sz ie r):=by unfold fcS; rw[upd_same]
 have hσs:fcS s d i e ie sz els r O s=some (.nest e ie sz ((els.map (NE.wipe d)).set i (.own d))):=by unfold fcS; rw[bc _ _ hsd,upd_same]
 have hσo:∀ t,t≠d->t≠s->fcS s d i e ie sz els r O t=(O t).bind (Ob.wipe d):=fun t h1 h2=>by unfold fcS; rw[bc _ _ h1,bc _ _ h2]; rfl
 have back:∀ t o',fcS s d i e ie sz els r O t=some o'->t≠d->t≠s->∃ o,O t=some o/\o.wipe d=some o':=fun t o' ho h1 h2=>by
  rw[hσo t h1 h2] at ho
  cases hst:O t with
  | none=>rw[hst] at ho; cases ho
  | some o=>rw[hst] at ho; exact⟨o,rfl,ho⟩
 have bk:∀ t o' b,fcS s d i e ie sz els r O t=some o'->hbl (φ' t) b->(t=d/\hbl c b) \/ (t=s/\hbl (φ' s) b) \/ (t≠d/\t≠s/\∃ o,O t=some o/\hbl (φ t) b):=fun t o' b ho hb=>by
  by_cases h1:t=d
  ·subst h1; rw[hφd] at hb; exact .inl ⟨rfl,hb⟩
  ·by_cases h2:t=s
   ·subst h2; exact .inr (.inl ⟨rfl,hb⟩)
   ·obtain⟨o,h3,_⟩:=back t o' ho h1 h2
    rw[hφo t h1,hψo t h2] at hb
    exact .inr (.inr ⟨h1,h2,o,h3,hb⟩)
 have own':∀ t o' b,fcS s d i e ie sz els r O t=some o'->hbl (φ' t) b->∃ t1 o,O t1=some o/\hbl (φ t1) b:=fun t o' b ho hb=>by
  rcases bk t o' b ho hb with ⟨_,h1⟩ | ⟨_,h1⟩ | ⟨_,_,o,h1,h2⟩
  ·exact⟨s,_,hs,bd b h1⟩
  ·exact⟨s,_,hs,bs b h1⟩
  ·exact⟨t,o,h1,h2⟩
 have hk:Keep (cx.fr φ O) (cx.fr φ' (fcS s d i e ie sz els r O)) w w:=⟨Nat.le_refl _,fun _ _ _=>rfl,fun b hb _=>⟨hb.1,fun⟨t,o',ho,he⟩=>hb.2 (own' t o' b ho he)⟩⟩
 refine⟨φ',c,out,ivs,cs,hp,hsp,hc,hφd,hone,hhd,fun t ht=>by rw[hφo t ht]; exact hv t,⟨h.os,h.tape,h.output,h.drawn,h.size,h.block,?_,?_,?_,?_,?_⟩,hk,fun v u hvu=>m5 hφo v u (vsim_veq (.of hv) v u (cV hk v u hvu))⟩
 ·intro t o' ho
  by_cases h1:t=d
  ·subst h1
   rw[hσd] at ho
   cases ho
   have:=mH (ψ:=φ') (rowv_keep hk (fun _ _=>rfl) hrow)
   show rowv φ' w _ (φ' t) sz ie r
   rw[hφd]
   exact this
  ·by_cases h2:t=s
   ·subst h2
    rw[hσs] at ho
    cases ho
    refine⟨out,ivs.set i undef,cs,hφs,?_,by rw[List.length_set,List.length_map]; exact hsp,?_⟩
    ·rw[hφs,dX,hset]
     exact hnd'.sublist (fm_sub _ _)
    ·have h3:=ky (i:=i) (x:=.own d) (c:=c) (iv:=undef) (mL (d:=d) (ψ:=φ') hφo (kE (fun t=>(hv t).hd) (fS hk (fun _ _ _ _=>rfl) hn))) ⟨by rw[hφd,hhd],hone,rfl⟩
     rwa [eG hc] at h3
   ·obtain⟨o,h3,h4⟩:=back t o' ho h1 h2
    exact nM hφo h1 (osim_veqs hv (hψo t h2) (dx hk (h.objs t o h3) (fun _ _=>rfl) fun _ _ _ _ _ _=>rfl)) h4
 ·intro t o' b ho hb
  obtain⟨t1,o,h1,h2⟩:=own' t o' b ho hb
  exact h.own t1 o b h1 h2
 ·intro t t' o o' b ho ho' hb hb'
  rcases bk t o b ho hb with ⟨e1,h1⟩ | ⟨e1,h1⟩ | ⟨n1,n2,o1,h1,h2⟩<;>rcases bk t' o' b ho' hb' with ⟨e2,h3⟩ | ⟨e2,h3⟩ | ⟨m1,m2,o2,h3,h4⟩
  ·rw[e1,e2]
  ·exact absurd h3 (bds b h1)
  ·exact absurd (h.disj t' s o2 _ b h3 hs h4 (bd b h1)) m2
  ·exact absurd h1 (bds b h3)
  ·rw[e1,e2]
  ·exact absurd (h.disj t' s o2 _ b h3 hs h4 (bs b h1)) m2
  ·exact absurd (h.disj t s o1 _ b h1 hs h2 (bd b h3)) n2
  ·exact absurd (h.disj t s o1 _ b h1 hs h2 (bs b h3)) n2
  ·exact h.disj t t' o1 o2 b h1 h3 h2 h4
 ·intro k hk1 hk2
  rw[hφo k (by omega)]
  exact (h.inp k hk1 hk2).trans (hv k)
 ·intro t m left last ho
  by_cases h1:t=d
  ·subst h1; rw[hσd] at ho; cases ho
  ·by_cases h2:t=s
   ·subst h2; rw[hσs] at ho; cases ho
   ·obtain⟨o,h3,h4⟩:=back t _ ho h1 h2
    cases o with
    | iter m' l' la' =>
     simp only[Ob.wipe] at h4
     split at h4
     ·cases h4
     ·rename_i hmd
      cases h4
      obtain⟨kk,es,hm⟩:=h.itm t _ _ _ h3
      have hms:m≠s:=fun e=>by rw[e,hs] at hm; cases hm
      exact⟨kk,_,by rw[hσo m hmd hms,hm]; rfl⟩
    | _=>simp[Ob.wipe] at h4
def ufS (s t i:Nat) (e:NSp) (ie:TypeId) (sz:Nat) (els:List NE) (r:List (List L)) (O:Sto):Sto:=upd (upd (bN t O) s (some (.nest e ie sz ((els.map (NE.wipe t)).set i (.rows r))))) t (some (.row sz ie []))
theorem Core.unfocus (h:Core cx φ O w) {e:NSp} {ie:TypeId} {sz i t:Nat} {els:List NE} {r:List (List L)} (hs:O s=some (.nest e ie sz els)) (hi:els[i]?=some (.own t)) (hr:O t=some (.row sz ie r)) (hd:t < inBase) :
  ∃ φ',Core cx φ' (ufS s t i e ie sz els r O) w/\∀ v u,bn φ w (cx.fr φ O) v u->bn φ' w (cx.fr φ' (ufS s t i e ie sz els r O)) (v.wipe t) u:=by
 have hst:s≠t:=fun e=>by rw[e,hr] at hs; cases hs
 obtain⟨out,ivs,cs,hp,hnd,hsp,hn⟩:=h.objs s _ hs
 obtain⟨c,iv,hc,hiv,hx,hone,rfl⟩:=kL hn hi
 have hrow:rowv φ w (cx.fr φ O) (φ t) sz ie r:=h.objs t _ hr
 obtain⟨_,hhd,hbt⟩:=rowv_slice hrow
 rw[hhd] at hx
 subst hx
 obtain⟨ψ,hψ⟩:∃ ψ,ψ=upd φ s (.tuple (out::ivs.set i (φ t)).toArray):=⟨_,rfl⟩
 have hψs:ψ s=.tuple (out::ivs.set i (φ t)).toArray:=by rw[hψ,upd_same]
 have hψo:∀ k,k≠s->ψ k=φ k:=fun k hk=>by rw[hψ,bc _ _ hk]
 have hv:∀ k,veq (φ k) (ψ k):=fun k=>by
  by_cases hk:k=s
  ·subst hk
   rw[hp,hψs]
   exact .inr ⟨_,_,_,rfl,rfl⟩
  ·rw[hψo k hk]
   exact .refl _
 obtain⟨φ',hφ'⟩:∃ φ',φ'=upd ψ t (.slice none 0 0):=⟨_,rfl⟩
 have hφd:φ' t=.slice none 0 0:=by rw[hφ',upd_same]
 have hφo:∀ k,k≠t->φ' k=ψ k:=fun k hk=>by rw[hφ',bc _ _ hk]
 have hφs:φ' s=.tuple (out::ivs.set i (φ t)).toArray:=(hφo s hst).trans hψs
 have hnd':=hnd
 rw[hp,dX] at hnd'
 have hset:(out::ivs.set i (φ t))=(out::ivs).set (i+1) (φ t):=rfl
 have hivc:(out::ivs)[i+1]?=some undef:=hiv
 have bs:∀ b,hbl (φ' s) b->hbl (φ s) b \/ hbl (φ t) b:=fun b hb=>by
  rw[hφs,hZ] at hb
  rw[hp,hZ,hbt]
  rcases hb with hb | ⟨y,hy,hb⟩
  ·exact .inl (.inl hb)
  ·rcases List.mem_or_eq_of_mem_set hy with hy | rfl
   ·exact .inl (.inr ⟨y,hy,hb⟩)
   ·exact .inr hb
 have hσd:ufS s t i e ie sz els r O t=some (.row sz ie []):=by unfold ufS; rw[upd_same]
 have hσs:ufS s t i e ie sz els r O s=some (.nest e ie sz ((els.map (NE.wipe t)).set i (.rows r))):=by unfold ufS; rw[bc _ _ hst,upd_same]
 have hσo:∀ k,k≠t->k≠s->ufS s t i e ie sz els r O k=(O k).bind (Ob.wipe t):=fun k h1 h2=>by unfold ufS; rw[bc _ _ h1,bc _ _ h2]; rfl
 have back:∀ k o',ufS s t i e ie sz els r O k=some o'->k≠t->k≠s->∃ o,O k=some o/\o.wipe t=some o':=fun k o' ho h1 h2=>by
  rw[hσo k h1 h2] at ho
  cases hst:O k with
  | none=>rw[hst] at ho; cases ho
  | some o=>rw[hst] at ho; exact⟨o,rfl,ho⟩
 have bk:∀ k o' b,ufS s t i e ie sz els r O k=some o'->hbl (φ' k) b->(k=s/\(hbl (φ s) b \/ hbl (φ t) b)) \/ (k≠t/\k≠s/\∃ o,O k=some o/\hbl (φ k) b):=fun k o' b ho hb=>by
  by_cases h1:k=t
  ·subst h1; rw[hφd] at hb; simp at hb
  ·by_cases h2:k=s
   ·subst h2; exact .inl ⟨rfl,bs b hb⟩
   ·obtain⟨o,h3,_⟩:=back k o' ho h1 h2
    rw[hφo k h1,hψo k h2] at hb
    exact .inr ⟨h1,h2,o,h3,hb⟩
 have own':∀ k o' b,ufS s t i e ie sz els r O k=some o'->hbl (φ' k) b->∃ t1 o,O t1=some o/\hbl (φ t1) b:=fun k o' b ho hb=>by
  rcases bk k o' b ho hb with ⟨_,h1 | h1⟩ | ⟨_,_,o,h1,h2⟩
  ·exact⟨s,_,hs,h1⟩
  ·exact⟨t,_,hr,h1⟩
  ·exact⟨k,o,h1,h2⟩
 have hk:Keep (cx.fr φ O) (cx.fr φ' (ufS s t i e ie sz els r O)) w w:=⟨Nat.le_refl _,fun _ _ _=>rfl,fun b hb _=>⟨hb.1,fun⟨k,o',ho,he⟩=>hb.2 (own' k o' b ho he)⟩⟩
 refine⟨φ',⟨h.os,h.tape,h.output,h.drawn,h.size,h.block,?_,?_,?_,?_,?_⟩,fun v u hvu=>m5 hφo v u (vsim_veq (.of hv) v u (cV hk v u hvu))⟩
 ·intro k o' ho
  by_cases h1:k=t
  ·subst h1
   rw[hσd] at ho
   cases ho
   exact⟨by simp,.inl ⟨rfl,none,hφd⟩⟩
  ·by_cases h2:k=s
   ·subst h2
    rw[hσs] at ho
    cases ho
    refine⟨out,ivs.set i (φ t),cs,hφs,?_,by rw[List.length_set,List.length_map]; exact hsp,?_⟩
    ·rw[hφs,dX,hset]
     refine fm_add hivc hnd' fun b hb hm=>hst (h.disj k t _ _ b hs hr ?_ ((hbt b).2 hb))
     rw[hp,nb]
     exact hm
    ·have h3:=ky (i:=i) (x:=.rows r) (c:=φ t) (iv:=φ t) (mL (d:=t) (ψ:=φ') hφo (kE (fun t=>(hv t).hd) (fS hk (fun _ _ _ _=>rfl) hn))) ⟨rfl,mH (rowv_keep hk (fun _ _=>rfl) hrow)⟩
     rwa [eG hc] at h3
   ·obtain⟨o,h3,h4⟩:=back k o' ho h1 h2
    exact nM hφo h1 (osim_veqs hv (hψo k h2) (dx hk (h.objs k o h3) (fun _ _=>rfl) fun _ _ _ _ _ _=>rfl)) h4
 ·intro k o' b ho hb
  obtain⟨t1,o,h1,h2⟩:=own' k o' b ho hb
  exact h.own t1 o b h1 h2
 ·intro k k' o o' b ho ho' hb hb'
  rcases bk k o b ho hb with ⟨e1,h1⟩ | ⟨n1,n2,o1,h1,h2⟩<;>rcases bk k' o' b ho' hb' with ⟨e2,h3⟩ | ⟨m1,m2,o2,h3,h4⟩
  ·rw[e1,e2]
  ·rcases h1 with h1 | h1
   ·exact absurd (h.disj k' s o2 _ b h3 hs h4 h1) m2
   ·exact absurd (h.disj k' t o2 _ b h3 hr h4 h1) m1
  ·rcases h3 with h3 | h3
   ·exact absurd (h.disj k s o1 _ b h1 hs h2 h3) n2
   ·exact absurd (h.disj k t o1 _ b h1 hr h2 h3) n1
  ·exact h.disj k k' o1 o2 b h1 h3 h2 h4
 ·intro k hk1 hk2
  rw[hφo k (by omega)]
  exact (h.inp k hk1 hk2).trans (hv k)
 ·intro k m left last ho
  by_cases h1:k=t
  ·subst h1; rw[hσd] at ho; cases ho
  ·by_cases h2:k=s
   ·subst h2; rw[hσs] at ho; cases ho
   ·obtain⟨o,h3,h4⟩:=back k _ ho h1 h2
    cases o with
    | iter m' l' la' =>
     simp only[Ob.wipe] at h4
     split at h4
     ·cases h4
     ·rename_i hmd
      cases h4
      obtain⟨kk,es,hm⟩:=h.itm k _ _ _ h3
      have hms:m≠s:=fun e=>by rw[e,hs] at hm; cases hm
      exact⟨kk,_,by rw[hσo m hmd hms,hm]; rfl⟩
    | _=>simp[Ob.wipe] at h4
theorem Core.swap (h:Core cx φ O w) {o o':Ob} {v:Value} (hs:O s=some o) (hin:s < inBase \/ veq (φ s) v) (hhd:hdv v=hdv (φ s)) (hpt:∀ a,φ s=.pointer a->v=.pointer a) (hb:∀ b,hbl v b->hbl (φ s) b)
  (hit:∀ t m l la,upd O s (some o') t=some (.iter m l la)->t≠s/\m≠s) (ho:∀ F':Nat->Prop,HQ φ (upd φ s v)->Keep (cx.fr φ O) F' w w->gm (upd φ s v) w F' s o') :
  Core cx (upd φ s v) (upd O s (some o')) w/\∀ x u,bn φ w (cx.fr φ O) x u->bn (upd φ s v) w (cx.fr (upd φ s v) (upd O s (some o'))) x u:=by
 obtain⟨ψ,hψ⟩:∃ ψ,ψ=upd φ s v:=⟨_,rfl⟩
 have hψs:ψ s=v:=by rw[hψ,upd_same]
 have hψo:∀ t,t≠s->ψ t=φ t:=fun t ht=>by rw[hψ,bc _ _ ht]
 rw[<- hψ] at ho ⊢
 have hq:HQ φ ψ:=⟨fun t=>by
  by_cases ht:t=s
  ·rw[ht,hψs,hhd]
  ·rw[hψo t ht],fun t a e=>by
  by_cases ht:t=s
  ·rw[ht] at e ⊢; rw[hψs]; exact hpt a e
  ·rw[hψo t ht,e]⟩
 have bs:∀ t b,hbl (ψ t) b->hbl (φ t) b:=fun t b hb'=>by
  by_cases ht:t=s
  ·rw[ht] at hb' ⊢; rw[hψs] at hb'; exact hb b hb'
  ·rwa [hψo t ht] at hb'
 have dom:∀ t o1,upd O s (some o') t=some o1->∃ o2,O t=some o2/\(t≠s->o2=o1):=fun t o1 ho1=>by
  by_cases ht:t=s
  ·exact⟨_,by rw[ht]; exact hs,fun h=>absurd ht h⟩
  ·rw[bc _ _ ht] at ho1; exact⟨o1,ho1,fun _=>rfl⟩
 have hk:Keep (cx.fr φ O) (cx.fr ψ (upd O s (some o'))) w w:=⟨Nat.le_refl _,fun _ _ _=>rfl,fun b hb1 _=>⟨hb1.1,fun⟨t,o1,ho1,he⟩=>by
  obtain⟨o2,h1,_⟩:=dom t o1 ho1
  exact hb1.2 ⟨t,o2,h1,bs t b he⟩⟩⟩
 refine⟨⟨h.os,h.tape,h.output,h.drawn,h.size,h.block,?_,?_,?_,?_,?_⟩,fun x u hxu=>vsim_veq hq x u (cV hk x u hxu)⟩
 ·intro t o1 ho1
  by_cases ht:t=s
  ·rw[ht,upd_same] at ho1
   cases ho1
   rw[ht]
   exact ho _ hq hk
  ·rw[bc _ _ ht] at ho1
   exact osim_veq hq (fun m l la e r hr=>by
    subst e
    rw[hψo m (hit t m l la (by rw[bc _ _ ht]; exact ho1)).2,hr]) (hψo t ht) (dx hk (h.objs t o1 ho1) (fun _ _=>rfl) fun _ _ _ _ _ _=>rfl)
 ·intro t o1 b ho1 hb1
  obtain⟨o2,h1,_⟩:=dom t o1 ho1
  exact h.own t o2 b h1 (bs t b hb1)
 ·intro t t' o1 o2 b ho1 ho2 hb1 hb2
  obtain⟨o3,h1,_⟩:=dom t o1 ho1
  obtain⟨o4,h2,_⟩:=dom t' o2 ho2
  exact h.disj t t' o3 o4 b h1 h2 (bs t b hb1) (bs t' b hb2)
 ·intro k hk1 hk2
  by_cases ht:k=s
  ·rw[ht] at hk1 hk2 ⊢
   rw[hψs]
   rcases hin with hin | hin
   ·omega
   ·exact (h.inp s hk1 hk2).trans hin
  ·rw[hψo k ht]; exact h.inp k hk1 hk2
 ·intro t m left last ho1
  have hi:=hit t m left last ho1
  rw[bc _ _ hi.1] at ho1
  obtain⟨kk,es,hm⟩:=h.itm t m left last ho1
  exact⟨kk,es,by rw[bc _ _ hi.2]; exact hm⟩
theorem Core.renest (h:Core cx φ O w) {e e':NSp} {ie:TypeId} {sz:Nat} {els els':List NE} {out:Value} {ivs ivs' cs':List Value} (hs:O s=some (.nest e ie sz els)) (hp:φ s=.tuple (out::ivs).toArray) (hsp:spine w e' els'.length out cs')
  (hsub:((out::ivs').filterMap ea).Sublist ((out::ivs).filterMap ea)) (hn:∀ (ψ:Nat->Value) (F':Nat->Prop),(∀ t,veq (φ t) (ψ t))->Keep (cx.fr φ O) F' w w->jn ψ w F' ie sz els' cs' ivs') :
  ∃ ψ,(∀ t,veq (φ t) (ψ t))/\ψ s=.tuple (out::ivs').toArray/\Core cx ψ (upd O s (some (.nest e' ie sz els'))) w/\∀ v u,bn φ w (cx.fr φ O) v u->bn ψ w (cx.fr ψ (upd O s (some (.nest e' ie sz els')))) v u:=by
 have hve:veq (φ s) (.tuple (out::ivs').toArray):=by rw[hp]; exact .inr ⟨_,_,_,rfl,rfl⟩
 have hv:∀ t,veq (φ t) (upd φ s (.tuple (out::ivs').toArray) t):=fun t=>by
  by_cases ht:t=s
  ·rw[ht,upd_same]; exact hve
  ·rw[bc _ _ ht]; exact .refl _
 have hnd:(blks (φ s)).Nodup:=by
  obtain⟨_,_,_,_,hnd,_⟩:=h.objs s _ hs
  exact hnd
 rw[hp,dX] at hnd
 refine⟨_,hv,upd_same _ _ _,h.swap hs (.inr hve) (by rw[hp,dz,dz]) (fun a e=>by rw[hp] at e; cases e) (fun b hb=>by rw[nb] at hb; rw[hp,nb]; exact hsub.mem hb) (fun t m l la ho=>?_)
  fun F' _ hk=>⟨out,ivs',cs',upd_same _ _ _,by rw[upd_same,dX]; exact hnd.sublist hsub,hsp,hn _ _ hv hk⟩⟩
 by_cases ht:t=s
 ·rw[ht,upd_same] at ho; cases ho
 ·rw[bc _ _ ht] at ho
  obtain⟨kk,es,hm⟩:=h.itm t m l la ho
  exact⟨ht,fun e=>by rw[e,hs] at hm; cases hm⟩
theorem oc {φ:Nat->Value} {F:Nat->Prop} {ie:TypeId} {sz:Nat} {x:NE} {c iv:Value} (hx:nsim φ w F ie sz c iv x):∀ {els:List NE} {cs ivs:List Value},jn φ w F ie sz els cs ivs->jn φ w F ie sz (els++[x]) (cs++[c]) (ivs++[iv])
 | [],_,_,⟨h1,h2⟩=>by subst h1 h2; exact⟨c,[],iv,[],rfl,rfl,hx,rfl,rfl⟩
 | y::els,_,_,⟨c',cs',iv',ivs',h1,h2,h3,h4⟩=>by subst h1 h2; exact⟨c',_,iv',_,rfl,rfl,h3,oc hx h4⟩
theorem vget_none {es:List (Key×Value)} {k:Key} (h:∀ x∈es,x.1≠k):vget es k=.slice none 0 0:=by
 unfold vget
 rw[List.find?_eq_none.2 fun x hx=>by simpa using h x hx]
 rfl
theorem Core.vir (h:Core cx φ O w) {kk:KK} {ks:List Key} {ie:TypeId} {sz:Nat} {els:List NE} {key:Key} (hs:O s=some (.nest (.map kk ks) ie sz els)) (hf:key.fits kk=true) (hk:key ∉ ks) :
  ∃ ψ,Core cx ψ (upd O s (some (.nest (.map kk (ks++[key])) ie sz (els++[.rows []])))) w/\∀ v u,bn φ w (cx.fr φ O) v u->bn ψ w (cx.fr ψ (upd O s (some (.nest (.map kk (ks++[key])) ie sz (els++[.rows []]))))) v u:=by
 obtain⟨out,ivs,cs,hp,hnd,⟨b,ents,clk,es,h1,h2,h3,h4,h5,h6,h7,h8,h9,h10,h11,h12⟩,hn⟩:=h.objs s _ hs
 obtain⟨ψ,_,_,g3,g4⟩:=h.renest (e':=.map kk (ks++[key])) (els':=els++[.rows []]) (ivs':=ivs++[.slice none 0 0]) (cs':=cs++[.slice none 0 0]) hs hp
  ⟨b,ents,clk,es,h1,h2,h3,h4,h5,h6,h7,by simp[h8],by rw[h9,List.map_append,List.map_cons,List.map_nil,vget_none (es:=es) (k:=key) fun x hx e=>hk (e ▸ h12 x hx)],List.nodup_append.2 ⟨h10,by simp,fun a ha b hb e=>hk (by simp at hb; rw[<- hb,<- e]; exact ha)⟩,
   fun k hk'=>(List.mem_append.1 hk').elim (h11 k) fun hk'=>by simp at hk'; rw[hk']; exact hf,fun x hx=>List.mem_append_left _ (h12 x hx)⟩
  (by rw[<- List.cons_append,List.filterMap_append]; simp[ea]) fun ψ F' hv hk=>oc (x:=.rows []) (show nsim ψ w F' ie sz (.slice none 0 0) (.slice none 0 0) (.rows []) from ⟨rfl,by simp,.inl ⟨rfl,none,rfl⟩⟩) (kE (fun t=>(hv t).hd) (fS hk (fun _ _ _ _=>rfl) hn))
 exact⟨ψ,g3,g4⟩
theorem Core.toNM (h:Core cx φ O w) {kk:KK} {ie:TypeId} {sz:Nat} (hs:O s=some (.map kk [])) (hsb:s < inBase) (hit:∀ t m l la,O t=some (.iter m l la)->m≠s) :
  ∃ ψ,Core cx ψ (upd O s (some (.nest (.map kk []) ie sz []))) w/\∀ v u,bn φ w (cx.fr φ O) v u->bn ψ w (cx.fr ψ (upd O s (some (.nest (.map kk []) ie sz [])))) v u:=by
 obtain⟨b,ents,clk,h1,h2,h3,h4,h5,h6⟩:=h.objs s _ hs
 refine⟨upd φ s (.tuple (φ s::[]).toArray),h.swap hs (.inl hsb) (by rw[dz,h1]; rfl) (fun a e=>by rw[h1] at e; cases e) (fun b' hb=>?_) (fun t m l la ho=>?_) fun F' _ hk=>⟨φ s,[],[],upd_same _ _ _,?_,⟨b,ents,clk,[],h1,h2,h3,h4,h5,(fun _ h=>by cases h),List.nodup_nil,rfl,rfl,List.nodup_nil,(fun _ h=>by cases h),fun _ h=>by cases h⟩,rfl,rfl⟩⟩
 ·rw[nb,h1] at hb
  rw[h1]
  simpa [ea] using hb
 ·by_cases ht:t=s
  ·rw[ht,upd_same] at ho; cases ho
  ·rw[bc _ _ ht] at ho
   exact⟨ht,hit t m l la ho⟩
 ·rw[upd_same,dX,h1]
  simp[ea]
theorem Core.deaden (h:Core cx φ O w) {e:NSp} {ie:TypeId} {sz i:Nat} {els:List NE} (hs:O s=some (.nest e ie sz els)) (hi:i < els.length) :
  ∃ ψ out ivs cs,(∀ t,veq (φ t) (ψ t))/\ψ s=.tuple (out::ivs).toArray/\spine w e els.length out cs/\ivs[i]?=some undef/\Core cx ψ (upd O s (some (.nest e ie sz (els.set i .dead)))) w /\
   (∀ v u,bn φ w (cx.fr φ O) v u->bn ψ w (cx.fr ψ (upd O s (some (.nest e ie sz (els.set i .dead))))) v u)/\jn ψ w (cx.fr ψ (upd O s (some (.nest e ie sz (els.set i .dead))))) ie sz (els.set i .dead) cs ivs:=by
 obtain⟨out,ivs,cs,hp,hnd,hsp,hn⟩:=h.objs s _ hs
 obtain⟨c,iv,hc,hiv,hx⟩:=kL hn (List.getElem?_eq_getElem hi)
 obtain⟨ψ,h1,h2,h3,h4⟩:=h.renest (els':=els.set i .dead) (ivs':=ivs.set i undef) hs hp (by rw[List.length_set]; exact hsp) (fm_sub (out::ivs) (i+1)) fun ψ F' hv hk=>by
  have:=ky (i:=i) (x:=.dead) (c:=c) (iv:=undef) (kE (fun t=>(hv t).hd) (fS hk (fun _ _ _ _=>rfl) hn)) ⟨nsim_one hx,rfl⟩
  rwa [eG hc] at this
 obtain⟨out',ivs',cs',g1,_,g3,g4⟩:=h3.objs s _ (upd_same _ _ _)
 rw[h2] at g1
 simp only[Value.tuple.injEq] at g1
 obtain⟨rfl,rfl⟩:=g1
 rw[List.length_set] at g3
 exact⟨ψ,out,_,cs',h1,h2,g3,by rw[List.getElem?_set_self (by have:=(ox hn).2; omega)],h3,h4,g4⟩
theorem Core.toN (h:Core cx φ O w) {e ie:TypeId} {sz k:Nat} (hs:O s=some (.row 1 e (List.replicate k [.nil]))) (hsb:s < inBase) :
  ∃ ψ,Core cx ψ (upd O s (some (.nest (.row e) ie sz (List.replicate k (.rows []))))) w/\∀ v u,bn φ w (cx.fr φ O) v u->bn ψ w (cx.fr ψ (upd O s (some (.nest (.row e) ie sz (List.replicate k (.rows [])))))) v u:=by
 have hrow:rowv φ w (cx.fr φ O) (φ s) 1 e (List.replicate k [.nil]):=h.objs s _ hs
 obtain⟨hone,hhd,hbt⟩:=rowv_slice hrow
 have hns:∀ a,φ s≠.pointer a:=by
  obtain⟨_,h1⟩:=hrow
  rcases h1 with ⟨_,a,h1⟩ | ⟨b,cap,cur,_,h1,_⟩<;>rw[h1]<;>exact fun _ h=>by cases h
 have hfm:∀ n,(List.replicate n (Value.slice none 0 0)).filterMap ea=[]:=fun n=>by
  induction n with
  | zero=>rfl
  | succ n ih=>rw[List.replicate_succ,List.filterMap_cons,ih]; rfl
 have hrep:∀ (ψ:Nat->Value) (F':Nat->Prop) n,jn ψ w F' ie sz (List.replicate n (.rows [])) (List.replicate n (.slice none 0 0)) (List.replicate n (.slice none 0 0)):=fun ψ F' n=>by
  induction n with
  | zero=>exact⟨rfl,rfl⟩
  | succ n ih=>exact⟨_,_,_,_,rfl,rfl,⟨rfl,by simp,.inl ⟨rfl,none,rfl⟩⟩,ih⟩
 have hcs:∀ (n:Nat) (us:List Value),bh φ w (cx.fr φ O) ((List.replicate n [L.nil]).flatten.map C.d) us->us=List.replicate n (.slice none 0 0):=fun n=>by
  induction n with
  | zero=>intro us h; simpa [bh] using h
  | succ n ih =>
   intro us h
   rw[List.replicate_succ,List.flatten_cons,List.map_append] at h
   simp only[List.map_cons,List.map_nil,List.singleton_append,bh,bl,rep] at h
   obtain⟨v,r,rfl,rfl,h⟩:=h
   rw[ih r h,List.replicate_succ]
 refine⟨upd φ s (.tuple (φ s::List.replicate k (.slice none 0 0)).toArray),h.swap hs (.inl hsb) (by rw[dz,hhd]) (fun a e=>absurd e (hns a)) (fun b hb=>?_) (fun t m l la ho=>?_)
  fun F' _ hk=>⟨φ s,List.replicate k (.slice none 0 0),List.replicate k (.slice none 0 0),upd_same _ _ _,?_,?_,hrep _ _ k⟩⟩
 ·rw[nb,List.filterMap_cons,hfm] at hb
  rw[hbt]
  revert hb
  cases ea (φ s) with
  | none=>simp
  | some c=>simp[eq_comm]
 ·by_cases ht:t=s
  ·rw[ht,upd_same] at ho; cases ho
  ·rw[bc _ _ ht] at ho
   obtain⟨kk,es,hm⟩:=h.itm t m l la ho
   exact⟨ht,fun e=>by rw[e,hs] at hm; cases hm⟩
 ·rw[upd_same,dX,List.filterMap_cons,hfm]
  cases ea (φ s)<;>simp
 ·rw[List.length_replicate]
  obtain⟨_,h1⟩:=hrow
  rcases h1 with ⟨h0,a,h1⟩ | ⟨b,cap,cur,h0,h1,h2,h3,h4,h5,h6⟩
  ·cases k with
   | zero=>exact .inl ⟨rfl,rfl,a,h1⟩
   | succ k=>simp[List.replicate_succ] at h0
  ·rw[List.length_replicate] at h1 h2 h6
   rw[Nat.mul_one] at h5 h6
   exact .inr ⟨b,cap,cur,h0,h1,h2,h3,h4,h5,(hcs k _ h6).symm⟩
end
def du {α:Type} (f:α->List L) (l:List (List α)):List NE:=l.map fun r=>.rows (r.map f)
section
variable {α:Type} {f:α->List L} {l:List (List α)}
theorem nels_wipe (d:Nat):(du f l).map (NE.wipe d)=du f l:=by unfold du; rw[List.map_map]; rfl
theorem nels_ren (g:Nat->Nat):(du f l).map (NE.ren g)=du f l:=by unfold du; rw[List.map_map]; rfl
theorem nels_closed:(du f l).all NE.closed=true:=by unfold du; simp[NE.closed]
theorem ng:(du f l).length=l.length:=by simp[du]
theorem nels_set (i:Nat) (r:List α):(du f l).set i (.rows (r.map f))=du f (l.set i r):=by unfold du; rw[List.map_set]
theorem nels_rep (k:Nat):du f (List.replicate k [])=List.replicate k (.rows []):=by unfold du; rw[List.map_replicate]; rfl
theorem newipe_own (d t:Nat):NE.wipe d (.own t)=if t=d then .dead else .own t:=rfl
end
end Go.AM
namespace Go.AM
open Go.RowKit
def noTop (cs:List C):Bool:=cs.all fun c=>match c with | .top=>false | _=>true
def bQ (Z:Env) (d:Option Nat) (v:V):Env:=match d with
 | some d=>upd Z d v
 | none=>Z
def oP (O:Sto) (sz:Nat) (e:TypeId):V->Option (Option Nat×List (List L))
 | .u (.one (.d .nil))=>some (none,[])
 | .u (.one (.d .emp))=>some (none,[])
 | .u (.one (.own s))=>match O s with
  | some (.row sz' e' rows)=>if sz'=sz/\e'=e then some (some s,rows) else none
  | _=>none
 | _=>none
def fullV (sz:Nat):V->Option (List (List L))
 | .u (.one (.d (.slx sz' rows)))=>if sz'=sz then some rows else none
 | _=>none
def nF (O:Sto) (sz:Nat):V->Option (List (List L))
 | .u (.one (.d .nil))=>some []
 | .u (.one (.d .emp))=>some []
 | .u (.one (.d (.sl sz' rows)))=>if sz'=sz then some rows else none
 | .u (.one (.own s))=>match O s with
  | some (.row sz' _ rows)=>if sz'=sz then some rows else none
  | _=>none
 | .u (.one (.sub s sz' a n))=>match O s with
  | some (.row sz'' _ rows)=>if sz'=sz/\sz''=sz/\n<=rows.length then some (subRow rows a n) else none
  | _=>none
 | _=>none
def preRow (rows:List (List L)) (n:Nat) (news:List (List L)):List (List L):=rows.take n++news++rows.drop (n+news.length)
def preV (O:Sto) (sz:Nat) (e:TypeId):V->Option (Nat×Nat×List (List L))
 | .u (.one (.sub s sz' 0 n))=>match O s with
  | some (.row sz'' e' rows)=>if sz'=sz/\sz''=sz/\e'=e then some (s,n,rows) else none
  | _=>none
 | _=>none
def mset:List (Key×U)->Key->U->List (Key×U)
 | [],k,u=>[(k,u)]
 | x::es,k,u=>if x.1=k then (k,u)::es else x::mset es k u
def mdel:List (Key×U)->Key->List (Key×U)
 | [],_=>[]
 | x::es,k=>if x.1=k then es else x::mdel es k
def vu:V->Option U
 | .u u=>some u
 | _=>none
def qint:V->Option Int
 | .u (.one (.d (.int _ n)))=>some n
 | _=>none
def ou (tb:Tb) (Z:Env) (O:Sto) (t:TypeId) (x y:V) (K:Env->Sto->Prop):Prop:=match tb.ty t,x,kc y with
 | some ti,.u (.one (.box s off)),some xs=>match O s with
  | some (.box cs)=>xs.length=ti.size/\off+ti.size<=cs.length/\noTop xs=true/\K Z (upd O s (some (.box (cs.take off++xs++cs.drop (off+ti.size)))))
  | _=>False
 | some ti,.u (.one (.elt s i sz off)),some xs=>match O s,my xs with
  | some (.row sz' e rows),some ys=>match rows[i]? with
   | some r=>sz=sz'/\ys.length=ti.size/\off+ti.size<=r.length/\K Z (upd O s (some (.row sz' e (rows.set i (r.take off++ys++r.drop (off+ti.size))))))
   | none=>False
  | some (.nest (.row e) ie sz' els),_=>match xs with
   | [.own t']=>sz=1/\off=0/\ti.size=1/\i < els.length/\K Z (upd O s (some (.nest (.row e) ie sz' (els.set i (.own t')))))
   | _=>False
  | _,_=>False
 | _,_,_=>False
def jV (tb:Tb) (Z:Env) (O:Sto) (d:Nat) (t:TypeId) (x y:V) (K:Env->Sto->Prop):Prop:=match tb.ty t with
 | some ti=>match ti.desc with
  | .slice e=>match tb.ty e with
   | some te=>match oP O te.size e x,nF O te.size y with
    | some (so,rows),some news=>0 < te.size/\0 < te.bytes/\(rows.length+news.length)*te.bytes<=140737488355328 /\
      K (upd (cL d Z) d (.u (.one (.own d)))) (upd (bN d (drop so O)) d (some (.row te.size e (rows++news))))
    | none,some news=>match fullV te.size x with
     | some rows=>(0 < te.size/\0 < te.bytes/\(rows.length+news.length)*te.bytes<=140737488355328/\0 < news.length)/\K (upd (cL d Z) d (.u (.one (.own d)))) (upd (bN d O) d (some (.row te.size e (rows++news))))
     | none=>False
    | _,_=>False
   | none=>False
  | _=>False
 | none=>False
def preT (te:Option TI) (e:TypeId) (Z:Env) (O:Sto) (d:Nat) (x y:V):Option (Prop×Env×Sto):=match te with
 | some te=>match preV O te.size e x with
  | some (s,n,rows)=>match nF O te.size y with
   | some news=>some ((0 < te.size/\n+news.length<=rows.length),upd Z d (.u (.one (.sub s te.size 0 (n+news.length)))),upd O s (some (.row te.size e (preRow rows n news))))
   | none=>none
  | none=>none
 | none=>none
def preD (tb:Tb) (ti:Option TI) (Z:Env) (O:Sto) (d:Nat) (x y:V):Option (Prop×Env×Sto):=match ti with
 | some ti=>match ti.desc with
  | .slice e=>preT (tb.ty e) e Z O d x y
  | _=>none
 | none=>none
def preR (tb:Tb) (Z:Env) (O:Sto) (op:Op) (d:Option Nat):Option (Prop×Env×Sto):=match op with
 | .call c=>match c.callee,c.args.toList,c.argTypes.toList,d with
  | .builtin .append,[x,y],[t,t'],some d=>if t=t' then preD tb (tb.ty t) Z O d (oev Z x) (oev Z y) else none
  | _,_,_,_=>none
 | _=>none
def oH (Z:Env) (O:Sto) (d:Nat) (cs:Option (List C)) (K:Env->Sto->Prop):Prop:=match cs with
 | some cs=>noTop cs=true/\K (upd (cL d Z) d (.u (.one (.box d 0)))) (upd (bN d O) d (some (.box (cs.map (C.wipe d)))))
 | none=>False
def jD:U->List C
 | .one c=>[c]
 | .agg cs=>cs
def allOne:Value->Bool
 | .agg arr=>arr.toList.all Value.oneCell'
 | _=>false
def okZero (ti:TI):Bool:=match ti.zu with
 | .one .top=>ti.zv.oneCell'
 | .one _=>true
 | .agg cs=>noTop cs || allOne ti.zv
def strRow (sz:Nat):V->Option (List UInt8)
 | .u (.one (.d (.str s)))=>if sz=1 then some (bsl s) else none
 | _=>none
def mz (tb:Tb) (Z:Env) (O:Sto) (d:Nat) (t t':TypeId) (x y:V) (K:Env->Sto->Prop):Prop:=match tb.ty t,tb.ty t' with
 | some ti,some ts=>match ti.desc,ts.desc with
  | .slice e,.string=>match tb.ty e with
   | some te=>match oP O te.size e x,strRow te.size y with
    | some (so,rows),some l=>0 < te.bytes/\(rows.length+l.length)*te.bytes<=140737488355328 /\
      K (upd (cL d Z) d (.u (.one (.own d)))) (upd (bN d (drop so O)) d (some (.row te.size e (rows++l.map mA))))
    | _,_=>False
   | none=>False
  | _,_=>False
 | _,_=>False
def aAllocBox (ti:TI) (Z:Env) (O:Sto) (d:Nat) (K:Env->Sto->Prop):Prop:=okZero ti=true/\K (upd (cL d Z) d (.u (.one (.box d 0)))) (upd (bN d O) d (some (.box ((jD ti.zu).map (C.wipe d)))))
def neC:U->Option NE
 | .one (.own t)=>some (.own t)
 | .one (.sub t z 0 n)=>some (.sub t z n)
 | _=>none
def rMapN (kk':Option KK) (kk:KK) (ks:List Key) (ie:TypeId) (sz:Nat) (els:List NE) (key:Key) (u:U) (Z:Env) (O:Sto) (s:Nat):Option (Prop×Env×Sto):=match neC u with
 | some x=>some ((kk'=some kk/\key.fits kk=true/\fh ks key < ks.length),Z,upd O s (some (.nest (.map kk ks) ie sz (els.set (fh ks key) x))))
 | none=>none
def stpN' (r:Option (Prop×Env×Sto)) (K:Env->Sto->Prop):Prop:=match r with
 | some (p,Z',O')=>p/\K Z' O'
 | none=>False
def lP (tb:Tb) (Z:Env) (O:Sto) (t:TypeId) (m k x:V) (K:Env->Sto->Prop):Prop:=match tb.ty t,m,vkey k,vu x with
 | some ti,.u (.one (.map s)),some key,some u=>match ti.desc,O s with
  | .map kt _,some (.map kk es)=>tb.key kt=some kk/\key.fits kk=true/\K Z (upd (gj s O) s (some (.map kk (mset es key u))))
  | .map kt _,some (.nest (.map kk ks) ie sz els)=>stpN' (rMapN (tb.key kt) kk ks ie sz els key u Z O s) K
  | _,_=>False
 | _,_,_,_=>False
def aDelete (tb:Tb) (Z:Env) (O:Sto) (d:Option Nat) (t:TypeId) (m k:V) (K:Env->Sto->Prop):Prop:=match tb.ty t,m,vkey k with
 | some ti,.u (.one (.map s)),some key=>match ti.desc,O s with
  | .map kt _,some (.map kk es)=>tb.key kt=some kk/\key.fits kk=true/\K (bQ Z d (.tup [])) (upd (gj s O) s (some (.map kk (mdel es key))))
  | _,_=>False
 | _,_,_=>False
def kT (tb:Tb) (Z:Env) (O:Sto) (d:Nat) (t:TypeId) (r:Option V) (K:Env->Sto->Prop):Prop:=match tb.ty t with
 | some ti=>match ti.desc with
  | .map kt _=>match tb.key kt with
   | some kk=>(match r with | none=>True | some v=>(qint v).isSome=true)/\K (upd (cL d Z) d (.u (.one (.map d)))) (upd (bN d O) d (some (.map kk [])))
   | none=>False
  | _=>False
 | none=>False
def il (tb:Tb) (Z:Env) (O:Sto) (d:Nat) (t:TypeId) (x c:V) (K:Env->Sto->Prop):Prop:=match tb.ty t with
 | some ti=>match ti.desc with
  | .slice e=>match tb.ty e with
   | some te=>match x,c,(kc (.u te.zu)).bind my with
    | .u (.one (.d (.int .i64 n))),.u (.one (.d (.int .i64 m))),some zr=>(0<=n/\n<=m/\0 < te.size/\0 < te.bytes/\m*te.bytes<=140737488355328) /\
      K (upd (cL d Z) d (.u (.one (.own d)))) (upd (bN d O) d (some (.row te.size e (List.replicate n.toNat zr))))
    | _,_,_=>False
   | none=>False
  | _=>False
 | none=>False
def aRange (tb:Tb) (Z:Env) (O:Sto) (d:Nat) (t:TypeId) (x:V) (K:Env->Sto->Prop):Prop:=match tb.ty t,x with
 | some ti,.u (.one (.map s))=>match ti.desc,O s with
  | .map _ _,some (.map _ es)=>s≠d/\K (upd (cL d Z) d (.u (.one (.iter d)))) (upd (bN d O) d (some (.iter s (es.map fun x=>(x.1,x.2.wipe d)) none)))
  | _,_=>False
 | _,_=>False
def aNext (Z:Env) (O:Sto) (d:Nat) (x:V) (K:Env->Sto->Prop):Prop:=match x with
 | .u (.one (.iter s))=>match O s with
  | some (.iter m left _)=>(left=[]->K (upd Z d (.tup [.one (.d (.bool false))])) O) /\
    ∀ i x,left[i]?=some x->K (upd Z d (.tup [.one (.d (.bool true)),x.1.u,x.2])) (upd O s (some (.iter m (left.eraseIdx i) (some x))))
  | _=>False
 | _=>False
def aEntry (Z:Env) (O:Sto) (d:Nat) (x:V) (K:Env->Sto->Prop):Prop:=match x with
 | .u (.one (.iter s))=>match O s with
  | some (.iter _ _ (some x))=>K (upd Z d (.tup [x.1.u,x.2])) O
  | _=>False
 | _=>False
def aEqNil (tb:Tb) (Z:Env) (O:Sto) (d:Nat) (op:BinOp) (t:TypeId) (x y:V) (K:Env->Sto->Prop):Prop:=match tb.ty t,x,y with
 | some ti,.u (.one (.d (.sl _ []))),.u (.one (.d .nil))=>match ti.desc,op with
  | .slice _,.eql=>K (upd Z d (.u (.one (.d (.bool true))))) O/\K (upd Z d (.u (.one (.d (.bool false))))) O
  | _,_=>False
 | _,_,_=>False
def fF (tb:Tb) (Z:Env) (O:Sto) (o:Oper) (K:Env->Sto->Prop):Prop :=
 match o.op,o.dst with
 | .alloc t,some d=>match tb.ty t with
  | some ti=>aAllocBox ti Z O d K
  | none=>False
 | .box _ x,some d=>oH Z O d (kc (oev Z x)) K
 | .store t x y,none=>ou tb Z O t (oev Z x) (oev Z y) K
 | .call c,d=>match c.callee,c.args.toList,c.argTypes.toList,d with
  | .builtin .append,[x,y],[t,t'],some d=>if t=t' then jV tb Z O d t (oev Z x) (oev Z y) K else mz tb Z O d t t' (oev Z x) (oev Z y) K
  | .builtin .delete,[m,k],[t,_],d=>aDelete tb Z O d t (oev Z m) (oev Z k) K
  | _,_,_,_=>False
 | .mapUpdate t m k x,none=>lP tb Z O t (oev Z m) (oev Z k) (oev Z x) K
 | .makeSlice t x c,some d=>il tb Z O d t (oev Z x) (oev Z c) K
 | .makeMap t r,some d=>kT tb Z O d t (r.map (oev Z)) K
 | .range t x,some d=>aRange tb Z O d t (oev Z x) K
 | .next x false,some d=>aNext Z O d (oev Z x) K
 | .entry x,some d=>aEntry Z O d (oev Z x) K
 | .binOp op t x y _,some d=>aEqNil tb Z O d op t (oev Z x) (oev Z y) K
 | _,_=>False
def Step (P:Program) (cx:Cx) (o:Oper) (Z:Env) (O:Sto) (K:Env->Sto->Prop):Prop :=
 ∀ (φ:Nat->Value) (a:Act) (w:World),Sim cx φ Z O a w->∀ (next:Act->World->Prop) (Q:Exit->Act->World->Prop),
  (∀ φ' Z' O' a' w',Sim cx φ' Z' O' a' w'->K Z' O'->next a' w')->o.wp P a w next Q
section
variable {P:Program} {tb:Tb} {cx:Cx} {Z:Env} {O:Sto} {o:Oper} {K:Env->Sto->Prop}
theorem Sim.put {φ:Nat->Value} {a:Act} {w:World} (h:Sim cx φ Z O a w) {d:Option Nat} (hd:∀ x,d=some x->x < cx.n) {v:V} {u:Value} (hv:bn φ w (cx.fr φ O) v u) :
  Sim cx φ (bQ Z d v) O (a.put d u) w:=by
 cases d with
 | none=>exact h
 | some d =>
  refine⟨h.core,m0 h.slots hv (Nat.lt_of_lt_of_le (hd d rfl) h.room),h.defers,?_⟩
  simpa [Act.put] using h.room
theorem Step.of_quiet {S:V->Prop} (h:Quiet P cx o Z O S) (hd:∀ x,o.dst=some x->x < cx.n) (hk:∀ v,S v->K (bQ Z o.dst v) O):Step P cx o Z O K:=by
 intro φ a w hs next Q hn
 have hq:=h φ a w hs.core (fun x _=>cj hs.core.gw hs.slots x)
 unfold Oper.wp
 generalize (execOp a.eval o).run P w=r at hq
 cases r with
 | ok n w' =>
  cases n with
  | value u =>
   obtain⟨hb,v,hv,hvs⟩:=hq
   exact hn φ _ O _ w' ((hs.below hb).put hd hvs) (hk v hv)
  | enter f args =>
   obtain⟨hb,hc⟩:=hq
   refine hc.mono fun e w'' he=>?_
   obtain⟨u,v,rfl,hb',hv,hvs⟩:=he
   exact hn φ _ O _ w'' (((hs.below hb).below hb').put hd hvs) (hk v hv)
  | _=>exact hq.elim
 | halt x w'=>exact hq.elim
theorem Step.of_run {a:Act} {w w':World} {u:Value} (hr:(execOp a.eval o).run P w=.ok (.value u) w') {φ':Nat->Value} {Z':Env} {O':Sto} (hs:Sim cx φ' Z' O' (a.put o.dst u) w') (hk:K Z' O')
  {next:Act->World->Prop} {Q:Exit->Act->World->Prop} (hn:∀ φ' Z' O' a' w',Sim cx φ' Z' O' a' w'->K Z' O'->next a' w'):o.wp P a w next Q:=by
 unfold Oper.wp
 rw[hr]
 exact hn _ _ _ _ _ hs hk
theorem k7 {φ:Nat->Value} {w:World} {F:Nat->Prop}:∀ {cs:List C} {vs:List Value},noTop cs=true->bh φ w F cs vs->∀ u∈vs,u.oneCell'=true
 | [],vs,_,h=>by simp_all [bh]
 | c::cs,vs,hn,h=>by
  simp only[bh] at h
  obtain⟨v,r,rfl,hc,h⟩:=h
  simp only[noTop,List.all_cons,Bool.and_eq_true] at hn
  intro u hu
  rcases List.mem_cons.1 hu with rfl | hu
  ·grind [jY]
  ·exact k7 hn.2 h u hu
theorem Sim.new {φ:Nat->Value} {a:Act} {w w':World} {d:Nat} {hv:Value} {c:C} {Z':Env} {O':Sto} (hs:Sim cx φ Z O a w) (hd:d < cx.n)
  (h:Core cx (upd φ d hv) O' w'/\Keep (cx.fr φ O) (cx.fr (upd φ d hv) O') w w'/\∀ v u,bn φ w (cx.fr φ O) v u->bn (upd φ d hv) w' (cx.fr (upd φ d hv) O') (v.wipe d) u)
  (hρ:Z'=upd (cL d Z) d (.u (.one c))) (hc:bl (upd φ d hv) w' (cx.fr (upd φ d hv) O') c hv):Sim cx (upd φ d hv) Z' O' (a.put (some d) hv) w':=by
 subst hρ
 obtain⟨h1,_,h3⟩:=h
 refine⟨h1,m0 (fun t=>h3 _ _ (hs.slots t)) hc (Nat.lt_of_lt_of_le hd hs.room),hs.defers,?_⟩
 simpa [Act.put] using hs.room
theorem iG (O:Sto):drop none O=O:=by rfl
theorem newBox_step {φ:Nat->Value} {a:Act} {w:World} {d:Nat} {t:TypeId} {cs:List C} {arr:Array Value} (hs:Sim cx φ Z O a w) (hd:d < cx.n) (hd':d < inBase) (hc:bh φ w (cx.fr φ O) cs arr.toList) (hn:∀ u∈arr.toList,u.oneCell'=true) :
  Sim cx (upd φ d (.pointer (some ⟨w.heap.size,0,none⟩))) (upd (cL d Z) d (.u (.one (.box d 0)))) (upd (bN d O) d (some (.box (cs.map (C.wipe d))))) (a.put (some d) (.pointer (some ⟨w.heap.size,0,none⟩))) (w.alloc (.cells arr t)):=by
 have hb:Blw w.heap.size w (w.alloc (.cells arr t)):=(Blw.refl _ _).alloc (Nat.le_refl _) _
 have key:=hs.core.replace (so:=none) (d:=d) (hv:=.pointer (some ⟨w.heap.size,0,none⟩)) (ob:=.box (cs.map (C.wipe d))) (w':=w.alloc (.cells arr t)) hd' (fun _ _ h=>by cases h) hb.os hb.tape hb.output hb.drawn hb.size
  (fun b hl _=>hb.block b hl) (fun b hbk=>by simp_all) (fun _ _ _ h=>by cases h)
  (fun hk=>⟨w.heap.size,arr,t,upd_same _ _ _,heap_alloc_new w _,mG (fun t ht=>bc _ _ ht) _ _ (bO hk _ _ hc),hn⟩)
 rw[iG] at key
 exact Sim.new hs hd key rfl (by simp only[bl]; exact⟨w.heap.size,upd_same _ _ _,rfl⟩)
theorem alloc_sound (ht:TbOk P tb) {d:Nat} {t:TypeId} (hop:o.op=.alloc t) (hdst:o.dst=some d) (hd:d < cx.n) (hd':d < inBase) (h:fF tb Z O o K):Step P cx o Z O K:=by
 intro φ a w hs next Q hn
 unfold fF at h
 simp only[hop,hdst] at h
 split at h
 ·rename_i ti hty
  have T:=ht.ty t ti hty
  obtain⟨h1,h2⟩:=h
  have hz:=T.zero φ w (cx.fr φ O)
  have hc:bh φ w (cx.fr φ O) (jD ti.zu) ti.zv.cells.toList/\∀ u∈ti.zv.cells.toList,u.oneCell'=true:=by
   unfold okZero at h1
   cases hu:ti.zu with
   | one c =>
    rw[hu] at hz h1
    have ho:ti.zv.oneCell'=true:=by
     cases c with
     | top=>exact h1
     | _=>exact jY (by simp) hz
    rw[ny ho]
    simp only[jD,bh]
    exact⟨⟨ti.zv,[],rfl,hz,rfl⟩,fun u hu=>by simp_all⟩
   | agg cs =>
    rw[hu] at hz h1
    obtain⟨arr,he,hcs⟩:=hz
    rw[he]
    refine⟨hcs,?_⟩
    simp only[Bool.or_eq_true] at h1
    rcases h1 with h1 | h1
    ·exact k7 h1 hcs
    ·rw[he] at h1
     exact fun u hu=>List.all_eq_true.1 h1 u hu
  refine Step.of_run (u:=.pointer (some ⟨w.heap.size,0,none⟩)) (w':=w.alloc (.cells ti.zv.cells t)) ?_ (by rw[hdst]; exact newBox_step hs hd hd' hc.1 hc.2) h2 hn
  simp[execOp,hop,Instr.alloc,T.run_zero,newVar,oN]
 ·exact h.elim
theorem box_sound {d:Nat} {t:TypeId} {x:Operand} (hop:o.op=.box t x) (hdst:o.dst=some d) (hd:d < cx.n) (hd':d < inBase) (h:fF tb Z O o K):Step P cx o Z O K:=by
 intro φ a w hs next Q hn
 unfold fF at h
 simp only[hop,hdst] at h
 unfold oH at h
 split at h
 ·rename_i cs hcs
  have hc:=eL (φ:=φ) (w:=w) (F:=cx.fr φ O) hcs (cj hs.core.gw hs.slots x)
  refine Step.of_run (u:=.pointer (some ⟨w.heap.size,0,none⟩)) (w':=w.alloc (.cells (a.eval x).cells t)) ?_ (by rw[hdst]; exact newBox_step hs hd hd' hc (k7 h.1 hc)) h.2 hn
  simp[execOp,hop,Instr.box,newVar,oN]
 ·exact h.elim
theorem run_storeVar {P:Program} {w:World} {t:TypeId} {ti:TI} (T:TabFact P t ti) {b off:Nat} {cur:Array Value} {e:TypeId} (hh:w.heap[b]?=some (.cells cur e (0,0))) {v:Value} (hsz:v.cells.size=ti.size)
  (hroom:off+ti.size<=cur.size) (h1:∀ u∈v.cells.toList,u.oneCell'=true) :
  (Instr.storeAt t (.pointer (some ⟨b,off,none⟩)) v).run P w=.ok () (w.setRow b (cur.toList.take off++v.cells.toList++cur.toList.drop (off+ti.size)).toArray):=by
 have hst:=run_storeCells_at P b off e v.cells.toList 0 cur w hh (by simp; omega) h1
 simp only[Nat.add_zero] at hst
 unfold Instr.storeAt storeVar
 simp only[Instr.sureAddr,Sem.run_bind,Sem.run_pure,Result.andThen_ok,T.run_size,hsz,ne_eq,not_true_eq_false,if_false]
 grind
theorem store_sound (ht:TbOk P tb) {t:TypeId} {x y:Operand} (hop:o.op=.store t x y) (hdst:o.dst=none) (h:fF tb Z O o K):Step P cx o Z O K:=by
 intro φ a w hs next Q hn
 unfold fF at h
 simp only[hop,hdst] at h
 unfold ou at h
 have hx:=cj hs.core.gw hs.slots x
 have hy:=cj hs.core.gw hs.slots y
 have go:∀ (b off:Nat) (cur:Array Value) (e:TypeId) (ti:TI) (s:Nat) (ob ob':Ob),tb.ty t=some ti->a.eval x=.pointer (some ⟨b,off,none⟩)->w.heap[b]?=some (.cells cur e (0,0))->(a.eval y).cells.size=ti.size->off+ti.size<=cur.size ->
   (∀ u∈(a.eval y).cells.toList,u.oneCell'=true)->O s=some ob->(∀ kk es,ob≠.map kk es)->(∀ m l la,ob'≠.iter m l la)->hbl (φ s) b ->
   (Keep (cx.fr φ O) (cx.fr φ (upd O s (some ob'))) w (w.setRow b (cur.toList.take off++(a.eval y).cells.toList++cur.toList.drop (off+ti.size)).toArray) ->
    gm φ (w.setRow b (cur.toList.take off++(a.eval y).cells.toList++cur.toList.drop (off+ti.size)).toArray) (cx.fr φ (upd O s (some ob'))) s ob') ->
   K Z (upd O s (some ob'))->o.wp P a w next Q:=by
  intro b off cur e ti s ob ob' hty hxe hh hsz hroom h1 hs' hnm hni hbk hob hk
  have T:=ht.ty t ti hty
  have hrun:=run_storeVar T hh hsz hroom h1
  have key:=hs.core.mutate (s:=s) (ob':=ob') (w':=w.setRow b (cur.toList.take off++(a.eval y).cells.toList++cur.toList.drop (off+ti.size)).toArray) hs' (σ1:=O) (fun _ _ _ h=>h)
   (fun t m l la _ h e=>by
    subst e
    obtain⟨kk,es,hm⟩:=hs.core.itm t m l la h
    grind) (fun _ _ _ h _=>h) (fun m l la h=>absurd h (hni m l la)) rfl rfl rfl (Nat.le_refl _) (by simp)
   (fun b' _ hne=>setRow_other w b b' _ (fun e=>hne (e ▸ hbk))) hob
  have hs2:Sim cx φ Z (upd O s (some ob')) (a.put o.dst undef) (w.setRow b (cur.toList.take off++(a.eval y).cells.toList++cur.toList.drop (off+ti.size)).toArray):=by
   rw[hdst]
   exact⟨key.1,fun t=>cV key.2 _ _ (hs.slots t),hs.defers,hs.room⟩
  unfold Oper.wp
  have he:(execOp a.eval o).run P w=.ok .skip (w.setRow b (cur.toList.take off++(a.eval y).cells.toList++cur.toList.drop (off+ti.size)).toArray):=by
   simp[execOp,hop,hxe,hrun]
  rw[he]
  exact hn _ _ _ _ _ hs2 hk
 split at h
 ·rename_i ti s off xs hty hxv hyv
  split at h
  ·rename_i cs hs'
   obtain⟨h1,h2,h3,h4⟩:=h
   rw[hxv] at hx
   obtain⟨b,arr,t',hp,hh,hc,hone⟩:=hs.core.objs s _ hs'
   obtain⟨b',hb',hxe⟩:=hx
   rw[hp] at hb'
   simp only[Value.pointer.injEq,Option.some.injEq,Addr.mk.injEq] at hb'
   obtain⟨rfl,_,_⟩:=hb'
   have hcy:=eL hyv hy
   have hl1:=bT hcy
   have hl2:=bT hc
   simp only[Array.length_toList] at hl1 hl2
   have h1c:=k7 h3 hcy
   refine go b off arr t' ti s _ (.box (cs.take off++xs++cs.drop (off+ti.size))) hty hxe hh (by omega) (by omega) h1c hs' (fun _ _ h=>by cases h) (fun _ _ _ h=>by cases h) (by rw[hp]; simp) (fun hk=>?_) h4
   refine⟨b,_,t',hp,setRow_heap w b arr _ t' (0,0) hh,?_,?_⟩
   ·grind [cG,eu,bO,fX]
   grind
  ·exact h.elim
 ·rename_i ti s i sz off xs hty hxv hyv
  split at h
  ·rename_i sz' e rows ys hs' hys
   split at h
   ·rename_i r hr
    obtain⟨rfl,h1,h2,h4⟩:=h
    rw[hxv] at hx
    obtain⟨b',n',c',hb',hxe⟩:=hx
    obtain⟨hrl,ho⟩:=hs.core.objs s _ hs'
    rcases ho with ⟨h0,_⟩ | ⟨b,cap,cur,h0,hp,hl,hm',hh,hcs,hc⟩
    ·grind
    ·rw[hp] at hb'
     simp at hb'
     obtain⟨rfl,_,_⟩:=hb'
     have hcy:=eL hyv hy
     rw[nQ hys] at hcy
     have hl1:=bT hcy
     simp only[List.length_map,Array.length_toList] at hl1
     have hil:i < rows.length:=(List.getElem?_eq_some_iff.1 hr).1
     have hri:=hrl r (List.mem_of_getElem? hr)
     have hle:i*sz+sz<=rows.length*sz:=by
      have:=Nat.mul_le_mul_right sz (show i+1<=rows.length from hil)
      grind
     have hle2:rows.length*sz<=cap*sz:=Nat.mul_le_mul_right sz hl
     have h1c:=fK hcy
     have hnew:(r.take off++ys++r.drop (off+ti.size)).length=sz:=by simp; omega
     refine go b (i*sz+off) cur e ti s _ (.row sz e (rows.set i (r.take off++ys++r.drop (off+ti.size)))) hty hxe hh (by omega) (by omega) h1c hs' (fun _ _ h=>by cases h) (fun _ _ _ h=>by cases h) (by rw[hp]; simp only[hbl_slice]; grind) (fun hk=>?_) h4
     refine⟨fun q hq=>?_,.inr ⟨b,cap,_,h0,by simp_all,by simp_all,hm',setRow_heap w b cur _ e (0,0) hh,?_,?_⟩⟩
     ·grind
     ·simp; omega
     ·rw[List.length_set,flatten_set hrl hil]
      have hfl:=df hrl
      have hck:=bO hk _ _ hc
      have hcy':=bO hk _ _ hcy
      have e1:rows.flatten.take (i*sz)++(r.take off++ys++r.drop (off+ti.size))++rows.flatten.drop (i*sz+sz) =
        rows.flatten.take (i*sz+off)++ys++rows.flatten.drop (i*sz+off+ti.size):=by
       have hrow:=flatten_row hrl hr
       have d1:rows.flatten.take (i*sz+off)=rows.flatten.take (i*sz)++r.take off:=by
        rw[List.take_add,<- hrow,List.take_take,Nat.min_eq_left (by omega)]
       have d2:rows.flatten.drop (i*sz+off+ti.size)=r.drop (off+ti.size)++rows.flatten.drop (i*sz+sz):=by
        rw[Nat.add_assoc,<- List.drop_drop]
        grind [List.take_append_drop,List.drop_drop]
       rw[d1,d2]
       simp
      rw[e1]
      have e2:(cur.toList.take (i*sz+off)++(a.eval y).cells.toList++cur.toList.drop (i*sz+off+ti.size)).take (rows.length*sz) =
        (cur.toList.take (rows.length*sz)).take (i*sz+off)++(a.eval y).cells.toList++(cur.toList.take (rows.length*sz)).drop (i*sz+off+ti.size):=by
       rw[List.take_append,List.take_append,List.take_take,List.take_take,List.drop_take]
       have q1:(cur.toList.take (i*sz+off)).length=i*sz+off:=by simp; omega
       have q2:(cur.toList.take (i*sz+off)++(a.eval y).cells.toList).length=i*sz+off+ti.size:=by simp_all
       rw[q1,q2,Nat.min_eq_right (by omega),Nat.min_eq_left (by omega),List.take_of_length_le (l:=(a.eval y).cells.toList) (by grind)]
      grind [List.map_take,List.map_drop,cG,eu,fX]
   ·exact h.elim
  ·rename_i e ie sz' els hs'
   split at h
   ·rename_i t'
    obtain⟨rfl,rfl,h2,h3,h4⟩:=h
    obtain⟨ψ,out,ivs,cs,hv,hp,hsp,hiv,hco,hvs,hns⟩:=hs.core.deaden hs' h3
    rw[hxv] at hx
    simp only[bn,bD,bl] at hx
    obtain⟨b,n,c,hb',hxe⟩:=hx
    rw[Nat.mul_one,Nat.add_zero] at hxe
    rw[<- (hv s).hd,hp,dz] at hb'
    subst hb'
    rcases hsp with ⟨h0,_⟩ | ⟨b',cap,cur,h0,ho,hl,hm,hh,hz,rfl⟩
    ·omega
    simp only[Value.slice.injEq,Option.some.injEq,Addr.mk.injEq] at ho
    obtain⟨⟨rfl,_,_⟩,rfl,rfl⟩:=ho
    have T:=ht.ty t ti hty
    have hcy:=eL hyv (hvs _ _ hy)
    have hcy0:=eL hyv hy
    have hy1:∃ u,(a.eval y).cells.toList=[u]/\u=hdv (ψ t')/\u.oneCell'=true:=by
     simp only[bh,bl] at hcy
     obtain⟨u,q,he,⟨h5,h6⟩,rfl⟩:=hcy
     exact⟨u,he,h5,h6⟩
    obtain⟨u,he,hu1,hu2⟩:=hy1
    have hsz:(a.eval y).cells.size=ti.size:=by rw[h2,<- Array.length_toList,he]; rfl
    have hrun:=run_storeVar T (off:=i) hh hsz (by omega) (by rw[he]; simpa using hu2)
    rw[he,h2] at hrun
    have key:=hco.mutate (s:=s) (ob:=.nest (.row e) ie sz' (els.set i .dead)) (ob':=.nest (.row e) ie sz' (els.set i (.own t'))) (w':=w.setRow b (cur.toList.take (i)++[u]++cur.toList.drop (i+1)).toArray) (upd_same _ _ _) (σ1:=O) (fun t o ht ho=>by rw[bc _ _ ht]; exact ho)
     (fun t m l la _ h e=>by
      subst e
      obtain⟨kk,es,hm⟩:=hs.core.itm t m l la h
      rw[hs'] at hm
      cases hm) (fun m kk es hm hms=>by rwa [bc _ _ hms] at hm) (fun m l la h=>by cases h) rfl rfl rfl (Nat.le_refl _) (by simp)
     (fun b' _ hne=>setRow_other w b b' _ (fun e=>hne (by rw[hp,hZ]; exact .inl (by simp[ea,e]; omega)))) (fun hk=>by
      have hnd:(blks (ψ s)).Nodup:=by
       obtain⟨_,_,_,_,hnd,_⟩:=hco.objs s _ (upd_same _ _ _)
       exact hnd
      have hnd':=hnd
      rw[hp,dX,List.filterMap_cons,show ea (Value.slice (some ⟨b,0,none⟩) els.length c)=some b from by simp[ea]; omega,List.nodup_cons] at hnd'
      have h5:=ky (i:=i) (x:=.own t') (c:=u) (iv:=undef) (fS hk (fun iv hv' b' hb'=>setRow_other w b b' _ (fun e=>hnd'.1 (by rw[<- e]; exact List.mem_filterMap.2 ⟨iv,hv',hb'⟩))) hns) ⟨hu1,hu2,rfl⟩
      rw[List.set_set,eG hiv] at h5
      have hlen:i < cur.toList.length:=by simp; omega
      have hcur:cur.toList.take (i)++[u]++cur.toList.drop (i+1)=cur.toList.set i u:=by
       rw[List.set_eq_take_append_cons_drop,if_pos hlen]
       simp
      refine⟨_,ivs,_,hp,hnd,.inr ⟨b,c,_,h0,by rw[List.length_set],by rw[List.length_set]; exact hl,hm,setRow_heap w b cur _ e (0,0) hh,by rw[hcur]; simp[hz],by rw[List.length_set]⟩,?_⟩
      rw[hcur] at h5 ⊢
      rw[<- List.take_set] at h5
      exact h5)
    have hs2:Sim cx ψ Z (upd O s (some (.nest (.row e) ie sz' (els.set i (.own t'))))) (a.put o.dst undef) (w.setRow b (cur.toList.take (i)++[u]++cur.toList.drop (i+1)).toArray):=by
     rw[hdst]
     exact⟨key.1,fun t=>cV key.2 _ _ (hvs _ _ (hs.slots t)),hs.defers,hs.room⟩
    unfold Oper.wp
    have hex:(execOp a.eval o).run P w=.ok .skip (w.setRow b (cur.toList.take (i)++[u]++cur.toList.drop (i+1)).toArray):=by
     simp[execOp,hop,hxe,hrun]
    rw[hex]
    exact hn _ _ _ _ _ hs2 h4
   ·exact h.elim
  ·exact h.elim
 ·exact h.elim
theorem equalIn_none' {w:World} (d:Nat) {t e:TypeId} (h:P.underlying t=some (.slice e)) (n c:Nat):(Op.equalIn (d+1) t (.slice none n c) (.slice none 0 0)).run P w=.ok true w:=by
 simp[Op.equalIn,run_underlying h]
theorem eqNil_sound (ht:TbOk P tb) {d:Nat} {op:BinOp} {t yt:TypeId} {x y:Operand} (hop:o.op=.binOp op t x y yt) (hdst:o.dst=some d) (hd:d < cx.n) (h:aEqNil tb Z O d op t (oev Z x) (oev Z y) K):Step P cx o Z O K:=by
 intro φ a w hs next Q hn
 unfold aEqNil at h
 split at h
 ·rename_i ti sz hty hx hy
  have T:=ht.ty t ti hty
  split at h
  ·rename_i e hde
   have hxs:=cj hs.core.gw hs.slots x
   have hys:=cj hs.core.gw hs.slots y
   rw[hx] at hxs
   rw[hy] at hys
   simp only[bn,bD,bl,rep] at hxs hys
   obtain⟨ao,n,c,hu,hn0,_⟩:=hxs
   have hg:∀ u:Value,(eqGuard .eql t x y (.slice ao n c) u).run P w=.ok () w:=fun u=>by simp[eqGuard]
   have hput:∀ b:Bool,Sim cx φ (upd Z d (.u (.one (.d (.bool b))))) O (a.put (some d) (.bool b)) w:=fun b =>
    ⟨hs.core,m0 hs.slots (by rfl) (Nat.lt_of_lt_of_le hd hs.room),hs.defers,by simpa [Act.put] using hs.room⟩
   cases ao with
   | none =>
    have he:(Op.equal t (.slice none n c) (.slice none 0 0)).run P w=.ok true w:=by
     unfold Op.equal Op.maxDepth
     exact equalIn_none' 9999 (T.und.trans (by rw[hde])) n c
    refine Step.of_run (u:=.bool true) (w':=w) ?_ (by rw[hdst]; exact hput true) h.1 hn
    simp only[execOp,hop,hu,hys,Sem.run_bind,hg,Result.andThen_ok,binOp,he]
    rfl
   | some ad =>
    have he:(Op.equal t (.slice (some ad) n c) (.slice none 0 0)).run P w=.ok false w:=by
     unfold Op.equal Op.maxDepth
     exact equalIn_some 9999 (T.und.trans (by rw[hde])) ad n c
    refine Step.of_run (u:=.bool false) (w':=w) ?_ (by rw[hdst]; exact hput false) h.2 hn
    simp only[execOp,hop,hu,hys,Sem.run_bind,hg,Result.andThen_ok,binOp,he]
    rfl
  ·exact h.elim
 ·exact h.elim
end
end Go.AM
namespace Go.AM
open Go.RowKit
section
variable {P:Program} {tb:Tb} {cx:Cx} {Z:Env} {O:Sto} {o:Oper} {K:Env->Sto->Prop}
theorem fg {φ ψ:Nat->Value} {w:World} {F:Nat->Prop}:∀ {xs:List L} {vs:List Value},bh φ w F (xs.map C.d) vs->bh ψ w F (xs.map C.d) vs
 | [],_,h=>h
 | x::xs,vs,h=>by
  simp only[List.map_cons,bh] at h ⊢
  obtain⟨v,r,rfl,hc,h⟩:=h
  exact⟨v,r,rfl,by simpa [bl] using hc,fg h⟩
def gX (w:World) (e:TypeId) (sz:Nat) (u:Value) (n:Nat) (xs:List Value):Prop :=
 (n=0/\xs=[]/\∃ a,u=.slice a 0 0) \/
 ∃ b cap cur,0 < cap/\u=.slice (some ⟨b,0,none⟩) n cap/\n<=cap/\cap<=maxLen/\w.heap[b]?=some (.cells cur e (0,0))/\cur.size=cap*sz/\cur.toList.take (n*sz)=xs
theorem run_app {w:World} {t ty e:TypeId} {te:TI} (hT:P.underlying t=some (.slice e)) (TE:TabFact P e te) (hsz:0 < te.size) (hby:0 < te.bytes) {u:Value} {n:Nat} {xs:List Value} (hu:gX w e te.size u n xs) (hxl:xs.length=n*te.size)
  {A:Option Addr} {m c:Nat} {ns:List Value} (hl:ns.length=m*te.size) (hA:0 < m->∃ ad,A=some ad/\∀ (j:Nat) (v:Value),ns[j]?=some v->w.cell? (ad.add j)=some v) (h1:∀ v∈ns,v.oneCell'=true)
  (hb:(n+m)*te.bytes<=140737488355328) :
  ∃ v' w',(Builtin.append_ #[t,t] ty #[u,.slice A m c]).run P w=.ok v' w'/\w'.os=w.os/\w'.tape=w.tape/\w'.output=w.output/\w.heap.size<=w'.heap.size/\(∀ b,b < w.heap.size->¬ hbl u b->w'.heap[b]?=w.heap[b]?) /\
   (∀ b,hbl v' b->(w.heap.size<=b \/ hbl u b)/\b < w'.heap.size)/\gX w' e te.size v' (n+m) (xs++ns):=by
 obtain⟨i,hi,hi1,hi2,hi3⟩:=TE.get
 have hnm:n+m<=(n+m)*te.bytes:=Nat.le_mul_of_pos_right _ hby
 have h63:n+m<=maxLen:=by simp only[maxLen]; omega
 rcases Nat.eq_zero_or_pos m with hm | hm
 ·subst hm
  have hns:ns=[]:=List.eq_nil_of_length_eq_zero (by simpa using hl)
  subst hns
  refine⟨u,w,?_,rfl,rfl,rfl,Nat.le_refl _,fun _ _ _=>rfl,fun b hbk=>⟨.inr hbk,?_⟩,by simpa using hu⟩
  ·have hlc:∀ ad:Addr,(loadCells ad 0).run P w=.ok #[] w:=fun ad=>by rfl
   rcases hu with ⟨rfl,rfl,a,rfl⟩ | ⟨b,cap,cur,_,rfl,hnc,_⟩
   ·cases a<;>cases A<;>simp[Builtin.append_,run_underlying hT,sizeOf,typeInfo,hi,Builtin.lenOf,Builtin.firstCells,hlc,storeCells]
   ·cases A<;>simp[Builtin.append_,run_underlying hT,sizeOf,typeInfo,hi,Builtin.lenOf,Builtin.firstCells,hlc,storeCells,hnc]
  ·rcases hu with ⟨rfl,rfl,a,rfl⟩ | ⟨b',cap,cur,h0,rfl,hnc,_,hh,_⟩
   ·simp at hbk
   ·simp only[hbl_slice] at hbk
    grind
 ·obtain⟨ad,rfl,hcells⟩:=hA hm
  have key:∀ v w'',w.heap.size<=w''.heap.size->w''.ownsRow 0 e te.size v (n+m) (xs++ns)->gX w'' e te.size v (n+m) (xs++ns):=by
   intro v w'' _ ho
   rcases ho.2 with ⟨_,h0⟩ | ⟨g,cap,cur,rfl,_,hh,hc1,hc2,hc3,hc4⟩
   ·omega
   ·exact .inr ⟨g,cap,cur,by omega,rfl,hc1,hc2,hh,hc3,hc4⟩
  rcases hu with ⟨rfl,rfl,a,rfl⟩ | ⟨b,cap,cur,h0,rfl,hnc,hcm,hh,hcs,htk⟩
  ·have fin:∀ v' w'',w''.ownsRow 0 e te.size v' (0+m) ([]++ns)->w.grownBy w'' none->(v'.ownBlock=none \/ v'.ownBlock=some w.heap.size)->(Builtin.append_ #[t,t] ty #[.slice a 0 0,.slice (some ad) m c]).run P w=.ok v' w'' ->
     ∃ v' w',(Builtin.append_ #[t,t] ty #[.slice a 0 0,.slice (some ad) m c]).run P w=.ok v' w'/\w'.os=w.os/\w'.tape=w.tape/\w'.output=w.output/\w.heap.size<=w'.heap.size/\(∀ b,b < w.heap.size->¬ hbl (.slice a 0 0) b->w'.heap[b]?=w.heap[b]?) /\
      (∀ b,hbl v' b->(w.heap.size<=b \/ hbl (.slice a 0 0) b)/\b < w'.heap.size)/\gX w' e te.size v' (0+m) ([]++ns):=by
    intro v' w'' ho hg hbk hrun
    refine⟨v',w'',hrun,hg.os,hg.tape,hg.output,hg.size,fun b hb' _=>hg.block b hb' (by simp),fun b hb'=>?_,key v' w'' hg.size ho⟩
    rcases key v' w'' hg.size ho with ⟨h0,_⟩ | ⟨g,cap,cur,h0,rfl,_,_,hh,_⟩
    ·omega
    ·obtain⟨_,rfl⟩:=(hbl_slice _ _ _ _).1 hb'
     simp[Value.ownBlock] at hbk
     grind
   cases a with
   | none =>
    obtain⟨v',w'',hrun,ho,hg,_,hbk⟩:=run_append_own_at (P:=P) w 0 t ty e i te.zv te.size te.bytes hT hi hi3 hi1 hi2 TE.zsize hsz (.slice none 0 0) 0 [] (World.ownsRow_nil w 0 e te.size) ad m c ns hl hcells h1 h63 hb (Nat.zero_le _)
    exact fin v' w'' ho (by simpa [Value.ownBlock] using hg) (by simpa [Value.ownBlock] using hbk) hrun
   | some a0 =>
    have hrun:=run_append_grow (P:=P) w t ty e i te.zv hT hi hi3 a0 0 0 [] (by simp) (fun j v hj=>by simp at hj) ad m c ns (by rw[hi1]; exact hl) hcells (by omega) (by omega) (growslice_fits (by omega) (by rw[hi2]; exact hb))
    have hge:=grownCap_ge w (0+m) 0 e
    have hcm:=grownCap_le_maxLen w (0+m) 0 e h63
    refine fin _ _ ?_ ?_ ?_ hrun
    rotate_left
    ·exact⟨rfl,rfl,rfl,by simp,fun k hk _=>Below.heap_alloc w.drew _ k hk⟩
    ·simp[Value.ownBlock]
    refine⟨by simpa using hl,.inr ⟨w.heap.size,_,_,rfl,Nat.zero_le _,heap_alloc_new w.drew _,hge,hcm,?_,?_⟩⟩
    ·simp only[Array.size_append,List.size_toArray,size_zeroCells,TE.zsize,List.length_nil,Nat.zero_add,hl,<- Nat.add_mul]
     simp_all
    simp_all
  ·obtain⟨v',w'',hrun,ho,hg,_,hbk⟩:=run_append_own_at (P:=P) w 0 t ty e i te.zv te.size te.bytes hT hi hi3 hi1 hi2 TE.zsize hsz (.slice (some ⟨b,0,none⟩) n cap) n xs
    ⟨hxl,.inr ⟨b,cap,cur,rfl,Nat.zero_le _,hh,hnc,hcm,hcs,htk⟩⟩ ad m c ns hl hcells h1 h63 hb (Nat.zero_le _)
   refine⟨v',w'',hrun,hg.os,hg.tape,hg.output,hg.size,fun b' hb' hne=>hg.block b' hb' (fun e=>hne ?_),fun b' hb'=>?_,key v' w'' hg.size ho⟩
   ·refine (hbl_slice _ _ _ _).2 ⟨by omega,?_⟩
    first | simpa [Value.ownBlock] using e.symm | simpa [Value.ownBlock] using e
   ·rcases key v' w'' hg.size ho with ⟨h0,_⟩ | ⟨g,cap',cur',h0',rfl,_,_,hh',_⟩
    ·omega
    ·obtain⟨_,rfl⟩:=(hbl_slice _ _ _ _).1 hb'
     refine⟨?_,(Array.getElem?_eq_some_iff.1 hh').1⟩
     simp only[Value.ownBlock,Option.some.injEq] at hbk
     rcases hbk with hbk | hbk
     ·exact .inr (by simp only[hbl_slice]; grind)
     omega
theorem mem_of_rows {φ:Nat->Value} {w:World} {F:Nat->Prop} {sz:Nat}:∀ {rs:List (List L)} {b o:Nat},bR w F sz rs b o->Mem φ w F (rs.flatten.map C.d) b o
 | [],b,o,_=>⟨[],by simp[bh],fun j u hj=>by simp at hj⟩
 | r::rs,b,o,h=>by
  simp only[bR] at h
  obtain⟨us,h1,h2⟩:=oz (φ:=φ) h.1.2
  obtain⟨vs,h3,h4⟩:=mem_of_rows (φ:=φ) h.2
  have hl:us.length=sz:=by rw[<- bT h1,List.length_map]; exact h.1.1
  refine⟨us++vs,by rw[List.flatten_cons,List.map_append]; exact cG h1 h3,fun j u hj=>?_⟩
  rcases Nat.lt_or_ge j us.length with hj' | hj'
  ·rw[List.getElem?_append_left hj'] at hj
   exact h2 j u hj
  ·rw[List.getElem?_append_right hj'] at hj
   have:=h4 _ u hj
   rwa [hl,show o+sz+(j - sz)=o+j by omega] at this
theorem run_appX {w:World} {t ty e:TypeId} {te:TI} (hT:P.underlying t=some (.slice e)) (TE:TabFact P e te) (hsz:0 < te.size) (hby:0 < te.bytes) {ao:Option Addr} {n:Nat} {xs:List Value} (hxl:xs.length=n*te.size)
  (hx:0 < n->∃ ad,ao=some ad/\∀ (j:Nat) (v:Value),xs[j]?=some v->w.cell? (ad.add j)=some v)
  {A:Option Addr} {m c:Nat} {ns:List Value} (hl:ns.length=m*te.size) (hA:0 < m->∃ ad,A=some ad/\∀ (j:Nat) (v:Value),ns[j]?=some v->w.cell? (ad.add j)=some v) (hx1:∀ v∈xs,v.oneCell'=true) (h1:∀ v∈ns,v.oneCell'=true) (hm:0 < m)
  (hb:(n+m)*te.bytes<=140737488355328) :
  ∃ v' w',(Builtin.append_ #[t,t] ty #[.slice ao n n,.slice A m c]).run P w=.ok v' w'/\w'.os=w.os/\w'.tape=w.tape/\w'.output=w.output/\w.heap.size<=w'.heap.size/\(∀ b,b < w.heap.size->w'.heap[b]?=w.heap[b]?) /\
   (∀ b,hbl v' b->w.heap.size<=b/\b < w'.heap.size)/\gX w' e te.size v' (n+m) (xs++ns):=by
 rcases Nat.eq_zero_or_pos n with h0 | h0
 ·subst h0
  have hxs:xs=[]:=List.eq_nil_of_length_eq_zero (by simpa using hxl)
  subst hxs
  obtain⟨v',w',a1,a2,a3,a4,a5,a6,a7,a8⟩:=run_app (P:=P) (ty:=ty) (c:=c) hT TE hsz hby (u:=.slice ao 0 0) (n:=0) (xs:=[]) (.inl ⟨rfl,rfl,ao,rfl⟩) (by simp) hl hA h1 hb
  exact⟨v',w',a1,a2,a3,a4,a5,fun b hb=>a6 b hb (by simp),fun b hb=>by have:=a7 b hb; simp at this; exact this,a8⟩
 ·obtain⟨ad0,rfl,hc0⟩:=hx h0
  obtain⟨ad,rfl,hcells⟩:=hA hm
  obtain⟨i,hi,hi1,hi2,hi3⟩:=TE.get
  have hnm:n+m<=(n+m)*te.bytes:=Nat.le_mul_of_pos_right _ hby
  have h63:n+m<=maxLen:=by simp only[maxLen]; omega
  have hrun:=run_append_grow (P:=P) w t ty e i te.zv hT hi hi3 ad0 n n xs (by rw[hi1]; exact hxl) hc0 ad m c ns (by rw[hi1]; exact hl) hcells (by omega) (by omega) (growslice_fits (by omega) (by rw[hi2]; exact hb))
  have hge:=grownCap_ge w (n+m) n e
  have hcm:=grownCap_le_maxLen w (n+m) n e h63
  refine⟨_,_,hrun,rfl,rfl,rfl,by simp,fun k hk=>Below.heap_alloc w.drew _ k hk,fun b hb=>?_,.inr ⟨w.heap.size,_,_,by omega,rfl,hge,hcm,heap_alloc_new w.drew _,?_,?_⟩⟩
  ·obtain⟨_,rfl⟩:=(hbl_slice _ _ _ _).1 hb
   simp
  ·simp only[Array.size_append,List.size_toArray,size_zeroCells,TE.zsize,hl,hxl,<- Nat.add_mul]
   rw[Nat.add_sub_cancel' hge]
  ·have hlen:(xs++ns).length=(n+m)*te.size:=by rw[List.length_append,hxl,hl,Nat.add_mul]
   refine (congrArg _ ?_).trans (List.take_left' (l₂:=(Builtin.zeroCells te.zv.cells (grownCap w (n+m) n e - (n+m))).toList) hlen)
   simp
theorem flat_take {sz:Nat}:∀ {rs:List (List L)} (a:Nat),(∀ r∈rs,r.length=sz)->(rs.take a).flatten=rs.flatten.take (a*sz)
 | [],a,_=>by simp
 | r::rs,0,_=>by simp
 | r::rs,a+1,h=>by
  have hr:=h r (by simp)
  rw[List.take_succ_cons,List.flatten_cons,List.flatten_cons,flat_take a fun x hx=>h x (List.mem_cons_of_mem _ hx),Nat.add_mul,Nat.one_mul,Nat.add_comm,<- hr,List.take_length_add_append]
theorem flat_drop {sz:Nat}:∀ {rs:List (List L)} (a:Nat),(∀ r∈rs,r.length=sz)->(rs.drop a).flatten=rs.flatten.drop (a*sz)
 | [],a,_=>by simp
 | r::rs,0,_=>by simp
 | r::rs,a+1,h=>by
  have hr:=h r (by simp)
  rw[List.drop_succ_cons,List.flatten_cons,flat_drop a fun x hx=>h x (List.mem_cons_of_mem _ hx),Nat.add_mul,Nat.one_mul,Nat.add_comm,<- hr,List.drop_length_add_append]
theorem sub_mem {φ:Nat->Value} {w:World} {F:Nat->Prop} {sz b:Nat} {e:TypeId} {cur:Array Value} {rows:List (List L)} (hl:∀ r∈rows,r.length=sz) (hh:w.heap[b]?=some (.cells cur e (0,0)))
  (hc:bh φ w F (rows.flatten.map C.d) (cur.toList.take (rows.length*sz))) (a n:Nat) (hn:n<=rows.length) :
  bh φ w F (((rows.take n).drop a).flatten.map C.d) ((cur.toList.take (n*sz)).drop (a*sz))/\∀ (j:Nat) (v:Value),((cur.toList.take (n*sz)).drop (a*sz))[j]?=some v->w.cell? ⟨b,a*sz+j,none⟩=some v:=by
 have hl':∀ r∈rows.take n,r.length=sz:=fun r hr=>hl r (List.mem_of_mem_take hr)
 constructor
 ·rw[flat_drop a hl',flat_take n hl,List.map_drop,List.map_take]
  have h1:=eu (n*sz) hc
  rw[List.take_take,Nat.min_eq_left (Nat.mul_le_mul_right _ hn)] at h1
  exact fX (a*sz) h1
 ·intro j v hj
  rw[List.getElem?_drop,List.getElem?_take] at hj
  split at hj
  ·rw[cell_of_row w b _ cur e (0,0) hh]
   simpa using hj
  ·cases hj
theorem run_appIn {P:Program} {w:World} {t ty e:TypeId} {te:TI} (hT:P.underlying t=some (.slice e)) (TE:TabFact P e te) {b n cap:Nat} {cur:Array Value} (hh:w.heap[b]?=some (.cells cur e (0,0)))
  {A:Option Addr} {m c:Nat} {ns:List Value} (hl:ns.length=m*te.size) (hA:0 < m->∃ ad,A=some ad/\∀ (j:Nat) (v:Value),ns[j]?=some v->w.cell? (ad.add j)=some v) (h1:∀ v∈ns,v.oneCell'=true) (hm:0 < m)
  (hroom:n+m<=cap) (hsz:(n+m)*te.size<=cur.size) :
  (Builtin.append_ #[t,t] ty #[.slice (some ⟨b,0,none⟩) n cap,.slice A m c]).run P w=.ok (.slice (some ⟨b,0,none⟩) (n+m) cap) (w.setRow b (cur.toList.take (n*te.size)++ns++cur.toList.drop ((n+m)*te.size)).toArray):=by
 obtain⟨i,hi,hi1,hi2,hi3⟩:=TE.get
 obtain⟨ad,rfl,hcells⟩:=hA hm
 rw[Nat.add_mul] at hsz ⊢
 have hfc:=run_firstCells_some (P:=P) w te.size m ad m c ns hl hcells
 have hst:=run_storeCells_at P b (n*te.size) e ns 0 cur w hh (by omega) h1
 simp only[Nat.add_zero] at hst
 rw[hl] at hst
 simp[Builtin.append_,run_underlying hT,sizeOf,typeInfo,hi,Builtin.lenOf,hroom,hfc,addr_add,hi1,hst]
theorem oL {φ:Nat->Value} {w:World} (hco:Core cx φ O w) {sz:Nat} {y:V} {q:Value} {news:List (List L)} (h:nF O sz y=some news) (hy:bn φ w (cx.fr φ O) y q) :
  (∀ r∈news,r.length=sz)/\∃ A c ns,q=.slice A news.length c/\bh φ w (cx.fr φ O) (news.flatten.map C.d) ns/\(0 < news.length->∃ ad,A=some ad/\∀ (j:Nat) (v:Value),ns[j]?=some v->w.cell? (ad.add j)=some v):=by
 unfold nF at h
 split at h
 ·cases h
  simp only[bn,bD,bl,rep] at hy
  subst hy
  exact⟨by simp,none,0,[],rfl,by simp[bh],by simp⟩
 ·cases h
  simp only[bn,bD,bl,rep] at hy
  obtain⟨a,rfl⟩:=hy
  exact⟨by simp,a,0,[],rfl,by simp[bh],by simp⟩
 ·split at h
  ·rename_i hz
   cases h
   simp only[bn,bD,bl,rep] at hy
   obtain⟨ao,n,c,rfl,rfl,_,_,hr⟩:=hy
   rcases hr with rfl | ⟨b,o,rfl,hF,hl,hr⟩
   ·exact⟨by simp,ao,c,[],rfl,by simp[bh],by simp⟩
   ·have hall:∀ (rs:List (List L)) (o:Nat),bR w (cx.fr φ O) sz rs b o->(∀ r∈rs,r.length=sz)/\∃ ns,bh φ w (cx.fr φ O) (rs.flatten.map C.d) ns/\∀ (j:Nat) (v:Value),ns[j]?=some v->w.cell? ⟨b,o+j,none⟩=some v:=by
     intro rs
     induction rs with
     | nil=>simp[bh]
     | cons r rs ih =>
      intro o hrs
      simp only[bR] at hrs
      obtain⟨ih1,ns,ih2,ih3⟩:=ih (o+sz) hrs.2
      obtain⟨us,h1,h2⟩:=oz (φ:=φ) hrs.1.2
      have hul:=bT h1
      simp only[List.length_map] at hul
      refine⟨by simp_all,us++ns,by rw[List.flatten_cons,List.map_append]; exact cG h1 ih2,fun j v hj=>?_⟩
      grind
    subst hz
    obtain⟨h1,ns,h2,h3⟩:=hall news o hr
    exact⟨h1,_,c,ns,rfl,h2,fun _=>⟨_,rfl,fun j v hj=>by grind [addr_add]⟩⟩
  ·cases h
 ·rename_i s
  split at h
  ·rename_i sz' e' rows hs
   split at h
   ·rename_i hz
    cases h
    subst hz
    simp only[bn,bD,bl] at hy
    obtain⟨h1,ho⟩:=hco.objs s _ hs
    refine⟨h1,?_⟩
    obtain⟨rfl,_⟩:=hy
    rcases ho with ⟨rfl,a,ha⟩ | ⟨b,cap,cur,h0,hp,hl,hm',hh,hs',hc⟩
    ·simp_all [bh]
    ·refine⟨some ⟨b,0,none⟩,cap,_,(by rw[hp]; rfl),hc,fun _=>⟨_,rfl,fun j v hj=>?_⟩⟩
     rw[addr_add,Nat.zero_add,cell_of_row w b j cur e' (0,0) hh]
     grind
   ·cases h
  ·cases h
 ·rename_i s sz' a n
  split at h
  ·rename_i sz'' e' rows hs
   split at h
   ·rename_i hz
    cases h
    obtain⟨rfl,rfl,hn⟩:=hz
    simp only[bn,bD,bl] at hy
    obtain⟨ao,len,cap,hp',ha,hln,rfl⟩:=hy
    obtain⟨h1,ho⟩:=hco.objs s _ hs
    unfold subRow
    have hlen:((rows.take n).drop a).length=n - a:=by simp; omega
    refine⟨fun r hr=>h1 r (List.mem_of_mem_take (List.mem_of_mem_drop hr)),?_⟩
    rw[hlen]
    rcases ho with ⟨rfl,a0,ha0⟩ | ⟨b,cap',cur,h0,hp,hl,hm',hh,hs',hc⟩
    ·simp only[List.length_nil,Nat.le_zero] at hn
     subst hn
     exact⟨_,_,[],rfl,by simp[bh],fun h=>by omega⟩
    ·rw[hp,hdv_slice] at hp'
     simp only[Value.slice.injEq] at hp'
     obtain⟨rfl,rfl,rfl⟩:=hp'
     obtain⟨g1,g2⟩:=sub_mem (φ:=φ) h1 hh hc a n hn
     refine⟨_,_,_,rfl,g1,fun hpos=>⟨⟨b,a*sz'',none⟩,?_,fun j v hj=>?_⟩⟩
     ·unfold subA
      rw[if_neg (by omega)]
      simp[addr_add]
     ·rw[addr_add]
      exact g2 j v hj
   ·cases h
  ·cases h
 ·cases h
theorem pre_sound (ht:TbOk P tb) {p:Prop} {Z':Env} {O':Sto} (h:preR tb Z O o.op o.dst=some (p,Z',O')) (hp:p) (hk:K Z' O') (hd:∀ d,o.dst=some d->d < cx.n):Step P cx o Z O K:=by
 intro φ a w hs next Q hn
 unfold preR at h
 split at h
 ·rename_i cc hop
  obtain⟨callee,args,ats⟩:=cc
  split at h
  ·rename_i x y t t' d hcal hargs hats hdst
   simp only at hcal hargs hats
   subst hcal
   obtain⟨args⟩:=args
   obtain⟨ats⟩:=ats
   simp only at hargs hats
   subst hargs hats
   replace hd:=hd d hdst
   split at h
   ·rename_i htt
    subst htt
    have hx:=cj hs.core.gw hs.slots x
    have hy:=cj hs.core.gw hs.slots y
    unfold preD at h
    split at h
    ·rename_i ti hty
     have T:=ht.ty t ti hty
     split at h
     ·rename_i e hde
      unfold preT at h
      split at h
      ·rename_i te hte
       have TE:=ht.ty e te hte
       split at h
       ·rename_i s n rows hpv
        split at h
        ·rename_i news hsn
         simp only[Option.some.injEq,Prod.mk.injEq] at h
         obtain⟨rfl,rfl,rfl⟩:=h
         obtain⟨hsz,hlen⟩:=hp
         obtain⟨hn1,A,c,ns,hq,hns,hA⟩:=oL hs.core hsn hy
         have hnl:ns.length=news.length*te.size:=by rw[<- bT hns,List.length_map,df hn1]
         unfold preV at hpv
         split at hpv
         ·rename_i s' sz' n' hxv
          split at hpv
          ·rename_i sz'' e' rows' hs'
           split at hpv
           ·rename_i hz
            cases hpv
            obtain⟨rfl,rfl,rfl⟩:=hz
            rw[hxv] at hx
            simp only[bn,bD,bl] at hx
            obtain⟨ao,len,cap,hp',_,hln,hxe⟩:=hx
            obtain⟨hr1,ho⟩:=hs.core.objs s _ hs'
            rcases Nat.eq_zero_or_pos news.length with hm | hm
            ·obtain rfl:news=[]:=List.eq_nil_of_length_eq_zero hm
             have hnc:n<=cap:=by
              rcases ho with ⟨rfl,a0,ha0⟩ | ⟨b,cap',cur,h0,hp,hl,_⟩
              ·rw[ha0] at hp'; cases hp'; omega
              ·rw[hp] at hp'; cases hp'; omega
             have hst:upd O s (some (.row te.size e' (rows.take n++[]++rows.drop (n+([]:List (List L)).length))))=O:=by
              funext k
              by_cases hks:k=s
              ·subst hks; rw[upd_same,hs']; simp
              ·rw[bc _ _ hks]
             unfold preRow at hk
             rw[hst] at hk
             obtain⟨ii,hi,hi1,hi2,hi3⟩:=TE.get
             have hlc:∀ ad:Addr,(loadCells ad 0).run P w=.ok #[] w:=fun ad=>by rfl
             refine Step.of_run (u:=a.eval x) (w':=w) ?_ (by rw[hdst]; exact⟨hs.core,m0 hs.slots (v:=.u (.one (.sub s te.size 0 n))) (by simp only[bn,bD,bl]; exact⟨ao,len,cap,hp',Nat.zero_le _,hln,hxe⟩) (Nat.lt_of_lt_of_le hd hs.room),hs.defers,by simpa [Act.put] using hs.room⟩) hk hn
             unfold execOp
             simp only[hop,resolve,invoke,builtin,Sem.run_bind,Sem.run_pure,Result.andThen_ok,List.map_toArray,List.map_cons,List.map_nil,hq,hxe]
             generalize subA ao cap 0 te.size=ao'
             cases ao'<;>cases A<;>simp[Builtin.append_,run_underlying (T.und.trans (by rw[hde])),sizeOf,typeInfo,hi,Builtin.lenOf,Builtin.firstCells,hlc,storeCells,hnc]
            ·rcases ho with ⟨rfl,a0,ha0⟩ | ⟨b,cap',cur,h0,hp,hl,hm',hh,hsz',hc⟩
             ·have:n+news.length<=0:=hlen
              omega
             ·rw[hp,hdv_slice] at hp'
              simp only[Value.slice.injEq] at hp'
              obtain⟨rfl,rfl,rfl⟩:=hp'
              have hsub:subA (some ⟨b,0,none⟩) cap' 0 te.size=some ⟨b,0,none⟩:=by unfold subA; rw[if_neg (by omega)]; simp[addr_add]
              rw[hsub,Nat.sub_zero,Nat.sub_zero] at hxe
              have hmul:(n+news.length)*te.size<=rows.length*te.size:=Nat.mul_le_mul_right _ hlen
              have hmul2:rows.length*te.size<=cap'*te.size:=Nat.mul_le_mul_right _ hl
              have hrun:=run_appIn (P:=P) (ty:=o.type) (c:=c) (n:=n) (cap:=cap') (T.und.trans (by rw[hde])) TE hh hnl hA (fK hns) hm (by omega) (by omega)
              unfold preRow at hk
              have hrl:(rows.take n++news++rows.drop (n+news.length)).length=rows.length:=by simp; omega
              have key:=hs.core.mutate (s:=s) (ob':=.row te.size e' (rows.take n++news++rows.drop (n+news.length))) (w':=w.setRow b (cur.toList.take (n*te.size)++ns++cur.toList.drop ((n+news.length)*te.size)).toArray) hs' (σ1:=O) (fun _ _ _ h=>h)
               (fun t m l la _ h e=>by
                subst e
                obtain⟨kk,es,hm⟩:=hs.core.itm t m l la h
                rw[hs'] at hm
                cases hm) (fun _ _ _ h _=>h) (fun m l la h=>by cases h) rfl rfl rfl (Nat.le_refl _) (by simp)
               (fun b' _ hne=>setRow_other w b b' _ (fun e=>hne (by rw[hp]; simp only[hbl_slice]; exact⟨by omega,e⟩))) (fun hkp=>by
                refine⟨fun r hr=>?_,.inr ⟨b,cap',_,h0,by rw[hrl]; exact hp,by rw[hrl]; exact hl,hm',setRow_heap w b cur _ e' (0,0) hh,?_,?_⟩⟩
                ·rcases List.mem_append.1 hr with hr | hr
                 ·rcases List.mem_append.1 hr with hr | hr
                  ·exact hr1 r (List.mem_of_mem_take hr)
                  ·exact hn1 r hr
                 ·exact hr1 r (List.mem_of_mem_drop hr)
                ·rw[Nat.add_mul] at hmul ⊢
                 simp[hnl]
                 omega
                ·obtain⟨X,hX⟩:∃ X,X=cur.toList.take (rows.length*te.size):=⟨_,rfl⟩
                 have hXl:X.length=rows.length*te.size:=by rw[hX]; simp; omega
                 have hXY:cur.toList=X++cur.toList.drop (rows.length*te.size):=by rw[hX]; exact (List.take_append_drop _ _).symm
                 have e1:cur.toList.take (n*te.size)=X.take (n*te.size):=by rw[hX,List.take_take,Nat.min_eq_left (by have:=Nat.mul_le_mul_right te.size (show n<=rows.length by omega); omega)]
                 have e2:cur.toList.drop ((n+news.length)*te.size)=X.drop ((n+news.length)*te.size)++cur.toList.drop (rows.length*te.size):=by
                  conv=>lhs; rw[hXY]
                  rw[List.drop_append_of_le_length (by omega)]
                 have hlen3:(X.take (n*te.size)++ns++X.drop ((n+news.length)*te.size)).length=rows.length*te.size:=by
                  have hmn:=Nat.mul_le_mul_right te.size (show n<=rows.length by omega)
                  rw[List.length_append,List.length_append,List.length_take,List.length_drop,hnl,hXl,Nat.min_eq_left hmn]
                  rw[Nat.add_mul] at hmul ⊢
                  omega
                 have hcur:((cur.toList.take (n*te.size)++ns++cur.toList.drop ((n+news.length)*te.size)).toArray).toList.take (rows.length*te.size)=X.take (n*te.size)++ns++X.drop ((n+news.length)*te.size):=by
                  rw[e1,e2,<- List.append_assoc]
                  exact List.take_left' hlen3
                 rw[hrl,hcur,List.flatten_append,List.flatten_append,flat_take n hr1,flat_drop (n+news.length) hr1]
                 rw[<- hX] at hc
                 have h9:bh φ w (cx.fr φ O) ((rows.flatten.take (n*te.size)++news.flatten++rows.flatten.drop ((n+news.length)*te.size)).map C.d) (X.take (n*te.size)++ns++X.drop ((n+news.length)*te.size)):=by
                  rw[List.map_append,List.map_append,List.map_take,List.map_drop]
                  exact cG (cG (eu _ hc) hns) (fX _ hc)
                 exact fg (bO hkp _ _ h9))
              refine Step.of_run (u:=.slice (some ⟨b,0,none⟩) (n+news.length) cap') (w':=w.setRow b (cur.toList.take (n*te.size)++ns++cur.toList.drop ((n+news.length)*te.size)).toArray) ?_ (by rw[hdst]; exact⟨key.1,m0 (fun t=>cV key.2 _ _ (hs.slots t)) (v:=.u (.one (.sub s te.size 0 (n+news.length)))) (by simp only[bn,bD,bl]; exact⟨_,_,cap',by rw[hp,hdv_slice],Nat.zero_le _,hlen,by rw[hsub]; simp⟩) (Nat.lt_of_lt_of_le hd hs.room),hs.defers,by simpa [Act.put] using hs.room⟩) hk hn
              unfold execOp
              simp only[hop,resolve,invoke,builtin,Sem.run_bind,Sem.run_pure,Result.andThen_ok,List.map_toArray,List.map_cons,List.map_nil,hq,hxe,hrun]
           ·cases hpv
          ·cases hpv
         ·cases hpv
        ·cases h
       ·cases h
      ·cases h
     ·cases h
    ·cases h
   ·cases h
  ·cases h
 ·cases h
theorem append_sound (ht:TbOk P tb) {d:Nat} {x y:Operand} {t:TypeId} {ats:Array TypeId} {args:Array Operand} (hop:o.op=.call { callee:=.builtin .append,args:=args,argTypes:=ats }) (hargs:args.toList=[x,y]) (hats:ats.toList=[t,t])
  (hdst:o.dst=some d) (hd:d < cx.n) (hd':d < inBase) (h:jV tb Z O d t (oev Z x) (oev Z y) K):Step P cx o Z O K:=by
 intro φ a w hs next Q hn
 obtain⟨args⟩:=args
 obtain⟨ats⟩:=ats
 simp only at hargs hats
 subst hargs hats
 have hx:=cj hs.core.gw hs.slots x
 have hy:=cj hs.core.gw hs.slots y
 unfold jV at h
 split at h
 ·rename_i ti hty
  have T:=ht.ty t ti hty
  split at h
  ·rename_i e hde
   split at h
   ·rename_i te hte
    have TE:=ht.ty e te hte
    split at h
    ·rename_i so rows news hf hsn
     obtain⟨hsz,hby,hbd,hk⟩:=h
     obtain⟨hn1,A,c,ns,hq,hns,hA⟩:=oL hs.core hsn hy
     have hnl:ns.length=news.length*te.size:=by rw[<- bT hns,List.length_map,df hn1]
     have hfst:(∀ r∈rows,r.length=te.size)/\(∃ xs,gX w e te.size (a.eval x) rows.length xs/\bh φ w (cx.fr φ O) (rows.flatten.map C.d) xs)/\(∀ s o,so=some s->O s=some o->∃ sz e rows,o=.row sz e rows) /\
       (∀ b,hbl (a.eval x) b->∃ s o,so=some s/\O s=some o/\hbl (φ s) b)/\(∀ b,(∀ s o,so=some s->O s=some o->¬ hbl (φ s) b)->¬ hbl (a.eval x) b):=by
      unfold oP at hf
      split at hf
      ·cases hf
       rename_i hxv
       rw[hxv] at hx
       simp only[bn,bD,bl,rep] at hx
       rw[hx]
       refine⟨by simp,⟨[],.inl ⟨rfl,rfl,none,rfl⟩,by simp[bh]⟩,?_,?_,?_⟩
       ·simp
       ·intro b h; cases h
       ·intro b _ h; cases h
      ·cases hf
       rename_i hxv
       rw[hxv] at hx
       simp only[bn,bD,bl,rep] at hx
       obtain⟨a0,ha0⟩:=hx
       rw[ha0]
       refine⟨by simp,⟨[],.inl ⟨rfl,rfl,a0,rfl⟩,by simp[bh]⟩,?_,?_,?_⟩
       ·simp
       ·simp
       simp
      ·rename_i s hxv
       split at hf
       ·rename_i sz' e' rows' hs'
        split at hf
        ·rename_i hz
         cases hf
         obtain⟨rfl,rfl⟩:=hz
         rw[hxv] at hx
         obtain⟨hxe,_⟩:=hx
         obtain⟨h1,ho⟩:=hs.core.objs s _ hs'
         have hv:hdv (φ s)=φ s:=by rcases ho with ⟨_,a,h⟩ | ⟨_,_,_,_,h,_⟩<;>rw[h]<;>rfl
         rw[hxe,hv]
         refine⟨h1,?_,fun s' o' hso hs2=>?_,fun b hb=>⟨s,_,rfl,hs',hb⟩,fun b hb=>hb s _ rfl hs'⟩
         ·rcases ho with ⟨rfl,a0,ha0⟩ | ⟨b,cap,cur,h0,hp,hl,hm',hh,hs',hc⟩
          ·exact⟨[],.inl ⟨rfl,rfl,a0,ha0⟩,by simp[bh]⟩
          ·exact⟨_,.inr ⟨b,cap,cur,h0,hp,hl,hm',hh,hs',rfl⟩,hc⟩
         simp_all
        ·cases hf
       ·cases hf
      ·cases hf
     obtain⟨hr1,⟨xs,hrow,hxs⟩,hso,hbo,hbo'⟩:=hfst
     have hxl:xs.length=rows.length*te.size:=by rw[<- bT hxs,List.length_map,df hr1]
     obtain⟨v',w',hrun,hos,htp,hout,hsize,hblk',hnew,hrow'⟩:=run_app (P:=P) (ty:=o.type) (c:=c) (T.und.trans (by rw[hde])) TE hsz hby hrow hxl hnl hA (fK hns) hbd
     have hfl:∀ r∈rows++news,r.length=te.size:=fun r hr=>by
      grind
     have hone:v'.oneCell'=true:=by
      rcases hrow' with ⟨_,_,a0,rfl⟩ | ⟨_,_,_,_,rfl,_⟩<;>rfl
     have key:=hs.core.replace (so:=so) (d:=d) (hv:=v') (ob:=.row te.size e (rows++news)) (w':=w') hd' (fun s o h1 h2 kk es e=>by obtain⟨_,_,_,h3⟩:=hso s o h1 h2; rw[h3] at e; cases e) hos htp hout (lZ _ _ _ _ hrun) hsize
      (fun b hl hne=>hblk' b hl (hbo' b hne)) (fun b hb=>by
       grind) (fun _ _ _ h=>by cases h)
      (fun hkp=>by
       refine⟨hfl,?_⟩
       rw[upd_same]
       have hcs:bh (upd φ d v') w' (cx.fr (upd φ d v') (upd (bN d (drop so O)) d (some (.row te.size e (rows++news))))) ((rows++news).flatten.map C.d) (xs++ns):=by
        grind [cG,fg,bO]
       rcases hrow' with ⟨h0,_,a0,hv⟩ | ⟨b,cap,cur,h0,hv,h1,h2,h3,h4,h5⟩
       ·simp_all
       grind)
     refine Step.of_run (u:=v') (w':=w') ?_ (by rw[hdst]; exact Sim.new hs hd key rfl (by simp only[bl]; rw[upd_same,show hdv v'=v' by rcases hrow' with ⟨_,_,a0,rfl⟩ | ⟨_,_,_,_,rfl,_⟩<;>rfl]; exact⟨rfl,hone⟩)) hk hn
     unfold execOp
     simp only[hop,resolve,invoke,builtin,Sem.run_bind,Sem.run_pure,Result.andThen_ok,List.map_toArray,List.map_cons,List.map_nil,hq,hrun]
    ·rename_i news hf hsn
     split at h
     ·rename_i rows hfu
      obtain⟨⟨hsz,hby,hbd,hpos⟩,hk⟩:=h
      obtain⟨hn1,A,c,ns,hq,hns,hA⟩:=oL hs.core hsn hy
      have hnl:ns.length=news.length*te.size:=by rw[<- bT hns,List.length_map,df hn1]
      unfold fullV at hfu
      split at hfu
      ·rename_i sz' rows' hxv
       split at hfu
       ·rename_i hz
        cases hfu
        subst hz
        rw[hxv] at hx
        simp only[bn,bD,bl,rep] at hx
        obtain⟨ao,n,hxe,hnr,hmx,hro⟩:=hx
        have hr1:∀ r∈rows,r.length=te.size:=by
         rcases hro with rfl | ⟨b,o,_,_,_,hr⟩
         ·simp
         ·exact fun r hr'=>let ⟨i,hi⟩:=List.mem_iff_getElem?.1 hr'; (repRows_get hr hi).1
        obtain⟨xs,hxl,hxs,hcell⟩:∃ xs:List Value,xs.length=rows.length*te.size/\bh φ w (cx.fr φ O) (rows.flatten.map C.d) xs/\(0 < n->∃ ad,ao=some ad/\∀ (j:Nat) (v:Value),xs[j]?=some v->w.cell? (ad.add j)=some v):=by
         rcases hro with rfl | ⟨b,o,hao,_,_,hr⟩
         ·exact⟨[],by simp,by simp[bh],fun h=>by simp at hnr; omega⟩
         ·obtain⟨us,h1,h2⟩:=mem_of_rows (φ:=φ) hr
          refine⟨us,by rw[<- bT h1,List.length_map,df hr1],h1,fun _=>⟨⟨b,o,none⟩,hao,fun j v hj=>?_⟩⟩
          rw[addr_add]
          exact (h2 j v hj).1
        obtain⟨v',w',hrun,hos,htp,hout,hsize,hblk',hnew,hrow'⟩:=run_appX (P:=P) (ty:=o.type) (c:=c) (T.und.trans (by rw[hde])) TE hsz hby (n:=rows.length) (xs:=xs) hxl (by rw[<- hnr]; exact hcell) hnl hA (fK hxs) (fK hns) hpos hbd
        have hfl:∀ r∈rows++news,r.length=te.size:=fun r hr=>by
         rcases List.mem_append.1 hr with hr | hr
         ·exact hr1 r hr
         ·exact hn1 r hr
        have hone:v'.oneCell'=true:=by
         rcases hrow' with ⟨_,_,a0,rfl⟩ | ⟨_,_,_,_,rfl,_⟩<;>rfl
        have hdv':hdv v'=v':=by
         rcases hrow' with ⟨_,_,a0,rfl⟩ | ⟨_,_,_,_,rfl,_⟩<;>rfl
        have key:=hs.core.replace (so:=none) (d:=d) (hv:=v') (ob:=.row te.size e (rows++news)) (w':=w') hd' (fun _ _ h=>by cases h) hos htp hout (lZ _ _ _ _ hrun) hsize
         (fun b hl _=>hblk' b hl) (fun b hb=>⟨.inl (hnew b hb).1,(hnew b hb).2⟩) (fun _ _ _ h=>by cases h)
         (fun hkp=>by
          refine⟨hfl,?_⟩
          rw[upd_same]
          have hcs:bh (upd φ d v') w' (cx.fr (upd φ d v') (upd (bN d (drop none O)) d (some (.row te.size e (rows++news))))) ((rows++news).flatten.map C.d) (xs++ns):=by
           rw[List.flatten_append,List.map_append]
           exact cG (fg (bO hkp _ _ hxs)) (fg (bO hkp _ _ hns))
          rcases hrow' with ⟨h0,_,a0,hv⟩ | ⟨b,cap,cur,h0,hv,h1,h2,h3,h4,h5⟩
          ·omega
          ·refine .inr ⟨b,cap,cur,h0,by rw[List.length_append]; exact hv,by rw[List.length_append]; exact h1,h2,h3,h4,?_⟩
           rw[List.length_append,h5]
           exact hcs)
        rw[iG] at key
        refine Step.of_run (u:=v') (w':=w') ?_ (by rw[hdst]; exact Sim.new hs hd key rfl (by simp only[bl]; rw[upd_same,hdv']; exact⟨rfl,hone⟩)) hk hn
        unfold execOp
        rw[hnr] at hxe
        simp only[hop,resolve,invoke,builtin,Sem.run_bind,Sem.run_pure,Result.andThen_ok,List.map_toArray,List.map_cons,List.map_nil,hq,hxe,hrun]
       ·cases hfu
      ·cases hfu
     ·exact h.elim
    ·exact h.elim
   ·exact h.elim
  ·exact h.elim
 ·exact h.elim
theorem run_appS {w:World} {t ts ty e:TypeId} {te:TI} (hT:P.underlying t=some (.slice e)) (hS:P.underlying ts=some .string) (TE:TabFact P e te) (hsz:te.size=1) (hby:0 < te.bytes) {u:Value} {n:Nat} {xs:List Value} (hu:gX w e te.size u n xs) (hxl:xs.length=n)
  (s:ByteArray) (hb:(n+(bsl s).length)*te.bytes<=140737488355328) :
  ∃ v' w',(Builtin.append_ #[t,ts] ty #[u,.string s]).run P w=.ok v' w'/\w'.os=w.os/\w'.tape=w.tape/\w'.output=w.output/\w.heap.size<=w'.heap.size/\(∀ b,b < w.heap.size->¬ hbl u b->w'.heap[b]?=w.heap[b]?) /\
   (∀ b,hbl v' b->(w.heap.size<=b \/ hbl u b)/\b < w'.heap.size)/\gX w' e te.size v' (n+(bsl s).length) (xs++Lib.strCells s):=by
 have hm:(bsl s).length=s.size:=rfl
 rw[hm] at hb ⊢
 obtain⟨i,hi,hi1,hi2,hi3⟩:=TE.get
 rw[hsz] at hi1 hu ⊢
 have hzs:=TE.zsize
 rw[hsz] at hzs
 have hnm:n+s.size<=(n+s.size)*te.bytes:=Nat.le_mul_of_pos_right _ hby
 have h63:n+s.size<=maxLen:=by simp only[maxLen]; omega
 have hlen:(xs++Lib.strCells s).length=n+s.size:=by rw[List.length_append,hxl,Lib.strCells_length]
 have grown:∀ (old:Nat),0 < n+s.size->∀ C:Array Value,C=xs.toArray++(Lib.strCells s).toArray++Builtin.zeroCells te.zv.cells (grownCap w (n+s.size) old e - (n+s.size)) ->
   (Builtin.append_ #[t,ts] ty #[u,.string s]).run P w=.ok (.slice (some ⟨w.heap.size,0,none⟩) (n+s.size) (grownCap w (n+s.size) old e)) (w.drew.alloc (.cells C e)) ->
   ∃ v' w',(Builtin.append_ #[t,ts] ty #[u,.string s]).run P w=.ok v' w'/\w'.os=w.os/\w'.tape=w.tape/\w'.output=w.output/\w.heap.size<=w'.heap.size/\(∀ b,b < w.heap.size->¬ hbl u b->w'.heap[b]?=w.heap[b]?) /\
   (∀ b,hbl v' b->(w.heap.size<=b \/ hbl u b)/\b < w'.heap.size)/\gX w' e 1 v' (n+s.size) (xs++Lib.strCells s):=by
  rintro old hpos C rfl hrun
  have hge:=grownCap_ge w (n+s.size) old e
  have hcm:=grownCap_le_maxLen w (n+s.size) old e h63
  refine⟨_,_,hrun,rfl,rfl,rfl,by simp,fun k hk _=>Below.heap_alloc w.drew _ k hk,fun b hbk=>?_,.inr ⟨w.heap.size,_,_,by omega,rfl,hge,hcm,heap_alloc_new w.drew _,?_,?_⟩⟩
  ·simp_all
  ·simp only[Array.size_append,List.size_toArray,size_zeroCells,hzs,hxl,Lib.strCells_length]
   omega
  grind
 rcases hu with ⟨rfl,rfl,a,rfl⟩ | ⟨b,cap,cur,h0,rfl,hnc,hcm,hh,hcs,htk⟩
 ·by_cases hz:s.size=0
  ·have hn:Lib.strCells s=[]:=List.eq_nil_of_length_eq_zero (by simp_all)
   refine⟨.slice a 0 0,w,?_,rfl,rfl,rfl,Nat.le_refl _,fun _ _ _=>rfl,fun b hbk=>?_,.inl ⟨by omega,by simp[hn],a,rfl⟩⟩
   ·have hf:=Lib.run_firstCells_string (P:=P) w 1 s
    rw[hz,hn] at hf
    cases a<;>simp[Builtin.append_,run_underlying hT,run_underlying hS,sizeOf,typeInfo,hi,hi1,Builtin.lenOf,hz,hf,storeCells]
   simp_all
  ·cases a with
   | none =>
    have hr:=run_append_nil_string (P:=P) w t ts ty e i te.zv hT hS hi hi3 s (by omega) (by omega) (by grind)
    refine grown 0 (by omega) _ ?_ (by simpa using hr)
    have e1:(s.data.map fun b=>Value.int .u8 b.toNat)=(Lib.strCells s).toArray:=by
     apply Array.ext'
     simp[Lib.strCells]
    simp[e1]
   | some a0 =>
    have hr:=Lib.run_append_grow_string (P:=P) w t ts ty e i te.zv hT hS hi hi3 a0 0 0 [] (by simp) (fun j v hj=>by simp at hj) s (by omega) (by omega) (growslice_fits (by omega) (by rw[hi2]; exact hb))
    grind
 ·by_cases hroom:n+s.size<=cap
  ·have hcs':cur.size=cap:=by simpa using hcs
   have hr:=Lib.run_append_room_string (P:=P) w t ts ty e i hT hS hi hi1 b n cap cur hh s hroom (by omega)
   have hbl:=(Array.getElem?_eq_some_iff.1 hh).1
   refine⟨_,_,hr,rfl,rfl,rfl,by simp,fun k _ hk=>setRow_other w b k _ (fun e=>hk (by simp_all)),fun k hk=>?_,.inr ⟨b,cap,_,h0,rfl,hroom,hcm,setRow_heap w b cur _ e _ hh,?_,?_⟩⟩
   ·simp_all
   ·grind
   grind
  ·have holds:∀ j v,xs[j]?=some v->w.cell? ((⟨b,0,none⟩:Addr).add j)=some v:=fun j v hj=>by
    rw[addr_add]
    simp only[World.cell?,hh,Nat.zero_add]
    grind
   have hr:=Lib.run_append_grow_string (P:=P) w t ts ty e i te.zv hT hS hi hi3 ⟨b,0,none⟩ n cap xs (by simp_all) holds s (by omega) (by omega) (growslice_fits (by omega) (by rw[hi2]; exact hb))
   grind
theorem appendS_sound (ht:TbOk P tb) {d:Nat} {x y:Operand} {t t':TypeId} {ats:Array TypeId} {args:Array Operand} (hop:o.op=.call { callee:=.builtin .append,args:=args,argTypes:=ats }) (hargs:args.toList=[x,y]) (hats:ats.toList=[t,t'])
  (hdst:o.dst=some d) (hd:d < cx.n) (hd':d < inBase) (h:mz tb Z O d t t' (oev Z x) (oev Z y) K):Step P cx o Z O K:=by
 intro φ a w hs next Q hn
 obtain⟨args⟩:=args
 obtain⟨ats⟩:=ats
 simp only at hargs hats
 subst hargs hats
 have hx:=cj hs.core.gw hs.slots x
 have hy:=cj hs.core.gw hs.slots y
 unfold mz at h
 split at h
 ·rename_i ti ts hty hty'
  have T:=ht.ty t ti hty
  have TS:=ht.ty t' ts hty'
  split at h
  ·rename_i e hde hds
   split at h
   ·rename_i te hte
    have TE:=ht.ty e te hte
    split at h
    ·rename_i so rows l hf hsn
     obtain⟨hby,hbd,hk⟩:=h
     obtain⟨s,hyv,hz1,rfl⟩:∃ s,oev Z y=.u (.one (.d (.str s)))/\te.size=1/\l=bsl s:=by
      unfold strRow at hsn
      grind
     rw[hyv] at hy
     have hq:a.eval y=.string s:=by grind [bn,bD,bl,rep]
     have hsz:0 < te.size:=by omega
     have hn1:∀ r∈(bsl s).map mA,r.length=te.size:=fun r hr=>by
      obtain⟨b,_,rfl⟩:=List.mem_map.1 hr
      rw[hz1]; rfl
     have hns:bh φ w (cx.fr φ O) (((bsl s).map mA).flatten.map C.d) (Lib.strCells s):=by
      have key:∀ l:List UInt8,bh φ w (cx.fr φ O) ((l.map mA).flatten.map C.d) (l.map fun b=>Value.int .u8 b.toNat):=by
       intro l
       induction l with
       | nil=>simp[bh]
       | cons b l ih =>
        simp only[List.map_cons,mA,List.flatten_cons,List.cons_append,List.nil_append,bh]
        exact⟨_,_,rfl,by simp[bl,rep],ih⟩
      exact key (bsl s)
     have hfst:(∀ r∈rows,r.length=te.size)/\(∃ xs,gX w e te.size (a.eval x) rows.length xs/\bh φ w (cx.fr φ O) (rows.flatten.map C.d) xs)/\(∀ s o,so=some s->O s=some o->∃ sz e rows,o=.row sz e rows) /\
       (∀ b,hbl (a.eval x) b->∃ s o,so=some s/\O s=some o/\hbl (φ s) b)/\(∀ b,(∀ s o,so=some s->O s=some o->¬ hbl (φ s) b)->¬ hbl (a.eval x) b):=by
      unfold oP at hf
      split at hf
      ·cases hf
       rename_i hxv
       rw[hxv] at hx
       simp only[bn,bD,bl,rep] at hx
       rw[hx]
       refine⟨by simp,⟨[],.inl ⟨rfl,rfl,none,rfl⟩,by simp[bh]⟩,?_,?_,?_⟩
       ·simp
       ·intro b h; cases h
       ·intro b _ h; cases h
      ·cases hf
       rename_i hxv
       rw[hxv] at hx
       simp only[bn,bD,bl,rep] at hx
       obtain⟨a0,ha0⟩:=hx
       rw[ha0]
       refine⟨by simp,⟨[],.inl ⟨rfl,rfl,a0,rfl⟩,by simp[bh]⟩,?_,?_,?_⟩
       ·simp
       ·simp
       simp
      ·rename_i s hxv
       split at hf
       ·rename_i sz' e' rows' hs'
        split at hf
        ·rename_i hz
         cases hf
         obtain⟨rfl,rfl⟩:=hz
         rw[hxv] at hx
         obtain⟨hxe,_⟩:=hx
         obtain⟨h1,ho⟩:=hs.core.objs s _ hs'
         have hv:hdv (φ s)=φ s:=by rcases ho with ⟨_,a,h⟩ | ⟨_,_,_,_,h,_⟩<;>rw[h]<;>rfl
         rw[hxe,hv]
         refine⟨h1,?_,fun s' o' hso hs2=>?_,fun b hb=>⟨s,_,rfl,hs',hb⟩,fun b hb=>hb s _ rfl hs'⟩
         ·rcases ho with ⟨rfl,a0,ha0⟩ | ⟨b,cap,cur,h0,hp,hl,hm',hh,hs',hc⟩
          ·exact⟨[],.inl ⟨rfl,rfl,a0,ha0⟩,by simp[bh]⟩
          ·exact⟨_,.inr ⟨b,cap,cur,h0,hp,hl,hm',hh,hs',rfl⟩,hc⟩
         simp_all
        ·cases hf
       ·cases hf
      ·cases hf
     obtain⟨hr1,⟨xs,hrow,hxs⟩,hso,hbo,hbo'⟩:=hfst
     have hxl:xs.length=rows.length*te.size:=by rw[<- bT hxs,List.length_map,df hr1]
     obtain⟨v',w',hrun,hos,htp,hout,hsize,hblk',hnew,hrow'⟩:=run_appS (P:=P) (ty:=o.type) (T.und.trans (by rw[hde])) (TS.und.trans (by rw[hds])) TE hz1 hby hrow (by simp_all) s (by simpa using hbd)
     have hfl:∀ r∈rows++(bsl s).map mA,r.length=te.size:=fun r hr=>by
      grind
     have hone:v'.oneCell'=true:=by
      rcases hrow' with ⟨_,_,a0,rfl⟩ | ⟨_,_,_,_,rfl,_⟩<;>rfl
     have key:=hs.core.replace (so:=so) (d:=d) (hv:=v') (ob:=.row te.size e (rows++(bsl s).map mA)) (w':=w') hd' (fun s o h1 h2 kk es e=>by obtain⟨_,_,_,h3⟩:=hso s o h1 h2; rw[h3] at e; cases e) hos htp hout (lZ _ _ _ _ hrun) hsize
      (fun b hl hne=>hblk' b hl (hbo' b hne)) (fun b hb=>by
       grind) (fun _ _ _ h=>by cases h)
      (fun hkp=>by
       refine⟨hfl,?_⟩
       rw[upd_same]
       have hcs:bh (upd φ d v') w' (cx.fr (upd φ d v') (upd (bN d (drop so O)) d (some (.row te.size e (rows++(bsl s).map mA))))) ((rows++(bsl s).map mA).flatten.map C.d) (xs++Lib.strCells s):=by
        grind [cG,fg,bO]
       rcases hrow' with ⟨h0,_,a0,hv⟩ | ⟨b,cap,cur,h0,hv,h1,h2,h3,h4,h5⟩
       ·simp_all
       grind)
     refine Step.of_run (u:=v') (w':=w') ?_ (by rw[hdst]; exact Sim.new hs hd key rfl (by simp only[bl]; rw[upd_same,show hdv v'=v' by rcases hrow' with ⟨_,_,a0,rfl⟩ | ⟨_,_,_,_,rfl,_⟩<;>rfl]; exact⟨rfl,hone⟩)) hk hn
     unfold execOp
     simp only[hop,resolve,invoke,builtin,Sem.run_bind,Sem.run_pure,Result.andThen_ok,List.map_toArray,List.map_cons,List.map_nil,hq,hrun]
    ·exact h.elim
   ·exact h.elim
  ·exact h.elim
 ·exact h.elim
end
end Go.AM
namespace Go.AM
open Go.RowKit
theorem jz:∀ {es:List (Key×U)} {j:Nat} {k:Key} {x u:U},(es.map (·.1)).Nodup->es[j]?=some (k,x)->mset es k u=es.set j (k,u)
 | [],j,_,_,_,_,h=>by simp at h
 | y::es,0,k,x,u,_,h=>by simp_all [mset]
 | y::es,j+1,k,x,u,hn,h=>by
  simp only[List.map_cons,List.nodup_cons] at hn
  simp only[List.getElem?_cons_succ] at h
  have:y.1≠k:=fun e=>hn.1 (by grind)
  simp only[mset,if_neg this,List.set_cons_succ]
  rw[jz hn.2 h]
theorem oJ:∀ {es:List (Key×U)} {k:Key},mY es k=none->∀ x∈es,x.1≠k
 | [],_,_,x,hx=>by cases hx
 | y::es,k,h,x,hx=>by
  simp only[mY] at h
  split at h
  ·cases h
  ·rename_i hne
   rcases List.mem_cons.1 hx with rfl | hx
   ·exact hne
   ·exact oJ h x hx
theorem mq:∀ {es:List (Key×U)} {k:Key} {u:U},mY es k=none->mset es k u=es++[(k,u)]
 | [],_,_,_=>rfl
 | y::es,k,u,h=>by
  simp only[mY] at h
  split at h
  ·cases h
  ·rename_i hne
   simp only[mset,if_neg hne,List.cons_append]
   rw[mq h]
theorem og:∀ {es:List (Key×U)} {j:Nat} {k:Key} {x:U},(es.map (·.1)).Nodup->es[j]?=some (k,x)->mdel es k=es.eraseIdx j
 | [],j,_,_,_,h=>by simp at h
 | y::es,0,k,x,_,h=>by simp_all [mdel]
 | y::es,j+1,k,x,hn,h=>by
  simp only[List.map_cons,List.nodup_cons] at hn
  simp only[List.getElem?_cons_succ] at h
  have:y.1≠k:=fun e=>hn.1 (by grind)
  simp only[mdel,if_neg this,List.eraseIdx_cons_succ]
  rw[og hn.2 h]
theorem mdel_none:∀ {es:List (Key×U)} {k:Key},mY es k=none->mdel es k=es
 | [],_,_=>rfl
 | y::es,k,h=>by
  simp only[mY] at h
  split at h
  ·cases h
  ·rename_i hne
   simp only[mdel,if_neg hne]
   rw[mdel_none h]
section
variable {P:Program} {tb:Tb} {cx:Cx} {Z:Env} {O:Sto} {o:Oper} {K:Env->Sto->Prop} {φ:Nat->Value} {w:World} {F:Nat->Prop}
theorem esims_set:∀ {es:List (Key×U)} {l:List MapEntry} {j:Nat} {k:Key} {u:U} {e:MapEntry},dn φ w F es l->e.key=k.val->bD φ w F u e.val->dn φ w F (es.set j (k,u)) (l.set j e)
 | [],_,j,_,_,_,h,_,_=>by simp_all [dn]
 | x::es,l,j,k,u,e,h,hk,hu=>by
  obtain⟨e',r,rfl,h1,h2,h3⟩:=h
  cases j with
  | zero=>exact⟨e,r,rfl,hk,hu,h3⟩
  | succ j=>exact⟨e',_,rfl,h1,h2,esims_set h3 hk hu⟩
theorem oQ:∀ {es fs:List (Key×U)} {l m:List MapEntry},dn φ w F es l->dn φ w F fs m->dn φ w F (es++fs) (l++m)
 | [],_,_,_,h,h'=>by simp_all [dn]
 | x::es,fs,l,m,h,h'=>by
  obtain⟨e,r,rfl,h1,h2,h3⟩:=h
  exact⟨e,r++m,rfl,h1,h2,oQ h3 h'⟩
theorem mN:∀ {es:List (Key×U)} {l:List MapEntry} {j:Nat},dn φ w F es l->dn φ w F (es.eraseIdx j) (l.eraseIdx j)
 | [],_,j,h=>by simp_all [dn]
 | x::es,l,j,h=>by
  obtain⟨e,r,rfl,h1,h2,h3⟩:=h
  cases j with
  | zero=>exact h3
  | succ j=>exact⟨e,_,rfl,h1,h2,mN h3⟩
def dO (w:World) (b:Nat) (o:Obj):World:={ w with heap:=w.heap.setIfInBounds b o }
theorem je (w:World) (b b':Nat) (o:Obj) (h:b≠b'):(dO w b o).heap[b']?=w.heap[b']?:=by
 simp[dO,Array.getElem?_setIfInBounds_ne h]
theorem oU (w:World) (b:Nat) (o:Obj) (h:b < w.heap.size):(dO w b o).heap[b]?=some o:=by simp[dO,h]
theorem fY {b:Nat} {ents:Array MapEntry} {clk:Nat} (hh:w.heap[b]?=some (.map ents clk)):(getObj b).run P w=.ok (.map ents clk) w:=by simp[getObj,Sem.run,hh]
theorem kw {b:Nat} {ents:Array MapEntry} {clk:Nat} (hh:w.heap[b]?=some (.map ents clk)) (o:Obj):(setObj b o).run P w=.ok () (dO w b o):=by simp[setObj,Sem.run,hh,dO]
theorem dropIt_sub {s t:Nat} {o:Ob} (h:gj s O t=some o):O t=some o:=by
 grind [gj]
theorem dropIt_iter {s t m:Nat} {l:List (Key×U)} {la:Option (Key×U)} (h:gj s O t=some (.iter m l la)):m≠s:=by
 grind [gj]
theorem dropIt_map {s m:Nat} {kk:KK} {es:List (Key×U)} (h:O m=some (.map kk es)):gj s O m=some (.map kk es):=by
 unfold gj
 rw[h]
theorem mapWrite (hco:Core cx φ O w) {s:Nat} {kk:KK} {es es':List (Key×U)} (hs:O s=some (.map kk es)) {b:Nat} {ents:Array MapEntry} {clk clk':Nat} {ents':Array MapEntry} (hp:φ s=.map (some b)) (hh:w.heap[b]?=some (.map ents clk))
  (hes:∀ F' w',Keep (cx.fr φ O) F' w w'->dn φ w' F' es' ents'.toList)
  (h1:(ents'.toList.map (·.born)).Nodup) (h2:∀ e∈ents'.toList,e.born < clk') (h3:∀ x∈es',x.1.fits kk=true) (h4:(es'.map (·.1)).Nodup) :
  Core cx φ (upd (gj s O) s (some (.map kk es'))) (dO w b (.map ents' clk'))/\Keep (cx.fr φ O) (cx.fr φ (upd (gj s O) s (some (.map kk es')))) w (dO w b (.map ents' clk')):=by
 have hl:b < w.heap.size:=(Array.getElem?_eq_some_iff.1 hh).1
 refine hco.mutate (ob':=.map kk es') hs (fun t o _ h=>dropIt_sub h) (fun t m l la _ h=>dropIt_iter h) (fun m kk es h _=>dropIt_map h) (fun _ _ _ h=>by cases h) rfl rfl rfl (Nat.le_refl _) (by simp[dO])
  (fun b' _ hne=>je w b b' _ (fun e=>hne (by rw[hp,e]; simp))) (fun hk=>?_)
 exact⟨b,ents',clk',hp,oU w b _ hl,hes _ _ hk,h1,h2,h3,h4⟩
theorem Sim.written {φ:Nat->Value} {a:Act} {w w':World} {O':Sto} (hs:Sim cx φ Z O a w) (h:Core cx φ O' w'/\Keep (cx.fr φ O) (cx.fr φ O') w w'):Sim cx φ Z O' a w' :=
 ⟨h.1,fun t=>cV h.2 _ _ (hs.slots t),hs.defers,hs.room⟩
def vset:List (Key×Value)->Key->Value->List (Key×Value)
 | [],k,u=>[(k,u)]
 | x::es,k,u=>if x.1=k then (k,u)::es else x::vset es k u
theorem kJ:∀ (es:List (Key×Value)) (k:Key) (u:Value),opqs (vset es k u)=mset (opqs es) k (.one (.opq u))
 | [],_,_=>rfl
 | x::es,k,u=>by
  unfold vset
  by_cases h:x.1=k
  ·simp[opqs,mset,h]
  ·have:=kJ es k u
   simp only[opqs] at this
   simp[opqs,mset,h,this]
theorem vget_vset:∀ (es:List (Key×Value)) (k:Key) (u:Value) (k':Key),vget (vset es k u) k'=if k'=k then u else vget es k'
 | [],k,u,k'=>by
  by_cases h:k'=k
  ·subst h; simp[vget,vset]
  ·simp[vget,vset,h,Ne.symm h]
 | x::es,k,u,k'=>by
  have ih:=vget_vset es k u k'
  unfold vset
  by_cases h:x.1=k
  ·rw[if_pos h]
   by_cases h2:k'=k
   ·subst h2; simp[vget]
   ·have h3:¬ k=k':=fun e=>h2 e.symm
    simp[vget,h2,h3,h]
  ·rw[if_neg h]
   by_cases h2:x.1=k'
   ·subst h2
    simp[vget,h]
   ·simp only[vget,List.find?_cons,h2,decide_false] at ih ⊢
    exact ih
theorem vset_mem:∀ {es:List (Key×Value)} {k:Key} {u:Value} {x:Key×Value},x∈vset es k u->x.1=k \/ x∈es
 | [],k,u,x,h=>by simp[vset] at h; exact .inl (by rw[h])
 | y::es,k,u,x,h=>by
  unfold vset at h
  split at h
  ·rcases List.mem_cons.1 h with rfl | h
   ·exact .inl rfl
   ·exact .inr (List.mem_cons_of_mem _ h)
  ·rcases List.mem_cons.1 h with rfl | h
   ·exact .inr (by simp)
   ·exact (vset_mem h).imp_right (List.mem_cons_of_mem _)
theorem map_vget_set:∀ {ks:List Key} {es:List (Key×Value)} {k:Key} {u:Value},ks.Nodup->fh ks k < ks.length->ks.map (vget (vset es k u))=(ks.map (vget es)).set (fh ks k) u
 | [],_,_,_,_,h=>by simp[fh] at h
 | x::ks,es,k,u,hn,h=>by
  rw[List.nodup_cons] at hn
  unfold fh at h ⊢
  by_cases hx:x=k
  ·subst hx
   rw[if_pos rfl,List.map_cons,List.map_cons,List.set_cons_zero,vget_vset,if_pos rfl]
   congr 1
   refine List.map_congr_left fun y hy=>?_
   rw[vget_vset,if_neg (fun e:y=x=>hn.1 (e ▸ hy))]
  ·rw[if_neg hx] at h ⊢
   rw[List.map_cons,List.map_cons,List.set_cons_succ,vget_vset,if_neg hx,map_vget_set hn.2 (by simpa using h)]
theorem neC_sound {φ:Nat->Value} {w:World} {F:Nat->Prop} {ie:TypeId} {sz:Nat} {c:C} {x:NE} {v:Value} (h:neC (.one c)=some x) (hv:bn φ w F (.u (.one c)) v):nsim φ w F ie sz v undef x/\v.oneCell'=true:=by
 unfold neC at h
 split at h
 ·rename_i t he
  cases he
  cases h
  exact⟨⟨hv.1,hv.2,rfl⟩,hv.2⟩
 ·rename_i t z n he
  cases he
  cases h
  refine⟨⟨hv,rfl⟩,?_⟩
  obtain⟨_,_,_,_,_,_,rfl⟩:=hv
  rfl
 ·cases h
theorem nsim_keep {φ:Nat->Value} {w w':World} {F F':Nat->Prop} {ie:TypeId} {sz:Nat} {x:NE} {c:Value} (hk:Keep F F' w w') (h:nsim φ w F ie sz c undef x):nsim φ w' F' ie sz c undef x:=by
 cases x with
 | rows r=>exact⟨h.1,rowv_keep hk (fun b hb=>by cases hb) h.2⟩
 | own t=>exact h
 | sub t z n=>exact⟨cT hk _ _ h.1,h.2⟩
 | dead=>exact h
theorem mapsetN_sound (ht:TbOk P tb) {t kt e:TypeId} {m k x:Operand} {ti:TI} {s:Nat} {key:Key} {u:U} {kk:KK} {ks:List Key} {ie:TypeId} {sz:Nat} {els:List NE} (hop:o.op=.mapUpdate t m k x) (hdst:o.dst=none) (hty:tb.ty t=some ti)
  (hmv:oev Z m=.u (.one (.map s))) (hkv:vkey (oev Z k)=some key) (hxv:vu (oev Z x)=some u) (hd:ti.desc=.map kt e) (hs':O s=some (.nest (.map kk ks) ie sz els)) (h:stpN' (rMapN (tb.key kt) kk ks ie sz els key u Z O s) K):Step P cx o Z O K:=by
 intro φ a w hs next Q hn
 have hm:=cj hs.core.gw hs.slots m
 have hk:=cj hs.core.gw hs.slots k
 have hx:=cj hs.core.gw hs.slots x
 have T:=ht.ty t ti hty
 unfold rMapN stpN' at h
 split at h
 ·rename_i p Z' O' heq
  split at heq
  ·rename_i x' hnx
   simp only[Option.some.injEq,Prod.mk.injEq] at heq
   obtain⟨rfl,rfl,rfl⟩:=heq
   obtain⟨⟨hkt,hfit,hpos⟩,hK⟩:=h
   have hxe:∃ c',oev Z x=.u (.one c')/\neC (.one c')=some x':=by
    cases hv0:oev Z x with
    | u u' =>
     rw[hv0] at hxv
     simp only[vu,Option.some.injEq] at hxv
     rw[<- hxv] at hnx
     cases u' with
     | one c'=>exact⟨c',rfl,hnx⟩
     | agg cs=>cases hnx
    | tup us=>rw[hv0] at hxv; cases hxv
   obtain⟨c',hxe,hnc⟩:=hxe
   rw[hxe] at hx
   have hlen0:fh ks key < els.length:=by
    obtain⟨_,_,_,_,_,⟨_,_,_,_,_,_,_,_,_,_,_,hl,_⟩,_⟩:=hs.core.objs s _ hs'
    omega
   obtain⟨ψ,out,ivs,cs,hv,hp,hsp,hiv,hco,hvs,hns⟩:=hs.core.deaden hs' hlen0
   obtain⟨b,ents,clk,es,rfl,hh,hes,hb1,hb2,hfits,hnd,hlen,hcs,hkn,hkf,hall⟩:=hsp
   rw[hmv] at hm
   have hme:a.eval m=.map (some b):=by
    have h1:=hvs _ _ hm
    simp only[bn,bD,bl] at h1
    rw[h1.1,hp,dz]
   have hke:=m9 hkv hk
   have hxu:=neC_sound (ie:=ie) (sz:=sz) hnc (hvs _ _ hx)
   obtain⟨hchk,hfind⟩:=mf (P:=P) (w:=w) ht hkt hes hfits hnd hfit
   obtain⟨K',hof⟩:=ht.key kt kk hkt
   obtain⟨lk,hlk⟩:=hof key hfit
   have hbl:b < w.heap.size:=(Array.getElem?_eq_some_iff.1 hh).1
   have hndb:(blks (ψ s)).Nodup:=by
    obtain⟨_,_,_,_,hnd,_⟩:=hco.objs s _ (upd_same _ _ _)
    exact hnd
   have hndb':=hndb
   rw[hp,dX,List.filterMap_cons,show ea (Value.map (some b))=some b from rfl,List.nodup_cons] at hndb'
   have fin:∀ (ents':Array MapEntry) (clk':Nat),(execOp a.eval o).run P w=.ok .skip (dO w b (.map ents' clk'))->(∀ w',dn (fun _=>undef) w' (fun _=>False) (opqs (vset es key (a.eval x))) ents'.toList)->(ents'.toList.map (·.born)).Nodup->(∀ e∈ents'.toList,e.born < clk') ->
     (∀ y∈opqs (vset es key (a.eval x)),y.1.fits kk=true)->((opqs (vset es key (a.eval x))).map (·.1)).Nodup->o.wp P a w next Q:=by
    intro ents' clk' hrun g1 g2 g3 g4 g5
    have key':=hco.mutate (s:=s) (ob:=.nest (.map kk ks) ie sz (els.set (fh ks key) .dead)) (ob':=.nest (.map kk ks) ie sz (els.set (fh ks key) x')) (w':=dO w b (.map ents' clk')) (upd_same _ _ _) (σ1:=O) (fun t o ht ho=>by rw[bc _ _ ht]; exact ho)
     (fun t m l la _ h e=>by
      subst e
      obtain⟨kk,es,hm⟩:=hs.core.itm t m l la h
      rw[hs'] at hm
      cases hm) (fun m kk es hm hms=>by rwa [bc _ _ hms] at hm) (fun m l la h=>by cases h) rfl rfl rfl (Nat.le_refl _) (by simp[dO])
     (fun b' _ hne=>je w b b' _ (fun e=>hne (by rw[hp,hZ]; exact .inl (by rw[e]; rfl)))) (fun hkp=>by
      have h5:=ky (i:=fh ks key) (x:=x') (c:=a.eval x) (iv:=undef) (fS hkp (fun iv hv' b' hb'=>je w b b' _ (fun e=>hndb'.1 (by rw[e]; exact List.mem_filterMap.2 ⟨iv,hv',hb'⟩))) hns) (nsim_keep hkp hxu.1)
      rw[List.set_set,eG hiv] at h5
      refine⟨_,ivs,_,hp,hndb,⟨b,ents',clk',vset es key (a.eval x),rfl,oU w b _ hbl,g1 _,g2,g3,g4,g5,by rw[List.length_set]; exact hlen,rfl,hkn,hkf,fun y hy=>?_⟩,?_⟩
      ·rcases vset_mem hy with h6 | h6
       ·rw[h6]; exact List.mem_of_getElem? (posK_get hpos)
       ·exact hall y h6
      ·rw[map_vget_set hkn hpos,<- hcs]
       exact h5)
    have hs2:Sim cx ψ Z (upd O s (some (.nest (.map kk ks) ie sz (els.set (fh ks key) x')))) (a.put o.dst undef) (dO w b (.map ents' clk')):=by
     rw[hdst]
     exact⟨key'.1,fun t=>cV key'.2 _ _ (hvs _ _ (hs.slots t)),hs.defers,hs.room⟩
    unfold Oper.wp
    rw[hrun]
    exact hn _ _ _ _ _ hs2 hK
   rcases hfind with ⟨h1,h2⟩ | ⟨j,en,x',h1,h2,h3,h4,h5,h6⟩
   ·refine fin (ents.push { key:=key.val,val:=a.eval x,born:=clk }) (clk+1) ?_ ?_ ?_ ?_ ?_ ?_
    ·simp only[execOp,hop,hme,hke,Instr.mapUpdate,Sem.run_bind,T.run_und,Result.andThen_ok,hd,fY hh,hchk,h1,kw hh,Sem.run_pure]
    ·intro w'
     rw[kJ,mq h2,Array.toList_push]
     exact oQ (ol hes) ⟨_,[],rfl,rfl,by simp only[bD,bl]; exact⟨trivial,hxu.2⟩,rfl⟩
    ·grind
    ·intro e he
     grind
    ·intro y hy
     rw[kJ,mq h2] at hy
     grind
    ·rw[kJ,mq h2,List.map_append,List.nodup_append]
     refine⟨hnd,by simp,fun p hp q hq=>?_⟩
     obtain⟨e,he,rfl⟩:=List.mem_map.1 hp
     simp only[List.map_cons,List.map_nil,List.mem_cons,List.not_mem_nil,or_false] at hq
     grind [oJ]
   ·have hej:ents[j]?=some en:=by simpa using h2
    have hlt:j < ents.size:=(Array.getElem?_eq_some_iff.1 hej).1
    have hmod:(ents.modify j fun e=>{ e with key:=key.val,val:=a.eval x }).toList=ents.toList.set j { key:=key.val,val:=a.eval x,born:=en.born }:=by
     apply List.ext_getElem?
     grind
    have hborn:(ents.toList.set j { key:=key.val,val:=a.eval x,born:=en.born }).map (·.born)=ents.toList.map (·.born):=by
     simp_all [eG]
    have hstay:=K'.stays w hlk
    refine fin (ents.modify j fun e=>{ e with key:=key.val,val:=a.eval x }) clk ?_ ?_ ?_ ?_ ?_ ?_
    ·simp only[execOp,hop,hme,hke,Instr.mapUpdate,Sem.run_bind,T.run_und,Result.andThen_ok,hd,fY hh,hchk,h1,hej,Option.map_some,Option.getD_some,h3,hstay,kw hh,Sem.run_pure]
    ·intro w'
     rw[kJ,jz hnd h4,hmod]
     exact esims_set (ol hes) rfl (by simp only[bD,bl]; exact⟨trivial,hxu.2⟩)
    ·simp_all
    ·intro e he
     grind
    ·intro y hy
     rw[kJ,jz hnd h4] at hy
     grind
    ·rw[kJ,jz hnd h4,List.map_set,eG (by simp_all)]
     exact hnd
  ·cases heq
 ·exact h.elim
theorem mapset_sound (ht:TbOk P tb) {t:TypeId} {m k x:Operand} (hop:o.op=.mapUpdate t m k x) (hdst:o.dst=none) (h:lP tb Z O t (oev Z m) (oev Z k) (oev Z x) K):Step P cx o Z O K:=by
 intro φ a w hs next Q hn
 have hm:=cj hs.core.gw hs.slots m
 have hk:=cj hs.core.gw hs.slots k
 have hx:=cj hs.core.gw hs.slots x
 unfold lP at h
 split at h
 ·rename_i ti s key u hty hmv hkv hxv
  have T:=ht.ty t ti hty
  split at h
  ·rename_i kt e kk es hd hs'
   obtain⟨hkt,hfit,hK⟩:=h
   obtain⟨b,ents,clk,hp,hh,hes,hb1,hb2,hfits,hnd⟩:=hs.core.objs s _ hs'
   rw[hmv] at hm
   have hme:a.eval m=.map (some b):=hm.1.trans (by rw[hp]; rfl)
   have hke:=m9 hkv hk
   have hxu:bD φ w (cx.fr φ O) u (a.eval x):=by
    unfold vu at hxv
    split at hxv
    ·cases hxv
     rename_i hxe
     rw[hxe] at hx
     exact hx
    ·cases hxv
   obtain⟨hchk,hfind⟩:=mf (P:=P) (w:=w) ht hkt hes hfits hnd hfit
   obtain⟨K',hof⟩:=ht.key kt kk hkt
   obtain⟨lk,hlk⟩:=hof key hfit
   rcases hfind with ⟨h1,h2⟩ | ⟨j,en,x',h1,h2,h3,h4,h5,h6⟩
   ·have hw:=mapWrite hs.core hs' hp hh (es':=mset es key u) (ents':=ents.push { key:=key.val,val:=a.eval x,born:=clk }) (clk':=clk+1)
     (fun F' w' hkp=>by
      rw[mq h2,Array.toList_push]
      exact oQ (fR hkp hes) ⟨_,[],rfl,rfl,jK hkp _ _ hxu,rfl⟩)
     (by
      grind)
     (fun e he=>by
      grind)
     (fun y hy=>by
      rw[mq h2] at hy
      grind)
     (by
      rw[mq h2,List.map_append,List.nodup_append]
      refine⟨hnd,by simp,fun p hp q hq=>?_⟩
      obtain⟨e,he,rfl⟩:=List.mem_map.1 hp
      simp only[List.map_cons,List.map_nil,List.mem_cons,List.not_mem_nil,or_false] at hq
      grind [oJ])
    have hrun:(execOp a.eval o).run P w=.ok .skip (dO w b (.map (ents.push { key:=key.val,val:=a.eval x,born:=clk }) (clk+1))):=by
     simp only[execOp,hop,hme,hke,Instr.mapUpdate,Sem.run_bind,T.run_und,Result.andThen_ok,hd,fY hh,hchk,h1,kw hh,Sem.run_pure]
    unfold Oper.wp
    rw[hrun]
    refine hn φ Z _ _ _ ?_ hK
    rw[hdst]
    exact hs.written hw
   ·have hej:ents[j]?=some en:=by simpa using h2
    have hlt:j < ents.size:=(Array.getElem?_eq_some_iff.1 hej).1
    have hmod:(ents.modify j fun e=>{ e with key:=key.val,val:=a.eval x }).toList=ents.toList.set j { key:=key.val,val:=a.eval x,born:=en.born }:=by
     apply List.ext_getElem?
     grind
    have hborn:(ents.toList.set j { key:=key.val,val:=a.eval x,born:=en.born }).map (·.born)=ents.toList.map (·.born):=by
     simp_all [eG]
    have hw:=mapWrite hs.core hs' hp hh (es':=mset es key u) (ents':=ents.modify j fun e=>{ e with key:=key.val,val:=a.eval x }) (clk':=clk)
     (fun F' w' hkp=>by
      rw[jz hnd h4,hmod]
      exact esims_set (fR hkp hes) rfl (jK hkp _ _ hxu))
     (by simp_all)
     (fun e he=>by
      grind)
     (fun y hy=>by
      rw[jz hnd h4] at hy
      grind)
     (by
      rw[jz hnd h4,List.map_set,eG (by simp_all)]
      exact hnd)
    have hstay:=K'.stays w hlk
    have hrun:(execOp a.eval o).run P w=.ok .skip (dO w b (.map (ents.modify j fun e=>{ e with key:=key.val,val:=a.eval x }) clk)):=by
     simp only[execOp,hop,hme,hke,Instr.mapUpdate,Sem.run_bind,T.run_und,Result.andThen_ok,hd,fY hh,hchk,h1,hej,Option.map_some,Option.getD_some,h3,hstay,kw hh,Sem.run_pure]
    unfold Oper.wp
    rw[hrun]
    refine hn φ Z _ _ _ ?_ hK
    rw[hdst]
    exact hs.written hw
  ·rename_i kt e kk ks ie sz els hd hs'
   exact mapsetN_sound ht hop hdst hty hmv hkv hxv hd hs' h φ a w hs next Q hn
  ·exact h.elim
 ·exact h.elim
theorem delete_sound (ht:TbOk P tb) {t t':TypeId} {m k:Operand} {args:Array Operand} {ats:Array TypeId} (hop:o.op=.call { callee:=.builtin .delete,args:=args,argTypes:=ats }) (hargs:args.toList=[m,k]) (hats:ats.toList=[t,t'])
  (hd':∀ x,o.dst=some x->x < cx.n) (h:aDelete tb Z O o.dst t (oev Z m) (oev Z k) K):Step P cx o Z O K:=by
 intro φ a w hs next Q hn
 obtain⟨args⟩:=args
 obtain⟨ats⟩:=ats
 simp only at hargs hats
 subst hargs hats
 have hm:=cj hs.core.gw hs.slots m
 have hk:=cj hs.core.gw hs.slots k
 unfold aDelete at h
 split at h
 ·rename_i ti s key hty hmv hkv
  have T:=ht.ty t ti hty
  split at h
  ·rename_i kt e kk es hd hs'
   obtain⟨hkt,hfit,hK⟩:=h
   obtain⟨b,ents,clk,hp,hh,hes,hb1,hb2,hfits,hnd⟩:=hs.core.objs s _ hs'
   rw[hmv] at hm
   have hme:a.eval m=.map (some b):=hm.1.trans (by rw[hp]; rfl)
   have hke:=m9 hkv hk
   obtain⟨hchk,hfind⟩:=mf (P:=P) (w:=w) ht hkt hes hfits hnd hfit
   rcases hfind with ⟨h1,h2⟩ | ⟨j,en,x',h1,h2,h3,h4,h5,h6⟩
   ·have hw:=mapWrite hs.core hs' hp hh (es':=mdel es key) (ents':=ents) (clk':=clk) (fun F' w' hkp=>by grind [mdel_none,fR]) hb1 hb2 (by rw[mdel_none h2]; exact hfits) (by rw[mdel_none h2]; exact hnd)
    refine Step.of_run (u:=.tuple #[]) (w':=dO w b (.map ents clk)) ?_ ((hs.written hw).put hd' (v:=.tup []) ⟨#[],rfl,rfl⟩) hK hn
    unfold execOp
    simp only[hop,resolve,invoke,builtin,Builtin.delete_,Sem.run_bind,Sem.run_pure,Result.andThen_ok,List.map_toArray,List.map_cons,List.map_nil,List.getElem?_toArray,List.getElem?_cons_zero,List.getElem?_cons_succ,hme,hke,T.run_und,hd,fY hh,hchk,h1,kw hh]
   ·have hej:ents[j]?=some en:=by simpa using h2
    have hlt:j < ents.size:=(Array.getElem?_eq_some_iff.1 hej).1
    have hel:(ents.eraseIdxIfInBounds j).toList=ents.toList.eraseIdx j:=by
     simp
    have hw:=mapWrite hs.core hs' hp hh (es':=mdel es key) (ents':=ents.eraseIdxIfInBounds j) (clk':=clk) (fun F' w' hkp=>by rw[og hnd h4,hel]; exact mN (fR hkp hes))
     (by grind) (fun e he=>by grind)
     (fun y hy=>by rw[og hnd h4] at hy; exact hfits y (List.mem_of_mem_eraseIdx hy)) (by rw[og hnd h4]; grind)
    refine Step.of_run (u:=.tuple #[]) (w':=dO w b (.map (ents.eraseIdxIfInBounds j) clk)) ?_ ((hs.written hw).put hd' (v:=.tup []) ⟨#[],rfl,rfl⟩) hK hn
    unfold execOp
    simp only[hop,resolve,invoke,builtin,Builtin.delete_,Sem.run_bind,Sem.run_pure,Result.andThen_ok,List.map_toArray,List.map_cons,List.map_nil,List.getElem?_toArray,List.getElem?_cons_zero,List.getElem?_cons_succ,hme,hke,T.run_und,hd,fY hh,hchk,h1,kw hh]
  ·exact h.elim
 ·exact h.elim
theorem makeMap_sound (ht:TbOk P tb) {d:Nat} {t:TypeId} {r:Option Operand} (hop:o.op=.makeMap t r) (hdst:o.dst=some d) (hd:d < cx.n) (hd':d < inBase) (h:kT tb Z O d t (r.map (oev Z)) K):Step P cx o Z O K:=by
 intro φ a w hs next Q hn
 unfold kT at h
 split at h
 ·rename_i ti hty
  have T:=ht.ty t ti hty
  split at h
  ·rename_i kt e hde
   split at h
   ·rename_i kk hkk
    obtain⟨hr,hK⟩:=h
    have hb:Blw w.heap.size w (w.alloc (.map #[] 0)):=(Blw.refl _ _).alloc (Nat.le_refl _) _
    have key:=hs.core.replace (so:=none) (d:=d) (hv:=.map (some w.heap.size)) (ob:=.map kk []) (w':=w.alloc (.map #[] 0)) hd' (fun _ _ h=>by cases h) hb.os hb.tape hb.output hb.drawn hb.size
     (fun b hl _=>hb.block b hl) (fun b hbk=>by simp_all) (fun _ _ _ h=>by cases h)
     (fun _=>⟨w.heap.size,#[],0,upd_same _ _ _,heap_alloc_new w _,rfl,by simp,by simp,by simp,by simp⟩)
    rw[iG] at key
    refine Step.of_run (u:=.map (some w.heap.size)) (w':=w.alloc (.map #[] 0)) ?_ (by rw[hdst]; exact Sim.new hs hd key rfl (by simp only[bl]; exact⟨(by rw[upd_same]; rfl),rfl⟩)) hK hn
    have hnew:(newObj (.map #[] 0)).run P w=.ok w.heap.size (w.alloc (.map #[] 0)):=rfl
    cases r with
    | none=>simp only[execOp,hop,Instr.makeMap,Option.map_none,Sem.run_bind,Sem.run_pure,Result.andThen_ok,hnew]
    | some x =>
     have hx:=cj hs.core.gw hs.slots x
     simp only[Option.map_some] at hr
     unfold qint at hr
     split at hr
     ·rename_i q n hxe
      rw[hxe] at hx
      simp only[bn,bD,bl,rep] at hx
      simp only[execOp,hop,Instr.makeMap,Option.map_some,Sem.run_bind,Sem.run_pure,Result.andThen_ok,T.run_und,hde,hx,asInt,asIntOf,hnew]
     ·cases hr
   ·exact h.elim
  ·exact h.elim
 ·exact h.elim
theorem makeSlice_sound (ht:TbOk P tb) {d:Nat} {t:TypeId} {x c:Operand} (hop:o.op=.makeSlice t x c) (hdst:o.dst=some d) (hd:d < cx.n) (hd':d < inBase) (h:il tb Z O d t (oev Z x) (oev Z c) K):Step P cx o Z O K:=by
 intro φ a w hs next Q hn
 unfold il at h
 split at h
 ·rename_i ti hty
  have T:=ht.ty t ti hty
  split at h
  ·rename_i e hde
   split at h
   ·rename_i te hte
    have TE:=ht.ty e te hte
    split at h
    ·rename_i n m zr hx hc hz
     obtain⟨⟨h0,hnm,hsz,hby,hbm⟩,hK⟩:=h
     have hx':=cj hs.core.gw hs.slots x
     have hc':=cj hs.core.gw hs.slots c
     rw[hx] at hx'
     rw[hc] at hc'
     simp only[bn,bD,bl,rep] at hx' hc'
     obtain⟨i,hi,hi1,hi2,hi3⟩:=TE.get
     obtain⟨zs,hzs,hzr⟩:=Option.bind_eq_some_iff.1 hz
     have hzc:=eL (φ:=φ) (w:=w) (F:=cx.fr φ O) hzs (TE.zero _ _ _)
     rw[nQ hzr] at hzc
     have hm0:0<=m:=by omega
     obtain⟨N,rfl⟩:=Int.eq_ofNat_of_zero_le h0
     obtain⟨M,rfl⟩:=Int.eq_ofNat_of_zero_le hm0
     have hNM:N<=M:=by omega
     have hMM:M<=M*te.bytes:=Nat.le_mul_of_pos_right _ hby
     have hbM:M*te.bytes<=140737488355328:=by omega
     have hwN:IntKind.i64.wrap (N:Int)=N:=IntWalk.i64_in _ ⟨by omega,by omega⟩
     have hwM:IntKind.i64.wrap (M:Int)=M:=IntWalk.i64_in _ ⟨by omega,by omega⟩
     have hzcs:=TE.zsize
     have hbi:¬ ((te.bytes:Int)*(M:Int) > 2 ^ 48):=by
      grind
     have hroom:∀ b:Nat,(askRoom b).run P w=.ok () w:=fun b=>by simp
     let cells:Array Value:=(Array.range (M*te.zv.cells.size)).map fun j=>te.zv.cells[j % te.zv.cells.size]!
     have hrun:(Instr.makeSlice t (.int .i64 N) (.int .i64 M)).run P w=.ok (.slice (some ⟨w.heap.size,0,none⟩) N M) (w.alloc (.cells cells e)):=by
      have hnew:∀ cs:Array Value,(newRow e cs).run P w=.ok ⟨w.heap.size,0,none⟩ (w.alloc (.cells cs e)):=fun cs=>rfl
      have hM0:¬ ((M:Int) < 0):=by omega
      have hN0:¬ ((N:Int) < 0):=by omega
      have hNM0:¬ ((N:Int) > M):=by omega
      have hti:(typeInfo e).run P w=.ok i w:=by simp[typeInfo,hi]
      unfold Instr.makeSlice
      simp only[Sem.run_bind,T.run_und,Result.andThen_ok,hde,asInt,asIntOf,Sem.run_pure,hti,hi2,hwN,hwM,hM0,hN0,hNM0,hbi,decide_false,Bool.or_self,Bool.false_eq_true,if_false,hroom,TE.run_size,Int.toNat_natCast]
      split
      ·rename_i h0
       have:M*te.size=0:=h0
       simp only[Sem.run_bind,Sem.run_pure,Result.andThen_ok,hnew]
       grind
      ·simp only[Sem.run_bind,TE.run_zero,Sem.run_pure,Result.andThen_ok,hnew]
       grind
     have hb:Blw w.heap.size w (w.alloc (.cells cells e)):=(Blw.refl _ _).alloc (Nat.le_refl _) _
     have hzl:=bT hzc
     simp only[List.length_map,Array.length_toList] at hzl
     rw[hzcs] at hzl
     have hcells:bh φ w (cx.fr φ O) ((List.replicate M zr).flatten.map C.d) cells.toList:=by
      exact zero_cells hzc M
     have hcs:cells.size=M*te.size:=by simp[cells,hzcs]
     have key:=hs.core.replace (so:=none) (d:=d) (hv:=.slice (some ⟨w.heap.size,0,none⟩) N M) (ob:=.row te.size e (List.replicate N zr)) (w':=w.alloc (.cells cells e)) hd' (fun _ _ h=>by cases h) hb.os hb.tape hb.output hb.drawn hb.size
      (fun b hl _=>hb.block b hl) (fun b hbk=>by
       simp_all) (fun _ _ _ h=>by cases h)
      (fun hk=>by
       refine⟨fun r hr=>by simp_all,?_⟩
       by_cases hM:M=0
       ·have hN:N=0:=by omega
        subst hM hN
        exact .inl ⟨rfl,_,upd_same _ _ _⟩
       ·refine .inr ⟨w.heap.size,M,cells,by omega,by rw[List.length_replicate]; exact upd_same _ _ _,by simpa using hNM,by simp only[maxLen]; omega,heap_alloc_new w _,hcs,?_⟩
        have h1:=eu (N*te.size) hcells
        have h2:((List.replicate M zr).flatten.map C.d).take (N*te.size)=(List.replicate N zr).flatten.map C.d:=by
         rw[<- List.map_take]
         congr 1
         rw[show M=N+(M - N) from by omega,<- List.replicate_append_replicate,List.flatten_append,List.take_append_of_le_length (by simp[hzl]),List.take_of_length_le (by simp[hzl])]
        grind [fg,bO])
     rw[iG] at key
     refine Step.of_run (u:=.slice (some ⟨w.heap.size,0,none⟩) N M) (w':=w.alloc (.cells cells e)) ?_ (by rw[hdst]; exact Sim.new hs hd key rfl (by simp only[bl]; exact⟨(by rw[upd_same]; rfl),rfl⟩)) hK hn
     simp only[execOp,hop,hx',hc',hrun,Sem.run_bind,Sem.run_pure,Result.andThen_ok]
    ·exact h.elim
   ·exact h.elim
  ·exact h.elim
 ·exact h.elim
theorem range_sound (ht:TbOk P tb) {d:Nat} {t:TypeId} {x:Operand} (hop:o.op=.range t x) (hdst:o.dst=some d) (hd:d < cx.n) (hd':d < inBase) (h:aRange tb Z O d t (oev Z x) K):Step P cx o Z O K:=by
 intro φ a w hs next Q hn
 have hx:=cj hs.core.gw hs.slots x
 unfold aRange at h
 split at h
 ·rename_i ti s hty hxv
  have T:=ht.ty t ti hty
  split at h
  ·rename_i kt e kk es hde hs'
   obtain⟨hsd,hK⟩:=h
   obtain⟨c,ents,clk,hp,hh,hes,hb1,hb2,hfits,hnd⟩:=hs.core.objs s _ hs'
   rw[hxv] at hx
   have hxe:a.eval x=.map (some c):=hx.1.trans (by rw[hp]; rfl)
   have hb:Blw w.heap.size w (w.alloc (.mapIter (some c) clk #[] clk)):=(Blw.refl _ _).alloc (Nat.le_refl _) _
   have hcl:c < w.heap.size:=(Array.getElem?_eq_some_iff.1 hh).1
   have key:=hs.core.replace (so:=none) (d:=d) (hv:=.pointer (some ⟨w.heap.size,0,none⟩)) (ob:=.iter s (es.map fun x=>(x.1,x.2.wipe d)) none) (w':=w.alloc (.mapIter (some c) clk #[] clk)) hd' (fun _ _ h=>by cases h) hb.os hb.tape hb.output hb.drawn hb.size
    (fun b hl _=>hb.block b hl) (fun b hbk=>by simp_all) (fun m l la h=>by simp_all)
    (fun hkp=>⟨w.heap.size,c,ents,clk,#[],upd_same _ _ _,(bc _ _ hsd).trans hp,heap_alloc_new w _,(Below.heap_alloc w _ c hcl).trans hh,by
     have:(ents.toList.filter fun e=>!(#[]:Array Nat).contains e.born)=ents.toList:=by simp
     rw[this]
     exact oh (fun t ht=>bc _ _ ht) (fR hkp hes),hb1,hb2,fun _ h=>by cases h⟩)
   rw[iG] at key
   refine Step.of_run (u:=.pointer (some ⟨w.heap.size,0,none⟩)) (w':=w.alloc (.mapIter (some c) clk #[] clk)) ?_ (by rw[hdst]; exact Sim.new hs hd key rfl (by simp only[bl]; exact⟨(by rw[upd_same]; rfl),rfl⟩)) hK hn
   have hnew:∀ ob,(newObj ob).run P w=.ok w.heap.size (w.alloc ob):=fun _=>rfl
   simp only[execOp,hop,Instr.range,Sem.run_bind,Sem.run_pure,Result.andThen_ok,T.run_und,hde,hxe,fY hh,hnew]
  ·exact h.elim
 ·exact h.elim
theorem filter_born:∀ {l:List MapEntry} {k:Nat} {e:MapEntry},(l.map (·.born)).Nodup->l[k]?=some e->(l.filter fun x=>!(x.born == e.born))=l.eraseIdx k
 | [],k,_,_,h=>by simp at h
 | y::l,0,e,hn,h=>by
  simp_all
 | y::l,k+1,e,hn,h=>by
  simp only[List.map_cons,List.nodup_cons] at hn
  simp only[List.getElem?_cons_succ] at h
  have:y.born≠e.born:=fun he=>hn.1 (by grind)
  simp only[List.filter_cons,List.eraseIdx_cons_succ]
  rw[if_pos (by simpa using this),filter_born hn.2 h]
theorem find_born:∀ {l:List MapEntry} {e:MapEntry},(l.map (·.born)).Nodup->e∈l->l.find? (·.born == e.born)=some e
 | [],_,_,h=>by cases h
 | y::l,e,hn,h=>by
  simp only[List.map_cons,List.nodup_cons] at hn
  rcases List.mem_cons.1 h with rfl | h
  ·simp
  ·have:y.born≠e.born:=fun he=>hn.1 (by grind)
   rw[List.find?_cons_of_neg (by simpa using this)]
   exact find_born hn.2 h
theorem usim_key (k:Key):bD φ w F k.u k.val:=by
 cases k with
 | int k n=>rfl
 | str s=>rfl
 | ints l =>
  refine⟨_,rfl,?_⟩
  have:∀ l:List Int,bh φ w F (l.map fun n=>C.d (.int .i64 n)) (l.map (Value.int .i64)):=by
   intro l
   induction l with
   | nil=>simp[bh]
   | cons n l ih=>simp only[List.map_cons,bh]; exact⟨_,_,rfl,by simp[bl,rep],ih⟩
  simpa using this l
theorem entry_sound {d:Nat} {x:Operand} (hop:o.op=.entry x) (hdst:o.dst=some d) (hd:d < cx.n) (h:aEntry Z O d (oev Z x) K):Step P cx o Z O K:=by
 intro φ a w hs next Q hn
 have hx:=cj hs.core.gw hs.slots x
 unfold aEntry at h
 split at h
 ·rename_i s hxv
  split at h
  ·rename_i m left y hs'
   obtain⟨b,c,ents,clk,seen,hp,hq,hh,hh',hc,h1,h2,h3⟩:=hs.core.objs s _ hs'
   obtain⟨e,a1,a2,a3,a4⟩:=h3 y rfl
   rw[hxv] at hx
   have hxe:a.eval x=.pointer (some ⟨b,0,none⟩):=hx.1.trans (by rw[hp]; rfl)
   have hgi:(getObj b).run P w=.ok (.mapIter (some c) clk seen clk) w:=by simp[getObj,Sem.run,hh]
   refine Step.of_run (u:=.tuple #[e.key,e.val]) (w':=w) ?_ (hs.put (d:=o.dst) (v:=.tup [y.1.u,y.2]) (fun z hz=>by simp_all)
    ⟨_,rfl,e.key,[e.val],rfl,by rw[a3]; exact usim_key _,e.val,[],rfl,a4,rfl⟩) (by rw[hdst]; exact h) hn
   simp[execOp,hop,Instr.entry,hxe,hgi,a1,fY hh',a2]
  ·exact h.elim
 ·exact h.elim
theorem next_sound {d:Nat} {x:Operand} (hop:o.op=.next x false) (hdst:o.dst=some d) (hd:d < cx.n) (h:aNext Z O d (oev Z x) K):Step P cx o Z O K:=by
 intro φ a w hs next Q hn
 have hx:=cj hs.core.gw hs.slots x
 unfold aNext at h
 split at h
 ·rename_i s hxv
  split at h
  ·rename_i m left la hs'
   obtain⟨hK1,hK2⟩:=h
   obtain⟨b,c,ents,clk,seen,hp,hq,hh,hh',hc,h1,h2,h3⟩:=hs.core.objs s _ hs'
   rw[hxv] at hx
   have hxe:a.eval x=.pointer (some ⟨b,0,none⟩):=hx.1.trans (by rw[hp]; rfl)
   have hgi:(getObj b).run P w=.ok (.mapIter (some c) clk seen clk) w:=by simp[getObj,Sem.run,hh]
   have hcond:(!seen.isEmpty && !ents.isEmpty && ents.all (·.born≥clk))=false:=by
    cases hE:ents.isEmpty with
    | true=>simp
    | false =>
     simp only[Bool.not_false,Bool.and_true,Bool.and_eq_false_iff]
     right
     rw[Bool.eq_false_iff]
     intro hall
     have hne:ents.toList≠[]:=fun e=>by
      simp_all
     obtain⟨e,he⟩:=List.exists_mem_of_ne_nil _ hne
     grind
   have hbl:∀ e∈(ents.filter fun e=>!seen.contains e.born).toList,e.born < clk:=fun e he=>h2 e (by
    simp_all)
   have hold:((ents.filter fun e=>!seen.contains e.born).filter (·.born < clk))=(ents.filter fun e=>!seen.contains e.born):=by
    grind [Array.ext',Array.toList_filter,List.filter_eq_self]
   have hnew:((ents.filter fun e=>!seen.contains e.born).filter (·.born≥clk))=#[]:=by
    apply Array.ext'
    rw[Array.toList_filter,List.filter_eq_nil_iff]
    simp_all
   have hfl:(ents.filter fun e=>!seen.contains e.born).toList=ents.toList.filter fun e=>!seen.contains e.born:=Array.toList_filter
   rw[<- hfl] at hc
   generalize hL:(ents.filter fun e=>!seen.contains e.born)=L at *
   have hll:=oS hc
   simp only[Array.length_toList] at hll
   by_cases hz:L.size=0
   ·have hLe:L=#[]:=Array.eq_empty_of_size_eq_zero hz
    subst hLe
    have hle:left=[]:=List.eq_nil_of_length_eq_zero (by simpa using hll)
    refine Step.of_run (u:=.tuple #[.bool false]) (w':=w) ?_ (hs.put (d:=o.dst) (v:=.tup [.one (.d (.bool false))]) (fun z hz=>by simp_all)
     ⟨_,rfl,_,[],rfl,by rfl,rfl⟩) (by rw[hdst]; exact hK1 hle) hn
    simp only[execOp,hop,Instr.next,hxe,Sem.run_bind,Sem.run_pure,Result.andThen_ok,hgi,fY hh',hcond,Bool.false_eq_true,if_false,hL,hold,hnew]
    have e1:((if (#[]:Array MapEntry).isEmpty=true then (#[none]:Array (Option MapEntry)) else #[])++Array.map some ((#[]:Array MapEntry)++(#[]:Array MapEntry)))=#[none]:=by simp
    have e2:(choose (.mapNext (#[none]:Array (Option MapEntry)).size)).run P w=.ok 0 w:=by rfl
    rw[e1,e2]
    rfl
   ·-- some entry is picked
    have pick:∃ (k:Nat) (n:Nat),k < L.size/\(choose (.mapNext ((#[]:Array (Option MapEntry))++(L++(#[]:Array MapEntry)).map some).size)).run P w=.ok k (w.drewN n):=by
     have hsz:((#[]:Array (Option MapEntry))++(L++(#[]:Array MapEntry)).map some).size=L.size:=by simp
     rw[hsz]
     by_cases h1:L.size<=1
     ·exact⟨0,0,by omega,by simp[choose,Sem.run,Question.forced,h1]; rfl⟩
     ·exact⟨_,1,Nat.mod_lt (w.tape w.drawn (.mapNext L.size)) (by omega),by simp[choose,Sem.run,Question.forced,h1,Question.cut]; rfl⟩
    obtain⟨k,n,hk,hpick⟩:=pick
    have hLk:L.toList[k]?=some L[k]:=by simp[hk]
    obtain⟨y,hy,hyk,hyv⟩:=esims_get hc hLk
    have hmem:L[k]∈ents.toList:=by
     grind
    have hbd:Blw w.heap.size w (w.drewN n):=⟨⟨rfl,rfl,rfl,Nat.le_refl _,fun _ _=>rfl⟩,lf (by simp[World.drewN])⟩
    have hcd:=hs.core.below hbd
    have hbl':b < w.heap.size:=(Array.getElem?_eq_some_iff.1 hh).1
    have hbc:b≠c:=fun e=>by simp_all
    obtain⟨kk,es,hsm⟩:=hs.core.itm s m left la hs'
    have hms:m≠s:=fun e=>by simp_all
    have hw:=hcd.mutate (s:=s) (ob':=.iter m (left.eraseIdx k) (some y)) (w':=dO (w.drewN n) b (.mapIter (some c) clk (seen.push L[k].born) clk)) hs' (σ1:=O) (fun _ _ _ h=>h)
     (fun t m' l la' _ h e=>by
      subst e
      obtain⟨_,_,hm⟩:=hs.core.itm t _ l la' h
      simp_all) (fun _ _ _ h _=>h) (fun m' l la' h=>by simp_all) rfl rfl rfl (Nat.le_refl _) (by simp[dO])
     (fun b' _ hne=>je _ b b' _ (fun e=>hne (by rw[hp,e]; simp)))
     (fun hkp=>by
      refine⟨b,c,ents,clk,seen.push L[k].born,hp,hq,oU _ b _ hbl',(je _ b c _ hbc).trans hh',?_,h1,h2,fun x hx=>?_⟩
      ·have hf:(ents.toList.filter fun e=>!(seen.push L[k].born).contains e.born)=L.toList.eraseIdx k:=by
        have hnd:(L.toList.map (·.born)).Nodup:=by grind
        rw[<- filter_born hnd hLk,hfl,List.filter_filter]
        apply List.filter_congr
        intro e _
        simp only[Array.contains_push,Bool.not_or]
        rw[Bool.and_comm]
       rw[hf]
       exact mN (fR hkp (fR (Keep.of_below hbd) hc))
      ·cases hx
       refine⟨L[k],by simp,?_,hyk,jK hkp _ _ (jK (Keep.of_below hbd) _ _ hyv)⟩
       rw[<- Array.find?_toList]
       exact find_born h1 hmem)
    refine Step.of_run (u:=.tuple #[.bool true,L[k].key,L[k].val]) (w':=dO (w.drewN n) b (.mapIter (some c) clk (seen.push L[k].born) clk)) ?_
     ((Sim.written (hs.below hbd) hw).put (d:=o.dst) (v:=.tup [.one (.d (.bool true)),y.1.u,y.2]) (fun z hz=>by simp_all)
      ⟨_,rfl,_,_,rfl,by rfl,_,_,rfl,by rw[hyk]; exact usim_key _,_,[],rfl,cV hw.2 (.u y.2) _ (cV (Keep.of_below hbd) (.u y.2) _ hyv),rfl⟩) (by rw[hdst]; exact hK2 k y hy) hn
    have hLne:L.isEmpty=false:=by simp_all
    have hset:∀ ob,(setObj b ob).run P (w.drewN n)=.ok () (dO (w.drewN n) b ob):=fun ob=>by simp[setObj,Sem.run,hh,dO]
    have hget:((#[]:Array (Option MapEntry))++(L++(#[]:Array MapEntry)).map some)[k]?=some (some L[k]):=by simp[hk]
    simp only[execOp,hop,Instr.next,hxe,Sem.run_bind,Sem.run_pure,Result.andThen_ok,hgi,fY hh',hcond,Bool.false_eq_true,if_false,hL,hold,hnew,hLne,hpick,hget,hset]
  ·exact h.elim
 ·exact h.elim
end
end Go.AM
