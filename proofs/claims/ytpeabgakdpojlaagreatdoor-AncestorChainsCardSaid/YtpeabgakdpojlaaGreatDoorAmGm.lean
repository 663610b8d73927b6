/- Lemmas for the law. -/
import Derived.Test.YtpeabgakdpojlaaGreatDoorAmGf
namespace Go.AM
open Go.RowKit
section
variable {e:Nat} {g:Aj} {n:Nat}
mutual
theorem C.ren_ment (hg:∀t,inBase<=t->t<inBase+n->g t≠e):∀c:C,c.inN n=true->(c.ren g).ment e=false|.top,_=>rfl|.d _,_=>rfl|.ref _ _,_=>rfl|.nilmap,_=>rfl|.opq _,_=>rfl|.box t _,h=>by simp only[C.inN,Bool.and_eq_true,decide_eq_true_eq] at h;simp[C.ren,C.ment,hg t h.1 h.2]|.own t,h=>by simp only[C.inN,Bool.and_eq_true,decide_eq_true_eq] at h;simp[C.ren,C.ment,hg t h.1 h.2]|.elt t _ _ _,h=>by simp only[C.inN,Bool.and_eq_true,decide_eq_true_eq] at h;simp[C.ren,C.ment,hg t h.1 h.2]|.map t,h=>by simp only[C.inN,Bool.and_eq_true,decide_eq_true_eq] at h;simp[C.ren,C.ment,hg t h.1 h.2]|.iter t,h=>by simp only[C.inN,Bool.and_eq_true,decide_eq_true_eq] at h;simp[C.ren,C.ment,hg t h.1 h.2]|.sub t _ _ _,h=>by simp only[C.inN,Bool.and_eq_true,decide_eq_true_eq] at h;simp[C.ren,C.ment,hg t h.1 h.2]|.fn _ caps,h=>by simp only[C.inN] at h;simp only[C.ren,C.ment];exact C.rens_ment hg caps h
theorem C.rens_ment (hg:∀t,inBase<=t->t<inBase+n->g t≠e):∀cs:As,C.inNs n cs=true->C.ments e (C.rens g cs)=false|[],_=>rfl|c::cs,h=>by simp only[C.inNs,Bool.and_eq_true] at h;simp only[C.rens,C.ments,Bool.or_eq_false_iff];exact⟨C.ren_ment hg c h.1,C.rens_ment hg cs h.2⟩
end
theorem C.ren_wipe (hg:∀t,inBase<=t->t<inBase+n->g t≠e) (c:C) (h:c.inN n=true):(c.ren g).wipe e=c.ren g:=by rw[C.wipe_eq,C.ren_ment hg c h];rfl
theorem C.rens_wipe (hg:∀t,inBase<=t->t<inBase+n->g t≠e):∀cs:As,C.inNs n cs=true->(C.rens g cs).map (C.wipe e)=C.rens g cs|[],_=>rfl|c::cs,h=>by simp only[C.inNs,Bool.and_eq_true] at h;simp only[C.rens,List.map_cons,C.ren_wipe hg c h.1,C.rens_wipe hg cs h.2]
theorem U.ren_wipe (hg:∀t,inBase<=t->t<inBase+n->g t≠e) (u:U) (h:u.inN n=true):(u.ren g).wipe e=u.ren g:=by
 cases u with
 |one c=>simp only[U.ren,U.wipe,C.ren_wipe hg c h]|agg cs=>simp only[U.ren,U.wipe,C.rens_wipe hg cs h]
theorem Ob.ren_wipe (hg:∀t,inBase<=t->t<inBase+n->g t≠e) (o:Ob) (h:o.inN n=true):(o.ren g).wipe e=some (o.ren g):=by
 cases o with
 |box cs=>simp only[Ob.ren,Ob.wipe,C.rens_wipe hg cs h]|row sz t rows=>rfl|map kk es=>simp only[Ob.inN,List.all_eq_true] at h;simp only[Ob.ren,Ob.wipe,List.map_map,Option.some.injEq,Ob.map.injEq,true_and];exact List.map_congr_left λx hx=>by simp only[Function.comp,U.ren_wipe hg x.2 (h x hx)]|iter m l la=>(cases h)|nest e ie sz els=>simp only[Ob.ren,Ob.wipe,closed_ren h,closed_wipe h]
theorem Ob.wipe_keep {d:Nat} {o o':Ob} (h:o.wipe e=some o) (h':o.wipe d=some o'):o'.wipe e=some o':=by
 cases o with
 |box cs=>
  cases h';simp only[Ob.wipe,Option.some.injEq,Ob.box.injEq,List.map_map] at h⊢
  conv=>rhs;rw[<- h]
  simp[C.wipe_comm]
 |row sz t rows=>(cases h';rfl)|map kk es=>
  cases h';simp only[Ob.wipe,Option.some.injEq,Ob.map.injEq,true_and,List.map_map] at h⊢
  conv=>rhs;rw[<- h]
  simp[U.wipe_comm]
 |iter m l la=>
  simp only[Ob.wipe] at h h';split at h';{cases h'}
  ·rename_i hm;cases h';split at h;{cases h}
   ·rename_i hme;simp only[Option.some.injEq,Ob.iter.injEq,true_and] at h;simp only[Ob.wipe,if_neg hme,Option.some.injEq,Ob.iter.injEq,true_and,List.map_map];refine⟨?_,?_⟩
    ·conv=>rhs;rw[<- h.1]
     simp[U.wipe_comm]
    ·conv=>rhs;rw[<- h.2]
     cases la<;>simp[U.wipe_comm d e]
 |nest e' ie sz els=>
  cases h';simp only[Ob.wipe,Option.some.injEq,Ob.nest.injEq,true_and,List.map_map] at h⊢
  conv=>rhs;rw[<- h]
  simp[NE.wipe_comm]
theorem wipeLO_keep:∀(ds:A5) {o o':Ob},o.wipe e=some o->lh ds (some o)=some o'->o'.wipe e=some o'
 |[],o,o',h,h'=>by cases h';exact h
 |d::ds,o,o',h,h'=>by
  have h1:lh ds (o.wipe d)=some o':=h';cases ho:o.wipe d with
  |none=>simp_all[pg]|some o1=>rw[ho] at h1;exact wipeLO_keep ds (Ob.wipe_keep h ho) h1
theorem wipeLO_box:∀(ds:A5) {cs:As},(∀d∈ds,cs.map (C.wipe d)=cs)->lh ds (some (.box cs))=some (.box cs)|[],_,_=>rfl|d::ds,cs,h=>by show lh ds (some (.box (cs.map (C.wipe d))))=_;rw[h d (by simp)];exact wipeLO_box ds λd hd=>h d (by simp[hd])
theorem wipes_eqL:∀(ds:A5) (v:V),wipeLV ds v=V.wipes ds v|[],_=>rfl|d::ds,v=>wipes_eqL ds (v.wipe d)
theorem gE_eq (ds:A5) (Z:Env):gE ds Z=iy ds Z:=funext λt=>wipes_eqL ds (Z t)
end
section
variable {P:Program} {cx:Cx} {tb:Tb} {Z:Env} {O:Sto} {K:A3} {fl:Flt} {f:FuncId} {us us':Ao} {v v':V} {d:Ac}
theorem gS_flt {names news:A5} {outs:AA} {e:Nat} {cs:As} (he:e ∉ names++news) (hcs:∀d∈news,cs.map (C.wipe d)=cs) :
  gS names news outs (upd O e (some (.box cs)))=upd (gS names news outs O) e (some (.box cs)):=by funext t;by_cases hte:t=e;{simp_all[pP,wipeLO_box]};simp_all[gS]
theorem gS_clean {names news:A5} {outs:AA} {e:Nat} (he:e ∉ names++news) (hl':(names++news).length=outs.length) (ho:∀(j:Nat) (o:Ob),outs[j]?=some (some o)->o.inN outs.length=true) (h:clean e O):clean e (gS names news outs O):=by
 intro t o hto;unfold gS at hto;split at hto
 ·rename_i j hj;cases hoj:outs.getD j none with
  |none=>simp_all|some o1=>
   rw[hoj] at hto;cases hto;have hj':outs[j]?=some (some o1):=by grind
   refine Ob.ren_wipe (n:=outs.length) (λt h1 h2 hte=>he ?_) o1 (ho j o1 hj');have hlt:t-inBase<(names++news).length:=by omega
   have:gN (names++news) t=(names++news)[t-inBase]:=by unfold gN;rw[if_pos h1,List.getD_eq_getElem?_getD,List.getElem?_eq_getElem hlt];rfl
   simp_all
 ·cases hd:dropN names O t with|none=>simp_all[pg]|some o1=>rw[hd] at hto;refine wipeLO_keep news ?_ hto;unfold dropN at hd;split at hd;{cases hd};{split at hd;{rename_i m l la hs;split at hd;{cases hd};{cases hd;exact h t _ hs}};{exact h t _ hd}}
theorem sj {ins:Ax} {outs:AA} {later:A5} {j} (h:GFn P f us ins v outs) (names news:A5) (hl:names.length=ins.length) (hl':(names++news).length=outs.length) (hnd:dY (names++news)=true) (hu:us.map (V.ren (gN (names++news)))=us') (hv:v.ren (gN (names++news))=v') (hσ:sG names ins (gN (names++news)) O) (hpl:ins.all (λo=>o.inN ins.length)=true) (hnew:news.all (λd=>decide (d<inBase))=true) (hd:∀x,d=some x->x<cx.n) (htc:tb.call=λ_ _=>none) (hte:tb.eff=λ_ _ _ _ _=>none) (hfl:∀e∈flN fl,e ∉ names++news) (hcs:∀e cs,fl=some (e,.box cs)->∀d∈news,cs.map (C.wipe d)=cs) (hlt:∀e∈later,v'.wipe e=v') (hk:K (cK Z d v') (gS names news outs O)):CallEL P cx tb fl f us' d news later Z O K j:=by subst hu hv;refine⟨by rw[htc],λ_ _=>by rw[hte],_,_,⟨λZ' K' hk'=>?_,λe cs hf=>⟨λZ' K' hk'=>?_,?_⟩⟩,hlt,hk⟩;{grind[callK_g,rh,gE_eq]};{grind[flN,callK_g,gE_eq,gS_flt,bz,rh]};{exact gS_clean (hfl e (by rw[hf];simp[flN])) hl' h.2.2.2.1}
theorem callE_new {o:Ob} {d:Nat} {later:A5} {j} (h:NewFn P f us (λx=>x=o)) (hd:∀x,some d=some x->x<cx.n) (hd':d<inBase) (htc:tb.call=λ_ _=>none) (hte:tb.eff=λ_ _ _ _ _=>none) (hfl:∀e∈flN fl,e≠d/\o.wipe e=some o) (hcs:∀e cs,fl=some (e,.box cs)->cs.map (C.wipe d)=cs) (hlt:∀e∈later,V.wipe e (.u (.one (obC d o)))=.u (.one (obC d o))) (hk:K (cK Z (some d) (.u (.one (obC d o)))) (upd (cM d O) d (some o))):CallEL P cx tb fl f us (some d) [d] later Z O K j:=by
 refine⟨by rw[htc],λ_ _=>by rw[hte],_,_,⟨λZ' K' hk'=>callK_new h (hd d rfl) hd' λo' ho=>by subst ho;exact hk',λe cs hf=>⟨λZ' K' hk'=>callK_new h (hd d rfl) hd' λo' ho=>?_,λhcl t o' hto=>?_⟩⟩,hlt,hk⟩
 ·subst ho;obtain⟨hed,_⟩:=hfl e (by rw[hf];simp[flN]);have:upd (cM d (upd O e (some (.box cs)))) d (some o')=upd (upd (cM d O) d (some o')) e (some (.box cs)):=by funext t;by_cases htd:t=d;{simp_all[Ne.symm]};{rw[bz _ _ htd];by_cases hte':t=e;{simp_all};simp_all}
  rw[this];exact hk'
 ·obtain⟨_,how⟩:=hfl e (by rw[hf];simp[flN]);by_cases htd:t=d;{simp_all};{rw[bz _ _ htd] at hto;unfold cM at hto;cases hs:O t with|none=>simp_all|some o1=>rw[hs] at hto;exact Ob.wipe_keep (hcl t o1 hs) hto}
end
