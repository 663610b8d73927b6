/- Lemmas for the law. -/
import Derived.Test.YtpeabgakdpojlaaGreatDoorAmNm
namespace Go.AM
open Go.RowKit
inductive HC where
 |c (x:C)|h (real:C)
def hrl (g:Aj):List HC->As|[]=>[]|.c x::ts=>x.ren g::hrl g ts|.h r::ts=>r::hrl g ts
def hoq:List HC->A9->As|[],_=>[]|.c x::ts,us=>x::hoq ts us|.h _::ts,u::us=>.opq u::hoq ts us|.h _::ts,[]=>.top::hoq ts []
def o8:List HC->As|[]=>[]|.c _::ts=>o8 ts|.h r::ts=>r::o8 ts
def hokC (N:A5):C->Bool|.own t|.map t=>!N.contains t|.opq _=>true|_=>false
def hInN (n:Nat):List HC->Bool|[]=>true|.c x::ts=>x.inN n&&hInN n ts|.h _::ts=>hInN n ts
theorem hoq_inN {n:Nat}:∀{ts:List HC},hInN n ts=true->∀us,C.inNs n (hoq ts us)=true|[],_,_=>rfl|.c x::ts,h,us=>by simp only[hInN,Bool.and_eq_true] at h;simp only[hoq,C.inNs,h.1,hoq_inN h.2 us,Bool.and_self]|.h _::ts,h,[]=>by simp only[hoq,C.inNs,C.inN,hoq_inN (ts:=ts) h [],Bool.and_self]|.h _::ts,h,u::us=>by simp only[hoq,C.inNs,C.inN,hoq_inN (ts:=ts) h us,Bool.and_self]
theorem len2 {xs:A9} (h:xs.length=2):∃a b,xs=[a,b]:=by
 match xs,h with
 |[a,b],_=>simp
theorem len3 {xs:A9} (h:xs.length=3):∃a b c,xs=[a,b,c]:=by
 match xs,h with
 |[a,b,c],_=>simp
theorem len4 {xs:A9} (h:xs.length=4):∃a b c d,xs=[a,b,c,d]:=by
 match xs,h with
 |[a,b,c,d],_=>simp
section
variable {E J:A7} {w w':World} {F F':Ad} {g:Aj}
theorem hreal_one {N:A5}:∀{cs:As} {us:A9},cs.all (hokC N)=true->bB E w F cs us->(∀t,t ∉ N->J t=E t)->bB J w' F' cs us
 |[],_,_,h,_=>h|c::cs,us,hc,h,hp=>by
  simp only[List.all_cons,Bool.and_eq_true] at hc;obtain⟨v,r,rfl,h1,h2⟩:=h;refine⟨v,r,rfl,?_,hreal_one hc.2 h2 hp⟩;cases c with
  |own t=>grind[hokC,bG]|map t=>grind[hokC,bG]|opq u=>exact h1|_=>cases hc.1
theorem hoq_in {N:A5}:∀{ts:List HC} {vs:A9},(o8 ts).all (hokC N)=true->bB E w F (hrl g ts) vs->∃us,us.length=(o8 ts).length/\bB E w F (C.rens g (hoq ts us)) vs/\bB E w F (o8 ts) us
 |[],vs,_,h=>⟨[],rfl,h,rfl⟩|.c x::ts,vs,hc,h=>by
  obtain⟨v,r,rfl,h1,h2⟩:=h;obtain⟨us,h3,h4,h5⟩:=hoq_in (ts:=ts) hc h2;exact⟨us,h3,⟨v,r,rfl,h1,h4⟩,h5⟩
 |.h x::ts,vs,hc,h=>by
  simp only[o8,List.all_cons,Bool.and_eq_true] at hc;obtain⟨v,r,rfl,h1,h2⟩:=h;obtain⟨us,h3,h4,h5⟩:=hoq_in (ts:=ts) hc.2 h2;refine⟨v::us,by simp[o8,h3],⟨v,r,rfl,?_,h4⟩,⟨v,us,rfl,h1,h5⟩⟩;refine⟨rfl,?_⟩;cases x with
  |own t=>exact h1.2|map t=>exact h1.2|opq u=>rw[h1.1];exact h1.2|_=>cases hc.1
theorem hoq_out:∀{ts:List HC} {vs us:A9},bB E w F (C.rens g (hoq ts us)) vs->bB E w F (o8 ts) us->bB E w F (hrl g ts) vs
 |[],vs,us,h,_=>h|.c x::ts,vs,us,h,h'=>by
  obtain⟨v,r,rfl,h1,h2⟩:=h;exact⟨v,r,rfl,h1,hoq_out h2 h'⟩
 |.h x::ts,vs,us,h,h'=>by obtain⟨u,us',rfl,h1,h2⟩:=h';obtain⟨v,r,rfl,h3,h4⟩:=h;obtain⟨rfl,_⟩:=h3;exact⟨_,r,rfl,h1,hoq_out h4 h2⟩
end
section
variable {P:Program} {tb:Tb} {cx:Cx} {Z:Env} {O:Sto} {K:A3}
theorem callK_o {ins:Ax} {outs:AA} {f:FuncId} {us us':Ao} {v v':V} {d:Ac} {ts ots:List HC} (h:∀xs:A9,xs.length=(o8 ts).length->GFn P f us (.box (hoq ts xs)::ins) v (some (.box (hoq ots xs))::outs)) (s:Nat) (names news:A5) (hl:names.length=ins.length) (hl':(names++news).length=outs.length) (hnd:dY ((s::names)++news)=true) (hu:us.map (V.ren (gN ((s::names)++news)))=us') (hv:v.ren (gN ((s::names)++news))=v') (hso:O s=some (.box (hrl (gN ((s::names)++news)) ts))) (hσ:sG names ins (gN ((s::names)++news)) O) (hpl:hInN (ins.length+1) ts=true) (hpl':ins.all (λo=>o.inN (ins.length+1))=true) (hnew:news.all (λd=>decide (d<inBase))=true) (hh:(o8 ts).all (hokC ((s::names)++news))=true) (hho:o8 ots=o8 ts) (hd:∀x,d=some x->x<cx.n) (hk:K (cK (gE news Z) d v') (upd (gS (s::names) news (none::outs) O) s (some (.box (hrl (gN ((s::names)++news)) ots))))):oU P cx f us' Z O d K:=by
 subst hu hv;have nd:((s::names)++news).Nodup:=nY hnd;refine⟨(h (List.replicate (o8 ts).length undef) (by simp)).1,λE a w hs vals hvl hv next hn=>?_⟩;obtain⟨b,arr,ty,hp,hhp,hcs,h1c⟩:=hs.core.objs s _ hso;obtain⟨xs,hx1,hx2,hx3⟩:=hoq_in hh hcs;obtain⟨hco,hvs⟩:=hs.core.rebox (cs':=C.rens (gN ((s::names)++news)) (hoq ts xs)) hso λF' k arr' ty' q1 q2 hkp _=>by grind[cF]
 have hs1:Sim cx E Z (upd O s (some (.box (C.rens (gN ((s::names)++news)) (hoq ts xs))))) a w:=⟨hco,λt=>hvs _ _ (hs.slots t),hs.defers,hs.room⟩
 have nds:s ∉ names++news/\(names++news).Nodup:=List.nodup_cons.1 nd;obtain⟨_,key⟩:=callS_g (cx:=cx) (Z:=Z) (O:=upd O s (some (.box (C.rens (gN ((s::names)++news)) (hoq ts xs))))) (d:=d) (h xs hx1) (s::names) news (by simp[hl]) (by simpa using hl') hnd (λi s' o h1 h2=>by
  cases i with
  |zero=>simp only[List.getElem?_cons_zero,Option.some.injEq] at h1 h2;subst h1 h2;simp|succ i=>
   grind[bz,rh]) (by simp_all[hoq_inN]) hnew hd
 refine key E a w hs1 vals hvl (λi x u h1 h2=>hvs _ _ (hv i x u h1 h2)) next λE' a' w' hφ hs'=>?_
 have hs0:gS (s::names) news (some (.box (hoq ots xs))::outs) (upd O s (some (.box (C.rens (gN ((s::names)++news)) (hoq ts xs))))) s=some (.box (C.rens (gN ((s::names)++news)) (hoq ots xs))):=by simp[gS,Ob.ren]
 obtain⟨g1,g2⟩:=hs'.core.rebox (cs':=hrl (gN ((s::names)++news)) ots) hs0 λF' k arr' ty' _ _ hkp hc=>hoq_out (cF hkp _ _ hc) (by grind[hreal_one]);have he:upd (gS (s::names) news (some (.box (hoq ots xs))::outs) (upd O s (some (.box (C.rens (gN ((s::names)++news)) (hoq ts xs)))))) s (some (.box (hrl (gN ((s::names)++news)) ots))) =
   upd (gS (s::names) news (none::outs) O) s (some (.box (hrl (gN ((s::names)++news)) ots))):=by
  funext t;by_cases ht:t=s;{simp_all}
  ·rw[bz _ _ ht,bz _ _ ht];have hst:(s==t)=false:=by grind
   simp only[gS,List.cons_append,List.findIdx?_cons,hst,Bool.false_eq_true,if_false];cases List.findIdx? (λx=>x==t) (names++news)with
   |some j=>rfl|none=>simp_all
 rw[he] at g1 g2;exact hn E' _ _ a' w' ⟨g1,λt=>g2 _ _ (hs'.slots t),hs'.defers,hs'.room⟩ hk
theorem oO {j} {ins:Ax} {outs:AA} {f:FuncId} {us us':Ao} {v v':V} {d:Ac} {ts ots:List HC} (h:∀xs:A9,xs.length=(o8 ts).length->GFn P f us (.box (hoq ts xs)::ins) v (some (.box (hoq ots xs))::outs)) (s:Nat) (names news:A5) (hl:names.length=ins.length) (hl':(names++news).length=outs.length) (hnd:dY ((s::names)++news)=true) (hu:us.map (V.ren (gN ((s::names)++news)))=us') (hv:v.ren (gN ((s::names)++news))=v') (hso:O s=some (.box (hrl (gN ((s::names)++news)) ts))) (hσ:sG names ins (gN ((s::names)++news)) O) (hpl:hInN (ins.length+1) ts=true) (hpl':ins.all (λo=>o.inN (ins.length+1))=true) (hnew:news.all (λd=>decide (d<inBase))=true) (hh:(o8 ts).all (hokC ((s::names)++news))=true) (hho:o8 ots=o8 ts) (hd:∀x,d=some x->x<cx.n) (hk:K (cK (gE news Z) d v') (upd (gS (s::names) news (none::outs) O) s (some (.box (hrl (gN ((s::names)++news)) ots))))):CallL P cx f us' d Z O K j:=callK_o h s names news hl hl' hnd hu hv hso hσ hpl hpl' hnew hh hho hd hk
end
