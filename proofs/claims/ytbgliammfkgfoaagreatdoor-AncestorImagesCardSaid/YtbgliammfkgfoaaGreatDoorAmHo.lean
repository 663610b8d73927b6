/- Calls to which a box is lent of which some cells are not looked at: they stay as they are. -/
import Derived.Test.YtbgliammfkgfoaaGreatDoorAmNm
namespace Go.AM
open Go.RowKit
inductive HC where
 | c (x:C)
 | h (real:C)
def hrl (g:Nat->Nat):List HC->List C
 | []=>[]
 | .c x::ts=>x.ren g::hrl g ts
 | .h r::ts=>r::hrl g ts
def hoq:List HC->List Value->List C
 | [],_=>[]
 | .c x::ts,us=>x::hoq ts us
 | .h _::ts,u::us=>.opq u::hoq ts us
 | .h _::ts,[]=>.top::hoq ts []
def kr:List HC->List C
 | []=>[]
 | .c _::ts=>kr ts
 | .h r::ts=>r::kr ts
def hokC (N:List Nat):C->Bool
 | .own t | .map t=>!N.contains t
 | .opq _=>true
 | _=>false
def hInN (n:Nat):List HC->Bool
 | []=>true
 | .c x::ts=>x.inN n && hInN n ts
 | .h _::ts=>hInN n ts
theorem hoq_inN {n:Nat}:∀ {ts:List HC},hInN n ts=true->∀ us,C.inNs n (hoq ts us)=true
 | [],_,_=>rfl
 | .c x::ts,h,us=>by
  simp only[hInN,Bool.and_eq_true] at h
  simp only[hoq,C.inNs,h.1,hoq_inN h.2 us,Bool.and_self]
 | .h _::ts,h,[]=>by simp only[hoq,C.inNs,C.inN,hoq_inN (ts:=ts) h [],Bool.and_self]
 | .h _::ts,h,u::us=>by simp only[hoq,C.inNs,C.inN,hoq_inN (ts:=ts) h us,Bool.and_self]
theorem len2 {xs:List Value} (h:xs.length=2):∃ a b,xs=[a,b]:=by
 match xs,h with
 | [a,b],_=>exact⟨a,b,rfl⟩
theorem len3 {xs:List Value} (h:xs.length=3):∃ a b c,xs=[a,b,c]:=by
 match xs,h with
 | [a,b,c],_=>exact⟨a,b,c,rfl⟩
theorem len4 {xs:List Value} (h:xs.length=4):∃ a b c d,xs=[a,b,c,d]:=by
 match xs,h with
 | [a,b,c,d],_=>exact⟨a,b,c,d,rfl⟩
section
variable {φ ψ:Nat->Value} {w w':World} {F F':Nat->Prop} {g:Nat->Nat}
theorem hreal_one {N:List Nat}:∀ {cs:List C} {us:List Value},cs.all (hokC N)=true->bh φ w F cs us->(∀ t,t ∉ N->ψ t=φ t)->bh ψ w' F' cs us
 | [],_,_,h,_=>h
 | c::cs,us,hc,h,hp=>by
  simp only[List.all_cons,Bool.and_eq_true] at hc
  obtain⟨v,r,rfl,h1,h2⟩:=h
  refine⟨v,r,rfl,?_,hreal_one hc.2 h2 hp⟩
  cases c with
  | own t =>
   have ht:t ∉ N:=by simpa [hokC] using hc.1
   simp only[bl] at h1 ⊢
   rw[hp t ht]; exact h1
  | map t =>
   have ht:t ∉ N:=by simpa [hokC] using hc.1
   simp only[bl] at h1 ⊢
   rw[hp t ht]; exact h1
  | opq u=>exact h1
  | _=>cases hc.1
theorem hoq_in {N:List Nat}:∀ {ts:List HC} {vs:List Value},(kr ts).all (hokC N)=true->bh φ w F (hrl g ts) vs->∃ us,us.length=(kr ts).length/\bh φ w F (C.rens g (hoq ts us)) vs/\bh φ w F (kr ts) us
 | [],vs,_,h=>⟨[],rfl,h,rfl⟩
 | .c x::ts,vs,hc,h=>by
  obtain⟨v,r,rfl,h1,h2⟩:=h
  obtain⟨us,h3,h4,h5⟩:=hoq_in (ts:=ts) hc h2
  exact⟨us,h3,⟨v,r,rfl,h1,h4⟩,h5⟩
 | .h x::ts,vs,hc,h=>by
  simp only[kr,List.all_cons,Bool.and_eq_true] at hc
  obtain⟨v,r,rfl,h1,h2⟩:=h
  obtain⟨us,h3,h4,h5⟩:=hoq_in (ts:=ts) hc.2 h2
  refine⟨v::us,by simp[kr,h3],⟨v,r,rfl,?_,h4⟩,⟨v,us,rfl,h1,h5⟩⟩
  refine⟨rfl,?_⟩
  cases x with
  | own t=>exact h1.2
  | map t=>exact h1.2
  | opq u=>rw[h1.1]; exact h1.2
  | _=>cases hc.1
theorem hoq_out:∀ {ts:List HC} {vs us:List Value},bh φ w F (C.rens g (hoq ts us)) vs->bh φ w F (kr ts) us->bh φ w F (hrl g ts) vs
 | [],vs,us,h,_=>h
 | .c x::ts,vs,us,h,h'=>by
  obtain⟨v,r,rfl,h1,h2⟩:=h
  exact⟨v,r,rfl,h1,hoq_out h2 h'⟩
 | .h x::ts,vs,us,h,h'=>by
  obtain⟨u,us',rfl,h1,h2⟩:=h'
  obtain⟨v,r,rfl,h3,h4⟩:=h
  obtain⟨rfl,_⟩:=h3
  exact⟨_,r,rfl,h1,hoq_out h4 h2⟩
end
section
variable {P:Program} {tb:Tb} {cx:Cx} {Z:Env} {O:Sto} {K:Env->Sto->Prop}
theorem callK_o {ins:List Ob} {outs:List (Option Ob)} {f:FuncId} {us us':List V} {v v':V} {d:Option Nat} {ts ots:List HC} (h:∀ xs:List Value,xs.length=(kr ts).length->GFn P f us (.box (hoq ts xs)::ins) v (some (.box (hoq ots xs))::outs)) (s:Nat) (names news:List Nat)
  (hl:names.length=ins.length) (hl':(names++news).length=outs.length) (hnd:cJ ((s::names)++news)=true) (hu:us.map (V.ren (gN ((s::names)++news)))=us') (hv:v.ren (gN ((s::names)++news))=v')
  (hso:O s=some (.box (hrl (gN ((s::names)++news)) ts))) (hσ:nE names ins (gN ((s::names)++news)) O) (hpl:hInN (ins.length+1) ts=true) (hpl':ins.all (fun o=>o.inN (ins.length+1))=true) (hnew:news.all (fun d=>decide (d < inBase))=true)
  (hh:(kr ts).all (hokC ((s::names)++news))=true) (hho:kr ots=kr ts)
  (hd:∀ x,d=some x->x < cx.n) (hk:K (bQ (gE news Z) d v') (upd (gS (s::names) news (none::outs) O) s (some (.box (hrl (gN ((s::names)++news)) ots))))):kR P cx f us' Z O d K:=by
 subst hu hv
 have nd:((s::names)++news).Nodup:=ki hnd
 refine⟨(h (List.replicate (kr ts).length undef) (by simp)).1,fun φ a w hs vals hvl hv next hn=>?_⟩
 obtain⟨b,arr,ty,hp,hhp,hcs,h1c⟩:=hs.core.objs s _ hso
 obtain⟨xs,hx1,hx2,hx3⟩:=hoq_in hh hcs
 obtain⟨hco,hvs⟩:=hs.core.rebox (cs':=C.rens (gN ((s::names)++news)) (hoq ts xs)) hso fun F' k arr' ty' q1 q2 hkp _=>by
  rw[hp] at q1
  cases q1
  rw[hhp] at q2
  cases q2
  exact bO hkp _ _ hx2
 have hs1:Sim cx φ Z (upd O s (some (.box (C.rens (gN ((s::names)++news)) (hoq ts xs))))) a w:=⟨hco,fun t=>hvs _ _ (hs.slots t),hs.defers,hs.room⟩
 have nds:s ∉ names++news/\(names++news).Nodup:=List.nodup_cons.1 nd
 obtain⟨_,key⟩:=callS_g (cx:=cx) (Z:=Z) (O:=upd O s (some (.box (C.rens (gN ((s::names)++news)) (hoq ts xs))))) (d:=d) (h xs hx1) (s::names) news (by simp[hl]) (by simpa using hl') hnd (fun i s' o h1 h2=>by
  cases i with
  | zero =>
   simp only[List.getElem?_cons_zero,Option.some.injEq] at h1 h2
   subst h1 h2
   rw[upd_same]; rfl
  | succ i =>
   rw[List.getElem?_cons_succ] at h1 h2
   rw[bc _ _ (fun e:s'=s=>nds.1 (List.mem_append_left _ (e ▸ List.mem_of_getElem? h1)))]
   exact mI hσ h1 h2) (by
  simp only[List.all_cons,Bool.and_eq_true,List.length_cons]
  exact⟨hoq_inN hpl xs,hpl'⟩) hnew hd
 refine key φ a w hs1 vals hvl (fun i x u h1 h2=>hvs _ _ (hv i x u h1 h2)) next fun φ' a' w' hφ hs'=>?_
 have hs0:gS (s::names) news (some (.box (hoq ots xs))::outs) (upd O s (some (.box (C.rens (gN ((s::names)++news)) (hoq ts xs))))) s=some (.box (C.rens (gN ((s::names)++news)) (hoq ots xs))):=by
  simp[gS,Ob.ren]
 obtain⟨g1,g2⟩:=hs'.core.rebox (cs':=hrl (gN ((s::names)++news)) ots) hs0 fun F' k arr' ty' _ _ hkp hc=>hoq_out (bO hkp _ _ hc) (by rw[hho]; exact hreal_one hh hx3 hφ)
 have he:upd (gS (s::names) news (some (.box (hoq ots xs))::outs) (upd O s (some (.box (C.rens (gN ((s::names)++news)) (hoq ts xs)))))) s (some (.box (hrl (gN ((s::names)++news)) ots))) =
   upd (gS (s::names) news (none::outs) O) s (some (.box (hrl (gN ((s::names)++news)) ots))):=by
  funext t
  by_cases ht:t=s
  ·rw[ht,upd_same,upd_same]
  ·rw[bc _ _ ht,bc _ _ ht]
   have hst:(s == t)=false:=by simpa using Ne.symm ht
   simp only[gS,List.cons_append,List.findIdx?_cons,hst,Bool.false_eq_true,if_false]
   cases List.findIdx? (fun x=>x == t) (names++news) with
   | some j=>rfl
   | none =>
    simp only[Option.map_none]
    congr 1
    unfold nW
    rw[bc _ _ ht]
 rw[he] at g1 g2
 exact hn φ' _ _ a' w' ⟨g1,fun t=>g2 _ _ (hs'.slots t),hs'.defers,hs'.room⟩ hk
theorem kP {j} {ins:List Ob} {outs:List (Option Ob)} {f:FuncId} {us us':List V} {v v':V} {d:Option Nat} {ts ots:List HC} (h:∀ xs:List Value,xs.length=(kr ts).length->GFn P f us (.box (hoq ts xs)::ins) v (some (.box (hoq ots xs))::outs)) (s:Nat) (names news:List Nat)
  (hl:names.length=ins.length) (hl':(names++news).length=outs.length) (hnd:cJ ((s::names)++news)=true) (hu:us.map (V.ren (gN ((s::names)++news)))=us') (hv:v.ren (gN ((s::names)++news))=v')
  (hso:O s=some (.box (hrl (gN ((s::names)++news)) ts))) (hσ:nE names ins (gN ((s::names)++news)) O) (hpl:hInN (ins.length+1) ts=true) (hpl':ins.all (fun o=>o.inN (ins.length+1))=true) (hnew:news.all (fun d=>decide (d < inBase))=true)
  (hh:(kr ts).all (hokC ((s::names)++news))=true) (hho:kr ots=kr ts)
  (hd:∀ x,d=some x->x < cx.n) (hk:K (bQ (gE news Z) d v') (upd (gS (s::names) news (none::outs) O) s (some (.box (hrl (gN ((s::names)++news)) ots))))):CallL P cx f us' d Z O K j:=callK_o h s names news hl hl' hnd hu hv hso hσ hpl hpl' hnew hh hho hd hk
end
end Go.AM
