/- Lemmas for the law. -/
import Derived.Test.YtpeabgakdpojlaaGreatDoorAmSo
namespace Go.AM
open Go.RowKit Go.Shelf Go.Proofs Go.Lib Go.Sort
section
variable {β:Type} {f:β->Ak} {E:A7} {w:World} {F:Ad}
structure ElR (ok:β->Prop) (f:β->Ak) (E:A7) (w:World) (F:Ad) where
 x:β
 v:A9
 hok:ok x
 sim:bB E w F ((f x).map C.d) v
theorem csims_split:∀{cs ds:As} {vs:A9},bB E w F (cs++ds) vs->∃us ws,vs=us++ws/\bB E w F cs us/\bB E w F ds ws|[],_,vs,h=>⟨[],vs,rfl,rfl,h⟩|c::cs,_,_,h=>by simp only[List.cons_append,bB] at h;obtain⟨v,r,rfl,hc,h⟩:=h;obtain⟨us,ws,rfl,h1,h2⟩:=csims_split h;exact⟨v::us,ws,rfl,⟨v,us,rfl,hc,h1⟩,h2⟩
theorem els_of {ok:β->Prop}:∀{xs:List β} {vs:A9},(∀x∈xs,ok x)->bB E w F ((xs.map f).flatten.map C.d) vs->∃es:List (ElR ok f E w F),es.map ElR.x=xs/\vs=(es.map ElR.v).flatten|[],vs,_,h=>⟨[],rfl,by simpa [bB] using h⟩|x::xs,vs,ho,h=>by simp only[List.map_cons,List.flatten_cons,List.map_append] at h;obtain⟨us,ws,rfl,h1,h2⟩:=csims_split h;obtain⟨es,he1,he2⟩:=els_of (λx hx=>ho x (by simp[hx])) h2;exact⟨⟨x,us,ho x (by simp),h1⟩::es,by simp[he1],by simp[he2]⟩
theorem els_sim {ok:β->Prop}:∀(es:List (ElR ok f E w F)),bB E w F (((es.map ElR.x).map f).flatten.map C.d) (es.map ElR.v).flatten|[]=>by simp[bB]|p::es=>by simp only[List.map_cons,List.flatten_cons,List.map_append];exact ek p.sim (els_sim es)
theorem flatK_listG {I:Type} [Inhabited I] {enc:I->A9} {k:Nat} (hl:∀x,(enc x).length=k) (xs:List I):(flatK enc k xs.toArray).toList=(xs.map enc).flatten:=by
 have hrow:∀r∈xs.map enc,r.length=k:=λr hr=>by grind
 have hlen:(xs.map enc).flatten.length=xs.length*k:=by
  rw[List.length_flatten];have:(xs.map enc).map List.length=List.replicate xs.length k:=by apply List.ext_getElem;{simp};simp_all
  rw[this];simp
 apply List.ext_getElem?;intro t;rcases Nat.lt_or_ge t (xs.length*k)with ht|ht
 ·have hk:0<k:=by grind
  have hd:t/k<xs.length:=(Nat.div_lt_iff_lt_mul hk).2 ht;have h1:=get_flatK enc k xs.toArray t (by simpa using ht);have hsz:t<(flatK enc k xs.toArray).size:=by simpa using ht
  rw[getElem!_pos _ t hsz] at h1;have hx:xs.toArray[t/k]! = xs[t/k]:=by simp_all
  have hm:t%k<(enc xs[t/k]).length:=by rw[hl];exact Nat.mod_lt _ hk
  rw[hx,getElem!_pos (enc xs[t/k]) (t%k) hm] at h1;rw[show (flatK enc k xs.toArray).toList[t]?=some ((enc xs[t/k])[t%k])from by simp_all];have h2:=flatten_row' (i:=t/k) (r:=enc xs[t/k]) hrow (by simp[hd]);have h3:((xs.map enc).flatten.drop (t/k*k))[t%k]?=some ((enc xs[t/k])[t%k]):=by grind
  simp_all[Nat.div_add_mod']
 simp_all
end
theorem pdq_mutR {P:Program} {Z:Ren} {β:Type} (L:SlLaysF0.n14 P Z) {k e:Nat} {f:β->List Go.AM.L} (hl:∀x,(f x).length=k) (aE:∀w,(isAgg (Z.t 24)).run P w=.ok true w) (zE:∀w,(Go.sizeOf (Z.t 24)).run P w=.ok k w) {cf:β->β->Int} (hO:SWO (ltOf cf)) {ok:β->Prop} (d0:β) (v0:A9) (hd0:ok d0/\∀E w F,bB E w F ((f d0).map C.d) v0) {g:FuncId} (hg:∀x y,ok x->ok y->PFn P g [.u (.agg ((f x).map C.d)),.u (.agg ((f y).map C.d))] (·=.int (cf x y))) (xs:List β) (hok:∀x∈xs,ok x) (hx:xs.length<4611686018427387904) (lim:Nat) (hlim:lim<4611686018427387904) :
  MutFn P (Z.f 14) [.one (.own inBase),.int 0,.int xs.length,.int lim,.one (.fn g [])] (.row k e (xs.map f)) λv o'=>v=.tup []/\∃ys:List β,o'=.row k e (ys.map f)/\ys.Perm xs/\ys.Pairwise λx y=>¬ cf y x<0:=by
 have hfn:∃fn,P.funcs[Z.f 14]?=some fn/\(fn.name == "runtime.NumGoroutine")=false/\fn.body.isNone=false:=by obtain⟨nm,h1,h2⟩:=L.f14;exact⟨_,h2,h1,rfl⟩
 refine⟨hfn,λE w F hF hin vals hvl hv=>?_⟩;have hlen:vals.length=5:=hvl;obtain⟨v0',v1,v2,v3,v4,rfl⟩:∃v0 v1 v2 v3 v4,vals=[v0,v1,v2,v3,v4]:=by
  match vals,hlen with
  |[a,b,c,d,e],_=>simp
 have e0:v0'=hdv (E inBase):=(hv 0 _ v0' rfl rfl).1;have e1:v1=.int .i64 0:=hv 1 _ v1 rfl rfl;have e2:v2=.int .i64 xs.length:=hv 2 _ v2 rfl rfl;have e3:v3=.int .i64 lim:=hv 3 _ v3 rfl rfl;have e4:v4=.func (.func g) #[] #[]:=by obtain⟨arr,h1,h2⟩:=hv 4 _ v4 rfl rfl;have:arr.toList=[]:=h2;simp_all
 subst e0 e1 e2 e3 e4;obtain⟨hrl,hob⟩:=hin.objs 0 _ rfl;rw[Nat.add_zero] at hob;rcases hob with⟨h0,a,hp⟩|⟨b,cap,cur,h0,hp,hle,hm,hh,hsz,hc⟩
 ·have hxs:xs=[]:=by simpa using h0
  subst hxs;rw[hp];refine(AnyF.pdqsortCmpFunc_none L a 0 lim (.func (.func g) #[] #[]) w).mono λe' w' ⟨he,hw⟩=>?_;subst hw;exact⟨_,.tup [],_,he,⟨rfl,rfl,rfl,Nat.le_refl _,Nat.le_refl _,λ_ _ _=>rfl⟩,⟨rfl,[],rfl,List.Perm.refl _,List.Pairwise.nil⟩,rfl,rfl,⟨#[],rfl,rfl⟩,⟨by simp,.inl ⟨rfl,a,hp⟩⟩⟩
 ·simp only[List.length_map] at hp hle hc;have hin1:∀b',fF E [Ob.row k e (xs.map f)] b'↔b'=b:=by intro b';constructor;{rintro⟨i,o1,hi,hbk⟩;grind};{rintro rfl;refine⟨0,_,rfl,?_⟩;grind}
  have hbl:b<w.heap.size:=(Array.getElem?_eq_some_iff.1 hh).1;generalize hF0:(λb'=>F b'/\¬ fF E [Ob.row k e (xs.map f)] b')=F0 at hc⊢;have hF0b:∀b',F0 b'↔F b'/\b'≠b:=λb'=>by grind
  obtain⟨es,hes,hcur⟩:=els_of (ok:=ok) hok hc;have hel:es.length=xs.length:=by rw[<- hes];simp
  letI:Inhabited (ElR ok f E w F0):=⟨⟨d0,v0,hd0.1,hd0.2 _ _ _⟩⟩
  have hl':∀x:ElR ok f E w F0,x.v.length=k:=λx=>by have:=cR x.sim;simp_all
  have hflat:=flatK_listG (enc:=ElR.v) hl' es;have hcsz:xs.length*k<=cur.size:=by rw[hsz];exact Nat.mul_le_mul_right _ hle
  have hH:HoldsK (ElR.v (ok:=ok) (f:=f) (E:=E) (w:=w) (F:=F0)) k w b 0 es.toArray:=by
   intro j hj;have hj':j<xs.length*k:=by simp_all
   rw[Nat.zero_add,cell_of_row w b j cur e (0,0) hh];have h1:(flatK ElR.v k es.toArray).toList[j]?=(cur.toList.take (xs.length*k))[j]?:=by rw[hflat,hcur]
   rw[List.getElem?_take,if_pos hj'] at h1;refine⟨?_,?_⟩;{grind};{simp[World.frozen?,hh]}
  have hglow:∀b',b'<glow->b'≠b:=λb' hb' e=>by have:=hin.glob 0 _ b rfl (by grind);omega
  have hkeep:∀(m:Nat) (os:Array Obj) (dk:Array (ElR ok f E w F0)),Keep F0 F0 w (sortWorldK ElR.v k w b 0 m dk os):=λm os dk=>⟨by simp[sortWorldK,putRowK],λb' hb' hlt=>by unfold sortWorldK grow putRowK putRow;simp only;rw[Array.getElem?_append_left (by simp_all[mapBlock]),modify_at,if_neg (λh=>((hF0b b').1 hb').2 h.symm)];rfl,λ_ h _=>h⟩
  have hcmp:CmpLays P g #[] (ElR.v (ok:=ok) (f:=f) (E:=E) (w:=w) (F:=F0)) k (λx y=>cf x.x y.x) b 0 es.toArray.size w:=by
   intro m os dk _ x y;have hK:=hkeep m os dk;have hgw:Fr (sortWorldK ElR.v k w b 0 m dk os) F0:=⟨λb' hb'=>(hF0b b').2 ⟨hF.new b' (Nat.le_trans hK.size hb'),λh=>by have:=hK.size;omega⟩,(hF.gw.keep (λb' hb'=>hK.block b' ((hF0b b').2 ⟨(hF.gw.low b' hb').1,hglow b' hb'⟩) (hF.gw.low b' hb').2) hK.size λb' hb'=>(hF0b b').2 ⟨(hF.gw.low b' hb').1,hglow b' hb'⟩)⟩
   refine((hg x.x y.x x.hok y.hok).2 E _ F0 hgw [.agg x.v.toArray,.agg y.v.toArray] rfl (λi z u hz hu=>?_)).mono λe' w' ⟨u,v,he,hb,hv,hvs⟩=>?_;{match i,hz,hu with|0,hz,hu=>(cases hz;cases hu;exact⟨_,rfl,cF hK _ _ x.sim⟩)|1,hz,hu=>(cases hz;cases hu;exact⟨_,rfl,cF hK _ _ y.sim⟩)|i+2,hz,hu=>simp at hz};{subst hv;have:u=.int .i64 (cf x.x y.x):=hvs;simp_all[blw_grow]}
  have hxz:es.toArray.size=xs.length:=by simp[hel]
  have hO':SWO (ltOf λx y:ElR ok f E w F0=>cf x.x y.x):=⟨λx=>hO.irrefl x.x,λx y z=>hO.trans x.x y.x z.x,λx y z=>hO.ntrans x.x y.x z.x⟩
  have key:=AnyQ.pdqsortCmpFunc_all L k aE zE ElR.v (λx y:ElR ok f E w F0=>cf x.x y.x) g #[] hO' b 0 cap es.toArray w (λargs w=>run_callFunc (hg d0 d0 hd0.1 hd0.1).1) hcmp ⟨hl',λx v hv=>by
    obtain⟨i,hi⟩:=List.getElem?_of_mem hv;have hil:i<(f x.x).length:=by grind
    obtain⟨v',hv',hs⟩:=t7 x.sim (i:=i) (c:=C.d (f x.x)[i]) (by simp);grind[nQ],hH,hbl⟩ (xs.length+1) 0 xs.length lim es.toArray w (by omega) rfl (SWK.start hH) (Nat.zero_le _) (by simp[hel]) (by omega) hlim (Or.inl rfl)
  rw[hp];rw[hxz] at key;refine key.mono λe' w' ⟨he,hS⟩=>?_;obtain⟨n,os,hw⟩:=hS;have hsort:=pdq_sorts (ltOf λx y:ElR ok f E w F0=>cf x.x y.x) hO' es.toArray 0 xs.length lim true true (Nat.zero_le _) (by simp[hel]) (Or.inl rfl);generalize pdq (ltOf λx y:ElR ok f E w F0=>cf x.x y.x) es.toArray 0 xs.length lim true true=d' at hw hsort;obtain⟨⟨hs1,_,hs3⟩,hs4⟩:=hsort;have hds:d'.size=xs.length:=by omega
  have hperm:d'.toList.Perm es:=by
   have h1:d'.extract 0 xs.length=d':=by rw[<- hds];simp
   grind
  have hK':Keep F0 F0 w w':=by simp_all
  have hheap:∀b',b'<w.heap.size->w'.heap[b']?=if b=b' then some (.cells (putCells id 0 (flatK ElR.v k d') cur) e (0,0))else w.heap[b']?:=by
   intro b' hb';have hsz1:(mapBlock (Sort.ahead w n) b (putCells id 0 (flatK ElR.v k d'))).heap.size=w.heap.size:=by simp[mapBlock,Sort.ahead]
   rw[hw];unfold sortWorldK grow putRowK putRow;simp only;rw[Array.getElem?_append_left (by omega),modify_at];split;{rename_i hbb;subst hbb;show (w.heap[b]?).map _=_;rw[hh];rfl};{rfl}
  have hrows:∀r∈(d'.toList.map ElR.x).map f,r.length=k:=λr hr=>by grind
  refine⟨_,.tup [],.row k e ((d'.toList.map ElR.x).map f),he,?_,⟨rfl,d'.toList.map ElR.x,rfl,by grind,?_⟩,rfl,rfl,⟨#[],rfl,rfl⟩,hrows,.inr ⟨b,cap,_,h0,?_,?_,hm,by rw[hheap b hbl,if_pos rfl],?_,?_⟩⟩;{refine⟨by rw[hw];rfl,by rw[hw];rfl,by rw[hw];rfl,by rw[hw];exact Nat.le_add_right _ _,?_,λb' hb' hni=>?_⟩;{grind};grind};{grind[sorted_list]};{simp_all};{grind};{simp[putCells,hsz]}
  ·have hfl:(flatK ElR.v k d').toList=(d'.toList.map ElR.v).flatten:=by have:=flatK_listG (enc:=ElR.v) hl' d'.toList;simpa using this
   have hsim:=cF hK' _ _ (els_sim d'.toList);rw[<- hfl] at hsim;refine cast (congrArg _ ?_) hsim;apply List.ext_getElem?;intro j;have hlen':(flatK (ElR.v (ok:=ok) (f:=f) (E:=E) (w:=w) (F:=F0)) k d').size=xs.length*k:=by simp[hds]
   rw[List.getElem?_take];simp only[List.length_map,Array.length_toList,hds,Array.getElem?_toList];split
   ·rename_i hj;have hjc:j<cur.size:=by omega
    simp_all[putCells]
   simp_all
def sortR {β:Type} (okB:β->Bool) (cf:β->β->Int) (l:List β):Option (List β):=bif l.all okB then sortM cf l else none
theorem pdq_gR {P:Program} {Z:Ren} {β:Type} (L:SlLaysF0.n14 P Z) {k e:Nat} {f:β->List Go.AM.L} (hl:∀x,(f x).length=k) (aE:∀w,(isAgg (Z.t 24)).run P w=.ok true w) (zE:∀w,(Go.sizeOf (Z.t 24)).run P w=.ok k w) {cf:β->β->Int} (hO:SWO (ltOf cf)) {okB:β->Bool} (d0:β) (v0:A9) (hd0:okB d0=true/\∀E w F,bB E w F ((f d0).map C.d) v0) {g:FuncId} (hg:∀x y,okB x=true->okB y=true->PFn P g [.u (.agg ((f x).map C.d)),.u (.agg ((f y).map C.d))] (·=.int (cf x y))) {xs ys:List β} (hs:sortR okB cf xs=some ys) (lim:Nat) (hlim:lim<4611686018427387904) :
  GFn P (Z.f 14) [.one (.own inBase),.int 0,.int (br xs),.int lim,.one (.fn g [])] [.row k e (xs.map f)] (.tup []) [some (.row k e (ys.map f))]:=by
 unfold sortR at hs;cases ha:xs.all okB with
 |false=>simp_all|true=>rw[ha] at hs;have h:=pdq_mutR L hl aE zE hO (ok:=λx=>okB x=true) d0 v0 hd0 hg xs (λx hx=>List.all_eq_true.1 ha x hx) (sortM_len hs) lim hlim (e:=e);refine g_of_mut ⟨h.1,λE w F hF hin vals hvl hv=>(h.2 E w F hF hin vals hvl hv).mono λe' w' ⟨u,v,o',he,hc,hR,hvf,hof,hvs,hos⟩=>⟨u,v,o',he,hc,?_,hvf,hof,hvs,hos⟩⟩;grind[sortM_uniq]
