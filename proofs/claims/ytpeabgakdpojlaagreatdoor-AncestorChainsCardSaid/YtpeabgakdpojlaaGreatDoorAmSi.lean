/- Lemmas for the law. -/
import Derived.Shelf.Sort.Plain
import Derived.Shelf.Slices.In.SortNone
import Derived.Shelf.Slices.CompactI
import Derived.Test.YtpeabgakdpojlaaGreatDoorAmGf
namespace Go.AM
open Go.RowKit Go.Shelf Go.Proofs Go.Lib Go.Sort
def iO (l:A0):A8:=l.map λx=>[L.int .i64 x]
theorem rowsI_flat (l:A0):(iO l).flatten=l.map (L.int .i64):=by
 unfold iO;induction l with
 |nil=>rfl|cons x l ih=>simp[ih]
section
variable {E:A7} {w:World} {F:Ad}
theorem csims_i64:∀{l:A0} {vs:A9},bB E w F ((l.map (L.int .i64)).map C.d) vs↔vs=l.map (Value.int .i64)|[],vs=>by simp[bB]|n::l,vs=>by simp only[List.map_cons,bB,bG,rep];constructor;{rintro⟨v,r,rfl,rfl,h⟩;rw[csims_i64.1 h]};{rintro rfl;exact⟨_,_,rfl,rfl,csims_i64.2 rfl⟩}
end
theorem grow_nil (w:World):grow w #[]=w:=by rfl
theorem ints_g {P:Program} {f:FuncId} {xs ys:A0} {v:V} {e:TypeId} {rv:Option Addr->Nat->Value} (hfn:∃fn,P.funcs[f]?=some fn/\(fn.name == "runtime.NumGoroutine")=false/\fn.body.isNone=false) (hl:ys.length=xs.length) (hvN:v.inN 1=true) (hv:∀(E:A7) (w:World) (F:Ad) (ao:Option Addr) (cap:Nat),E inBase=.slice ao xs.length cap->(cap=0\/∃b,ao=some ⟨b,0,none⟩)->bI E w F v (rv ao cap)) (hrun:∀(b cap:Nat) (w:World),Holds (Value.int .i64) w b 0 xs.toArray->b<w.heap.size->xs.length<=cap->Calls P f #[.slice (some ⟨b,0,none⟩) xs.length cap] w λe w'=>e=.returned (rv (some ⟨b,0,none⟩) cap)/\∃n os,w'=grow (putRow (Value.int .i64) (Sort.ahead w n) b 0 ys.toArray) os) (hnone:xs=[]->∀(a:Option Addr) (w:World),Calls P f #[.slice a 0 0] w λe w'=>e=.returned (rv a 0)/\w'=w) :
  GFn P f [.u (.one (.own inBase))] [.row 1 e (iO xs)] v [some (.row 1 e (iO ys))]:=by
 refine⟨hfn,by simp,hvN,λj o hj=>?_,λE w F hF hin vals hvl hva=>?_⟩;{cases j with|zero=>simp only[List.getElem?_cons_zero,Option.some.injEq] at hj;subst hj;rfl|succ j=>simp at hj};obtain⟨v0,rfl⟩:∃v0,vals=[v0]:=by
  match vals,hvl with
  |[a],_=>simp
 obtain⟨e0,_⟩:=hva 0 _ v0 rfl rfl;obtain⟨hrl,hob⟩:=hin.objs 0 _ rfl;rw[Nat.add_zero] at hob;have out1:∀(E':A7) (b:Nat),mE E' [some (Ob.row 1 e (iO ys))] b↔hbl (E' inBase) b:=λE' b=>by constructor;{rintro⟨i,o,hi,hb⟩;grind};{exact λhb=>⟨0,_,rfl,hb⟩}
 have in1:∀b,fF E [Ob.row 1 e (iO xs)] b↔hbl (E inBase) b:=λb=>by constructor;{rintro⟨i,o,hi,hb⟩;grind};{exact λhb=>⟨0,_,rfl,hb⟩}
 have fin:∀(w':World) (ao:Option Addr) (cap:Nat),E inBase=.slice ao xs.length cap->(cap=0\/∃b,ao=some ⟨b,0,none⟩)->Chg E [.row 1 e (iO xs)] w w' -> (∀F',kq E w' F' inBase (.row 1 e (iO ys)))->∃u E',Ending.returned (rv ao cap)=.returned u/\Chg E [.row 1 e (iO xs)] w w'/\(∀i,i<[Ob.row 1 e (iO xs)].length->veq (E (inBase+i)) (E' (inBase+i))) /\ (∀j o,[some (Ob.row 1 e (iO ys))][j]?=some (some o)->kq E' w' (λb=>(F b\/fF E [.row 1 e (iO xs)] b)/\¬ mE E' [some (.row 1 e (iO ys))] b) (inBase+j) o) /\ (∀j o b,[some (Ob.row 1 e (iO ys))][j]?=some (some o)->hbl (E' (inBase+j)) b->(w.heap.size<=b\/fF E [.row 1 e (iO xs)] b)/\b<w'.heap.size) /\ (∀i j o o' b,[some (Ob.row 1 e (iO ys))][i]?=some (some o)->[some (Ob.row 1 e (iO ys))][j]?=some (some o')->hbl (E' (inBase+i)) b->hbl (E' (inBase+j)) b->i=j) /\
   bI E' w' (λb=>(F b\/fF E [.row 1 e (iO xs)] b)/\¬ mE E' [some (.row 1 e (iO ys))] b) v u:=by intro w' ao cap hp hao hch hos;refine⟨_,E,rfl,hch,λ_ _=>.refl _,λj o hj=>?_,λj o b hj hb=>?_,λi j o o' b hi hj _ _=>?_,hv E _ _ ao cap hp hao⟩;{cases j with|zero=>simp_all|succ j=>simp at hj};{cases j with|zero=>exact⟨.inr ((in1 b).2 hb),Nat.lt_of_lt_of_le (hin.blk 0 _ b rfl hb) hch.size⟩|succ j=>simp at hj};grind
 rcases hob with⟨h0,a,hp⟩|⟨b,cap,cur,h0,hp,hle,hm,hh,hsz,hc⟩
 ·have hxs:xs=[]:=by simpa [iO] using h0
  rw[hp] at e0;have e1:v0=.slice a 0 0:=e0;subst e1;refine(hnone hxs a w).mono λe' w' ⟨he,hw⟩=>?_;subst he hw;have hys:ys=[]:=List.eq_nil_of_length_eq_zero (by rw[hl,hxs];rfl);exact fin w' a 0 (by rw[hp,hxs];rfl) (.inl rfl) ⟨rfl,rfl,rfl,Nat.le_refl _,Nat.le_refl _,λ_ _ _=>rfl⟩ λF'=>⟨by grind,.inl ⟨by rw[hys];rfl,a,hp⟩⟩
 ·have hrl1:(iO xs).length=xs.length:=by simp[iO]
  rw[hrl1] at hp hle hc;rw[Nat.mul_one] at hc;rw[hp] at e0;have e1:v0=.slice (some ⟨b,0,none⟩) xs.length cap:=e0;subst e1;have hbl:b<w.heap.size:=(Array.getElem?_eq_some_iff.1 hh).1;rw[rowsI_flat] at hc;have hcur:=csims_i64.1 hc;have hget:∀j,j<xs.length->cur[j]?=some (.int .i64 xs.toArray[j]!):=λj hj=>by
   have h1:(cur.toList.take xs.length)[j]?=(xs.map (Value.int .i64))[j]?:=by rw[hcur]
   grind
  have hH:Holds (Value.int .i64) w b 0 xs.toArray:=by
   intro j hj;have hj':j<xs.length:=by simpa using hj
   rw[Nat.zero_add,cell_of_row w b j cur e (0,0) hh];exact⟨hget j hj',by simp[World.frozen?,hh]⟩
  refine(hrun b cap w hH hbl hle).mono λe' w' ⟨he,n,os,hw⟩=>?_;subst he;have hheap:∀b',b'<w.heap.size->w'.heap[b']?=if b=b' then some (.cells (putCells (Value.int .i64) 0 ys.toArray cur) e (0,0))else w.heap[b']?:=by
   intro b' hb';have hsz1:(mapBlock (Sort.ahead w n) b (putCells (Value.int .i64) 0 ys.toArray)).heap.size=w.heap.size:=by simp[mapBlock,Sort.ahead]
   rw[hw];unfold grow putRow;simp only;rw[Array.getElem?_append_left (by omega)];unfold mapBlock;simp only[Array.getElem?_modify];split;{rename_i hbb;subst hbb;show (w.heap[b]?).map _=_;rw[hh];rfl};{rfl}
  refine fin w' _ cap hp (.inr ⟨b,rfl⟩) ⟨by rw[hw];rfl,by rw[hw];rfl,by rw[hw];rfl,by rw[hw];exact Nat.le_add_right _ _,by grind,λb' hb' hni=>?_⟩ λF'=>⟨by simp[iO],.inr ⟨b,cap,_,h0,?_,?_,hm,by rw[hheap b hbl,if_pos rfl],?_,?_⟩⟩
  ·grind
  ·rw[hp];simp[iO,hl]
  ·grind[iO]
  ·simp[putCells,hsz]
  ·rw[rowsI_flat];refine csims_i64.2 ?_;apply List.ext_getElem?;intro j;have hrl2:(iO ys).length=xs.length:=by simp[iO,hl]
   rw[hrl2,Nat.mul_one,List.getElem?_take,Array.getElem?_toList];split
   ·rename_i hj;have hjc:j<cur.size:=by omega
    have hjy:j<ys.length:=by omega
    simp only[putCells,Array.getElem?_mapIdx,Array.getElem?_eq_getElem hjc,Option.map_some,Nat.zero_le,true_and,Nat.zero_add,Nat.sub_zero];grind
   grind
def srtI (l:A0):A0:=l.mergeSort λx y=>decide (x<=y)
def cmpI0 (l:A0):A0:=Lib.compact l++List.replicate (l.length-(Lib.compact l).length) 0
theorem sort_g {P:Program} {Z:Ren} (L:Lays.n189 P Z) (e:TypeId) (xs:A0) (hx:xs.length<4611686018427387904):GFn P (Z.f 189) [.u (.one (.own inBase))] [.row 1 e (iO xs)] (.tup []) [some (.row 1 e (iO (srtI xs)))]:=by
 have hfn:∃fn,P.funcs[Z.f 189]?=some fn/\(fn.name == "runtime.NumGoroutine")=false/\fn.body.isNone=false:=⟨_,L.f189,by rfl,rfl⟩
 refine ints_g (rv:=λ_ _=>.tuple #[]) hfn (by simp[srtI]) rfl (λ_ _ _ _ _ _ _=>⟨#[],rfl,rfl⟩) (λb cap w hH hb _=>?_) (λh a w=>?_);{exact Any.slices_Sort_int L b 0 cap xs w hH hb hx};{exact Any.slices_Sort_int_none L a 0 w}
theorem compact_g {P:Program} {Z:Ren} (L:Lays2.n20 P Z) (e:TypeId) (xs:A0) (hx:xs.length<4611686018427387904):GFn P (Z.f 20) [.u (.one (.own inBase))] [.row 1 e (iO xs)] (.u (.one (.sub inBase 1 0 (Lib.compact xs).length))) [some (.row 1 e (iO (cmpI0 xs)))]:=by
 have hfn:∃fn,P.funcs[Z.f 20]?=some fn/\(fn.name == "runtime.NumGoroutine")=false/\fn.body.isNone=false:=⟨_,L.f20,by rfl,rfl⟩
 have hle:(Lib.compact xs).length<=xs.length:=by
  have key:∀m,(compactUpTo xs.toArray m).length<=m:=λm=>by grind[compactUpTo]
  exact key xs.length
 refine ints_g (rv:=λao cap=>.slice ao (Lib.compact xs).length cap) hfn (by simp[cmpI0];omega) rfl (λE w F ao cap hp hao=>?_) (λb cap w hH hb hc=>?_) (λh a w=>?_)
 ·refine⟨ao,xs.length,cap,by rw[hp];rfl,Nat.zero_le _,hle,?_⟩;have:subA ao cap 0 1=ao:=by unfold subA;rcases hao with h|⟨b,rfl⟩;{rw[if_pos h]};{split;{rfl};rfl}
  simp_all
 ·refine(Any.slices_Compact_int L b 0 cap xs w hH (by omega) hc).mono λe' w' ⟨he,q,hw⟩=>⟨he,q,#[],?_⟩
  rw[grow_nil];exact hw
 simp_all[Any.slices_Compact_int_empty]
def insI (x:Int):A0->A0|[]=>[x]|y::l=>bif decide (x<=y)then x::y::l else y::insI x l
def insSI:A0->A0|[]=>[]|x::l=>insI x (insSI l)
theorem insI_perm (x:Int):∀l,(insI x l).Perm (x::l)|[]=>.refl _|y::l=>by unfold insI;cases decide (x<=y);{exact((insI_perm x l).cons y).trans (.swap x y l)};{exact .refl _}
theorem qy:∀l,(insSI l).Perm l|[]=>.refl _|x::l=>(insI_perm x _).trans ((qy l).cons x)
theorem insI_le (x:Int):∀l:A0,l.Pairwise (·<=·)->(insI x l).Pairwise (·<=·)|[],_=>by simp[insI]|y::l,h=>by unfold insI;obtain⟨h1,h2⟩:=List.pairwise_cons.1 h;by_cases hxy:x<=y;{rw[show decide (x<=y)=true from by simpa using hxy];refine List.pairwise_cons.2 ⟨λz hz=>?_,h⟩;grind};{rw[show decide (x<=y)=false from by simpa using hxy];refine List.pairwise_cons.2 ⟨λz hz=>?_,insI_le x l h2⟩;rcases List.mem_cons.1 ((insI_perm x l).subset hz)with rfl|hz;{omega};{exact h1 z hz}}
theorem insSI_le:∀l,(insSI l).Pairwise (·<=·)|[]=>.nil|x::l=>insI_le x _ (insSI_le l)
theorem srtI_insI (l:A0):srtI l=insSI l:=by refine List.Perm.eq_of_pairwise (le:=(·<=·)) (λa b _ _ h1 h2=>by omega) ?_ (insSI_le l) ((List.mergeSort_perm l _).trans (qy l).symm);have:=List.pairwise_mergeSort (le:=λx y:Int=>decide (x<=y)) (λa b c h1 h2=>by simp at *;omega) (λa b=>by simp;omega) l;exact this.imp λh=>by simpa using h
def dedA (p:Int):A0->A0|[]=>[]|y::l=>bif decide (y=p)then dedA p l else y::dedA y l
def dedI:A0->A0|[]=>[]|x::l=>x::dedA x l
theorem dedA_snoc (x:Int):∀(l:A0) (p:Int),dedA p (l++[x])=dedA p l++(if x=l.getLast?.getD p then [] else [x])|[],p=>by grind[dedA]|y::l,p=>by simp only[List.cons_append,dedA];by_cases h:y=p;{subst h;simp only[decide_true,cond_true];rw[dedA_snoc x l y,List.getLast?_cons];simp};{rw[show decide (y=p)=false from by simpa using h];simp only[cond_false];rw[dedA_snoc x l y,List.getLast?_cons];simp}
theorem dedI_eq (l:A0):Lib.compact l=dedI l:=by
 have key:∀m,m<=l.length->compactUpTo l.toArray m=dedI (l.take m):=λm=>by
  induction m with
  |zero=>intro _;rfl|succ m ih=>
   intro hm;rw[compactUpTo_succ,ih (by omega),List.take_succ_eq_append_getElem (by omega)];have hd:l.toArray[m]! = l[m]'(by omega):=by grind
   rw[hd];cases m with
   |zero=>rfl|succ m=>
    cases l with
    |nil=>simp at hm|cons a l=>
     have h1:((a::l).toArray[m+1-1]!)=(a::l)[m]'(by omega):=by grind
     rw[List.take_succ_cons,List.cons_append];simp only[dedI];rw[dedA_snoc];have h2:(List.take m l).getLast?.getD a=(a::l)[m]'(by omega):=by grind
     simp_all[keeps]
 have:=key l.length (Nat.le_refl _);rw[List.take_length] at this;exact this
def sortIM (l:A0):Ay:=bif decide (l.length<4611686018427387904)then some (insSI l)else none
def cmpIM (l:A0):Option (A0×Nat):=bif decide (l.length<4611686018427387904)then some (dedI l++List.replicate (l.length-(dedI l).length) 0,(dedI l).length)else none
theorem cmpIM_le {l:A0} {r:A0×Nat} (h:cmpIM l=some r):r.2<=r.1.length:=by grind[cmpIM]
theorem sort_gM {P:Program} {Z:Ren} (L:Lays.n189 P Z) (e:TypeId) {l r:A0} (h:sortIM l=some r):GFn P (Z.f 189) [.u (.one (.own inBase))] [.row 1 e (List.map (rI .i64) l)] (.tup []) [some (.row 1 e (List.map (rI .i64) r))]:=by
 unfold sortIM at h;cases hd:decide (l.length<4611686018427387904)with
 |false=>grind|true=>rw[hd] at h;cases h;rw[<- srtI_insI];exact sort_g L e l (by simpa using hd)
theorem compact_gM {P:Program} {Z:Ren} (L:Lays2.n20 P Z) (e:TypeId) {l:A0} {r:A0×Nat} (h:cmpIM l=some r):GFn P (Z.f 20) [.u (.one (.own inBase))] [.row 1 e (List.map (rI .i64) l)] (.u (.one (.sub inBase 1 0 r.2))) [some (.row 1 e (List.map (rI .i64) r.1))]:=by
 unfold cmpIM at h;cases hd:decide (l.length<4611686018427387904)with
 |false=>grind|true=>rw[hd] at h;cases h;rw[<- dedI_eq];exact compact_g L e l (by simpa using hd)
