/- slices.Sort and slices.Compact of integers, on a row that is changed in its place: out of the library's contracts. -/
import Derived.Shelf.Sort.Plain
import Derived.Shelf.Slices.In.SortNone
import Derived.Shelf.Slices.CompactI
import Derived.Test.YtbgliammfkgfoaaGreatDoorAmGf
namespace Go.AM
open Go.RowKit Go.Shelf Go.Proofs Go.Lib Go.Sort
def eW (l:List Int):List (List L):=l.map fun x=>[L.int .i64 x]
theorem rowsI_flat (l:List Int):(eW l).flatten=l.map (L.int .i64):=by
 unfold eW
 induction l with
 | nil=>rfl
 | cons x l ih=>simp[ih]
section
variable {φ:Nat->Value} {w:World} {F:Nat->Prop}
theorem csims_i64:∀ {l:List Int} {vs:List Value},bh φ w F ((l.map (L.int .i64)).map C.d) vs↔vs=l.map (Value.int .i64)
 | [],vs=>by simp[bh]
 | n::l,vs=>by
  simp only[List.map_cons,bh,bl,rep]
  constructor
  ·rintro⟨v,r,rfl,rfl,h⟩
   rw[csims_i64.1 h]
  ·rintro rfl
   exact⟨_,_,rfl,rfl,csims_i64.2 rfl⟩
end
theorem grow_nil (w:World):grow w #[]=w:=by
 cases w
 simp[grow]
theorem ints_g {P:Program} {f:FuncId} {xs ys:List Int} {v:V} {e:TypeId} {rv:Option Addr->Nat->Value} (hfn:∃ fn,P.funcs[f]?=some fn/\(fn.name == "runtime.NumGoroutine")=false/\fn.body.isNone=false) (hl:ys.length=xs.length) (hvN:v.inN 1=true)
  (hv:∀ (φ:Nat->Value) (w:World) (F:Nat->Prop) (ao:Option Addr) (cap:Nat),φ inBase=.slice ao xs.length cap->(cap=0 \/ ∃ b,ao=some ⟨b,0,none⟩)->bn φ w F v (rv ao cap))
  (hrun:∀ (b cap:Nat) (w:World),Holds (Value.int .i64) w b 0 xs.toArray->b < w.heap.size->xs.length<=cap->Calls P f #[.slice (some ⟨b,0,none⟩) xs.length cap] w fun e w'=>e=.returned (rv (some ⟨b,0,none⟩) cap)/\∃ n os,w'=grow (putRow (Value.int .i64) (Sort.ahead w n) b 0 ys.toArray) os)
  (hnone:xs=[]->∀ (a:Option Addr) (w:World),Calls P f #[.slice a 0 0] w fun e w'=>e=.returned (rv a 0)/\w'=w) :
  GFn P f [.u (.one (.own inBase))] [.row 1 e (eW xs)] v [some (.row 1 e (eW ys))]:=by
 refine⟨hfn,by simp,hvN,fun j o hj=>?_,fun φ w F hF hin vals hvl hva=>?_⟩
 ·cases j with
  | zero=>simp only[List.getElem?_cons_zero,Option.some.injEq] at hj; subst hj; rfl
  | succ j=>simp at hj
 obtain⟨v0,rfl⟩:∃ v0,vals=[v0]:=by
  match vals,hvl with
  | [a],_=>exact⟨a,rfl⟩
 obtain⟨e0,_⟩:=hva 0 _ v0 rfl rfl
 obtain⟨hrl,hob⟩:=hin.objs 0 _ rfl
 rw[Nat.add_zero] at hob
 have out1:∀ (φ':Nat->Value) (b:Nat),iZ φ' [some (Ob.row 1 e (eW ys))] b↔hbl (φ' inBase) b:=fun φ' b=>by
  constructor
  ·rintro⟨i,o,hi,hb⟩
   cases i with
   | zero=>exact hb
   | succ i=>simp at hi
  ·exact fun hb=>⟨0,_,rfl,hb⟩
 have in1:∀ b,dE φ [Ob.row 1 e (eW xs)] b↔hbl (φ inBase) b:=fun b=>by
  constructor
  ·rintro⟨i,o,hi,hb⟩
   cases i with
   | zero=>exact hb
   | succ i=>simp at hi
  ·exact fun hb=>⟨0,_,rfl,hb⟩
 have fin:∀ (w':World) (ao:Option Addr) (cap:Nat),φ inBase=.slice ao xs.length cap->(cap=0 \/ ∃ b,ao=some ⟨b,0,none⟩)->Chg φ [.row 1 e (eW xs)] w w' ->
   (∀ F',gm φ w' F' inBase (.row 1 e (eW ys)))->∃ u φ',Ending.returned (rv ao cap)=.returned u/\Chg φ [.row 1 e (eW xs)] w w'/\(∀ i,i < [Ob.row 1 e (eW xs)].length->veq (φ (inBase+i)) (φ' (inBase+i))) /\
   (∀ j o,[some (Ob.row 1 e (eW ys))][j]?=some (some o)->gm φ' w' (fun b=>(F b \/ dE φ [.row 1 e (eW xs)] b)/\¬ iZ φ' [some (.row 1 e (eW ys))] b) (inBase+j) o) /\
   (∀ j o b,[some (Ob.row 1 e (eW ys))][j]?=some (some o)->hbl (φ' (inBase+j)) b->(w.heap.size<=b \/ dE φ [.row 1 e (eW xs)] b)/\b < w'.heap.size) /\
   (∀ i j o o' b,[some (Ob.row 1 e (eW ys))][i]?=some (some o)->[some (Ob.row 1 e (eW ys))][j]?=some (some o')->hbl (φ' (inBase+i)) b->hbl (φ' (inBase+j)) b->i=j) /\
   bn φ' w' (fun b=>(F b \/ dE φ [.row 1 e (eW xs)] b)/\¬ iZ φ' [some (.row 1 e (eW ys))] b) v u:=by
  intro w' ao cap hp hao hch hos
  refine⟨_,φ,rfl,hch,fun _ _=>.refl _,fun j o hj=>?_,fun j o b hj hb=>?_,fun i j o o' b hi hj _ _=>?_,hv φ _ _ ao cap hp hao⟩
  ·cases j with
   | zero=>simp only[List.getElem?_cons_zero,Option.some.injEq] at hj; subst hj; exact hos _
   | succ j=>simp at hj
  ·cases j with
   | zero=>exact⟨.inr ((in1 b).2 hb),Nat.lt_of_lt_of_le (hin.blk 0 _ b rfl hb) hch.size⟩
   | succ j=>simp at hj
  ·cases i with
   | succ i=>simp at hi
   | zero =>
    cases j with
    | succ j=>simp at hj
    | zero=>rfl
 rcases hob with ⟨h0,a,hp⟩ | ⟨b,cap,cur,h0,hp,hle,hm,hh,hsz,hc⟩
 ·have hxs:xs=[]:=by simpa [eW] using h0
  rw[hp] at e0
  have e1:v0=.slice a 0 0:=e0
  subst e1
  refine (hnone hxs a w).mono fun e' w' ⟨he,hw⟩=>?_
  subst he hw
  have hys:ys=[]:=List.eq_nil_of_length_eq_zero (by rw[hl,hxs]; rfl)
  exact fin w' a 0 (by rw[hp,hxs]; rfl) (.inl rfl) ⟨rfl,rfl,rfl,Nat.le_refl _,Nat.le_refl _,fun _ _ _=>rfl⟩ fun F'=>⟨by rw[hys]; simp[eW],.inl ⟨by rw[hys]; rfl,a,hp⟩⟩
 ·have hrl1:(eW xs).length=xs.length:=by simp[eW]
  rw[hrl1] at hp hle hc
  rw[Nat.mul_one] at hc
  rw[hp] at e0
  have e1:v0=.slice (some ⟨b,0,none⟩) xs.length cap:=e0
  subst e1
  have hbl:b < w.heap.size:=(Array.getElem?_eq_some_iff.1 hh).1
  rw[rowsI_flat] at hc
  have hcur:=csims_i64.1 hc
  have hget:∀ j,j < xs.length->cur[j]?=some (.int .i64 xs.toArray[j]!):=fun j hj=>by
   have h1:(cur.toList.take xs.length)[j]?=(xs.map (Value.int .i64))[j]?:=by rw[hcur]
   rw[List.getElem?_take,if_pos hj,Array.getElem?_toList] at h1
   rw[h1,getElem!_pos xs.toArray j (by simpa using hj)]
   simp[hj]
  have hH:Holds (Value.int .i64) w b 0 xs.toArray:=by
   intro j hj
   have hj':j < xs.length:=by simpa using hj
   rw[Nat.zero_add,cell_of_row w b j cur e (0,0) hh]
   exact⟨hget j hj',by simp[World.frozen?,hh]⟩
  refine (hrun b cap w hH hbl hle).mono fun e' w' ⟨he,n,os,hw⟩=>?_
  subst he
  have hheap:∀ b',b' < w.heap.size->w'.heap[b']?=if b=b' then some (.cells (putCells (Value.int .i64) 0 ys.toArray cur) e (0,0)) else w.heap[b']?:=by
   intro b' hb'
   have hsz1:(mapBlock (Sort.ahead w n) b (putCells (Value.int .i64) 0 ys.toArray)).heap.size=w.heap.size:=by simp[mapBlock,Sort.ahead]
   rw[hw]
   unfold grow putRow
   simp only
   rw[Array.getElem?_append_left (by rw[hsz1]; exact hb')]
   unfold mapBlock
   simp only[Array.getElem?_modify]
   split
   ·rename_i hbb
    subst hbb
    show (w.heap[b]?).map _=_
    rw[hh]
    rfl
   ·rfl
  refine fin w' _ cap hp (.inr ⟨b,rfl⟩) ⟨by rw[hw]; rfl,by rw[hw]; rfl,by rw[hw]; rfl,by rw[hw]; exact Nat.le_add_right _ _,by rw[hw]; simp[grow,putRow,mapBlock,Sort.ahead],fun b' hb' hni=>?_⟩ fun F'=>⟨by simp[eW],.inr ⟨b,cap,_,h0,?_,?_,hm,by rw[hheap b hbl,if_pos rfl],?_,?_⟩⟩
  ·rw[hheap b' hb',if_neg]
   rintro rfl
   refine hni ((in1 b).2 ?_)
   rw[hp]
   simp only[hbl_slice]
   exact⟨by omega,trivial⟩
  ·rw[hp]; simp[eW,hl]
  ·simp[eW,hl]; exact hle
  ·simp[putCells,hsz]
  ·rw[rowsI_flat]
   refine csims_i64.2 ?_
   apply List.ext_getElem?
   intro j
   have hrl2:(eW ys).length=xs.length:=by simp[eW,hl]
   rw[hrl2,Nat.mul_one,List.getElem?_take,Array.getElem?_toList]
   split
   ·rename_i hj
    have hjc:j < cur.size:=by omega
    have hjy:j < ys.length:=by omega
    simp only[putCells,Array.getElem?_mapIdx,Array.getElem?_eq_getElem hjc,Option.map_some,Nat.zero_le,true_and,Nat.zero_add,Nat.sub_zero]
    rw[if_pos (by simpa using hjy),getElem!_pos ys.toArray j (by simpa using hjy)]
    simp[hjy]
   ·rw[List.getElem?_eq_none (by simp; omega)]
def srtI (l:List Int):List Int:=l.mergeSort fun x y=>decide (x<=y)
def cmpI0 (l:List Int):List Int:=Lib.compact l++List.replicate (l.length - (Lib.compact l).length) 0
theorem sort_g {P:Program} {Z:Ren} (L:Lays.n189 P Z) (e:TypeId) (xs:List Int) (hx:xs.length < 4611686018427387904):GFn P (Z.f 189) [.u (.one (.own inBase))] [.row 1 e (eW xs)] (.tup []) [some (.row 1 e (eW (srtI xs)))]:=by
 have hfn:∃ fn,P.funcs[Z.f 189]?=some fn/\(fn.name == "runtime.NumGoroutine")=false/\fn.body.isNone=false:=⟨_,L.f189,by rfl,rfl⟩
 refine ints_g (rv:=fun _ _=>.tuple #[]) hfn (by simp[srtI]) rfl (fun _ _ _ _ _ _ _=>⟨#[],rfl,rfl⟩) (fun b cap w hH hb _=>?_) (fun h a w=>?_)
 ·exact Any.slices_Sort_int L b 0 cap xs w hH hb hx
 ·exact Any.slices_Sort_int_none L a 0 w
theorem compact_g {P:Program} {Z:Ren} (L:Lays2.n20 P Z) (e:TypeId) (xs:List Int) (hx:xs.length < 4611686018427387904):GFn P (Z.f 20) [.u (.one (.own inBase))] [.row 1 e (eW xs)] (.u (.one (.sub inBase 1 0 (Lib.compact xs).length))) [some (.row 1 e (eW (cmpI0 xs)))]:=by
 have hfn:∃ fn,P.funcs[Z.f 20]?=some fn/\(fn.name == "runtime.NumGoroutine")=false/\fn.body.isNone=false:=⟨_,L.f20,by rfl,rfl⟩
 have hle:(Lib.compact xs).length<=xs.length:=by
  have key:∀ m,(compactUpTo xs.toArray m).length<=m:=fun m=>by
   induction m with
   | zero=>simp[compactUpTo]
   | succ m ih =>
    rw[compactUpTo_succ,List.length_append]
    split<;>simp<;>omega
  exact key xs.length
 refine ints_g (rv:=fun ao cap=>.slice ao (Lib.compact xs).length cap) hfn (by simp[cmpI0]; omega) rfl (fun φ w F ao cap hp hao=>?_) (fun b cap w hH hb hc=>?_) (fun h a w=>?_)
 ·refine⟨ao,xs.length,cap,by rw[hp]; rfl,Nat.zero_le _,hle,?_⟩
  have:subA ao cap 0 1=ao:=by
   unfold subA
   rcases hao with h | ⟨b,rfl⟩
   ·rw[if_pos h]
   ·split
    ·rfl
    ·simp[Addr.add]
  rw[this,Nat.sub_zero,Nat.sub_zero]
 ·refine (Any.slices_Compact_int L b 0 cap xs w hH (by omega) hc).mono fun e' w' ⟨he,q,hw⟩=>⟨he,q,#[],?_⟩
  rw[grow_nil]
  exact hw
 ·refine (Any.slices_Compact_int_empty L a 0 w).mono fun e' w' ⟨he,hw⟩=>⟨?_,hw⟩
  rw[he,h]
  rfl
def insI (x:Int):List Int->List Int
 | []=>[x]
 | y::l=>bif decide (x<=y) then x::y::l else y::insI x l
def insSI:List Int->List Int
 | []=>[]
 | x::l=>insI x (insSI l)
theorem insI_perm (x:Int):∀ l,(insI x l).Perm (x::l)
 | []=>.refl _
 | y::l=>by
  unfold insI
  cases decide (x<=y)
  ·exact ((insI_perm x l).cons y).trans (.swap x y l)
  ·exact .refl _
theorem insSI_perm:∀ l,(insSI l).Perm l
 | []=>.refl _
 | x::l=>(insI_perm x _).trans ((insSI_perm l).cons x)
theorem insI_le (x:Int):∀ l:List Int,l.Pairwise (·<=·)->(insI x l).Pairwise (·<=·)
 | [],_=>by simp[insI]
 | y::l,h=>by
  unfold insI
  obtain⟨h1,h2⟩:=List.pairwise_cons.1 h
  by_cases hxy:x<=y
  ·rw[show decide (x<=y)=true from by simpa using hxy]
   refine List.pairwise_cons.2 ⟨fun z hz=>?_,h⟩
   rcases List.mem_cons.1 hz with rfl | hz
   ·exact hxy
   ·have:=h1 z hz; omega
  ·rw[show decide (x<=y)=false from by simpa using hxy]
   refine List.pairwise_cons.2 ⟨fun z hz=>?_,insI_le x l h2⟩
   rcases List.mem_cons.1 ((insI_perm x l).subset hz) with rfl | hz
   ·omega
   ·exact h1 z hz
theorem insSI_le:∀ l,(insSI l).Pairwise (·<=·)
 | []=>.nil
 | x::l=>insI_le x _ (insSI_le l)
theorem srtI_insI (l:List Int):srtI l=insSI l:=by
 refine List.Perm.eq_of_pairwise (le:=(·<=·)) (fun a b _ _ h1 h2=>by omega) ?_ (insSI_le l) ((List.mergeSort_perm l _).trans (insSI_perm l).symm)
 have:=List.pairwise_mergeSort (le:=fun x y:Int=>decide (x<=y)) (fun a b c h1 h2=>by simp at *; omega) (fun a b=>by simp; omega) l
 exact this.imp fun h=>by simpa using h
def dedA (p:Int):List Int->List Int
 | []=>[]
 | y::l=>bif decide (y=p) then dedA p l else y::dedA y l
def dedI:List Int->List Int
 | []=>[]
 | x::l=>x::dedA x l
theorem dedA_snoc (x:Int):∀ (l:List Int) (p:Int),dedA p (l++[x])=dedA p l++(if x=l.getLast?.getD p then [] else [x])
 | [],p=>by
  simp only[List.nil_append,dedA,List.getLast?_nil,Option.getD_none]
  by_cases h:x=p<;>simp[h]
 | y::l,p=>by
  simp only[List.cons_append,dedA]
  by_cases h:y=p
  ·subst h
   simp only[decide_true,cond_true]
   rw[dedA_snoc x l y,List.getLast?_cons]
   simp
  ·rw[show decide (y=p)=false from by simpa using h]
   simp only[cond_false]
   rw[dedA_snoc x l y,List.getLast?_cons]
   simp
theorem dedI_eq (l:List Int):Lib.compact l=dedI l:=by
 have key:∀ m,m<=l.length->compactUpTo l.toArray m=dedI (l.take m):=fun m=>by
  induction m with
  | zero=>intro _; simp[compactUpTo,dedI]
  | succ m ih =>
   intro hm
   rw[compactUpTo_succ,ih (by omega),List.take_succ_eq_append_getElem (by omega)]
   have hd:l.toArray[m]! = l[m]'(by omega):=by simp[show m < l.length from by omega]
   rw[hd]
   cases m with
   | zero=>simp[keeps,dedI,dedA]
   | succ m =>
    cases l with
    | nil=>simp at hm
    | cons a l =>
     have h1:((a::l).toArray[m+1 - 1]!)=(a::l)[m]'(by simp at hm ⊢; omega):=by simp[show m < l.length+1 from by simp at hm; omega]
     rw[List.take_succ_cons,List.cons_append]
     simp only[dedI]
     rw[dedA_snoc]
     have h2:(List.take m l).getLast?.getD a=(a::l)[m]'(by simp at hm ⊢; omega):=by
      cases m with
      | zero=>simp
      | succ m =>
       simp only[List.length_cons] at hm
       rw[List.getLast?_take]
       simp[show m < l.length from by omega]
     rw[h2]
     have h3:keeps (a::l).toArray (m+1)=decide ((a::l)[m+1]'(by omega)≠(a::l)[m]'(by simp at hm ⊢; omega)):=by
      unfold keeps
      rw[hd,h1]
      simp
     rw[h3]
     by_cases h4:(a::l)[m+1]'(by omega)=(a::l)[m]'(by simp at hm ⊢; omega)
     ·simp[h4]
     ·simp only[ne_eq,h4,not_false_eq_true,decide_true,if_true,if_false,List.cons_append]
 have:=key l.length (Nat.le_refl _)
 rw[List.take_length] at this
 exact this
def sortIM (l:List Int):Option (List Int):=bif decide (l.length < 4611686018427387904) then some (insSI l) else none
def cmpIM (l:List Int):Option (List Int×Nat):=bif decide (l.length < 4611686018427387904) then some (dedI l++List.replicate (l.length - (dedI l).length) 0,(dedI l).length) else none
theorem cmpIM_le {l:List Int} {r:List Int×Nat} (h:cmpIM l=some r):r.2<=r.1.length:=by
 unfold cmpIM at h
 cases hd:decide (l.length < 4611686018427387904) with
 | false=>rw[hd] at h; cases h
 | true =>
  rw[hd] at h
  cases h
  simp
theorem sort_gM {P:Program} {Z:Ren} (L:Lays.n189 P Z) (e:TypeId) {l r:List Int} (h:sortIM l=some r):GFn P (Z.f 189) [.u (.one (.own inBase))] [.row 1 e (List.map (rI .i64) l)] (.tup []) [some (.row 1 e (List.map (rI .i64) r))]:=by
 unfold sortIM at h
 cases hd:decide (l.length < 4611686018427387904) with
 | false=>rw[hd] at h; cases h
 | true =>
  rw[hd] at h
  cases h
  rw[<- srtI_insI]
  exact sort_g L e l (by simpa using hd)
theorem compact_gM {P:Program} {Z:Ren} (L:Lays2.n20 P Z) (e:TypeId) {l:List Int} {r:List Int×Nat} (h:cmpIM l=some r):GFn P (Z.f 20) [.u (.one (.own inBase))] [.row 1 e (List.map (rI .i64) l)] (.u (.one (.sub inBase 1 0 r.2))) [some (.row 1 e (List.map (rI .i64) r.1))]:=by
 unfold cmpIM at h
 cases hd:decide (l.length < 4611686018427387904) with
 | false=>rw[hd] at h; cases h
 | true =>
  rw[hd] at h
  cases h
  rw[<- dedI_eq]
  exact compact_g L e l (by simpa using hd)
end Go.AM
