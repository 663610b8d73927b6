/- The sort of slices, as a function that changes a row in its place: out of the library's contract. -/
import Derived.Shelf.SlSortCmp.NoneTotal
import Derived.Test.YtffohfmfehjbmaaGreatDoorAmY
namespace Go.AM
open Go.RowKit Go.Shelf Go.Proofs Go.Lib Go.Sort
theorem blw_grow {W w':World} (h:Blw W.heap.size W w'):∃ q os',w'=grow (W.drewN q) os':=by
 refine⟨w'.drawn - W.drawn,w'.heap.extract W.heap.size w'.heap.size,?_⟩
 have hh:w'.heap=W.heap++w'.heap.extract W.heap.size w'.heap.size:=by
  apply Array.ext_getElem?
  intro i
  rcases Nat.lt_or_ge i W.heap.size with hi | hi
  ·rw[Array.getElem?_append_left hi]; exact h.block i hi
  ·rw[Array.getElem?_append_right hi,Array.getElem?_extract]
   split
   ·congr 1; omega
   ·have:=h.size
    rw[Array.getElem?_eq_none (by omega)]
 have hd:w'.drawn=W.drawn+(w'.drawn - W.drawn):=by have:W.drawn<=w'.drawn:=h.drawn; omega
 have h1:=h.os
 have h2:=h.tape
 have h3:=h.output
 obtain⟨heap,tape,drawn,os,output⟩:=w'
 simp only at h1 h2 h3 hd hh
 simp only[grow,World.drewN]
 subst h1 h2 h3
 rw[<- hh,<- hd]
section
variable {α:Type} (encI:α->List Int)
def rowI (x:α):List L:=(encI x).map (L.int .i64)
def cD (x:α):List Value:=(encI x).map (Value.int .i64)
variable {encI} {φ:Nat->Value} {w:World} {F:Nat->Prop}
theorem eN:∀ {l:List Int} {vs:List Value},csims φ w F ((l.map (L.int .i64)).map C.d) vs↔vs=l.map (Value.int .i64)
 | [],vs=>by simp[csims]
 | n::l,vs=>by
  simp only[List.map_cons,csims,csim,rep]
  constructor
  ·rintro⟨v,r,rfl,rfl,h⟩
   rw[eN.1 h]
  ·rintro rfl
   exact⟨_,_,rfl,rfl,eN.2 rfl⟩
theorem flat_ints (xs:List α):(xs.map (rowI encI)).flatten=((xs.map encI).flatten).map (L.int .i64):=by
 induction xs with
 | nil=>rfl
 | cons x xs ih=>simp[rowI,ih]
theorem flat_vals (xs:List α):(xs.map (cD encI)).flatten=((xs.map encI).flatten).map (Value.int .i64):=by
 induction xs with
 | nil=>rfl
 | cons x xs ih=>simp[cD,ih]
theorem csims_rows {xs:List α} {vs:List Value}:csims φ w F ((xs.map (rowI encI)).flatten.map C.d) vs↔vs=(xs.map (cD encI)).flatten:=by
 rw[flat_ints,flat_vals]; exact eN
theorem flatten_row' {β:Type} {sz:Nat}:∀ {rs:List (List β)} {i:Nat} {r:List β},(∀ r∈rs,r.length=sz)->rs[i]?=some r->(rs.flatten.drop (i*sz)).take sz=r
 | [],i,r,_,hi=>by simp at hi
 | x::rs,0,r,h,hi=>by
  simp at hi
  subst hi
  have:=h x (by simp)
  simp[<- this]
 | x::rs,i+1,r,h,hi=>by
  have hx:=h x (by simp)
  have ih:=flatten_row' (rs:=rs) (i:=i) (r:=r) (fun r hr=>h r (List.mem_cons_of_mem _ hr)) (by simpa using hi)
  rw[List.flatten_cons,show (i+1)*sz=x.length+i*sz from by rw[Nat.add_mul,hx]; omega,List.drop_length_add_append]
  exact ih
theorem flatK_list [Inhabited α] {k:Nat} (hl:∀ x,(encI x).length=k) (xs:List α):(flatK (cD encI) k xs.toArray).toList=(xs.map (cD encI)).flatten:=by
 have hrow:∀ r∈xs.map (cD encI),r.length=k:=fun r hr=>by
  obtain⟨x,_,rfl⟩:=List.mem_map.1 hr
  simp[cD,hl]
 have hlen:(xs.map (cD encI)).flatten.length=xs.length*k:=by
  rw[List.length_flatten]
  have:(xs.map (cD encI)).map List.length=List.replicate xs.length k:=by
   apply List.ext_getElem
   ·simp
   ·intro i h1 h2; simp[cD,hl]
  rw[this]; simp
 apply List.ext_getElem?
 intro t
 rcases Nat.lt_or_ge t (xs.length*k) with ht | ht
 ·have hk:0 < k:=by
   rcases Nat.eq_zero_or_pos k with h | h
   ·subst h; simp at ht
   ·exact h
  have hd:t / k < xs.length:=(Nat.div_lt_iff_lt_mul hk).2 ht
  have h1:=get_flatK (cD encI) k xs.toArray t (by simpa using ht)
  have hsz:t < (flatK (cD encI) k xs.toArray).size:=by simpa using ht
  rw[getElem!_pos _ t hsz] at h1
  have hx:xs.toArray[t / k]! = xs[t / k]:=by rw[getElem!_pos xs.toArray (t / k) (by simpa using hd)]; simp
  have hm:t % k < (cD encI xs[t / k]).length:=by simp[cD,hl]; exact Nat.mod_lt _ hk
  rw[hx,getElem!_pos (cD encI xs[t / k]) (t % k) hm] at h1
  rw[show (flatK (cD encI) k xs.toArray).toList[t]?=some ((cD encI xs[t / k])[t % k]) from by
   rw[Array.getElem?_toList,Array.getElem?_eq_getElem hsz,h1]]
  have h2:=flatten_row' (i:=t / k) (r:=cD encI xs[t / k]) hrow (by simp[hd])
  have h3:((xs.map (cD encI)).flatten.drop (t / k*k))[t % k]?=some ((cD encI xs[t / k])[t % k]):=by
   have:=congrArg (fun l:List Value=>l[t % k]?) h2
   simp only[List.getElem?_take] at this
   rw[if_pos (Nat.mod_lt _ hk)] at this
   rw[this,List.getElem?_eq_getElem hm]
  rw[List.getElem?_drop,show t / k*k+t % k=t from Nat.div_add_mod' t k] at h3
  rw[h3]
 ·rw[List.getElem?_eq_none (by simpa using ht),List.getElem?_eq_none (by omega)]
end
theorem modify_at (w:World) (b:Nat) (f:Array Value->Array Value) (b':Nat):(mapBlock w b f).heap[b']?=if b=b' then (w.heap[b']?).map (onCells f) else w.heap[b']?:=by
 unfold mapBlock
 simp only[Array.getElem?_modify]
theorem sorted_list {α:Type} [Inhabited α] {cf:α->α->Int} {d:Array α} (h:SortedIn (ltOf cf) 0 d.size d):d.toList.Pairwise fun x y=>¬ cf y x < 0:=by
 rw[List.pairwise_iff_getElem]
 intro i j hi hj hij
 have h1:=h i j (Nat.zero_le _) hij (by simpa using hj)
 rw[getElem!_pos d i (by simpa using hi),getElem!_pos d j (by simpa using hj)] at h1
 simpa [ltOf] using h1
def Sorts {α:Type} (encI:α->List Int) (cf:α->α->Int) (k e:Nat) (xs:List α) (v:V) (o':Ob):Prop :=
 v=.tup []/\∃ ys:List α,o'=.row k e (ys.map (rowI encI))/\ys.Perm xs/\ys.Pairwise fun x y=>¬ cf y x < 0
theorem pdq_mut {P:Program} {Z:Ren} {α:Type} [Inhabited α] (L:SlLaysF0.n14 P Z) {k e:Nat} {encI:α->List Int} (hl:∀ x,(encI x).length=k) (aE:∀ w,(isAgg (Z.t 24)).run P w=.ok true w) (zE:∀ w,(Go.sizeOf (Z.t 24)).run P w=.ok k w)
  {cf:α->α->Int} (hO:SWO (ltOf cf)) {g:FuncId} (hg:∀ x y,PFn P g [.u (.agg ((rowI encI x).map C.d)),.u (.agg ((rowI encI y).map C.d))] (·=.int (cf x y)))
  (xs:List α) (hx:xs.length < 4611686018427387904) (lim:Nat) (hlim:lim < 4611686018427387904) :
  MutFn P (Z.f 14) [.one (.own inBase),.int 0,.int xs.length,.int lim,.one (.fn g [])] (.row k e (xs.map (rowI encI))) (Sorts encI cf k e xs):=by
 have hfn:∃ fn,P.funcs[Z.f 14]?=some fn/\(fn.name == "runtime.NumGoroutine")=false/\fn.body.isNone=false:=by
  obtain⟨nm,h1,h2⟩:=L.f14
  exact⟨_,h2,h1,rfl⟩
 refine⟨hfn,fun φ w F hF hin vals hvl hv=>?_⟩
 have hlen:vals.length=5:=hvl
 obtain⟨v0,v1,v2,v3,v4,rfl⟩:∃ v0 v1 v2 v3 v4,vals=[v0,v1,v2,v3,v4]:=by
  match vals,hlen with
  | [a,b,c,d,e],_=>exact⟨a,b,c,d,e,rfl⟩
 have e0:v0=φ inBase:=(hv 0 _ v0 rfl rfl).1
 have e1:v1=.int .i64 0:=hv 1 _ v1 rfl rfl
 have e2:v2=.int .i64 xs.length:=hv 2 _ v2 rfl rfl
 have e3:v3=.int .i64 lim:=hv 3 _ v3 rfl rfl
 have e4:v4=.func (.func g) #[] #[]:=by
  obtain⟨arr,h1,h2⟩:=hv 4 _ v4 rfl rfl
  have:arr.toList=[]:=h2
  have:arr=#[]:=by simpa using this
  rw[h1,this]
 subst e0 e1 e2 e3 e4
 obtain⟨hrl,hob⟩:=hin.objs 0 _ rfl
 rw[Nat.add_zero] at hob
 rcases hob with ⟨h0,a,hp⟩ | ⟨b,cap,cur,h0,hp,hle,hm,hh,hsz,hc⟩
 ·have hxs:xs=[]:=by simpa using h0
  subst hxs
  rw[hp]
  refine (AnyF.pdqsortCmpFunc_none L a 0 lim (.func (.func g) #[] #[]) w).mono fun e' w' ⟨he,hw⟩=>?_
  subst hw
  exact⟨_,.tup [],_,he,⟨rfl,rfl,rfl,Nat.le_refl _,Nat.le_refl _,fun _ _ _=>rfl⟩,⟨rfl,[],rfl,List.Perm.refl _,List.Pairwise.nil⟩,rfl,rfl,⟨#[],rfl,rfl⟩,⟨by simp,.inl ⟨rfl,a,hp⟩⟩⟩
 ·simp only[List.length_map] at hp hle hc
  have hin1:∀ b',bv φ [Ob.row k e (xs.map (rowI encI))] b'↔b'=b:=by
   intro b'
   constructor
   ·rintro⟨i,o1,hi,hbk⟩
    rcases i with _ | i
    ·rw[Nat.add_zero,hp] at hbk
     simp only[hblk] at hbk
     rw[if_neg (by omega)] at hbk
     exact (Option.some.inj hbk).symm
    ·simp at hi
   ·rintro rfl
    refine⟨0,_,rfl,?_⟩
    rw[Nat.add_zero,hp]
    simp only[hblk]
    rw[if_neg (by omega)]
  have hbl:b < w.heap.size:=(Array.getElem?_eq_some_iff.1 hh).1
  have hcur:=csims_rows.1 hc
  have hflat:=flatK_list hl xs
  have hcsz:xs.length*k<=cur.size:=by rw[hsz]; exact Nat.mul_le_mul_right _ hle
  have hH:HoldsK (cD encI) k w b 0 xs.toArray:=by
   intro j hj
   have hj':j < xs.length*k:=by simpa using hj
   rw[Nat.zero_add,cell_of_row w b j cur e (0,0) hh]
   have h1:(flatK (cD encI) k xs.toArray).toList[j]?=(cur.toList.take (xs.length*k))[j]?:=by rw[hflat,hcur]
   rw[List.getElem?_take,if_pos hj'] at h1
   refine⟨?_,?_⟩
   ·have h2:cur[j]?=(flatK (cD encI) k xs.toArray)[j]?:=by simpa using h1.symm
    rw[h2,Array.getElem?_eq_getElem hj,getElem!_pos _ j hj]; rfl
   ·simp[World.frozen?,hh]
  have hcmp:CmpLays P g #[] (cD encI) k cf b 0 xs.toArray.size w:=by
   intro m os dk _ x y
   have hgw:Fr (sortWorldK (cD encI) k w b 0 m dk os) fun _=>True:=⟨fun _ _=>trivial,hF.gw.keep (fun b' hb'=>by
    have hne:b≠b':=fun e=>by
     have:=hin.glob 0 _ b rfl (by rw[Nat.add_zero,hp]; simp only[hblk]; rw[if_neg (by omega)])
     omega
    have hlt:b' < w.heap.size:=(hF.gw.low b' hb').2
    unfold sortWorldK grow putRowK putRow
    simp only
    rw[Array.getElem?_append_left (by simp[mapBlock,Sort.ahead]; exact hlt),modify_at,if_neg hne]
    rfl) (by unfold sortWorldK grow putRowK putRow; simp[mapBlock,Sort.ahead]) fun _ _=>trivial⟩
   refine ((hg x y).2 φ _ (fun _=>True) hgw [.agg (cD encI x).toArray,.agg (cD encI y).toArray] rfl (fun i z u hz hu=>?_)).mono fun e' w' ⟨u,v,he,hb,hv,hvs⟩=>?_
   ·match i,hz,hu with
    | 0,hz,hu=>cases hz; cases hu; exact⟨_,rfl,eN.2 rfl⟩
    | 1,hz,hu=>cases hz; cases hu; exact⟨_,rfl,eN.2 rfl⟩
    | i+2,hz,hu=>simp at hz
   ·subst hv
    have:u=.int .i64 (cf x y):=hvs
    subst this
    exact⟨he,blw_grow hb⟩
  have hxz:xs.toArray.size=xs.length:=by simp
  have key:=AnyQ.pdqsortCmpFunc_all L k aE zE (cD encI) cf g #[] hO b 0 cap xs.toArray w (fun args w=>run_callFunc (hg default default).1) hcmp
   ⟨fun x=>by simp[cD,hl],fun x v hv=>by obtain⟨n,_,rfl⟩:=List.mem_map.1 hv; rfl,hH,hbl⟩ (xs.length+1) 0 xs.length lim xs.toArray w (by omega) rfl (SWK.start hH) (Nat.zero_le _) (by simp) (by simpa using hx) hlim (Or.inl rfl)
  rw[hp]
  rw[hxz] at key
  refine key.mono fun e' w' ⟨he,hS⟩=>?_
  obtain⟨n,os,hw⟩:=hS
  have hsort:=pdq_sorts (ltOf cf) hO xs.toArray 0 xs.length lim true true (Nat.zero_le _) (by simp) (Or.inl rfl)
  generalize pdq (ltOf cf) xs.toArray 0 xs.length lim true true=d' at hw hsort
  obtain⟨⟨hs1,_,hs3⟩,hs4⟩:=hsort
  have hds:d'.size=xs.length:=by simpa using hs1
  have hperm:d'.toList.Perm xs:=by
   have h1:d'.extract 0 xs.length=d':=by rw[<- hds]; simp
   have h2:xs.toArray.extract 0 xs.length=xs.toArray:=by simp
   rw[h1,h2] at hs3
   simpa using hs3
  have hheap:∀ b',b' < w.heap.size->w'.heap[b']?=if b=b' then some (.cells (putCells id 0 (flatK (cD encI) k d') cur) e (0,0)) else w.heap[b']?:=by
   intro b' hb'
   have hsz1:(mapBlock (Sort.ahead w n) b (putCells id 0 (flatK (cD encI) k d'))).heap.size=w.heap.size:=by simp[mapBlock,Sort.ahead]
   rw[hw]
   unfold sortWorldK grow putRowK putRow
   simp only
   rw[Array.getElem?_append_left (by rw[hsz1]; exact hb'),modify_at]
   split
   ·rename_i hbb
    subst hbb
    show (w.heap[b]?).map _=_
    rw[hh]
    rfl
   ·rfl
  have hrows:∀ r∈d'.toList.map (rowI encI),r.length=k:=fun r hr=>by
   obtain⟨x,_,rfl⟩:=List.mem_map.1 hr
   simp[rowI,hl]
  refine⟨_,.tup [],.row k e (d'.toList.map (rowI encI)),he,?_,⟨rfl,d'.toList,rfl,hperm,sorted_list (by rw[hds]; exact hs4)⟩,rfl,rfl,⟨#[],rfl,rfl⟩,hrows,.inr ⟨b,cap,_,h0,?_,?_,hm,by rw[hheap b hbl,if_pos rfl],?_,?_⟩⟩
  ·refine⟨by rw[hw]; rfl,by rw[hw]; rfl,by rw[hw]; rfl,by rw[hw]; exact Nat.le_add_right _ _,?_,fun b' hb' hni=>?_⟩
   ·rw[hw]; simp[sortWorldK,grow,putRowK,putRow,mapBlock,Sort.ahead]
   ·rw[hheap b' hb',if_neg fun h=>hni ((hin1 b').2 h.symm)]
  ·simp[hp,hds]
  ·simp[hds]; exact hle
  ·simp[putCells,hsz]
  ·have hfl:(flatK (cD encI) k d').toList=(d'.toList.map (cD encI)).flatten:=by
    have:=flatK_list hl d'.toList
    simpa using this
   refine csims_rows.2 ?_
   rw[<- hfl]
   apply List.ext_getElem?
   intro j
   have hlen':(flatK (cD encI) k d').size=xs.length*k:=by simp[hds]
   rw[List.getElem?_take]
   simp only[List.length_map,Array.length_toList,hds,Array.getElem?_toList]
   split
   ·rename_i hj
    have hjc:j < cur.size:=by omega
    simp only[putCells,Array.getElem?_mapIdx,Array.getElem?_eq_getElem hjc,Option.map_some,Nat.zero_le,true_and,Nat.zero_add,Nat.sub_zero]
    rw[if_pos (by rw[hlen']; exact hj),Array.getElem?_eq_getElem (by rw[hlen']; exact hj),getElem!_pos _ j (by rw[hlen']; exact hj)]
    rfl
   ·rw[Array.getElem?_eq_none (by rw[hlen']; omega)]
end Go.AM
