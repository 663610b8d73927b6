/- Map keys: which types have them. -/
import Derived.Test.YtlifofijgddjkabGreatDoorAmN
import Derived.StringKeys
namespace Go.AM
open Go.RowKit
section
variable {P:Program} {t:TypeId}
theorem key_str (hu:P.underlying t=some .string):Maps.Keyed P t/\∀ k:Key,k.fits .str=true->∃ l,keyOf P t k.val=some l:=by
 refine⟨Maps.string_keyed hu,fun k hk=>?_⟩
 cases k with
 | int k n=>simp[Key.fits] at hk
 | str s =>
  simp only[Key.fits,decide_eq_true_eq] at hk
  refine⟨.string s,?_⟩
  simp[keyOf,hu,mapKey,Key.val,ByteArray.size,hk]
 | ints l=>simp[Key.fits] at hk
theorem mapM_some {α β:Type} (f:α->Option β):∀ l:List α,(∀ x∈l,∃ y,f x=some y)->∃ ys,l.mapM f=some ys
 | [],_=>⟨[],rfl⟩
 | x::l,h=>by
  obtain⟨y,hy⟩:=h x (by simp)
  obtain⟨ys,hys⟩:=mapM_some f l (fun z hz=>h z (by simp[hz]))
  exact⟨y::ys,by simp[List.mapM_cons,hy,hys]⟩
theorem key_ints {fs:Array Field} {m:Nat} (hu:P.underlying t=some (.struct fs)) (hl:laidOutB P=true) (hsmall:decide (P.types.size+2<=10000)=true) (hrow:decide (t < P.types.size)=true) (hk:P.keyType t=true) (hc:(P.cellsOf t,fs.size)=(m,m))
  (hf:∀ (i:Nat) (f:Field),fs.toList[i]?=some f->f.name ≠ "_" /\ f.offset=i/\P.underlying f.type=some (.int .i64)/\P.cellsOf f.type=1):Maps.Keyed P t/\∀ k:Key,k.fits (.ints m)=true->∃ l,keyOf P t k.val=some l:=by
 simp only[Prod.mk.injEq] at hc
 simp only[decide_eq_true_eq] at hsmall hrow
 refine⟨Maps.Keyed.of_law (deep_law_gate hl hsmall hrow hk (by rw[hu])),fun k hfit=>?_⟩
 cases k with
 | int k n=>simp[Key.fits] at hfit
 | str s=>simp[Key.fits] at hfit
 | ints l =>
  simp only[Key.fits,Bool.and_eq_true,decide_eq_true_eq,List.all_eq_true] at hfit
  obtain⟨hlen,hwf⟩:=hfit
  have hform:(Key.ints l).val.formed P t=true:=by simp[Key.val,Value.formed,hu,hc.1,hlen]
  have hcells:(Key.ints l).val.cells.toList=l.map (Value.int .i64):=by simp[Key.val,Value.cells]
  have hpos:0 < P.types.size:=Nat.lt_of_le_of_lt (Nat.zero_le _) hrow
  obtain⟨d,hd⟩:∃ d,P.types.size=d+1:=⟨P.types.size - 1,by omega⟩
  have hall:fs.all (·.name != "_")=true:=by
   rw[Array.all_eq_true_iff_forall_mem]
   intro f hfm
   obtain⟨i,hi⟩:=List.getElem?_of_mem (show f∈fs.toList by simpa using hfm)
   simpa using (hf i f hi).1
  obtain⟨ys,hys⟩:=mapM_some (fun f:Field=>P.keyLits (d+1) f.type (((l.map (Value.int .i64)).drop f.offset).take (P.cellsOf f.type))) fs.toList (fun f hfm=>by
   obtain⟨i,hi⟩:=List.getElem?_of_mem hfm
   obtain⟨_,h2,h3,h4⟩:=hf i f hi
   have hil:i < l.length:=by
    have:=(List.getElem?_eq_some_iff.1 hi).1
    simp only[Array.length_toList] at this
    omega
   have hdr:((l.map (Value.int .i64)).drop f.offset).take (P.cellsOf f.type)=[Value.int .i64 l[i]]:=by
    rw[h2,h4,List.drop_eq_getElem_cons (by simpa using hil)]
    simp
   rw[hdr]
   exact⟨_,by simp only[Program.keyLits,h3]; rw[if_pos ⟨trivial,hwf _ (List.getElem_mem hil)⟩]⟩)
  have hlits:P.keyLits (P.types.size+1) t (l.map (Value.int .i64))=some ys.flatten:=by
   rw[hd]
   unfold Program.keyLits
   simp only[hu]
   rw[if_pos ⟨by rw[List.length_map,hc.1,hlen],hall⟩,hys]
   rfl
  refine⟨.string (keyBytes ys.flatten),?_⟩
  unfold keyOf
  rw[hu]
  simp only[hk,hform,Bool.and_self,if_true,hcells,hlits,Option.map_some]
def IntsT (P:Program):Nat->TypeId->Nat->Prop
 | 0,t,m=>P.underlying t=some (.int .i64)/\m=1
 | d+1,t,m=>(P.underlying t=some (.int .i64)/\m=1) \/ ∃ fs:Array Field,P.underlying t=some (.struct fs)/\P.cellsOf t=m/\∀ (i:Nat) (f:Field),fs.toList[i]?=some f->f.name ≠ "_" /\ ∃ k,IntsT P d f.type k/\P.cellsOf f.type=k/\f.offset+k<=m
theorem keyLits_int (hu:P.underlying t=some (.int .i64)) {l:List Int} (hl:l.length=1) (hw:∀ n∈l,(Lit.int .i64 n).wf=true) (e:Nat):∃ ys,P.keyLits (e+1) t (l.map (Value.int .i64))=some ys:=by
 match l,hl with
 | [n],_=>exact⟨_,by simp only[Program.keyLits,hu,List.map_cons,List.map_nil]; rw[if_pos ⟨trivial,hw n (by simp)⟩]⟩
theorem keyLits_ints:∀ (d:Nat) (t:TypeId) (m:Nat),IntsT P d t m->∀ e,d<=e->∀ l:List Int,l.length=m->(∀ n∈l,(Lit.int .i64 n).wf=true)->∃ ys,P.keyLits (e+1) t (l.map (Value.int .i64))=some ys
 | 0,t,m,h,e,_,l,hl,hw=>keyLits_int h.1 (hl.trans h.2) hw e
 | d+1,t,m,h,e,hde,l,hl,hw=>by
  rcases h with h | ⟨fs,hu,hc,hf⟩
  ·exact keyLits_int h.1 (hl.trans h.2) hw e
  ·obtain⟨e,rfl⟩:∃ e',e=e'+1:=⟨e - 1,by omega⟩
   have hall:fs.all (·.name != "_")=true:=by
    rw[Array.all_eq_true_iff_forall_mem]
    intro f hfm
    obtain⟨i,hi⟩:=List.getElem?_of_mem (show f∈fs.toList by simpa using hfm)
    simpa using (hf i f hi).1
   obtain⟨ys,hys⟩:=mapM_some (fun f:Field=>P.keyLits (e+1) f.type (((l.map (Value.int .i64)).drop f.offset).take (P.cellsOf f.type))) fs.toList (fun f hfm=>by
    obtain⟨i,hi⟩:=List.getElem?_of_mem hfm
    obtain⟨_,k,h2,h3,h4⟩:=hf i f hi
    rw[h3,<- List.map_drop,<- List.map_take]
    exact keyLits_ints d f.type k h2 e (by omega) _ (by rw[List.length_take,List.length_drop]; omega) fun n hn=>hw n (List.mem_of_mem_drop (List.mem_of_mem_take hn)))
   refine⟨ys.flatten,?_⟩
   unfold Program.keyLits
   simp only[hu]
   rw[if_pos ⟨by rw[List.length_map,hc,hl],hall⟩,hys]
   rfl
theorem key_nest {fs:Array Field} {m d:Nat} (hu:P.underlying t=some (.struct fs)) (hl:laidOutB P=true) (hsmall:decide (P.types.size+2<=10000)=true) (hrow:decide (t < P.types.size)=true) (hk:P.keyType t=true) (hc:P.cellsOf t=m)
  (hI:IntsT P d t m) (hd:decide (d<=P.types.size)=true):Maps.Keyed P t/\∀ k:Key,k.fits (.ints m)=true->∃ l,keyOf P t k.val=some l:=by
 simp only[decide_eq_true_eq] at hsmall hrow hd
 refine⟨Maps.Keyed.of_law (deep_law_gate hl hsmall hrow hk (by rw[hu])),fun k hfit=>?_⟩
 cases k with
 | int k n=>simp[Key.fits] at hfit
 | str s=>simp[Key.fits] at hfit
 | ints l =>
  simp only[Key.fits,Bool.and_eq_true,decide_eq_true_eq,List.all_eq_true] at hfit
  obtain⟨hlen,hwf⟩:=hfit
  have hform:(Key.ints l).val.formed P t=true:=by simp[Key.val,Value.formed,hu,hc,hlen]
  have hcells:(Key.ints l).val.cells.toList=l.map (Value.int .i64):=by simp[Key.val,Value.cells]
  obtain⟨ys,hys⟩:=keyLits_ints d t m hI P.types.size hd l hlen hwf
  refine⟨.string (keyBytes ys),?_⟩
  unfold keyOf
  rw[hu]
  simp only[hk,hform,Bool.and_self,if_true,hcells,hys,Option.map_some]
end
end Go.AM
