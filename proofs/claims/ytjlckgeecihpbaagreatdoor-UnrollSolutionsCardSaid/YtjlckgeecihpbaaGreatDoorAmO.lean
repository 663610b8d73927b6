/- Map keys: which types have them. -/
import Derived.Test.YtjlckgeecihpbaaGreatDoorAmN
import Derived.StringKeys
namespace Go.AM
open Go.RowKit
section
variable {P:Program} {t:TypeId}
theorem key_str (hu:P.underlying t=some .string):Maps.Keyed P t/\∀ k:Key,k.fits .str=true->∃ l,keyOf P t k.val=some l:=by
 refine⟨Maps.string_keyed hu,fun k hk=>?_⟩
 cases k with
 | int k n=>simp[Key.fits] at hk
 | str s =>
  simp only[Key.fits,decide_eq_true_eq] at hk
  refine⟨.string s,?_⟩
  simp[keyOf,hu,mapKey,Key.val,ByteArray.size,hk]
 | ints l=>simp[Key.fits] at hk
theorem mapM_some {α β:Type} (f:α->Option β):∀ l:List α,(∀ x∈l,∃ y,f x=some y)->∃ ys,l.mapM f=some ys
 | [],_=>⟨[],rfl⟩
 | x::l,h=>by
  obtain⟨y,hy⟩:=h x (by simp)
  obtain⟨ys,hys⟩:=mapM_some f l (fun z hz=>h z (by simp[hz]))
  exact⟨y::ys,by simp[List.mapM_cons,hy,hys]⟩
theorem key_ints {fs:Array Field} {m:Nat} (hu:P.underlying t=some (.struct fs)) (hl:laidOutB P=true) (hsmall:decide (P.types.size+2<=10000)=true) (hrow:decide (t < P.types.size)=true) (hk:P.keyType t=true) (hc:(P.cellsOf t,fs.size)=(m,m))
  (hf:∀ (i:Nat) (f:Field),fs.toList[i]?=some f->f.name ≠ "_" /\ f.offset=i/\P.underlying f.type=some (.int .i64)/\P.cellsOf f.type=1):Maps.Keyed P t/\∀ k:Key,k.fits (.ints m)=true->∃ l,keyOf P t k.val=some l:=by
 simp only[Prod.mk.injEq] at hc
 simp only[decide_eq_true_eq] at hsmall hrow
 refine⟨Maps.Keyed.of_law (deep_law_gate hl hsmall hrow hk (by rw[hu])),fun k hfit=>?_⟩
 cases k with
 | int k n=>simp[Key.fits] at hfit
 | str s=>simp[Key.fits] at hfit
 | ints l =>
  simp only[Key.fits,Bool.and_eq_true,decide_eq_true_eq,List.all_eq_true] at hfit
  obtain⟨hlen,hwf⟩:=hfit
  have hform:(Key.ints l).val.formed P t=true:=by simp[Key.val,Value.formed,hu,hc.1,hlen]
  have hcells:(Key.ints l).val.cells.toList=l.map (Value.int .i64):=by simp[Key.val,Value.cells]
  have hpos:0 < P.types.size:=Nat.lt_of_le_of_lt (Nat.zero_le _) hrow
  obtain⟨d,hd⟩:∃ d,P.types.size=d+1:=⟨P.types.size - 1,by omega⟩
  have hall:fs.all (·.name != "_")=true:=by
   rw[Array.all_eq_true_iff_forall_mem]
   intro f hfm
   obtain⟨i,hi⟩:=List.getElem?_of_mem (show f∈fs.toList by simpa using hfm)
   simpa using (hf i f hi).1
  obtain⟨ys,hys⟩:=mapM_some (fun f:Field=>P.keyLits (d+1) f.type (((l.map (Value.int .i64)).drop f.offset).take (P.cellsOf f.type))) fs.toList (fun f hfm=>by
   obtain⟨i,hi⟩:=List.getElem?_of_mem hfm
   obtain⟨_,h2,h3,h4⟩:=hf i f hi
   have hil:i < l.length:=by
    have:=(List.getElem?_eq_some_iff.1 hi).1
    simp only[Array.length_toList] at this
    omega
   have hdr:((l.map (Value.int .i64)).drop f.offset).take (P.cellsOf f.type)=[Value.int .i64 l[i]]:=by
    rw[h2,h4,List.drop_eq_getElem_cons (by simpa using hil)]
    simp
   rw[hdr]
   exact⟨_,by simp only[Program.keyLits,h3]; rw[if_pos ⟨trivial,hwf _ (List.getElem_mem hil)⟩]⟩)
  have hlits:P.keyLits (P.types.size+1) t (l.map (Value.int .i64))=some ys.flatten:=by
   rw[hd]
   unfold Program.keyLits
   simp only[hu]
   rw[if_pos ⟨by rw[List.length_map,hc.1,hlen],hall⟩,hys]
   rfl
  refine⟨.string (keyBytes ys.flatten),?_⟩
  unfold keyOf
  rw[hu]
  simp only[hk,hform,Bool.and_self,if_true,hcells,hlits,Option.map_some]
end
end Go.AM
