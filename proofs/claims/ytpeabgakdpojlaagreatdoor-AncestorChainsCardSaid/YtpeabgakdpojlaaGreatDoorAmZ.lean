/- Lemmas for the law. -/
import Derived.Shelf.SlSortCmp.NoneTotal
import Derived.Test.YtpeabgakdpojlaaGreatDoorAmY
namespace Go.AM
open Go.RowKit Go.Shelf Go.Proofs Go.Lib Go.Sort
theorem blw_grow {W w':World} (h:Blw W.heap.size W w'):∃q os',w'=grow (W.drewN q) os':=by
 refine⟨w'.drawn-W.drawn,w'.heap.extract W.heap.size w'.heap.size,?_⟩;have hh:w'.heap=W.heap++w'.heap.extract W.heap.size w'.heap.size:=by apply Array.ext_getElem?;intro i;rcases Nat.lt_or_ge i W.heap.size with hi|hi;{rw[Array.getElem?_append_left hi];exact h.block i hi};{rw[Array.getElem?_append_right hi,Array.getElem?_extract];split;{congr 1;omega};{have:=h.size;rw[Array.getElem?_eq_none (by omega)]}}
 have hd:w'.drawn=W.drawn+(w'.drawn-W.drawn):=by have:W.drawn<=w'.drawn:=h.drawn;omega
 have h1:=h.os;have h2:=h.tape;have h3:=h.output;obtain⟨heap,tape,drawn,os,output⟩:=w';simp only at h1 h2 h3 hd hh;simp only[grow,World.drewN];subst h1 h2 h3;rw[<- hh,<- hd]
section
variable {I:Type} (encI:I->A0)
variable {encI} {E:A7} {w:World} {F:Ad}
theorem flatten_row' {β:Type} {sz:Nat}:∀{rs:List (List β)} {i:Nat} {r:List β},(∀r∈rs,r.length=sz)->rs[i]?=some r->(rs.flatten.drop (i*sz)).take sz=r|[],i,r,_,hi=>by simp at hi|x::rs,0,r,h,hi=>by simp at hi;subst hi;have:=h x (by simp);simp[<- this]|x::rs,i+1,r,h,hi=>by have hx:=h x (by simp);have ih:=flatten_row' (rs:=rs) (i:=i) (r:=r) (λr hr=>h r (List.mem_cons_of_mem _ hr)) (by simpa using hi);rw[List.flatten_cons,show (i+1)*sz=x.length+i*sz from by rw[Nat.add_mul,hx];omega,List.drop_length_add_append];exact ih
end
theorem modify_at (w:World) (b:Nat) (f:Array Value->Array Value) (b':Nat):(mapBlock w b f).heap[b']?=if b=b' then(w.heap[b']?).map (onCells f)else w.heap[b']?:=by unfold mapBlock;simp only[Array.getElem?_modify]
theorem sorted_list {I:Type} [Inhabited I] {cf:I->I->Int} {d:Array I} (h:SortedIn (ltOf cf) 0 d.size d):d.toList.Pairwise λx y=>¬ cf y x<0:=by rw[List.pairwise_iff_getElem];intro i j hi hj hij;have h1:=h i j (Nat.zero_le _) hij (by simpa using hj);rw[getElem!_pos d i (by simpa using hi),getElem!_pos d j (by simpa using hj)] at h1;simpa [ltOf] using h1
