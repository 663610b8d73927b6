/- From the form's reading of rules, patterns, motions and numbers to the plain structures. -/
import Derived.Test.YtlifofijgddjkabGreatDoorRows
import Derived.Test.YtlifofijgddjkabGreatDoorMdx1
import Derived.ProofKit
import Derived.ChangeMaps5
import Derived.Shelf.Vars
import Derived.HandedShaped
import Derived.Carry
import Derived.ReadAgain
import Derived.Deep.Strs
import Derived.OpenShut
import Derived.LaidMore
import Derived.Lay
import Derived.SevenTiedAt
import Derived.Stop.Joined
namespace Go.Proofs.YtlifofijgddjkabGreatDoor
open Go.AM Go.Proofs Go.ChangeShapes Go.WideShapes Go.ChangeAt Go.RowKit Go.Deep
set_option maxRecDepth 100000
theorem Tryz.own:ownKnob Tryz.prog.godebug=none:=by kernel_rfl
theorem Tryz.laidOut:laidOutB Tryz.prog=true:=by kernel_rfl
theorem Tryz.cells133:Tryz.prog.cellsOf 133=4:=by kernel_rfl
theorem Tryz.cells203:Tryz.prog.cellsOf 203=1:=by kernel_rfl
theorem Tryz.cells250:Tryz.prog.cellsOf 250=20:=by kernel_rfl
theorem Tryz.cells3:Tryz.prog.cellsOf 3=1:=by kernel_rfl
theorem repRows_of {w:World} {F:Nat->Prop} {sz b:Nat}:∀ (rows:List (List L)) (o:Nat),(∀ i r,rows[i]?=some r->r.length=sz/\repRow w F r b (o+i*sz))->repRows w F sz rows b o
 | [],_,_=>trivial
 | r::rows,o,h=>⟨by simpa using h 0 r rfl,repRows_of rows (o+sz) fun i r' hr=>by
   have:=h (i+1) r' (by simpa using hr)
   rw[Nat.add_mul,Nat.one_mul] at this
   rwa [show o+sz+i*sz=o+(i*sz+sz) by omega]⟩
theorem rep_slice {α:Type} [Inhabited α] (enc':α->List L) (sz:Nat) {w:World} {base:Nat} {a:Addr} {len cap:Nat} (hsz:0 < sz) (hl:len<=cap) (hm:cap<=maxLen)
  (he:∀ i,i < len->∃ (c:α) (cs:List Value),(enc' c).length=sz/\w.cells? base (a.add (i*sz)) sz=some cs/\∀ (j:Nat) (x:L),(enc' c)[j]?=some x->∃ u:Value,cs[j]?=some u/\rep w (fun _=>True) x u) :
  ∃ l:List α,rep w (fun _=>True) (.sl sz (l.map enc')) (.slice (some a) len cap):=by
 obtain⟨f,hf⟩:=choose_lt he
 refine⟨(List.range len).map f,?_⟩
 have hcell:∀ i,i < len->∀ (j:Nat) (x:L),(enc' (f i))[j]?=some x->∃ u,w.cell? (a.add (i*sz+j))=some u/\rep w (fun _=>True) x u:=fun i hi j x hx=>by
  obtain⟨cs,h1,h2,h3⟩:=hf i hi
  obtain⟨_,h4,h5⟩:=World.cells?_some h2
  obtain⟨u,hu,hr⟩:=h3 j x hx
  have hj:j < sz:=by rw[<- h1]; exact (List.getElem?_eq_some_iff.1 hx).1
  have:=h5 j hj
  rw[Go.Deep.add_add,hu] at this
  exact⟨u,this,hr⟩
 simp only[rep]
 refine⟨some a,len,cap,rfl,by simp,hl,hm,?_⟩
 by_cases h0:len=0
 ·left; subst h0; rfl
 ·right
  have hpos:0 < len:=by omega
  obtain⟨cs,h1,_⟩:=hf 0 hpos
  obtain⟨x0,hx0⟩:∃ x0,(enc' (f 0))[0]?=some x0:=⟨_,List.getElem?_eq_getElem (by omega)⟩
  obtain⟨u0,hu0,_⟩:=hcell 0 hpos 0 x0 hx0
  have hu0':w.cell? a=some u0:=by simpa [Addr.add] using hu0
  have hspot:a.spot=none/\a.block < w.heap.size:=by
   unfold World.cell? at hu0'
   split at hu0'
   ·rename_i c _ _ hb
    split at hu0'
    ·cases hu0'
    ·rename_i hs
     exact⟨by simpa using hs,(Array.getElem?_eq_some_iff.1 hb).1⟩
   ·cases hu0'
  obtain⟨b,o,s⟩:=a
  obtain⟨hs,hlt⟩:=hspot
  subst hs
  refine⟨b,o,rfl,trivial,hlt,repRows_of _ _ fun i r hr=>?_⟩
  rw[List.getElem?_map,List.getElem?_map] at hr
  obtain⟨c,hc,rfl⟩:=Option.map_eq_some_iff.1 hr
  obtain⟨i',hi',rfl⟩:=Option.map_eq_some_iff.1 hc
  obtain⟨hilt,rfl⟩:=List.getElem?_eq_some_iff.1 hi'
  simp at hilt
  rw[List.getElem_range]
  obtain⟨cs,h1,_⟩:=hf i hilt
  refine⟨h1,?_⟩
  have key:∀ (xs:List L) (o':Nat),(∀ (j:Nat) (x:L),xs[j]?=some x->∃ u,w.cell? ⟨b,o'+j,none⟩=some u/\rep w (fun _=>True) x u)->repRow w (fun _=>True) xs b o':=by
   intro xs
   induction xs with
   | nil=>intro o' _; trivial
   | cons x xs ih =>
    intro o' h
    refine⟨by simpa using h 0 x rfl,ih (o'+1) fun j y hy=>?_⟩
    have:=h (j+1) y (by simpa using hy)
    rwa [show o'+1+j=o'+(j+1) by omega]
  refine key _ _ fun j x hx=>?_
  obtain⟨u,hu,hr⟩:=hcell i hilt j x hx
  refine⟨u,?_,hr⟩
  rw[<- hu]
  congr 1
  unfold Addr.add
  split
  ·rename_i h; simp
  ·simp[Nat.add_assoc]
def Rdd (w:World) (xs:List L) (cs:List Value):Prop:=cs.length=xs.length/\∀ (j:Nat) (x:L),xs[j]?=some x->∃ u,cs[j]?=some u/\rep w (fun _=>True) x u
theorem rdd_one {w:World} {x:L} {v:Value} (h:rep w (fun _=>True) x v):Rdd w [x] [v]:=⟨rfl,fun j y hy=>by
 match j,hy with
 | 0,hy=>cases hy; exact⟨v,rfl,h⟩
 | j+1,hy=>simp at hy⟩
section
variable {H:Type} {enc:TypeId×Value->H} {W:World} {spare:Nat->Bool} {held:Bool}
abbrev Rdr (enc:TypeId×Value->H) (W:World) (spare:Nat->Bool) (held:Bool) {α:Type} (t:TypeId) (row:α->List L):Prop :=
 ∀ (n:Nat) (cs:List Value) (x:DataW H×List MemPlace),DataW.trod enc Tryz.prog W 0 spare held n t cs=some x->∃ y:α,Rdd W (row y) cs
theorem rd_slice {α:Type} [Inhabited α] {t e:TypeId} {sz:Nat} {row:α->List L} (ht:Tryz.prog.underlying t=some (.slice e)) (hc:Tryz.prog.cellsOf e=sz) (hsz:0 < sz) (hrow:∀ y,(row y).length=sz) (he:Rdr enc W (fun _=>true) true e row) :
  Rdr enc W (fun _=>true) true t (fun l:List α=>[L.sl sz (l.map row)]):=fun n cs x h=>by
 rcases open_slice ht h with ⟨h1,_⟩ | ⟨a',len',cap',m,n',D,Pl,h1,_,hl,hm,hmm,_,hx⟩
 ·have h1':cs=[Value.slice none 0 0]:=h1
  subst h1'
  exact⟨[],rdd_one ⟨none,0,0,rfl,rfl,Nat.le_refl _,Nat.zero_le _,.inl rfl⟩⟩
 ·have h1':cs=[Value.slice (some a') len' cap']:=h1
  subst h1'
  have hle:len'<=m:=by rw[hmm]; split<;>omega
  obtain⟨l,hr⟩:=rep_slice row sz (w:=W) (base:=0) (a:=a') hsz hl hm fun i hi=>by
   obtain⟨cs',h2,h3⟩:=hx i (by omega)
   obtain⟨y,hy⟩:=he _ _ _ h3
   rw[hc] at h2
   exact⟨y,cs',hrow y,h2,hy.2⟩
  exact⟨l,rdd_one hr⟩
theorem rd_t3:Rdr enc W spare held 3 (fun n:Int=>[L.int .i64 n]):=fun _ _ _ h=>by
 obtain⟨n,rfl,_⟩:=DataW.trod_int Tryz.underlying3 h
 exact⟨n,rdd_one (by simp[rep])⟩
theorem rd_t22:Rdr enc W (fun _=>true) true 22 (fun l:List Int=>[L.sl 1 (l.map (rI .i64))]):=rd_slice (row:=(rI .i64)) Tryz.underlying22 Tryz.cells3 (by omega) (fun _=>rfl) rd_t3
variable {φ:Nat->Value} {base:Nat}
theorem arg_t9 {v:Value} {d:DataW H} {ps:List MemPlace} (hv:Value.okWide Tryz.prog W .any base 9 v) (h:DataW.Trod enc Tryz.prog W 0 (fun _=>true) true 9 v d ps) :
  ∃ s:List UInt8,d=.lit (.string s)/\vsim φ W (fun _=>True) (.u (.one (.d (.str (bs s))))) v:=by
 obtain⟨s,rfl,hd,_⟩:=Go.ChangeMaps.open_string Tryz.underlying9 hv h
 exact⟨s.data.toList,hd,rfl⟩
theorem arg_t22 {v:Value} {d:DataW H} {ps:List MemPlace} (hv:Value.okWide Tryz.prog W .any base 22 v) (h:DataW.Trod enc Tryz.prog W 0 (fun _=>true) true 22 v d ps) :
  ∃ l:List Int,vsim φ W (fun _=>True) (.u (.one (.d (.sl 1 (l.map (rI .i64)))))) v:=by
 obtain⟨a,len,cap,rfl⟩:=okWide_slice Tryz.underlying22 hv
 obtain⟨n,hn⟩:=h
 obtain⟨l,hl⟩:=rd_t22 _ _ _ hn
 obtain⟨u,hu,hr⟩:=hl.2 0 _ rfl
 cases hu
 exact⟨l,hr⟩
end
theorem flat_get {r:Nat}:∀ (mat:List (List Int)) (k:Nat) (z:Int),(∀ x∈mat,x.length=r)->mat.flatten[k]?=some z->∃ i j row,mat[i]?=some row/\row[j]?=some z/\k=i*r+j/\j < r
 | [],k,z,_,h=>by simp at h
 | x::mat,k,z,hr,h=>by
  have hx:=hr x (by simp)
  rw[List.flatten_cons] at h
  by_cases hk:k < x.length
  ·rw[List.getElem?_append_left hk] at h
   exact⟨0,k,x,rfl,h,by omega,by omega⟩
  ·rw[List.getElem?_append_right (by omega)] at h
   obtain⟨i,j,row,h1,h2,h3,h4⟩:=flat_get mat _ z (fun y hy=>hr y (by simp[hy])) h
   exact⟨i+1,j,row,by simpa using h1,h2,by rw[Nat.add_mul]; omega,h4⟩
theorem laid_mat {P:Program} {w:World} {nm:String} {m r g:Nat} {t e i:TypeId} {mat:List (List Int)} (h:Lib.VarReads P w nm (.agg (mat.map fun x=>.agg (x.map fun z=>.lit (.int .i64 z)))))
  (hg:P.globalNamed nm=some g) (hty:(P.globals[g]?).map (·.type)=some t) (ht:P.underlying t=some (.array m e)) (he:P.underlying e=some (.array r i)) (hi:P.underlying i=some (.int .i64)) (ce:P.cellsOf e=r) (ci:P.cellsOf i=1)
  (hm:mat.length=m) (hr:∀ x∈mat,x.length=r) (k:Nat) (z:Int) (hk:mat.flatten[k]?=some z):w.cell? ⟨g,k,none⟩=some (.int .i64 z):=by
 obtain⟨a,b,row,h1,h2,rfl,hb⟩:=flat_get mat k z hr hk
 obtain⟨g',t',cs,fuel,p,hg',hty',hvar,hd⟩:=h
 obtain rfl:=Option.some.inj (hg.symm.trans hg')
 obtain rfl:=Option.some.inj (hty.symm.trans hty')
 have ha:a < m:=by rw[<- hm]; exact (List.getElem?_eq_some_iff.1 h1).1
 obtain⟨f1,d1,q1,hd1,ht1⟩:=Lib.array_elem ht hd a ha
 rw[List.getElem?_map,h1] at hd1
 cases hd1
 obtain⟨f2,d2,q2,hd2,ht2⟩:=Lib.array_elem he ht1 b hb
 rw[List.getElem?_map,h2] at hd2
 cases hd2
 rw[ce,ci] at ht2
 obtain⟨n,hn,hx,_⟩:=DataW.trod_int hi ht2
 cases hx
 have e0:=congrArg (·[0]?) hn
 simp only[List.getElem?_take,List.getElem?_drop] at e0
 rw[World.var?_cell hg hvar,<- Array.getElem?_toList]
 rw[if_pos (by omega),if_pos (by omega)] at e0
 simpa using e0
def matL:List (List Int):=[[1,0,0,1],[0,-1,1,0],[-1,0,0,-1],[0,1,-1,0],[-1,0,0,1],[0,-1,-1,0],[1,0,0,-1],[0,1,1,0]]
theorem heap_low {w:World} (h:w.ShapedOpen Tryz.prog) {b:Nat} (hb:b < glow):b < w.heap.size:=by
 have hall:(List.range glow).all (fun b=>decide (b < Tryz.prog.globals.size) && (((begin Tryz.prog (fun _ _=>0) default).world.heap[b]?).bind Obj.row?).isSome)=true:=by kernel_rfl
 have hx:=List.all_eq_true.1 hall b (List.mem_range.2 hb)
 simp only[Bool.and_eq_true,decide_eq_true_eq] at hx
 obtain⟨⟨z,t⟩,hz⟩:=Option.isSome_iff_exists.1 hx.2
 obtain⟨cs,hc,_⟩:=h.1 b z t hx.1 hz
 exact (Array.getElem?_eq_some_iff.1 hc).1
theorem laid_pow {w:World} (h:Lib.VarReads Tryz.prog w "internal/strconv.uint64pow10" (.agg ((List.range 20).map fun i=>.lit (.int .u64 ((10 ^ i:Nat):Int))))):∃ t fz,w.heap[7]?=some (.cells ((List.range 20).map fun i=>Value.int .u64 ((10 ^ i:Nat):Int)).toArray t fz):=by
 obtain⟨g',t',cs,fuel,p,hg',hty',hvar,hd⟩:=h
 have hg:Tryz.prog.globalNamed "internal/strconv.uint64pow10" = some 7:=by kernel_rfl
 have hty:(Tryz.prog.globals[7]?).map (·.type)=some 250:=by kernel_rfl
 obtain rfl:=Option.some.inj (hg.symm.trans hg')
 obtain rfl:=Option.some.inj (hty.symm.trans hty')
 have hcs:cs=((List.range 20).map fun i=>Value.int .u64 ((10 ^ i:Nat):Int)).toArray:=by
  obtain⟨xs,m,_,_,hl,_,_⟩:=DataW.trod_array Tryz.underlying250 hd
  have hlen:cs.toList.length=20:=by rw[hl,Tryz.cells250]
  apply Array.ext'
  apply List.ext_getElem?
  intro k
  rcases Nat.lt_or_ge k 20 with hk | hk
  ·obtain⟨f1,d1,q1,hd1,ht1⟩:=Lib.array_elem Tryz.underlying250 hd k hk
   rw[List.getElem?_map,List.getElem?_range hk] at hd1
   cases hd1
   rw[Tryz.cells203] at ht1
   obtain⟨n,hn,hx,_⟩:=DataW.trod_int Tryz.underlying203 ht1
   cases hx
   have e0:=congrArg (·[0]?) hn
   simp only[List.getElem?_take,List.getElem?_drop] at e0
   rw[if_pos (by omega)] at e0
   rw[List.toList_toArray,List.getElem?_map,List.getElem?_range hk]
   simpa using e0
  ·rw[List.getElem?_eq_none (by omega),List.getElem?_eq_none (by simpa using hk)]
 simp only[World.var?,hg,Option.bind_some] at hvar
 split at hvar
 ·rename_i c t fr hb
  cases hvar
  rw[hcs] at hb
  exact⟨t,fr,hb⟩
 ·cases hvar
theorem gw_of {w w0:World} (h:w.ShapedOpen Tryz.prog) (hh:w0.heap=w.heap) {laid:List (String×DataW Unit)} (hL:laidMetH Tryz.prog laid w0) (hm:("cellular/symmetry.matrices",Rows.laid_cellular_symmetry_matrices)∈laid) (hm4:("strconv.ErrRange",Rows.laid_strconv_ErrRange)∈laid) (hm3:("strconv.ErrSyntax",Rows.laid_strconv_ErrSyntax)∈laid) (hm2:("internal/strconv.uint64pow10",Rows.laid_internal_strconv_uint64pow10)∈laid)
  (hp:(laid.all fun x=>x.2.handleName?.isNone)=true):GW w (fun _=>True) :=
 ⟨fun b hb=>⟨trivial,heap_low h hb⟩,fun g row hg=>(by
  rw[MakeChecks.laidMetH_plain _ _ _ hp] at hL
  have hv:=Lib.laidMet.reads hL hm
  have key:=laid_mat (mat:=matL) (g:=0) hv (by kernel_rfl) (by kernel_rfl) Tryz.underlying134 Tryz.underlying133 Tryz.underlying3 Tryz.cells133 Tryz.cells3 rfl (by decide)
  unfold gtab at hg
  split at hg
  ·cases hg
   refine⟨by decide,fun k x hx=>?_⟩
   have hx':(matL.flatten.map (GL.int .i64))[k]?=some x:=hx
   rw[List.getElem?_map] at hx'
   obtain⟨z,hz,rfl⟩:=Option.map_eq_some_iff.1 hx'
   have:=key k z hz
   unfold World.cell? at this ⊢
   rw[<- hh]
   exact this
  ·cases hg),fun g hg=>by
  have:g=2:=by
   unfold gany at hg
   split at hg
   ·rfl
   ·cases hg
  subst this
  exact⟨by decide,cell_of_shapedOpen_int (P:=Tryz.prog) (g:=2) (t:=3) (zero:=#[.int .i64 0]) h (of_decide_eq_true (by kernel_rfl)) (by kernel_rfl) rfl (by kernel_rfl) (by kernel_rfl) Tryz.underlying3⟩,fun g hg=>by
  have:g=7:=by
   unfold gpow at hg
   split at hg
   ·rfl
   ·cases hg
  subst this
  rw[MakeChecks.laidMetH_plain _ _ _ hp] at hL
  have hv:=Lib.laidMet.reads hL hm2
  rw[show Rows.laid_internal_strconv_uint64pow10=(DataW.agg ((List.range 20).map fun i=>DataW.lit (.int .u64 ((10 ^ i:Nat):Int)))) from by kernel_rfl] at hv
  rw[<- hh]
  exact⟨by decide,laid_pow hv⟩,fun g hg=>by
  have:g=3 \/ g=4:=by
   unfold gerr at hg
   split at hg<;>simp at hg ⊢
  rw[MakeChecks.laidMetH_plain _ _ _ hp] at hL
  rcases this with rfl | rfl
  ·obtain⟨v,hv,hi⟩:=laid_iface (Lib.laidMet.reads hL hm3) (g:=3) (t:=63) (by kernel_rfl) (by kernel_rfl) Tryz.underlying63
   exact⟨by decide,v,by unfold World.cell? at hv ⊢; rw[<- hh]; exact hv,hi⟩
  ·obtain⟨v,hv,hi⟩:=laid_iface (Lib.laidMet.reads hL hm4) (g:=4) (t:=63) (by kernel_rfl) (by kernel_rfl) Tryz.underlying63
   exact⟨by decide,v,by unfold World.cell? at hv ⊢; rw[<- hh]; exact hv,hi⟩⟩
theorem true_calls {f:FuncId} {us:List V} {vals:List Value} {W:World} (h:PureCall Tryz.prog f us (.u (.one (.d (.bool true))))) (hgw:GW W (fun _=>True)) (hl:vals.length=us.length)
  (hv:∀ (i:Nat) (x:V) (u:Value),us[i]?=some x->vals[i]?=some u->vsim (fun _=>undef) W (fun _=>True) x u) :
  Calls Tryz.prog f vals.toArray W fun e W'=>e=.returned (.bool true)/\Below W.heap.size W W' :=
 (h.2 (fun _=>undef) W (fun _=>True) ⟨fun _ _=>trivial,hgw⟩ vals hl hv).mono fun e W' ⟨u,he,hb,hs⟩=>by
  have hu:u=.bool true:=hs
  subst hu
  exact⟨he,hb.toBelow⟩
end Go.Proofs.YtlifofijgddjkabGreatDoor
