/- Lemmas for the law. -/
import Derived.Test.YtpeabgakdpojlaaGreatDoorRows
import Derived.Test.YtpeabgakdpojlaaGreatDoorMdx1
import Derived.ProofKit
import Derived.Lib.LaidU8
import Derived.Shelf.Vars
import Derived.HandedShaped
import Derived.Carry
import Derived.ReadAgain
import Derived.Deep.Strs
import Derived.OpenShut
import Derived.LaidMore
import Derived.Lay
import Derived.SevenTiedAt
import Derived.Stop.Joined
namespace Go.Proofs.YtpeabgakdpojlaaGreatDoor
open Go.AM Go.Proofs Go.ChangeShapes Go.WideShapes Go.ChangeAt Go.RowKit Go.Deep
set_option maxRecDepth 100000
theorem Tryz.own:ownKnob Tryz.prog.godebug=none:=by kernel_rfl
theorem Tryz.laidOut:laidOutB Tryz.prog=true:=by kernel_rfl
theorem Tryz.cells153:Tryz.prog.cellsOf 153=1:=by kernel_rfl
theorem Tryz.cells205:Tryz.prog.cellsOf 205=20:=by kernel_rfl
theorem Tryz.cells3:Tryz.prog.cellsOf 3=1:=by kernel_rfl
theorem Tryz.cells22:Tryz.prog.cellsOf 22=1:=by kernel_rfl
theorem Tryz.cells23:Tryz.prog.cellsOf 23=1:=by kernel_rfl
theorem Tryz.cells25:Tryz.prog.cellsOf 25=3:=by kernel_rfl
theorem Tryz.cells26:Tryz.prog.cellsOf 26=1:=by kernel_rfl
theorem Tryz.cells28:Tryz.prog.cellsOf 28=4:=by kernel_rfl
theorem Tryz.cells51:Tryz.prog.cellsOf 51=2:=by kernel_rfl
theorem Tryz.cells53:Tryz.prog.cellsOf 53=2:=by kernel_rfl
theorem rb {w:World} {F:Ad} {sz b:Nat}:∀(rows:A8) (o:Nat),(∀i r,rows[i]?=some r->r.length=sz/\dM w F r b (o+i*sz))->cJ w F sz rows b o|[],_,_=>trivial|r::rows,o,h=>⟨by simpa using h 0 r rfl,rb rows (o+sz) λi r' hr=>by have:=h (i+1) r' (by simpa using hr);rw[Nat.add_mul,Nat.one_mul] at this;rwa [show o+sz+i*sz=o+(i*sz+sz) by omega]⟩
theorem rep_slice {I:Type} [Inhabited I] (enc':I->Ak) (sz:Nat) {w:World} {base:Nat} {a:Addr} {len cap:Nat} (hsz:0<sz) (hl:len<=cap) (hm:cap<=maxLen) (he:∀i,i<len->∃(c:I) (cs:A9),(enc' c).length=sz/\w.cells? base (a.add (i*sz)) sz=some cs/\∀(j:Nat) (x:L),(enc' c)[j]?=some x->∃u:Value,cs[j]?=some u/\rep w (λ_=>True) x u) :∃l:List I,rep w (λ_=>True) (.sl sz (l.map enc')) (.slice (some a) len cap):=by
 obtain⟨f,hf⟩:=choose_lt he;refine⟨(List.range len).map f,?_⟩;have hcell:∀i,i<len->∀(j:Nat) (x:L),(enc' (f i))[j]?=some x->∃u,w.cell? (a.add (i*sz+j))=some u/\rep w (λ_=>True) x u:=λi hi j x hx=>by
  obtain⟨cs,h1,h2,h3⟩:=hf i hi;obtain⟨_,h4,h5⟩:=World.cells?_some h2;obtain⟨u,hu,hr⟩:=h3 j x hx;have hj:j<sz:=by rw[<- h1];exact(List.getElem?_eq_some_iff.1 hx).1
  have:=h5 j hj;rw[Go.Deep.add_add,hu] at this;exact⟨u,this,hr⟩
 simp only[rep];refine⟨some a,len,cap,rfl,by simp,hl,hm,?_⟩;by_cases h0:len=0;{left;subst h0;rfl}
 ·right;have hpos:0<len:=by omega
  obtain⟨cs,h1,_⟩:=hf 0 hpos;obtain⟨x0,hx0⟩:∃x0,(enc' (f 0))[0]?=some x0:=⟨_,List.getElem?_eq_getElem (by omega)⟩
  obtain⟨u0,hu0,_⟩:=hcell 0 hpos 0 x0 hx0;have hu0':w.cell? a=some u0:=by simpa [Addr.add] using hu0
  have hspot:a.spot=none/\a.block<w.heap.size:=by unfold World.cell? at hu0';split at hu0';{rename_i c _ _ hb;split at hu0';{cases hu0'};{rename_i hs;exact⟨by simpa using hs,(Array.getElem?_eq_some_iff.1 hb).1⟩}};{cases hu0'}
  obtain⟨b,o,s⟩:=a;obtain⟨hs,hlt⟩:=hspot;subst hs;refine⟨b,o,rfl,trivial,hlt,rb _ _ λi r hr=>?_⟩;rw[List.getElem?_map,List.getElem?_map] at hr;obtain⟨c,hc,rfl⟩:=Option.map_eq_some_iff.1 hr;obtain⟨i',hi',rfl⟩:=Option.map_eq_some_iff.1 hc;obtain⟨hilt,rfl⟩:=List.getElem?_eq_some_iff.1 hi';simp at hilt;rw[List.getElem_range];obtain⟨cs,h1,_⟩:=hf i hilt;refine⟨h1,?_⟩;have key:∀(xs:Ak) (o':Nat),(∀(j:Nat) (x:L),xs[j]?=some x->∃u,w.cell? ⟨b,o'+j,none⟩=some u/\rep w (λ_=>True) x u)->dM w (λ_=>True) xs b o':=by
   intro xs;induction xs with
   |nil=>intro o' _;trivial|cons x xs ih=>intro o' h;refine⟨by simpa using h 0 x rfl,ih (o'+1) λj y hy=>?_⟩;have:=h (j+1) y (by simpa using hy);rwa [show o'+1+j=o'+(j+1) by omega]
  refine key _ _ λj x hx=>?_;obtain⟨u,hu,hr⟩:=hcell i hilt j x hx;refine⟨u,?_,hr⟩;rw[<- hu]
  congr 1
  unfold Addr.add;split;{rename_i h;simp};{simp[Nat.add_assoc]}
def Rdd (w:World) (xs:Ak) (cs:A9):Prop:=cs.length=xs.length/\∀(j:Nat) (x:L),xs[j]?=some x->∃u,cs[j]?=some u/\rep w (λ_=>True) x u
theorem rdd_one {w:World} {x:L} {v:Value} (h:rep w (λ_=>True) x v):Rdd w [x] [v]:=⟨rfl,λj y hy=>by
 match j,hy with
 |0,hy=>(cases hy;exact⟨v,rfl,h⟩)|j+1,hy=>simp at hy⟩
theorem re {w:World} {x:L} {xs:Ak} {v:Value} {vs:A9} (h:Rdd w [x] [v]) (h':Rdd w xs vs):Rdd w (x::xs) (v::vs):=⟨by simp[h'.1],λj y hy=>by
 match j,hy with
 |0,hy=>(cases hy;exact h.2 0 x rfl)|j+1,hy=>simpa using h'.2 j y (by simpa using hy)⟩
theorem rdd_csims {E:A7} {w:World}:∀{xs:Ak} {cs:A9},Rdd w xs cs->bB E w (λ_=>True) (xs.map C.d) cs|[],cs,h=>by have:cs=[]:=List.eq_nil_of_length_eq_zero h.1;subst this;simp[bB]|x::xs,[],h=>by have:=h.1;simp at this|x::xs,v::vs,h=>by simp only[List.map_cons,bB];obtain⟨u,hu,hr⟩:=h.2 0 x rfl;cases hu;refine⟨v,vs,rfl,?_,rdd_csims ⟨by have:=h.1;simpa using this,λj y hy=>by simpa using h.2 (j+1) y (by simpa using hy)⟩⟩;simpa [bG] using hr
section
variable {H:Type} {enc:TypeId×Value->H} {W:World} {spare:An} {held:Bool}
abbrev Rdr (enc:TypeId×Value->H) (W:World) (spare:An) (held:Bool) {I:Type} (t:TypeId) (row:I->Ak):Prop :=∀(n:Nat) (cs:A9) (x:DataW H×List MemPlace),DataW.trod enc Tryz.prog W 0 spare held n t cs=some x->∃y:I,Rdd W (row y) cs
theorem rd_slice {I:Type} [Inhabited I] {t e:TypeId} {sz:Nat} {row:I->Ak} (ht:Tryz.prog.underlying t=some (.slice e)) (hc:Tryz.prog.cellsOf e=sz) (hsz:0<sz) (hrow:∀y,(row y).length=sz) (he:Rdr enc W (λ_=>true) true e row) :
  Rdr enc W (λ_=>true) true t (λl:List I=>[L.sl sz (l.map row)]):=λn cs x h=>by
 rcases open_slice ht h with⟨h1,_⟩|⟨a',len',cap',m,n',D,Pl,h1,_,hl,hm,hmm,_,hx⟩;{have h1':cs=[Value.slice none 0 0]:=h1;subst h1';exact⟨[],rdd_one ⟨none,0,0,rfl,rfl,Nat.le_refl _,Nat.zero_le _,.inl rfl⟩⟩}
 ·have h1':cs=[Value.slice (some a') len' cap']:=h1;subst h1';have hle:len'<=m:=by rw[hmm];split<;>omega
  obtain⟨l,hr⟩:=rep_slice row sz (w:=W) (base:=0) (a:=a') hsz hl hm λi hi=>by obtain⟨cs',h2,h3⟩:=hx i (by omega);obtain⟨y,hy⟩:=he _ _ _ h3;rw[hc] at h2;exact⟨y,cs',hrow y,h2,hy.2⟩
  exact⟨l,rdd_one hr⟩
theorem rd_t3:Rdr enc W spare held 3 (λn:Int=>[L.int .i64 n]):=λ_ _ _ h=>by obtain⟨n,rfl,_⟩:=DataW.trod_int Tryz.underlying3 h;exact⟨n,rdd_one (by simp[rep])⟩
theorem rd_t51:Rdr enc W spare held 51 Point.row:=λn cs x h=>by
 obtain⟨xs,k,_,_,hl,hlen,hf⟩:=DataW.trod_struct Tryz.underlying51 h;rw[Tryz.cells51] at hl
 match xs,hlen,cs,hl with
 |[y0,y1],_,[v0,v1],_=>have g0:=hf 0 _ rfl;have g1:=hf 1 _ rfl;simp[Tryz.cells3] at g0 g1;obtain⟨a,ha⟩:=rd_t3 _ _ _ g0;obtain⟨b,hb⟩:=rd_t3 _ _ _ g1;exact⟨⟨a,b⟩,re ha hb⟩
theorem rd_t22:Rdr enc W (λ_=>true) true 22 (λl:AG=>[L.sl 2 (l.map Point.row)]):=rd_slice (row:=Point.row) Tryz.underlying22 Tryz.cells51 (by omega) (λ_=>rfl) rd_t51
theorem rd_t26:Rdr enc W (λ_=>true) true 26 (λl:A0=>[L.sl 1 (l.map (rI .i64))]):=rd_slice (row:=(rI .i64)) Tryz.underlying26 Tryz.cells3 (by omega) (λ_=>rfl) rd_t3
theorem rd_t53:Rdr enc W (λ_=>true) true 53 Node.row:=λn cs x h=>by
 obtain⟨xs,k,_,_,hl,hlen,hf⟩:=DataW.trod_struct Tryz.underlying53 h;rw[Tryz.cells53] at hl
 match xs,hlen,cs,hl with
 |[y0,y1],_,[v0,v1],_=>have g0:=hf 0 _ rfl;have g1:=hf 1 _ rfl;simp[Tryz.cells3,Tryz.cells26] at g0 g1;obtain⟨a,ha⟩:=rd_t3 _ _ _ g0;obtain⟨b,hb⟩:=rd_t26 _ _ _ g1;exact⟨⟨a,b⟩,re ha hb⟩
theorem rd_t23:Rdr enc W (λ_=>true) true 23 (λl:AE=>[L.sl 2 (l.map Node.row)]):=rd_slice (row:=Node.row) Tryz.underlying23 Tryz.cells53 (by omega) (λ_=>rfl) rd_t53
theorem rd_t25:Rdr enc W (λ_=>true) true 25 Tree.row:=λn cs x h=>by
 obtain⟨xs,k,_,_,hl,hlen,hf⟩:=DataW.trod_struct Tryz.underlying25 h;rw[Tryz.cells25] at hl
 match xs,hlen,cs,hl with
 |[y0,y1,y2],_,[v0,v1,v2],_=>have g0:=hf 0 _ rfl;have g1:=hf 1 _ rfl;have g2:=hf 2 _ rfl;simp[Tryz.cells3,Tryz.cells22,Tryz.cells23] at g0 g1 g2;obtain⟨a,ha⟩:=rd_t3 _ _ _ g0;obtain⟨b,hb⟩:=rd_t22 _ _ _ g1;obtain⟨c,hc⟩:=rd_t23 _ _ _ g2;exact⟨⟨a,b,c⟩,re ha (re hb hc)⟩
theorem rd_t28:Rdr enc W (λ_=>true) true 28 Grid.row:=λn cs x h=>by
 obtain⟨xs,k,_,_,hl,hlen,hf⟩:=DataW.trod_struct Tryz.underlying28 h;rw[Tryz.cells28] at hl
 match xs,hlen,cs,hl with
 |[y0,y1,y2,y3],_,[v0,v1,v2,v3],_=>have g0:=hf 0 _ rfl;have g1:=hf 1 _ rfl;have g2:=hf 2 _ rfl;have g3:=hf 3 _ rfl;simp[Tryz.cells3,Tryz.cells26] at g0 g1 g2 g3;obtain⟨a,ha⟩:=rd_t3 _ _ _ g0;obtain⟨b,hb⟩:=rd_t3 _ _ _ g1;obtain⟨c,hc⟩:=rd_t3 _ _ _ g2;obtain⟨d,hd⟩:=rd_t26 _ _ _ g3;exact⟨⟨a,b,c,d⟩,re ha (re hb (re hc hd))⟩
variable {E:A7} {base:Nat}
theorem arg_t25 {v:Value} {d:DataW H} {ps:List MemPlace} (hv:Value.okWide Tryz.prog W .any base 25 v) (h:DataW.Trod enc Tryz.prog W 0 (λ_=>true) true 25 v d ps) :∃t:Tree,bI E W (λ_=>True) (.u (.agg (t.row.map C.d))) v:=by obtain⟨arr,rfl,_⟩:=okWide_struct Tryz.underlying25 hv;obtain⟨n,hn⟩:=h;obtain⟨t,ht⟩:=rd_t25 _ _ _ hn;exact⟨t,arr,rfl,rdd_csims ht⟩
theorem arg_t28 {v:Value} {d:DataW H} {ps:List MemPlace} (hv:Value.okWide Tryz.prog W .any base 28 v) (h:DataW.Trod enc Tryz.prog W 0 (λ_=>true) true 28 v d ps) :∃t:Grid,bI E W (λ_=>True) (.u (.agg (t.row.map C.d))) v:=by obtain⟨arr,rfl,_⟩:=okWide_struct Tryz.underlying28 hv;obtain⟨n,hn⟩:=h;obtain⟨t,ht⟩:=rd_t28 _ _ _ hn;exact⟨t,arr,rfl,rdd_csims ht⟩
theorem arg_t3 {v:Value} {d:DataW H} {ps:List MemPlace} (hv:Value.okWide Tryz.prog W .any base 3 v) (_:DataW.Trod enc Tryz.prog W 0 (λ_=>true) true 3 v d ps) :∃n:Int,bI E W (λ_=>True) (.u (.one (.d (.int .i64 n)))) v:=by obtain⟨n,rfl⟩:=okWide_int Tryz.underlying3 hv;exact⟨n,rfl⟩
end
theorem heap_low {w:World} (h:w.ShapedOpen Tryz.prog) {b:Nat} (hb:b<glow):b<w.heap.size:=by
 have hall:(List.range glow).all (λb=>decide (b<Tryz.prog.globals.size)&&(((begin Tryz.prog (λ_ _=>0) default).world.heap[b]?).bind Obj.row?).isSome)=true:=by kernel_rfl
 have hx:=List.all_eq_true.1 hall b (List.mem_range.2 hb);simp only[Bool.and_eq_true,decide_eq_true_eq] at hx;obtain⟨⟨z,t⟩,hz⟩:=Option.isSome_iff_exists.1 hx.2;obtain⟨cs,hc,_⟩:=h.1 b z t hx.1 hz;exact(Array.getElem?_eq_some_iff.1 hc).1
theorem laid_pow {w:World} (h:Lib.VarReads Tryz.prog w "internal/strconv.uint64pow10" (.agg ((List.range 20).map λi=>.lit (.int .u64 ((10 ^ i:Nat):Int))))):∃t fz,w.heap[0]?=some (.cells ((List.range 20).map λi=>Value.int .u64 ((10 ^ i:Nat):Int)).toArray t fz):=by
 obtain⟨g',t',cs,fuel,p,hg',hty',hvar,hd⟩:=h;have hg:Tryz.prog.globalNamed "internal/strconv.uint64pow10" = some 0:=by kernel_rfl
 have hty:(Tryz.prog.globals[0]?).map (·.type)=some 205:=by kernel_rfl
 obtain rfl:=Option.some.inj (hg.symm.trans hg');obtain rfl:=Option.some.inj (hty.symm.trans hty');have hcs:cs=((List.range 20).map λi=>Value.int .u64 ((10 ^ i:Nat):Int)).toArray:=by
  obtain⟨xs,m,_,_,hl,_,_⟩:=DataW.trod_array Tryz.underlying205 hd;have hlen:cs.toList.length=20:=by rw[hl,Tryz.cells205]
  apply Array.ext';apply List.ext_getElem?;intro k;rcases Nat.lt_or_ge k 20 with hk|hk;{obtain⟨f1,d1,q1,hd1,ht1⟩:=Lib.array_elem Tryz.underlying205 hd k hk;rw[List.getElem?_map,List.getElem?_range hk] at hd1;cases hd1;rw[Tryz.cells153] at ht1;obtain⟨n,hn,hx,_⟩:=DataW.trod_int Tryz.underlying153 ht1;cases hx;have e0:=congrArg (·[0]?) hn;simp only[List.getElem?_take,List.getElem?_drop] at e0;rw[if_pos (by omega)] at e0;rw[List.toList_toArray,List.getElem?_map,List.getElem?_range hk];simpa using e0};{rw[List.getElem?_eq_none (by omega),List.getElem?_eq_none (by simpa using hk)]}
 simp only[World.var?,hg,Option.bind_some] at hvar;split at hvar;{rename_i c t fr hb;cases hvar;rw[hcs] at hb;exact⟨t,fr,hb⟩};{cases hvar}
theorem gw_of {w w0:World} (h:w.ShapedOpen Tryz.prog) (hh:w0.heap=w.heap) {laid:List (String×DataW Unit)} (hL:laidMetH Tryz.prog laid w0) (hm2:("internal/strconv.uint64pow10",Rows.laid_internal_strconv_uint64pow10)∈laid) (hp:(laid.all λx=>x.2.handleName?.isNone)=true):GW w (λ_=>True) :=⟨λb hb=>⟨trivial,heap_low h hb⟩,λg row hg=>by simp[gtab] at hg,λg hg=>by simp[gany] at hg,λg hg=>by
  have:g=0:=by unfold gpow at hg;split at hg;{rfl};{cases hg}
  subst this;rw[MakeChecks.laidMetH_plain _ _ _ hp] at hL;have hv:=Lib.laidMet.reads hL hm2;rw[show Rows.laid_internal_strconv_uint64pow10=(DataW.agg ((List.range 20).map λi=>DataW.lit (.int .u64 ((10 ^ i:Nat):Int))))from by kernel_rfl] at hv;rw[<- hh];exact⟨by decide,laid_pow hv⟩,λg hg=>by simp[gerr] at hg⟩
theorem true_calls {f:FuncId} {us:Ao} {vals:A9} {W:World} (h:bA Tryz.prog f us (.u (.one (.d (.bool true))))) (hgw:GW W (λ_=>True)) (hl:vals.length=us.length) (hv:∀(i:Nat) (x:V) (u:Value),us[i]?=some x->vals[i]?=some u->bI (λ_=>undef) W (λ_=>True) x u) :
  Calls Tryz.prog f vals.toArray W λe W'=>e=.returned (.bool true)/\Below W.heap.size W W' :=(h.2 (λ_=>undef) W (λ_=>True) ⟨λ_ _=>trivial,hgw⟩ vals hl hv).mono λe W' ⟨u,he,hb,hs⟩=>by have hu:u=.bool true:=hs;subst hu;exact⟨he,hb.toBelow⟩
theorem lift_row {H:Type} {enc:TypeId×Value->H} {a:Assume} {os:Os} {f:FuncId} {fn:Func} {s:ChangeSpec} {conds:List PathCond} {apart fresh handsOn again:Bool} {laid:List (String×DataW Unit)} (started:os.Started) (noInit:Tryz.prog.inits.idxOf? f=none) (hfn:Tryz.prog.funcs[f]?=some fn) (witness:∃(w:World) (tape:Tape) (i:Input),w.os=os/\(w.forCall tape i).Shaped Tryz.prog/\i.vars=[]/\Input.okWide Tryz.prog (w.forCall tape i) .any w.heap.size f i /\ ((s.pre enc Tryz.prog fn conds apart (w.forCall tape i).memory i.args/\laidMetH Tryz.prog laid (w.forCall tape i).memory)/\sizedMet enc Tryz.prog fn (OpenSpec.ofChange s) apart (w.forCall tape i).memory i.args)/\a.holds Tryz.prog (lone (Frame.enter Tryz.prog f i.args .normal) [] (w.forCall tape i))) (contract:∀(W:World) (base:Nat) (args:Array Value) (ds gs:List (DataW H)) (before:List MemPlace),(∀(j:Nat) t v,fn.params[j]?=some t->args[j]?=some v->Value.okWide Tryz.prog W .any base t v) ->
   DataW.Whole enc Tryz.prog fn.params.toList s.vars apart W args.toList ds gs before->W.ShapedOpen Tryz.prog->(∃W0:World,W0.heap=W.heap/\laidMetH Tryz.prog laid W0) ->
   Calls Tryz.prog f args W λe W'=>∃v,e=.returned v/\s.post enc Tryz.prog fn apart fresh handsOn again W args v W') :
  ReturnsInHanded a Tryz.checked os f .any (λw args=>(s.pre enc Tryz.prog fn conds apart w args/\laidMetH Tryz.prog laid w)/\sizedMet enc Tryz.prog fn (OpenSpec.ofChange s) apart w args) (s.post enc Tryz.prog fn apart fresh handsOn again):=by refine returnsInHanded_of_calls (C:=Tryz.checked) Tryz.own started noInit witness ?_;intro w tape i _ hsh _ hok hpre _;obtain⟨_,_,_,fn',hfn',_,_,_,_,hval⟩:=hok;have e:fn'=fn:=Option.some.inj (hfn'.symm.trans hfn);subst e;obtain⟨⟨⟨ds,gs,before,hw,_⟩,hlaid⟩,_⟩:=hpre;have hw':=DataW.Whole.of_heap (w':=w.forCall tape i) (by rfl) hw;refine(contract (w.forCall tape i) w.heap.size i.args ds gs before hval hw' hsh ⟨(w.forCall tape i).memory,rfl,hlaid⟩).mono λe W' ⟨v,he,hp⟩=>?_;subst he;exact ChangeSpec.post_blind hp
