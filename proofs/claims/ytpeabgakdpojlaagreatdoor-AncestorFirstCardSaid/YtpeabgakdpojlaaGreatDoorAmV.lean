/- Slices without elements, in their weakest form, as results and as arguments; calls that take a row of the caller's own, by table. -/
import Derived.Test.YtpeabgakdpojlaaGreatDoorAmU
namespace Go.AM
open Go.RowKit
mutual
def L.wk:L->L->Prop
 |.sl sz rows,y=>match y with
  |.sl sz' rows'=>sz=sz'/\dF rows rows'|_=>False
 |.nil,y=>match y with
  |.nil=>True|.sl _ rows=>rows=[]|_=>False
 |.emp,y=>match y with
  |.emp=>True|.sl _ rows=>rows=[]|_=>False
 |.int k n,y=>y=.int k n|.bool b,y=>y=.bool b|.str s,y=>y=.str s|.er b,y=>y=.er b|.slx sz rows,y=>y=.slx sz rows|.any,y=>y=.any|.ref xs off,y=>y=.ref xs off
def iD:Ak->Ak->Prop
 |[],ys=>ys=[]|x::xs,ys=>match ys with
  |y::ys=>x.wk y/\iD xs ys|[]=>False
def dF:A8->A8->Prop
 |[],ys=>ys=[]|x::xs,ys=>match ys with
  |y::ys=>iD x y/\dF xs ys|[]=>False
end
mutual
theorem L.wk_refl:∀x:L,x.wk x|.sl sz rows=>by simp only[L.wk,true_and];exact oR rows|.nil=>by simp[L.wk]|.emp=>by simp[L.wk]|.int _ _=>by simp[L.wk]|.bool _=>by simp[L.wk]|.str _=>by simp[L.wk]|.er _=>by simp[L.wk]|.slx _ _=>by simp[L.wk]|.any=>by simp[L.wk]|.ref _ _=>by simp[L.wk]
theorem rowWk_refl:∀x:Ak,iD x x|[]=>by simp[iD]|x::xs=>by simp only[iD];exact⟨L.wk_refl x,rowWk_refl xs⟩
theorem oR:∀x:A8,dF x x|[]=>by simp[dF]|x::xs=>by simp only[dF];exact⟨rowWk_refl x,oR xs⟩
end
theorem tU:∀{xs ys:Ak},iD xs ys->xs.length=ys.length|[],ys,h=>by simp_all[iD]|x::xs,[],h=>by simp[iD] at h|x::xs,y::ys,h=>by simp only[iD] at h;simp[tU h.2]
theorem s5:∀{xs ys:A8},dF xs ys->xs.length=ys.length|[],ys,h=>by simp_all[dF]|x::xs,[],h=>by simp[dF] at h|x::xs,y::ys,h=>by simp only[dF] at h;simp[s5 h.2]
theorem rowsWk_app:∀{a b c d:A8},dF a b->dF c d->dF (a++c) (b++d)|[],ys,c,d,h,h'=>by simp_all[dF]|x::xs,[],c,d,h,h'=>by simp[dF] at h|x::xs,y::ys,c,d,h,h'=>by simp only[dF] at h;simp only[List.cons_append,dF];exact⟨h.1,rowsWk_app h.2 h'⟩
theorem rowsWk_same {a c d:A8} (h:dF c d):dF (a++c) (a++d):=rowsWk_app (oR a) h
theorem rowsWk_flat:∀{xs ys:A8},dF xs ys->iD xs.flatten ys.flatten
 |[],ys,h=>by simp_all[dF,iD]|x::xs,[],h=>by simp[dF] at h|x::xs,y::ys,h=>by
  simp only[dF] at h;have:∀{a b c d:Ak},iD a b->iD c d->iD (a++c) (b++d):=by
   intro a;induction a with
   |nil=>simp_all[iD]|cons a as ih=>
    intro b c d h h';cases b with
    |nil=>simp[iD] at h|cons b bs=>simp_all[iD]
  rw[List.flatten_cons,List.flatten_cons];exact this h.1 (rowsWk_flat h.2)
theorem rowsWk_mem:∀{xs ys:A8} {sz:Nat},dF xs ys->(∀r∈xs,r.length=sz)->∀r∈ys,r.length=sz|[],ys,sz,h,_=>by simp_all[dF]|x::xs,[],sz,h,_=>by simp|x::xs,y::ys,sz,h,hl=>by simp only[dF] at h;intro r hr;rcases List.mem_cons.1 hr with rfl|hr;{rw[<- tU h.1];grind};{exact rowsWk_mem h.2 (λr hr=>hl r (List.mem_cons_of_mem _ hr)) r hr}
def C.wk:C->C->Prop|.d x,.d y=>x.wk y|c,c'=>c=c'
def C.wks:Ar->Ar->Prop|[],[]=>True|c::cs,c'::ds=>c.wk c'/\C.wks cs ds|_,_=>False
def U.wk:U->U->Prop|.one c,.one d=>c.wk d|.agg cs,.agg ds=>C.wks cs ds|_,_=>False
def U.wks:List U->List U->Prop|[],[]=>True|c::cs,c'::ds=>c.wk c'/\U.wks cs ds|_,_=>False
def V.wk:V->V->Prop|.u x,.u y=>x.wk y|.tup us,.tup vs=>U.wks us vs|_,_=>False
@[simp] theorem L.wk_int (k:IntKind) (n:Int) (y:L):L.wk (.int k n) y↔y=.int k n:=by simp[L.wk]
@[simp] theorem L.wk_bool (b:Bool) (y:L):L.wk (.bool b) y↔y=.bool b:=by simp[L.wk]
@[simp] theorem L.wk_str (s:ByteArray) (y:L):L.wk (.str s) y↔y=.str s:=by simp[L.wk]
@[simp] theorem L.wk_nil (sz:Nat) (rows:A8):L.wk .nil (.sl sz rows)↔rows=[]:=by simp[L.wk]
@[simp] theorem L.wk_emp (sz:Nat) (rows:A8):L.wk .emp (.sl sz rows)↔rows=[]:=by simp[L.wk]
@[simp] theorem L.wk_sl (sz sz':Nat) (rows rows':A8):L.wk (.sl sz rows) (.sl sz' rows')↔sz=sz'/\dF rows rows':=by simp[L.wk]
attribute [simp] L.wk_refl rowWk_refl oR
@[simp] theorem rowWk_nil:iD [] []↔True:=by simp[iD]
@[simp] theorem rowWk_cons (x y:L) (xs ys:Ak):iD (x::xs) (y::ys)↔x.wk y/\iD xs ys:=by simp[iD]
@[simp] theorem rowsWk_nil (ys:A8):dF [] ys↔ys=[]:=by simp[dF]
@[simp] theorem rowsWk_cons (x y:Ak) (xs ys:A8):dF (x::xs) (y::ys)↔iD x y/\dF xs ys:=by simp[dF]
@[simp] theorem rowsWk_left (a c d:A8):dF (a++c) (a++d)↔dF c d:=by
 refine⟨λh=>?_,rowsWk_same⟩;induction a with
 |nil=>exact h|cons x xs ih=>simp only[List.cons_append,rowsWk_cons] at h;exact ih h.2
@[simp] theorem V.wk_u (x y:U):V.wk (.u x) (.u y)↔x.wk y:=Iff.rfl
@[simp] theorem V.wk_tup (x y:List U):V.wk (.tup x) (.tup y)↔U.wks x y:=Iff.rfl
@[simp] theorem U.wk_one (x y:C):U.wk (.one x) (.one y)↔x.wk y:=Iff.rfl
@[simp] theorem U.wk_agg (x y:Ar):U.wk (.agg x) (.agg y)↔C.wks x y:=Iff.rfl
@[simp] theorem C.wk_d (x y:L):C.wk (.d x) (.d y)↔x.wk y:=Iff.rfl
@[simp] theorem U.wks_nil:U.wks [] []↔True:=Iff.rfl
@[simp] theorem U.wks_cons (x y:U) (xs ys:List U):U.wks (x::xs) (y::ys)↔x.wk y/\U.wks xs ys:=Iff.rfl
@[simp] theorem C.wks_nil:C.wks [] []↔True:=Iff.rfl
@[simp] theorem C.wks_cons (x y:C) (xs ys:Ar):C.wks (x::xs) (y::ys)↔x.wk y/\C.wks xs ys:=Iff.rfl
section
variable {φ:A7} {w:World} {F:Ad}
mutual
theorem rep_wk:∀{x y:L} {u:Value},x.wk y->rep w F x u->rep w F y u
 |.sl sz rows,y,u,h,hx=>by
  cases y with
  |sl sz' rows'=>
   simp only[L.wk] at h;obtain⟨rfl,h⟩:=h;simp only[rep] at hx⊢;obtain⟨ao,n,c,rfl,hn,hc,hm,hr⟩:=hx;refine⟨ao,n,c,rfl,hn.trans (s5 h),hc,hm,?_⟩;rcases hr with rfl|⟨b,o,h1,h2,h3,h4⟩;{exact .inl (by simpa [dF] using h)};{exact .inr ⟨b,o,h1,h2,h3,repRows_wk h h4⟩}
  |_=>simp[L.wk] at h
 |.nil,y,u,h,hx=>by
  cases y with
  |sl sz' rows'=>simp only[L.wk] at h;subst h;simp only[rep] at hx⊢;exact⟨none,0,0,hx,rfl,Nat.le_refl _,Nat.zero_le _,.inl (by simp)⟩|nil=>exact hx|_=>simp[L.wk] at h
 |.emp,y,u,h,hx=>by
  cases y with
  |sl sz' rows'=>
   simp only[L.wk] at h;subst h;simp only[rep] at hx⊢;obtain⟨a,hx⟩:=hx;exact⟨a,0,0,hx,rfl,Nat.le_refl _,Nat.zero_le _,.inl (by simp)⟩
  |emp=>exact hx|_=>simp[L.wk] at h
 |.int k n,y,u,h,hx=>by simp only[L.wk] at h;exact h ▸ hx|.bool b,y,u,h,hx=>by simp only[L.wk] at h;exact h ▸ hx|.str s,y,u,h,hx=>by simp only[L.wk] at h;exact h ▸ hx|.er b,y,u,h,hx=>by simp only[L.wk] at h;exact h ▸ hx|.slx sz rows,y,u,h,hx=>by simp only[L.wk] at h;exact h ▸ hx|.any,y,u,h,hx=>by simp only[L.wk] at h;exact h ▸ hx|.ref xs off,y,u,h,hx=>by simp only[L.wk] at h;exact h ▸ hx
theorem repRow_wk:∀{xs ys:Ak} {b o:Nat},iD xs ys->dG w F xs b o->dG w F ys b o|[],ys,b,o,h,hx=>by simp only[iD] at h;subst h;exact hx|x::xs,[],b,o,h,hx=>by simp[iD] at h|x::xs,y::ys,b,o,h,hx=>by simp only[iD] at h;simp only[dG] at hx⊢;obtain⟨⟨u,h1,h2⟩,h3⟩:=hx;exact⟨⟨u,h1,rep_wk h.1 h2⟩,repRow_wk h.2 h3⟩
theorem repRows_wk:∀{xs ys:A8} {sz b o:Nat},dF xs ys->cF w F sz xs b o->cF w F sz ys b o|[],ys,sz,b,o,h,hx=>by simp only[dF] at h;subst h;exact hx|x::xs,[],sz,b,o,h,hx=>by simp[dF] at h|x::xs,y::ys,sz,b,o,h,hx=>by simp only[dF] at h;simp only[cF] at hx⊢;obtain⟨⟨h1,h2⟩,h3⟩:=hx;exact⟨⟨by rw[<- tU h.1];exact h1,repRow_wk h.1 h2⟩,repRows_wk h.2 h3⟩
end
theorem csim_wk {c d:C} {u:Value} (h:c.wk d) (hc:bF φ w F c u):bF φ w F d u:=by unfold C.wk at h;grind[bF,rep_wk]
theorem csims_wk:∀{cs ds:Ar} {us:A9},C.wks cs ds->bB φ w F cs us->bB φ w F ds us|[],[],_,_,h=>h|c::cs,d::ds,us,hw,h=>by simp only[bB] at h⊢;obtain⟨v,r,rfl,hc,h⟩:=h;exact⟨v,r,rfl,csim_wk hw.1 hc,csims_wk hw.2 h⟩
theorem usim_wk {x y:U} {u:Value} (h:x.wk y) (hx:cr φ w F x u):cr φ w F y u:=by unfold U.wk at h;split at h;{exact csim_wk h hx};{obtain⟨arr,rfl,hc⟩:=hx;exact⟨arr,rfl,csims_wk h hc⟩};{exact h.elim}
theorem usims_wk:∀{cs ds:List U} {us:A9},U.wks cs ds->iz φ w F cs us->iz φ w F ds us|[],[],_,_,h=>h|c::cs,d::ds,us,hw,h=>by obtain⟨v,r,rfl,hc,h⟩:=h;exact⟨v,r,rfl,usim_wk hw.1 hc,usims_wk hw.2 h⟩
theorem vsim_wk {x y:V} {u:Value} (h:x.wk y) (hx:bH φ w F x u):bH φ w F y u:=by unfold V.wk at h;split at h;{exact usim_wk h hx};{obtain⟨arr,rfl,hc⟩:=hx;exact⟨arr,rfl,usims_wk h hc⟩};{exact h.elim}
end
theorem PFn.pureW {P:Program} {f:FuncId} {us:Ao} {v0:V} (h:PFn P f us (λv=>v.wk v0)):bA P f us v0 :=⟨h.1,λφ w F hF vals hl hv=>(h.2 φ w F hF vals hl hv).mono λ_ _ ⟨u,_,he,hb,hv,hs⟩=>⟨u,he,hb,vsim_wk hv hs⟩⟩
theorem bA.args {P:Program} {f:FuncId} {us us':Ao} {v:V} (h:bA P f us' v) (hl:us.length=us'.length) (hw:∀(i:Nat) (x y:V),us[i]?=some x->us'[i]?=some y->x.wk y):bA P f us v:=by refine⟨h.1,λφ w F hF vals hvl hv=>h.2 φ w F hF vals (hvl.trans hl) λi y u hy hu=>?_⟩;grind[vsim_wk]
def V.wkl:Ao->Ao->Prop|[],[]=>True|x::xs,y::ys=>x.wk y/\V.wkl xs ys|_,_=>False
theorem wkl_get:∀{us us':Ao},V.wkl us us'->us.length=us'.length/\∀(i:Nat) (x y:V),us[i]?=some x->us'[i]?=some y->x.wk y
 |[],[],_=>by simp|x::xs,y::ys,h=>by
  obtain⟨h1,h2⟩:=wkl_get h.2;refine⟨by simp[h1],λi a b ha hb=>?_⟩;cases i with
  |zero=>simp at ha hb;subst ha hb;exact h.1|succ i=>grind
theorem bA.wk {P:Program} {f:FuncId} {us us':Ao} {v:V} (h:bA P f us' v) (hw:V.wkl us us'):bA P f us v :=
 h.args (wkl_get hw).1 (wkl_get hw).2
mutual
theorem C.wk_refl:∀c:C,c.wk c|.d x=>by simp[C.wk]|.top|.ref _ _|.box _ _|.own _|.elt _ _ _ _|.map _|.nilmap|.iter _|.fn _ _|.sub _ _ _ _|.opq _=>rfl
theorem C.wks_refl:∀cs:Ar,C.wks cs cs|[]=>trivial|c::cs=>⟨C.wk_refl c,C.wks_refl cs⟩
end
theorem U.wk_refl:∀x:U,x.wk x|.one c=>C.wk_refl c|.agg cs=>C.wks_refl cs
theorem U.wks_refl:∀us:List U,U.wks us us|[]=>trivial|x::us=>⟨U.wk_refl x,U.wks_refl us⟩
theorem V.wk_refl:∀v:V,v.wk v|.u x=>U.wk_refl x|.tup us=>U.wks_refl us
def decs {α:Type} (dec:Ak->Option α):A8->Option (List α)
 |[]=>some []|r::rs=>match dec r,decs dec rs with
  |some x,some xs=>some (x::xs)|_,_=>none
def decSl {α:Type} (sz:Nat) (dec:Ak->Option α):V->Option (List α)|.u (.one (.d .nil))=>some []|.u (.one (.d .emp))=>some []|.u (.one (.d (.sl sz' rows)))=>if sz'=sz then decs dec rows else none|_=>none
@[simp] theorem decSl_nil {α:Type} (sz:Nat) (dec:Ak->Option α):decSl sz dec (.u (.one (.d .nil)))=some []:=rfl
@[simp] theorem decSl_emp {α:Type} (sz:Nat) (dec:Ak->Option α):decSl sz dec (.u (.one (.d .emp)))=some []:=rfl
@[simp] theorem decSl_sl {α:Type} (sz:Nat) (dec:Ak->Option α) (rows:A8):decSl sz dec (.u (.one (.d (.sl sz rows))))=decs dec rows:=by simp[decSl]
