/- Lemmas for the law. -/
import Derived.Test.YtpeabgakdpojlaaGreatDoorAmU
namespace Go.AM
open Go.RowKit
mutual
def L.wk:L->L->Prop
 |.sl sz rows,y=>match y with
  |.sl sz' rows'=>sz=sz'/\dK rows rows'|_=>False
 |.nil,y=>match y with
  |.nil=>True|.sl _ rows=>rows=[]|_=>False
 |.emp,y=>match y with
  |.emp=>True|.sl _ rows=>rows=[]|_=>False
 |.int k n,y=>y=.int k n|.bool b,y=>y=.bool b|.str s,y=>y=.str s|.er b,y=>y=.er b|.slx sz rows,y=>y=.slx sz rows|.any,y=>y=.any|.ref xs off,y=>y=.ref xs off
def iW:Ak->Ak->Prop
 |[],ys=>ys=[]|x::xs,ys=>match ys with
  |y::ys=>x.wk y/\iW xs ys|[]=>False
def dK:A8->A8->Prop
 |[],ys=>ys=[]|x::xs,ys=>match ys with
  |y::ys=>iW x y/\dK xs ys|[]=>False
end
mutual
theorem L.wk_refl:∀x:L,x.wk x|.sl sz rows=>by simp only[L.wk,true_and];exact oR rows|.nil=>by simp[L.wk]|.emp=>by simp[L.wk]|.int _ _=>by simp[L.wk]|.bool _=>by simp[L.wk]|.str _=>by simp[L.wk]|.er _=>by simp[L.wk]|.slx _ _=>by simp[L.wk]|.any=>by simp[L.wk]|.ref _ _=>by simp[L.wk]
theorem rowWk_refl:∀x:Ak,iW x x|[]=>by simp[iW]|x::xs=>by simp only[iW];exact⟨L.wk_refl x,rowWk_refl xs⟩
theorem oR:∀x:A8,dK x x|[]=>by simp[dK]|x::xs=>by simp only[dK];exact⟨rowWk_refl x,oR xs⟩
end
theorem tH:∀{xs ys:Ak},iW xs ys->xs.length=ys.length|[],ys,h=>by simp_all[iW]|x::xs,[],h=>by simp[iW] at h|x::xs,y::ys,h=>by simp only[iW] at h;simp[tH h.2]
theorem sy:∀{xs ys:A8},dK xs ys->xs.length=ys.length|[],ys,h=>by simp_all[dK]|x::xs,[],h=>by simp[dK] at h|x::xs,y::ys,h=>by simp only[dK] at h;simp[sy h.2]
theorem rowsWk_app:∀{a b c d:A8},dK a b->dK c d->dK (a++c) (b++d)|[],ys,c,d,h,h'=>by simp_all[dK]|x::xs,[],c,d,h,h'=>by simp[dK] at h|x::xs,y::ys,c,d,h,h'=>by simp only[dK] at h;simp only[List.cons_append,dK];exact⟨h.1,rowsWk_app h.2 h'⟩
theorem rowsWk_same {a c d:A8} (h:dK c d):dK (a++c) (a++d):=rowsWk_app (oR a) h
theorem rowsWk_flat:∀{xs ys:A8},dK xs ys->iW xs.flatten ys.flatten
 |[],ys,h=>by simp_all[dK,iW]|x::xs,[],h=>by simp[dK] at h|x::xs,y::ys,h=>by
  simp only[dK] at h;have:∀{a b c d:Ak},iW a b->iW c d->iW (a++c) (b++d):=by
   intro a;induction a with
   |nil=>simp_all[iW]|cons a as ih=>
    intro b c d h h';cases b with
    |nil=>simp[iW] at h|cons b bs=>simp_all[iW]
  rw[List.flatten_cons,List.flatten_cons];exact this h.1 (rowsWk_flat h.2)
theorem rowsWk_mem:∀{xs ys:A8} {sz:Nat},dK xs ys->(∀r∈xs,r.length=sz)->∀r∈ys,r.length=sz|[],ys,sz,h,_=>by simp_all[dK]|x::xs,[],sz,h,_=>by simp|x::xs,y::ys,sz,h,hl=>by simp only[dK] at h;intro r hr;rcases List.mem_cons.1 hr with rfl|hr;{rw[<- tH h.1];grind};{exact rowsWk_mem h.2 (λr hr=>hl r (List.mem_cons_of_mem _ hr)) r hr}
def C.wk:C->C->Prop|.d x,.d y=>x.wk y|c,c'=>c=c'
def C.wks:As->As->Prop|[],[]=>True|c::cs,c'::ds=>c.wk c'/\C.wks cs ds|_,_=>False
def U.wk:U->U->Prop|.one c,.one d=>c.wk d|.agg cs,.agg ds=>C.wks cs ds|_,_=>False
def U.wks:List U->List U->Prop|[],[]=>True|c::cs,c'::ds=>c.wk c'/\U.wks cs ds|_,_=>False
def V.wk:V->V->Prop|.u x,.u y=>x.wk y|.tup us,.tup vs=>U.wks us vs|_,_=>False
@[simp] theorem L.wk_int (k:IntKind) (n:Int) (y:L):L.wk (.int k n) y↔y=.int k n:=by simp[L.wk]
@[simp] theorem L.wk_bool (b:Bool) (y:L):L.wk (.bool b) y↔y=.bool b:=by simp[L.wk]
@[simp] theorem L.wk_str (s:ByteArray) (y:L):L.wk (.str s) y↔y=.str s:=by simp[L.wk]
@[simp] theorem L.wk_nil (sz:Nat) (rows:A8):L.wk .nil (.sl sz rows)↔rows=[]:=by simp[L.wk]
@[simp] theorem L.wk_emp (sz:Nat) (rows:A8):L.wk .emp (.sl sz rows)↔rows=[]:=by simp[L.wk]
@[simp] theorem L.wk_sl (sz sz':Nat) (rows rows':A8):L.wk (.sl sz rows) (.sl sz' rows')↔sz=sz'/\dK rows rows':=by simp[L.wk]
attribute [simp] L.wk_refl rowWk_refl oR
@[simp] theorem rowWk_nil:iW [] []↔True:=by simp[iW]
@[simp] theorem rowWk_cons (x y:L) (xs ys:Ak):iW (x::xs) (y::ys)↔x.wk y/\iW xs ys:=by simp[iW]
@[simp] theorem rowsWk_nil (ys:A8):dK [] ys↔ys=[]:=by simp[dK]
@[simp] theorem rowsWk_cons (x y:Ak) (xs ys:A8):dK (x::xs) (y::ys)↔iW x y/\dK xs ys:=by simp[dK]
@[simp] theorem rowsWk_left (a c d:A8):dK (a++c) (a++d)↔dK c d:=by
 refine⟨λh=>?_,rowsWk_same⟩;induction a with
 |nil=>exact h|cons x xs ih=>simp only[List.cons_append,rowsWk_cons] at h;exact ih h.2
@[simp] theorem V.wk_u (x y:U):V.wk (.u x) (.u y)↔x.wk y:=Iff.rfl
@[simp] theorem V.wk_tup (x y:List U):V.wk (.tup x) (.tup y)↔U.wks x y:=Iff.rfl
@[simp] theorem U.wk_one (x y:C):U.wk (.one x) (.one y)↔x.wk y:=Iff.rfl
@[simp] theorem U.wk_agg (x y:As):U.wk (.agg x) (.agg y)↔C.wks x y:=Iff.rfl
@[simp] theorem C.wk_d (x y:L):C.wk (.d x) (.d y)↔x.wk y:=Iff.rfl
@[simp] theorem U.wks_nil:U.wks [] []↔True:=Iff.rfl
@[simp] theorem U.wks_cons (x y:U) (xs ys:List U):U.wks (x::xs) (y::ys)↔x.wk y/\U.wks xs ys:=Iff.rfl
@[simp] theorem C.wks_nil:C.wks [] []↔True:=Iff.rfl
@[simp] theorem C.wks_cons (x y:C) (xs ys:As):C.wks (x::xs) (y::ys)↔x.wk y/\C.wks xs ys:=Iff.rfl
section
variable {E:A7} {w:World} {F:Ad}
mutual
theorem rep_wk:∀{x y:L} {u:Value},x.wk y->rep w F x u->rep w F y u
 |.sl sz rows,y,u,h,hx=>by
  cases y with
  |sl sz' rows'=>
   simp only[L.wk] at h;obtain⟨rfl,h⟩:=h;simp only[rep] at hx⊢;obtain⟨ao,n,c,rfl,hn,hc,hm,hr⟩:=hx;refine⟨ao,n,c,rfl,hn.trans (sy h),hc,hm,?_⟩;rcases hr with rfl|⟨b,o,h1,h2,h3,h4⟩;{exact .inl (by simpa [dK] using h)};{exact .inr ⟨b,o,h1,h2,h3,repRows_wk h h4⟩}
  |_=>simp[L.wk] at h
 |.nil,y,u,h,hx=>by
  cases y with
  |sl sz' rows'=>simp only[L.wk] at h;subst h;simp only[rep] at hx⊢;exact⟨none,0,0,hx,rfl,Nat.le_refl _,Nat.zero_le _,.inl (by simp)⟩|nil=>exact hx|_=>simp[L.wk] at h
 |.emp,y,u,h,hx=>by
  cases y with
  |sl sz' rows'=>
   simp only[L.wk] at h;subst h;simp only[rep] at hx⊢;obtain⟨a,hx⟩:=hx;exact⟨a,0,0,hx,rfl,Nat.le_refl _,Nat.zero_le _,.inl (by simp)⟩
  |emp=>exact hx|_=>simp[L.wk] at h
 |.int k n,y,u,h,hx=>by simp only[L.wk] at h;exact h ▸ hx|.bool b,y,u,h,hx=>by simp only[L.wk] at h;exact h ▸ hx|.str s,y,u,h,hx=>by simp only[L.wk] at h;exact h ▸ hx|.er b,y,u,h,hx=>by simp only[L.wk] at h;exact h ▸ hx|.slx sz rows,y,u,h,hx=>by simp only[L.wk] at h;exact h ▸ hx|.any,y,u,h,hx=>by simp only[L.wk] at h;exact h ▸ hx|.ref xs off,y,u,h,hx=>by simp only[L.wk] at h;exact h ▸ hx
theorem repRow_wk:∀{xs ys:Ak} {b o:Nat},iW xs ys->dM w F xs b o->dM w F ys b o|[],ys,b,o,h,hx=>by simp only[iW] at h;subst h;exact hx|x::xs,[],b,o,h,hx=>by simp[iW] at h|x::xs,y::ys,b,o,h,hx=>by simp only[iW] at h;simp only[dM] at hx⊢;obtain⟨⟨u,h1,h2⟩,h3⟩:=hx;exact⟨⟨u,h1,rep_wk h.1 h2⟩,repRow_wk h.2 h3⟩
theorem repRows_wk:∀{xs ys:A8} {sz b o:Nat},dK xs ys->cJ w F sz xs b o->cJ w F sz ys b o|[],ys,sz,b,o,h,hx=>by simp only[dK] at h;subst h;exact hx|x::xs,[],sz,b,o,h,hx=>by simp[dK] at h|x::xs,y::ys,sz,b,o,h,hx=>by simp only[dK] at h;simp only[cJ] at hx⊢;obtain⟨⟨h1,h2⟩,h3⟩:=hx;exact⟨⟨by rw[<- tH h.1];exact h1,repRow_wk h.1 h2⟩,repRows_wk h.2 h3⟩
end
theorem csim_wk {c d:C} {u:Value} (h:c.wk d) (hc:bG E w F c u):bG E w F d u:=by unfold C.wk at h;grind[bG,rep_wk]
theorem csims_wk:∀{cs ds:As} {us:A9},C.wks cs ds->bB E w F cs us->bB E w F ds us|[],[],_,_,h=>h|c::cs,d::ds,us,hw,h=>by simp only[bB] at h⊢;obtain⟨v,r,rfl,hc,h⟩:=h;exact⟨v,r,rfl,csim_wk hw.1 hc,csims_wk hw.2 h⟩
theorem usim_wk {x y:U} {u:Value} (h:x.wk y) (hx:ct E w F x u):ct E w F y u:=by unfold U.wk at h;split at h;{exact csim_wk h hx};{obtain⟨arr,rfl,hc⟩:=hx;exact⟨arr,rfl,csims_wk h hc⟩};{exact h.elim}
theorem usims_wk:∀{cs ds:List U} {us:A9},U.wks cs ds->iN E w F cs us->iN E w F ds us|[],[],_,_,h=>h|c::cs,d::ds,us,hw,h=>by obtain⟨v,r,rfl,hc,h⟩:=h;exact⟨v,r,rfl,usim_wk hw.1 hc,usims_wk hw.2 h⟩
theorem vsim_wk {x y:V} {u:Value} (h:x.wk y) (hx:bI E w F x u):bI E w F y u:=by unfold V.wk at h;split at h;{exact usim_wk h hx};{obtain⟨arr,rfl,hc⟩:=hx;exact⟨arr,rfl,usims_wk h hc⟩};{exact h.elim}
end
theorem PFn.pureW {P:Program} {f:FuncId} {us:Ao} {v0:V} (h:PFn P f us (λv=>v.wk v0)):bA P f us v0 :=⟨h.1,λE w F hF vals hl hv=>(h.2 E w F hF vals hl hv).mono λ_ _ ⟨u,_,he,hb,hv,hs⟩=>⟨u,he,hb,vsim_wk hv hs⟩⟩
theorem bA.args {P:Program} {f:FuncId} {us us':Ao} {v:V} (h:bA P f us' v) (hl:us.length=us'.length) (hw:∀(i:Nat) (x y:V),us[i]?=some x->us'[i]?=some y->x.wk y):bA P f us v:=by refine⟨h.1,λE w F hF vals hvl hv=>h.2 E w F hF vals (hvl.trans hl) λi y u hy hu=>?_⟩;grind[vsim_wk]
def V.wkl:Ao->Ao->Prop|[],[]=>True|x::xs,y::ys=>x.wk y/\V.wkl xs ys|_,_=>False
theorem wkl_get:∀{us us':Ao},V.wkl us us'->us.length=us'.length/\∀(i:Nat) (x y:V),us[i]?=some x->us'[i]?=some y->x.wk y
 |[],[],_=>by simp|x::xs,y::ys,h=>by
  obtain⟨h1,h2⟩:=wkl_get h.2;refine⟨by simp[h1],λi a b ha hb=>?_⟩;cases i with
  |zero=>simp at ha hb;subst ha hb;exact h.1|succ i=>grind
theorem bA.wk {P:Program} {f:FuncId} {us us':Ao} {v:V} (h:bA P f us' v) (hw:V.wkl us us'):bA P f us v :=
 h.args (wkl_get hw).1 (wkl_get hw).2
mutual
theorem C.wk_refl:∀c:C,c.wk c|.d x=>by simp[C.wk]|.top|.ref _ _|.box _ _|.own _|.elt _ _ _ _|.map _|.nilmap|.iter _|.fn _ _|.sub _ _ _ _|.opq _=>rfl
theorem C.wks_refl:∀cs:As,C.wks cs cs|[]=>trivial|c::cs=>⟨C.wk_refl c,C.wks_refl cs⟩
end
theorem U.wk_refl:∀x:U,x.wk x|.one c=>C.wk_refl c|.agg cs=>C.wks_refl cs
theorem U.wks_refl:∀us:List U,U.wks us us|[]=>trivial|x::us=>⟨U.wk_refl x,U.wks_refl us⟩
theorem V.wk_refl:∀v:V,v.wk v|.u x=>U.wk_refl x|.tup us=>U.wks_refl us
def decs {I:Type} (dec:Ak->Option I):A8->Option (List I)
 |[]=>some []|r::rs=>match dec r,decs dec rs with
  |some x,some xs=>some (x::xs)|_,_=>none
def decSl {I:Type} (sz:Nat) (dec:Ak->Option I):V->Option (List I)|.u (.one (.d .nil))=>some []|.u (.one (.d .emp))=>some []|.u (.one (.d (.sl sz' rows)))=>if sz'=sz then decs dec rows else none|_=>none
@[simp] theorem decSl_nil {I:Type} (sz:Nat) (dec:Ak->Option I):decSl sz dec (.u (.one (.d .nil)))=some []:=rfl
@[simp] theorem decSl_emp {I:Type} (sz:Nat) (dec:Ak->Option I):decSl sz dec (.u (.one (.d .emp)))=some []:=rfl
@[simp] theorem decSl_sl {I:Type} (sz:Nat) (dec:Ak->Option I) (rows:A8):decSl sz dec (.u (.one (.d (.sl sz rows))))=decs dec rows:=by simp[decSl]
