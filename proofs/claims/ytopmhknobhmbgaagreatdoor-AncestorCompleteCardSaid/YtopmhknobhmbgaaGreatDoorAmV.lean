/- Slices without elements, in their weakest form, as results and as arguments; calls that take a row of the caller's own, by table. -/
import Derived.Test.YtopmhknobhmbgaaGreatDoorAmU
namespace Go.AM
open Go.RowKit
mutual
def L.wk:L->L->Prop
 |.sl sz rows,y=>match y with
  |.sl sz' rows'=>sz=sz'/\dr rows rows'|_=>False
 |.nil,y=>match y with
  |.nil=>True|.sl _ rows=>rows=[]|_=>False
 |.emp,y=>match y with
  |.emp=>True|.sl _ rows=>rows=[]|_=>False
 |.int k n,y=>y=.int k n|.bool b,y=>y=.bool b|.str s,y=>y=.str s|.er b,y=>y=.er b|.slx sz rows,y=>y=.slx sz rows|.any,y=>y=.any|.ref xs off,y=>y=.ref xs off
def iH:Ai->Ai->Prop
 |[],ys=>ys=[]|x::xs,ys=>match ys with
  |y::ys=>x.wk y/\iH xs ys|[]=>False
def dr:A7->A7->Prop
 |[],ys=>ys=[]|x::xs,ys=>match ys with
  |y::ys=>iH x y/\dr xs ys|[]=>False
end
mutual
theorem L.wk_refl:∀x:L,x.wk x|.sl sz rows=>by simp only[L.wk,true_and];exact nV rows|.nil=>by simp[L.wk]|.emp=>by simp[L.wk]|.int _ _=>by simp[L.wk]|.bool _=>by simp[L.wk]|.str _=>by simp[L.wk]|.er _=>by simp[L.wk]|.slx _ _=>by simp[L.wk]|.any=>by simp[L.wk]|.ref _ _=>by simp[L.wk]
theorem rowWk_refl:∀x:Ai,iH x x|[]=>by simp[iH]|x::xs=>by simp only[iH];exact⟨L.wk_refl x,rowWk_refl xs⟩
theorem nV:∀x:A7,dr x x|[]=>by simp[dr]|x::xs=>by simp only[dr];exact⟨rowWk_refl x,nV xs⟩
end
theorem sw:∀{xs ys:Ai},iH xs ys->xs.length=ys.length|[],ys,h=>by simp_all[iH]|x::xs,[],h=>by simp[iH] at h|x::xs,y::ys,h=>by simp only[iH] at h;simp[sw h.2]
theorem rb:∀{xs ys:A7},dr xs ys->xs.length=ys.length|[],ys,h=>by simp_all[dr]|x::xs,[],h=>by simp[dr] at h|x::xs,y::ys,h=>by simp only[dr] at h;simp[rb h.2]
theorem rowsWk_app:∀{a b c d:A7},dr a b->dr c d->dr (a++c) (b++d)|[],ys,c,d,h,h'=>by simp_all[dr]|x::xs,[],c,d,h,h'=>by simp[dr] at h|x::xs,y::ys,c,d,h,h'=>by simp only[dr] at h;simp only[List.cons_append,dr];exact⟨h.1,rowsWk_app h.2 h'⟩
theorem rowsWk_same {a c d:A7} (h:dr c d):dr (a++c) (a++d):=rowsWk_app (nV a) h
theorem rowsWk_flat:∀{xs ys:A7},dr xs ys->iH xs.flatten ys.flatten
 |[],ys,h=>by simp_all[dr,iH]|x::xs,[],h=>by simp[dr] at h|x::xs,y::ys,h=>by
  simp only[dr] at h;have:∀{a b c d:Ai},iH a b->iH c d->iH (a++c) (b++d):=by
   intro a;induction a with
   |nil=>simp_all[iH]|cons a as ih=>
    intro b c d h h';cases b with
    |nil=>simp[iH] at h|cons b bs=>simp_all[iH]
  rw[List.flatten_cons,List.flatten_cons];exact this h.1 (rowsWk_flat h.2)
theorem rowsWk_mem:∀{xs ys:A7} {sz:Nat},dr xs ys->(∀r∈xs,r.length=sz)->∀r∈ys,r.length=sz|[],ys,sz,h,_=>by simp_all[dr]|x::xs,[],sz,h,_=>by simp|x::xs,y::ys,sz,h,hl=>by simp only[dr] at h;intro r hr;rcases List.mem_cons.1 hr with rfl|hr;{rw[<- sw h.1];grind};{exact rowsWk_mem h.2 (λr hr=>hl r (List.mem_cons_of_mem _ hr)) r hr}
def C.wk:C->C->Prop|.d x,.d y=>x.wk y|c,c'=>c=c'
def C.wks:As->As->Prop|[],[]=>True|c::cs,c'::ds=>c.wk c'/\C.wks cs ds|_,_=>False
def U.wk:U->U->Prop|.one c,.one d=>c.wk d|.agg cs,.agg ds=>C.wks cs ds|_,_=>False
def U.wks:List U->List U->Prop|[],[]=>True|c::cs,c'::ds=>c.wk c'/\U.wks cs ds|_,_=>False
def V.wk:V->V->Prop|.u x,.u y=>x.wk y|.tup us,.tup vs=>U.wks us vs|_,_=>False
@[simp] theorem L.wk_int (k:IntKind) (n:Int) (y:L):L.wk (.int k n) y↔y=.int k n:=by simp[L.wk]
@[simp] theorem L.wk_bool (b:Bool) (y:L):L.wk (.bool b) y↔y=.bool b:=by simp[L.wk]
@[simp] theorem L.wk_str (s:ByteArray) (y:L):L.wk (.str s) y↔y=.str s:=by simp[L.wk]
@[simp] theorem L.wk_nil (sz:Nat) (rows:A7):L.wk .nil (.sl sz rows)↔rows=[]:=by simp[L.wk]
@[simp] theorem L.wk_emp (sz:Nat) (rows:A7):L.wk .emp (.sl sz rows)↔rows=[]:=by simp[L.wk]
@[simp] theorem L.wk_sl (sz sz':Nat) (rows rows':A7):L.wk (.sl sz rows) (.sl sz' rows')↔sz=sz'/\dr rows rows':=by simp[L.wk]
attribute [simp] L.wk_refl rowWk_refl nV
@[simp] theorem rowWk_nil:iH [] []↔True:=by simp[iH]
@[simp] theorem rowWk_cons (x y:L) (xs ys:Ai):iH (x::xs) (y::ys)↔x.wk y/\iH xs ys:=by simp[iH]
@[simp] theorem rowsWk_nil (ys:A7):dr [] ys↔ys=[]:=by simp[dr]
@[simp] theorem rowsWk_cons (x y:Ai) (xs ys:A7):dr (x::xs) (y::ys)↔iH x y/\dr xs ys:=by simp[dr]
@[simp] theorem rowsWk_left (a c d:A7):dr (a++c) (a++d)↔dr c d:=by
 refine⟨λh=>?_,rowsWk_same⟩;induction a with
 |nil=>exact h|cons x xs ih=>simp only[List.cons_append,rowsWk_cons] at h;exact ih h.2
@[simp] theorem V.wk_u (x y:U):V.wk (.u x) (.u y)↔x.wk y:=Iff.rfl
@[simp] theorem V.wk_tup (x y:List U):V.wk (.tup x) (.tup y)↔U.wks x y:=Iff.rfl
@[simp] theorem U.wk_one (x y:C):U.wk (.one x) (.one y)↔x.wk y:=Iff.rfl
@[simp] theorem U.wk_agg (x y:As):U.wk (.agg x) (.agg y)↔C.wks x y:=Iff.rfl
@[simp] theorem C.wk_d (x y:L):C.wk (.d x) (.d y)↔x.wk y:=Iff.rfl
@[simp] theorem U.wks_nil:U.wks [] []↔True:=Iff.rfl
@[simp] theorem U.wks_cons (x y:U) (xs ys:List U):U.wks (x::xs) (y::ys)↔x.wk y/\U.wks xs ys:=Iff.rfl
@[simp] theorem C.wks_nil:C.wks [] []↔True:=Iff.rfl
@[simp] theorem C.wks_cons (x y:C) (xs ys:As):C.wks (x::xs) (y::ys)↔x.wk y/\C.wks xs ys:=Iff.rfl
section
variable {φ:A8} {w:World} {F:Ae}
mutual
theorem rep_wk:∀{x y:L} {u:Value},x.wk y->rep w F x u->rep w F y u
 |.sl sz rows,y,u,h,hx=>by
  cases y with
  |sl sz' rows'=>
   simp only[L.wk] at h;obtain⟨rfl,h⟩:=h;simp only[rep] at hx⊢;obtain⟨ao,n,c,rfl,hn,hc,hm,hr⟩:=hx;refine⟨ao,n,c,rfl,hn.trans (rb h),hc,hm,?_⟩;rcases hr with rfl|⟨b,o,h1,h2,h3,h4⟩;{exact .inl (by simpa [dr] using h)};{exact .inr ⟨b,o,h1,h2,h3,repRows_wk h h4⟩}
  |_=>simp[L.wk] at h
 |.nil,y,u,h,hx=>by
  cases y with
  |sl sz' rows'=>simp only[L.wk] at h;subst h;simp only[rep] at hx⊢;exact⟨none,0,0,hx,rfl,Nat.le_refl _,Nat.zero_le _,.inl (by simp)⟩|nil=>exact hx|_=>simp[L.wk] at h
 |.emp,y,u,h,hx=>by
  cases y with
  |sl sz' rows'=>
   simp only[L.wk] at h;subst h;simp only[rep] at hx⊢;obtain⟨a,hx⟩:=hx;exact⟨a,0,0,hx,rfl,Nat.le_refl _,Nat.zero_le _,.inl (by simp)⟩
  |emp=>exact hx|_=>simp[L.wk] at h
 |.int k n,y,u,h,hx=>by simp only[L.wk] at h;exact h ▸ hx|.bool b,y,u,h,hx=>by simp only[L.wk] at h;exact h ▸ hx|.str s,y,u,h,hx=>by simp only[L.wk] at h;exact h ▸ hx|.er b,y,u,h,hx=>by simp only[L.wk] at h;exact h ▸ hx|.slx sz rows,y,u,h,hx=>by simp only[L.wk] at h;exact h ▸ hx|.any,y,u,h,hx=>by simp only[L.wk] at h;exact h ▸ hx|.ref xs off,y,u,h,hx=>by simp only[L.wk] at h;exact h ▸ hx
theorem repRow_wk:∀{xs ys:Ai} {b o:Nat},iH xs ys->dt w F xs b o->dt w F ys b o|[],ys,b,o,h,hx=>by simp only[iH] at h;subst h;exact hx|x::xs,[],b,o,h,hx=>by simp[iH] at h|x::xs,y::ys,b,o,h,hx=>by simp only[iH] at h;simp only[dt] at hx⊢;obtain⟨⟨u,h1,h2⟩,h3⟩:=hx;exact⟨⟨u,h1,rep_wk h.1 h2⟩,repRow_wk h.2 h3⟩
theorem repRows_wk:∀{xs ys:A7} {sz b o:Nat},dr xs ys->cC w F sz xs b o->cC w F sz ys b o|[],ys,sz,b,o,h,hx=>by simp only[dr] at h;subst h;exact hx|x::xs,[],sz,b,o,h,hx=>by simp[dr] at h|x::xs,y::ys,sz,b,o,h,hx=>by simp only[dr] at h;simp only[cC] at hx⊢;obtain⟨⟨h1,h2⟩,h3⟩:=hx;exact⟨⟨by rw[<- sw h.1];exact h1,repRow_wk h.1 h2⟩,repRows_wk h.2 h3⟩
end
theorem csim_wk {c d:C} {u:Value} (h:c.wk d) (hc:bu φ w F c u):bu φ w F d u:=by unfold C.wk at h;grind[bu,rep_wk]
theorem csims_wk:∀{cs ds:As} {us:Aa},C.wks cs ds->bp φ w F cs us->bp φ w F ds us|[],[],_,_,h=>h|c::cs,d::ds,us,hw,h=>by simp only[bp] at h⊢;obtain⟨v,r,rfl,hc,h⟩:=h;exact⟨v,r,rfl,csim_wk hw.1 hc,csims_wk hw.2 h⟩
theorem usim_wk {x y:U} {u:Value} (h:x.wk y) (hx:bV φ w F x u):bV φ w F y u:=by unfold U.wk at h;split at h;{exact csim_wk h hx};{obtain⟨arr,rfl,hc⟩:=hx;exact⟨arr,rfl,csims_wk h hc⟩};{exact h.elim}
theorem usims_wk:∀{cs ds:List U} {us:Aa},U.wks cs ds->iG φ w F cs us->iG φ w F ds us|[],[],_,_,h=>h|c::cs,d::ds,us,hw,h=>by obtain⟨v,r,rfl,hc,h⟩:=h;exact⟨v,r,rfl,usim_wk hw.1 hc,usims_wk hw.2 h⟩
theorem vsim_wk {x y:V} {u:Value} (h:x.wk y) (hx:bv φ w F x u):bv φ w F y u:=by unfold V.wk at h;split at h;{exact usim_wk h hx};{obtain⟨arr,rfl,hc⟩:=hx;exact⟨arr,rfl,usims_wk h hc⟩};{exact h.elim}
end
theorem PFn.pureW {P:Program} {f:FuncId} {us:An} {v0:V} (h:PFn P f us (λv=>v.wk v0)):br P f us v0 :=⟨h.1,λφ w F hF vals hl hv=>(h.2 φ w F hF vals hl hv).mono λ_ _ ⟨u,_,he,hb,hv,hs⟩=>⟨u,he,hb,vsim_wk hv hs⟩⟩
theorem br.args {P:Program} {f:FuncId} {us us':An} {v:V} (h:br P f us' v) (hl:us.length=us'.length) (hw:∀(i:Nat) (x y:V),us[i]?=some x->us'[i]?=some y->x.wk y):br P f us v:=by refine⟨h.1,λφ w F hF vals hvl hv=>h.2 φ w F hF vals (hvl.trans hl) λi y u hy hu=>?_⟩;grind[vsim_wk]
def V.wkl:An->An->Prop|[],[]=>True|x::xs,y::ys=>x.wk y/\V.wkl xs ys|_,_=>False
theorem wkl_get:∀{us us':An},V.wkl us us'->us.length=us'.length/\∀(i:Nat) (x y:V),us[i]?=some x->us'[i]?=some y->x.wk y
 |[],[],_=>by simp|x::xs,y::ys,h=>by
  obtain⟨h1,h2⟩:=wkl_get h.2;refine⟨by simp[h1],λi a b ha hb=>?_⟩;cases i with
  |zero=>simp at ha hb;subst ha hb;exact h.1|succ i=>grind
theorem br.wk {P:Program} {f:FuncId} {us us':An} {v:V} (h:br P f us' v) (hw:V.wkl us us'):br P f us v :=
 h.args (wkl_get hw).1 (wkl_get hw).2
mutual
theorem C.wk_refl:∀c:C,c.wk c|.d x=>by simp[C.wk]|.top|.ref _ _|.box _ _|.own _|.elt _ _ _ _|.map _|.nilmap|.iter _|.fn _ _|.sub _ _ _ _|.opq _=>rfl
theorem C.wks_refl:∀cs:As,C.wks cs cs|[]=>trivial|c::cs=>⟨C.wk_refl c,C.wks_refl cs⟩
end
theorem U.wk_refl:∀x:U,x.wk x|.one c=>C.wk_refl c|.agg cs=>C.wks_refl cs
theorem U.wks_refl:∀us:List U,U.wks us us|[]=>trivial|x::us=>⟨U.wk_refl x,U.wks_refl us⟩
theorem V.wk_refl:∀v:V,v.wk v|.u x=>U.wk_refl x|.tup us=>U.wks_refl us
def decs {α:Type} (dec:Ai->Option α):A7->Option (List α)
 |[]=>some []|r::rs=>match dec r,decs dec rs with
  |some x,some xs=>some (x::xs)|_,_=>none
def decSl {α:Type} (sz:Nat) (dec:Ai->Option α):V->Option (List α)|.u (.one (.d .nil))=>some []|.u (.one (.d .emp))=>some []|.u (.one (.d (.sl sz' rows)))=>if sz'=sz then decs dec rows else none|_=>none
@[simp] theorem decSl_nil {α:Type} (sz:Nat) (dec:Ai->Option α):decSl sz dec (.u (.one (.d .nil)))=some []:=rfl
@[simp] theorem decSl_emp {α:Type} (sz:Nat) (dec:Ai->Option α):decSl sz dec (.u (.one (.d .emp)))=some []:=rfl
@[simp] theorem decSl_sl {α:Type} (sz:Nat) (dec:Ai->Option α) (rows:A7):decSl sz dec (.u (.one (.d (.sl sz rows))))=decs dec rows:=by simp[decSl]
