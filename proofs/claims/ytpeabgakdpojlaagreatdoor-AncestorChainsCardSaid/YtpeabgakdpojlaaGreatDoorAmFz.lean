/- Lemmas for the law. -/
import Derived.Test.YtpeabgakdpojlaaGreatDoorAmMp
namespace Go.AM
open Go.RowKit
def C.frzB (s:Nat) (xs:Ak) (c:C):C:=match c with|.box t o=>if t=s then .ref xs o else .box t o|c=>c
def U.frzB (s:Nat) (xs:Ak):U->U|.one c=>.one (c.frzB s xs)|.agg cs=>.agg (cs.map (C.frzB s xs))
def V.frzB (s:Nat) (xs:Ak):V->V|.u y=>.u (y.frzB s xs)|.tup us=>.tup (us.map (U.frzB s xs))
def Ob.frzB (s:Nat) (xs:Ak):Ob->Ob|.box cs=>.box (cs.map (C.frzB s xs))|o=>o
def frzEB (s:Nat) (xs:Ak) (Z:Env):Env:=λt=>(Z t).frzB s xs
def frzSB (s:Nat) (xs:Ak) (O:Sto):Sto:=λt=>(iK s O t).map (Ob.frzB s xs)
section
variable {cx:Cx} {Z:Env} {O:Sto} {E:A7} {w:World} {s:Nat} {xs:Ak}
theorem csim_frzB (hco:Core cx E O w) (hs:O s=some (.box (xs.map C.d))) (c:C) (v:Value) (h:bG E w (cx.fr E O) c v):bG E w (cx.fr E (iK s O)) (c.frzB s xs) v:=by
 cases c with
 |box t o=>simp only[C.frzB];split;{rename_i hts;subst hts;obtain⟨b,arr,ty,hp,hh,hc,h1⟩:=hco.objs t _ hs;simp only[bG] at h⊢;obtain⟨b',hb',rfl⟩:=h;rw[hp] at hb';simp only[Value.pointer.injEq,Option.some.injEq,Addr.mk.injEq,and_true] at hb';subst hb';refine⟨b,0,by simp,fr_block hco hs (by rw[hp];simp),(Array.getElem?_eq_some_iff.1 hh).1,?_⟩;have hc':=cF (m7 (s:=t)) _ _ hc;exact sn (ib (n:=arr.toList.length) hh (by rw[List.take_length];exact hc') (by grind))};{exact eB m7 _ _ h}|_=>exact eB m7 _ _ h
theorem csims_frzB (hco:Core cx E O w) (hs:O s=some (.box (xs.map C.d))):∀(cs:As) (vs:A9),bB E w (cx.fr E O) cs vs->bB E w (cx.fr E (iK s O)) (cs.map (C.frzB s xs)) vs|[],_,h=>h|c::cs,vs,h=>by simp only[bB] at h;obtain⟨v,r,rfl,hc,h⟩:=h;simp only[List.map_cons,bB];exact⟨v,r,rfl,csim_frzB hco hs c v hc,csims_frzB hco hs cs r h⟩
theorem usim_frzB (hco:Core cx E O w) (hs:O s=some (.box (xs.map C.d))) (x:U) (v:Value) (h:ct E w (cx.fr E O) x v):ct E w (cx.fr E (iK s O)) (x.frzB s xs) v:=by
 cases x with
 |one c=>exact csim_frzB hco hs c v h|agg cs=>obtain⟨arr,rfl,hc⟩:=h;exact⟨arr,rfl,csims_frzB hco hs cs _ hc⟩
theorem usims_frzB (hco:Core cx E O w) (hs:O s=some (.box (xs.map C.d))):∀(us:List U) (vs:A9),iN E w (cx.fr E O) us vs->iN E w (cx.fr E (iK s O)) (us.map (U.frzB s xs)) vs|[],_,h=>h|x::us,vs,h=>by obtain⟨v,r,rfl,hx,h⟩:=h;exact⟨v,r,rfl,usim_frzB hco hs x v hx,usims_frzB hco hs us r h⟩
theorem vsim_frzB (hco:Core cx E O w) (hs:O s=some (.box (xs.map C.d))) (x:V) (v:Value) (h:bI E w (cx.fr E O) x v):bI E w (cx.fr E (iK s O)) (x.frzB s xs) v:=by
 cases x with
 |u x=>exact usim_frzB hco hs x v h|tup us=>obtain⟨arr,rfl,hc⟩:=h;exact⟨arr,rfl,usims_frzB hco hs us _ hc⟩
theorem Wk.frzB (s:Nat) (xs:Ak) (hs:O s=some (.box (xs.map C.d))):Wk cx Z O (frzEB s xs Z) (frzSB s xs O):=by
 intro E a w hsim;have hc:=hsim.core;have back:∀t o',frzSB s xs O t=some o'->∃o,iK s O t=some o/\o'=o.frzB s xs:=λt o' h=>by
  unfold frzSB at h;cases hh:iK s O t with
  |none=>grind|some o=>simp_all
 have hown:∀b,owned E (frzSB s xs O) b↔owned E (iK s O) b:=λb=>⟨λ⟨t,o',h,hb⟩=>let ⟨o,ho,_⟩:=back t o' h;⟨t,o,ho,hb⟩,λ⟨t,o,h,hb⟩=>⟨t,o.frzB s xs,by unfold frzSB;rw[h];rfl,hb⟩⟩
 have hfr:cx.fr E (frzSB s xs O)=cx.fr E (iK s O):=by grind[Cx.fr]
 refine⟨E,⟨⟨hc.os,hc.tape,hc.output,hc.drawn,hc.size,hc.block,λt o' ho'=>?_,λt o' b ho' hb=>?_,λt t' o o' b ho ho' hb hb'=>?_,hc.inp,λt m l la ho'=>?_⟩,λt=>?_,hsim.defers,hsim.room⟩⟩
 ·obtain⟨o,ho,rfl⟩:=back t o' ho';obtain⟨hne,hst⟩:=iG ho;rw[hfr];cases o with
  |box cs=>
   obtain⟨b,arr,ty,hp,hh,hcs,h3⟩:=hc.objs t _ hst;exact⟨b,arr,ty,hp,hh,csims_frzB hc hs cs _ hcs,h3⟩
  |_=>exact fy m7 (hc.objs t _ hst) (λ_ _=>rfl) (λ_ _ _ _ _ _=>rfl)
 ·obtain⟨o,ho,_⟩:=back t o' ho';exact hc.own t o b (iG ho).2 hb
 ·obtain⟨o1,ho1,_⟩:=back t o ho;obtain⟨o2,ho2,_⟩:=back t' o' ho';exact hc.disj t t' o1 o2 b (iG ho1).2 (iG ho2).2 hb hb'
 ·obtain⟨o,ho,he⟩:=back t _ ho';cases o with
  |iter m' l' la'=>
   cases he;obtain⟨kk,es,hm⟩:=hc.itm t m l la (iG ho).2;have hms:m≠s:=λhe=>by simp_all
   exact⟨kk,es,by unfold frzSB iK;rw[if_neg hms,hm];rfl⟩
  |_=>cases he
 ·rw[hfr];exact vsim_frzB hc hs _ _ (hsim.slots t)
end
attribute [simp] V.frzB U.frzB C.frzB
theorem EE.mono {cx:Cx} {X Y:A3} {Z:Env} {O:Sto} (h:EE cx X Z O) (hi:∀Z O,X Z O->Y Z O):EE cx Y Z O:=let ⟨a,b,h1,h2⟩:=h;⟨a,b,h1,hi a b h2⟩
def sliC (te:Option TI) (m:Nat) (xs:Ak):At:=match te with|some te=>sliceR te.size m xs|none=>none
def pnil (sz:Nat) (rows:A8):L:=match rows with|[]=>.nil|r::rs=>.sl sz (r::rs)
def neE {I:Type} (l:List I):Option Unit:=match l with|[]=>none|_::_=>some ()
def isE {I:Type} (l:List I):Bool:=match l with|[]=>true|_::_=>false
theorem pnil_nil (sz:Nat):pnil sz []=.nil:=rfl
theorem nL {I:Type} {l:List I} {u:Unit} (h:neE l=some u) (sz:Nat) (f:I->Ak):pnil sz (l.map f)=.sl sz (l.map f):=by
 cases l with
 |nil=>(cases h)|cons x l=>rfl
def nlB:L->Option Bool|.nil=>some true|.sl _ (_::_)=>some false|_=>none
def qbnD (d:TypeDesc) (op:BinOp) (x:L):At:=match d with|.slice _=>(nlB x).bind λb=>(negB op b).map λz=>.u (.one (.d z))|_=>none
def qbnT (ti:Option TI) (op:BinOp) (x:L):At:=match ti with|some ti=>qbnD ti.desc op x|none=>none
def isNl:V->Bool|.u (.one (.d .nil))=>true|_=>false
def qbnV (tb:Tb) (op:BinOp) (t:TypeId):V->At|.u (.one (.d x))=>qbnT (tb.ty t) op x|_=>none
def qbinW (b:Bool) (tb:Tb) (op:BinOp) (t:TypeId) (x y:V):At:=bif b then qbnV tb op t x else qbin tb op t x y
theorem isNl_some {y:V} (h:isNl y=true):y=.u (.one (.d .nil)):=by grind[isNl]
theorem qbinO_w (tb:Tb) (op:BinOp) (t:TypeId) (x y:V):qbinO tb op t false x y=qbinW (isNl y) tb op t x y:=by
 unfold qbinO qbinW;cases hb:isNl y with
 |false=>rfl|true=>
  rw[isNl_some hb];show qbin tb op t x _=qbnV tb op t x;rcases x with (c|cs)|us
  ·cases c with
   |d l=>
    unfold qbin qbnV qbnT qbnD;cases l with
    |sl sz rows=>
     rcases tb.ty t with _|ti;{rfl};{dsimp only;cases ti.desc<;>first|rfl|(cases rows<;>rfl)}
    |_=>
     rcases tb.ty t with _|ti;{rfl};{dsimp only;cases ti.desc<;>rfl}
   |_=>rfl
  ·rfl
  ·rfl
theorem qbinW_f (tb:Tb) (op:BinOp) (t:TypeId) (x y:V):qbinW false tb op t x y=qbin tb op t x y:=rfl
theorem qbinW_t (tb:Tb) (op:BinOp) (t:TypeId) (x:L) (y:V):qbinW true tb op t (.u (.one (.d x))) y=qbnT (tb.ty t) op x:=rfl
theorem qbnT_some (ti:TI) (op:BinOp) (x:L):qbnT (some ti) op x=qbnD ti.desc op x:=rfl
theorem qbnD_slice (e:Nat) (op:BinOp) (x:L):qbnD (.slice e) op x=(nlB x).bind λb=>(negB op b).map λz=>.u (.one (.d z)):=rfl
theorem nlB_cons (sz:Nat) (r:Ak) (rs:A8):nlB (.sl sz (r::rs))=some false:=rfl
theorem nlB_pnil {I:Type} {l:List I} {f:I->Ak} {sz:Nat}:nlB (pnil sz (l.map f))=some (isE l):=by cases l<;>rfl
theorem isNl_nil:isNl (.u (.one (.d .nil)))=true:=rfl
theorem isNl_int (k:IntKind) (n:Int):isNl (.u (.one (.d (.int k n))))=false:=rfl
theorem isNl_bool (b:Bool):isNl (.u (.one (.d (.bool b))))=false:=rfl
theorem wk_pnil_sl (sz:Nat) (rows:A8):L.wk (pnil sz rows) (.sl sz rows)↔True:=by
 refine iff_of_true ?_ trivial;cases rows with
 |nil=>rfl|cons r rs=>exact L.wk_refl _
theorem notB_true:e9 true=false:=by unfold e9;rfl
theorem notB_false:e9 false=true:=by unfold e9;rfl
attribute [simp] notB_true notB_false qfieldV qpart pnil_nil wk_pnil_sl qbinO_w qbinW_f qbinW_t qbnT_some qbnD_slice nlB_cons nlB_pnil isNl_nil isNl_int isNl_bool
section
variable {κ ν:Type} [DecidableEq κ] {kk:KK} {kf:κ->Key} {vf:ν->U} {m:List (κ×ν)}
theorem lk_some [KeyF kf] {k:κ} {v:ν} (zu:U) (h:gx m k=some v):lkM (sA (mOb kk kf vf m) (kf k)) true zu=some (.tup [vf v,.one (.d (.bool true))]):=by rw[mget_ob,h];rfl
theorem lk_none [KeyF kf] {k:κ} (zu:U) (h:dh m k=false):lkM (sA (mOb kk kf vf m) (kf k)) true zu=some (.tup [zu,.one (.d (.bool false))]):=by
 rw[mget_ob];unfold dh at h;cases hg:gx m k with
 |none=>rfl|some v=>grind
end
