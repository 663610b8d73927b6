/- A variable of one's own that from now on is data; nil slices told exactly; maps to structs that hold slices. -/
import Derived.Test.YtopmhknobhmbgaaGreatDoorAmMp
namespace Go.AM
open Go.RowKit
def C.frzB (s:Nat) (xs:Ai) (c:C):C:=match c with|.box t o=>if t=s then .ref xs o else .box t o|c=>c
def U.frzB (s:Nat) (xs:Ai):U->U|.one c=>.one (c.frzB s xs)|.agg cs=>.agg (cs.map (C.frzB s xs))
def V.frzB (s:Nat) (xs:Ai):V->V|.u y=>.u (y.frzB s xs)|.tup us=>.tup (us.map (U.frzB s xs))
def Ob.frzB (s:Nat) (xs:Ai):Ob->Ob|.box cs=>.box (cs.map (C.frzB s xs))|o=>o
def frzEB (s:Nat) (xs:Ai) (Z:Env):Env:=λt=>(Z t).frzB s xs
def frzSB (s:Nat) (xs:Ai) (O:Sto):Sto:=λt=>(io s O t).map (Ob.frzB s xs)
section
variable {cx:Cx} {Z:Env} {O:Sto} {φ:A8} {w:World} {s:Nat} {xs:Ai}
theorem csim_frzB (hco:Core cx φ O w) (hs:O s=some (.box (xs.map C.d))) (c:C) (v:Value) (h:bu φ w (cx.fr φ O) c v):bu φ w (cx.fr φ (io s O)) (c.frzB s xs) v:=by
 cases c with
 |box t o=>simp only[C.frzB];split;{rename_i hts;subst hts;obtain⟨b,arr,ty,hp,hh,hc,h1⟩:=hco.objs t _ hs;simp only[bu] at h⊢;obtain⟨b',hb',rfl⟩:=h;rw[hp] at hb';simp only[Value.pointer.injEq,Option.some.injEq,Addr.mk.injEq,and_true] at hb';subst hb';refine⟨b,0,by simp,fr_block hco hs (by rw[hp];simp),(Array.getElem?_eq_some_iff.1 hh).1,?_⟩;have hc':=cu (lz (s:=t)) _ _ hc;exact qx (hY (n:=arr.toList.length) hh (by rw[List.take_length];exact hc') (by grind))};{exact ec lz _ _ h}|_=>exact ec lz _ _ h
theorem csims_frzB (hco:Core cx φ O w) (hs:O s=some (.box (xs.map C.d))):∀(cs:As) (vs:Aa),bp φ w (cx.fr φ O) cs vs->bp φ w (cx.fr φ (io s O)) (cs.map (C.frzB s xs)) vs|[],_,h=>h|c::cs,vs,h=>by simp only[bp] at h;obtain⟨v,r,rfl,hc,h⟩:=h;simp only[List.map_cons,bp];exact⟨v,r,rfl,csim_frzB hco hs c v hc,csims_frzB hco hs cs r h⟩
theorem usim_frzB (hco:Core cx φ O w) (hs:O s=some (.box (xs.map C.d))) (x:U) (v:Value) (h:bV φ w (cx.fr φ O) x v):bV φ w (cx.fr φ (io s O)) (x.frzB s xs) v:=by
 cases x with
 |one c=>exact csim_frzB hco hs c v h|agg cs=>obtain⟨arr,rfl,hc⟩:=h;exact⟨arr,rfl,csims_frzB hco hs cs _ hc⟩
theorem usims_frzB (hco:Core cx φ O w) (hs:O s=some (.box (xs.map C.d))):∀(us:List U) (vs:Aa),iG φ w (cx.fr φ O) us vs->iG φ w (cx.fr φ (io s O)) (us.map (U.frzB s xs)) vs|[],_,h=>h|x::us,vs,h=>by obtain⟨v,r,rfl,hx,h⟩:=h;exact⟨v,r,rfl,usim_frzB hco hs x v hx,usims_frzB hco hs us r h⟩
theorem vsim_frzB (hco:Core cx φ O w) (hs:O s=some (.box (xs.map C.d))) (x:V) (v:Value) (h:bv φ w (cx.fr φ O) x v):bv φ w (cx.fr φ (io s O)) (x.frzB s xs) v:=by
 cases x with
 |u x=>exact usim_frzB hco hs x v h|tup us=>obtain⟨arr,rfl,hc⟩:=h;exact⟨arr,rfl,usims_frzB hco hs us _ hc⟩
theorem Wk.frzB (s:Nat) (xs:Ai) (hs:O s=some (.box (xs.map C.d))):Wk cx Z O (frzEB s xs Z) (frzSB s xs O):=by
 intro φ a w hsim;have hc:=hsim.core;have back:∀t o',frzSB s xs O t=some o'->∃o,io s O t=some o/\o'=o.frzB s xs:=λt o' h=>by
  unfold frzSB at h;cases hh:io s O t with
  |none=>grind|some o=>simp_all
 have hown:∀b,owned φ (frzSB s xs O) b↔owned φ (io s O) b:=λb=>⟨λ⟨t,o',h,hb⟩=>let ⟨o,ho,_⟩:=back t o' h;⟨t,o,ho,hb⟩,λ⟨t,o,h,hb⟩=>⟨t,o.frzB s xs,by unfold frzSB;rw[h];rfl,hb⟩⟩
 have hfr:cx.fr φ (frzSB s xs O)=cx.fr φ (io s O):=by grind[Cx.fr]
 refine⟨φ,⟨⟨hc.os,hc.tape,hc.output,hc.drawn,hc.size,hc.block,λt o' ho'=>?_,λt o' b ho' hb=>?_,λt t' o o' b ho ho' hb hb'=>?_,hc.inp,λt m l la ho'=>?_⟩,λt=>?_,hsim.defers,hsim.room⟩⟩
 ·obtain⟨o,ho,rfl⟩:=back t o' ho';obtain⟨hne,hst⟩:=iw ho;rw[hfr];cases o with
  |box cs=>
   obtain⟨b,arr,ty,hp,hh,hcs,h3⟩:=hc.objs t _ hst;exact⟨b,arr,ty,hp,hh,csims_frzB hc hs cs _ hcs,h3⟩
  |_=>exact fA lz (hc.objs t _ hst) (λ_ _=>rfl) (λ_ _ _ _ _ _=>rfl)
 ·obtain⟨o,ho,_⟩:=back t o' ho';exact hc.own t o b (iw ho).2 hb
 ·obtain⟨o1,ho1,_⟩:=back t o ho;obtain⟨o2,ho2,_⟩:=back t' o' ho';exact hc.disj t t' o1 o2 b (iw ho1).2 (iw ho2).2 hb hb'
 ·obtain⟨o,ho,he⟩:=back t _ ho';cases o with
  |iter m' l' la'=>
   cases he;obtain⟨kk,es,hm⟩:=hc.itm t m l la (iw ho).2;have hms:m≠s:=λhe=>by simp_all
   exact⟨kk,es,by unfold frzSB io;rw[if_neg hms,hm];rfl⟩
  |_=>cases he
 ·rw[hfr];exact vsim_frzB hc hs _ _ (hsim.slots t)
end
theorem frzEB_apply (s:Nat) (xs:Ai) (Z:Env) (t:Nat):frzEB s xs Z t=(Z t).frzB s xs:=rfl
theorem frzSB_apply (s:Nat) (xs:Ai) (O:Sto) (t:Nat):frzSB s xs O t=(io s O t).map (Ob.frzB s xs):=rfl
theorem mOb_frzB {κ ν:Type} {kk:KK} {kf:κ->Key} {vf:ν->U} {m:List (κ×ν)} (s:Nat) (xs:Ai):Ob.frzB s xs (mOb kk kf vf m)=mOb kk kf vf m:=rfl
theorem ofrzB_box (s:Nat) (xs:Ai) (cs:As):Ob.frzB s xs (.box cs)=.box (cs.map (C.frzB s xs)):=rfl
theorem ofrzB_row (s:Nat) (xs:Ai) (sz e:Nat) (rows:A7):Ob.frzB s xs (.row sz e rows)=.row sz e rows:=rfl
theorem frzB_cI (s:Nat) (xs:Ai) (k:IntKind):C.frzB s xs ∘ cI k=cI k:=rfl
attribute [simp] frzEB_apply frzSB_apply mOb_frzB ofrzB_box ofrzB_row frzB_cI V.frzB U.frzB C.frzB
theorem EE.mono {cx:Cx} {X Y:A2} {Z:Env} {O:Sto} (h:EE cx X Z O) (hi:∀Z O,X Z O->Y Z O):EE cx Y Z O:=let ⟨a,b,h1,h2⟩:=h;⟨a,b,h1,hi a b h2⟩
def sliC (te:Option TI) (m:Nat) (xs:Ai):Ap:=match te with|some te=>sliceR te.size m xs|none=>none
def sliB (tb:Tb) (d:TypeDesc) (xs:Ai):Ap:=match d with|.array m e=>sliC (tb.ty e) m xs|_=>none
def sliA (tb:Tb) (ti:Option TI) (xs:Ai):Ap:=match ti with|some ti=>sliB tb ti.desc xs|none=>none
theorem sliA_some (tb:Tb) (ti:TI) (xs:Ai):sliA tb (some ti) xs=sliB tb ti.desc xs:=rfl
theorem sliB_array (tb:Tb) (m e:Nat) (xs:Ai):sliB tb (.array m e) xs=sliC (tb.ty e) m xs:=rfl
theorem sliC_some (te:TI) (m:Nat) (xs:Ai):sliC (some te) m xs=sliceR te.size m xs:=rfl
def pnil (sz:Nat) (rows:A7):L:=match rows with|[]=>.nil|r::rs=>.sl sz (r::rs)
def neE {α:Type} (l:List α):Option Unit:=match l with|[]=>none|_::_=>some ()
def isE {α:Type} (l:List α):Bool:=match l with|[]=>true|_::_=>false
theorem pnil_nil (sz:Nat):pnil sz []=.nil:=rfl
theorem mO {α:Type} {l:List α} {u:Unit} (h:neE l=some u) (sz:Nat) (f:α->Ai):pnil sz (l.map f)=.sl sz (l.map f):=by
 cases l with
 |nil=>(cases h)|cons x l=>rfl
def nlB:L->Option Bool|.nil=>some true|.sl _ (_::_)=>some false|_=>none
def qbnD (d:TypeDesc) (op:BinOp) (x:L):Ap:=match d with|.slice _=>(nlB x).bind λb=>(negB op b).map λz=>.u (.one (.d z))|_=>none
def qbnT (ti:Option TI) (op:BinOp) (x:L):Ap:=match ti with|some ti=>qbnD ti.desc op x|none=>none
def isNl:V->Bool|.u (.one (.d .nil))=>true|_=>false
def qbnV (tb:Tb) (op:BinOp) (t:TypeId):V->Ap|.u (.one (.d x))=>qbnT (tb.ty t) op x|_=>none
def qbinW (b:Bool) (tb:Tb) (op:BinOp) (t:TypeId) (x y:V):Ap:=bif b then qbnV tb op t x else qbin tb op t x y
theorem isNl_some {y:V} (h:isNl y=true):y=.u (.one (.d .nil)):=by grind[isNl]
theorem qbinO_w (tb:Tb) (op:BinOp) (t:TypeId) (x y:V):qbinO tb op t false x y=qbinW (isNl y) tb op t x y:=by
 unfold qbinO qbinW;cases hb:isNl y with
 |false=>rfl|true=>
  rw[isNl_some hb];show qbin tb op t x _=qbnV tb op t x;rcases x with (c|cs)|us
  ·cases c with
   |d l=>
    unfold qbin qbnV qbnT qbnD;cases l with
    |sl sz rows=>
     rcases tb.ty t with _|ti;{rfl};{dsimp only;cases ti.desc<;>first|rfl|(cases rows<;>rfl)}
    |_=>
     rcases tb.ty t with _|ti;{rfl};{dsimp only;cases ti.desc<;>rfl}
   |_=>rfl
  ·rfl
  ·rfl
theorem qbinW_f (tb:Tb) (op:BinOp) (t:TypeId) (x y:V):qbinW false tb op t x y=qbin tb op t x y:=rfl
theorem qbinW_t (tb:Tb) (op:BinOp) (t:TypeId) (x:L) (y:V):qbinW true tb op t (.u (.one (.d x))) y=qbnT (tb.ty t) op x:=rfl
theorem qbnT_some (ti:TI) (op:BinOp) (x:L):qbnT (some ti) op x=qbnD ti.desc op x:=rfl
theorem qbnD_slice (e:Nat) (op:BinOp) (x:L):qbnD (.slice e) op x=(nlB x).bind λb=>(negB op b).map λz=>.u (.one (.d z)):=rfl
theorem nlB_nil:nlB .nil=some true:=rfl
theorem nlB_cons (sz:Nat) (r:Ai) (rs:A7):nlB (.sl sz (r::rs))=some false:=rfl
theorem nlB_pnil {α:Type} {l:List α} {f:α->Ai} {sz:Nat}:nlB (pnil sz (l.map f))=some (isE l):=by cases l<;>rfl
theorem isNl_nil:isNl (.u (.one (.d .nil)))=true:=rfl
theorem isNl_int (k:IntKind) (n:Int):isNl (.u (.one (.d (.int k n))))=false:=rfl
theorem isNl_bool (b:Bool):isNl (.u (.one (.d (.bool b))))=false:=rfl
theorem isNl_str (s:ByteArray):isNl (.u (.one (.d (.str s))))=false:=rfl
theorem isNl_sl (sz:Nat) (rows:A7):isNl (.u (.one (.d (.sl sz rows))))=false:=rfl
theorem isNl_agg (cs:As):isNl (.u (.agg cs))=false:=rfl
theorem wk_pnil_sl (sz:Nat) (rows:A7):L.wk (pnil sz rows) (.sl sz rows)↔True:=by
 refine iff_of_true ?_ trivial;cases rows with
 |nil=>rfl|cons r rs=>exact L.wk_refl _
theorem notB_true:eR true=false:=by unfold eR;rfl
theorem notB_false:eR false=true:=by unfold eR;rfl
attribute [simp] notB_true notB_false qfieldV qpart pnil_nil wk_pnil_sl sliA_some sliB_array sliC_some qbinO_w qbinW_f qbinW_t qbnT_some qbnD_slice nlB_nil nlB_cons nlB_pnil isNl_nil isNl_int isNl_bool isNl_str isNl_sl isNl_agg
section
variable {κ ν:Type} [DecidableEq κ] {kk:KK} {kf:κ->Key} {vf:ν->U} {m:List (κ×ν)}
theorem lk_some [KeyF kf] {k:κ} {v:ν} (zu:U) (h:fV m k=some v):lkM (re (mOb kk kf vf m) (kf k)) true zu=some (.tup [vf v,.one (.d (.bool true))]):=by rw[mget_ob,h];rfl
theorem lk_none [KeyF kf] {k:κ} (zu:U) (h:d5 m k=false):lkM (re (mOb kk kf vf m) (kf k)) true zu=some (.tup [zu,.one (.d (.bool false))]):=by
 rw[mget_ob];unfold d5 at h;cases hg:fV m k with
 |none=>rfl|some v=>grind
end
