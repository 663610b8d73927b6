/- A variable of one's own that from now on is data; nil slices told exactly; maps to structs that hold slices. -/
import Derived.Test.YtbgliammfkgfoaaGreatDoorAmMp
namespace Go.AM
open Go.RowKit
def C.frzB (s:Nat) (xs:List L) (c:C):C:=match c with
 | .box t o=>if t=s then .ref xs o else .box t o
 | c=>c
def U.frzB (s:Nat) (xs:List L):U->U
 | .one c=>.one (c.frzB s xs)
 | .agg cs=>.agg (cs.map (C.frzB s xs))
def V.frzB (s:Nat) (xs:List L):V->V
 | .u y=>.u (y.frzB s xs)
 | .tup us=>.tup (us.map (U.frzB s xs))
def Ob.frzB (s:Nat) (xs:List L):Ob->Ob
 | .box cs=>.box (cs.map (C.frzB s xs))
 | o=>o
def frzEB (s:Nat) (xs:List L) (Z:Env):Env:=fun t=>(Z t).frzB s xs
def frzSB (s:Nat) (xs:List L) (O:Sto):Sto:=fun t=>(f6 s O t).map (Ob.frzB s xs)
section
variable {cx:Cx} {Z:Env} {O:Sto} {φ:Nat->Value} {w:World} {s:Nat} {xs:List L}
theorem csim_frzB (hco:Core cx φ O w) (hs:O s=some (.box (xs.map C.d))) (c:C) (v:Value) (h:bl φ w (cx.fr φ O) c v):bl φ w (cx.fr φ (f6 s O)) (c.frzB s xs) v:=by
 cases c with
 | box t o =>
  simp only[C.frzB]
  split
  ·rename_i hts
   subst hts
   obtain⟨b,arr,ty,hp,hh,hc,h1⟩:=hco.objs t _ hs
   simp only[bl] at h ⊢
   obtain⟨b',hb',rfl⟩:=h
   rw[hp] at hb'
   simp only[Value.pointer.injEq,Option.some.injEq,Addr.mk.injEq,and_true] at hb'
   subst hb'
   refine⟨b,0,by simp,fr_block hco hs (by rw[hp]; simp),(Array.getElem?_eq_some_iff.1 hh).1,?_⟩
   have hc':=bO (iq (s:=t)) _ _ hc
   exact nJ (eT (n:=arr.toList.length) hh (by rw[List.take_length]; exact hc') (by grind))
  ·exact cT iq _ _ h
 | _=>exact cT iq _ _ h
theorem csims_frzB (hco:Core cx φ O w) (hs:O s=some (.box (xs.map C.d))):∀ (cs:List C) (vs:List Value),bh φ w (cx.fr φ O) cs vs->bh φ w (cx.fr φ (f6 s O)) (cs.map (C.frzB s xs)) vs
 | [],_,h=>h
 | c::cs,vs,h=>by
  simp only[bh] at h
  obtain⟨v,r,rfl,hc,h⟩:=h
  simp only[List.map_cons,bh]
  exact⟨v,r,rfl,csim_frzB hco hs c v hc,csims_frzB hco hs cs r h⟩
theorem usim_frzB (hco:Core cx φ O w) (hs:O s=some (.box (xs.map C.d))) (x:U) (v:Value) (h:bD φ w (cx.fr φ O) x v):bD φ w (cx.fr φ (f6 s O)) (x.frzB s xs) v:=by
 cases x with
 | one c=>exact csim_frzB hco hs c v h
 | agg cs=>obtain⟨arr,rfl,hc⟩:=h; exact⟨arr,rfl,csims_frzB hco hs cs _ hc⟩
theorem usims_frzB (hco:Core cx φ O w) (hs:O s=some (.box (xs.map C.d))):∀ (us:List U) (vs:List Value),fo φ w (cx.fr φ O) us vs->fo φ w (cx.fr φ (f6 s O)) (us.map (U.frzB s xs)) vs
 | [],_,h=>h
 | x::us,vs,h=>by
  obtain⟨v,r,rfl,hx,h⟩:=h
  exact⟨v,r,rfl,usim_frzB hco hs x v hx,usims_frzB hco hs us r h⟩
theorem vsim_frzB (hco:Core cx φ O w) (hs:O s=some (.box (xs.map C.d))) (x:V) (v:Value) (h:bn φ w (cx.fr φ O) x v):bn φ w (cx.fr φ (f6 s O)) (x.frzB s xs) v:=by
 cases x with
 | u x=>exact usim_frzB hco hs x v h
 | tup us=>obtain⟨arr,rfl,hc⟩:=h; exact⟨arr,rfl,usims_frzB hco hs us _ hc⟩
theorem Wk.frzB (s:Nat) (xs:List L) (hs:O s=some (.box (xs.map C.d))):Wk cx Z O (frzEB s xs Z) (frzSB s xs O):=by
 intro φ a w hsim
 have hc:=hsim.core
 have back:∀ t o',frzSB s xs O t=some o'->∃ o,f6 s O t=some o/\o'=o.frzB s xs:=fun t o' h=>by
  unfold frzSB at h
  cases hh:f6 s O t with
  | none=>grind
  | some o=>simp_all
 have hown:∀ b,owned φ (frzSB s xs O) b↔owned φ (f6 s O) b:=fun b =>
  ⟨fun⟨t,o',h,hb⟩=>let ⟨o,ho,_⟩:=back t o' h; ⟨t,o,ho,hb⟩,fun⟨t,o,h,hb⟩=>⟨t,o.frzB s xs,by unfold frzSB; rw[h]; rfl,hb⟩⟩
 have hfr:cx.fr φ (frzSB s xs O)=cx.fr φ (f6 s O):=by
  grind [Cx.fr]
 refine⟨φ,⟨⟨hc.os,hc.tape,hc.output,hc.drawn,hc.size,hc.block,fun t o' ho'=>?_,fun t o' b ho' hb=>?_,fun t t' o o' b ho ho' hb hb'=>?_,hc.inp,fun t m l la ho'=>?_⟩,fun t=>?_,hsim.defers,hsim.room⟩⟩
 ·obtain⟨o,ho,rfl⟩:=back t o' ho'
  obtain⟨hne,hst⟩:=eZ ho
  rw[hfr]
  cases o with
  | box cs =>
   obtain⟨b,arr,ty,hp,hh,hcs,h3⟩:=hc.objs t _ hst
   exact⟨b,arr,ty,hp,hh,csims_frzB hc hs cs _ hcs,h3⟩
  | _=>exact dx iq (hc.objs t _ hst) (fun _ _=>rfl) (fun _ _ _ _ _ _=>rfl)
 ·obtain⟨o,ho,_⟩:=back t o' ho'
  exact hc.own t o b (eZ ho).2 hb
 ·obtain⟨o1,ho1,_⟩:=back t o ho
  obtain⟨o2,ho2,_⟩:=back t' o' ho'
  exact hc.disj t t' o1 o2 b (eZ ho1).2 (eZ ho2).2 hb hb'
 ·obtain⟨o,ho,he⟩:=back t _ ho'
  cases o with
  | iter m' l' la' =>
   cases he
   obtain⟨kk,es,hm⟩:=hc.itm t m l la (eZ ho).2
   have hms:m≠s:=fun he=>by simp_all
   exact⟨kk,es,by unfold frzSB f6; rw[if_neg hms,hm]; rfl⟩
  | _=>cases he
 ·rw[hfr]
  exact vsim_frzB hc hs _ _ (hsim.slots t)
end
attribute [simp] V.frzB U.frzB C.frzB
theorem EE.mono {cx:Cx} {X Y:Env->Sto->Prop} {Z:Env} {O:Sto} (h:EE cx X Z O) (hi:∀ Z O,X Z O->Y Z O):EE cx Y Z O:=let ⟨a,b,h1,h2⟩:=h; ⟨a,b,h1,hi a b h2⟩
def sliC (te:Option TI) (m:Nat) (xs:List L):Option V:=match te with
 | some te=>sliceR te.size m xs
 | none=>none
def pnil (sz:Nat) (rows:List (List L)):L:=match rows with
 | []=>.nil
 | r::rs=>.sl sz (r::rs)
def neE {α:Type} (l:List α):Option Unit:=match l with
 | []=>none
 | _::_=>some ()
def isE {α:Type} (l:List α):Bool:=match l with
 | []=>true
 | _::_=>false
theorem pnil_nil (sz:Nat):pnil sz []=.nil:=rfl
theorem k8 {α:Type} {l:List α} {u:Unit} (h:neE l=some u) (sz:Nat) (f:α->List L):pnil sz (l.map f)=.sl sz (l.map f):=by
 cases l with
 | nil=>cases h
 | cons x l=>rfl
def nlB:L->Option Bool
 | .nil=>some true
 | .sl _ (_::_)=>some false
 | _=>none
def qbnD (d:TypeDesc) (op:BinOp) (x:L):Option V:=match d with
 | .slice _=>(nlB x).bind fun b=>(negB op b).map fun z=>.u (.one (.d z))
 | _=>none
def qbnT (ti:Option TI) (op:BinOp) (x:L):Option V:=match ti with
 | some ti=>qbnD ti.desc op x
 | none=>none
def isNl:V->Bool
 | .u (.one (.d .nil))=>true
 | _=>false
def qbnV (tb:Tb) (op:BinOp) (t:TypeId):V->Option V
 | .u (.one (.d x))=>qbnT (tb.ty t) op x
 | _=>none
def qbinW (b:Bool) (tb:Tb) (op:BinOp) (t:TypeId) (x y:V):Option V:=bif b then qbnV tb op t x else qbin tb op t x y
theorem isNl_some {y:V} (h:isNl y=true):y=.u (.one (.d .nil)):=by
 grind [isNl]
theorem qbinO_w (tb:Tb) (op:BinOp) (t:TypeId) (x y:V):qbinO tb op t false x y=qbinW (isNl y) tb op t x y:=by
 unfold qbinO qbinW
 cases hb:isNl y with
 | false=>rfl
 | true =>
  rw[isNl_some hb]
  show qbin tb op t x _=qbnV tb op t x
  rcases x with (c | cs) | us
  ·cases c with
   | d l =>
    unfold qbin qbnV qbnT qbnD
    cases l with
    | sl sz rows =>
     rcases tb.ty t with _ | ti
     ·rfl
     ·dsimp only
      cases ti.desc<;>first | rfl | (cases rows<;>rfl)
    | _ =>
     rcases tb.ty t with _ | ti
     ·rfl
     ·dsimp only
      cases ti.desc<;>rfl
   | _=>rfl
  ·rfl
  ·rfl
theorem qbinW_f (tb:Tb) (op:BinOp) (t:TypeId) (x y:V):qbinW false tb op t x y=qbin tb op t x y:=rfl
theorem qbinW_t (tb:Tb) (op:BinOp) (t:TypeId) (x:L) (y:V):qbinW true tb op t (.u (.one (.d x))) y=qbnT (tb.ty t) op x:=rfl
theorem qbnT_some (ti:TI) (op:BinOp) (x:L):qbnT (some ti) op x=qbnD ti.desc op x:=rfl
theorem qbnD_slice (e:Nat) (op:BinOp) (x:L):qbnD (.slice e) op x=(nlB x).bind fun b=>(negB op b).map fun z=>.u (.one (.d z)):=rfl
theorem nlB_cons (sz:Nat) (r:List L) (rs:List (List L)):nlB (.sl sz (r::rs))=some false:=rfl
theorem nlB_pnil {α:Type} {l:List α} {f:α->List L} {sz:Nat}:nlB (pnil sz (l.map f))=some (isE l):=by cases l<;>rfl
theorem isNl_nil:isNl (.u (.one (.d .nil)))=true:=rfl
theorem isNl_int (k:IntKind) (n:Int):isNl (.u (.one (.d (.int k n))))=false:=rfl
theorem wk_pnil_sl (sz:Nat) (rows:List (List L)):L.wk (pnil sz rows) (.sl sz rows)↔True:=by
 refine iff_of_true ?_ trivial
 cases rows with
 | nil=>rfl
 | cons r rs=>exact L.wk_refl _
theorem notB_true:fO true=false:=by unfold fO; rfl
theorem notB_false:fO false=true:=by unfold fO; rfl
attribute [simp] notB_true notB_false qfieldV qpart pnil_nil wk_pnil_sl qbinO_w qbinW_f qbinW_t qbnT_some qbnD_slice nlB_cons nlB_pnil isNl_nil isNl_int
section
variable {κ ν:Type} [DecidableEq κ] {kk:KK} {kf:κ->Key} {vf:ν->U} {m:List (κ×ν)}
theorem lk_some [KeyF kf] {k:κ} {v:ν} (zu:U) (h:gx m k=some v):lkM (nD (mOb kk kf vf m) (kf k)) true zu=some (.tup [vf v,.one (.d (.bool true))]):=by
 rw[mget_ob,h]; rfl
theorem lk_none [KeyF kf] {k:κ} (zu:U) (h:cH m k=false):lkM (nD (mOb kk kf vf m) (kf k)) true zu=some (.tup [zu,.one (.d (.bool false))]):=by
 rw[mget_ob]
 unfold cH at h
 cases hg:gx m k with
 | none=>rfl
 | some v=>grind
end
end Go.AM
