/- Lemmas for the law. -/
import Derived.Test.YtpeabgakdpojlaaGreatDoorAmV
import Derived.Test.YtpeabgakdpojlaaGreatDoorAmS
namespace Go.AM
open Go.RowKit
def rowsO:Ab->Option A8|some (.row _ _ rows)=>some rows|_=>none
theorem rowsO_row (sz:Nat) (e:TypeId) (rows:A8):rowsO (some (.row sz e rows))=some rows:=rfl
def bC (k:IntKind) (a b:Int):Int:=k.wrap (a+b)
def bZ (k:IntKind) (a b:Int):Int:=k.wrap (a-b)
def bH (k:IntKind) (a b:Int):Int:=k.wrap (a*b)
def iquo (k:IntKind) (a b:Int):AB:=if b=0 then none else some (k.wrap (a.tdiv b))
def irem (a b:Int):AB:=if b=0 then none else some (a.tmod b)
def iand (k:IntKind) (a b:Int):Int:=k.wrap ((BitVec.ofInt k.bits a &&& BitVec.ofInt k.bits b).toNat)
def ior (k:IntKind) (a b:Int):Int:=k.wrap ((BitVec.ofInt k.bits a ||| BitVec.ofInt k.bits b).toNat)
def ishl (k:IntKind) (a b:Int):AB:=if b<0 then none else some (k.wrap (a*2 ^ min b.toNat k.bits))
def ishr (k:IntKind) (a b:Int):AB:=if b<0 then none else some (a.fdiv (2 ^ min b.toNat k.bits))
def cA (k:IntKind) (a:Int):Int:=k.wrap (0-a)
def pK (k:IntKind) (a:Int):Int:=k.wrap a
def ja (a b:Int):Int:=if b>a then b else a
def eqB (a b:Int):Bool:=a==b
def neB (a b:Int):Bool:=a != b
def ltB (a b:Int):Bool:=decide (a<b)
def leB (a b:Int):Bool:=decide (a<=b)
def gtB (a b:Int):Bool:=decide (a>b)
def geB (a b:Int):Bool:=decide (a≥b)
def e9 (a:Bool):Bool:=!a
def eqb (a b:Bool):Bool:=a==b
def br {I:Type} (l:List I):Int:=l.length
def idx {I:Type} (l:List I) (i:Int):Option I:=if 0<=i then l[i.toNat]? else none
def slcL {I:Type} (l:List I) (lo hi:Int):Option (List I):=if 0<=lo/\lo<=hi/\hi<=l.length then some ((l.take hi.toNat).drop lo.toNat)else none
def dp {I:Type} (bytes:Nat) (l m:List I):Option (List I):=if 0<bytes/\(l.length+m.length)*bytes<=140737488355328 then some (l++m)else none
def mkL {I:Type} (bytes:Int) (n m:Int) (x:I):Option (List I):=if 0<=n/\n<=m/\m*bytes<=140737488355328 then some (List.replicate n.toNat x)else none
theorem intOp_add (k:IntKind) (a b:Int):pL .add k a b=some (.int k (bC k a b)):=rfl
theorem intOp_sub (k:IntKind) (a b:Int):pL .sub k a b=some (.int k (bZ k a b)):=rfl
theorem intOp_mul (k:IntKind) (a b:Int):pL .mul k a b=some (.int k (bH k a b)):=rfl
theorem intOp_quo (k:IntKind) (a b:Int):pL .quo k a b=(iquo k a b).map (.int k):=by show (if b=0 then none else some _)=_;grind[iquo]
theorem intOp_rem (k:IntKind) (a b:Int):pL .rem k a b=(irem a b).map (.int k):=by show (if b=0 then none else some _)=_;grind[irem]
theorem intOp_and (k:IntKind) (a b:Int):pL .and k a b=some (.int k (iand k a b)):=rfl
theorem intOp_or (k:IntKind) (a b:Int):pL .or k a b=some (.int k (ior k a b)):=rfl
theorem intOp_eql (k:IntKind) (a b:Int):pL .eql k a b=some (.bool (eqB a b)):=rfl
theorem intOp_neq (k:IntKind) (a b:Int):pL .neq k a b=some (.bool (neB a b)):=rfl
theorem intOp_lss (k:IntKind) (a b:Int):pL .lss k a b=some (.bool (ltB a b)):=rfl
theorem intOp_leq (k:IntKind) (a b:Int):pL .leq k a b=some (.bool (leB a b)):=rfl
theorem intOp_gtr (k:IntKind) (a b:Int):pL .gtr k a b=some (.bool (gtB a b)):=rfl
theorem intOp_geq (k:IntKind) (a b:Int):pL .geq k a b=some (.bool (geB a b)):=rfl
theorem shiftOp_shl (k:IntKind) (a b:Int):shiftOp .shl k a b=(ishl k a b).map (.int k):=by show (if b<0 then none else some _)=_;grind[ishl]
theorem shiftOp_shr (k:IntKind) (a b:Int):shiftOp .shr k a b=(ishr k a b).map (.int k):=by show (if b<0 then none else some _)=_;grind[ishr]
theorem qun_not (b:Bool):qun .not (.u (.one (.d (.bool b))))=some (.u (.one (.d (.bool (e9 b))))):=rfl
theorem qun_neg (k:IntKind) (n:Int):qun .neg (.u (.one (.d (.int k n))))=some (.u (.one (.d (.int k (cA k n))))):=rfl
theorem qconv_int {tb:Tb} {src dst:TypeId} {k k':IntKind} {n:Int} {ts td:TI} (hs:tb.ty src=some ts) (hd:tb.ty dst=some td) (hk:td.desc=.int k'):qconv tb src dst (.u (.one (.d (.int k n))))=some (.u (.one (.d (.int k' (pK k' n))))):=by unfold qconv;simp only[hs,hd,hk];rfl
theorem qcnv_int {tb:Tb} {O:Sto} {src dst:TypeId} {k k':IntKind} {n:Int} {ts td:TI} (hs:tb.ty src=some ts) (hd:tb.ty dst=some td) (hk:td.desc=.int k'):qcnv tb O src dst (.u (.one (.d (.int k n))))=some (.u (.one (.d (.int k' (pK k' n))))):=by unfold qcnv;rw[qconv_int hs hd hk]
def toB (s:A4):A0:=s.map λb=>(b.toNat:Int)
def rI (k:IntKind) (n:Int):Ak:=[.int k n]
theorem mk_bs (l:A4):(ByteArray.mk l.toArray)=bs l:=rfl
theorem bs_data (a:A4):(bs a).data.toList=a:=rfl
theorem byteRows_u8:∀l:A0,hY (l.map (rI .u8))=some l|[]=>rfl|n::l=>by rw[List.map_cons];show (hY (l.map (rI .u8))).map _=_;rw[byteRows_u8 l];rfl
theorem byteL_toB (s:A4):s.map byteL=(toB s).map (rI .u8):=by unfold toB;rw[List.map_map];rfl
theorem rowsV_own (O:Sto) (s:Nat):rowsV O (.u (.one (.own s)))=rowsO (O s):=by rfl
def cnvR (r:Option A8):At:=match r with|some rows=>(hY rows).map λns=>.u (.one (.d (.str (bs (ofBytes ns)))))|none=>none
theorem cnvR_some (l:A0):cnvR (some (l.map (rI .u8)))=some (.u (.one (.d (.str (bs (ofBytes l)))))):=by unfold cnvR;simp only[byteRows_u8,Option.map_some]
theorem qcnv_tostr {tb:Tb} {O:Sto} {src dst e:TypeId} {x:V} {ts td te:TI} (hs:tb.ty src=some ts) (hd:tb.ty dst=some td) (hk:ts.desc=.slice e) (hk':td.desc=.string) (he:tb.ty e=some te) (hu:te.desc=.int .u8) (hx:∀k n,x≠.u (.one (.d (.int k n)))):qcnv tb O src dst x=cnvR (rowsV O x):=by
 unfold qcnv;have:qconv tb src dst x=none:=by unfold qconv;simp_all
 rw[this];unfold qstr cnvR;grind
theorem qmax_int (k k':IntKind) (a b:Int):qmax (.u (.one (.d (.int k a)))) (.u (.one (.d (.int k' b))))=some (.u (.one (.d (.int k (ja a b))))):=rfl
theorem qmaxs_nil (k:IntKind) (a:Int):qmaxs (.u (.one (.d (.int k a)))) []=some (.u (.one (.d (.int k a)))):=by rfl
theorem qmaxs_cons (k:IntKind) (a:Int) (y:V) (r:Ao):qmaxs (.u (.one (.d (.int k a)))) (y::r)=(qmax (.u (.one (.d (.int k a)))) y).bind λz=>qmaxs z r:=by rw[qmaxs]
theorem negB_eql (b:Bool):negB .eql b=some (.bool b):=rfl
theorem negB_neq (b:Bool):negB .neq b=some (.bool (e9 b)):=rfl
theorem beq_eqb (a b:Bool):(a==b)=eqb a b:=rfl
theorem idx_map {I β:Type} (f:I->β) (l:List I) (i:Int):idx (l.map f) i=(idx l i).map f:=by grind[idx]
theorem ci {I:Type} {l:List I} {i:Int} {x:I} (h:idx l i=some x):l[i.toNat]?=some x:=by simp_all[idx]
theorem ot {I:Type} {l:List I} {x:I} (n:Nat) (h:idx l (Int.ofNat n)=some x):l[n]?=some x:=ci h
theorem fO {I:Type} {l:List I} {i:Int} {x:I} (h:idx l i=some x):i.toNat<l.length:=(List.getElem?_eq_some_iff.1 (ci h)).1
theorem slcL_map {I β:Type} (f:I->β) (l:List I) (i j:Int):slcL (l.map f) i j=(slcL l i j).map (List.map f):=by simp[slcL]
section
variable {tb:Tb} {O:Sto}
theorem qindex_sl {t e:TypeId} {ti te:TI} {k:IntKind} {n:Int} {sz:Nat} {rows:A8} (hs:tb.ty t=some ti) (hd:ti.desc=.slice e) (he:tb.ty e=some te) (hz:sz=te.size) :
  pH tb O t (.u (.one (.d (.sl sz rows)))) (.u (.one (.d (.int k n))))=(idx rows n).map λr=>.u (.one (.ref r 0)):=by unfold pH idx;grind
def qixR (te:Option TI) (ob:Ab) (s:Nat) (n:Int):At:=match te,ob with|some te,some (.row sz _ rows)=>if sz=te.size then(idx rows n).map λ_=>.u (.one (.elt s n.toNat sz 0))else none|some te,some (.nest (.row _) _ _ els)=>if 1=te.size then(idx els n).map λ_=>.u (.one (.elt s n.toNat 1 0))else none|_,_=>none
def qixD (tb:Tb) (d:TypeDesc) (ob:Ab) (s:Nat) (n:Int):At:=match d with|.slice e=>qixR (tb.ty e) ob s n|_=>none
def qixO (tb:Tb) (ti:Option TI) (ob:Ab) (s:Nat) (n:Int):At:=match ti with|some ti=>qixD tb ti.desc ob s n|none=>none
theorem qixO_some (ti:TI) (ob:Ab) (s:Nat) (n:Int):qixO tb (some ti) ob s n=qixD tb ti.desc ob s n:=rfl
theorem qixD_slice (e:TypeId) (ob:Ab) (s:Nat) (n:Int):qixD tb (.slice e) ob s n=qixR (tb.ty e) ob s n:=rfl
theorem qixR_row (te:TI) (sz:Nat) (e:TypeId) (rows:A8) (s:Nat) (n:Int):qixR (some te) (some (.row sz e rows)) s n=if sz=te.size then(idx rows n).map λ_=>.u (.one (.elt s n.toNat sz 0))else none:=rfl
theorem qixR_nest (te:TI) (isz:Nat) (e ie:TypeId) (els:List NE) (s:Nat) (n:Int):qixR (some te) (some (.nest (.row e) ie isz els)) s n=if 1=te.size then(idx els n).map λ_=>.u (.one (.elt s n.toNat 1 0))else none:=rfl
theorem qindex_ownE {t:TypeId} {k:IntKind} {n:Int} {s:Nat}:pH tb O t (.u (.one (.own s))) (.u (.one (.d (.int k n))))=qixO tb (tb.ty t) (O s) s n:=by unfold pH qixO qixD qixR;rcases tb.ty t with _|ti;{rfl};grind[idx]
def qlenO:Ab->AB|some (.row _ _ rows)=>some (br rows)|some (.nest (.row _) _ _ els)=>some (br els)|_=>none
theorem qlenO_row (sz:Nat) (e:TypeId) (rows:A8):qlenO (some (.row sz e rows))=some (br rows):=rfl
theorem qlenO_nest (e ie sz:Nat) (els:List NE):qlenO (some (.nest (.row e) ie sz els))=some (br els):=rfl
theorem qlen_ownE {s:Nat}:qlen O (.u (.one (.own s)))=qlenO (O s):=by rfl
theorem qslice_lh {t e:TypeId} {ti te:TI} {sz:Nat} {rows:A8} {k k':IntKind} {lo hi:Int} (hs:tb.ty t=some ti) (hd:ti.desc=.slice e) (he:tb.ty e=some te) (hz:sz=te.size) :
  qslice tb t (.u (.one (.d (.sl sz rows)))) (some (.u (.one (.d (.int k lo))))) (some (.u (.one (.d (.int k' hi))))) none=(slcL rows lo hi).map λr=>.u (.one (.d (.sl sz r))):=by simp_all[qslice,slcL]
theorem lenL_map {I β:Type} (f:I->β) (l:List I):br (l.map f)=br l:=by simp[br]
theorem lenL_rep (n:Nat) (a:Ak):br (List.replicate n a)=br (List.replicate n ()):=by simp[br]
theorem qlen_sl (sz:Nat) (rows:A8):qlen O (.u (.one (.d (.sl sz rows))))=some (br rows):=rfl
end
section
variable {P:Program} {cx:Cx} {tb:Tb} {Z:Env} {O:Sto} {K:A3} {Q:Aa} {run skip:Aq}
theorem agb_true_t {s:Nat} {j}:agb true s true Z run skip j=run (upd Z s (.u (.one (.d (.bool true))))):=by rw[agb_t];simp
theorem agb_false_t {s:Nat} {j}:agb false s true Z run skip j=skip (upd Z s (.u (.one (.d (.bool false))))):=by rw[agb_t];simp
theorem agb_true_f {s:Nat} {j}:agb true s false Z run skip j=skip (upd Z s (.u (.one (.d (.bool true))))):=by rw[agb_f];simp
theorem agb_false_f {s:Nat} {j}:agb false s false Z run skip j=run (upd Z s (.u (.one (.d (.bool false))))):=by rw[agb_f];simp
end
theorem bnd {I β:Type} {o:Option I} {f:I->Option β} {r:β} (h:o.bind f=some r):∃x,o=some x/\f x=some r:=by
 cases o with
 |none=>(cases h)|some x=>grind
theorem bQ {I:Type} {c:Bool} {x y:Option I} {r:I} (h:(bif c then x else y)=some r):(c=true/\x=some r)\/(c=false/\y=some r):=by grind
attribute [simp] V.brw U.brw C.brw C.dat cdats V.flat U.flat C.flat V.frz1 U.frz1 C.frz1
theorem orV_some (v:V) (y:At):orV (some v) y=some v:=rfl
theorem orV_none (y:At):orV none y=y:=rfl
attribute [simp] orV_some orV_none isNilC isNilV qbinN intOp_add intOp_sub intOp_mul intOp_quo intOp_rem intOp_and intOp_or intOp_eql intOp_neq intOp_lss intOp_leq intOp_gtr intOp_geq shiftOp_shl shiftOp_shr qun_not qun_neg qconv_int qcnv_int bsl_bs byteL_toB mk_bs bs_data rowsV_own rowsO_row qcnv_tostr cnvR_some qmax_int qmaxs_nil qmaxs_cons beq_eqb idx_map slcL_map qindex_sl qindex_ownE qixR_nest qlenO_nest qixO_some qixD_slice qixR_row qslice_lh lenL_map lenL_rep qlen_sl qlen_ownE qlenO_row agb_true_t agb_false_t agb_true_f agb_false_f
attribute [simp] negB_eql negB_neq
inductive Lp (S T:Type) where
 |next (s:S)|out (t:T)
def bv {S T:Type} (step:S->Option (Lp S T)):Nat->S->Option T
 |0,_=>none|n+1,s=>match step s with
  |some (.next s')=>bv step n s'|some (.out t)=>some t|none=>none
def bL:Nat:=1099511627776
def rP {I:Type} (F:I->I) (z:I):Nat->I|0=>z|n+1=>F (rP F z n)
def recF:Nat:=1099511627776
theorem recN_ind {I:Type} {F:I->I} {z:I} (P:I->Prop) (h0:P z) (hs:∀f,P f->P (F f)):∀n,P (rP F z n)|0=>h0|n+1=>hs _ (recN_ind P h0 hs n)
def Wk (cx:Cx) (Z:Env) (O:Sto) (Z':Env) (O':Sto):Prop:=∀(E:A7) (a:Act) (w:World),Sim cx E Z O a w->∃E',Sim cx E' Z' O' a w
def EE (cx:Cx) (X:A3) (Z:Env) (O:Sto):Prop:=∃Z' O',Wk cx Z O Z' O'/\X Z' O'
section
variable {P:Program} {cx:Cx} {tb:Tb} {Z Z' Z'':Env} {O O' O'':Sto} {Q Q':Aa} {c:Code}
theorem Wk.refl:Wk cx Z O Z O:=λE _ _ h=>⟨E,h⟩
theorem Wk.trans (h:Wk cx Z O Z' O') (h':Wk cx Z' O' Z'' O''):Wk cx Z O Z'' O'':=λE a w hs=>let ⟨E',hs'⟩:=h E a w hs;h' E' a w hs'
theorem EE.here {X:A3} (h:X Z O):EE cx X Z O:=⟨Z,O,Wk.refl,h⟩
theorem zJ {X:A3} (h:X Z O:=by simp -dsimp[hf]):EE cx X Z O:=EE.here h
theorem zY {X:A3} (h:X Z O:=by simp -dsimp):EE cx X Z O:=EE.here h
theorem EE.step {X:A3} (hw:Wk cx Z O Z' O') (h:EE cx X Z' O'):EE cx X Z O:=let ⟨a,b,h1,h2⟩:=h;⟨a,b,hw.trans h1,h2⟩
theorem Swp.pre (hw:Wk cx Z O Z' O') (h:Swp P cx c Z' O' Q):Swp P cx c Z O Q:=λE a w hs=>let ⟨E',hs'⟩:=hw E a w hs;h E' a w hs'
theorem Swp.post (h:Swp P cx c Z O Q) (hq:∀e Z O,Q e Z O->EE cx (Q' e) Z O):Swp P cx c Z O Q':=λE a w hs=>
 wp_mono (h E a w hs) λe _ _ ⟨h1,h2,E,Z,O,hs,hk⟩=>let ⟨Z',O',hw,hx⟩:=hq e Z O hk;let ⟨E',hs'⟩:=hw E _ _ hs;⟨h1,h2,E',Z',O',hs',hx⟩
theorem bF {f:FuncId} {us:Ao} {v:V} {d:Ac} {K:A3} {j} (h:bA P f us v) (hd:∀x,d=some x->x<cx.n) (hk:K (cK Z d v) O):CallL P cx f us d Z O K j:=by refine⟨h.1,λE a w hs vals hl hv next hn=>(h.2 E w _ hs.core.frm vals hl hv).mono λ_ w' ⟨u,he,hb,hvs⟩=>⟨u,he,?_⟩⟩;exact hn E _ O _ w' ((hs.below hb).put hd hvs) hk
theorem bX {f:FuncId} {us:Ao} {v:V} {k:Az} {j} (h:bA P f us v) (hk:k v):qcallL P f us O k j:=⟨v,.inl h,hk⟩
theorem qcallL_brw {f:FuncId} {us us':Ao} {v:V} {k:Az} {j} (h:bA P f us' v) (hb:us.map (V.brw O)=us') (hf:v.flat=true) (hk:k v):qcallL P f us O k j:=⟨v,.inr ⟨by rw[hb];exact h,hf⟩,hk⟩
theorem gq {f:FuncId} {us us':Ao} {v:V} {d:Ac} {K:A3} {j} (h:bA P f us' v) (hb:us.map (V.brw O)=us') (hf:v.flat=true) (hd:∀x,d=some x->x<cx.n) (hk:K (cK Z d v) O):CallL P cx f us d Z O K j:=by have hq:QCall P O f us v:=.inr ⟨by rw[hb];exact h,hf⟩;refine⟨h.1,λE a w hs vals hl hv next hn=>(hq.run hs.core hl hv).mono λ_ w' ⟨u,he,hb,hvs⟩=>⟨u,he,?_⟩⟩;exact hn E _ O _ w' ((hs.below hb).put hd hvs) hk
end
