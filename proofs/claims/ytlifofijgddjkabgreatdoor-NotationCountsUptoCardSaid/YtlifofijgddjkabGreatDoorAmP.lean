/- The operations on numbers and lists under names of their own, which `simp` does not open; branches; loops as functions of lists and numbers. -/
import Derived.Test.YtlifofijgddjkabGreatDoorAmV
import Derived.Test.YtlifofijgddjkabGreatDoorAmS
namespace Go.AM
open Go.RowKit
def rowsO:Option Ob->Option (List (List L))
 | some (.row _ _ rows)=>some rows
 | _=>none
theorem rowsO_row (sz:Nat) (e:TypeId) (rows:List (List L)):rowsO (some (.row sz e rows))=some rows:=rfl
def bq (k:IntKind) (a b:Int):Int:=k.wrap (a+b)
def aX (k:IntKind) (a b:Int):Int:=k.wrap (a - b)
def imul (k:IntKind) (a b:Int):Int:=k.wrap (a*b)
def iquo (k:IntKind) (a b:Int):Option Int:=if b=0 then none else some (k.wrap (a.tdiv b))
def irem (a b:Int):Option Int:=if b=0 then none else some (a.tmod b)
def iand (k:IntKind) (a b:Int):Int:=k.wrap ((BitVec.ofInt k.bits a &&& BitVec.ofInt k.bits b).toNat)
def ishr (k:IntKind) (a b:Int):Option Int:=if b < 0 then none else some (a.fdiv (2 ^ min b.toNat k.bits))
def ineg (k:IntKind) (a:Int):Int:=k.wrap (0 - a)
def dz (k:IntKind) (a:Int):Int:=k.wrap a
def imax (a b:Int):Int:=if b > a then b else a
def eqB (a b:Int):Bool:=a == b
def neB (a b:Int):Bool:=a != b
def ltB (a b:Int):Bool:=decide (a < b)
def leB (a b:Int):Bool:=decide (a<=b)
def gtB (a b:Int):Bool:=decide (a > b)
def geB (a b:Int):Bool:=decide (a≥b)
def ba (a:Bool):Bool:=!a
def gP (a b:Bool):Bool:=a && b
def aO {α:Type} (l:List α):Int:=l.length
def idx {α:Type} (l:List α) (i:Int):Option α:=if 0<=i then l[i.toNat]? else none
def appL {α:Type} (bytes:Nat) (l m:List α):Option (List α):=if 0 < bytes/\(l.length+m.length)*bytes<=140737488355328 then some (l++m) else none
def mkL {α:Type} (bytes:Int) (n m:Int) (x:α):Option (List α):=if 0<=n/\n<=m/\m*bytes<=140737488355328 then some (List.replicate n.toNat x) else none
theorem intOp_add (k:IntKind) (a b:Int):intOp .add k a b=some (.int k (bq k a b)):=rfl
theorem intOp_sub (k:IntKind) (a b:Int):intOp .sub k a b=some (.int k (aX k a b)):=rfl
theorem intOp_mul (k:IntKind) (a b:Int):intOp .mul k a b=some (.int k (imul k a b)):=rfl
theorem intOp_quo (k:IntKind) (a b:Int):intOp .quo k a b=(iquo k a b).map (.int k):=by show (if b=0 then none else some _)=_; grind [iquo]
theorem intOp_rem (k:IntKind) (a b:Int):intOp .rem k a b=(irem a b).map (.int k):=by show (if b=0 then none else some _)=_; grind [irem]
theorem intOp_and (k:IntKind) (a b:Int):intOp .and k a b=some (.int k (iand k a b)):=rfl
theorem intOp_eql (k:IntKind) (a b:Int):intOp .eql k a b=some (.bool (eqB a b)):=rfl
theorem intOp_neq (k:IntKind) (a b:Int):intOp .neq k a b=some (.bool (neB a b)):=rfl
theorem intOp_lss (k:IntKind) (a b:Int):intOp .lss k a b=some (.bool (ltB a b)):=rfl
theorem intOp_leq (k:IntKind) (a b:Int):intOp .leq k a b=some (.bool (leB a b)):=rfl
theorem intOp_gtr (k:IntKind) (a b:Int):intOp .gtr k a b=some (.bool (gtB a b)):=rfl
theorem intOp_geq (k:IntKind) (a b:Int):intOp .geq k a b=some (.bool (geB a b)):=rfl
theorem shiftOp_shr (k:IntKind) (a b:Int):shiftOp .shr k a b=(ishr k a b).map (.int k):=by show (if b < 0 then none else some _)=_; grind [ishr]
theorem qun_not (b:Bool):qun .not (.u (.one (.d (.bool b))))=some (.u (.one (.d (.bool (ba b))))):=rfl
theorem qun_neg (k:IntKind) (n:Int):qun .neg (.u (.one (.d (.int k n))))=some (.u (.one (.d (.int k (ineg k n))))):=rfl
theorem qconv_int {tb:Tb} {src dst:TypeId} {k k':IntKind} {n:Int} {ts td:TI} (hs:tb.ty src=some ts) (hd:tb.ty dst=some td) (hk:td.desc=.int k'):qconv tb src dst (.u (.one (.d (.int k n))))=some (.u (.one (.d (.int k' (dz k' n))))):=by
 unfold qconv; simp only[hs,hd,hk]; rfl
theorem qcnv_int {tb:Tb} {O:Sto} {src dst:TypeId} {k k':IntKind} {n:Int} {ts td:TI} (hs:tb.ty src=some ts) (hd:tb.ty dst=some td) (hk:td.desc=.int k'):qcnv tb O src dst (.u (.one (.d (.int k n))))=some (.u (.one (.d (.int k' (dz k' n))))):=by
 unfold qcnv; rw[qconv_int hs hd hk]
theorem qcnv_str {tb:Tb} {O:Sto} {src dst:TypeId} {s:ByteArray} {ts td:TI} (hs:tb.ty src=some ts) (hd:tb.ty dst=some td) (hk:ts.desc=.string) (hk':td.desc=.string):qcnv tb O src dst (.u (.one (.d (.str s))))=some (.u (.one (.d (.str s)))):=by
 simp_all [qcnv,qconv,qstr]
def toB (s:List UInt8):List Int:=s.map fun b=>(b.toNat:Int)
def rI (k:IntKind) (n:Int):List L:=[.int k n]
def bu (s:List UInt8):Int:=s.length
def catS (a b:List UInt8):Option (List UInt8):=if ((a.length+b.length:Nat):Int) > 9223372036854775807 then none else some (a++b)
def eqS (a b:List UInt8):Bool:=a == b
def idxS (s:List UInt8) (i:Int):Option Int:=if 0<=i then (s[i.toNat]?).map fun b=>(b.toNat:Int) else none
def fA (s:List UInt8) (lo hi:Int):Option (List UInt8):=if 0<=lo/\lo<=hi/\hi<=s.length then some ((s.take hi.toNat).drop lo.toNat) else none
def toBk (s:List UInt8):Option (List Int):=if s.length<=2 ^ 40 then some (toB s) else none
theorem mk_bs (l:List UInt8):(ByteArray.mk l.toArray)=bs l:=rfl
theorem bs_list (a:List UInt8):(bs a).toList=a:=by rw[ByteArray.toList_eq]; rfl
theorem bs_data (a:List UInt8):(bs a).data.toList=a:=rfl
theorem bs_size (a:List UInt8):(bs a).size=a.length:=rfl
theorem bs_cat (a b:List UInt8):bs a++bs b=bs (a++b):=by
 rfl
theorem strOp_add (a b:List UInt8):strOp .add (bs a) (bs b)=(catS a b).map fun s=>.str (bs s):=by
 unfold strOp catS
 simp only[bs_size,bs_cat]
 have:IntKind.i64.max=9223372036854775807:=by decide
 grind
theorem strOp_eql (a b:List UInt8):strOp .eql (bs a) (bs b)=some (.bool (eqS a b)):=by simp only[strOp,bs_list]; rfl
theorem strOp_neq (a b:List UInt8):strOp .neq (bs a) (bs b)=some (.bool (ba (eqS a b))):=by simp only[strOp,bs_list]; rfl
theorem qlen_bs (O:Sto) (s:List UInt8):qlen O (.u (.one (.d (.str (bs s)))))=some (bu s):=rfl
theorem byteRows_u8:∀ l:List Int,byteRows (l.map (rI .u8))=some l
 | []=>rfl
 | n::l=>by rw[List.map_cons]; show (byteRows (l.map (rI .u8))).map _=_; rw[byteRows_u8 l]; rfl
theorem byteL_toB (s:List UInt8):s.map byteL=(toB s).map (rI .u8):=by unfold toB; rw[List.map_map]; rfl
theorem toB_len (s:List UInt8):(toB s).length=s.length:=by simp[toB]
theorem rowsV_own (O:Sto) (s:Nat):rowsV O (.u (.one (.own s)))=rowsO (O s):=by rfl
def cnvR (r:Option (List (List L))):Option V:=match r with
 | some rows=>(byteRows rows).map fun ns=>.u (.one (.d (.str (bs (ofBytes ns)))))
 | none=>none
theorem cnvR_some (l:List Int):cnvR (some (l.map (rI .u8)))=some (.u (.one (.d (.str (bs (ofBytes l)))))):=by
 unfold cnvR
 simp only[byteRows_u8,Option.map_some]
theorem qcnv_tostr {tb:Tb} {O:Sto} {src dst e:TypeId} {x:V} {ts td te:TI} (hs:tb.ty src=some ts) (hd:tb.ty dst=some td) (hk:ts.desc=.slice e) (hk':td.desc=.string) (he:tb.ty e=some te) (hu:te.desc=.int .u8)
  (hx:∀ k n,x≠.u (.one (.d (.int k n)))):qcnv tb O src dst x=cnvR (rowsV O x):=by
 unfold qcnv
 have:qconv tb src dst x=none:=by
  unfold qconv
  simp_all
 rw[this]
 unfold qstr cnvR
 grind
theorem qcnv_tobytes {tb:Tb} {O:Sto} {src dst e:TypeId} {s:List UInt8} {l:List Int} {ts td te:TI} (hs:tb.ty src=some ts) (hd:tb.ty dst=some td) (hk:ts.desc=.string) (hk':td.desc=.slice e) (he:tb.ty e=some te) (hu:te.desc=.int .u8)
  (h:toBk s=some l):qcnv tb O src dst (.u (.one (.d (.str (bs s)))))=some (.u (.one (.d (.sl 1 (l.map (rI .u8)))))):=by
 simp_all [toBk,qcnv,qconv,qstr,bsl_bs,byteL_toB]
theorem qidxS_bs {tb:Tb} {t:TypeId} {k:IntKind} {s:List UInt8} {i n:Int} {ti:TI} (ht:tb.ty t=some ti) (hd:ti.desc=.string) (h:idxS s i=some n):qidxS tb t (.u (.one (.d (.str (bs s))))) (.u (.one (.d (.int k i))))=some (.u (.one (.d (.int .u8 n)))):=by
 simp_all [qidxS,idxS,bsl_bs]
theorem slcS_len {s r:List UInt8} {lo hi:Int} (h:fA s lo hi=some r):0<=lo/\lo<=hi/\hi<=s.length/\r=(s.take hi.toNat).drop lo.toNat:=by
 unfold fA at h
 simp_all
theorem qslcS_lh {tb:Tb} {t:TypeId} {k k':IntKind} {s r:List UInt8} {lo hi:Int} {ti:TI} (ht:tb.ty t=some ti) (hd:ti.desc=.string) (h:fA s lo hi=some r):qslice tb t (.u (.one (.d (.str (bs s))))) (some (.u (.one (.d (.int k lo))))) (some (.u (.one (.d (.int k' hi))))) none=some (.u (.one (.d (.str (bs r))))):=by
 obtain⟨h1,h2,h3,rfl⟩:=slcS_len h
 simp_all [qslice,bsl_bs]
theorem qslcS_l {tb:Tb} {t:TypeId} {k:IntKind} {s r:List UInt8} {lo:Int} {ti:TI} (ht:tb.ty t=some ti) (hd:ti.desc=.string) (h:fA s lo (bu s)=some r):qslice tb t (.u (.one (.d (.str (bs s))))) (some (.u (.one (.d (.int k lo))))) none none=some (.u (.one (.d (.str (bs r))))):=by
 obtain⟨h1,h2,h3,rfl⟩:=slcS_len h
 simp_all [qslice,bu,bsl_bs]
theorem qslcS_h {tb:Tb} {t:TypeId} {k:IntKind} {s r:List UInt8} {hi:Int} {ti:TI} (ht:tb.ty t=some ti) (hd:ti.desc=.string) (h:fA s 0 hi=some r):qslice tb t (.u (.one (.d (.str (bs s))))) none (some (.u (.one (.d (.int k hi))))) none=some (.u (.one (.d (.str (bs r))))):=by
 obtain⟨h1,h2,h3,rfl⟩:=slcS_len h
 simp_all [qslice,bsl_bs]
theorem qmax_int (k k':IntKind) (a b:Int):qmax (.u (.one (.d (.int k a)))) (.u (.one (.d (.int k' b))))=some (.u (.one (.d (.int k (imax a b))))):=rfl
theorem qmaxs_nil (k:IntKind) (a:Int):qmaxs (.u (.one (.d (.int k a)))) []=some (.u (.one (.d (.int k a)))):=by rfl
theorem qmaxs_cons (k:IntKind) (a:Int) (y:V) (r:List V):qmaxs (.u (.one (.d (.int k a)))) (y::r)=(qmax (.u (.one (.d (.int k a)))) y).bind fun z=>qmaxs z r:=by rw[qmaxs]
theorem eqInts_nil:eqInts [] []=some true:=rfl
theorem eqInts_cons (k:IntKind) (a b:Int) (xs ys:List C):eqInts (.d (.int k a)::xs) (.d (.int k b)::ys)=(eqInts xs ys).map fun t=>gP (eqB a b) t:=by rw[eqInts,if_pos rfl]; rfl
theorem negB_eql (b:Bool):negB .eql b=some (.bool b):=rfl
theorem negB_neq (b:Bool):negB .neq b=some (.bool (ba b)):=rfl
theorem idx_map {α β:Type} (f:α->β) (l:List α) (i:Int):idx (l.map f) i=(idx l i).map f:=by grind [idx]
theorem bg {α:Type} {l:List α} {i:Int} {x:α} (h:idx l i=some x):l[i.toNat]?=some x:=by
 simp_all [idx]
theorem idx_lt {α:Type} {l:List α} {i:Int} {x:α} (h:idx l i=some x):i.toNat < l.length:=(List.getElem?_eq_some_iff.1 (bg h)).1
section
variable {tb:Tb} {O:Sto}
theorem qindex_sl {t e:TypeId} {ti te:TI} {k:IntKind} {n:Int} {sz:Nat} {rows:List (List L)} (hs:tb.ty t=some ti) (hd:ti.desc=.slice e) (he:tb.ty e=some te) (hz:sz=te.size) :
  qindex tb O t (.u (.one (.d (.sl sz rows)))) (.u (.one (.d (.int k n))))=(idx rows n).map fun r=>.u (.one (.ref r 0)):=by
 unfold qindex idx
 grind
def qixR (te:Option TI) (ob:Option Ob) (s:Nat) (n:Int):Option V:=match te,ob with
 | some te,some (.row sz _ rows)=>if sz=te.size then (idx rows n).map fun _=>.u (.one (.elt s n.toNat sz 0)) else none
 | _,_=>none
def qixD (tb:Tb) (d:TypeDesc) (ob:Option Ob) (s:Nat) (n:Int):Option V:=match d with
 | .slice e=>qixR (tb.ty e) ob s n
 | _=>none
def qixO (tb:Tb) (ti:Option TI) (ob:Option Ob) (s:Nat) (n:Int):Option V:=match ti with
 | some ti=>qixD tb ti.desc ob s n
 | none=>none
theorem qixO_some (ti:TI) (ob:Option Ob) (s:Nat) (n:Int):qixO tb (some ti) ob s n=qixD tb ti.desc ob s n:=rfl
theorem qixD_slice (e:TypeId) (ob:Option Ob) (s:Nat) (n:Int):qixD tb (.slice e) ob s n=qixR (tb.ty e) ob s n:=rfl
theorem qixR_row (te:TI) (sz:Nat) (e:TypeId) (rows:List (List L)) (s:Nat) (n:Int):qixR (some te) (some (.row sz e rows)) s n=if sz=te.size then (idx rows n).map fun _=>.u (.one (.elt s n.toNat sz 0)) else none:=rfl
theorem qindex_ownE {t:TypeId} {k:IntKind} {n:Int} {s:Nat}:qindex tb O t (.u (.one (.own s))) (.u (.one (.d (.int k n))))=qixO tb (tb.ty t) (O s) s n:=by
 unfold qindex qixO qixD qixR
 rcases tb.ty t with _ | ti
 ·rfl
 grind [idx]
def qlenO:Option Ob->Option Int
 | some (.row _ _ rows)=>some (aO rows)
 | _=>none
theorem qlenO_row (sz:Nat) (e:TypeId) (rows:List (List L)):qlenO (some (.row sz e rows))=some (aO rows):=rfl
theorem qlen_ownE {s:Nat}:qlen O (.u (.one (.own s)))=qlenO (O s):=by
 rfl
theorem lenL_map {α β:Type} (f:α->β) (l:List α):aO (l.map f)=aO l:=by simp[aO]
theorem qlen_sl (sz:Nat) (rows:List (List L)):qlen O (.u (.one (.d (.sl sz rows))))=some (aO rows):=rfl
end
section
variable {P:Program} {cx:Cx} {tb:Tb} {Z:Env} {O:Sto} {K:Env->Sto->Prop} {Q:Exit->Env->Sto->Prop} {run skip:Env->Prop}
theorem agb_true_t {s:Nat} {j}:agb true s true Z run skip j=run (upd Z s (.u (.one (.d (.bool true))))):=by rw[agb_t]; simp
theorem agb_false_t {s:Nat} {j}:agb false s true Z run skip j=skip (upd Z s (.u (.one (.d (.bool false))))):=by rw[agb_t]; simp
theorem agb_true_f {s:Nat} {j}:agb true s false Z run skip j=skip (upd Z s (.u (.one (.d (.bool true))))):=by rw[agb_f]; simp
theorem agb_false_f {s:Nat} {j}:agb false s false Z run skip j=run (upd Z s (.u (.one (.d (.bool false))))):=by rw[agb_f]; simp
end
theorem bnd {α β:Type} {o:Option α} {f:α->Option β} {r:β} (h:o.bind f=some r):∃ x,o=some x/\f x=some r:=by
 cases o with
 | none=>cases h
 | some x=>grind
theorem aU {α:Type} {c:Bool} {x y:Option α} {r:α} (h:(bif c then x else y)=some r):(c=true/\x=some r) \/ (c=false/\y=some r):=by
 grind
attribute [simp] V.brw U.brw C.brw V.flat U.flat C.flat V.frz1 U.frz1 C.frz1
attribute [simp] isNilC isNilV qbinN intOp_add intOp_sub intOp_mul intOp_quo intOp_rem intOp_and intOp_eql intOp_neq intOp_lss intOp_leq intOp_gtr intOp_geq shiftOp_shr qun_not qun_neg qconv_int qcnv_int qcnv_str bsl_bs byteL_toB toB_len mk_bs bs_data strOp_add strOp_eql strOp_neq qlen_bs rowsV_own rowsO_row qcnv_tostr cnvR_some qcnv_tobytes qidxS_bs qslcS_lh qslcS_l qslcS_h qmax_int qmaxs_nil qmaxs_cons eqInts_nil eqInts_cons idx_map qindex_sl qindex_ownE qixO_some qixD_slice qixR_row lenL_map qlen_sl qlen_ownE qlenO_row agb_true_t agb_false_t agb_true_f agb_false_f
attribute [simp] negB_eql negB_neq
inductive Lp (S T:Type) where
 | next (s:S)
 | out (t:T)
def aT {S T:Type} (step:S->Option (Lp S T)):Nat->S->Option T
 | 0,_=>none
 | n+1,s=>match step s with
  | some (.next s')=>aT step n s'
  | some (.out t)=>some t
  | none=>none
def b7:Nat:=1099511627776
def recN {α:Type} (F:α->α) (z:α):Nat->α
 | 0=>z
 | n+1=>F (recN F z n)
def recF:Nat:=1099511627776
theorem recN_ind {α:Type} {F:α->α} {z:α} (P:α->Prop) (h0:P z) (hs:∀ f,P f->P (F f)):∀ n,P (recN F z n)
 | 0=>h0
 | n+1=>hs _ (recN_ind P h0 hs n)
def Wk (cx:Cx) (Z:Env) (O:Sto) (Z':Env) (O':Sto):Prop:=∀ (φ:Nat->Value) (a:Act) (w:World),Sim cx φ Z O a w->∃ φ',Sim cx φ' Z' O' a w
def EE (cx:Cx) (X:Env->Sto->Prop) (Z:Env) (O:Sto):Prop:=∃ Z' O',Wk cx Z O Z' O'/\X Z' O'
section
variable {P:Program} {cx:Cx} {tb:Tb} {Z Z' Z'':Env} {O O' O'':Sto} {Q Q':Exit->Env->Sto->Prop} {c:Code}
theorem Wk.refl:Wk cx Z O Z O:=fun φ _ _ h=>⟨φ,h⟩
theorem Wk.trans (h:Wk cx Z O Z' O') (h':Wk cx Z' O' Z'' O''):Wk cx Z O Z'' O'':=fun φ a w hs=>let ⟨φ',hs'⟩:=h φ a w hs; h' φ' a w hs'
theorem EE.here {X:Env->Sto->Prop} (h:X Z O):EE cx X Z O:=⟨Z,O,Wk.refl,h⟩
theorem EE.step {X:Env->Sto->Prop} (hw:Wk cx Z O Z' O') (h:EE cx X Z' O'):EE cx X Z O:=let ⟨a,b,h1,h2⟩:=h; ⟨a,b,hw.trans h1,h2⟩
theorem Swp.pre (hw:Wk cx Z O Z' O') (h:Swp P cx c Z' O' Q):Swp P cx c Z O Q:=fun φ a w hs=>let ⟨φ',hs'⟩:=hw φ a w hs; h φ' a w hs'
theorem Swp.post (h:Swp P cx c Z O Q) (hq:∀ e Z O,Q e Z O->EE cx (Q' e) Z O):Swp P cx c Z O Q':=fun φ a w hs =>
 wp_mono (h φ a w hs) fun e _ _ ⟨h1,h2,φ,Z,O,hs,hk⟩=>let ⟨Z',O',hw,hx⟩:=hq e Z O hk; let ⟨φ',hs'⟩:=hw φ _ _ hs; ⟨h1,h2,φ',Z',O',hs',hx⟩
theorem aL {f:FuncId} {us:List V} {v:V} {d:Option Nat} {K:Env->Sto->Prop} {j} (h:PureCall P f us v) (hd:∀ x,d=some x->x < cx.n) (hk:K (putE Z d v) O):CallL P cx f us d Z O K j:=by
 refine⟨h.1,fun φ a w hs vals hl hv next hn=>(h.2 φ w _ hs.core.frm vals hl hv).mono fun _ w' ⟨u,he,hb,hvs⟩=>⟨u,he,?_⟩⟩
 exact hn φ _ O _ w' ((hs.below hb).put hd hvs) hk
theorem aV {f:FuncId} {us:List V} {v:V} {k:V->Prop} {j} (h:PureCall P f us v) (hk:k v):qcallL P f us O k j:=⟨v,.inl h,hk⟩
theorem eI {f:FuncId} {us us':List V} {v:V} {d:Option Nat} {K:Env->Sto->Prop} {j} (h:PureCall P f us' v) (hb:us.map (V.brw O)=us') (hf:v.flat=true) (hd:∀ x,d=some x->x < cx.n) (hk:K (putE Z d v) O):CallL P cx f us d Z O K j:=by
 have hq:QCall P O f us v:=.inr ⟨by rw[hb]; exact h,hf⟩
 refine⟨h.1,fun φ a w hs vals hl hv next hn=>(hq.run hs.core hl hv).mono fun _ w' ⟨u,he,hb,hvs⟩=>⟨u,he,?_⟩⟩
 exact hn φ _ O _ w' ((hs.below hb).put hd hvs) hk
end
end Go.AM
