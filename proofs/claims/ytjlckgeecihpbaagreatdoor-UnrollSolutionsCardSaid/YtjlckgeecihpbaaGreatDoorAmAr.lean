/- Arrays of numbers and truth values in a variable: read and written at an index that is not known. -/
import Derived.Test.YtjlckgeecihpbaaGreatDoorAmFs
namespace Go.AM
open Go.RowKit
def cI (k:IntKind) (n:Int):C:=.d (.int k n)
def cB (b:Bool):C:=.d (.bool b)
theorem cI_eq (k:IntKind) (n:Int):cI k n=.d (.int k n):=rfl
theorem cB_eq (b:Bool):cB b=.d (.bool b):=rfl
def aok (m:Nat) (n:Int):Bool:=decide (0<=n/\n < (m:Int))
def aidx {α:Type} (m:Nat) (l:List α) (i:Int):Option α:=bif aok m i then l[i.toNat]? else none
section
variable {α:Type} {m:Nat} {l:List α} {i:Int} {x:α}
theorem aidx_ok (h:aidx m l i=some x):aok m i=true:=by
 unfold aidx at h
 cases hk:aok m i with
 | true=>rfl
 | false=>rw[hk] at h; cases h
theorem aidx_get (h:aidx m l i=some x):l[i.toNat]?=some x:=by
 have hk:=aidx_ok h
 unfold aidx at h
 rw[hk] at h
 exact h
theorem aidx_lt (h:aidx m l i=some x):i.toNat < l.length:=(List.getElem?_eq_some_iff.1 (aidx_get h)).1
theorem aidx_lt2 (h:aidx m l i=some x):i.toNat+1<=l.length:=aidx_lt h
theorem aset_eq {β:Type} (f:α->β) (h:aidx m l i=some x) (y:α):List.take i.toNat (List.map f l)++f y::List.drop (i.toNat+1) (List.map f l)=List.map f (l.set i.toNat y):=by
 rw[List.map_set,List.set_eq_take_append_cons_drop,if_pos (by simpa using aidx_lt h)]
theorem asetB {l:List Bool} {x:Bool} (h:aidx m l i=some x) (y:Bool):List.take i.toNat (List.map cB l)++C.d (L.bool y)::List.drop (i.toNat+1) (List.map cB l)=List.map cB (l.set i.toNat y):=aset_eq cB h y
end
section
variable {tb:Tb} {O:Sto}
def qixAE (te:Option TI) (m s o:Nat) (n:Int):Option V:=match te with
 | some te=>bif aok m n then some (.u (.one (.box s (o+n.toNat*te.size)))) else none
 | none=>none
def qixAD (tb:Tb) (d:TypeDesc) (s o:Nat) (n:Int):Option V:=match d with
 | .array m e=>qixAE (tb.ty e) m s o n
 | _=>none
def qixAO (tb:Tb) (ti:Option TI) (s o:Nat) (n:Int):Option V:=match ti with
 | some ti=>qixAD tb ti.desc s o n
 | none=>none
theorem qixAO_some (ti:TI) (s o:Nat) (n:Int):qixAO tb (some ti) s o n=qixAD tb ti.desc s o n:=rfl
theorem qixAD_array (m:Nat) (e:TypeId) (s o:Nat) (n:Int):qixAD tb (.array m e) s o n=qixAE (tb.ty e) m s o n:=rfl
theorem qixAE_some (te:TI) (m s o:Nat) (n:Int):qixAE (some te) m s o n=bif aok m n then some (.u (.one (.box s (o+n.toNat*te.size)))) else none:=rfl
theorem qindex_boxE {t:TypeId} {k:IntKind} {n:Int} {s o:Nat}:lJ tb O t (.u (.one (.box s o))) (.u (.one (.d (.int k n))))=qixAO tb (tb.ty t) s o n:=by
 unfold lJ qixAO qixAD qixAE
 rcases tb.ty t with _ | ti
 ·rfl
 dsimp only
 cases ti.desc with
 | array m e =>
  dsimp only
  rcases tb.ty e with _ | te
  ·rfl
  dsimp only
  unfold aok
  by_cases h:0<=n/\n < (m:Int)<;>simp[h]
 | slice e =>
  dsimp only
  rcases tb.ty e with _ | te<;>rfl
 | _=>rfl
end
section
variable {tb:Tb} {O:Sto}
def qixRE (te:Option TI) (m:Nat) (xs:List L) (o:Nat) (n:Int):Option V:=match te with
 | some te=>bif aok m n then some (.u (.one (.ref (subR xs (o+n.toNat*te.size) te.size) 0))) else none
 | none=>none
def qixRD (tb:Tb) (d:TypeDesc) (xs:List L) (o:Nat) (n:Int):Option V:=match d with
 | .array m e=>qixRE (tb.ty e) m xs o n
 | _=>none
def qixRO (tb:Tb) (ti:Option TI) (xs:List L) (o:Nat) (n:Int):Option V:=match ti with
 | some ti=>qixRD tb ti.desc xs o n
 | none=>none
theorem qixRO_some (ti:TI) (xs:List L) (o:Nat) (n:Int):qixRO tb (some ti) xs o n=qixRD tb ti.desc xs o n:=rfl
theorem qixRD_array (m:Nat) (e:TypeId) (xs:List L) (o:Nat) (n:Int):qixRD tb (.array m e) xs o n=qixRE (tb.ty e) m xs o n:=rfl
theorem qixRE_some (te:TI) (m:Nat) (xs:List L) (o:Nat) (n:Int):qixRE (some te) m xs o n=bif aok m n then some (.u (.one (.ref (subR xs (o+n.toNat*te.size) te.size) 0))) else none:=rfl
theorem qindex_refE {t:TypeId} {k:IntKind} {n:Int} {xs:List L} {o:Nat}:lJ tb O t (.u (.one (.ref xs o))) (.u (.one (.d (.int k n))))=qixRO tb (tb.ty t) xs o n:=by
 unfold lJ qixRO qixRD qixRE
 rcases tb.ty t with _ | ti
 ·rfl
 dsimp only
 cases ti.desc with
 | array m e =>
  dsimp only
  rcases tb.ty e with _ | te
  ·rfl
  dsimp only
  unfold aok
  by_cases h:0<=n/\n < (m:Int)<;>simp[h]
 | slice e =>
  dsimp only
  rcases tb.ty e with _ | te<;>rfl
 | _=>rfl
end
theorem subR_flat {α:Type} (row:α->List L) (sz:Nat) (hsz:∀ x,(row x).length=sz):∀ (l:List α) (n:Nat) (x:α),l[n]?=some x->subR (l.map row).flatten (n*sz) sz=row x
 | [],n,x,h=>by simp at h
 | y::l,0,x,h=>by
  cases h
  unfold subR
  simp only[List.map_cons,List.flatten_cons,Nat.zero_mul,List.drop_zero]
  rw[List.take_append_of_le_length (by rw[hsz]; exact Nat.le_refl _)]
  exact List.take_of_length_le (by rw[hsz]; exact Nat.le_refl _)
 | y::l,n+1,x,h=>by
  have:=subR_flat row sz hsz l n x (by simpa using h)
  unfold subR at this ⊢
  rw[List.map_cons,List.flatten_cons,show (n+1)*sz=(row y).length+n*sz from by rw[hsz,Nat.add_mul,Nat.one_mul,Nat.add_comm],<- List.drop_drop,List.drop_left]
  exact this
theorem subR_get {α:Type} {m:Nat} {l:List α} {i:Int} {x:α} {xs:List L} (row:α->List L) (sz:Nat) (hsz:∀ x,(row x).length=sz) (hx:(l.map row).flatten=xs) (h:aidx m l i=some x):subR xs (i.toNat*sz) sz=row x:=by
 subst hx
 exact subR_flat row sz hsz l _ x (aidx_get h)
theorem C.wks_self (x:List C):C.wks x x↔True:=iff_of_true (C.wks_refl x) trivial
attribute [simp] C.wks_self
attribute [simp] qindex_refE qixRO_some qixRD_array qixRE_some cI_eq cB_eq qindex_boxE qixAO_some qixAD_array qixAE_some
end Go.AM
