/- Parts of rows: what the generated proofs use. -/
import Derived.Test.YtbgliammfkgfoaaGreatDoorAmNa
import Derived.Test.YtbgliammfkgfoaaGreatDoorAmHo
import Derived.Test.YtbgliammfkgfoaaGreatDoorAmSc
namespace Go.AM
open Go.RowKit
section
variable {α:Type}
def subL (l:List α) (a n:Nat):List α:=(l.take n).drop a
def kj (l:List α) (n:Nat) (r:List α):List α:=l.take n++r++l.drop (n+r.length)
def subK (l:List α) (lo hi:Int):Option Unit:=bif decide (0<=lo/\lo<=hi/\hi<=(l.length:Int)) then some () else none
def lenK (l:List α) (n:Nat):Option Unit:=bif decide (n<=l.length) then some () else none
def inP (a n len:Nat) (i:Int):Bool:=decide (0<=i/\a+i.toNat < n/\n<=len)
def idxP (l:List α) (a n:Nat) (i:Int):Option α:=bif decide (0<=i/\a+i.toNat < n/\n<=l.length) then l[a+i.toNat]? else none
def lenP (a n:Nat):Int:=((n - a:Nat):Int)
theorem subRow_map (f:α->List L) (l:List α) (a n:Nat):subRow (l.map f) a n=(subL l a n).map f:=by simp[subRow,subL,List.map_drop,List.map_take]
theorem preRow_map (f:α->List L) (l:List α) (n:Nat) (r:List α):preRow (l.map f) n (r.map f)=(kj l n r).map f:=by simp[preRow,kj,List.map_drop,List.map_take]
theorem kQ {l:List α} {lo hi:Int} {u:Unit} (h:subK l lo hi=some u):0<=lo/\lo<=hi/\hi<=(l.length:Int):=by
 unfold subK at h
 by_cases hc:0<=lo/\lo<=hi/\hi<=(l.length:Int)
 ·exact hc
 ·simp[hc] at h
theorem lenK_ok {l:List α} {n:Nat} {u:Unit} (h:lenK l n=some u):n<=l.length:=by
 unfold lenK at h
 by_cases hc:n<=l.length
 ·exact hc
 ·simp[hc] at h
theorem idxP_ok {l:List α} {a n:Nat} {i:Int} {x:α} (h:idxP l a n i=some x):inP a n l.length i=true/\l[a+i.toNat]?=some x:=by
 unfold idxP at h
 by_cases hc:0<=i/\a+i.toNat < n/\n<=l.length
 ·simp only[hc,and_self,decide_true,cond_true] at h
  exact⟨decide_eq_true hc,h⟩
 ·simp[hc] at h
end
theorem idxP_ok0 {α:Type} {l:List α} {n:Nat} {i:Int} {x:α} (h:idxP l 0 n i=some x):inP 0 n l.length i=true/\l[i.toNat]?=some x:=by
 have:=idxP_ok h
 exact⟨this.1,by simpa using this.2⟩
theorem nels_setw {α:Type} {f:α->List L} {l:List (List α)} (d i t:Nat):List.map (NE.wipe d) ((du f l).set i (.own t))=(du f l).set i (if t=d then .dead else .own t):=by rw[List.map_set,nels_wipe]; rfl
def ckB (b:Bool):Option Unit:=bif b then some () else none
theorem ckB_ok {b:Bool} {u:Unit} (h:ckB b=some u):b=true:=by cases b<;>simp_all [ckB]
theorem ckB_ne {a b:Int} {u:Unit} (h:ckB (neB a b)=some u):¬ a=b:=by simpa [neB] using ckB_ok h
section
variable {tb:Tb} {O:Sto}
theorem qlen_sub (s z a n:Nat):qlen O (.u (.one (.sub s z a n)))=some (lenP a n):=rfl
theorem qslice_own (t:TypeId) (s:Nat) (lo hi:Option V):qslice tb t (.u (.one (.own s))) lo hi none=none:=by
 unfold qslice
 cases tb.ty t<;>rfl
theorem qindex_sub (t:TypeId) (s z a n:Nat) (i:V):lB tb O t (.u (.one (.sub s z a n))) i=none:=by
 unfold lB
 rcases tb.ty t with _ | ti
 ·rfl
 rcases i with (c | _) | _<;>try rfl
 cases c with
 | d l =>
  cases l with
  | int k n =>
   dsimp only
   cases ti.desc with
   | slice e=>dsimp only; rcases tb.ty e with _ | _<;>rfl
   | array m e=>dsimp only; rcases tb.ty e with _ | _<;>rfl
   | _=>rfl
  | _=>rfl
 | _=>rfl
def sbH (te:Option TI) (s sz:Nat) (rows:List (List L)) (lo:Int) (hi:Option Int):Option V:=match te,hi with
 | some te,some h=>if sz=te.size/\0<=lo/\lo<=h/\h<=rows.length then some (.u (.one (.sub s sz lo.toNat h.toNat))) else none
 | some te,none=>if sz=te.size/\0<=lo/\lo<=rows.length then some (.u (.one (.sub s sz lo.toNat rows.length))) else none
 | none,_=>none
def sbO (tb:Tb) (d:TypeDesc) (s:Nat) (lo:Int) (hi:Option Int) (ob:Option Ob):Option V:=match d,ob with
 | .slice e,some (.row sz _ rows)=>sbH (tb.ty e) s sz rows lo hi
 | _,_=>none
def sbD (tb:Tb) (ti:Option TI) (s:Nat) (lo:Int) (hi:Option Int) (ob:Option Ob):Option V:=match ti with
 | some ti=>sbO tb ti.desc s lo hi ob
 | none=>none
theorem qsubO_eq (t:TypeId) (s:Nat) (lo hi:Option V) (l:Int) (h:Option Int) (hl:kC 0 lo=some l) (hh:∀ n:Nat,kC n hi=some (h.getD n)):qsubO tb O t (.u (.one (.own s))) lo hi none=sbD tb (tb.ty t) s l h (O s):=by
 unfold qsubO sbD
 rcases tb.ty t with _ | ti
 ·rfl
 dsimp only
 unfold sbO
 cases ti.desc with
 | slice e =>
  rcases O s with _ | o
  ·rfl
  cases o with
  | row sz e' rows =>
   dsimp only
   unfold sbH
   rw[hl,hh]
   rcases tb.ty e with _ | te
   ·rfl
   cases h with
   | some h=>rfl
   | none=>simp
  | _=>rfl
 | _=>rfl
theorem qsubO_l (t:TypeId) (s:Nat) (k:IntKind) (lo:Int):qsubO tb O t (.u (.one (.own s))) (some (.u (.one (.d (.int k lo))))) none none=sbD tb (tb.ty t) s lo none (O s):=qsubO_eq t s _ _ lo none rfl (fun _=>rfl)
theorem qsubO_h (t:TypeId) (s:Nat) (k:IntKind) (hi:Int):qsubO tb O t (.u (.one (.own s))) none (some (.u (.one (.d (.int k hi))))) none=sbD tb (tb.ty t) s 0 (some hi) (O s):=qsubO_eq t s _ _ 0 (some hi) rfl (fun _=>rfl)
theorem sbD_some (ti:TI) (s:Nat) (lo:Int) (hi:Option Int) (ob:Option Ob):sbD tb (some ti) s lo hi ob=sbO tb ti.desc s lo hi ob:=rfl
theorem sbO_row (e:TypeId) (s:Nat) (lo:Int) (hi:Option Int) (sz e':Nat) (rows:List (List L)):sbO tb (.slice e) s lo hi (some (.row sz e' rows))=sbH (tb.ty e) s sz rows lo hi:=rfl
theorem sbH_h (te:TI) (s sz:Nat) (rows:List (List L)) (lo hi:Int):sbH (some te) s sz rows lo (some hi)=if sz=te.size/\0<=lo/\lo<=hi/\hi<=rows.length then some (.u (.one (.sub s sz lo.toNat hi.toNat))) else none:=rfl
theorem sbH_n (te:TI) (s sz:Nat) (rows:List (List L)) (lo:Int):sbH (some te) s sz rows lo none=if sz=te.size/\0<=lo/\lo<=rows.length then some (.u (.one (.sub s sz lo.toNat rows.length))) else none:=rfl
def spR (te:Option TI) (s sz a m:Nat) (n:Int) (sz' len:Nat):Option V:=match te with
 | some te=>if sz=te.size/\sz'=sz/\0<=n/\a+n.toNat < m/\m<=len then some (.u (.one (.elt s (a+n.toNat) sz 0))) else none
 | none=>none
def spO (tb:Tb) (d:TypeDesc) (s sz a m:Nat) (n:Int) (ob:Option Ob):Option V:=match d,ob with
 | .slice e,some (.row sz' _ rows)=>spR (tb.ty e) s sz a m n sz' rows.length
 | _,_=>none
def spD (tb:Tb) (ti:Option TI) (s sz a m:Nat) (n:Int) (ob:Option Ob):Option V:=match ti with
 | some ti=>spO tb ti.desc s sz a m n ob
 | none=>none
theorem qidxP_sub (t:TypeId) (s sz a m:Nat) (k:IntKind) (n:Int):qidxP tb O t (.u (.one (.sub s sz a m))) (.u (.one (.d (.int k n))))=spD tb (tb.ty t) s sz a m n (O s):=by
 unfold qidxP spD
 rcases tb.ty t with _ | ti
 ·rfl
 dsimp only
 unfold spO
 cases ti.desc with
 | slice e =>
  rcases O s with _ | o
  ·rfl
  cases o with
  | row sz' e' rows =>
   dsimp only
   unfold spR
   rcases tb.ty e with _ | te<;>rfl
  | _=>rfl
 | _=>rfl
theorem spD_some (ti:TI) (s sz a m:Nat) (n:Int) (ob:Option Ob):spD tb (some ti) s sz a m n ob=spO tb ti.desc s sz a m n ob:=rfl
theorem spO_row (e:TypeId) (s sz a m:Nat) (n:Int) (sz' e':Nat) (rows:List (List L)):spO tb (.slice e) s sz a m n (some (.row sz' e' rows))=spR (tb.ty e) s sz a m n sz' rows.length:=rfl
theorem spR_some (te:TI) (s sz a m:Nat) (n:Int) (sz' len:Nat):spR (some te) s sz a m n sz' len=if sz=te.size/\sz'=sz/\inP a m len n=true then some (.u (.one (.elt s (a+n.toNat) sz 0))) else none:=by simp[spR,inP]
end
def C.nrm:C->C
 | .d (.ref xs o)=>.ref xs o
 | c=>c
def V.nrm:V->V
 | .u (.one c)=>.u (.one c.nrm)
 | v=>v
theorem vsim_nrm {φ:Nat->Value} {w:World} {F:Nat->Prop} {v:V} {u:Value} (h:bn φ w F v u):bn φ w F v.nrm u:=by
 unfold V.nrm
 split
 ·rename_i c
  unfold C.nrm
  split
  ·simpa only [bn,bD,bl,rep] using h
  ·exact h
 ·exact h
theorem bj.us {P:Program} {f:FuncId} {us us':List V} {v:V} (h:bj P f us v) (e:us=us'):bj P f us' v:=e ▸ h
theorem bj.nrm {P:Program} {f:FuncId} {us us':List V} {v:V} (h:bj P f us v) (he:us'.map V.nrm=us):bj P f us' v:=by
 subst he
 obtain⟨h1,h2⟩:=h
 refine⟨h1,fun φ w F hF vals hl hv=>h2 φ w F hF vals (by simpa using hl) fun i x u hx hu=>?_⟩
 rw[List.getElem?_map] at hx
 cases hy:us'[i]? with
 | none=>rw[hy] at hx; cases hx
 | some y =>
  rw[hy] at hx
  cases hx
  exact vsim_nrm (hv i y u hy hu)
theorem cwipe_opq (d:Nat) (u:Value):C.wipe d (.opq u)=.opq u:=rfl
theorem cwipe_sub (d t z a n:Nat):C.wipe d (.sub t z a n)=if t=d then .top else .sub t z a n:=rfl
theorem cwk_sub (t z a n:Nat):C.wk (.sub t z a n) (.sub t z a n)↔True:=iff_of_true (C.wk_refl _) trivial
attribute [simp] nels_setw nZ hrl hoq kr cwipe_opq cwipe_sub cwk_sub qlen_sub qslice_own qindex_sub qsubO_l qsubO_h sbD_some sbO_row sbH_h sbH_n qidxP_sub spD_some spO_row spR_some subRow_map preRow_map
end Go.AM
