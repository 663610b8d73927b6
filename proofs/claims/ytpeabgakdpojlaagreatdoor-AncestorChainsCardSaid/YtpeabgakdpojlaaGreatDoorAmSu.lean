/- Lemmas for the law. -/
import Derived.Test.YtpeabgakdpojlaaGreatDoorAmNa
import Derived.Test.YtpeabgakdpojlaaGreatDoorAmHo
import Derived.Test.YtpeabgakdpojlaaGreatDoorAmSc
namespace Go.AM
open Go.RowKit
section
variable {I:Type}
def subL (l:List I) (a n:Nat):List I:=(l.take n).drop a
def iJ (l:List I) (n:Nat) (r:List I):List I:=l.take n++r++l.drop (n+r.length)
def rl (l:List I) (lo hi:Int):Option Unit:=bif decide (0<=lo/\lo<=hi/\hi<=(l.length:Int))then some ()else none
def lenK (l:List I) (n:Nat):Option Unit:=bif decide (n<=l.length)then some ()else none
def inP (a n len:Nat) (i:Int):Bool:=decide (0<=i/\a+i.toNat<n/\n<=len)
def idxP (l:List I) (a n:Nat) (i:Int):Option I:=bif decide (0<=i/\a+i.toNat<n/\n<=l.length)then l[a+i.toNat]? else none
def lenP (a n:Nat):Int:=((n-a:Nat):Int)
theorem subRow_map (f:I->Ak) (l:List I) (a n:Nat):subRow (l.map f) a n=(subL l a n).map f:=by simp[subRow,subL,List.map_drop,List.map_take]
theorem preRow_map (f:I->Ak) (l:List I) (n:Nat) (r:List I):preRow (l.map f) n (r.map f)=(iJ l n r).map f:=by simp[preRow,iJ,List.map_drop,List.map_take]
theorem oP {l:List I} {lo hi:Int} {u:Unit} (h:rl l lo hi=some u):0<=lo/\lo<=hi/\hi<=(l.length:Int):=by grind[rl]
theorem lenK_ok {l:List I} {n:Nat} {u:Unit} (h:lenK l n=some u):n<=l.length:=by grind[lenK]
theorem idxP_ok {l:List I} {a n:Nat} {i:Int} {x:I} (h:idxP l a n i=some x):inP a n l.length i=true/\l[a+i.toNat]?=some x:=by unfold idxP at h;by_cases hc:0<=i/\a+i.toNat<n/\n<=l.length;{simp only[hc,and_self,decide_true,cond_true] at h;exact⟨decide_eq_true hc,h⟩};{simp[hc] at h}
end
theorem idxP_ok0 {I:Type} {l:List I} {n:Nat} {i:Int} {x:I} (h:idxP l 0 n i=some x):inP 0 n l.length i=true/\l[i.toNat]?=some x:=by grind[idxP_ok]
theorem nels_setw {I:Type} {f:I->Ak} {l:List (List I)} (d i t:Nat):List.map (NE.wipe d) ((ft f l).set i (.own t))=(ft f l).set i (if t=d then .dead else .own t):=by simp
def ckB (b:Bool):Option Unit:=bif b then some ()else none
theorem ckB_ok {b:Bool} {u:Unit} (h:ckB b=some u):b=true:=by grind[ckB]
theorem ckB_ne {a b:Int} {u:Unit} (h:ckB (neB a b)=some u):¬ a=b:=by simpa [neB] using ckB_ok h
section
variable {tb:Tb} {O:Sto}
theorem qlen_sub (s z a n:Nat):qlen O (.u (.one (.sub s z a n)))=some (lenP a n):=rfl
theorem qslice_own (t:TypeId) (s:Nat) (lo hi:At):qslice tb t (.u (.one (.own s))) lo hi none=none:=by simp[qslice]
theorem qindex_sub (t:TypeId) (s z a n:Nat) (i:V):pH tb O t (.u (.one (.sub s z a n))) i=none:=by unfold pH;grind
def sbH (te:Option TI) (s sz:Nat) (rows:A8) (lo:Int) (hi:AB):At:=match te,hi with|some te,some h=>if sz=te.size/\0<=lo/\lo<=h/\h<=rows.length then some (.u (.one (.sub s sz lo.toNat h.toNat)))else none|some te,none=>if sz=te.size/\0<=lo/\lo<=rows.length then some (.u (.one (.sub s sz lo.toNat rows.length)))else none|none,_=>none
def sbO (tb:Tb) (d:TypeDesc) (s:Nat) (lo:Int) (hi:AB) (ob:Ab):At:=match d,ob with|.slice e,some (.row sz _ rows)=>sbH (tb.ty e) s sz rows lo hi|_,_=>none
def sbD (tb:Tb) (ti:Option TI) (s:Nat) (lo:Int) (hi:AB) (ob:Ab):At:=match ti with|some ti=>sbO tb ti.desc s lo hi ob|none=>none
theorem qsubO_eq (t:TypeId) (s:Nat) (lo hi:At) (l:Int) (h:AB) (hl:oy 0 lo=some l) (hh:∀n:Nat,oy n hi=some (h.getD n)):qsubO tb O t (.u (.one (.own s))) lo hi none=sbD tb (tb.ty t) s l h (O s):=by
 unfold qsubO sbD;rcases tb.ty t with _|ti;{rfl};dsimp only;unfold sbO;cases ti.desc with
 |slice e=>
  rcases O s with _|o;{rfl};cases o with
  |row sz e' rows=>dsimp only;unfold sbH;grind|_=>rfl
 |_=>rfl
theorem qsubO_l (t:TypeId) (s:Nat) (k:IntKind) (lo:Int):qsubO tb O t (.u (.one (.own s))) (some (.u (.one (.d (.int k lo))))) none none=sbD tb (tb.ty t) s lo none (O s):=qsubO_eq t s _ _ lo none rfl (λ_=>rfl)
theorem qsubO_h (t:TypeId) (s:Nat) (k:IntKind) (hi:Int):qsubO tb O t (.u (.one (.own s))) none (some (.u (.one (.d (.int k hi))))) none=sbD tb (tb.ty t) s 0 (some hi) (O s):=qsubO_eq t s _ _ 0 (some hi) rfl (λ_=>rfl)
theorem sbD_some (ti:TI) (s:Nat) (lo:Int) (hi:AB) (ob:Ab):sbD tb (some ti) s lo hi ob=sbO tb ti.desc s lo hi ob:=rfl
theorem sbO_row (e:TypeId) (s:Nat) (lo:Int) (hi:AB) (sz e':Nat) (rows:A8):sbO tb (.slice e) s lo hi (some (.row sz e' rows))=sbH (tb.ty e) s sz rows lo hi:=rfl
theorem sbH_h (te:TI) (s sz:Nat) (rows:A8) (lo hi:Int):sbH (some te) s sz rows lo (some hi)=if sz=te.size/\0<=lo/\lo<=hi/\hi<=rows.length then some (.u (.one (.sub s sz lo.toNat hi.toNat)))else none:=rfl
theorem sbH_n (te:TI) (s sz:Nat) (rows:A8) (lo:Int):sbH (some te) s sz rows lo none=if sz=te.size/\0<=lo/\lo<=rows.length then some (.u (.one (.sub s sz lo.toNat rows.length)))else none:=rfl
def spR (te:Option TI) (s sz a m:Nat) (n:Int) (sz' len:Nat):At:=match te with|some te=>if sz=te.size/\sz'=sz/\0<=n/\a+n.toNat<m/\m<=len then some (.u (.one (.elt s (a+n.toNat) sz 0)))else none|none=>none
def spO (tb:Tb) (d:TypeDesc) (s sz a m:Nat) (n:Int) (ob:Ab):At:=match d,ob with|.slice e,some (.row sz' _ rows)=>spR (tb.ty e) s sz a m n sz' rows.length|_,_=>none
def spD (tb:Tb) (ti:Option TI) (s sz a m:Nat) (n:Int) (ob:Ab):At:=match ti with|some ti=>spO tb ti.desc s sz a m n ob|none=>none
theorem qidxP_sub (t:TypeId) (s sz a m:Nat) (k:IntKind) (n:Int):qidxP tb O t (.u (.one (.sub s sz a m))) (.u (.one (.d (.int k n))))=spD tb (tb.ty t) s sz a m n (O s):=by unfold qidxP spD;grind[spO,spR]
theorem spD_some (ti:TI) (s sz a m:Nat) (n:Int) (ob:Ab):spD tb (some ti) s sz a m n ob=spO tb ti.desc s sz a m n ob:=rfl
theorem spO_row (e:TypeId) (s sz a m:Nat) (n:Int) (sz' e':Nat) (rows:A8):spO tb (.slice e) s sz a m n (some (.row sz' e' rows))=spR (tb.ty e) s sz a m n sz' rows.length:=rfl
theorem spR_some (te:TI) (s sz a m:Nat) (n:Int) (sz' len:Nat):spR (some te) s sz a m n sz' len=if sz=te.size/\sz'=sz/\inP a m len n=true then some (.u (.one (.elt s (a+n.toNat) sz 0)))else none:=by simp[spR,inP]
end
def C.nrm:C->C|.d (.ref xs o)=>.ref xs o|c=>c
def V.nrm:V->V|.u (.one c)=>.u (.one c.nrm)|v=>v
theorem vsim_nrm {E:A7} {w:World} {F:Ad} {v:V} {u:Value} (h:bI E w F v u):bI E w F v.nrm u:=by unfold V.nrm;split;{rename_i c;unfold C.nrm;grind[bI,ct,bG,rep]};{exact h}
theorem bA.us {P:Program} {f:FuncId} {us us':Ao} {v:V} (h:bA P f us v) (e:us=us'):bA P f us' v:=e ▸ h
theorem bA.nrm {P:Program} {f:FuncId} {us us':Ao} {v:V} (h:bA P f us v) (he:us'.map V.nrm=us):bA P f us' v:=by subst he;obtain⟨h1,h2⟩:=h;refine⟨h1,λE w F hF vals hl hv=>h2 E w F hF vals (by simpa using hl) λi x u hx hu=>?_⟩;grind[vsim_nrm]
theorem cwipe_opq (d:Nat) (u:Value):C.wipe d (.opq u)=.opq u:=rfl
theorem cwipe_sub (d t z a n:Nat):C.wipe d (.sub t z a n)=if t=d then .top else .sub t z a n:=rfl
theorem cwk_sub (t z a n:Nat):C.wk (.sub t z a n) (.sub t z a n)↔True:=iff_of_true (C.wk_refl _) trivial
attribute [simp] nels_setw sN hrl hoq o8 cwipe_opq cwipe_sub cwk_sub qlen_sub qslice_own qindex_sub qsubO_l qsubO_h sbD_some sbO_row sbH_h sbH_n qidxP_sub spD_some spO_row spR_some subRow_map preRow_map
