/- Objects that hold rows of their own: what the generated proofs use. -/
import Derived.Test.YtopmhknobhmbgaaGreatDoorAmW
namespace Go.AM
open Go.RowKit
section
variable {cx:Cx} {Z:Env} {O:Sto}
theorem Wk.toN {α:Type} (s:Nat) (e ie:TypeId) (sz:Nat) (f:α->Ai) (k:Nat) (hs:O s=some (.row 1 e (List.replicate k [.nil]))) (hd:s<inBase) :
  Wk cx Z O Z (upd O s (some (.nest (.row e) ie sz (fp f (List.replicate k []))))):=by intro φ a w h;rw[nels_rep];obtain⟨ψ,h1,h2⟩:=h.core.toN (ie:=ie) (sz:=sz) hs hd;exact⟨ψ,h1,λt=>h2 _ _ (h.slots t),h.defers,h.room⟩
theorem Wk.focN {α:Type} (s d:Nat) (e:NSp) (ie:TypeId) (sz:Nat) (f:α->Ai) (l:List (List α)) (r:List α) {i:Int} (hs:O s=some (.nest e ie sz (fp f l))) (g:idx l i=some r) (hd:d<inBase) (hsd:s≠d) :
  Wk cx Z O (du d Z) (upd (upd (cp d O) s (some (.nest e ie sz ((fp f l).set i.toNat (.own d))))) d (some (.row sz ie (r.map f)))):=by
 intro φ a w h;obtain⟨φ',_,_,_,_,_,_,_,_,_,_,_,h1,_,h2⟩:=h.core.focus (i:=i.toNat) hs (by unfold fp;rw[List.getElem?_map,cJ g];rfl) hd hsd;have he:fcS s d i.toNat e ie sz (fp f l) (r.map f) O=upd (upd (cp d O) s (some (.nest e ie sz ((fp f l).set i.toNat (.own d))))) d (some (.row sz ie (r.map f))):=by unfold fcS;rw[nels_wipe]
 rw[he] at h1 h2;exact⟨φ',h1,λt=>h2 _ _ (h.slots t),h.defers,h.room⟩
theorem Wk.unfN {α:Type} (s t i:Nat) (e:NSp) (ie:TypeId) (sz:Nat) (f:α->Ai) (l:List (List α)) (r:List α) (hs:O s=some (.nest e ie sz ((fp f l).set i (.own t)))) (hi:i<l.length) (ht:O t=some (.row sz ie (r.map f))) (hd:t<inBase) :
  Wk cx Z O (du t Z) (upd (upd (cp t O) s (some (.nest e ie sz (fp f (l.set i r))))) t (some (.row sz ie []))):=by
 intro φ a w h;obtain⟨ψ,h1,h2⟩:=h.core.unfocus (i:=i) hs (List.getElem?_set_self (by rw[qb];exact hi)) ht hd;have he:ufS s t i e ie sz ((fp f l).set i (.own t)) (r.map f) O=upd (upd (cp t O) s (some (.nest e ie sz (fp f (l.set i r))))) t (some (.row sz ie [])):=by unfold ufS;rw[List.map_set,List.set_set,nels_wipe,nels_set]
 rw[he] at h1 h2;exact⟨ψ,h1,λt=>h2 _ _ (h.slots t),h.defers,h.room⟩
theorem Wk.unfS {α:Type} (s t:Nat) (e:NSp) (ie:TypeId) (sz:Nat) (f:α->Ai) (l:List (List α)) (r:List α) {i:Int} (hs:O s=some (.nest e ie sz ((fp f l).set i.toNat (.own t)))) (g:idx l i=some r) (ht:O t=some (.row sz ie (r.map f))) (hd:t<inBase) :
  Wk cx Z O (du t Z) (upd (upd (cp t O) s (some (.nest e ie sz (fp f l)))) t (some (.row sz ie []))):=by have h:=Wk.unfN (cx:=cx) (Z:=Z) s t i.toNat e ie sz f l r hs (iF g) ht hd;rwa [gU (cJ g)] at h
end
section
variable {α:Type} {f:α->Ai} {l:List (List α)} {i:Int} {r:List α}
theorem nels_idxs (g:idx l i=some r):(∀t,idx ((fp f l).set i.toNat (.own t)) i=some (.own t))/\∀t,((fp f l).set i.toNat (.own t))[i.toNat]?=some (.own t):=by have h:∀t,((fp f l).set i.toNat (.own t))[i.toNat]?=some (.own t):=λt=>List.getElem?_set_self (by rw[qb];exact iF g);simp_all[idx]
theorem idx_lt2 (g:idx l i=some r):i.toNat<l.length:=iF g
theorem lenL_nels:bi (fp f l)=bi l:=by simp[bi,qb]
theorem fullV_sl (sz sz':Nat) (rows:A7):fullV sz (.u (.one (.d (.sl sz' rows))))=none:=rfl
theorem fullV_own (sz s:Nat):fullV sz (.u (.one (.own s)))=none:=rfl
theorem fullV_nil (sz:Nat):fullV sz (.u (.one (.d .nil)))=none:=rfl
end
theorem Ob_wk_nest (e:NSp) (ie:TypeId) (sz:Nat) (els:List NE) (o:Ob):Ob.wk (.nest e ie sz els) o=(o=.nest e ie sz els):=by cases o<;>rfl
attribute [simp] Ob_wk_nest nels_wipe nels_ren nels_closed qb newipe_own fcS_apply lenL_nels fullV_sl fullV_own fullV_nil
