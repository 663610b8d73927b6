/- Objects that hold rows of their own: what the generated proofs use. -/
import Derived.Test.YtpeabgakdpojlaaGreatDoorAmW
namespace Go.AM
open Go.RowKit
section
variable {cx:Cx} {Z:Env} {O:Sto}
theorem Wk.toN {α:Type} (s:Nat) (e ie:TypeId) (sz:Nat) (f:α->Ak) (k:Nat) (hs:O s=some (.row 1 e (List.replicate k [.nil]))) (hd:s<inBase) :
  Wk cx Z O Z (upd O s (some (.nest (.row e) ie sz (fo f (List.replicate k []))))):=by intro φ a w h;rw[nels_rep];obtain⟨ψ,h1,h2⟩:=h.core.toN (ie:=ie) (sz:=sz) hs hd;exact⟨ψ,h1,λt=>h2 _ _ (h.slots t),h.defers,h.room⟩
theorem Wk.focN {α:Type} (s d:Nat) (e:NSp) (ie:TypeId) (sz:Nat) (f:α->Ak) (l:List (List α)) (r:List α) {i:Int} (hs:O s=some (.nest e ie sz (fo f l))) (g:idx l i=some r) (hd:d<inBase) (hsd:s≠d) :
  Wk cx Z O (eY d Z) (upd (upd (cJ d O) s (some (.nest e ie sz ((fo f l).set i.toNat (.own d))))) d (some (.row sz ie (r.map f)))):=by
 intro φ a w h;obtain⟨φ',_,_,_,_,_,_,_,_,_,_,_,h1,_,h2⟩:=h.core.focus (i:=i.toNat) hs (by unfold fo;rw[List.getElem?_map,ch g];rfl) hd hsd;have he:fcS s d i.toNat e ie sz (fo f l) (r.map f) O=upd (upd (cJ d O) s (some (.nest e ie sz ((fo f l).set i.toNat (.own d))))) d (some (.row sz ie (r.map f))):=by unfold fcS;rw[nels_wipe]
 rw[he] at h1 h2;exact⟨φ',h1,λt=>h2 _ _ (h.slots t),h.defers,h.room⟩
theorem Wk.unfN {α:Type} (s t i:Nat) (e:NSp) (ie:TypeId) (sz:Nat) (f:α->Ak) (l:List (List α)) (r:List α) (hs:O s=some (.nest e ie sz ((fo f l).set i (.own t)))) (hi:i<l.length) (ht:O t=some (.row sz ie (r.map f))) (hd:t<inBase) :
  Wk cx Z O (eY t Z) (upd (upd (cJ t O) s (some (.nest e ie sz (fo f (l.set i r))))) t (some (.row sz ie []))):=by
 intro φ a w h;obtain⟨ψ,h1,h2⟩:=h.core.unfocus (i:=i) hs (List.getElem?_set_self (by rw[rY];exact hi)) ht hd;have he:ufS s t i e ie sz ((fo f l).set i (.own t)) (r.map f) O=upd (upd (cJ t O) s (some (.nest e ie sz (fo f (l.set i r))))) t (some (.row sz ie [])):=by unfold ufS;rw[List.map_set,List.set_set,nels_wipe,nels_set]
 rw[he] at h1 h2;exact⟨ψ,h1,λt=>h2 _ _ (h.slots t),h.defers,h.room⟩
theorem Wk.unfS {α:Type} (s t:Nat) (e:NSp) (ie:TypeId) (sz:Nat) (f:α->Ak) (l:List (List α)) (r:List α) {i:Int} (hs:O s=some (.nest e ie sz ((fo f l).set i.toNat (.own t)))) (g:idx l i=some r) (ht:O t=some (.row sz ie (r.map f))) (hd:t<inBase) :
  Wk cx Z O (eY t Z) (upd (upd (cJ t O) s (some (.nest e ie sz (fo f l)))) t (some (.row sz ie []))):=by have h:=Wk.unfN (cx:=cx) (Z:=Z) s t i.toNat e ie sz f l r hs (fJ g) ht hd;rwa [gU (ch g)] at h
end
section
variable {α:Type} {f:α->Ak} {l:List (List α)} {i:Int} {r:List α}
theorem nels_idxs (g:idx l i=some r):(∀t,idx ((fo f l).set i.toNat (.own t)) i=some (.own t))/\∀t,((fo f l).set i.toNat (.own t))[i.toNat]?=some (.own t):=by have h:∀t,((fo f l).set i.toNat (.own t))[i.toNat]?=some (.own t):=λt=>List.getElem?_set_self (by rw[rY];exact fJ g);simp_all[idx]
theorem idx_lt2 (g:idx l i=some r):i.toNat<l.length:=fJ g
theorem lenL_nels:br (fo f l)=br l:=by simp[br,rY]
end
theorem Ob_wk_nest (e:NSp) (ie:TypeId) (sz:Nat) (els:List NE) (o:Ob):Ob.wk (.nest e ie sz els) o=(o=.nest e ie sz els):=by cases o<;>rfl
attribute [simp] Ob_wk_nest nels_wipe nels_ren nels_closed rY newipe_own lenL_nels
