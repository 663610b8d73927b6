/- Lemmas for the law. -/
import Derived.Test.YtpeabgakdpojlaaGreatDoorAmW
namespace Go.AM
open Go.RowKit
section
variable {cx:Cx} {Z:Env} {O:Sto}
theorem Wk.toN {I:Type} (s:Nat) (e ie:TypeId) (sz:Nat) (f:I->Ak) (k:Nat) (hs:O s=some (.row 1 e (List.replicate k [.nil]))) (hd:s<inBase) :
  Wk cx Z O Z (upd O s (some (.nest (.row e) ie sz (ft f (List.replicate k []))))):=by intro E a w h;rw[nels_rep];obtain⟨J,h1,h2⟩:=h.core.toN (ie:=ie) (sz:=sz) hs hd;exact⟨J,h1,λt=>h2 _ _ (h.slots t),h.defers,h.room⟩
theorem Wk.focN {I:Type} (s d:Nat) (e:NSp) (ie:TypeId) (sz:Nat) (f:I->Ak) (l:List (List I)) (r:List I) {i:Int} (hs:O s=some (.nest e ie sz (ft f l))) (g:idx l i=some r) (hd:d<inBase) (hsd:s≠d) :
  Wk cx Z O (eY d Z) (upd (upd (cM d O) s (some (.nest e ie sz ((ft f l).set i.toNat (.own d))))) d (some (.row sz ie (r.map f)))):=by
 intro E a w h;obtain⟨E',_,_,_,_,_,_,_,_,_,_,_,h1,_,h2⟩:=h.core.focus (i:=i.toNat) hs (by unfold ft;rw[List.getElem?_map,ci g];rfl) hd hsd;have he:fcS s d i.toNat e ie sz (ft f l) (r.map f) O=upd (upd (cM d O) s (some (.nest e ie sz ((ft f l).set i.toNat (.own d))))) d (some (.row sz ie (r.map f))):=by unfold fcS;rw[nels_wipe]
 rw[he] at h1 h2;exact⟨E',h1,λt=>h2 _ _ (h.slots t),h.defers,h.room⟩
theorem Wk.unfN {I:Type} (s t i:Nat) (e:NSp) (ie:TypeId) (sz:Nat) (f:I->Ak) (l:List (List I)) (r:List I) (hs:O s=some (.nest e ie sz ((ft f l).set i (.own t)))) (hi:i<l.length) (ht:O t=some (.row sz ie (r.map f))) (hd:t<inBase) :
  Wk cx Z O (eY t Z) (upd (upd (cM t O) s (some (.nest e ie sz (ft f (l.set i r))))) t (some (.row sz ie []))):=by
 intro E a w h;obtain⟨J,h1,h2⟩:=h.core.unfocus (i:=i) hs (List.getElem?_set_self (by rw[sf];exact hi)) ht hd;have he:ufS s t i e ie sz ((ft f l).set i (.own t)) (r.map f) O=upd (upd (cM t O) s (some (.nest e ie sz (ft f (l.set i r))))) t (some (.row sz ie [])):=by unfold ufS;rw[List.map_set,List.set_set,nels_wipe,nels_set]
 rw[he] at h1 h2;exact⟨J,h1,λt=>h2 _ _ (h.slots t),h.defers,h.room⟩
theorem Wk.unfS {I:Type} (s t:Nat) (e:NSp) (ie:TypeId) (sz:Nat) (f:I->Ak) (l:List (List I)) (r:List I) {i:Int} (hs:O s=some (.nest e ie sz ((ft f l).set i.toNat (.own t)))) (g:idx l i=some r) (ht:O t=some (.row sz ie (r.map f))) (hd:t<inBase) :
  Wk cx Z O (eY t Z) (upd (upd (cM t O) s (some (.nest e ie sz (ft f l)))) t (some (.row sz ie []))):=by have h:=Wk.unfN (cx:=cx) (Z:=Z) s t i.toNat e ie sz f l r hs (fO g) ht hd;rwa [i6 (ci g)] at h
end
section
variable {I:Type} {f:I->Ak} {l:List (List I)} {i:Int} {r:List I}
theorem nels_idxs (g:idx l i=some r):(∀t,idx ((ft f l).set i.toNat (.own t)) i=some (.own t))/\∀t,((ft f l).set i.toNat (.own t))[i.toNat]?=some (.own t):=by have h:∀t,((ft f l).set i.toNat (.own t))[i.toNat]?=some (.own t):=λt=>List.getElem?_set_self (by rw[sf];exact fO g);simp_all[idx]
theorem idx_lt2 (g:idx l i=some r):i.toNat<l.length:=fO g
theorem lenL_nels:br (ft f l)=br l:=by simp[br,sf]
end
theorem Ob_wk_nest (e:NSp) (ie:TypeId) (sz:Nat) (els:List NE) (o:Ob):Ob.wk (.nest e ie sz els) o=(o=.nest e ie sz els):=by cases o<;>rfl
attribute [simp] Ob_wk_nest nels_wipe nels_ren nels_closed sf newipe_own lenL_nels
