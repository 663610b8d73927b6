/- Plain laws: rule trees: the program's check and the reference's, and whether zeros lead to zero. -/
import Derived.Test.YtfpjnmhdbgbmmaaGreatDoorPlx1
namespace Go.Proofs.YtfpjnmhdbgbmmaaGreatDoor
open Go.AM Go.Proofs
structure Sz (t : Tree) : Prop where
 hood : t.Hood.length < 1099511627776
 nodes : t.Nodes.length < 1099511627776
 next : ∀ x ∈ t.Nodes, x.Next.length < 1099511627776
def lowOk (t : Tree) (x : Node) (k : Int) : Bool := match t.Nodes[k.toNat]? with
 | some y => neB y.Level (aC .i64 x.Level 1)
 | none => true
def badE (t : Tree) (i : Int) (x : Node) (k : Int) : Bool := ltB k 0 || ((eqB x.Level 1 && geB k t.States) || (gtB x.Level 1 && (geB k i || lowOk t x k)))
def badN (t : Tree) (i : Nat) (x : Node) : Bool := ltB x.Level 1 || (gtB x.Level (ah t.Hood) || (neB (ah x.Next) t.States || anyB (fun _ k => badE t (i : Nat) x k) x.Next 0))
def rootOk (t : Tree) : Bool := match t.Nodes[t.Nodes.length - 1]? with
 | some x => eqB x.Level (ah t.Hood)
 | none => false
def kq (t : Tree) : Bool := !(ltB t.States 2 || (gtB t.States 8 || (!ja t.Hood || (ltB (ah t.Nodes) 1 || gtB (ah t.Nodes) 4096)))) && (!anyB (badN t) t.Nodes 0 && rootOk t)
section
variable {t : Tree} {n : Nat} {x : Node}
theorem low_get (hn : n < t.Nodes.length) {k : Int} (h0 : ltB k 0 = false) (h1 : geB k (n : Nat) = false) : ∃ y, idx t.Nodes k = some y ∧ lowOk t x k = neB y.Level (aC .i64 x.Level 1) := by
 simp only [ltB, geB, decide_eq_false_iff_not, Int.not_lt, ge_iff_le, Int.not_le] at h0 h1
 have hk : k.toNat < t.Nodes.length := by omega
 refine ⟨t.Nodes[k.toNat], ?_, ?_⟩
 ·rw [idx_int _ h0]; exact List.getElem?_eq_getElem hk
 ·unfold lowOk
  rw [List.getElem?_eq_getElem hk]
theorem inner_eq (hn : n < t.Nodes.length) (hx : x.Next.length < 1099511627776) : ak (eg t (n : Nat) x) aA 0 = some (bif anyB (fun _ k => badE t (n : Nat) x k) x.Next 0 then .inl false else .inr ()) := by
 refine loop_any x.Next (fun _ k => badE t (n : Nat) x k) false hx (fun i k hk => ?_) ?_
 ·unfold eg badE
  dsimp only
  rw [ltB_nat, decide_eq_true (aR hk), cond_true, idx_nat, hk, up_nat (Nat.lt_trans (aR hk) hx)]
  simp only [some_bind]
  cases h0 : ltB k 0 with
  | true => rfl
  | false =>
   cases h1 : geB k (n : Nat) with
   | true => cases eqB x.Level 1 <;> cases geB k t.States <;> cases gtB x.Level 1 <;> rfl
   | false =>
    obtain ⟨y, hy, hl⟩ := low_get (x := x) hn h0 h1
    rw [hy, hl]
    simp only [some_bind]
    cases eqB x.Level 1 <;> cases geB k t.States <;> cases gtB x.Level 1 <;> cases neB y.Level (aC .i64 x.Level 1) <;> rfl
 ·unfold eg
  dsimp only
  rw [ltB_nat, decide_eq_false (Nat.lt_irrefl _)]
  rfl
theorem innerR_eq (hn : n < t.Nodes.length) (hx : x.Next.length < 1099511627776) (hl : ah x.Next = t.States) : ak (eW t (n : Nat) x) aA 0 = some (bif anyB (fun _ k => badE t (n : Nat) x k) x.Next 0 then .inl false else .inr ()) := by
 refine loop_any x.Next (fun _ k => badE t (n : Nat) x k) false hx (fun i k hk => ?_) ?_
 ·unfold eW badE
  dsimp only
  rw [← hl, ltB_nat, decide_eq_true (aR hk), cond_true, idx_nat, hk, up_nat (Nat.lt_trans (aR hk) hx)]
  simp only [some_bind]
  cases h0 : ltB k 0 with
  | true => rfl
  | false =>
   cases h1 : geB k (n : Nat) with
   | true => cases eqB x.Level 1 <;> cases geB k (ah x.Next) <;> cases gtB x.Level 1 <;> rfl
   | false =>
    obtain ⟨y, hy, hl⟩ := low_get (x := x) hn h0 h1
    rw [hy, hl]
    simp only [some_bind]
    cases eqB x.Level 1 <;> cases geB k (ah x.Next) <;> cases gtB x.Level 1 <;> cases neB y.Level (aC .i64 x.Level 1) <;> rfl
 ·unfold eW
  dsimp only
  rw [← hl, ltB_nat, decide_eq_false (Nat.lt_irrefl _)]
  rfl
theorem outer_eq (hs : Sz t) : ak (dZ t) aA 0 = some (bif anyB (badN t) t.Nodes 0 then .inl false else .inr ()) := by
 refine loop_any t.Nodes (badN t) false hs.nodes (fun i x hx => ?_) ?_
 ·unfold dZ badN
  dsimp only
  rw [ltB_nat, decide_eq_true (aR hx), cond_true, idx_nat, hx, up_nat (Nat.lt_trans (aR hx) hs.nodes)]
  simp only [some_bind, inner_eq (aR hx) (hs.next x (List.mem_of_getElem? hx))]
  cases ltB x.Level 1 <;> cases gtB x.Level (ah t.Hood) <;> cases neB (ah x.Next) t.States <;> cases anyB (fun _ k => badE t (i : Nat) x k) x.Next 0 <;> rfl
 ·unfold dZ
  dsimp only
  rw [ltB_nat, decide_eq_false (Nat.lt_irrefl _)]
  rfl
theorem outerR_eq (hs : Sz t) : ak (f4 t) aA 0 = some (bif anyB (badN t) t.Nodes 0 then .inl false else .inr ()) := by
 refine loop_any t.Nodes (badN t) false hs.nodes (fun i x hx => ?_) ?_
 ·unfold f4 badN
  dsimp only
  rw [ltB_nat, decide_eq_true (aR hx), cond_true, idx_nat, hx, up_nat (Nat.lt_trans (aR hx) hs.nodes)]
  simp only [some_bind]
  cases hne : neB (ah x.Next) t.States with
  | true => cases ltB x.Level 1 <;> cases gtB x.Level (ah t.Hood) <;> rfl
  | false =>
   rw [innerR_eq (aR hx) (hs.next x (List.mem_of_getElem? hx)) (by simpa [neB] using hne)]
   cases ltB x.Level 1 <;> cases gtB x.Level (ah t.Hood) <;> cases anyB (fun _ k => badE t (i : Nat) x k) x.Next 0 <;> rfl
 ·unfold f4
  dsimp only
  rw [ltB_nat, decide_eq_false (Nat.lt_irrefl _)]
  rfl
theorem root_get (hs : Sz t) (h : ltB (ah t.Nodes) 1 = false) : ∃ x, idx t.Nodes (aC .i64 (ah t.Nodes) 1) = some x ∧ rootOk t = eqB x.Level (ah t.Hood) := by
 have h3 : 0 < t.Nodes.length := by
  have := of_decide_eq_false h
  unfold ah at this
  omega
 have h2 := hs.nodes
 obtain ⟨m, hm⟩ : ∃ m, t.Nodes.length = m + 1 := ⟨t.Nodes.length - 1, by omega⟩
 have hlt : m < t.Nodes.length := by omega
 refine ⟨t.Nodes[m], ?_, ?_⟩
 ·unfold ah
  rw [hm, dn_nat (by omega), idx_nat]
  exact List.getElem?_eq_getElem hlt
 ·unfold rootOk
  rw [show t.Nodes.length - 1 = m by omega, List.getElem?_eq_getElem hlt]
theorem neB_eqB (a b : Int) : neB a b = !eqB a b := rfl
theorem tree_eq (hs : Sz t) : bZ t = some (kq t) := by
 unfold bZ kq
 rw [outer_eq hs, hood_eq hs.hood]
 simp only [some_bind]
 cases hl : ltB (ah t.Nodes) 1 with
 | true => cases ltB t.States 2 <;> cases gtB t.States 8 <;> cases ja t.Hood <;> rfl
 | false =>
  obtain ⟨x, hx, hr⟩ := root_get hs hl
  rw [hx, hr]
  simp only [some_bind, neB_eqB]
  cases ltB t.States 2 <;> cases gtB t.States 8 <;> cases ja t.Hood <;> cases gtB (ah t.Nodes) 4096 <;> cases eqB x.Level (ah t.Hood) <;> cases anyB (badN t) t.Nodes 0 <;> rfl
theorem treeR_eq (hs : Sz t) : fm t = some (kq t) := by
 unfold fm kq
 rw [outerR_eq hs, hoodR_eq hs.hood]
 simp only [some_bind]
 cases hl : ltB (ah t.Nodes) 1 with
 | true => cases ltB t.States 2 <;> cases gtB t.States 8 <;> cases ja t.Hood <;> rfl
 | false =>
  obtain ⟨x, hx, hr⟩ := root_get hs hl
  rw [hx, hr]
  simp only [some_bind]
  cases ltB t.States 2 <;> cases gtB t.States 8 <;> cases ja t.Hood <;> cases gtB (ah t.Nodes) 4096 <;> cases eqB x.Level (ah t.Hood) <;> cases anyB (badN t) t.Nodes 0 <;> rfl
end
end Go.Proofs.YtfpjnmhdbgbmmaaGreatDoor
namespace Go.Proofs.YtfpjnmhdbgbmmaaGreatDoor
open Go.AM Go.Proofs
def iV (t : Tree) : List Int → Int → Option Int
 | [], k => some k
 | s :: l, k => (idx t.Nodes k).bind fun x => (idx x.Next s).bind fun k' => iV t l k'
theorem run_walk (t : Tree) : ∀ (l : List Int) (i : Nat) (k : Int), runL (fun _ s k => (idx t.Nodes k).bind fun x => (idx x.Next s).bind fun k' => some (.next k')) (fun k => some k) l i k = iV t l k
 | [], _, _ => rfl
 | s :: l, i, k => by
  rw [runL, iV]
  cases idx t.Nodes k with
  | none => rfl
  | some x =>
   simp only [some_bind]
   cases idx x.Next s with
   | none => rfl
   | some k' => exact run_walk t l (i + 1) k'
theorem value_eq {t : Tree} {l : List Int} (hl : l.length < 1099511627776) : fS t l = iV t l (aC .i64 (ah t.Nodes) 1) := by
 unfold fS
 have h := loop_run (b := ef t l) (fun i (k : Int) => (k, (i : Int))) l (fun _ s k => (idx t.Nodes k).bind fun x => (idx x.Next s).bind fun k' => some (.next k')) (fun k => some k) hl
  (fun i x k hx => by
   unfold ef
   dsimp only
   rw [ltB_nat, decide_eq_true (aR hx), cond_true, idx_nat, hx, up_nat (Nat.lt_trans (aR hx) hl)]
   simp only [some_bind]
   cases idx t.Nodes k with
   | none => rfl
   | some y =>
    simp only [some_bind]
    cases idx y.Next x <;> rfl)
  (fun k => by
   unfold ef
   dsimp only
   rw [ltB_nat, decide_eq_false (Nat.lt_irrefl _)]
   rfl) (aC .i64 (ah t.Nodes) 1)
 rw [show ((0 : Nat) : Int) = 0 from rfl] at h
 rw [h, run_walk]
 cases iV t l (aC .i64 (ah t.Nodes) 1) <;> rfl
theorem valueR_eq {t : Tree} {l : List Int} (hl : l.length < 1099511627776) : fk t l = iV t l (aC .i64 (ah t.Nodes) 1) := by
 unfold fk
 have h := loop_run (b := eZ t l) (fun i (k : Int) => (k, (i : Int))) l (fun _ s k => (idx t.Nodes k).bind fun x => (idx x.Next s).bind fun k' => some (.next k')) (fun k => some k) hl
  (fun i x k hx => by
   unfold eZ
   dsimp only
   rw [ltB_nat, decide_eq_true (aR hx), cond_true, idx_nat, hx, up_nat (Nat.lt_trans (aR hx) hl)]
   simp only [some_bind]
   cases idx t.Nodes k with
   | none => rfl
   | some y =>
    simp only [some_bind]
    cases idx y.Next x <;> rfl)
  (fun k => by
   unfold eZ
   dsimp only
   rw [ltB_nat, decide_eq_false (Nat.lt_irrefl _)]
   rfl) (aC .i64 (ah t.Nodes) 1)
 rw [show ((0 : Nat) : Int) = 0 from rfl] at h
 rw [h, run_walk]
 cases iV t l (aC .i64 (ah t.Nodes) 1) <;> rfl
structure Ok (t : Tree) : Prop where
 s2 : 2 ≤ t.States
 s8 : t.States ≤ 8
 hood : ja t.Hood = true
 h1 : 1 ≤ t.Hood.length
 h25 : t.Hood.length ≤ 25
 n1 : 1 ≤ t.Nodes.length
 bad : anyB (badN t) t.Nodes 0 = false
 root : rootOk t = true
theorem ok_of {t : Tree} (h : kq t = true) : Ok t := by
 unfold kq at h
 simp only [Bool.and_eq_true, Bool.not_eq_true', Bool.or_eq_false_iff, Bool.not_eq_false'] at h
 obtain ⟨⟨h1, h2, h3, h4, h5⟩, h6, h7⟩ := h
 have h3' := h3
 unfold ja at h3'
 simp only [Bool.and_eq_true, Bool.not_eq_true', Bool.or_eq_false_iff] at h3'
 have e1 := of_decide_eq_false h1
 have e2 := of_decide_eq_false h2
 have e3 := of_decide_eq_false h3'.1.1
 have e4 := of_decide_eq_false h3'.1.2
 have e5 := of_decide_eq_false h4
 unfold ah at e3 e4 e5
 exact ⟨by omega, by omega, h3, by omega, by omega, by omega, h6, h7⟩
theorem Ok.node {t : Tree} (h : Ok t) {n : Nat} {x : Node} (hx : t.Nodes[n]? = some x) : 1 ≤ x.Level ∧ x.Level ≤ t.Hood.length ∧ (x.Next.length : Int) = t.States ∧ ∀ (j : Nat) (k : Int), x.Next[j]? = some k → badE t (n : Nat) x k = false := by
 have hb := anyB_false h.bad n x hx
 rw [Nat.zero_add] at hb
 unfold badN at hb
 simp only [Bool.or_eq_false_iff] at hb
 obtain ⟨h1, h2, h3, h4⟩ := hb
 have e1 := of_decide_eq_false h1
 have e2 := of_decide_eq_false h2
 have e3 : ah x.Next = t.States := by simpa [neB] using h3
 unfold ah at e2 e3
 exact ⟨by omega, by omega, e3, fun j k hk => by simpa using anyB_false h4 j k hk⟩
theorem Ok.elem {t : Tree} (h : Ok t) {n : Nat} {x : Node} (hx : t.Nodes[n]? = some x) {j : Nat} {k : Int} (hk : x.Next[j]? = some k) : 0 ≤ k ∧ (x.Level = 1 → k < t.States) ∧ (x.Level ≠ 1 → ∃ (m : Nat) (y : Node), k = m ∧ m < n ∧ t.Nodes[m]? = some y ∧ y.Level = x.Level - 1) := by
 obtain ⟨h1, h2, h3, h4⟩ := h.node hx
 have hb := h4 j k hk
 unfold badE at hb
 simp only [Bool.or_eq_false_iff, Bool.and_eq_false_imp] at hb
 obtain ⟨e1, e2, e3⟩ := hb
 have f1 := of_decide_eq_false e1
 refine ⟨by omega, fun hl => ?_, fun hl => ?_⟩
 ·have := e2 (by simp [eqB, hl])
  have := of_decide_eq_false this
  omega
 ·have hg := e3 (by simp only [gtB, decide_eq_true_eq]; omega)
  have f2 := of_decide_eq_false hg.1
  have hlt : k.toNat < t.Nodes.length := by
   have := aR hx
   omega
  have hlo := hg.2
  unfold lowOk at hlo
  rw [List.getElem?_eq_getElem hlt] at hlo
  refine ⟨k.toNat, _, by omega, by omega, List.getElem?_eq_getElem hlt, ?_⟩
  have h25 := h.h25
  rw [isub_in (by omega)] at hlo
  simpa [neB] using hlo
theorem Ok.zero {t : Tree} (h : Ok t) {n : Nat} {x : Node} (hx : t.Nodes[n]? = some x) {s : Int} (h0 : 0 ≤ s) (h1 : s < t.States) : ∃ k, idx x.Next s = some k ∧ x.Next[s.toNat]? = some k := by
 obtain ⟨_, _, h3, _⟩ := h.node hx
 have hlt : s.toNat < x.Next.length := by omega
 exact ⟨_, by rw [idx_int _ h0]; exact List.getElem?_eq_getElem hlt, List.getElem?_eq_getElem hlt⟩
theorem walk_total {t : Tree} (h : Ok t) : ∀ (l : List Int) (n : Nat) (x : Node), t.Nodes[n]? = some x → x.Level = l.length → (∀ s ∈ l, 0 ≤ s ∧ s < t.States) → ∃ v, iV t l (n : Nat) = some v ∧ 0 ≤ v ∧ v < t.States
 | [], n, x, hx, hl, _ => by
  have := (h.node hx).1
  simp at hl
  omega
 | s :: l, n, x, hx, hl, hs => by
  obtain ⟨h0, h1⟩ := hs s (by simp)
  obtain ⟨k, hk, hk'⟩ := h.zero hx h0 h1
  rw [iV, idx_nat, hx]
  simp only [some_bind, hk]
  obtain ⟨g0, g1, g2⟩ := h.elem hx hk'
  by_cases hx1 : x.Level = 1
  ·have : l = [] := by
    cases l with
    | nil => rfl
    | cons _ _ => simp at hl; omega
   subst this
   exact ⟨k, rfl, g0, g1 hx1⟩
  ·obtain ⟨m, y, rfl, hm, hy, hyl⟩ := g2 hx1
   exact walk_total h l m y hy (by simp at hl; omega) fun s' hs' => hs s' (by simp [hs'])
theorem value_total {t : Tree} (h : Ok t) (hs : Sz t) {l : List Int} (hl : l.length = t.Hood.length) (hb : ∀ s ∈ l, 0 ≤ s ∧ s < t.States) : ∃ v, iV t l (aC .i64 (ah t.Nodes) 1) = some v ∧ 0 ≤ v ∧ v < t.States := by
 have hr := h.root
 unfold rootOk at hr
 have hn := h.n1
 have hns := hs.nodes
 obtain ⟨m, hm⟩ : ∃ m, t.Nodes.length = m + 1 := ⟨t.Nodes.length - 1, by omega⟩
 rw [hm, Nat.add_sub_cancel] at hr
 have hlt : m < t.Nodes.length := by omega
 rw [List.getElem?_eq_getElem hlt] at hr
 unfold ah
 rw [hm, dn_nat (by omega)]
 refine walk_total h l m _ (List.getElem?_eq_getElem hlt) ?_ hb
 have : (t.Nodes[m]).Level = ah t.Hood := by simpa [eqB] using hr
 rw [this, hl]
 rfl
def gb (t : Tree) : Bool := kq t && (iV t (List.replicate t.Hood.length 0) (aC .i64 (ah t.Nodes) 1) == some 0)
theorem mk_hood {t : Tree} (h : Ok t) {α : Type} (z : α) : mkL 8 (ah t.Hood) (ah t.Hood) z = some (List.replicate t.Hood.length z) := by
 unfold mkL ah
 have := h.h25
 rw [if_pos (by omega)]
 simp
theorem lenL_toNat {α : Type} (l : List α) : (ah l).toNat = l.length := by simp [ah]
theorem quiet_eq {t : Tree} (hs : Sz t) : dP t = some (gb t) := by
 unfold dP gb
 rw [tree_eq hs]
 simp only [some_bind]
 cases ht : kq t with
 | false => rfl
 | true =>
  have h := ok_of ht
  have h25 := h.h25
  rw [mk_hood h, lenL_toNat, value_eq (by simp; omega)]
  obtain ⟨v, hv, _⟩ := value_total h hs (l := List.replicate t.Hood.length 0) (by simp) (fun s hs => by
   have := List.eq_of_mem_replicate hs
   have := h.s2
   omega)
  rw [hv]
  simp [eqB]
theorem quietR_eq {t : Tree} (hs : Sz t) : ft t = some (gb t) := by
 unfold ft gb jG
 rw [treeR_eq hs]
 simp only [some_bind]
 cases ht : kq t with
 | false => rfl
 | true =>
  have h := ok_of ht
  have h25 := h.h25
  have h2 := h.s2
  rw [mk_hood h, lenL_toNat, valueR_eq (by simp; omega)]
  have hz : ∀ s ∈ List.replicate t.Hood.length (0 : Int), 0 ≤ s ∧ s < t.States := fun s hs => by
   have := List.eq_of_mem_replicate hs
   omega
  obtain ⟨v, hv, _⟩ := value_total h hs (l := List.replicate t.Hood.length 0) (by simp) hz
  rw [hv]
  have hl : neB (ah (List.replicate t.Hood.length (0 : Int))) (ah t.Hood) = false := by simp [neB, ah]
  rw [hl]
  have hlen : (List.replicate t.Hood.length (0 : Int)).length < 1099511627776 := by simp; omega
  rw [loop_any (List.replicate t.Hood.length (0 : Int)) (fun _ _ => false) (0, 10) hlen (fun i x hx => by
    have hx0 := hz x (List.mem_of_getElem? hx)
    unfold gV
    dsimp only
    rw [ltB_nat, decide_eq_true (aR hx), cond_true, idx_nat, hx, up_nat (Nat.lt_trans (aR hx) hlen)]
    have e1 : ltB x 0 = false := decide_eq_false (by omega)
    have e2 : geB x t.States = false := decide_eq_false (by omega)
    simp only [some_bind, e1, e2, cond_false]) (by
    unfold gV
    dsimp only
    rw [ltB_nat, decide_eq_false (Nat.lt_irrefl _)]
    rfl)]
  rw [anyB_of_false fun _ _ _ => rfl]
  simp [eqB, aD]
end Go.Proofs.YtfpjnmhdbgbmmaaGreatDoor
