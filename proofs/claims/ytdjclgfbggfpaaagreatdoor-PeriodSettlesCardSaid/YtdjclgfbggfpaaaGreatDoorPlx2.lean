/-
  Plain laws: rule trees: the program's check and the reference's, and whether zeros lead to zero.
  Plain laws: whether zeros lead to zero.
-/
import Derived.Test.YtdjclgfbggfpaaaGreatDoorPlx1
namespace Go.Proofs.YtdjclgfbggfpaaaGreatDoor
open Go.AM Go.Proofs
structure Sz (t : Tree) : Prop where
 hood : t.Hood.length < 1099511627776
 nodes : t.Nodes.length < 1099511627776
 next : ∀ x ∈ t.Nodes, x.Next.length < 1099511627776
def lowOk (t : Tree) (x : Node) (k : Int) : Bool := match t.Nodes[k.toNat]? with
 | some y => neB y.Level (aM .i64 x.Level 1)
 | none => true
def badE (t : Tree) (i : Int) (x : Node) (k : Int) : Bool := ltB k 0 || ((eqB x.Level 1 && geB k t.States) || (gtB x.Level 1 && (geB k i || lowOk t x k)))
def badN (t : Tree) (i : Nat) (x : Node) : Bool := ltB x.Level 1 || (gtB x.Level (ak t.Hood) || (neB (ak x.Next) t.States || eE (fun _ k => badE t (i : Nat) x k) x.Next 0))
def rootOk (t : Tree) : Bool := match t.Nodes[t.Nodes.length - 1]? with
 | some x => eqB x.Level (ak t.Hood)
 | none => false
def ir (t : Tree) : Bool := !(ltB t.States 2 || (gtB t.States 8 || (!gB t.Hood || (ltB (ak t.Nodes) 1 || gtB (ak t.Nodes) 4096)))) && (!eE (badN t) t.Nodes 0 && rootOk t)
section
variable {t : Tree} {n : Nat} {x : Node}
theorem low_get (hn : n < t.Nodes.length) {k : Int} (h0 : ltB k 0 = false) (h1 : geB k (n : Nat) = false) : ∃ y, idx t.Nodes k = some y ∧ lowOk t x k = neB y.Level (aM .i64 x.Level 1) := by
 simp only [ltB, geB, decide_eq_false_iff_not, Int.not_lt, ge_iff_le, Int.not_le] at h0 h1
 have hk : k.toNat < t.Nodes.length := by omega
 refine ⟨t.Nodes[k.toNat], ?_, ?_⟩
 ·rw [idx_int _ h0]; exact List.getElem?_eq_getElem hk
 ·unfold lowOk
  rw [List.getElem?_eq_getElem hk]
theorem inner_eq (hn : n < t.Nodes.length) (hx : x.Next.length < 1099511627776) : ar (di t (n : Nat) x) aG 0 = some (bif eE (fun _ k => badE t (n : Nat) x k) x.Next 0 then .inl false else .inr ()) := by
 refine eh x.Next (fun _ k => badE t (n : Nat) x k) false hx (fun i k hk => ?_) ?_
 ·unfold di badE
  dsimp only
  rw [aw, decide_eq_true (aP hk), cond_true, aH, hk, bh (Nat.lt_trans (aP hk) hx)]
  simp only [a8]
  cases h0 : ltB k 0 with
  | true => rfl
  | false =>
   cases h1 : geB k (n : Nat) with
   | true => cases eqB x.Level 1 <;> cases geB k t.States <;> cases gtB x.Level 1 <;> rfl
   | false =>
    obtain ⟨y, hy, hl⟩ := low_get (x := x) hn h0 h1
    rw [hy, hl]
    simp only [a8]
    cases eqB x.Level 1 <;> cases geB k t.States <;> cases gtB x.Level 1 <;> cases neB y.Level (aM .i64 x.Level 1) <;> rfl
 ·unfold di
  dsimp only
  rw [aw, decide_eq_false (Nat.lt_irrefl _)]
  rfl
theorem innerR_eq (hn : n < t.Nodes.length) (hx : x.Next.length < 1099511627776) (hl : ak x.Next = t.States) : ar (dL t (n : Nat) x) aG 0 = some (bif eE (fun _ k => badE t (n : Nat) x k) x.Next 0 then .inl false else .inr ()) := by
 refine eh x.Next (fun _ k => badE t (n : Nat) x k) false hx (fun i k hk => ?_) ?_
 ·unfold dL badE
  dsimp only
  rw [← hl, aw, decide_eq_true (aP hk), cond_true, aH, hk, bh (Nat.lt_trans (aP hk) hx)]
  simp only [a8]
  cases h0 : ltB k 0 with
  | true => rfl
  | false =>
   cases h1 : geB k (n : Nat) with
   | true => cases eqB x.Level 1 <;> cases geB k (ak x.Next) <;> cases gtB x.Level 1 <;> rfl
   | false =>
    obtain ⟨y, hy, hl⟩ := low_get (x := x) hn h0 h1
    rw [hy, hl]
    simp only [a8]
    cases eqB x.Level 1 <;> cases geB k (ak x.Next) <;> cases gtB x.Level 1 <;> cases neB y.Level (aM .i64 x.Level 1) <;> rfl
 ·unfold dL
  dsimp only
  rw [← hl, aw, decide_eq_false (Nat.lt_irrefl _)]
  rfl
theorem outer_eq (hs : Sz t) : ar (d7 t) aG 0 = some (bif eE (badN t) t.Nodes 0 then .inl false else .inr ()) := by
 refine eh t.Nodes (badN t) false hs.nodes (fun i x hx => ?_) ?_
 ·unfold d7 badN
  dsimp only
  rw [aw, decide_eq_true (aP hx), cond_true, aH, hx, bh (Nat.lt_trans (aP hx) hs.nodes)]
  simp only [a8, inner_eq (aP hx) (hs.next x (List.mem_of_getElem? hx))]
  cases ltB x.Level 1 <;> cases gtB x.Level (ak t.Hood) <;> cases neB (ak x.Next) t.States <;> cases eE (fun _ k => badE t (i : Nat) x k) x.Next 0 <;> rfl
 ·unfold d7
  dsimp only
  rw [aw, decide_eq_false (Nat.lt_irrefl _)]
  rfl
theorem outerR_eq (hs : Sz t) : ar (dS t) aG 0 = some (bif eE (badN t) t.Nodes 0 then .inl false else .inr ()) := by
 refine eh t.Nodes (badN t) false hs.nodes (fun i x hx => ?_) ?_
 ·unfold dS badN
  dsimp only
  rw [aw, decide_eq_true (aP hx), cond_true, aH, hx, bh (Nat.lt_trans (aP hx) hs.nodes)]
  simp only [a8]
  cases hne : neB (ak x.Next) t.States with
  | true => cases ltB x.Level 1 <;> cases gtB x.Level (ak t.Hood) <;> rfl
  | false =>
   rw [innerR_eq (aP hx) (hs.next x (List.mem_of_getElem? hx)) (by simpa [neB] using hne)]
   cases ltB x.Level 1 <;> cases gtB x.Level (ak t.Hood) <;> cases eE (fun _ k => badE t (i : Nat) x k) x.Next 0 <;> rfl
 ·unfold dS
  dsimp only
  rw [aw, decide_eq_false (Nat.lt_irrefl _)]
  rfl
theorem root_get (hs : Sz t) (h : ltB (ak t.Nodes) 1 = false) : ∃ x, idx t.Nodes (aM .i64 (ak t.Nodes) 1) = some x ∧ rootOk t = eqB x.Level (ak t.Hood) := by
 have h3 : 0 < t.Nodes.length := by
  have := of_decide_eq_false h
  unfold ak at this
  omega
 have h2 := hs.nodes
 obtain ⟨m, hm⟩ : ∃ m, t.Nodes.length = m + 1 := ⟨t.Nodes.length - 1, by omega⟩
 have hlt : m < t.Nodes.length := by omega
 refine ⟨t.Nodes[m], ?_, ?_⟩
 ·unfold ak
  rw [hm, iv (by omega), aH]
  exact List.getElem?_eq_getElem hlt
 ·unfold rootOk
  rw [show t.Nodes.length - 1 = m by omega, List.getElem?_eq_getElem hlt]
theorem neB_eqB (a b : Int) : neB a b = !eqB a b := rfl
theorem tree_eq (hs : Sz t) : eo t = some (ir t) := by
 unfold eo ir
 rw [outer_eq hs, hood_eq hs.hood]
 simp only [a8]
 cases hl : ltB (ak t.Nodes) 1 with
 | true => cases ltB t.States 2 <;> cases gtB t.States 8 <;> cases gB t.Hood <;> rfl
 | false =>
  obtain ⟨x, hx, hr⟩ := root_get hs hl
  rw [hx, hr]
  simp only [a8, neB_eqB]
  cases ltB t.States 2 <;> cases gtB t.States 8 <;> cases gB t.Hood <;> cases gtB (ak t.Nodes) 4096 <;> cases eqB x.Level (ak t.Hood) <;> cases eE (badN t) t.Nodes 0 <;> rfl
theorem treeR_eq (hs : Sz t) : dY t = some (ir t) := by
 unfold dY ir
 rw [outerR_eq hs, hoodR_eq hs.hood]
 simp only [a8]
 cases hl : ltB (ak t.Nodes) 1 with
 | true => cases ltB t.States 2 <;> cases gtB t.States 8 <;> cases gB t.Hood <;> rfl
 | false =>
  obtain ⟨x, hx, hr⟩ := root_get hs hl
  rw [hx, hr]
  simp only [a8]
  cases ltB t.States 2 <;> cases gtB t.States 8 <;> cases gB t.Hood <;> cases gtB (ak t.Nodes) 4096 <;> cases eqB x.Level (ak t.Hood) <;> cases eE (badN t) t.Nodes 0 <;> rfl
end
end Go.Proofs.YtdjclgfbggfpaaaGreatDoor
namespace Go.Proofs.YtdjclgfbggfpaaaGreatDoor
open Go.AM Go.Proofs
def fV (t : Tree) : List Int → Int → Option Int
 | [], k => some k
 | s :: l, k => (idx t.Nodes k).bind fun x => (idx x.Next s).bind fun k' => fV t l k'
theorem run_walk (t : Tree) : ∀ (l : List Int) (i : Nat) (k : Int), i6 (fun _ s k => (idx t.Nodes k).bind fun x => (idx x.Next s).bind fun k' => some (.next k')) (fun k => some k) l i k = fV t l k
 | [], _, _ => rfl
 | s :: l, i, k => by
  rw [i6, fV]
  cases idx t.Nodes k with
  | none => rfl
  | some x =>
   simp only [a8]
   cases idx x.Next s with
   | none => rfl
   | some k' => exact run_walk t l (i + 1) k'
theorem value_eq {t : Tree} {l : List Int} (hl : l.length < 1099511627776) : eG t l = fV t l (aM .i64 (ak t.Nodes) 1) := by
 unfold eG
 have h := loop_run (b := db t l) (fun i (k : Int) => (k, (i : Int))) l (fun _ s k => (idx t.Nodes k).bind fun x => (idx x.Next s).bind fun k' => some (.next k')) (fun k => some k) hl
  (fun i x k hx => by
   unfold db
   dsimp only
   rw [aw, decide_eq_true (aP hx), cond_true, aH, hx, bh (Nat.lt_trans (aP hx) hl)]
   simp only [a8]
   cases idx t.Nodes k with
   | none => rfl
   | some y =>
    simp only [a8]
    cases idx y.Next x <;> rfl)
  (fun k => by
   unfold db
   dsimp only
   rw [aw, decide_eq_false (Nat.lt_irrefl _)]
   rfl) (aM .i64 (ak t.Nodes) 1)
 rw [show ((0 : Nat) : Int) = 0 from rfl] at h
 rw [h, run_walk]
 cases fV t l (aM .i64 (ak t.Nodes) 1) <;> rfl
theorem valueR_eq {t : Tree} {l : List Int} (hl : l.length < 1099511627776) : ef t l = fV t l (aM .i64 (ak t.Nodes) 1) := by
 unfold ef
 have h := loop_run (b := dQ t l) (fun i (k : Int) => (k, (i : Int))) l (fun _ s k => (idx t.Nodes k).bind fun x => (idx x.Next s).bind fun k' => some (.next k')) (fun k => some k) hl
  (fun i x k hx => by
   unfold dQ
   dsimp only
   rw [aw, decide_eq_true (aP hx), cond_true, aH, hx, bh (Nat.lt_trans (aP hx) hl)]
   simp only [a8]
   cases idx t.Nodes k with
   | none => rfl
   | some y =>
    simp only [a8]
    cases idx y.Next x <;> rfl)
  (fun k => by
   unfold dQ
   dsimp only
   rw [aw, decide_eq_false (Nat.lt_irrefl _)]
   rfl) (aM .i64 (ak t.Nodes) 1)
 rw [show ((0 : Nat) : Int) = 0 from rfl] at h
 rw [h, run_walk]
 cases fV t l (aM .i64 (ak t.Nodes) 1) <;> rfl
structure Ok (t : Tree) : Prop where
 s2 : 2 ≤ t.States
 s8 : t.States ≤ 8
 hood : gB t.Hood = true
 h1 : 1 ≤ t.Hood.length
 h25 : t.Hood.length ≤ 25
 n1 : 1 ≤ t.Nodes.length
 bad : eE (badN t) t.Nodes 0 = false
 root : rootOk t = true
theorem ok_of {t : Tree} (h : ir t = true) : Ok t := by
 unfold ir at h
 simp only [Bool.and_eq_true, Bool.not_eq_true', Bool.or_eq_false_iff, Bool.not_eq_false'] at h
 obtain ⟨⟨h1, h2, h3, h4, h5⟩, h6, h7⟩ := h
 have h3' := h3
 unfold gB at h3'
 simp only [Bool.and_eq_true, Bool.not_eq_true', Bool.or_eq_false_iff] at h3'
 have e1 := of_decide_eq_false h1
 have e2 := of_decide_eq_false h2
 have e3 := of_decide_eq_false h3'.1.1
 have e4 := of_decide_eq_false h3'.1.2
 have e5 := of_decide_eq_false h4
 unfold ak at e3 e4 e5
 exact ⟨by omega, by omega, h3, by omega, by omega, by omega, h6, h7⟩
theorem Ok.node {t : Tree} (h : Ok t) {n : Nat} {x : Node} (hx : t.Nodes[n]? = some x) : 1 ≤ x.Level ∧ x.Level ≤ t.Hood.length ∧ (x.Next.length : Int) = t.States ∧ ∀ (j : Nat) (k : Int), x.Next[j]? = some k → badE t (n : Nat) x k = false := by
 have hb := eZ h.bad n x hx
 rw [Nat.zero_add] at hb
 unfold badN at hb
 simp only [Bool.or_eq_false_iff] at hb
 obtain ⟨h1, h2, h3, h4⟩ := hb
 have e1 := of_decide_eq_false h1
 have e2 := of_decide_eq_false h2
 have e3 : ak x.Next = t.States := by simpa [neB] using h3
 unfold ak at e2 e3
 exact ⟨by omega, by omega, e3, fun j k hk => by simpa using eZ h4 j k hk⟩
theorem Ok.elem {t : Tree} (h : Ok t) {n : Nat} {x : Node} (hx : t.Nodes[n]? = some x) {j : Nat} {k : Int} (hk : x.Next[j]? = some k) : 0 ≤ k ∧ (x.Level = 1 → k < t.States) ∧ (x.Level ≠ 1 → ∃ (m : Nat) (y : Node), k = m ∧ m < n ∧ t.Nodes[m]? = some y ∧ y.Level = x.Level - 1) := by
 obtain ⟨h1, h2, h3, h4⟩ := h.node hx
 have hb := h4 j k hk
 unfold badE at hb
 simp only [Bool.or_eq_false_iff, Bool.and_eq_false_imp] at hb
 obtain ⟨e1, e2, e3⟩ := hb
 have f1 := of_decide_eq_false e1
 refine ⟨by omega, fun hl => ?_, fun hl => ?_⟩
 ·have := e2 (by simp [eqB, hl])
  have := of_decide_eq_false this
  omega
 ·have hg := e3 (by simp only [gtB, decide_eq_true_eq]; omega)
  have f2 := of_decide_eq_false hg.1
  have hlt : k.toNat < t.Nodes.length := by
   have := aP hx
   omega
  have hlo := hg.2
  unfold lowOk at hlo
  rw [List.getElem?_eq_getElem hlt] at hlo
  refine ⟨k.toNat, _, by omega, by omega, List.getElem?_eq_getElem hlt, ?_⟩
  have h25 := h.h25
  rw [bL (by omega)] at hlo
  simpa [neB] using hlo
theorem Ok.zero {t : Tree} (h : Ok t) {n : Nat} {x : Node} (hx : t.Nodes[n]? = some x) {s : Int} (h0 : 0 ≤ s) (h1 : s < t.States) : ∃ k, idx x.Next s = some k ∧ x.Next[s.toNat]? = some k := by
 obtain ⟨_, _, h3, _⟩ := h.node hx
 have hlt : s.toNat < x.Next.length := by omega
 exact ⟨_, by rw [idx_int _ h0]; exact List.getElem?_eq_getElem hlt, List.getElem?_eq_getElem hlt⟩
theorem walk_total {t : Tree} (h : Ok t) : ∀ (l : List Int) (n : Nat) (x : Node), t.Nodes[n]? = some x → x.Level = l.length → (∀ s ∈ l, 0 ≤ s ∧ s < t.States) → ∃ v, fV t l (n : Nat) = some v ∧ 0 ≤ v ∧ v < t.States
 | [], n, x, hx, hl, _ => by
  have := (h.node hx).1
  simp at hl
  omega
 | s :: l, n, x, hx, hl, hs => by
  obtain ⟨h0, h1⟩ := hs s (by simp)
  obtain ⟨k, hk, hk'⟩ := h.zero hx h0 h1
  rw [fV, aH, hx]
  simp only [a8, hk]
  obtain ⟨g0, g1, g2⟩ := h.elem hx hk'
  by_cases hx1 : x.Level = 1
  ·have : l = [] := by
    cases l with
    | nil => rfl
    | cons _ _ => simp at hl; omega
   subst this
   exact ⟨k, rfl, g0, g1 hx1⟩
  ·obtain ⟨m, y, rfl, hm, hy, hyl⟩ := g2 hx1
   exact walk_total h l m y hy (by simp at hl; omega) fun s' hs' => hs s' (by simp [hs'])
theorem value_total {t : Tree} (h : Ok t) (hs : Sz t) {l : List Int} (hl : l.length = t.Hood.length) (hb : ∀ s ∈ l, 0 ≤ s ∧ s < t.States) : ∃ v, fV t l (aM .i64 (ak t.Nodes) 1) = some v ∧ 0 ≤ v ∧ v < t.States := by
 have hr := h.root
 unfold rootOk at hr
 have hn := h.n1
 have hns := hs.nodes
 obtain ⟨m, hm⟩ : ∃ m, t.Nodes.length = m + 1 := ⟨t.Nodes.length - 1, by omega⟩
 rw [hm, Nat.add_sub_cancel] at hr
 have hlt : m < t.Nodes.length := by omega
 rw [List.getElem?_eq_getElem hlt] at hr
 unfold ak
 rw [hm, iv (by omega)]
 refine walk_total h l m _ (List.getElem?_eq_getElem hlt) ?_ hb
 have : (t.Nodes[m]).Level = ak t.Hood := by simpa [eqB] using hr
 rw [this, hl]
 rfl
def eX (t : Tree) : Bool := ir t && (fV t (List.replicate t.Hood.length 0) (aM .i64 (ak t.Nodes) 1) == some 0)
theorem mk_hood {t : Tree} (h : Ok t) {α : Type} (z : α) : mkL 8 (ak t.Hood) (ak t.Hood) z = some (List.replicate t.Hood.length z) := by
 unfold mkL ak
 have := h.h25
 rw [if_pos (by omega)]
 simp
theorem lenL_toNat {α : Type} (l : List α) : (ak l).toNat = l.length := by simp [ak]
theorem quiet_eq {t : Tree} (hs : Sz t) : eC t = some (eX t) := by
 unfold eC eX
 rw [tree_eq hs]
 simp only [a8]
 cases ht : ir t with
 | false => rfl
 | true =>
  have h := ok_of ht
  have h25 := h.h25
  rw [mk_hood h, lenL_toNat, value_eq (by simp; omega)]
  obtain ⟨v, hv, _⟩ := value_total h hs (l := List.replicate t.Hood.length 0) (by simp) (fun s hs => by
   have := List.eq_of_mem_replicate hs
   have := h.s2
   omega)
  rw [hv]
  simp [eqB]
theorem quietR_eq {t : Tree} (hs : Sz t) : fh t = some (eX t) := by
 unfold fh eX gA
 rw [treeR_eq hs]
 simp only [a8]
 cases ht : ir t with
 | false => rfl
 | true =>
  have h := ok_of ht
  have h25 := h.h25
  have h2 := h.s2
  rw [mk_hood h, lenL_toNat, valueR_eq (by simp; omega)]
  have hz : ∀ s ∈ List.replicate t.Hood.length (0 : Int), 0 ≤ s ∧ s < t.States := fun s hs => by
   have := List.eq_of_mem_replicate hs
   omega
  obtain ⟨v, hv, _⟩ := value_total h hs (l := List.replicate t.Hood.length 0) (by simp) hz
  rw [hv]
  have hl : neB (ak (List.replicate t.Hood.length (0 : Int))) (ak t.Hood) = false := by simp [neB, ak]
  rw [hl]
  have hlen : (List.replicate t.Hood.length (0 : Int)).length < 1099511627776 := by simp; omega
  rw [eh (List.replicate t.Hood.length (0 : Int)) (fun _ _ => false) (0, 10) hlen (fun i x hx => by
    have hx0 := hz x (List.mem_of_getElem? hx)
    unfold fy
    dsimp only
    rw [aw, decide_eq_true (aP hx), cond_true, aH, hx, bh (Nat.lt_trans (aP hx) hlen)]
    have e1 : ltB x 0 = false := decide_eq_false (by omega)
    have e2 : geB x t.States = false := decide_eq_false (by omega)
    simp only [a8, e1, e2, cond_false]) (by
    unfold fy
    dsimp only
    rw [aw, decide_eq_false (Nat.lt_irrefl _)]
    rfl)]
  rw [gX fun _ _ _ => rfl]
  simp [eqB, aR]
end Go.Proofs.YtdjclgfbggfpaaaGreatDoor
