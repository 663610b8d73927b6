/- Plain laws: maps of states by place, and sorts of lists whose places differ. -/
import Derived.Test.YtogdjcdmbodmiaaGreatDoorPsx1
namespace Go.Proofs.YtogdjcdmbodmiaaGreatDoor
open Go.AM Go.Proofs Go.Sort
section
variable {κ ν : Type} [DecidableEq κ]
def keysL (m : List (κ × ν)) : List κ := m.map (·.1)
theorem mget_none {k : κ} : ∀ {m : List (κ × ν)}, k ∉ keysL m → dQ m k = none
 | [], _ => rfl
 | x :: m, h => by
  unfold keysL at h
  simp only [List.map_cons, List.mem_cons, not_or] at h
  unfold dQ
  rw [if_neg fun e => h.1 e.symm]
  exact mget_none h.2
theorem mget_mem {k : κ} {v : ν} : ∀ {m : List (κ × ν)}, (keysL m).Nodup → ((k, v) ∈ m ↔ dQ m k = some v)
 | [], _ => by simp [dQ]
 | x :: m, h => by
  unfold keysL at h
  rw [List.map_cons, List.nodup_cons] at h
  unfold dQ
  by_cases hx : x.1 = k
  ·rw [if_pos hx, List.mem_cons]
   constructor
   ·rintro (e | e)
    ·rw [← e]
    ·exact absurd (by rw [hx]; exact List.mem_map.2 ⟨(k, v), e, rfl⟩) h.1
   ·intro e
    cases e
    exact .inl (by rw [← hx])
  ·rw [if_neg hx, List.mem_cons, ← mget_mem h.2]
   constructor
   ·rintro (e | e)
    ·exact absurd (by rw [← e]) hx
    ·exact e
   ·exact .inr
theorem keys_mset (k : κ) (v : ν) : ∀ m : List (κ × ν), keysL (bD m k v) = if k ∈ keysL m then keysL m else keysL m ++ [k]
 | [] => rfl
 | x :: m => by
  unfold bD
  by_cases hx : x.1 = k
  ·rw [if_pos hx]
   unfold keysL
   simp [hx]
  ·rw [if_neg hx]
   have := keys_mset k v m
   unfold keysL at this ⊢
   simp only [List.map_cons, this, List.mem_cons, eq_comm (a := k) (b := x.1), hx, false_or]
   split <;> simp
theorem nodup_mset {m : List (κ × ν)} (h : (keysL m).Nodup) (k : κ) (v : ν) : (keysL (bD m k v)).Nodup := by
 rw [keys_mset]
 split
 ·exact h
 ·rename_i hk
  rw [List.nodup_append]
  refine ⟨h, by simp, fun a ha b hb e => ?_⟩
  rw [List.mem_singleton] at hb
  exact hk (by rw [← hb, ← e]; exact ha)
theorem len_mset (k : κ) (v : ν) : ∀ m : List (κ × ν), (bD m k v).length ≤ m.length + 1
 | [] => by simp [bD]
 | x :: m => by
  unfold bD
  have := len_mset k v m
  split <;> simp only [List.length_cons] <;> omega
theorem sub_mdel (k : κ) : ∀ m : List (κ × ν), (eE m k).Sublist m
 | [] => List.Sublist.refl _
 | x :: m => by
  unfold eE
  split
  ·exact List.sublist_cons_self _ _
  ·exact (sub_mdel k m).cons_cons x
theorem nodup_mdel {m : List (κ × ν)} (h : (keysL m).Nodup) (k : κ) : (keysL (eE m k)).Nodup := h.sublist ((sub_mdel k m).map _)
theorem mget_mdel (k : κ) : ∀ {m : List (κ × ν)}, (keysL m).Nodup → ∀ q, dQ (eE m k) q = if k = q then none else dQ m q
 | [], _, q => by simp [eE, dQ]
 | x :: m, h, q => by
  unfold keysL at h
  rw [List.map_cons, List.nodup_cons] at h
  unfold eE
  by_cases hx : x.1 = k
  ·rw [if_pos hx]
   by_cases hq : k = q
   ·rw [if_pos hq]
    exact mget_none (by rw [← hq, ← hx]; exact h.1)
   ·rw [if_neg hq]
    conv => rhs; unfold dQ
    rw [if_neg fun e => hq (by rw [← hx, e])]
  ·rw [if_neg hx]
   unfold dQ
   rw [mget_mdel k h.2 q]
   by_cases hq : x.1 = q
   ·rw [if_pos hq, if_pos hq, if_neg fun e => hx (by rw [hq, e])]
   ·rw [if_neg hq, if_neg hq]
end
structure MapOf (m : List (Point × Int)) (f : Int → Int → Int) : Prop where
 nd : (keysL m).Nodup
 get : ∀ x y, dQ m ⟨x, y⟩ = if f x y = 0 then none else some (f x y)
theorem MapOf.mem {m : List (Point × Int)} {f : Int → Int → Int} (h : MapOf m f) (q : Point) (v : Int) : (q, v) ∈ m ↔ v = f q.X q.Y ∧ v ≠ 0 := by
 rw [mget_mem h.nd, h.get q.X q.Y]
 split
 ·rename_i h0
  exact ⟨fun e => (by cases e), fun e => absurd (e.1.trans h0) e.2⟩
 ·rename_i h0
  constructor
  ·intro e
   cases e
   exact ⟨rfl, h0⟩
  ·rintro ⟨e, _⟩
   rw [e]
theorem MapOf.getD {m : List (Point × Int)} {f : Int → Int → Int} (h : MapOf m f) (x y : Int) : aL m ⟨x, y⟩ 0 = f x y := by
 unfold aL
 rw [h.get]
 split
 ·rename_i h0; rw [h0]; rfl
 ·rfl
theorem MapOf.congr {m : List (Point × Int)} {f g : Int → Int → Int} (h : MapOf m f) (he : ∀ x y, f x y = g x y) : MapOf m g := ⟨h.nd, fun x y => by rw [← he]; exact h.get x y⟩
theorem pt_eq {a b x y : Int} : ((⟨a, b⟩ : Point) = ⟨x, y⟩) ↔ a = x ∧ b = y := by
 constructor
 ·intro h; cases h; exact ⟨rfl, rfl⟩
 ·rintro ⟨rfl, rfl⟩; rfl
theorem MapOf.set {m : List (Point × Int)} {f : Int → Int → Int} (h : MapOf m f) (a b v : Int) (hv : v ≠ 0) : MapOf (bD m ⟨a, b⟩ v) (fun x y => if a = x ∧ b = y then v else f x y) := by
 refine ⟨nodup_mset h.nd _ _, fun x y => ?_⟩
 rw [mget_mset, h.get]
 by_cases hq : a = x ∧ b = y
 ·simp only [hq, and_self, if_true, hv, if_false]
 ·simp only [pt_eq, hq, if_false]
theorem MapOf.del {m : List (Point × Int)} {f : Int → Int → Int} (h : MapOf m f) (a b : Int) : MapOf (eE m ⟨a, b⟩) (fun x y => if a = x ∧ b = y then 0 else f x y) := by
 refine ⟨nodup_mdel h.nd _, fun x y => ?_⟩
 rw [mget_mdel _ h.nd, h.get]
 by_cases hq : a = x ∧ b = y
 ·simp only [hq, and_self, if_true]
 ·simp only [pt_eq, hq, if_false]
theorem MapOf.setdel {m : List (Point × Int)} {f : Int → Int → Int} (h : MapOf m f) (a b v : Int) : MapOf (eE (bD m ⟨a, b⟩ v) ⟨a, b⟩) (fun x y => if a = x ∧ b = y then 0 else f x y) := by
 refine ⟨nodup_mdel (nodup_mset h.nd _ _) _, fun x y => ?_⟩
 rw [mget_mdel _ (nodup_mset h.nd _ _), mget_mset, h.get]
 by_cases hq : a = x ∧ b = y
 ·simp only [hq, and_self, if_true]
 ·simp only [pt_eq, hq, if_false]
theorem MapOf.nil : MapOf [] (fun _ _ => 0) := ⟨List.nodup_nil, fun _ _ => rfl⟩
theorem sortM_strict {α : Type} {cf : α → α → Int} (hO : SWO (ltOf cf)) (h0 : ∀ a b, ¬ cf b a < 0 → cf a b ≠ 0 → cf a b < 0) (hs : ∀ a b, cf a b ≠ 0 → cf b a ≠ 0) {l : List α} (hd : l.Pairwise fun a b => cf a b ≠ 0) (hl : l.length < 4611686018427387904) :
  gM cf l = some (ed cf l) ∧ (ed cf l).Pairwise (fun a b => cf a b < 0) ∧ (ed cf l).Perm l := by
 have hp := dp (cf := cf) l
 have hw := isort_srt hO l
 have hd' : (ed cf l).Pairwise fun a b => cf a b ≠ 0 := (hp.pairwise_iff fun {a b} h => hs a b h).2 hd
 have h1 : (ed cf l).Pairwise (fun a b => cf a b < 0) := (hw.and hd').imp fun {a b} h => h0 a b h.1 h.2
 have h2 : ∀ {m : List α}, m.Pairwise (fun a b => cf a b < 0) → eB cf m = true := fun {m} => by
  induction m with
  | nil => intro _; rfl
  | cons x m ih =>
   intro h
   cases m with
   | nil => rfl
   | cons y m =>
    rw [List.pairwise_cons] at h
    simp only [eB, Bool.and_eq_true, decide_eq_true_eq]
    exact ⟨h.1 y (by simp), ih h.2⟩
 refine ⟨?_, h1, hp⟩
 unfold gM
 rw [h2 h1, decide_eq_true hl]
 rfl
end Go.Proofs.YtogdjcdmbodmiaaGreatDoor
namespace Go.Proofs.YtogdjcdmbodmiaaGreatDoor
open Go.AM Go.Proofs Go.Sort
theorem patOk_of {p : List Cell} (h : Pat p) : patOk p = true := by
 unfold patOk
 have hl := h.len
 have e : leB (ak p) 5000 = true := decide_eq_true (by unfold ak; omega)
 rw [e, Bool.true_and]
 have : anyB (badC p) p 0 = false := anyB_of_false fun j x hx => by
  have hc := h.cell x (List.mem_of_getElem? hx)
  have hpl := (place_iff x.X x.Y).2 hc.1
  unfold badC
  have e1 : ltB x.S 1 = false := decide_eq_false (by omega)
  have e2 : geB x.S 8 = false := decide_eq_false (by omega)
  rw [hpl, e1, e2, Nat.zero_add]
  cases j with
  | zero => rfl
  | succ j =>
   obtain ⟨y, hy⟩ := getE_prev hx
   simp only [hy]
   have h1 := getE_lt hx
   obtain ⟨_, e3⟩ := List.getElem?_eq_some_iff.1 hx
   obtain ⟨_, e4⟩ := List.getElem?_eq_some_iff.1 hy
   have := List.pairwise_iff_getElem.1 h.sorted j (j + 1) (by omega) h1 (by omega)
   rw [e3, e4] at this
   rw [this]
   rfl
 rw [this]
 rfl
theorem Pat.fresh {p : List Cell} (h : Pat p) {i : Nat} (hi : i < p.length) : ∀ d ∈ p.take i, ¬ (d.X = p[i].X ∧ d.Y = p[i].Y) := by
 intro d hd ⟨e1, e2⟩
 obtain ⟨j, hj⟩ := List.mem_iff_getElem?.1 hd
 rw [List.getElem?_take] at hj
 split at hj
 ·rename_i hji
  obtain ⟨hjl, rfl⟩ := List.getElem?_eq_some_iff.1 hj
  have := List.pairwise_iff_getElem.1 h.sorted j i hjl hi hji
  rw [befC_iff] at this
  omega
 ·cases hj
theorem take_snoc {α : Type} {l : List α} {i : Nat} (hi : i < l.length) : l.take (i + 1) = l.take i ++ [l[i]] := by
 rw [List.take_add_one, List.getElem?_eq_getElem hi]
 rfl
theorem getS_take {p : List Cell} (h : Pat p) {i : Nat} (hi : i < p.length) (x y : Int) : getS (p.take (i + 1)) x y = if p[i].X = x ∧ p[i].Y = y then p[i].S else getS (p.take i) x y := by
 rw [take_snoc hi, getS_snoc (h.fresh hi)]
theorem getS_fresh {p : List Cell} {x y : Int} (h : ∀ d ∈ p, ¬ (d.X = x ∧ d.Y = y)) : getS p x y = 0 := by
 cases e : decide (getS p x y = 0) with
 | true => exact of_decide_eq_true e
 | false =>
  obtain ⟨c, hc, h1, h2, _⟩ := getS_mem (of_decide_eq_false e)
  exact absurd ⟨h1, h2⟩ (h c hc)
theorem cells_eq {p : List Cell} (h : Pat p) : ∃ m, dY p = some m ∧ MapOf m (getS p) ∧ m.length ≤ p.length := by
 have hl := h.len
 obtain ⟨m, hm, hq⟩ := loop_iv (b := d8 p) (n := p.length) (s := (0, [])) (fun i s => s.1 = (i : Int) ∧ MapOf s.2 (getS (p.take i)) ∧ s.2.length ≤ i) (fun m => MapOf m (getS p) ∧ m.length ≤ p.length) (by omega)
  ⟨rfl, MapOf.nil, Nat.le_refl _⟩
  (fun i s hi ⟨h1, h2, h3⟩ => by
   obtain ⟨a, m⟩ := s
   dsimp only at h1 h2 h3
   subst h1
   have hx : p[i]? = some p[i] := List.getElem?_eq_getElem hi
   have hc := h.cell p[i] (List.getElem_mem hi)
   refine .inl ⟨(((i + 1 : Nat) : Int), bD m ⟨p[i].X, p[i].Y⟩ p[i].S), ?_, rfl, (h2.set _ _ _ (by omega)).congr fun x y => (getS_take h hi x y).symm, ?_⟩
   ·unfold d8
    dsimp only
    rw [ltB_nat, decide_eq_true hi, cond_true, idx_nat, hx, up_nat (by omega)]
    simp only [some_bind]
    rw [kck_in (by omega)]
    rfl
   ·have := len_mset (⟨p[i].X, p[i].Y⟩ : Point) p[i].S m
    dsimp only
    omega)
  (fun s ⟨h1, h2, h3⟩ => by
   obtain ⟨a, m⟩ := s
   dsimp only at h1 h2 h3
   subst h1
   refine ⟨m, ?_, by rw [List.take_length] at h2; exact h2, h3⟩
   unfold d8
   dsimp only
   rw [ltB_nat, decide_eq_false (Nat.lt_irrefl _)]
   rfl)
 exact ⟨m, by unfold dY; rw [hm]; rfl, hq⟩
theorem cfd_lt (a b : Change) : aM a b < 0 ↔ a.Y < b.Y ∨ (a.Y = b.Y ∧ a.X < b.X) := by
 unfold aM cmpYX cmpI
 by_cases h1 : a.Y < b.Y
 ·simp [h1]
 ·by_cases h2 : a.Y > b.Y
  ·simp [h1, h2]; omega
  ·have h3 : a.Y = b.Y := by omega
   by_cases h4 : a.X < b.X
   ·simp [h3, h4]
   ·by_cases h5 : a.X > b.X <;> simp [h3, h4, h5]
theorem cfd_ne (a b : Change) : aM a b ≠ 0 ↔ ¬ (a.X = b.X ∧ a.Y = b.Y) := by
 unfold aM cmpYX cmpI
 by_cases h1 : a.Y < b.Y
 ·simp [h1]; omega
 ·by_cases h2 : a.Y > b.Y
  ·simp [h1, h2]; omega
  ·have h3 : a.Y = b.Y := by omega
   by_cases h4 : a.X < b.X
   ·simp [h3, h4]; omega
   ·by_cases h5 : a.X > b.X
    ·simp [h3, h4, h5]; omega
    ·simp [h3, h4, h5]; omega
def IsCh (a b : List Cell) (c : Change) : Prop := c.From = getS a c.X c.Y ∧ c.To = getS b c.X c.Y ∧ c.From ≠ c.To
def DistH (c d : Change) : Prop := ¬ (c.X = d.X ∧ c.Y = d.Y)
structure OfL (a b : List Cell) (l : List Change) : Prop where
 mem : ∀ c, c ∈ l ↔ IsCh a b c
 sorted : l.Pairwise fun c d => aM c d < 0
 len : l.length ≤ 10000
structure OfI (a b : List Cell) (i : Nat) (old : List (Point × Int)) (out : List Change) : Prop where
 omap : MapOf old (fun x y => if getS (b.take i) x y = 0 then getS a x y else 0)
 mem : ∀ c, c ∈ out ↔ IsCh a b c ∧ getS (b.take i) c.X c.Y ≠ 0
 dist : out.Pairwise DistH
 len : out.length ≤ i
 olen : old.length ≤ 5000
theorem of_loop {a b : List Cell} (hb : Pat b) {old : List (Point × Int)} (ho : MapOf old (getS a)) (hlen : old.length ≤ 5000) : ∃ r, am (dM b) b3 (0, old, []) = some r ∧ OfI a b b.length r.1 r.2 := by
 have hl := hb.len
 refine loop_iv (b := dM b) (n := b.length) (s := (0, old, [])) (fun i s => s.1 = (i : Int) ∧ OfI a b i s.2.1 s.2.2) (fun r => OfI a b b.length r.1 r.2) (by omega) ?_ ?_ ?_
 ·refine ⟨rfl, ho.congr fun x y => ?_, fun c => ?_, List.Pairwise.nil, Nat.le_refl _, hlen⟩
  ·exact (if_pos rfl).symm
  ·constructor
   ·intro h; cases h
   ·rintro ⟨_, h⟩; exact absurd rfl h
 ·rintro i ⟨k, old, out⟩ hi ⟨h1, h⟩
  dsimp only at h1 h
  subst h1
  have hx : b[i]? = some b[i] := List.getElem?_eq_getElem hi
  have hc := hb.cell b[i] (List.getElem_mem hi)
  have hf := getS_fresh (hb.fresh hi)
  have hg : aL old ⟨b[i].X, b[i].Y⟩ 0 = getS a b[i].X b[i].Y := by rw [h.omap.getD, if_pos hf]
  have hbi := getS_of hb.sorted (List.getElem_mem hi)
  have hold : MapOf (eE old ⟨b[i].X, b[i].Y⟩) (fun x y => if getS (b.take (i + 1)) x y = 0 then getS a x y else 0) := (h.omap.del b[i].X b[i].Y).congr fun x y => by
   rw [getS_take hb hi]
   by_cases hq : b[i].X = x ∧ b[i].Y = y
   ·rw [if_pos hq, if_pos hq, if_neg (by omega)]
   ·rw [if_neg hq, if_neg hq]
  have holen : (eE old ⟨b[i].X, b[i].Y⟩).length ≤ 5000 := Nat.le_trans (sub_mdel _ _).length_le h.olen
  have hmem : ∀ c : Change, IsCh a b c ∧ getS (b.take (i + 1)) c.X c.Y ≠ 0 ↔ (IsCh a b c ∧ getS (b.take i) c.X c.Y ≠ 0) ∨ (getS a b[i].X b[i].Y ≠ b[i].S ∧ c = ⟨b[i].X, b[i].Y, getS a b[i].X b[i].Y, b[i].S⟩) := fun c => by
   rw [getS_take hb hi]
   constructor
   ·rintro ⟨hC, hn⟩
    by_cases hq : b[i].X = c.X ∧ b[i].Y = c.Y
    ·obtain ⟨e1, e2, e3⟩ := hC
     rw [← hq.1, ← hq.2] at e1 e2
     rw [hbi] at e2
     refine .inr ⟨by rw [← e1, ← e2]; exact e3, ?_⟩
     obtain ⟨x, y, f, t⟩ := c
     dsimp only at hq e1 e2
     rw [hq.1, hq.2, ← e2, hq.1.symm, hq.2.symm, ← e1]
    ·rw [if_neg hq] at hn
     exact .inl ⟨hC, hn⟩
   ·rintro (⟨hC, hn⟩ | ⟨hn, rfl⟩)
    ·refine ⟨hC, ?_⟩
     by_cases hq : b[i].X = c.X ∧ b[i].Y = c.Y
     ·rw [if_pos hq]; omega
     ·rw [if_neg hq]; exact hn
    ·dsimp only
     rw [if_pos ⟨rfl, rfl⟩]
     exact ⟨⟨rfl, hbi.symm, hn⟩, by omega⟩
  refine .inl ?_
  unfold dM
  dsimp only
  rw [ltB_nat, decide_eq_true hi, cond_true, idx_nat, hx, up_nat (by omega)]
  simp only [some_bind]
  rw [kck_in (by omega), hg]
  simp only [some_bind]
  by_cases he : getS a b[i].X b[i].Y = b[i].S
  ·have : neB (getS a b[i].X b[i].Y) b[i].S = false := by simpa [neB] using he
   rw [this]
   refine ⟨_, rfl, rfl, hold, fun c => ?_, h.dist, Nat.le_succ_of_le h.len, holen⟩
   rw [hmem, h.mem]
   exact ⟨.inl, fun hh => hh.elim id fun hh => absurd he hh.1⟩
  ·have : neB (getS a b[i].X b[i].Y) b[i].S = true := by simpa [neB] using he
   rw [this]
   have hap : eF 32 out [(⟨b[i].X, b[i].Y, getS a b[i].X b[i].Y, b[i].S⟩ : Change)] = some (out ++ [(⟨b[i].X, b[i].Y, getS a b[i].X b[i].Y, b[i].S⟩ : Change)]) := appL_one (by decide) (by have := h.len; simp only [List.length_singleton]; omega)
   rw [hap]
   refine ⟨_, rfl, rfl, hold, fun c => ?_, ?_, ?_, holen⟩
   ·rw [hmem]
    dsimp only
    rw [List.mem_append, List.mem_singleton, h.mem]
    exact or_congr Iff.rfl ⟨fun e => ⟨he, e⟩, fun e => e.2⟩
   ·rw [List.pairwise_append]
    refine ⟨h.dist, List.pairwise_singleton _ _, fun c hc d hd => ?_⟩
    rw [List.mem_singleton] at hd
    subst hd
    rintro ⟨e1, e2⟩
    dsimp only at e1 e2
    have := ((h.mem c).1 hc).2
    rw [e1, e2] at this
    exact this hf
   ·dsimp only
    have := h.len
    simp only [List.length_append, List.length_singleton]
    omega
 ·rintro ⟨k, old, out⟩ ⟨h1, h⟩
  dsimp only at h1 h
  subst h1
  refine ⟨(old, out), ?_, h⟩
  unfold dM
  dsimp only
  rw [ltB_nat, decide_eq_false (Nat.lt_irrefl _)]
  rfl
theorem of_is {a b : List Cell} (ha : Pat a) (hb : Pat b) : ∃ l, ei a b = some (l, 0) ∧ OfL a b l := by
 have hla := ha.len
 have hlb := hb.len
 obtain ⟨m, hm, hmo, hml⟩ := cells_eq ha
 obtain ⟨⟨old, out⟩, hr, h⟩ := of_loop hb hmo (by omega)
 dsimp only at h
 unfold ei
 rw [pat_eq (by omega), pat_eq (by omega), patOk_of ha, patOk_of hb]
 simp only [some_bind, br, Bool.not_true, cond_false, hm, hr]
 have hfl : (old.flatMap (bV old)) = old.map fun e => (⟨e.1.X, e.1.Y, e.2, 0⟩ : Change) := by
  unfold bV
  exact List.map_eq_flatMap.symm
 have hlen : (out ++ old.flatMap (bV old)).length ≤ 10000 := by
  rw [hfl]
  have h1 := h.len
  have h2 := h.olen
  simp only [List.length_append, List.length_map]
  omega
 have hcol : colL 32 (fun _ => true) (bV old) old out = some (out ++ old.flatMap (bV old)) := by
  unfold colL
  simp only [List.length_append] at hlen
  exact if_pos ⟨by omega, rfl⟩
 rw [hcol]
 have hmem : ∀ c, c ∈ out ++ old.flatMap (bV old) ↔ IsCh a b c := fun c => by
  rw [List.mem_append, h.mem, hfl, List.mem_map]
  rw [List.take_length]
  constructor
  ·rintro (⟨hc, _⟩ | ⟨⟨q, v⟩, hq, rfl⟩)
   ·exact hc
   ·obtain ⟨e1, e2⟩ := (h.omap.mem q v).1 hq
    rw [List.take_length] at e1
    dsimp only
    by_cases h0 : getS b q.X q.Y = 0
    ·rw [if_pos h0] at e1
     exact ⟨e1, h0.symm, e2⟩
    ·rw [if_neg h0] at e1
     exact absurd e1 e2
  ·intro hc
   by_cases h0 : getS b c.X c.Y = 0
   ·refine .inr ⟨(⟨c.X, c.Y⟩, c.From), ?_, ?_⟩
    ·rw [h.omap.mem, List.take_length]
     dsimp only
     rw [if_pos h0]
     refine ⟨hc.1, fun e => hc.2.2 ?_⟩
     rw [hc.2.1, h0, e]
    ·obtain ⟨x, y, f, t⟩ := c
     obtain ⟨e1, e2, e3⟩ := hc
     dsimp only at e1 e2 h0 ⊢
     rw [e2, h0]
   ·exact .inl ⟨hc, h0⟩
 have hdist : (out ++ old.flatMap (bV old)).Pairwise fun c d => aM c d ≠ 0 := by
  rw [List.pairwise_append]
  refine ⟨h.dist.imp fun {c d} hcd => (cfd_ne c d).2 hcd, ?_, fun c hc d hd => (cfd_ne c d).2 ?_⟩
  ·rw [hfl, List.pairwise_map]
   have hn := h.omap.nd
   unfold keysL at hn
   rw [List.nodup_iff_pairwise_ne, List.pairwise_map] at hn
   refine hn.imp fun {e f} hef => (cfd_ne _ _).2 fun hh => hef ?_
   dsimp only at hh
   obtain ⟨⟨x, y⟩, v⟩ := e
   obtain ⟨⟨x', y'⟩, v'⟩ := f
   dsimp only at hh ⊢
   rw [hh.1, hh.2]
  ·rintro ⟨e1, e2⟩
   rw [hfl, List.mem_map] at hd
   obtain ⟨⟨q, v⟩, hq, rfl⟩ := hd
   obtain ⟨e3, e4⟩ := (h.omap.mem q v).1 hq
   have := ((h.mem c).1 hc).2
   dsimp only at e1 e2
   rw [e1, e2] at this
   rw [if_neg this] at e3
   exact e4 e3
 obtain ⟨h1, h2, h3⟩ := sortM_strict (cf := aM) swo_delta_order (fun c d h1 h2 => by rw [cfd_lt] at h1 ⊢; rw [cfd_ne] at h2; omega) (fun c d h => by rw [cfd_ne] at h ⊢; omega) hdist (by omega)
 simp only [some_bind, aj]
 rw [h1]
 exact ⟨_, rfl, fun c => (h3.mem_iff).trans (hmem c), h2, by rw [h3.length_eq]; exact hlen⟩
end Go.Proofs.YtogdjcdmbodmiaaGreatDoor
namespace Go.Proofs.YtogdjcdmbodmiaaGreatDoor
open Go.AM Go.Proofs Go.Sort
theorem getS_bnd {p : List Cell} (h : Pat p) (x y : Int) : 0 ≤ getS p x y ∧ getS p x y < 8 := by
 by_cases h0 : getS p x y = 0
 ·omega
 ·obtain ⟨c, hc, _, _, e⟩ := getS_mem h0
  have := h.cell c hc
  omega
theorem getS_plc {p : List Cell} (h : Pat p) {x y : Int} (h0 : getS p x y ≠ 0) : -1048576 ≤ x ∧ x ≤ 1048576 ∧ -1048576 ≤ y ∧ y ≤ 1048576 := by
 obtain ⟨c, hc, e1, e2, _⟩ := getS_mem h0
 have := (h.cell c hc).1
 omega
theorem OfL.plc {a b : List Cell} {l : List Change} (h : OfL a b l) (ha : Pat a) (hb : Pat b) {c : Change} (hc : c ∈ l) : (-1048576 ≤ c.X ∧ c.X ≤ 1048576 ∧ -1048576 ≤ c.Y ∧ c.Y ≤ 1048576) ∧ (0 ≤ c.From ∧ c.From < 8) ∧ (0 ≤ c.To ∧ c.To < 8) ∧ c.From ≠ c.To := by
 obtain ⟨e1, e2, e3⟩ := (h.mem c).1 hc
 have h1 := getS_bnd ha c.X c.Y
 have h2 := getS_bnd hb c.X c.Y
 refine ⟨?_, by omega, by omega, e3⟩
 by_cases h0 : getS a c.X c.Y = 0
 ·exact getS_plc hb (by omega)
 ·exact getS_plc ha h0
theorem dstate_eq {s : Int} (h : 0 ≤ s ∧ s < 8) : dj s = some true := by
 unfold dj
 rw [show geB s 0 = true from decide_eq_true h.1, show ltB s 8 = true from decide_eq_true h.2]
 rfl
theorem dorder_eq (c d : Change) : di c d = some (aM c d) := tot_delta_order c d
theorem right_is {a b : List Cell} {l : List Change} (h : OfL a b l) (ha : Pat a) (hb : Pat b) : bo l = some true := by
 have hl := h.len
 obtain ⟨t, ht, rfl⟩ := loop_iv (b := d9 l) (n := l.length) (s := 0) (fun i s => s = (i : Int)) (fun t => t = .inr ()) (by omega) rfl
  (fun i s hi h1 => by
   subst h1
   have hx : l[i]? = some l[i] := List.getElem?_eq_getElem hi
   obtain ⟨p1, p2, p3, p4⟩ := h.plc ha hb (List.getElem_mem hi)
   have m1 := imax_is l[i].X l[i].Y
   have m2 := imin_is l[i].X l[i].Y
   refine .inl ⟨((i + 1 : Nat) : Int), ?_, rfl⟩
   unfold d9
   dsimp only
   rw [ltB_nat, decide_eq_true hi, cond_true, idx_nat, hx, up_nat (by omega)]
   simp only [some_bind]
   rw [show gtB (imax l[i].X l[i].Y) 1048576 = false from decide_eq_false (by omega), show ltB (imin l[i].X l[i].Y) (-1048576) = false from decide_eq_false (by omega), dstate_eq p2, dstate_eq p3]
   simp only [cond_false, some_bind, br, Bool.not_true]
   rw [show eqB l[i].From l[i].To = false from by simpa [eqB] using p4]
   simp only [cond_false]
   cases i with
   | zero => rfl
   | succ j =>
    rw [show gtB ((j + 1 : Nat) : Int) 0 = true from decide_eq_true (by omega)]
    have hd : aO .i64 ((j + 1 : Nat) : Int) 1 = (j : Int) := by
     unfold aO
     rw [i64_in (by omega)]
     omega
    have hy : l[j]? = some (l[j]'(by omega)) := List.getElem?_eq_getElem (by omega)
    rw [hd, idx_nat, hy]
    simp only [cond_true, some_bind]
    rw [dorder_eq]
    have := List.pairwise_iff_getElem.1 h.sorted j (j + 1) (by omega) hi (by omega)
    simp only [some_bind]
    rw [show geB (aM (l[j]'(by omega)) l[j + 1]) 0 = false from decide_eq_false (by omega)]
    rfl)
  (fun s h1 => by
   subst h1
   refine ⟨_, ?_, rfl⟩
   unfold d9
   dsimp only
   rw [ltB_nat, decide_eq_false (Nat.lt_irrefl _)]
   rfl)
 unfold bo
 rw [show gtB (ak l) 10000 = false from decide_eq_false (by unfold ak; omega), ht]
 rfl
def aft (a b : List Cell) (l : List Change) (i : Nat) (x y : Int) : Int := if (l.take i).any (fun c => decide (c.X = x ∧ c.Y = y)) then getS b x y else getS a x y
theorem aft_succ {a b : List Cell} {l : List Change} {i : Nat} (hi : i < l.length) (x y : Int) : aft a b l (i + 1) x y = if l[i].X = x ∧ l[i].Y = y then getS b x y else aft a b l i x y := by
 unfold aft
 rw [take_snoc hi, List.any_append]
 by_cases hq : l[i].X = x ∧ l[i].Y = y
 ·simp [hq]
 ·simp only [List.any_cons, List.any_nil, Bool.or_false, hq, decide_false]
  rfl
theorem aft_fresh {a b : List Cell} {l : List Change} (h : OfL a b l) {i : Nat} (hi : i < l.length) : aft a b l i l[i].X l[i].Y = getS a l[i].X l[i].Y := by
 unfold aft
 rw [if_neg]
 intro hh
 rw [List.any_eq_true] at hh
 obtain ⟨c, hc, e⟩ := hh
 have e := of_decide_eq_true e
 obtain ⟨j, hj⟩ := List.mem_iff_getElem?.1 hc
 rw [List.getElem?_take] at hj
 split at hj
 ·rename_i hji
  obtain ⟨hjl, rfl⟩ := List.getElem?_eq_some_iff.1 hj
  have := List.pairwise_iff_getElem.1 h.sorted j i hjl hi hji
  rw [cfd_lt] at this
  omega
 ·cases hj
theorem aft_all {a b : List Cell} {l : List Change} (h : OfL a b l) (x y : Int) : aft a b l l.length x y = getS b x y := by
 unfold aft
 rw [List.take_length]
 by_cases hh : l.any (fun c => decide (c.X = x ∧ c.Y = y)) = true
 ·rw [if_pos hh]
 ·rw [if_neg hh]
  by_cases he : getS a x y = getS b x y
  ·exact he
  ·exact absurd (List.any_eq_true.2 ⟨⟨x, y, getS a x y, getS b x y⟩, (h.mem _).2 ⟨rfl, rfl, he⟩, decide_eq_true ⟨rfl, rfl⟩⟩) hh
theorem apply_loop {a b : List Cell} {l : List Change} (h : OfL a b l) (ha : Pat a) (hb : Pat b) {m : List (Point × Int)} (hm : MapOf m (getS a)) (hlen : m.length ≤ 5000) :
  ∃ m', am (cB l) b3 (0, m) = some (.inr m') ∧ MapOf m' (getS b) ∧ m'.length ≤ 15000 := by
 have hl := h.len
 obtain ⟨t, ht, m', rfl, hm1, hm2⟩ := loop_iv (b := cB l) (n := l.length) (s := (0, m)) (fun i s => s.1 = (i : Int) ∧ MapOf s.2 (aft a b l i) ∧ s.2.length ≤ 5000 + i) (fun t => ∃ m', t = .inr m' ∧ MapOf m' (getS b) ∧ m'.length ≤ 15000) (by omega)
  ⟨rfl, hm.congr fun x y => by unfold aft; rfl, hlen⟩
  (fun i s hi ⟨h1, h2, h3⟩ => by
   obtain ⟨k, m⟩ := s
   dsimp only at h1 h2 h3
   subst h1
   have hx : l[i]? = some l[i] := List.getElem?_eq_getElem hi
   obtain ⟨p1, p2, p3, p4⟩ := h.plc ha hb (List.getElem_mem hi)
   obtain ⟨e1, e2, e3⟩ := (h.mem l[i]).1 (List.getElem_mem hi)
   have hg : aL m ⟨l[i].X, l[i].Y⟩ 0 = l[i].From := by rw [h2.getD, aft_fresh h hi, e1]
   have hlm := len_mset (⟨l[i].X, l[i].Y⟩ : Point) l[i].To m
   refine .inl ?_
   unfold cB cU
   dsimp only
   rw [ltB_nat, decide_eq_true hi, cond_true, idx_nat, hx, up_nat (by omega)]
   simp only [some_bind]
   rw [kck_in (by omega), hg, show neB l[i].From l[i].From = false from by simp [neB]]
   simp only [some_bind, cond_false]
   by_cases ht0 : l[i].To = 0
   ·rw [show eqB l[i].To 0 = true from by simpa [eqB] using ht0]
    refine ⟨_, rfl, rfl, (h2.setdel _ _ _).congr fun x y => ?_, ?_⟩
    ·rw [aft_succ hi]
     by_cases hq : l[i].X = x ∧ l[i].Y = y
     ·rw [if_pos hq, if_pos hq, ← hq.1, ← hq.2, ← e2, ht0]
     ·rw [if_neg hq, if_neg hq]
    ·dsimp only
     have := (sub_mdel (⟨l[i].X, l[i].Y⟩ : Point) (bD m ⟨l[i].X, l[i].Y⟩ l[i].To)).length_le
     omega
   ·rw [show eqB l[i].To 0 = false from by simpa [eqB] using ht0]
    refine ⟨_, rfl, rfl, (h2.set _ _ _ ht0).congr fun x y => ?_, ?_⟩
    ·rw [aft_succ hi]
     by_cases hq : l[i].X = x ∧ l[i].Y = y
     ·rw [if_pos hq, if_pos hq, ← hq.1, ← hq.2, ← e2]
     ·rw [if_neg hq, if_neg hq]
    ·dsimp only
     omega)
  (fun s ⟨h1, h2, h3⟩ => by
   obtain ⟨k, m⟩ := s
   dsimp only at h1 h2 h3
   subst h1
   refine ⟨_, ?_, m, rfl, h2.congr (aft_all h), by omega⟩
   unfold cB
   dsimp only
   rw [ltB_nat, decide_eq_false (Nat.lt_irrefl _)]
   rfl)
 exact ⟨m', ht, hm1, hm2⟩
theorem apply_is {a b : List Cell} {l : List Change} (h : OfL a b l) (ha : Pat a) (hb : Pat b) : cQ a l = some (b, 0) := by
 have hla := ha.len
 have hlb := hb.len
 obtain ⟨m, hm, hmo, hml⟩ := cells_eq ha
 obtain ⟨m', hr, hm1, hm2⟩ := apply_loop h ha hb hmo (by omega)
 unfold cQ
 rw [pat_eq (by omega), patOk_of ha, right_is h ha hb]
 simp only [some_bind, br, Bool.not_true, cond_false, hm, hr]
 have hfl : (m'.flatMap (cD m')) = m'.map fun e => (⟨e.1.X, e.1.Y, e.2⟩ : Cell) := by
  unfold cD
  exact List.map_eq_flatMap.symm
 have hmem : ∀ c, c ∈ m'.map (fun e => (⟨e.1.X, e.1.Y, e.2⟩ : Cell)) ↔ c ∈ b := fun c => by
  rw [List.mem_map]
  constructor
  ·rintro ⟨⟨q, v⟩, hq, rfl⟩
   obtain ⟨e1, e2⟩ := (hm1.mem q v).1 hq
   obtain ⟨d, hd, e3, e4, e5⟩ := getS_mem (p := b) (x := q.X) (y := q.Y) (by omega)
   have : d = ⟨q.X, q.Y, v⟩ := by
    obtain ⟨x, y, s⟩ := d
    dsimp only at e3 e4 e5
    rw [e3, e4, ← e5, ← e1]
   rw [← this]
   exact hd
  ·intro hc
   have h1 := getS_of hb.sorted hc
   have h2 := hb.cell c hc
   exact ⟨(⟨c.X, c.Y⟩, c.S), (hm1.mem _ _).2 ⟨h1.symm, by omega⟩, rfl⟩
 have hcells : ∀ c ∈ m'.map (fun e => (⟨e.1.X, e.1.Y, e.2⟩ : Cell)), placeB c.X c.Y = true ∧ 1 ≤ c.S ∧ c.S < 8 := fun c hc => by
  have := hb.cell c ((hmem c).1 hc)
  exact ⟨(place_iff _ _).2 this.1, this.2⟩
 have hcol : colL 24 fromOk (cD m') m' [] = some (m'.map fun e => (⟨e.1.X, e.1.Y, e.2⟩ : Cell)) := by
  unfold colL
  rw [hfl]
  exact if_pos ⟨by simp only [List.length_map, List.length_nil]; omega, (fromOk_iff _).2 ⟨by rw [List.nil_append, List.length_map]; omega, hcells⟩⟩
 rw [hcol]
 have hdist : (m'.map fun e => (⟨e.1.X, e.1.Y, e.2⟩ : Cell)).Pairwise Dist := by
  rw [List.pairwise_map]
  have hn := hm1.nd
  unfold keysL at hn
  rw [List.nodup_iff_pairwise_ne, List.pairwise_map] at hn
  refine hn.imp fun {e f} hef hh => hef ?_
  dsimp only at hh
  obtain ⟨⟨x, y⟩, v⟩ := e
  obtain ⟨⟨x', y'⟩, v'⟩ := f
  dsimp only at hh ⊢
  rw [hh.1, hh.2]
 have hs : ed aA (m'.map fun e => (⟨e.1.X, e.1.Y, e.2⟩ : Cell)) = b := sorted_ext (isort_sorted hdist) hb.sorted fun c => ((dp _).mem_iff).trans (hmem c)
 simp only [some_bind]
 rw [from_eq (by rw [List.length_map]; omega) hcells hdist, hs, show gtB (ak b) 5000 = false from decide_eq_false (by unfold ak; omega)]
 rfl
end Go.Proofs.YtogdjcdmbodmiaaGreatDoor
namespace Go.Proofs.YtogdjcdmbodmiaaGreatDoor
open Go.AM Go.Proofs Go.Sort
def wRule (number : Int) : Option (Tree × Int) :=
 (iquo .i64 (d5 .i64 number) 2).bind fun n =>
 ((bif (geB (imul .i64 n 2) 100) then
  (iquo .i64 (imul .i64 n 2) 100).bind fun n1 =>
  (catS ([87] : List UInt8) (ofBytes [(d5 .u8 (bd .i64 48 n1))])).bind fun s =>
  some s
 else
  some ([87] : List UInt8))).bind fun s =>
 ((bif (geB (imul .i64 n 2) 10) then
  (iquo .i64 (imul .i64 n 2) 10).bind fun n1 =>
  (irem n1 10).bind fun n2 =>
  (catS s (ofBytes [(d5 .u8 (bd .i64 48 n2))])).bind fun s1 =>
  some s1
 else
  some s)).bind fun s1 =>
 (irem (imul .i64 n 2) 10).bind fun n1 =>
 (catS s1 (ofBytes [(d5 .u8 (bd .i64 48 n1))])).bind fun s2 =>
 dt s2
def wOk (number : Int) : Bool := match wRule number with
 | some (t, e) => decide (e = 0) && (decide (t.Nodes.length ≤ 100) && (decide (t.Hood.length ≤ 100) && t.Nodes.all fun x => decide (x.Next.length ≤ 100)))
 | none => false
theorem awake53 : dE = some true := by kernel_rfl
theorem wOk_all : ∀ k : Fin 256, wOk ((k.1 : Nat) : Int) = true := by decide +kernel
def wRest (p : List Cell) (y : Tree × Int) : Option Bool :=
 (bif (neB y.2 0) then
  some false
 else
  (bS y.1 p).bind fun y1 =>
  ((bif (gtB (ak p) 60) then
   some true
  else
   some (neB y1.2 0))).bind fun a =>
  (bif a then
   (dE).bind fun y2 =>
   some y2
  else
   (ei p y1.1).bind fun y2 =>
   (cQ p y2.1).bind fun y3 =>
   ((bif (eqB y2.2 0) then
    (bif (eqB y3.2 0) then
     (ej y3.1 y1.1).bind fun y4 =>
     (bif y4 then
      (dE).bind fun y5 =>
      some y5
     else
      some false)
    else
     some false)
   else
    some false)).bind fun a1 =>
   some a1))
theorem law_eq (p : List Cell) (number : Int) : cR p number = (wRule number).bind (wRest p) := by
 unfold cR wRule wRest
 simp only [Option.bind_assoc]
theorem step_some {t : Tree} {p : List Cell} (hs : Sz t) : ∃ r, bS t p = some r := by
 by_cases hp : p.length < 1099511627776
 ·rcases step_eq hs hp with ⟨_, h⟩ | ⟨_, r, h, _⟩
  ·exact ⟨_, h⟩
  ·exact ⟨_, h⟩
 ·unfold bS cV bp
  rw [quiet_eq hs, show gtB (ak p) 5000 = true from decide_eq_true (by unfold ak; omega)]
  simp only [some_bind, cond_true]
  cases quietB t
  ·exact ⟨_, rfl⟩
  ·exact ⟨_, rfl⟩
theorem rest_true {t : Tree} (hs : Sz t) (p : List Cell) : wRest p (t, 0) = some true := by
 unfold wRest
 rw [show neB ((t, (0 : Int)).2) 0 = false from rfl, cond_false]
 by_cases hp : p.length ≤ 60
 ·rw [show gtB (ak p) 60 = false from decide_eq_false (by unfold ak; omega)]
  dsimp only
  rcases step_eq hs (p := p) (by omega) with ⟨h0, h⟩ | ⟨h0, r, h, hr⟩
  ·rw [h]
   simp only [some_bind, cond_false]
   rw [show neB (fitE t p) 0 = true from by simpa [neB] using h0, cond_true, awake53]
   rfl
  ·rw [h]
   simp only [some_bind, cond_false]
   by_cases hr0 : r.2 = 0
   ·rw [show neB r.2 0 = false from by simpa [neB] using hr0, cond_false]
    have hf := fit_of h0
    have hq := (stp_pat hf hs hr hr0).pat
    obtain ⟨l, h1, h2⟩ := of_is hf.pat hq
    rw [h1]
    simp only [some_bind]
    rw [apply_is h2 hf.pat hq]
    simp only [some_bind]
    rw [same_eq hq.len hq.len, decide_eq_true rfl, awake53]
    rfl
   ·rw [show neB r.2 0 = true from by simpa [neB] using hr0, cond_true, awake53]
    rfl
 ·rw [show gtB (ak p) 60 = true from decide_eq_true (by unfold ak; omega)]
  obtain ⟨r, hr⟩ := step_some (p := p) hs
  dsimp only
  rw [hr]
  simp only [some_bind, cond_true]
  rw [awake53]
  rfl
theorem deltaSteps_true (p : List Cell) (number : Int) (hn : 0 ≤ number ∧ number ≤ 255) : cR p number = some true := by
 have h := wOk_all ⟨number.toNat, by omega⟩
 have he : ((number.toNat : Nat) : Int) = number := by omega
 dsimp only at h
 rw [he] at h
 rw [law_eq]
 unfold wOk at h
 cases hw : wRule number with
 | none => rw [hw] at h; cases h
 | some y =>
  obtain ⟨t, e⟩ := y
  rw [hw] at h
  simp only [Bool.and_eq_true, decide_eq_true_eq, List.all_eq_true] at h
  obtain ⟨rfl, h1, h2, h3⟩ := h
  exact rest_true ⟨by omega, by omega, fun x hx => by have := h3 x hx; omega⟩ p
end Go.Proofs.YtogdjcdmbodmiaaGreatDoor
