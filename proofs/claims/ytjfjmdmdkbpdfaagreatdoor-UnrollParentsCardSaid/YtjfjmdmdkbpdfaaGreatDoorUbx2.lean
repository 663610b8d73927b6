/- Plain laws: the clauses of a tree: the reference's loop. -/
import Derived.Test.YtjfjmdmdkbpdfaaGreatDoorUbx1
namespace Go.Proofs.YtjfjmdmdkbpdfaaGreatDoor
open Go.AM Go.Proofs
section
variable {n b : Nat} {in_ : List SV} {ns : List Node} {n0 : Int} {c0 : Nat}
theorem kidsR {t : Tree} {ia : List Az} {y i' f : Int} {l : List (List Int)} {of_ : List SV} {x : Node} {i : Nat} {H : Nat} (W : WT n b H in_ ns) (hof : of_.length = i) (hx : ns[i]? = some x) (hS : t.States = (n : Int)) :
  b0 (b_R45_tree_o_o_2 t ia y i' f l (of_.map rv) x) bl (0, []) = some (((List.range n).map fun s => dM of_ x s).map rv) := by
 have n8 := W.n8
 have hl := W.good.len i x hx
 obtain ⟨r, hr, rfl⟩ := bH (b := b_R45_tree_o_o_2 t ia y i' f l (of_.map rv) x) (n := n) (s := (0, [])) (fun s st => st = ((s : Int), ((List.range s).map fun s => dM of_ x s).map rv)) (fun r => r = ((List.range n).map fun s => dM of_ x s).map rv) (by omega) (by simp)
  (fun s st hs e => by
   subst e
   have hk : x.Next[s]? = some (x.Next.getD s 0) := by rw [List.getD_eq_getElem?_getD, List.getElem?_eq_getElem (by omega)]; rfl
   refine .inl ⟨(((s + 1 : Nat) : Int), ((List.range (s + 1)).map fun s => dM of_ x s).map rv), ?_, rfl⟩
   unfold b_R45_tree_o_o_2
   dsimp only
   rw [hS, show ltB (s : Int) (n : Int) = true from decide_eq_true (by omega), cond_true, bg, hk, bw (by omega)]
   simp only [aQ]
   have hv : ∀ v : SV, dM of_ x s = v -> (((List.range s).map fun s => dM of_ x s).map rv) ++ [rv v] = ((List.range (s + 1)).map fun s => dM of_ x s).map rv := fun v hv => by
    rw [List.range_succ, List.map_append, List.map_append, <- hv]
    rfl
   by_cases h1 : x.Level = 1
   ·rw [show eqB x.Level 1 = true from by simp [eqB, h1], cond_true, bK (by decide) (by decide) (by simp; omega)]
    simp only [aQ]
    have hk' : dM of_ x s = (x.Next.getD s 0, []) := if_pos h1
    rw [<- hv _ hk']
    rfl
   ·rw [show eqB x.Level 1 = false from by simp [eqB, h1], cond_false]
    have hi := (W.inb hx).2.1
    obtain ⟨a, c, _⟩ := W.good.kid i x hx (by omega) _ (List.mem_of_getElem? hk)
    have hlt : (x.Next.getD s 0).toNat < of_.length := by omega
    have hk' : dM of_ x s = of_.getD (x.Next.getD s 0).toNat (0, []) := if_neg h1
    rw [cH _ a, List.getElem?_map, List.getElem?_eq_getElem hlt]
    simp only [Option.map_some, aQ]
    rw [bK (by decide) (by decide) (by simp; omega)]
    simp only [aQ]
    rw [<- hv _ hk', List.getD_eq_getElem?_getD (l := of_), List.getElem?_eq_getElem hlt]
    rfl)
  (fun st e => by
   subst e
   refine ⟨_, ?_, rfl⟩
   unfold b_R45_tree_o_o_2
   dsimp only
   rw [hS, show ltB (n : Int) (n : Int) = false from decide_eq_false (by omega)]
   rfl)
 exact hr
theorem selR {t : Tree} {ia : List Az} {i' : Int} {of_ : List Az} {x : Node} {kids : List Az} {f : Int} {own un : List Int} {s : Nat} {v : SV} {cs : List (List Int)} (hv : VOk n b v) (hk : kids[s]? = some (rv v)) (ho : own.length = b) (hb : b <= 3) (h : cs.length <= 100000000000) (h1 : un.length <= 1000000) :
  b0 (b_R45_tree_o_o_5 t ia (b : Int) i' of_ x kids f own (s : Int) un) bl (0, cs) = some (cs ++ selS un own v) := by
 refine du own (sel1 un v) 2 200000000000 cs (fun i x => sel1_len un v i x) (by omega) (by omega) (fun i x ac hx hac => ?_) (fun ac => ?_)
 ·have hi := br hx
  unfold b_R45_tree_o_o_5 sel1
  dsimp only [rv]
  rw [show ltB (i : Int) (b : Int) = true from decide_eq_true (by omega), cond_true, bg, hk, bg, hx, bw (by omega)]
  simp only [aQ, rv]
  cases he : isE v.2 with
  | false =>
   have hne : v.2 ≠ [] := fun e => by rw [e] at he; cases he
   have hl := vok_len hv he
   have hy : v.2[i]? = some (v.2.getD i 0) := by rw [List.getD_eq_getElem?_getD, List.getElem?_eq_getElem (by omega)]; rfl
   rw [show gtB (aY v.2) 0 = true from decide_eq_true (by unfold aY; omega), cond_true, bg, hy, cond_false]
   simp only [aQ]
   rw [clauseR (by omega) h1 (by simp)]
   simp only [aQ]
   rw [clauseR (by simp; omega) h1 (by simp)]
   simp only [aQ, List.append_assoc, List.singleton_append, List.nil_append]
  | true =>
   have := isE_true he
   obtain ⟨m, e1, e2⟩ := bitR_eq v.1 (show i < 1099511627776 by omega)
   rw [show gtB (aY v.2) 0 = false from by rw [this]; rfl, cond_false, e1, cond_true]
   simp only [aQ]
   rw [e2, clauseR (by omega) h1 (by simp), clauseR (by omega) h1 (by simp)]
   cases bitB v.1 i <;> rfl
 ·unfold b_R45_tree_o_o_5
  dsimp only
  rw [ho, show ltB (b : Int) (b : Int) = false from decide_eq_false (by omega)]
  rfl
theorem selsR {t : Tree} {i' : Int} {of_ : List SV} {x : Node} {i : Nat} {v : Int} {cs : List (List Int)} {oa : List Az} {f : Int} (W : WT n b t.Hood.length in_ ns) (T : TI n b i n0 c0 (v, cs, of_)) (hx : ns[i]? = some x) (hS : t.States = (n : Int)) (hc : cs.length <= 10000000000) :
  b0 (b_R45_tree_o_o_4 t (in_.map rv) (b : Int) i' oa x (((List.range n).map fun s => dM of_ x s).map rv) f (bI v b)) bl (0, cs) = some (cs ++ gat (fun s _ => selS (agS (rdS t.Hood.length in_ x) ((s : Nat) : Int)) (bI v b) (dM of_ x s)) x.Next 0) := by
 have n8 := W.n8
 have b3 := W.b3
 have hl := W.good.len i x hx
 have hrl := rds_len W hx
 obtain ⟨x1, e1, e2, _⟩ := rds_get W hx
 have e1' : idx (in_.map rv) (bF .i64 (aY t.Hood) x.Level) = some (rv x1) := by
  unfold idx aY at *
  split at e1
  ·rename_i hp
   rw [if_pos hp, List.getElem?_map, e1]
   rfl
  ·cases e1
 refine du x.Next _ 6 20000000000 cs (fun s y => ?_) (by omega) (by omega) (fun s y ac hs hac => ?_) (fun ac => ?_)
 ·have := selS_len (agS (rdS t.Hood.length in_ x) (s : Int)) (bI v b) (dM of_ x s)
  rw [cn] at this
  omega
 ·have hlt := br hs
  unfold b_R45_tree_o_o_4
  dsimp only
  rw [hS, show ltB (s : Int) (n : Int) = true from decide_eq_true (by omega), cond_true, e1', bw (by omega)]
  simp only [aQ]
  rw [show (rv x1).Vars = rdS t.Hood.length in_ x from e2, againstR_eq (by omega)]
  simp only [aQ]
  rw [selR (kid_ok W T hx (s := s) (by omega)) (by rw [List.getElem?_map, List.getElem?_map, List.getElem?_range (by omega)]; rfl) (cn _ _) b3 (by omega) (by rw [agS_len]; omega)]
  rfl
 ·unfold b_R45_tree_o_o_4
  dsimp only
  rw [hS, hl, show ltB (n : Int) (n : Int) = false from decide_eq_false (by omega)]
  rfl
theorem treeR {t : Tree} {v : Int} {cs : List (List Int)} (W : WT n b t.Hood.length in_ t.Nodes) (hS : t.States = (n : Int)) (hb : PC.bitsOf t.States = (b : Int)) (h0 : 0 <= v) (h1 : v <= 10000000) (hc : cs.length <= 1000000000) :
  ∃ r, m_R45_tree_o_o v cs t (in_.map rv) = some r /\
   (cj (bA b t.Hood.length in_ t.Nodes (v, cs, [])).1 (bA b t.Hood.length in_ t.Nodes (v, cs, [])).2.1 = true -> r = ((bA b t.Hood.length in_ t.Nodes (v, cs, [])).1, ((bA b t.Hood.length in_ t.Nodes (v, cs, [])).2.2.getLastD (0, [])).1, ((bA b t.Hood.length in_ t.Nodes (v, cs, [])).2.2.getLastD (0, [])).2, (bA b t.Hood.length in_ t.Nodes (v, cs, [])).2.1)) /\
   (cj (bA b t.Hood.length in_ t.Nodes (v, cs, [])).1 (bA b t.Hood.length in_ t.Nodes (v, cs, [])).2.1 = false -> cj r.1 r.2.2.2 = false /\ r.2.2.1 = [] /\ r.1 <= v + 12288 /\ v <= r.1 /\ r.2.2.2.length <= cs.length + 196608) := by
 have hlen := W.len
 have b3 := W.b3
 have n8 := W.n8
 have n2 := W.n2
 have hH := W.H25
 have TA := TI.at_ W (TI.init (n := n) (b := b) (n0 := v) (cs := cs))
 unfold m_R45_tree_o_o
 rw [PC.bitsR_eq, hb]
 simp only [aQ]
 obtain ⟨r, hr, i, hi, rfl, hq⟩ := bH (b := b_R45_tree_o_o_1 t (in_.map rv) (b : Int)) (n := t.Nodes.length) (s := (0, v, cs, []))
  (fun i st => st = ((i : Int), (bA b t.Hood.length in_ (t.Nodes.take i) (v, cs, [])).1, (bA b t.Hood.length in_ (t.Nodes.take i) (v, cs, [])).2.1, (bA b t.Hood.length in_ (t.Nodes.take i) (v, cs, [])).2.2.map rv))
  (fun r => ∃ i, i <= t.Nodes.length /\ r = ((bA b t.Hood.length in_ (t.Nodes.take i) (v, cs, [])).1, (bA b t.Hood.length in_ (t.Nodes.take i) (v, cs, [])).2.1, (bA b t.Hood.length in_ (t.Nodes.take i) (v, cs, [])).2.2.map rv) /\ (i = t.Nodes.length \/ cj (bA b t.Hood.length in_ (t.Nodes.take i) (v, cs, [])).1 (bA b t.Hood.length in_ (t.Nodes.take i) (v, cs, [])).2.1 = false)) (by omega) (by simp [bA])
  (fun i st hi e => by
   subst e
   have T := TA i (by omega)
   have hx : t.Nodes[i]? = some t.Nodes[i] := List.getElem?_eq_getElem hi
   rw [tree_take b t.Hood.length in_ (v, cs, []) hx]
   generalize t.Nodes[i] = x at hx
   cases hf : cj (bA b t.Hood.length in_ (t.Nodes.take i) (v, cs, [])).1 (bA b t.Hood.length in_ (t.Nodes.take i) (v, cs, [])).2.1 with
   | false =>
    refine .inr ⟨_, ?_, i, by omega, rfl, .inr hf⟩
    unfold b_R45_tree_o_o_1
    dsimp only
    rw [be, decide_eq_true hi, cond_true, dy]
    dsimp only
    rw [hf]
    rfl
   | true =>
    generalize bA b t.Hood.length in_ (t.Nodes.take i) (v, cs, []) = st at T hf
    obtain ⟨w, ds, of_⟩ := st
    have hl := W.good.len i x hx
    obtain ⟨t1, t2, t3, t4, t5⟩ := id T
    dsimp only at t1 t2 t3 t4 hf
    refine .inl ⟨_, ?_, rfl⟩
    unfold b_R45_tree_o_o_1
    dsimp only
    rw [be, decide_eq_true hi, cond_true, dy]
    dsimp only
    rw [hf, bg, hx, bw (by omega)]
    simp only [aQ, cond_true]
    rw [kidsR W t4 hx hS, uniR (by omega) (by omega)]
    simp only [aQ]
    unfold eZ
    cases hu : uniB x with
    | true =>
     simp only [cond_true]
     rw [show idx (((List.range n).map fun s => dM of_ x s).map rv) 0 = some (rv (dM of_ x 0)) from by
      rw [show (0 : Int) = ((0 : Nat) : Int) from rfl, bg, List.getElem?_map, List.getElem?_map, List.getElem?_range (by omega)]; rfl]
     simp only [aQ]
     rw [bK (by decide) (by decide) (by simp; omega), List.map_append]
     rfl
    | false =>
     simp only [cond_false]
     rw [freshR t (in_.map rv) (i : Int) ds (of_.map rv) x _ b3 (by omega) (by omega)]
     simp only [aQ]
     rw [bK (by decide) (by decide) (by simp; omega)]
     simp only [aQ]
     rw [selsR W T hx hS (by omega), List.map_append]
     rfl)
  (fun st e => by
   subst e
   refine ⟨_, ?_, t.Nodes.length, Nat.le_refl _, rfl, .inl rfl⟩
   unfold b_R45_tree_o_o_1
   dsimp only
   rw [be, decide_eq_false (Nat.lt_irrefl _)]
   rfl)
 rw [hr]
 simp only [aQ]
 rw [dy]
 simp only [aQ]
 have Ti := TA i hi
 cases hf : cj (bA b t.Hood.length in_ (t.Nodes.take i) (v, cs, [])).1 (bA b t.Hood.length in_ (t.Nodes.take i) (v, cs, [])).2.1 with
 | false =>
  refine ⟨_, rfl, fun h => ?_, fun _ => ⟨hf, rfl, ?_, Ti.lo, ?_⟩⟩
  ·rw [fit_take i h] at hf
   cases hf
  ·have := Ti.hi
   show (bA b t.Hood.length in_ (t.Nodes.take i) (v, cs, [])).1 <= _
   omega
  ·have := Ti.cs
   show (bA b t.Hood.length in_ (t.Nodes.take i) (v, cs, [])).2.1.length <= _
   omega
 | true =>
  have hil : i = t.Nodes.length := by
   rcases hq with h | h
   ·exact h
   ·rw [h] at hf; cases hf
  subst hil
  rw [List.take_length] at hf ⊢ Ti
  generalize bA b t.Hood.length in_ t.Nodes (v, cs, []) = st at Ti hf
  obtain ⟨w, ds, of_⟩ := st
  have h4 := Ti.of_
  have hne := W.ne
  dsimp only at h4 hf ⊢
  have : idx (of_.map rv) (bF .i64 (aY (of_.map rv)) 1) = some (rv (of_.getLastD (0, []))) := by
   unfold aY
   rw [List.length_map, eR (by omega), cH _ (by omega), show ((of_.length : Int) - 1).toNat = of_.length - 1 by omega, List.getElem?_map, List.getLastD_eq_getLast?, List.getLast?_eq_getElem?, List.getElem?_eq_getElem (show of_.length - 1 < of_.length by omega)]
   rfl
  refine ⟨_, ?_, fun _ => rfl, fun h => ?_⟩
  ·simp only [cr, Bool.not_true, cond_false]
   rw [this]
   rfl
  ·rw [hf] at h; cases h
end
end Go.Proofs.YtjfjmdmdkbpdfaaGreatDoor
namespace Go.Proofs.YtjfjmdmdkbpdfaaGreatDoor
open Go.AM Go.Proofs
def exC (n b : Nat) (vs : List Int) : List (List Int) := (List.range (2 ^ b - n)).map fun (k : Nat) => agS vs ((n : Int) + k)
def bB (b m : Nat) : List SV := (List.range m).map fun (i : Nat) => ((0 : Int), bI ((i : Int) * b) b)
def co (n b m : Nat) : List (List Int) := gat (fun _ (v : SV) => exC n b v.2) (bB b m) 0
theorem exC_len {n b : Nat} (hb : b <= 3) (vs : List Int) : (exC n b vs).length <= 8 := by
 unfold exC
 rw [List.length_map, List.length_range]
 have : 2 ^ b <= 2 ^ 3 := Nat.pow_le_pow_right (by omega) hb
 omega
theorem cJ (b m : Nat) : (bB b m).length = m := by simp [bB]
theorem cellsC_len {n b : Nat} (hb : b <= 3) (m : Nat) : (co n b m).length <= 8 * m := by
 have := gat_len (f := fun _ (v : SV) => exC n b v.2) (m := 8) (fun _ v => exC_len hb v.2) (bB b m) 0
 rwa [cJ] at this
theorem cellsV_ok {n b m : Nat} : ∀ v ∈ bB b m, VOk n b v /\ v.2.length = b := fun v hv => by
 unfold bB at hv
 obtain ⟨i, _, rfl⟩ := List.mem_map.1 hv
 exact ⟨.inr ⟨rfl, cn _ _⟩, cn _ _⟩
structure SB (n b : Nat) : Prop where
 n2 : 2 <= n
 n8 : n <= 8
 b1 : 1 <= b
 b3 : b <= 3
 pw : n <= 2 ^ b
 bits : PC.bitsOf (n : Int) = (b : Int)
theorem sb_of {n : Nat} (h2 : 2 <= n) (h8 : n <= 8) : ∃ b, SB n b := by
 rcases PC.bits_in (s := (n : Int)) (by omega) (by omega) with ⟨h, k⟩ | ⟨h, k⟩ | ⟨h, k⟩
 ·exact ⟨1, h2, h8, by omega, by omega, by omega, h⟩
 ·exact ⟨2, h2, h8, by omega, by omega, by omega, h⟩
 ·exact ⟨3, h2, h8, by omega, by omega, by omega, h⟩
theorem shl_b {n b : Nat} (B : SB n b) : ishl .i64 1 (b : Int) = some ((2 ^ b : Nat) : Int) := by
 have h1 := B.b1
 have h3 := B.b3
 match b, h1, h3 with
 | 1, _, _ => rfl
 | 2, _, _ => rfl
 | 3, _, _ => rfl
section
variable {n b : Nat} {S : Int} {Hd : List Point} {N : List Node} {mp : List (List UInt8 × Tree)}
theorem ex_step (n _b : Nat) (vs : List Int) (k : Nat) : (List.range (k + 1)).map (fun (k : Nat) => agS vs ((n : Int) + k)) = (List.range k).map (fun (k : Nat) => agS vs ((n : Int) + k)) ++ [agS vs ((n : Int) + k)] := by
 rw [List.range_succ, List.map_append]
 rfl
theorem exP {box : Box} {l : List Ax} {f a : Int} {v : SV} {cs : List (List Int)} (B : SB n b) (hl : v.2.length = b) (hc : cs.length <= 1000000000) : b0 (b_unroll_builder_free_o_3 (n : Int) Hd N (b : Int) mp box l f a (pv v)) bl ((n : Int), cs) = some (cs ++ exC n b v.2) := by
 have h1 := B.b1
 have h3 := B.b3
 have h8 := B.n8
 have hp := B.pw
 have hq : 2 ^ b <= 2 ^ 3 := Nat.pow_le_pow_right (by omega) h3
 obtain ⟨r, hr, rfl⟩ := bH (b := b_unroll_builder_free_o_3 (n : Int) Hd N (b : Int) mp box l f a (pv v)) (n := 2 ^ b - n) (s := ((n : Int), cs)) (fun k st => st = ((n : Int) + k, cs ++ (List.range k).map fun (k : Nat) => agS v.2 ((n : Int) + k))) (fun r => r = cs ++ exC n b v.2) (by omega) (by simp)
  (fun k st hk e => by
   subst e
   refine .inl ⟨_, ?_, rfl⟩
   unfold b_unroll_builder_free_o_3
   dsimp only
   rw [shl_b B]
   simp only [aQ]
   rw [show ltB ((n : Int) + (k : Int)) ((2 ^ b : Nat) : Int) = true from decide_eq_true (by omega), cond_true, show (pv v).vars = v.2 from rfl, f6 (fun e => by rw [e] at hl; simp at hl; omega), against_eq (by omega)]
   simp only [aQ]
   rw [clauseP (by simp; omega), bQ (a := (n : Int) + k) (b := 1) (by omega), ex_step n b v.2 k, <- List.append_assoc]
   simp only [aQ]
   rw [show (n : Int) + (k : Int) + 1 = (n : Int) + ((k + 1 : Nat) : Int) by omega])
  (fun st e => by
   subst e
   refine ⟨_, ?_, rfl⟩
   unfold b_unroll_builder_free_o_3
   dsimp only
   rw [shl_b B]
   simp only [aQ]
   rw [show ltB ((n : Int) + ((2 ^ b - n : Nat) : Int)) ((2 ^ b : Nat) : Int) = false from decide_eq_false (by omega)]
   rfl)
 exact hr
theorem exR {m : Int} {i : Int} {out : List Az} {v : List Int} {cs : List (List Int)} (B : SB n b) (hl : v.length = b) (hc : cs.length <= 1000000000) : b0 (b_R45_cells_3 m (n : Int) (b : Int) i out v) bl ((n : Int), cs) = some (cs ++ exC n b v) := by
 have h1 := B.b1
 have h3 := B.b3
 have h8 := B.n8
 have hp := B.pw
 have hq : 2 ^ b <= 2 ^ 3 := Nat.pow_le_pow_right (by omega) h3
 obtain ⟨r, hr, rfl⟩ := bH (b := b_R45_cells_3 m (n : Int) (b : Int) i out v) (n := 2 ^ b - n) (s := ((n : Int), cs)) (fun k st => st = ((n : Int) + k, cs ++ (List.range k).map fun (k : Nat) => agS v ((n : Int) + k))) (fun r => r = cs ++ exC n b v) (by omega) (by simp)
  (fun k st hk e => by
   subst e
   refine .inl ⟨_, ?_, rfl⟩
   unfold b_R45_cells_3
   dsimp only
   rw [u64_nat (by omega), shl_b B]
   simp only [aQ]
   rw [show ltB ((n : Int) + (k : Int)) ((2 ^ b : Nat) : Int) = true from decide_eq_true (by omega), cond_true, againstR_eq (by omega)]
   simp only [aQ]
   rw [clauseR0 (by simp; omega) (by rw [agS_len]; omega), bQ (a := (n : Int) + k) (b := 1) (by omega), ex_step n b v k, <- List.append_assoc]
   simp only [aQ, List.nil_append, List.append_nil]
   rw [show (n : Int) + (k : Int) + 1 = (n : Int) + ((k + 1 : Nat) : Int) by omega])
  (fun st e => by
   subst e
   refine ⟨_, ?_, rfl⟩
   unfold b_R45_cells_3
   dsimp only
   rw [u64_nat (by omega), shl_b B]
   simp only [aQ]
   rw [show ltB ((n : Int) + ((2 ^ b - n : Nat) : Int)) ((2 ^ b : Nat) : Int) = false from decide_eq_false (by omega)]
   rfl)
 exact hr
theorem cellsV_succ (b i : Nat) : bB b (i + 1) = bB b i ++ [((0 : Int), bI ((i : Int) * b) b)] := by
 unfold bB
 rw [List.range_succ, List.map_append]
 rfl
theorem freeP {box : Box} {m : Nat} (B : SB n b) (hm : bq .i64 box.W box.H = (m : Int)) (hm1 : m <= 1000) :
  m_unroll_builder_free_o 0 [] (n : Int) Hd N (b : Int) mp box = some ((bB b m).map pv, co n b m, (m : Int) * b) := by
 have h1 := B.b1
 have h3 := B.b3
 have hmul : ∀ i : Nat, i <= m -> 0 <= (i : Int) * b /\ (i : Int) * b <= 1000000 := fun i hi => by
  have : i * b <= 1000 * 3 := Nat.mul_le_mul (by omega) h3
  have e : ((i * b : Nat) : Int) = (i : Int) * b := Int.natCast_mul i b
  omega
 unfold m_unroll_builder_free_o
 obtain ⟨r, hr, rfl⟩ := bH (b := b_unroll_builder_free_o_1 [] (n : Int) Hd N (b : Int) mp box) (n := m) (s := (0, [], 0)) (fun i st => st = ((i : Int), (bB b i).map pv, (i : Int) * b)) (fun r => r = ((bB b m).map pv, (m : Int) * b)) (by omega) (by simp [bB])
  (fun i st hi e => by
   subst e
   refine .inl ⟨_, ?_, rfl⟩
   have := hmul i (by omega)
   unfold b_unroll_builder_free_o_1
   dsimp only
   rw [hm, show ltB (i : Int) (m : Int) = true from decide_eq_true (by omega), cond_true, freshP h3 (by omega) (by omega), bw (by omega)]
   simp only [aQ]
   rw [f6 (fun e => by have h9 := cn ((i : Int) * b) b; rw [e] at h9; simp at h9; omega)]
   simp only [aQ]
   rw [bK (by decide) (by decide) (by rw [List.length_map, cJ]; simp; omega), cellsV_succ, List.map_append]
   simp only [aQ]
   rw [show ((i + 1 : Nat) : Int) * b = (i : Int) * b + b by rw [Int.natCast_add, Int.add_mul]; simp]
   rfl)
  (fun st e => by
   subst e
   refine ⟨_, ?_, rfl⟩
   unfold b_unroll_builder_free_o_1
   dsimp only
   rw [hm, show ltB (m : Int) (m : Int) = false from decide_eq_false (by omega)]
   rfl)
 rw [hr]
 simp only [aQ]
 have hg := du (b := b_unroll_builder_free_o_2 (n : Int) Hd N (b : Int) mp box ((bB b m).map pv) ((m : Int) * b)) (bB b m) (fun _ v => exC n b v.2) 8 1000000 [] (fun _ v => exC_len h3 v.2) (by rw [cJ]; omega) (by rw [cJ]; simp; omega)
  (fun i v ac hv hac => by
   have hi := br hv
   rw [cJ] at hi
   unfold b_unroll_builder_free_o_2
   dsimp only
   rw [show ltB (i : Int) (aY ((bB b m).map pv)) = true from decide_eq_true (by unfold aY; rw [List.length_map, cJ]; omega), cond_true, bg, List.getElem?_map, hv, bw (by omega)]
   simp only [Option.map_some, aQ]
   rw [exP B (cellsV_ok (n := n) v (List.mem_of_getElem? hv)).2 (by omega)]
   rfl)
  (fun ac => by
   unfold b_unroll_builder_free_o_2
   dsimp only
   rw [show ltB ((bB b m).length : Int) (aY ((bB b m).map pv)) = false from decide_eq_false (by unfold aY; rw [List.length_map]; omega)]
   rfl)
 rw [hg]
 rfl
theorem cellsR {m : Nat} (B : SB n b) (hm1 : m <= 1000) : m_R45_cells (m : Int) (n : Int) = some ((m : Int) * b, (bB b m).map rv, co n b m) := by
 have h1 := B.b1
 have h3 := B.b3
 have hmul : ∀ i : Nat, i <= m -> 0 <= (i : Int) * b /\ (i : Int) * b <= 1000000 := fun i hi => by
  have : i * b <= 1000 * 3 := Nat.mul_le_mul (by omega) h3
  have e : ((i * b : Nat) : Int) = (i : Int) * b := Int.natCast_mul i b
  omega
 unfold m_R45_cells
 rw [PC.bitsR_eq, B.bits]
 simp only [aQ]
 obtain ⟨r, hr, rfl⟩ := bH (b := b_R45_cells_1 (m : Int) (n : Int) (b : Int)) (n := m) (s := (0, [], [])) (fun i st => st = ((i : Int), co n b i, (bB b i).map rv)) (fun r => r = (co n b m, (bB b m).map rv)) (by omega) (by simp [bB, co, gat])
  (fun i st hi e => by
   subst e
   refine .inl ⟨_, ?_, rfl⟩
   have hmi := hmul i (by omega)
   have hcl := cellsC_len (n := n) h3 i
   have hf : b0 (b_R45_cells_2 (m : Int) (n : Int) (b : Int) (i : Int) (co n b i) ((bB b i).map rv)) bl (1, []) = some (bI ((i : Int) * b) b) := by
    obtain ⟨r, hr, rfl⟩ := bH (b := b_R45_cells_2 (m : Int) (n : Int) (b : Int) (i : Int) (co n b i) ((bB b i).map rv)) (n := b) (s := (1, [])) (fun k st => st = (((k + 1 : Nat) : Int), bI ((i : Int) * b) k)) (fun r => r = bI ((i : Int) * b) b) (by omega) (by simp [bI])
     (fun k st hk e => by
      subst e
      refine .inl ⟨_, ?_, rfl⟩
      unfold b_R45_cells_2
      dsimp only
      rw [show leB ((k + 1 : Nat) : Int) (b : Int) = true from decide_eq_true (by omega), cond_true, bK (by decide) (by decide) (by rw [cn]; simp; omega), cW (a := (i : Int)) (b := (b : Int)) (by omega), bQ (a := (i : Int) * b) (b := ((k + 1 : Nat) : Int)) (by omega), bw (by omega)]
      simp only [aQ, bI, List.range_succ, List.map_append, List.map_cons, List.map_nil]
      rw [show (i : Int) * b + ((k + 1 : Nat) : Int) = (i : Int) * b + 1 + k by omega])
     (fun st e => by
      subst e
      refine ⟨_, ?_, rfl⟩
      unfold b_R45_cells_2
      dsimp only
      rw [show leB ((b + 1 : Nat) : Int) (b : Int) = false from decide_eq_false (by omega)]
      rfl)
    exact hr
   unfold b_R45_cells_1
   dsimp only
   rw [show ltB (i : Int) (m : Int) = true from decide_eq_true (by omega), cond_true, hf, bw (by omega)]
   simp only [aQ]
   rw [exR B (cn _ _) (by omega)]
   simp only [aQ]
   rw [bK (by decide) (by decide) (by rw [List.length_map, cJ]; simp; omega)]
   simp only [aQ]
   unfold co
   rw [cellsV_succ, List.map_append, gat_app]
   simp only [gat, List.append_nil]
   rfl)
  (fun st e => by
   subst e
   refine ⟨_, ?_, rfl⟩
   unfold b_R45_cells_1
   dsimp only
   rw [show ltB (m : Int) (m : Int) = false from decide_eq_false (by omega)]
   rfl)
 rw [hr]
 simp only [aQ]
 have := hmul m (Nat.le_refl _)
 rw [cW (a := (m : Int)) (b := (b : Int)) (by omega)]
end
end Go.Proofs.YtjfjmdmdkbpdfaaGreatDoor
namespace Go.Proofs.YtjfjmdmdkbpdfaaGreatDoor
open Go.AM Go.Proofs
def inB (X Y : Int) (W H : Nat) (x y : Int) : Bool := leB X x && (ltB x (X + W) && (leB Y y && ltB y (Y + H)))
def atS (X Y : Int) (W H : Nat) (vals : List SV) (x y : Int) : SV := bif inB X Y W H x y then vals.getD ((y - Y).toNat * W + (x - X).toNat) (0, []) else (0, [])
theorem inB_iff {X Y : Int} {W H : Nat} {x y : Int} : inB X Y W H x y = true ↔ X <= x /\ x < X + W /\ Y <= y /\ y < Y + H := by
 unfold inB leB ltB
 simp only [Bool.and_eq_true, decide_eq_true_eq]
theorem lin_lt {a c W H : Nat} (h1 : a < H) (h2 : c < W) : a * W + c < W * H := by
 have := Nat.mul_le_mul_right W (show a + 1 <= H from h1)
 rw [Nat.add_mul, Nat.one_mul, Nat.mul_comm H W] at this
 omega
structure BX (X Y : Int) (W H : Nat) : Prop where
 X0 : -1000 <= X
 X1 : X <= 1000
 Y0 : -1000 <= Y
 Y1 : Y <= 1000
 W1 : W <= 1000
 H1 : H <= 1000
theorem out_eq {X Y : Int} {W H : Nat} (B : BX X Y W H) {x y : Int} (hx : -100000 <= x /\ x <= 100000) (hy : -100000 <= y /\ y <= 100000) :
  (bif ltB (bF .i64 x X) 0 then some true else bif geB (bF .i64 x X) (W : Int) then some true else bif ltB (bF .i64 y Y) 0 then some true else some (geB (bF .i64 y Y) (H : Int))) = some (!inB X Y W H x y) := by
 obtain ⟨b1, b2, b3, b4, b5, b6⟩ := B
 rw [eR (a := x) (b := X) (by omega), eR (a := y) (b := Y) (by omega)]
 simp only [bX, cp]
 congr 1
 rw [Bool.eq_iff_iff, Bool.not_eq_true', <- Bool.not_eq_true, inB_iff]
 unfold ltB geB
 simp only [Bool.or_eq_true, decide_eq_true_eq]
 omega
theorem at_idx {X Y : Int} {W H : Nat} (B : BX X Y W H) {x y : Int} (hin : inB X Y W H x y = true) : bf .i64 (bq .i64 (bF .i64 y Y) (W : Int)) (bF .i64 x X) = (((y - Y).toNat * W + (x - X).toNat : Nat) : Int) /\ (y - Y).toNat * W + (x - X).toNat < W * H := by
 obtain ⟨b1, b2, b3, b4, b5, b6⟩ := B
 obtain ⟨c1, c2, c3, c4⟩ := inB_iff.1 hin
 have hlt : (y - Y).toNat * W + (x - X).toNat < W * H := lin_lt (by omega) (by omega)
 have hle : W * H <= 1000 * 1000 := Nat.mul_le_mul b5 b6
 have e : (((y - Y).toNat * W : Nat) : Int) = (y - Y) * W := by rw [Int.natCast_mul, Int.toNat_of_nonneg (by omega)]
 refine ⟨?_, hlt⟩
 rw [eR (a := x) (b := X) (by omega), eR (a := y) (b := Y) (by omega), cW (a := y - Y) (b := (W : Int)) (by omega), bQ (by omega)]
 omega
theorem atP {X Y : Int} {W H : Nat} {vals : List SV} (B : BX X Y W H) (hl : vals.length = W * H) {x y : Int} (hx : -100000 <= x /\ x <= 100000) (hy : -100000 <= y /\ y <= 100000) :
  m_unroll_field_at ⟨⟨X, Y, W, H⟩, vals.map pv⟩ x y = some (pv (atS X Y W H vals x y)) := by
 unfold m_unroll_field_at atS
 dsimp only
 rw [out_eq B hx hy]
 simp only [aQ]
 cases hin : inB X Y W H x y with
 | false => rfl
 | true =>
  obtain ⟨e1, e2⟩ := at_idx B hin
  rw [e1, bg, List.getElem?_map, List.getElem?_eq_getElem (by omega), List.getD_eq_getElem?_getD, List.getElem?_eq_getElem (by omega)]
  rfl
def inS (X Y : Int) (W H : Nat) (vals : List SV) (Hd : List Point) (x y : Int) : List SV := Hd.map fun d => atS X Y W H vals (x + d.X) (y + d.Y)
def cellN (b H : Nat) (ins : Int -> Int -> List SV) (tr : List SV -> List Node) (X Y : Int) (W i : Nat) (st : FS) : FS :=
 let in_ := ins (X + (i % W : Nat)) (Y + (i / W : Nat))
 let T := bA b H in_ (tr in_) (st.1, st.2.1, [])
 (T.1, T.2.1, st.2.2 ++ [T.2.2.getLastD (0, [])])
def cZ (b H : Nat) (ins : Int -> Int -> List SV) (tr : List SV -> List Node) (X Y : Int) (W : Nat) (st : FS) : Nat -> FS
 | 0 => st
 | i + 1 => cellN b H ins tr X Y W i (cZ b H ins tr X Y W st i)
theorem cell_mono (b H : Nat) (ins : Int -> Int -> List SV) (tr : List SV -> List Node) (X Y : Int) (W i : Nat) (st : FS) : st.1 <= (cellN b H ins tr X Y W i st).1 /\ st.2.1.length <= (cellN b H ins tr X Y W i st).2.1.length := tree_mono b H _ _ (st.1, st.2.1, [])
theorem next_mono (b H : Nat) (ins : Int -> Int -> List SV) (tr : List SV -> List Node) (X Y : Int) (W : Nat) (st : FS) (i : Nat) : ∀ k, (cZ b H ins tr X Y W st i).1 <= (cZ b H ins tr X Y W st (i + k)).1 /\ (cZ b H ins tr X Y W st i).2.1.length <= (cZ b H ins tr X Y W st (i + k)).2.1.length
 | 0 => ⟨Int.le_refl _, Nat.le_refl _⟩
 | k + 1 => by
  have h1 := next_mono b H ins tr X Y W st i k
  have h2 := cell_mono b H ins tr X Y W (i + k) (cZ b H ins tr X Y W st (i + k))
  show _ <= (cellN b H ins tr X Y W (i + k) (cZ b H ins tr X Y W st (i + k))).1 /\ _ <= (cellN b H ins tr X Y W (i + k) (cZ b H ins tr X Y W st (i + k))).2.1.length
  omega
theorem next_fit {b H : Nat} {ins : Int -> Int -> List SV} {tr : List SV -> List Node} {X Y : Int} {W : Nat} {st : FS} {i m : Nat} (hi : i <= m) (h : cj (cZ b H ins tr X Y W st m).1 (cZ b H ins tr X Y W st m).2.1 = true) : cj (cZ b H ins tr X Y W st i).1 (cZ b H ins tr X Y W st i).2.1 = true := by
 have := next_mono b H ins tr X Y W st i (m - i)
 rw [show i + (m - i) = m by omega] at this
 exact ff this.1 this.2 h
theorem getLastD_mem {α : Type} {l : List α} {d : α} (h : 1 <= l.length) : l.getLastD d ∈ l := by
 rw [List.getLastD_eq_getLast?, List.getLast?_eq_getElem?, List.getElem?_eq_getElem (show l.length - 1 < l.length by omega)]
 exact List.getElem_mem _
theorem next_vals {n b H : Nat} {ins : Int -> Int -> List SV} {tr : List SV -> List Node} {X Y : Int} {W m : Nat} {v : Int} {cs : List (List Int)} (hW : ∀ i : Nat, i < m -> WT n b H (ins (X + (i % W : Nat)) (Y + (i / W : Nat))) (tr (ins (X + (i % W : Nat)) (Y + (i / W : Nat))))) : ∀ i, i <= m -> (cZ b H ins tr X Y W (v, cs, []) i).2.2.length = i /\ ∀ u ∈ (cZ b H ins tr X Y W (v, cs, []) i).2.2, VOk n b u
 | 0, _ => ⟨rfl, fun u hu => by cases hu⟩
 | i + 1, hi => by
  obtain ⟨h1, h2⟩ := next_vals (v := v) (cs := cs) hW i (by omega)
  have w := hW i (by omega)
  generalize hs : cZ b H ins tr X Y W (v, cs, []) i = st at h1 h2
  have e : cZ b H ins tr X Y W (v, cs, []) (i + 1) = cellN b H ins tr X Y W i st := by rw [<- hs]; rfl
  rw [e]
  unfold cellN
  dsimp only
  refine ⟨by rw [List.length_append, h1]; rfl, fun u hu => ?_⟩
  rcases List.mem_append.1 hu with hu | hu
  ·exact h2 u hu
  ·rw [List.mem_singleton.1 hu]
   have T := TI.at_ w (TI.init (n := n) (b := b) (n0 := st.1) (cs := st.2.1)) _ (Nat.le_refl _)
   rw [List.take_length] at T
   exact T.ok _ (getLastD_mem (by rw [T.of_]; exact w.ne))
theorem gat_map {α β : Type} (f : α -> β) : ∀ (l : List α) (i : Nat), gat (fun _ d => [f d]) l i = l.map f
 | [], _ => rfl
 | d :: l, i => by rw [gat, gat_map f l (i + 1)]; rfl
section
variable {n b : Nat} {S : Int} {Hd : List Point} {N : List Node}
theorem insP {X Y : Int} {W H : Nat} {vals : List SV} {box : Box} {fixed : Bool} {y x : Int} {l2 : List Ax} {l3 : List (List Int)} {v2 : Int} {mp : List (List UInt8 × Tree)} {bb : Int} (B : BX X Y W H) (hl : vals.length = W * H) (hh : Hd.length <= 25) (hd : ∀ d ∈ Hd, -2 <= d.X /\ d.X <= 2 /\ -2 <= d.Y /\ d.Y <= 2) (hx : -10000 <= x /\ x <= 10000) (hy : -10000 <= y /\ y <= 10000) :
  b0 (b_unroll_builder_next_o_3 S Hd N bb ⟨⟨X, Y, W, H⟩, vals.map pv⟩ box fixed y x l2 l3 v2 mp) bl (0, []) = some ((inS X Y W H vals Hd x y).map pv) := by
 have hg := du (b := b_unroll_builder_next_o_3 S Hd N bb ⟨⟨X, Y, W, H⟩, vals.map pv⟩ box fixed y x l2 l3 v2 mp) Hd (fun _ d => [pv (atS X Y W H vals (x + d.X) (y + d.Y))]) 1 1000 [] (fun _ _ => Nat.le_refl _) (by omega) (by simp; omega)
  (fun i d ac hdi hac => by
   have hi := br hdi
   obtain ⟨d1, d2, d3, d4⟩ := hd d (List.mem_of_getElem? hdi)
   unfold b_unroll_builder_next_o_3
   dsimp only
   rw [be, decide_eq_true hi, cond_true, bg, hdi, bw (by omega)]
   simp only [aQ]
   rw [bQ (a := x) (b := d.X) (by omega), bQ (a := y) (b := d.Y) (by omega), atP B hl (by omega) (by omega)]
   simp only [aQ]
   rw [bK (by decide) (by decide) (by simp; omega)]
   rfl)
  (fun ac => by
   unfold b_unroll_builder_next_o_3
   dsimp only
   rw [be, decide_eq_false (Nat.lt_irrefl _)]
   rfl)
 rw [hg, List.nil_append, gat_map]
 unfold inS
 rw [List.map_map]
 rfl
theorem nextP {fX fY : Int} {fW fH : Nat} {vals : List SV} {X Y : Int} {W H : Nat} {fixed : Bool} {tr : List SV -> List Node} {MOk : List (List UInt8 × Tree) -> Prop} {v0 : Int} {cs0 : List (List Int)} {mp0 : List (List UInt8 × Tree)}
  (Bf : BX fX fY fW fH) (hl : vals.length = fW * fH) (hh : Hd.length <= 25) (hd : ∀ d ∈ Hd, -2 <= d.X /\ d.X <= 2 /\ -2 <= d.Y /\ d.Y <= 2) (Bx : BX X Y W H) (hH1 : 1 <= H) (hW1 : 1 <= W)
  (hW : ∀ i : Nat, i < W * H -> WT n b Hd.length (inS fX fY fW fH vals Hd (X + (i % W : Nat)) (Y + (i / W : Nat))) (tr (inS fX fY fW fH vals Hd (X + (i % W : Nat)) (Y + (i / W : Nat)))))
  (hfix : ∀ v cs mp x y, MOk mp -> ∃ mp', (bif fixed then
    (m_unroll_builder_fixed_o_o v cs S Hd N (b : Int) mp ((inS fX fY fW fH vals Hd x y).map pv)).bind fun y1 => some (y1.1, y1.2.1, y1.2.2.1, y1.2.2.2)
   else some (S, Hd, N, mp)) = some (S, Hd, tr (inS fX fY fW fH vals Hd x y), mp') /\ MOk mp')
  (hm : MOk mp0) (hv0 : 0 <= v0) (hv1 : v0 <= 1000000) (hc0 : cs0.length <= 100000000) :
  ∃ r, m_unroll_builder_next_o v0 cs0 S Hd N (b : Int) mp0 ⟨⟨fX, fY, fW, fH⟩, vals.map pv⟩ ⟨X, Y, W, H⟩ fixed = some r /\
   ((∃ mp, MOk mp /\ cj (cZ b Hd.length (inS fX fY fW fH vals Hd) tr X Y W (v0, cs0, []) (W * H)).1 (cZ b Hd.length (inS fX fY fW fH vals Hd) tr X Y W (v0, cs0, []) (W * H)).2.1 = true /\
     r = (X, Y, (W : Int), (H : Int), (cZ b Hd.length (inS fX fY fW fH vals Hd) tr X Y W (v0, cs0, []) (W * H)).2.2.map pv, true, (cZ b Hd.length (inS fX fY fW fH vals Hd) tr X Y W (v0, cs0, []) (W * H)).1, mp, (cZ b Hd.length (inS fX fY fW fH vals Hd) tr X Y W (v0, cs0, []) (W * H)).2.1)) \/
    (cj (cZ b Hd.length (inS fX fY fW fH vals Hd) tr X Y W (v0, cs0, []) (W * H)).1 (cZ b Hd.length (inS fX fY fW fH vals Hd) tr X Y W (v0, cs0, []) (W * H)).2.1 = false /\ r.2.2.2.2.2.1 = false)) := by
 obtain ⟨c1, c2, c3, c4, c5, c6⟩ := id Bx
 have hle : W * H <= 1000 * 1000 := Nat.mul_le_mul c5 c6
 obtain ⟨F, hF⟩ : ∃ F, F = cZ b Hd.length (inS fX fY fW fH vals Hd) tr X Y W (v0, cs0, []) := ⟨_, rfl⟩
 have hF0 : F 0 = (v0, cs0, []) := by rw [hF]; rfl
 have hstep : ∀ i, F (i + 1) = cellN b Hd.length (inS fX fY fW fH vals Hd) tr X Y W i (F i) := fun i => by rw [hF]; rfl
 have hval : ∀ i, i <= W * H -> (F i).2.2.length = i := fun i hi => by rw [hF]; exact (next_vals hW i hi).1
 have hfit : ∀ {i m : Nat}, i <= m -> cj (F m).1 (F m).2.1 = true -> cj (F i).1 (F i).2.1 = true := fun hi h => by rw [hF] at h ⊢; exact next_fit hi h
 have hlow : ∀ i, v0 <= (F i).1 := fun i => by
  have := next_mono b Hd.length (inS fX fY fW fH vals Hd) tr X Y W (v0, cs0, []) 0 i
  rw [Nat.zero_add] at this
  rw [hF]
  exact this.1
 rw [<- hF]
 have row : ∀ yy mp, yy < H -> MOk mp -> (yy = 0 \/ cj (F (yy * W)).1 (F (yy * W)).2.1 = true) -> ∃ o, b0 (b_unroll_builder_next_o_2 S Hd N (b : Int) ⟨⟨fX, fY, fW, fH⟩, vals.map pv⟩ ⟨X, Y, W, H⟩ fixed (Y + (yy : Int))) bl (X, (F (yy * W)).2.2.map pv, (F (yy * W)).2.1, (F (yy * W)).1, mp) = some o /\
   ((∃ mp', MOk mp' /\ cj (F ((yy + 1) * W)).1 (F ((yy + 1) * W)).2.1 = true /\ o = .inr ((F ((yy + 1) * W)).2.2.map pv, (F ((yy + 1) * W)).2.1, (F ((yy + 1) * W)).1, mp')) \/ (∃ k r, k <= W * H /\ cj (F k).1 (F k).2.1 = false /\ o = .inl r /\ r.2.2.2.2.2.1 = false)) := fun yy mp hyy hmp hfy => by
  have hrow : (yy + 1) * W <= W * H := by rw [Nat.mul_comm W H]; exact Nat.mul_le_mul_right W hyy
  have hsp : (yy + 1) * W = yy * W + W := by rw [Nat.add_mul, Nat.one_mul]
  refine bH (b := b_unroll_builder_next_o_2 S Hd N (b : Int) ⟨⟨fX, fY, fW, fH⟩, vals.map pv⟩ ⟨X, Y, W, H⟩ fixed (Y + (yy : Int))) (n := W)
   (fun j st => ∃ mp, st = (X + (j : Int), (F (yy * W + j)).2.2.map pv, (F (yy * W + j)).2.1, (F (yy * W + j)).1, mp) /\ MOk mp /\ (yy * W + j = 0 \/ cj (F (yy * W + j)).1 (F (yy * W + j)).2.1 = true)) _ (by omega) ⟨mp, by simp, hmp, by
    rcases hfy with h | h
    ·exact .inl (by rw [h]; simp)
    ·exact .inr h⟩ (fun j st hj ⟨mp, e, hmp, hf⟩ => ?_) (fun st ⟨mp, e, hmp, hf⟩ => ?_)
  ·subst e
   have hk : yy * W + j < W * H := by omega
   have e1 : (yy * W + j) % W = j := by rw [Nat.add_comm, Nat.add_mul_mod_self_right, Nat.mod_eq_of_lt hj]
   have e2 : (yy * W + j) / W = yy := by rw [Nat.add_comm, Nat.add_mul_div_right _ _ (by omega), Nat.div_eq_of_lt hj, Nat.zero_add]
   have hb1 : (F (yy * W + j)).1 <= 1000000 /\ (F (yy * W + j)).2.1.length <= 100000000 := by
    rcases hf with h | h
    ·rw [h, hF0]; exact ⟨hv1, hc0⟩
    ·have := fit_len h; omega
   have hlo := hlow (yy * W + j)
   have hvl := hval (yy * W + j) (by omega)
   have hn := hstep (yy * W + j)
   unfold cellN at hn
   rw [e1, e2] at hn
   dsimp only at hn
   obtain ⟨mp', hfx, hmp'⟩ := hfix (F (yy * W + j)).1 (F (yy * W + j)).2.1 mp (X + (j : Int)) (Y + (yy : Int)) hmp
   have w := hW (yy * W + j) hk
   rw [e1, e2] at w
   have hT := treeP (t := ⟨S, Hd, tr (inS fX fY fW fH vals Hd (X + (j : Int)) (Y + (yy : Int)))⟩) (S := S) (Hd := Hd) (N := N) (mp := mp') (v := (F (yy * W + j)).1) (cs := (F (yy * W + j)).2.1) w (by omega) (by omega) (by omega)
   dsimp only at hT
   have hbody : b_unroll_builder_next_o_2 S Hd N (b : Int) ⟨⟨fX, fY, fW, fH⟩, vals.map pv⟩ ⟨X, Y, W, H⟩ fixed (Y + (yy : Int)) (X + (j : Int), (F (yy * W + j)).2.2.map pv, (F (yy * W + j)).2.1, (F (yy * W + j)).1, mp) =
     some (bif !cj (F (yy * W + j + 1)).1 (F (yy * W + j + 1)).2.1 then .out (.inl (0, 0, 0, 0, [], false, (F (yy * W + j + 1)).1, mp', (F (yy * W + j + 1)).2.1)) else .next (X + ((j + 1 : Nat) : Int), (F (yy * W + j + 1)).2.2.map pv, (F (yy * W + j + 1)).2.1, (F (yy * W + j + 1)).1, mp')) := by
    unfold b_unroll_builder_next_o_2
    dsimp only
    rw [bQ (a := X) (b := (W : Int)) (by omega), show ltB (X + (j : Int)) (X + (W : Int)) = true from decide_eq_true (by omega), cond_true, insP Bf hl hh hd (by omega) (by omega)]
    simp only [aQ]
    rw [hfx]
    simp only [aQ]
    rw [hT]
    simp only [aQ]
    rw [bK (by decide) (by decide) (by simp [hvl]; omega)]
    simp only [aQ]
    rw [largeP_eq]
    simp only [aQ]
    rw [hn, bQ (a := X + (j : Int)) (b := 1) (by omega), bX]
    dsimp only
    rw [List.map_append, show X + (j : Int) + 1 = X + ((j + 1 : Nat) : Int) by omega]
    rfl
   rw [hbody]
   cases hft : cj (F (yy * W + j + 1)).1 (F (yy * W + j + 1)).2.1 with
   | true => exact .inl ⟨_, rfl, mp', rfl, hmp', .inr rfl⟩
   | false => exact .inr ⟨_, rfl, .inr ⟨_, _, by omega, hft, rfl, rfl⟩⟩
  ·subst e
   refine ⟨.inr ((F (yy * W + W)).2.2.map pv, (F (yy * W + W)).2.1, (F (yy * W + W)).1, mp), ?_, .inl ⟨mp, hmp, ?_, by rw [hsp]⟩⟩
   ·unfold b_unroll_builder_next_o_2
    dsimp only
    rw [bQ (a := X) (b := (W : Int)) (by omega), show ltB (X + (W : Int)) (X + (W : Int)) = false from decide_eq_false (by omega)]
    rfl
   ·rw [hsp]
    rcases hf with h | h
    ·omega
    ·exact h
 unfold m_unroll_builder_next_o
 obtain ⟨o, ho, hq⟩ := bH (b := b_unroll_builder_next_o_1 S Hd N (b : Int) ⟨⟨fX, fY, fW, fH⟩, vals.map pv⟩ ⟨X, Y, W, H⟩ fixed) (n := H) (s := (Y, [], cs0, v0, mp0))
  (fun yy st => ∃ mp, st = (Y + (yy : Int), (F (yy * W)).2.2.map pv, (F (yy * W)).2.1, (F (yy * W)).1, mp) /\ MOk mp /\ (yy = 0 \/ cj (F (yy * W)).1 (F (yy * W)).2.1 = true))
  (fun o => (∃ mp', MOk mp' /\ cj (F (W * H)).1 (F (W * H)).2.1 = true /\ o = .inr ((F (W * H)).2.2.map pv, (F (W * H)).2.1, (F (W * H)).1, mp')) \/ (∃ k r, k <= W * H /\ cj (F k).1 (F k).2.1 = false /\ o = .inl r /\ r.2.2.2.2.2.1 = false)) (by omega)
  ⟨mp0, by simp [hF0], hm, .inl rfl⟩
  (fun yy st hyy ⟨mp, e, hmp, hf⟩ => by
   subst e
   obtain ⟨o, ho, hq⟩ := row yy mp hyy hmp hf
   unfold b_unroll_builder_next_o_1
   dsimp only
   rw [bQ (a := Y) (b := (H : Int)) (by omega), show ltB (Y + (yy : Int)) (Y + (H : Int)) = true from decide_eq_true (by omega), cond_true, ho, bQ (a := Y + (yy : Int)) (b := 1) (by omega)]
   rcases hq with ⟨mp', h1, h2, rfl⟩ | ⟨k, r, h1, h2, rfl, h3⟩
   ·exact .inl ⟨_, rfl, mp', by rw [show Y + (yy : Int) + 1 = Y + ((yy + 1 : Nat) : Int) by omega], h1, .inr h2⟩
   ·exact .inr ⟨_, rfl, .inr ⟨k, r, h1, h2, rfl, h3⟩⟩)
  (fun st ⟨mp, e, hmp, hf⟩ => by
   subst e
   refine ⟨.inr ((F (W * H)).2.2.map pv, (F (W * H)).2.1, (F (W * H)).1, mp), ?_, .inl ⟨mp, hmp, ?_, rfl⟩⟩
   ·unfold b_unroll_builder_next_o_1
    dsimp only
    rw [bQ (a := Y) (b := (H : Int)) (by omega), show ltB (Y + (H : Int)) (Y + (H : Int)) = false from decide_eq_false (by omega), Nat.mul_comm H W]
    rfl
   ·rw [Nat.mul_comm W H]
    rcases hf with h | h
    ·omega
    ·exact h)
 rw [ho]
 rcases hq with ⟨mp', h1, h2, rfl⟩ | ⟨k, r, h1, h2, rfl, h3⟩
 ·exact ⟨_, rfl, .inl ⟨mp', h1, h2, rfl⟩⟩
 ·refine ⟨_, rfl, .inr ⟨?_, h3⟩⟩
  cases hft : cj (F (W * H)).1 (F (W * H)).2.1 with
  | false => rfl
  | true => rw [hfit h1 hft] at h2; cases h2
end
end Go.Proofs.YtjfjmdmdkbpdfaaGreatDoor
namespace Go.Proofs.YtjfjmdmdkbpdfaaGreatDoor
open Go.AM Go.Proofs
theorem small_eq (t : Tree) (x : Av) : ∃ y, m_L45_Small t x = some y /\ (y = true -> Sz t /\ x.Syms.length <= 20) := by
 unfold m_L45_Small
 simp only [bX, aQ, cp, fv]
 cases h1 : gtB (aY t.Nodes) 150 with
 | true => exact ⟨false, rfl, fun h => by cases h⟩
 | false =>
  cases h2 : gtB (aY t.Hood) 9 with
  | true => exact ⟨false, rfl, fun h => by cases h⟩
  | false =>
   cases h3 : gtB (aY x.Syms) 20 with
   | true => exact ⟨false, rfl, fun h => by cases h⟩
   | false =>
    have e1 := of_decide_eq_false h1
    have e2 := of_decide_eq_false h2
    have e3 := of_decide_eq_false h3
    unfold aY at e1 e2 e3
    rw [d5 t.Nodes (fun _ n => gtB (aY n.Next) 20) false (by omega) (fun i n hn => by
     unfold b_L45_Small_1
     dsimp only
     rw [be, decide_eq_true (br hn), cond_true, bg, hn, bw (by have := br hn; omega)]
     simp only [aQ, bX]) (by
     unfold b_L45_Small_1
     dsimp only
     rw [be, decide_eq_false (Nat.lt_irrefl _)]
     rfl)]
    cases hG : gtB x.Gens 3 && leB x.Gens 6 with
    | true => exact ⟨false, rfl, fun h => by cases h⟩
    | false =>
     cases ha : cU (fun _ n => gtB (aY n.Next) 20) t.Nodes 0 with
     | true => exact ⟨false, rfl, fun h => by cases h⟩
     | false =>
      refine ⟨_, rfl, fun _ => ⟨⟨by omega, by omega, fun n hn => ?_⟩, by omega⟩⟩
      obtain ⟨j, hj⟩ := List.getElem?_of_mem hn
      have := cK ha j n hj
      have := of_decide_eq_false this
      unfold aY at this
      omega
theorem hood_pts {l : List Point} (h : dh l = true) : 1 <= l.length /\ l.length <= 25 /\ ∀ d ∈ l, -2 <= d.X /\ d.X <= 2 /\ -2 <= d.Y /\ d.Y <= 2 := by
 simp only [dh, Bool.and_eq_true, Bool.not_eq_true', Bool.or_eq_false_iff] at h
 have c1 := of_decide_eq_false h.1.1
 have c2 := of_decide_eq_false h.1.2
 unfold aY at c1 c2
 refine ⟨by omega, by omega, fun d hd => ?_⟩
 obtain ⟨i, hi⟩ := List.mem_iff_getElem?.1 hd
 have hb := cK h.2 i d hi
 rw [Nat.zero_add] at hb
 unfold badP at hb
 simp only [Bool.or_eq_false_iff] at hb
 obtain ⟨e1, e2, e3, e4, _⟩ := hb
 have f1 := of_decide_eq_false e1
 have f2 := of_decide_eq_false e2
 have f3 := of_decide_eq_false e3
 have f4 := of_decide_eq_false e4
 omega
theorem ineg_in {a : Int} (h : -1000000 <= a /\ a <= 1000000) : bE .i64 a = -a := by unfold bE; rw [i64_in (by omega)]; omega
theorem rad_of {l : List Point} (h : dh l = true) : ∃ r : Nat, m_hood_Radius l = some (r : Int) /\ m_R07_Radius l = some (r : Int) /\ r <= 2 /\ ∀ d ∈ l, -(r : Int) <= d.X /\ d.X <= r /\ -(r : Int) <= d.Y /\ d.Y <= r := by
 obtain ⟨h1, h25, hp⟩ := hood_pts h
 obtain ⟨r, hr, hq⟩ := bH (b := b_hood_Radius_1 l) (n := l.length) (s := (0, 0)) (fun i st => st.2 = (i : Int) /\ 0 <= st.1 /\ st.1 <= 2 /\ ∀ (j : Nat) d, j < i -> l[j]? = some d -> -st.1 <= d.X /\ d.X <= st.1 /\ -st.1 <= d.Y /\ d.Y <= st.1)
  (fun r => 0 <= r /\ r <= 2 /\ ∀ d ∈ l, -r <= d.X /\ d.X <= r /\ -r <= d.Y /\ d.Y <= r) (by omega) ⟨rfl, Int.le_refl _, by show (0 : Int) <= 2; omega, fun j d hj => by omega⟩
  (fun i st hi ⟨e, e1, e2, e3⟩ => by
   obtain ⟨q, a⟩ := st
   dsimp only at e e1 e2 e3
   subst e
   have hx : l[i]? = some l[i] := List.getElem?_eq_getElem hi
   generalize l[i] = d at hx
   obtain ⟨d1, d2, d3, d4⟩ := hp d (List.mem_of_getElem? hx)
   refine .inl ⟨(dt (dt (dt (dt q d.X) (bE .i64 d.X)) d.Y) (bE .i64 d.Y), ((i + 1 : Nat) : Int)), ?_, ?_⟩
   ·unfold b_hood_Radius_1
    dsimp only
    rw [be, decide_eq_true hi, cond_true, bg, hx, bw (by omega)]
    rfl
   ·rw [ineg_in (by omega), ineg_in (by omega)]
    have m1 := imax_is q d.X
    have m2 := imax_is (dt q d.X) (-d.X)
    have m3 := imax_is (dt (dt q d.X) (-d.X)) d.Y
    have m4 := imax_is (dt (dt (dt q d.X) (-d.X)) d.Y) (-d.Y)
    dsimp only
    refine ⟨rfl, by omega, by omega, fun j d' hj hd' => ?_⟩
    rcases Nat.lt_succ_iff_lt_or_eq.1 hj with hj | rfl
    ·have := e3 j d' hj hd'
     omega
    ·rw [hx] at hd'
     cases hd'
     omega)
  (fun st ⟨e, e1, e2, e3⟩ => by
   obtain ⟨q, a⟩ := st
   dsimp only at e e1 e2 e3
   subst e
   refine ⟨q, ?_, e1, e2, fun d hd => ?_⟩
   ·unfold b_hood_Radius_1
    dsimp only
    rw [be, decide_eq_false (Nat.lt_irrefl _)]
    rfl
   ·obtain ⟨j, hj⟩ := List.mem_iff_getElem?.1 hd
    exact e3 j d (br hj) hj)
 have hR : m_hood_Radius l = some r := by
  unfold m_hood_Radius
  rw [hood_eq (by omega), h]
  simp only [aQ, cond_true]
  rw [hr]
  rfl
 refine ⟨r.toNat, by rw [hR]; congr 1; omega, by rw [rad_eq (by omega), hR]; congr 1; omega, by omega, fun d hd => ?_⟩
 have := hq.2.2 d hd
 omega
def sizeB (g : Grid) : Bool := geB g.W 1 && (leB g.W 256 && (geB g.H 1 && (leB g.H 256 && (leB (bq .i64 g.W g.H) 4096 && (geB g.Edge 0 && leB g.Edge 2)))))
def badG (_ : Nat) (s : Int) : Bool := ltB s 0 || geB s 8
def ef (g : Grid) : Bool := sizeB g && (eqB (aY g.Cells) (bq .i64 g.W g.H) && !cU badG g.Cells 0)
theorem loop_find {α : Type} {b : Int -> Option (Lp Int (Int ⊕ Unit))} (l : List α) (bad : Nat -> α -> Bool) (hl : l.length < 1099511627776)
  (hs : ∀ (i : Nat) (x : α), l[i]? = some x -> b i = some (bif bad i x then .out (.inl (i : Int)) else .next ((i + 1 : Nat) : Int)))
  (he : b (l.length : Nat) = some (.out (.inr ()))) : ∃ o, b0 b bl 0 = some o /\ ((cU bad l 0 = true /\ ∃ k : Nat, o = .inl (k : Int)) \/ (cU bad l 0 = false /\ o = .inr ())) := by
 obtain ⟨o, ho, hq⟩ := bH (b := b) (n := l.length) (s := 0) (fun i st => st = (i : Int) /\ ∀ (j : Nat) x, j < i -> l[j]? = some x -> bad j x = false)
  (fun o => (cU bad l 0 = true /\ ∃ k : Nat, o = .inl (k : Int)) \/ (cU bad l 0 = false /\ o = .inr ())) hl ⟨rfl, fun j x hj => by omega⟩
  (fun i st hi ⟨e, h⟩ => by
   subst e
   have hx : l[i]? = some l[i] := List.getElem?_eq_getElem hi
   generalize l[i] = x at hx
   rw [hs i x hx]
   cases hb : bad i x with
   | false =>
    refine .inl ⟨_, rfl, rfl, fun j y hj hy => ?_⟩
    rcases Nat.lt_succ_iff_lt_or_eq.1 hj with hj | rfl
    ·exact h j y hj hy
    ·rw [hx] at hy; cases hy; exact hb
   | true =>
    refine .inr ⟨_, rfl, .inl ⟨?_, i, rfl⟩⟩
    rw [<- Bool.not_eq_false]
    intro ha
    have := cK ha i x hx
    rw [Nat.zero_add, hb] at this
    cases this)
  (fun st ⟨e, h⟩ => by
   subst e
   exact ⟨_, he, .inr ⟨dx fun j x hx => by rw [Nat.zero_add]; exact h j x (br hx) hx, rfl⟩⟩)
 exact ⟨o, ho, hq⟩
theorem grid_eq {g : Grid} (hl : g.Cells.length < 1099511627776) : m_grid_Right g = some (ef g) := by
 have hc : m_slices_ContainsFunc_int_int_grid_Right_1 g.Cells = some (cU badG g.Cells 0) := by
  unfold m_slices_ContainsFunc_int_int_grid_Right_1 m_slices_IndexFunc_int_int_grid_Right_1
  obtain ⟨o, ho, hq⟩ := loop_find (b := b_slices_IndexFunc_int_int_grid_Right_1_1 g.Cells) g.Cells badG hl (fun i x hx => by
   unfold b_slices_IndexFunc_int_int_grid_Right_1_1 m_grid_Right_1 badG
   dsimp only
   rw [be, decide_eq_true (br hx), cond_true, bg, hx, bw (by have := br hx; omega)]
   simp only [aQ, bX, cp]) (by
   unfold b_slices_IndexFunc_int_int_grid_Right_1_1
   dsimp only
   rw [be, decide_eq_false (Nat.lt_irrefl _)]
   rfl)
  rw [ho]
  rcases hq with ⟨h1, k, rfl⟩ | ⟨h1, rfl⟩
  ·rw [h1]
   simp only [aQ]
   rw [show geB (k : Int) 0 = true from decide_eq_true (by omega)]
  ·rw [h1]
   rfl
 unfold m_grid_Right m_grid_sized ef sizeB
 rw [hc]
 simp only [bX, aQ, fv, cr]
theorem gridR_eq {g : Grid} (hl : g.Cells.length < 1099511627776) : m_R21_Right g = some (ef g) := by
 unfold m_R21_Right m_R21_Size ef sizeB
 rw [d5 g.Cells badG false hl (fun i x hx => by
  unfold b_R21_Right_1 badG
  dsimp only
  rw [be, decide_eq_true (br hx), cond_true, bg, hx, bw (by have := br hx; omega)]
  simp only [aQ, bX, cp]) (by
  unfold b_R21_Right_1
  dsimp only
  rw [be, decide_eq_false (Nat.lt_irrefl _)]
  rfl)]
 simp only [bX, aQ, fv, cp, cr, neB_eqB]
 generalize (geB g.W 1 && (leB g.W 256 && (geB g.H 1 && (leB g.H 256 && (leB (bq .i64 g.W g.H) 4096 && (geB g.Edge 0 && leB g.Edge 2)))))) = z
 cases z <;> cases eqB (aY g.Cells) (bq .i64 g.W g.H) <;> cases cU badG g.Cells 0 <;> rfl
structure GOk (g : Grid) (w h : Nat) : Prop where
 W : g.W = (w : Int)
 H : g.H = (h : Int)
 w1 : 1 <= w
 w2 : w <= 256
 h1 : 1 <= h
 h2 : h <= 256
 len : g.Cells.length = w * h
 cell : ∀ s ∈ g.Cells, 0 <= s /\ s < 8
theorem grid_ok {g : Grid} (h : ef g = true) : ∃ w h, GOk g w h := by
 unfold ef sizeB at h
 simp only [Bool.and_eq_true, Bool.not_eq_true'] at h
 obtain ⟨⟨h1, h2, h3, h4, _⟩, h5, h6⟩ := h
 have e1 := of_decide_eq_true h1
 have e2 := of_decide_eq_true h2
 have e3 := of_decide_eq_true h3
 have e4 := of_decide_eq_true h4
 have hm0 : 0 <= g.W * g.H := Int.mul_nonneg (by omega) (by omega)
 have hm1 : g.W * g.H <= 256 * 256 := Int.mul_le_mul (by omega) (by omega) (by omega) (by omega)
 have e5 : aY g.Cells = bq .i64 g.W g.H := by simpa [eqB] using h5
 rw [cW (by omega)] at e5
 unfold aY at e5
 refine ⟨g.W.toNat, g.H.toNat, by omega, by omega, by omega, by omega, by omega, by omega, ?_, fun s hs => ?_⟩
 ·have : ((g.W.toNat * g.H.toNat : Nat) : Int) = g.W * g.H := by rw [Int.natCast_mul, Int.toNat_of_nonneg (by omega), Int.toNat_of_nonneg (by omega)]
  omega
 ·obtain ⟨j, hj⟩ := List.mem_iff_getElem?.1 hs
  have := cK h6 j s hj
  simp only [badG, Bool.or_eq_false_iff] at this
  have f1 := of_decide_eq_false this.1
  have f2 := of_decide_eq_false this.2
  omega
end Go.Proofs.YtjfjmdmdkbpdfaaGreatDoor
