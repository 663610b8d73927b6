/-
  DeltaThenSaid: for every input the Go law cellularlaw53.DeltaThen returns true, and each argument reads afterwards as it read before. No condition beyond the row's own (which has none).
-/
import Derived.Test.YtfoadgepblojpaaR1
import Derived.Test.YtfoadgepblojpaaW23
import Derived.OpenShut
namespace Go.Proofs.Ytfoadgepblojpaa
open Go.AM Go.Proofs Go.ChangeShapes Go.WideShapes Go.ChangeAt Go.RowKit Go.Deep

section
variable {H : Type} {enc : TypeId × Value → H} {W : World} {base : Nat} {φ : Nat → Value}
set_option maxRecDepth 100000 in
theorem cl_cell {n : Nat} {v : Value} {x : DataW H × List MemPlace} (hn : DataW.trod enc Try.prog W 0 (fun _ => true) true n 24 [v] = some x) : ∃ l : List Cl, rep W (fun _ => True) (clL l) v := by
  rcases open_slice Try.underlying24 hn with ⟨h1, _⟩ | ⟨a', len', cap', m, n', D, Pl, h1, _, hl, hm, hmm, _, hx⟩
  · cases h1
    exact ⟨[], none, 0, 0, rfl, rfl, Nat.le_refl _, Nat.zero_le _, .inl rfl⟩
  · cases h1
    have hle : len' ≤ m := by rw [hmm]; split <;> omega
    obtain ⟨l, hr⟩ := rep_slice Cl.row 3 (w := W) (base := 0) (a := a') (by omega) hl hm fun i hi => by
      obtain ⟨cs', h2, h3⟩ := hx i (by omega)
      obtain ⟨c, rfl⟩ := cl_elem h3
      rw [Try.cells47] at h2
      refine ⟨c, _, rfl, h2, fun j x hx => ?_⟩
      match j, hx with
      | 0, hx => cases hx; exact ⟨_, rfl, rfl⟩
      | 1, hx => cases hx; exact ⟨_, rfl, rfl⟩
      | 2, hx => cases hx; exact ⟨_, rfl, rfl⟩
      | j + 3, hx => simp [Cl.row] at hx
    exact ⟨l, hr⟩
theorem Try.cells24 : Try.prog.cellsOf 24 = 1 := by kernel_rfl
theorem Try.cells44 : Try.prog.cellsOf 44 = 3 := by kernel_rfl
set_option maxRecDepth 100000 in
theorem arr_arg {v : Value} {d : DataW H} {ps : List MemPlace} (hv : Value.okWide Try.prog W .any base 44 v) (h : DataW.Trod enc Try.prog W 0 (fun _ => true) true 44 v d ps) :
    ∃ a0 a1 a2 : List Cl, vsim φ W (fun _ => True) (.agg [.d (clL a0), .d (clL a1), .d (clL a2)]) v := by
  simp only [Value.okWide, Try.underlying44] at hv
  obtain ⟨cs, rfl, hsz, _⟩ := hv
  rw [Try.cells44] at hsz
  obtain ⟨n, hn⟩ := h
  obtain ⟨l⟩ := cs
  match l, hsz with
  | [c0, c1, c2], _ =>
    obtain ⟨xs, m, _, _, _, hlen, hf⟩ := DataW.trod_array Try.underlying44 hn
    have hx : ∀ i, i < 3 → ∃ y, xs[i]? = some y := fun i hi => ⟨_, List.getElem?_eq_getElem (by omega)⟩
    obtain ⟨y0, e0⟩ := hx 0 (by omega)
    obtain ⟨y1, e1⟩ := hx 1 (by omega)
    obtain ⟨y2, e2⟩ := hx 2 (by omega)
    have g0 := hf 0 (by omega)
    have g1 := hf 1 (by omega)
    have g2 := hf 2 (by omega)
    rw [Try.cells24] at g0 g1 g2
    rw [e0] at g0
    rw [e1] at g1
    rw [e2] at g2
    obtain ⟨a0, r0⟩ := cl_cell (v := c0) g0
    obtain ⟨a1, r1⟩ := cl_cell (v := c1) g1
    obtain ⟨a2, r2⟩ := cl_cell (v := c2) g2
    exact ⟨a0, a1, a2, _, rfl, c0, _, rfl, r0, c1, _, rfl, r1, c2, _, rfl, r2, rfl⟩
end

set_option maxRecDepth 100000 in
theorem deltaThen_lifted (os : Os) (started : os.Started) (H : Type) (enc : TypeId × Value → H) :
    ReturnsInHanded {} Try.checked os 7 .any (Rows.deltaThenSpec.pre6 enc Try.prog Try.f7 Rows.deltaThenRow.domain false) (Rows.deltaThenSpec.post enc Try.prog Try.f7 false true false false) := by
  refine returnsInHanded_of_change (C := Try.checked) Try.own started (by kernel_rfl) Try.func7
    (ChangeSpec.witness6 (enc := enc) (C := Try.checked) false ⟨#[], #[.agg #[.slice none 0 0, .slice none 0 0, .slice none 0 0], .slice none 0 0, .slice none 0 0], []⟩ 8 (by kernel_rfl) (by kernel_rfl) (by kernel_rfl) (by kernel_rfl)) ?_
  intro W base args ds gs before hval0 hW _ _
  have hval : ∀ (j : Nat) t v, Try.f7.params[j]? = some t → args[j]? = some v → Value.okWide Try.prog W .any base t v := hval0
  have hW' := hW
  obtain ⟨p, q, hA0, hV, rfl, _, _⟩ := hW
  have hA : DataW.TrodAll enc Try.prog W 0 (fun _ => true) true Try.f7.params.toList args.toList ds p := hA0
  rw [Try.params7] at hA hval
  obtain ⟨v0, v1, v2, d0, d1, d2, p0, p1, p2, rfl, rfl, rfl, h0, h1, h2⟩ := trodAll_three hA
  obtain ⟨rfl, rfl⟩ := trodVars_none hV
  have hlt : ∀ x ∈ p0 ++ (p1 ++ p2), x.block < W.heap.size := fun x hx => hW'.lt x (by simpa using hx)
  obtain ⟨a0, a1, a2, hs0⟩ := arr_arg (φ := fun _ => undef) (hval 0 44 v0 rfl rfl) h0
  obtain ⟨b, hs1⟩ := ch_arg (φ := fun _ => undef) (hval 1 22 v1 rfl rfl) h1
  obtain ⟨c, hs2⟩ := ch_arg (φ := fun _ => undef) (hval 2 22 v2 rfl rfl) h2
  refine (true_calls (then3_spec a0 a1 a2 b c) (vals := [v0, v1, v2]) rfl fun i x u hx hu => ?_).mono fun e W' ⟨he, hB⟩ => ?_
  · match i, hx, hu with
    | 0, hx, hu => cases hx; cases hu; exact hs0
    | 1, hx, hu => cases hx; cases hu; exact hs1
    | 2, hx, hu => cases hx; cases hu; exact hs2
    | i + 3, hx, hu => simp at hx
  · subst he
    refine ⟨_, rfl, _, _, _, [], p0 ++ (p1 ++ p2), [], hW', ?_, ?_, rfl, hB.frame _, fun h => by cases h⟩
    · exact trodAll_mk1 (shut_bool Try.underlying4 true)
    · exact trodAll_mk3 (Below.trod Try.laidOut (by kernel_rfl) (of_decide_eq_true (by kernel_rfl)) h0 hB fun x hx => hlt x (List.mem_append_left _ hx))
        (Below.trod Try.laidOut (by kernel_rfl) (of_decide_eq_true (by kernel_rfl)) h1 hB fun x hx => hlt x (List.mem_append_right _ (List.mem_append_left _ hx)))
        (Below.trod Try.laidOut (by kernel_rfl) (of_decide_eq_true (by kernel_rfl)) h2 hB fun x hx => hlt x (List.mem_append_right _ (List.mem_append_right _ hx)))
theorem deltaThen_holds : Rows.DeltaThenSaid :=
  OpenClaim.holds_of_wide 7 Try.f7 rfl rfl rfl rfl rfl rfl rfl ⟨rfl, rfl, rfl, rfl, rfl⟩ rfl rfl rfl rfl rfl (by kernel_rfl) Try.func7 (by kernel_rfl)
    (of_decide_eq_true (by kernel_rfl)) (by unfold Func.isWrapper; rw [if_neg (of_decide_eq_false (by kernel_rfl))]; exact ⟨rfl, rfl⟩)
    (fun os started H enc _ => deltaThen_lifted os started H enc)
end Go.Proofs.Ytfoadgepblojpaa
