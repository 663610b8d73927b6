/-
  DeltaReturnsSaid: for every input the Go law cellularlaw53.DeltaReturns returns true, and each argument reads afterwards as it read before. No condition beyond the row's own (which has none).
-/
import Derived.Test.YtfoadgepblojpaaR1
import Derived.Test.YtfoadgepblojpaaW23
namespace Go.Proofs.Ytfoadgepblojpaa
open Go.AM Go.Proofs Go.ChangeShapes Go.WideShapes Go.ChangeAt Go.RowKit Go.Deep

set_option maxRecDepth 100000 in
theorem deltaReturns_lifted (os : Os) (started : os.Started) (H : Type) (enc : TypeId × Value → H) :
    ReturnsInHanded {} Try.checked os 6 .any (Rows.deltaReturnsSpec.pre6 enc Try.prog Try.f6 Rows.deltaReturnsRow.domain false) (Rows.deltaReturnsSpec.post enc Try.prog Try.f6 false true false false) := by
  refine returnsInHanded_of_change (C := Try.checked) Try.own started (by kernel_rfl) Try.func6
    (ChangeSpec.witness6 (enc := enc) (C := Try.checked) false ⟨#[], #[.slice none 0 0, .slice none 0 0], []⟩ 8 (by kernel_rfl) (by kernel_rfl) (by kernel_rfl) (by kernel_rfl)) ?_
  intro W base args ds gs before hval0 hW _ _
  have hval : ∀ (j : Nat) t v, Try.f6.params[j]? = some t → args[j]? = some v → Value.okWide Try.prog W .any base t v := hval0
  have hW' := hW
  obtain ⟨p, q, hA0, hV, rfl, _, _⟩ := hW
  have hA : DataW.TrodAll enc Try.prog W 0 (fun _ => true) true Try.f6.params.toList args.toList ds p := hA0
  rw [Try.params6] at hA hval
  obtain ⟨v0, v1, d0, d1, p0, p1, rfl, rfl, rfl, h0, h1⟩ := trodAll_two hA
  obtain ⟨rfl, rfl⟩ := trodVars_none hV
  have hlt : ∀ x ∈ p0 ++ p1, x.block < W.heap.size := fun x hx => hW'.lt x (by simpa using hx)
  obtain ⟨a, hs0⟩ := cl_arg (φ := fun _ => undef) (hval 0 24 v0 rfl rfl) h0
  obtain ⟨b, hs1⟩ := cl_arg (φ := fun _ => undef) (hval 1 24 v1 rfl rfl) h1
  refine (true_calls (returns_spec a b) (vals := [v0, v1]) rfl fun i x u hx hu => ?_).mono fun e W' ⟨he, hB⟩ => ?_
  · match i, hx, hu with
    | 0, hx, hu => cases hx; cases hu; exact hs0
    | 1, hx, hu => cases hx; cases hu; exact hs1
    | i + 2, hx, hu => simp at hx
  · subst he
    refine ⟨_, rfl, _, _, _, [], p0 ++ p1, [], hW', ?_, ?_, rfl, hB.frame _, fun h => by cases h⟩
    · exact trodAll_mk1 (shut_bool Try.underlying4 true)
    · exact trodAll_mk2 (Below.trod Try.laidOut (by kernel_rfl) (of_decide_eq_true (by kernel_rfl)) h0 hB fun x hx => hlt x (List.mem_append_left _ hx))
        (Below.trod Try.laidOut (by kernel_rfl) (of_decide_eq_true (by kernel_rfl)) h1 hB fun x hx => hlt x (List.mem_append_right _ hx))
theorem deltaReturns_holds : Rows.DeltaReturnsSaid :=
  OpenClaim.holds_of_wide 6 Try.f6 rfl rfl rfl rfl rfl rfl rfl ⟨rfl, rfl, rfl, rfl, rfl⟩ rfl rfl rfl rfl rfl (by kernel_rfl) Try.func6 (by kernel_rfl)
    (of_decide_eq_true (by kernel_rfl)) (by unfold Func.isWrapper; rw [if_neg (of_decide_eq_false (by kernel_rfl))]; exact ⟨rfl, rfl⟩)
    (fun os started H enc _ => deltaReturns_lifted os started H enc)
end Go.Proofs.Ytfoadgepblojpaa
