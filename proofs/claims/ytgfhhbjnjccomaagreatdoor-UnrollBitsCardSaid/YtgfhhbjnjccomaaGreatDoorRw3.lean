/-
  UnrollBitsCardSaid: for every input the Go law cellularlaw45.UnrollBits returns true, and each argument reads afterwards as it read before. No condition beyond the row's own.
-/
import Derived.Test.YtgfhhbjnjccomaaGreatDoorRw1
import Derived.Test.YtgfhhbjnjccomaaGreatDoorPlx1
import Derived.Test.YtgfhhbjnjccomaaGreatDoorWa16
import Derived.Test.YtgfhhbjnjccomaaGreatDoorTie
import Derived.Test.YtgfhhbjnjccomaaGreatDoorCards
namespace Go.Proofs.YtgfhhbjnjccomaaGreatDoor
open Go.AM Go.Proofs Go.ChangeShapes Go.WideShapes Go.ChangeAt Go.RowKit Go.Deep

set_option maxRecDepth 100000 in
theorem unrollBits_lifted (os : Os) (started : os.Started) (H : Type) (enc : TypeId × Value → H) :
    ReturnsInHanded {} Tryz.checked os 6 .any (fun w args => (Rows.unrollBitsSpec.pre enc Tryz.prog Tryz.f6 Rows.unrollBitsRow.domain false w args ∧ laidMetH Tryz.prog Rows.unrollBitsRow.laid w) ∧ sizedMet enc Tryz.prog Tryz.f6 (OpenSpec.ofChange Rows.unrollBitsSpec) false w args)
      (Rows.unrollBitsSpec.post enc Tryz.prog Tryz.f6 false true false false) := by
  refine returnsInHanded_of_change_and (C := Tryz.checked) (X := fun w _ => laidMetH Tryz.prog Rows.unrollBitsRow.laid w) (fun _ _ _ hh h => h.of_heap hh) Tryz.own started (by kernel_rfl) Tryz.func6
    (ChangeSpec.witness_shaped (enc := enc) (C := Tryz.checked) (os := os) (X := fun w _ => laidMetH Tryz.prog Rows.unrollBitsRow.laid w) false (World.laidAll Tryz.prog os Rows.unrollBitsRow.laid)
      #[.agg #[.int .i64 0, .slice none 0 0, .slice none 0 0], .agg #[.int .i64 0, .int .i64 0, .int .i64 0, .int .i64 0, .int .i64 0, .slice none 0 0], .slice none 0 0] 8 (World.laidAll_os _ _ _)
      (World.shaped_of_ZipB (by kernel_rfl) (by kernel_rfl)) (by kernel_rfl) (by kernel_rfl) (by kernel_rfl)
      (by rw [MakeChecks.laidMetH_plain _ _ _ (by kernel_rfl)]; exact laidMet_laidAll _ (by kernel_rfl) (by kernel_rfl))) ?_
  intro W base args ds gs before hval0 hW _ _ _ _
  have hval : ∀ (j : Nat) t v, Tryz.f6.params[j]? = some t → args[j]? = some v → Value.okWide Tryz.prog W .any base t v := hval0
  have hW' := hW
  obtain ⟨p, q, hA0, hV, rfl, _, _⟩ := hW
  have hA : DataW.TrodAll enc Tryz.prog W 0 (fun _ => true) true Tryz.f6.params.toList args.toList ds p := hA0
  rw [Tryz.params6] at hA hval
  obtain ⟨v0, v1, v2, d0, d1, d2, p0, p1, p2, rfl, rfl, rfl, h0, h1, h2⟩ := trodAll_three hA
  obtain ⟨rfl, rfl⟩ := trodVars_none hV
  have hlt : ∀ x ∈ p0 ++ (p1 ++ p2), x.block < W.heap.size := fun x hx => hW'.lt x (by simpa using hx)
  obtain ⟨t, hs0⟩ := tree_arg (φ := fun _ => undef) (hval 0 25 v0 rfl rfl) h0
  obtain ⟨x, hs1⟩ := problem_arg (φ := fun _ => undef) (hval 1 28 v1 rfl rfl) h1
  obtain ⟨l, hs2⟩ := pattern_arg (φ := fun _ => undef) (hval 2 44 v2 rfl rfl) h2
  refine (true_calls (c_L45_UnrollBits t x l true (bits_true t x l)) (vals := [v0, v1, v2]) rfl fun i x u hx hu => ?_).mono fun e W' ⟨he, hB⟩ => ?_
  · match i, hx, hu with
    | 0, hx, hu => cases hx; cases hu; exact hs0
    | 1, hx, hu => cases hx; cases hu; exact hs1
    | 2, hx, hu => cases hx; cases hu; exact hs2
    | i + 3, hx, hu => simp at hx
  · subst he
    refine ⟨_, rfl, _, _, _, [], p0 ++ (p1 ++ p2), [], hW', ?_, ?_, rfl, hB.frame _, fun h => by cases h⟩
    · exact trodAll_mk1 (shut_bool Tryz.underlying4 true)
    · exact trodAll_mk3 (Below.trod Tryz.laidOut (by kernel_rfl) (of_decide_eq_true (by kernel_rfl)) h0 hB fun x hx => hlt x (List.mem_append_left _ hx))
        (Below.trod Tryz.laidOut (by kernel_rfl) (of_decide_eq_true (by kernel_rfl)) h1 hB fun x hx => hlt x (List.mem_append_right _ (List.mem_append_left _ hx)))
        (Below.trod Tryz.laidOut (by kernel_rfl) (of_decide_eq_true (by kernel_rfl)) h2 hB fun x hx => hlt x (List.mem_append_right _ (List.mem_append_right _ hx)))
theorem unrollBits_row : Rows.UnrollBitsSaid :=
  OpenClaim.holds_of_wide 6 Tryz.f6 rfl rfl rfl rfl rfl rfl rfl ⟨rfl, rfl, rfl, rfl, rfl⟩ rfl rfl rfl rfl rfl (by kernel_rfl) Tryz.func6 (by kernel_rfl)
    (of_decide_eq_true (by kernel_rfl)) (by unfold Func.isWrapper; rw [if_neg (of_decide_eq_false (by kernel_rfl))]; exact ⟨rfl, rfl⟩)
    (fun os started H enc _ => unrollBits_lifted os started H enc)
theorem unrollBits_card : Rows.UnrollBitsCardSaid :=
  Claim7.holds_tied_plain_at .later [] [.data, .data, .data, .widerDeep] true (true, "9e4763e79087e3244c3f7b283584f99d18d6e5ce6093b2fac021dcac42111532") false
    unrollBits_row (fun _ h => by cases h) (by kernel_rfl) (fun _ h => by cases h) unrollBits_row_tie rfl ⟨rfl, rfl⟩ (by kernel_rfl) rfl
    (fun f fn hf hfn => by
      obtain rfl : f = 6 := Option.some.inj ((show Tryz.prog.funcNamed "cellular/cellularlaw45.UnrollBits" = some 6 by kernel_rfl).symm.trans hf) |>.symm
      obtain rfl : fn = Tryz.f6 := (Option.some.inj (Tryz.func6.symm.trans hfn)).symm
      exact ⟨by kernel_rfl, fun j t ht => by
        rw [Tryz.params6] at ht
        have h3 : t = 25 ∨ t = 28 ∨ t = 44 := by
          rcases j with _ | _ | _ | j
          · exact .inl (by simpa using ht.symm)
          · exact .inr (.inl (by simpa using ht.symm))
          · exact .inr (.inr (by simpa using ht.symm))
          · simp at ht
        rcases h3 with rfl | rfl | rfl
        · exact (show Tryz.prog.wantsStandIn 25 = false by kernel_rfl)
        · exact (show Tryz.prog.wantsStandIn 28 = false by kernel_rfl)
        · exact (show Tryz.prog.wantsStandIn 44 = false by kernel_rfl)⟩)
    (by kernel_rfl)
end Go.Proofs.YtgfhhbjnjccomaaGreatDoor
