/- NotationRowsCardSaid: for every input the Go law cellular/cellularlaw16.NotationRows returns true, and each argument reads afterwards as it read before. No condition beyond the row's own. -/
import Derived.Test.YtldhnnkpmhnpcaaGreatDoorRg
import Derived.Test.YtldhnnkpmhnpcaaGreatDoorWa11
import Derived.Test.YtldhnnkpmhnpcaaGreatDoorNrZ
import Derived.Test.YtldhnnkpmhnpcaaGreatDoorTie
import Derived.Test.YtldhnnkpmhnpcaaGreatDoorCards
namespace Go.Proofs.YtldhnnkpmhnpcaaGreatDoor
open Go.AM Go.Proofs Go.ChangeShapes Go.WideShapes Go.ChangeAt Go.RowKit Go.Deep
set_option maxRecDepth 100000 in
theorem notationRows_lifted (os : Os) (started : os.Started) (H : Type) (enc : TypeId × Value → H) :
  ReturnsInHanded {} Tryz.checked os 4 .any (fun w args => (Rows.notationRowsSpec.pre enc Tryz.prog Tryz.f4 Rows.notationRowsRow.domain false w args ∧ laidMetH Tryz.prog Rows.notationRowsRow.laid w) ∧ sizedMet enc Tryz.prog Tryz.f4 (OpenSpec.ofChange Rows.notationRowsSpec) false w args)
   (Rows.notationRowsSpec.post enc Tryz.prog Tryz.f4 false true false false) := by
 refine lift_row started (by kernel_rfl) Tryz.func4
  (ChangeSpec.witness_shaped (enc := enc) (C := Tryz.checked) (os := os) (X := fun w _ => laidMetH Tryz.prog Rows.notationRowsRow.laid w) false (World.laidAll Tryz.prog os Rows.notationRowsRow.laid)
   #[.int .u8 0] 8 (World.laidAll_os _ _ _)
   (World.shaped_of_ZipB (by kernel_rfl) (by kernel_rfl)) (by kernel_rfl) (by kernel_rfl) (by kernel_rfl)
   (by rw [MakeChecks.laidMetH_plain _ _ _ (by kernel_rfl)]; exact laidMet_laidAll _ (by kernel_rfl) (by kernel_rfl))) ?_
 intro W base args ds gs before hval0 hW hsh ⟨W0, hh, hL⟩
 have hval : ∀ (j : Nat) t v, Tryz.f4.params[j]? = some t → args[j]? = some v → Value.okWide Tryz.prog W .any base t v := hval0
 have hW' := hW
 obtain ⟨p, q, hA0, hV, rfl, _, _⟩ := hW
 have hA : DataW.TrodAll enc Tryz.prog W 0 (fun _ => true) true Tryz.f4.params.toList args.toList ds p := hA0
 rw [Tryz.params4] at hA hval
 obtain ⟨v0, d0, rfl, rfl, h0⟩ := trodAll_one hA
 obtain ⟨rfl, rfl⟩ := trodVars_none hV
 have hlt : ∀ x ∈ p, x.block < W.heap.size := fun x hx => hW'.lt x (by simpa using hx)
 obtain ⟨x0, hb0, hs0⟩ := arg_t5 (φ := fun _ => undef) (hval 0 5 v0 rfl rfl) h0
 refine (true_calls (c_L16_NotationRows x0 true (nr_true x0 hb0)) (gw_of hsh hh hL (by simp [Rows.notationRowsRow]) (by simp [Rows.notationRowsRow]) (by kernel_rfl)) (vals := [v0]) rfl fun i x u hx hu => ?_).mono fun e W' ⟨he, hB⟩ => ?_
 ·match i, hx, hu with
  | 0, hx, hu => cases hx; cases hu; exact hs0
  | i + 1, hx, hu => simp at hx
 ·subst he
  refine ⟨_, rfl, _, _, _, [], p, [], hW', ?_, ?_, rfl, hB.frame _, fun h => by cases h⟩
  ·exact trodAll_mk1 (shut_bool Tryz.underlying4 true)
  ·exact trodAll_mk1 (Below.trod Tryz.laidOut (by kernel_rfl) (of_decide_eq_true (by kernel_rfl)) h0 hB fun x hx => hlt x (hx))
set_option maxRecDepth 100000 in
set_option maxHeartbeats 4000000 in
theorem notationRows_facts : joinedFacts Tryz.prog 4 Tryz.f4 Rows.notationRowsSpec Rows.notationRowsRow = true := by
 simp only [joinedFacts, Bool.and_eq_true]
 repeat' apply And.intro
 all_goals (with_reducible decide +kernel)
theorem notationRows_row : Rows.NotationRowsSaid :=
 OpenClaim.holds_of_wide 4 Tryz.f4 rfl rfl rfl rfl rfl rfl rfl ⟨rfl, rfl, rfl, rfl, rfl⟩ rfl rfl rfl rfl rfl (by kernel_rfl) Tryz.func4 notationRows_facts
  (of_decide_eq_true (by kernel_rfl)) (by unfold Func.isWrapper; rw [if_neg (of_decide_eq_false (by kernel_rfl))]; exact ⟨rfl, rfl⟩)
  (fun os started H enc _ => notationRows_lifted os started H enc)
theorem notationRows_card : Rows.NotationRowsCardSaid :=
 Claim7.holds_tied_plain_at .later [] [.data, .data, .data, .data, .widerDeep, .sentinel, .sentinel, .widerDeep, .pinned] true (true, "736f4ebada757448198ad3ff55d725c8c128384716dd97667582eed408678a19") true
  notationRows_row (fun _ h => by cases h) (by kernel_rfl) (fun _ h => by cases h) notationRows_row_tie rfl ⟨rfl, rfl⟩ (by kernel_rfl) rfl
  (fun f fn hf hfn => by
   obtain rfl : f = 4 := Option.some.inj ((show Tryz.prog.funcNamed "cellular/cellularlaw16.NotationRows" = some 4 by kernel_rfl).symm.trans hf) |>.symm
   obtain rfl : fn = Tryz.f4 := (Option.some.inj (Tryz.func4.symm.trans hfn)).symm
   exact ⟨by kernel_rfl, fun j t ht => by
    rw [Tryz.params4] at ht
    have hm : t ∈ [5] := by simpa using Array.mem_of_getElem? ht
    have hall : ([5].all fun u => !Tryz.prog.wantsStandIn u) = true := by kernel_rfl
    exact (show Tryz.prog.wantsStandIn t = false by simpa using List.all_eq_true.1 hall t hm)⟩)
  (by kernel_rfl)
end Go.Proofs.YtldhnnkpmhnpcaaGreatDoor
