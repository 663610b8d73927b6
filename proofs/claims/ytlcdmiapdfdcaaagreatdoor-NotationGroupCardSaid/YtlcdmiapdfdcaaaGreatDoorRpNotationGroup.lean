/- NotationGroupCardSaid: for every input the Go law cellular/cellularlaw16.NotationGroup returns true, and each argument reads afterwards as it read before. No condition beyond the row's own. -/
import Derived.Test.YtlcdmiapdfdcaaaGreatDoorRg
import Derived.Test.YtlcdmiapdfdcaaaGreatDoorWa12
import Derived.Test.YtlcdmiapdfdcaaaGreatDoorNry1
import Derived.Test.YtlcdmiapdfdcaaaGreatDoorTie
import Derived.Test.YtlcdmiapdfdcaaaGreatDoorCards
namespace Go.Proofs.YtlcdmiapdfdcaaaGreatDoor
open Go.AM Go.Proofs Go.ChangeShapes Go.WideShapes Go.ChangeAt Go.RowKit Go.Deep
set_option maxRecDepth 100000
theorem notationGroup_lifted (os:Os) (started:os.Started) (H:Type) (enc:TypeId×Value->H) :
  ReturnsInHanded {} Tryz.checked os 4 .any (fun w args=>(Rows.notationGroupSpec.pre enc Tryz.prog Tryz.f4 Rows.notationGroupRow.domain false w args /\ laidMetH Tryz.prog Rows.notationGroupRow.laid w) /\ sizedMet enc Tryz.prog Tryz.f4 (OpenSpec.ofChange Rows.notationGroupSpec) false w args)
   (Rows.notationGroupSpec.post enc Tryz.prog Tryz.f4 false true false false):=by
 refine lift_row started (by kernel_rfl) Tryz.func4
  (ChangeSpec.witness_shaped (enc:=enc) (C:=Tryz.checked) (os:=os) (X:=fun w _=>laidMetH Tryz.prog Rows.notationGroupRow.laid w) false (World.laidAll Tryz.prog os Rows.notationGroupRow.laid)
   #[.agg #[.int .i64 0,.slice none 0 0,.slice none 0 0]] 8 (World.laidAll_os _ _ _)
   (World.shaped_of_ZipB (by kernel_rfl) (by kernel_rfl)) (by kernel_rfl) (by kernel_rfl) (by kernel_rfl)
   (by rw [MakeChecks.laidMetH_plain _ _ _ (by kernel_rfl)]; exact laidMet_laidAll _ (by kernel_rfl) (by kernel_rfl))) ?_
 intro W base args ds gs before hval0 hW hsh ⟨W0,hh,hL⟩
 have hval:∀ (j:Nat) t v,Tryz.f4.params[j]? = some t->args[j]? = some v->Value.okWide Tryz.prog W .any base t v:=hval0
 have hW':=hW
 obtain ⟨p,q,hA0,hV,rfl,_,_⟩:=hW
 have hA:DataW.TrodAll enc Tryz.prog W 0 (fun _=>true) true Tryz.f4.params.toList args.toList ds p:=hA0
 rw [Tryz.params4] at hA hval
 obtain ⟨v0,d0,rfl,rfl,h0⟩:=trodAll_one hA
 obtain ⟨rfl,rfl⟩:=trodVars_none hV
 have hlt:∀ x ∈ p,x.block < W.heap.size:=fun x hx=>hW'.lt x (by simpa using hx)
 obtain ⟨x0,hs0⟩:=arg_t25 (Z:=fun _=>undef) (hval 0 25 v0 rfl rfl) h0
 refine (true_calls (c_L16_NotationGroup x0 true (grouplaw_true x0)) (gw_of hsh hh hL (by simp [Rows.notationGroupRow]) (by simp [Rows.notationGroupRow]) (by kernel_rfl)) (vals:=[v0]) rfl fun i x u hx hu=>?_).mono fun e W' ⟨he,hB⟩=>?_
 ·match i,hx,hu with
  | 0,hx,hu=>cases hx; cases hu; exact hs0
  | i + 1,hx,hu=>simp at hx
 ·subst he
  refine ⟨_,rfl,_,_,_,[],p,[],hW',?_,?_,rfl,hB.frame _,fun h=>by cases h⟩
  ·exact trodAll_mk1 (shut_bool Tryz.underlying4 true)
  ·exact trodAll_mk1 (Below.trod Tryz.laidOut (by kernel_rfl) (of_decide_eq_true (by kernel_rfl)) h0 hB fun x hx=>hlt x (hx))
set_option maxHeartbeats 4000000 in
theorem notationGroup_facts:joinedFacts Tryz.prog 4 Tryz.f4 Rows.notationGroupSpec Rows.notationGroupRow = true:=by
 simp only [joinedFacts,Bool.and_eq_true]
 repeat' apply And.intro
 all_goals (with_reducible decide +kernel)
theorem notationGroup_row:Rows.NotationGroupSaid :=
 OpenClaim.holds_of_wide 4 Tryz.f4 rfl rfl rfl rfl rfl rfl rfl ⟨rfl,rfl,rfl,rfl,rfl⟩ rfl rfl rfl rfl rfl (by kernel_rfl) Tryz.func4 notationGroup_facts
  (of_decide_eq_true (by kernel_rfl)) (by unfold Func.isWrapper; rw [if_neg (of_decide_eq_false (by kernel_rfl))]; exact ⟨rfl,rfl⟩)
  (fun os started H enc _=>notationGroup_lifted os started H enc)
theorem notationGroup_card:Rows.NotationGroupCardSaid :=
 Claim7.holds_tied_plain_at .later [] [.data,.data,.data,.data,.widerDeep,.sentinel,.sentinel,.widerDeep,.pinned] true (true, "eeb17cab5ee72860e36ad6e21edea3a9de70d118692e5075cc1eda3cc9452b33") true
  notationGroup_row (fun _ h=>by cases h) (by kernel_rfl) (fun _ h=>by cases h) notationGroup_row_tie rfl ⟨rfl,rfl⟩ (by kernel_rfl) rfl
  (fun f fn hf hfn=>by
   obtain rfl:f = 4:=Option.some.inj ((show Tryz.prog.funcNamed "cellular/cellularlaw16.NotationGroup" = some 4 by kernel_rfl).symm.trans hf) |>.symm
   obtain rfl:fn = Tryz.f4:=(Option.some.inj (Tryz.func4.symm.trans hfn)).symm
   exact ⟨by kernel_rfl,fun j t ht=>by
    rw [Tryz.params4] at ht
    have hm:t ∈ [25]:=by simpa using Array.mem_of_getElem? ht
    have hall:([25].all fun u=>!Tryz.prog.wantsStandIn u) = true:=by kernel_rfl
    exact (show Tryz.prog.wantsStandIn t = false by simpa using List.all_eq_true.1 hall t hm)⟩)
  (by kernel_rfl)
end Go.Proofs.YtlcdmiapdfdcaaaGreatDoor
