/- NotationSymsCardSaid: for every input the Go law cellular/cellularlaw16.NotationSyms returns true, and each argument reads afterwards as it read before. No condition beyond the row's own. -/
import Derived.Test.YtcllfealpkhjfaaGreatDoorRg
import Derived.Test.YtcllfealpkhjfaaGreatDoorWa13
import Derived.Test.YtcllfealpkhjfaaGreatDoorExx3
import Derived.Test.YtcllfealpkhjfaaGreatDoorTie
import Derived.Test.YtcllfealpkhjfaaGreatDoorCards
namespace Go.Proofs.YtcllfealpkhjfaaGreatDoor
open Go.AM Go.Proofs Go.ChangeShapes Go.WideShapes Go.ChangeAt Go.RowKit Go.Deep
set_option maxRecDepth 100000
theorem notationSyms_lifted (os:Os) (started:os.Started) (H:Type) (enc:TypeId×Value->H) :
  ReturnsInHanded {} Tryz.checked os 3 .any (fun w args=>(Rows.notationSymsSpec.pre enc Tryz.prog Tryz.f3 Rows.notationSymsRow.domain false w args/\laidMetH Tryz.prog Rows.notationSymsRow.laid w)/\sizedMet enc Tryz.prog Tryz.f3 (OpenSpec.ofChange Rows.notationSymsSpec) false w args)
   (Rows.notationSymsSpec.post enc Tryz.prog Tryz.f3 false true false false):=by
 refine lift_row started (by kernel_rfl) Tryz.func3
  (ChangeSpec.witness_shaped (enc:=enc) (C:=Tryz.checked) (os:=os) (X:=fun w _=>laidMetH Tryz.prog Rows.notationSymsRow.laid w) false (World.laidAll Tryz.prog os Rows.notationSymsRow.laid)
   #[.agg #[.int .i64 0,.slice none 0 0,.slice none 0 0]] 8 (World.laidAll_os _ _ _)
   (World.shaped_of_ZipB (by kernel_rfl) (by kernel_rfl)) (by kernel_rfl) (by kernel_rfl) (by kernel_rfl)
   (by rw[MakeChecks.laidMetH_plain _ _ _ (by kernel_rfl)]; exact laidMet_laidAll _ (by kernel_rfl) (by kernel_rfl))) ?_
 intro W base args ds gs before hval0 hW hsh ⟨W0,hh,hL⟩
 have hval:∀ (j:Nat) t v,Tryz.f3.params[j]?=some t->args[j]?=some v->Value.okWide Tryz.prog W .any base t v:=hval0
 have hW':=hW
 obtain⟨p,q,hA0,hV,rfl,_,_⟩:=hW
 have hA:DataW.TrodAll enc Tryz.prog W 0 (fun _=>true) true Tryz.f3.params.toList args.toList ds p:=hA0
 rw[Tryz.params3] at hA hval
 obtain⟨v0,d0,rfl,rfl,h0⟩:=trodAll_one hA
 obtain⟨rfl,rfl⟩:=trodVars_none hV
 have hlt:∀ x∈p,x.block < W.heap.size:=fun x hx=>hW'.lt x (by simpa using hx)
 obtain⟨x0,hs0⟩:=arg_t25 (φ:=fun _=>undef) (hval 0 25 v0 rfl rfl) h0
 refine (true_calls (c_L16_NotationSyms x0 true (symslaw_true x0)) (gw_of hsh hh hL (by simp[Rows.notationSymsRow]) (by simp[Rows.notationSymsRow]) (by kernel_rfl)) (vals:=[v0]) rfl fun i x u hx hu=>?_).mono fun e W' ⟨he,hB⟩=>?_
 ·match i,hx,hu with
  | 0,hx,hu=>cases hx; cases hu; exact hs0
  | i+1,hx,hu=>simp at hx
 ·subst he
  refine⟨_,rfl,_,_,_,[],p,[],hW',?_,?_,rfl,hB.frame _,fun h=>by cases h⟩
  ·exact trodAll_mk1 (shut_bool Tryz.underlying4 true)
  ·exact trodAll_mk1 (Below.trod Tryz.laidOut (by kernel_rfl) (of_decide_eq_true (by kernel_rfl)) h0 hB fun x hx=>hlt x (hx))
set_option maxHeartbeats 4000000 in
theorem notationSyms_facts:joinedFacts Tryz.prog 3 Tryz.f3 Rows.notationSymsSpec Rows.notationSymsRow=true:=by
 simp only[joinedFacts,Bool.and_eq_true]
 repeat' apply And.intro
 all_goals (with_reducible decide +kernel)
theorem notationSyms_row:Rows.NotationSymsSaid :=
 OpenClaim.holds_of_wide 3 Tryz.f3 rfl rfl rfl rfl rfl rfl rfl ⟨rfl,rfl,rfl,rfl,rfl⟩ rfl rfl rfl rfl rfl (by kernel_rfl) Tryz.func3 notationSyms_facts
  (of_decide_eq_true (by kernel_rfl)) (by unfold Func.isWrapper; rw[if_neg (of_decide_eq_false (by kernel_rfl))]; exact⟨rfl,rfl⟩)
  (fun os started H enc _=>notationSyms_lifted os started H enc)
theorem notationSyms_card:Rows.NotationSymsCardSaid :=
 Claim7.holds_tied_plain_at .later [] [.data,.data,.data,.data,.widerDeep,.sentinel,.sentinel,.widerDeep,.pinned] true (true, "f8951806fd02b15843e66823e8ef5119b1f79112ef4196c3f5b0120862296101") true
  notationSyms_row (fun _ h=>by cases h) (by kernel_rfl) (fun _ h=>by cases h) notationSyms_row_tie rfl ⟨rfl,rfl⟩ (by kernel_rfl) rfl
  (fun f fn hf hfn=>by
   obtain rfl:f=3:=Option.some.inj ((show Tryz.prog.funcNamed "cellular/cellularlaw16.NotationSyms" = some 3 by kernel_rfl).symm.trans hf) |>.symm
   obtain rfl:fn=Tryz.f3:=(Option.some.inj (Tryz.func3.symm.trans hfn)).symm
   exact⟨by kernel_rfl,fun j t ht=>by
    rw[Tryz.params3] at ht
    have hm:t∈[25]:=by simpa using Array.mem_of_getElem? ht
    have hall:([25].all fun u=>!Tryz.prog.wantsStandIn u)=true:=by kernel_rfl
    exact (show Tryz.prog.wantsStandIn t=false by simpa using List.all_eq_true.1 hall t hm)⟩)
  (by kernel_rfl)
end Go.Proofs.YtcllfealpkhjfaaGreatDoor
