/- NotationCountsUptoCardSaid: for every input of bounded bulk the Go law cellular/cellularlaw16.NotationCounts returns true, and each argument reads afterwards as it read before. Its condition is the row's own (the bulk of what is read). -/
import Derived.Test.YtlifofijgddjkabGreatDoorRg
import Derived.Test.YtlifofijgddjkabGreatDoorWa10
import Derived.Test.YtlifofijgddjkabGreatDoorNcx2
import Derived.Test.YtlifofijgddjkabGreatDoorTie
import Derived.Test.YtlifofijgddjkabGreatDoorCards
import Derived.Deep.DeepHandedRow
namespace Go.Proofs.YtlifofijgddjkabGreatDoor
open Go.AM Go.Proofs Go.ChangeShapes Go.WideShapes Go.ChangeAt Go.RowKit Go.Deep
set_option maxRecDepth 100000
theorem notationCounts_reads (os:Os) {H:Type} (enc:TypeId×Value->H):∃ places,DataW.whole enc Tryz.prog ((World.laidAll Tryz.prog os Rows.notationCountsUptoRow.laid).forCall (fun _ _=>0) ⟨#[],#[.string ByteArray.empty,.slice none 0 0],[]⟩).memory Tryz.f3.params.toList Rows.notationCountsSpec.vars false (#[.string ByteArray.empty,.slice none 0 0]:Array Value).toList 8=some ([.lit (.string []),.nil],[],places):=⟨[],by kernel_rfl⟩
theorem notationCounts_lifted (os:Os) (started:os.Started) (H:Type) (enc:TypeId×Value->H) (F:Stop.Interp) :
  ReturnsInHanded {} Tryz.checked os 3 .any ((Rows.OpenSpec.upto Rows.notationCountsSpec).preRow enc Tryz.prog Tryz.f3 Rows.notationCountsUptoRow.domain false Rows.notationCountsUptoRow.laid) (((Rows.OpenSpec.upto Rows.notationCountsSpec).at F).post enc Tryz.prog Tryz.f3 false true false false):=by
 obtain⟨places,hx⟩:=notationCounts_reads os enc
 have hok:Input.okWideB Tryz.checked.prog ((World.laidAll Tryz.prog os Rows.notationCountsUptoRow.laid).forCall (fun _ _=>0) ⟨#[],#[.string ByteArray.empty,.slice none 0 0],[]⟩) 3 ⟨#[],#[.string ByteArray.empty,.slice none 0 0],[]⟩=true:=by kernel_rfl
 refine returnsInHanded_of_row (C:=Tryz.checked) (s:=Rows.OpenSpec.upto Rows.notationCountsSpec) Tryz.own started (by kernel_rfl) Tryz.func3
  ⟨World.laidAll Tryz.prog os Rows.notationCountsUptoRow.laid,fun _ _=>0,⟨#[],#[.string ByteArray.empty,.slice none 0 0],[]⟩,World.laidAll_os _ _ _,World.shaped_of_ZipB (by kernel_rfl) (by kernel_rfl),(Input.okWide_of_okWideB (base:=0) hok).1,(Input.okWide_of_okWideB hok).2,
   OpenSpec.preRow_of_cond 8 hx (by kernel_rfl) (fun k hk=>by cases hk; kernel_rfl) (by kernel_rfl) (by rw[MakeChecks.laidMetH_plain _ _ _ (by kernel_rfl)]; exact laidMet_laidAll _ (by kernel_rfl) (by kernel_rfl)),by
   simp only[Assume.holds]
   exact⟨by simp,by simp,fun _=>Modest.zero,by simp,by simp⟩⟩ ?_
 intro W base args ds gs before hval0 hW _ hcond _ hL hsh _
 have hval:∀ (j:Nat) t v,Tryz.f3.params[j]?=some t->args[j]?=some v->Value.okWide Tryz.prog W .any base t v:=hval0
 have hW':=hW
 obtain⟨p,q,hA0,hV,rfl,_,_⟩:=hW
 have hA:DataW.TrodAll enc Tryz.prog W 0 (fun _=>true) true Tryz.f3.params.toList args.toList ds p:=hA0
 rw[Tryz.params3] at hA hval
 obtain⟨v0,v1,d0,d1,p0,p1,rfl,rfl,rfl,h0,h1⟩:=trodAll_two hA
 obtain⟨rfl,rfl⟩:=trodVars_none hV
 have hlt:∀ x∈p0++p1,x.block < W.heap.size:=fun x hx=>hW'.lt x (by simpa using hx)
 obtain⟨x0,rfl,hs0⟩:=arg_t9 (φ:=fun _=>undef) (hval 0 9 v0 rfl rfl) h0
 obtain⟨x1,hs1⟩:=arg_t22 (φ:=fun _=>undef) (hval 1 22 v1 rfl rfl) h1
 have hb0:x0.length<=4000000000:=by
  have hk:=of_decide_eq_true (hcond _ rfl)
  simp only[List.append_nil,Rows.uptoBulkAll,Rows.uptoBulk] at hk
  omega
 refine (true_calls (c_L16_NotationCounts x0 x1 true (counts_true x0 x1 hb0)) (gw_of hsh rfl hL (by simp[Rows.notationCountsUptoRow]) (by simp[Rows.notationCountsUptoRow]) (by simp[Rows.notationCountsUptoRow]) (by simp[Rows.notationCountsUptoRow]) (by kernel_rfl)) (vals:=[v0,v1]) rfl fun i x u hx hu=>?_).mono fun e W' ⟨he,hB⟩=>?_
 ·match i,hx,hu with
  | 0,hx,hu=>cases hx; cases hu; exact hs0
  | 1,hx,hu=>cases hx; cases hu; exact hs1
  | i+2,hx,hu=>simp at hx
 ·subst he
  refine⟨_,rfl,_,_,_,[],p0++p1,[],hW',?_,?_,rfl,hB.frame _,fun h=>by cases h⟩
  ·exact trodAll_mk1 (shut_bool Tryz.underlying4 true)
  ·exact trodAll_mk2 (Below.trod Tryz.laidOut (by kernel_rfl) (of_decide_eq_true (by kernel_rfl)) h0 hB fun x hx=>hlt x (List.mem_append_left _ hx))
    (Below.trod Tryz.laidOut (by kernel_rfl) (of_decide_eq_true (by kernel_rfl)) h1 hB fun x hx=>hlt x (List.mem_append_right _ hx))
set_option maxHeartbeats 4000000 in
theorem notationCounts_facts:joinedFacts Tryz.prog 3 Tryz.f3 (Rows.OpenSpec.upto Rows.notationCountsSpec).bare Rows.notationCountsUptoRow=true:=by
 simp only[joinedFacts,Bool.and_eq_true]
 repeat' apply And.intro
 all_goals (with_reducible decide +kernel)
theorem notationCounts_row:Rows.NotationCountsUptoSaid :=
 OpenClaim.holds_of_cond 3 Tryz.f3 rfl rfl rfl rfl rfl rfl rfl ⟨rfl,rfl,rfl,rfl,rfl⟩ rfl rfl rfl rfl rfl (by kernel_rfl) Tryz.func3 notationCounts_facts
  (of_decide_eq_true (by kernel_rfl)) (by unfold Func.isWrapper; rw[if_neg (of_decide_eq_false (by kernel_rfl))]; exact⟨rfl,rfl⟩)
  (fun os started H enc _ F=>by rw[OpenClaim.pre_eq_preRow]; exact notationCounts_lifted os started H enc F)
theorem notationCounts_card:Rows.NotationCountsUptoCardSaid :=
 Claim7.holds_tied_plain_at .later [] [.data,.data,.data,.data,.widerDeep,.sentinel,.sentinel,.widerDeep,.pinned] true (true, "f72a948b8746eeb63324093078e13af53265fe69092b3ccf0f91726613ffc793") true
  notationCounts_row (fun _ h=>by cases h) (by kernel_rfl) (fun _ h=>by cases h) notationCountsUpto_row_tie rfl ⟨rfl,rfl⟩ (by kernel_rfl) rfl
  (fun f fn hf hfn=>by
   obtain rfl:f=3:=Option.some.inj ((show Tryz.prog.funcNamed "cellular/cellularlaw16.NotationCounts" = some 3 by kernel_rfl).symm.trans hf) |>.symm
   obtain rfl:fn=Tryz.f3:=(Option.some.inj (Tryz.func3.symm.trans hfn)).symm
   exact⟨by kernel_rfl,fun j t ht=>by
    rw[Tryz.params3] at ht
    have hm:t∈[9,22]:=by simpa using Array.mem_of_getElem? ht
    have hall:([9,22].all fun u=>!Tryz.prog.wantsStandIn u)=true:=by kernel_rfl
    exact (show Tryz.prog.wantsStandIn t=false by simpa using List.all_eq_true.1 hall t hm)⟩)
  (by kernel_rfl)
end Go.Proofs.YtlifofijgddjkabGreatDoor
