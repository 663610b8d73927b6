/- AncestorImagesCardSaid: for every input the Go law cellular/cellularlaw48.AncestorImages returns true, and each argument reads afterwards as it read before. No condition beyond the row's own. -/
import Derived.Test.YtbgliammfkgfoaaGreatDoorRg
import Derived.Test.YtbgliammfkgfoaaGreatDoorWa13
import Derived.Test.YtbgliammfkgfoaaGreatDoorPsx1
import Derived.Test.YtbgliammfkgfoaaGreatDoorTie
import Derived.Test.YtbgliammfkgfoaaGreatDoorCards
namespace Go.Proofs.YtbgliammfkgfoaaGreatDoor
open Go.AM Go.Proofs Go.ChangeShapes Go.WideShapes Go.ChangeAt Go.RowKit Go.Deep
set_option maxRecDepth 100000
theorem ancestorImages_lifted (os:Os) (started:os.Started) (H:Type) (enc:TypeId×Value->H) :
  ReturnsInHanded {} Tryz.checked os 5 .any (fun w args=>(Rows.ancestorImagesSpec.pre enc Tryz.prog Tryz.f5 Rows.ancestorImagesRow.domain false w args/\laidMetH Tryz.prog Rows.ancestorImagesRow.laid w)/\sizedMet enc Tryz.prog Tryz.f5 (OpenSpec.ofChange Rows.ancestorImagesSpec) false w args)
   (Rows.ancestorImagesSpec.post enc Tryz.prog Tryz.f5 false true false false):=by
 refine lift_row started (by kernel_rfl) Tryz.func5
  (ChangeSpec.witness_shaped (enc:=enc) (C:=Tryz.checked) (os:=os) (X:=fun w _=>laidMetH Tryz.prog Rows.ancestorImagesRow.laid w) false (World.laidAll Tryz.prog os Rows.ancestorImagesRow.laid)
   #[.agg #[.int .i64 0,.slice none 0 0,.slice none 0 0],.agg #[.int .i64 0,.int .i64 0,.int .i64 0,.slice none 0 0]] 8 (World.laidAll_os _ _ _)
   (World.shaped_of_ZipB (by kernel_rfl) (by kernel_rfl)) (by kernel_rfl) (by kernel_rfl) (by kernel_rfl)
   (by rw[MakeChecks.laidMetH_plain _ _ _ (by kernel_rfl)]; exact laidMet_laidAll _ (by kernel_rfl) (by kernel_rfl))) ?_
 intro W base args ds gs before hval0 hW hsh ⟨W0,hh,hL⟩
 have hval:∀ (j:Nat) t v,Tryz.f5.params[j]?=some t->args[j]?=some v->Value.okWide Tryz.prog W .any base t v:=hval0
 have hW':=hW
 obtain⟨p,q,hA0,hV,rfl,_,_⟩:=hW
 have hA:DataW.TrodAll enc Tryz.prog W 0 (fun _=>true) true Tryz.f5.params.toList args.toList ds p:=hA0
 rw[Tryz.params5] at hA hval
 obtain⟨v0,v1,d0,d1,p0,p1,rfl,rfl,rfl,h0,h1⟩:=trodAll_two hA
 obtain⟨rfl,rfl⟩:=trodVars_none hV
 have hlt:∀ x∈p0++p1,x.block < W.heap.size:=fun x hx=>hW'.lt x (by simpa using hx)
 obtain⟨x0,hs0⟩:=arg_t25 (φ:=fun _=>undef) (hval 0 25 v0 rfl rfl) h0
 obtain⟨x1,hs1⟩:=arg_t28 (φ:=fun _=>undef) (hval 1 28 v1 rfl rfl) h1
 refine (true_calls (CtP.pf (images_true x0 x1)) (gw_of hsh hh hL (by simp[Rows.ancestorImagesRow]) (by kernel_rfl)) (vals:=[v0,v1]) rfl fun i x u hx hu=>?_).mono fun e W' ⟨he,hB⟩=>?_
 ·match i,hx,hu with
  | 0,hx,hu=>cases hx; cases hu; exact hs0
  | 1,hx,hu=>cases hx; cases hu; exact hs1
  | i+2,hx,hu=>simp at hx
 ·subst he
  refine⟨_,rfl,_,_,_,[],p0++p1,[],hW',?_,?_,rfl,hB.frame _,fun h=>by cases h⟩
  ·exact trodAll_mk1 (shut_bool Tryz.underlying4 true)
  ·exact trodAll_mk2 (Below.trod Tryz.laidOut (by kernel_rfl) (of_decide_eq_true (by kernel_rfl)) h0 hB fun x hx=>hlt x (List.mem_append_left _ hx))
    (Below.trod Tryz.laidOut (by kernel_rfl) (of_decide_eq_true (by kernel_rfl)) h1 hB fun x hx=>hlt x (List.mem_append_right _ hx))
set_option maxHeartbeats 4000000 in
theorem ancestorImages_facts:joinedFacts Tryz.prog 5 Tryz.f5 Rows.ancestorImagesSpec Rows.ancestorImagesRow=true:=by
 simp only[joinedFacts,Bool.and_eq_true]
 repeat' apply And.intro
 all_goals (with_reducible decide +kernel)
theorem ancestorImages_row:Rows.AncestorImagesSaid :=
 OpenClaim.holds_of_wide 5 Tryz.f5 rfl rfl rfl rfl rfl rfl rfl ⟨rfl,rfl,rfl,rfl,rfl⟩ rfl rfl rfl rfl rfl (by kernel_rfl) Tryz.func5 ancestorImages_facts
  (of_decide_eq_true (by kernel_rfl)) (by unfold Func.isWrapper; rw[if_neg (of_decide_eq_false (by kernel_rfl))]; exact⟨rfl,rfl⟩)
  (fun os started H enc _=>ancestorImages_lifted os started H enc)
theorem ancestorImages_card:Rows.AncestorImagesCardSaid :=
 Claim7.holds_tied_plain_at .later [] [.data,.data,.data] true (true, "57d2d2b5f6036ebf77d3197a952144a8d97a7aa8e4ba67dfd59ce3f627536d5c") false
  ancestorImages_row (fun _ h=>by cases h) (by kernel_rfl) (fun _ h=>by cases h) ancestorImages_row_tie rfl ⟨rfl,rfl⟩ (by kernel_rfl) rfl
  (fun f fn hf hfn=>by
   obtain rfl:f=5:=Option.some.inj ((show Tryz.prog.funcNamed "cellular/cellularlaw48.AncestorImages" = some 5 by kernel_rfl).symm.trans hf) |>.symm
   obtain rfl:fn=Tryz.f5:=(Option.some.inj (Tryz.func5.symm.trans hfn)).symm
   exact⟨by kernel_rfl,fun j t ht=>by
    rw[Tryz.params5] at ht
    have hm:t∈[25,28]:=by simpa using Array.mem_of_getElem? ht
    have hall:([25,28].all fun u=>!Tryz.prog.wantsStandIn u)=true:=by kernel_rfl
    exact (show Tryz.prog.wantsStandIn t=false by simpa using List.all_eq_true.1 hall t hm)⟩)
  (by kernel_rfl)
end Go.Proofs.YtbgliammfkgfoaaGreatDoor
