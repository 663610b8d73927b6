/- AncestorChainsCardSaid: for every input the Go law cellular/cellularlaw48.AncestorChains returns true, and each argument reads afterwards as it read before. No condition beyond the row's own. -/
import Derived.Test.YtpeabgakdpojlaaGreatDoorRg
import Derived.Test.YtpeabgakdpojlaaGreatDoorWa17
import Derived.Test.YtpeabgakdpojlaaGreatDoorAnx2
import Derived.Test.YtpeabgakdpojlaaGreatDoorTie
import Derived.Test.YtpeabgakdpojlaaGreatDoorCards
namespace Go.Proofs.YtpeabgakdpojlaaGreatDoor
open Go.AM Go.Proofs Go.ChangeShapes Go.WideShapes Go.ChangeAt Go.RowKit Go.Deep
set_option maxRecDepth 100000
theorem ancestorChains_lifted (os:Os) (started:os.Started) (H:Type) (enc:TypeId×Value->H) :
  ReturnsInHanded {} Tryz.checked os 5 .any (λw args=>(Rows.ancestorChainsSpec.pre enc Tryz.prog Tryz.f5 Rows.ancestorChainsRow.domain false w args/\laidMetH Tryz.prog Rows.ancestorChainsRow.laid w)/\sizedMet enc Tryz.prog Tryz.f5 (OpenSpec.ofChange Rows.ancestorChainsSpec) false w args) (Rows.ancestorChainsSpec.post enc Tryz.prog Tryz.f5 false true false false):=by
 refine lift_row started (by kernel_rfl) Tryz.func5 (ChangeSpec.witness_shaped (enc:=enc) (C:=Tryz.checked) (os:=os) (X:=λw _=>laidMetH Tryz.prog Rows.ancestorChainsRow.laid w) false (World.laidAll Tryz.prog os Rows.ancestorChainsRow.laid)
   #[.agg #[.int .i64 0,.slice none 0 0,.slice none 0 0],.agg #[.int .i64 0,.int .i64 0,.int .i64 0,.slice none 0 0],.int .i64 0] 8 (World.laidAll_os _ _ _) (World.shaped_of_ZipB (by kernel_rfl) (by kernel_rfl)) (by kernel_rfl) (by kernel_rfl) (by kernel_rfl) (by rw[MakeChecks.laidMetH_plain _ _ _ (by kernel_rfl)];exact laidMet_laidAll _ (by kernel_rfl) (by kernel_rfl))) ?_
 intro W base args ds gs before hval0 hW hsh ⟨W0,hh,hL⟩;have hval:∀(j:Nat) t v,Tryz.f5.params[j]?=some t->args[j]?=some v->Value.okWide Tryz.prog W .any base t v:=hval0;have hW':=hW;obtain⟨p,q,hA0,hV,rfl,_,_⟩:=hW;have hA:DataW.TrodAll enc Tryz.prog W 0 (λ_=>true) true Tryz.f5.params.toList args.toList ds p:=hA0;rw[Tryz.params5] at hA hval;obtain⟨v0,v1,v2,d0,d1,d2,p0,p1,p2,rfl,rfl,rfl,h0,h1,h2⟩:=trodAll_three hA;obtain⟨rfl,rfl⟩:=trodVars_none hV;have hlt:∀x∈p0++(p1++p2),x.block<W.heap.size:=λx hx=>hW'.lt x (by simpa using hx);obtain⟨x0,hs0⟩:=arg_t25 (E:=λ_=>undef) (hval 0 25 v0 rfl rfl) h0;obtain⟨x1,hs1⟩:=arg_t28 (E:=λ_=>undef) (hval 1 28 v1 rfl rfl) h1;obtain⟨x2,hs2⟩:=arg_t3 (E:=λ_=>undef) (hval 2 3 v2 rfl rfl) h2;refine(true_calls (CtP.pf (chains_true x0 x1 x2)) (gw_of hsh hh hL (by simp[Rows.ancestorChainsRow]) (by kernel_rfl)) (vals:=[v0,v1,v2]) rfl λi x u hx hu=>?_).mono λe W' ⟨he,hB⟩=>?_;{match i,hx,hu with|0,hx,hu=>(cases hx;cases hu;exact hs0)|1,hx,hu=>(cases hx;cases hu;exact hs1)|2,hx,hu=>(cases hx;cases hu;exact hs2)|i+3,hx,hu=>simp at hx};{subst he;refine⟨_,rfl,_,_,_,[],p0++(p1++p2),[],hW',?_,?_,rfl,hB.frame _,λh=>by cases h⟩;{exact trodAll_mk1 (shut_bool Tryz.underlying4 true)};{exact trodAll_mk3 (Below.trod Tryz.laidOut (by kernel_rfl) (of_decide_eq_true (by kernel_rfl)) h0 hB λx hx=>hlt x (List.mem_append_left _ hx)) (Below.trod Tryz.laidOut (by kernel_rfl) (of_decide_eq_true (by kernel_rfl)) h1 hB λx hx=>hlt x (List.mem_append_right _ (List.mem_append_left _ hx))) (Below.trod Tryz.laidOut (by kernel_rfl) (of_decide_eq_true (by kernel_rfl)) h2 hB λx hx=>hlt x (List.mem_append_right _ (List.mem_append_right _ hx)))}}
set_option maxHeartbeats 4000000 in
theorem ancestorChains_facts:joinedFacts Tryz.prog 5 Tryz.f5 Rows.ancestorChainsSpec Rows.ancestorChainsRow=true:=by
 simp only[joinedFacts,Bool.and_eq_true]
 repeat' apply And.intro
 all_goals (with_reducible decide +kernel)
theorem ancestorChains_row:Rows.AncestorChainsSaid :=
 OpenClaim.holds_of_wide 5 Tryz.f5 rfl rfl rfl rfl rfl rfl rfl ⟨rfl,rfl,rfl,rfl,rfl⟩ rfl rfl rfl rfl rfl (by kernel_rfl) Tryz.func5 ancestorChains_facts (of_decide_eq_true (by kernel_rfl)) (by unfold Func.isWrapper;rw[if_neg (of_decide_eq_false (by kernel_rfl))];exact⟨rfl,rfl⟩) (λos started H enc _=>ancestorChains_lifted os started H enc)
theorem ancestorChains_card:Rows.AncestorChainsCardSaid :=
 Claim7.holds_tied_plain_at .later [] [.data,.data,.data] true (true, "3243a79e09dacd662fb8647c20a94c82327e358b9348fa5cf948689f7a13b000") false
  ancestorChains_row (λ_ h=>by cases h) (by kernel_rfl) (λ_ h=>by cases h) ancestorChains_row_tie rfl ⟨rfl,rfl⟩ (by kernel_rfl) rfl (λf fn hf hfn=>by
   obtain rfl:f=5:=Option.some.inj ((show Tryz.prog.funcNamed "cellular/cellularlaw48.AncestorChains" = some 5 by kernel_rfl).symm.trans hf) |>.symm;obtain rfl:fn=Tryz.f5:=(Option.some.inj (Tryz.func5.symm.trans hfn)).symm;exact⟨by kernel_rfl,λj t ht=>by
    rw[Tryz.params5] at ht;have hm:t∈[25,28,3]:=by simpa using Array.mem_of_getElem? ht
    have hall:([25,28,3].all λu=>!Tryz.prog.wantsStandIn u)=true:=by kernel_rfl
    exact(show Tryz.prog.wantsStandIn t=false by simpa using List.all_eq_true.1 hall t hm)⟩)
  (by kernel_rfl)
end Go.Proofs.YtpeabgakdpojlaaGreatDoor
