/- UnrollFormulasCardSaid: for every input the Go law cellular/cellularlaw45.UnrollFormulas returns true, and each argument reads afterwards as it read before. No condition beyond the row's own. -/
import Derived.Test.YtnkmjlncmlmnbaaGreatDoorRg
import Derived.Test.YtnkmjlncmlmnbaaGreatDoorWa16
import Derived.Test.YtnkmjlncmlmnbaaGreatDoorUcx2
import Derived.Test.YtnkmjlncmlmnbaaGreatDoorTie
import Derived.Test.YtnkmjlncmlmnbaaGreatDoorCards
namespace Go.Proofs.YtnkmjlncmlmnbaaGreatDoor
open Go.AM Go.Proofs Go.ChangeShapes Go.WideShapes Go.ChangeAt Go.RowKit Go.Deep
set_option maxRecDepth 100000
theorem unrollFormulas_lifted (os:Os) (started:os.Started) (H:Type) (enc:TypeId×Value->H) :
  ReturnsInHanded {} Tryz.checked os 3 .any (fun w args=>(Rows.unrollFormulasSpec.pre enc Tryz.prog Tryz.f3 Rows.unrollFormulasRow.domain false w args/\laidMetH Tryz.prog Rows.unrollFormulasRow.laid w)/\sizedMet enc Tryz.prog Tryz.f3 (OpenSpec.ofChange Rows.unrollFormulasSpec) false w args)
   (Rows.unrollFormulasSpec.post enc Tryz.prog Tryz.f3 false true false false):=by
 refine lift_row started (by kernel_rfl) Tryz.func3
  (ChangeSpec.witness_shaped (enc:=enc) (C:=Tryz.checked) (os:=os) (X:=fun w _=>laidMetH Tryz.prog Rows.unrollFormulasRow.laid w) false (World.laidAll Tryz.prog os Rows.unrollFormulasRow.laid)
   #[.agg #[.int .i64 0,.slice none 0 0,.slice none 0 0],.agg #[.int .i64 0,.int .i64 0,.int .i64 0,.int .i64 0,.int .i64 0,.slice none 0 0]] 8 (World.laidAll_os _ _ _)
   (World.shaped_of_ZipB (by kernel_rfl) (by kernel_rfl)) (by kernel_rfl) (by kernel_rfl) (by kernel_rfl)
   (by rw[MakeChecks.laidMetH_plain _ _ _ (by kernel_rfl)]; exact laidMet_laidAll _ (by kernel_rfl) (by kernel_rfl))) ?_
 intro W base args ds gs before hval0 hW hsh ⟨W0,hh,hL⟩
 have hval:∀ (j:Nat) t v,Tryz.f3.params[j]?=some t->args[j]?=some v->Value.okWide Tryz.prog W .any base t v:=hval0
 have hW':=hW
 obtain⟨p,q,hA0,hV,rfl,_,_⟩:=hW
 have hA:DataW.TrodAll enc Tryz.prog W 0 (fun _=>true) true Tryz.f3.params.toList args.toList ds p:=hA0
 rw[Tryz.params3] at hA hval
 obtain⟨v0,v1,d0,d1,p0,p1,rfl,rfl,rfl,h0,h1⟩:=trodAll_two hA
 obtain⟨rfl,rfl⟩:=trodVars_none hV
 have hlt:∀ x∈p0++p1,x.block < W.heap.size:=fun x hx=>hW'.lt x (by simpa using hx)
 obtain⟨x0,hs0⟩:=arg_t25 (φ:=fun _=>undef) (hval 0 25 v0 rfl rfl) h0
 obtain⟨x1,hs1⟩:=arg_t28 (φ:=fun _=>undef) (hval 1 28 v1 rfl rfl) h1
 refine (true_calls (c_L45_UnrollFormulas x0 x1 true (formulas_true x0 x1)) (gw_of hsh hh hL (by simp[Rows.unrollFormulasRow]) (by simp[Rows.unrollFormulasRow]) (by kernel_rfl)) (vals:=[v0,v1]) rfl fun i x u hx hu=>?_).mono fun e W' ⟨he,hB⟩=>?_
 ·match i,hx,hu with
  | 0,hx,hu=>cases hx; cases hu; exact hs0
  | 1,hx,hu=>cases hx; cases hu; exact hs1
  | i+2,hx,hu=>simp at hx
 ·subst he
  refine⟨_,rfl,_,_,_,[],p0++p1,[],hW',?_,?_,rfl,hB.frame _,fun h=>by cases h⟩
  ·exact trodAll_mk1 (shut_bool Tryz.underlying4 true)
  ·exact trodAll_mk2 (Below.trod Tryz.laidOut (by kernel_rfl) (of_decide_eq_true (by kernel_rfl)) h0 hB fun x hx=>hlt x (List.mem_append_left _ hx))
    (Below.trod Tryz.laidOut (by kernel_rfl) (of_decide_eq_true (by kernel_rfl)) h1 hB fun x hx=>hlt x (List.mem_append_right _ hx))
set_option maxHeartbeats 4000000 in
theorem unrollFormulas_facts:joinedFacts Tryz.prog 3 Tryz.f3 Rows.unrollFormulasSpec Rows.unrollFormulasRow=true:=by
 simp only[joinedFacts,Bool.and_eq_true]
 repeat' apply And.intro
 all_goals (with_reducible decide +kernel)
theorem unrollFormulas_row:Rows.UnrollFormulasSaid :=
 OpenClaim.holds_of_wide 3 Tryz.f3 rfl rfl rfl rfl rfl rfl rfl ⟨rfl,rfl,rfl,rfl,rfl⟩ rfl rfl rfl rfl rfl (by kernel_rfl) Tryz.func3 unrollFormulas_facts
  (of_decide_eq_true (by kernel_rfl)) (by unfold Func.isWrapper; rw[if_neg (of_decide_eq_false (by kernel_rfl))]; exact⟨rfl,rfl⟩)
  (fun os started H enc _=>unrollFormulas_lifted os started H enc)
theorem unrollFormulas_card:Rows.UnrollFormulasCardSaid :=
 Claim7.holds_tied_plain_at .later [] [.data,.data,.data,.widerDeep] true (true, "ee060df2e1ce71506dfb07bdbc95db741bf74c634fd9fafc4ce6fa7f15583185") false
  unrollFormulas_row (fun _ h=>by cases h) (by kernel_rfl) (fun _ h=>by cases h) unrollFormulas_row_tie rfl ⟨rfl,rfl⟩ (by kernel_rfl) rfl
  (fun f fn hf hfn=>by
   obtain rfl:f=3:=Option.some.inj ((show Tryz.prog.funcNamed "cellular/cellularlaw45.UnrollFormulas" = some 3 by kernel_rfl).symm.trans hf) |>.symm
   obtain rfl:fn=Tryz.f3:=(Option.some.inj (Tryz.func3.symm.trans hfn)).symm
   exact⟨by kernel_rfl,fun j t ht=>by
    rw[Tryz.params3] at ht
    have hm:t∈[25,28]:=by simpa using Array.mem_of_getElem? ht
    have hall:([25,28].all fun u=>!Tryz.prog.wantsStandIn u)=true:=by kernel_rfl
    exact (show Tryz.prog.wantsStandIn t=false by simpa using List.all_eq_true.1 hall t hm)⟩)
  (by kernel_rfl)
end Go.Proofs.YtnkmjlncmlmnbaaGreatDoor
