/-
  The table, for simp.
-/
import Derived.Test.YtdjclgfbggfpaaaGreatDoorTab
import Derived.Test.YtdjclgfbggfpaaaGreatDoorAmMp
namespace Go.Proofs.YtdjclgfbggfpaaaGreatDoor
open Go.AM Go.Proofs
theorem tb_ty : tb.ty = ty := rfl
theorem tb_eqn : tb.eqn = eqn := rfl
theorem tb_key : tb.key = key := rfl
theorem tb_mid : tb.mid = fun _ => none := rfl
theorem tb_call (f : FuncId) (us : List V) : tb.call f us = none := rfl
theorem tb_eff (f : FuncId) (us : List V) (d : Option Nat) (ρ : Env) (σ : Sto) : tb.eff f us d ρ σ = none := rfl
attribute [simp] tb_mid tb_ty tb_eqn tb_key tb_call tb_eff ty eqn key ti2 ti3 ti4 ti5 ti9 ti21 ti22 ti23 ti25 ti26 ti27 ti31 ti32 ti43 ti51 ti54 ti55 ti61 ti65 ti70 ti72 ti75 ti77 ti81 ti88 ti89 ti91 ti96 ti98 ti102 ti106 ti108 ti110 ti121 ti130 ti131 ti133 ti140 ti144 ti145 ti146 ti147 ti149 ti151 ti158 ti169 ti176 ti177 ti179 ti183 ti184 ti186 ti187 ti189 ti193 ti196 ti197 ti199 ti207 ti223 ti224 ti226 ti241 ti259 ti263 ti264 ti277 ti279 ti286 ti295 ti299
end Go.Proofs.YtdjclgfbggfpaaaGreatDoor
