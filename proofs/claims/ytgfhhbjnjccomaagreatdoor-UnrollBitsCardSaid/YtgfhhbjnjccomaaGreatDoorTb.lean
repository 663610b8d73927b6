/-
  The table, for simp.
-/
import Derived.Test.YtgfhhbjnjccomaaGreatDoorTab
import Derived.Test.YtgfhhbjnjccomaaGreatDoorAmGf
namespace Go.Proofs.YtgfhhbjnjccomaaGreatDoor
open Go.AM Go.Proofs
theorem tb_ty : tb.ty = ty := rfl
theorem tb_eqn : tb.eqn = eqn := rfl
theorem tb_key : tb.key = key := rfl
theorem tb_mid : tb.mid = fun _ => none := rfl
theorem tb_call (f : FuncId) (us : List V) : tb.call f us = none := rfl
theorem tb_eff (f : FuncId) (us : List V) (d : Option Nat) (ρ : Env) (σ : Sto) : tb.eff f us d ρ σ = none := rfl
attribute [simp] tb_mid tb_ty tb_eqn tb_key tb_call tb_eff ty eqn key ti2 ti3 ti4 ti5 ti9 ti22 ti23 ti25 ti26 ti28 ti31 ti33 ti34 ti39 ti42 ti43 ti44 ti56 ti57 ti59 ti61 ti65 ti68 ti70 ti73 ti74 ti76 ti78 ti80 ti82 ti90 ti95 ti97 ti105 ti117 ti144 ti148 ti155 ti158 ti159 ti160 ti170 ti172 ti174 ti175 ti177 ti184 ti189 ti208 ti225 ti227
end Go.Proofs.YtgfhhbjnjccomaaGreatDoor
