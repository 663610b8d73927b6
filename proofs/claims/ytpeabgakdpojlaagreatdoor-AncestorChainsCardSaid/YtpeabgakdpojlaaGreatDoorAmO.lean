/- Lemmas for the law. -/
import Derived.Test.YtpeabgakdpojlaaGreatDoorAmN
import Derived.StringKeys
namespace Go.AM
open Go.RowKit
section
variable {P:Program} {t:TypeId}
theorem key_int {q:IntKind} (hu:P.underlying t=some (.int q)):Maps.Keyed P t/\∀k:Key,k.fits (.int q)=true->∃l,keyOf P t k.val=some l:=by
 refine⟨Maps.int_keyed hu,λk hk=>?_⟩;cases k with
 |int k n=>
  simp only[Key.fits,Bool.and_eq_true,decide_eq_true_eq] at hk;obtain⟨rfl,hw⟩:=hk;exact⟨_,Maps.keyOf_int_mk hu hw⟩
 |str s=>simp[Key.fits] at hk|ints l=>simp[Key.fits] at hk
theorem key_str (hu:P.underlying t=some .string):Maps.Keyed P t/\∀k:Key,k.fits .str=true->∃l,keyOf P t k.val=some l:=by
 refine⟨Maps.string_keyed hu,λk hk=>?_⟩;cases k with
 |int k n=>simp[Key.fits] at hk|str s=>simp only[Key.fits,decide_eq_true_eq] at hk;refine⟨.string s,?_⟩;simp[keyOf,hu,mapKey,Key.val,ByteArray.size,hk]|ints l=>simp[Key.fits] at hk
end
