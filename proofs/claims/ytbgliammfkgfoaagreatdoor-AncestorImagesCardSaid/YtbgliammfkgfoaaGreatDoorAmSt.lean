/- strings.Trim and strconv.Atoi, told by the kit: pure calls over lists of bytes. -/
import Derived.Test.YtbgliammfkgfoaaGreatDoorAmMp
import Derived.Shelf.Strings.Cut
import Derived.Shelf.Strings.Split
import Derived.Shelf.Strings.SlTrimAscii
import Derived.Shelf.Strconv.Atoi
namespace Go.AM
open Go.Proofs
variable {P:Program}
theorem blw_drewN {B:Nat} {w w':World} (h:Blw B w w'):∀ q,Blw B w (w'.drewN q)
 | 0=>h
 | q+1=>by
  have:=blw_drewN h q
  exact⟨⟨this.os,this.tape,this.output,this.size,this.block⟩,Nat.le_trans this.drawn (lf (Nat.le_succ _))⟩
end Go.AM
