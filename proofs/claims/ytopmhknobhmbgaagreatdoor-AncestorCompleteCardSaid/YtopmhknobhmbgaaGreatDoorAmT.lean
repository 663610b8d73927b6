/- A whole body, evaluated at once (but for its loops). -/
import Derived.Test.YtopmhknobhmbgaaGreatDoorAmO
namespace Go.AM
open Go.RowKit
def acond (c:V) (p q:Prop):Prop:=match c with|.u (.one (.d (.bool b)))=>(b=true->p)/\(b=false->q)|_=>False
def adraw (P:Program) (cx:Cx) (tb:Tb) (all ops:A6) (Z:Env) (O:Sto) (K:A2):Prop :=qops P tb all O (ops.take (cutAt ops)) Z λZ=>qy P cx tb all (ops.drop (cutAt ops)) Z O K
def adrawM (P:Program) (cx:Cx) (tb:Tb) (all l:A6) (x:Nat) (us:A5) (Z:Env) (O:Sto) (K:A2):Prop :=qops P tb all O (l.take x) Z λZ=>midStep P cx tb all (l.drop (x+1)) us l[x]? Z O K
def adrawn (P:Program) (cx:Cx) (tb:Tb) (h:Option (Nat×A5)) (ops:A6) (Z:Env) (O:Sto) (K:A2):Prop:=match h with|none=>adraw P cx tb ops ops Z O K|some (x,us)=>adrawM P cx tb ops ops x us Z O K
def aswp (P:Program) (cx:Cx) (tb:Tb):Code->Env->Sto->A9->Prop|.skip,Z,O,Q=>Q .normal Z O|.exit id,Z,O,Q=>Q (.exit id) Z O|.ret,Z,O,Q=>Q .ret Z O|.seq x y,Z,O,Q=>aswp P cx tb x Z O (thenQ (λZ O=>aswp P cx tb y Z O Q) Q)|.cond c x y,Z,O,Q=>acond (oev Z c) (aswp P cx tb x Z O Q) (aswp P cx tb y Z O Q)|.block id c,Z,O,Q=>aswp P cx tb c Z O (o5 id Q)|.region _ ops false,Z,O,Q=>qy P cx tb ops.toList ops.toList Z O (Q .normal)|.region id ops true,Z,O,Q=>adrawn P cx tb (tb.mid id) ops.toList Z O (Q .normal)|.loop c,Z,O,Q=>Swp P cx (.loop c) Z O Q|_,_,_,_=>False
section
variable {P:Program} {cx:Cx} {tb:Tb}
end
