/- Where functions of the library lie in this program: made by lay_gen.py. -/
import Derived.Shelf.Strings.Cut
import Derived.Shelf.Strings.Split
import Derived.Shelf.LaysM
import Derived.Test.YtjlckgeecihpbaaGreatDoorProg
namespace Go.Proofs.YtjlckgeecihpbaaGreatDoor
open Go.Proofs Go.Shelf
def appL_ren:Ren:=⟨fun n=>match n with | 288=>134 | 283=>140 | 284=>141 | 285=>142 | 286=>143 | 129=>133 | 317=>145 | 318=>146 | 319=>147 | 320=>148 | 337=>149 | 338=>150 | n=>n,fun n=>match n with | 37=>128 | 53=>179 | 3=>3 | 4=>4 | 9=>9 | 171=>188 | 0=>0 | 173=>190 | 212=>196 | 51=>177 | 5=>5 | 20=>20 | 213=>197 | 46=>167 | 232=>198 | 233=>199 | n=>n,fun n=>match n with | 17=>1 | 18=>2 | 19=>3 | n=>n⟩
theorem eT:LaysM.n288 Tryz.prog appL_ren where
 mixed:=by kernel_rfl
 f129:=Tryz.func133.trans (congrArg some (by kernel_rfl))
 f283:=Tryz.func140.trans (congrArg some (by kernel_rfl))
 f284:=Tryz.func141.trans (congrArg some (by kernel_rfl))
 f285:=Tryz.func142.trans (congrArg some (by kernel_rfl))
 f286:=Tryz.func143.trans (congrArg some (by kernel_rfl))
 f288:=Tryz.func134.trans (congrArg some (by kernel_rfl))
 f317:=Tryz.func145.trans (congrArg some (by kernel_rfl))
 f318:=Tryz.func146.trans (congrArg some (by kernel_rfl))
 f319:=Tryz.func147.trans (congrArg some (by kernel_rfl))
 f320:=Tryz.func148.trans (congrArg some (by kernel_rfl))
 f337:=Tryz.func149.trans (congrArg some (by kernel_rfl))
 f338:=Tryz.func150.trans (congrArg some (by kernel_rfl))
 t0:=Tryz.underlying0
 a0:=Tryz.isAgg0
 z0:=Tryz.sizeOf0
 v0:=Tryz.zeroValue0
 t3:=Tryz.underlying3
 a3:=Tryz.isAgg3
 z3:=Tryz.sizeOf3
 v3:=Tryz.zeroValue3
 t4:=Tryz.underlying4
 a4:=Tryz.isAgg4
 z4:=Tryz.sizeOf4
 v4:=Tryz.zeroValue4
 t5:=Tryz.underlying5
 a5:=Tryz.isAgg5
 z5:=Tryz.sizeOf5
 v5:=Tryz.zeroValue5
 t9:=Tryz.underlying9
 a9:=Tryz.isAgg9
 z9:=Tryz.sizeOf9
 v9:=Tryz.zeroValue9
 t20:=Tryz.underlying20
 a20:=Tryz.isAgg20
 z20:=Tryz.sizeOf20
 v20:=Tryz.zeroValue20
 t37:=Tryz.underlying128
 a37:=Tryz.isAgg128
 z37:=Tryz.sizeOf128
 v37:=Tryz.zeroValue128
 t46:=Tryz.underlying167
 a46:=Tryz.isAgg167
 z46:=Tryz.sizeOf167
 v46:=Tryz.zeroValue167
 t51:=Tryz.underlying177
 a51:=Tryz.isAgg177
 z51:=Tryz.sizeOf177
 v51:=Tryz.zeroValue177
 t53:=Tryz.underlying179
 a53:=Tryz.isAgg179
 z53:=Tryz.sizeOf179
 v53:=Tryz.zeroValue179
 t171:=Tryz.underlying188
 a171:=Tryz.isAgg188
 z171:=Tryz.sizeOf188
 v171:=Tryz.zeroValue188
 t173:=Tryz.underlying190
 a173:=Tryz.isAgg190
 z173:=Tryz.sizeOf190
 v173:=Tryz.zeroValue190
 t212:=Tryz.underlying196
 a212:=Tryz.isAgg196
 z212:=Tryz.sizeOf196
 v212:=Tryz.zeroValue196
 t213:=Tryz.underlying197
 a213:=Tryz.isAgg197
 z213:=Tryz.sizeOf197
 t232:=Tryz.underlying198
 a232:=Tryz.isAgg198
 z232:=Tryz.sizeOf198
 v232:=Tryz.zeroValue198
 t233:=Tryz.underlying199
 a233:=Tryz.isAgg199
 z233:=Tryz.sizeOf199
 v233:=Tryz.zeroValue199
 g17:=by kernel_rfl
 g18:=by kernel_rfl
 g19:=by kernel_rfl
 i0:=by kernel_rfl
 i3:=by kernel_rfl
 i4:=by kernel_rfl
 i5:=by kernel_rfl
 i9:=by kernel_rfl
 i20:=by kernel_rfl
 i37:=by kernel_rfl
 i46:=by kernel_rfl
 i51:=by kernel_rfl
 i53:=by kernel_rfl
 i171:=by kernel_rfl
 i173:=by kernel_rfl
 i212:=by kernel_rfl
 i232:=by kernel_rfl
 i233:=by kernel_rfl
 m17:=by kernel_rfl
 m18:=by kernel_rfl
 m19:=by kernel_rfl
end Go.Proofs.YtjlckgeecihpbaaGreatDoor
