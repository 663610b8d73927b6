/- Where functions of the library lie in this program: made by lay_gen.py. -/
import Derived.Shelf.Strings.Cut
import Derived.Shelf.Strings.Split
import Derived.Shelf.LaysM
import Derived.Test.YtlifofijgddjkacGreatDoorProg
namespace Go.Proofs.YtlifofijgddjkacGreatDoor
open Go.Proofs Go.Shelf
def appL_ren:Ren:=⟨fun n=>match n with | 288=>95 | 283=>106 | 284=>107 | 285=>108 | 286=>109 | 129=>105 | 317=>115 | 318=>116 | 319=>117 | 320=>118 | 337=>120 | 338=>121 | n=>n,fun n=>match n with | 37=>119 | 53=>150 | 3=>3 | 4=>4 | 9=>9 | 171=>163 | 0=>0 | 173=>165 | 212=>174 | 51=>160 | 5=>5 | 20=>20 | 213=>175 | 46=>43 | 232=>179 | 233=>180 | n=>n,fun n=>match n with | 17=>1 | 18=>2 | 19=>3 | n=>n⟩
theorem ik:LaysM.n288 Tryz.prog appL_ren where
 mixed:=by kernel_rfl
 f129:=Tryz.func105.trans (congrArg some (by kernel_rfl))
 f283:=Tryz.func106.trans (congrArg some (by kernel_rfl))
 f284:=Tryz.func107.trans (congrArg some (by kernel_rfl))
 f285:=Tryz.func108.trans (congrArg some (by kernel_rfl))
 f286:=Tryz.func109.trans (congrArg some (by kernel_rfl))
 f288:=Tryz.func95.trans (congrArg some (by kernel_rfl))
 f317:=Tryz.func115.trans (congrArg some (by kernel_rfl))
 f318:=Tryz.func116.trans (congrArg some (by kernel_rfl))
 f319:=Tryz.func117.trans (congrArg some (by kernel_rfl))
 f320:=Tryz.func118.trans (congrArg some (by kernel_rfl))
 f337:=Tryz.func120.trans (congrArg some (by kernel_rfl))
 f338:=Tryz.func121.trans (congrArg some (by kernel_rfl))
 t0:=Tryz.underlying0
 a0:=Tryz.isAgg0
 z0:=Tryz.sizeOf0
 v0:=Tryz.zeroValue0
 t3:=Tryz.underlying3
 a3:=Tryz.isAgg3
 z3:=Tryz.sizeOf3
 v3:=Tryz.zeroValue3
 t4:=Tryz.underlying4
 a4:=Tryz.isAgg4
 z4:=Tryz.sizeOf4
 v4:=Tryz.zeroValue4
 t5:=Tryz.underlying5
 a5:=Tryz.isAgg5
 z5:=Tryz.sizeOf5
 v5:=Tryz.zeroValue5
 t9:=Tryz.underlying9
 a9:=Tryz.isAgg9
 z9:=Tryz.sizeOf9
 v9:=Tryz.zeroValue9
 t20:=Tryz.underlying20
 a20:=Tryz.isAgg20
 z20:=Tryz.sizeOf20
 v20:=Tryz.zeroValue20
 t37:=Tryz.underlying119
 a37:=Tryz.isAgg119
 z37:=Tryz.sizeOf119
 v37:=Tryz.zeroValue119
 t46:=Tryz.underlying43
 a46:=Tryz.isAgg43
 z46:=Tryz.sizeOf43
 v46:=Tryz.zeroValue43
 t51:=Tryz.underlying160
 a51:=Tryz.isAgg160
 z51:=Tryz.sizeOf160
 v51:=Tryz.zeroValue160
 t53:=Tryz.underlying150
 a53:=Tryz.isAgg150
 z53:=Tryz.sizeOf150
 v53:=Tryz.zeroValue150
 t171:=Tryz.underlying163
 a171:=Tryz.isAgg163
 z171:=Tryz.sizeOf163
 v171:=Tryz.zeroValue163
 t173:=Tryz.underlying165
 a173:=Tryz.isAgg165
 z173:=Tryz.sizeOf165
 v173:=Tryz.zeroValue165
 t212:=Tryz.underlying174
 a212:=Tryz.isAgg174
 z212:=Tryz.sizeOf174
 v212:=Tryz.zeroValue174
 t213:=Tryz.underlying175
 a213:=Tryz.isAgg175
 z213:=Tryz.sizeOf175
 t232:=Tryz.underlying179
 a232:=Tryz.isAgg179
 z232:=Tryz.sizeOf179
 v232:=Tryz.zeroValue179
 t233:=Tryz.underlying180
 a233:=Tryz.isAgg180
 z233:=Tryz.sizeOf180
 v233:=Tryz.zeroValue180
 g17:=by kernel_rfl
 g18:=by kernel_rfl
 g19:=by kernel_rfl
 i0:=by kernel_rfl
 i3:=by kernel_rfl
 i4:=by kernel_rfl
 i5:=by kernel_rfl
 i9:=by kernel_rfl
 i20:=by kernel_rfl
 i37:=by kernel_rfl
 i46:=by kernel_rfl
 i51:=by kernel_rfl
 i53:=by kernel_rfl
 i171:=by kernel_rfl
 i173:=by kernel_rfl
 i212:=by kernel_rfl
 i232:=by kernel_rfl
 i233:=by kernel_rfl
 m17:=by kernel_rfl
 m18:=by kernel_rfl
 m19:=by kernel_rfl
end Go.Proofs.YtlifofijgddjkacGreatDoor
