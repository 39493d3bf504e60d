/- DERIVED: THE SHELF's CONTRACTS AT THIS DUMP, IN PLAIN WORDS (tools/lay-plain.mjs out of .. -/
import Derived.Shelf.Strings.Builder1
import Derived.Shelf.Strings.Builder2
import Derived.Shelf.Small.Utf8
import Derived.Shelf.Small.Bits
import Derived.Shelf.Small.Strs
import Derived.Shelf.Strconv.Atoi
import Derived.Shelf.Strconv.Itoa0
import Derived.Shelf.Strconv.Itoa1
import Derived.Shelf.LaysM
import Derived.Shelf.Strconv.Itoa2
import Derived.Shelf.Strconv.AtoiErrFast
import Derived.Shelf.Strconv.ParseIntEmpty
import Derived.Shelf.Strconv.AtoiFail
import Derived.Shelf.Strconv.Clone
import Derived.Shelf.Strconv.SyntaxError
import Derived.Shelf.LaysC
import Derived.Shelf.Strconv.ToError
import Derived.Shelf.Strconv.Lower
import Derived.Shelf.Strconv.ParseUint10
import Derived.Shelf.Strconv.ParseUint10Empty
import Derived.Shelf.Strconv.ParseUint10Any
import Derived.Shelf.Strconv.ParseInt10
import Derived.Shelf.Strconv.AtoiLong
import Derived.Shelf.Strconv.AtoiInnerAll
import Derived.Shelf.Strconv.RangeError
import Derived.Shelf.Strconv.ToErrorRange
import Derived.Shelf.Strings.Search1
import Derived.Shelf.Strings.Search2
import Derived.Shelf.Strings.Search3
import Derived.Shelf.Strings.Count
import Derived.Shelf.Strings.Shaped
import Derived.Shelf.Strings.Runes
import Derived.Shelf.Strings.AsciiSet
import Derived.Shelf.Unicode.DecodeSlow
import Derived.Lib.SlicesCompact
import Derived.Lib.RowBridge
import Derived.Sort.Walk0
import Derived.Test.YtmophjggmekoeaaGreatDoorC23
set_option linter.all false
set_option maxRecDepth 100000
set_option maxHeartbeats 4000000
namespace Go.Proofs
open Go.Shelf
def Tryz.lays156_ren:Go.Shelf.Ren:=⟨fun|156=>120|165=>204|166=>205|169=>206|240=>258|241=>259|276=>301|277=>302|n=>n,fun|31=>30|9=>9|3=>3|4=>4|0=>0|20=>20|72=>265|76=>120|70=>263|37=>170|75=>119|127=>317|164=>351|5=>5|80=>143|n=>n,fun|n=>n⟩
theorem Tryz.lays156:Go.Proofs.Lays.n156 Tryz.prog Tryz.lays156_ren:={
 mixed:=by kernel_rfl
 f156:=Tryz.func120.trans (congrArg some (by kernel_rfl))
 f165:=Tryz.func204.trans (congrArg some (by kernel_rfl))
 f166:=Tryz.func205.trans (congrArg some (by kernel_rfl))
 f169:=Tryz.func206.trans (congrArg some (by kernel_rfl))
 f240:=Tryz.func258.trans (congrArg some (by kernel_rfl))
 f241:=Tryz.func259.trans (congrArg some (by kernel_rfl))
 f276:=Tryz.func301.trans (congrArg some (by kernel_rfl))
 f277:=Tryz.func302.trans (congrArg some (by kernel_rfl))
 t0:=Tryz.underlying0
 a0:=Tryz.isAgg0
 z0:=Tryz.sizeOf0
 v0:=Tryz.zeroValue0
 t3:=Tryz.underlying3
 a3:=Tryz.isAgg3
 z3:=Tryz.sizeOf3
 v3:=Tryz.zeroValue3
 t4:=Tryz.underlying4
 a4:=Tryz.isAgg4
 z4:=Tryz.sizeOf4
 v4:=Tryz.zeroValue4
 t9:=Tryz.underlying9
 a9:=Tryz.isAgg9
 z9:=Tryz.sizeOf9
 v9:=Tryz.zeroValue9
 t20:=Tryz.underlying20
 a20:=Tryz.isAgg20
 z20:=Tryz.sizeOf20
 v20:=Tryz.zeroValue20
 t31:=Tryz.underlying30
 a31:=Tryz.isAgg30
 z31:=Tryz.sizeOf30
 v31:=Tryz.zeroValue30
 t37:=Tryz.underlying170
 a37:=Tryz.isAgg170
 z37:=Tryz.sizeOf170
 v37:=Tryz.zeroValue170
 t70:=Tryz.underlying263
 a70:=Tryz.isAgg263
 z70:=Tryz.sizeOf263
 v70:=Tryz.zeroValue263
 t72:=Tryz.underlying265
 a72:=Tryz.isAgg265
 z72:=Tryz.sizeOf265
 v72:=Tryz.zeroValue265
 t75:=Tryz.underlying119
 a75:=Tryz.isAgg119
 z75:=Tryz.sizeOf119
 v75:=Tryz.zeroValue119
 t76:=Tryz.underlying120
 a76:=Tryz.isAgg120
 z76:=Tryz.sizeOf120
 v76:=Tryz.zeroValue120
 t127:=Tryz.underlying317
 a127:=Tryz.isAgg317
 z127:=Tryz.sizeOf317
 v127:=Tryz.zeroValue317
 t164:=Tryz.underlying351
 a164:=Tryz.isAgg351
 z164:=Tryz.sizeOf351
 v164:=Tryz.zeroValue351}
def Tryz.laysM171_ren:Go.Shelf.Ren:=⟨fun|171=>61|243=>95|246=>177|283=>236|284=>237|285=>238|286=>239|129=>146|317=>283|318=>284|319=>285|320=>286|337=>323|338=>324|n=>n,fun|3=>3|9=>9|2=>2|4=>4|171=>299|0=>0|53=>213|37=>170|5=>5|173=>301|212=>334|51=>133|20=>20|213=>335|46=>134|232=>385|233=>386|n=>n,fun|17=>4|18=>7|19=>8|n=>n⟩
theorem Tryz.laysM171:Go.Proofs.LaysM.n171 Tryz.prog Tryz.laysM171_ren:={
 mixed:=by kernel_rfl
 f129:=Tryz.func146.trans (congrArg some (by kernel_rfl))
 f171:=Tryz.func61.trans (congrArg some (by kernel_rfl))
 f243:=Tryz.func95.trans (congrArg some (by kernel_rfl))
 f246:=Tryz.func177.trans (congrArg some (by kernel_rfl))
 f283:=Tryz.func236.trans (congrArg some (by kernel_rfl))
 f284:=Tryz.func237.trans (congrArg some (by kernel_rfl))
 f285:=Tryz.func238.trans (congrArg some (by kernel_rfl))
 f286:=Tryz.func239.trans (congrArg some (by kernel_rfl))
 f317:=Tryz.func283.trans (congrArg some (by kernel_rfl))
 f318:=Tryz.func284.trans (congrArg some (by kernel_rfl))
 f319:=Tryz.func285.trans (congrArg some (by kernel_rfl))
 f320:=Tryz.func286.trans (congrArg some (by kernel_rfl))
 f337:=Tryz.func323.trans (congrArg some (by kernel_rfl))
 f338:=Tryz.func324.trans (congrArg some (by kernel_rfl))
 t0:=Tryz.underlying0
 a0:=Tryz.isAgg0
 z0:=Tryz.sizeOf0
 v0:=Tryz.zeroValue0
 t2:=Tryz.underlying2
 a2:=Tryz.isAgg2
 z2:=Tryz.sizeOf2
 v2:=Tryz.zeroValue2
 t3:=Tryz.underlying3
 a3:=Tryz.isAgg3
 z3:=Tryz.sizeOf3
 v3:=Tryz.zeroValue3
 t4:=Tryz.underlying4
 a4:=Tryz.isAgg4
 z4:=Tryz.sizeOf4
 v4:=Tryz.zeroValue4
 t5:=Tryz.underlying5
 a5:=Tryz.isAgg5
 z5:=Tryz.sizeOf5
 v5:=Tryz.zeroValue5
 t9:=Tryz.underlying9
 a9:=Tryz.isAgg9
 z9:=Tryz.sizeOf9
 v9:=Tryz.zeroValue9
 t20:=Tryz.underlying20
 a20:=Tryz.isAgg20
 z20:=Tryz.sizeOf20
 v20:=Tryz.zeroValue20
 t37:=Tryz.underlying170
 a37:=Tryz.isAgg170
 z37:=Tryz.sizeOf170
 v37:=Tryz.zeroValue170
 t46:=Tryz.underlying134
 a46:=Tryz.isAgg134
 z46:=Tryz.sizeOf134
 v46:=Tryz.zeroValue134
 t51:=Tryz.underlying133
 a51:=Tryz.isAgg133
 z51:=Tryz.sizeOf133
 v51:=Tryz.zeroValue133
 t53:=Tryz.underlying213
 a53:=Tryz.isAgg213
 z53:=Tryz.sizeOf213
 v53:=Tryz.zeroValue213
 t171:=Tryz.underlying299
 a171:=Tryz.isAgg299
 z171:=Tryz.sizeOf299
 v171:=Tryz.zeroValue299
 t173:=Tryz.underlying301
 a173:=Tryz.isAgg301
 z173:=Tryz.sizeOf301
 v173:=Tryz.zeroValue301
 t212:=Tryz.underlying334
 a212:=Tryz.isAgg334
 z212:=Tryz.sizeOf334
 v212:=Tryz.zeroValue334
 t213:=Tryz.underlying335
 a213:=Tryz.isAgg335
 z213:=Tryz.sizeOf335
 t232:=Tryz.underlying385
 a232:=Tryz.isAgg385
 z232:=Tryz.sizeOf385
 v232:=Tryz.zeroValue385
 t233:=Tryz.underlying386
 a233:=Tryz.isAgg386
 z233:=Tryz.sizeOf386
 v233:=Tryz.zeroValue386
 g17:=by kernel_rfl
 g18:=by kernel_rfl
 g19:=by kernel_rfl
 i0:=by kernel_rfl
 i2:=by kernel_rfl
 i3:=by kernel_rfl
 i4:=by kernel_rfl
 i5:=by kernel_rfl
 i9:=by kernel_rfl
 i20:=by kernel_rfl
 i37:=by kernel_rfl
 i46:=by kernel_rfl
 i51:=by kernel_rfl
 i53:=by kernel_rfl
 i171:=by kernel_rfl
 i173:=by kernel_rfl
 i212:=by kernel_rfl
 i232:=by kernel_rfl
 i233:=by kernel_rfl
 m17:=by kernel_rfl
 m18:=by kernel_rfl
 m19:=by kernel_rfl}
def Tryz.laysC172_ren:Go.Shelf.Ren:=⟨fun|172=>58|244=>87|245=>88|247=>159|279=>160|280=>161|281=>162|282=>163|287=>225|316=>226|171=>61|205=>227|321=>269|322=>270|243=>95|246=>177|283=>236|284=>237|285=>238|286=>239|129=>146|317=>283|318=>284|319=>285|320=>286|337=>323|338=>324|n=>n,fun|9=>9|3=>3|75=>119|76=>120|4=>4|5=>5|167=>220|37=>170|0=>0|85=>221|2=>2|168=>223|53=>213|175=>282|46=>134|210=>285|127=>317|145=>328|143=>326|21=>21|171=>299|173=>301|212=>334|51=>133|20=>20|213=>335|232=>385|233=>386|80=>143|n=>n,fun|15=>1|16=>2|17=>4|18=>7|19=>8|n=>n⟩
theorem Tryz.laysC172:Go.Proofs.LaysC.n172 Tryz.prog Tryz.laysC172_ren:={
 mixed:=by kernel_rfl
 f129:=Tryz.func146.trans (congrArg some (by kernel_rfl))
 f171:=Tryz.func61.trans (congrArg some (by kernel_rfl))
 f172:=Tryz.func58.trans (congrArg some (by kernel_rfl))
 f205:=Tryz.func227.trans (congrArg some (by kernel_rfl))
 f243:=Tryz.func95.trans (congrArg some (by kernel_rfl))
 f244:=Tryz.func87.trans (congrArg some (by kernel_rfl))
 f245:=Tryz.func88.trans (congrArg some (by kernel_rfl))
 f246:=Tryz.func177.trans (congrArg some (by kernel_rfl))
 f247:=Tryz.func159.trans (congrArg some (by kernel_rfl))
 f279:=Tryz.func160.trans (congrArg some (by kernel_rfl))
 f280:=Tryz.func161.trans (congrArg some (by kernel_rfl))
 f281:=Tryz.func162.trans (congrArg some (by kernel_rfl))
 f282:=Tryz.func163.trans (congrArg some (by kernel_rfl))
 f283:=Tryz.func236.trans (congrArg some (by kernel_rfl))
 f284:=Tryz.func237.trans (congrArg some (by kernel_rfl))
 f285:=Tryz.func238.trans (congrArg some (by kernel_rfl))
 f286:=Tryz.func239.trans (congrArg some (by kernel_rfl))
 f287:=Tryz.func225.trans (congrArg some (by kernel_rfl))
 f316:=Tryz.func226.trans (congrArg some (by kernel_rfl))
 f317:=Tryz.func283.trans (congrArg some (by kernel_rfl))
 f318:=Tryz.func284.trans (congrArg some (by kernel_rfl))
 f319:=Tryz.func285.trans (congrArg some (by kernel_rfl))
 f320:=Tryz.func286.trans (congrArg some (by kernel_rfl))
 f321:=Tryz.func269.trans (congrArg some (by kernel_rfl))
 f322:=Tryz.func270.trans (congrArg some (by kernel_rfl))
 f337:=Tryz.func323.trans (congrArg some (by kernel_rfl))
 f338:=Tryz.func324.trans (congrArg some (by kernel_rfl))
 t0:=Tryz.underlying0
 a0:=Tryz.isAgg0
 z0:=Tryz.sizeOf0
 v0:=Tryz.zeroValue0
 t2:=Tryz.underlying2
 a2:=Tryz.isAgg2
 z2:=Tryz.sizeOf2
 v2:=Tryz.zeroValue2
 t3:=Tryz.underlying3
 a3:=Tryz.isAgg3
 z3:=Tryz.sizeOf3
 v3:=Tryz.zeroValue3
 t4:=Tryz.underlying4
 a4:=Tryz.isAgg4
 z4:=Tryz.sizeOf4
 v4:=Tryz.zeroValue4
 t5:=Tryz.underlying5
 a5:=Tryz.isAgg5
 z5:=Tryz.sizeOf5
 v5:=Tryz.zeroValue5
 t9:=Tryz.underlying9
 a9:=Tryz.isAgg9
 z9:=Tryz.sizeOf9
 v9:=Tryz.zeroValue9
 t20:=Tryz.underlying20
 a20:=Tryz.isAgg20
 z20:=Tryz.sizeOf20
 v20:=Tryz.zeroValue20
 t21:=Tryz.underlying21
 a21:=Tryz.isAgg21
 z21:=Tryz.sizeOf21
 v21:=Tryz.zeroValue21
 t37:=Tryz.underlying170
 a37:=Tryz.isAgg170
 z37:=Tryz.sizeOf170
 v37:=Tryz.zeroValue170
 t46:=Tryz.underlying134
 a46:=Tryz.isAgg134
 z46:=Tryz.sizeOf134
 v46:=Tryz.zeroValue134
 t51:=Tryz.underlying133
 a51:=Tryz.isAgg133
 z51:=Tryz.sizeOf133
 v51:=Tryz.zeroValue133
 t53:=Tryz.underlying213
 a53:=Tryz.isAgg213
 z53:=Tryz.sizeOf213
 v53:=Tryz.zeroValue213
 t75:=Tryz.underlying119
 a75:=Tryz.isAgg119
 z75:=Tryz.sizeOf119
 v75:=Tryz.zeroValue119
 t76:=Tryz.underlying120
 a76:=Tryz.isAgg120
 z76:=Tryz.sizeOf120
 v76:=Tryz.zeroValue120
 t85:=Tryz.underlying221
 a85:=Tryz.isAgg221
 z85:=Tryz.sizeOf221
 v85:=Tryz.zeroValue221
 t127:=Tryz.underlying317
 a127:=Tryz.isAgg317
 z127:=Tryz.sizeOf317
 v127:=Tryz.zeroValue317
 t143:=Tryz.underlying326
 a143:=Tryz.isAgg326
 z143:=Tryz.sizeOf326
 v143:=Tryz.zeroValue326
 t145:=Tryz.underlying328
 a145:=Tryz.isAgg328
 z145:=Tryz.sizeOf328
 v145:=Tryz.zeroValue328
 t167:=Tryz.underlying220
 a167:=Tryz.isAgg220
 z167:=Tryz.sizeOf220
 v167:=Tryz.zeroValue220
 t168:=Tryz.underlying223
 a168:=Tryz.isAgg223
 z168:=Tryz.sizeOf223
 v168:=Tryz.zeroValue223
 t171:=Tryz.underlying299
 a171:=Tryz.isAgg299
 z171:=Tryz.sizeOf299
 v171:=Tryz.zeroValue299
 t173:=Tryz.underlying301
 a173:=Tryz.isAgg301
 z173:=Tryz.sizeOf301
 v173:=Tryz.zeroValue301
 t175:=Tryz.underlying282
 a175:=Tryz.isAgg282
 z175:=Tryz.sizeOf282
 v175:=Tryz.zeroValue282
 t210:=Tryz.underlying285
 a210:=Tryz.isAgg285
 z210:=Tryz.sizeOf285
 v210:=Tryz.zeroValue285
 t212:=Tryz.underlying334
 a212:=Tryz.isAgg334
 z212:=Tryz.sizeOf334
 v212:=Tryz.zeroValue334
 t213:=Tryz.underlying335
 a213:=Tryz.isAgg335
 z213:=Tryz.sizeOf335
 t232:=Tryz.underlying385
 a232:=Tryz.isAgg385
 z232:=Tryz.sizeOf385
 v232:=Tryz.zeroValue385
 t233:=Tryz.underlying386
 a233:=Tryz.isAgg386
 z233:=Tryz.sizeOf386
 v233:=Tryz.zeroValue386
 g15:=by kernel_rfl
 g16:=by kernel_rfl
 g17:=by kernel_rfl
 g18:=by kernel_rfl
 g19:=by kernel_rfl
 t80:=Tryz.underlying143
 a80:=Tryz.isAgg143
 z80:=Tryz.sizeOf143
 v80:=Tryz.zeroValue143
 i0:=by kernel_rfl
 i2:=by kernel_rfl
 i3:=by kernel_rfl
 i4:=by kernel_rfl
 i5:=by kernel_rfl
 i9:=by kernel_rfl
 i20:=by kernel_rfl
 i21:=by kernel_rfl
 i37:=by kernel_rfl
 i46:=by kernel_rfl
 i51:=by kernel_rfl
 i53:=by kernel_rfl
 i75:=by kernel_rfl
 i76:=by kernel_rfl
 i80:=by kernel_rfl
 i85:=by kernel_rfl
 i127:=by kernel_rfl
 i143:=by kernel_rfl
 i145:=by kernel_rfl
 i167:=by kernel_rfl
 i168:=by kernel_rfl
 i171:=by kernel_rfl
 i173:=by kernel_rfl
 i175:=by kernel_rfl
 i210:=by kernel_rfl
 i212:=by kernel_rfl
 i232:=by kernel_rfl
 i233:=by kernel_rfl
 m15:=by kernel_rfl
 m16:=by kernel_rfl
 m17:=by kernel_rfl
 m18:=by kernel_rfl
 m19:=by kernel_rfl
 c0:=by kernel_rfl
 c2:=by kernel_rfl
 c3:=by kernel_rfl
 c4:=by kernel_rfl
 c5:=by kernel_rfl
 c9:=by kernel_rfl
 c20:=by kernel_rfl
 c21:=by kernel_rfl
 c37:=by kernel_rfl
 c46:=by kernel_rfl
 c51:=by kernel_rfl
 c53:=by kernel_rfl
 c75:=by kernel_rfl
 c76:=by kernel_rfl
 c80:=by kernel_rfl
 c85:=by kernel_rfl
 c127:=by kernel_rfl
 c143:=by kernel_rfl
 c145:=by kernel_rfl
 c167:=by kernel_rfl
 c168:=by kernel_rfl
 c171:=by kernel_rfl
 c173:=by kernel_rfl
 c175:=by kernel_rfl
 c210:=by kernel_rfl
 c212:=by kernel_rfl
 c213:=by kernel_rfl
 c232:=by kernel_rfl
 c233:=by kernel_rfl}
def Tryz.lays145_ren:Go.Shelf.Ren:=⟨fun|145=>378|220=>392|219=>224|217=>265|225=>266|224=>267|267=>268|266=>311|314=>312|n=>n,fun|9=>9|4=>4|59=>409|3=>3|5=>5|46=>134|146=>363|51=>133|n=>n,fun|1=>3|n=>n⟩
theorem Tryz.lays145:Go.Proofs.Lays.n145 Tryz.prog Tryz.lays145_ren:={
 mixed:=by kernel_rfl
 f145:=Tryz.func378.trans (congrArg some (by kernel_rfl))
 f217:=Tryz.func265.trans (congrArg some (by kernel_rfl))
 f219:=Tryz.func224.trans (congrArg some (by kernel_rfl))
 f220:=Tryz.func392.trans (congrArg some (by kernel_rfl))
 f224:=Tryz.func267.trans (congrArg some (by kernel_rfl))
 f225:=Tryz.func266.trans (congrArg some (by kernel_rfl))
 f266:=Tryz.func311.trans (congrArg some (by kernel_rfl))
 f267:=Tryz.func268.trans (congrArg some (by kernel_rfl))
 f314:=Tryz.func312.trans (congrArg some (by kernel_rfl))
 t3:=Tryz.underlying3
 a3:=Tryz.isAgg3
 z3:=Tryz.sizeOf3
 v3:=Tryz.zeroValue3
 t4:=Tryz.underlying4
 a4:=Tryz.isAgg4
 z4:=Tryz.sizeOf4
 v4:=Tryz.zeroValue4
 t5:=Tryz.underlying5
 a5:=Tryz.isAgg5
 z5:=Tryz.sizeOf5
 v5:=Tryz.zeroValue5
 t9:=Tryz.underlying9
 a9:=Tryz.isAgg9
 z9:=Tryz.sizeOf9
 v9:=Tryz.zeroValue9
 t46:=Tryz.underlying134
 a46:=Tryz.isAgg134
 z46:=Tryz.sizeOf134
 v46:=Tryz.zeroValue134
 t51:=Tryz.underlying133
 a51:=Tryz.isAgg133
 z51:=Tryz.sizeOf133
 v51:=Tryz.zeroValue133
 t59:=Tryz.underlying409
 a59:=Tryz.isAgg409
 z59:=Tryz.sizeOf409
 v59:=Tryz.zeroValue409
 t146:=Tryz.underlying363
 a146:=Tryz.isAgg363
 z146:=Tryz.sizeOf363
 v146:=Tryz.zeroValue363
 g1:=by kernel_rfl}
def Tryz.lays99_ren:Go.Shelf.Ren:=⟨fun|99=>68|206=>100|n=>n,fun|9=>9|4=>4|3=>3|n=>n,fun|n=>n⟩
theorem Tryz.lays99:Go.Proofs.Lays.n99 Tryz.prog Tryz.lays99_ren:={
 mixed:=by kernel_rfl
 f99:=Tryz.func68.trans (congrArg some (by kernel_rfl))
 f206:=Tryz.func100.trans (congrArg some (by kernel_rfl))
 t3:=Tryz.underlying3
 a3:=Tryz.isAgg3
 z3:=Tryz.sizeOf3
 v3:=Tryz.zeroValue3
 t4:=Tryz.underlying4
 a4:=Tryz.isAgg4
 z4:=Tryz.sizeOf4
 v4:=Tryz.zeroValue4
 t9:=Tryz.underlying9
 a9:=Tryz.isAgg9
 z9:=Tryz.sizeOf9
 v9:=Tryz.zeroValue9}
def Tryz.lays146_ren:Go.Shelf.Ren:=⟨fun|146=>380|221=>86|268=>156|138=>157|143=>158|195=>221|197=>222|218=>223|219=>224|260=>264|217=>265|225=>266|224=>267|267=>268|266=>311|314=>312|n=>n,fun|9=>9|31=>30|3=>3|4=>4|0=>0|105=>279|21=>21|5=>5|46=>134|119=>359|139=>362|138=>361|146=>363|51=>133|n=>n,fun|1=>3|3=>5|4=>6|n=>n⟩
def Tryz.lays147_ren:Go.Shelf.Ren:=⟨fun|147=>56|221=>86|268=>156|138=>157|143=>158|195=>221|197=>222|218=>223|219=>224|260=>264|217=>265|225=>266|224=>267|267=>268|266=>311|314=>312|n=>n,fun|9=>9|3=>3|31=>30|4=>4|0=>0|105=>279|21=>21|5=>5|46=>134|119=>359|139=>362|138=>361|146=>363|51=>133|n=>n,fun|1=>3|3=>5|4=>6|n=>n⟩
theorem Tryz.lays147:Go.Proofs.Lays.n147 Tryz.prog Tryz.lays147_ren:={
 mixed:=by kernel_rfl
 f138:=Tryz.func157.trans (congrArg some (by kernel_rfl))
 f143:=Tryz.func158.trans (congrArg some (by kernel_rfl))
 f147:=Tryz.func56.trans (congrArg some (by kernel_rfl))
 f195:=Tryz.func221.trans (congrArg some (by kernel_rfl))
 f197:=Tryz.func222.trans (congrArg some (by kernel_rfl))
 f217:=Tryz.func265.trans (congrArg some (by kernel_rfl))
 f218:=Tryz.func223.trans (congrArg some (by kernel_rfl))
 f219:=Tryz.func224.trans (congrArg some (by kernel_rfl))
 f221:=Tryz.func86.trans (congrArg some (by kernel_rfl))
 f224:=Tryz.func267.trans (congrArg some (by kernel_rfl))
 f225:=Tryz.func266.trans (congrArg some (by kernel_rfl))
 f260:=Tryz.func264.trans (congrArg some (by kernel_rfl))
 f266:=Tryz.func311.trans (congrArg some (by kernel_rfl))
 f267:=Tryz.func268.trans (congrArg some (by kernel_rfl))
 f268:=Tryz.func156.trans (congrArg some (by kernel_rfl))
 f314:=Tryz.func312.trans (congrArg some (by kernel_rfl))
 t0:=Tryz.underlying0
 a0:=Tryz.isAgg0
 z0:=Tryz.sizeOf0
 v0:=Tryz.zeroValue0
 t3:=Tryz.underlying3
 a3:=Tryz.isAgg3
 z3:=Tryz.sizeOf3
 v3:=Tryz.zeroValue3
 t4:=Tryz.underlying4
 a4:=Tryz.isAgg4
 z4:=Tryz.sizeOf4
 v4:=Tryz.zeroValue4
 t5:=Tryz.underlying5
 a5:=Tryz.isAgg5
 z5:=Tryz.sizeOf5
 v5:=Tryz.zeroValue5
 t9:=Tryz.underlying9
 a9:=Tryz.isAgg9
 z9:=Tryz.sizeOf9
 v9:=Tryz.zeroValue9
 t21:=Tryz.underlying21
 a21:=Tryz.isAgg21
 z21:=Tryz.sizeOf21
 v21:=Tryz.zeroValue21
 t31:=Tryz.underlying30
 a31:=Tryz.isAgg30
 z31:=Tryz.sizeOf30
 v31:=Tryz.zeroValue30
 t46:=Tryz.underlying134
 a46:=Tryz.isAgg134
 z46:=Tryz.sizeOf134
 v46:=Tryz.zeroValue134
 t51:=Tryz.underlying133
 a51:=Tryz.isAgg133
 z51:=Tryz.sizeOf133
 v51:=Tryz.zeroValue133
 t105:=Tryz.underlying279
 a105:=Tryz.isAgg279
 z105:=Tryz.sizeOf279
 v105:=Tryz.zeroValue279
 t119:=Tryz.underlying359
 a119:=Tryz.isAgg359
 z119:=Tryz.sizeOf359
 t138:=Tryz.underlying361
 a138:=Tryz.isAgg361
 z138:=Tryz.sizeOf361
 v138:=Tryz.zeroValue361
 t139:=Tryz.underlying362
 a139:=Tryz.isAgg362
 z139:=Tryz.sizeOf362
 v139:=Tryz.zeroValue362
 t146:=Tryz.underlying363
 a146:=Tryz.isAgg363
 z146:=Tryz.sizeOf363
 v146:=Tryz.zeroValue363
 g1:=by kernel_rfl
 g3:=by kernel_rfl
 g4:=by kernel_rfl}
theorem Tryz.Builder_Extra_156:Builder.Extra Tryz.prog Tryz.lays156_ren:={
 sizeBuilder:=by kernel_rfl
 liesBuilder:=by kernel_rfl
 t5:=Tryz.underlying5
 a5:=Tryz.isAgg5
 z5:=Tryz.sizeOf5
 v5:=Tryz.zeroValue5
 infoByte:=by kernel_rfl
 cellsByte:=by kernel_rfl
 sizeByte:=by kernel_rfl
 neB5:=by decide}
end Go.Proofs
namespace Go.Proofs.YtmophjggmekoeaaGreatDoor
section
open Go.Proofs
section
variable {α : Type} {R : α → α → Prop}
theorem AuD (hi:∀x,¬R x x) (ht:∀x y z,R x y→R y z→R x z):∀{l m:List α},l.Pairwise R→m.Pairwise R→(∀x,x∈l↔x∈m)→l=m
 |[],[],_,_,_=>rfl
 |[],y::m,_,_,h=>absurd ((h y).2 oS) oS
 |x::l,[],_,_,h=>absurd ((h x).1 oS) oS
 |x::l,y::m,hl,hm,h=>by
  have hl1:=fun z hz=>List.rel_of_pairwise_cons hl (a':=z) hz;have hm1:=fun z hz=>List.rel_of_pairwise_cons hm (a':=z) hz
  have hxy:x=y:=by
   rcases Ax2.1 ((h x).1 oS)with e|hx
   ·exact e
   ·rcases Ax2.1 ((h y).2 oS)with e|hy
    ·exact e.symm
    ·exact absurd (ht _ _ _ (hl1 y hy) (hm1 x hx)) (hi _)
  subst hxy;rw[AuD hi ht (List.Pairwise.of_cons hl) (List.Pairwise.of_cons hm) fun z=>⟨fun hz=> ?_,fun hz=> ?_⟩]
  ·rcases Ax2.1 ((h z).1 (by simp [hz]))with e|hz'
   ·have:=hl1 z hz;rw[e]at this;exact absurd this (hi _)
   ·exact hz'
  ·rcases Ax2.1 ((h z).2 (by simp [hz]))with e|hz'
   ·have:=hm1 z hz;rw[e]at this;exact absurd this (hi _)
   ·exact hz'
variable [Inhabited α] [DecidableEq α]
theorem Mv (ht:∀x y z,R x y→R y z→R x z) (d:Array α) (hd:∀i j,i<j→j<d.size→R d[i]! d[j]!∨d[i]! =d[j]!):∀m,m≤d.size→(Lib.compactUpTo d m).Pairwise R∧(∀x,x∈Lib.compactUpTo d m↔∃j,j<m∧d[j]! =x)
 |0,_=>⟨by simp [Lib.compactUpTo],by simp [Lib.compactUpTo]⟩
 |m+1,hm=>by
  obtain⟨h1,h2⟩:=Mv ht d hd m om;rw[Lib.compactUpTo_succ];by_cases hk:Lib.keeps d m=true
  ·simp only[hk,if_true];have hk':m=0∨d[m]!≠d[m-1]! :=by simpa[Lib.keeps]using hk
   refine⟨Ayq.2 ⟨h1,oS,fun x hx y hy=> ?_⟩,fun x=> ?_⟩
   ·obtain ⟨j,hj,rfl⟩:=(h2 x).1 hx;rw[Ax6]at hy;subst hy
    have hne:d[m]!≠d[m-1]! :=by
     rcases hk' with h|h
     ·omega
     ·exact h
    have a2:R d[m-1]! d[m]! :=(hd (m-1) m om om).resolve_right fun h=>hne h.symm;rcases Axz j (m-1)with h|h
    ·rcases hd j (m-1) h om with h|h
     ·exact ht _ _ _ h a2
     ·rw [h];exact a2
    ·have:j=m-1:=om;subst this;exact a2
   ·rw [Ax5,h2,Ax6];constructor
    ·rintro (⟨j,hj,rfl⟩|rfl)
     ·exact ⟨j,om,rfl⟩
     ·exact ⟨m,om,rfl⟩
    ·rintro ⟨j,hj,rfl⟩;rcases Axz j m with h|h
     ·exact .inl ⟨j,h,rfl⟩
     ·have:j=m:=om;subst this;exact .inr rfl
  ·have hk2:Lib.keeps d m=false:=by simpa using hk
   simp only[hk2,Ax0,if_false,AxF];have hk':m≠0∧d[m]! =d[m-1]! :=by simpa[Lib.keeps]using hk2
   refine⟨h1,fun x=> ?_⟩;rw[h2];constructor
   ·rintro ⟨j,hj,rfl⟩;exact⟨j,om,rfl⟩
   ·rintro ⟨j,hj,rfl⟩;rcases Axz j m with h|h
    ·exact ⟨j,h,rfl⟩
    ·have:j=m:=om;subst this;exact⟨j-1,om,hk'.2.symm⟩
theorem Ka (ht:∀x y z,R x y→R y z→R x z) {zs:List α} (h:zs.Pairwise fun x y=>R x y∨x=y):(Lib.compact zs).Pairwise R∧∀x,x∈Lib.compact zs↔x∈zs:=by
 obtain⟨h1,h2⟩:=Mv ht zs.toArray (fun i j hij hj=>by
  have hj':j<zs.length:=by simpa using hj
  have:=List.pairwise_iff_getElem.1 h i j om hj' hij;simpa[getElem!_pos,hj',(by omega:i<zs.length)]using this) zs.length oS
 refine⟨h1,fun x=> ?_⟩;rw[show Lib.compact zs=Lib.compactUpTo zs.toArray zs.length from rfl,h2];constructor
 ·rintro ⟨j,hj,rfl⟩;have:zs.toArray[j]! =zs[j]:=by simp [getElem!_pos,hj]
  rw[this];exact Ayz hj
 ·intro hx;obtain⟨j,hj,rfl⟩:=List.getElem_of_mem hx;exact⟨j,hj,by simp [getElem!_pos,hj]⟩
end
abbrev Ac:=List UInt8
theorem Ex (x:Ac):¬x<x:=List.lt_irrefl x
theorem Bw (x y z:Ac):x<y→y<z→x<z:=List.lt_trans
theorem nZ {x y:Ac}:x≤y↔x<y∨x=y:=by
 constructor
 ·intro h;by_cases e:x=y
  ·exact .inr e
  ·rcases Std.lt_trichotomy x y with h'|h'|h'
   ·exact .inl h'
   ·exact absurd h' e
   ·exact absurd h' (List.not_lt.2 h)
 ·rintro (h|rfl)
  ·exact List.le_of_lt h
  ·exact List.le_refl _
def dst (l:List Ac):List Ac:=Lib.compact (l.mergeSort fun x y=>decide (x≤y))
theorem Dw (l:List Ac):(dst l).Pairwise (·< ·)∧∀x,x∈dst l↔x∈l:=by
 have hs:(l.mergeSort fun x y=>decide (x≤y)).Pairwise fun x y=>x<y∨x=y:=by have:=List.pairwise_mergeSort (le:=fun x y:Ac=>decide (x≤y)) (fun x y z h1 h2=>by simp at h1 h2⊢;exact List.le_trans h1 h2) (fun x y=>by simp;exact List.le_total x y) l;exact this.imp fun h=>nZ.1 (by simpa using h)
 obtain⟨h1,h2⟩:=Ka (R:=fun x y:Ac=>x<y) Bw hs;exact⟨h1,fun x=>(h2 x).trans List.mem_mergeSort⟩
theorem Rj (l:List Ac):(dst l).length≤l.length:=by have:=Lib.compact_length_le (l.mergeSort fun x y=>decide (x≤y));rw[AyD]at this;exact this
theorem Yx {l m:List Ac} (h:m.Pairwise (·< ·)) (hm:∀x,x∈m↔x∈l):dst l=m:=
 AuD Ex Bw (Dw l).1 h fun x=>((Dw l).2 x).trans (hm x).symm
theorem ArG {l m:List Ac} (h:∀x,x∈l↔x∈m):dst l=dst m:=Yx (Dw m).1 fun x=>((Dw m).2 x).trans (h x).symm
end
section
open Go.RowKit Go.Proofs
def oA:List Int:=[0x00000000,0x105ec76f,0x20bd8ede,0x30e349b1,0x417b1dbc,0x5125dad3,0x61c69362,0x7198540d,0x82f63b78,0x92a8fc17,0xa24bb5a6,0xb21572c9,0xc38d26c4,0xd3d3e1ab,0xe330a81a,0xf36e6f75]
def AuE:List (Nat×Nat×(Option Value→Prop)):=(1,0,gIf)::(2,0,gIf)::(3,0,Agb)::(Yw 4 .u64 Lib.pow10Tab++Yw 0 .u32 oA)
instance envZ:Env:=⟨True,AuE⟩
theorem Yy:True:=trivial
theorem Agf:((1:Nat),(0:Nat),gIf)∈Env.globs:=.head _
theorem Agg:((2:Nat),(0:Nat),gIf)∈Env.globs:=.tail _ (.head _)
theorem oB:((3:Nat),(0:Nat),Agb)∈Env.globs:=.tail _ (.tail _ (.head _))
theorem ArH:∀x∈Yw 4 .u64 Lib.pow10Tab,x∈Env.globs:=fun x hx=>.tail _ (.tail _ (.tail _ (AyH _ hx)))
theorem AuF:∀x∈Yw 0 .u32 oA,x∈Env.globs:=fun x hx=>.tail _ (.tail _ (.tail _ (List.mem_append_right _ hx)))
def Kg (a:Int):Prop:= -9223372036854775808≤a∧a≤9223372036854775807
theorem Lb (n:Int) (h:Kg n):Ab Tryz.prog 61 [num n] (fun r=>r=str (Lib.itoa n)):=
 yJ Tryz.laysM171 Yy ⟨_,_,Tryz.func61,rfl,oD⟩ (fun w S hz=>Agd hz ArH oD (by kernel_rfl)) n h.1 h.2
theorem ArI (s:Ac) (hs:s.length≤1000000):Ab Tryz.prog 58 [str s] (fun r=>∃e,r=.tup [num (Bc s),.raw e]∧(Ql s=true→e=.nilIface)∧(Ql s=false→∃t p,e=.iface t p)):=
 yK Tryz.laysC172 Yy ⟨_,_,Tryz.func58,rfl,oD⟩ s om Agf Agg
theorem Yz (s:Ac) (hs:s.length≤1000000):Ab Tryz.prog 58 [str s] (fun r=>r=.tup [num (Bc s),.any]):=
 Agc Tryz.laysC172 Yy ⟨_,_,Tryz.func58,rfl,oD⟩ s om Agf Agg
theorem ArJ (s sep:Ac) (hs:s.length≤1000000000):Ab Tryz.prog 378 [str s,str sep] (fun r=>r=.tup [str (Lib.cut s sep).1,str (Lib.cut s sep).2.1,Ai (Lib.cut s sep).2.2]):=
 Alb Tryz.lays145 Yy ⟨_,_,Tryz.func378,rfl,oD⟩ oB s sep om
theorem fL (s p:Ac):Ab Tryz.prog 68 [str s,str p] (fun r=>r=Ai (Lib.hasPrefix s p)):=
 nY Tryz.lays99 Yy ⟨_,_,Tryz.func68,rfl,oD⟩ s p
theorem Y0 (zs:List Ac) (sep:Ac) (hn:zs.length≤140737488355328) (hl:(Lib.join zs sep).length≤140737488355328):Ab Tryz.prog 120 [.sl 1 (zs.map str),str sep] (fun r=>r=str (Lib.join zs sep)):=
 fI Tryz.lays156 Tryz.Builder_Extra_156 Yy ⟨_,_,Tryz.func120,rfl,oD⟩ zs sep hn hl
theorem Agh (s sep:Ac) (n:Nat) (hs:s.length≤1000000000) (h1:1≤sep.length) (hn:1≤n) (hn2:n≤1000):Ab Tryz.prog 56 [str s,str sep,num n] (fun r=>r=.own 9 1 ((Lib.splitK sep 0 (min n (s.length+1)-1) s).map str)):=
 Ta Tryz.lays147 (by kernel_rfl) Yy ⟨_,_,Tryz.func56,rfl,oD⟩ oB s sep n om h1 hn om
end
section
open Go.RowKit Go.Proofs
structure Tk where
 kind:Nat
 text:Ac
 pos:Nat
inductive PR (α:Type) where
 |ok (x:α) (n:Nat)
 |bad (m:Nat)
def Rk (t:Tk):AV:=.agg [num t.kind,str t.text,num t.pos]
def rd (b:Nat) (ts:List Tk) (n sz:Nat):List AV:=[.nbox b 159 [.sl 3 (ts.map Rk),num n,num sz]]
abbrev pt (b:Nat):AV:=.raw (.pointer (some ⟨b,0,none⟩))
def mis (m:Nat):Value:=.iface 156 (.int .i64 m)
theorem sH {ts:List Tk} {n:Nat} {t:Tk} (h:ts[n]? =some t):(ts.map Rk).getD n .any=.agg [.raw (.int .i64 t.kind),.raw (.string ⟨t.text.toArray⟩),.raw (.int .i64 t.pos)]:=by simp [Axy,h,Rk,num,str]
def Gq (ts:List Tk) (n k:Nat):Bool:=match ts[n]? with
 |some t=>t.kind==k
 |none=>false
def C0 (ts:List Tk) (sz n k:Nat):PR Tk:=match ts[n]? with
 |some t=>if t.kind=k then .ok t (n+1)else .bad t.pos
 |none=>.bad sz
def RH {α:Type} (f:Nat) (args:List AV) (b:Nat) (ts:List Tk) (sz n:Nat) (o:PR α) (A:α→AV→Prop):Prop:=
 HC Tryz.prog f args (rd b ts n sz) (fun r γ=>∃x n',o=.ok x n'∧A x r∧γ=rd b ts n' sz) (fun v γ=>∃m n',o=.bad m∧v=mis m∧γ=rd b ts n' sz)
theorem RH.go {α:Type} {f:Nat} {args:List AV} {b:Nat} {ts:List Tk} {sz n:Nat} {o:PR α} {A:α→AV→Prop} {K:AV→List AV→Prop} {E:Value→List AV→Prop} (h:RH f args b ts sz n o A) (h1:∀x n' r,o=.ok x n'→A x r→K r (rd b ts n' sz)) (h2:∀m n',o=.bad m→E (mis m) (rd b ts n' sz)):HC Tryz.prog f args (rd b ts n sz) K E:=
 HC.mono h (fun r γ ⟨x,n',g1,g2,g3⟩=>by rw[g3];exact h1 x n' r g1 g2) (fun v γ ⟨m,n',g1,g2,g3⟩=>by rw[g2,g3];exact h2 m n' g1)
theorem Rl (b:Nat) (ts:List Tk) (n sz k:Nat) (hl:ts.length≤1000000):HC Tryz.prog 165 [pt b,num k] (rd b ts n sz) (fun r γ=>r=Ai (Gq ts n k)∧γ=rd b ts n sz) (fun _ _=>False):=by
 refine B3 [] [] [(1,[],[0,1,2,4,5,6,2003,2007,8,9,10,11,12,13,15,16,17,22,2014,2018,19,20,2021,23,24,25],[],[])] Bo Dv Cq Tryz.func165 oD oK (by simp only[Tryz.f165,go_sem,reduceIte];rfl) Tryz.ntmps165 Tryz.results165 rfl ?_;simp only[LS,Nat.reduceAdd,Nat.reduceSub];simp only[rd]
 cases ht:ts[n]? with
 |none=>have e1:=eq_false (show¬(n:Int)<(ts.length:Int) by have:=List.getElem?_eq_none_iff.1 ht;omega);simp only[num,str,pt,Ai,Gq,ht];repeat' first|refine Aj.on (fun _=>?_) (fun _=>?_)|with_reducible refine gd ?_|simp only[go_sem,e1,Axp]
 |some t=>
  have hlt:=(List.getElem?_eq_some_iff.1 ht).1;have e1:=eq_true (show(n:Int)<(ts.length:Int) by omega);have hg:=sH ht;simp only[num,str,pt,Ai,Gq,ht];repeat' first|refine Aj.on (fun _=>?_) (fun _=>?_)|with_reducible refine gd ?_|simp only[go_sem,e1,hg,Axp,Int.natCast_inj,Nat.beq_eq_true_eq]
  by_cases hk:t.kind=k<;>simp [hk]
theorem Dq (b:Nat) (ts:List Tk) (n sz k:Nat) (hl:ts.length≤1000000):RH 166 [pt b,num k] b ts sz n (C0 ts sz n k) (fun t r=>r=Rk t):=by
 unfold RH;refine B3 [] [] [(1,[],[0,1,2,4,5,6,2003,2007,8,9],[],[]),(3,[100000],[0,1,2,4,5,6,5003,5007,8,5009],[2010],[3011])] Bo Dv Cq Tryz.func166 oD oK (by simp only[Tryz.f166,go_sem,reduceIte];rfl) Tryz.ntmps166 Tryz.results166 rfl ?_;simp only[LS,Nat.reduceAdd,Nat.reduceSub];simp only[rd]
 cases ht:ts[n]? with
 |none=>
  have e1:=eq_true (show(ts.length:Int)≤(n:Int) by have:=List.getElem?_eq_none_iff.1 ht;omega);have hs:C0 ts sz n k=.bad sz:=by simp [C0,ht]
  rw[hs];simp only[num,str,pt,Ai];refine Zu ?_;exact⟨_,_,rfl,rfl,rfl⟩
 |some t=>
  have hlt:=(List.getElem?_eq_some_iff.1 ht).1;have e1:=eq_false (show¬(ts.length:Int)≤(n:Int) by omega);have hg:=sH ht;have hw:=wS n;simp only[num,str,pt,Ai];by_cases hk:t.kind=k
  ·have e2:=eq_true hk;have hs:C0 ts sz n k=.ok t (n+1):=by simp [C0,ht,hk]
   rw[hs];refine Z5 e1 e2 hg hw @Int.natCast_inj ?_;exact⟨_,_,rfl,rfl,rfl⟩
  ·have e2:=eq_false hk;have hs:C0 ts sz n k=.bad t.pos:=by simp [C0,ht,hk]
   rw[hs];refine Zu ?_;exact⟨_,_,rfl,rfl,rfl⟩
end
section
open Go.RowKit Go.Proofs
inductive Nd where
 |mk (kind:Nat) (text name arg:Ac) (count:Int) (filters:List Ac) (kids els:List Nd)
def fA:Nat→List Ac→AV
 |2,fs=>.sl 1 (fs.map str)
 |_,_=>.nil
def kA:Nat→List AV→AV
 |3,l=>.sl 8 l
 |4,l=>.sl 8 l
 |_,_=>.nil
def eA:Nat→List AV→AV
 |4,l=>.sl 8 l
 |_,_=>.nil
mutual
def jE:Nd→List AV
 |.mk k t n a c fs ks es=>[num k,str t,str n,str a,num c,fA k fs,kA k (Mw ks),eA k (Mw es)]
def Mw:List Nd→List AV
 |[]=>[]
 |x::xs=>.agg (jE x)::Mw xs
end
def fM (x:Nd):AV:=.agg (jE x)
theorem nd1 (t n a:Ac) (c:Int) (fs:List Ac) (ks es:List Nd):jE (.mk 1 t n a c fs ks es)=[num 1,str t,str n,str a,num c,.nil,.nil,.nil]:=rfl
theorem nd2 (t n a:Ac) (c:Int) (fs:List Ac) (ks es:List Nd):jE (.mk 2 t n a c fs ks es)=[num 2,str t,str n,str a,num c,.sl 1 (fs.map str),.nil,.nil]:=rfl
theorem nd3 (t n a:Ac) (c:Int) (fs:List Ac) (ks es:List Nd):jE (.mk 3 t n a c fs ks es)=[num 3,str t,str n,str a,num c,.nil,.sl 8 (Mw ks),.nil]:=rfl
theorem nd4 (t n a:Ac) (c:Int) (fs:List Ac) (ks es:List Nd):jE (.mk 4 t n a c fs ks es)=[num 4,str t,str n,str a,num c,.nil,.sl 8 (Mw ks),.sl 8 (Mw es)]:=rfl
theorem nd5 (t n a:Ac) (c:Int) (fs:List Ac) (ks es:List Nd):jE (.mk 5 t n a c fs ks es)=[num 5,str t,str n,str a,num c,.nil,.nil,.nil]:=rfl
theorem Tb:∀x:Nd,(jE x).map v1=jE x
 |.mk k _ _ _ _ _ _ _=>by unfold jE fA kA eA;split<;>split<;>split<;>rfl
theorem N9:∀x:Nd,rowOk 8 [.agg (jE x)]=true
 |.mk k _ _ _ _ _ _ _=>by unfold jE fA kA eA;split<;>split<;>split<;>rfl
theorem Oa (xs ys:List Nd):Mw (xs++ys)=Mw xs++Mw ys:=by
 induction xs with
 |nil=>rfl
 |cons x xs ih=>simp [Mw,ih]
def H3 (ts:List Tk) (sz:Nat):Nat→List Ac→Nat→PR (List Ac)
 |0,fs,n=>.ok fs n
 |f+1,fs,n=>bif Gq ts n 5 then(match C0 ts sz (n+1) 2 with
  |.ok t n'=>H3 ts sz f (fs++[t.text]) n'
  |.bad m=>.bad m)else .ok fs n
def Nb (ts:List Tk) (sz:Nat) (name:Ac) (n:Nat):PR Nd:=match H3 ts sz ts.length [] n with
 |.ok fs n'=>(match C0 ts sz n' 7 with
  |.ok _ n2=>.ok (.mk 2 [] name [] 0 fs [] []) n2
  |.bad m=>.bad m)
 |.bad m=>.bad m
theorem Td {ts:List Tk} {sz n k n':Nat} {t:Tk} (h:C0 ts sz n k=.ok t n'):n'=n+1∧ts[n]? =some t∧t.kind=k:=by
 unfold C0 at h;split at h
 ·rename_i t' ht;split at h
  ·rename_i hk;injection h with h1 h2;subst h1;exact⟨h2.symm,ht,hk⟩
  ·cases h
 ·cases h
theorem oC {ts:List Tk} {sz n k:Nat} (h:Gq ts n k=true):∃t,C0 ts sz n k=.ok t (n+1)∧n<ts.length:=by
 unfold Gq at h;split at h
 ·rename_i t ht;exact⟨t,by unfold C0;simp [ht,by simpa using h],(List.getElem?_eq_some_iff.1 ht).1⟩
 ·cases h
theorem Agi (b:Nat) (ts:List Tk) (n sz:Nat) (name:Ac) (hl:ts.length≤1000000) (hn:n≤ts.length):RH 170 [pt b,str name] b ts sz n (Nb ts sz name n) (fun x r=>r=fM x):=by
 unfold RH;refine N7 [] [] [(4,[12,10005],[0,2,1001],[2003,4,2005],[3006,7,3008])] Tryz.func170 ?_;simp only[rd,num,str,pt,Ai];refine Zu ?_;refine Ax (rl [8,12]) [5] (fun m xs γ=>∃fs k,k≤ts.length∧fs.length≤k∧xs=[.box 234 [num 2,str [],str name,str [],num 0,.own 9 1 (fs.map str),.nil,.nil]]∧γ=rd b ts k sz∧H3 ts sz ts.length [] n=H3 ts sz m fs k∧ts.length≤k+m) ⟨ts.length,_,_,⟨[],n,hn,AxM _,rfl,rfl,rfl,om⟩,hent (Gw.refl _) ?_⟩ ?_
 ·simp only[PU,str,Axv];exact Zw
 ·rintro m xs γ ⟨fs,k,hk,hfk,rfl,rfl,hp,hm⟩;simp only[PU,str,rd];refine Z0 ?_;refine(Rl b ts k sz 5 hl).mono ?_ (fun _ _ h=>h.elim);rintro r γ ⟨rfl,rfl⟩;simp only[Ai,rd]
  cases hmo:Gq ts k 5 with
  |false=>
   refine Z1 hmo ?_;refine RH.go (Dq b ts k sz 7 hl) (fun t n' r ho hr=> ?_) (fun q n' ho=> ?_)
   ·subst hr;simp only[Rk,num,str];refine Z0 ?_;refine⟨fM (.mk 2 [] name [] 0 fs [] []),_,?_,rfl,Gw.refl _,_,n',?_,rfl,rfl⟩
    ·simp only[fM,nd2,num,str,Axv];refine W1.agg ?_;exact Zw
    ·simp [Nb,hp];cases m<;>simp [H3,hmo,ho]
   ·simp only[go_sem];exact⟨_,Gw.refl _,q,n',by simp [Nb,hp];cases m<;>simp [H3,hmo,ho],rfl,rfl⟩
  |true=>
   refine Z1 hmo ?_;obtain⟨t5,hn5,hk5⟩:=oC (sz:=sz) hmo;refine RH.go (Dq b ts k sz 5 hl) (fun t n' r ho hr=> ?_) (fun q n' ho=>by rw[hn5]at ho;cases ho);subst hr;obtain rfl:n'=k+1:=by rw[hn5]at ho;injection ho with _ h;exact h.symm
   simp only[Rk,num,str];refine Z0 ?_;refine RH.go (Dq b ts (k+1) sz 2 hl) (fun t n' r ho2 hr=> ?_) (fun q n' ho2=> ?_)
   ·subst hr;obtain rfl:n'=k+1+1:=(Td ho2).1;simp only[Rk,num,str];refine Z0 ?_;obtain⟨m,rfl⟩:∃j,m=j+1:=⟨m-1,om⟩;have hk2:=(List.getElem?_eq_some_iff.1 (Td ho2).2.1).1;refine Au m _ _ om ⟨fs++[t.text],k+1+1,hk2,by simp;omega,rfl,rfl,?_,om⟩ (hent (Gw.refl _) ?_)
    ·rw [hp];simp [H3,hmo,ho2]
    ·simp only[PU,str,AxJ,Axx,Axv];exact Zw
   ·simp only[go_sem];refine⟨_,Gw.refl _,q,n',?_,rfl,rfl⟩
    cases m with
    |zero=>omega
    |succ m=>simp [Nb,hp,H3,hmo,ho2]
end
section
open Go.RowKit Go.Proofs
def PR.bind {α β:Type}:PR α→(α→Nat→PR β)→PR β
 |.ok x n,g=>g x n
 |.bad m,_=>.bad m
@[simp] theorem PR.bind_o {α β:Type} (x:α) (n:Nat) (g:α→Nat→PR β):PR.bind (.ok x n) g=g x n:=rfl
@[simp] theorem PR.bind_b {α β:Type} (m:Nat) (g:α→Nat→PR β):PR.bind (.bad m) g=.bad m:=rfl
theorem PR.bind_ok {α β:Type} {o:PR α} {g:α→Nat→PR β} {y:β} {n:Nat} (h:o.bind g=.ok y n):∃x m,o=.ok x m∧g x m=.ok y n:=by
 cases o with
 |ok x m=>exact⟨x,m,rfl,h⟩
 |bad m=>cases h
theorem Bb {ts:List Tk} {sz n k n':Nat} {t:Tk} (h:C0 ts sz n k=.ok t n'):n<n'∧n'≤ts.length:=by obtain⟨rfl,h2,_⟩:=Td h;exact⟨Nat.lt_succ_self _,(List.getElem?_eq_some_iff.1 h2).1⟩
theorem RH.gb {α:Type} {f:Nat} {args:List AV} {b:Nat} {ts:List Tk} {sz n:Nat} {o:PR α} {A:α→AV→Prop} {K:AV→List AV→Prop} {E:Value→List AV→Prop} (h:RH f args b ts sz n o A) (h2:∀m n',o=.bad m→E (mis m) (rd b ts n' sz)) (h1:∀x n' r,o=.ok x n'→A x r→K r (rd b ts n' sz)):HC Tryz.prog f args (rd b ts n sz) K E:=h.go h1 h2
def Ei:Ac:=[101,108,115,101]
def G1:Ac:=[101,110,100]
def Kh:Ac:=[102,111,114]
def fN:Ac:=[105,102]
def Lc:Ac:=[105,110,99,108,117,100,101]
abbrev fO:=List Ac→Nat→PR (List Nd×Ac)
def fP (ts:List Tk) (sz n:Nat):PR Ac:=bif Gq ts n 4 then(C0 ts sz n 4).bind fun t n=>.ok t.text n else .ok [] n
def cntF (av:Ac→Int) (ts:List Tk) (sz n:Nat):PR Int:=bif Gq ts n 3 then(C0 ts sz n 3).bind fun t n=>.ok (av t.text) n else .ok 0 n
def Ob (av:Ac→Int) (ts:List Tk) (sz:Nat) (sub:fO) (n:Nat):PR Nd:=
 (C0 ts sz n 2).bind fun t n1=>(fP ts sz n1).bind fun a n2=>(cntF av ts sz n2).bind fun c n3=>(C0 ts sz n3 7).bind fun _ n4=>
 (sub [G1] n4).bind fun l n5=>.ok (.mk 3 [] t.text a c [] l.1 []) n5
def Oc (ts:List Tk) (sz:Nat) (sub:fO) (n:Nat):PR Nd:=
 (C0 ts sz n 2).bind fun t n1=>(C0 ts sz n1 7).bind fun _ n2=>(sub [Ei,G1] n2).bind fun l n3=>
 if l.2=Ei then(sub [G1] n3).bind fun e n4=>.ok (.mk 4 [] t.text [] 0 [] l.1 e.1) n4 else .ok (.mk 4 [] t.text [] 0 [] l.1 []) n3
structure Alc (av:Ac→Int) (ts:List Tk):Prop where
 atoi:∀t∈ts,Ab Tryz.prog 58 [str t.text] (fun r=>r=.tup [num (av t.text),.any])
 cont:∀(l:List Ac) (x:Ac),l.length≤1000000→Ab Tryz.prog 167 [.sl 1 (l.map str),str x] (fun r=>r=Ai (l.contains x))
def AuH (b:Nat) (ts:List Tk) (sz n0 d:Nat) (sub:fO):Prop:=
 ∀ws n,ws.length≤1000000→n0≤n→n≤ts.length→RH 91 [pt b,num d,.sl 1 (ws.map str)] b ts sz n (sub ws n) (fun x r=>r=.tup [.sl 8 (Mw x.1),str x.2])
def Ald (ts:List Tk) (n0:Nat) (sub:fO):Prop:=∀ws n x n',n0≤n→n≤ts.length→sub ws n=.ok x n'→n≤n'∧n'≤ts.length
theorem yL {ts:List Tk} {sz n k n':Nat} {t:Tk} (h:C0 ts sz n k=.ok t n'):t∈ts:=by
 unfold C0 at h;split at h
 ·rename_i u hu;split at h
  ·injection h with h _;subst h;exact Axt hu
  ·cases h
 ·cases h
theorem Ale {av:Ac→Int} {ts:List Tk} (X:Alc av ts) (b:Nat) (n sz d:Nat) (sub:fO) (hl:ts.length≤1000000) (hn:n≤ts.length) (hs:AuH b ts sz n d sub):RH 168 [pt b,num d] b ts sz n (Ob av ts sz sub n) (fun x r=>r=fM x):=by
 unfold RH;refine N7 [] [] [] Tryz.func168 ?_;simp only[rd,num,str,pt,Ai];refine Zu ?_;refine RH.gb (Dq b ts n sz 2 hl) (fun q n' ho=>by simp only[go_sem];exact⟨_,Gw.refl _,q,n',by simp [Ob,ho],rfl,rfl⟩) (fun t1 n1 r h1 hr=> ?_);subst hr;have hk1:=Bb h1;simp only[Rk,num,str];refine Zu ?_;refine(Rl b ts n1 sz 4 hl).mono ?_ (fun _ _ h=>h.elim);rintro r γ ⟨rfl,rfl⟩;simp only[Ai,rd];cases hmo:Gq ts n1 4;refine Zu ?_;have ha:fP ts sz n1=.ok [] n1:=by simp [fP,hmo]
 obtain⟨n2,rfl⟩:∃n2,n2=n1:=⟨n1,rfl⟩;have hk2:=hk1;rotate_left;refine Zu ?_;refine RH.gb (Dq b ts n1 sz 4 hl) (fun q n' ho=>by simp only[go_sem];exact⟨_,Gw.refl _,q,n',by simp [Ob,fP,h1,hmo,ho],rfl,rfl⟩) (fun t2 n2 r h2 hr=> ?_);subst hr;have hk2:=Bb h2;simp only[Rk,num,str];refine Zu ?_;have ha:fP ts sz n1=.ok t2.text n2:=by simp [fP,hmo,h2]
 all_goals
  refine(Rl b ts n2 sz 3 hl).mono ?_ (fun _ _ h=>h.elim);rintro r γ ⟨rfl,rfl⟩;simp only[Ai,rd];cases hm3:Gq ts n2 3;refine Zu ?_;have hc:cntF av ts sz n2=.ok 0 n2:=by simp [cntF,hm3]
  obtain⟨n3,rfl⟩:∃n3,n3=n2:=⟨n2,rfl⟩;have hk3:=hk2;rotate_left;refine Zu ?_;refine RH.gb (Dq b ts n2 sz 3 hl) (fun q n' ho=>by simp only[go_sem];exact⟨_,Gw.refl _,q,n',by simp [Ob,cntF,h1,ha,hm3,ho],rfl,rfl⟩) (fun t3 n3 r h3 hr=> ?_);subst hr;have hk3:=Bb h3;simp only[Rk,num,str];refine Zu ?_;refine Zh (X.atoi t3 (yL h3)) ?_;have hc:cntF av ts sz n2=.ok (av t3.text) n3:=by simp [cntF,hm3,h3]
  all_goals
   refine RH.gb (Dq b ts n3 sz 7 hl) (fun q n' ho=>by simp only[go_sem];exact⟨_,Gw.refl _,q,n',by simp [Ob,h1,ha,hc,ho],rfl,rfl⟩) (fun t4 n4 r h4 hr=> ?_);subst hr;have hk4:=Bb h4;simp only[Rk,num,str];refine Zu ?_;refine HC.wk (args:=[pt b,num d,.sl 1 ([G1].map str)]) (RH.gb (hs [G1] n4 oS om om) (fun q n' ho=>by simp only[go_sem];exact⟨_,Gw.refl _,q,n',by simp [Ob,h1,ha,hc,h4,ho],rfl,rfl⟩) (fun x5 n5 r h5 hr=> ?_)) ?_;rotate_left
   ·exact AaM
   subst hr;refine Zn ?_;refine⟨fM (.mk 3 [] t1.text _ _ [] x5.1 []),_,?_,rfl,Gw.refl _,_,n5,by simp [Ob,h1,ha,hc,h4,h5];exact⟨rfl,rfl⟩,rfl,rfl⟩;exact AaB
theorem Alf (b:Nat) (ts:List Tk) (n sz d:Nat) (sub:fO) (hl:ts.length≤1000000) (hn:n≤ts.length) (hs:AuH b ts sz n d sub) (hm:Ald ts n sub):RH 169 [pt b,num d] b ts sz n (Oc ts sz sub n) (fun x r=>r=fM x):=by
 unfold RH;refine HC.weak ?_;refine B3 [] [] [] Bo Dv Cq Tryz.func169 oD oK (by simp only[Tryz.f169,go_sem,reduceIte];rfl) Tryz.ntmps169 Tryz.results169 rfl ?_;simp only[LS,Nat.reduceAdd,Nat.reduceSub];simp only[rd,num,str,pt,Ai];refine Z0 ?_;refine RH.gb (Dq b ts n sz 2 hl) (fun q n' ho=>by simp only[go_sem];exact⟨_,Gw.refl _,q,n',by simp [Oc,ho],rfl,rfl⟩) (fun t1 n1 r h1 hr=> ?_);subst hr;have hk1:=Bb h1;simp only[Rk,num,str];refine Z0 ?_;refine RH.gb (Dq b ts n1 sz 7 hl) (fun q n' ho=>by simp only[go_sem];exact⟨_,Gw.refl _,q,n',by simp [Oc,h1,ho],rfl,rfl⟩) (fun t2 n2 r h2 hr=> ?_);subst hr;have hk2:=Bb h2;simp only[Rk,num,str];refine Z0 ?_;refine HC.wk (args:=[pt b,num d,.sl 1 ([Ei,G1].map str)]) (RH.gb (hs [Ei,G1] n2 oS om om) (fun q n' ho=>by simp only[go_sem];exact⟨_,Gw.refl _,q,n',by simp [Oc,h1,h2,ho],rfl,rfl⟩) (fun x3 n3 r h3 hr=> ?_)) ?_;rotate_left
 ·exact AaM
 subst hr;simp only[num,str];repeat' first|refine Aj.on (fun _=>?_) (fun _=>?_)|with_reducible refine gd ?_|simp only[go_sem]
 ·rename_i hw;have hw:x3.2=Ei:=by simpa[Ei]using hw
  have hk3:=hm _ _ _ _ om om h3;refine HC.wk (args:=[pt b,num d,.sl 1 ([G1].map str)]) (RH.gb (hs [G1] n3 oS om om) (fun q n' ho=>by simp only[go_sem];exact⟨_,Gw.refl _,q,n',by simp [Oc,h1,h2,h3,hw,ho],rfl,rfl⟩) (fun x4 n4 r h4 hr=> ?_)) ?_;rotate_left
  ·exact AaM
  subst hr;refine Zn ?_;refine⟨fM (.mk 4 [] t1.text [] 0 [] x3.1 x4.1),_,?_,rfl,Gw.refl _,_,n4,by simp [Oc,h1,h2,h3,h4,hw],rfl,rfl⟩;exact AaB
 ·rename_i hw;have hw:¬x3.2=Ei:=by simpa[Ei]using hw
  refine⟨fM (.mk 4 [] t1.text [] 0 [] x3.1 []),_,?_,rfl,Gw.refl _,_,n3,by simp [Oc,h1,h2,h3,hw],rfl,rfl⟩;exact AaB
end
section
open Go.RowKit Go.Proofs
def B6 (av:Ac→Int) (ts:List Tk) (sz:Nat):Nat→Nat→List Ac→Nat→List Nd→PR (List Nd×Ac)
 |0,_,_,_,_=>.bad 0
 |f+1,d,ws,n,l=>
  bif decide (n<ts.length)then
   bif Gq ts n 1 then(C0 ts sz n 1).bind fun t n'=>B6 av ts sz f d ws n' (l++[.mk 1 t.text [] [] 0 [] [] []])
   else(C0 ts sz n 6).bind fun o n1=>(C0 ts sz n1 2).bind fun t n2=>
    if t.text=Ei∨t.text=G1 then
     bif ws.contains t.text then(C0 ts sz n2 7).bind fun _ n3=>.ok (l,t.text) n3 else .bad t.pos
    else if t.text=Kh∨t.text=fN then
     if d=8 then .bad o.pos else
     if t.text=Kh then(Ob av ts sz (fun ws n=>B6 av ts sz f (d+1) ws n []) n2).bind fun x n'=>B6 av ts sz f d ws n' (l++[x])
     else(Oc ts sz (fun ws n=>B6 av ts sz f (d+1) ws n []) n2).bind fun x n'=>B6 av ts sz f d ws n' (l++[x])
    else if t.text=Lc then(C0 ts sz n2 2).bind fun t2 n3=>(C0 ts sz n3 7).bind fun _ n'=>B6 av ts sz f d ws n' (l++[.mk 5 [] t2.text [] 0 [] [] []])
    else(Nb ts sz t.text n2).bind fun x n'=>B6 av ts sz f d ws n' (l++[x])
  else if ws=[]then .ok (l,[]) n else .bad sz
theorem We {ts:List Tk} {sz:Nat}:∀{m:Nat} {fs xs:List Ac} {n n':Nat},n≤ts.length→H3 ts sz m fs n=.ok xs n'→n≤n'∧n'≤ts.length
 |0,fs,xs,n,n',hn,h=>by injection h with _ h;omega
 |m+1,fs,xs,n,n',hn,h=>by
  unfold H3 at h
  cases hm:Gq ts n 5 with
  |false=>rw[hm]at h;injection h with _ h;omega
  |true=>
   rw[hm]at h
   cases h2:C0 ts sz (n+1) 2 with
   |bad q=>rw[h2]at h;cases h
   |ok t k=>rw[h2]at h;have:=Bb h2;have:=We this.2 h;omega
theorem Wg {ts:List Tk} {sz n n':Nat} {w:Ac} {x:Nd} (hn:n≤ts.length) (h:Nb ts sz w n=.ok x n'):n≤n'∧n'≤ts.length:=by
 unfold Nb at h
 cases h1:H3 ts sz ts.length [] n with
 |bad q=>rw[h1]at h;cases h
 |ok fs k=>
  rw[h1]at h;have:=We hn h1
  cases h2:C0 ts sz k 7 with
  |bad q=>simp only[h2]at h;cases h
  |ok t m=>simp only[h2]at h;injection h with _ h;have:=Bb h2;omega
theorem Alg {ts:List Tk} {sz n n':Nat} {x:Ac} (hn:n≤ts.length) (h:fP ts sz n=.ok x n'):n≤n'∧n'≤ts.length:=by
 unfold fP at h
 cases hm:Gq ts n 4 with
 |false=>rw[hm]at h;injection h with _ h;omega
 |true=>exact Anp
theorem Alh {av:Ac→Int} {ts:List Tk} {sz n n':Nat} {x:Int} (hn:n≤ts.length) (h:cntF av ts sz n=.ok x n'):n≤n'∧n'≤ts.length:=by
 unfold cntF at h
 cases hm:Gq ts n 3 with
 |false=>rw[hm]at h;injection h with _ h;omega
 |true=>exact Anp
theorem fQ {av:Ac→Int} {ts:List Tk} {sz n n':Nat} {sub:fO} {x:Nd} (hs:Ald ts n sub) (h:Ob av ts sz sub n=.ok x n'):n≤n'∧n'≤ts.length:=by obtain⟨t,n1,h1,h⟩:=PR.bind_ok h;obtain⟨a,n2,h2,h⟩:=PR.bind_ok h;obtain⟨c,n3,h3,h⟩:=PR.bind_ok h;obtain⟨u,n4,h4,h⟩:=PR.bind_ok h;obtain⟨l,n5,h5,h⟩:=PR.bind_ok h;injection h with _ h;have g1:=Bb h1;have g2:=Alg g1.2 h2;have g3:=Alh g2.2 h3;have g4:=Bb h4;have g5:=hs _ _ _ _ om g4.2 h5;omega
theorem fR {ts:List Tk} {sz n n':Nat} {sub:fO} {x:Nd} (hs:Ald ts n sub) (h:Oc ts sz sub n=.ok x n'):n≤n'∧n'≤ts.length:=by
 obtain⟨t,n1,h1,h⟩:=PR.bind_ok h;obtain⟨u,n2,h2,h⟩:=PR.bind_ok h;obtain⟨l,n3,h3,h⟩:=PR.bind_ok h;have g1:=Bb h1;have g2:=Bb h2;have g3:=hs _ _ _ _ om g2.2 h3;split at h
 ·obtain ⟨e,n4,h4,h⟩:=PR.bind_ok h;injection h with _ h;have g4:=hs _ _ _ _ om g3.2 h4;omega
 ·injection h with _ h;omega
theorem Fz {av:Ac→Int} {ts:List Tk} {sz:Nat}:∀{f d:Nat} {ws:List Ac} {n n':Nat} {l:List Nd} {x:List Nd×Ac},n≤ts.length→B6 av ts sz f d ws n l=.ok x n'→n≤n'∧n'≤ts.length
 |0,_,_,_,_,_,_,_,h=>by cases h
 |f+1,d,ws,n,n',l,x,hn,h=>by
  have hs:∀n0,Ald ts n0 (fun ws n=>B6 av ts sz f (d+1) ws n []):=fun n0 ws n x n' _ hn h=>Fz hn h;unfold B6 at h
  cases hm:decide (n<ts.length)with
  |false=>
   simp only[hm,cond_false]at h;split at h
   ·injection h with _ h;omega
   ·cases h
  |true=>
   simp only[hm,cond_true]at h
   cases hm:Gq ts n 1 with
   |true=>simp only[hm,cond_true]at h;obtain⟨t,n1,h1,h⟩:=PR.bind_ok h;have g1:=Bb h1;have:=Fz g1.2 h;omega
   |false=>
    simp only[hm,cond_false]at h;obtain⟨o,n1,h1,h⟩:=PR.bind_ok h;obtain⟨t,n2,h2,h⟩:=PR.bind_ok h;have g1:=Bb h1;have g2:=Bb h2;split at h
    ·cases hc:ws.contains t.text with
     |true=>simp only[hc,cond_true]at h;obtain⟨u,n3,h3,h⟩:=PR.bind_ok h;injection h with _ h;have g3:=Bb h3;omega
     |false=>simp only[hc,cond_false]at h;cases h
    ·split at h
     ·split at h
      ·cases h
      ·split at h
       ·obtain ⟨x,n3,h3,h⟩:=PR.bind_ok h;have g3:=fQ (hs _) h3;have:=Fz g3.2 h;omega
       ·obtain ⟨x,n3,h3,h⟩:=PR.bind_ok h;have g3:=fR (hs _) h3;have:=Fz g3.2 h;omega
     ·split at h
      ·obtain ⟨x,n3,h3,h⟩:=PR.bind_ok h;obtain⟨y,n4,h4,h⟩:=PR.bind_ok h;have g3:=Bb h3;have g4:=Bb h4;have:=Fz g4.2 h;omega
      ·obtain ⟨x,n3,h3,h⟩:=PR.bind_ok h;have g3:=Wg g2.2 h3;have:=Fz g3.2 h;omega
end
end Go.Proofs.YtmophjggmekoeaaGreatDoor
