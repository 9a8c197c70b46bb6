/-
  The library's contracts at this program: what they ask of it. Printed by wip/tools/laytext.py off the kit's own laying.
  The library's functions on texts: strconv.Itoa, impl.number (over strconv.Atoi), math/bits.TrailingZeros32, strings.Cut: as laws.
  strings.Split at one byte, as a law.
  impl.FormatSingle.
  impl.singleText, pointText, pointsText, intsText, kindNames.
  impl.pointText, pointsText, intsText, kindNames.
  impl.kindNames, FormatModule.
  math.Ldexp at whole numbers.
  math.Ldexp at whole numbers, math.NaN, math.Inf, strings.CutPrefix at one byte: the walks.
  strings.CutPrefix at one byte; impl.ParseSingle, singleOf.
  Draws whose words are below 2^32: l1Odd, l1Some, FromSteps, l1Any, l2Any, l5Turn, MakeFloat, MakePoint.
  Tables whose words are below 2^32: PutPoint, l2Table.
  No condition.
-/
import Derived.Test.YtfmpjhjnpeheeaaGreatDoorProg
import Derived.Shelf.Strings.Split
import Derived.Shelf.Strings.Cut
import Derived.Shelf.Strconv.Itoa3
import Derived.Shelf.Strconv.AtoiAll
import Derived.Shelf.Spec.TrailingZeros
import Derived.Shelf.Strconv.ErrVarAll
import Derived.WalkKit
import Derived.Lib.ItoaLen
import Derived.Test.YtfmpjhjnpeheeaaGreatDoorPkG
set_option maxRecDepth 100000
set_option maxHeartbeats 16000000
set_option linter.unusedVariables false
set_option maxRecDepth 100000
namespace Go.Proofs
open Go.Shelf
def Tryz.lays146_ren:Go.Shelf.Ren:=⟨fun|146=>39|221=>102|268=>180|138=>181|143=>182|195=>237|197=>238|218=>239|219=>209|260=>274|217=>254|225=>255|224=>256|267=>257|266=>283|314=>284|n=>n,fun|9=>9|31=>71|3=>3|4=>4|0=>0|105=>243|21=>21|5=>5|46=>215|119=>299|139=>302|138=>301|146=>281|51=>201|n=>n,fun|1=>2|3=>5|4=>6|n=>n⟩
theorem Tryz.lays146:Lays.n146 Tryz.prog Tryz.lays146_ren:={
 mixed:=by kernel_rfl,
 f138:=Tryz.func181.trans (congrArg some (by kernel_rfl)),
 f143:=Tryz.func182.trans (congrArg some (by kernel_rfl)),
 f146:=Tryz.func39.trans (congrArg some (by kernel_rfl)),
 f195:=Tryz.func237.trans (congrArg some (by kernel_rfl)),
 f197:=Tryz.func238.trans (congrArg some (by kernel_rfl)),
 f217:=Tryz.func254.trans (congrArg some (by kernel_rfl)),
 f218:=Tryz.func239.trans (congrArg some (by kernel_rfl)),
 f219:=Tryz.func209.trans (congrArg some (by kernel_rfl)),
 f221:=Tryz.func102.trans (congrArg some (by kernel_rfl)),
 f224:=Tryz.func256.trans (congrArg some (by kernel_rfl)),
 f225:=Tryz.func255.trans (congrArg some (by kernel_rfl)),
 f260:=Tryz.func274.trans (congrArg some (by kernel_rfl)),
 f266:=Tryz.func283.trans (congrArg some (by kernel_rfl)),
 f267:=Tryz.func257.trans (congrArg some (by kernel_rfl)),
 f268:=Tryz.func180.trans (congrArg some (by kernel_rfl)),
 f314:=Tryz.func284.trans (congrArg some (by kernel_rfl)),
 t0:=Tryz.underlying0,
 a0:=Tryz.isAgg0,
 z0:=Tryz.sizeOf0,
 v0:=Tryz.zeroValue0,
 t3:=Tryz.underlying3,
 a3:=Tryz.isAgg3,
 z3:=Tryz.sizeOf3,
 v3:=Tryz.zeroValue3,
 t4:=Tryz.underlying4,
 a4:=Tryz.isAgg4,
 z4:=Tryz.sizeOf4,
 v4:=Tryz.zeroValue4,
 t5:=Tryz.underlying5,
 a5:=Tryz.isAgg5,
 z5:=Tryz.sizeOf5,
 v5:=Tryz.zeroValue5,
 t9:=Tryz.underlying9,
 a9:=Tryz.isAgg9,
 z9:=Tryz.sizeOf9,
 v9:=Tryz.zeroValue9,
 t21:=Tryz.underlying21,
 a21:=Tryz.isAgg21,
 z21:=Tryz.sizeOf21,
 v21:=Tryz.zeroValue21,
 t31:=Tryz.underlying71,
 a31:=Tryz.isAgg71,
 z31:=Tryz.sizeOf71,
 v31:=Tryz.zeroValue71,
 t46:=Tryz.underlying215,
 a46:=Tryz.isAgg215,
 z46:=Tryz.sizeOf215,
 v46:=Tryz.zeroValue215,
 t51:=Tryz.underlying201,
 a51:=Tryz.isAgg201,
 z51:=Tryz.sizeOf201,
 v51:=Tryz.zeroValue201,
 t105:=Tryz.underlying243,
 a105:=Tryz.isAgg243,
 z105:=Tryz.sizeOf243,
 v105:=Tryz.zeroValue243,
 t119:=Tryz.underlying299,
 a119:=Tryz.isAgg299,
 z119:=Tryz.sizeOf299,
 t138:=Tryz.underlying301,
 a138:=Tryz.isAgg301,
 z138:=Tryz.sizeOf301,
 v138:=Tryz.zeroValue301,
 t139:=Tryz.underlying302,
 a139:=Tryz.isAgg302,
 z139:=Tryz.sizeOf302,
 v139:=Tryz.zeroValue302,
 t146:=Tryz.underlying281,
 a146:=Tryz.isAgg281,
 z146:=Tryz.sizeOf281,
 v146:=Tryz.zeroValue281,
 g1:=by kernel_rfl,
 g3:=by kernel_rfl,
 g4:=by kernel_rfl}
def Tryz.lays145_ren:Go.Shelf.Ren:=⟨fun|145=>77|220=>150|219=>209|217=>254|225=>255|224=>256|267=>257|266=>283|314=>284|n=>n,fun|9=>9|4=>4|59=>116|3=>3|5=>5|46=>215|146=>281|51=>201|n=>n,fun|1=>2|n=>n⟩
theorem Tryz.lays145:Lays.n145 Tryz.prog Tryz.lays145_ren:={
 mixed:=by kernel_rfl,
 f145:=Tryz.func77.trans (congrArg some (by kernel_rfl)),
 f217:=Tryz.func254.trans (congrArg some (by kernel_rfl)),
 f219:=Tryz.func209.trans (congrArg some (by kernel_rfl)),
 f220:=Tryz.func150.trans (congrArg some (by kernel_rfl)),
 f224:=Tryz.func256.trans (congrArg some (by kernel_rfl)),
 f225:=Tryz.func255.trans (congrArg some (by kernel_rfl)),
 f266:=Tryz.func283.trans (congrArg some (by kernel_rfl)),
 f267:=Tryz.func257.trans (congrArg some (by kernel_rfl)),
 f314:=Tryz.func284.trans (congrArg some (by kernel_rfl)),
 t3:=Tryz.underlying3,
 a3:=Tryz.isAgg3,
 z3:=Tryz.sizeOf3,
 v3:=Tryz.zeroValue3,
 t4:=Tryz.underlying4,
 a4:=Tryz.isAgg4,
 z4:=Tryz.sizeOf4,
 v4:=Tryz.zeroValue4,
 t5:=Tryz.underlying5,
 a5:=Tryz.isAgg5,
 z5:=Tryz.sizeOf5,
 v5:=Tryz.zeroValue5,
 t9:=Tryz.underlying9,
 a9:=Tryz.isAgg9,
 z9:=Tryz.sizeOf9,
 v9:=Tryz.zeroValue9,
 t46:=Tryz.underlying215,
 a46:=Tryz.isAgg215,
 z46:=Tryz.sizeOf215,
 v46:=Tryz.zeroValue215,
 t51:=Tryz.underlying201,
 a51:=Tryz.isAgg201,
 z51:=Tryz.sizeOf201,
 v51:=Tryz.zeroValue201,
 t59:=Tryz.underlying116,
 a59:=Tryz.isAgg116,
 z59:=Tryz.sizeOf116,
 v59:=Tryz.zeroValue116,
 t146:=Tryz.underlying281,
 a146:=Tryz.isAgg281,
 z146:=Tryz.sizeOf281,
 v146:=Tryz.zeroValue281,
 g1:=by kernel_rfl}
def Tryz.lays171_ren:Go.Shelf.Ren:=⟨fun|171=>146|243=>207|246=>253|283=>279|284=>280|285=>281|286=>282|129=>300|317=>304|318=>305|319=>306|320=>307|337=>206|338=>316|n=>n,fun|3=>3|9=>9|2=>2|4=>4|171=>276|0=>0|53=>247|37=>37|5=>5|173=>279|212=>308|51=>201|20=>20|213=>309|46=>215|232=>256|233=>323|n=>n,fun|17=>7|18=>1|19=>8|n=>n⟩
theorem Tryz.lays171:LaysM.n171 Tryz.prog Tryz.lays171_ren:={
 mixed:=by kernel_rfl,
 f129:=Tryz.func300.trans (congrArg some (by kernel_rfl)),
 f171:=Tryz.func146.trans (congrArg some (by kernel_rfl)),
 f243:=Tryz.func207.trans (congrArg some (by kernel_rfl)),
 f246:=Tryz.func253.trans (congrArg some (by kernel_rfl)),
 f283:=Tryz.func279.trans (congrArg some (by kernel_rfl)),
 f284:=Tryz.func280.trans (congrArg some (by kernel_rfl)),
 f285:=Tryz.func281.trans (congrArg some (by kernel_rfl)),
 f286:=Tryz.func282.trans (congrArg some (by kernel_rfl)),
 f317:=Tryz.func304.trans (congrArg some (by kernel_rfl)),
 f318:=Tryz.func305.trans (congrArg some (by kernel_rfl)),
 f319:=Tryz.func306.trans (congrArg some (by kernel_rfl)),
 f320:=Tryz.func307.trans (congrArg some (by kernel_rfl)),
 f337:=Tryz.func206.trans (congrArg some (by kernel_rfl)),
 f338:=Tryz.func316.trans (congrArg some (by kernel_rfl)),
 t0:=Tryz.underlying0,
 a0:=Tryz.isAgg0,
 z0:=Tryz.sizeOf0,
 v0:=Tryz.zeroValue0,
 t2:=Tryz.underlying2,
 a2:=Tryz.isAgg2,
 z2:=Tryz.sizeOf2,
 v2:=Tryz.zeroValue2,
 t3:=Tryz.underlying3,
 a3:=Tryz.isAgg3,
 z3:=Tryz.sizeOf3,
 v3:=Tryz.zeroValue3,
 t4:=Tryz.underlying4,
 a4:=Tryz.isAgg4,
 z4:=Tryz.sizeOf4,
 v4:=Tryz.zeroValue4,
 t5:=Tryz.underlying5,
 a5:=Tryz.isAgg5,
 z5:=Tryz.sizeOf5,
 v5:=Tryz.zeroValue5,
 t9:=Tryz.underlying9,
 a9:=Tryz.isAgg9,
 z9:=Tryz.sizeOf9,
 v9:=Tryz.zeroValue9,
 t20:=Tryz.underlying20,
 a20:=Tryz.isAgg20,
 z20:=Tryz.sizeOf20,
 v20:=Tryz.zeroValue20,
 t37:=Tryz.underlying37,
 a37:=Tryz.isAgg37,
 z37:=Tryz.sizeOf37,
 v37:=Tryz.zeroValue37,
 t46:=Tryz.underlying215,
 a46:=Tryz.isAgg215,
 z46:=Tryz.sizeOf215,
 v46:=Tryz.zeroValue215,
 t51:=Tryz.underlying201,
 a51:=Tryz.isAgg201,
 z51:=Tryz.sizeOf201,
 v51:=Tryz.zeroValue201,
 t53:=Tryz.underlying247,
 a53:=Tryz.isAgg247,
 z53:=Tryz.sizeOf247,
 v53:=Tryz.zeroValue247,
 t171:=Tryz.underlying276,
 a171:=Tryz.isAgg276,
 z171:=Tryz.sizeOf276,
 v171:=Tryz.zeroValue276,
 t173:=Tryz.underlying279,
 a173:=Tryz.isAgg279,
 z173:=Tryz.sizeOf279,
 v173:=Tryz.zeroValue279,
 t212:=Tryz.underlying308,
 a212:=Tryz.isAgg308,
 z212:=Tryz.sizeOf308,
 v212:=Tryz.zeroValue308,
 t213:=Tryz.underlying309,
 a213:=Tryz.isAgg309,
 z213:=Tryz.sizeOf309,
 t232:=Tryz.underlying256,
 a232:=Tryz.isAgg256,
 z232:=Tryz.sizeOf256,
 v232:=Tryz.zeroValue256,
 t233:=Tryz.underlying323,
 a233:=Tryz.isAgg323,
 z233:=Tryz.sizeOf323,
 v233:=Tryz.zeroValue323,
 g17:=by kernel_rfl,
 g18:=by kernel_rfl,
 g19:=by kernel_rfl,
 i0:=by kernel_rfl,
 i2:=by kernel_rfl,
 i3:=by kernel_rfl,
 i4:=by kernel_rfl,
 i5:=by kernel_rfl,
 i9:=by kernel_rfl,
 i20:=by kernel_rfl,
 i37:=by kernel_rfl,
 i46:=by kernel_rfl,
 i51:=by kernel_rfl,
 i53:=by kernel_rfl,
 i171:=by kernel_rfl,
 i173:=by kernel_rfl,
 i212:=by kernel_rfl,
 i232:=by kernel_rfl,
 i233:=by kernel_rfl,
 m17:=by kernel_rfl,
 m18:=by kernel_rfl,
 m19:=by kernel_rfl}
def Tryz.lays28_ren:Go.Shelf.Ren:=⟨fun|28=>206|n=>n,fun|27=>201|3=>3|4=>4|25=>215|53=>256|0=>0|5=>5|n=>n,fun|0=>1|n=>n⟩
theorem Tryz.lays28:Lays7.n28 Tryz.prog Tryz.lays28_ren:={
 mixed:=by kernel_rfl,
 f28:=Tryz.func206.trans (congrArg some (by kernel_rfl)),
 t0:=Tryz.underlying0,
 a0:=Tryz.isAgg0,
 z0:=Tryz.sizeOf0,
 v0:=Tryz.zeroValue0,
 i0:=by kernel_rfl,
 t3:=Tryz.underlying3,
 a3:=Tryz.isAgg3,
 z3:=Tryz.sizeOf3,
 v3:=Tryz.zeroValue3,
 i3:=by kernel_rfl,
 t4:=Tryz.underlying4,
 a4:=Tryz.isAgg4,
 z4:=Tryz.sizeOf4,
 v4:=Tryz.zeroValue4,
 i4:=by kernel_rfl,
 t5:=Tryz.underlying5,
 a5:=Tryz.isAgg5,
 z5:=Tryz.sizeOf5,
 v5:=Tryz.zeroValue5,
 i5:=by kernel_rfl,
 t25:=Tryz.underlying215,
 a25:=Tryz.isAgg215,
 z25:=Tryz.sizeOf215,
 v25:=Tryz.zeroValue215,
 i25:=by kernel_rfl,
 t27:=Tryz.underlying201,
 a27:=Tryz.isAgg201,
 z27:=Tryz.sizeOf201,
 v27:=Tryz.zeroValue201,
 i27:=by kernel_rfl,
 t53:=Tryz.underlying256,
 a53:=Tryz.isAgg256,
 z53:=Tryz.sizeOf256,
 v53:=Tryz.zeroValue256,
 i53:=by kernel_rfl,
 g0:=by kernel_rfl}
def Tryz.lays172_ren:Go.Shelf.Ren:=⟨fun|172=>151|244=>210|245=>211|247=>258|279=>259|280=>260|281=>261|282=>262|287=>285|316=>286|171=>146|205=>287|321=>308|322=>309|243=>207|246=>253|283=>279|284=>280|285=>281|286=>282|129=>300|317=>304|318=>305|319=>306|320=>307|337=>206|338=>316|n=>n,fun|9=>9|3=>3|75=>169|76=>170|4=>4|5=>5|167=>259|37=>37|0=>0|85=>260|2=>2|168=>262|53=>247|175=>283|46=>215|210=>286|127=>268|145=>313|143=>311|21=>21|171=>276|173=>279|212=>308|51=>201|20=>20|213=>309|232=>256|233=>323|80=>78|n=>n,fun|15=>3|16=>4|17=>7|18=>1|19=>8|n=>n⟩
theorem Tryz.lays172:LaysC.n172 Tryz.prog Tryz.lays172_ren:={
 mixed:=by kernel_rfl,
 f129:=Tryz.func300.trans (congrArg some (by kernel_rfl)),
 f171:=Tryz.func146.trans (congrArg some (by kernel_rfl)),
 f172:=Tryz.func151.trans (congrArg some (by kernel_rfl)),
 f205:=Tryz.func287.trans (congrArg some (by kernel_rfl)),
 f243:=Tryz.func207.trans (congrArg some (by kernel_rfl)),
 f244:=Tryz.func210.trans (congrArg some (by kernel_rfl)),
 f245:=Tryz.func211.trans (congrArg some (by kernel_rfl)),
 f246:=Tryz.func253.trans (congrArg some (by kernel_rfl)),
 f247:=Tryz.func258.trans (congrArg some (by kernel_rfl)),
 f279:=Tryz.func259.trans (congrArg some (by kernel_rfl)),
 f280:=Tryz.func260.trans (congrArg some (by kernel_rfl)),
 f281:=Tryz.func261.trans (congrArg some (by kernel_rfl)),
 f282:=Tryz.func262.trans (congrArg some (by kernel_rfl)),
 f283:=Tryz.func279.trans (congrArg some (by kernel_rfl)),
 f284:=Tryz.func280.trans (congrArg some (by kernel_rfl)),
 f285:=Tryz.func281.trans (congrArg some (by kernel_rfl)),
 f286:=Tryz.func282.trans (congrArg some (by kernel_rfl)),
 f287:=Tryz.func285.trans (congrArg some (by kernel_rfl)),
 f316:=Tryz.func286.trans (congrArg some (by kernel_rfl)),
 f317:=Tryz.func304.trans (congrArg some (by kernel_rfl)),
 f318:=Tryz.func305.trans (congrArg some (by kernel_rfl)),
 f319:=Tryz.func306.trans (congrArg some (by kernel_rfl)),
 f320:=Tryz.func307.trans (congrArg some (by kernel_rfl)),
 f321:=Tryz.func308.trans (congrArg some (by kernel_rfl)),
 f322:=Tryz.func309.trans (congrArg some (by kernel_rfl)),
 f337:=Tryz.func206.trans (congrArg some (by kernel_rfl)),
 f338:=Tryz.func316.trans (congrArg some (by kernel_rfl)),
 t0:=Tryz.underlying0,
 a0:=Tryz.isAgg0,
 z0:=Tryz.sizeOf0,
 v0:=Tryz.zeroValue0,
 t2:=Tryz.underlying2,
 a2:=Tryz.isAgg2,
 z2:=Tryz.sizeOf2,
 v2:=Tryz.zeroValue2,
 t3:=Tryz.underlying3,
 a3:=Tryz.isAgg3,
 z3:=Tryz.sizeOf3,
 v3:=Tryz.zeroValue3,
 t4:=Tryz.underlying4,
 a4:=Tryz.isAgg4,
 z4:=Tryz.sizeOf4,
 v4:=Tryz.zeroValue4,
 t5:=Tryz.underlying5,
 a5:=Tryz.isAgg5,
 z5:=Tryz.sizeOf5,
 v5:=Tryz.zeroValue5,
 t9:=Tryz.underlying9,
 a9:=Tryz.isAgg9,
 z9:=Tryz.sizeOf9,
 v9:=Tryz.zeroValue9,
 t20:=Tryz.underlying20,
 a20:=Tryz.isAgg20,
 z20:=Tryz.sizeOf20,
 v20:=Tryz.zeroValue20,
 t21:=Tryz.underlying21,
 a21:=Tryz.isAgg21,
 z21:=Tryz.sizeOf21,
 v21:=Tryz.zeroValue21,
 t37:=Tryz.underlying37,
 a37:=Tryz.isAgg37,
 z37:=Tryz.sizeOf37,
 v37:=Tryz.zeroValue37,
 t46:=Tryz.underlying215,
 a46:=Tryz.isAgg215,
 z46:=Tryz.sizeOf215,
 v46:=Tryz.zeroValue215,
 t51:=Tryz.underlying201,
 a51:=Tryz.isAgg201,
 z51:=Tryz.sizeOf201,
 v51:=Tryz.zeroValue201,
 t53:=Tryz.underlying247,
 a53:=Tryz.isAgg247,
 z53:=Tryz.sizeOf247,
 v53:=Tryz.zeroValue247,
 t75:=Tryz.underlying169,
 a75:=Tryz.isAgg169,
 z75:=Tryz.sizeOf169,
 v75:=Tryz.zeroValue169,
 t76:=Tryz.underlying170,
 a76:=Tryz.isAgg170,
 z76:=Tryz.sizeOf170,
 v76:=Tryz.zeroValue170,
 t85:=Tryz.underlying260,
 a85:=Tryz.isAgg260,
 z85:=Tryz.sizeOf260,
 v85:=Tryz.zeroValue260,
 t127:=Tryz.underlying268,
 a127:=Tryz.isAgg268,
 z127:=Tryz.sizeOf268,
 v127:=Tryz.zeroValue268,
 t143:=Tryz.underlying311,
 a143:=Tryz.isAgg311,
 z143:=Tryz.sizeOf311,
 v143:=Tryz.zeroValue311,
 t145:=Tryz.underlying313,
 a145:=Tryz.isAgg313,
 z145:=Tryz.sizeOf313,
 v145:=Tryz.zeroValue313,
 t167:=Tryz.underlying259,
 a167:=Tryz.isAgg259,
 z167:=Tryz.sizeOf259,
 v167:=Tryz.zeroValue259,
 t168:=Tryz.underlying262,
 a168:=Tryz.isAgg262,
 z168:=Tryz.sizeOf262,
 v168:=Tryz.zeroValue262,
 t171:=Tryz.underlying276,
 a171:=Tryz.isAgg276,
 z171:=Tryz.sizeOf276,
 v171:=Tryz.zeroValue276,
 t173:=Tryz.underlying279,
 a173:=Tryz.isAgg279,
 z173:=Tryz.sizeOf279,
 v173:=Tryz.zeroValue279,
 t175:=Tryz.underlying283,
 a175:=Tryz.isAgg283,
 z175:=Tryz.sizeOf283,
 v175:=Tryz.zeroValue283,
 t210:=Tryz.underlying286,
 a210:=Tryz.isAgg286,
 z210:=Tryz.sizeOf286,
 v210:=Tryz.zeroValue286,
 t212:=Tryz.underlying308,
 a212:=Tryz.isAgg308,
 z212:=Tryz.sizeOf308,
 v212:=Tryz.zeroValue308,
 t213:=Tryz.underlying309,
 a213:=Tryz.isAgg309,
 z213:=Tryz.sizeOf309,
 t232:=Tryz.underlying256,
 a232:=Tryz.isAgg256,
 z232:=Tryz.sizeOf256,
 v232:=Tryz.zeroValue256,
 t233:=Tryz.underlying323,
 a233:=Tryz.isAgg323,
 z233:=Tryz.sizeOf323,
 v233:=Tryz.zeroValue323,
 g15:=by kernel_rfl,
 g16:=by kernel_rfl,
 g17:=by kernel_rfl,
 g18:=by kernel_rfl,
 g19:=by kernel_rfl,
 t80:=Tryz.underlying78,
 a80:=Tryz.isAgg78,
 z80:=Tryz.sizeOf78,
 v80:=Tryz.zeroValue78,
 i0:=by kernel_rfl,
 i2:=by kernel_rfl,
 i3:=by kernel_rfl,
 i4:=by kernel_rfl,
 i5:=by kernel_rfl,
 i9:=by kernel_rfl,
 i20:=by kernel_rfl,
 i21:=by kernel_rfl,
 i37:=by kernel_rfl,
 i46:=by kernel_rfl,
 i51:=by kernel_rfl,
 i53:=by kernel_rfl,
 i75:=by kernel_rfl,
 i76:=by kernel_rfl,
 i80:=by kernel_rfl,
 i85:=by kernel_rfl,
 i127:=by kernel_rfl,
 i143:=by kernel_rfl,
 i145:=by kernel_rfl,
 i167:=by kernel_rfl,
 i168:=by kernel_rfl,
 i171:=by kernel_rfl,
 i173:=by kernel_rfl,
 i175:=by kernel_rfl,
 i210:=by kernel_rfl,
 i212:=by kernel_rfl,
 i232:=by kernel_rfl,
 i233:=by kernel_rfl,
 m15:=by kernel_rfl,
 m16:=by kernel_rfl,
 m17:=by kernel_rfl,
 m18:=by kernel_rfl,
 m19:=by kernel_rfl,
 c0:=by kernel_rfl,
 c2:=by kernel_rfl,
 c3:=by kernel_rfl,
 c4:=by kernel_rfl,
 c5:=by kernel_rfl,
 c9:=by kernel_rfl,
 c20:=by kernel_rfl,
 c21:=by kernel_rfl,
 c37:=by kernel_rfl,
 c46:=by kernel_rfl,
 c51:=by kernel_rfl,
 c53:=by kernel_rfl,
 c75:=by kernel_rfl,
 c76:=by kernel_rfl,
 c80:=by kernel_rfl,
 c85:=by kernel_rfl,
 c127:=by kernel_rfl,
 c143:=by kernel_rfl,
 c145:=by kernel_rfl,
 c167:=by kernel_rfl,
 c168:=by kernel_rfl,
 c171:=by kernel_rfl,
 c173:=by kernel_rfl,
 c175:=by kernel_rfl,
 c210:=by kernel_rfl,
 c212:=by kernel_rfl,
 c213:=by kernel_rfl,
 c232:=by kernel_rfl,
 c233:=by kernel_rfl}
end Go.Proofs
set_option linter.unusedSimpArgs false
namespace Go.SX
open Go Go.Proofs Go.RowKit
theorem zGl (l:Txt):(⟨l.toArray⟩:ByteArray).size=l.length:=by simp[ByteArray.size]
theorem zBu (a b:Txt):(⟨a.toArray⟩:ByteArray)++⟨b.toArray⟩=⟨(a++b).toArray⟩:=by
 apply ByteArray.ext;simp
theorem zMk2 (s:ByteArray):s=⟨s.data.toList.toArray⟩:=by cases s;rfl
theorem zAr (a b:Txt):((⟨a.toArray⟩:ByteArray).toList ==(⟨b.toArray⟩:ByteArray).toList)=decide (a=b):=by
 rw[ByteArray.toList_mk,ByteArray.toList_mk];by_cases h:a=b<;>simp[h]
theorem zLn {a b:Txt}:(⟨a.toArray⟩:ByteArray)=⟨b.toArray⟩↔a=b:=by
 constructor
 ·intro h;have:=congrArg (fun s:ByteArray=>s.data.toList) h;simpa using this
 ·rintro rfl;rfl
theorem zXj1 {w : World} (h : Laid (fun _ => none) w) : Lib.TabIs Tryz.prog w "internal/strconv.uint64pow10" .u64 Lib.pow10Tab := by
 obtain ⟨⟨e,fr,h1⟩,_⟩:=h.v 7 (Lib.pow10Tab.map fun z=>Value.int .u64 z) (by simp[globV])
 unfold Lib.TabIs World.var?
 rw [show Tryz.prog.globalNamed "internal/strconv.uint64pow10" = some 7 by kernel_rfl]
 simp only[Option.bind_some,h1]
theorem zIp2 {w:World}(h:Laid (fun _=>none) w):TabAt 1 Lib.deBruijn32tab w:=by
 obtain ⟨⟨e,fr,h1⟩,_⟩:=h.v 1 (Lib.deBruijn32tab.map fun (k:Nat)=>Value.int .u8 (k:Int)) (by simp[globV]);intro j hj;have h2:(Lib.deBruijn32tab.map fun (k:Nat)=>Value.int .u8 (k:Int)).toArray[j]?=some (.int .u8 (Lib.deBruijn32tab.getD j 0:Nat)):=by simp[List.getElem?_eq_getElem hj,List.getD_eq_getElem?_getD]
 simp[World.cell?,h1,h2]
theorem zPi1 {w:World}(h:Laid (fun _=>none) w){b:Nat}(hb:b=3∨b=4):∃t p,w.cell? ⟨b,0,none⟩=some (.iface t p):=by
 obtain ⟨⟨t,p,e,fr,h1⟩,_⟩:=h.i b (by simpa[globI] using hb);exact⟨t,p,by simp[World.cell?,h1]⟩
theorem zPh1 {w:World}(h:Laid (fun _=>none) w):∃m,w.cell? ⟨2,0,none⟩=some (.int .i64 m):=by
 obtain ⟨⟨m,e,fr,h1⟩,_⟩:=h.n 2 (by simp[globN]);exact⟨m,by simp[World.cell?,h1]⟩
theorem zNs1 (w:World)(n:Nat):Below w.heap.size w (w.drewN n):=⟨rfl,rfl,rfl,Nat.le_refl _,fun _ _=>rfl⟩
theorem zTf1 (w:World)(k:Nat)(os:Array Obj):Below w.heap.size w (Sort.grow (w.drewN k) os):=
 ⟨rfl,rfl,rfl,by simp[Sort.grow,World.drewN],fun j hj=>by simp[Sort.grow,World.drewN];rw[Array.getElem?_append_left (by simpa using hj)]⟩
theorem zBp1 {g:Gh}{s:ByteArray}{v:Value}(h:DV g (.c (.im (.str s))) v):v=.string s:=by
 cases h with|c _ _ hc=>cases hc with|im _ _ hi=>exact hi.str_inv
theorem zFg2 {g:Gh}{k:IntKind}{n:Int}{v:Value}(h:DV g (.c (.im (.int k n))) v):v=.int k n:=by
 cases h with|c _ _ hc=>cases hc with|im _ _ hi=>exact hi.int_inv
theorem zKm1 {i:I}{v:Value}(h:∀fz,IR fz i v)(g:Gh):DV g (.c (.im i)) v:=.c _ _ (.im _ _ (h _))
theorem zMh1 {ds:List D}{args:List Value}(hl:args.length=ds.length){d:D}(hd:ds=[d]):∃v,args=[v]:=by
 subst hd
 match args,hl with
 | [v],_=>exact⟨v,rfl⟩
abbrev Z64:={n:Int//i64B n}
noncomputable def zNo1:Ct:=fam true (fun n:Z64=>([.c (.im (.int .i64 n.1))],[])) (fun n=>.one {val:=.c (.im (.str ⟨(Lib.itoa n.1).toArray⟩))})
theorem zNs {n:Int}(h:i64B n):zNo1.run [.c (.im (.int .i64 n))] []=some (.one {val:=.c (.im (.str ⟨(Lib.itoa n).toArray⟩))}):=by
 refine zAc (ct:=zNo1) rfl ?_ ⟨n,h⟩;rintro ⟨a,_⟩ ⟨b,_⟩ h;simp only[Prod.mk.injEq,List.cons.injEq,D.c.injEq,C.im.injEq,I.int.injEq,true_and,and_true] at h;exact Subtype.ext h
theorem zDf1 {n:Int}(h:i64B n){w:World}(hL:Laid (fun _=>none) w):Calls Tryz.prog 146 #[.int .i64 n] w fun e w'=>e=.returned (.string ⟨(Lib.itoa n).toArray⟩)∧Below w.heap.size w w':=
 (Any.strconv_Itoa Tryz.lays171 n h.1 h.2 w (zXj1 hL)).mono fun e w' ⟨F,k,os,E⟩=>⟨F,by rw[E];exact zTf1 w k os⟩
theorem zUw:Law Tryz.prog 146 zNo1:=by
 refine zFc1 (ds:=fun n:Z64=>[.c (.im (.int .i64 n.1))]) Tryz.func146 rfl rfl (fun a=>zAv rfl) (fun ⟨n,h⟩ args w hl E J=>?_);obtain ⟨v,rfl⟩:=zMh1 hl rfl;obtain ⟨g,F⟩:=E 0 _ v rfl rfl;rw[zFg2 F];exact (zDf1 h J).mono fun e w' ⟨G,U⟩=>⟨_,G,⟨_,rfl,rfl,rfl,fun _=>rfl,zKm1 fun _=>.str _⟩,U⟩
abbrev S21:={s:Txt//s.length≤2097152}
noncomputable def zYx:Ct:=fam true (fun s:S21=>([.c (.im (.str ⟨s.1.toArray⟩))],[])) (fun s=>.one {val:=.tup [.c (.im (.int .i64 (numF s.1).1)),.c (.im (.bool (numF s.1).2))]})
theorem zNt1:∀a b:S21,([D.c (.im (.str ⟨a.1.toArray⟩))],([]:List (List B)))=([D.c (.im (.str ⟨b.1.toArray⟩))],[])→a=b:=by
 rintro ⟨a,_⟩ ⟨b,_⟩ h;simp only[Prod.mk.injEq,List.cons.injEq,D.c.injEq,C.im.injEq,I.str.injEq,zLn,and_true] at h;exact Subtype.ext h
theorem zGd {s:Txt}(h:s.length≤2097152):zYx.run [.c (.im (.str ⟨s.toArray⟩))] []=some (.one {val:=.tup [.c (.im (.int .i64 (numF s).1)),.c (.im (.bool (numF s).2))]}):=
 zAc (ct:=zYx) rfl zNt1 ⟨s,h⟩
theorem zKo2 {sc:Bool}{n:Int}{b:Bool}:OkR sc {val:=.tup [.c (.im (.int .i64 n)),.c (.im (.bool b))]}:=
 ⟨.tup _ (by intro d hd;simp at hd;rcases hd with rfl|rfl;exact .inl ⟨_,rfl,zBr rfl⟩;exact .inl ⟨_,rfl,zBr rfl⟩),by simp,by simp⟩
theorem zNd2 {n:Int}{b:Bool}(g:Gh):DV g (.tup [.c (.im (.int .i64 n)),.c (.im (.bool b))]) (.tuple #[.int .i64 n,.bool b]):=by
 refine .tup _ _ rfl fun j d v hd E=>?_
 match j,hd,E with
 | 0,hd,E=>simp at hd E;subst hd E;exact zKm1 (fun _=>.int _ _) g
 | 1,hd,E=>simp at hd E;subst hd E;exact zKm1 (fun _=>.bool _) g
 | j+2,hd,E=>simp at hd
theorem laidB {w w':World}(h:Laid (fun _=>none) w)(hB:Below w.heap.size w w'):Laid (fun _=>none) w':=h.move fun b hb _=>⟨rfl,hB.block b hb⟩
theorem zHb1 {s:Txt}(hs:s.length≤2097152){v:Int}(h:Lib.atoiAll s=.ok v)(w:World):Calls Tryz.prog 151 #[.string ⟨s.toArray⟩] w fun e w'=>e=.returned (.tuple #[.int .i64 v,.nilIface])∧Below w.heap.size w w':=
 (Any.strconv_Atoi_ok Tryz.lays172 ⟨s.toArray⟩ (by rw[zGl];omega) v (by simpa using h) w).mono fun e w' ⟨F,E⟩=>⟨F,by
  rcases E with rfl|⟨t,rfl⟩
  ·exact Below.refl _ _
  ·exact Lib.bytesWorld_below _ _ _⟩
theorem zHc1 {s:Txt}(hs:s.length≤2097152)(h:∀v,Lib.atoiAll s≠.ok v){w:World}(hL:Laid (fun _=>none) w):
 Calls Tryz.prog 151 #[.string ⟨s.toArray⟩] w fun e w'=>∃N t,e=.returned (.tuple #[.int .i64 (numF s).1,.iface t (.pointer (some ⟨N,0,none⟩))])∧Below w.heap.size w w':=by
 cases E:Lib.atoiAll s with
 | ok v=>exact absurd E (h v)
 | range=>
  obtain ⟨t,p,hc⟩:=zPi1 hL (b:=4) (.inr rfl);refine (Any.strconv_Atoi_range Tryz.lays172 ⟨s.toArray⟩ (by rw[zGl];omega) (by simpa using E) _ w hc (.inr ⟨t,p,rfl⟩)).mono fun e w' ⟨N,F,_,_,G⟩=>⟨N,Tryz.lays172_ren.t 168,?_,G⟩;rw[F];simp[numF,E]
 | _=>
  obtain ⟨t,p,hc⟩:=zPi1 hL (b:=3) (.inl rfl);refine (Any.strconv_Atoi_syntax Tryz.lays172 ⟨s.toArray⟩ (by rw[zGl];omega) (by simpa using E) _ w hc (.inr ⟨t,p,rfl⟩)).mono fun e w' ⟨N,F,_,_,G⟩=>⟨N,Tryz.lays172_ren.t 168,?_,G⟩;rw[F];simp[numF,E]
theorem zHv2 {s:Txt}(h:∀v,Lib.atoiAll s≠.ok v):(numF s).2=false:=by
 unfold numF;split
 ·rename_i v hv;exact absurd hv (h v)
 ·rfl
 ·rfl
theorem zLa1 {s:Txt}(hs:s.length≤2097152){w:World}(hL:Laid (fun _=>none) w):Calls Tryz.prog 78 #[.string ⟨s.toArray⟩] w fun e w'=>e=.returned (.tuple #[.int .i64 (numF s).1,.bool (numF s).2])∧Below w.heap.size w w':=by
 rcases (show (∃v,Lib.atoiAll s=.ok v)∨(∀v,Lib.atoiAll s≠.ok v) from by
  cases V:Lib.atoiAll s with
  | ok v=>exact .inl ⟨v,rfl⟩
  | _=>exact .inr (fun v h=>by cases h)) with ⟨v,h⟩|h
 ·have hb:=Lib.atoiAll_bounds h
  go_enter Tryz.func78,Tryz.ntmps78
  go_wp2_with (first
   | (go_at_call 151;refine (zHb1 hs h _).mono ?_;rintro e G ⟨rfl,E⟩)
   | (go_at_call 146;refine (zDf1 hb (laidB hL E)).mono ?_;rintro e U ⟨rfl,F⟩))
  go_ret2
  refine⟨?_,E.trans (F.mono E.size)⟩;have e:(Lib.itoa v ==s)=decide (Lib.itoa v=s):=by by_cases h:Lib.itoa v=s<;>simp[h]
  simp[numF,h,e]
 ·have J:=zHv2 h
  go_enter Tryz.func78,Tryz.ntmps78
  go_wp2_with (go_at_call 151;refine (zHc1 hs h hL).mono ?_;rintro e G ⟨N,t,rfl,E⟩)
  go_ret2
  rw[J];exact⟨rfl,E⟩
theorem zSj:Law Tryz.prog 78 zYx:=by
 refine zFc1 (ds:=fun s:S21=>[.c (.im (.str ⟨s.1.toArray⟩))]) Tryz.func78 rfl rfl (fun a=>okO zKo2) (fun ⟨s,h⟩ args w hl E J=>?_);obtain ⟨v,rfl⟩:=zMh1 hl rfl;obtain ⟨g,F⟩:=E 0 _ v rfl rfl;rw[zBp1 F];exact (zLa1 h J).mono fun e w' ⟨G,U⟩=>⟨_,G,⟨_,rfl,rfl,rfl,fun _=>rfl,zNd2⟩,U⟩
abbrev U32:={m:Nat//0<m∧m<4294967296}
noncomputable def zJe2:Ct:=fam true (fun m:U32=>([.c (.im (.int .u32 (m.1:Int)))],[])) (fun m=>.one {val:=.c (.im (.int .i64 (tz m.1:Int)))})
theorem zJx2 {m:Nat}(h0:0<m)(h:m<4294967296):zJe2.run [.c (.im (.int .u32 (m:Int)))] []=some (.one {val:=.c (.im (.int .i64 (tz m:Int)))}):=by
 refine zAc (ct:=zJe2) rfl ?_ ⟨m,h0,h⟩;rintro ⟨a,_⟩ ⟨b,_⟩ h;simp only[Prod.mk.injEq,List.cons.injEq,D.c.injEq,C.im.injEq,I.int.injEq,true_and,and_true,Int.natCast_inj] at h;exact Subtype.ext h
theorem zDd1:∀(f m:Nat),0<m→m<2^ f→Lib.ctzFrom f m=tz m
 | 0,m,h0,h=>by simp at h;omega
 | f+1,m,h0,h=>by
  unfold Lib.ctzFrom tz;by_cases h1:m%2=1
  ·rw[if_pos h1,dif_pos (.inr h1)]
  ·rw[if_neg h1,dif_neg (by omega),zDd1 f (m / 2) (by omega) (by rw[Nat.pow_succ] at h;omega)];omega
theorem zLq2:Law Tryz.prog 206 zJe2:=by
 refine zFc1 (ds:=fun m:U32=>[.c (.im (.int .u32 (m.1:Int)))]) Tryz.func206 rfl rfl (fun a=>zAv rfl) (fun ⟨m,V,h⟩ args w hl F U=>?_);obtain ⟨v,rfl⟩:=zMh1 hl rfl;obtain ⟨g,G⟩:=F 0 _ v rfl rfl;rw[zFg2 G];refine (Any7.bits_TrailingZeros32 Tryz.lays28 m h w (fun _=>zIp2 U)).mono fun e w' ⟨J,E⟩=>⟨_,J,⟨_,rfl,rfl,rfl,fun _=>rfl,?_⟩,by rw[E];exact Below.refl _ _⟩
 have Z:Lib.ctz 32 m=tz m:=by
  unfold Lib.ctz;rw[if_neg (by omega),zDd1 32 m V h]
 rw[Z];exact zKm1 fun _=>.int _ _
abbrev SB:={x:Txt×UInt8//x.1.length≤2097152}
def oCut (s:Txt)(c:UInt8):Outs:=.one {val:=.tup [.c (.im (.str ⟨(Lib.cut s [c]).1.toArray⟩)),.c (.im (.str ⟨(Lib.cut s [c]).2.1.toArray⟩)),.c (.im (.bool (Lib.cut s [c]).2.2))]}
noncomputable def zYu1:Ct:=fam true (fun x:SB=>([.c (.im (.str ⟨x.1.1.toArray⟩)),.c (.im (.str ⟨#[x.1.2]⟩))],[])) (fun x=>oCut x.1.1 x.1.2)
theorem zLy1 {s:Txt}(h:s.length≤2097152)(c:UInt8):zYu1.run [.c (.im (.str ⟨s.toArray⟩)),.c (.im (.str ⟨#[c]⟩))] []=some (oCut s c):=by
 refine zAc (ct:=zYu1) rfl ?_ ⟨(s,c),h⟩;rintro ⟨⟨a,b⟩,_⟩ ⟨⟨F,E⟩,_⟩ h;simp only[Prod.mk.injEq,List.cons.injEq,D.c.injEq,C.im.injEq,I.str.injEq,zLn,and_true] at h;exact Subtype.ext (Prod.ext h.1 h.2)
theorem zXh1:Law Tryz.prog 77 zYu1:=by
 refine zFc1 (ds:=fun x:SB=>[.c (.im (.str ⟨x.1.1.toArray⟩)),.c (.im (.str ⟨#[x.1.2]⟩))]) Tryz.func77 rfl rfl (fun a=>okO ⟨.tup _ (by intro d hd;simp at hd;rcases hd with rfl|rfl|rfl<;>exact .inl ⟨_,rfl,zBr rfl⟩),by simp,by simp⟩) (fun ⟨⟨s,c⟩,h⟩ args w hl E Z=>?_)
 match args,hl with
 | [v0,v1],_=>
  obtain ⟨g,U⟩:=E 0 _ v0 rfl rfl;obtain ⟨g',F⟩:=E 1 _ v1 rfl rfl;rw[zBp1 U,zBp1 F];obtain ⟨m,J⟩:=zPh1 Z;refine (Any.strings_Cut Tryz.lays145 ⟨s.toArray⟩ ⟨#[c]⟩ m w (by rw[zGl];simp only at h;omega) J).mono fun e w' ⟨V,n,G⟩=>⟨_,V,⟨_,rfl,rfl,rfl,fun _=>rfl,fun g=>?_⟩,by rw[G];exact zNs1 w n⟩;refine .tup _ _ rfl fun j d v hd E=>?_
  match j,hd,E with
  | 0,hd,E=>simp at hd E;subst hd E;exact zKm1 (fun _=>.str _) g
  | 1,hd,E=>simp at hd E;subst hd E;exact zKm1 (fun _=>.str _) g
  | 2,hd,E=>simp at hd E;subst hd E;exact zKm1 (fun _=>.bool _) g
  | j+3,hd,E=>simp at hd
def rowsS (ps:List Txt):List (List I):=ps.map fun p=>[.str ⟨p.toArray⟩]
theorem zBe (ps:List Txt):(rowsS ps).length=ps.length:=by simp[rowsS]
theorem zOi1 {ps:List Txt}{k:Nat}{p:Txt}(h:ps[k]?=some p):(rowsS ps)[k]?=some [.str ⟨p.toArray⟩]:=by simp[rowsS,h]
theorem zBa:rowsS []=[]:=rfl
theorem zDu (p:Txt)(ps:List Txt):rowsS (p::ps)=[.str ⟨p.toArray⟩]::rowsS ps:=rfl
theorem zUu {a b:List Txt}:(rowsS a=rowsS b)=(a=b):=by
 apply propext;constructor
 ·intro h
  induction a generalizing b with
  | nil=>cases b with
   | nil=>rfl
   | cons y b=>simp[rowsS] at h
  | cons x a ih=>cases b with
   | nil=>simp[rowsS] at h
   | cons y b=>
    simp only[zDu,List.cons.injEq,I.str.injEq,zLn,and_true] at h;rw[h.1,ih h.2]
 ·rintro rfl;rfl
theorem zAn2 (s:Txt)(c:UInt8):Lib.splitB ⟨#[c]⟩ 0 (Lib.countB ⟨s.toArray⟩ ⟨#[c]⟩) ⟨s.toArray⟩=(splT c s).map fun p=>(⟨p.toArray⟩:ByteArray):=by
 have h:=Lib.splitB_data ⟨#[c]⟩ 0 (Lib.countB ⟨s.toArray⟩ ⟨#[c]⟩) ⟨s.toArray⟩;have e:(⟨#[c]⟩:ByteArray).data.toList=[c]:=rfl;have E:(⟨s.toArray⟩:ByteArray).data.toList=s:=by simp
 rw[e,E,zBq1 c _ s (by rw[Lib.countB,e,E,Lib.count_one];exact Nat.le_refl _)] at h;have h2:=congrArg (List.map fun p:Txt=>(⟨p.toArray⟩:ByteArray)) h;rw[List.map_map] at h2;rw[←h2]
 conv=>lhs;rw[←List.map_id (Lib.splitB _ _ _ _)]
 refine List.map_congr_left fun x _=>?_;exact zMk2 x
noncomputable def zRe:Ct:=fam false (fun x:SB=>([.c (.im (.str ⟨x.1.1.toArray⟩)),.c (.im (.str ⟨#[x.1.2]⟩))],[])) (fun x=>.one {val:=.c (.im (.sl 1 (rowsS (splT x.1.2 x.1.1))))})
theorem zQa {s:Txt}(h:s.length≤2097152)(c:UInt8):zRe.run [.c (.im (.str ⟨s.toArray⟩)),.c (.im (.str ⟨#[c]⟩))] []=some (.one {val:=.c (.im (.sl 1 (rowsS (splT c s))))}):=by
 refine zAc (ct:=zRe) rfl ?_ ⟨(s,c),h⟩;rintro ⟨⟨a,b⟩,_⟩ ⟨⟨F,E⟩,_⟩ h;simp only[Prod.mk.injEq,List.cons.injEq,D.c.injEq,C.im.injEq,I.str.injEq,zLn,and_true] at h;exact Subtype.ext (Prod.ext h.1 h.2)
theorem zBb:(zRe.sc=true)=False:=by simp[zRe,fam]
theorem zQq:Law Tryz.prog 39 zRe:=by
 have:=zCt2 (P:=Tryz.prog) (ds:=fun x:SB=>[.c (.im (.str ⟨x.1.1.toArray⟩)),.c (.im (.str ⟨#[x.1.2]⟩))]) (out:=fun x:SB=>(splT x.1.2 x.1.1).map fun p=>(⟨p.toArray⟩:ByteArray)) Tryz.func39 rfl rfl (fun ⟨⟨s,c⟩,h⟩ args w hl J hL=>?_)
 ·simp only[List.map_map] at this;exact this
 match args,hl with
 | [v0,v1],_=>
  obtain ⟨g,V⟩:=J 0 _ v0 rfl rfl;obtain ⟨g',F⟩:=J 1 _ v1 rfl rfl;rw[zBp1 V,zBp1 F];obtain ⟨m,U⟩:=zPh1 hL;have hs:(⟨s.toArray⟩:ByteArray).size<4294967281:=by rw[zGl];simp only at h;omega
  refine (Any.strings_Split Tryz.lays146 (by kernel_rfl) ⟨s.toArray⟩ ⟨#[c]⟩ m w hs U (Nat.le_refl 1)).mono fun e w' ⟨Z,G⟩=>?_;have E:=Lib.splitB_all ⟨#[c]⟩ (Nat.le_refl 1) 0 _ ⟨s.toArray⟩ rfl;rw[zAn2] at G E;refine⟨_,Lib.countB ⟨s.toArray⟩ ⟨#[c]⟩+1,?_,by rw[E];omega,G⟩;rw[Z,E]
end Go.SX
namespace Go.SX
open Go Go.Proofs Tryz Ieee
theorem zNy (x:Nat):bitsI .and .u32 (x:Int) 8388607=((x%8388608:Nat):Int):=by
 have h:(BitVec.ofInt 32 (x:Int) &&&BitVec.ofInt 32 8388607).toNat=x%8388608:=by
  rw[BitVec.toNat_and];have F:(BitVec.ofInt 32 (x:Int)).toNat=x%2^ 32:=by simp
  have E:(BitVec.ofInt 32 8388607).toNat=2^ 23-1:=by decide
  rw[F,E,Nat.and_two_pow_sub_one_eq_mod];omega
 show IntKind.u32.wrap _=_;rw[show (IntKind.u32.bits)=32 from rfl,h];show (((x%8388608:Nat):Int)%4294967296)=_;omega
theorem zTf (x:Nat):bitsI .and .u32 (x:Int) 255=((x%256:Nat):Int):=by
 have h:(BitVec.ofInt 32 (x:Int) &&&BitVec.ofInt 32 255).toNat=x%256:=by
  rw[BitVec.toNat_and];have F:(BitVec.ofInt 32 (x:Int)).toNat=x%2^ 32:=by simp
  have E:(BitVec.ofInt 32 255).toNat=2^ 8-1:=by decide
  rw[F,E,Nat.and_two_pow_sub_one_eq_mod];omega
 show IntKind.u32.wrap _=_;rw[show (IntKind.u32.bits)=32 from rfl,h];show (((x%256:Nat):Int)%4294967296)=_;omega
theorem zYy1 {x:Nat}(hx:x<8388608):bitsI .or .u32 (x:Int) 8388608=((8388608+x:Nat):Int):=by
 have h:(BitVec.ofInt 32 (x:Int) |||BitVec.ofInt 32 8388608).toNat=8388608+x:=by
  rw[BitVec.toNat_or];have F:(BitVec.ofInt 32 (x:Int)).toNat=x:=by simp;omega
  have E:(BitVec.ofInt 32 8388608).toNat=2^ 23:=by decide
  rw[F,E,Nat.or_comm];have:=Nat.two_pow_add_eq_or_of_lt (i:=23) (b:=x) (by omega) 1;rw[Nat.mul_one] at this;exact this.symm
 show IntKind.u32.wrap _=_;rw[show (IntKind.u32.bits)=32 from rfl,h];show (((8388608+x:Nat):Int)%4294967296)=_;omega
theorem zLn1 (x k:Nat)(hk:k≤32):(x:Int).fdiv (2^ min (k:Int).toNat 32)=((x / 2^ k:Nat):Int):=by
 rw[Int.toNat_natCast,Nat.min_eq_left hk];have h:(0:Int)≤2^ k:=by exact_mod_cast Nat.zero_le (2^ k)
 rw[Int.fdiv_eq_ediv_of_nonneg _ h]
 exact_mod_cast rfl
theorem zBm {n:Int}(h:i64B n):(Lib.itoa n).length≤21:=Lib.itoa_length_le n h.1 h.2
theorem zJa2 {w:Nat}(h:isFin w=true):isNaNb .f32 w=false:=by
 cases hn:isNaNb .f32 w with
 | false=>rfl
 | true=>rw[zYm hn] at h;cases h
def fsT (w:Nat):Txt:=if isFin w then fmtT w else []
theorem zCg2 {r:Nat}(h1:r<2139095040):(r / 8388608=0→rgM single r=r∧rgE single r = -149)∧(r / 8388608≠0→rgM single r=8388608+r%8388608∧rgE single r=((r / 8388608:Nat):Int)-150):=by
 unfold rgM rgE;rw[bn1,ep1];refine⟨fun h=>?_,fun h=>?_⟩
 ·rw[if_pos (by omega),if_pos (by omega)];exact⟨rfl,rfl⟩
 ·rw[if_neg (by omega),if_neg (by omega)];exact⟨rfl,by omega⟩
abbrev W32a:={w:Nat//w<4294967296}
noncomputable def zEk:Ct:=fam true (fun w:W32a=>([.c (.im (.flt .f32 w.1))],[])) (fun w=>.one {val:=.c (.im (.str ⟨(fsT w.1).toArray⟩))})
theorem zBy {w:Nat}(h:w<4294967296):zEk.run [.c (.im (.flt .f32 w))] []=some (.one {val:=.c (.im (.str ⟨(fsT w).toArray⟩))}):=by
 refine zAc (ct:=zEk) rfl ?_ ⟨w,h⟩;rintro ⟨a,_⟩ ⟨b,_⟩ h;simp only[Prod.mk.injEq,List.cons.injEq,D.c.injEq,C.im.injEq,I.flt.injEq,true_and,and_true] at h;exact Subtype.ext h
theorem zLk:Law prog 145 zEk:=by
 refine zAf (zAa zTy (zDn zQp (zAa zLq2 (zAa zUw zAd)))) hmixA func145 rfl rfl (fun ⟨w,hw⟩=>⟨zAv rfl,by simp[f145],?_⟩);simp only
 cases hf:isFin w with
 | false=>
  have e:fsT w=[]:=by simp[fsT,hf]
  try simp -dsimp only[go_sem,f145,zDb,hf,e,yaI]
 | true=>
  have hn:=zJa2 hf;have hr:w%2147483648<2139095040:=by simp only[isFin,yaG] at hf;omega
  obtain ⟨r,c1⟩:∃r,w%2147483648=r:=⟨_,rfl⟩;have e:fsT w=sgnT (decide (2147483648≤w))++magT r:=by simp[fsT,hf,fmtT,c1]
  rw[c1] at hr;obtain ⟨m1,m2⟩:=zCg2 hr;have V:(w:Int).fdiv (2^ min (Int.toNat 31) 32)=((w / 2147483648:Nat):Int):=zLn1 w 31 (by omega);have Z:(w:Int).fdiv (2^ min (Int.toNat 23) 32)=((w / 8388608:Nat):Int):=zLn1 w 23 (by omega);have U:IntKind.i64.wrap ((r / 8388608:Nat):Int)=((r / 8388608:Nat):Int):=zAi (by omega) (by omega);have F:w%8388608=r%8388608:=by omega
  have G:w / 8388608%256=r / 8388608:=by omega
  obtain ⟨S,hS,sl,E,d7⟩:∃S:Txt,fsT w=S++magT r∧S.length≤1∧((((w / 2147483648:Nat):Int)=1)=True∧S=[45]∨(((w / 2147483648:Nat):Int)=1)=False∧S=[])∧True:=by
   rw[e];by_cases hs:2147483648≤w
   ·exact⟨[45],by simp[sgnT,hs],by simp,.inl ⟨eq_true (by omega),rfl⟩,trivial⟩
   ·exact⟨[],by simp[sgnT,hs],by simp,.inr ⟨eq_false (by omega),rfl⟩,trivial⟩
  clear e d7;rw[hS];by_cases b6:r=0
  ·subst b6;have ce:(((0 / 8388608:Nat):Int)=0)=True:=(by simp);have cm:(((0%8388608:Nat):Int)=0)=True:=(by simp);have z:magT 0=[48]:=rfl;rcases E with ⟨E,rfl⟩|⟨E,rfl⟩
   ·skip
    try simp -dsimp only[go_sem,f145,zDb,hf,yaH,zFo hn,V,Z,zNy,zTf,F,G,U,E,ce,z,Int.reduceLT,zBu,yaS,Nat.reduceAdd,Nat.reduceLeDiff]
   ·skip
    try simp -dsimp only[go_sem,f145,zDb,hf,yaH,zFo hn,V,Z,zNy,zTf,F,G,U,E,ce,z,Int.reduceLT,zBu,yaS,Nat.reduceLeDiff]
  have b9:0<r:=Nat.pos_of_ne_zero b6;have b7:=zMo1 b9 hr;have d3:=zHq b9;have d8:=zNp (r:=r);have hz:=zEl2 (k:=24) d3 d8;obtain ⟨E1,E2⟩:=zPv hr;have b1:((rgM single r:Nat):Int).fdiv (2^ min (Int.toNat ((tz (rgM single r):Nat):Int)) 32)=((mdM r:Nat):Int):=zLn1 _ _ (by omega);have b2:IntKind.i64.wrap (rgE single r+((tz (rgM single r):Nat):Int))=mdE r:=by rw[zAi (by omega) (by omega)];rfl
  have rz:=zJx2 d3 (by omega:rgM single r<4294967296);have J:¬(((tz (rgM single r):Nat):Int)<0):=by omega
  have e5:=b7.lt;have b3:i64B ((mdM r:Nat):Int):=⟨by omega,by omega⟩;have d2:i64B (mdE r):=⟨by have:=b7.lo;omega,by have:=b7.hi;omega⟩;have b0:IntKind.i64.wrap ((mdM r:Nat):Int)=((mdM r:Nat):Int):=zAi b3.1 b3.2;have a8:=zNs b3;have a7:=zNs d2;have c8:magT r=Lib.itoa (mdM r)++112::Lib.itoa (mdE r):=by simp[magT,b6]
  have la:=zBm b3;have lb:=zBm d2;have b4:(((rgM single r:Nat):Int)=0)=False:=eq_false (by omega);generalize Lib.itoa (mdM r)=A at*;generalize Lib.itoa (mdE r)=B at*;have q1:1+A.length≤4611686018427387904:=by omega
  have q2:A.length+1+1≤4611686018427387904:=by omega
  have q3:A.length+1+1+B.length≤4611686018427387904:=by omega
  have q4:A.length≤4611686018427387904:=by omega
  have q5:A.length+1≤4611686018427387904:=by omega
  have q6:A.length+1+B.length≤4611686018427387904:=by omega
  have d0:S++A++[112]++B=S++magT r:=by rw[c8];simp
  rw[←d0];by_cases d1:r / 8388608=0
  ·obtain ⟨k1,k2⟩:=m1 d1;have ce:(((r / 8388608:Nat):Int)=0)=True:=eq_true (by omega);have c7:r%8388608=rgM single r:=(by rw[k1];omega);have a6:IntKind.i64.wrap (1-150)=rgE single r:=(by rw[k2];decide);rcases E with ⟨E,rfl⟩|⟨E,rfl⟩
   ·skip
    try simp -dsimp only[go_sem,f145,zDb,hf,yaH,zFo hn,V,Z,zNy,zTf,F,G,U,E,ce,c7,b4,rz,b1,J,b0,a8,a6,b2,a7,Int.reduceLT,zBu,yaS,yaw,q1,q2,q3]
   ·skip
    try simp -dsimp only[go_sem,f145,zDb,hf,yaH,zFo hn,V,Z,zNy,zTf,F,G,U,E,ce,c7,b4,rz,b1,J,b0,a8,a6,b2,a7,Int.reduceLT,zBu,yaS,yaw,q4,q5,q6]
  ·obtain ⟨k1,k2⟩:=m2 d1;have ce:(((r / 8388608:Nat):Int)=0)=False:=eq_false (by omega);have c6:bitsI .or .u32 ((r%8388608:Nat):Int) 8388608=((rgM single r:Nat):Int):=(by rw[zYy1 (by omega),k1]);have a6:IntKind.i64.wrap (((r / 8388608:Nat):Int)-150)=rgE single r:=(by rw[k2,zAi (by omega) (by omega)]);rcases E with ⟨E,rfl⟩|⟨E,rfl⟩
   ·skip
    try simp -dsimp only[go_sem,f145,zDb,hf,yaH,zFo hn,V,Z,zNy,zTf,F,G,U,E,ce,c6,b4,rz,b1,J,b0,a8,a6,b2,a7,Int.reduceLT,zBu,yaS,yaw,q1,q2,q3]
   ·skip
    try simp -dsimp only[go_sem,f145,zDb,hf,yaH,zFo hn,V,Z,zNy,zTf,F,G,U,E,ce,c6,b4,rz,b1,J,b0,a8,a6,b2,a7,Int.reduceLT,zBu,yaS,yaw,q4,q5,q6]
theorem zCe2:double.read 9218868437227405311=.number false 9007199254740991 971:=by decide +kernel
theorem zNi1 {y:Nat}{s:Bool}{m:Nat}{e:Int}(h:double.read y=.number s m e)(hm:m<9007199254740992)(he:e≤900):fcmp .gtr .f64 y 9218868437227405311=false:=by
 show (double.order y 9218868437227405311 ==some .gt)=false;unfold Format.order;rw[h,zCe2];simp only[Datum.order];have hb:min e 971=e:=by omega
 rw[hb];have G:(e-e).toNat=0:=by omega
 rw[G]
 have E:2≤2^ (971-e).toNat:=by
   calc 2=2^ 1:=rfl
     _≤_:=Nat.pow_le_pow_right (by omega) (by omega)
 have h2:signed false 9007199254740991 (971-e).toNat=((9007199254740991*2^ (971-e).toNat:Nat):Int):=by simp[signed,zGa]
 have h3:(9007199254740991*2:Nat)≤9007199254740991*2^ (971-e).toNat:=Nat.mul_le_mul_left _ E;have h1:signed s m 0≤(m:Int):=by cases s<;>simp[signed]<;>omega
 have F:signed s m 0<signed false 9007199254740991 (971-e).toNat:=by rw[h2];omega
 have:compare (signed s m 0) (signed false 9007199254740991 (971-e).toNat)=.lt:=by simp[compare,compareOfLessAndEq,F]
 rw[this];rfl
theorem zZs1 {R:Nat}(h:R<2^ 63):R ^^^ 2^ 63=2^ 63+R∧(2^ 63+R) ^^^ 2^ 63=R:=by
 have h1:2^ 63 |||R=2^ 63+R:=by
  have:=Nat.two_pow_add_eq_or_of_lt (i:=63) (b:=R) h 1;rw[Nat.mul_one] at this;exact this.symm
 have hb:R.testBit 63=false:=Nat.testBit_lt_two_pow h
 have hx:R ^^^ 2^ 63=2^ 63+R:=by
  rw[←h1];apply Nat.eq_of_testBit_eq;intro i;rw[Nat.testBit_xor,Nat.testBit_or,Nat.testBit_two_pow];by_cases e:63=i
  ·subst e;simp[hb]
  ·simp[e]
 refine⟨hx,?_⟩;rw[←hx,Nat.xor_assoc,Nat.xor_self,Nat.xor_zero]
theorem zBw2 {s:Bool}{R:Nat}(h:R<2^ 63):Op.negFloat .f64 (double.word s R)=double.word (!s) R:=by
 obtain ⟨h1,h2⟩:=zZs1 h;have e:double.signWeight=2^ 63:=by decide
 have hx:∀x,Op.negFloat .f64 x=x ^^^ 2^ 63:=fun x=>rfl;rw[hx]
 cases s
 ·simp only[Format.word,e,yat,yau,yaI,yav];exact h1
 ·simp only[Format.word,e,yav,yaH,yat,yau];exact h2
theorem zFt2 {w:Nat}(hw:w<4294967296)(hf:w%2147483648<2139095040):
 ∃(R m:Nat) (e:Int),w64 w=double.word (decide (2147483648≤w)) R∧R<double.infRung∧(∀s,double.read (double.word s R)=.number s m e)∧m<9007199254740992∧e≤900:=by
 obtain ⟨r,hr⟩:∃r,w%2147483648=r:=⟨_,rfl⟩;rw[hr] at hf
 have F:w=single.word (decide (2147483648≤w)) r:=by
  unfold Format.word;rw[sw1];by_cases h:2147483648≤w
  ·simp[h];omega
  ·simp[h];omega
 have hd:FloatKind.f32.decode w=.number (decide (2147483648≤w)) (rgM single r) (rgE single r):=by
  have:=zGs (f:=single) (by decide) (r:=r) (by rw[ir1];exact hf) (decide (2147483648≤w));rw[←F] at this;exact this
 by_cases h0:r=0
 ·subst h0;have E:∀s,double.read (double.word s 0)=.number s 0 (-1074):=fun s=>by cases s<;>decide +kernel
  have U:∀s,FloatKind.f64.encode (.number s (rgM single 0) (rgE single 0))=double.word s 0:=fun s=>by cases s<;>decide +kernel
  refine⟨0,0,-1074,?_,by decide,E,by omega,by omega⟩;unfold w64 fconv;rw[if_neg (by decide),hd];simp only[U];have G:FloatKind.f64.decode (double.word (decide (2147483648≤w)) 0)=.number (decide (2147483648≤w)) 0 (-1074):=E _;rw[G];rfl
 ·have V:=Nat.pos_of_ne_zero h0;obtain ⟨M,last,a,b,c,d,g⟩:=zPu1 (zYh1 V hf);have J:M<9007199254740992:=a.lt
  have Z:(last-double.leastPlace).toNat*double.binade+M<double.infRung:=by
   rw[ep2,bn2,ir2];omega
  obtain ⟨k1,k2⟩:=zHa1 a;have E:∀s,double.read (double.word s ((last-double.leastPlace).toNat*double.binade+M))=.number s M last:=fun s=>by rw[zGs (by decide) Z,k1,k2]
  have U:∀s,FloatKind.f64.encode (.number s (rgM single r) (rgE single r))=double.word s ((last-double.leastPlace).toNat*double.binade+M):=fun s=>by
   show double.nearest s _ _=_;rw[zFg a b,Nat.min_eq_left (by omega)]
  refine⟨_,M,last,?_,Z,E,J,c⟩;unfold w64 fconv;rw[if_neg (by decide),hd];simp only[U];have G:FloatKind.f64.decode (double.word (decide (2147483648≤w)) ((last-double.leastPlace).toNat*double.binade+M))=.number (decide (2147483648≤w)) M last:=E _;rw[G];rfl
theorem zDd2:double.infRung<2^ 63:=by decide
theorem zXp1 {w:Nat}(hw:w<4294967296)(hf:w%2147483648<2139095040):fcmp .gtr .f64 (w64 w) 9218868437227405311=false∧fcmp .gtr .f64 (Op.negFloat .f64 (w64 w)) 9218868437227405311=false:=by
 obtain ⟨R,m,e,h1,h2,h3,h4,E⟩:=zFt2 hw hf;have F:=zDd2;refine⟨zNi1 (by rw[h1];exact h3 _) h4 E,zNi1 (s:=!decide (2147483648≤w)) ?_ h4 E⟩;rw[h1,zBw2 (by omega)];exact h3 _
theorem zXn1:fcmp .gtr .f64 (w64 2139095040) 9218868437227405311=true:=by decide +kernel
theorem zXo1:fcmp .gtr .f64 (w64 4286578688) 9218868437227405311=false∧fcmp .gtr .f64 (Op.negFloat .f64 (w64 4286578688)) 9218868437227405311=true:=by constructor<;>decide +kernel
theorem zVu1 {w:Nat}(h:2139095040<w%2147483648):fcmp .neq .f32 w w=true:=by
 have hr:∃s t,single.read w=.nan s t:=by
  unfold Format.read;simp only[sw1,bn1,ir1];rw[if_neg (by omega),if_neg (by omega),if_neg (by omega)];exact⟨_,_,rfl⟩
 obtain ⟨s,t,hr⟩:=hr;show (single.order w w !=some .eq)=true;unfold Format.order;rw[hr];rfl
theorem zGz1 (x:Int):compare x x=.eq:=by simp[compare,compareOfLessAndEq]
theorem zVt1 {w:Nat}(h:¬2139095040<w%2147483648):fcmp .neq .f32 w w=false:=by
 show (single.order w w !=some .eq)=false;unfold Format.order Format.read;simp only[sw1,bn1,ir1];split
 ·simp only[Datum.order,Int.min_self,zGz1];rfl
 ·split
  ·simp only[Datum.order,Int.min_self,zGz1];rfl
  ·split
   ·simp only[Datum.order]
    cases (w / 2147483648%2 ==1)<;>rfl
   ·omega
def infC (x:Nat×Bool):Bool:=fcmp .gtr .f64 (if x.2 then x.1 else Op.negFloat .f64 x.1) 9218868437227405311
noncomputable def zRf:Ct:=fam true (fun x:Nat×Bool=>([.c (.im (.flt .f64 x.1)),.c (.im (.int .i64 (if x.2 then 1 else -1)))],[])) (fun x=>.one {val:=.c (.im (.bool (infC x)))})
theorem zKc1:∀x y:Nat×Bool,([D.c (.im (.flt .f64 x.1)),.c (.im (.int .i64 (if x.2 then 1 else -1)))],([]:List (List B)))=([D.c (.im (.flt .f64 y.1)),.c (.im (.int .i64 (if y.2 then 1 else -1)))],[])→x=y:=by
 rintro ⟨a,b⟩ ⟨F,E⟩ h;simp only[Prod.mk.injEq,List.cons.injEq,D.c.injEq,C.im.injEq,I.flt.injEq,I.int.injEq,true_and,and_true] at h;obtain ⟨rfl,h⟩:=h
 cases b<;>cases E<;>simp at h ⊢
theorem zRx (y:Nat):zRf.run [.c (.im (.flt .f64 y)),.c (.im (.int .i64 1))] []=some (.one {val:=.c (.im (.bool (fcmp .gtr .f64 y 9218868437227405311)))}):=
 zAc (ct:=zRf) rfl zKc1 (y,true)
theorem zCc1 (y:Nat):zRf.run [.c (.im (.flt .f64 y)),.c (.im (.int .i64 (-1)))] []=some (.one {val:=.c (.im (.bool (fcmp .gtr .f64 (Op.negFloat .f64 y) 9218868437227405311)))}):=
 zAc (ct:=zRf) rfl zKc1 (y,false)
theorem zXg1:Law prog 144 zRf:=by
 refine zAf zAd hmixA func144 rfl rfl (fun ⟨y,b⟩=>⟨zAv rfl,by simp[f144],?_⟩)
 cases b with
 | true=>
  simp only[infC,yav];try simp -dsimp only[go_sem,f144,Int.reduceEq,Int.reduceLT]
 | false=>
  simp only[infC,yat,yau];try simp -dsimp only[go_sem,f144,Int.reduceEq,Int.reduceLT,Int.reduceNeg]
noncomputable def zHi:Ct:=fam true (fun w:W32a=>([.c (.im (.flt .f32 w.1))],[])) (fun w=>.one {val:=.c (.im (.str ⟨(sglT w.1).toArray⟩))})
theorem zCp {w:Nat}(h:w<4294967296):zHi.run [.c (.im (.flt .f32 w))] []=some (.one {val:=.c (.im (.str ⟨(sglT w).toArray⟩))}):=by
 refine zAc (ct:=zHi) rfl ?_ ⟨w,h⟩;rintro ⟨a,_⟩ ⟨b,_⟩ h;simp only[Prod.mk.injEq,List.cons.injEq,D.c.injEq,C.im.injEq,I.flt.injEq,true_and,and_true] at h;exact Subtype.ext h
theorem zOh:Law prog 71 zHi:=by
 refine zAf (zAa zXg1 (zAa zLk zAd)) hmixA func71 rfl rfl (fun ⟨w,U⟩=>⟨zAv rfl,by simp[f71],?_⟩);simp only;by_cases h1:2139095040<w%2147483648
 ·have F:sglT w=nanT:=by unfold sglT;rw[if_pos h1]
  have J:=zVu1 h1;rw[F,nanT];try simp -dsimp only[go_sem,f71,J]
 have J:=zVt1 h1;by_cases h2:w%2147483648=2139095040
 ·by_cases h3:2147483648≤w
  ·have:w=4286578688:=(by omega);subst this;have F:sglT 4286578688=ninfT:=(by decide);obtain ⟨G,i2⟩:=zXo1;generalize hx:w64 4286578688=y at*;have E:=zSr (x:=4286578688);rw[hx] at E;generalize (4286578688:Nat)=w at*;rw[F,ninfT];try simp -dsimp only[go_sem,f71,J,E,zRx,zCc1,G,i2]
  ·have:w=2139095040:=(by omega);subst this;have F:sglT 2139095040=infT:=(by decide);have G:=zXn1;generalize hx:w64 2139095040=y at*;have E:=zSr (x:=2139095040);rw[hx] at E;generalize (2139095040:Nat)=w at*;rw[F,infT];try simp -dsimp only[go_sem,f71,J,E,zRx,G]
 ·have hf:isFin w=true:=by simp only[isFin,yaG];omega
  have F:sglT w=fsT w:=by unfold sglT fsT;rw[if_neg h1,if_neg h2,if_pos hf]
  obtain ⟨G,i2⟩:=zXp1 U (by omega);rw[F];try simp -dsimp only[go_sem,f71,J,zSr,zRx,zCc1,G,i2,zBy U]
theorem zDp2 {w:Nat}(h:Fin32 w):(fmtT w).length≤44:=by
 have hs:∀b,(sgnT b).length≤1:=fun b=>by cases b<;>simp[sgnT]
 have h1:=hs (decide (2147483648≤w));unfold fmtT;rw[List.length_append];unfold magT;split
 ·simp;omega
 ·rename_i F;have E:=zMo1 (Nat.pos_of_ne_zero F) h.fin;have a:=zBm (n:=(mdM (w%2147483648):Int)) ⟨by omega,by have:=E.lt;omega⟩;have b:=zBm (n:=mdE (w%2147483648)) ⟨by have:=E.lo;omega,by have:=E.hi;omega⟩;simp only[yaw,yab];omega
theorem zDi {w:Nat}(hw:w<4294967296):(sglT w).length≤44:=by
 unfold sglT;split
 ·simp[nanT]
 ·split
  ·split
   ·simp[ninfT]
   ·simp[infT]
  ·exact zDp2 ⟨hw,by omega⟩
theorem zRl {α:Type}{l:List α}{k:Nat}{p:α}(h:l[k]?=some p):l.take (k+1)=l.take k++[p]:=by rw[List.take_add_one,h];rfl
abbrev PtW:={p:Pt//p.1<4294967296∧p.2<4294967296}
def ptT (p:Pt):Txt:=sglT p.1++32::sglT p.2
noncomputable def zIx:Ct:=fam true (fun p:PtW=>([.c (.im (.cpx .f32 p.1.1 p.1.2))],[])) (fun p=>.one {val:=.c (.im (.str ⟨(ptT p.1).toArray⟩))})
theorem zBw {u v:Nat}(h1:u<4294967296)(h2:v<4294967296):zIx.run [.c (.im (.cpx .f32 u v))] []=some (.one {val:=.c (.im (.str ⟨(ptT (u,v)).toArray⟩))}):=by
 refine zAc (ct:=zIx) rfl ?_ ⟨(u,v),h1,h2⟩;rintro ⟨⟨a,b⟩,_⟩ ⟨⟨F,E⟩,_⟩ h;simp only[Prod.mk.injEq,List.cons.injEq,D.c.injEq,C.im.injEq,I.cpx.injEq,true_and,and_true] at h;exact Subtype.ext (Prod.ext h.1 h.2)
theorem zKq:Law prog 143 zIx:=by
 refine zAf (zAa zOh zAd) hmixA func143 rfl rfl (fun ⟨⟨u,v⟩,h1,h2⟩=>⟨zAv rfl,by simp[f143],?_⟩);simp only[ptT];have F:=zCp h1;have E:=zCp h2;have la:=zDi h1;have lb:=zDi h2;simp only at la lb F E;generalize sglT u=A at*;generalize sglT v=B at*;have J:A.length+1≤4611686018427387904:=by omega
 have G:A.length+1+B.length≤4611686018427387904:=by omega
 have e:A++[32]++B=A++32::B:=by simp
 try simp -dsimp only[go_sem,f143,F,E,J,G,zBu,e,yaS,yaw]
theorem zHy {p:Pt}(h:p.1<4294967296∧p.2<4294967296):(ptT p).length≤89:=by
 have a:=zDi h.1;have b:=zDi h.2;simp only[ptT,yaw,yab];omega
theorem zHo (a b:List Txt):behind (a++b)=behind a++behind b:=by simp[behind]
theorem zZz (p:Pt):behind (ptW p)=32::ptT p:=by simp[behind,ptW,ptT]
theorem zOo1 (a b:List Pt):ptsW (a++b)=ptsW a++ptsW b:=by simp[ptsW]
theorem zBn:∀(l:List Pt),(∀p∈l,p.1<4294967296∧p.2<4294967296)→(behind (ptsW l)).length≤90*l.length
 | [],_=>by simp[behind,ptsW]
 | p::l,h=>by
  have F:=zBn l (fun q E=>h q (List.mem_cons_of_mem _ E));have e:ptsW (p::l)=ptW p++ptsW l:=by simp[ptsW]
  have:=zHy (h p (by simp));rw[e,zHo,zZz,List.length_append,List.length_cons,List.length_cons];omega
structure APtw where
 l:List Pt
 h:l.length≤sm
 w:∀p∈l,p.1<4294967296∧p.2<4294967296
noncomputable def zCo:Ct:=fam true (fun x:APtw=>([.c (.im (.sl 1 (rowsZ x.l)))],[])) (fun x=>.one {val:=.c (.im (.str ⟨(behind (ptsW x.l)).toArray⟩))})
theorem zDt {l:List Pt}(h:l.length≤sm)(w:∀p∈l,p.1<4294967296∧p.2<4294967296):zCo.run [.c (.im (.sl 1 (rowsZ l)))] []=some (.one {val:=.c (.im (.str ⟨(behind (ptsW l)).toArray⟩))}):=by
 refine zAc (ct:=zCo) rfl ?_ ⟨l,h,w⟩;rintro ⟨a,_,_⟩ ⟨b,_,_⟩ h;simp only[Prod.mk.injEq,List.cons.injEq,D.c.injEq,C.im.injEq,I.sl.injEq,true_and,and_true,zAs] at h;subst h;rfl
theorem zFl:(zCo.sc=true)=True:=by simp[zCo,fam]
theorem zOj:Law prog 70 zCo:=by
 refine zAf (zAa zKq zAd) hmixA func70 rfl rfl (fun ⟨l,hl,hw⟩=>⟨zAv rfl,by simp[f70],?_⟩);simp only;have b3:sm=16777216:=rfl;try simp -dsimp only[go_sem,f70,zAb]
 refine zAp (ι:={k:Nat//k≤l.length}) (fun k=>⟨[(3,some (.c (.im (.str ⟨(behind (ptsW (l.take k.1))).toArray⟩)))),(6,some (.c (.im (.sl 1 (rowsZ l))))),(7,some (.c (.im (.int .i64 (l.length:Int))))),(8,some (.c (.im (.int .i64 (k.1:Int)))))],
  [],0⟩) (fun k=>l.length-k.1) ⟨0,by simp⟩ ⟨[],[],by ((simp only[go_sem,yai,yan,behind,ptsW,yaP])<;>(try (simp -dsimp only[go_sem,yaj,yai,yan,behind,ptsW,yaP])))<;>simp⟩ (fun ⟨k,hk⟩=>?_)
 simp only;by_cases G:k<l.length
 ·obtain ⟨⟨u,v⟩,F⟩:∃p,l[k]?=some p:=⟨_,List.getElem?_eq_getElem G⟩;have E:=zBz F;have hI:((k:Int)<(l.length:Int))=True:=by simp;omega
  have h0:0≤(k:Int):=by simp
  have V:=zDh hl G;obtain ⟨U,J⟩:=hw _ (List.mem_of_getElem? F);simp only at U J;have rp:=zBw U J
  have Z:behind (ptsW (l.take (k+1)))=behind (ptsW (l.take k))++32::ptT (u,v):=by
   rw[zRl F,zOo1,zHo];simp[ptsW,zZz]
  have la:=zHy (p:=(u,v)) ⟨U,J⟩;have lb:=zBn (l.take k) (fun p F=>hw p (List.mem_of_mem_take F));have lc:(l.take k).length≤l.length:=by rw[List.length_take];omega
  generalize ptT (u,v)=A at*;generalize behind (ptsW (l.take k))=X at*;have q1:1+A.length≤4611686018427387904:=by omega
  have q2:X.length+(A.length+1)≤4611686018427387904:=by omega
  try simp -dsimp only[go_sem,hI,h0,Int.toNat_natCast,E,V,rp,q1,q2,zBu,yaS]
  exact⟨⟨k+1,by omega⟩,by simp only[];omega,[],[],by (simp only[go_sem,yai,Z])<;>simp⟩
 ·have hI:((k:Int)<(l.length:Int))=False:=by simp;omega
  have a6:l.take k=l:=List.take_of_length_le (by omega);rw[a6];try simp -dsimp only[go_sem,f70,hI]
theorem zDw:∀(l:List Int),(∀n∈l,i64B n)→(behind (l.map Lib.itoa)).length≤22*l.length
 | [],_=>by simp[behind]
 | n::l,h=>by
  have F:=zDw l (fun q E=>h q (List.mem_cons_of_mem _ E));have e:behind ((n::l).map Lib.itoa)=(32::Lib.itoa n)++behind (l.map Lib.itoa):=by simp[behind]
  have:=zBm (h n (by simp));rw[e,List.length_append,List.length_cons,List.length_cons];omega
structure AInw where
 l:List Int
 h:l.length≤sm
 w:∀n∈l,i64B n
noncomputable def zDs:Ct:=fam true (fun x:AInw=>([.c (.im (.sl 1 (rowsN x.l)))],[])) (fun x=>.one {val:=.c (.im (.str ⟨(behind (x.l.map Lib.itoa)).toArray⟩))})
theorem zIn {l:List Int}(h:l.length≤sm)(w:∀n∈l,i64B n):zDs.run [.c (.im (.sl 1 (rowsN l)))] []=some (.one {val:=.c (.im (.str ⟨(behind (l.map Lib.itoa)).toArray⟩))}):=by
 refine zAc (ct:=zDs) rfl ?_ ⟨l,h,w⟩;rintro ⟨a,_,_⟩ ⟨b,_,_⟩ h;simp only[Prod.mk.injEq,List.cons.injEq,D.c.injEq,C.im.injEq,I.sl.injEq,true_and,and_true,zAx] at h;subst h;rfl
theorem zKh:(zDs.sc=true)=True:=by simp[zDs,fam]
theorem zJs1:Law prog 72 zDs:=by
 refine zAf (zAa zUw zAd) hmixA func72 rfl rfl (fun ⟨l,hl,hw⟩=>⟨zAv rfl,by simp[f72],?_⟩);simp only;have b2:sm=16777216:=rfl;try simp -dsimp only[go_sem,f72,zAe]
 refine zAp (ι:={k:Nat//k≤l.length}) (fun k=>⟨[(3,some (.c (.im (.str ⟨(behind ((l.take k.1).map Lib.itoa)).toArray⟩)))),(6,some (.c (.im (.sl 1 (rowsN l))))),(7,some (.c (.im (.int .i64 (l.length:Int))))),(8,some (.c (.im (.int .i64 (k.1:Int)))))],
  [],0⟩) (fun k=>l.length-k.1) ⟨0,by simp⟩ ⟨[],[],by ((simp only[go_sem,yai,yan,List.map_nil,behind,yaP])<;>(try (simp -dsimp only[go_sem,yaj,yai,yan,List.map_nil,behind,yaP])))<;>simp⟩ (fun ⟨k,hk⟩=>?_)
 simp only;by_cases G:k<l.length
 ·obtain ⟨n,F⟩:∃p,l[k]?=some p:=⟨_,List.getElem?_eq_getElem G⟩;have E:=zEx F;have Z:((k:Int)<(l.length:Int))=True:=by simp;omega
  have h0:0≤(k:Int):=by simp
  have J:=zDh hl G;have hn:=hw _ (List.mem_of_getElem? F);have rp:=zNs hn
  have U:behind ((l.take (k+1)).map Lib.itoa)=behind ((l.take k).map Lib.itoa)++32::Lib.itoa n:=by
   rw[zRl F,List.map_append,zHo];simp[behind]
  have la:=zBm hn;have lb:=zDw (l.take k) (fun p F=>hw p (List.mem_of_mem_take F));have lc:(l.take k).length≤l.length:=by rw[List.length_take];omega
  generalize Lib.itoa n=A at*;generalize behind ((l.take k).map Lib.itoa)=X at*;have q1:1+A.length≤4611686018427387904:=by omega
  have q2:X.length+(A.length+1)≤4611686018427387904:=by omega
  try simp -dsimp only[go_sem,Z,h0,Int.toNat_natCast,E,J,rp,q1,q2,zBu,yaS]
  exact⟨⟨k+1,by omega⟩,by simp only[];omega,[],[],by (simp only[go_sem,yai,U])<;>simp⟩
 ·have Z:((k:Int)<(l.length:Int))=False:=by simp;omega
  have V:l.take k=l:=List.take_of_length_le (by omega);rw[V];try simp -dsimp only[go_sem,f72,Z]
def rNames:Res:={val:=.c (.view 0 1 0 9),roots:=[.arr 1 [[.im (.str ⟨#[]⟩)],[.im (.str ⟨#[115,111,117,114,99,101]⟩)],[.im (.str ⟨#[109,105,120,101,114]⟩)],[.im (.str ⟨#[103,97,105,110]⟩)],[.im (.str ⟨#[100,101,108,97,121]⟩)],[.im (.str ⟨#[115,117,109]⟩)],[.im (.str ⟨#[115,108,105,99,101,114]⟩)],[.im (.str ⟨#[109,101,116,101,114]⟩)],[.im (.str ⟨#[104,111,108,100]⟩)]]]}
theorem zVi1 {sc:Bool}:OkR sc rNames:=by
 refine⟨.c _ (.view _ _ _ _ (by simp[rNames])),fun r hr=>?_,by simp[rNames]⟩;simp only[rNames,yaz] at hr;subst hr;intro row E t F;simp only[yac,yad,or_false] at E;rcases E with rfl|rfl|rfl|rfl|rfl|rfl|rfl|rfl|rfl<;>(simp only[yaz] at F;subst F;exact .im _ (.inr rfl))
noncomputable def zIy:Ct:=fam true (fun _:Unit=>([],[])) (fun _=>.one rNames)
theorem zCm:zIy.run [] []=some (.one rNames):=zAc (ct:=zIy) rfl (fun _ _ _=>rfl) ()
theorem zQn:Law prog 41 zIy:=by
 refine zAf zAd hmixA func41 rfl rfl (fun _=>⟨okO zVi1,by simp[f41],?_⟩);simp only[rNames];try simp -dsimp only[go_sem,f41]
 exact⟨[0],by simp,by simp,by simp[rtOk],by simp⟩
structure AFm where
 m:Mod
 ok:OkM m
 w:W32 m
 rat:i64B m.rat
 cnt:i64B m.count
 lft:i64B m.left
 lab:∀x∈m.lab,i64B x
noncomputable def zDk:Ct:=fam true (fun x:AFm=>([.agg (modC x.m)],[])) (fun x=>.one {val:=.c (.im (.str ⟨(fmtM x.m).toArray⟩))})
theorem zBg (x:AFm):zDk.run [.agg (modC x.m)] []=some (.one {val:=.c (.im (.str ⟨(fmtM x.m).toArray⟩))}):=by
 refine zAc (ct:=zDk) rfl ?_ x;rintro ⟨a,_,_,_,_,_,_⟩ ⟨b,_,_,_,_,_,_⟩ h;simp only[Prod.mk.injEq,List.cons.injEq,D.agg.injEq,and_true] at h;have:=zDj h;subst this;rfl
theorem zAz:(zDk.sc=true)=True:=by simp[zDk,fam]
theorem zHp1 {pts:List Pt}{lab:List Int}(hl:pts.length=lab.length){k:Nat}{p:Pt}{n:Int}(hp:pts[k]?=some p)(hn:lab[k]?=some n):tabW (pts.take (k+1)) (lab.take (k+1))=tabW (pts.take k) (lab.take k)++[sglT p.1,sglT p.2,Lib.itoa n]:=by
 induction k generalizing pts lab with
 | zero=>
  cases pts with
  | nil=>simp at hp
  | cons a pts=>cases lab with
   | nil=>simp at hn
   | cons b lab=>
    simp at hp hn;subst hp hn;simp[tabW]
 | succ k ih=>
  cases pts with
  | nil=>simp at hp
  | cons a pts=>cases lab with
   | nil=>simp at hn
   | cons b lab=>
    have:=ih (pts:=pts) (lab:=lab) (by simpa using hl) (by simpa using hp) (by simpa using hn);simp only[List.take_succ_cons,tabW,this,List.cons_append]
theorem zUp:∀(pts:List Pt) (lab:List Int),(∀p∈pts,p.1<4294967296∧p.2<4294967296)→(∀x∈lab,i64B x)→(behind (tabW pts lab)).length≤120*pts.length
 | [],_,_,_=>by simp[tabW,behind]
 | _::_,[],_,_=>by simp[tabW,behind]
 | p::pts,n::lab,h1,h2=>by
  have F:=zUp pts lab (fun q E=>h1 q (List.mem_cons_of_mem _ E)) (fun q E=>h2 q (List.mem_cons_of_mem _ E));have a:=zDi (h1 p (by simp)).1;have b:=zDi (h1 p (by simp)).2;have c:=zBm (h2 n (by simp));have e:behind (tabW (p::pts) (n::lab))=32::sglT p.1++(32::sglT p.2++(32::Lib.itoa n++behind (tabW pts lab))):=by simp[tabW,behind]
  rw[e];simp only[yaw,yab];omega
theorem zUj:Law prog 23 zDk:=by
 refine zAf (zAa zFh (zAa zQn (zAa zOj (zAa zOh (zAa zJs1 zAd))))) hmixA func23 rfl rfl (fun ⟨m,ok,G,a7,J,b0,Z⟩=>⟨zAv rfl,by simp[f23],?_⟩);simp only;have d9:sm=16777216:=rfl;have c9:((9:Nat):Int)=9:=rfl
 cases V:isModuleF m with
 | false=>
  have hT:fmtM m=[]:=by simp[fmtM,V]
  rw[hT];obtain ⟨k,⟨t1,t2⟩,⟨s1,s2⟩,lv,st,ra,rc,pts,lab,c,lf⟩:=m;have F:=zBk (k:=k) (t1:=t1) (t2:=t2) (s1:=s1) (s2:=s2) (lv:=lv) (ra:=ra) (rc:=rc) (c:=c) (l:=lf) ok.store ok.pts ok.lab;rw[V] at F;simp only[modC];try simp -dsimp only[go_sem,f23,F,yaI]
 | true=>
  have hT:fmtM m=nameT m.kind++behind (restW m):=by simp[fmtM,V]
  rw[hT];have F:=fun (k:Int) (t1 t2 s1 s2 lv:Nat) (st:List Pt) (ra rc:Int) (pts:List Pt) (lab:List Int) (c lf:Int) (e:m=⟨k,(t1,t2),(s1,s2),lv,st,ra,rc,pts,lab,c,lf⟩)=>zBk (k:=k) (t1:=t1) (t2:=t2) (s1:=s1) (s2:=s2) (lv:=lv) (st:=st) (ra:=ra) (rc:=rc) (pts:=pts) (lab:=lab) (c:=c) (l:=lf) (by have:=ok.store;rw[e] at this;exact this) (by have:=ok.pts;rw[e] at this;exact this) (by have:=ok.lab;rw[e] at this;exact this);rcases zEc V with ⟨⟨t1,t2⟩,⟨s1,s2⟩,e⟩|⟨⟨t1,t2⟩,⟨s1,s2⟩,e⟩|⟨l,e⟩|⟨st,a,e,hr⟩|e|⟨pts,lab,c,e,ht⟩|⟨l,e,hl⟩|⟨⟨s1,s2⟩,c,l,e,h1,h2,h3,h4⟩
  ·replace F:=F _ _ _ _ _ _ _ _ _ _ _ _ _ e
   subst e;rw[V] at F;have U:zCo.run [.c (.im (.sl 1 [[.cpx .f32 t1 t2],[.cpx .f32 s1 s2]]))] []=some (.one {val:=.c (.im (.str ⟨(behind (ptsW [(t1,t2),(s1,s2)])).toArray⟩))}):=zDt (l:=[(t1,t2),(s1,s2)]) (by simp[sm]) (by simp;exact⟨G.turn,G.state⟩);have lb:=zBn [(t1,t2),(s1,s2)] (by simp;exact⟨G.turn,G.state⟩);have E:nameT 1++behind (restW ⟨1,(t1,t2),(s1,s2),0,[],0,0,[],[],0,0⟩)=[115,111,117,114,99,101]++behind (ptsW [(t1,t2),(s1,s2)]):=(by simp[restW,nameT,sourceT,ptsW]);simp only[modC];generalize behind (ptsW [(t1,t2),(s1,s2)])=X at*;have q:(6+X.length≤4611686018427387904)=True:=eq_true (by simp at lb;omega);try simp -dsimp only[go_sem,f23,F,zCm,rNames,c9,E,U,zFl,q,zBu,yaS,List.take_succ_cons,yan,Nat.reduceAdd,Int.reduceLE,Int.reduceLT,Int.reduceToNat,yaH]
   with_reducible repeat' first|refine sl_i ?_|exact ro_e
  ·replace F:=F _ _ _ _ _ _ _ _ _ _ _ _ _ e
   subst e;rw[V] at F;have U:zCo.run [.c (.im (.sl 1 [[.cpx .f32 t1 t2],[.cpx .f32 s1 s2]]))] []=some (.one {val:=.c (.im (.str ⟨(behind (ptsW [(t1,t2),(s1,s2)])).toArray⟩))}):=zDt (l:=[(t1,t2),(s1,s2)]) (by simp[sm]) (by simp;exact⟨G.turn,G.state⟩);have lb:=zBn [(t1,t2),(s1,s2)] (by simp;exact⟨G.turn,G.state⟩);have E:nameT 2++behind (restW ⟨2,(t1,t2),(s1,s2),0,[],0,0,[],[],0,0⟩)=[109,105,120,101,114]++behind (ptsW [(t1,t2),(s1,s2)]):=(by simp[restW,nameT,mixerT,ptsW]);simp only[modC];generalize behind (ptsW [(t1,t2),(s1,s2)])=X at*;have q:(5+X.length≤4611686018427387904)=True:=eq_true (by simp at lb;omega);try simp -dsimp only[go_sem,f23,F,zCm,rNames,c9,E,U,zFl,q,zBu,yaS,List.take_succ_cons,yan,Nat.reduceAdd,Int.reduceEq,Int.reduceLE,Int.reduceLT,Int.reduceToNat,yaH]
   with_reducible repeat' first|refine sl_i ?_|exact ro_e
  ·replace F:=F _ _ _ _ _ _ _ _ _ _ _ _ _ e
   subst e;rw[V] at F;have U:=zCp G.level;have lb:=zDi G.level;simp only at U lb;have E:nameT 3++behind (restW ⟨3,(0,0),(0,0),l,[],0,0,[],[],0,0⟩)=[103,97,105,110]++32::sglT l:=(by simp[restW,nameT,gainT,behind]);simp only[modC];generalize sglT l=X at*;have q0:1+X.length≤4611686018427387904:=(by omega);have q:4+(X.length+1)≤4611686018427387904:=(by omega);try simp -dsimp only[go_sem,f23,F,zCm,rNames,c9,E,U,q0,q,zBu,yaS,Nat.reduceAdd,Int.reduceEq,Int.reduceLE,Int.reduceLT,Int.reduceToNat,yaH]
   with_reducible repeat' first|refine sl_i ?_|exact ro_e
  ·replace F:=F _ _ _ _ _ _ _ _ _ _ _ _ _ e
   subst e;rw[V] at F;have b4:=ok.store;simp only at b4;have ra:zDs.run [.c (.im (.sl 1 [[.int .i64 a]]))] []=some (.one {val:=.c (.im (.str ⟨(behind [Lib.itoa a]).toArray⟩))}):=zIn (l:=[a]) (by simp[sm]) (by simp;exact a7);have U:=zDt b4 G.store;have la:=zDw [a] (by simp;exact a7);have lb:=zBn st G.store;simp only[List.map_cons,List.map_nil] at la;have E:nameT 4++behind (restW ⟨4,(0,0),(0,0),0,st,a,(st.length:Int),[],[],0,0⟩)=[100,101,108,97,121]++(behind [Lib.itoa a]++behind (ptsW st)):=(by simp[restW,nameT,delayT,behind]);simp only[modC];generalize behind [Lib.itoa a]=A at*;generalize behind (ptsW st)=X at*;have q0:(A.length+X.length≤4611686018427387904)=True:=eq_true (by simp at la;omega);have q:(5+(A.length+X.length)≤4611686018427387904)=True:=eq_true (by simp at la;omega);try simp -dsimp only[go_sem,f23,F,zCm,rNames,c9,E,ra,U,zKh,zFl,q0,q,zBu,yaS,yaw,List.take_succ_cons,yan,Nat.reduceAdd,Int.reduceEq,Int.reduceLE,Int.reduceLT,Int.reduceToNat,yaH]
   with_reducible repeat' first|refine sl_i ?_|refine ro_i ?_|exact ro_e
  ·replace F:=F _ _ _ _ _ _ _ _ _ _ _ _ _ e
   subst e;rw[V] at F;have E:nameT 5++behind (restW ⟨5,(0,0),(0,0),0,[],0,0,[],[],0,0⟩)=[115,117,109]:=(by simp[restW,nameT,sumT,behind]);simp only[modC];try simp -dsimp only[go_sem,f23,F,zCm,rNames,E,c9,Nat.reduceAdd,Int.reduceEq,Int.reduceLE,Int.reduceLT,Int.reduceToNat,yaH]
   with_reducible repeat' first|refine sl_i ?_|exact ro_e
  ·replace F:=F _ _ _ _ _ _ _ _ _ _ _ _ _ e
   subst e;rw[V] at F;have b6:=ok.pts;have d1:=ok.lab;simp only at b6 d1;simp only[isTableF,yay,yaG] at ht;have a8:=ht.1;have b1:=G.pts;simp only at b1 Z J;have ra:zDs.run [.c (.im (.sl 1 [[.int .i64 c]]))] []=some (.one {val:=.c (.im (.str ⟨(behind [Lib.itoa c]).toArray⟩))}):=zIn (l:=[c]) (by simp[sm]) (by simp;exact J);have la:=zDw [c] (by simp;exact J);simp only[List.map_cons,List.map_nil] at la;have E:nameT 6++behind (restW ⟨6,(0,0),(0,0),0,[],0,0,pts,lab,c,0⟩)=[115,108,105,99,101,114]++behind [Lib.itoa c]++behind (tabW pts lab):=(by simp[restW,nameT,slicerT,behind]);simp only[modC];clear ht V hT;have d3:behind (tabW (pts.take pts.length) (lab.take pts.length))=behind (tabW pts lab):=(by rw[List.take_length,a8,List.take_length]);generalize behind [Lib.itoa c]=A at*;have q:(6+A.length≤4611686018427387904)=True:=eq_true (by simp at la;omega);try simp -dsimp only[go_sem,f23,F,zCm,rNames,c9,ra,zKh,q,zAb,zBu,yaS,List.take_succ_cons,yan,Nat.reduceAdd,Int.reduceEq,Int.reduceLE,Int.reduceLT,Int.reduceToNat,yaH]
   with_reducible repeat' first|refine sl_i ?_|refine ro_i ?_
   refine zAp (ι:={k:Nat//k≤pts.length}) (fun k=>⟨[(1,some (.c (.ptr 0 0 0 0))),(3,some (.c (.im (.str ⟨([115,108,105,99,101,114]++A++behind (tabW (pts.take k.1) (lab.take k.1))).toArray⟩)))),(60,some (.c (.im (.sl 1 (rowsZ pts))))),(61,some (.c (.im (.int .i64 (pts.length:Int))))),(62,some (.c (.im (.int .i64 (k.1:Int)))))],
    [(0,some (.box [.t (.im (.int .i64 6)),.t (.im (.cpx .f32 0 0)),.t (.im (.cpx .f32 0 0)),.t (.im (.flt .f32 0)),.t (.im (.sl 1 (rowsZ []))),.t (.im (.int .i64 0)),.t (.im (.int .i64 0)),.t (.im (.sl 1 (rowsZ pts))),.t (.im (.sl 1 (rowsN lab))),.t (.im (.int .i64 c)),.t (.im (.int .i64 0))]))],1⟩) (fun k=>pts.length-k.1) ⟨0,by simp⟩ ⟨[],[0],by ((simp only[go_sem,yai,yan,tabW,behind,yaP,List.append_nil])<;>(try (simp -dsimp only[go_sem,yaj,yai,yan,tabW,behind,yaP,List.append_nil])))<;>simp[]⟩ (fun ⟨k,hk⟩=>?_)
   simp only;by_cases b7:k<pts.length
   ·obtain ⟨⟨u,v⟩,hp⟩:∃p,pts[k]?=some p:=⟨_,List.getElem?_eq_getElem b7⟩;obtain ⟨n,hn⟩:∃p,lab[k]?=some p:=⟨lab[k]'(by omega),List.getElem?_eq_getElem (by omega)⟩;have b5:=zBz hp;have b2:=zEx hn;have hI:(k:Int)<(pts.length:Int):=(by omega);have h0:0≤(k:Int):=(by omega);have c6:=zDh b6 b7;have w1:=b1 _ (List.mem_of_getElem? hp);have i1:=Z n (List.mem_of_getElem? hn);have U:zCo.run [.c (.im (.sl 1 [[.cpx .f32 u v]]))] []=some (.one {val:=.c (.im (.str ⟨(behind (ptsW [(u,v)])).toArray⟩))}):=zDt (l:=[(u,v)]) (by simp[sm]) (by simp;exact w1);have rn:zDs.run [.c (.im (.sl 1 [[.int .i64 n]]))] []=some (.one {val:=.c (.im (.str ⟨(behind [Lib.itoa n]).toArray⟩))}):=zIn (l:=[n]) (by simp[sm]) (by simp;exact i1);have l1:=zBn [(u,v)] (by simp;exact w1);have l2:=zDw [n] (by simp;exact i1);simp only[List.map_cons,List.map_nil] at l2;have l3:=zUp (pts.take k) (lab.take k) (fun p hp=>b1 p (List.mem_of_mem_take hp)) (fun p hp=>Z p (List.mem_of_mem_take hp));have l4:(pts.take k).length≤pts.length:=(by rw[List.length_take];omega)
    have c8:[115,108,105,99,101,114]++A++behind (tabW (pts.take (k+1)) (lab.take (k+1)))=[115,108,105,99,101,114]++A++behind (tabW (pts.take k) (lab.take k))++(behind (ptsW [(u,v)])++behind [Lib.itoa n]):=by
     rw[zHp1 a8 hp hn,zHo];simp[behind,ptsW,ptW]
    generalize behind (ptsW [(u,v)])=X at*;generalize behind [Lib.itoa n]=Y at*;generalize hO:[115,108,105,99,101,114]++A++behind (tabW (pts.take k) (lab.take k))=O at*;have lO:O.length≤6+A.length+120*pts.length:=(by rw[←hO];simp only[yaw,yab,List.length_nil];omega);have q0:(X.length+Y.length≤4611686018427387904)=True:=eq_true (by simp at l1 l2;omega);have q1:(O.length+(X.length+Y.length)≤4611686018427387904)=True:=eq_true (by simp at l1 l2 la;omega);try simp -dsimp only[go_sem,hI,h0,Int.toNat_natCast,b5,b2,c6,U,rn,zFl,zKh,q0,q1,zBu,yaS,yaw,List.take_succ_cons,yan,Nat.reduceAdd]
    with_reducible repeat' first|refine sl_i ?_|refine ro_i ?_
    refine⟨⟨k+1,by omega⟩,by simp only[];omega,[],[0],?_⟩
    ((simp only[go_sem,yai])<;>(try (simp -dsimp only[go_sem,yaj,yai])))
    all_goals simp[]
    simpa using c8.symm
   ·have hI:¬((k:Int)<(pts.length:Int)):=(by omega);have d2:k=pts.length:=(by omega);subst d2;rw[d3];try simp -dsimp only[go_sem,f23,hI,E]
  ·replace F:=F _ _ _ _ _ _ _ _ _ _ _ _ _ e
   subst e;rw[V] at F;have U:=zCp G.level;have lb:=zDi G.level;simp only at U lb;have E:nameT 7++behind (restW ⟨7,(0,0),(0,0),l,[],0,0,[],[],0,0⟩)=[109,101,116,101,114]++32::sglT l:=(by simp[restW,nameT,meterT,behind]);simp only[modC];generalize sglT l=X at*;have q0:1+X.length≤4611686018427387904:=(by omega);have q:5+(X.length+1)≤4611686018427387904:=(by omega);try simp -dsimp only[go_sem,f23,F,zCm,rNames,c9,E,U,q0,q,zBu,yaS,Nat.reduceAdd,Int.reduceEq,Int.reduceLE,Int.reduceLT,Int.reduceToNat,yaH]
   with_reducible repeat' first|refine sl_i ?_|exact ro_e
  ·replace F:=F _ _ _ _ _ _ _ _ _ _ _ _ _ e
   subst e;rw[V] at F;have ra:zDs.run [.c (.im (.sl 1 [[.int .i64 c],[.int .i64 l]]))] []=some (.one {val:=.c (.im (.str ⟨(behind [Lib.itoa c,Lib.itoa l]).toArray⟩))}):=zIn (l:=[c,l]) (by simp[sm]) (by simp;exact⟨J,b0⟩);have U:zCo.run [.c (.im (.sl 1 [[.cpx .f32 s1 s2]]))] []=some (.one {val:=.c (.im (.str ⟨(behind (ptsW [(s1,s2)])).toArray⟩))}):=zDt (l:=[(s1,s2)]) (by simp[sm]) (by simp;exact G.state);have la:=zDw [c,l] (by simp;exact⟨J,b0⟩);have lb:=zBn [(s1,s2)] (by simp;exact G.state);simp only[List.map_cons,List.map_nil] at la;have E:nameT 8++behind (restW ⟨8,(0,0),(s1,s2),0,[],0,0,[],[],c,l⟩)=[104,111,108,100]++(behind [Lib.itoa c,Lib.itoa l]++behind (ptsW [(s1,s2)])):=(by simp[restW,nameT,holdT,behind,ptsW]);simp only[modC];generalize behind [Lib.itoa c,Lib.itoa l]=A at*;generalize behind (ptsW [(s1,s2)])=X at*;have q0:(A.length+X.length≤4611686018427387904)=True:=eq_true (by simp at la lb;omega);have q:(4+(A.length+X.length)≤4611686018427387904)=True:=eq_true (by simp at la lb;omega);try simp -dsimp only[go_sem,f23,F,zCm,rNames,c9,E,ra,U,zKh,zFl,q0,q,zBu,yaS,yaw,List.take_succ_cons,yan,Nat.reduceAdd,Int.reduceEq,Int.reduceLE,Int.reduceLT,Int.reduceToNat,yaH]
   with_reducible repeat' first|refine sl_i ?_|refine ro_i ?_|exact ro_e
theorem zDr {m:Nat}{e:Int}(h:Dr m e):dW m e=((m.log2:Int)+e+1022).toNat*4503599627370496+m*2^ (52-m.log2)∧4503599627370496≤m*2^ (52-m.log2)∧m*2^ (52-m.log2)<9007199254740992∧m.log2≤52:=by
 have F:=h.pos;have hl:m.log2≤52:=zDd F (show m<2^ (52+1) from h.lt);have G:=h.lo;have J:=h.hi
 have g1:4503599627370496≤m*2^ (52-m.log2):=by
   calc 4503599627370496=2^ m.log2*2^ (52-m.log2):=by rw[←Nat.pow_add,show m.log2+(52-m.log2)=52 by omega]
     _≤_:=Nat.mul_le_mul_right _ (Nat.log2_self_le (Nat.ne_of_gt F))
 have g2:m*2^ (52-m.log2)<9007199254740992:=by
   calc m*2^ (52-m.log2)<2^ (m.log2+1)*2^ (52-m.log2):=Nat.mul_lt_mul_of_pos_right (Nat.lt_log2_self) (Nat.two_pow_pos _)
     _=9007199254740992:=by rw[←Nat.pow_add,show m.log2+1+(52-m.log2)=53 by omega]
 have hc:Can double (m*2^ (52-m.log2)) (e- (52-m.log2:Nat)):=⟨by omega,g2,by rw[ep2];omega,.inr g1⟩;have E:=SV.shl m e (52-m.log2);refine⟨?_,g1,g2,hl⟩;have hr:(e- ((52-m.log2:Nat):Int)-double.leastPlace).toNat=((m.log2:Int)+e+1022).toNat:=by rw[ep2];omega
 rw[dW,zFg hc E,hr,bn2,Nat.min_eq_left]
 · rfl
 · rw[ir2];omega
theorem zQg {m:Nat}{e:Int}(h:Dr m e):double.read (dW m e)=.number false (m*2^ (52-m.log2)) (e- (52-m.log2:Nat)):=by
 obtain ⟨J,g1,g2,hl⟩:=zDr h;have V:=h.lo;have Z:=h.hi;have hc:Can double (m*2^ (52-m.log2)) (e- (52-m.log2:Nat)):=⟨by omega,g2,by rw[ep2];omega,.inr g1⟩;obtain ⟨G,F⟩:=zHa1 hc;have hr:(e- ((52-m.log2:Nat):Int)-double.leastPlace).toNat=((m.log2:Int)+e+1022).toNat:=by rw[ep2];omega
 rw[hr,bn2,←J] at G F;have E:dW m e<double.infRung:=by rw[J,ir2];omega
 have:=zGs (f:=double) (by decide) E false;have U:double.word false (dW m e)=dW m e:=by simp[Format.word]
 rw[G,F,U] at this;exact this
theorem zMe2 {m:Nat}{e:Int}(h:Dr m e):dW m e<9223372036854775808:=by
 obtain ⟨e1,g1,g2,hl⟩:=zDr h;have hlo:=h.lo;have hhi:=h.hi;rw[e1];omega
theorem zPy1 {m:Nat}{e:Int}(h:Dr m e):isNaNb .f64 (dW m e)=false:=by
 unfold isNaNb;have:FloatKind.f64.format.read (dW m e)=.number false (m*2^ (52-m.log2)) (e- (52-m.log2:Nat)):=zQg h;rw[this];rfl
theorem zKq1 {m:Nat}{e:Int}(h:Dr m e):double.order (dW m e) 0=some .gt:=by
 have F:double.read 0=.number false 0 (-1074):=by decide
 unfold Format.order;rw[zQg h,F];simp only[Datum.order];obtain ⟨J,g1,g2,hl⟩:=zDr h;have E:0<(m*2^ (52-m.log2))*2^ (e- ((52-m.log2:Nat):Int)-min (e- ((52-m.log2:Nat):Int)) (-1074)).toNat:=Nat.mul_pos (by omega) (Nat.two_pow_pos _);have h1:signed false (m*2^ (52-m.log2)) (e- ((52-m.log2:Nat):Int)-min (e- ((52-m.log2:Nat):Int)) (-1074)).toNat=(((m*2^ (52-m.log2))*2^ (e- ((52-m.log2:Nat):Int)-min (e- ((52-m.log2:Nat):Int)) (-1074)).toNat:Nat):Int):=by simp[signed,zGa]
 have h2:∀k,signed false 0 k=0:=fun k=>by simp[signed]
 rw[h1,h2];generalize (m*2^ (52-m.log2))*2^ (e- ((52-m.log2:Nat):Int)-min (e- ((52-m.log2:Nat):Int)) (-1074)).toNat=X at E
 have:compare ((X:Nat):Int) 0=.gt:=by
  have a:¬((X:Int)<0):=by omega
  have b:¬((X:Int)=0):=by omega
  have G:¬(X=0):=by omega
  simp[compare,compareOfLessAndEq,G]
 rw[this]
theorem zMg2 {m:Nat}{e:Int}(h:Dr m e):fcmp .eql .f64 (dW m e) 0=false:=by
 show (double.order (dW m e) 0 ==some .eq)=false;rw[zKq1 h];rfl
theorem zFk2 {m:Nat}{e:Int}(h:Dr m e):fcmp .neq .f64 (dW m e) (dW m e)=false:=by
 show (double.order (dW m e) (dW m e) !=some .eq)=false;unfold Format.order;rw[zQg h];simp only[Datum.order,Int.min_self,zGz1];rfl
theorem zMd2 {m:Nat}{e:Int}(h:Dr m e):fcmp .gtr .f64 (dW m e) 9218868437227405311=false:=by
 obtain ⟨e1,g1,g2,hl⟩:=zDr h;exact zNi1 (zQg h) g2 (by have:=h.hi;omega)
theorem zDs2 {m:Nat}{e:Int}(h:Dr m e):fcmp .lss .f64 (dW m e) 4503599627370496=false:=by
 have hc:double.read 4503599627370496=.number false 4503599627370496 (-1074):=by decide +kernel
 show (double.order (dW m e) 4503599627370496 ==some .lt)=false;unfold Format.order;rw[zQg h,hc];simp only[Datum.order];obtain ⟨V,g1,g2,hl⟩:=zDr h;have G:=h.lo;have hb:min (e- ((52-m.log2:Nat):Int)) (-1074) = -1074:=by omega
 rw[hb];have U:(-1074 - -1074:Int).toNat=0:=rfl;rw[U];obtain ⟨k,J⟩:∃k,(e- ((52-m.log2:Nat):Int) - -1074).toNat=k:=⟨_,rfl⟩;rw[J];have h1:signed false (m*2^ (52-m.log2)) k=((m*2^ (52-m.log2)*2^ k:Nat):Int):=by simp[signed,zGa]
 have h2:signed false 4503599627370496 0=4503599627370496:=rfl;rw[h1,h2];have h3:m*2^ (52-m.log2)*1≤m*2^ (52-m.log2)*2^ k:=Nat.mul_le_mul_left _ (Nat.two_pow_pos k);generalize m*2^ (52-m.log2)*2^ k=X at h3;have F:¬((X:Int)<4503599627370496):=by omega
 have:compare ((X:Nat):Int) 4503599627370496≠.lt:=by
  simp only[compare,compareOfLessAndEq,F,yau];split<;>simp
 cases E:compare ((X:Nat):Int) 4503599627370496 with
 | lt=>exact absurd E this
 | eq=>rfl
 | gt=>rfl
theorem zVh1 {m:Nat}{e:Int}(h:Dr m e):fop .mul .f64 4607182418800017408 (dW m e)=dW m e:=by
 have h1:double.read 4607182418800017408=.number false 4503599627370496 (-52):=by decide +kernel
 have E:double.mul 4607182418800017408 (dW m e)=some (dW m e):=by
  unfold Format.mul;rw[h1,zQg h];simp only[Datum.product,yak,Format.write,Bool.false_xor];congr 1;refine zMm1 h ?_;have a:SV m e (m*2^ (52-m.log2)) (e- (52-m.log2:Nat)):=SV.shl m e _;have b:SV 1 0 4503599627370496 (-52):=SV.shl 1 0 52;have:=SV.mul b a;rw[Nat.one_mul,Int.zero_add] at this;exact this
 show (double.mul 4607182418800017408 (dW m e)).getD _=_;rw[E];rfl
theorem shr52 {m:Nat}{e:Int}(h:Dr m e):((dW m e:Nat):Int).fdiv (2^ min (Int.toNat 52) 64)=(m.log2:Int)+e+1023:=by
 obtain ⟨G,g1,g2,hl⟩:=zDr h;have E:=h.lo;have F:(0:Int)≤2^ 52:=by decide
 show ((dW m e:Nat):Int).fdiv (2^ 52)=_;rw[Int.fdiv_eq_ediv_of_nonneg _ F,G];generalize m*2^ (52-m.log2)=M at g1 g2;have:(2:Int)^ 52=4503599627370496:=by decide
 rw[this];omega
theorem andNot52 {x:Nat}(h:x<9223372036854775808):bitsI .andNot .u64 (x:Int) 9218868437227405312=((x%4503599627370496:Nat):Int):=by
 have h1:(BitVec.ofInt 64 (x:Int) &&&~~~BitVec.ofInt 64 9218868437227405312).toNat=x%4503599627370496:=by
  rw[BitVec.toNat_and];have G:(BitVec.ofInt 64 (x:Int)).toNat=x:=by simp;omega
  have F:(~~~BitVec.ofInt 64 9218868437227405312).toNat=2^ 63 |||(2^ 52-1):=by decide
  rw[G,F,Nat.and_or_distrib_left,Nat.and_two_pow_sub_one_eq_mod];have hb:x.testBit 63=false:=Nat.testBit_lt_two_pow h
  have E:x &&&2^ 63=0:=by
   apply Nat.eq_of_testBit_eq;intro i;rw[Nat.testBit_and,Nat.testBit_two_pow,Nat.zero_testBit];by_cases e:63=i
   ·subst e;simp[hb]
   ·simp[e]
  rw[E,Nat.zero_or]
 show IntKind.u64.wrap _=_;rw[show (IntKind.u64.bits)=64 from rfl,h1];show (((x%4503599627370496:Nat):Int)%18446744073709551616)=_;omega
theorem or52 {a k:Nat}(ha:a<4503599627370496)(hk:k<2048):bitsI .or .u64 (a:Int) ((k*4503599627370496:Nat):Int)=((k*4503599627370496+a:Nat):Int):=by
 have h1:(BitVec.ofInt 64 (a:Int) |||BitVec.ofInt 64 ((k*4503599627370496:Nat):Int)).toNat=k*4503599627370496+a:=by
  rw[BitVec.toNat_or];have F:(BitVec.ofInt 64 (a:Int)).toNat=a:=by simp;omega
  have E:(BitVec.ofInt 64 ((k*4503599627370496:Nat):Int)).toNat=k*4503599627370496:=by rw[BitVec.ofInt_natCast,BitVec.toNat_ofNat];omega
  rw[F,E,Nat.or_comm];have:=Nat.two_pow_add_eq_or_of_lt (i:=52) (b:=a) ha k;rw[Nat.mul_comm] at this;exact this.symm
 show IntKind.u64.wrap _=_;rw[show (IntKind.u64.bits)=64 from rfl,h1];show (((k*4503599627370496+a:Nat):Int)%18446744073709551616)=_;omega
theorem and11 {a:Int}(h0:0≤a)(h:a<2048):bitsI .and .i64 a 2047=a:=by
 obtain ⟨x,rfl⟩:∃x:Nat,a=x:=⟨a.toNat,by omega⟩
 have h1:(BitVec.ofInt 64 (x:Int) &&&BitVec.ofInt 64 2047).toNat=x:=by
  rw[BitVec.toNat_and];have F:(BitVec.ofInt 64 (x:Int)).toNat=x:=by simp;omega
  have E:(BitVec.ofInt 64 2047).toNat=2^ 11-1:=by decide
  rw[F,E,Nat.and_two_pow_sub_one_eq_mod];omega
 show IntKind.i64.wrap _=_;rw[show (IntKind.i64.bits)=64 from rfl,h1];exact zAi (by omega) (by omega)
abbrev N64:={x:Nat//isNaNb .f64 x=false}
noncomputable def zZp:Ct:=fam true (fun x:N64=>([.c (.im (.flt .f64 x.1))],[])) (fun x=>.one {val:=.c (.im (.int .u64 x.1))})
theorem zCb1 {x:Nat}(h:isNaNb .f64 x=false):zZp.run [.c (.im (.flt .f64 x))] []=some (.one {val:=.c (.im (.int .u64 x))}):=by
 refine zAc (ct:=zZp) rfl ?_ ⟨x,h⟩;rintro ⟨a,_⟩ ⟨b,_⟩ h;simp only[Prod.mk.injEq,List.cons.injEq,D.c.injEq,C.im.injEq,I.flt.injEq,true_and,and_true] at h;exact Subtype.ext h
theorem zCq1:ExtLaw prog 252 zZp:=by
 refine zGf1 (fun ⟨x,hx⟩=>⟨rfl,by simp[scI],fun fz vs w hl E=>?_⟩)
 match vs,hl with
 | [v],_=>
  have h1:=E 0 _ v rfl rfl;obtain ⟨y,rfl,F⟩:=h1.flt_inv;rcases F with rfl|⟨h2,_⟩
  ·refine⟨.int .u64 x,.int .u64 x,?_,rfl,.int _ _⟩;rw[run_callFunc_extern (e:=Extern.MathFloatBits.float64bits) func252 (by kernel_rfl) (by kernel_rfl) (by kernel_rfl) (by kernel_rfl)];rfl
  ·simp only at h2;rw[hx] at h2;cases h2
noncomputable def zFs:Ct:=fam true (fun x:Nat=>([.c (.im (.int .u64 x))],[])) (fun x=>.one {val:=.c (.im (.flt .f64 x))})
theorem zEr (x:Nat):zFs.run [.c (.im (.int .u64 (x:Int)))] []=some (.one {val:=.c (.im (.flt .f64 x))}):=
 zBd (fun a b h=>by simp only[Prod.mk.injEq,List.cons.injEq,D.c.injEq,C.im.injEq,I.int.injEq] at h;omega) x
theorem zGq:ExtLaw prog 240 zFs:=by
 refine zGf1 (fun x=>⟨rfl,by simp[scI],fun fz vs w hl E=>?_⟩)
 match vs,hl with
 | [v],_=>
  have h1:=E 0 _ v rfl rfl
  cases h1.int_inv
  refine⟨.float .f64 x,.flt .f64 x,?_,rfl,.flt _ _ _ (.inl rfl)⟩;rw[run_callFunc_extern (e:=Extern.MathFloatBits.float64frombits) func240 (by kernel_rfl) (by kernel_rfl) (by kernel_rfl) (by kernel_rfl)];rfl
abbrev M24:={m:Nat//0<m∧m<16777216}
theorem M24.dr (m:M24):Dr m.1 0:=⟨m.2.1,by have:=m.2.2;omega,by omega,by omega⟩
theorem zMf2 {m n:Nat}(hm:Dr m 0)(hn:Dr n 0)(h:dW m 0=dW n 0):m=n:=by
 have a:=zQg hm;rw[h,zQg hn] at a;injection a with _ a1 a2;have s1:=SV.shl m 0 (52-m.log2);have s2:=SV.shl n 0 (52-n.log2);rw[←a1,←a2] at s1;exact (s1.trans s2.symm).eq
noncomputable def zYv1:Ct:=fam true (fun m:M24=>([.c (.im (.flt .f64 (dW m.1 0)))],[])) (fun m=>.one {val:=.c (.im (.flt .f64 (dW m.1 0)))})
theorem zUo1 (m:M24):zYv1.run [.c (.im (.flt .f64 (dW m.1 0)))] []=some (.one {val:=.c (.im (.flt .f64 (dW m.1 0)))}):=by
 refine zHd (ct:=zYv1) rfl ?_ m;intro a b h;simp only[Prod.mk.injEq,List.cons.injEq,D.c.injEq,C.im.injEq,I.flt.injEq,true_and,and_true] at h;rw[h]
theorem andNot63 {x:Nat}(h:x<9223372036854775808):bitsI .andNot .u64 (x:Int) 9223372036854775808=(x:Int):=by
 have h1:(BitVec.ofInt 64 (x:Int) &&&~~~BitVec.ofInt 64 9223372036854775808).toNat=x:=by
  rw[BitVec.toNat_and];have F:(BitVec.ofInt 64 (x:Int)).toNat=x:=by simp;omega
  have E:(~~~BitVec.ofInt 64 9223372036854775808).toNat=2^ 63-1:=by decide
  rw[F,E,Nat.and_two_pow_sub_one_eq_mod];omega
 show IntKind.u64.wrap _=_;rw[show (IntKind.u64.bits)=64 from rfl,h1];show ((x:Int)%18446744073709551616)=_;omega
theorem zXi1:Law prog 204 zYv1:=by
 refine zAf (zDn zCq1 (zDn zGq zAd)) hmixA func204 rfl rfl (fun m=>⟨zAv rfl,by simp[f204],?_⟩);simp only;have F:=zPy1 m.dr;have E:=zMe2 m.dr;generalize dW m.1 0=y at*;try simp -dsimp only[go_sem,f204,zCb1 F,andNot63 E,zEr]
noncomputable def zZw:Ct:=fam true (fun m:M24=>([.c (.im (.flt .f64 (dW m.1 0))),.c (.im (.int .i64 0))],[])) (fun m=>.one {val:=.c (.im (.bool false))})
theorem zRf1 (m:M24):zZw.run [.c (.im (.flt .f64 (dW m.1 0))),.c (.im (.int .i64 0))] []=some (.one {val:=.c (.im (.bool false))}):=
 zHd (ct:=zZw) rfl (fun _ _ _=>rfl) m
theorem zSr1:Law prog 144 zZw:=by
 refine zAf (zAa zXi1 zAd) hmixA func144 rfl rfl (fun m=>⟨zAv rfl,by simp[f144],?_⟩);simp only;have E:=zMd2 m.dr;have ra:=zUo1 m;generalize dW m.1 0=y at*;try simp -dsimp only[go_sem,f144,ra,E]
noncomputable def zZv:Ct:=fam true (fun m:M24=>([.c (.im (.flt .f64 (dW m.1 0)))],[])) (fun m=>.one {val:=.c (.im (.bool false))})
theorem zRe1 (m:M24):zZv.run [.c (.im (.flt .f64 (dW m.1 0)))] []=some (.one {val:=.c (.im (.bool false))}):=
 zHd (ct:=zZv) rfl (fun _ _ _=>rfl) m
theorem zSq1:Law prog 301 zZv:=by
 refine zAf zAd hmixA func301 rfl rfl (fun m=>⟨zAv rfl,by simp[f301],?_⟩);simp only;have hm:=zFk2 m.dr;generalize dW m.1 0=y at*;try simp -dsimp only[go_sem,f301,hm]
def oNorm (m:Nat):Outs:=.one {val:=.tup [.c (.im (.flt .f64 (dW m 0))),.c (.im (.int .i64 0))]}
noncomputable def zMr:Ct:=fam true (fun m:M24=>([.c (.im (.flt .f64 (dW m.1 0)))],[])) (fun m=>oNorm m.1)
theorem zDs1 (m:M24):zMr.run [.c (.im (.flt .f64 (dW m.1 0)))] []=some (.one {val:=.tup [.c (.im (.flt .f64 (dW m.1 0))),.c (.im (.int .i64 0))]}):=by
 refine zHd (ct:=zMr) rfl (out:=fun m=>oNorm m.1) ?_ m;intro a b h;simp only[Prod.mk.injEq,List.cons.injEq,D.c.injEq,C.im.injEq,I.flt.injEq,true_and,and_true] at h;simp only[oNorm,h]
theorem zEz1:Law prog 302 zMr:=by
 refine zAf (zAa zXi1 zAd) hmixA func302 rfl rfl (fun m=>⟨okO ⟨.tup _ (by intro d hd;simp at hd;rcases hd with rfl|rfl<;>exact .inl ⟨_,rfl,zBr rfl⟩),by simp,by simp⟩,by simp[f302],?_⟩);simp only[oNorm];have E:=zDs2 m.dr;have ra:=zUo1 m;generalize dW m.1 0=y at*;try simp -dsimp only[go_sem,f302,ra,E]
abbrev ALd:={x:M24×Int // -200≤x.2∧x.2≤200}
theorem ALd.dr (x:ALd):Dr x.1.1.1 x.1.2:=⟨x.1.1.2.1,by have:=x.1.1.2.2;omega,by have:=x.2.1;omega,by have:=x.2.2;omega⟩
noncomputable def zGr1:Ct:=fam true (fun x:ALd=>([.c (.im (.flt .f64 (dW x.1.1.1 0))),.c (.im (.int .i64 x.1.2))],[])) (fun x=>.one {val:=.c (.im (.flt .f64 (dW x.1.1.1 x.1.2)))})
theorem zJi1:∀a b:ALd,([D.c (.im (.flt .f64 (dW a.1.1.1 0))),.c (.im (.int .i64 a.1.2))],([]:List (List B)))=([D.c (.im (.flt .f64 (dW b.1.1.1 0))),.c (.im (.int .i64 b.1.2))],[])→a=b:=by
 rintro ⟨⟨m,e⟩,_⟩ ⟨⟨n,j⟩,_⟩ h;simp only[Prod.mk.injEq,List.cons.injEq,D.c.injEq,C.im.injEq,I.flt.injEq,I.int.injEq,true_and,and_true] at h;have:=zMf2 m.dr n.dr h.1;exact Subtype.ext (Prod.ext (Subtype.ext this) h.2)
theorem zUh1 {m:Nat}{e:Int}(h0:0<m)(h:m<16777216)(h1 : -200≤e)(h2:e≤200):zGr1.run [.c (.im (.flt .f64 (dW m 0))),.c (.im (.int .i64 e))] []=some (.one {val:=.c (.im (.flt .f64 (dW m e)))}):=
 zAc (ct:=zGr1) rfl zJi1 ⟨(⟨m,h0,h⟩,e),h1,h2⟩
theorem zWt1:Law prog 277 zGr1:=by
 refine zAf (zAa zSr1 (zAa zSq1 (zAa zEz1 (zDn zCq1 (zDn zGq zAd))))) hmixA func277 rfl rfl (fun ⟨⟨m,e⟩,h1,h2⟩=>⟨zAv rfl,by simp[f277],?_⟩);simp only at h1 h2 ⊢;have hd:=m.dr;have U:Dr m.1 e:=⟨m.2.1,by have:=m.2.2;omega,by omega,by omega⟩;have hL:m.1.log2≤23:=log2_lt m.2.2;have r1:=zRf1 m;have r2:=zRe1 m;have r3:=zDs1 m;have r4:=zCb1 (zPy1 hd);have z0:=zMg2 hd;have F:=shr52 hd;have J:=zVh1 U;have Z:=andNot52 (zMe2 hd);obtain ⟨x1,g1,g2,_⟩:=zDr hd;obtain ⟨x2,_,_,_⟩:=zDr U;obtain ⟨k,hk⟩:∃k:Nat,e+(m.1.log2:Int)+1023=k:=⟨(e+(m.1.log2:Int)+1023).toNat,by omega⟩
 have E:k*4503599627370496+dW m.1 0%4503599627370496=dW m.1 e:=by
  rw[x1,x2];generalize m.1*2^ (52-m.1.log2)=M at g1 g2;omega
 have G:=or52 (a:=dW m.1 0%4503599627370496) (k:=k) (Nat.mod_lt _ (by omega)) (by omega);rw[E] at G;have V:=zEr (dW m.1 e);rw[show (m.1.log2:Int)+0+1023=(m.1.log2:Int)+1023 by omega] at F;have w1:IntKind.i64.wrap (e+0)=e:=by rw[zAi (by omega) (by omega)];omega
 have w2:IntKind.i64.wrap ((m.1.log2:Int)+1023)=(m.1.log2:Int)+1023:=zAi (by omega) (by omega);have w3:=and11 (a:=(m.1.log2:Int)+1023) (by omega) (by omega);have w4:IntKind.i64.wrap ((m.1.log2:Int)+1023-1023)=(m.1.log2:Int):=by rw[zAi (by omega) (by omega)];omega
 have w5:IntKind.i64.wrap (e+(m.1.log2:Int))=e+(m.1.log2:Int):=zAi (by omega) (by omega);have c1:¬(e+(m.1.log2:Int) < -1075):=by omega
 have c2:¬(1023<e+(m.1.log2:Int)):=by omega
 have c3:¬(e+(m.1.log2:Int) < -1022):=by omega
 have w6:IntKind.i64.wrap (e+(m.1.log2:Int)+1023)=(k:Int):=by rw[hk,zAi (by omega) (by omega)]
 have w7:IntKind.u64.wrap (k:Int)=(k:Int):=by
  show ((k:Int)%18446744073709551616)=_;omega
 have w8:IntKind.u64.wrap ((k:Int)*2^ min (Int.toNat 52) 64)=((k*4503599627370496:Nat):Int):=by
  show ((k:Int)*2^ 52%18446744073709551616)=_;have:(2:Int)^ 52=4503599627370496:=by decide
  rw[this];omega
 clear x1 x2 g1 g2 E;generalize (m.1.log2:Int)=L at*;generalize dW m.1 e=R at*;generalize dW m.1 0=y at*;generalize hX:y%4503599627370496=X at*;try simp -dsimp only[go_sem,f277,z0,r1,r2,r3,r4,F,w1,w2,w3,w4,w5,c1,c2,c3,Z,w6,w7,w8,G,V,J,Int.reduceLT,Int.reduceNeg]
noncomputable def zGy1:Ct:=fam true (fun x:ALd=>([.c (.im (.flt .f64 (dW x.1.1.1 0))),.c (.im (.int .i64 x.1.2))],[])) (fun x=>.one {val:=.c (.im (.flt .f64 (dW x.1.1.1 x.1.2)))})
theorem zIo1 {m:Nat}{e:Int}(h0:0<m)(h:m<16777216)(h1 : -200≤e)(h2:e≤200):zGy1.run [.c (.im (.flt .f64 (dW m 0))),.c (.im (.int .i64 e))] []=some (.one {val:=.c (.im (.flt .f64 (dW m e)))}):=
 zAc (ct:=zGy1) rfl zJi1 ⟨(⟨m,h0,h⟩,e),h1,h2⟩
theorem zXf1:Law prog 242 zGy1:=by
 refine zAf (zAa zWt1 zAd) hmixA func242 rfl rfl (fun ⟨⟨m,e⟩,h1,h2⟩=>⟨zAv rfl,by simp[f242],?_⟩);simp only at h1 h2 ⊢;have r:=zUh1 m.2.1 m.2.2 h1 h2;generalize dW m.1 e=R at*;generalize dW m.1 0=y at*;try simp -dsimp only[go_sem,f242,r]
noncomputable def zNl1:Ct:=fam true (fun _:Unit=>([],[])) (fun _=>.one {val:=.c (.im (.flt .f64 9221120237041090561))})
theorem zAx2:zNl1.run [] []=some (.one {val:=.c (.im (.flt .f64 9221120237041090561))}):=zAc (ct:=zNl1) rfl (fun _ _ _=>rfl) ()
theorem zCp2:Law prog 183 zNl1:=by
 refine zAf (zDn zGq zAd) hmixA func183 rfl rfl (fun _=>⟨zAv rfl,by simp[f183],?_⟩);simp only;have r:zFs.run [.c (.im (.int .u64 9221120237041090561))] []=some (.one {val:=.c (.im (.flt .f64 9221120237041090561))}):=zEr 9221120237041090561;try simp -dsimp only[go_sem,f183,r]
noncomputable def zYy:Ct:=fam true (fun b:Bool=>([.c (.im (.int .i64 (if b then 1 else -1)))],[])) (fun b=>.one {val:=.c (.im (.flt .f64 (if b then 9218868437227405312 else 18442240474082181120)))})
theorem zPc1:∀a b:Bool,([D.c (.im (.int .i64 (if a then 1 else -1)))],([]:List (List B)))=([D.c (.im (.int .i64 (if b then 1 else -1)))],[])→a=b:=by
 intro a b h;simp only[Prod.mk.injEq,List.cons.injEq,D.c.injEq,C.im.injEq,I.int.injEq,true_and,and_true] at h
 cases a<;>cases b<;>simp at h ⊢
theorem zUg1:zYy.run [.c (.im (.int .i64 1))] []=some (.one {val:=.c (.im (.flt .f64 9218868437227405312))}):=zAc (ct:=zYy) rfl zPc1 true
theorem zUf1:zYy.run [.c (.im (.int .i64 (-1)))] []=some (.one {val:=.c (.im (.flt .f64 18442240474082181120))}):=zAc (ct:=zYy) rfl zPc1 false
theorem zCq2:Law prog 184 zYy:=by
 refine zAf (zDn zGq zAd) hmixA func184 rfl rfl (fun b=>⟨zAv rfl,by simp[f184],?_⟩);have F:zFs.run [.c (.im (.int .u64 9218868437227405312))] []=some (.one {val:=.c (.im (.flt .f64 9218868437227405312))}):=zEr 9218868437227405312;have E:zFs.run [.c (.im (.int .u64 18442240474082181120))] []=some (.one {val:=.c (.im (.flt .f64 18442240474082181120))}):=zEr 18442240474082181120
 cases b with
 | true=>
  simp only[yav];try simp -dsimp only[go_sem,f184,F,Int.reduceLE]
 | false=>
  simp only[yat,yau];try simp -dsimp only[go_sem,f184,E,Int.reduceLE,Int.reduceNeg]
theorem zNz (l:Txt)(a b:Nat):(⟨l.toArray⟩:ByteArray).extract a b=⟨((l.take b).drop a).toArray⟩:=by
 apply ByteArray.ext;rw[ByteArray.data_extract];simp[List.extract_eq_take_drop,List.drop_take]
def cutP (c:UInt8):Txt→Txt×Bool
 | []=>([],false)
 | b::t=>if b=c then (t,true) else (b::t,false)
noncomputable def zNh:Ct:=fam true (fun x:SB=>([.c (.im (.str ⟨x.1.1.toArray⟩)),.c (.im (.str ⟨#[x.1.2]⟩))],[])) (fun x=>.one {val:=.c (.im (.bool (cutP x.1.2 x.1.1).2))})
theorem zLi1:∀a b:SB,([D.c (.im (.str ⟨a.1.1.toArray⟩)),.c (.im (.str ⟨#[a.1.2]⟩))],([]:List (List B)))=([D.c (.im (.str ⟨b.1.1.toArray⟩)),.c (.im (.str ⟨#[b.1.2]⟩))],[])→a=b:=by
 rintro ⟨⟨a,b⟩,_⟩ ⟨⟨F,E⟩,_⟩ h;simp only[Prod.mk.injEq,List.cons.injEq,D.c.injEq,C.im.injEq,I.str.injEq,zLn,and_true] at h;exact Subtype.ext (Prod.ext h.1 h.2)
theorem zQd {s:Txt}(h:s.length≤2097152)(c:UInt8):zNh.run [.c (.im (.str ⟨s.toArray⟩)),.c (.im (.str ⟨#[c]⟩))] []=some (.one {val:=.c (.im (.bool (cutP c s).2))}):=
 zAc (ct:=zNh) rfl zLi1 ⟨(s,c),h⟩
theorem zQt:Law prog 270 zNh:=by
 refine zAf zAd hmixA func270 rfl rfl (fun ⟨⟨s,c⟩,h⟩=>⟨zAv rfl,by simp[f270],?_⟩);simp only;have c0:((0:Nat):Int)=0:=rfl;have F:((1:Nat):Int)=1:=rfl
 cases s with
 | nil=>
  simp only[cutP];try simp -dsimp only[go_sem,f270,zGl,c0,F,Int.reduceLE]
 | cons b t=>
  have h1:(1:Int)≤((t.length+1:Nat):Int):=by omega
  have hc:cutP c (b::t)=if b=c then (t,true) else (b::t,false):=rfl;by_cases e:b=c
  ·have E:=eq_true e;rw[hc,if_pos e];try simp -dsimp only[go_sem,f270,zGl,F,h1,E,zNz,zAr,Int.toNat_one,Int.reduceLE,List.take_succ_cons,yan]
  ·have E:=eq_false e;rw[hc,if_neg e];try simp -dsimp only[go_sem,f270,zGl,F,h1,E,zNz,zAr,Int.toNat_one,Int.reduceLE,List.take_succ_cons,yan]
def oCp (s:Txt)(c:UInt8):Outs:=.one {val:=.tup [.c (.im (.str ⟨(cutP c s).1.toArray⟩)),.c (.im (.bool (cutP c s).2))]}
theorem zEy2 (s:Txt)(c:UInt8){sc:Bool}:∀res,(oCp s c).mem res→OkR sc res:=okO ⟨.tup _ (by intro d hd;simp at hd;rcases hd with rfl|rfl<;>exact .inl ⟨_,rfl,zBr rfl⟩),by simp,by simp⟩
noncomputable def zKw:Ct:=fam true (fun x:SB=>([.c (.im (.str ⟨x.1.1.toArray⟩)),.c (.im (.str ⟨#[x.1.2]⟩))],[])) (fun x=>oCp x.1.1 x.1.2)
theorem zAi1 {s:Txt}(h:s.length≤2097152)(c:UInt8):zKw.run [.c (.im (.str ⟨s.toArray⟩)),.c (.im (.str ⟨#[c]⟩))] []=some (oCp s c):=
 zAc (ct:=zKw) rfl zLi1 ⟨(s,c),h⟩
theorem zAw1:Law prog 275 zKw:=by
 refine zAf (zAa zQt zAd) hmixA func275 rfl rfl (fun ⟨⟨s,c⟩,h⟩=>⟨zEy2 s c,by simp[f275],?_⟩);simp only[oCp] at h ⊢;have F:((1:Nat):Int)=1:=rfl;have E:=zQd h c
 cases s with
 | nil=>
  simp only[cutP] at E ⊢;try simp -dsimp only[go_sem,f275,E,yaI]
 | cons b t=>
  have h1:(1:Int)≤((t.length+1:Nat):Int):=by omega
  have hc:cutP c (b::t)=if b=c then (t,true) else (b::t,false):=rfl;have hx:(⟨(b::t).toArray⟩:ByteArray).extract 1 (t.length+1)=⟨t.toArray⟩:=by rw[zNz,List.take_of_length_le (by simp)];rfl
  by_cases e:b=c
  ·rw[hc,if_pos e] at E ⊢;try simp -dsimp only[go_sem,f275,E,yaH,zGl,F,h1,hx,Int.toNat_one,Int.toNat_natCast,Int.reduceLE]
  ·rw[hc,if_neg e] at E ⊢;try simp -dsimp only[go_sem,f275,E,yaI]
noncomputable def zNj:Ct:=fam true (fun x:SB=>([.c (.im (.str ⟨x.1.1.toArray⟩)),.c (.im (.str ⟨#[x.1.2]⟩))],[])) (fun x=>oCp x.1.1 x.1.2)
theorem zEg1 {s:Txt}(h:s.length≤2097152)(c:UInt8):zNj.run [.c (.im (.str ⟨s.toArray⟩)),.c (.im (.str ⟨#[c]⟩))] []=some (oCp s c):=
 zAc (ct:=zNj) rfl zLi1 ⟨(s,c),h⟩
theorem zFq1:Law prog 241 zNj:=by
 refine zAf (zAa zAw1 zAd) hmixA func241 rfl rfl (fun ⟨⟨s,c⟩,h⟩=>⟨zEy2 s c,by simp[f241],?_⟩);simp only[oCp] at h ⊢;have E:=zAi1 h c;simp only[oCp] at E;try simp -dsimp only[go_sem,f241,E]
theorem neg32 {r:Nat}(h:r<2147483648):Op.negFloat .f32 r=2147483648+r:=by
 have hx:Op.negFloat .f32 r=r ^^^ 2^ 31:=rfl
 have h1:2^ 31 |||r=2^ 31+r:=by
  have:=Nat.two_pow_add_eq_or_of_lt (i:=31) (b:=r) h 1;rw[Nat.mul_one] at this;exact this.symm
 have hb:r.testBit 31=false:=Nat.testBit_lt_two_pow h;rw[hx]
 have:r ^^^ 2^ 31=2^ 31+r:=by
  rw[←h1];apply Nat.eq_of_testBit_eq;intro i;rw[Nat.testBit_xor,Nat.testBit_or,Nat.testBit_two_pow];by_cases e:31=i
  ·subst e;simp[hb]
  ·simp[e]
 rw[this]
theorem zHg {x:Nat}(h:x<4294967296):Op.negFloat .f32 x<4294967296:=by
 have hx:Op.negFloat .f32 x=x ^^^ 2^ 31:=rfl;rw[hx];exact Nat.xor_lt_two_pow (n:=32) h (by decide)
theorem zPr1 {b r:Nat}(h:fconv .f64 b .f32=some r):r<4294967296:=by
 have F:qn .f32<4294967296:=by decide
 have E:∀d,FloatKind.f32.encode d<4294967296:=fun d=>single.write_lt d;unfold fconv at h;rw[if_neg (by decide)] at h;split at h
 ·injection h with h;subst h;exact F
 ·injection h with h;subst h;exact E _
 ·split at h
  ·cases h
  ·injection h with h;subst h;exact E _
theorem cKn (K:Nat→Prop)(t:Tag K):cK none K t=∀r,r<4294967296→K r:=by simp only[cK]
theorem zIy2 {w:Nat}(h:Fin32 w):fsT w=fmtT w:=by
 have hf:isFin w=true:=by have:=h.fin;simp only[isFin,yaG];omega
 simp[fsT,hf]
theorem zDo2 {s:Txt}(h:prsT s=none)(hs:s≠[]){x:Nat}(hx:x<4294967296):fsT x≠s:=by
 unfold fsT;split
 ·rename_i hf;refine zWv h ⟨hx,?_⟩;simp only[isFin,yaG] at hf;omega
 ·exact fun e=>hs e.symm
noncomputable def prsO (s:Txt):Nat×Bool:=match prsT s with
 | some w=>(w,true)
 | none=>(0,false)
noncomputable def oPs (s:Txt):Outs:=.one {val:=.tup [.c (.im (.flt .f32 (prsO s).1)),.c (.im (.bool (prsO s).2))]}
theorem zKx2 (s:Txt){sc:Bool}:∀res,(oPs s).mem res→OkR sc res:=okO ⟨.tup _ (by intro d hd;simp at hd;rcases hd with rfl|rfl<;>exact .inl ⟨_,rfl,zBr rfl⟩),by simp,by simp⟩
noncomputable def zJk:Ct:=fam true (fun s:S21=>([.c (.im (.str ⟨s.1.toArray⟩))],[])) (fun s=>oPs s.1)
theorem zWi {s:Txt}(h:s.length≤2097152):zJk.run [.c (.im (.str ⟨s.toArray⟩))] []=some (oPs s):=
 zAc (ct:=zJk) rfl zNt1 ⟨s,h⟩
theorem zDv2 {w:Nat}(h:Fin32 w):cutP 45 (fmtT w)=(magT (w%2147483648),decide (2147483648≤w)):=by
 unfold fmtT;by_cases hs:2147483648≤w
 ·simp[sgnT,hs,cutP]
 ·obtain ⟨c,t,e,hd⟩:=zXn h.fin;have hc:¬c=45:=fun e=>by subst e;unfold isDig at hd;revert hd;decide
  simp[sgnT,hs,e,cutP,hc]
theorem zDu2 (c:UInt8)(s:Txt):(cutP c s).1.length≤s.length:=by
 cases s with
 | nil=>simp[cutP]
 | cons b t=>simp only[cutP];split<;>simp
theorem zYl1 (s:Txt)(c:UInt8):(Lib.cut s [c]).1.length≤s.length∧(Lib.cut s [c]).2.1.length≤s.length:=by
 by_cases hm:c∈s
 ·obtain ⟨a,b,rfl,hn⟩:=zGc1 hm;rw[zPz1 hn];simp;omega
 ·rw[zGm1 hm];simp
abbrev N32:={x:Nat//x<4294967296}
abbrev P32:={p:Pt//p.1<4294967296∧p.2<4294967296}
theorem fop32 (op:BinOp)(x y:Nat):fop op .f32 x y<4294967296:=by
 have E:∀o:Option Datum,((o.map single.write).getD (qn .f32))<4294967296:=fun o=>by
  cases o with
  | none=>decide
  | some d=>exact single.write_lt d
 unfold fop fraw
 cases op<;>first|exact E _|exact (show (0:Nat)<4294967296 by decide)
theorem nr32 (n:Int):FloatKind.f32.nearest n<4294967296:=by
 have hw:∀d,FloatKind.f32.encode d<4294967296:=fun d=>single.write_lt d;unfold FloatKind.nearest;exact hw _
theorem narrow32 (o x:Nat):narrow o x<4294967296:=by
 unfold narrow
 cases h:fconv .f64 x .f32 with
 | some r=>exact zPr1 h
 | none=>exact Nat.mod_lt _ (by decide)
theorem wI32 (n:Int):wI n<4294967296:=nr32 n
def oNatU (l:List Int):Outs:=.any (N32×SK l) (fun q=>{val:=.c (.im (.flt .f32 q.1.1)),places:=hsK l q.2.1.1 q.2.1.2})
theorem zIs (l:List Int):Nonempty (N32×SK l)=True:=by simp only[eq_iff_iff,iff_true];exact⟨(⟨0,by decide⟩,⟨(0,0),by simp⟩)⟩
noncomputable def ctNatU:Ct:=fam false (fun x:AKn=>([.c (.ptr 0 0 0 0)],hsK x.l x.a x.h)) (fun x=>oNatU x.l)
theorem runNatU {l:List Int}{a h:Int}(h1:l.length≤1048576)(h2:∀b∈l,0≤b∧b<256)(h3:0≤a)(h4:a≤l.length):ctNatU.run [.c (.ptr 0 0 0 0)] [[.t (.im (.sl 1 (rowsB l))),.t (.im (.int .i64 a)),.t (.im (.int .i64 h))]]=some (oNatU l):=by
 refine zAc (ct:=ctNatU) rfl (fun x y h=>?_) ⟨l,h1,h2,a,h,h3,h4⟩;simp only[Prod.mk.injEq,true_and] at h;exact zEa (zDy h)
theorem zSk:Law prog 135 ctNatU:=by
 refine zAf (zAa zBf zAd) hmixA func135 rfl rfl (fun ⟨l,h1,h2,a,h,h3,h4⟩=>⟨okA (fun o=>okK (n:=0) okDi),by simp[f135],?_⟩);simp only[oNatU,hsK];try simp -dsimp only[go_sem,f135,zAl h1 h2 h3 h4 (n:=12) (by decide) (by decide),oBelow,hsK,zAy l (n:=12) (by decide)]
 rintro ⟨⟨v,⟨⟨a1,E⟩,F⟩⟩,G,v2⟩;try simp -dsimp only[go_sem]
 repeat' ((first|(with_reducible refine gS_d ?_ ?_)|(with_reducible refine zQx ?_ ?_)|(with_reducible refine gS_i ?_ ?_))<;>intro J<;>(try simp -dsimp (maxSteps:=1000000) only[go_sem,yaj,f135,hsK, *]))
 all_goals refine⟨(⟨_,?_⟩,⟨(a1,E),F⟩),rfl,rfl⟩
 all_goals (first|exact fop32 _ _ _|exact nr32 _|decide|exact zHg (by decide))
theorem zMx1:Law prog 138 ctNatU:=by
 refine zAf (zAa zBf zAd) hmixA func138 rfl rfl (fun ⟨l,h1,h2,a,h,h3,h4⟩=>⟨okA (fun o=>okK (n:=0) okDi),by simp[f138],?_⟩);simp only[oNatU,hsK];try simp -dsimp only[go_sem,f138,zAl h1 h2 h3 h4 (n:=3) (by decide) (by decide),oBelow,hsK,zAy l (n:=3) (by decide)]
 rintro ⟨⟨v,⟨⟨a1,k1⟩,G⟩⟩,v1,v2⟩;by_cases e0:v=0
 ·have E:=eq_true e0;try simp -dsimp only[go_sem,f138,E,zAl h1 h2 G.1 G.2 (n:=65) (by decide) (by decide),oBelow,hsK,zAy l (n:=65) (by decide)]
  rintro ⟨⟨u,⟨⟨a2,J⟩,U⟩⟩,Z,V⟩;try simp -dsimp only[go_sem]
  refine⟨(⟨_,?_⟩,⟨(a2,J),U⟩),rfl,rfl⟩
  (first|exact fop32 _ _ _|exact nr32 _|decide|exact zHg (by decide))
 have E:=eq_false e0;by_cases e1:v=1
 ·have F:=eq_true e1;try simp -dsimp only[go_sem,f138,E,F,zAl h1 h2 G.1 G.2 (n:=2000001) (by decide) (by decide),oBelow,hsK,zAy l (n:=2000001) (by decide)]
  rintro ⟨⟨u,⟨⟨a2,J⟩,U⟩⟩,Z,V⟩;try simp -dsimp only[go_sem]
  refine⟨(⟨_,?_⟩,⟨(a2,J),U⟩),rfl,rfl⟩
  (first|exact fop32 _ _ _|exact nr32 _|decide|exact zHg (by decide))
 have F:=eq_false e1;try simp -dsimp only[go_sem,f138,E,F,zAl h1 h2 G.1 G.2 (n:=9) (by decide) (by decide),oBelow,hsK,zAy l (n:=9) (by decide)]
 rintro ⟨⟨u,⟨⟨a2,J⟩,U⟩⟩,Z,V⟩;try simp -dsimp only[go_sem]
 refine⟨(⟨_,?_⟩,⟨(a2,J),U⟩),rfl,rfl⟩
 (first|exact fop32 _ _ _|exact nr32 _|decide|exact zHg (by decide))
def rFSU (q:N32×Bool):Res:={val:=.tup [.c (.im (.flt .f32 q.1.1)),.c (.im (.bool q.2))]}
def oFSU:Outs:=.any (N32×Bool) (fun q=>rFSU q)
theorem zHs2 {sc:Bool}{q:N32×Bool}:OkR sc (rFSU q):=by
 refine⟨.tup _ (fun d hd=>?_),by simp[rFSU],by simp[rFSU]⟩;simp only[yac,yad,or_false] at hd;rcases hd with rfl|rfl<;>exact .inl ⟨_,rfl,zBr rfl⟩
noncomputable def zLd:Ct:=fam true (fun x:KR=>([.c (.im (.int .i64 x.1))],[])) (fun _=>oFSU)
theorem zAq1 {k:Int}(h1 : -4294967296≤k)(h2:k≤4294967296):zLd.run [.c (.im (.int .i64 k))] []=some oFSU:=zAc (ct:=zLd) rfl (by
 intro a b h
 simp only[Prod.mk.injEq,List.cons.injEq,D.c.injEq,C.im.injEq,I.int.injEq,true_and,and_true] at h
 (try simp only[yah])
 (try simp only[zAs,zAx] at h)
 simp_all) (⟨k,h1,h2⟩:KR)
theorem zLj2:Nonempty (N32×Bool)=True:=by simp only[eq_iff_iff,iff_true];exact⟨(⟨0,by decide⟩,true)⟩
theorem zBd1:Law prog 136 zLd:=by
 refine zAf (zAa zIu zAd) hmixA func136 rfl rfl (fun ⟨k,n1,n2⟩=>⟨okA (fun o=>zHs2),by simp[f136],?_⟩);simp only[oFSU,rFSU];by_cases a6 : -2139095039≤k∧k≤2139095039;rotate_left
 ·have hb:(decide (-2139095039≤k)&&decide (k≤2139095039))=false:=by simpa using fun h=>by omega
  try simp -dsimp only[go_sem,f136,zBx,hb]
  all_goals refine⟨(⟨_,?_⟩,_),rfl,rfl⟩
  all_goals (first|exact narrow32 _ _|exact zHg (narrow32 _ _)|exact fop32 _ _ _|decide)
 have hb:(decide (-2139095039≤k)&&decide (k≤2139095039))=true:=by simpa using a6
 obtain ⟨m,Z⟩:∃m,(if IntKind.i64.wrap (-k)>k then IntKind.i64.wrap (-k) else k)=m:=⟨_,rfl⟩;have b5:m≤4294967296∧0≤m:=by rw[←Z,zAi (by omega) (by omega)];split<;>omega
 try simp -dsimp only[go_sem,f136,zBx,hb]
 refine zAp (ι:={x:Int×Int//0≤x.1∧0≤x.2∧x.2*8388608+x.1≤4294967296}) (fun x=>⟨[(0,some (.c (.im (.int .i64 k)))),(4,some (.c (.im (.int .i64 x.1.1)))),(5,some (.c (.im (.int .i64 x.1.2))))],[],0⟩) (fun x=>x.1.1.toNat) ⟨(m,0),by simp only[];omega⟩ ⟨[],[],by ((simp only[go_sem,yai])<;>(try (simp -dsimp only[go_sem,yaj,yai,Z])))<;>simp<;>exact Z⟩ (fun ⟨⟨n,e⟩,q1,q2,q3⟩=>?_);simp only at q1 q2 q3 ⊢;by_cases hn:16777216≤n
 ·have E:=eq_true hn;have G:IntKind.i64.wrap (n-8388608)=n-8388608:=zAi (by omega) (by omega);have w2:IntKind.i64.wrap (e+1)=e+1:=zAi (by omega) (by omega);try simp -dsimp only[go_sem,E,G,w2]
  exact⟨⟨(n-8388608,e+1),by simp only[];omega⟩,by simp only[];omega,[],[],by (simp only[go_sem,yai])<;>simp⟩
 have E:=eq_false hn;obtain ⟨y0,V⟩:∃y,FloatKind.f64.nearest n=y:=⟨_,rfl⟩;try simp -dsimp only[go_sem,E,V]
 refine zAp (ι:=Nat×{i:Nat//i≤149}) (fun x=>⟨[(0,some (.c (.im (.int .i64 k)))),(5,some (.c (.im (.int .i64 e)))),(6,some (.c (.im (.flt .f64 x.1)))),(7,some (.c (.im (.int .i64 (x.2.1:Int)))))],[],0⟩) (fun x=>149-x.2.1) (y0,⟨0,by omega⟩) ⟨[],[],by ((simp only[go_sem,yai])<;>(try (simp -dsimp only[go_sem,yaj,yai])))<;>simp⟩ (fun ⟨y,⟨i,hi⟩⟩=>?_);simp only;by_cases b6:i<149
 ·have hI:(i:Int)<149:=by omega
  have G:IntKind.i64.wrap ((i:Int)+1)=(i:Int)+1:=zAi (by omega) (by omega);try simp -dsimp only[go_sem,hI,G]
  exact⟨(fop .quo .f64 y 4611686018427387904,⟨i+1,by omega⟩),by simp only[];omega,[],[],by ((simp only[go_sem,yai])<;>(try (simp -dsimp only[go_sem,yaj,yai])))<;>simp⟩
 have hI:¬((i:Int)<149):=by omega
 try simp -dsimp only[go_sem,hI]
 refine zAp (ι:=Nat×{e:Int//0≤e∧e≤4294967296}) (fun x=>⟨[(0,some (.c (.im (.int .i64 k)))),(5,some (.c (.im (.int .i64 x.2.1)))),(6,some (.c (.im (.flt .f64 x.1))))],[],0⟩) (fun x=>x.2.1.toNat) (y,⟨e,by omega⟩) ⟨[],[],by (simp only[go_sem,yai])<;>simp⟩ (fun ⟨z,⟨f,f1,f2⟩⟩=>?_);simp only;by_cases hf:0<f
 ·have U:=eq_true hf;have G:IntKind.i64.wrap (f-1)=f-1:=zAi (by omega) (by omega);try simp -dsimp only[go_sem,U,G]
  exact⟨(fop .mul .f64 z 4611686018427387904,⟨f-1,by omega⟩),by simp only[];omega,[],[],by (simp only[go_sem,yai])<;>simp⟩
 have U:=eq_false hf;by_cases J:k<0
 ·have F:=eq_true J;try simp -dsimp only[go_sem,f136,U,F,zRg]
  intro o;refine⟨(⟨_,?_⟩,_),rfl,rfl⟩
  (first|exact narrow32 _ _|exact zHg (narrow32 _ _)|exact fop32 _ _ _|decide)
 ·have F:=eq_false J;try simp -dsimp only[go_sem,f136,U,F,zRg]
  intro o;refine⟨(⟨_,?_⟩,_),rfl,rfl⟩
  (first|exact narrow32 _ _|exact zHg (narrow32 _ _)|exact fop32 _ _ _|decide)
theorem zCo1:Law prog 68 ctNatU:=by
 refine zAf (zAa zFc (zAa zSk (zAa zBf (zAa zSl (zAa zBd1 (zAa zMx1 zAd)))))) hmixA func68 rfl rfl (fun ⟨l,h1,h2,a,h,h3,h4⟩=>⟨okA (fun o=>okK (n:=0) okDi),by simp[f68],?_⟩);simp only[oNatU,hsK];try simp -dsimp only[go_sem,f68,zCu h1 h2 h3 h4 (n:=8) (by decide) (by decide),oOnce,hsK,zHz]
 rintro ⟨c1,⟨⟨a1,k1⟩,G⟩⟩
 cases c1 with
 | true=>
  try simp -dsimp only[go_sem,f68,runNatU h1 h2 G.1 G.2,oNatU,hsK,zIs]
  rintro ⟨⟨x,hx⟩,⟨⟨a2,U⟩,E⟩⟩;try simp -dsimp only[go_sem]
  exact⟨(⟨x,hx⟩,⟨(a2,U),E⟩),rfl,rfl⟩
 | false=>
  try simp -dsimp only[go_sem,zCu h1 h2 G.1 G.2 (n:=6) (by decide) (by decide),oOnce,hsK,zHz]
  rintro ⟨c2,⟨⟨a2,U⟩,E⟩⟩
  cases c2 with
  | false=>
   (try simp -dsimp only[go_sem,f68,runNatU h1 h2 E.1 E.2,oNatU,hsK,zIs]);rintro ⟨⟨x,hx⟩,⟨⟨a3,J⟩,F⟩⟩;(try simp -dsimp only[go_sem]);exact⟨(⟨x,hx⟩,⟨(a3,J),F⟩),rfl,rfl⟩
  | true=>
   (try simp -dsimp only[go_sem,zAl h1 h2 E.1 E.2 (n:=40) (by decide) (by decide),oBelow,hsK,zAy l (n:=40) (by decide)]);rintro ⟨⟨v,⟨⟨a3,J⟩,F⟩⟩,v1,v2⟩;simp only at v1 v2;have Z:IntKind.i64.wrap (v-20)=v-20:=zAi (by omega) (by omega);have ri:zKc.run [.c (.ptr 0 0 0 0),.c (.im (.sl 1 [[.int .i64 0],[.int .i64 8388608],[.int .i64 (-8388608)],[.int .i64 1065353216],[.int .i64 2139095019]]))] [[.t (.im (.sl 1 (rowsB l))),.t (.im (.int .i64 a3)),.t (.im (.int .i64 J))]]=some (oInt l pick5):=zHl (m:=pick5) h1 h2 F.1 F.2 (by decide) (by decide);(try simp -dsimp only[go_sem,Z,ri,zJp,oInt,hsK,zSe l (m:=pick5) (by decide)]);rintro ⟨⟨u,hu⟩,⟨⟨a4,k4⟩,b4⟩⟩;have b0:=zVb1 hu;have V:IntKind.i64.wrap (v-20+u)=v-20+u:=zAi (by omega) (by omega);(try simp -dsimp only[go_sem,f68,V,zAq1 (k:=v-20+u) (by omega) (by omega),oFSU,rFSU,zLj2]);rintro ⟨⟨x,hx⟩,ok⟩;(try simp -dsimp only[go_sem]);exact⟨(⟨x,hx⟩,⟨(a4,k4),b4⟩),rfl,rfl⟩
def oPtU (l:List Int):Outs:=.any (P32×SK l) (fun q=>{val:=.c (.im (.cpx .f32 q.1.1.1 q.1.1.2)),places:=hsK l q.2.1.1 q.2.1.2})
theorem zMg (l:List Int):Nonempty (P32×SK l)=True:=by simp only[eq_iff_iff,iff_true];exact⟨(⟨(0,0),by decide⟩,⟨(0,0),by simp⟩)⟩
noncomputable def zZh:Ct:=fam false (fun x:AKn=>([.c (.ptr 0 0 0 0)],hsK x.l x.a x.h)) (fun x=>oPtU x.l)
theorem zHk {l:List Int}{a h:Int}(h1:l.length≤1048576)(h2:∀b∈l,0≤b∧b<256)(h3:0≤a)(h4:a≤l.length):zZh.run [.c (.ptr 0 0 0 0)] [[.t (.im (.sl 1 (rowsB l))),.t (.im (.int .i64 a)),.t (.im (.int .i64 h))]]=some (oPtU l):=by
 refine zAc (ct:=zZh) rfl (fun x y h=>?_) ⟨l,h1,h2,a,h,h3,h4⟩;simp only[Prod.mk.injEq,true_and] at h;exact zEa (zDy h)
theorem zHm:Law prog 177 zZh:=by
 refine zAf (zAa zCo1 zAd) hmixA func177 rfl rfl (fun ⟨l,h1,h2,a,h,h3,h4⟩=>⟨okA (fun o=>okK (n:=0) okDi),by simp[f177],?_⟩);simp only[oPtU,hsK];try simp -dsimp only[go_sem,f177,runNatU h1 h2 h3 h4,oNatU,hsK,zIs]
 rintro ⟨⟨x,hx⟩,⟨⟨a1,U⟩,E⟩⟩;try simp -dsimp only[go_sem,f177,runNatU h1 h2 E.1 E.2,oNatU,hsK,zIs]
 rintro ⟨⟨y,G⟩,⟨⟨a2,F⟩,J⟩⟩;try simp -dsimp only[go_sem]
 exact⟨(⟨(x,y),hx,G⟩,⟨(a2,F),J⟩),rfl,rfl,rfl⟩
noncomputable def zSv:Ct:=fam false (fun x:AKn=>([.c (.ptr 0 0 0 0)],hsK x.l x.a x.h)) (fun x=>oPtU x.l)
theorem zVy {l:List Int}{a h:Int}(h1:l.length≤1048576)(h2:∀b∈l,0≤b∧b<256)(h3:0≤a)(h4:a≤l.length):zSv.run [.c (.ptr 0 0 0 0)] [[.t (.im (.sl 1 (rowsB l))),.t (.im (.int .i64 a)),.t (.im (.int .i64 h))]]=some (oPtU l):=by
 refine zAc (ct:=zSv) rfl (fun x y h=>?_) ⟨l,h1,h2,a,h,h3,h4⟩;simp only[Prod.mk.injEq,true_and] at h;exact zEa (zDy h)
theorem zMu1:Law prog 115 zSv:=by
 refine zAf (zAa zBf (zAa zHm zAd)) hmixA func115 rfl rfl (fun ⟨l,h1,h2,a,h,h3,h4⟩=>⟨okA (fun o=>okK (n:=0) okDi),by simp[f115],?_⟩);simp only[oPtU,hsK];try simp -dsimp only[go_sem,f115,zAl h1 h2 h3 h4 (n:=6) (by decide) (by decide),oBelow,hsK,zAy l (n:=6) (by decide)]
 rintro ⟨⟨v,⟨⟨a1,Z⟩,U⟩⟩,v1,v2⟩;by_cases e0:v=0
 ·have E:=eq_true e0;try simp -dsimp only[go_sem,f115,E]
  refine⟨(⟨(_,_),?_,?_⟩,⟨(a1,Z),U⟩),rfl,rfl,rfl⟩<;>first|assumption|exact fop32 _ _ _|exact nr32 _|decide
 have E:=eq_false e0;by_cases e1:v=1
 ·have F:=eq_true e1;try simp -dsimp only[go_sem,f115,E,F]
  refine⟨(⟨(_,_),?_,?_⟩,⟨(a1,Z),U⟩),rfl,rfl,rfl⟩<;>first|assumption|exact fop32 _ _ _|exact nr32 _|decide
 have F:=eq_false e1;by_cases e2:v=2
 ·have G:=eq_true e2;try simp -dsimp only[go_sem,f115,E,F,G]
  refine⟨(⟨(_,_),?_,?_⟩,⟨(a1,Z),U⟩),rfl,rfl,rfl⟩<;>first|assumption|exact fop32 _ _ _|exact nr32 _|decide
 have G:=eq_false e2;by_cases e3:v=3
 ·have J:=eq_true e3;try simp -dsimp only[go_sem,f115,E,F,G,J,zHk h1 h2 U.1 U.2,oPtU,zMg,hsK]
  rintro ⟨⟨⟨x,y⟩,hx,hy⟩,⟨⟨a2,k2⟩,V⟩⟩;try simp -dsimp only[go_sem]
  refine⟨(⟨(_,_),?_,?_⟩,⟨(a2,k2),V⟩),rfl,rfl,rfl⟩<;>first|assumption|exact fop32 _ _ _|exact nr32 _|decide
 have J:=eq_false e3;try simp -dsimp only[go_sem,E,F,G,J,zAl h1 h2 U.1 U.2 (n:=9) (by decide) (by decide),oBelow,hsK,zAy l (n:=9) (by decide)]
 rintro ⟨⟨u,⟨⟨a2,k2⟩,V⟩⟩,u1,u2⟩;try simp -dsimp only[go_sem,f115,zAl h1 h2 V.1 V.2 (n:=9) (by decide) (by decide),oBelow,hsK,zAy l (n:=9) (by decide)]
 rintro ⟨⟨w,⟨⟨a3,k3⟩,b3⟩⟩,w1,w2⟩;try simp -dsimp only[go_sem]
 refine⟨(⟨(_,_),?_,?_⟩,⟨(a3,k3),b3⟩),rfl,rfl,rfl⟩<;>first|assumption|exact fop32 _ _ _|exact nr32 _|decide
def TbW (pts:List Pt)(lab:List Int):Prop:=(∀p∈pts,p.1<4294967296∧p.2<4294967296)∧∀x∈lab,i64B x
theorem zLg:TbW [] []:=⟨by simp,by simp⟩
theorem zZd1 {pts:List Pt}{lab:List Int}(h:TbW pts lab){n:Int}(hn:i64B n)(K:Nat):TbW pts (lab.set K n):=⟨h.1,fun x hx=>by
 rcases List.mem_or_eq_of_mem_set hx with h'|rfl
 ·exact h.2 x h'
 ·exact hn⟩
theorem zZe1 {pts:List Pt}{lab:List Int}(h:TbW pts lab){u v:Nat}(hu:u<4294967296)(hv:v<4294967296){n:Int}(hn:i64B n):TbW (pts++[(u,v)]) (lab++[n]):=by
 refine⟨fun p E=>?_,fun x hx=>?_⟩
 ·rcases List.mem_append.1 E with h'|h'
  ·exact h.1 p h'
  ·rw[List.mem_singleton.1 h'];exact⟨hu,hv⟩
 ·rcases List.mem_append.1 hx with h'|h'
  ·exact h.2 x h'
  ·rw[List.mem_singleton.1 h'];exact hn
theorem zFh2 {S:Nat}(h:S≤3):TbW (gridP S (S*S)) (gridN (S*S)):=by
 refine⟨fun p E=>?_,fun x hx=>?_⟩
 · simp only[gridP,List.mem_map] at E;obtain ⟨j,_,rfl⟩:=E;exact⟨nr32 _,nr32 _⟩
 · simp only[gridN,List.mem_map,List.mem_range] at hx;obtain ⟨j,hj,rfl⟩:=hx
   have:S*S≤9:=by
     calc S*S≤3*3:=Nat.mul_le_mul h h
       _=9:=rfl
   exact⟨by omega,by omega⟩
abbrev I64u:={n:Int//i64B n}
abbrev QTabU:={t:List Pt×List Int//isTableF t.1 t.2=true∧TbW t.1 t.2}
def oPutU:Outs:=.any (QTabU×Bool) (fun q=>rTO (q.1.1,q.2))
theorem zIa2:Nonempty (QTabU×Bool)=True:=by simp only[eq_iff_iff,iff_true];exact⟨(⟨([],[]),zLr,zLg⟩,true)⟩
noncomputable def zNc:Ct:=fam false (fun x:QTabU×P32×I64u=>([.agg [.im (.sl 1 (rowsZ x.1.1.1)),.im (.sl 1 (rowsN x.1.1.2))],.c (.im (.cpx .f32 x.2.1.1.1 x.2.1.1.2)),.c (.im (.int .i64 x.2.2.1))],[])) (fun _=>oPutU)
theorem zDw1 {pts:List Pt}{lab:List Int}(h:isTableF pts lab=true)(hW:TbW pts lab){u v:Nat}(hu:u<4294967296)(hv:v<4294967296){n:Int}(hn:i64B n):zNc.run [.agg [.im (.sl 1 (rowsZ pts)),.im (.sl 1 (rowsN lab))],.c (.im (.cpx .f32 u v)),.c (.im (.int .i64 n))] []=some oPutU:=
 zHd (ct:=zNc) rfl (fun _ _ _=>rfl) (⟨(pts,lab),h,hW⟩,⟨(u,v),hu,hv⟩,⟨n,hn⟩)
theorem zFg1:Law prog 194 zNc:=by
 refine zAw (zAa zIt (zAa zNv (zAa zPg1 zAd))) hmixA func194 rfl rfl (fun ⟨⟨⟨pts,lab⟩,hT,hW⟩,⟨⟨u,v⟩,hu,hv⟩,⟨n,hn⟩⟩=>⟨okA (fun o=>zEv2),by simp[f194],?_⟩);simp only at hT hW hu hv;obtain ⟨e1,e2⟩:=zEn hT;have h1:pts.length≤sm:=by have:sm=16777216:=rfl;omega
 have h2:lab.length≤sm:=by have:sm=16777216:=rfl;omega
 simp only[oPutU,rTO];by_cases hi:0≤idxF (eqPt · (u,v)) pts 0
 ·obtain ⟨K,hK⟩:=Int.eq_ofNat_of_zero_le hi;have d1:K<pts.length:=by have:=zNg1 (eqPt · (u,v)) pts 0;rw[hK] at this;omega
  obtain ⟨q,hq⟩:∃q,lab[K]?=some q:=⟨_,List.getElem?_eq_getElem (by omega)⟩;have b1:(tI (rowsN lab))[K]?=some [T.im (.int .i64 q)]:=zPn (zEx hq);have b0:(tI (rowsN lab)).set K [T.im (.int .i64 n)]=tI (rowsN (lab.set K n)):=by simp[tI,rowsN,List.map_set]
  have b8:0≤(K:Int):=by simp
  have b7:(K:Int)<(lab.length:Int):=by omega
  have U:mapO (mapO imT) (tI (rowsZ pts))=some (rowsZ pts):=zCb _;have V:mapO (mapO imT) (tI (rowsN (lab.set K n)))=some (rowsN (lab.set K n)):=zCb _;try simp -dsimp only[go_sem,f194,zBq h1 h2,hT,zCn h1 h2,rTb,zNr h1 h2,hK,b8,b7,b1,b0,zHj,zEd,zRo,Int.toNat_natCast]
  refine zAh [.frz 2 [.b 1 0 0],.frz 3 [.b 1 0 1]] ?_;simp -dsimp only[go_sem,U,V,zAg,zAb,zAe,yaD];exact⟨(⟨(pts,lab.set K n),zHm1 hT (by simp),zZd1 hW hn K⟩,true),⟨rfl,rfl⟩,rfl⟩
 have b2:=eq_false hi;have F:(pts.length+1)*8≤140737488355328:=by omega
 have E:(lab.length+1)*8≤140737488355328:=by omega
 have J:tI (rowsZ pts)++[[T.im (.cpx .f32 u v)]]=tI (rowsZ (pts++[(u,v)])):=by simp[tI,rowsZ]
 have G:tI (rowsN lab)++[[T.im (.int .i64 n)]]=tI (rowsN (lab++[n])):=by simp[tI,rowsN]
 have U:mapO (mapO imT) (tI (rowsZ (pts++[(u,v)])))=some (rowsZ (pts++[(u,v)])):=zCb _;have V:mapO (mapO imT) (tI (rowsN (lab++[n])))=some (rowsN (lab++[n])):=zCb _;have b4:(pts++[(u,v)]).length≤sm:=by have:sm=16777216:=rfl;simp;omega
 have b3:(lab++[n]).length≤sm:=by have:sm=16777216:=rfl;simp;omega
 have lz:(tI (rowsZ (pts++[(u,v)]))).length=pts.length+1:=by simp[zAg,zAb]
 have ln:(tI (rowsN (lab++[n]))).length=lab.length+1:=by simp[zAg,zAe]
 have a7:List.take (pts.length+1) (tI (rowsZ (pts++[(u,v)])))=tI (rowsZ (pts++[(u,v)])):=List.take_of_length_le (by omega);have a8:List.take (lab.length+1) (tI (rowsN (lab++[n])))=tI (rowsN (lab++[n])):=List.take_of_length_le (by omega)
 cases Z:isTableF (pts++[(u,v)]) (lab++[n]) with
 | true=>
  try simp -dsimp only[go_sem,f194,zBq h1 h2,hT,zCn h1 h2,rTb,zNr h1 h2,b2,F,E,J,G,lz,ln,a7,a8,zBq b4 b3,Z,appendH,srcRows,List.take_succ_cons,yan,yao,yap,okT,yaq,zBj,zAg,zAb,zAe,zHj,zEd,zRo]
  refine zAh [.frz 6 [.b 1 0 0],.frz 8 [.b 1 0 1]] ?_;simp -dsimp only[go_sem,U,V,lz,ln];exact⟨(⟨(pts++[(u,v)],lab++[n]),Z,zZe1 hW hu hv hn⟩,true),⟨rfl,rfl⟩,rfl⟩
 | false=>
  try simp -dsimp only[go_sem,f194,zBq h1 h2,hT,zCn h1 h2,rTb,zNr h1 h2,b2,F,E,J,G,lz,ln,a7,a8,zBq b4 b3,Z,appendH,srcRows,List.take_succ_cons,yan,yao,yap,okT,yaq,zBj,zAg,zAb,zAe,zHj,zEd,zRo]
  refine zAh [.nilI 1 [.b 1 0 0,.b 1 0 1]] ?_;simp -dsimp only[go_sem];exact⟨(⟨([],[]),zLr,zLg⟩,false),⟨rfl,rfl⟩,rfl⟩
def oTabU (l:List Int):Outs:=.any (QTabU×SK l) (fun q=>{val:=.agg [.im (.sl 1 (rowsZ q.1.1.1)),.im (.sl 1 (rowsN q.1.1.2))],places:=hsK l q.2.1.1 q.2.1.2})
theorem zHw2 (l:List Int):Nonempty (QTabU×SK l)=True:=by simp only[eq_iff_iff,iff_true];exact⟨(⟨([],[]),zLr,zLg⟩,⟨(0,0),by simp⟩)⟩
noncomputable def zPc:Ct:=fam false (fun x:AKn=>([.c (.ptr 0 0 0 0)],hsK x.l x.a x.h)) (fun x=>oTabU x.l)
theorem zIj1 {l:List Int}{a h:Int}(h1:l.length≤1048576)(h2:∀b∈l,0≤b∧b<256)(h3:0≤a)(h4:a≤l.length):zPc.run [.c (.ptr 0 0 0 0)] [[.t (.im (.sl 1 (rowsB l))),.t (.im (.int .i64 a)),.t (.im (.int .i64 h))]]=some (oTabU l):=by
 refine zAc (ct:=zPc) rfl (fun x y h=>?_) ⟨l,h1,h2,a,h,h3,h4⟩;simp only[Prod.mk.injEq,true_and] at h;exact zEa (zDy h)
theorem zJo1:Law prog 120 zPc:=by
 refine zAw (zAa zFc (zAa zBf (zAa zFo1 (zAa zIb (zAa zHm (zAa zFg1 zAd)))))) hmixA func120 rfl rfl (fun ⟨l,h1,h2,a,h,h3,h4⟩=>⟨okA (fun o=>okK (n:=0) okAgg2),by simp[f120],?_⟩);simp only[oTabU,hsK];have h7:∀(a h:Int),0≤a→a≤l.length→zDf.run [.c (.ptr 0 0 0 0),.c (.im (.int .i64 7))] [[.t (.im (.sl 1 (rowsB l))),.t (.im (.int .i64 a)),.t (.im (.int .i64 h))]]=some (oBelow l 7):=fun a h q1 q2=>zAl h1 h2 q1 q2 (n:=7) (by decide) (by decide);try simp -dsimp only[go_sem,f120,zCu h1 h2 h3 h4 (n:=4) (by decide) (by decide),oOnce,hsK,zHz]
 rintro ⟨c1,⟨⟨a1,k1⟩,b1⟩⟩
 cases c1
 case' true=>
   (try simp -dsimp only[go_sem,zAl h1 h2 b1.1 b1.2 (n:=3) (by decide) (by decide),oBelow,hsK,zAy l (n:=3) (by decide)]);rintro ⟨⟨v,⟨⟨a2,k2⟩,b2⟩⟩,v1,v2⟩;simp only at v1 v2;obtain ⟨V,rfl⟩:=Int.eq_ofNat_of_zero_le v1;have hw:IntKind.i64.wrap (1+(V:Int))=((V+1:Nat):Int):=(by rw[zAi (by omega) (by omega)];omega);obtain ⟨E,J⟩:∃p,gridP (V+1) ((V+1)*(V+1))=p:=⟨_,rfl⟩;obtain ⟨F,Z⟩:∃p,gridN ((V+1)*(V+1))=p:=⟨_,rfl⟩;have d9:isTableF E F=true:=(by rw[←J,←Z];exact zPn1 (by omega) (by omega));have d7:TbW E F:=(by rw[←J,←Z];exact zFh2 (by omega));(try simp -dsimp only[go_sem,hw,zEd1 (n:=V+1) (by omega) (by omega),rTO,J,Z,hsK,h7 a2 k2 b2.1 b2.2,oBelow,zAy l (n:=7) (by decide)]);rintro ⟨⟨v7,⟨⟨a,k⟩,b⟩⟩,G,r2⟩;simp only at G r2 b;obtain ⟨N,rfl⟩:=Int.eq_ofNat_of_zero_le G;(try simp -dsimp only[go_sem]);have i0:∃x:(QTabU×SK l)×{n:Nat//n≤7},x=((⟨(E,F),d9,d7⟩,⟨(a,k),b⟩),⟨N,by omega⟩):=⟨_,rfl⟩;obtain ⟨i0,a6⟩:=i0
   refine zAp (ι:=(QTabU×SK l)×{n:Nat//n≤7}) (fun x=>⟨[(0,some (.c (.ptr 0 0 0 0))),(2,some (.c (.ptr 1 0 0 0))),(3,some (.c (.ptr 2 0 0 0))),(4,some (.c (.im (.int .i64 (x.2.1:Int)))))],
     [(0,some (.box [.t (.im (.sl 1 (rowsB l))),.t (.im (.int .i64 x.1.2.1.1)),.t (.im (.int .i64 x.1.2.1.2))])),(1,some (.box [.t .nil,.t .nil])),(2,some (.box [.t (.im (.sl 1 (rowsZ x.1.1.1.1))),.t (.im (.sl 1 (rowsN x.1.1.1.2)))]))],3⟩) (fun x=>x.2.1) i0 ⟨[],[0,1,2],by subst a6;(simp only[go_sem])<;>simp[lk,zAn]⟩ (fun ⟨⟨⟨⟨pts,lab⟩,hT,hW⟩,⟨⟨a,k⟩,b⟩⟩,⟨n,hn⟩⟩=>?_)
 case' false=>
   (try simp -dsimp only[go_sem,hsK,h7 a1 k1 b1.1 b1.2,oBelow,zAy l (n:=7) (by decide)]);rintro ⟨⟨v7,⟨⟨a,k⟩,b⟩⟩,G,r2⟩;simp only at G r2 b;obtain ⟨N,rfl⟩:=Int.eq_ofNat_of_zero_le G;(try simp -dsimp only[go_sem]);have i0:∃x:(QTabU×SK l)×{n:Nat//n≤7},x=((⟨([],[]),zLr,zLg⟩,⟨(a,k),b⟩),⟨N,by omega⟩):=⟨_,rfl⟩;obtain ⟨i0,a6⟩:=i0
   refine zAp (ι:=(QTabU×SK l)×{n:Nat//n≤7}) (fun x=>⟨[(0,some (.c (.ptr 0 0 0 0))),(2,some (.c (.ptr 1 0 0 0))),(3,some (.c (.ptr 2 0 0 0))),(4,some (.c (.im (.int .i64 (x.2.1:Int)))))],
     [(0,some (.box [.t (.im (.sl 1 (rowsB l))),.t (.im (.int .i64 x.1.2.1.1)),.t (.im (.int .i64 x.1.2.1.2))])),(1,some (.box [.t .nil,.t .nil])),(2,some (.box [.t (.im (.sl 1 (rowsZ x.1.1.1.1))),.t (.im (.sl 1 (rowsN x.1.1.1.2)))]))],3⟩) (fun x=>x.2.1) i0 ⟨[.nilI 1 [.b 2 0 0,.b 2 0 1]],[0,1,2],by subst a6;(simp only[go_sem,frzLs,frT,zAk,zAq])<;>simp[lk,zAn]⟩ (fun ⟨⟨⟨⟨pts,lab⟩,hT,hW⟩,⟨⟨a,k⟩,b⟩⟩,⟨n,hn⟩⟩=>?_)
 all_goals (
   simp only at hT hW b ⊢
   have h6:∀(a h:Int),0≤a→a≤l.length→zDf.run [.c (.ptr 0 0 0 0),.c (.im (.int .i64 6))] [[.t (.im (.sl 1 (rowsB l))),.t (.im (.int .i64 a)),.t (.im (.int .i64 h))]]=some (oBelow l 6):=fun a h q1 q2=>zAl h1 h2 q1 q2 (n:=6) (by decide) (by decide)
   match n with
   | 0=>
     have c0:((0:Nat):Int)=0:=rfl
     have d0:¬((0:Int)<0):=by simp
     try simp -dsimp only[go_sem,f120,c0,d0]
     refine zAh [] ?_
     simp -dsimp only[go_sem]
     exact⟨(⟨(pts,lab),hT,hW⟩,⟨(a,k),b⟩),rfl,rfl,rfl⟩
   | n+1=>
     have d0:(0:Int)<((n+1:Nat):Int):=by omega
     have hk:IntKind.i64.wrap (((n+1:Nat):Int)-1)=(n:Int):=by rw[zAi (by omega) (by omega)];omega
     try simp -dsimp only[go_sem,d0,zEz h1 h2 b.1 b.2,oSmall,hsK,zKp]
     rintro ⟨⟨⟨u,v⟩,⟨⟨a2,k2⟩,b2⟩⟩,u1,u2,v1,v2⟩
     obtain ⟨U,hU⟩:∃x,wI u=x:=⟨_,rfl⟩
     have hu:=wI32 u
     obtain ⟨V,hV⟩:∃x,wI v=x:=⟨_,rfl⟩
     have hv:=wI32 v
     rw[hU] at hu
     rw[hV] at hv
     try simp -dsimp only[go_sem,hU,hV,hsK,zCu h1 h2 b2.1 b2.2 (n:=6) (by decide) (by decide),oOnce,zHz]
     rintro ⟨c,⟨⟨a3,k3⟩,b3⟩⟩
     cases c
     case' false=>
       try simp -dsimp only[go_sem,hsK,h6 a3 k3 b3.1 b3.2,oBelow,zAy l (n:=6) (by decide)]
       with_reducible repeat' refine sl_i ?_
     case' true=>
       try simp -dsimp only[go_sem,hsK,zHk h1 h2 b3.1 b3.2,oPtU,zMg]
       rintro ⟨⟨⟨U,V⟩,hu,hv⟩,⟨⟨a3,k3⟩,b3⟩⟩
       try simp -dsimp only[go_sem,hsK,h6 a3 k3 b3.1 b3.2,oBelow,zAy l (n:=6) (by decide)]
       with_reducible repeat' refine sl_i ?_
     all_goals (
       rintro ⟨⟨v6,⟨⟨a4,k4⟩,b4⟩⟩,G,r2⟩
       simp only at G r2 b4
       have d5:IntKind.i64.wrap (v6-2)=v6-2:=zAi (by omega) (by omega)
       have d6:i64B (v6-2):=⟨by omega,by omega⟩
       try simp only at hu hv
       try simp -dsimp only[go_sem,d5,zDw1 hT hW hu hv d6,oPutU,rTO,zIa2]
       rintro ⟨⟨⟨b0,b5⟩,e0,d8⟩,ok⟩
       cases ok
       · skip
         try simp -dsimp only[go_sem,hk]
         with_reducible repeat' refine ro_i ?_
         exact⟨((⟨(pts,lab),hT,hW⟩,⟨(a4,k4),b4⟩),⟨n,by omega⟩),by simp only[];omega,[],[0,1,2],by (simp only[go_sem])<;>simp[lk,zAn]⟩
       · skip
         try simp -dsimp only[go_sem,hk]
         with_reducible repeat' refine ro_i ?_
         exact⟨((⟨(b0,b5),e0,d8⟩,⟨(a4,k4),b4⟩),⟨n,by omega⟩),by simp only[];omega,[],[0,1,2],by (simp only[go_sem])<;>simp[lk,zAn]⟩))
end Go.SX
